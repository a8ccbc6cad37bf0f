/- cash.May, cash.Add, where the program has no more of cash. -/
import Derived.Test.YtllblmoojohffaaLib
import Derived.Test.YtllblmoojohffaaCashMath
import Derived.Deep.QuietTactic
namespace Go.Proofs.Ytllblmoojohffaa
open Go.RowKit EvM

theorem may_any (v : Int) (w : World) : Calls Try.prog 62 #[.int .i64 v] w (Ret (.bool (mayM v)) w) := by
  by_cases h1 : -1000000000000000 ≤ v
  · by_cases h2 : v ≤ 1000000000000000
    · go_enter Try.func62, Try.ntmps62
      go_wp2
      go_ret
      simp [Ret, mayM, h1, h2]
    · go_enter Try.func62, Try.ntmps62
      go_wp2
      go_ret
      simp [Ret, mayM, h1, h2]
  · go_enter Try.func62, Try.ntmps62
    go_wp2
    go_ret
    simp [Ret, mayM]
    omega
theorem may_is {v : Int} {r : Bool} (h : mayM v = r) (w : World) : Calls Try.prog 62 #[.int .i64 v] w (Ret (.bool r) w) := by rw [← h]; exact may_any v w

/-- The sum of all, on from a sum; 5: it is beyond. -/
def addG (all : Int) : List Int → Int × Int
  | [] => (all, 0)
  | v :: l => if mayM v = true ∧ mayM (all + v) = true then addG (all + v) l else (0, 5)
theorem addG_step {all : Int} {xs : List Int} {k : Nat} (hk : k < xs.length) : addG all (xs.drop k) = if mayM (xs.getD k 0) = true ∧ mayM (all + xs.getD k 0) = true then addG (all + xs.getD k 0) (xs.drop (k + 1)) else (0, 5) := by
  rw [List.drop_eq_getElem_cons hk]
  simp [addG, List.getD, hk]
set_option maxHeartbeats 800000 in
theorem add_any (v : Value) (xs : List Int) (x e : Int) (hx : Hid (addG 0 xs = (x, e))) (hlen : xs.length ≤ 1000000) (w : World) (hv : Sl .i64 w v xs) :
    Calls Try.prog 72 #[v] w (RetB (.tuple #[.int .i64 x, .int .i64 e]) w) := by
  have HV := Lib.hid hv
  obtain ⟨ao, cap, rfl, h1, ⟨h2, _⟩, h3⟩ := hv
  clear h3
  unfold maxLen at h2
  go_enter Try.func72, Try.ntmps72
  go_wp2
  refine wp_scope_back 0 (fun a' w' => ∃ (u0 u1 u2 u3 u4 u5 u6 u7 u8 u9 u10 u11 u12 u13 u14 u15 u16 u17 u18 u19 u20 u21 u22 u23 : Value), a' = { tmps := #[u0, u1, u2, u3, u4, u5, u6, u7, u8, u9, u10, u11, u12, u13, u14, u15, u16, u17, u18, u19, u20, u21, u22, u23], defers := [] } ∧ Hid (x = 0 ∧ e = 5) ∧ Below w.heap.size w w')
    (fun _ _ => 0) rfl ?pass ?first
  case pass =>
    intro a1 w1 hJ J' hJ'
    clear hJ'
    obtain ⟨u0, hJ⟩ := hJ
    obtain ⟨u1, hJ⟩ := hJ
    obtain ⟨u2, hJ⟩ := hJ
    obtain ⟨u3, hJ⟩ := hJ
    obtain ⟨u4, hJ⟩ := hJ
    obtain ⟨u5, hJ⟩ := hJ
    obtain ⟨u6, hJ⟩ := hJ
    obtain ⟨u7, hJ⟩ := hJ
    obtain ⟨u8, hJ⟩ := hJ
    obtain ⟨u9, hJ⟩ := hJ
    obtain ⟨u10, hJ⟩ := hJ
    obtain ⟨u11, hJ⟩ := hJ
    obtain ⟨u12, hJ⟩ := hJ
    obtain ⟨u13, hJ⟩ := hJ
    obtain ⟨u14, hJ⟩ := hJ
    obtain ⟨u15, hJ⟩ := hJ
    obtain ⟨u16, hJ⟩ := hJ
    obtain ⟨u17, hJ⟩ := hJ
    obtain ⟨u18, hJ⟩ := hJ
    obtain ⟨u19, hJ⟩ := hJ
    obtain ⟨u20, hJ⟩ := hJ
    obtain ⟨u21, hJ⟩ := hJ
    obtain ⟨u22, hJ⟩ := hJ
    obtain ⟨u23, hJ⟩ := hJ
    obtain ⟨rfl, hqb, hb⟩ := hJ
    go_wp2
    simp only [Exit.jump]
    go_ret2
    rw [hqb.out.1, hqb.out.2]
    exact ⟨rfl, hb⟩
  case first =>
    intro J' hJJ hrest
    have HJ := Lib.hid hJJ
    clear hJJ hrest
    go_wp2_with fail
    go_loopg [4, 9] xs.length (fun g a i wr => ∃ (k : Nat) (all : Int), k + g = xs.length ∧ i = .int .i64 k ∧ a = .int .i64 all ∧ Hid (addG all (xs.drop k) = (x, e)) ∧ Hid (-1000000000000000 ≤ all ∧ all ≤ 1000000000000000) ∧ w = wr)
    case atStart => exact ⟨0, 0, by omega, rfl, rfl, hx, Lib.hid (by omega), rfl⟩
    case round =>
      obtain ⟨k, all, hkg, rfl, rfl, hA, hB, rfl⟩ := hrel
      cases gk with
      | zero =>
        have hlt : ¬ ((k : Int) < (xs.length : Int)) := by omega
        have HR : Hid (all = x ∧ 0 = e) := by
          have := hA.out
          rw [List.drop_of_length_le (by omega)] at this
          unfold addG at this
          injection this with t1 t2
          exact ⟨t1, t2⟩
        clear hA hB
        go_wp2
        simp only [Exit.jump]
        go_ret2
        rw [← HR.out.1, ← HR.out.2]
        exact ⟨rfl, Below.refl _ _⟩
      | succ g =>
        have hlt : (k : Int) < (xs.length : Int) := by omega
        obtain ⟨b, o, y, rfl, hcell, HX⟩ := HV.out.get (i := k) (by omega)
        have hst := addG_step (all := all) (xs := xs) (k := k) (by omega)
        rw [HX.out, hA.out] at hst
        have HST := Lib.hid hst
        clear hA hst
        cases hm : mayM y with
        | false =>
          have HR : Hid (x = 0 ∧ e = 5) := by
            have := HST.out
            rw [hm] at this
            simp at this
            exact this
          have HM := Lib.hid hm
          clear hm HST
          go_wp2_with fail
          refine (may_is HM.out _).mono ?_
          rintro e w1 ⟨rfl, rfl⟩
          go_wp2
          go_step3
          exact ⟨rfl, HJ.out _ _ ⟨_, _, _, _, _, _, _, _, _, _, _, _, _, _, _, _, _, _, _, _, _, _, _, _, rfl, HR, Below.refl _ _⟩⟩
        | true =>
          have hy := mayM_iff.1 hm
          have hall := hB.out
          have hwr : wrap64 (all + y) = all + y := by unfold wrap64; omega
          obtain ⟨s, hs⟩ : ∃ s, all + y = s := ⟨_, rfl⟩
          rw [hs] at hwr
          have hwr2 : wrap64 s = s := by rw [← hs]; unfold wrap64; omega
          have hwr3 : wrap64 (all + y) = s := by rw [hs]; exact hwr2
          have HS := Lib.hid hs
          rw [hs] at HST
          have HM := Lib.hid hm
          cases hm2 : mayM s with
          | false =>
            have HR : Hid (x = 0 ∧ e = 5) := by
              have := HST.out
              rw [hm2] at this
              simp at this
              exact this
            have HM2 := Lib.hid hm2
            clear hm hm2 HST hy hall hs hwr
            go_wp2_with fail
            refine (may_is HM.out _).mono ?_
            rintro e w1 ⟨rfl, rfl⟩
            go_wp2_with fail
            refine (may_is HM2.out _).mono ?_
            rintro e w1 ⟨rfl, rfl⟩
            go_wp2
            go_step3
            exact ⟨rfl, HJ.out _ _ ⟨_, _, _, _, _, _, _, _, _, _, _, _, _, _, _, _, _, _, _, _, _, _, _, _, rfl, HR, Below.refl _ _⟩⟩
          | true =>
            have HR : Hid (addG s (xs.drop (k + 1)) = (x, e)) := by
              have := HST.out
              rw [if_pos ⟨hm, hm2⟩] at this
              exact this.symm
            have hs2 := mayM_iff.1 hm2
            have HM2 := Lib.hid hm2
            have HS2 := Lib.hid hs2
            clear hm hm2 HST hy hall hs hwr hs2
            go_wp2_with fail
            refine (may_is HM.out _).mono ?_
            rintro e w1 ⟨rfl, rfl⟩
            go_wp2_with fail
            refine (may_is HM2.out _).mono ?_
            rintro e w1 ⟨rfl, rfl⟩
            go_wp2
            go_roundg g
            case measure => omega
            case rel => exact ⟨k + 1, s, by omega, by go_num, rfl, HR, HS2, rfl⟩

end Go.Proofs.Ytllblmoojohffaa

/- lombardlaw09.RankEach, by rising rates: each number stands there once; of two that stand behind each other none stands wrong. -/
import Derived.Test.YtfikdnmbnbkchaaRankLaws
import Derived.Test.YtfikdnmbnbkchaaLaw09
import Derived.Test.YtfikdnmbnbkchaaInI
import Derived.Deep.QuietTactic
import Derived.BigQuiet
import Derived.Deep.CutRange
namespace Go.Proofs.Ytfikdnmbnbkchaa
open Go.RowKit

theorem nextLow {xs : List Int} {j : Nat} (hj : j + 1 < xs.length) {y z : Int} (hy : (rankL ltLow xs xs.length).getD j 0 = y) (hz : (rankL ltLow xs xs.length).getD (j + 1) 0 = z) :
    decide (val xs z < val xs y) = false ∧ (val xs y = val xs z → y < z) := by
  have hl := rankL_length ltLow xs xs.length
  have := (List.pairwise_iff_getElem.1 (rankL_pairwise low_asym low_ntr xs xs.length)) j (j + 1) (by omega) (by omega) (by omega)
  have e1 : (rankL ltLow xs xs.length)[j]'(by omega) = y := by rw [← hy]; simp [List.getD, hl, show j < xs.length by omega]
  have e2 : (rankL ltLow xs xs.length)[j + 1]'(by omega) = z := by rw [← hz]; simp [List.getD, hl, hj]
  rw [e1, e2] at this
  obtain ⟨h1, h2⟩ := this
  refine ⟨h1, fun e => ?_⟩
  rcases h2 with h | h
  · simp [ltLow, e] at h
  · exact h

set_option maxRecDepth 100000 in
set_option maxHeartbeats 800000 in
theorem rankEachLow_any (v : Value) (xs : List Int) (w : World) (hv : Sl .i64 w v xs) (hn : xs.length ≤ 100) : Calls Try.prog 4 #[v, .bool false] w (RetB (.bool true) w) := by
  have HV := Lib.hid hv
  obtain ⟨ao, cap, rfl, h1, ⟨h2, _⟩, h3⟩ := hv
  clear h3
  unfold maxLen at h2
  have hd : ¬ ((100 : Int) < (xs.length : Int)) := by omega
  go_enter Try.func4, Try.ntmps4
  go_wp2_with fail
  refine (low_any _ xs _ HV.out (by omega)).mono ?_
  rintro e w1 ⟨u1, rfl, hs1, hb1⟩
  have HS1 := Lib.hid hs1
  obtain ⟨ao1, cap1, rfl, hc1, ⟨hc2, _⟩, _⟩ := hs1
  rw [rankL_length] at HS1 hc1 ⊢
  unfold maxLen at hc2
  go_wp2_with fail
  refine (awake09_any _).mono ?_
  rintro e w2 ⟨rfl, hb2⟩
  have hne : ((xs.length : Int) != (xs.length : Int)) = false := by simp
  go_wp2_with fail
  clear hne
  have HS2 : Hid (Sl .i64 w2 (.slice ao1 xs.length cap1) (rankL ltLow xs xs.length)) := HS1.out.below hb2
  have HB2 : Hid (Below w.heap.size w w2) := (by repeat (first | exact Below.refl _ _ | refine bl_al ?_ _ | refine bl_dr ?_ | refine bl_dN ?_ _ | refine bl_tr ?_ (by assumption)))
  have HL := Lib.hid (rankL_length ltLow xs xs.length)
  go_loopg [6] xs.length (fun g i wr => ∃ k : Nat, k + g = xs.length ∧ i = .int .i64 k ∧ Below w2.heap.size w2 wr)
  case atStart => exact ⟨0, by omega, rfl, Below.refl _ _⟩
  case round =>
    obtain ⟨k, hkg, rfl, hb⟩ := hrel
    cases gk with
    | zero =>
      have hlt : ¬ ((k : Int) < (xs.length : Int)) := by omega
      go_wp2
      go_ret
      exact ⟨rfl, bl_tr HB2.out hb⟩
    | succ g =>
      have hlt : (k : Int) < (xs.length : Int) := by omega
      have hkn : k < xs.length := by omega
      obtain ⟨bL, oL, z, rfl, hcz, hz⟩ := (HS2.out.below hb).get (i := k) (by have := HL.out; omega)
      have hzr : 1 ≤ z ∧ z ≤ xs.length := by rw [← hz.out]; exact rankL_at (by omega)
      obtain ⟨m, rfl⟩ : ∃ m : Nat, z = (m : Int) + 1 := ⟨(z - 1).toNat, by omega⟩
      have hg1 : decide ((m : Int) + 1 < 1) = false := by simp; omega
      have hg2 : decide ((xs.length : Int) < (m : Int) + 1) = false := by simp; omega
      have hkc : k ≤ cap1 := by omega
      have hIn : ∀ W, Below w2.heap.size w2 W → Calls Try.prog 20 #[.slice (some ⟨bL, oL, none⟩) k cap1, .int .i64 ((m : Int) + 1)] W (Ret (.bool false) W) := fun W hW =>
        inI_any _ _ _ false (Lib.hid (by rw [← hz.out]; exact take_not_mem (rankL_nodup _ _ _) (by have := HL.out; omega))) _ ((HS2.out.below hW).lo (by omega))
      have HIN := Lib.hid hIn
      clear hIn
      cases k with
      | zero =>
        have hcz0 : wr.cell? ⟨bL, oL, none⟩ = some (.int .i64 ((m : Int) + 1)) := hcz
        clear hcz
        go_wp2_with fail
        go_quiet ((go_at_call 20; exact Calls.quiet_of_same ((HIN.out _ (bdN hb _)).mono fun _ _ h => ⟨h.1, h.2.symm⟩)))
        go_wp2_with fail
        go_roundg g
        case measure => omega
        case rel => exact ⟨1, by omega, rfl, bdN hb _⟩
      | succ j =>
        obtain ⟨bL', oL', y, e0, hcy, hy⟩ := (HS2.out.below hb).get (i := j) (by have := HL.out; omega)
        cases e0
        have hyr : 1 ≤ y ∧ y ≤ xs.length := by rw [← hy.out]; exact rankL_at (by omega)
        obtain ⟨m', rfl⟩ : ∃ m' : Nat, y = (m' : Int) + 1 := ⟨(y - 1).toNat, by omega⟩
        have HN := Lib.hid (nextLow hkn hy.out hz.out)
        have hbw := bl_tr HB2.out hb
        obtain ⟨b0, o0, x, rfl, hcx, hx⟩ := (HV.out.below hbw).get (i := m') (by omega)
        obtain ⟨b0', o0', x', e0, hcx', hx'⟩ := (HV.out.below hbw).get (i := m) (by omega)
        cases e0
        have ev : val xs ((m' : Int) + 1) = x := by unfold val; rw [← hx.out]; congr 1; omega
        have ev' : val xs ((m : Int) + 1) = x' := by unfold val; rw [← hx'.out]; congr 1; omega
        have HN2 : Hid (decide (x' < x) = false ∧ (x = x' → m' < m)) := by
          have := HN.out
          rw [ev, ev'] at this
          exact ⟨this.1, fun e => by have := this.2 e; omega⟩
        clear ev ev' HN hbw
        have hgk : (((j + 1 : Nat) : Int) == 0) = false := by simp; omega
        have hm : m < xs.length := by omega
        have hm' : m' < xs.length := by omega
        have hab := HN2.out.1
        by_cases he : x = x'
        · have hmm := HN2.out.2 he
          subst he
          have hab2 : (x == x) = true := by simp
          have hg3 : decide ((m : Int) + 1 < (m' : Int) + 1) = false := by simp; omega
          have hg4 : decide (m < m') = false := by simp; omega
          go_wp2_with fail
          go_quiet ((go_at_call 20; exact Calls.quiet_of_same ((HIN.out _ (bdN hb _)).mono fun _ _ h => ⟨h.1, h.2.symm⟩)))
          go_wp2_with fail
          go_quiet (fail)
          go_wp2_with fail
          go_quiet (fail)
          go_wp2_with fail
          go_roundg g
          case measure => omega
          case rel => exact ⟨j + 1 + 1, by omega, by go_num, by repeat (first | exact hb | apply bdN)⟩
        · have hab2 : (x == x') = false := by simpa using he
          have HE := Lib.hid he
          clear he
          go_wp2_with fail
          go_quiet ((go_at_call 20; exact Calls.quiet_of_same ((HIN.out _ (bdN hb _)).mono fun _ _ h => ⟨h.1, h.2.symm⟩)))
          go_wp2_with fail
          go_quiet (fail)
          go_wp2_with fail
          go_quiet (fail)
          go_wp2_with fail
          go_roundg g
          case measure => omega
          case rel => exact ⟨j + 1 + 1, by omega, by go_num, by repeat (first | exact hb | apply bdN)⟩
end Go.Proofs.Ytfikdnmbnbkchaa

/- pool.may, pool.Right: which positions are right. -/
import Derived.Test.YtllblmoojohffaaLib
namespace Go.Proofs.Ytllblmoojohffaa
open Go.RowKit

/-- From 0 to the bound. -/
def may0 (v : Int) : Bool := decide (0 ≤ v) && decide (v ≤ 1000000000000000)
theorem may0_iff {v : Int} : may0 v = true ↔ 0 ≤ v ∧ v ≤ 1000000000000000 := by simp [may0]
theorem poolMay_any (v : Int) (w : World) : Calls Try.prog 68 #[.int .i64 v] w (Ret (.bool (may0 v)) w) := by
  by_cases h1 : 0 ≤ v
  · by_cases h2 : v ≤ 1000000000000000
    · go_enter Try.func68, Try.ntmps68
      go_wp2
      go_ret
      simp [Ret, may0, h1, h2]
    · go_enter Try.func68, Try.ntmps68
      go_wp2
      go_ret
      simp [Ret, may0, h2]
  · go_enter Try.func68, Try.ntmps68
    go_wp2
    go_ret
    simp [Ret, may0]
    omega
theorem poolMay_is {v : Int} {r : Bool} (h : may0 v = r) (w : World) : Calls Try.prog 68 #[.int .i64 v] w (Ret (.bool r) w) := by rw [← h]; exact poolMay_any v w
/-- The sum of balances, on from a sum; none: a balance, or a sum, may not be. -/
def sumsB (all : Int) : List Int → Option Int
  | [] => some all
  | v :: l => if may0 v = true ∧ may0 (all + v) = true then sumsB (all + v) l else none
theorem sumsB_step {all : Int} {xs : List Int} {k : Nat} (hk : k < xs.length) : sumsB all (xs.drop k) = if may0 (xs.getD k 0) = true ∧ may0 (all + xs.getD k 0) = true then sumsB (all + xs.getD k 0) (xs.drop (k + 1)) else none := by
  rw [List.drop_eq_getElem_cons hk]
  simp [sumsB, List.getD, hk]
/-- Which positions are right. -/
def rightP (bs : List Int) (c d : Int) : Bool :=
  match sumsB 0 bs with
  | none => false
  | some all => decide (1 ≤ bs.length) && decide (bs.length ≤ 8) && may0 c && may0 d && (c == 0 || all == 0)
/-- The cells of a position that lies in a block. -/
def PB (w : World) (g : Nat) (v : Value) (c d : Int) : Prop := w.cell? ⟨g, 0, none⟩ = some v ∧ w.cell? ⟨g, 1, none⟩ = some (.int .i64 c) ∧ w.cell? ⟨g, 2, none⟩ = some (.int .i64 d)
theorem PB.below {w w' : World} {g : Nat} {v : Value} {c d : Int} (h : PB w g v c d) (hb : Below w.heap.size w w') : PB w' g v c d := by
  obtain ⟨h0, h1, h2⟩ := h
  have q : ∀ i x, w.cell? ⟨g, i, none⟩ = some x → w'.cell? ⟨g, i, none⟩ = some x := fun i x hx => (hb.cell (p := ⟨g, i, none⟩) (cell_block_lt hx)).trans hx
  exact ⟨q _ _ h0, q _ _ h1, q _ _ h2⟩
theorem PB.new (w : World) (e : TypeId) (v : Value) (c d : Int) : PB (w.alloc (.cells #[v, .int .i64 c, .int .i64 d] e)) w.heap.size v c d := by
  have h : Blk (w.alloc (.cells #[v, .int .i64 c, .int .i64 d] e)) w.heap.size e [v, .int .i64 c, .int .i64 d] := heap_alloc_new w _
  refine ⟨?_, ?_, ?_⟩ <;> (rw [h.cell]; rfl)

set_option maxHeartbeats 1600000 in
set_option maxRecDepth 100000 in
theorem poolRight_any (v : Value) (bs : List Int) (c d : Int) (r : Bool) (hr : Hid (rightP bs c d = r)) (hlen : bs.length ≤ 1000000) (w : World) (hv : Sl .i64 w v bs) :
    Calls Try.prog 66 #[.agg #[v, .int .i64 c, .int .i64 d]] w (RetB (.bool r) w) := by
  have HV := Lib.hid hv
  obtain ⟨ao, cap, rfl, h1, ⟨h2, _⟩, h3⟩ := hv
  clear h3
  unfold maxLen at h2
  have HP := Lib.hid (PB.new w 46 (.slice ao bs.length cap) c d)
  obtain ⟨p0, p1, p2⟩ := HP.out
  have hb0 : Below w.heap.size w (w.alloc (.cells #[.slice ao bs.length cap, .int .i64 c, .int .i64 d] 46)) := bl_al (Below.refl _ _) _
  have HSV := Lib.hid (HV.out.below hb0)
  clear HP HV
  go_enter Try.func66, Try.ntmps66
  go_wp2_with fail
  obtain ⟨W, hW, gp0, gp1, gp2, gb0, GSV⟩ : ∃ W, (w.alloc (.cells #[.slice ao bs.length cap, .int .i64 c, .int .i64 d] 46)) = W ∧ W.cell? ⟨w.heap.size, 0, none⟩ = some (.slice ao bs.length cap) ∧ W.cell? ⟨w.heap.size, 1, none⟩ = some (.int .i64 c) ∧ W.cell? ⟨w.heap.size, 2, none⟩ = some (.int .i64 d) ∧ Below w.heap.size w W ∧ Hid (Sl .i64 W (.slice ao bs.length cap) bs) := ⟨_, rfl, p0, p1, p2, hb0, HSV⟩
  with_reducible rw [hW]
  clear hW p0 p1 p2 hb0 HSV
  have hb0 := gb0
  have HSV := GSV
  go_loopg [3, 9] bs.length (fun g a i wr => ∃ (k : Nat) (all : Int), k + g = bs.length ∧ i = .int .i64 k ∧ a = .int .i64 all ∧ Hid (sumsB all (bs.drop k) = sumsB 0 bs) ∧ Hid (0 ≤ all ∧ all ≤ 1000000000000000) ∧ W = wr)
  case atStart => exact ⟨0, 0, by omega, rfl, rfl, rfl, Lib.hid (by omega), rfl⟩
  case round =>
    obtain ⟨k, all, hkg, rfl, rfl, hA, hB, rfl⟩ := hrel
    cases gk with
    | zero =>
      have hlt : ¬ ((k : Int) < (bs.length : Int)) := by omega
      have hs : sumsB 0 bs = some all := by
        rw [← hA.out, List.drop_of_length_le (by omega)]
        rfl
      have hr2 := hr.out
      unfold rightP at hr2
      rw [hs] at hr2
      have HR := Lib.hid hr2
      clear hr2 hs hA hr
      by_cases l1 : 1 ≤ bs.length
      · have d1 : decide ((1 : Int) ≤ (bs.length : Int)) = true := by simp; omega
        by_cases l2 : bs.length ≤ 8
        · have d2 : decide ((bs.length : Int) ≤ 8) = true := by simp; omega
          cases mc : may0 c with
          | false =>
            obtain rfl : false = r := by rw [← HR.out, mc]; simp
            have MC := Lib.hid mc
            clear mc HR
            go_wp2_with fail
            refine (poolMay_is MC.out _).mono ?_
            rintro _ w1 ⟨rfl, rfl⟩
            go_wp2
            go_ret
            exact ⟨rfl, hb0⟩
          | true =>
            have MC := Lib.hid mc
            cases md : may0 d with
            | false =>
              obtain rfl : false = r := by rw [← HR.out, md]; simp
              have MD := Lib.hid md
              clear mc md HR
              go_wp2_with fail
              refine (poolMay_is MC.out _).mono ?_
              rintro _ w1 ⟨rfl, rfl⟩
              go_wp2_with fail
              refine (poolMay_is MD.out _).mono ?_
              rintro _ w1 ⟨rfl, rfl⟩
              go_wp2
              go_ret
              exact ⟨rfl, hb0⟩
            | true =>
              have MD := Lib.hid md
              have HR2 : Hid ((c == 0 || all == 0) = r) := by show _ = _; rw [← HR.out, mc, md]; simp [l1, l2]
              clear mc md HR
              rcases (show (c == 0) = true ∨ ((c == 0) = false) by cases c == 0 <;> simp) with e0 | e0
              · obtain rfl : true = r := by rw [← HR2.out, e0]; rfl
                clear HR2
                go_wp2_with fail
                refine (poolMay_is MC.out _).mono ?_
                rintro _ w1 ⟨rfl, rfl⟩
                go_wp2_with fail
                refine (poolMay_is MD.out _).mono ?_
                rintro _ w1 ⟨rfl, rfl⟩
                go_wp2
                go_ret
                exact ⟨rfl, hb0⟩
              · have e1 : (all == 0) = r := by rw [← HR2.out, e0]; rfl
                clear HR2
                go_wp2_with fail
                refine (poolMay_is MC.out _).mono ?_
                rintro _ w1 ⟨rfl, rfl⟩
                go_wp2_with fail
                refine (poolMay_is MD.out _).mono ?_
                rintro _ w1 ⟨rfl, rfl⟩
                go_wp2
                go_ret
                first | exact ⟨rfl, hb0⟩ | (refine ⟨?_, hb0⟩; rw [← e1]; rfl)
        · have d2 : decide ((bs.length : Int) ≤ 8) = false := by simp; omega
          obtain rfl : false = r := by rw [← HR.out]; simp [l2]
          clear HR
          go_wp2
          go_ret
          exact ⟨rfl, hb0⟩
      · have d1 : decide ((1 : Int) ≤ (bs.length : Int)) = false := by simp; omega
        obtain rfl : false = r := by rw [← HR.out]; simp [l1]
        clear HR
        go_wp2
        go_ret
        exact ⟨rfl, hb0⟩
    | succ g =>
      have hlt : (k : Int) < (bs.length : Int) := by omega
      obtain ⟨b, o, y, rfl, hcell, HX⟩ := HSV.out.get (i := k) (by omega)
      have hst := sumsB_step (all := all) (xs := bs) (k := k) (by omega)
      rw [HX.out, hA.out] at hst
      have HST := Lib.hid hst
      clear hA hst
      have hno : sumsB 0 bs = none → false = r := fun h => by rw [← hr.out]; unfold rightP; rw [h]
      have HNO := Lib.hid hno
      clear hno
      cases hm : may0 y with
      | false =>
        obtain rfl : false = r := HNO.out (by rw [HST.out, hm]; simp)
        have HM := Lib.hid hm
        clear hm HST HNO
        go_wp2_with fail
        refine (poolMay_is HM.out _).mono ?_
        rintro _ w1 ⟨rfl, rfl⟩
        go_wp2
        go_ret
        exact ⟨rfl, hb0⟩
      | true =>
        have hy := may0_iff.1 hm
        have hall := hB.out
        obtain ⟨s, hs⟩ : ∃ s, all + y = s := ⟨_, rfl⟩
        have hwr2 : wrap64 s = s := by rw [← hs]; unfold wrap64; omega
        have hwr3 : wrap64 (all + y) = s := by rw [hs]; exact hwr2
        have HW3 := Lib.hid hwr3
        rw [hs] at HST
        have HM := Lib.hid hm
        cases hm2 : may0 s with
        | false =>
          obtain rfl : false = r := HNO.out (by rw [HST.out, hm2]; simp)
          have HM2 := Lib.hid hm2
          clear hm hm2 HST HNO hy hall hs
          go_wp2_with fail
          refine (poolMay_is HM.out _).mono ?_
          rintro _ w1 ⟨rfl, rfl⟩
          go_wp2_with fail
          refine (poolMay_is HM2.out _).mono ?_
          rintro _ w1 ⟨rfl, rfl⟩
          go_wp2
          go_ret
          exact ⟨rfl, hb0⟩
        | true =>
          have HR : Hid (sumsB s (bs.drop (k + 1)) = sumsB 0 bs) := by
            have := HST.out
            rw [if_pos ⟨hm, hm2⟩] at this
            exact this.symm
          have hs2 := may0_iff.1 hm2
          have HM2 := Lib.hid hm2
          have HS2 := Lib.hid hs2
          clear hm hm2 HST HNO hy hall hs hs2
          go_wp2_with fail
          refine (poolMay_is HM.out _).mono ?_
          rintro _ w1 ⟨rfl, rfl⟩
          go_wp2_with fail
          refine (poolMay_is HM2.out _).mono ?_
          rintro _ w1 ⟨rfl, rfl⟩
          go_wp2
          go_roundg g
          case measure => omega
          case rel => exact ⟨k + 1, s, by omega, by go_num, by first | rfl | exact congrArg (Value.int .i64) HW3.out, HR, HS2, rfl⟩
end Go.Proofs.Ytllblmoojohffaa

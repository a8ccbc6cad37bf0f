/- lombardref11.may, Right: which positions are right, as the document says it. -/
import Derived.Test.YtllblmoojohffaaPoolR
namespace Go.Proofs.Ytllblmoojohffaa
open Go.RowKit

theorem refMay11_any (v : Int) (w : World) : Calls Try.prog 52 #[.int .i64 v] w (Ret (.bool (may0 v)) w) := by
  by_cases h1 : 0 ≤ v
  · by_cases h2 : v ≤ 1000000000000000
    · go_enter Try.func52, Try.ntmps52
      go_wp2
      go_ret
      simp [Ret, may0, h1, h2]
    · go_enter Try.func52, Try.ntmps52
      go_wp2
      go_ret
      simp [Ret, may0, h2]
  · go_enter Try.func52, Try.ntmps52
    go_wp2
    go_ret
    simp [Ret, may0]
    omega
theorem refMay11_is {v : Int} {r : Bool} (h : may0 v = r) (w : World) : Calls Try.prog 52 #[.int .i64 v] w (Ret (.bool r) w) := by rw [← h]; exact refMay11_any v w
/-- The sum of the first k. -/
def sumK (bs : List Int) : Nat → Int
  | 0 => 0
  | k + 1 => sumK bs k + bs.getD k 0
theorem sumsB_all {bs : List Int} (n : Nat) (hn : n ≤ bs.length) (h : ∀ j, j < bs.length → may0 (bs.getD j 0) = true) (hs : may0 (sumK bs bs.length) = true) : 0 ≤ sumK bs n ∧ sumK bs n ≤ sumK bs bs.length ∧ sumsB (sumK bs n) (bs.drop n) = some (sumK bs bs.length) := by
  have mono : ∀ d m, m + d = bs.length → sumK bs m ≤ sumK bs bs.length := by
    intro d
    induction d with
    | zero => intro m hm; have : m = bs.length := by omega
              rw [this]; exact Int.le_refl _
    | succ d ih =>
      intro m hm
      have h1 := ih (m + 1) (by omega)
      have h2 := may0_iff.1 (h m (by omega))
      simp only [sumK] at h1
      omega
  have nn : ∀ m, m ≤ bs.length → 0 ≤ sumK bs m := by
    intro m
    induction m with
    | zero => intro _; exact Int.le_refl _
    | succ m ih =>
      intro hm
      have h1 := ih (by omega)
      have h2 := may0_iff.1 (h m (by omega))
      simp only [sumK]
      omega
  refine ⟨nn n hn, mono (bs.length - n) n (by omega), ?_⟩
  have key : ∀ d m, m + d = bs.length → sumsB (sumK bs m) (bs.drop m) = some (sumK bs bs.length) := by
    intro d
    induction d with
    | zero =>
      intro m hm
      have : m = bs.length := by omega
      rw [this, List.drop_of_length_le (Nat.le_refl _)]
      rfl
    | succ d ih =>
      intro m hm
      have hS := may0_iff.1 hs
      have h1 := nn (m + 1) (by omega)
      have h2 := mono d (m + 1) (by omega)
      rw [sumsB_step (by omega), if_pos ⟨h m (by omega), may0_iff.2 ⟨by simpa [sumK] using h1, by have h2' : sumK bs m + bs.getD m 0 ≤ sumK bs bs.length := h2; omega⟩⟩]
      exact ih (m + 1) (by omega)
  exact key (bs.length - n) n (by omega)
/-- Right, in the document's order. -/
def rightD (bs : List Int) (c d : Int) : Bool := (decide (1 ≤ bs.length) && decide (bs.length ≤ 8) && may0 c && may0 d) && (List.range bs.length).all (fun j => may0 (bs.getD j 0)) && (may0 (sumK bs bs.length) && (c == 0 || sumK bs bs.length == 0))
theorem rightD_eq (bs : List Int) (c d : Int) : rightD bs c d = rightP bs c d := by
  unfold rightD
  cases ha : (List.range bs.length).all (fun j => may0 (bs.getD j 0)) with
  | false =>
    have hs : sumsB 0 bs = none := by
      cases hs : sumsB 0 bs with
      | none => rfl
      | some s =>
        have : (List.range bs.length).all (fun j => may0 (bs.getD j 0)) = true := by
          rw [List.all_eq_true]
          intro j hj
          exact may0_iff.2 (sumsB_may hs j (by simpa using hj))
        rw [this] at ha
        cases ha
    unfold rightP
    rw [hs]
    simp
  | true =>
    rw [List.all_eq_true] at ha
    have h : ∀ j, j < bs.length → may0 (bs.getD j 0) = true := fun j hj => ha j (by simpa using hj)
    cases hm : may0 (sumK bs bs.length) with
    | true =>
      have := (sumsB_all 0 (Nat.zero_le _) h hm).2.2
      simp only [sumK, List.drop_zero] at this
      unfold rightP
      rw [this]
      simp
    | false =>
      have hs : sumsB 0 bs = none := by
        cases hs : sumsB 0 bs with
        | none => rfl
        | some s =>
          exfalso
          have e := sumsB_sum hs
          have hb : ∀ n, n ≤ bs.length → sumK bs n = (bs.take n).sum := by
            intro n
            induction n with
            | zero => intro _; simp [sumK]
            | succ n ih =>
              intro hn
              rw [sumK, ih (by omega), List.take_succ_eq_append_getElem (by omega), List.sum_append]
              simp [List.getD, show n < bs.length by omega]
          have hb2 := hb bs.length (Nat.le_refl _)
          rw [List.take_length] at hb2
          by_cases hne : bs = []
          · subst hne
            simp [sumK] at hm
            exact absurd hm (by decide)
          · have hg := sumsB_addG (by omega) hs
            have : may0 (sumK bs bs.length) = true := may0_iff.2 ⟨by rw [hb2]; omega, by have := hg.2.2 hne; rw [hb2]; omega⟩
            rw [this] at hm
            cases hm
      unfold rightP
      rw [hs]
      simp

set_option maxHeartbeats 1600000 in
set_option maxRecDepth 100000 in
theorem refRight11_any (v : Value) (bs : List Int) (c d : Int) (r : Bool) (hr : Hid (rightP bs c d = r)) (w : World) (hv : Sl .i64 w v bs) :
    Calls Try.prog 30 #[.agg #[v, .int .i64 c, .int .i64 d]] w (RetB (.bool r) w) := by
  have HV := Lib.hid hv
  have HR : Hid (rightD bs c d = r) := by show _ = _; rw [rightD_eq]; exact hr.out
  clear hr
  obtain ⟨ao, cap, rfl, h1, ⟨h2, _⟩, h3⟩ := hv
  clear h3
  unfold maxLen at h2
  have HP := Lib.hid (PB.new w 46 (.slice ao bs.length cap) c d)
  obtain ⟨p0, p1, p2⟩ := HP.out
  have hb0 : Below w.heap.size w (w.alloc (.cells #[.slice ao bs.length cap, .int .i64 c, .int .i64 d] 46)) := bl_al (Below.refl _ _) _
  have HSV := Lib.hid (HV.out.below hb0)
  clear HP HV
  by_cases l1 : 1 ≤ bs.length
  · by_cases l2 : bs.length ≤ 8
    · cases mc : may0 c with
      | false =>
        obtain rfl : false = r := by rw [← HR.out]; unfold rightD; rw [mc]; simp
        have d1 : decide ((bs.length : Int) < 1) = false := by simp; omega
        have d2 : decide ((8 : Int) < (bs.length : Int)) = false := by simp; omega
        have d3 : ¬ (bs.length : Int) < 1 := by omega
        have MC := Lib.hid mc
        clear mc HR
        go_enter Try.func30, Try.ntmps30
        go_wp2_with fail
        refine (refMay11_is MC.out _).mono ?_
        rintro _ w1 ⟨rfl, rfl⟩
        go_wp2
        go_ret
        exact ⟨rfl, hb0⟩
      | true =>
        cases md : may0 d with
        | false =>
          obtain rfl : false = r := by rw [← HR.out]; unfold rightD; rw [md]; simp
          have d1 : decide ((bs.length : Int) < 1) = false := by simp; omega
          have d2 : decide ((8 : Int) < (bs.length : Int)) = false := by simp; omega
          have d3 : ¬ (bs.length : Int) < 1 := by omega
          have MC := Lib.hid mc
          have MD := Lib.hid md
          clear mc md HR
          go_enter Try.func30, Try.ntmps30
          go_wp2_with fail
          refine (refMay11_is MC.out _).mono ?_
          rintro _ w1 ⟨rfl, rfl⟩
          go_wp2_with fail
          refine (refMay11_is MD.out _).mono ?_
          rintro _ w1 ⟨rfl, rfl⟩
          go_wp2
          go_ret
          exact ⟨rfl, hb0⟩
        | true =>
          have HR2 : Hid (((List.range bs.length).all (fun j => may0 (bs.getD j 0)) && (may0 (sumK bs bs.length) && (c == 0 || sumK bs bs.length == 0))) = r) := by
            show _ = _
            rw [← HR.out]
            unfold rightD
            rw [mc, md, decide_eq_true l1, decide_eq_true l2]
            simp
          have d1 : decide ((bs.length : Int) < 1) = false := by simp; omega
          have d2 : decide ((8 : Int) < (bs.length : Int)) = false := by simp; omega
          have d3 : ¬ (bs.length : Int) < 1 := by omega
          have MC := Lib.hid mc
          have MD := Lib.hid md
          have HL := Lib.hid (And.intro l1 l2)
          clear mc md HR l1
          go_enter Try.func30, Try.ntmps30
          go_wp2_with fail
          refine (refMay11_is MC.out _).mono ?_
          rintro _ w1 ⟨rfl, rfl⟩
          go_wp2_with fail
          refine (refMay11_is MD.out _).mono ?_
          rintro _ w1 ⟨rfl, rfl⟩
          go_wp2_with fail
          obtain ⟨W, hW, gp0, gp1, gp2, gb0, GSV⟩ : ∃ W, (w.alloc (.cells #[.slice ao bs.length cap, .int .i64 c, .int .i64 d] 46)) = W ∧ W.cell? ⟨w.heap.size, 0, none⟩ = some (.slice ao bs.length cap) ∧ W.cell? ⟨w.heap.size, 1, none⟩ = some (.int .i64 c) ∧ W.cell? ⟨w.heap.size, 2, none⟩ = some (.int .i64 d) ∧ Hid (Below w.heap.size w W) ∧ Hid (Sl .i64 W (.slice ao bs.length cap) bs) := ⟨_, rfl, p0, p1, p2, hb0, HSV⟩
          with_reducible rw [hW]
          clear hW p0 p1 p2 hb0 HSV d1 d2 d3
          go_loopg [3, 4] bs.length (fun g a i wr => ∃ (k : Nat) (all : Int), k + g = bs.length ∧ i = .int .i64 k ∧ a = .int .i64 all ∧ Hid (sumK bs k = all) ∧ Hid (0 ≤ all ∧ all ≤ 1000000000000000 * k) ∧ Hid (∀ j, j < k → may0 (bs.getD j 0) = true) ∧ W = wr)
          case atStart => exact ⟨0, 0, by omega, rfl, rfl, rfl, by show _ ∧ _; omega, fun j hj => absurd hj (by omega), rfl⟩
          case round =>
            obtain ⟨k, all, hkg, rfl, rfl, HA, HB, HM, rfl⟩ := hrel
            cases gk with
            | zero =>
              have hlt : ¬ ((k : Int) < (bs.length : Int)) := by omega
              have hk : k = bs.length := by omega
              have hall : (List.range bs.length).all (fun j => may0 (bs.getD j 0)) = true := by
                rw [List.all_eq_true]
                intro j hj
                exact HM.out j (by have : j < bs.length := by simpa using hj
                                   omega)
              have hr := HR2.out
              rw [hall, ← hk, HA.out, Bool.true_and] at hr
              have HRR := Lib.hid hr
              clear hr hall hk HR2 HM HA
              cases ms : may0 all with
              | false =>
                obtain rfl : false = r := by rw [← HRR.out, ms]; rfl
                have MS := Lib.hid ms
                clear ms HRR
                go_wp2_with fail
                refine (refMay11_is MS.out _).mono ?_
                rintro _ w1 ⟨rfl, rfl⟩
                go_wp2
                go_ret
                exact ⟨rfl, gb0.out⟩
              | true =>
                have h := HRR.out
                rw [ms, Bool.true_and] at h
                have MS := Lib.hid ms
                clear ms HRR
                rcases (show (c == 0) = true ∨ ((c == 0) = false) by cases c == 0 <;> simp) with e0 | e0
                · obtain rfl : true = r := by rw [← h, e0]; rfl
                  clear h
                  go_wp2_with fail
                  refine (refMay11_is MS.out _).mono ?_
                  rintro _ w1 ⟨rfl, rfl⟩
                  go_wp2
                  go_ret
                  exact ⟨rfl, gb0.out⟩
                · rw [e0, Bool.false_or] at h
                  have H := Lib.hid h
                  clear h
                  go_wp2_with fail
                  refine (refMay11_is MS.out _).mono ?_
                  rintro _ w1 ⟨rfl, rfl⟩
                  go_wp2
                  go_ret
                  refine ⟨?_, gb0.out⟩
                  rw [← H.out]
                  rfl
            | succ g =>
              have hlt : (k : Int) < (bs.length : Int) := by omega
              obtain ⟨b, o, y, rfl, hcell, HX⟩ := GSV.out.get (i := k) (by omega)
              cases hm : may0 y with
              | false =>
                obtain rfl : false = r := by
                  rw [← HR2.out]
                  have : (List.range bs.length).all (fun j => may0 (bs.getD j 0)) = false := by
                    rw [List.all_eq_false]
                    exact ⟨k, by simp; omega, by rw [HX.out, hm]; simp⟩
                  rw [this]
                  rfl
                have HM2 := Lib.hid hm
                clear hm HR2
                go_wp2_with fail
                refine (refMay11_is HM2.out _).mono ?_
                rintro _ w1 ⟨rfl, rfl⟩
                go_wp2
                go_ret
                exact ⟨rfl, gb0.out⟩
              | true =>
                have hy := may0_iff.1 hm
                have hB := HB.out
                have hk8 : k < 8 := by have := HL.out.2; omega
                obtain ⟨s, hs⟩ : ∃ s, all + y = s := ⟨_, rfl⟩
                have HS : Hid (sumK bs (k + 1) = s) := by show _ = _; rw [sumK, HA.out, HX.out, hs]
                have HSB : Hid (0 ≤ s ∧ s ≤ 1000000000000000 * ((k + 1 : Nat) : Int)) := by show _ ∧ _; omega
                have HMK : Hid (∀ j, j < k + 1 → may0 (bs.getD j 0) = true) := fun j hj => by
                  by_cases e : j = k
                  · subst e; rw [HX.out]; exact hm
                  · exact HM.out j (by omega)
                have wS : wrap64 (all + y) = s := by rw [hs]; exact IntWalk.wrap64_in _ ⟨by omega, by omega⟩
                have WS := Lib.hid wS
                have HM2 := Lib.hid hm
                clear hm hy hB hk8 hs wS HM HA HB
                go_wp2_with fail
                refine (refMay11_is HM2.out _).mono ?_
                rintro _ w1 ⟨rfl, rfl⟩
                go_wp2
                go_roundg g
                case measure => omega
                case rel => exact ⟨k + 1, s, by omega, by go_num, by first | rfl | exact congrArg (Value.int .i64) WS.out, HS, HSB, HMK, rfl⟩
    · have d1 : decide ((bs.length : Int) < 1) = false := by simp; omega
      have d2 : decide ((8 : Int) < (bs.length : Int)) = true := by simp; omega
      have d3 : ¬ (bs.length : Int) < 1 := by omega
      obtain rfl : false = r := by rw [← HR.out]; unfold rightD; rw [decide_eq_false l2]; simp
      clear HR
      go_enter Try.func30, Try.ntmps30
      go_wp2
      go_ret
      exact ⟨rfl, hb0⟩
  · have d1 : decide ((bs.length : Int) < 1) = true := by simp; omega
    have d3 : (bs.length : Int) < 1 := by omega
    obtain rfl : false = r := by rw [← HR.out]; unfold rightD; rw [decide_eq_false l1]; rfl
    clear HR
    go_enter Try.func30, Try.ntmps30
    go_wp2
    go_ret
    exact ⟨rfl, hb0⟩
end Go.Proofs.Ytllblmoojohffaa

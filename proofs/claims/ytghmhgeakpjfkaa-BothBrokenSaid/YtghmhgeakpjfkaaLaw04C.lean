/- BothBroken. -/
import Derived.Test.YtghmhgeakpjfkaaLaw04B
import Derived.Test.YtghmhgeakpjfkaaFlMathB
namespace Go.Proofs.Ytghmhgeakpjfkaa
open Go.RowKit FlM
attribute [local go_sem] run_store_complex run_store_float

theorem partsR_n1 {a b : Nat} (h : FlM.part a = none) : partsR a b = (0, 0, 4) := by
  unfold partsR
  rw [h]
theorem partsR_n2 {a b : Nat} (h : FlM.part b = none) : partsR a b = (0, 0, 4) := by
  unfold partsR
  rw [h]
  cases FlM.part a <;> rfl
theorem wholeP_n1 (c : Int) {a b : Nat} (h : FlM.part a = none) : wholeP (c, a, b) = false := by
  unfold wholeP
  dsimp only
  rw [h]
  rfl
theorem wholeP_n2 (c : Int) {a b : Nat} (h : FlM.part b = none) : wholeP (c, a, b) = false := by
  unfold wholeP
  dsimp only
  rw [h]
  simp
theorem all_one (p : Int × Nat × Nat) (h : wholeP p = false) : List.all [p] wholeP = false := by simp [h]
theorem all_two (p q : Int × Nat × Nat) (h : wholeP q = false) : List.all [p, q] wholeP = false := by simp [h]

set_option maxHeartbeats 1600000 in
set_option maxRecDepth 100000 in
theorem broken_0D (v what : Int) (V : Int) (nv n1 : Nat) (r : Nat) (hr : FlM.part r = none) (_k1 : IntKind.u64.wrap v % 999999999999999 = V) (_k2 : (IntKind.u64.wrap v).tmod 999999999999999 = V) (_k3 : wrap64 V = V) (_fv : floatOfInt .f64 V = nv) (HN1 : Hid (sideW 1 = n1)) (_w1 : IntKind.u64.wrap what % 4 = 0) (_w2 : (IntKind.u64.wrap what).tmod 4 = 0) (K : Int) (nk : Nat) (_q1 : V % 1000000 = K) (_q2 : V.tmod 1000000 = K) (_q3 : wrap64 K = K) (_fk : floatOfInt .f64 K = nk) (hop : floatBits .add .f64 nk 4602678819172646912 = some r) (w : World) :
    Calls Try.prog 5 #[.int .i64 v, .int .i64 what, .bool true] w (RetB (.bool true) w) := by
  have HP : Hid (partsR r 0 = (0, 0, 4)) := partsR_n1 hr
  have HNO2 : Hid (List.all [((0 : Int), n1, 0), (0, r, 0)] wholeP = false) := all_two _ _ (wholeP_n1 0 hr)
  have HNO1 : Hid (List.all [((1 : Int), r, 0)] wholeP = false) := all_one _ (wholeP_n1 1 hr)
  have HNO0 : Hid (List.all [((0 : Int), r, 0)] wholeP = false) := all_one _ (wholeP_n1 0 hr)
  clear hr
  have c1 := fun W => run_float_arith (P := Try.prog) W .add 22 .f64 _ _ r hop
  clear hop
  go_enter Try.func5, Try.ntmps5
  go_wp2_with fail
  all_goals
    refine (parts_any r 0 0 0 4 HP _).mono ?_
    rintro _ w1 ⟨rfl, rfl⟩
    go_wp2_with fail
    refine (debit_any 1 n1 HN1 _).mono ?_
    rintro _ w1 ⟨rfl, rfl⟩
    go_wp2_with fail
    refine (sumNo_any _ [(0, n1, 0), (0, r, 0)] HNO2 (by simp) _ (PoS.lit _ _ [(0, n1, 0), (0, r, 0)] 2 rfl _ rfl (by unfold maxLen; omega))).mono ?_
    rintro _ w2 ⟨rfl, hb2⟩
    go_wp2_with fail
    refine (ofNo_any 2 _ [(1, r, 0)] HNO1 (by simp) _ (PoS.lit _ _ [(1, r, 0)] 1 rfl _ rfl (by unfold maxLen; omega))).mono ?_
    rintro _ w3 ⟨rfl, hb3⟩
    go_wp2_with fail
    refine (awake4_any _).mono ?_
    rintro _ w4 ⟨rfl, hb4⟩
    go_wp2_with fail
    refine (balancedNo_any _ [(0, r, 0)] HNO0 (by simp) _ (PoS.lit _ _ [(0, r, 0)] 1 rfl _ rfl (by unfold maxLen; omega))).mono ?_
    rintro _ w5 ⟨rfl, hb5⟩
    have hbf : Below w.heap.size w w5 := (by repeat (first | with_reducible exact Below.refl _ _ | (with_reducible refine bl_sc ?_ ?hge; case hge => (first | exact Nat.le_refl _ | omega)) | with_reducible refine bl_al ?_ _ | with_reducible refine bl_dr ?_ | with_reducible refine bl_dN ?_ _ | (refine bl_tr ?_ (by assumption)) | (refine bl_gr ?_ (by assumption) (by first | exact Nat.le_refl _ | omega)) | exact Below.refl _ _ | refine bl_al ?_ _ | refine bl_dr ?_ | refine bl_dN ?_ _))
    clear hb2 hb3 hb4 hb5
    go_wp2
    go_ret
    exact ⟨rfl, hbf⟩

set_option maxHeartbeats 1600000 in
set_option maxRecDepth 100000 in
theorem broken_0C (v what : Int) (V : Int) (nv n1 : Nat) (r : Nat) (hr : FlM.part r = none) (_k1 : IntKind.u64.wrap v % 999999999999999 = V) (_k2 : (IntKind.u64.wrap v).tmod 999999999999999 = V) (_k3 : wrap64 V = V) (_fv : floatOfInt .f64 V = nv) (HN1 : Hid (sideW 1 = n1)) (_w1 : IntKind.u64.wrap what % 4 = 0) (_w2 : (IntKind.u64.wrap what).tmod 4 = 0) (K : Int) (nk : Nat) (_q1 : V % 1000000 = K) (_q2 : V.tmod 1000000 = K) (_q3 : wrap64 K = K) (_fk : floatOfInt .f64 K = nk) (hop : floatBits .add .f64 nk 4602678819172646912 = some r) (w : World) :
    Calls Try.prog 5 #[.int .i64 v, .int .i64 what, .bool false] w (RetB (.bool true) w) := by
  have HP : Hid (partsR 0 r = (0, 0, 4)) := partsR_n2 hr
  have HNO2 : Hid (List.all [((0 : Int), n1, 0), (0, 0, r)] wholeP = false) := all_two _ _ (wholeP_n2 0 hr)
  have HNO1 : Hid (List.all [((1 : Int), 0, r)] wholeP = false) := all_one _ (wholeP_n2 1 hr)
  have HNO0 : Hid (List.all [((0 : Int), 0, r)] wholeP = false) := all_one _ (wholeP_n2 0 hr)
  clear hr
  have c1 := fun W => run_float_arith (P := Try.prog) W .add 22 .f64 _ _ r hop
  clear hop
  go_enter Try.func5, Try.ntmps5
  go_wp2_with fail
  all_goals
    refine (parts_any 0 r 0 0 4 HP _).mono ?_
    rintro _ w1 ⟨rfl, rfl⟩
    go_wp2_with fail
    refine (debit_any 1 n1 HN1 _).mono ?_
    rintro _ w1 ⟨rfl, rfl⟩
    go_wp2_with fail
    refine (sumNo_any _ [(0, n1, 0), (0, 0, r)] HNO2 (by simp) _ (PoS.lit _ _ [(0, n1, 0), (0, 0, r)] 2 rfl _ rfl (by unfold maxLen; omega))).mono ?_
    rintro _ w2 ⟨rfl, hb2⟩
    go_wp2_with fail
    refine (ofNo_any 2 _ [(1, 0, r)] HNO1 (by simp) _ (PoS.lit _ _ [(1, 0, r)] 1 rfl _ rfl (by unfold maxLen; omega))).mono ?_
    rintro _ w3 ⟨rfl, hb3⟩
    go_wp2_with fail
    refine (awake4_any _).mono ?_
    rintro _ w4 ⟨rfl, hb4⟩
    go_wp2_with fail
    refine (balancedNo_any _ [(0, 0, r)] HNO0 (by simp) _ (PoS.lit _ _ [(0, 0, r)] 1 rfl _ rfl (by unfold maxLen; omega))).mono ?_
    rintro _ w5 ⟨rfl, hb5⟩
    have hbf : Below w.heap.size w w5 := (by repeat (first | with_reducible exact Below.refl _ _ | (with_reducible refine bl_sc ?_ ?hge; case hge => (first | exact Nat.le_refl _ | omega)) | with_reducible refine bl_al ?_ _ | with_reducible refine bl_dr ?_ | with_reducible refine bl_dN ?_ _ | (refine bl_tr ?_ (by assumption)) | (refine bl_gr ?_ (by assumption) (by first | exact Nat.le_refl _ | omega)) | exact Below.refl _ _ | refine bl_al ?_ _ | refine bl_dr ?_ | refine bl_dN ?_ _))
    clear hb2 hb3 hb4 hb5
    go_wp2
    go_ret
    exact ⟨rfl, hbf⟩

set_option maxHeartbeats 1600000 in
set_option maxRecDepth 100000 in
theorem broken_1D (v what : Int) (V : Int) (nv n1 : Nat) (r : Nat) (hr : FlM.part r = none) (_k1 : IntKind.u64.wrap v % 999999999999999 = V) (_k2 : (IntKind.u64.wrap v).tmod 999999999999999 = V) (_k3 : wrap64 V = V) (_fv : floatOfInt .f64 V = nv) (HN1 : Hid (sideW 1 = n1)) (_w1 : IntKind.u64.wrap what % 4 = 1) (_w2 : (IntKind.u64.wrap what).tmod 4 = 1) (hop : floatBits .sub .f64 13830554455654793216 nv = some r) (w : World) :
    Calls Try.prog 5 #[.int .i64 v, .int .i64 what, .bool true] w (RetB (.bool true) w) := by
  have HP : Hid (partsR r 0 = (0, 0, 4)) := partsR_n1 hr
  have HNO2 : Hid (List.all [((0 : Int), n1, 0), (0, r, 0)] wholeP = false) := all_two _ _ (wholeP_n1 0 hr)
  have HNO1 : Hid (List.all [((1 : Int), r, 0)] wholeP = false) := all_one _ (wholeP_n1 1 hr)
  have HNO0 : Hid (List.all [((0 : Int), r, 0)] wholeP = false) := all_one _ (wholeP_n1 0 hr)
  clear hr
  have c1 := fun W => run_float_arith (P := Try.prog) W .sub 22 .f64 _ _ r hop
  clear hop
  go_enter Try.func5, Try.ntmps5
  go_wp2_with fail
  all_goals
    refine (parts_any r 0 0 0 4 HP _).mono ?_
    rintro _ w1 ⟨rfl, rfl⟩
    go_wp2_with fail
    refine (debit_any 1 n1 HN1 _).mono ?_
    rintro _ w1 ⟨rfl, rfl⟩
    go_wp2_with fail
    refine (sumNo_any _ [(0, n1, 0), (0, r, 0)] HNO2 (by simp) _ (PoS.lit _ _ [(0, n1, 0), (0, r, 0)] 2 rfl _ rfl (by unfold maxLen; omega))).mono ?_
    rintro _ w2 ⟨rfl, hb2⟩
    go_wp2_with fail
    refine (ofNo_any 2 _ [(1, r, 0)] HNO1 (by simp) _ (PoS.lit _ _ [(1, r, 0)] 1 rfl _ rfl (by unfold maxLen; omega))).mono ?_
    rintro _ w3 ⟨rfl, hb3⟩
    go_wp2_with fail
    refine (awake4_any _).mono ?_
    rintro _ w4 ⟨rfl, hb4⟩
    go_wp2_with fail
    refine (balancedNo_any _ [(0, r, 0)] HNO0 (by simp) _ (PoS.lit _ _ [(0, r, 0)] 1 rfl _ rfl (by unfold maxLen; omega))).mono ?_
    rintro _ w5 ⟨rfl, hb5⟩
    have hbf : Below w.heap.size w w5 := (by repeat (first | with_reducible exact Below.refl _ _ | (with_reducible refine bl_sc ?_ ?hge; case hge => (first | exact Nat.le_refl _ | omega)) | with_reducible refine bl_al ?_ _ | with_reducible refine bl_dr ?_ | with_reducible refine bl_dN ?_ _ | (refine bl_tr ?_ (by assumption)) | (refine bl_gr ?_ (by assumption) (by first | exact Nat.le_refl _ | omega)) | exact Below.refl _ _ | refine bl_al ?_ _ | refine bl_dr ?_ | refine bl_dN ?_ _))
    clear hb2 hb3 hb4 hb5
    go_wp2
    go_ret
    exact ⟨rfl, hbf⟩

set_option maxHeartbeats 1600000 in
set_option maxRecDepth 100000 in
theorem broken_1C (v what : Int) (V : Int) (nv n1 : Nat) (r : Nat) (hr : FlM.part r = none) (_k1 : IntKind.u64.wrap v % 999999999999999 = V) (_k2 : (IntKind.u64.wrap v).tmod 999999999999999 = V) (_k3 : wrap64 V = V) (_fv : floatOfInt .f64 V = nv) (HN1 : Hid (sideW 1 = n1)) (_w1 : IntKind.u64.wrap what % 4 = 1) (_w2 : (IntKind.u64.wrap what).tmod 4 = 1) (hop : floatBits .sub .f64 13830554455654793216 nv = some r) (w : World) :
    Calls Try.prog 5 #[.int .i64 v, .int .i64 what, .bool false] w (RetB (.bool true) w) := by
  have HP : Hid (partsR 0 r = (0, 0, 4)) := partsR_n2 hr
  have HNO2 : Hid (List.all [((0 : Int), n1, 0), (0, 0, r)] wholeP = false) := all_two _ _ (wholeP_n2 0 hr)
  have HNO1 : Hid (List.all [((1 : Int), 0, r)] wholeP = false) := all_one _ (wholeP_n2 1 hr)
  have HNO0 : Hid (List.all [((0 : Int), 0, r)] wholeP = false) := all_one _ (wholeP_n2 0 hr)
  clear hr
  have c1 := fun W => run_float_arith (P := Try.prog) W .sub 22 .f64 _ _ r hop
  clear hop
  go_enter Try.func5, Try.ntmps5
  go_wp2_with fail
  all_goals
    refine (parts_any 0 r 0 0 4 HP _).mono ?_
    rintro _ w1 ⟨rfl, rfl⟩
    go_wp2_with fail
    refine (debit_any 1 n1 HN1 _).mono ?_
    rintro _ w1 ⟨rfl, rfl⟩
    go_wp2_with fail
    refine (sumNo_any _ [(0, n1, 0), (0, 0, r)] HNO2 (by simp) _ (PoS.lit _ _ [(0, n1, 0), (0, 0, r)] 2 rfl _ rfl (by unfold maxLen; omega))).mono ?_
    rintro _ w2 ⟨rfl, hb2⟩
    go_wp2_with fail
    refine (ofNo_any 2 _ [(1, 0, r)] HNO1 (by simp) _ (PoS.lit _ _ [(1, 0, r)] 1 rfl _ rfl (by unfold maxLen; omega))).mono ?_
    rintro _ w3 ⟨rfl, hb3⟩
    go_wp2_with fail
    refine (awake4_any _).mono ?_
    rintro _ w4 ⟨rfl, hb4⟩
    go_wp2_with fail
    refine (balancedNo_any _ [(0, 0, r)] HNO0 (by simp) _ (PoS.lit _ _ [(0, 0, r)] 1 rfl _ rfl (by unfold maxLen; omega))).mono ?_
    rintro _ w5 ⟨rfl, hb5⟩
    have hbf : Below w.heap.size w w5 := (by repeat (first | with_reducible exact Below.refl _ _ | (with_reducible refine bl_sc ?_ ?hge; case hge => (first | exact Nat.le_refl _ | omega)) | with_reducible refine bl_al ?_ _ | with_reducible refine bl_dr ?_ | with_reducible refine bl_dN ?_ _ | (refine bl_tr ?_ (by assumption)) | (refine bl_gr ?_ (by assumption) (by first | exact Nat.le_refl _ | omega)) | exact Below.refl _ _ | refine bl_al ?_ _ | refine bl_dr ?_ | refine bl_dN ?_ _))
    clear hb2 hb3 hb4 hb5
    go_wp2
    go_ret
    exact ⟨rfl, hbf⟩

set_option maxHeartbeats 1600000 in
set_option maxRecDepth 100000 in
theorem broken_2D (v what : Int) (V : Int) (nv n1 : Nat) (hr : FlM.part 4835858800541171712 = none) (_k1 : IntKind.u64.wrap v % 999999999999999 = V) (_k2 : (IntKind.u64.wrap v).tmod 999999999999999 = V) (_k3 : wrap64 V = V) (_fv : floatOfInt .f64 V = nv) (HN1 : Hid (sideW 1 = n1)) (_w1 : IntKind.u64.wrap what % 4 = 2) (_w2 : (IntKind.u64.wrap what).tmod 4 = 2)  (w : World) :
    Calls Try.prog 5 #[.int .i64 v, .int .i64 what, .bool true] w (RetB (.bool true) w) := by
  have HP : Hid (partsR 4835858800541171712 0 = (0, 0, 4)) := partsR_n1 hr
  have HNO2 : Hid (List.all [((0 : Int), n1, 0), (0, 4835858800541171712, 0)] wholeP = false) := all_two _ _ (wholeP_n1 0 hr)
  have HNO1 : Hid (List.all [((1 : Int), 4835858800541171712, 0)] wholeP = false) := all_one _ (wholeP_n1 1 hr)
  have HNO0 : Hid (List.all [((0 : Int), 4835858800541171712, 0)] wholeP = false) := all_one _ (wholeP_n1 0 hr)
  clear hr
  go_enter Try.func5, Try.ntmps5
  go_wp2_with fail
  all_goals
    refine (parts_any 4835858800541171712 0 0 0 4 HP _).mono ?_
    rintro _ w1 ⟨rfl, rfl⟩
    go_wp2_with fail
    refine (debit_any 1 n1 HN1 _).mono ?_
    rintro _ w1 ⟨rfl, rfl⟩
    go_wp2_with fail
    refine (sumNo_any _ [(0, n1, 0), (0, 4835858800541171712, 0)] HNO2 (by simp) _ (PoS.lit _ _ [(0, n1, 0), (0, 4835858800541171712, 0)] 2 rfl _ rfl (by unfold maxLen; omega))).mono ?_
    rintro _ w2 ⟨rfl, hb2⟩
    go_wp2_with fail
    refine (ofNo_any 2 _ [(1, 4835858800541171712, 0)] HNO1 (by simp) _ (PoS.lit _ _ [(1, 4835858800541171712, 0)] 1 rfl _ rfl (by unfold maxLen; omega))).mono ?_
    rintro _ w3 ⟨rfl, hb3⟩
    go_wp2_with fail
    refine (awake4_any _).mono ?_
    rintro _ w4 ⟨rfl, hb4⟩
    go_wp2_with fail
    refine (balancedNo_any _ [(0, 4835858800541171712, 0)] HNO0 (by simp) _ (PoS.lit _ _ [(0, 4835858800541171712, 0)] 1 rfl _ rfl (by unfold maxLen; omega))).mono ?_
    rintro _ w5 ⟨rfl, hb5⟩
    have hbf : Below w.heap.size w w5 := (by repeat (first | with_reducible exact Below.refl _ _ | (with_reducible refine bl_sc ?_ ?hge; case hge => (first | exact Nat.le_refl _ | omega)) | with_reducible refine bl_al ?_ _ | with_reducible refine bl_dr ?_ | with_reducible refine bl_dN ?_ _ | (refine bl_tr ?_ (by assumption)) | (refine bl_gr ?_ (by assumption) (by first | exact Nat.le_refl _ | omega)) | exact Below.refl _ _ | refine bl_al ?_ _ | refine bl_dr ?_ | refine bl_dN ?_ _))
    clear hb2 hb3 hb4 hb5
    go_wp2
    go_ret
    exact ⟨rfl, hbf⟩

set_option maxHeartbeats 1600000 in
set_option maxRecDepth 100000 in
theorem broken_2C (v what : Int) (V : Int) (nv n1 : Nat) (hr : FlM.part 4835858800541171712 = none) (_k1 : IntKind.u64.wrap v % 999999999999999 = V) (_k2 : (IntKind.u64.wrap v).tmod 999999999999999 = V) (_k3 : wrap64 V = V) (_fv : floatOfInt .f64 V = nv) (HN1 : Hid (sideW 1 = n1)) (_w1 : IntKind.u64.wrap what % 4 = 2) (_w2 : (IntKind.u64.wrap what).tmod 4 = 2)  (w : World) :
    Calls Try.prog 5 #[.int .i64 v, .int .i64 what, .bool false] w (RetB (.bool true) w) := by
  have HP : Hid (partsR 0 4835858800541171712 = (0, 0, 4)) := partsR_n2 hr
  have HNO2 : Hid (List.all [((0 : Int), n1, 0), (0, 0, 4835858800541171712)] wholeP = false) := all_two _ _ (wholeP_n2 0 hr)
  have HNO1 : Hid (List.all [((1 : Int), 0, 4835858800541171712)] wholeP = false) := all_one _ (wholeP_n2 1 hr)
  have HNO0 : Hid (List.all [((0 : Int), 0, 4835858800541171712)] wholeP = false) := all_one _ (wholeP_n2 0 hr)
  clear hr
  go_enter Try.func5, Try.ntmps5
  go_wp2_with fail
  all_goals
    refine (parts_any 0 4835858800541171712 0 0 4 HP _).mono ?_
    rintro _ w1 ⟨rfl, rfl⟩
    go_wp2_with fail
    refine (debit_any 1 n1 HN1 _).mono ?_
    rintro _ w1 ⟨rfl, rfl⟩
    go_wp2_with fail
    refine (sumNo_any _ [(0, n1, 0), (0, 0, 4835858800541171712)] HNO2 (by simp) _ (PoS.lit _ _ [(0, n1, 0), (0, 0, 4835858800541171712)] 2 rfl _ rfl (by unfold maxLen; omega))).mono ?_
    rintro _ w2 ⟨rfl, hb2⟩
    go_wp2_with fail
    refine (ofNo_any 2 _ [(1, 0, 4835858800541171712)] HNO1 (by simp) _ (PoS.lit _ _ [(1, 0, 4835858800541171712)] 1 rfl _ rfl (by unfold maxLen; omega))).mono ?_
    rintro _ w3 ⟨rfl, hb3⟩
    go_wp2_with fail
    refine (awake4_any _).mono ?_
    rintro _ w4 ⟨rfl, hb4⟩
    go_wp2_with fail
    refine (balancedNo_any _ [(0, 0, 4835858800541171712)] HNO0 (by simp) _ (PoS.lit _ _ [(0, 0, 4835858800541171712)] 1 rfl _ rfl (by unfold maxLen; omega))).mono ?_
    rintro _ w5 ⟨rfl, hb5⟩
    have hbf : Below w.heap.size w w5 := (by repeat (first | with_reducible exact Below.refl _ _ | (with_reducible refine bl_sc ?_ ?hge; case hge => (first | exact Nat.le_refl _ | omega)) | with_reducible refine bl_al ?_ _ | with_reducible refine bl_dr ?_ | with_reducible refine bl_dN ?_ _ | (refine bl_tr ?_ (by assumption)) | (refine bl_gr ?_ (by assumption) (by first | exact Nat.le_refl _ | omega)) | exact Below.refl _ _ | refine bl_al ?_ _ | refine bl_dr ?_ | refine bl_dN ?_ _))
    clear hb2 hb3 hb4 hb5
    go_wp2
    go_ret
    exact ⟨rfl, hbf⟩

set_option maxHeartbeats 1600000 in
set_option maxRecDepth 100000 in
theorem broken_3D (v what : Int) (V : Int) (nv n1 : Nat) (r : Nat) (hr : FlM.part r = none) (_k1 : IntKind.u64.wrap v % 999999999999999 = V) (_k2 : (IntKind.u64.wrap v).tmod 999999999999999 = V) (_k3 : wrap64 V = V) (_fv : floatOfInt .f64 V = nv) (HN1 : Hid (sideW 1 = n1)) (_w1 : IntKind.u64.wrap what % 4 = 3) (_w2 : (IntKind.u64.wrap what).tmod 4 = 3) (r1 : Nat) (_hz : ¬ V = 0) (hop : floatBits .mul .f64 nv 9094988921128908188 = some r1) (hop2 : floatBits .mul .f64 r1 9094988921128908188 = some r) (w : World) :
    Calls Try.prog 5 #[.int .i64 v, .int .i64 what, .bool true] w (RetB (.bool true) w) := by
  have HP : Hid (partsR r 0 = (0, 0, 4)) := partsR_n1 hr
  have HNO2 : Hid (List.all [((0 : Int), n1, 0), (0, r, 0)] wholeP = false) := all_two _ _ (wholeP_n1 0 hr)
  have HNO1 : Hid (List.all [((1 : Int), r, 0)] wholeP = false) := all_one _ (wholeP_n1 1 hr)
  have HNO0 : Hid (List.all [((0 : Int), r, 0)] wholeP = false) := all_one _ (wholeP_n1 0 hr)
  clear hr
  have c1 := fun W => run_float_arith (P := Try.prog) W .mul 22 .f64 _ _ r1 hop
  have c2 := fun W => run_float_arith (P := Try.prog) W .mul 22 .f64 _ _ r hop2
  clear hop hop2
  go_enter Try.func5, Try.ntmps5
  go_wp2_with fail
  all_goals
    refine (parts_any r 0 0 0 4 HP _).mono ?_
    rintro _ w1 ⟨rfl, rfl⟩
    go_wp2_with fail
    refine (debit_any 1 n1 HN1 _).mono ?_
    rintro _ w1 ⟨rfl, rfl⟩
    go_wp2_with fail
    refine (sumNo_any _ [(0, n1, 0), (0, r, 0)] HNO2 (by simp) _ (PoS.lit _ _ [(0, n1, 0), (0, r, 0)] 2 rfl _ rfl (by unfold maxLen; omega))).mono ?_
    rintro _ w2 ⟨rfl, hb2⟩
    go_wp2_with fail
    refine (ofNo_any 2 _ [(1, r, 0)] HNO1 (by simp) _ (PoS.lit _ _ [(1, r, 0)] 1 rfl _ rfl (by unfold maxLen; omega))).mono ?_
    rintro _ w3 ⟨rfl, hb3⟩
    go_wp2_with fail
    refine (awake4_any _).mono ?_
    rintro _ w4 ⟨rfl, hb4⟩
    go_wp2_with fail
    refine (balancedNo_any _ [(0, r, 0)] HNO0 (by simp) _ (PoS.lit _ _ [(0, r, 0)] 1 rfl _ rfl (by unfold maxLen; omega))).mono ?_
    rintro _ w5 ⟨rfl, hb5⟩
    have hbf : Below w.heap.size w w5 := (by repeat (first | with_reducible exact Below.refl _ _ | (with_reducible refine bl_sc ?_ ?hge; case hge => (first | exact Nat.le_refl _ | omega)) | with_reducible refine bl_al ?_ _ | with_reducible refine bl_dr ?_ | with_reducible refine bl_dN ?_ _ | (refine bl_tr ?_ (by assumption)) | (refine bl_gr ?_ (by assumption) (by first | exact Nat.le_refl _ | omega)) | exact Below.refl _ _ | refine bl_al ?_ _ | refine bl_dr ?_ | refine bl_dN ?_ _))
    clear hb2 hb3 hb4 hb5
    go_wp2
    go_ret
    exact ⟨rfl, hbf⟩

set_option maxHeartbeats 1600000 in
set_option maxRecDepth 100000 in
theorem broken_3C (v what : Int) (V : Int) (nv n1 : Nat) (r : Nat) (hr : FlM.part r = none) (_k1 : IntKind.u64.wrap v % 999999999999999 = V) (_k2 : (IntKind.u64.wrap v).tmod 999999999999999 = V) (_k3 : wrap64 V = V) (_fv : floatOfInt .f64 V = nv) (HN1 : Hid (sideW 1 = n1)) (_w1 : IntKind.u64.wrap what % 4 = 3) (_w2 : (IntKind.u64.wrap what).tmod 4 = 3) (r1 : Nat) (_hz : ¬ V = 0) (hop : floatBits .mul .f64 nv 9094988921128908188 = some r1) (hop2 : floatBits .mul .f64 r1 9094988921128908188 = some r) (w : World) :
    Calls Try.prog 5 #[.int .i64 v, .int .i64 what, .bool false] w (RetB (.bool true) w) := by
  have HP : Hid (partsR 0 r = (0, 0, 4)) := partsR_n2 hr
  have HNO2 : Hid (List.all [((0 : Int), n1, 0), (0, 0, r)] wholeP = false) := all_two _ _ (wholeP_n2 0 hr)
  have HNO1 : Hid (List.all [((1 : Int), 0, r)] wholeP = false) := all_one _ (wholeP_n2 1 hr)
  have HNO0 : Hid (List.all [((0 : Int), 0, r)] wholeP = false) := all_one _ (wholeP_n2 0 hr)
  clear hr
  have c1 := fun W => run_float_arith (P := Try.prog) W .mul 22 .f64 _ _ r1 hop
  have c2 := fun W => run_float_arith (P := Try.prog) W .mul 22 .f64 _ _ r hop2
  clear hop hop2
  go_enter Try.func5, Try.ntmps5
  go_wp2_with fail
  all_goals
    refine (parts_any 0 r 0 0 4 HP _).mono ?_
    rintro _ w1 ⟨rfl, rfl⟩
    go_wp2_with fail
    refine (debit_any 1 n1 HN1 _).mono ?_
    rintro _ w1 ⟨rfl, rfl⟩
    go_wp2_with fail
    refine (sumNo_any _ [(0, n1, 0), (0, 0, r)] HNO2 (by simp) _ (PoS.lit _ _ [(0, n1, 0), (0, 0, r)] 2 rfl _ rfl (by unfold maxLen; omega))).mono ?_
    rintro _ w2 ⟨rfl, hb2⟩
    go_wp2_with fail
    refine (ofNo_any 2 _ [(1, 0, r)] HNO1 (by simp) _ (PoS.lit _ _ [(1, 0, r)] 1 rfl _ rfl (by unfold maxLen; omega))).mono ?_
    rintro _ w3 ⟨rfl, hb3⟩
    go_wp2_with fail
    refine (awake4_any _).mono ?_
    rintro _ w4 ⟨rfl, hb4⟩
    go_wp2_with fail
    refine (balancedNo_any _ [(0, 0, r)] HNO0 (by simp) _ (PoS.lit _ _ [(0, 0, r)] 1 rfl _ rfl (by unfold maxLen; omega))).mono ?_
    rintro _ w5 ⟨rfl, hb5⟩
    have hbf : Below w.heap.size w w5 := (by repeat (first | with_reducible exact Below.refl _ _ | (with_reducible refine bl_sc ?_ ?hge; case hge => (first | exact Nat.le_refl _ | omega)) | with_reducible refine bl_al ?_ _ | with_reducible refine bl_dr ?_ | with_reducible refine bl_dN ?_ _ | (refine bl_tr ?_ (by assumption)) | (refine bl_gr ?_ (by assumption) (by first | exact Nat.le_refl _ | omega)) | exact Below.refl _ _ | refine bl_al ?_ _ | refine bl_dr ?_ | refine bl_dN ?_ _))
    clear hb2 hb3 hb4 hb5
    go_wp2
    go_ret
    exact ⟨rfl, hbf⟩

set_option maxRecDepth 100000 in
theorem broken_none (v what : Int) (deb : Bool) (nv : Nat) (_k1 : IntKind.u64.wrap v % 999999999999999 = 0) (_k2 : (IntKind.u64.wrap v).tmod 999999999999999 = 0) (_w1 : IntKind.u64.wrap what % 4 = 3) (_w2 : (IntKind.u64.wrap what).tmod 4 = 3)
    (r1 r : Nat) (_fv : floatOfInt .f64 0 = nv) (hop : floatBits .mul .f64 nv 9094988921128908188 = some r1) (hop2 : floatBits .mul .f64 r1 9094988921128908188 = some r) (w : World) :
    Calls Try.prog 5 #[.int .i64 v, .int .i64 what, .bool deb] w (RetB (.bool true) w) := by
  have c1 := fun W => run_float_arith (P := Try.prog) W .mul 22 .f64 _ _ r1 hop
  have c2 := fun W => run_float_arith (P := Try.prog) W .mul 22 .f64 _ _ r hop2
  clear hop hop2
  go_enter Try.func5, Try.ntmps5
  go_wp2_with fail
  refine (awake4_any _).mono ?_
  rintro _ w4 ⟨rfl, hb4⟩
  go_wp2
  go_ret
  exact ⟨rfl, hb4⟩

theorem rem_u64 (x : Int) (m : Int) (_hm : 0 < m) : (IntKind.u64.wrap x).tmod m = IntKind.u64.wrap x % m := Int.tmod_eq_emod_of_nonneg (by rw [IntKind.wrap_u64]; omega)
theorem bothBroken_any (v what : Int) (deb : Bool) (w : World) : Calls Try.prog 5 #[.int .i64 v, .int .i64 what, .bool deb] w (RetB (.bool true) w) := by
  have n0 : 0 ≤ IntKind.u64.wrap v := by rw [IntKind.wrap_u64]; omega
  have n1 : 0 ≤ IntKind.u64.wrap what := by rw [IntKind.wrap_u64]; omega
  obtain ⟨V, hV⟩ : ∃ V : Nat, IntKind.u64.wrap v % 999999999999999 = (V : Int) := ⟨(IntKind.u64.wrap v % 999999999999999).toNat, by omega⟩
  have hV1 : V < 999999999999999 := by omega
  have hV2 : (IntKind.u64.wrap v).tmod 999999999999999 = (V : Int) := by rw [rem_u64 v _ (by omega)]; exact hV
  have hV3 : wrap64 (V : Int) = (V : Int) := by unfold wrap64; omega
  have hs : Hid (sideW 1 = FlM.N 1) := sideW_N 1 (by omega)
  have hw2 := rem_u64 what 4 (by omega)
  rcases (show IntKind.u64.wrap what % 4 = 0 ∨ IntKind.u64.wrap what % 4 = 1 ∨ IntKind.u64.wrap what % 4 = 2 ∨ IntKind.u64.wrap what % 4 = 3 by omega) with h | h | h | h
  · obtain ⟨r, h1, h2⟩ := half_none (V % 1000000) (by omega)
    have e1 : (V : Int) % 1000000 = ((V % 1000000 : Nat) : Int) := by omega
    have e2 : (V : Int).tmod 1000000 = ((V % 1000000 : Nat) : Int) := by rw [Int.tmod_eq_emod_of_nonneg (by omega)]; exact e1
    have e3 : wrap64 ((V % 1000000 : Nat) : Int) = ((V % 1000000 : Nat) : Int) := by unfold wrap64; omega
    cases deb
    · exact broken_0C v what V (FlM.N V) (FlM.N 1) r h2 hV hV2 hV3 (floatOf_N V) hs h (hw2.trans h) _ _ e1 e2 e3 (floatOf_N _) h1 w
    · exact broken_0D v what V (FlM.N V) (FlM.N 1) r h2 hV hV2 hV3 (floatOf_N V) hs h (hw2.trans h) _ _ e1 e2 e3 (floatOf_N _) h1 w
  · obtain ⟨r, h1, h2⟩ := neg_none V (by omega)
    cases deb
    · exact broken_1C v what V (FlM.N V) (FlM.N 1) r h2 hV hV2 hV3 (floatOf_N V) hs h (hw2.trans h) h1 w
    · exact broken_1D v what V (FlM.N V) (FlM.N 1) r h2 hV hV2 hV3 (floatOf_N V) hs h (hw2.trans h) h1 w
  · have h2 : FlM.part 4835858800541171712 = none := by
      have e : FlM.N 2000000000000000 = 4835858800541171712 := by decide
      rw [← e]
      exact part_N_no (by omega) (by omega)
    cases deb
    · exact broken_2C v what V (FlM.N V) (FlM.N 1) h2 hV hV2 hV3 (floatOf_N V) hs h (hw2.trans h) w
    · exact broken_2D v what V (FlM.N V) (FlM.N 1) h2 hV hV2 hV3 (floatOf_N V) hs h (hw2.trans h) w
  · by_cases hz : V = 0
    · subst hz
      have z1 : floatBits .mul .f64 (FlM.N 0) 9094988921128908188 = some 0 := by rw [N_zero]; rfl
      have z2 : floatBits .mul .f64 0 9094988921128908188 = some 0 := by rfl
      exact broken_none v what deb (FlM.N 0) hV hV2 h (hw2.trans h) 0 0 (floatOf_N 0) z1 z2 w
    · obtain ⟨r1, r, h1, h2, h3⟩ := mul_inf V (by omega) (by omega)
      cases deb
      · exact broken_3C v what V (FlM.N V) (FlM.N 1) r h3 hV hV2 hV3 (floatOf_N V) hs h (hw2.trans h) r1 (by omega) h1 h2 w
      · exact broken_3D v what V (FlM.N V) (FlM.N 1) r h3 hV hV2 hV3 (floatOf_N V) hs h (hw2.trans h) r1 (by omega) h1 h2 w
end Go.Proofs.Ytghmhgeakpjfkaa

/- EventKinds: what each kind needs, and what it must not have. -/
import Derived.Test.YtofajlemknkndaaLaw07
namespace Go.Proofs.Ytofajlemknkndaa
open Go.RowKit

theorem and3 (x : Int) : 0 ≤ bits .and .i64 x 3 ∧ bits .and .i64 x 3 ≤ 3 := by
  have h : bits .and .i64 x 3 = IntKind.i64.wrap ((BitVec.ofInt 64 x &&& BitVec.ofInt 64 3).toNat : Int) := rfl
  have h2 : (BitVec.ofInt 64 x &&& BitVec.ofInt 64 3).toNat ≤ 3 := by
    rw [BitVec.toNat_and]
    exact Nat.and_le_right
  rw [h, i64_wrap]
  split <;> omega

set_option maxHeartbeats 800000 in
theorem evKinds_1_t1 (kind tranche ref2 amount tr am ref : Int) (hq : (IntKind.u64.wrap kind).tmod 6 = 0) (hq1 : (IntKind.u64.wrap tranche).tmod 4 = tr) (hq2 : (IntKind.u64.wrap ref2).tmod 3 = ref) (hq3 : bits .and .i64 amount 3 = am) (b1 : 0 ≤ tr) (b2 : tr ≤ 3) (b3 : 0 ≤ ref) (b4 : ref ≤ 2) (_b5 : 0 ≤ am) (_b6 : am ≤ 3)
    (h : (tr < 1)) (w : World) : Calls Try.prog 7 #[.int .i64 kind, .int .i64 tranche, .int .i64 ref2, .int .i64 amount] w (RetB (.bool true) w) := by
  have e1 : decide (tr < 1) = true := by simp; omega
  have HE : Hid (rightE 0 [(0, false), (0, false)] 1 1 0 0 10957 1 10957 tr am ref = 7) := by
    show _ = _
    rw [rightE, show rightT 0 [(0, false), (0, false)] 1 1 0 0 10957 = true from by decide]
    simp [refd]
    (repeat' split) <;> omega
  clear h
  go_enter Try.func7, Try.ntmps7
  go_wp2_with fail
  refine (terms7_any _).mono ?_
  rintro e w1 ⟨v1, rfl, ht1, hb1⟩
  go_wp2_with fail
  refine (evRight_any _ [(0, false), (0, false)] 0 1 1 0 0 10957 1 10957 tr am ref 7 HE _ ht1).mono ?_
  rintro e w2 ⟨rfl, hb2⟩
  go_wp2_with fail
  refine (awake7_any _).mono ?_
  rintro e w3 ⟨rfl, hb3⟩
  go_wp2_with fail
  go_ret
  exact ⟨rfl, (by repeat (first | exact Below.refl _ _ | refine bl_al ?_ _ | refine bl_dr ?_ | refine bl_dN ?_ _ | refine bl_tr ?_ (by assumption)))⟩
set_option maxHeartbeats 800000 in
theorem evKinds_1_t2 (kind tranche ref2 amount tr am ref : Int) (hq : (IntKind.u64.wrap kind).tmod 6 = 0) (hq1 : (IntKind.u64.wrap tranche).tmod 4 = tr) (hq2 : (IntKind.u64.wrap ref2).tmod 3 = ref) (hq3 : bits .and .i64 amount 3 = am) (b1 : 0 ≤ tr) (b2 : tr ≤ 3) (b3 : 0 ≤ ref) (b4 : ref ≤ 2) (_b5 : 0 ≤ am) (_b6 : am ≤ 3)
    (h : (2 < tr)) (w : World) : Calls Try.prog 7 #[.int .i64 kind, .int .i64 tranche, .int .i64 ref2, .int .i64 amount] w (RetB (.bool true) w) := by
  have e1 : decide (tr < 1) = false := by simp; omega
  have e2 : decide ((2 : Int) < tr) = true := by simp; omega
  have HE : Hid (rightE 0 [(0, false), (0, false)] 1 1 0 0 10957 1 10957 tr am ref = 7) := by
    show _ = _
    rw [rightE, show rightT 0 [(0, false), (0, false)] 1 1 0 0 10957 = true from by decide]
    simp [refd]
    (repeat' split) <;> omega
  clear h
  go_enter Try.func7, Try.ntmps7
  go_wp2_with fail
  refine (terms7_any _).mono ?_
  rintro e w1 ⟨v1, rfl, ht1, hb1⟩
  go_wp2_with fail
  refine (evRight_any _ [(0, false), (0, false)] 0 1 1 0 0 10957 1 10957 tr am ref 7 HE _ ht1).mono ?_
  rintro e w2 ⟨rfl, hb2⟩
  go_wp2_with fail
  refine (awake7_any _).mono ?_
  rintro e w3 ⟨rfl, hb3⟩
  go_wp2_with fail
  go_ret
  exact ⟨rfl, (by repeat (first | exact Below.refl _ _ | refine bl_al ?_ _ | refine bl_dr ?_ | refine bl_dN ?_ _ | refine bl_tr ?_ (by assumption)))⟩
set_option maxHeartbeats 800000 in
theorem evKinds_1_a1 (kind tranche ref2 amount tr am ref : Int) (hq : (IntKind.u64.wrap kind).tmod 6 = 0) (hq1 : (IntKind.u64.wrap tranche).tmod 4 = tr) (hq2 : (IntKind.u64.wrap ref2).tmod 3 = ref) (hq3 : bits .and .i64 amount 3 = am) (b1 : 0 ≤ tr) (b2 : tr ≤ 3) (b3 : 0 ≤ ref) (b4 : ref ≤ 2) (_b5 : 0 ≤ am) (_b6 : am ≤ 3)
    (h : (1 ≤ tr ∧ tr ≤ 2) ∧ (am = 0)) (w : World) : Calls Try.prog 7 #[.int .i64 kind, .int .i64 tranche, .int .i64 ref2, .int .i64 amount] w (RetB (.bool true) w) := by
  have e1 : decide (tr < 1) = false := by simp; omega
  have e2 : decide ((2 : Int) < tr) = false := by simp; omega
  have e3 : (am == 0) = true := by simp; omega
  have e4 : decide (am < 1) = true := by simp; omega
  have HE : Hid (rightE 0 [(0, false), (0, false)] 1 1 0 0 10957 1 10957 tr am ref = 8) := by
    show _ = _
    rw [rightE, show rightT 0 [(0, false), (0, false)] 1 1 0 0 10957 = true from by decide]
    simp [refd]
    (repeat' split) <;> omega
  clear h
  go_enter Try.func7, Try.ntmps7
  go_wp2_with fail
  refine (terms7_any _).mono ?_
  rintro e w1 ⟨v1, rfl, ht1, hb1⟩
  go_wp2_with fail
  refine (evRight_any _ [(0, false), (0, false)] 0 1 1 0 0 10957 1 10957 tr am ref 8 HE _ ht1).mono ?_
  rintro e w2 ⟨rfl, hb2⟩
  go_wp2_with fail
  refine (awake7_any _).mono ?_
  rintro e w3 ⟨rfl, hb3⟩
  go_wp2_with fail
  go_ret
  exact ⟨rfl, (by repeat (first | exact Below.refl _ _ | refine bl_al ?_ _ | refine bl_dr ?_ | refine bl_dN ?_ _ | refine bl_tr ?_ (by assumption)))⟩
set_option maxHeartbeats 800000 in
theorem evKinds_1_r1 (kind tranche ref2 amount tr am ref : Int) (hq : (IntKind.u64.wrap kind).tmod 6 = 0) (hq1 : (IntKind.u64.wrap tranche).tmod 4 = tr) (hq2 : (IntKind.u64.wrap ref2).tmod 3 = ref) (hq3 : bits .and .i64 amount 3 = am) (b1 : 0 ≤ tr) (b2 : tr ≤ 3) (b3 : 0 ≤ ref) (b4 : ref ≤ 2) (_b5 : 0 ≤ am) (_b6 : am ≤ 3)
    (h : (1 ≤ tr ∧ tr ≤ 2) ∧ (1 ≤ am) ∧ (ref ≠ 0)) (w : World) : Calls Try.prog 7 #[.int .i64 kind, .int .i64 tranche, .int .i64 ref2, .int .i64 amount] w (RetB (.bool true) w) := by
  have e1 : decide (tr < 1) = false := by simp; omega
  have e2 : decide ((2 : Int) < tr) = false := by simp; omega
  have e3 : (am == 0) = false := by simp; omega
  have e4 : decide (am < 1) = false := by simp; omega
  have e5 : decide ((1000000000000000 : Int) < am) = false := by simp; omega
  have e6 : decide ((0 : Int) < ref) = true := by simp; omega
  have e7 : (ref != 0) = true := by simp; omega
  have HE : Hid (rightE 0 [(0, false), (0, false)] 1 1 0 0 10957 1 10957 tr am ref = 1) := by
    show _ = _
    rw [rightE, show rightT 0 [(0, false), (0, false)] 1 1 0 0 10957 = true from by decide]
    simp [refd]
    (repeat' split) <;> omega
  clear h
  go_enter Try.func7, Try.ntmps7
  go_wp2_with fail
  refine (terms7_any _).mono ?_
  rintro e w1 ⟨v1, rfl, ht1, hb1⟩
  go_wp2_with fail
  refine (evRight_any _ [(0, false), (0, false)] 0 1 1 0 0 10957 1 10957 tr am ref 1 HE _ ht1).mono ?_
  rintro e w2 ⟨rfl, hb2⟩
  go_wp2_with fail
  refine (awake7_any _).mono ?_
  rintro e w3 ⟨rfl, hb3⟩
  go_wp2_with fail
  go_ret
  exact ⟨rfl, (by repeat (first | exact Below.refl _ _ | refine bl_al ?_ _ | refine bl_dr ?_ | refine bl_dN ?_ _ | refine bl_tr ?_ (by assumption)))⟩
set_option maxHeartbeats 800000 in
theorem evKinds_1_ok (kind tranche ref2 amount tr am ref : Int) (hq : (IntKind.u64.wrap kind).tmod 6 = 0) (hq1 : (IntKind.u64.wrap tranche).tmod 4 = tr) (hq2 : (IntKind.u64.wrap ref2).tmod 3 = ref) (hq3 : bits .and .i64 amount 3 = am) (b1 : 0 ≤ tr) (b2 : tr ≤ 3) (b3 : 0 ≤ ref) (b4 : ref ≤ 2) (_b5 : 0 ≤ am) (_b6 : am ≤ 3)
    (h : (1 ≤ tr ∧ tr ≤ 2) ∧ (1 ≤ am) ∧ (ref = 0)) (w : World) : Calls Try.prog 7 #[.int .i64 kind, .int .i64 tranche, .int .i64 ref2, .int .i64 amount] w (RetB (.bool true) w) := by
  have e1 : decide (tr < 1) = false := by simp; omega
  have e2 : decide ((2 : Int) < tr) = false := by simp; omega
  have e3 : (am == 0) = false := by simp; omega
  have e4 : decide (am < 1) = false := by simp; omega
  have e5 : decide ((1000000000000000 : Int) < am) = false := by simp; omega
  have e6 : decide ((0 : Int) < ref) = false := by simp; omega
  have e7 : (ref != 0) = false := by simp; omega
  have HE : Hid (rightE 0 [(0, false), (0, false)] 1 1 0 0 10957 1 10957 tr am ref = 0) := by
    show _ = _
    rw [rightE, show rightT 0 [(0, false), (0, false)] 1 1 0 0 10957 = true from by decide]
    simp [refd]
    (repeat' split) <;> omega
  clear h
  go_enter Try.func7, Try.ntmps7
  go_wp2_with fail
  refine (terms7_any _).mono ?_
  rintro e w1 ⟨v1, rfl, ht1, hb1⟩
  go_wp2_with fail
  refine (evRight_any _ [(0, false), (0, false)] 0 1 1 0 0 10957 1 10957 tr am ref 0 HE _ ht1).mono ?_
  rintro e w2 ⟨rfl, hb2⟩
  go_wp2_with fail
  refine (awake7_any _).mono ?_
  rintro e w3 ⟨rfl, hb3⟩
  go_wp2_with fail
  go_ret
  exact ⟨rfl, (by repeat (first | exact Below.refl _ _ | refine bl_al ?_ _ | refine bl_dr ?_ | refine bl_dN ?_ _ | refine bl_tr ?_ (by assumption)))⟩
theorem evKinds_1 (kind tranche ref2 amount tr am ref : Int) (hq : (IntKind.u64.wrap kind).tmod 6 = 0) (hq1 : (IntKind.u64.wrap tranche).tmod 4 = tr) (hq2 : (IntKind.u64.wrap ref2).tmod 3 = ref) (hq3 : bits .and .i64 amount 3 = am) (b1 : 0 ≤ tr) (b2 : tr ≤ 3) (b3 : 0 ≤ ref) (b4 : ref ≤ 2) (b5 : 0 ≤ am) (b6 : am ≤ 3)
    (w : World) : Calls Try.prog 7 #[.int .i64 kind, .int .i64 tranche, .int .i64 ref2, .int .i64 amount] w (RetB (.bool true) w) := by
  by_cases g_t1 : tr < 1
  · exact evKinds_1_t1 kind tranche ref2 amount tr am ref hq hq1 hq2 hq3 b1 b2 b3 b4 b5 b6 (by omega) w
  by_cases g_t2 : 2 < tr
  · exact evKinds_1_t2 kind tranche ref2 amount tr am ref hq hq1 hq2 hq3 b1 b2 b3 b4 b5 b6 (by omega) w
  by_cases g_a1 : am = 0
  · exact evKinds_1_a1 kind tranche ref2 amount tr am ref hq hq1 hq2 hq3 b1 b2 b3 b4 b5 b6 (by omega) w
  by_cases g_r1 : ref ≠ 0
  · exact evKinds_1_r1 kind tranche ref2 amount tr am ref hq hq1 hq2 hq3 b1 b2 b3 b4 b5 b6 (by omega) w
  exact evKinds_1_ok kind tranche ref2 amount tr am ref hq hq1 hq2 hq3 b1 b2 b3 b4 b5 b6 (by omega) w
set_option maxHeartbeats 800000 in
theorem evKinds_2_t1 (kind tranche ref2 amount tr am ref : Int) (hq : (IntKind.u64.wrap kind).tmod 6 = 1) (hq1 : (IntKind.u64.wrap tranche).tmod 4 = tr) (hq2 : (IntKind.u64.wrap ref2).tmod 3 = ref) (hq3 : bits .and .i64 amount 3 = am) (b1 : 0 ≤ tr) (b2 : tr ≤ 3) (b3 : 0 ≤ ref) (b4 : ref ≤ 2) (_b5 : 0 ≤ am) (_b6 : am ≤ 3)
    (h : (tr ≠ 0)) (w : World) : Calls Try.prog 7 #[.int .i64 kind, .int .i64 tranche, .int .i64 ref2, .int .i64 amount] w (RetB (.bool true) w) := by
  have e1 : (tr != 0) = true := by simp; omega
  have HE : Hid (rightE 0 [(0, false), (0, false)] 1 1 0 0 10957 2 10957 tr am ref = 7) := by
    show _ = _
    rw [rightE, show rightT 0 [(0, false), (0, false)] 1 1 0 0 10957 = true from by decide]
    simp [refd]
    (repeat' split) <;> omega
  clear h
  go_enter Try.func7, Try.ntmps7
  go_wp2_with fail
  refine (terms7_any _).mono ?_
  rintro e w1 ⟨v1, rfl, ht1, hb1⟩
  go_wp2_with fail
  refine (evRight_any _ [(0, false), (0, false)] 0 1 1 0 0 10957 2 10957 tr am ref 7 HE _ ht1).mono ?_
  rintro e w2 ⟨rfl, hb2⟩
  go_wp2_with fail
  refine (awake7_any _).mono ?_
  rintro e w3 ⟨rfl, hb3⟩
  go_wp2_with fail
  go_ret
  exact ⟨rfl, (by repeat (first | exact Below.refl _ _ | refine bl_al ?_ _ | refine bl_dr ?_ | refine bl_dN ?_ _ | refine bl_tr ?_ (by assumption)))⟩
set_option maxHeartbeats 800000 in
theorem evKinds_2_a1 (kind tranche ref2 amount tr am ref : Int) (hq : (IntKind.u64.wrap kind).tmod 6 = 1) (hq1 : (IntKind.u64.wrap tranche).tmod 4 = tr) (hq2 : (IntKind.u64.wrap ref2).tmod 3 = ref) (hq3 : bits .and .i64 amount 3 = am) (b1 : 0 ≤ tr) (b2 : tr ≤ 3) (b3 : 0 ≤ ref) (b4 : ref ≤ 2) (_b5 : 0 ≤ am) (_b6 : am ≤ 3)
    (h : (tr = 0) ∧ (am = 0)) (w : World) : Calls Try.prog 7 #[.int .i64 kind, .int .i64 tranche, .int .i64 ref2, .int .i64 amount] w (RetB (.bool true) w) := by
  have e1 : (tr != 0) = false := by simp; omega
  have e3 : (am == 0) = true := by simp; omega
  have e4 : decide (am < 1) = true := by simp; omega
  have HE : Hid (rightE 0 [(0, false), (0, false)] 1 1 0 0 10957 2 10957 tr am ref = 8) := by
    show _ = _
    rw [rightE, show rightT 0 [(0, false), (0, false)] 1 1 0 0 10957 = true from by decide]
    simp [refd]
    (repeat' split) <;> omega
  clear h
  go_enter Try.func7, Try.ntmps7
  go_wp2_with fail
  refine (terms7_any _).mono ?_
  rintro e w1 ⟨v1, rfl, ht1, hb1⟩
  go_wp2_with fail
  refine (evRight_any _ [(0, false), (0, false)] 0 1 1 0 0 10957 2 10957 tr am ref 8 HE _ ht1).mono ?_
  rintro e w2 ⟨rfl, hb2⟩
  go_wp2_with fail
  refine (awake7_any _).mono ?_
  rintro e w3 ⟨rfl, hb3⟩
  go_wp2_with fail
  go_ret
  exact ⟨rfl, (by repeat (first | exact Below.refl _ _ | refine bl_al ?_ _ | refine bl_dr ?_ | refine bl_dN ?_ _ | refine bl_tr ?_ (by assumption)))⟩
set_option maxHeartbeats 800000 in
theorem evKinds_2_r1 (kind tranche ref2 amount tr am ref : Int) (hq : (IntKind.u64.wrap kind).tmod 6 = 1) (hq1 : (IntKind.u64.wrap tranche).tmod 4 = tr) (hq2 : (IntKind.u64.wrap ref2).tmod 3 = ref) (hq3 : bits .and .i64 amount 3 = am) (b1 : 0 ≤ tr) (b2 : tr ≤ 3) (b3 : 0 ≤ ref) (b4 : ref ≤ 2) (_b5 : 0 ≤ am) (_b6 : am ≤ 3)
    (h : (tr = 0) ∧ (1 ≤ am) ∧ (ref ≠ 0)) (w : World) : Calls Try.prog 7 #[.int .i64 kind, .int .i64 tranche, .int .i64 ref2, .int .i64 amount] w (RetB (.bool true) w) := by
  have e1 : (tr != 0) = false := by simp; omega
  have e3 : (am == 0) = false := by simp; omega
  have e4 : decide (am < 1) = false := by simp; omega
  have e5 : decide ((1000000000000000 : Int) < am) = false := by simp; omega
  have e6 : decide ((0 : Int) < ref) = true := by simp; omega
  have e7 : (ref != 0) = true := by simp; omega
  have HE : Hid (rightE 0 [(0, false), (0, false)] 1 1 0 0 10957 2 10957 tr am ref = 1) := by
    show _ = _
    rw [rightE, show rightT 0 [(0, false), (0, false)] 1 1 0 0 10957 = true from by decide]
    simp [refd]
    (repeat' split) <;> omega
  clear h
  go_enter Try.func7, Try.ntmps7
  go_wp2_with fail
  refine (terms7_any _).mono ?_
  rintro e w1 ⟨v1, rfl, ht1, hb1⟩
  go_wp2_with fail
  refine (evRight_any _ [(0, false), (0, false)] 0 1 1 0 0 10957 2 10957 tr am ref 1 HE _ ht1).mono ?_
  rintro e w2 ⟨rfl, hb2⟩
  go_wp2_with fail
  refine (awake7_any _).mono ?_
  rintro e w3 ⟨rfl, hb3⟩
  go_wp2_with fail
  go_ret
  exact ⟨rfl, (by repeat (first | exact Below.refl _ _ | refine bl_al ?_ _ | refine bl_dr ?_ | refine bl_dN ?_ _ | refine bl_tr ?_ (by assumption)))⟩
set_option maxHeartbeats 800000 in
theorem evKinds_2_ok (kind tranche ref2 amount tr am ref : Int) (hq : (IntKind.u64.wrap kind).tmod 6 = 1) (hq1 : (IntKind.u64.wrap tranche).tmod 4 = tr) (hq2 : (IntKind.u64.wrap ref2).tmod 3 = ref) (hq3 : bits .and .i64 amount 3 = am) (b1 : 0 ≤ tr) (b2 : tr ≤ 3) (b3 : 0 ≤ ref) (b4 : ref ≤ 2) (_b5 : 0 ≤ am) (_b6 : am ≤ 3)
    (h : (tr = 0) ∧ (1 ≤ am) ∧ (ref = 0)) (w : World) : Calls Try.prog 7 #[.int .i64 kind, .int .i64 tranche, .int .i64 ref2, .int .i64 amount] w (RetB (.bool true) w) := by
  have e1 : (tr != 0) = false := by simp; omega
  have e3 : (am == 0) = false := by simp; omega
  have e4 : decide (am < 1) = false := by simp; omega
  have e5 : decide ((1000000000000000 : Int) < am) = false := by simp; omega
  have e6 : decide ((0 : Int) < ref) = false := by simp; omega
  have e7 : (ref != 0) = false := by simp; omega
  have HE : Hid (rightE 0 [(0, false), (0, false)] 1 1 0 0 10957 2 10957 tr am ref = 0) := by
    show _ = _
    rw [rightE, show rightT 0 [(0, false), (0, false)] 1 1 0 0 10957 = true from by decide]
    simp [refd]
    (repeat' split) <;> omega
  clear h
  go_enter Try.func7, Try.ntmps7
  go_wp2_with fail
  refine (terms7_any _).mono ?_
  rintro e w1 ⟨v1, rfl, ht1, hb1⟩
  go_wp2_with fail
  refine (evRight_any _ [(0, false), (0, false)] 0 1 1 0 0 10957 2 10957 tr am ref 0 HE _ ht1).mono ?_
  rintro e w2 ⟨rfl, hb2⟩
  go_wp2_with fail
  refine (awake7_any _).mono ?_
  rintro e w3 ⟨rfl, hb3⟩
  go_wp2_with fail
  go_ret
  exact ⟨rfl, (by repeat (first | exact Below.refl _ _ | refine bl_al ?_ _ | refine bl_dr ?_ | refine bl_dN ?_ _ | refine bl_tr ?_ (by assumption)))⟩
theorem evKinds_2 (kind tranche ref2 amount tr am ref : Int) (hq : (IntKind.u64.wrap kind).tmod 6 = 1) (hq1 : (IntKind.u64.wrap tranche).tmod 4 = tr) (hq2 : (IntKind.u64.wrap ref2).tmod 3 = ref) (hq3 : bits .and .i64 amount 3 = am) (b1 : 0 ≤ tr) (b2 : tr ≤ 3) (b3 : 0 ≤ ref) (b4 : ref ≤ 2) (b5 : 0 ≤ am) (b6 : am ≤ 3)
    (w : World) : Calls Try.prog 7 #[.int .i64 kind, .int .i64 tranche, .int .i64 ref2, .int .i64 amount] w (RetB (.bool true) w) := by
  by_cases g_t1 : tr ≠ 0
  · exact evKinds_2_t1 kind tranche ref2 amount tr am ref hq hq1 hq2 hq3 b1 b2 b3 b4 b5 b6 (by omega) w
  by_cases g_a1 : am = 0
  · exact evKinds_2_a1 kind tranche ref2 amount tr am ref hq hq1 hq2 hq3 b1 b2 b3 b4 b5 b6 (by omega) w
  by_cases g_r1 : ref ≠ 0
  · exact evKinds_2_r1 kind tranche ref2 amount tr am ref hq hq1 hq2 hq3 b1 b2 b3 b4 b5 b6 (by omega) w
  exact evKinds_2_ok kind tranche ref2 amount tr am ref hq hq1 hq2 hq3 b1 b2 b3 b4 b5 b6 (by omega) w
set_option maxHeartbeats 800000 in
theorem evKinds_3_t1 (kind tranche ref2 amount tr am ref : Int) (hq : (IntKind.u64.wrap kind).tmod 6 = 2) (hq1 : (IntKind.u64.wrap tranche).tmod 4 = tr) (hq2 : (IntKind.u64.wrap ref2).tmod 3 = ref) (hq3 : bits .and .i64 amount 3 = am) (b1 : 0 ≤ tr) (b2 : tr ≤ 3) (b3 : 0 ≤ ref) (b4 : ref ≤ 2) (_b5 : 0 ≤ am) (_b6 : am ≤ 3)
    (h : (tr < 1)) (w : World) : Calls Try.prog 7 #[.int .i64 kind, .int .i64 tranche, .int .i64 ref2, .int .i64 amount] w (RetB (.bool true) w) := by
  have e1 : decide (tr < 1) = true := by simp; omega
  have HE : Hid (rightE 0 [(0, false), (0, false)] 1 1 0 0 10957 3 10957 tr am ref = 7) := by
    show _ = _
    rw [rightE, show rightT 0 [(0, false), (0, false)] 1 1 0 0 10957 = true from by decide]
    simp [refd]
    (repeat' split) <;> omega
  clear h
  go_enter Try.func7, Try.ntmps7
  go_wp2_with fail
  refine (terms7_any _).mono ?_
  rintro e w1 ⟨v1, rfl, ht1, hb1⟩
  go_wp2_with fail
  refine (evRight_any _ [(0, false), (0, false)] 0 1 1 0 0 10957 3 10957 tr am ref 7 HE _ ht1).mono ?_
  rintro e w2 ⟨rfl, hb2⟩
  go_wp2_with fail
  refine (awake7_any _).mono ?_
  rintro e w3 ⟨rfl, hb3⟩
  go_wp2_with fail
  go_ret
  exact ⟨rfl, (by repeat (first | exact Below.refl _ _ | refine bl_al ?_ _ | refine bl_dr ?_ | refine bl_dN ?_ _ | refine bl_tr ?_ (by assumption)))⟩
set_option maxHeartbeats 800000 in
theorem evKinds_3_t2 (kind tranche ref2 amount tr am ref : Int) (hq : (IntKind.u64.wrap kind).tmod 6 = 2) (hq1 : (IntKind.u64.wrap tranche).tmod 4 = tr) (hq2 : (IntKind.u64.wrap ref2).tmod 3 = ref) (hq3 : bits .and .i64 amount 3 = am) (b1 : 0 ≤ tr) (b2 : tr ≤ 3) (b3 : 0 ≤ ref) (b4 : ref ≤ 2) (_b5 : 0 ≤ am) (_b6 : am ≤ 3)
    (h : (2 < tr)) (w : World) : Calls Try.prog 7 #[.int .i64 kind, .int .i64 tranche, .int .i64 ref2, .int .i64 amount] w (RetB (.bool true) w) := by
  have e1 : decide (tr < 1) = false := by simp; omega
  have e2 : decide ((2 : Int) < tr) = true := by simp; omega
  have HE : Hid (rightE 0 [(0, false), (0, false)] 1 1 0 0 10957 3 10957 tr am ref = 7) := by
    show _ = _
    rw [rightE, show rightT 0 [(0, false), (0, false)] 1 1 0 0 10957 = true from by decide]
    simp [refd]
    (repeat' split) <;> omega
  clear h
  go_enter Try.func7, Try.ntmps7
  go_wp2_with fail
  refine (terms7_any _).mono ?_
  rintro e w1 ⟨v1, rfl, ht1, hb1⟩
  go_wp2_with fail
  refine (evRight_any _ [(0, false), (0, false)] 0 1 1 0 0 10957 3 10957 tr am ref 7 HE _ ht1).mono ?_
  rintro e w2 ⟨rfl, hb2⟩
  go_wp2_with fail
  refine (awake7_any _).mono ?_
  rintro e w3 ⟨rfl, hb3⟩
  go_wp2_with fail
  go_ret
  exact ⟨rfl, (by repeat (first | exact Below.refl _ _ | refine bl_al ?_ _ | refine bl_dr ?_ | refine bl_dN ?_ _ | refine bl_tr ?_ (by assumption)))⟩
set_option maxHeartbeats 800000 in
theorem evKinds_3_a1 (kind tranche ref2 amount tr am ref : Int) (hq : (IntKind.u64.wrap kind).tmod 6 = 2) (hq1 : (IntKind.u64.wrap tranche).tmod 4 = tr) (hq2 : (IntKind.u64.wrap ref2).tmod 3 = ref) (hq3 : bits .and .i64 amount 3 = am) (b1 : 0 ≤ tr) (b2 : tr ≤ 3) (b3 : 0 ≤ ref) (b4 : ref ≤ 2) (_b5 : 0 ≤ am) (_b6 : am ≤ 3)
    (h : (1 ≤ tr ∧ tr ≤ 2) ∧ (am = 0)) (w : World) : Calls Try.prog 7 #[.int .i64 kind, .int .i64 tranche, .int .i64 ref2, .int .i64 amount] w (RetB (.bool true) w) := by
  have e1 : decide (tr < 1) = false := by simp; omega
  have e2 : decide ((2 : Int) < tr) = false := by simp; omega
  have e3 : (am == 0) = true := by simp; omega
  have e4 : decide (am < 1) = true := by simp; omega
  have HE : Hid (rightE 0 [(0, false), (0, false)] 1 1 0 0 10957 3 10957 tr am ref = 8) := by
    show _ = _
    rw [rightE, show rightT 0 [(0, false), (0, false)] 1 1 0 0 10957 = true from by decide]
    simp [refd]
    (repeat' split) <;> omega
  clear h
  go_enter Try.func7, Try.ntmps7
  go_wp2_with fail
  refine (terms7_any _).mono ?_
  rintro e w1 ⟨v1, rfl, ht1, hb1⟩
  go_wp2_with fail
  refine (evRight_any _ [(0, false), (0, false)] 0 1 1 0 0 10957 3 10957 tr am ref 8 HE _ ht1).mono ?_
  rintro e w2 ⟨rfl, hb2⟩
  go_wp2_with fail
  refine (awake7_any _).mono ?_
  rintro e w3 ⟨rfl, hb3⟩
  go_wp2_with fail
  go_ret
  exact ⟨rfl, (by repeat (first | exact Below.refl _ _ | refine bl_al ?_ _ | refine bl_dr ?_ | refine bl_dN ?_ _ | refine bl_tr ?_ (by assumption)))⟩
set_option maxHeartbeats 800000 in
theorem evKinds_3_r1 (kind tranche ref2 amount tr am ref : Int) (hq : (IntKind.u64.wrap kind).tmod 6 = 2) (hq1 : (IntKind.u64.wrap tranche).tmod 4 = tr) (hq2 : (IntKind.u64.wrap ref2).tmod 3 = ref) (hq3 : bits .and .i64 amount 3 = am) (b1 : 0 ≤ tr) (b2 : tr ≤ 3) (b3 : 0 ≤ ref) (b4 : ref ≤ 2) (_b5 : 0 ≤ am) (_b6 : am ≤ 3)
    (h : (1 ≤ tr ∧ tr ≤ 2) ∧ (1 ≤ am) ∧ (ref ≠ 0)) (w : World) : Calls Try.prog 7 #[.int .i64 kind, .int .i64 tranche, .int .i64 ref2, .int .i64 amount] w (RetB (.bool true) w) := by
  have e1 : decide (tr < 1) = false := by simp; omega
  have e2 : decide ((2 : Int) < tr) = false := by simp; omega
  have e3 : (am == 0) = false := by simp; omega
  have e4 : decide (am < 1) = false := by simp; omega
  have e5 : decide ((1000000000000000 : Int) < am) = false := by simp; omega
  have e6 : decide ((0 : Int) < ref) = true := by simp; omega
  have e7 : (ref != 0) = true := by simp; omega
  have HE : Hid (rightE 0 [(0, false), (0, false)] 1 1 0 0 10957 3 10957 tr am ref = 1) := by
    show _ = _
    rw [rightE, show rightT 0 [(0, false), (0, false)] 1 1 0 0 10957 = true from by decide]
    simp [refd]
    (repeat' split) <;> omega
  clear h
  go_enter Try.func7, Try.ntmps7
  go_wp2_with fail
  refine (terms7_any _).mono ?_
  rintro e w1 ⟨v1, rfl, ht1, hb1⟩
  go_wp2_with fail
  refine (evRight_any _ [(0, false), (0, false)] 0 1 1 0 0 10957 3 10957 tr am ref 1 HE _ ht1).mono ?_
  rintro e w2 ⟨rfl, hb2⟩
  go_wp2_with fail
  refine (awake7_any _).mono ?_
  rintro e w3 ⟨rfl, hb3⟩
  go_wp2_with fail
  go_ret
  exact ⟨rfl, (by repeat (first | exact Below.refl _ _ | refine bl_al ?_ _ | refine bl_dr ?_ | refine bl_dN ?_ _ | refine bl_tr ?_ (by assumption)))⟩
set_option maxHeartbeats 800000 in
theorem evKinds_3_ok (kind tranche ref2 amount tr am ref : Int) (hq : (IntKind.u64.wrap kind).tmod 6 = 2) (hq1 : (IntKind.u64.wrap tranche).tmod 4 = tr) (hq2 : (IntKind.u64.wrap ref2).tmod 3 = ref) (hq3 : bits .and .i64 amount 3 = am) (b1 : 0 ≤ tr) (b2 : tr ≤ 3) (b3 : 0 ≤ ref) (b4 : ref ≤ 2) (_b5 : 0 ≤ am) (_b6 : am ≤ 3)
    (h : (1 ≤ tr ∧ tr ≤ 2) ∧ (1 ≤ am) ∧ (ref = 0)) (w : World) : Calls Try.prog 7 #[.int .i64 kind, .int .i64 tranche, .int .i64 ref2, .int .i64 amount] w (RetB (.bool true) w) := by
  have e1 : decide (tr < 1) = false := by simp; omega
  have e2 : decide ((2 : Int) < tr) = false := by simp; omega
  have e3 : (am == 0) = false := by simp; omega
  have e4 : decide (am < 1) = false := by simp; omega
  have e5 : decide ((1000000000000000 : Int) < am) = false := by simp; omega
  have e6 : decide ((0 : Int) < ref) = false := by simp; omega
  have e7 : (ref != 0) = false := by simp; omega
  have HE : Hid (rightE 0 [(0, false), (0, false)] 1 1 0 0 10957 3 10957 tr am ref = 0) := by
    show _ = _
    rw [rightE, show rightT 0 [(0, false), (0, false)] 1 1 0 0 10957 = true from by decide]
    simp [refd]
    (repeat' split) <;> omega
  clear h
  go_enter Try.func7, Try.ntmps7
  go_wp2_with fail
  refine (terms7_any _).mono ?_
  rintro e w1 ⟨v1, rfl, ht1, hb1⟩
  go_wp2_with fail
  refine (evRight_any _ [(0, false), (0, false)] 0 1 1 0 0 10957 3 10957 tr am ref 0 HE _ ht1).mono ?_
  rintro e w2 ⟨rfl, hb2⟩
  go_wp2_with fail
  refine (awake7_any _).mono ?_
  rintro e w3 ⟨rfl, hb3⟩
  go_wp2_with fail
  go_ret
  exact ⟨rfl, (by repeat (first | exact Below.refl _ _ | refine bl_al ?_ _ | refine bl_dr ?_ | refine bl_dN ?_ _ | refine bl_tr ?_ (by assumption)))⟩
theorem evKinds_3 (kind tranche ref2 amount tr am ref : Int) (hq : (IntKind.u64.wrap kind).tmod 6 = 2) (hq1 : (IntKind.u64.wrap tranche).tmod 4 = tr) (hq2 : (IntKind.u64.wrap ref2).tmod 3 = ref) (hq3 : bits .and .i64 amount 3 = am) (b1 : 0 ≤ tr) (b2 : tr ≤ 3) (b3 : 0 ≤ ref) (b4 : ref ≤ 2) (b5 : 0 ≤ am) (b6 : am ≤ 3)
    (w : World) : Calls Try.prog 7 #[.int .i64 kind, .int .i64 tranche, .int .i64 ref2, .int .i64 amount] w (RetB (.bool true) w) := by
  by_cases g_t1 : tr < 1
  · exact evKinds_3_t1 kind tranche ref2 amount tr am ref hq hq1 hq2 hq3 b1 b2 b3 b4 b5 b6 (by omega) w
  by_cases g_t2 : 2 < tr
  · exact evKinds_3_t2 kind tranche ref2 amount tr am ref hq hq1 hq2 hq3 b1 b2 b3 b4 b5 b6 (by omega) w
  by_cases g_a1 : am = 0
  · exact evKinds_3_a1 kind tranche ref2 amount tr am ref hq hq1 hq2 hq3 b1 b2 b3 b4 b5 b6 (by omega) w
  by_cases g_r1 : ref ≠ 0
  · exact evKinds_3_r1 kind tranche ref2 amount tr am ref hq hq1 hq2 hq3 b1 b2 b3 b4 b5 b6 (by omega) w
  exact evKinds_3_ok kind tranche ref2 amount tr am ref hq hq1 hq2 hq3 b1 b2 b3 b4 b5 b6 (by omega) w
set_option maxHeartbeats 800000 in
theorem evKinds_4_t1 (kind tranche ref2 amount tr am ref : Int) (hq : (IntKind.u64.wrap kind).tmod 6 = 3) (hq1 : (IntKind.u64.wrap tranche).tmod 4 = tr) (hq2 : (IntKind.u64.wrap ref2).tmod 3 = ref) (hq3 : bits .and .i64 amount 3 = am) (b1 : 0 ≤ tr) (b2 : tr ≤ 3) (b3 : 0 ≤ ref) (b4 : ref ≤ 2) (_b5 : 0 ≤ am) (_b6 : am ≤ 3)
    (h : (tr < 1)) (w : World) : Calls Try.prog 7 #[.int .i64 kind, .int .i64 tranche, .int .i64 ref2, .int .i64 amount] w (RetB (.bool true) w) := by
  have e1 : decide (tr < 1) = true := by simp; omega
  have HE : Hid (rightE 0 [(0, false), (0, false)] 1 1 0 0 10957 4 10957 tr am ref = 7) := by
    show _ = _
    rw [rightE, show rightT 0 [(0, false), (0, false)] 1 1 0 0 10957 = true from by decide]
    simp [refd]
    (repeat' split) <;> omega
  clear h
  go_enter Try.func7, Try.ntmps7
  go_wp2_with fail
  refine (terms7_any _).mono ?_
  rintro e w1 ⟨v1, rfl, ht1, hb1⟩
  go_wp2_with fail
  refine (evRight_any _ [(0, false), (0, false)] 0 1 1 0 0 10957 4 10957 tr am ref 7 HE _ ht1).mono ?_
  rintro e w2 ⟨rfl, hb2⟩
  go_wp2_with fail
  refine (awake7_any _).mono ?_
  rintro e w3 ⟨rfl, hb3⟩
  go_wp2_with fail
  go_ret
  exact ⟨rfl, (by repeat (first | exact Below.refl _ _ | refine bl_al ?_ _ | refine bl_dr ?_ | refine bl_dN ?_ _ | refine bl_tr ?_ (by assumption)))⟩
set_option maxHeartbeats 800000 in
theorem evKinds_4_t2 (kind tranche ref2 amount tr am ref : Int) (hq : (IntKind.u64.wrap kind).tmod 6 = 3) (hq1 : (IntKind.u64.wrap tranche).tmod 4 = tr) (hq2 : (IntKind.u64.wrap ref2).tmod 3 = ref) (hq3 : bits .and .i64 amount 3 = am) (b1 : 0 ≤ tr) (b2 : tr ≤ 3) (b3 : 0 ≤ ref) (b4 : ref ≤ 2) (_b5 : 0 ≤ am) (_b6 : am ≤ 3)
    (h : (2 < tr)) (w : World) : Calls Try.prog 7 #[.int .i64 kind, .int .i64 tranche, .int .i64 ref2, .int .i64 amount] w (RetB (.bool true) w) := by
  have e1 : decide (tr < 1) = false := by simp; omega
  have e2 : decide ((2 : Int) < tr) = true := by simp; omega
  have HE : Hid (rightE 0 [(0, false), (0, false)] 1 1 0 0 10957 4 10957 tr am ref = 7) := by
    show _ = _
    rw [rightE, show rightT 0 [(0, false), (0, false)] 1 1 0 0 10957 = true from by decide]
    simp [refd]
    (repeat' split) <;> omega
  clear h
  go_enter Try.func7, Try.ntmps7
  go_wp2_with fail
  refine (terms7_any _).mono ?_
  rintro e w1 ⟨v1, rfl, ht1, hb1⟩
  go_wp2_with fail
  refine (evRight_any _ [(0, false), (0, false)] 0 1 1 0 0 10957 4 10957 tr am ref 7 HE _ ht1).mono ?_
  rintro e w2 ⟨rfl, hb2⟩
  go_wp2_with fail
  refine (awake7_any _).mono ?_
  rintro e w3 ⟨rfl, hb3⟩
  go_wp2_with fail
  go_ret
  exact ⟨rfl, (by repeat (first | exact Below.refl _ _ | refine bl_al ?_ _ | refine bl_dr ?_ | refine bl_dN ?_ _ | refine bl_tr ?_ (by assumption)))⟩
set_option maxHeartbeats 800000 in
theorem evKinds_4_a1 (kind tranche ref2 amount tr am ref : Int) (hq : (IntKind.u64.wrap kind).tmod 6 = 3) (hq1 : (IntKind.u64.wrap tranche).tmod 4 = tr) (hq2 : (IntKind.u64.wrap ref2).tmod 3 = ref) (hq3 : bits .and .i64 amount 3 = am) (b1 : 0 ≤ tr) (b2 : tr ≤ 3) (b3 : 0 ≤ ref) (b4 : ref ≤ 2) (_b5 : 0 ≤ am) (_b6 : am ≤ 3)
    (h : (1 ≤ tr ∧ tr ≤ 2) ∧ (am = 0)) (w : World) : Calls Try.prog 7 #[.int .i64 kind, .int .i64 tranche, .int .i64 ref2, .int .i64 amount] w (RetB (.bool true) w) := by
  have e1 : decide (tr < 1) = false := by simp; omega
  have e2 : decide ((2 : Int) < tr) = false := by simp; omega
  have e3 : (am == 0) = true := by simp; omega
  have e4 : decide (am < 1) = true := by simp; omega
  have HE : Hid (rightE 0 [(0, false), (0, false)] 1 1 0 0 10957 4 10957 tr am ref = 8) := by
    show _ = _
    rw [rightE, show rightT 0 [(0, false), (0, false)] 1 1 0 0 10957 = true from by decide]
    simp [refd]
    (repeat' split) <;> omega
  clear h
  go_enter Try.func7, Try.ntmps7
  go_wp2_with fail
  refine (terms7_any _).mono ?_
  rintro e w1 ⟨v1, rfl, ht1, hb1⟩
  go_wp2_with fail
  refine (evRight_any _ [(0, false), (0, false)] 0 1 1 0 0 10957 4 10957 tr am ref 8 HE _ ht1).mono ?_
  rintro e w2 ⟨rfl, hb2⟩
  go_wp2_with fail
  refine (awake7_any _).mono ?_
  rintro e w3 ⟨rfl, hb3⟩
  go_wp2_with fail
  go_ret
  exact ⟨rfl, (by repeat (first | exact Below.refl _ _ | refine bl_al ?_ _ | refine bl_dr ?_ | refine bl_dN ?_ _ | refine bl_tr ?_ (by assumption)))⟩
set_option maxHeartbeats 800000 in
theorem evKinds_4_r1 (kind tranche ref2 amount tr am ref : Int) (hq : (IntKind.u64.wrap kind).tmod 6 = 3) (hq1 : (IntKind.u64.wrap tranche).tmod 4 = tr) (hq2 : (IntKind.u64.wrap ref2).tmod 3 = ref) (hq3 : bits .and .i64 amount 3 = am) (b1 : 0 ≤ tr) (b2 : tr ≤ 3) (b3 : 0 ≤ ref) (b4 : ref ≤ 2) (_b5 : 0 ≤ am) (_b6 : am ≤ 3)
    (h : (1 ≤ tr ∧ tr ≤ 2) ∧ (1 ≤ am) ∧ (ref < 1)) (w : World) : Calls Try.prog 7 #[.int .i64 kind, .int .i64 tranche, .int .i64 ref2, .int .i64 amount] w (RetB (.bool true) w) := by
  have e1 : decide (tr < 1) = false := by simp; omega
  have e2 : decide ((2 : Int) < tr) = false := by simp; omega
  have e3 : (am == 0) = false := by simp; omega
  have e4 : decide (am < 1) = false := by simp; omega
  have e5 : decide ((1000000000000000 : Int) < am) = false := by simp; omega
  have e6 : decide ((0 : Int) < ref) = false := by simp; omega
  have e7 : decide (ref < 1) = true := by simp; omega
  have HE : Hid (rightE 0 [(0, false), (0, false)] 1 1 0 0 10957 4 10957 tr am ref = 1) := by
    show _ = _
    rw [rightE, show rightT 0 [(0, false), (0, false)] 1 1 0 0 10957 = true from by decide]
    simp [refd]
    (repeat' split) <;> omega
  clear h
  go_enter Try.func7, Try.ntmps7
  go_wp2_with fail
  refine (terms7_any _).mono ?_
  rintro e w1 ⟨v1, rfl, ht1, hb1⟩
  go_wp2_with fail
  refine (evRight_any _ [(0, false), (0, false)] 0 1 1 0 0 10957 4 10957 tr am ref 1 HE _ ht1).mono ?_
  rintro e w2 ⟨rfl, hb2⟩
  go_wp2_with fail
  refine (awake7_any _).mono ?_
  rintro e w3 ⟨rfl, hb3⟩
  go_wp2_with fail
  go_ret
  exact ⟨rfl, (by repeat (first | exact Below.refl _ _ | refine bl_al ?_ _ | refine bl_dr ?_ | refine bl_dN ?_ _ | refine bl_tr ?_ (by assumption)))⟩
set_option maxHeartbeats 800000 in
theorem evKinds_4_ok (kind tranche ref2 amount tr am ref : Int) (hq : (IntKind.u64.wrap kind).tmod 6 = 3) (hq1 : (IntKind.u64.wrap tranche).tmod 4 = tr) (hq2 : (IntKind.u64.wrap ref2).tmod 3 = ref) (hq3 : bits .and .i64 amount 3 = am) (b1 : 0 ≤ tr) (b2 : tr ≤ 3) (b3 : 0 ≤ ref) (b4 : ref ≤ 2) (_b5 : 0 ≤ am) (_b6 : am ≤ 3)
    (h : (1 ≤ tr ∧ tr ≤ 2) ∧ (1 ≤ am) ∧ (1 ≤ ref)) (w : World) : Calls Try.prog 7 #[.int .i64 kind, .int .i64 tranche, .int .i64 ref2, .int .i64 amount] w (RetB (.bool true) w) := by
  have e1 : decide (tr < 1) = false := by simp; omega
  have e2 : decide ((2 : Int) < tr) = false := by simp; omega
  have e3 : (am == 0) = false := by simp; omega
  have e4 : decide (am < 1) = false := by simp; omega
  have e5 : decide ((1000000000000000 : Int) < am) = false := by simp; omega
  have e6 : decide ((0 : Int) < ref) = true := by simp; omega
  have e7 : decide (ref < 1) = false := by simp; omega
  have e8 : decide ((2000 : Int) < ref) = false := by simp; omega
  have HE : Hid (rightE 0 [(0, false), (0, false)] 1 1 0 0 10957 4 10957 tr am ref = 0) := by
    show _ = _
    rw [rightE, show rightT 0 [(0, false), (0, false)] 1 1 0 0 10957 = true from by decide]
    simp [refd]
    (repeat' split) <;> omega
  clear h
  go_enter Try.func7, Try.ntmps7
  go_wp2_with fail
  refine (terms7_any _).mono ?_
  rintro e w1 ⟨v1, rfl, ht1, hb1⟩
  go_wp2_with fail
  refine (evRight_any _ [(0, false), (0, false)] 0 1 1 0 0 10957 4 10957 tr am ref 0 HE _ ht1).mono ?_
  rintro e w2 ⟨rfl, hb2⟩
  go_wp2_with fail
  refine (awake7_any _).mono ?_
  rintro e w3 ⟨rfl, hb3⟩
  go_wp2_with fail
  go_ret
  exact ⟨rfl, (by repeat (first | exact Below.refl _ _ | refine bl_al ?_ _ | refine bl_dr ?_ | refine bl_dN ?_ _ | refine bl_tr ?_ (by assumption)))⟩
theorem evKinds_4 (kind tranche ref2 amount tr am ref : Int) (hq : (IntKind.u64.wrap kind).tmod 6 = 3) (hq1 : (IntKind.u64.wrap tranche).tmod 4 = tr) (hq2 : (IntKind.u64.wrap ref2).tmod 3 = ref) (hq3 : bits .and .i64 amount 3 = am) (b1 : 0 ≤ tr) (b2 : tr ≤ 3) (b3 : 0 ≤ ref) (b4 : ref ≤ 2) (b5 : 0 ≤ am) (b6 : am ≤ 3)
    (w : World) : Calls Try.prog 7 #[.int .i64 kind, .int .i64 tranche, .int .i64 ref2, .int .i64 amount] w (RetB (.bool true) w) := by
  by_cases g_t1 : tr < 1
  · exact evKinds_4_t1 kind tranche ref2 amount tr am ref hq hq1 hq2 hq3 b1 b2 b3 b4 b5 b6 (by omega) w
  by_cases g_t2 : 2 < tr
  · exact evKinds_4_t2 kind tranche ref2 amount tr am ref hq hq1 hq2 hq3 b1 b2 b3 b4 b5 b6 (by omega) w
  by_cases g_a1 : am = 0
  · exact evKinds_4_a1 kind tranche ref2 amount tr am ref hq hq1 hq2 hq3 b1 b2 b3 b4 b5 b6 (by omega) w
  by_cases g_r1 : ref < 1
  · exact evKinds_4_r1 kind tranche ref2 amount tr am ref hq hq1 hq2 hq3 b1 b2 b3 b4 b5 b6 (by omega) w
  exact evKinds_4_ok kind tranche ref2 amount tr am ref hq hq1 hq2 hq3 b1 b2 b3 b4 b5 b6 (by omega) w
set_option maxHeartbeats 800000 in
theorem evKinds_5_t1 (kind tranche ref2 amount tr am ref : Int) (hq : (IntKind.u64.wrap kind).tmod 6 = 4) (hq1 : (IntKind.u64.wrap tranche).tmod 4 = tr) (hq2 : (IntKind.u64.wrap ref2).tmod 3 = ref) (hq3 : bits .and .i64 amount 3 = am) (b1 : 0 ≤ tr) (b2 : tr ≤ 3) (b3 : 0 ≤ ref) (b4 : ref ≤ 2) (_b5 : 0 ≤ am) (_b6 : am ≤ 3)
    (h : (tr < 1)) (w : World) : Calls Try.prog 7 #[.int .i64 kind, .int .i64 tranche, .int .i64 ref2, .int .i64 amount] w (RetB (.bool true) w) := by
  have e1 : decide (tr < 1) = true := by simp; omega
  have HE : Hid (rightE 0 [(0, false), (0, false)] 1 1 0 0 10957 5 10957 tr am ref = 7) := by
    show _ = _
    rw [rightE, show rightT 0 [(0, false), (0, false)] 1 1 0 0 10957 = true from by decide]
    simp [refd]
    (repeat' split) <;> omega
  clear h
  go_enter Try.func7, Try.ntmps7
  go_wp2_with fail
  refine (terms7_any _).mono ?_
  rintro e w1 ⟨v1, rfl, ht1, hb1⟩
  go_wp2_with fail
  refine (evRight_any _ [(0, false), (0, false)] 0 1 1 0 0 10957 5 10957 tr am ref 7 HE _ ht1).mono ?_
  rintro e w2 ⟨rfl, hb2⟩
  go_wp2_with fail
  refine (awake7_any _).mono ?_
  rintro e w3 ⟨rfl, hb3⟩
  go_wp2_with fail
  go_ret
  exact ⟨rfl, (by repeat (first | exact Below.refl _ _ | refine bl_al ?_ _ | refine bl_dr ?_ | refine bl_dN ?_ _ | refine bl_tr ?_ (by assumption)))⟩
set_option maxHeartbeats 800000 in
theorem evKinds_5_t2 (kind tranche ref2 amount tr am ref : Int) (hq : (IntKind.u64.wrap kind).tmod 6 = 4) (hq1 : (IntKind.u64.wrap tranche).tmod 4 = tr) (hq2 : (IntKind.u64.wrap ref2).tmod 3 = ref) (hq3 : bits .and .i64 amount 3 = am) (b1 : 0 ≤ tr) (b2 : tr ≤ 3) (b3 : 0 ≤ ref) (b4 : ref ≤ 2) (_b5 : 0 ≤ am) (_b6 : am ≤ 3)
    (h : (2 < tr)) (w : World) : Calls Try.prog 7 #[.int .i64 kind, .int .i64 tranche, .int .i64 ref2, .int .i64 amount] w (RetB (.bool true) w) := by
  have e1 : decide (tr < 1) = false := by simp; omega
  have e2 : decide ((2 : Int) < tr) = true := by simp; omega
  have HE : Hid (rightE 0 [(0, false), (0, false)] 1 1 0 0 10957 5 10957 tr am ref = 7) := by
    show _ = _
    rw [rightE, show rightT 0 [(0, false), (0, false)] 1 1 0 0 10957 = true from by decide]
    simp [refd]
    (repeat' split) <;> omega
  clear h
  go_enter Try.func7, Try.ntmps7
  go_wp2_with fail
  refine (terms7_any _).mono ?_
  rintro e w1 ⟨v1, rfl, ht1, hb1⟩
  go_wp2_with fail
  refine (evRight_any _ [(0, false), (0, false)] 0 1 1 0 0 10957 5 10957 tr am ref 7 HE _ ht1).mono ?_
  rintro e w2 ⟨rfl, hb2⟩
  go_wp2_with fail
  refine (awake7_any _).mono ?_
  rintro e w3 ⟨rfl, hb3⟩
  go_wp2_with fail
  go_ret
  exact ⟨rfl, (by repeat (first | exact Below.refl _ _ | refine bl_al ?_ _ | refine bl_dr ?_ | refine bl_dN ?_ _ | refine bl_tr ?_ (by assumption)))⟩
set_option maxHeartbeats 800000 in
theorem evKinds_5_a1 (kind tranche ref2 amount tr am ref : Int) (hq : (IntKind.u64.wrap kind).tmod 6 = 4) (hq1 : (IntKind.u64.wrap tranche).tmod 4 = tr) (hq2 : (IntKind.u64.wrap ref2).tmod 3 = ref) (hq3 : bits .and .i64 amount 3 = am) (b1 : 0 ≤ tr) (b2 : tr ≤ 3) (b3 : 0 ≤ ref) (b4 : ref ≤ 2) (_b5 : 0 ≤ am) (_b6 : am ≤ 3)
    (h : (1 ≤ tr ∧ tr ≤ 2) ∧ (am = 0)) (w : World) : Calls Try.prog 7 #[.int .i64 kind, .int .i64 tranche, .int .i64 ref2, .int .i64 amount] w (RetB (.bool true) w) := by
  have e1 : decide (tr < 1) = false := by simp; omega
  have e2 : decide ((2 : Int) < tr) = false := by simp; omega
  have e3 : (am == 0) = true := by simp; omega
  have e4 : decide (am < 1) = true := by simp; omega
  have HE : Hid (rightE 0 [(0, false), (0, false)] 1 1 0 0 10957 5 10957 tr am ref = 8) := by
    show _ = _
    rw [rightE, show rightT 0 [(0, false), (0, false)] 1 1 0 0 10957 = true from by decide]
    simp [refd]
    (repeat' split) <;> omega
  clear h
  go_enter Try.func7, Try.ntmps7
  go_wp2_with fail
  refine (terms7_any _).mono ?_
  rintro e w1 ⟨v1, rfl, ht1, hb1⟩
  go_wp2_with fail
  refine (evRight_any _ [(0, false), (0, false)] 0 1 1 0 0 10957 5 10957 tr am ref 8 HE _ ht1).mono ?_
  rintro e w2 ⟨rfl, hb2⟩
  go_wp2_with fail
  refine (awake7_any _).mono ?_
  rintro e w3 ⟨rfl, hb3⟩
  go_wp2_with fail
  go_ret
  exact ⟨rfl, (by repeat (first | exact Below.refl _ _ | refine bl_al ?_ _ | refine bl_dr ?_ | refine bl_dN ?_ _ | refine bl_tr ?_ (by assumption)))⟩
set_option maxHeartbeats 800000 in
theorem evKinds_5_r1 (kind tranche ref2 amount tr am ref : Int) (hq : (IntKind.u64.wrap kind).tmod 6 = 4) (hq1 : (IntKind.u64.wrap tranche).tmod 4 = tr) (hq2 : (IntKind.u64.wrap ref2).tmod 3 = ref) (hq3 : bits .and .i64 amount 3 = am) (b1 : 0 ≤ tr) (b2 : tr ≤ 3) (b3 : 0 ≤ ref) (b4 : ref ≤ 2) (_b5 : 0 ≤ am) (_b6 : am ≤ 3)
    (h : (1 ≤ tr ∧ tr ≤ 2) ∧ (1 ≤ am) ∧ (ref < 1)) (w : World) : Calls Try.prog 7 #[.int .i64 kind, .int .i64 tranche, .int .i64 ref2, .int .i64 amount] w (RetB (.bool true) w) := by
  have e1 : decide (tr < 1) = false := by simp; omega
  have e2 : decide ((2 : Int) < tr) = false := by simp; omega
  have e3 : (am == 0) = false := by simp; omega
  have e4 : decide (am < 1) = false := by simp; omega
  have e5 : decide ((1000000000000000 : Int) < am) = false := by simp; omega
  have e6 : decide ((0 : Int) < ref) = false := by simp; omega
  have e7 : decide (ref < 1) = true := by simp; omega
  have HE : Hid (rightE 0 [(0, false), (0, false)] 1 1 0 0 10957 5 10957 tr am ref = 1) := by
    show _ = _
    rw [rightE, show rightT 0 [(0, false), (0, false)] 1 1 0 0 10957 = true from by decide]
    simp [refd]
    (repeat' split) <;> omega
  clear h
  go_enter Try.func7, Try.ntmps7
  go_wp2_with fail
  refine (terms7_any _).mono ?_
  rintro e w1 ⟨v1, rfl, ht1, hb1⟩
  go_wp2_with fail
  refine (evRight_any _ [(0, false), (0, false)] 0 1 1 0 0 10957 5 10957 tr am ref 1 HE _ ht1).mono ?_
  rintro e w2 ⟨rfl, hb2⟩
  go_wp2_with fail
  refine (awake7_any _).mono ?_
  rintro e w3 ⟨rfl, hb3⟩
  go_wp2_with fail
  go_ret
  exact ⟨rfl, (by repeat (first | exact Below.refl _ _ | refine bl_al ?_ _ | refine bl_dr ?_ | refine bl_dN ?_ _ | refine bl_tr ?_ (by assumption)))⟩
set_option maxHeartbeats 800000 in
theorem evKinds_5_ok (kind tranche ref2 amount tr am ref : Int) (hq : (IntKind.u64.wrap kind).tmod 6 = 4) (hq1 : (IntKind.u64.wrap tranche).tmod 4 = tr) (hq2 : (IntKind.u64.wrap ref2).tmod 3 = ref) (hq3 : bits .and .i64 amount 3 = am) (b1 : 0 ≤ tr) (b2 : tr ≤ 3) (b3 : 0 ≤ ref) (b4 : ref ≤ 2) (_b5 : 0 ≤ am) (_b6 : am ≤ 3)
    (h : (1 ≤ tr ∧ tr ≤ 2) ∧ (1 ≤ am) ∧ (1 ≤ ref)) (w : World) : Calls Try.prog 7 #[.int .i64 kind, .int .i64 tranche, .int .i64 ref2, .int .i64 amount] w (RetB (.bool true) w) := by
  have e1 : decide (tr < 1) = false := by simp; omega
  have e2 : decide ((2 : Int) < tr) = false := by simp; omega
  have e3 : (am == 0) = false := by simp; omega
  have e4 : decide (am < 1) = false := by simp; omega
  have e5 : decide ((1000000000000000 : Int) < am) = false := by simp; omega
  have e6 : decide ((0 : Int) < ref) = true := by simp; omega
  have e7 : decide (ref < 1) = false := by simp; omega
  have e8 : decide ((2000 : Int) < ref) = false := by simp; omega
  have HE : Hid (rightE 0 [(0, false), (0, false)] 1 1 0 0 10957 5 10957 tr am ref = 0) := by
    show _ = _
    rw [rightE, show rightT 0 [(0, false), (0, false)] 1 1 0 0 10957 = true from by decide]
    simp [refd]
    (repeat' split) <;> omega
  clear h
  go_enter Try.func7, Try.ntmps7
  go_wp2_with fail
  refine (terms7_any _).mono ?_
  rintro e w1 ⟨v1, rfl, ht1, hb1⟩
  go_wp2_with fail
  refine (evRight_any _ [(0, false), (0, false)] 0 1 1 0 0 10957 5 10957 tr am ref 0 HE _ ht1).mono ?_
  rintro e w2 ⟨rfl, hb2⟩
  go_wp2_with fail
  refine (awake7_any _).mono ?_
  rintro e w3 ⟨rfl, hb3⟩
  go_wp2_with fail
  go_ret
  exact ⟨rfl, (by repeat (first | exact Below.refl _ _ | refine bl_al ?_ _ | refine bl_dr ?_ | refine bl_dN ?_ _ | refine bl_tr ?_ (by assumption)))⟩
theorem evKinds_5 (kind tranche ref2 amount tr am ref : Int) (hq : (IntKind.u64.wrap kind).tmod 6 = 4) (hq1 : (IntKind.u64.wrap tranche).tmod 4 = tr) (hq2 : (IntKind.u64.wrap ref2).tmod 3 = ref) (hq3 : bits .and .i64 amount 3 = am) (b1 : 0 ≤ tr) (b2 : tr ≤ 3) (b3 : 0 ≤ ref) (b4 : ref ≤ 2) (b5 : 0 ≤ am) (b6 : am ≤ 3)
    (w : World) : Calls Try.prog 7 #[.int .i64 kind, .int .i64 tranche, .int .i64 ref2, .int .i64 amount] w (RetB (.bool true) w) := by
  by_cases g_t1 : tr < 1
  · exact evKinds_5_t1 kind tranche ref2 amount tr am ref hq hq1 hq2 hq3 b1 b2 b3 b4 b5 b6 (by omega) w
  by_cases g_t2 : 2 < tr
  · exact evKinds_5_t2 kind tranche ref2 amount tr am ref hq hq1 hq2 hq3 b1 b2 b3 b4 b5 b6 (by omega) w
  by_cases g_a1 : am = 0
  · exact evKinds_5_a1 kind tranche ref2 amount tr am ref hq hq1 hq2 hq3 b1 b2 b3 b4 b5 b6 (by omega) w
  by_cases g_r1 : ref < 1
  · exact evKinds_5_r1 kind tranche ref2 amount tr am ref hq hq1 hq2 hq3 b1 b2 b3 b4 b5 b6 (by omega) w
  exact evKinds_5_ok kind tranche ref2 amount tr am ref hq hq1 hq2 hq3 b1 b2 b3 b4 b5 b6 (by omega) w
set_option maxHeartbeats 800000 in
theorem evKinds_6_t1 (kind tranche ref2 amount tr am ref : Int) (hq : (IntKind.u64.wrap kind).tmod 6 = 5) (hq1 : (IntKind.u64.wrap tranche).tmod 4 = tr) (hq2 : (IntKind.u64.wrap ref2).tmod 3 = ref) (hq3 : bits .and .i64 amount 3 = am) (b1 : 0 ≤ tr) (b2 : tr ≤ 3) (b3 : 0 ≤ ref) (b4 : ref ≤ 2) (_b5 : 0 ≤ am) (_b6 : am ≤ 3)
    (h : (tr < 1)) (w : World) : Calls Try.prog 7 #[.int .i64 kind, .int .i64 tranche, .int .i64 ref2, .int .i64 amount] w (RetB (.bool true) w) := by
  have e1 : decide (tr < 1) = true := by simp; omega
  have HE : Hid (rightE 0 [(0, false), (0, false)] 1 1 0 0 10957 6 10957 tr am ref = 7) := by
    show _ = _
    rw [rightE, show rightT 0 [(0, false), (0, false)] 1 1 0 0 10957 = true from by decide]
    simp [refd]
    (repeat' split) <;> omega
  clear h
  go_enter Try.func7, Try.ntmps7
  go_wp2_with fail
  refine (terms7_any _).mono ?_
  rintro e w1 ⟨v1, rfl, ht1, hb1⟩
  go_wp2_with fail
  refine (evRight_any _ [(0, false), (0, false)] 0 1 1 0 0 10957 6 10957 tr am ref 7 HE _ ht1).mono ?_
  rintro e w2 ⟨rfl, hb2⟩
  go_wp2_with fail
  refine (awake7_any _).mono ?_
  rintro e w3 ⟨rfl, hb3⟩
  go_wp2_with fail
  go_ret
  exact ⟨rfl, (by repeat (first | exact Below.refl _ _ | refine bl_al ?_ _ | refine bl_dr ?_ | refine bl_dN ?_ _ | refine bl_tr ?_ (by assumption)))⟩
set_option maxHeartbeats 800000 in
theorem evKinds_6_t2 (kind tranche ref2 amount tr am ref : Int) (hq : (IntKind.u64.wrap kind).tmod 6 = 5) (hq1 : (IntKind.u64.wrap tranche).tmod 4 = tr) (hq2 : (IntKind.u64.wrap ref2).tmod 3 = ref) (hq3 : bits .and .i64 amount 3 = am) (b1 : 0 ≤ tr) (b2 : tr ≤ 3) (b3 : 0 ≤ ref) (b4 : ref ≤ 2) (_b5 : 0 ≤ am) (_b6 : am ≤ 3)
    (h : (2 < tr)) (w : World) : Calls Try.prog 7 #[.int .i64 kind, .int .i64 tranche, .int .i64 ref2, .int .i64 amount] w (RetB (.bool true) w) := by
  have e1 : decide (tr < 1) = false := by simp; omega
  have e2 : decide ((2 : Int) < tr) = true := by simp; omega
  have HE : Hid (rightE 0 [(0, false), (0, false)] 1 1 0 0 10957 6 10957 tr am ref = 7) := by
    show _ = _
    rw [rightE, show rightT 0 [(0, false), (0, false)] 1 1 0 0 10957 = true from by decide]
    simp [refd]
    (repeat' split) <;> omega
  clear h
  go_enter Try.func7, Try.ntmps7
  go_wp2_with fail
  refine (terms7_any _).mono ?_
  rintro e w1 ⟨v1, rfl, ht1, hb1⟩
  go_wp2_with fail
  refine (evRight_any _ [(0, false), (0, false)] 0 1 1 0 0 10957 6 10957 tr am ref 7 HE _ ht1).mono ?_
  rintro e w2 ⟨rfl, hb2⟩
  go_wp2_with fail
  refine (awake7_any _).mono ?_
  rintro e w3 ⟨rfl, hb3⟩
  go_wp2_with fail
  go_ret
  exact ⟨rfl, (by repeat (first | exact Below.refl _ _ | refine bl_al ?_ _ | refine bl_dr ?_ | refine bl_dN ?_ _ | refine bl_tr ?_ (by assumption)))⟩
set_option maxHeartbeats 800000 in
theorem evKinds_6_r1 (kind tranche ref2 amount tr am ref : Int) (hq : (IntKind.u64.wrap kind).tmod 6 = 5) (hq1 : (IntKind.u64.wrap tranche).tmod 4 = tr) (hq2 : (IntKind.u64.wrap ref2).tmod 3 = ref) (hq3 : bits .and .i64 amount 3 = am) (b1 : 0 ≤ tr) (b2 : tr ≤ 3) (b3 : 0 ≤ ref) (b4 : ref ≤ 2) (_b5 : 0 ≤ am) (_b6 : am ≤ 3)
    (h : (1 ≤ tr ∧ tr ≤ 2) ∧ (0 ≤ am) ∧ (ref ≠ 0)) (w : World) : Calls Try.prog 7 #[.int .i64 kind, .int .i64 tranche, .int .i64 ref2, .int .i64 amount] w (RetB (.bool true) w) := by
  have e1 : decide (tr < 1) = false := by simp; omega
  have e2 : decide ((2 : Int) < tr) = false := by simp; omega
  have e4 : decide (am < 0) = false := by simp; omega
  have e5 : decide ((10000000 : Int) < am) = false := by simp; omega
  have e6 : decide ((0 : Int) < ref) = true := by simp; omega
  have e7 : (ref != 0) = true := by simp; omega
  have HE : Hid (rightE 0 [(0, false), (0, false)] 1 1 0 0 10957 6 10957 tr am ref = 1) := by
    show _ = _
    rw [rightE, show rightT 0 [(0, false), (0, false)] 1 1 0 0 10957 = true from by decide]
    simp [refd]
    (repeat' split) <;> omega
  clear h
  go_enter Try.func7, Try.ntmps7
  go_wp2_with fail
  refine (terms7_any _).mono ?_
  rintro e w1 ⟨v1, rfl, ht1, hb1⟩
  go_wp2_with fail
  refine (evRight_any _ [(0, false), (0, false)] 0 1 1 0 0 10957 6 10957 tr am ref 1 HE _ ht1).mono ?_
  rintro e w2 ⟨rfl, hb2⟩
  go_wp2_with fail
  refine (awake7_any _).mono ?_
  rintro e w3 ⟨rfl, hb3⟩
  go_wp2_with fail
  go_ret
  exact ⟨rfl, (by repeat (first | exact Below.refl _ _ | refine bl_al ?_ _ | refine bl_dr ?_ | refine bl_dN ?_ _ | refine bl_tr ?_ (by assumption)))⟩
set_option maxHeartbeats 800000 in
theorem evKinds_6_ok (kind tranche ref2 amount tr am ref : Int) (hq : (IntKind.u64.wrap kind).tmod 6 = 5) (hq1 : (IntKind.u64.wrap tranche).tmod 4 = tr) (hq2 : (IntKind.u64.wrap ref2).tmod 3 = ref) (hq3 : bits .and .i64 amount 3 = am) (b1 : 0 ≤ tr) (b2 : tr ≤ 3) (b3 : 0 ≤ ref) (b4 : ref ≤ 2) (_b5 : 0 ≤ am) (_b6 : am ≤ 3)
    (h : (1 ≤ tr ∧ tr ≤ 2) ∧ (0 ≤ am) ∧ (ref = 0)) (w : World) : Calls Try.prog 7 #[.int .i64 kind, .int .i64 tranche, .int .i64 ref2, .int .i64 amount] w (RetB (.bool true) w) := by
  have e1 : decide (tr < 1) = false := by simp; omega
  have e2 : decide ((2 : Int) < tr) = false := by simp; omega
  have e4 : decide (am < 0) = false := by simp; omega
  have e5 : decide ((10000000 : Int) < am) = false := by simp; omega
  have e6 : decide ((0 : Int) < ref) = false := by simp; omega
  have e7 : (ref != 0) = false := by simp; omega
  have HE : Hid (rightE 0 [(0, false), (0, false)] 1 1 0 0 10957 6 10957 tr am ref = 0) := by
    show _ = _
    rw [rightE, show rightT 0 [(0, false), (0, false)] 1 1 0 0 10957 = true from by decide]
    simp [refd]
    (repeat' split) <;> omega
  clear h
  go_enter Try.func7, Try.ntmps7
  go_wp2_with fail
  refine (terms7_any _).mono ?_
  rintro e w1 ⟨v1, rfl, ht1, hb1⟩
  go_wp2_with fail
  refine (evRight_any _ [(0, false), (0, false)] 0 1 1 0 0 10957 6 10957 tr am ref 0 HE _ ht1).mono ?_
  rintro e w2 ⟨rfl, hb2⟩
  go_wp2_with fail
  refine (awake7_any _).mono ?_
  rintro e w3 ⟨rfl, hb3⟩
  go_wp2_with fail
  go_ret
  exact ⟨rfl, (by repeat (first | exact Below.refl _ _ | refine bl_al ?_ _ | refine bl_dr ?_ | refine bl_dN ?_ _ | refine bl_tr ?_ (by assumption)))⟩
theorem evKinds_6 (kind tranche ref2 amount tr am ref : Int) (hq : (IntKind.u64.wrap kind).tmod 6 = 5) (hq1 : (IntKind.u64.wrap tranche).tmod 4 = tr) (hq2 : (IntKind.u64.wrap ref2).tmod 3 = ref) (hq3 : bits .and .i64 amount 3 = am) (b1 : 0 ≤ tr) (b2 : tr ≤ 3) (b3 : 0 ≤ ref) (b4 : ref ≤ 2) (b5 : 0 ≤ am) (b6 : am ≤ 3)
    (w : World) : Calls Try.prog 7 #[.int .i64 kind, .int .i64 tranche, .int .i64 ref2, .int .i64 amount] w (RetB (.bool true) w) := by
  by_cases g_t1 : tr < 1
  · exact evKinds_6_t1 kind tranche ref2 amount tr am ref hq hq1 hq2 hq3 b1 b2 b3 b4 b5 b6 (by omega) w
  by_cases g_t2 : 2 < tr
  · exact evKinds_6_t2 kind tranche ref2 amount tr am ref hq hq1 hq2 hq3 b1 b2 b3 b4 b5 b6 (by omega) w
  by_cases g_r1 : ref ≠ 0
  · exact evKinds_6_r1 kind tranche ref2 amount tr am ref hq hq1 hq2 hq3 b1 b2 b3 b4 b5 b6 (by omega) w
  exact evKinds_6_ok kind tranche ref2 amount tr am ref hq hq1 hq2 hq3 b1 b2 b3 b4 b5 b6 (by omega) w
theorem evKinds_any (kind tranche ref2 amount : Int) (w : World) : Calls Try.prog 7 #[.int .i64 kind, .int .i64 tranche, .int .i64 ref2, .int .i64 amount] w (RetB (.bool true) w) := by
  have h0 : 0 ≤ IntKind.u64.wrap kind := by rw [u64_wrap]; omega
  have h1 : 0 ≤ IntKind.u64.wrap tranche := by rw [u64_wrap]; omega
  have h2 : 0 ≤ IntKind.u64.wrap ref2 := by rw [u64_wrap]; omega
  have h3 : 0 ≤ (IntKind.u64.wrap tranche).tmod 4 ∧ (IntKind.u64.wrap tranche).tmod 4 ≤ 3 := by rw [Int.tmod_eq_emod_of_nonneg h1]; omega
  have h4 : 0 ≤ (IntKind.u64.wrap ref2).tmod 3 ∧ (IntKind.u64.wrap ref2).tmod 3 ≤ 2 := by rw [Int.tmod_eq_emod_of_nonneg h2]; omega
  have h5 := and3 amount
  have h : (IntKind.u64.wrap kind).tmod 6 = 0 ∨ (IntKind.u64.wrap kind).tmod 6 = 1 ∨ (IntKind.u64.wrap kind).tmod 6 = 2 ∨ (IntKind.u64.wrap kind).tmod 6 = 3 ∨ (IntKind.u64.wrap kind).tmod 6 = 4 ∨ (IntKind.u64.wrap kind).tmod 6 = 5 := by
    rw [Int.tmod_eq_emod_of_nonneg h0]
    omega
  rcases h with h | h | h | h | h | h
  · exact evKinds_1 kind tranche ref2 amount _ _ _ h rfl rfl rfl h3.1 h3.2 h4.1 h4.2 h5.1 h5.2 w
  · exact evKinds_2 kind tranche ref2 amount _ _ _ h rfl rfl rfl h3.1 h3.2 h4.1 h4.2 h5.1 h5.2 w
  · exact evKinds_3 kind tranche ref2 amount _ _ _ h rfl rfl rfl h3.1 h3.2 h4.1 h4.2 h5.1 h5.2 w
  · exact evKinds_4 kind tranche ref2 amount _ _ _ h rfl rfl rfl h3.1 h3.2 h4.1 h4.2 h5.1 h5.2 w
  · exact evKinds_5 kind tranche ref2 amount _ _ _ h rfl rfl rfl h3.1 h3.2 h4.1 h4.2 h5.1 h5.2 w
  · exact evKinds_6 kind tranche ref2 amount _ _ _ h rfl rfl rfl h3.1 h3.2 h4.1 h4.2 h5.1 h5.2 w
end Go.Proofs.Ytofajlemknkndaa

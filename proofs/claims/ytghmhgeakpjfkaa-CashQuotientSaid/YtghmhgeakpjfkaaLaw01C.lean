/- CashSums, CashBounds, CashQuotient. -/
import Derived.Test.YtghmhgeakpjfkaaLaw01B
import Derived.Test.YtghmhgeakpjfkaaAdd
import Derived.Test.YtghmhgeakpjfkaaOwn64
import Derived.Test.YtghmhgeakpjfkaaKept64
namespace Go.Proofs.Ytghmhgeakpjfkaa
open Go.RowKit EvM

set_option maxHeartbeats 800000 in
set_option maxRecDepth 100000 in
theorem cashSums_any (v : Value) (xs : List Int) (a b : Int) (w : World) (hv : Sl .i64 w v xs) :
    Calls Try.prog 12 #[v, .int .i64 a, .int .i64 b] w (RetB (.bool true) w) := by
  have HV := Lib.hid hv
  obtain ⟨ao, cap, rfl, h1, ⟨h2, _⟩, h3⟩ := hv
  clear h3
  unfold maxLen at h2
  by_cases hlt : xs.length ≤ 300
  · have d1 : decide ((300 : Int) < (xs.length : Int)) = false := by simp; omega
    obtain ⟨x, e, hx⟩ : ∃ x e, addG 0 xs = (x, e) := ⟨_, _, rfl⟩
    obtain ⟨y, f, hy⟩ : ∃ x e, subR a b = (x, e) := ⟨_, _, rfl⟩
    obtain ⟨m, hm⟩ : ∃ m, mayM a = m := ⟨_, rfl⟩
    have HX := Lib.hid hx
    have HY := Lib.hid hy
    have HM := Lib.hid hm
    clear hx hy hm
    go_enter Try.func12, Try.ntmps12
    go_wp2_with fail
    refine (own64_any _ xs 71 _ HV.out (by omega)).mono ?_
    rintro _ w1 ⟨u1, rfl, hs1, hb1⟩
    have HS1 := Lib.hid hs1
    have hs1' := Lib.hid hs1.sl
    obtain ⟨ao1, rfl, _, _⟩ := hs1
    go_wp2_with fail
    refine (add_any _ xs x e HX (by omega) _ hs1'.out).mono ?_
    rintro _ w2 ⟨rfl, hb2⟩
    go_wp2_with fail
    refine (refAdd_any _ xs x e HX (by omega) _ (HV.out.below (by repeat (first | with_reducible exact Below.refl _ _ | (with_reducible refine bl_sc ?_ ?hge; case hge => (first | exact Nat.le_refl _ | omega)) | with_reducible refine bl_al ?_ _ | with_reducible refine bl_dr ?_ | with_reducible refine bl_dN ?_ _ | (refine bl_tr ?_ (by assumption)) | (refine bl_gr ?_ (by assumption) (by first | exact Nat.le_refl _ | omega)) | exact Below.refl _ _ | refine bl_al ?_ _ | refine bl_dr ?_ | refine bl_dN ?_ _)))).mono ?_
    rintro _ w3 ⟨rfl, hb3⟩
    go_wp2_with fail
    refine (sub_any a b y f HY _).mono ?_
    rintro _ w4 ⟨rfl, hb4⟩
    go_wp2_with fail
    refine (refSub_any a b y f HY _).mono ?_
    rintro _ w5 ⟨rfl, hb5⟩
    go_wp2_with fail
    refine (awake1_any _).mono ?_
    rintro _ w6 ⟨rfl, hb6⟩
    go_wp2_with fail
    refine (may_is HM.out _).mono ?_
    rintro _ w7 ⟨rfl, rfl⟩
    go_wp2_with fail
    refine (refMay_is HM.out _).mono ?_
    rintro _ w7 ⟨rfl, rfl⟩
    have hk : Below w1.heap.size w1 w6 := (by repeat (first | with_reducible exact Below.refl _ _ | (with_reducible refine bl_sc ?_ ?hge; case hge => (first | exact Nat.le_refl _ | omega)) | with_reducible refine bl_al ?_ _ | with_reducible refine bl_dr ?_ | with_reducible refine bl_dN ?_ _ | (refine bl_tr ?_ (by assumption)) | (refine bl_gr ?_ (by assumption) (by first | exact Nat.le_refl _ | omega)) | exact Below.refl _ _ | refine bl_al ?_ _ | refine bl_dr ?_ | refine bl_dN ?_ _))
    have hkw : Below w.heap.size w w6 := bl_tr hb1 hk
    clear hb2 hb3 hb4 hb5 hb6
    cases m
    all_goals
      go_wp2_with fail
      refine (kept64_true _ _ xs 71 _ (HS1.out.below hk) (HV.out.below hkw) (by omega)).mono ?_
      rintro _ w8 ⟨rfl, hb8⟩
      go_wp2
      go_ret
      exact ⟨rfl, bl_tr hkw hb8⟩
  · have d1 : decide ((300 : Int) < (xs.length : Int)) = true := by simp; omega
    go_enter Try.func12, Try.ntmps12
    go_wp2_with fail
    refine (awake1_any _).mono ?_
    rintro _ w6 ⟨rfl, hb6⟩
    go_wp2
    go_ret
    exact ⟨rfl, hb6⟩

theorem add_two {c n m : Int} (h : c + n = m) (hc : mayM c = true) (hn : mayM n = true) (hm : mayM m = true) : addG 0 [c, n] = (m, 0) := by
  unfold addG addG addG
  rw [Int.zero_add, if_pos ⟨hc, hc⟩, h, if_pos ⟨hn, hm⟩]
theorem add_over {c n : Int} (h : mayM (c + n) = false) : addG 0 [c, n] = (0, 5) := by
  unfold addG addG
  rw [Int.zero_add]
  split
  · rw [if_neg (by rw [h]; simp)]
  · rfl
theorem sub_two {c d m : Int} (h : c - d = m) (hc : mayM c = true) (hd : mayM d = true) (hm : mayM m = true) : subR c d = (m, 0) := by
  unfold subR
  rw [h, if_pos ⟨hc, hd, hm⟩]

set_option maxHeartbeats 1600000 in
set_option maxRecDepth 100000 in
theorem cashBounds_go {up : Bool} {n : Int} (w : World) : Calls Try.prog 13 #[.bool up, .int .i64 n] w (RetB (.bool true) w) := by
  obtain ⟨k, hk, hkl⟩ := and_255 n
  cases up with
  | true =>
    by_cases hk0 : k = 0
    · subst hk0
      have s1 := Lib.hid (show addG 0 [1000000000000000, 0] = (1000000000000000, 0) by decide)
      have s2 := s1
      have s3 := Lib.hid (show subR 1000000000000000 0 = (1000000000000000, 0) by decide)
      go_enter Try.func13, Try.ntmps13
      go_wp2_with fail
      refine (add_any _ [1000000000000000, 0] 1000000000000000 0 s1 (by simp) _ (Sl.lit _ _ [1000000000000000, 0] 2 rfl _ rfl (by unfold maxLen; omega))).mono ?_
      rintro _ w1 ⟨rfl, hb1⟩
      go_wp2_with fail
      refine (add_any _ [1000000000000000, 0] 1000000000000000 0 s2 (by simp) _ (Sl.lit _ _ [1000000000000000, 0] 2 rfl _ rfl (by unfold maxLen; omega))).mono ?_
      rintro _ w2 ⟨rfl, hb2⟩
      go_wp2_with fail
      with_reducible refine (sub_any 1000000000000000 0 1000000000000000 0 s3 _).mono ?_
      rintro _ w3 ⟨rfl, hb3⟩
      go_wp2_with fail
      refine (awake1_any _).mono ?_
      rintro _ w6 ⟨rfl, hb6⟩
      have hbf : Below w.heap.size w w6 := (by repeat (first | with_reducible exact Below.refl _ _ | (with_reducible refine bl_sc ?_ ?hge; case hge => (first | exact Nat.le_refl _ | omega)) | with_reducible refine bl_al ?_ _ | with_reducible refine bl_dr ?_ | with_reducible refine bl_dN ?_ _ | (refine bl_tr ?_ (by assumption)) | (refine bl_gr ?_ (by assumption) (by first | exact Nat.le_refl _ | omega)) | exact Below.refl _ _ | refine bl_al ?_ _ | refine bl_dr ?_ | refine bl_dN ?_ _))
      clear hb1 hb2 hb3 hb6
      go_wp2
      go_ret
      exact ⟨rfl, hbf⟩
    · obtain ⟨c, hc⟩ : ∃ c : Int, (1000000000000000 : Int) - (k : Int) = c := ⟨_, rfl⟩
      obtain ⟨d, hd⟩ : ∃ d : Int, -(k : Int) = d := ⟨_, rfl⟩
      have s1 := Lib.hid (show addG 0 [c, (k : Int)] = (1000000000000000, 0) from add_two (by omega) (mayM_iff.2 (by omega)) (mayM_iff.2 (by omega)) (mayM_iff.2 (by omega)))
      have s2 := Lib.hid (show addG 0 [1000000000000000, (k : Int)] = (0, 5) from add_over (mayM_no.2 (by omega)))
      have s3 := Lib.hid (show subR c d = (1000000000000000, 0) from sub_two (by omega) (mayM_iff.2 (by omega)) (mayM_iff.2 (by omega)) (mayM_iff.2 (by omega)))
      have r1 : wrap64 ((1000000000000000 : Int) - (k : Int)) = c := by unfold wrap64; omega
      have r2 : wrap64 (-(k : Int)) = d := by unfold wrap64; omega
      have z0 : ((k : Int) == 0) = false := by rw [beq_eq_false_iff_ne]; omega
      have z2 : ((k : Int) != 0) = true := by rw [bne_iff_ne]; omega
      have rc : wrap64 c = c := by unfold wrap64; omega
      have rd : wrap64 d = d := by unfold wrap64; omega
      clear hkl r1 r2
      go_enter Try.func13, Try.ntmps13
      go_wp2_with fail
      refine (add_any _ [c, (k : Int)] 1000000000000000 0 s1 (by simp) _ (Sl.lit _ _ [c, (k : Int)] 2 rfl _ rfl (by unfold maxLen; omega))).mono ?_
      rintro _ w1 ⟨rfl, hb1⟩
      go_wp2_with fail
      refine (add_any _ [1000000000000000, (k : Int)] 0 5 s2 (by simp) _ (Sl.lit _ _ [1000000000000000, (k : Int)] 2 rfl _ rfl (by unfold maxLen; omega))).mono ?_
      rintro _ w2 ⟨rfl, hb2⟩
      go_wp2_with fail
      with_reducible refine (sub_any c d 1000000000000000 0 s3 _).mono ?_
      rintro _ w3 ⟨rfl, hb3⟩
      go_wp2_with fail
      refine (awake1_any _).mono ?_
      rintro _ w6 ⟨rfl, hb6⟩
      have hbf : Below w.heap.size w w6 := (by repeat (first | with_reducible exact Below.refl _ _ | (with_reducible refine bl_sc ?_ ?hge; case hge => (first | exact Nat.le_refl _ | omega)) | with_reducible refine bl_al ?_ _ | with_reducible refine bl_dr ?_ | with_reducible refine bl_dN ?_ _ | (refine bl_tr ?_ (by assumption)) | (refine bl_gr ?_ (by assumption) (by first | exact Nat.le_refl _ | omega)) | exact Below.refl _ _ | refine bl_al ?_ _ | refine bl_dr ?_ | refine bl_dN ?_ _))
      clear hb1 hb2 hb3 hb6
      go_wp2
      go_ret
      exact ⟨rfl, hbf⟩
  | false =>
    by_cases hk0 : k = 0
    · subst hk0
      have s1 := Lib.hid (show addG 0 [(-1000000000000000), 0] = ((-1000000000000000), 0) by decide)
      have s2 := s1
      have s3 := Lib.hid (show subR (-1000000000000000) 0 = ((-1000000000000000), 0) by decide)
      go_enter Try.func13, Try.ntmps13
      go_wp2_with fail
      refine (add_any _ [(-1000000000000000), 0] (-1000000000000000) 0 s1 (by simp) _ (Sl.lit _ _ [(-1000000000000000), 0] 2 rfl _ rfl (by unfold maxLen; omega))).mono ?_
      rintro _ w1 ⟨rfl, hb1⟩
      go_wp2_with fail
      refine (add_any _ [(-1000000000000000), 0] (-1000000000000000) 0 s2 (by simp) _ (Sl.lit _ _ [(-1000000000000000), 0] 2 rfl _ rfl (by unfold maxLen; omega))).mono ?_
      rintro _ w2 ⟨rfl, hb2⟩
      go_wp2_with fail
      with_reducible refine (sub_any (-1000000000000000) 0 (-1000000000000000) 0 s3 _).mono ?_
      rintro _ w3 ⟨rfl, hb3⟩
      go_wp2_with fail
      refine (awake1_any _).mono ?_
      rintro _ w6 ⟨rfl, hb6⟩
      have hbf : Below w.heap.size w w6 := (by repeat (first | with_reducible exact Below.refl _ _ | (with_reducible refine bl_sc ?_ ?hge; case hge => (first | exact Nat.le_refl _ | omega)) | with_reducible refine bl_al ?_ _ | with_reducible refine bl_dr ?_ | with_reducible refine bl_dN ?_ _ | (refine bl_tr ?_ (by assumption)) | (refine bl_gr ?_ (by assumption) (by first | exact Nat.le_refl _ | omega)) | exact Below.refl _ _ | refine bl_al ?_ _ | refine bl_dr ?_ | refine bl_dN ?_ _))
      clear hb1 hb2 hb3 hb6
      go_wp2
      go_ret
      exact ⟨rfl, hbf⟩
    · obtain ⟨m, hm⟩ : ∃ m, -(k : Int) = m := ⟨_, rfl⟩
      have r0 : wrap64 m = m := by unfold wrap64; omega
      obtain ⟨c, hc⟩ : ∃ c : Int, (-1000000000000000 : Int) - m = c := ⟨_, rfl⟩
      obtain ⟨d, hd⟩ : ∃ d : Int, -m = d := ⟨_, rfl⟩
      have s1 := Lib.hid (show addG 0 [c, m] = ((-1000000000000000), 0) from add_two (by omega) (mayM_iff.2 (by omega)) (mayM_iff.2 (by omega)) (mayM_iff.2 (by omega)))
      have s2 := Lib.hid (show addG 0 [(-1000000000000000), m] = (0, 5) from add_over (mayM_no.2 (by omega)))
      have s3 := Lib.hid (show subR c d = ((-1000000000000000), 0) from sub_two (by omega) (mayM_iff.2 (by omega)) (mayM_iff.2 (by omega)) (mayM_iff.2 (by omega)))
      have r1 : wrap64 ((-1000000000000000 : Int) - m) = c := by unfold wrap64; omega
      have r2 : wrap64 (-m) = d := by unfold wrap64; omega
      have z0 : (m == 0) = false := by rw [beq_eq_false_iff_ne]; omega
      have z2 : (m != 0) = true := by rw [bne_iff_ne]; omega
      have rc : wrap64 c = c := by unfold wrap64; omega
      have rd : wrap64 d = d := by unfold wrap64; omega
      clear hkl r1 r2
      go_enter Try.func13, Try.ntmps13
      go_wp2_with fail
      refine (add_any _ [c, m] (-1000000000000000) 0 s1 (by simp) _ (Sl.lit _ _ [c, m] 2 rfl _ rfl (by unfold maxLen; omega))).mono ?_
      rintro _ w1 ⟨rfl, hb1⟩
      go_wp2_with fail
      refine (add_any _ [(-1000000000000000), m] 0 5 s2 (by simp) _ (Sl.lit _ _ [(-1000000000000000), m] 2 rfl _ rfl (by unfold maxLen; omega))).mono ?_
      rintro _ w2 ⟨rfl, hb2⟩
      go_wp2_with fail
      with_reducible refine (sub_any c d (-1000000000000000) 0 s3 _).mono ?_
      rintro _ w3 ⟨rfl, hb3⟩
      go_wp2_with fail
      refine (awake1_any _).mono ?_
      rintro _ w6 ⟨rfl, hb6⟩
      have hbf : Below w.heap.size w w6 := (by repeat (first | with_reducible exact Below.refl _ _ | (with_reducible refine bl_sc ?_ ?hge; case hge => (first | exact Nat.le_refl _ | omega)) | with_reducible refine bl_al ?_ _ | with_reducible refine bl_dr ?_ | with_reducible refine bl_dN ?_ _ | (refine bl_tr ?_ (by assumption)) | (refine bl_gr ?_ (by assumption) (by first | exact Nat.le_refl _ | omega)) | exact Below.refl _ _ | refine bl_al ?_ _ | refine bl_dr ?_ | refine bl_dN ?_ _))
      clear hb1 hb2 hb3 hb6
      go_wp2
      go_ret
      exact ⟨rfl, hbf⟩

/-- The product of a quotient and what it is by, and a rest, in halves. -/
theorem quo_halves (q b r hi lo lo2 : Nat) (hq : q < 18446744073709551615) (hb0 : 0 < b) (hb : b < 18446744073709551616) (hr : r < b) (hhi : q * b / 18446744073709551616 = hi) (hlo : q * b % 18446744073709551616 = lo) (h2 : (lo + r) % 18446744073709551616 = lo2) :
    (lo2 < lo → hi + 1 < 18446744073709551616 ∧ evQ ((hi + 1 : Nat) : Int) (lo2 : Int) (b : Int) = ((if r < b - r ∨ (r = b - r ∧ q % 2 = 0) then (q : Int) else ((q + 1 : Nat) : Int)), true)) ∧
    (¬ lo2 < lo → evQ (hi : Int) (lo2 : Int) (b : Int) = ((if r < b - r ∨ (r = b - r ∧ q % 2 = 0) then (q : Int) else ((q + 1 : Nat) : Int)), true)) := by
  have hn : q * b + r < 18446744073709551616 * b := by
    have : (q + 1) * b ≤ 18446744073709551615 * b := Nat.mul_le_mul_right _ (by omega)
    rw [Nat.add_mul, Nat.one_mul] at this
    omega
  have hev := even_of q b r hr
  have key : ∀ h : Nat, h * 18446744073709551616 + lo2 = q * b + r → evQ (h : Int) (lo2 : Int) (b : Int) = ((if r < b - r ∨ (r = b - r ∧ q % 2 = 0) then (q : Int) else ((q + 1 : Nat) : Int)), true) := by
    intro h he
    have hlt : ¬ (b : Int) ≤ (h : Int) := by omega
    unfold evQ
    rw [if_neg hlt]
    have e : ((h : Int) * 18446744073709551616 + (lo2 : Int)) = ((q * b + r : Nat) : Int) := by omega
    rw [e, Int.toNat_natCast, Int.toNat_natCast, hev]
    have hlt2 : (if r < b - r ∨ (r = b - r ∧ q % 2 = 0) then q else q + 1) < 18446744073709551616 := by split <;> omega
    rw [if_pos hlt2]
    split <;> rfl
  obtain ⟨P, hP⟩ : ∃ P, q * b = P := ⟨_, rfl⟩
  rw [hP] at hhi hlo hn key
  refine ⟨fun h => ⟨by omega, key (hi + 1) (by omega)⟩, fun h => key hi (by omega)⟩

set_option maxHeartbeats 1600000 in
set_option maxRecDepth 100000 in
theorem cashQuotient_any (q b r : Nat) (hq : q < 18446744073709551616) (hb : b < 18446744073709551616) (w : World) :
    Calls Try.prog 10 #[.int .u64 q, .int .u64 b, .int .u64 r] w (RetB (.bool true) w) := by
  by_cases h0 : b = 0
  · have z0 : ((b : Int) == 0) = true := by rw [beq_iff_eq]; omega
    clear h0 hb hq
    go_enter Try.func10, Try.ntmps10
    go_wp2_with fail
    refine (awake1_any _).mono ?_
    rintro _ w6 ⟨rfl, hb6⟩
    go_wp2
    go_ret
    exact ⟨rfl, (by repeat (first | with_reducible exact Below.refl _ _ | (with_reducible refine bl_sc ?_ ?hge; case hge => (first | exact Nat.le_refl _ | omega)) | with_reducible refine bl_al ?_ _ | with_reducible refine bl_dr ?_ | with_reducible refine bl_dN ?_ _ | (refine bl_tr ?_ (by assumption)) | (refine bl_gr ?_ (by assumption) (by first | exact Nat.le_refl _ | omega)) | exact Below.refl _ _ | refine bl_al ?_ _ | refine bl_dr ?_ | refine bl_dN ?_ _))⟩
  · have z0 : ((b : Int) == 0) = false := by rw [beq_eq_false_iff_ne]; omega
    by_cases hq1 : q = 18446744073709551615
    · have z1 : ((q : Int) == 18446744073709551615) = true := by rw [beq_iff_eq]; omega
      clear h0 hb hq hq1
      go_enter Try.func10, Try.ntmps10
      go_wp2_with fail
      refine (awake1_any _).mono ?_
      rintro _ w6 ⟨rfl, hb6⟩
      go_wp2
      go_ret
      exact ⟨rfl, (by repeat (first | with_reducible exact Below.refl _ _ | (with_reducible refine bl_sc ?_ ?hge; case hge => (first | exact Nat.le_refl _ | omega)) | with_reducible refine bl_al ?_ _ | with_reducible refine bl_dr ?_ | with_reducible refine bl_dN ?_ _ | (refine bl_tr ?_ (by assumption)) | (refine bl_gr ?_ (by assumption) (by first | exact Nat.le_refl _ | omega)) | exact Below.refl _ _ | refine bl_al ?_ _ | refine bl_dr ?_ | refine bl_dN ?_ _))⟩
    · have z1 : ((q : Int) == 18446744073709551615) = false := by rw [beq_eq_false_iff_ne]; omega
      obtain ⟨R, hR⟩ : ∃ x, r % b = x := ⟨_, rfl⟩
      have hRb : R < b := by rw [← hR]; exact Nat.mod_lt _ (by omega)
      have z2 : (r : Int) % (b : Int) = (R : Int) := by rw [← Int.natCast_emod, hR]
      obtain ⟨hi, hhi⟩ : ∃ x, q * b / 18446744073709551616 = x := ⟨_, rfl⟩
      obtain ⟨lo, hlo⟩ : ∃ x, q * b % 18446744073709551616 = x := ⟨_, rfl⟩
      obtain ⟨lo2, hlo2⟩ : ∃ x, (lo + R) % 18446744073709551616 = x := ⟨_, rfl⟩
      obtain ⟨d, hd⟩ : ∃ x, b - R = x := ⟨_, rfl⟩
      have k := quo_halves q b R hi lo lo2 (by omega) (by omega) hb hRb hhi hlo hlo2
      rw [hd] at k
      have K := Lib.hid k
      have HHI := Lib.hid hhi
      have HLO := Lib.hid hlo
      have HL2 := Lib.hid (show lo2 < 18446744073709551616 by rw [← hlo2]; exact Nat.mod_lt _ (by omega))
      have HB := Lib.hid hb
      have HQ := Lib.hid hq
      have r1 : IntKind.u64.wrap ((lo : Int) + (R : Int)) = (lo2 : Int) := by rw [u64_wrap]; omega
      have r2 : IntKind.u64.wrap ((b : Int) - (R : Int)) = (d : Int) := by rw [u64_wrap]; omega
      have r3 : IntKind.u64.wrap ((q : Int) + 1) = ((q + 1 : Nat) : Int) := by rw [u64_wrap]; omega
      have key : (¬ d < R ∧ ((R : Int) == (d : Int)) = false ∧ Hid (R < d ∨ (R = d ∧ q % 2 = 0))) ∨ (¬ d < R ∧ ((R : Int) == (d : Int)) = true ∧ ((q : Int) % 2 == 1) = false ∧ Hid (R < d ∨ (R = d ∧ q % 2 = 0))) ∨
          (¬ d < R ∧ ((R : Int) == (d : Int)) = true ∧ ((q : Int) % 2 == 1) = true ∧ Hid (¬ (R < d ∨ (R = d ∧ q % 2 = 0)))) ∨ (d < R ∧ Hid (¬ (R < d ∨ (R = d ∧ q % 2 = 0)))) := by
        rcases Nat.lt_trichotomy R d with h | h | h
        · exact Or.inl ⟨by omega, by rw [beq_eq_false_iff_ne]; omega, Or.inl h⟩
        · by_cases h2 : q % 2 = 0
          · exact Or.inr (Or.inl ⟨by omega, by rw [h]; simp, by rw [beq_eq_false_iff_ne]; omega, Or.inr ⟨h, h2⟩⟩)
          · exact Or.inr (Or.inr (Or.inl ⟨by omega, by rw [h]; simp, by rw [beq_iff_eq]; omega, fun hx => by omega⟩))
        · exact Or.inr (Or.inr (Or.inr ⟨h, fun hx => by omega⟩))
      have KEY := Lib.hid key
      clear hb hq hq1 hR hRb hhi hlo hlo2 hd k key
      by_cases hcy : lo2 < lo
      · have hk := K.out.1 hcy
        have HK := Lib.hid hk
        have r4 : IntKind.u64.wrap ((hi : Int) + 1) = ((hi + 1 : Nat) : Int) := by have := hk.1; rw [u64_wrap]; omega
        obtain ⟨h1, hh1⟩ : ∃ x, hi + 1 = x := ⟨_, rfl⟩
        rw [hh1] at r4 HK
        clear hk K hh1
        rcases KEY.out with ⟨c1, c2, c3⟩ | ⟨c1, c2, c4, c3⟩ | ⟨c1, c2, c4, c3⟩ | ⟨c1, c3⟩
        all_goals
          have HE := HK.out.2
          first | rw [if_pos c3.out] at HE | rw [if_neg c3.out] at HE
          have HE := Lib.hid HE
          clear KEY HK
          go_enter Try.func10, Try.ntmps10
          go_wp2_with fail
          with_reducible refine (refMul_any q b hi lo HQ.out HB.out HHI HLO _).mono ?_
          rintro _ w1 ⟨rfl, hb1⟩
          go_wp2_with fail
          refine (even_any h1 lo2 b _ true HL2.out HB.out HE _).mono ?_
          rintro _ w2 ⟨rfl, hb2⟩
          go_wp2_with fail
          refine (awake1_any _).mono ?_
          rintro _ w6 ⟨rfl, hb6⟩
          go_wp2
          go_ret
          exact ⟨rfl, (by repeat (first | with_reducible exact Below.refl _ _ | (with_reducible refine bl_sc ?_ ?hge; case hge => (first | exact Nat.le_refl _ | omega)) | with_reducible refine bl_al ?_ _ | with_reducible refine bl_dr ?_ | with_reducible refine bl_dN ?_ _ | (refine bl_tr ?_ (by assumption)) | (refine bl_gr ?_ (by assumption) (by first | exact Nat.le_refl _ | omega)) | exact Below.refl _ _ | refine bl_al ?_ _ | refine bl_dr ?_ | refine bl_dN ?_ _))⟩
      · have HK := Lib.hid (K.out.2 hcy)
        clear K
        rcases KEY.out with ⟨c1, c2, c3⟩ | ⟨c1, c2, c4, c3⟩ | ⟨c1, c2, c4, c3⟩ | ⟨c1, c3⟩
        all_goals
          have HE := HK.out
          first | rw [if_pos c3.out] at HE | rw [if_neg c3.out] at HE
          have HE := Lib.hid HE
          clear KEY HK
          go_enter Try.func10, Try.ntmps10
          go_wp2_with fail
          with_reducible refine (refMul_any q b hi lo HQ.out HB.out HHI HLO _).mono ?_
          rintro _ w1 ⟨rfl, hb1⟩
          go_wp2_with fail
          refine (even_any hi lo2 b _ true HL2.out HB.out HE _).mono ?_
          rintro _ w2 ⟨rfl, hb2⟩
          go_wp2_with fail
          refine (awake1_any _).mono ?_
          rintro _ w6 ⟨rfl, hb6⟩
          go_wp2
          go_ret
          exact ⟨rfl, (by repeat (first | with_reducible exact Below.refl _ _ | (with_reducible refine bl_sc ?_ ?hge; case hge => (first | exact Nat.le_refl _ | omega)) | with_reducible refine bl_al ?_ _ | with_reducible refine bl_dr ?_ | with_reducible refine bl_dN ?_ _ | (refine bl_tr ?_ (by assumption)) | (refine bl_gr ?_ (by assumption) (by first | exact Nat.le_refl _ | omega)) | exact Below.refl _ _ | refine bl_al ?_ _ | refine bl_dr ?_ | refine bl_dN ?_ _))⟩
theorem cashQuotient_go {q b r : Int} (h0 : (Lit.int .u64 q).wf = true) (h1 : (Lit.int .u64 b).wf = true) (h2 : (Lit.int .u64 r).wf = true) (w : World) :
    Calls Try.prog 10 #[.int .u64 q, .int .u64 b, .int .u64 r] w (RetB (.bool true) w) := by
  obtain ⟨q, rfl, hq⟩ := wf_u64 h0
  obtain ⟨b, rfl, hb⟩ := wf_u64 h1
  obtain ⟨r, rfl, _⟩ := wf_u64 h2
  exact cashQuotient_any q b r hq hb w
end Go.Proofs.Ytghmhgeakpjfkaa

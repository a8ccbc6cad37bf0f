/- The laws of layer 1 on shares: awake, CashShares, CashHalf, CashWhole, CashTies. -/
import Derived.Test.YtghmhgeakpjfkaaShare
namespace Go.Proofs.Ytghmhgeakpjfkaa
open Go.RowKit EvM

theorem may_5 : mayM 5 = true := by decide
theorem may_over : mayM 1000000000000001 = false := by decide
theorem tmod_bound (n k : Int) (hk : 0 < k) : -k < n.tmod k ∧ n.tmod k < k := ⟨Int.lt_tmod_of_pos n hk, Int.tmod_lt_of_pos n hk⟩
theorem tmod_even {t : Int} (h : t % 2 = 0) : t.tmod 2 = 0 := Int.tmod_eq_zero_of_dvd (Int.dvd_of_emod_eq_zero h)
theorem share_712 : shareR 7 1 2 = (4, 0) := by decide
theorem awake1_any (w : World) : Calls Try.prog 29 #[] w (RetB (.bool true) w) := by
  go_enter Try.func29, Try.ntmps29
  go_wp2_with fail
  refine (share_any 7 1 2 4 0 (by omega) (by omega) share_712 _).mono ?_
  rintro e w1 ⟨rfl, hb1⟩
  go_wp2_with fail
  refine (may_is may_5 _).mono ?_
  rintro e w2 ⟨rfl, rfl⟩
  go_wp2_with fail
  refine (may_is may_over _).mono ?_
  rintro e w2 ⟨rfl, rfl⟩
  go_wp2
  go_ret
  exact ⟨rfl, (by repeat (first | with_reducible exact Below.refl _ _ | (with_reducible refine bl_sc ?_ ?hge; case hge => (first | exact Nat.le_refl _ | omega)) | with_reducible refine bl_al ?_ _ | with_reducible refine bl_dr ?_ | with_reducible refine bl_dN ?_ _ | (refine bl_tr ?_ (by assumption)) | (refine bl_gr ?_ (by assumption) (by first | exact Nat.le_refl _ | omega)) | exact Below.refl _ _ | refine bl_al ?_ _ | refine bl_dr ?_ | refine bl_dN ?_ _))⟩

set_option maxRecDepth 100000 in
theorem cashShares_any (a num den : Int) (hi lo by_ : Nat) (hn : -9223372036854775808 ≤ num ∧ num < 9223372036854775808) (hd : -9223372036854775808 ≤ den ∧ den < 9223372036854775808) (hlo : lo < 18446744073709551616) (hb : by_ < 18446744073709551616) (w : World) :
    Calls Try.prog 7 #[.int .i64 a, .int .i64 num, .int .i64 den, .int .u64 hi, .int .u64 lo, .int .u64 by_] w (RetB (.bool true) w) := by
  obtain ⟨x, e, hx⟩ : ∃ x e, shareR a num den = (x, e) := ⟨_, _, rfl⟩
  obtain ⟨q, b, hq⟩ : ∃ q b, evQ hi lo by_ = (q, b) := ⟨_, _, rfl⟩
  have HX := Lib.hid hx
  have HQ := Lib.hid hq
  clear hx hq
  go_enter Try.func7, Try.ntmps7
  go_wp2_with fail
  refine (share_any a num den x e hn hd HX _).mono ?_
  rintro _ w1 ⟨rfl, hb1⟩
  go_wp2_with fail
  refine (refShare_any a num den x e hn hd HX _).mono ?_
  rintro _ w2 ⟨rfl, hb2⟩
  go_wp2_with fail
  refine (even_any hi lo by_ q b hlo hb HQ _).mono ?_
  rintro _ w3 ⟨rfl, hb3⟩
  go_wp2_with fail
  refine (refEven_any hi lo by_ q b hlo hb HQ _).mono ?_
  rintro _ w4 ⟨rfl, hb4⟩
  go_wp2_with fail
  refine (awake1_any _).mono ?_
  rintro _ w5 ⟨rfl, hb5⟩
  go_wp2
  go_ret
  exact ⟨rfl, (by repeat (first | with_reducible exact Below.refl _ _ | (with_reducible refine bl_sc ?_ ?hge; case hge => (first | exact Nat.le_refl _ | omega)) | with_reducible refine bl_al ?_ _ | with_reducible refine bl_dr ?_ | with_reducible refine bl_dN ?_ _ | (refine bl_tr ?_ (by assumption)) | (refine bl_gr ?_ (by assumption) (by first | exact Nat.le_refl _ | omega)) | exact Below.refl _ _ | refine bl_al ?_ _ | refine bl_dr ?_ | refine bl_dN ?_ _))⟩

set_option maxRecDepth 100000 in
theorem cashTies_any (n : Int) (_hn : -9223372036854775808 ≤ n ∧ n < 9223372036854775808) (w : World) :
    Calls Try.prog 11 #[.int .i64 n] w (RetB (.bool true) w) := by
  obtain ⟨m, hm⟩ : ∃ m, n.tmod 100000000 = m := ⟨_, rfl⟩
  have hmb : -100000000 < m ∧ m < 100000000 := by rw [← hm]; exact tmod_bound n _ (by omega)
  have r0 : wrap64 m = m := by unfold wrap64; omega
  have r1 : wrap64 (n.tmod 100000000) = m := by rw [hm]; exact r0
  have r2 : wrap64 (2 * m) = 2 * m := by unfold wrap64; omega
  have r3 : wrap64 (2 * m + 1) = 2 * m + 1 := by unfold wrap64; omega
  have r4 : wrap64 (4 * m) = 4 * m := by unfold wrap64; omega
  have r5 : wrap64 (4 * m + 2) = 4 * m + 2 := by unfold wrap64; omega
  have r6 : wrap64 (m + 1) = m + 1 := by unfold wrap64; omega
  have s1 : shareR (2 * m + 1) 1 2 = (tieI m, 0) := share_tie m 1 (by omega) (by omega) hmb
  have s2 : shareR (4 * m + 2) 1 4 = (tieI m, 0) := share_tie m 2 (by omega) (by omega) hmb
  obtain ⟨t, ht⟩ : ∃ t, tieI m = t := ⟨_, rfl⟩
  have hti := tieI_is m
  rw [ht] at s1 s2 hti
  have S1 := Lib.hid s1
  have S2 := Lib.hid s2
  obtain ⟨t1, t2⟩ := hti
  have t3 : (t.tmod 2 == 0) = true := by rw [beq_iff_eq]; exact tmod_even t1
  have t4 : t.tmod 2 = 0 := tmod_even t1
  have HT := Lib.hid t2
  clear s1 s2 ht t1 t2
  have key : (t == m) = true ∨ ((t == m) = false ∧ (t == m + 1) = true) := by
    rcases HT.out with h | h
    · exact Or.inl (by rw [h]; simp)
    · exact Or.inr ⟨by rw [beq_eq_false_iff_ne]; omega, by rw [h]; simp⟩
  rcases key with k1 | ⟨k1, k2⟩
  all_goals
    go_enter Try.func11, Try.ntmps11
    go_wp2_with fail
    refine (share_any (2 * m + 1) 1 2 t 0 (by omega) (by omega) S1 _).mono ?_
    rintro _ w1 ⟨rfl, hb1⟩
    go_wp2_with fail
    refine (share_any (4 * m + 2) 1 4 t 0 (by omega) (by omega) S2 _).mono ?_
    rintro _ w2 ⟨rfl, hb2⟩
    go_wp2_with fail
    refine (awake1_any _).mono ?_
    rintro _ w3 ⟨rfl, hb3⟩
    go_wp2
    go_ret
    exact ⟨rfl, (by repeat (first | with_reducible exact Below.refl _ _ | (with_reducible refine bl_sc ?_ ?hge; case hge => (first | exact Nat.le_refl _ | omega)) | with_reducible refine bl_al ?_ _ | with_reducible refine bl_dr ?_ | with_reducible refine bl_dN ?_ _ | (refine bl_tr ?_ (by assumption)) | (refine bl_gr ?_ (by assumption) (by first | exact Nat.le_refl _ | omega)) | exact Below.refl _ _ | refine bl_al ?_ _ | refine bl_dr ?_ | refine bl_dN ?_ _))⟩

theorem wf_i64 {x : Int} (h : (Lit.int .i64 x).wf = true) : -9223372036854775808 ≤ x ∧ x < 9223372036854775808 := by
  simp [Lit.wf, IntKind.min, IntKind.max, IntKind.signed, IntKind.bits] at h
  omega
theorem wf_u64 {x : Int} (h : (Lit.int .u64 x).wf = true) : ∃ n : Nat, x = n ∧ n < 18446744073709551616 := by
  simp [Lit.wf, IntKind.min, IntKind.max, IntKind.signed, IntKind.bits] at h
  exact ⟨x.toNat, by omega, by omega⟩
theorem cashShares_go {a num den hi lo by_ : Int} (h1 : (Lit.int .i64 num).wf = true) (h2 : (Lit.int .i64 den).wf = true) (h3 : (Lit.int .u64 hi).wf = true) (h4 : (Lit.int .u64 lo).wf = true) (h5 : (Lit.int .u64 by_).wf = true) (w : World) :
    Calls Try.prog 7 #[.int .i64 a, .int .i64 num, .int .i64 den, .int .u64 hi, .int .u64 lo, .int .u64 by_] w (RetB (.bool true) w) := by
  obtain ⟨hi, rfl, _⟩ := wf_u64 h3
  obtain ⟨lo, rfl, hlo⟩ := wf_u64 h4
  obtain ⟨b, rfl, hb⟩ := wf_u64 h5
  exact cashShares_any a num den hi lo b (wf_i64 h1) (wf_i64 h2) hlo hb w
theorem cashTies_go {n : Int} (h : (Lit.int .i64 n).wf = true) (w : World) : Calls Try.prog 11 #[.int .i64 n] w (RetB (.bool true) w) := cashTies_any n (wf_i64 h) w
end Go.Proofs.Ytghmhgeakpjfkaa

/- CashHalf, CashWhole, CashQuotient. -/
import Derived.Test.YtghmhgeakpjfkaaLaw01
namespace Go.Proofs.Ytghmhgeakpjfkaa
open Go.RowKit EvM

theorem i64_mask (n m : Int) (k : Nat) (hm : (BitVec.ofInt 64 m).toNat = 2 ^ k - 1) (hk : k < 63) : bits .and .i64 n m = ((n % ((2 ^ 64 : Nat) : Int)).toNat % 2 ^ k : Nat) := by
  have key : (BitVec.ofInt 64 n &&& BitVec.ofInt 64 m).toNat = (n % ((2 ^ 64 : Nat) : Int)).toNat % 2 ^ k := by
    rw [BitVec.toNat_and, BitVec.toNat_ofInt, hm, Nat.and_two_pow_sub_one_eq_mod]
  show IntKind.i64.wrap ((BitVec.ofInt 64 n &&& BitVec.ofInt 64 m).toNat : Nat) = _
  rw [key, IntKind.wrap_i64]
  have h1 : (n % ((2 ^ 64 : Nat) : Int)).toNat % 2 ^ k < 2 ^ k := Nat.mod_lt _ (Nat.two_pow_pos k)
  have h2 : 2 ^ k < 2 ^ 63 := Nat.pow_lt_pow_right (by omega) hk
  have e63 : (2 : Nat) ^ 63 = 9223372036854775808 := by decide
  rw [e63] at h2
  generalize (n % ((2 ^ 64 : Nat) : Int)).toNat % 2 ^ k = X at *
  omega
theorem and_1023 (n : Int) : ∃ k : Nat, bits .and .i64 n 1023 = (k : Int) ∧ k < 1024 := ⟨_, i64_mask n 1023 10 (by decide) (by omega), Nat.mod_lt _ (by decide)⟩
theorem and_4095 (n : Int) : ∃ k : Nat, bits .and .i64 n 4095 = (k : Int) ∧ k < 4096 := ⟨_, i64_mask n 4095 12 (by decide) (by omega), Nat.mod_lt _ (by decide)⟩
theorem and_255 (n : Int) : ∃ k : Nat, bits .and .i64 n 255 = (k : Int) ∧ k < 256 := ⟨_, i64_mask n 255 8 (by decide) (by omega), Nat.mod_lt _ (by decide)⟩

/-- A share of less than 10^9 by parts up to 1023. -/
theorem half_share (a : Int) (n d : Nat) (ha : -1000000000 < a ∧ a < 1000000000) (hn : n < 1024) (hd : 0 < d) (hd2 : d ≤ 1024) : ∃ x P Q O : Int, shareR a n d = (x, 0) ∧ x * (d : Int) = P ∧ a * (n : Int) = Q ∧ 2 * (P - Q) = O ∧
    -4000000000000 < x ∧ x < 4000000000000 ∧ -4000000000000000 < P ∧ P < 4000000000000000 ∧ -4000000000000 < Q ∧ Q < 4000000000000 ∧
    ((O < 0 ∧ -O < (d : Int)) ∨ (O < 0 ∧ -O = (d : Int) ∧ x % 2 = 0) ∨ (¬ O < 0 ∧ O < (d : Int)) ∨ (¬ O < 0 ∧ O = (d : Int) ∧ x % 2 = 0)) := by
  have hm : mayM a = true := mayM_iff.2 (by omega)
  have hle : a.natAbs * n ≤ 1023000000000 := by
    have := Nat.mul_le_mul (show a.natAbs ≤ 1000000000 by omega) (show n ≤ 1023 by omega)
    omega
  have hq := shQ_le2 a n d (by omega) 1023000000000 (by rw [Int.toNat_natCast]; exact hle)
  have hs := share_ok a n d (by omega) (by omega) hm (by omega)
  obtain ⟨x, hx⟩ : ∃ x, (if a < 0 then -(shQ a n d : Int) else (shQ a n d : Int)) = x := ⟨_, rfl⟩
  rw [hx] at hs
  have hxb : -1023000000002 < x ∧ x < 1023000000002 := by rw [← hx]; split <;> omega
  have ho := share_off a n d (by omega) (by omega) x hs
  have hQ : -1023000000001 < a * (n : Int) ∧ a * (n : Int) < 1023000000001 := by
    have h2 := natAbs_mul_toNat a n (by omega)
    rw [Int.toNat_natCast] at h2
    generalize a * (n : Int) = Q at *
    generalize a.natAbs * n = A at *
    split at h2 <;> omega
  have hP : -3000000000000000 < x * (d : Int) ∧ x * (d : Int) < 3000000000000000 := by
    have h3 := natAbs_mul_toNat x d (by omega)
    rw [Int.toNat_natCast] at h3
    have h4 := Nat.mul_le_mul (show x.natAbs ≤ 1023000000002 by omega) hd2
    generalize x * (d : Int) = P at *
    generalize x.natAbs * d = A at *
    split at h3 <;> omega
  refine ⟨x, _, _, _, hs, rfl, rfl, rfl, by omega, by omega, by omega, by omega, by omega, by omega, ?_⟩
  generalize x * (d : Int) = P at *
  generalize a * (n : Int) = Q at *
  clear hs hx hxb hQ hP hle hq hm
  by_cases h0 : 2 * (P - Q) < 0
  · rcases ho with ho | ⟨ho, ho2⟩
    · exact Or.inl ⟨h0, by omega⟩
    · exact Or.inr (Or.inl ⟨h0, by omega, ho2⟩)
  · rcases ho with ho | ⟨ho, ho2⟩
    · exact Or.inr (Or.inr (Or.inl ⟨h0, by omega⟩))
    · exact Or.inr (Or.inr (Or.inr ⟨h0, by omega, ho2⟩))

set_option maxHeartbeats 1600000 in
set_option maxRecDepth 100000 in
theorem cashHalf_go {a num den : Int} (w : World) :
    Calls Try.prog 8 #[.int .i64 a, .int .i64 num, .int .i64 den] w (RetB (.bool true) w) := by
  obtain ⟨n, hn, hnl⟩ := and_1023 num
  obtain ⟨d0, hd0, hdl⟩ := and_1023 den
  obtain ⟨m, hm⟩ : ∃ m, a.tmod 1000000000 = m := ⟨_, rfl⟩
  have hmb : -1000000000 < m ∧ m < 1000000000 := by rw [← hm]; exact tmod_bound a _ (by omega)
  obtain ⟨d, hd⟩ : ∃ d, 1 + d0 = d := ⟨_, rfl⟩
  obtain ⟨x, P, Q, O, h1, h2, h3, h4, h5, h6, h7, h8, h9, h10, h11⟩ := half_share m n d hmb hnl (by omega) (by omega)
  have HD1 : Hid (-9223372036854775808 ≤ (n : Int) ∧ (n : Int) < 9223372036854775808) := ⟨by omega, by omega⟩
  have HD2 : Hid (-9223372036854775808 ≤ (d : Int) ∧ (d : Int) < 9223372036854775808) := ⟨by omega, by omega⟩
  have KEY := Lib.hid h11
  clear h11
  have r0 : wrap64 m = m := by unfold wrap64; omega
  have r1 : wrap64 (a.tmod 1000000000) = m := by rw [hm]; exact r0
  have r2 : wrap64 (1 + (d0 : Int)) = (d : Int) := by unfold wrap64; omega
  have r3 : wrap64 (x * (d : Int)) = P := by rw [h2]; unfold wrap64; omega
  have r4 : wrap64 (m * (n : Int)) = Q := by rw [h3]; unfold wrap64; omega
  have r5 : wrap64 (P - Q) = P - Q := by unfold wrap64; omega
  have r6 : wrap64 (2 * (P - Q)) = O := by rw [h4]; unfold wrap64; omega
  have r7 : wrap64 (-O) = -O := by unfold wrap64; omega
  have H1 := Lib.hid h1
  clear h1 h2 h3 h4 h5 h6 h7 h8 h9 h10 hmb hd hnl hdl
  rcases KEY.out with ⟨k0, k1⟩ | ⟨k0, k1, k2⟩ | ⟨k0, k1⟩ | ⟨k0, k1, k2⟩
  · have g1 : decide (-O < (d : Int)) = true := by simpa using k1
    go_enter Try.func8, Try.ntmps8
    go_wp2_with fail
    with_reducible refine (share_any m n d x 0 HD1.out HD2.out H1 _).mono ?_
    rintro _ w1 ⟨rfl, hb1⟩
    go_wp2_with fail
    refine (awake1_any _).mono ?_
    rintro _ w2 ⟨rfl, hb2⟩
    go_wp2
    go_ret
    exact ⟨rfl, (by repeat (first | with_reducible exact Below.refl _ _ | (with_reducible refine bl_sc ?_ ?hge; case hge => (first | exact Nat.le_refl _ | omega)) | with_reducible refine bl_al ?_ _ | with_reducible refine bl_dr ?_ | with_reducible refine bl_dN ?_ _ | (refine bl_tr ?_ (by assumption)) | (refine bl_gr ?_ (by assumption) (by first | exact Nat.le_refl _ | omega)) | exact Below.refl _ _ | refine bl_al ?_ _ | refine bl_dr ?_ | refine bl_dN ?_ _))⟩
  · have g0 : ¬ -O < (d : Int) := by omega
    have g1 : decide (-O < (d : Int)) = false := by simp; omega
    have g2 : (-O == (d : Int)) = true := by simp [k1]
    have g3 : x.tmod 2 = 0 := tmod_even k2
    clear k1 k2
    go_enter Try.func8, Try.ntmps8
    go_wp2_with fail
    with_reducible refine (share_any m n d x 0 HD1.out HD2.out H1 _).mono ?_
    rintro _ w1 ⟨rfl, hb1⟩
    go_wp2_with fail
    refine (awake1_any _).mono ?_
    rintro _ w2 ⟨rfl, hb2⟩
    go_wp2
    go_ret
    exact ⟨rfl, (by repeat (first | with_reducible exact Below.refl _ _ | (with_reducible refine bl_sc ?_ ?hge; case hge => (first | exact Nat.le_refl _ | omega)) | with_reducible refine bl_al ?_ _ | with_reducible refine bl_dr ?_ | with_reducible refine bl_dN ?_ _ | (refine bl_tr ?_ (by assumption)) | (refine bl_gr ?_ (by assumption) (by first | exact Nat.le_refl _ | omega)) | exact Below.refl _ _ | refine bl_al ?_ _ | refine bl_dr ?_ | refine bl_dN ?_ _))⟩
  · have g1 : decide (O < (d : Int)) = true := by simpa using k1
    go_enter Try.func8, Try.ntmps8
    go_wp2_with fail
    with_reducible refine (share_any m n d x 0 HD1.out HD2.out H1 _).mono ?_
    rintro _ w1 ⟨rfl, hb1⟩
    go_wp2_with fail
    refine (awake1_any _).mono ?_
    rintro _ w2 ⟨rfl, hb2⟩
    go_wp2
    go_ret
    exact ⟨rfl, (by repeat (first | with_reducible exact Below.refl _ _ | (with_reducible refine bl_sc ?_ ?hge; case hge => (first | exact Nat.le_refl _ | omega)) | with_reducible refine bl_al ?_ _ | with_reducible refine bl_dr ?_ | with_reducible refine bl_dN ?_ _ | (refine bl_tr ?_ (by assumption)) | (refine bl_gr ?_ (by assumption) (by first | exact Nat.le_refl _ | omega)) | exact Below.refl _ _ | refine bl_al ?_ _ | refine bl_dr ?_ | refine bl_dN ?_ _))⟩
  · have g0 : ¬ O < (d : Int) := by omega
    have g1 : decide (O < (d : Int)) = false := by simp; omega
    have g2 : (O == (d : Int)) = true := by simp [k1]
    have g3 : x.tmod 2 = 0 := tmod_even k2
    clear k1 k2
    go_enter Try.func8, Try.ntmps8
    go_wp2_with fail
    with_reducible refine (share_any m n d x 0 HD1.out HD2.out H1 _).mono ?_
    rintro _ w1 ⟨rfl, hb1⟩
    go_wp2_with fail
    refine (awake1_any _).mono ?_
    rintro _ w2 ⟨rfl, hb2⟩
    go_wp2
    go_ret
    exact ⟨rfl, (by repeat (first | with_reducible exact Below.refl _ _ | (with_reducible refine bl_sc ?_ ?hge; case hge => (first | exact Nat.le_refl _ | omega)) | with_reducible refine bl_al ?_ _ | with_reducible refine bl_dr ?_ | with_reducible refine bl_dN ?_ _ | (refine bl_tr ?_ (by assumption)) | (refine bl_gr ?_ (by assumption) (by first | exact Nat.le_refl _ | omega)) | exact Below.refl _ _ | refine bl_al ?_ _ | refine bl_dr ?_ | refine bl_dN ?_ _))⟩

set_option maxHeartbeats 1600000 in
set_option maxRecDepth 100000 in
theorem cashWhole_go {a n : Int} (ha : (Lit.int .i64 a).wf = true) (w : World) :
    Calls Try.prog 9 #[.int .i64 a, .int .i64 n] w (RetB (.bool true) w) := by
  have hab := wf_i64 ha
  by_cases h1 : a < -1000000000000000
  · clear ha hab
    go_enter Try.func9, Try.ntmps9
    go_wp2_with fail
    refine (awake1_any _).mono ?_
    rintro _ w2 ⟨rfl, hb2⟩
    go_wp2
    go_ret
    exact ⟨rfl, (by repeat (first | with_reducible exact Below.refl _ _ | (with_reducible refine bl_sc ?_ ?hge; case hge => (first | exact Nat.le_refl _ | omega)) | with_reducible refine bl_al ?_ _ | with_reducible refine bl_dr ?_ | with_reducible refine bl_dN ?_ _ | (refine bl_tr ?_ (by assumption)) | (refine bl_gr ?_ (by assumption) (by first | exact Nat.le_refl _ | omega)) | exact Below.refl _ _ | refine bl_al ?_ _ | refine bl_dr ?_ | refine bl_dN ?_ _))⟩
  · by_cases h2 : 1000000000000000 < a
    · clear ha hab
      go_enter Try.func9, Try.ntmps9
      go_wp2_with fail
      refine (awake1_any _).mono ?_
      rintro _ w2 ⟨rfl, hb2⟩
      go_wp2
      go_ret
      exact ⟨rfl, (by repeat (first | with_reducible exact Below.refl _ _ | (with_reducible refine bl_sc ?_ ?hge; case hge => (first | exact Nat.le_refl _ | omega)) | with_reducible refine bl_al ?_ _ | with_reducible refine bl_dr ?_ | with_reducible refine bl_dN ?_ _ | (refine bl_tr ?_ (by assumption)) | (refine bl_gr ?_ (by assumption) (by first | exact Nat.le_refl _ | omega)) | exact Below.refl _ _ | refine bl_al ?_ _ | refine bl_dr ?_ | refine bl_dN ?_ _))⟩
    · obtain ⟨d0, hd0, hdl⟩ := and_4095 n
      obtain ⟨d, hd⟩ : ∃ d, 1 + d0 = d := ⟨_, rfl⟩
      have hm : mayM a = true := mayM_iff.2 (by omega)
      have s1 := Lib.hid (share_all a d (by omega) hm)
      have s2 := Lib.hid (share_none a d (by omega) hm)
      obtain ⟨u, s3, s4, hu⟩ := share_neg a d 4096 (by omega) (by omega) (by omega) hm
      have S3 := Lib.hid s3
      obtain ⟨v, hv⟩ : ∃ v, -u = v := ⟨_, rfl⟩
      rw [hv] at s4
      obtain ⟨b, hb⟩ : ∃ b, -a = b := ⟨_, rfl⟩
      rw [hb] at s4
      have S4 := Lib.hid s4
      have r2 : wrap64 (1 + (d0 : Int)) = (d : Int) := by unfold wrap64; omega
      have r3 : wrap64 (-a) = b := by unfold wrap64; omega
      have r4 : wrap64 (-v) = u := by unfold wrap64; omega
      have R5 := Lib.hid (show -v = u by omega)
      have HD : Hid (-9223372036854775808 ≤ (d : Int) ∧ (d : Int) < 9223372036854775808) := ⟨by omega, by omega⟩
      clear s3 s4 hu hv hd hdl hm ha hab
      go_enter Try.func9, Try.ntmps9
      go_wp2_with fail
      with_reducible refine (share_any a d d a 0 HD.out HD.out s1 _).mono ?_
      rintro _ w1 ⟨rfl, hb1⟩
      go_wp2_with fail
      with_reducible refine (share_any a 0 d 0 0 ⟨by decide, by decide⟩ HD.out s2 _).mono ?_
      rintro _ w2 ⟨rfl, hb2⟩
      go_wp2_with fail
      with_reducible refine (share_any a d 4096 u 0 HD.out ⟨by decide, by decide⟩ S3 _).mono ?_
      rintro _ w3 ⟨rfl, hb3⟩
      go_wp2_with fail
      with_reducible refine (share_any b d 4096 v 0 HD.out ⟨by decide, by decide⟩ S4 _).mono ?_
      rintro _ w4 ⟨rfl, hb4⟩
      clear hb r3
      go_wp2_with fail
      refine (awake1_any _).mono ?_
      rintro _ w5 ⟨rfl, hb5⟩
      have hbf : Below w.heap.size w w5 := (by repeat (first | with_reducible exact Below.refl _ _ | (with_reducible refine bl_sc ?_ ?hge; case hge => (first | exact Nat.le_refl _ | omega)) | with_reducible refine bl_al ?_ _ | with_reducible refine bl_dr ?_ | with_reducible refine bl_dN ?_ _ | (refine bl_tr ?_ (by assumption)) | (refine bl_gr ?_ (by assumption) (by first | exact Nat.le_refl _ | omega)) | exact Below.refl _ _ | refine bl_al ?_ _ | refine bl_dr ?_ | refine bl_dN ?_ _))
      clear hb1 hb2 hb3 hb4 hb5
      go_wp2
      go_ret
      exact ⟨rfl, hbf⟩
end Go.Proofs.Ytghmhgeakpjfkaa

/- cash.Share, lombardref01.Share: so many parts of an amount. -/
import Derived.Test.YtllblmoojohffaaRef01
namespace Go.Proofs.Ytllblmoojohffaa
open Go.RowKit EvM

theorem mul64_is (x y h l : Nat) (hx : x < 18446744073709551616) (hy : y < 18446744073709551616) (hh : Hid (x * y / 18446744073709551616 = h)) (hl : Hid (x * y % 18446744073709551616 = l)) (w : World) :
    Calls Try.prog 40 #[.int .u64 x, .int .u64 y] w (RetB (.tuple #[.int .u64 h, .int .u64 l]) w) := by
  have := mul64_any x y hx hy w
  rw [hh.out, hl.out] at this
  exact this.mono fun _ _ h => h.b
theorem refMul_is (x y h l : Nat) (hx : x < 18446744073709551616) (hy : y < 18446744073709551616) (hh : Hid (x * y / 18446744073709551616 = h)) (hl : Hid (x * y % 18446744073709551616 = l)) (w : World) :
    Calls Try.prog 46 #[.int .u64 x, .int .u64 y] w (RetB (.tuple #[.int .u64 h, .int .u64 l]) w) := refMul_any x y h l hx hy hh hl w
theorem share_arg {a num den x e : Int} (h : shareR a num den = (x, e)) (hc : num < 0 ∨ den ≤ 0) : 0 = x ∧ 1 = e := by
  unfold shareR at h
  rw [if_pos hc] at h
  injection h with h1 h2
  exact ⟨h1, h2⟩
theorem share_range {a num den x e : Int} (h : shareR a num den = (x, e)) (h0 : ¬ num < 0) (h1 : ¬ den ≤ 0) (hm : mayM a = false) : 0 = x ∧ 5 = e := by
  unfold shareR at h
  rw [if_neg (by omega), if_pos hm] at h
  injection h with h1 h2
  exact ⟨h1, h2⟩
/-- What comes of a share, by what comes of the quotient. -/
theorem share_val {a num den x e q : Int} {b : Bool} {A n hi lo : Nat} (h : shareR a num den = (x, e)) (h0 : ¬ num < 0) (h1 : ¬ den ≤ 0) (hm : mayM a = true) (hA : a.natAbs = A) (hn : num = (n : Int)) (hhi : A * n / 18446744073709551616 = hi) (hlo : A * n % 18446744073709551616 = lo)
    (hev : evQ (hi : Int) (lo : Int) den = (q, b)) : (b = false ∨ 1000000000000000 < q → x = 0 ∧ e = 5) ∧ (b = true → 0 ≤ q ∧ (q ≤ 1000000000000000 → (x = if a < 0 then -q else q) ∧ e = 0)) := by
  subst hA; subst hn
  have k := shQ_ev a n den q b (by omega) (by omega) (by rw [Int.toNat_natCast, hhi, hlo]; exact hev)
  unfold shareR at h
  rw [if_neg (by omega), if_neg (by rw [hm]; simp)] at h
  split at h
  · rename_i hc
    injection h with h1 h2
    refine ⟨fun _ => ⟨h1.symm, h2.symm⟩, fun hb => ?_⟩
    have := k.1 hb
    exact ⟨by omega, fun hx => by omega⟩
  · rename_i hc
    injection h with h1 h2
    refine ⟨fun hx => ?_, fun hb => ?_⟩
    · rcases hx with hx | hx
      · exact absurd (k.2 hx) hc
      · cases b with
        | false => exact absurd (k.2 rfl) hc
        | true => have := k.1 rfl; omega
    · have := k.1 hb
      subst this
      exact ⟨by omega, fun _ => ⟨h1.symm, h2.symm⟩⟩

set_option maxHeartbeats 1600000 in
set_option maxRecDepth 100000 in
theorem share_any (a num den x e : Int) (hn : -9223372036854775808 ≤ num ∧ num < 9223372036854775808) (hd : -9223372036854775808 ≤ den ∧ den < 9223372036854775808) (h : Hid (shareR a num den = (x, e))) (w : World) :
    Calls Try.prog 43 #[.int .i64 a, .int .i64 num, .int .i64 den] w (RetB (.tuple #[.int .i64 x, .int .i64 e]) w) := by
  by_cases h0 : num < 0
  · obtain ⟨rfl, rfl⟩ := share_arg h.out (Or.inl h0)
    clear h
    go_enter Try.func43, Try.ntmps43
    go_wp2
    go_ret2
    exact ⟨rfl, Below.refl _ _⟩
  · by_cases h1 : den ≤ 0
    · obtain ⟨rfl, rfl⟩ := share_arg h.out (Or.inr h1)
      clear h
      go_enter Try.func43, Try.ntmps43
      go_wp2
      go_ret2
      exact ⟨rfl, Below.refl _ _⟩
    · cases hm : mayM a with
      | false =>
        obtain ⟨rfl, rfl⟩ := share_range h.out (by omega) (by omega) hm
        have HM := Lib.hid hm
        clear h hm
        go_enter Try.func43, Try.ntmps43
        go_wp2_with fail
        refine (may_is HM.out _).mono ?_
        rintro e w1 ⟨rfl, rfl⟩
        go_wp2
        go_ret2
        exact ⟨rfl, Below.refl _ _⟩
      | true =>
        have hma := mayM_iff.1 hm
        have HM := Lib.hid hm
        obtain ⟨n, rfl⟩ := Int.eq_ofNat_of_zero_le (show 0 ≤ num by omega)
        obtain ⟨d, rfl⟩ := Int.eq_ofNat_of_zero_le (show 0 ≤ den by omega)
        obtain ⟨A, hA⟩ : ∃ A, a.natAbs = A := ⟨_, rfl⟩
        obtain ⟨hi, hhi⟩ : ∃ x, A * n / 18446744073709551616 = x := ⟨_, rfl⟩
        obtain ⟨lo, hlo⟩ : ∃ x, A * n % 18446744073709551616 = x := ⟨_, rfl⟩
        have hlol : lo < 18446744073709551616 := by rw [← hlo]; exact Nat.mod_lt _ (by omega)
        obtain ⟨q, b, hev⟩ : ∃ q b, evQ (hi : Int) (lo : Int) (d : Int) = (q, b) := ⟨_, _, rfl⟩
        have HSH := Lib.hid (share_val h.out (by omega) (by omega) hm (A := A) (n := n) hA rfl (hi := hi) (lo := lo) hhi hlo hev)
        have HHI := Lib.hid hhi
        have HLO := Lib.hid hlo
        have HEV := Lib.hid hev
        have HLL := Lib.hid hlol
        clear h hm hhi hlo hev hlol
        have g0 : decide ((n : Int) < 0) = false := by simp
        have g1 : decide ((d : Int) ≤ 0) = false := by simp; omega
        have g2 : ¬ d = 0 := by omega
        have u1 : IntKind.u64.wrap (n : Int) = (n : Int) := by rw [u64_wrap]; omega
        have u2 : IntKind.u64.wrap (d : Int) = (d : Int) := by rw [u64_wrap]; omega
        have u3 : IntKind.u64.wrap (A : Int) = (A : Int) := by rw [u64_wrap]; omega
        clear h0 h1
        have HNL := Lib.hid (show n < 18446744073709551616 by omega)
        have HDL := Lib.hid (show d < 18446744073709551616 by omega)
        have hAm : A ≤ 1000000000000000 := by omega
        have HD := Lib.hid hd
        have HN := Lib.hid hn
        clear hn hd hma
        rcases (show a = (A : Int) ∨ (a = -(A : Int) ∧ 0 < A) by omega) with rfl | ⟨rfl, hApos⟩
        · have v1 : wrap64 (-(A : Int)) = -(A : Int) := by unfold wrap64; omega
          have v2 : max (A : Int) (-(A : Int)) = (A : Int) := by omega
          have s0 : ¬ (A : Int) < 0 := by omega
          have s1 : decide ((A : Int) < 0) = false := by simp
          clear hA
          go_enter Try.func43, Try.ntmps43
          go_wp2_with fail
          refine (may_is HM.out _).mono ?_
          rintro e w1 ⟨rfl, rfl⟩
          go_wp2_with fail
          refine (mul64_is A n hi lo (by omega) HNL.out HHI HLO _).mono ?_
          rintro e w2 ⟨rfl, hb2⟩
          go_wp2_with fail
          refine (even_any hi lo d q b HLL.out HDL.out HEV _).mono ?_
          rintro e w3 ⟨rfl, hb3⟩
          cases b with
          | false =>
            obtain ⟨rfl, rfl⟩ := HSH.out.1 (Or.inl rfl)
            clear HSH
            go_wp2
            go_ret2
            exact ⟨rfl, (by repeat (first | with_reducible exact Below.refl _ _ | (with_reducible refine bl_sc ?_ ?hge; case hge => (first | exact Nat.le_refl _ | omega)) | with_reducible refine bl_al ?_ _ | with_reducible refine bl_dr ?_ | with_reducible refine bl_dN ?_ _ | (refine bl_tr ?_ (by assumption)) | (refine bl_gr ?_ (by assumption) (by first | exact Nat.le_refl _ | omega)) | exact Below.refl _ _ | refine bl_al ?_ _ | refine bl_dr ?_ | refine bl_dN ?_ _))⟩
          | true =>
            obtain ⟨hq0, hq1⟩ := HSH.out.2 rfl
            by_cases hqm : q ≤ 1000000000000000
            · obtain ⟨hx, rfl⟩ := hq1 hqm
              have HX := Lib.hid hx
              have cq : ¬ (1000000000000000 < q) := by omega
              have cq' : decide (1000000000000000 < q) = false := by simp; omega
              have q1 : wrap64 q = q := by unfold wrap64; omega
              have q2 : wrap64 (-q) = -q := by unfold wrap64; omega
              clear HSH hx hq1
              go_wp2
              go_ret2
              refine ⟨?_, (by repeat (first | with_reducible exact Below.refl _ _ | (with_reducible refine bl_sc ?_ ?hge; case hge => (first | exact Nat.le_refl _ | omega)) | with_reducible refine bl_al ?_ _ | with_reducible refine bl_dr ?_ | with_reducible refine bl_dN ?_ _ | (refine bl_tr ?_ (by assumption)) | (refine bl_gr ?_ (by assumption) (by first | exact Nat.le_refl _ | omega)) | exact Below.refl _ _ | refine bl_al ?_ _ | refine bl_dr ?_ | refine bl_dN ?_ _))⟩
              rw [HX.out, if_neg (by omega)]
              rfl
            · obtain ⟨rfl, rfl⟩ := HSH.out.1 (Or.inr (by omega))
              have cq : 1000000000000000 < q := by omega
              have cq' : decide (1000000000000000 < q) = true := by simp; omega
              clear HSH hq1 hqm
              go_wp2
              go_ret2
              exact ⟨rfl, (by repeat (first | with_reducible exact Below.refl _ _ | (with_reducible refine bl_sc ?_ ?hge; case hge => (first | exact Nat.le_refl _ | omega)) | with_reducible refine bl_al ?_ _ | with_reducible refine bl_dr ?_ | with_reducible refine bl_dN ?_ _ | (refine bl_tr ?_ (by assumption)) | (refine bl_gr ?_ (by assumption) (by first | exact Nat.le_refl _ | omega)) | exact Below.refl _ _ | refine bl_al ?_ _ | refine bl_dr ?_ | refine bl_dN ?_ _))⟩
        · have v1 : wrap64 (A : Int) = (A : Int) := by unfold wrap64; omega
          have v2 : max (-(A : Int)) (A : Int) = (A : Int) := by omega
          have s0 : -(A : Int) < 0 := by omega
          have s1 : decide (-(A : Int) < 0) = true := by simp; omega
          clear hA
          go_enter Try.func43, Try.ntmps43
          go_wp2_with fail
          refine (may_is HM.out _).mono ?_
          rintro e w1 ⟨rfl, rfl⟩
          go_wp2_with fail
          refine (mul64_is A n hi lo (by omega) HNL.out HHI HLO _).mono ?_
          rintro e w2 ⟨rfl, hb2⟩
          go_wp2_with fail
          refine (even_any hi lo d q b HLL.out HDL.out HEV _).mono ?_
          rintro e w3 ⟨rfl, hb3⟩
          cases b with
          | false =>
            obtain ⟨rfl, rfl⟩ := HSH.out.1 (Or.inl rfl)
            clear HSH
            go_wp2
            go_ret2
            exact ⟨rfl, (by repeat (first | with_reducible exact Below.refl _ _ | (with_reducible refine bl_sc ?_ ?hge; case hge => (first | exact Nat.le_refl _ | omega)) | with_reducible refine bl_al ?_ _ | with_reducible refine bl_dr ?_ | with_reducible refine bl_dN ?_ _ | (refine bl_tr ?_ (by assumption)) | (refine bl_gr ?_ (by assumption) (by first | exact Nat.le_refl _ | omega)) | exact Below.refl _ _ | refine bl_al ?_ _ | refine bl_dr ?_ | refine bl_dN ?_ _))⟩
          | true =>
            obtain ⟨hq0, hq1⟩ := HSH.out.2 rfl
            by_cases hqm : q ≤ 1000000000000000
            · obtain ⟨hx, rfl⟩ := hq1 hqm
              have HX := Lib.hid hx
              have cq : ¬ (1000000000000000 < q) := by omega
              have cq' : decide (1000000000000000 < q) = false := by simp; omega
              have q1 : wrap64 q = q := by unfold wrap64; omega
              have q2 : wrap64 (-q) = -q := by unfold wrap64; omega
              clear HSH hx hq1
              go_wp2
              go_ret2
              refine ⟨?_, (by repeat (first | with_reducible exact Below.refl _ _ | (with_reducible refine bl_sc ?_ ?hge; case hge => (first | exact Nat.le_refl _ | omega)) | with_reducible refine bl_al ?_ _ | with_reducible refine bl_dr ?_ | with_reducible refine bl_dN ?_ _ | (refine bl_tr ?_ (by assumption)) | (refine bl_gr ?_ (by assumption) (by first | exact Nat.le_refl _ | omega)) | exact Below.refl _ _ | refine bl_al ?_ _ | refine bl_dr ?_ | refine bl_dN ?_ _))⟩
              rw [HX.out, if_pos (by omega)]
              rfl
            · obtain ⟨rfl, rfl⟩ := HSH.out.1 (Or.inr (by omega))
              have cq : 1000000000000000 < q := by omega
              have cq' : decide (1000000000000000 < q) = true := by simp; omega
              clear HSH hq1 hqm
              go_wp2
              go_ret2
              exact ⟨rfl, (by repeat (first | with_reducible exact Below.refl _ _ | (with_reducible refine bl_sc ?_ ?hge; case hge => (first | exact Nat.le_refl _ | omega)) | with_reducible refine bl_al ?_ _ | with_reducible refine bl_dr ?_ | with_reducible refine bl_dN ?_ _ | (refine bl_tr ?_ (by assumption)) | (refine bl_gr ?_ (by assumption) (by first | exact Nat.le_refl _ | omega)) | exact Below.refl _ _ | refine bl_al ?_ _ | refine bl_dr ?_ | refine bl_dN ?_ _))⟩


set_option maxHeartbeats 1600000 in
set_option maxRecDepth 100000 in
theorem refShare_any (a num den x e : Int) (hn : -9223372036854775808 ≤ num ∧ num < 9223372036854775808) (hd : -9223372036854775808 ≤ den ∧ den < 9223372036854775808) (h : Hid (shareR a num den = (x, e))) (w : World) :
    Calls Try.prog 45 #[.int .i64 a, .int .i64 num, .int .i64 den] w (RetB (.tuple #[.int .i64 x, .int .i64 e]) w) := by
  by_cases h0 : num < 0
  · obtain ⟨rfl, rfl⟩ := share_arg h.out (Or.inl h0)
    clear h
    go_enter Try.func45, Try.ntmps45
    go_wp2
    go_ret2
    exact ⟨rfl, Below.refl _ _⟩
  · by_cases h1 : den ≤ 0
    · obtain ⟨rfl, rfl⟩ := share_arg h.out (Or.inr h1)
      clear h
      go_enter Try.func45, Try.ntmps45
      go_wp2
      go_ret2
      exact ⟨rfl, Below.refl _ _⟩
    · cases hm : mayM a with
      | false =>
        obtain ⟨rfl, rfl⟩ := share_range h.out (by omega) (by omega) hm
        have HM := Lib.hid hm
        clear h hm
        go_enter Try.func45, Try.ntmps45
        go_wp2_with fail
        refine (refMay_is HM.out _).mono ?_
        rintro e w1 ⟨rfl, rfl⟩
        go_wp2
        go_ret2
        exact ⟨rfl, Below.refl _ _⟩
      | true =>
        have hma := mayM_iff.1 hm
        have HM := Lib.hid hm
        obtain ⟨n, rfl⟩ := Int.eq_ofNat_of_zero_le (show 0 ≤ num by omega)
        obtain ⟨d, rfl⟩ := Int.eq_ofNat_of_zero_le (show 0 ≤ den by omega)
        obtain ⟨A, hA⟩ : ∃ A, a.natAbs = A := ⟨_, rfl⟩
        obtain ⟨hi, hhi⟩ : ∃ x, A * n / 18446744073709551616 = x := ⟨_, rfl⟩
        obtain ⟨lo, hlo⟩ : ∃ x, A * n % 18446744073709551616 = x := ⟨_, rfl⟩
        have hlol : lo < 18446744073709551616 := by rw [← hlo]; exact Nat.mod_lt _ (by omega)
        obtain ⟨q, b, hev⟩ : ∃ q b, evQ (hi : Int) (lo : Int) (d : Int) = (q, b) := ⟨_, _, rfl⟩
        have HSH := Lib.hid (share_val h.out (by omega) (by omega) hm (A := A) (n := n) hA rfl (hi := hi) (lo := lo) hhi hlo hev)
        have HHI := Lib.hid hhi
        have HLO := Lib.hid hlo
        have HEV := Lib.hid hev
        have HLL := Lib.hid hlol
        clear h hm hhi hlo hev hlol
        have g0 : decide ((n : Int) < 0) = false := by simp
        have g1 : decide ((d : Int) ≤ 0) = false := by simp; omega
        have g2 : ¬ d = 0 := by omega
        have u1 : IntKind.u64.wrap (n : Int) = (n : Int) := by rw [u64_wrap]; omega
        have u2 : IntKind.u64.wrap (d : Int) = (d : Int) := by rw [u64_wrap]; omega
        have u3 : IntKind.u64.wrap (A : Int) = (A : Int) := by rw [u64_wrap]; omega
        clear h0 h1
        have HNL := Lib.hid (show n < 18446744073709551616 by omega)
        have HDL := Lib.hid (show d < 18446744073709551616 by omega)
        have hAm : A ≤ 1000000000000000 := by omega
        have HD := Lib.hid hd
        have HN := Lib.hid hn
        clear hn hd hma
        rcases (show a = (A : Int) ∨ (a = -(A : Int) ∧ 0 < A) by omega) with rfl | ⟨rfl, hApos⟩
        · have v1 : wrap64 (-(A : Int)) = -(A : Int) := by unfold wrap64; omega
          have v2 : max (A : Int) (-(A : Int)) = (A : Int) := by omega
          have s0 : ¬ (A : Int) < 0 := by omega
          have s1 : decide ((A : Int) < 0) = false := by simp
          clear hA
          go_enter Try.func45, Try.ntmps45
          go_wp2_with fail
          refine (refMay_is HM.out _).mono ?_
          rintro e w1 ⟨rfl, rfl⟩
          go_wp2_with fail
          refine (refMul_is A n hi lo (by omega) HNL.out HHI HLO _).mono ?_
          rintro e w2 ⟨rfl, hb2⟩
          go_wp2_with fail
          refine (refEven_any hi lo d q b HLL.out HDL.out HEV _).mono ?_
          rintro e w3 ⟨rfl, hb3⟩
          cases b with
          | false =>
            obtain ⟨rfl, rfl⟩ := HSH.out.1 (Or.inl rfl)
            clear HSH
            go_wp2
            go_ret2
            exact ⟨rfl, (by repeat (first | with_reducible exact Below.refl _ _ | (with_reducible refine bl_sc ?_ ?hge; case hge => (first | exact Nat.le_refl _ | omega)) | with_reducible refine bl_al ?_ _ | with_reducible refine bl_dr ?_ | with_reducible refine bl_dN ?_ _ | (refine bl_tr ?_ (by assumption)) | (refine bl_gr ?_ (by assumption) (by first | exact Nat.le_refl _ | omega)) | exact Below.refl _ _ | refine bl_al ?_ _ | refine bl_dr ?_ | refine bl_dN ?_ _))⟩
          | true =>
            obtain ⟨hq0, hq1⟩ := HSH.out.2 rfl
            by_cases hqm : q ≤ 1000000000000000
            · obtain ⟨hx, rfl⟩ := hq1 hqm
              have HX := Lib.hid hx
              have cq : ¬ (1000000000000000 < q) := by omega
              have cq' : decide (1000000000000000 < q) = false := by simp; omega
              have q1 : wrap64 q = q := by unfold wrap64; omega
              have q2 : wrap64 (-q) = -q := by unfold wrap64; omega
              clear HSH hx hq1
              go_wp2
              go_ret2
              refine ⟨?_, (by repeat (first | with_reducible exact Below.refl _ _ | (with_reducible refine bl_sc ?_ ?hge; case hge => (first | exact Nat.le_refl _ | omega)) | with_reducible refine bl_al ?_ _ | with_reducible refine bl_dr ?_ | with_reducible refine bl_dN ?_ _ | (refine bl_tr ?_ (by assumption)) | (refine bl_gr ?_ (by assumption) (by first | exact Nat.le_refl _ | omega)) | exact Below.refl _ _ | refine bl_al ?_ _ | refine bl_dr ?_ | refine bl_dN ?_ _))⟩
              rw [HX.out, if_neg (by omega)]
              rfl
            · obtain ⟨rfl, rfl⟩ := HSH.out.1 (Or.inr (by omega))
              have cq : 1000000000000000 < q := by omega
              have cq' : decide (1000000000000000 < q) = true := by simp; omega
              clear HSH hq1 hqm
              go_wp2
              go_ret2
              exact ⟨rfl, (by repeat (first | with_reducible exact Below.refl _ _ | (with_reducible refine bl_sc ?_ ?hge; case hge => (first | exact Nat.le_refl _ | omega)) | with_reducible refine bl_al ?_ _ | with_reducible refine bl_dr ?_ | with_reducible refine bl_dN ?_ _ | (refine bl_tr ?_ (by assumption)) | (refine bl_gr ?_ (by assumption) (by first | exact Nat.le_refl _ | omega)) | exact Below.refl _ _ | refine bl_al ?_ _ | refine bl_dr ?_ | refine bl_dN ?_ _))⟩
        · have v1 : wrap64 (A : Int) = (A : Int) := by unfold wrap64; omega
          have v2 : max (-(A : Int)) (A : Int) = (A : Int) := by omega
          have s0 : -(A : Int) < 0 := by omega
          have s1 : decide (-(A : Int) < 0) = true := by simp; omega
          clear hA
          go_enter Try.func45, Try.ntmps45
          go_wp2_with fail
          refine (refMay_is HM.out _).mono ?_
          rintro e w1 ⟨rfl, rfl⟩
          go_wp2_with fail
          refine (refMul_is A n hi lo (by omega) HNL.out HHI HLO _).mono ?_
          rintro e w2 ⟨rfl, hb2⟩
          go_wp2_with fail
          refine (refEven_any hi lo d q b HLL.out HDL.out HEV _).mono ?_
          rintro e w3 ⟨rfl, hb3⟩
          cases b with
          | false =>
            obtain ⟨rfl, rfl⟩ := HSH.out.1 (Or.inl rfl)
            clear HSH
            go_wp2
            go_ret2
            exact ⟨rfl, (by repeat (first | with_reducible exact Below.refl _ _ | (with_reducible refine bl_sc ?_ ?hge; case hge => (first | exact Nat.le_refl _ | omega)) | with_reducible refine bl_al ?_ _ | with_reducible refine bl_dr ?_ | with_reducible refine bl_dN ?_ _ | (refine bl_tr ?_ (by assumption)) | (refine bl_gr ?_ (by assumption) (by first | exact Nat.le_refl _ | omega)) | exact Below.refl _ _ | refine bl_al ?_ _ | refine bl_dr ?_ | refine bl_dN ?_ _))⟩
          | true =>
            obtain ⟨hq0, hq1⟩ := HSH.out.2 rfl
            by_cases hqm : q ≤ 1000000000000000
            · obtain ⟨hx, rfl⟩ := hq1 hqm
              have HX := Lib.hid hx
              have cq : ¬ (1000000000000000 < q) := by omega
              have cq' : decide (1000000000000000 < q) = false := by simp; omega
              have q1 : wrap64 q = q := by unfold wrap64; omega
              have q2 : wrap64 (-q) = -q := by unfold wrap64; omega
              clear HSH hx hq1
              go_wp2
              go_ret2
              refine ⟨?_, (by repeat (first | with_reducible exact Below.refl _ _ | (with_reducible refine bl_sc ?_ ?hge; case hge => (first | exact Nat.le_refl _ | omega)) | with_reducible refine bl_al ?_ _ | with_reducible refine bl_dr ?_ | with_reducible refine bl_dN ?_ _ | (refine bl_tr ?_ (by assumption)) | (refine bl_gr ?_ (by assumption) (by first | exact Nat.le_refl _ | omega)) | exact Below.refl _ _ | refine bl_al ?_ _ | refine bl_dr ?_ | refine bl_dN ?_ _))⟩
              rw [HX.out, if_pos (by omega)]
              rfl
            · obtain ⟨rfl, rfl⟩ := HSH.out.1 (Or.inr (by omega))
              have cq : 1000000000000000 < q := by omega
              have cq' : decide (1000000000000000 < q) = true := by simp; omega
              clear HSH hq1 hqm
              go_wp2
              go_ret2
              exact ⟨rfl, (by repeat (first | with_reducible exact Below.refl _ _ | (with_reducible refine bl_sc ?_ ?hge; case hge => (first | exact Nat.le_refl _ | omega)) | with_reducible refine bl_al ?_ _ | with_reducible refine bl_dr ?_ | with_reducible refine bl_dN ?_ _ | (refine bl_tr ?_ (by assumption)) | (refine bl_gr ?_ (by assumption) (by first | exact Nat.le_refl _ | omega)) | exact Below.refl _ _ | refine bl_al ?_ _ | refine bl_dr ?_ | refine bl_dN ?_ _))⟩

end Go.Proofs.Ytllblmoojohffaa

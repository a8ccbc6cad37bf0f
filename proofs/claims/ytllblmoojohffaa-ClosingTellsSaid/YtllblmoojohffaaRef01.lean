/- lombardref01: May, Mul and Even, bit by bit. -/
import Derived.Test.YtllblmoojohffaaEven
namespace Go.Proofs.Ytllblmoojohffaa
open Go.RowKit EvM

theorem refMay_any (v : Int) (w : World) : Calls Try.prog 64 #[.int .i64 v] w (Ret (.bool (mayM v)) w) := by
  by_cases h1 : -1000000000000000 ≤ v
  · by_cases h2 : v ≤ 1000000000000000
    · go_enter Try.func64, Try.ntmps64
      go_wp2
      go_ret
      simp [Ret, mayM, h1, h2]
    · go_enter Try.func64, Try.ntmps64
      go_wp2
      go_ret
      simp [Ret, mayM, h1, h2]
  · go_enter Try.func64, Try.ntmps64
    go_wp2
    go_ret
    simp [Ret, mayM]
    omega
theorem refMay_is {v : Int} {r : Bool} (h : mayM v = r) (w : World) : Calls Try.prog 64 #[.int .i64 v] w (Ret (.bool r) w) := by rw [← h]; exact refMay_any v w

/-- One bit, taken out by a shift. -/
theorem bit_of (x j : Nat) (hx : x < 18446744073709551616) : bits .and .u64 ((x : Int) / 2 ^ j) 1 = ((x / 2 ^ j % 2 : Nat) : Int) := by
  rw [show ((2 : Int) ^ j) = ((2 ^ j : Nat) : Int) by push_cast; rfl, ← Int.natCast_ediv]
  have h := bits_and_u64_nat (x / 2 ^ j) 1 (Nat.lt_of_le_of_lt (Nat.div_le_self _ _) hx) (by omega)
  rw [show x / 2 ^ j &&& 1 = x / 2 ^ j % 2 from Nat.and_two_pow_sub_one_eq_mod _ 1] at h
  exact h
/-- A bit, put behind. -/
theorem or_bit (x b : Nat) (hb : b ≤ 1) : bits .or .u64 (IntKind.u64.wrap ((x : Int) * 2)) (b : Int) = (((2 * x + b) % 18446744073709551616 : Nat) : Int) := by
  have e : IntKind.u64.wrap ((x : Int) * 2) = ((x % 9223372036854775808 * 2 ^ 1 : Nat) : Int) := by rw [u64_wrap]; omega
  rw [e, c_or _ b 1 (by omega) (by omega) (by omega)]
  omega

theorem mul_arith (P Q H L H1 L1 L2 a t : Nat) (hH : P / 18446744073709551616 = H) (hL : P % 18446744073709551616 = L) (hH1 : (2 * H + L / 9223372036854775808) % 18446744073709551616 = H1) (hL1 : L * 2 % 18446744073709551616 = L1)
    (hL2 : (L1 + a) % 18446744073709551616 = L2) (hst : Q = 2 * P + if t = 1 then a else 0) (hbd : Q < 18446744073709551616 * 18446744073709551616) (ha : a < 18446744073709551616) (_ht : t ≤ 1) :
    (¬ t = 1 → Q / 18446744073709551616 = H1 ∧ Q % 18446744073709551616 = L1) ∧ (t = 1 → ¬ L2 < L1 → Q / 18446744073709551616 = H1 ∧ Q % 18446744073709551616 = L2) ∧
    (t = 1 ∧ L2 < L1 → H1 + 1 < 18446744073709551616 ∧ Q / 18446744073709551616 = H1 + 1 ∧ Q % 18446744073709551616 = L2) := by
  have hn : 18446744073709551616 * 18446744073709551616 = (340282366920938463463374607431768211456 : Nat) := by decide
  rw [hn] at hbd
  refine ⟨fun h => ?_, fun h h' => ?_, fun ⟨h, h'⟩ => ?_⟩
  · rw [if_neg h] at hst; omega
  · rw [if_pos h] at hst; omega
  · rw [if_pos h] at hst; omega

set_option maxHeartbeats 800000 in
set_option maxRecDepth 100000 in
theorem refMul_any (a b hi lo : Nat) (ha : a < 18446744073709551616) (hb : b < 18446744073709551616) (hh : Hid (a * b / 18446744073709551616 = hi)) (hl : Hid (a * b % 18446744073709551616 = lo)) (w : World) :
    Calls Try.prog 46 #[.int .u64 a, .int .u64 b] w (RetB (.tuple #[.int .u64 hi, .int .u64 lo]) w) := by
  have HA := Lib.hid ha
  have HB := Lib.hid hb
  clear ha hb
  go_enter Try.func46, Try.ntmps46
  go_wp2
  go_loopg [6, 7, 8] 64 (fun g h l i wr => ∃ H L : Nat, h = .int .u64 H ∧ l = .int .u64 L ∧ i = .int .i64 ((g : Int) - 1) ∧ g ≤ 64 ∧ Hid (a * (b / 2 ^ g) / 18446744073709551616 = H) ∧ Hid (a * (b / 2 ^ g) % 18446744073709551616 = L) ∧ w = wr)
  case atStart =>
    refine ⟨0, 0, rfl, rfl, rfl, by omega, ?_, ?_, rfl⟩ <;> (show _ = _; rw [mul_top a b HB.out])
  case round =>
    obtain ⟨H, L, rfl, rfl, rfl, hg, hH, hL, rfl⟩ := hrel
    cases gk with
    | zero =>
      obtain rfl : hi = H := by rw [← hh.out, ← hH.out, Nat.pow_zero, Nat.div_one]
      obtain rfl : lo = L := by rw [← hl.out, ← hL.out, Nat.pow_zero, Nat.div_one]
      have d0 : ¬ ((0 : Int) ≤ ((0 : Nat) : Int) - 1) := by omega
      clear hh hl hH hL
      go_wp2
      go_ret2
      exact ⟨rfl, Below.refl _ _⟩
    | succ g =>
      have HG := Lib.hid hg
      obtain ⟨i, hi0⟩ : ∃ i : Int, ((g + 1 : Nat) : Int) - 1 = i := ⟨_, rfl⟩
      have hi1 : i = (g : Int) := by omega
      rw [hi0]
      subst hi1
      clear hi0
      have hbd := mul_bound a b g HA.out HB.out
      have hst := mul_step a b g
      obtain ⟨P, hP⟩ : ∃ P, a * (b / 2 ^ (g + 1)) = P := ⟨_, rfl⟩
      obtain ⟨Q, hQ⟩ : ∃ Q, a * (b / 2 ^ g) = Q := ⟨_, rfl⟩
      have HQ := Lib.hid hQ
      rw [hP] at hH hL hst
      rw [hQ] at hst hbd
      have hbit := bit_of b g HB.out
      obtain ⟨t, ht⟩ : ∃ t, b / 2 ^ g % 2 = t := ⟨_, rfl⟩
      have ht2 : t ≤ 1 := by omega
      rw [ht] at hst hbit
      clear hP hQ ht
      obtain ⟨H1, hH1⟩ : ∃ x, (2 * H + L / 9223372036854775808) % 18446744073709551616 = x := ⟨_, rfl⟩
      obtain ⟨L1, hL1⟩ : ∃ x, L * 2 % 18446744073709551616 = x := ⟨_, rfl⟩
      obtain ⟨L2, hL2⟩ : ∃ x, (L1 + a) % 18446744073709551616 = x := ⟨_, rfl⟩
      have ma := mul_arith P Q H L H1 L1 L2 a t hH.out hL.out hH1 hL1 hL2 hst hbd HA.out ht2
      have MA := Lib.hid ma
      have hLlt : L < 18446744073709551616 := by rw [← hL.out]; exact Nat.mod_lt _ (by omega)
      have r1 : bits .or .u64 (IntKind.u64.wrap ((H : Int) * 2)) ((L : Int) / 9223372036854775808) = (H1 : Int) := by
        rw [show (L : Int) / 9223372036854775808 = ((L / 9223372036854775808 : Nat) : Int) by omega, or_bit H _ (by omega), hH1]
      have r2 : IntKind.u64.wrap ((L : Int) * 2) = (L1 : Int) := by rw [u64_wrap]; omega
      have r3 : IntKind.u64.wrap ((L1 : Int) + (a : Int)) = (L2 : Int) := by rw [u64_wrap]; omega
      have r4 : IntKind.u64.wrap ((H1 : Int) + 1) = ((H1 + 1 : Nat) : Int) ∨ ¬ (t = 1 ∧ L2 < L1) := by
        by_cases hx : t = 1 ∧ L2 < L1
        · exact Or.inl (by have := ma.2.2 hx; rw [u64_wrap]; omega)
        · exact Or.inr hx
      have R4 := Lib.hid r4
      have hi1 : wrap64 ((g : Int) - 1) = (g : Int) - 1 := by unfold wrap64; omega
      have hg64 : g < 64 := by omega
      clear hst hbd hH hL hH1 hL1 hL2 ma r4 hLlt hg
      by_cases ht1 : t = 1
      · subst ht1
        by_cases hcy : L2 < L1
        · have r5 : IntKind.u64.wrap ((H1 : Int) + 1) = ((H1 + 1 : Nat) : Int) := R4.out.resolve_right (fun h => h ⟨rfl, hcy⟩)
          have c1 : decide (L2 < L1) = true := by simp [hcy]
          have HCY := Lib.hid hcy
          have M1 := Lib.hid (MA.out.2.2 ⟨rfl, hcy⟩)
          clear R4 MA hcy
          go_wp2
          go_roundg g
          case measure => omega
          case rel => exact ⟨H1 + 1, L2, by go_num, rfl, rfl, by omega, by show _ = _; rw [HQ.out]; exact M1.out.2.1, by show _ = _; rw [HQ.out]; exact M1.out.2.2, rfl⟩
        · have c1 : decide (L2 < L1) = false := by simp; omega
          have M1 := Lib.hid (MA.out.2.1 rfl hcy)
          clear R4 MA hcy
          go_wp2
          go_roundg g
          case measure => omega
          case rel => exact ⟨H1, L2, rfl, rfl, rfl, by omega, by show _ = _; rw [HQ.out]; exact M1.out.1, by show _ = _; rw [HQ.out]; exact M1.out.2, rfl⟩
      · have t0 : ((t : Int) == 1) = false := by rw [beq_eq_false_iff_ne]; omega
        have M1 := Lib.hid (MA.out.1 ht1)
        clear R4 MA
        go_wp2
        go_roundg g
        case measure => omega
        case rel => exact ⟨H1, L1, rfl, rfl, rfl, by omega, by show _ = _; rw [HQ.out]; exact M1.out.1, by show _ = _; rw [HQ.out]; exact M1.out.2, rfl⟩

/-- One step of the division by bits, in words. -/
theorem ev_arith (N Q R den t R1 Q1 R2 : Nat) (hd : 0 < den) (hden : den < 18446744073709551616) (ht : t ≤ 1) (hQ : N / den = Q) (hR : N % den = R) (hR1 : (2 * R + t) % 18446744073709551616 = R1) (hQ1 : Q * 2 % 18446744073709551616 = Q1)
    (hR2 : (R1 + 18446744073709551616 - den) % 18446744073709551616 = R2) (hb : (2 * N + t) / den < 18446744073709551616) :
    (9223372036854775808 ≤ R ∨ den ≤ R1 → (2 * N + t) / den = Q1 + 1 ∧ (2 * N + t) % den = R2 ∧ Q1 % 2 = 0 ∧ Q1 + 1 < 18446744073709551616) ∧ (¬ 9223372036854775808 ≤ R → ¬ den ≤ R1 → (2 * N + t) / den = Q1 ∧ (2 * N + t) % den = R1) := by
  obtain ⟨s1, s2⟩ := bit_step N t den hd ht
  have hl := Nat.mod_lt N hd
  rw [hQ, hR] at s1
  rw [hR] at s2 hl
  obtain ⟨A, hA⟩ : ∃ x, (2 * N + t) / den = x := ⟨_, rfl⟩
  obtain ⟨B, hB⟩ : ∃ x, (2 * N + t) % den = x := ⟨_, rfl⟩
  rw [hA] at s1 hb; rw [hB] at s2
  rw [hA, hB]
  clear hA hB hQ hR
  by_cases h : den ≤ 2 * R + t
  · rw [if_pos h] at s1 s2
    refine ⟨fun _ => by omega, fun h1 h2 => by omega⟩
  · rw [if_neg h] at s1 s2
    refine ⟨fun h1 => by omega, fun h1 h2 => by omega⟩
theorem or_one (q : Nat) (hq : q < 18446744073709551616) (h2 : q % 2 = 0) : bits .or .u64 (q : Int) 1 = ((q + 1 : Nat) : Int) := by
  have e : q = q / 2 * 2 ^ 1 := by omega
  have := c_or (q / 2) 1 1 (by omega) (by omega) (by omega)
  rw [← e] at this
  exact this
theorem and_one (q : Nat) (hq : q < 18446744073709551616) : bits .and .u64 (q : Int) 1 = ((q % 2 : Nat) : Int) := by
  have h := bits_and_u64_nat q 1 hq (by omega)
  rw [show q &&& 1 = q % 2 from Nat.and_two_pow_sub_one_eq_mod _ 1] at h
  exact h

set_option maxHeartbeats 1600000 in
set_option maxRecDepth 100000 in
theorem refEven_any (hi lo den : Nat) (q : Int) (b : Bool) (hlo : lo < 18446744073709551616) (hden : den < 18446744073709551616) (hq : Hid (evQ hi lo den = (q, b))) (w : World) :
    Calls Try.prog 47 #[.int .u64 hi, .int .u64 lo, .int .u64 den] w (RetB (.tuple #[.int .u64 q, .bool b]) w) := by
  by_cases hc : den ≤ hi
  · obtain ⟨rfl, rfl⟩ := evQ_no hq.out hc
    have d1 : decide ((den : Int) ≤ (hi : Int)) = true := by simp; omega
    clear hq
    by_cases h0 : den = 0
    · have d0 : ((den : Int) == 0) = true := by simp [h0]
      clear h0 hc
      go_enter Try.func47, Try.ntmps47
      go_wp2
      go_ret2
      exact ⟨rfl, Below.refl _ _⟩
    · have d0 : ((den : Int) == 0) = false := by rw [beq_eq_false_iff_ne]; omega
      go_enter Try.func47, Try.ntmps47
      go_wp2
      go_ret2
      exact ⟨rfl, Below.refl _ _⟩
  · obtain ⟨n, hn⟩ : ∃ n, hi * 18446744073709551616 + lo = n := ⟨_, rfl⟩
    have HQY := Lib.hid (evQ_yes hq.out hc hn)
    have HN := Lib.hid hn
    have HLO := Lib.hid hlo
    have HDEN := Lib.hid hden
    have htop : n / 2 ^ 64 = hi := by rw [← hn]; exact top_hi hi lo hlo
    have hqb : ∀ g, n / 2 ^ g / den < 18446744073709551616 := fun g => by
      have h1 : n / 2 ^ g / den ≤ n / den := Nat.div_le_div_right (Nat.div_le_self _ _)
      have h2 : n / den < 18446744073709551616 := by
        rw [Nat.div_lt_iff_lt_mul (by omega)]
        have : (hi + 1) * 18446744073709551616 ≤ den * 18446744073709551616 := Nat.mul_le_mul_right _ (by omega)
        rw [Nat.mul_comm]
        omega
      omega
    have HQB := Lib.hid hqb
    have HTOP := Lib.hid htop
    have hd0 : 0 < den := by omega
    have HC := Lib.hid hc
    have d0 : ((den : Int) == 0) = false := by rw [beq_eq_false_iff_ne]; omega
    have d1 : decide ((den : Int) ≤ (hi : Int)) = false := by simp; omega
    clear hq hn hlo hden htop hqb hc
    go_enter Try.func47, Try.ntmps47
    go_wp2
    go_loopg [8, 9, 10] 64 (fun g h l i wr => ∃ Q R : Nat, h = .int .u64 Q ∧ l = .int .u64 R ∧ i = .int .i64 ((g : Int) - 1) ∧ g ≤ 64 ∧ Hid (n / 2 ^ g / den = Q) ∧ Hid (n / 2 ^ g % den = R) ∧ w = wr)
    case atStart =>
      refine ⟨0, hi, rfl, rfl, rfl, by omega, ?_, ?_, rfl⟩
      · show _ = _
        rw [HTOP.out]; exact Nat.div_eq_of_lt (Nat.lt_of_not_le HC.out)
      · show _ = _
        rw [HTOP.out]; exact Nat.mod_eq_of_lt (Nat.lt_of_not_le HC.out)
    case round =>
      obtain ⟨Q, R, rfl, rfl, rfl, hg, hQ, hR, rfl⟩ := hrel
      cases gk with
      | zero =>
        have i0 : ¬ ((0 : Int) ≤ ((0 : Nat) : Int) - 1) := by omega
        have hql : Q < 18446744073709551616 := by rw [← hQ.out]; exact HQB.out 0
        have hrl : R < den := by rw [← hR.out]; exact Nat.mod_lt _ hd0
        obtain ⟨d2, hd2⟩ : ∃ x, den - R = x := ⟨_, rfl⟩
        have HEV : Hid (evenN n den = if R < d2 ∨ (R = d2 ∧ Q % 2 = 0) then Q else Q + 1) := by
          have h1 := hQ.out
          have h2 := hR.out
          rw [Nat.pow_zero, Nat.div_one] at h1 h2
          show _ = _
          unfold evenN
          rw [h1, h2, hd2]
        have hdn := HDEN.out
        have s1 : IntKind.u64.wrap ((den : Int) - (R : Int)) = (d2 : Int) := by rw [u64_wrap]; omega
        have HQL := Lib.hid hql
        have sa := and_one Q hql
        obtain ⟨e, he⟩ : ∃ x, Q % 2 = x := ⟨_, rfl⟩
        rw [he] at sa HEV
        have he1 : e ≤ 1 := by omega
        clear hQ hR hql hrl hd2 hdn he hg
        have key : (R < d2 ∨ (R = d2 ∧ e = 0)) ∨ (d2 < R ∨ (R = d2 ∧ e = 1)) := by omega
        rcases key with hk | hk
        · have HR := Lib.hid (HQY.out.1 (by rw [HEV.out, if_pos hk]; exact HQL.out))
          rw [HEV.out, if_pos hk] at HR
          clear HQY HEV
          rcases hk with hk | ⟨hk1, hk2⟩
          · have c1 : decide (d2 < R) = false := by simp; omega
            have c2 : ((R : Int) == (d2 : Int)) = false := by rw [beq_eq_false_iff_ne]; omega
            clear hk he1
            go_wp2
            go_ret2
            rw [HR.out.1, HR.out.2]
            exact ⟨rfl, Below.refl _ _⟩
          · have c1 : decide (d2 < R) = false := by simp; omega
            have c2 : ((R : Int) == (d2 : Int)) = true := by simp [hk1]
            have c3 : ((e : Int) == 1) = false := by rw [beq_eq_false_iff_ne]; omega
            clear hk1 hk2 he1
            go_wp2
            go_ret2
            rw [HR.out.1, HR.out.2]
            exact ⟨rfl, Below.refl _ _⟩
        · have hE2 : evenN n den = Q + 1 := by rw [HEV.out, if_neg (by omega)]
          have HE2 := Lib.hid hE2
          clear hE2 HEV
          obtain ⟨Q1, hQ1⟩ : ∃ x, (Q + 1) % 18446744073709551616 = x := ⟨_, rfl⟩
          have s2 : IntKind.u64.wrap ((Q : Int) + 1) = (Q1 : Int) := by rw [u64_wrap]; omega
          have HQ1 := Lib.hid hQ1
          clear hQ1
          have fin : ((Q : Int) == 18446744073709551615) = true ∧ Hid (q = 0 ∧ b = false) ∨ ((Q : Int) == 18446744073709551615) = false ∧ Hid (q = (Q1 : Int) ∧ b = true) := by
            by_cases hz : Q = 18446744073709551615
            · exact Or.inl ⟨by rw [beq_iff_eq]; omega, HQY.out.2 (by rw [HE2.out]; omega)⟩
            · have h3 := HQL.out
              have h4 := HQY.out.1 (by rw [HE2.out]; omega)
              rw [HE2.out] at h4
              have h5 := HQ1.out
              refine Or.inr ⟨by rw [beq_eq_false_iff_ne]; omega, by omega, h4.2⟩
          clear HQY HE2 HQL HQ1
          rcases fin with ⟨f1, HR⟩ | ⟨f1, HR⟩
          all_goals
            rcases hk with hk | ⟨hk1, hk2⟩
            · have c1 : decide (d2 < R) = true := by simp; omega
              clear hk he1
              go_wp2
              go_ret2
              rw [HR.out.1, HR.out.2]
              exact ⟨rfl, Below.refl _ _⟩
            · have c1 : decide (d2 < R) = false := by simp; omega
              have c2 : ((R : Int) == (d2 : Int)) = true := by simp [hk1]
              have c3 : ((e : Int) == 1) = true := by simp [hk2]
              clear hk1 hk2 he1
              go_wp2
              go_ret2
              rw [HR.out.1, HR.out.2]
              exact ⟨rfl, Below.refl _ _⟩
      | succ g =>
        obtain ⟨i, hi0⟩ : ∃ i : Int, ((g + 1 : Nat) : Int) - 1 = i := ⟨_, rfl⟩
        have hi1 : i = (g : Int) := by omega
        rw [hi0]
        subst hi1
        clear hi0
        have hst := half_step n g
        have hbl := bit_lo hi lo g (by omega)
        rw [HN.out] at hbl
        have hqb := HQB.out g
        have hbit := bit_of lo g HLO.out
        rw [← hbl] at hbit
        have hrl : R < den := by rw [← hR.out]; exact Nat.mod_lt _ hd0
        obtain ⟨t, ht⟩ : ∃ t, n / 2 ^ g % 2 = t := ⟨_, rfl⟩
        have ht2 : t ≤ 1 := by omega
        obtain ⟨N', hN'⟩ : ∃ x, n / 2 ^ g = x := ⟨_, rfl⟩
        have HN' := Lib.hid hN'
        obtain ⟨N0, hN0⟩ : ∃ x, n / 2 ^ (g + 1) = x := ⟨_, rfl⟩
        rw [ht] at hst hbit
        rw [hN', hN0] at hst
        rw [hN'] at hqb
        rw [hN0] at hQ hR
        obtain ⟨Q1, hQ1⟩ : ∃ x, Q * 2 % 18446744073709551616 = x := ⟨_, rfl⟩
        obtain ⟨R1, hR1⟩ : ∃ x, (2 * R + t) % 18446744073709551616 = x := ⟨_, rfl⟩
        obtain ⟨R2, hR2⟩ : ∃ x, (R1 + 18446744073709551616 - den) % 18446744073709551616 = x := ⟨_, rfl⟩
        have hdn := HDEN.out
        have ea := ev_arith N0 Q R den t R1 Q1 R2 hd0 hdn ht2 hQ.out hR.out hR1 hQ1 hR2 (by rw [← hst]; exact hqb)
        rw [← hst] at ea
        have EA := Lib.hid ea
        have r1 : bits .or .u64 (IntKind.u64.wrap ((R : Int) * 2)) (t : Int) = (R1 : Int) := by rw [or_bit R t ht2, hR1]
        have r2 : IntKind.u64.wrap ((Q : Int) * 2) = (Q1 : Int) := by rw [u64_wrap]; omega
        have r3 : IntKind.u64.wrap ((R1 : Int) - (den : Int)) = (R2 : Int) := by rw [u64_wrap]; omega
        have hi1 : wrap64 ((g : Int) - 1) = (g : Int) - 1 := by unfold wrap64; omega
        have hu : IntKind.u64.wrap (g : Int) = (g : Int) := by rw [u64_wrap]; omega
        have hg64 : g < 64 := by omega
        have hRd : R < 18446744073709551616 := by omega
        have o1 : R < 18446744073709551616 → 9223372036854775808 ≤ R → ((R : Int) / 9223372036854775808 == 1) = true := fun _ h => by rw [beq_iff_eq]; omega
        have o2 : ¬ 9223372036854775808 ≤ R → ((R : Int) / 9223372036854775808 == 1) = false := fun h => by rw [beq_eq_false_iff_ne]; omega
        have O1 := Lib.hid o1
        have O2 := Lib.hid o2
        have HRD := Lib.hid hRd
        clear hst hbl hqb ht hN' hN0 hQ1 hR1 hR2 ea hdn o1 o2 hrl hRd hg
        by_cases hov : 9223372036854775808 ≤ R ∨ den ≤ R1
        · have M1 := Lib.hid (EA.out.1 hov)
          have r4 : bits .or .u64 (Q1 : Int) 1 = ((Q1 + 1 : Nat) : Int) := or_one Q1 (by have := M1.out.2.2.2; omega) M1.out.2.2.1
          clear EA
          by_cases hx : 9223372036854775808 ≤ R
          · have q1 := O1.out HRD.out hx
            clear O1 O2 hx hov
            go_wp2
            go_roundg g
            case measure => omega
            case rel => exact ⟨Q1 + 1, R2, by go_num, rfl, rfl, by omega, by show _ = _; rw [HN'.out]; exact M1.out.1, by show _ = _; rw [HN'.out]; exact M1.out.2.1, rfl⟩
          · have q1 := O2.out hx
            have q2 : decide (den ≤ R1) = true := by simp; omega
            clear O1 O2 hx hov
            go_wp2
            go_roundg g
            case measure => omega
            case rel => exact ⟨Q1 + 1, R2, by go_num, rfl, rfl, by omega, by show _ = _; rw [HN'.out]; exact M1.out.1, by show _ = _; rw [HN'.out]; exact M1.out.2.1, rfl⟩
        · have hx : ¬ 9223372036854775808 ≤ R := fun h => hov (Or.inl h)
          have hy : ¬ den ≤ R1 := fun h => hov (Or.inr h)
          have M1 := Lib.hid (EA.out.2 hx hy)
          have q1 := O2.out hx
          have q2 : decide (den ≤ R1) = false := by simp; omega
          clear EA O1 O2 hx hov hy
          go_wp2
          go_roundg g
          case measure => omega
          case rel => exact ⟨Q1, R1, rfl, rfl, rfl, by omega, by show _ = _; rw [HN'.out]; exact M1.out.1, by show _ = _; rw [HN'.out]; exact M1.out.2, rfl⟩
end Go.Proofs.Ytllblmoojohffaa

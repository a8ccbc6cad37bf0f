/- Words that are no whole numbers from 0 on: plain. No condition. -/
import Derived.Test.YtghmhgeakpjfkaaFlMath
namespace Go.Proofs.Ytghmhgeakpjfkaa.FlM
open Ieee
theorem pow_posI (j : Nat) : (0 : Int) < ((2 ^ j : Nat) : Int) := Int.natCast_pos.2 (Nat.two_pow_pos j)
/-- As nearest_whole, one place further down where t is 1. -/
theorem nearest_gen (neg : Bool) (n a t : Nat) (h0 : 0 < n) (h : n < 9007199254740992) (ht : t ≤ 1) : double.nearest neg (n * 2 ^ a) (-(a : Int) - (t : Int)) = double.word neg ((1022 - t + n.log2) * 2 ^ 52 + n * 2 ^ (52 - n.log2)) := by
  have hk : n.log2 ≤ 52 := by
    have : n.log2 < 53 := (Nat.log2_lt (Nat.ne_of_gt h0)).2 h
    omega
  unfold Format.nearest
  have hne : n * 2 ^ a ≠ 0 := Nat.ne_of_gt (Nat.mul_pos h0 (Nat.two_pow_pos a))
  rw [if_neg hne, log2_mul_pow n a h0, fb, lp]
  have hlast : max (-(a : Int) - (t : Int) + ((n.log2 + a : Nat) : Int) - ((52 : Nat) : Int)) (-1074) = (n.log2 : Int) - 52 - t := by omega
  rw [hlast]
  have hkept : Toward.even.cut neg ((n * 2 ^ a) <<< ((-(a : Int) - (t : Int)) - ((n.log2 : Int) - 52 - t)).toNat) (((n.log2 : Int) - 52 - t) - (-(a : Int) - (t : Int))).toNat = n * 2 ^ (52 - n.log2) := by
    by_cases hc : a + n.log2 ≤ 52
    · have e1 : ((-(a : Int) - (t : Int)) - ((n.log2 : Int) - 52 - t)).toNat = 52 - n.log2 - a := by omega
      have e2 : (((n.log2 : Int) - 52 - t) - (-(a : Int) - (t : Int))).toNat = 0 := by omega
      rw [e1, e2, shl_mul, Nat.mul_assoc, ← Nat.pow_add, show a + (52 - n.log2 - a) = 52 - n.log2 by omega]
      have := cut_exact neg .even (n * 2 ^ (52 - n.log2)) 0
      simpa using this
    · have e1 : ((-(a : Int) - (t : Int)) - ((n.log2 : Int) - 52 - t)).toNat = 0 := by omega
      have e2 : (((n.log2 : Int) - 52 - t) - (-(a : Int) - (t : Int))).toNat = a + n.log2 - 52 := by omega
      rw [e1, e2, shl_mul, Nat.pow_zero, Nat.mul_one]
      have e3 : n * 2 ^ a = (n * 2 ^ (52 - n.log2)) * 2 ^ (a + n.log2 - 52) := by
        rw [Nat.mul_assoc, ← Nat.pow_add, show 52 - n.log2 + (a + n.log2 - 52) = a by omega]
      rw [e3]
      exact cut_exact neg .even _ _
  dsimp only
  rw [hkept]
  have e4 : ((n.log2 : Int) - 52 - t - -1074).toNat = 1022 - t + n.log2 := by omega
  have hlt : n * 2 ^ (52 - n.log2) < 2 ^ 53 := by
    have h2 := @Nat.lt_log2_self n
    have h3 : n * 2 ^ (52 - n.log2) < 2 ^ (n.log2 + 1) * 2 ^ (52 - n.log2) := Nat.mul_lt_mul_of_pos_right h2 (Nat.two_pow_pos _)
    rwa [← Nat.pow_add, show n.log2 + 1 + (52 - n.log2) = 53 by omega] at h3
  rw [e4, bn, ir]
  rw [Nat.min_eq_left]
  have : (2 : Nat) ^ 53 = 2 * 2 ^ 52 := by decide
  generalize (2 : Nat) ^ 52 = B at *
  have h4 : (1022 - t + n.log2) * B ≤ 1074 * B := Nat.mul_le_mul_right _ (by omega)
  omega
/-- .. and read again. -/
theorem read_gen (neg : Bool) (n t : Nat) (h0 : 0 < n) (h : n < 9007199254740992) (ht : t ≤ 1) : double.read (double.word neg ((1022 - t + n.log2) * 2 ^ 52 + n * 2 ^ (52 - n.log2))) = .number neg (n * 2 ^ (52 - n.log2)) ((n.log2 : Int) - 52 - t) := by
  have hk : n.log2 ≤ 52 := by
    have : n.log2 < 53 := (Nat.log2_lt (Nat.ne_of_gt h0)).2 h
    omega
  have hlo : 2 ^ 52 ≤ n * 2 ^ (52 - n.log2) := by
    have h2 := Nat.mul_le_mul_right (2 ^ (52 - n.log2)) (Nat.log2_self_le (Nat.ne_of_gt h0))
    rwa [← Nat.pow_add, show n.log2 + (52 - n.log2) = 52 by omega] at h2
  have hlt : n * 2 ^ (52 - n.log2) < 2 ^ 53 := by
    have h2 := @Nat.lt_log2_self n
    have h3 : n * 2 ^ (52 - n.log2) < 2 ^ (n.log2 + 1) * 2 ^ (52 - n.log2) := Nat.mul_lt_mul_of_pos_right h2 (Nat.two_pow_pos _)
    rwa [← Nat.pow_add, show n.log2 + 1 + (52 - n.log2) = 53 by omega] at h3
  unfold Format.read Format.word
  rw [sw, bn, ir, lp]
  rw [two52] at *
  have e53 : (2 : Nat) ^ 53 = 9007199254740992 := by decide
  rw [e53] at hlt
  obtain ⟨K, hK⟩ : ∃ K, n * 2 ^ (52 - n.log2) = K := ⟨_, rfl⟩
  obtain ⟨k, hk'⟩ : ∃ k, n.log2 = k := ⟨_, rfl⟩
  rw [hK] at hlo hlt ⊢
  rw [hk'] at hk ⊢
  clear hK hk'
  obtain ⟨R, hR⟩ : ∃ R, (1022 - t + k) * 4503599627370496 + K = R := ⟨_, rfl⟩
  rw [hR]
  have a2 : R % (2048 * 4503599627370496) = R := by omega
  have a2' : (2048 * 4503599627370496 + R) % (2048 * 4503599627370496) = R := by omega
  have a1 : R / (2048 * 4503599627370496) % 2 = 0 := by omega
  have a1' : (2048 * 4503599627370496 + R) / (2048 * 4503599627370496) % 2 = 1 := by omega
  have a3 : R % 4503599627370496 = K - 4503599627370496 := by omega
  have a4 : R / 4503599627370496 = 1023 - t + k := by omega
  have a5 : ¬ R < 4503599627370496 := by omega
  have a6 : R < 2047 * 4503599627370496 := by omega
  have a7 : 4503599627370496 + (K - 4503599627370496) = K := by omega
  have a8 : (-1074 : Int) + ((1023 - t + k - 1 : Nat) : Int) = (k : Int) - 52 - t := by omega
  clear hR hlo hlt
  cases neg
  · simp only [Bool.false_eq_true, if_false, a1, a2]
    rw [if_neg a5, if_pos a6, a3, a4, a7, a8]
    rfl
  · simp only [if_true, a1', a2']
    rw [if_neg a5, if_pos a6, a3, a4, a7, a8]
    rfl
/-- Half of one more: no whole number. -/
theorem half_none (k : Nat) (hk : k < 1000000000000000) : ∃ r, double.add (N k) 4602678819172646912 = some r ∧ part r = none := by
  obtain ⟨p, hp, e1⟩ := read_N k (by omega)
  have e2 : double.read 4602678819172646912 = .number false 4503599627370496 (-53) := by rfl
  have hl := read_gen false (2 * k + 1) 1 (by omega) (by omega) (by omega)
  obtain ⟨r, hr⟩ : ∃ r, double.word false ((1022 - 1 + (2 * k + 1).log2) * 2 ^ 52 + (2 * k + 1) * 2 ^ (52 - (2 * k + 1).log2)) = r := ⟨_, rfl⟩
  rw [hr] at hl
  have hlog : (2 * k + 1).log2 ≤ 52 := by
    have : (2 * k + 1).log2 < 53 := (Nat.log2_lt (by omega)).2 (by omega)
    omega
  refine ⟨r, ?_, ?_⟩
  · unfold Format.add
    rw [e1, e2]
    obtain ⟨a, ha⟩ : ∃ a, a + 1 = max p 53 := ⟨max p 53 - 1, by omega⟩
    have e3 : (Datum.number false (k * 2 ^ p) (-(p : Int))).sum (.number false 4503599627370496 (-53)) = some (.number false ((2 * k + 1) * 2 ^ a) (-(a : Int) - ((1 : Nat) : Int))) := by
      unfold Datum.sum
      have b : min (-(p : Int)) (-53) = -(a : Int) - ((1 : Nat) : Int) := by omega
      have c1 : (-(p : Int) - (-(a : Int) - ((1 : Nat) : Int))).toNat = a + 1 - p := by omega
      have c2 : (-53 - (-(a : Int) - ((1 : Nat) : Int))).toNat = a - 52 := by omega
      simp only [b, c1, c2]
      unfold Ieee.signed
      simp only [Bool.false_eq_true, if_false]
      have f1 : k * 2 ^ p * 2 ^ (a + 1 - p) = k * 2 ^ (a + 1) := by rw [Nat.mul_assoc, ← Nat.pow_add, show p + (a + 1 - p) = a + 1 by omega]
      have f2 : 4503599627370496 * 2 ^ (a - 52) = 2 ^ a := by rw [← two52, ← Nat.pow_add, show 52 + (a - 52) = a by omega]
      rw [shl_mul, shl_mul, f1, f2, ← Int.natCast_add]
      have f3 : k * 2 ^ (a + 1) + 2 ^ a = (2 * k + 1) * 2 ^ a := by rw [Nat.pow_succ, Nat.add_mul, Nat.one_mul, Nat.mul_comm (2 ^ a) 2, ← Nat.mul_assoc, Nat.mul_comm k 2]
      rw [f3]
      obtain ⟨T, hT⟩ : ∃ T, (2 * k + 1) * 2 ^ a = T := ⟨_, rfl⟩
      rw [hT]
      have h1 : ¬ ((T : Int) < 0) := by omega
      simp [h1]
    rw [e3, Option.map_some]
    show some (double.nearest false _ _) = _
    rw [nearest_gen false (2 * k + 1) a 1 (by omega) (by omega) (by omega), hr]
  · have hti : (double.read r).toInt .zero = some (k : Int) := by
      rw [hl]
      unfold Datum.toInt Datum.integral
      have g1 : ((((2 * k + 1).log2 : Nat) : Int) - 52 - ((1 : Nat) : Int)).toNat = 0 := by omega
      have g2 : (-((((2 * k + 1).log2 : Nat) : Int) - 52 - ((1 : Nat) : Int))).toNat = (52 - (2 * k + 1).log2) + 1 := by omega
      simp only [g1, g2]
      rw [shl_mul, Nat.pow_zero, Nat.mul_one, cut_zero, Nat.pow_succ, ← Nat.div_div_eq_div_mul, Nat.mul_div_cancel _ (Nat.two_pow_pos _)]
      simp [Ieee.signed]
      omega
    have hsc : sc (double.read r) = some (((2 * k + 1 : Nat) : Int) * ((2 ^ 1073 : Nat) : Int)) := by
      rw [hl]
      show some (Ieee.signed false _ _) = _
      have g3 : ((((2 * k + 1).log2 : Nat) : Int) - 52 - ((1 : Nat) : Int) + 1074).toNat = (2 * k + 1).log2 + 1021 := by omega
      rw [g3]
      unfold Ieee.signed
      rw [if_neg (by simp), shl_mul, Nat.mul_assoc, ← Nat.pow_add, show 52 - (2 * k + 1).log2 + ((2 * k + 1).log2 + 1021) = 1073 by omega, Int.natCast_mul]
    have hor := order_of_sc hsc (sc_N k (by omega))
    have hU : U = ((2 ^ 1073 : Nat) : Int) * 2 := by
      unfold U
      obtain ⟨j, hj⟩ : ∃ j : Nat, j = 1073 := ⟨_, rfl⟩
      have hj2 : 1074 = j + 1 := by omega
      rw [hj2, ← hj, Nat.pow_succ, Int.natCast_mul]
      rfl
    have hne : double.order r (N k) ≠ some .eq := by
      rw [hor]
      intro h
      have h1 := cmp_eq (Option.some.inj h)
      rw [hU, ← Int.mul_assoc] at h1
      have hpos : (0 : Int) < ((2 ^ 1073 : Nat) : Int) := pow_posI 1073
      obtain ⟨E, hE⟩ : ∃ E : Int, ((2 ^ 1073 : Nat) : Int) = E := ⟨_, rfl⟩
      rw [hE] at h1 hpos
      have h2 : ((2 * k + 1 : Nat) : Int) * E = ((k : Int) * 2) * E := by rw [h1, Int.mul_assoc, Int.mul_comm E 2, ← Int.mul_assoc]
      have h3 := Int.eq_of_mul_eq_mul_right (Int.ne_of_gt hpos) h2
      omega
    unfold part
    rw [hti]
    dsimp only
    rw [if_neg]
    rintro ⟨_, _, h⟩
    rw [Int.toNat_natCast] at h
    exact hne h

/-- Below 0: no whole number from 0 on. -/
theorem neg_none (V : Nat) (hV : V < 1000000000000000) : ∃ r, double.sub 13830554455654793216 (N V) = some r ∧ part r = none := by
  obtain ⟨p, hp, e1⟩ := read_N V (by omega)
  have e2 : double.read 13830554455654793216 = .number true 4503599627370496 (-52) := by rfl
  have hl := read_gen true (V + 1) 0 (by omega) (by omega) (by omega)
  obtain ⟨r, hr⟩ : ∃ r, double.word true ((1022 - 0 + (V + 1).log2) * 2 ^ 52 + (V + 1) * 2 ^ (52 - (V + 1).log2)) = r := ⟨_, rfl⟩
  rw [hr] at hl
  have hlog : (V + 1).log2 ≤ 52 := by
    have : (V + 1).log2 < 53 := (Nat.log2_lt (by omega)).2 (by omega)
    omega
  refine ⟨r, ?_, ?_⟩
  · unfold Format.sub
    rw [e1, e2]
    obtain ⟨a, ha⟩ : ∃ a, a = max p 52 := ⟨_, rfl⟩
    have e3 : (Datum.number true 4503599627370496 (-52)).sum (Datum.number false (V * 2 ^ p) (-(p : Int))).opposite = some (.number true ((V + 1) * 2 ^ a) (-(a : Int) - ((0 : Nat) : Int))) := by
      unfold Datum.opposite Datum.sum
      have b : min (-52) (-(p : Int)) = -(a : Int) - ((0 : Nat) : Int) := by omega
      have c1 : (-52 - (-(a : Int) - ((0 : Nat) : Int))).toNat = a - 52 := by omega
      have c2 : (-(p : Int) - (-(a : Int) - ((0 : Nat) : Int))).toNat = a - p := by omega
      simp only [b, c1, c2]
      unfold Ieee.signed
      simp only [Bool.not_false, if_true]
      have f1 : V * 2 ^ p * 2 ^ (a - p) = V * 2 ^ a := by rw [Nat.mul_assoc, ← Nat.pow_add, show p + (a - p) = a by omega]
      have f2 : 4503599627370496 * 2 ^ (a - 52) = 2 ^ a := by rw [← two52, ← Nat.pow_add, show 52 + (a - 52) = a by omega]
      rw [shl_mul, shl_mul, f1, f2]
      have f3 : (V + 1) * 2 ^ a = V * 2 ^ a + 2 ^ a := by rw [Nat.add_mul, Nat.one_mul]
      have f4 := Nat.two_pow_pos a
      rw [f3]
      generalize V * 2 ^ a = A at *
      generalize 2 ^ a = B at *
      have h1 : (-(B : Int) + -(A : Int)) < 0 := by omega
      have h2 : (-(B : Int) + -(A : Int)) ≠ 0 := by omega
      have h3 : (-(B : Int) + -(A : Int)).natAbs = A + B := by omega
      simp [h1, h2, h3]
    rw [e3, Option.map_some]
    show some (double.nearest true _ _) = _
    rw [nearest_gen true (V + 1) a 0 (by omega) (by omega) (by omega), hr]
  · cases hp' : part r with
    | none => rfl
    | some n =>
      have h1 := (part_some hp').2.1
      rw [hl] at h1
      unfold Datum.toInt Datum.integral at h1
      have g1 : ((((V + 1).log2 : Nat) : Int) - 52 - ((0 : Nat) : Int)).toNat = 0 := by omega
      have g2 : (-((((V + 1).log2 : Nat) : Int) - 52 - ((0 : Nat) : Int))).toNat = 52 - (V + 1).log2 := by omega
      simp only [g1, g2] at h1
      rw [shl_mul, Nat.pow_zero, Nat.mul_one, cut_zero, Nat.mul_div_cancel _ (Nat.two_pow_pos _)] at h1
      simp [Ieee.signed] at h1
      omega
/-- What is written is at the rung of its binade at least, or infinity. -/
theorem nearest_ge (m : Nat) (i : Int) (e : Nat) (h0 : 0 < m) (he : (e : Int) ≤ i + m.log2) : min ((e + 1023) * 2 ^ 52) (2047 * 2 ^ 52) ≤ double.nearest false m i := by
  unfold Format.nearest
  rw [if_neg (Nat.ne_of_gt h0), fb, lp]
  have hl : max (i + (m.log2 : Int) - ((52 : Nat) : Int)) (-1074) = i + (m.log2 : Int) - 52 := by omega
  rw [hl]
  dsimp only
  unfold Format.word
  rw [if_neg (by simp), bn, ir]
  have hcut : 2 ^ 52 ≤ Toward.even.cut false (m <<< (i - (i + (m.log2 : Int) - 52)).toNat) (i + (m.log2 : Int) - 52 - i).toNat := by
    have h1 : 2 ^ 52 ≤ (m <<< (i - (i + (m.log2 : Int) - 52)).toNat) / 2 ^ (i + (m.log2 : Int) - 52 - i).toNat := by
      have h2 := Nat.log2_self_le (Nat.ne_of_gt h0)
      rw [shl_mul]
      by_cases hc : m.log2 ≤ 52
      · have e1 : (i - (i + (m.log2 : Int) - 52)).toNat = 52 - m.log2 := by omega
        have e2 : (i + (m.log2 : Int) - 52 - i).toNat = 0 := by omega
        rw [e1, e2, Nat.pow_zero, Nat.div_one]
        have h3 := Nat.mul_le_mul_right (2 ^ (52 - m.log2)) h2
        rwa [← Nat.pow_add, show m.log2 + (52 - m.log2) = 52 by omega] at h3
      · have e1 : (i - (i + (m.log2 : Int) - 52)).toNat = 0 := by omega
        have e2 : (i + (m.log2 : Int) - 52 - i).toNat = m.log2 - 52 := by omega
        rw [e1, e2, Nat.pow_zero, Nat.mul_one, Nat.le_div_iff_mul_le (Nat.two_pow_pos _), ← Nat.pow_add, show 52 + (m.log2 - 52) = m.log2 by omega]
        exact h2
    refine Nat.le_trans h1 ?_
    have h5 := cut_zero false (m <<< (i - (i + (m.log2 : Int) - 52)).toNat) (i + (m.log2 : Int) - 52 - i).toNat
    rw [← h5]
    unfold Toward.cut
    simp only [Bool.toNat_false, Nat.add_zero]
    exact Nat.le_add_right _ _
  have e4 : e + 1022 ≤ (i + (m.log2 : Int) - 52 - -1074).toNat := by omega
  generalize Toward.even.cut false (m <<< (i - (i + (m.log2 : Int) - 52)).toNat) (i + (m.log2 : Int) - 52 - i).toNat = K at *
  have h6 := Nat.mul_le_mul_right (2 ^ 52) e4
  rw [two52] at *
  omega
theorem nearest_le (m : Nat) (i : Int) : double.nearest false m i ≤ 2047 * 2 ^ 52 := by
  unfold Format.nearest
  by_cases h : m = 0
  · rw [if_pos h]
    unfold Format.word
    rw [if_neg (by simp)]
    exact Nat.zero_le _
  · rw [if_neg h]
    dsimp only
    unfold Format.word
    rw [if_neg (by simp), ir]
    exact Nat.min_le_right _ _
theorem log2_ge {m e : Nat} (h : 2 ^ e ≤ m) : e ≤ m.log2 := (Nat.le_log2 (by have := Nat.two_pow_pos e; omega)).2 h
theorem part_inf : part 9218868437227405312 = none := by
  have e : double.read 9218868437227405312 = .infinity false := by rfl
  unfold part
  rw [e]
  rfl
/-- What is beyond all numbers. -/
theorem mul_inf (V : Nat) (h0 : 0 < V) (hV : V < 1000000000000000) : ∃ r1 r2, double.mul (N V) 9094988921128908188 = some r1 ∧ double.mul r1 9094988921128908188 = some r2 ∧ part r2 = none := by
  obtain ⟨p, hp, e1⟩ := read_N V (by omega)
  obtain ⟨c, hc⟩ : ∃ c : Nat, c = 6724873095247260 := ⟨_, rfl⟩
  have e2 : double.read 9094988921128908188 = .number false c 944 := by rw [hc]; rfl
  have hc52 : 2 ^ 52 ≤ c := by rw [two52, hc]; omega
  have m1 : double.mul (N V) 9094988921128908188 = some (double.nearest false (V * 2 ^ p * c) (-(p : Int) + 944)) := by
    unfold Format.mul
    rw [e1, e2]
    rfl
  obtain ⟨r1, hr1⟩ : ∃ r, double.nearest false (V * 2 ^ p * c) (-(p : Int) + 944) = r := ⟨_, rfl⟩
  have hm : 2 ^ (p + 52) ≤ V * 2 ^ p * c := by
    rw [Nat.pow_add]
    exact Nat.mul_le_mul (Nat.le_mul_of_pos_left _ h0) hc52
  have hl1 := log2_ge hm
  have hpos : 0 < V * 2 ^ p * c := Nat.lt_of_lt_of_le (Nat.two_pow_pos _) hm
  have g1 := nearest_ge (V * 2 ^ p * c) (-(p : Int) + 944) 996 hpos (by omega)
  have g2 := nearest_le (V * 2 ^ p * c) (-(p : Int) + 944)
  rw [hr1] at g1 g2 m1
  rw [two52] at g1 g2
  have key : double.mul r1 9094988921128908188 = some 9218868437227405312 := by
    unfold Format.mul
    rw [e2]
    by_cases hi : r1 = 2047 * 4503599627370496
    · have e3 : double.read r1 = .infinity false := by rw [hi]; rfl
      rw [e3]
      have hcn : ¬ c = 0 := by omega
      unfold Datum.product
      simp only [hcn, if_false]
      rfl
    · have e3 : double.read r1 = .number false (4503599627370496 + r1 % 4503599627370496) (-1074 + ((r1 / 4503599627370496 - 1 : Nat) : Int)) := by
        unfold Format.read
        rw [sw, bn, ir, lp, two52]
        have a1 : r1 / (2048 * 4503599627370496) % 2 = 0 := by omega
        have a2 : r1 % (2048 * 4503599627370496) = r1 := by omega
        simp only [a1, a2]
        rw [if_neg (by omega), if_pos (by omega)]
        rfl
      rw [e3]
      obtain ⟨A, hA⟩ : ∃ A, 4503599627370496 + r1 % 4503599627370496 = A := ⟨_, rfl⟩
      obtain ⟨I, hI⟩ : ∃ I : Int, -1074 + ((r1 / 4503599627370496 - 1 : Nat) : Int) = I := ⟨_, rfl⟩
      rw [hA, hI]
      have hA52 : 2 ^ 52 ≤ A := by rw [two52]; omega
      have hI2 : 944 ≤ I := by omega
      have e4 : (Datum.number false A I).product (.number false c 944) = some (.number false (A * c) (I + 944)) := rfl
      rw [e4, Option.map_some]
      show some (double.nearest false (A * c) (I + 944)) = _
      have hm2 : 2 ^ (52 + 52) ≤ A * c := by
        rw [Nat.pow_add]
        exact Nat.mul_le_mul hA52 hc52
      have hl2 := log2_ge hm2
      have g3 := nearest_ge (A * c) (I + 944) 1992 (Nat.lt_of_lt_of_le (Nat.two_pow_pos _) hm2) (by omega)
      have g4 := nearest_le (A * c) (I + 944)
      rw [two52] at g3 g4
      obtain ⟨Z, hZ⟩ : ∃ Z, double.nearest false (A * c) (I + 944) = Z := ⟨_, rfl⟩
      rw [hZ] at g3 g4 ⊢
      refine congrArg some ?_
      clear m1 e1 e2 e3 e4 hm hl1 hpos g1 g2 hr1 hA hI hZ hm2 hl2 hc
      omega
  exact ⟨r1, _, m1, key, part_inf⟩
end Go.Proofs.Ytghmhgeakpjfkaa.FlM

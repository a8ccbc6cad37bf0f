/- Whole numbers as words of 64 bits of a binary float: plain. No condition. -/
import GoSem.Core.Float
import Derived.Laws.FloatArith
namespace Go.Proofs.Ytbiiejolemcifaa.FlM
open Ieee

/-- The word of a whole number. -/
def N (n : Nat) : Nat := double.write (.number false n 0)

theorem two52 : (2 : Nat) ^ 52 = 4503599627370496 := by decide
theorem fb : double.fractionBits = 52 := rfl
theorem lp : double.leastPlace = -1074 := by decide
theorem bn : double.binade = 2 ^ 52 := rfl
theorem ir : double.infRung = 2047 * 2 ^ 52 := by decide
theorem sw : double.signWeight = 2048 * 2 ^ 52 := by decide

theorem shl_mul (n k : Nat) : n <<< k = n * 2 ^ k := Nat.shiftLeft_eq n k
theorem log2_mul_pow (n a : Nat) (h : 0 < n) : (n * 2 ^ a).log2 = n.log2 + a := by
  rw [Nat.log2_eq_iff (by have := Nat.two_pow_pos a; exact Nat.ne_of_gt (Nat.mul_pos h this))]
  have h1 := Nat.log2_self_le (Nat.ne_of_gt h)
  have h2 := @Nat.lt_log2_self n
  rw [Nat.pow_add, show n.log2 + a + 1 = (n.log2 + 1) + a by omega, Nat.pow_add]
  exact ⟨Nat.mul_le_mul_right _ h1, Nat.mul_lt_mul_of_pos_right h2 (Nat.two_pow_pos a)⟩

/-- Nothing is lost. -/
theorem cut_exact (neg : Bool) (way : Toward) (q d : Nat) : way.cut neg (q * 2 ^ d) d = q := by
  unfold Toward.cut
  by_cases hq : q = 0
  · subst hq
    rw [Nat.zero_mul]
    simp only [Nat.zero_div, Nat.zero_mod]
    have h : (1 <<< min d ((0 : Nat).log2 + 2)) ≠ 0 := by rw [Nat.one_shiftLeft]; exact Nat.ne_of_gt (Nat.two_pow_pos _)
    cases way <;> simp_all
  · have hm : min d ((q * 2 ^ d).log2 + 2) = d := by
      rw [log2_mul_pow q d (Nat.pos_of_ne_zero hq)]; omega
    rw [hm, Nat.one_shiftLeft]
    simp only [Nat.mul_div_cancel _ (Nat.two_pow_pos d), Nat.mul_mod_left]
    have h := Nat.two_pow_pos d
    cases way <;> simp_all <;> omega

/-- The word nearest to a whole number of less than 53 digits, at whatever place it comes. -/
theorem nearest_whole (n a : Nat) (h0 : 0 < n) (h : n < 9007199254740992) : double.nearest false (n * 2 ^ a) (-(a : Int)) = (1022 + n.log2) * 2 ^ 52 + n * 2 ^ (52 - n.log2) := by
  have hk : n.log2 ≤ 52 := by
    have : n.log2 < 53 := (Nat.log2_lt (Nat.ne_of_gt h0)).2 h
    omega
  unfold Format.nearest
  have hne : n * 2 ^ a ≠ 0 := Nat.ne_of_gt (Nat.mul_pos h0 (Nat.two_pow_pos a))
  rw [if_neg hne, log2_mul_pow n a h0, fb, lp]
  have hlast : max (-(a : Int) + ((n.log2 + a : Nat) : Int) - ((52 : Nat) : Int)) (-1074) = (n.log2 : Int) - 52 := by omega
  rw [hlast]
  have hkept : Toward.even.cut false ((n * 2 ^ a) <<< ((-(a : Int)) - ((n.log2 : Int) - 52)).toNat) (((n.log2 : Int) - 52) - (-(a : Int))).toNat = n * 2 ^ (52 - n.log2) := by
    by_cases hc : a + n.log2 ≤ 52
    · have e1 : ((-(a : Int)) - ((n.log2 : Int) - 52)).toNat = 52 - n.log2 - a := by omega
      have e2 : (((n.log2 : Int) - 52) - (-(a : Int))).toNat = 0 := by omega
      rw [e1, e2, shl_mul, Nat.mul_assoc, ← Nat.pow_add, show a + (52 - n.log2 - a) = 52 - n.log2 by omega]
      have := cut_exact false .even (n * 2 ^ (52 - n.log2)) 0
      simpa using this
    · have e1 : ((-(a : Int)) - ((n.log2 : Int) - 52)).toNat = 0 := by omega
      have e2 : (((n.log2 : Int) - 52) - (-(a : Int))).toNat = a + n.log2 - 52 := by omega
      rw [e1, e2, shl_mul, Nat.pow_zero, Nat.mul_one]
      have e3 : n * 2 ^ a = (n * 2 ^ (52 - n.log2)) * 2 ^ (a + n.log2 - 52) := by
        rw [Nat.mul_assoc, ← Nat.pow_add, show 52 - n.log2 + (a + n.log2 - 52) = a by omega]
      rw [e3]
      exact cut_exact false .even _ _
  dsimp only
  rw [hkept]
  have e4 : ((n.log2 : Int) - 52 - -1074).toNat = 1022 + n.log2 := by omega
  have hlt : n * 2 ^ (52 - n.log2) < 2 ^ 53 := by
    have h2 := @Nat.lt_log2_self n
    have h3 : n * 2 ^ (52 - n.log2) < 2 ^ (n.log2 + 1) * 2 ^ (52 - n.log2) := Nat.mul_lt_mul_of_pos_right h2 (Nat.two_pow_pos _)
    rwa [← Nat.pow_add, show n.log2 + 1 + (52 - n.log2) = 53 by omega] at h3
  rw [e4, bn, ir]
  unfold Format.word
  rw [if_neg (by simp), Nat.min_eq_left]
  have : (2 : Nat) ^ 53 = 2 * 2 ^ 52 := by decide
  generalize (2 : Nat) ^ 52 = B at *
  have h4 : (1022 + n.log2) * B ≤ 1074 * B := Nat.mul_le_mul_right _ (by omega)
  omega
theorem N_zero : N 0 = 0 := by unfold N Format.write Format.nearest Format.word; rfl
theorem N_pos (n : Nat) (h0 : 0 < n) (h : n < 9007199254740992) : N n = (1022 + n.log2) * 2 ^ 52 + n * 2 ^ (52 - n.log2) := by
  have := nearest_whole n 0 h0 h
  unfold N Format.write
  simpa using this
/-- What a word stands for when it is a whole number. -/
def Rep (d : Datum) (n : Nat) : Prop := ∃ p : Nat, p ≤ 1074 ∧ d = .number false (n * 2 ^ p) (-(p : Int))
theorem read_N (n : Nat) (h : n < 9007199254740992) : Rep (double.read (N n)) n := by
  by_cases h0 : n = 0
  · subst h0
    rw [N_zero]
    obtain ⟨p, hp⟩ : ∃ p : Nat, p = 1074 := ⟨_, rfl⟩
    refine ⟨p, by omega, ?_⟩
    rw [Nat.zero_mul, hp]
    rfl
  · have h0 := Nat.pos_of_ne_zero h0
    have hk : n.log2 ≤ 52 := by
      have : n.log2 < 53 := (Nat.log2_lt (Nat.ne_of_gt h0)).2 h
      omega
    have hlo : 2 ^ 52 ≤ n * 2 ^ (52 - n.log2) := by
      have h2 := Nat.mul_le_mul_right (2 ^ (52 - n.log2)) (Nat.log2_self_le (Nat.ne_of_gt h0))
      rwa [← Nat.pow_add, show n.log2 + (52 - n.log2) = 52 by omega] at h2
    have hlt : n * 2 ^ (52 - n.log2) < 2 ^ 53 := by
      have h2 := @Nat.lt_log2_self n
      have h3 : n * 2 ^ (52 - n.log2) < 2 ^ (n.log2 + 1) * 2 ^ (52 - n.log2) := Nat.mul_lt_mul_of_pos_right h2 (Nat.two_pow_pos _)
      rwa [← Nat.pow_add, show n.log2 + 1 + (52 - n.log2) = 53 by omega] at h3
    refine ⟨52 - n.log2, by omega, ?_⟩
    rw [N_pos n h0 h]
    unfold Format.read
    rw [sw, bn, ir, lp, two52] at *
    have e53 : (2 : Nat) ^ 53 = 9007199254740992 := by decide
    rw [e53] at hlt
    obtain ⟨K, hK⟩ : ∃ K, n * 2 ^ (52 - n.log2) = K := ⟨_, rfl⟩
    obtain ⟨k, hk'⟩ : ∃ k, n.log2 = k := ⟨_, rfl⟩
    rw [hK] at hlo hlt ⊢
    rw [hk'] at hk ⊢
    clear hK hk'
    obtain ⟨R, hR⟩ : ∃ R, (1022 + k) * 4503599627370496 + K = R := ⟨_, rfl⟩
    rw [hR]
    have a1 : R / (2048 * 4503599627370496) % 2 = 0 := by omega
    have a2 : R % (2048 * 4503599627370496) = R := by omega
    have a3 : R % 4503599627370496 = K - 4503599627370496 := by omega
    have a4 : R / 4503599627370496 = 1023 + k := by omega
    have a5 : ¬ R < 4503599627370496 := by omega
    have a6 : R < 2047 * 4503599627370496 := by omega
    have a7 : 4503599627370496 + (K - 4503599627370496) = K := by omega
    have a8 : (-1074 : Int) + ((1023 + k - 1 : Nat) : Int) = -((52 - k : Nat) : Int) := by omega
    clear hR hlo hlt
    simp only [a1, a2]
    rw [if_neg a5, if_pos a6, a3, a4, a7, a8]
    rfl

/-- The number that a datum is, in units of 2^-1074. -/
def sc : Datum → Option Int
  | .number s m p => some (Ieee.signed s m (p + 1074).toNat)
  | _ => none
/-- Places that a word of the format has. -/
def Fine : Datum → Prop
  | .number _ _ p => -1074 ≤ p
  | _ => True
theorem read_fine (x : Nat) : Fine (double.read x) := by
  unfold Format.read
  rw [lp]
  dsimp only
  split
  · exact Int.le_refl _
  · split
    · show -1074 ≤ _
      omega
    · split <;> exact True.intro
theorem signed_scale (s : Bool) (m u k : Nat) : Ieee.signed s m (u + k) = Ieee.signed s m u * ((2 ^ k : Nat) : Int) := by
  unfold Ieee.signed
  rw [shl_mul, shl_mul, Nat.pow_add, ← Nat.mul_assoc]
  cases s
  · simp
  · simp [Int.neg_mul]
theorem compare_scale (a b : Int) (k : Nat) : compare (a * ((2 ^ k : Nat) : Int)) (b * ((2 ^ k : Nat) : Int)) = compare a b := by
  have h : (0 : Int) < ((2 ^ k : Nat) : Int) := by have := Nat.two_pow_pos k; omega
  generalize ((2 ^ k : Nat) : Int) = K at *
  rcases Int.lt_trichotomy a b with hab | hab | hab
  · have : a * K < b * K := Int.mul_lt_mul_of_pos_right hab h
    show compareOfLessAndEq _ _ = compareOfLessAndEq _ _
    simp [compareOfLessAndEq, this, hab]
  · rw [hab]
    simp
  · have h1 : b * K < a * K := Int.mul_lt_mul_of_pos_right hab h
    show compareOfLessAndEq _ _ = compareOfLessAndEq _ _
    have h2 : ¬ a * K < b * K := by omega
    have h3 : a * K ≠ b * K := by omega
    have h4 : ¬ a < b := by omega
    have h5 : a ≠ b := by omega
    simp [compareOfLessAndEq, h2, h3, h4, h5]
theorem order_sc {a b : Datum} {x y : Int} (ha : sc a = some x) (hb : sc b = some y) (fa : Fine a) (fb : Fine b) : a.order b = some (compare x y) := by
  cases a with
  | number s m i =>
    cases b with
    | number t n j =>
      simp only [sc, Option.some.injEq] at ha hb
      subst ha; subst hb
      show some (compare (Ieee.signed s m (i - min i j).toNat) (Ieee.signed t n (j - min i j).toNat)) = _
      have fa' : -1074 ≤ i := fa
      have fb' : -1074 ≤ j := fb
      have e1 : (i + 1074).toNat = (i - min i j).toNat + (min i j + 1074).toNat := by omega
      have e2 : (j + 1074).toNat = (j - min i j).toNat + (min i j + 1074).toNat := by omega
      rw [e1, e2, signed_scale, signed_scale, compare_scale]
    | _ => simp [sc] at hb
  | _ => simp [sc] at ha
/-- A unit of one. -/
def U : Int := ((2 ^ 1074 : Nat) : Int)
theorem U_pos : 0 < U := by have := Nat.two_pow_pos 1074; unfold U; omega
theorem sc_rep {d : Datum} {n : Nat} (h : Rep d n) : sc d = some ((n : Int) * U) ∧ Fine d := by
  obtain ⟨p, hp, rfl⟩ := h
  refine ⟨?_, ?_⟩
  · have e : (-(p : Int) + 1074).toNat = 1074 - p := by omega
    show some (Ieee.signed false (n * 2 ^ p) (-(p : Int) + 1074).toNat) = _
    rw [e]
    unfold Ieee.signed U
    rw [if_neg (by simp), shl_mul, Nat.mul_assoc, ← Nat.pow_add, show p + (1074 - p) = 1074 by omega, Int.natCast_mul]
  · show -1074 ≤ -(p : Int)
    omega
theorem compare_U (a b : Int) : compare (a * U) (b * U) = compare a b := compare_scale a b 1074
theorem order_rep {a b : Datum} {n m : Nat} (ha : Rep a n) (hb : Rep b m) : a.order b = some (compare (n : Int) m) := by
  obtain ⟨ha1, ha2⟩ := sc_rep ha
  obtain ⟨hb1, hb2⟩ := sc_rep hb
  rw [order_sc ha1 hb1 ha2 hb2, compare_U]
/-- The order of two whole numbers. -/
theorem order_N (n m : Nat) (hn : n < 9007199254740992) (hm : m < 9007199254740992) : double.order (N n) (N m) = some (compare (n : Int) m) := order_rep (read_N n hn) (read_N m hm)
/-- The sum of two whole numbers. -/
theorem add_N (n m : Nat) (h : n + m < 9007199254740992) : double.add (N n) (N m) = some (N (n + m)) := by
  obtain ⟨p, hp, e1⟩ := read_N n (by omega)
  obtain ⟨q, hq, e2⟩ := read_N m (by omega)
  unfold Format.add
  rw [e1, e2]
  have e3 : (Datum.number false (n * 2 ^ p) (-(p : Int))).sum (.number false (m * 2 ^ q) (-(q : Int))) = some (.number false ((n + m) * 2 ^ (max p q)) (-((max p q : Nat) : Int))) := by
    unfold Datum.sum
    have b : min (-(p : Int)) (-(q : Int)) = -((max p q : Nat) : Int) := by omega
    have c1 : (-(p : Int) - -((max p q : Nat) : Int)).toNat = max p q - p := by omega
    have c2 : (-(q : Int) - -((max p q : Nat) : Int)).toNat = max p q - q := by omega
    simp only [b, c1, c2]
    unfold Ieee.signed
    simp only [Bool.false_eq_true, if_false]
    rw [shl_mul, shl_mul, Nat.mul_assoc, Nat.mul_assoc, ← Nat.pow_add, ← Nat.pow_add, show p + (max p q - p) = max p q by omega, show q + (max p q - q) = max p q by omega, ← Int.natCast_add, ← Nat.add_mul]
    obtain ⟨T, hT⟩ : ∃ T, (n + m) * 2 ^ max p q = T := ⟨_, rfl⟩
    rw [hT]
    have h1 : ¬ ((T : Int) < 0) := by omega
    simp [h1]
  rw [e3, Option.map_some]
  congr 1
  by_cases h0 : n + m = 0
  · rw [h0, Nat.zero_mul]
    rw [N_zero]
    unfold Format.write Format.nearest Format.word
    simp
  · rw [N_pos (n + m) (Nat.pos_of_ne_zero h0) h]
    exact nearest_whole (n + m) (max p q) (Nat.pos_of_ne_zero h0) h
/-- As an integer. -/
theorem toInt_rep {d : Datum} {n : Nat} (h : Rep d n) : d.toInt .zero = some (n : Int) := by
  obtain ⟨p, hp, rfl⟩ := h
  unfold Datum.toInt Datum.integral
  have e1 : (-(p : Int)).toNat = 0 := by omega
  have e2 : (-(-(p : Int))).toNat = p := by omega
  simp only [e1, e2]
  rw [shl_mul, Nat.pow_zero, Nat.mul_one, cut_exact]
  simp [Ieee.signed]
theorem cut_zero (neg : Bool) (n d : Nat) : Toward.zero.cut neg n d = n / 2 ^ d := by
  unfold Toward.cut
  simp only [Nat.one_shiftLeft, Bool.toNat_false, Nat.add_zero]
  by_cases h : d ≤ n.log2 + 2
  · rw [Nat.min_eq_left h]
  · rw [Nat.min_eq_right (by omega)]
    have h1 := @Nat.lt_log2_self n
    have h2 : 2 ^ (n.log2 + 1) ≤ 2 ^ (n.log2 + 2) := Nat.pow_le_pow_right (by omega) (by omega)
    have h3 : 2 ^ (n.log2 + 1) ≤ 2 ^ d := Nat.pow_le_pow_right (by omega) (by omega)
    rw [Nat.div_eq_of_lt (by omega), Nat.div_eq_of_lt (by omega)]
/-- A number cut towards zero. -/
def trunc (x : Nat) : Nat := double.write ((double.read x).integral .zero)
/-- The whole number from 0 to 10^15 that a word is, if it is one. -/
def part (x : Nat) : Option Nat :=
  match (double.read x).toInt .zero with
  | some n => if 0 ≤ n ∧ n ≤ 1000000000000000 ∧ double.order x (N n.toNat) = some .eq then some n.toNat else none
  | none => none
theorem cmp_eq {a b : Int} (h : compare a b = .eq) : a = b := by
  have h' : compareOfLessAndEq a b = .eq := h
  unfold compareOfLessAndEq at h'
  split at h'
  · cases h'
  · split at h'
    · assumption
    · cases h'
theorem cmp_self (a : Int) : compare a a = .eq := by
  show compareOfLessAndEq a a = .eq
  simp [compareOfLessAndEq]
theorem cmp_le {a b : Int} (h : compare a b = .lt ∨ compare a b = .eq) : a ≤ b := by
  rcases Int.lt_trichotomy a b with h1 | h1 | h1
  · omega
  · omega
  · have : compare a b = .gt := by
      show compareOfLessAndEq a b = .gt
      unfold compareOfLessAndEq
      rw [if_neg (by omega), if_neg (by omega)]
    rw [this] at h
    simp at h
theorem cmp_ge {a b : Int} (h : compare a b = .gt ∨ compare a b = .eq) : b ≤ a := by
  rcases Int.lt_trichotomy a b with h1 | h1 | h1
  · have : compare a b = .lt := by
      show compareOfLessAndEq a b = .lt
      unfold compareOfLessAndEq
      rw [if_pos h1]
    rw [this] at h
    simp at h
  · omega
  · omega
theorem le_cancel (a b k : Nat) (h : a * 2 ^ k ≤ b * 2 ^ k) : a ≤ b := Nat.le_of_mul_le_mul_right h (Nat.two_pow_pos k)
theorem order_some {a b : Datum} {o : Ordering} (h : a.order b = some o) : (∃ x, sc a = some x) ∨ (∃ s, a = .infinity s) := by
  cases a with
  | number s m i => exact Or.inl ⟨_, rfl⟩
  | infinity s => exact Or.inr ⟨s, rfl⟩
  | nan s t => simp [Datum.order] at h
/-- Where it is not below 0, and not too great, it is a number, and cut it is one from 0 on. -/
theorem trunc_of (x : Nat) (h1 : double.order x (N 0) = some .gt ∨ double.order x (N 0) = some .eq) (h2 : double.order x (N 1000000000000000) = some .lt ∨ double.order x (N 1000000000000000) = some .eq) :
    ∃ (v : Int) (n : Nat), sc (double.read x) = some v ∧ n ≤ 1000000000000000 ∧ (double.read x).toInt .zero = some (n : Int) ∧ sc (double.read (trunc x)) = some (n * U) := by
  have r0 := read_N 0 (by omega)
  have rM := read_N 1000000000000000 (by omega)
  have hf := read_fine x
  unfold trunc
  unfold Format.order at h1 h2
  obtain ⟨d, hd⟩ : ∃ d, double.read x = d := ⟨_, rfl⟩
  rw [hd] at h1 h2 hf ⊢
  cases d with
  | nan s t => simp [Datum.order] at h1
  | infinity s =>
    obtain ⟨p, _, e0⟩ := r0
    obtain ⟨q, _, eM⟩ := rM
    rw [e0] at h1; rw [eM] at h2
    cases s <;> simp [Datum.order] at h1 h2
  | number s m i =>
    obtain ⟨s0, f0⟩ := sc_rep r0
    obtain ⟨sM, fM⟩ := sc_rep rM
    have hv : sc (.number s m i) = some (Ieee.signed s m (i + 1074).toNat) := rfl
    rw [order_sc hv s0 hf f0] at h1
    rw [order_sc hv sM hf fM] at h2
    simp only [Option.some.injEq] at h1 h2
    have g1 := cmp_ge h1
    have g2 := cmp_le h2
    have hi : -1074 ≤ i := hf
    have hU := U_pos
    have hm : s = true → m = 0 := by
      intro hs
      subst hs
      unfold Ieee.signed at g1
      rw [if_pos rfl, shl_mul] at g1
      have h3 := Nat.two_pow_pos (i + 1074).toNat
      rcases Nat.eq_zero_or_pos m with h | h
      · exact h
      · have := Nat.mul_pos h h3
        generalize m * 2 ^ (i + 1074).toNat = A at *
        omega
    have hc : (m <<< i.toNat) / 2 ^ (-i).toNat ≤ 1000000000000000 := by
      cases s with
      | true =>
        rw [hm rfl, shl_mul, Nat.zero_mul, Nat.zero_div]
        omega
      | false =>
        unfold Ieee.signed U at g2
        rw [if_neg (by simp), shl_mul] at g2
        rw [← Int.natCast_mul] at g2
        have g2 := Int.ofNat_le.1 g2
        rw [shl_mul]
        by_cases hp : 0 ≤ i
        · have e1 : (-i).toNat = 0 := by omega
          have e2 : (i + 1074).toNat = i.toNat + 1074 := by omega
          rw [e2, Nat.pow_add, ← Nat.mul_assoc] at g2
          rw [e1, Nat.pow_zero, Nat.div_one]
          exact le_cancel _ _ 1074 g2
        · have e1 : i.toNat = 0 := by omega
          have e3 : (1074 : Nat) = (-i).toNat + (i + 1074).toNat := by omega
          have e4 : 1000000000000000 * 2 ^ 1074 = 1000000000000000 * 2 ^ (-i).toNat * 2 ^ (i + 1074).toNat := by
            rw [Nat.mul_assoc, ← Nat.pow_add, ← e3]
          rw [e4] at g2
          have g3 := Nat.le_of_mul_le_mul_right g2 (Nat.two_pow_pos _)
          rw [e1, Nat.pow_zero, Nat.mul_one]
          exact (Nat.div_le_iff_le_mul_add_pred (Nat.two_pow_pos _)).2 (by rw [Nat.mul_comm]; omega)
    refine ⟨_, (m <<< i.toNat) / 2 ^ (-i).toNat, rfl, hc, ?_, ?_⟩
    · unfold Datum.toInt Datum.integral
      simp only [cut_zero]
      cases s with
      | true =>
        rw [hm rfl, shl_mul, Nat.zero_mul, Nat.zero_div]
        simp [Ieee.signed]
      | false => simp [Ieee.signed]
    · unfold Datum.integral
      simp only [cut_zero]
      cases s with
      | true =>
        rw [hm rfl, shl_mul, Nat.zero_mul, Nat.zero_div]
        have e : double.write (.number true 0 0) = 9223372036854775808 := by
          unfold Format.write Format.nearest Format.word
          rfl
        rw [e, Int.natCast_zero, Int.zero_mul]
        have e2 : double.read 9223372036854775808 = .number true 0 (-1074) := by rfl
        rw [e2]
        rfl
      | false => exact (sc_rep (read_N _ (by omega))).1
theorem order_of_sc {a b : Nat} {x y : Int} (ha : sc (double.read a) = some x) (hb : sc (double.read b) = some y) : double.order a b = some (compare x y) :=
  order_sc ha hb (read_fine a) (read_fine b)
theorem sc_N (n : Nat) (h : n < 9007199254740992) : sc (double.read (N n)) = some (n * U) := (sc_rep (read_N n h)).1
theorem mul_U {a b : Int} (h : a * U = b * U) : a = b := Int.eq_of_mul_eq_mul_right (Int.ne_of_gt U_pos) h
/-- It is a number. -/
theorem sc_of_ge {x : Nat} (h : double.order x (N 0) = some .gt ∨ double.order x (N 0) = some .eq) (h2 : double.order x (N 1000000000000000) = some .lt ∨ double.order x (N 1000000000000000) = some .eq) : ∃ v, sc (double.read x) = some v := by
  obtain ⟨v, n, h, _⟩ := trunc_of x h h2
  exact ⟨v, h⟩
theorem part_some {x n : Nat} (h : part x = some n) : n ≤ 1000000000000000 ∧ (double.read x).toInt .zero = some (n : Int) ∧ sc (double.read x) = some (n * U) ∧ double.order x (trunc x) = some .eq := by
  unfold part at h
  split at h
  · rename_i m hm
    split at h
    · rename_i hc
      obtain ⟨c1, c2, c3⟩ := hc
      simp only [Option.some.injEq] at h
      have hmn : m = (n : Int) := by omega
      subst hmn
      have hn : n ≤ 1000000000000000 := by omega
      rw [show ((n : Int)).toNat = n by omega] at c3
      have hx : ∃ v, sc (double.read x) = some v := by
        cases hd : double.read x with
        | number s m i => exact ⟨_, rfl⟩
        | infinity s => rw [hd] at hm; simp [Datum.toInt, Datum.integral] at hm
        | nan s t => rw [hd] at hm; simp [Datum.toInt, Datum.integral] at hm
      obtain ⟨v, hv⟩ := hx
      have hN := sc_N n (by omega)
      have e := order_of_sc hv hN
      rw [e] at c3
      have hvn := cmp_eq (Option.some.inj c3)
      subst hvn
      refine ⟨hn, hm, hv, ?_⟩
      have g0 := order_of_sc hv (sc_N 0 (by omega))
      have gM := order_of_sc hv (sc_N 1000000000000000 (by omega))
      rw [compare_U] at g0 gM
      have k0 : double.order x (N 0) = some .gt ∨ double.order x (N 0) = some .eq := by
        rw [g0]
        rcases Nat.eq_zero_or_pos n with h | h
        · subst h; exact Or.inr (by rw [cmp_self])
        · refine Or.inl ?_
          refine congrArg some (?_ : compareOfLessAndEq _ _ = _)
          unfold compareOfLessAndEq
          rw [if_neg (by omega), if_neg (by omega)]
      have kM : double.order x (N 1000000000000000) = some .lt ∨ double.order x (N 1000000000000000) = some .eq := by
        rw [gM]
        by_cases h : n = 1000000000000000
        · subst h; exact Or.inr (by rw [cmp_self])
        · refine Or.inl ?_
          refine congrArg some (?_ : compareOfLessAndEq _ _ = _)
          unfold compareOfLessAndEq
          rw [if_pos (by omega)]
      obtain ⟨v', n', h1, h2, h3, h4⟩ := trunc_of x k0 kM
      rw [hm] at h3
      have hnn : n' = n := by have := Option.some.inj h3; omega
      subst hnn
      rw [order_of_sc hv h4, cmp_self]
    · cases h
  · cases h
theorem part_order {x n : Nat} (h : part x = some n) (k : Nat) (hk : k < 9007199254740992) : double.order x (N k) = some (compare (n : Int) k) ∧ double.order (N k) x = some (compare (k : Int) n) := by
  obtain ⟨_, _, h3, _⟩ := part_some h
  rw [order_of_sc h3 (sc_N k hk), order_of_sc (sc_N k hk) h3, compare_U, compare_U]
  exact ⟨rfl, rfl⟩
theorem part_none {x : Nat} (h : part x = none) (h1 : double.order x (N 0) = some .gt ∨ double.order x (N 0) = some .eq) (h2 : double.order x (N 1000000000000000) = some .lt ∨ double.order x (N 1000000000000000) = some .eq) :
    double.order x (trunc x) ≠ some .eq ∧ ∃ n : Nat, n ≤ 1000000000000000 ∧ (double.read x).toInt .zero = some (n : Int) ∧ double.order (N n) x ≠ some .eq := by
  obtain ⟨v, n, hv, hn, ht, hs⟩ := trunc_of x h1 h2
  have key : v ≠ n * U := by
    intro e
    subst e
    have hN := order_of_sc hv (sc_N n (by omega))
    rw [cmp_self] at hN
    have hp : part x = some n := by
      unfold part
      rw [ht]
      dsimp only
      rw [show ((n : Int)).toNat = n by omega, if_pos ⟨by omega, by omega, hN⟩]
    rw [h] at hp
    cases hp
  refine ⟨?_, n, hn, ht, ?_⟩
  · rw [order_of_sc hv hs]
    intro e
    exact key (cmp_eq (Option.some.inj e))
  · rw [order_of_sc (sc_N n (by omega)) hv]
    intro e
    exact key (cmp_eq (Option.some.inj e)).symm
theorem part_N (n : Nat) (h : n ≤ 1000000000000000) : part (N n) = some n := by
  unfold part
  rw [toInt_rep (read_N n (by omega))]
  have e := order_N n n (by omega) (by omega)
  rw [cmp_self] at e
  dsimp only
  rw [show ((n : Int)).toNat = n by omega, if_pos ⟨by omega, by omega, e⟩]
theorem toInt_N (n : Nat) (h : n < 9007199254740992) : (double.read (N n)).toInt .zero = some (n : Int) := toInt_rep (read_N n h)
end Go.Proofs.Ytbiiejolemcifaa.FlM

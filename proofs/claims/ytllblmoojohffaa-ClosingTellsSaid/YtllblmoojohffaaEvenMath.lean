/- Quotients rounded to the even one; division and product bit by bit: plain numbers. No condition. -/
import Derived.IntWalk
namespace Go.Proofs.Ytllblmoojohffaa.EvM

/-- n by d, rounded to the nearest whole number, of two to the even one. -/
def evenN (n d : Nat) : Nat := if n % d < d - n % d ∨ (n % d = d - n % d ∧ n / d % 2 = 0) then n / d else n / d + 1

theorem even_div {n d : Nat} (h : n % d < d - n % d) : evenN n d = n / d := by unfold evenN; rw [if_pos (Or.inl h)]
theorem even_tie0 {n d : Nat} (h : n % d = d - n % d) (h2 : n / d % 2 = 0) : evenN n d = n / d := by unfold evenN; rw [if_pos (Or.inr ⟨h, h2⟩)]
theorem even_tie1 {n d : Nat} (h : n % d = d - n % d) (h2 : n / d % 2 = 1) : evenN n d = n / d + 1 := by unfold evenN; rw [if_neg (by omega)]
theorem even_up {n d : Nat} (h : d - n % d < n % d) : evenN n d = n / d + 1 := by unfold evenN; rw [if_neg (by omega)]
theorem even_ge (n d : Nat) : n / d ≤ evenN n d := by unfold evenN; split <;> omega
theorem even_le (n d : Nat) : evenN n d ≤ n / d + 1 := by unfold evenN; split <;> omega

/-- Off by half at most; by just half only to an even one. -/
theorem even_off (n d : Nat) (hd : 0 < d) : (2 * (evenN n d * d) < 2 * n + d ∧ 2 * n < 2 * (evenN n d * d) + d) ∨ ((2 * (evenN n d * d) = 2 * n + d ∨ 2 * n = 2 * (evenN n d * d) + d) ∧ evenN n d % 2 = 0) := by
  have h1 := Nat.div_add_mod' n d
  have h2 := Nat.mod_lt n hd
  unfold evenN
  obtain ⟨q, hq⟩ : ∃ q, n / d = q := ⟨_, rfl⟩
  obtain ⟨r, hr⟩ : ∃ r, n % d = r := ⟨_, rfl⟩
  rw [hq, hr] at h1 ⊢
  rw [hr] at h2
  clear hq hr
  split
  · rename_i h
    generalize q * d = A at *
    rcases h with h | ⟨h, h3⟩
    · left; omega
    · right; exact ⟨by omega, h3⟩
  · rename_i h
    rw [Nat.add_mul, Nat.one_mul]
    generalize q * d = A at *
    by_cases h3 : r = d - r
    · right; refine ⟨by omega, by omega⟩
    · left; omega
/-- A whole multiple. -/
theorem even_mul (q d : Nat) (hd : 0 < d) : evenN (q * d) d = q := by
  unfold evenN
  rw [Nat.mul_mod_left, Nat.mul_div_cancel _ hd, if_pos (by omega)]
theorem even_zero (d : Nat) (hd : 0 < d) : evenN 0 d = 0 := by
  have := even_mul 0 d hd
  rwa [Nat.zero_mul] at this
theorem even_of (q d r : Nat) (hr : r < d) : evenN (q * d + r) d = if r < d - r ∨ (r = d - r ∧ q % 2 = 0) then q else q + 1 := by
  unfold evenN
  rw [Nat.mul_add_mod_self_right, Nat.mod_eq_of_lt hr, Nat.add_comm (q * d), Nat.add_mul_div_right _ _ (by omega), Nat.div_eq_of_lt hr, Nat.zero_add]
theorem even_mono {m n d : Nat} (hd : 0 < d) (h : m ≤ n) : evenN m d ≤ evenN n d := by
  have h0 : m / d ≤ n / d := Nat.div_le_div_right h
  by_cases h1 : m / d = n / d
  · have h3 := Nat.div_add_mod' m d
    have h4 := Nat.div_add_mod' n d
    have h5 := Nat.mod_lt m hd
    have h6 := Nat.mod_lt n hd
    unfold evenN
    rw [h1] at h3 ⊢
    obtain ⟨q, hq⟩ : ∃ q, n / d = q := ⟨_, rfl⟩
    obtain ⟨r, hr⟩ : ∃ r, n % d = r := ⟨_, rfl⟩
    obtain ⟨s, hs⟩ : ∃ r, m % d = r := ⟨_, rfl⟩
    rw [hq, hr] at h4; rw [hq, hs] at h3; rw [hs] at h5; rw [hr] at h6
    rw [hq, hr, hs]
    generalize q * d = A at *
    split <;> split <;> omega
  · have := even_le m d; have := even_ge n d; omega

/-- One step of the division by bits: the digits so far. -/
theorem bit_step (N b d : Nat) (hd : 0 < d) (hb : b ≤ 1) :
    (2 * N + b) / d = 2 * (N / d) + (if d ≤ 2 * (N % d) + b then 1 else 0) ∧ (2 * N + b) % d = 2 * (N % d) + b - (if d ≤ 2 * (N % d) + b then d else 0) := by
  have h1 := Nat.div_add_mod N d
  have h2 := Nat.mod_lt N hd
  obtain ⟨q, hq⟩ : ∃ q, N / d = q := ⟨_, rfl⟩
  obtain ⟨r, hr⟩ : ∃ r, N % d = r := ⟨_, rfl⟩
  rw [hq, hr] at h1; rw [hr] at h2
  rw [hq, hr]
  have e : 2 * N + b = (2 * r + b) + d * (2 * q) := by rw [← h1, Nat.mul_left_comm]; omega
  rw [e, Nat.add_mul_div_left _ _ hd, Nat.add_mul_mod_self_left]
  by_cases h : d ≤ 2 * r + b
  · rw [if_pos h, if_pos h]
    have e2 : (2 * r + b) = (2 * r + b - d) + d * 1 := by omega
    have e3 : 2 * r + b - d < d := by omega
    have e4 : (2 * r + b) / d = 1 := by rw [e2, Nat.add_mul_div_left _ _ hd, Nat.div_eq_of_lt e3]
    have e5 : (2 * r + b) % d = 2 * r + b - d := by rw [e2, Nat.add_mul_mod_self_left, Nat.mod_eq_of_lt e3]; omega
    rw [e4, e5]; omega
  · rw [if_neg h, if_neg h, Nat.div_eq_of_lt (by omega), Nat.mod_eq_of_lt (by omega)]; omega


/-- The number whose halves are hi and lo, shifted down by j + 1, then by j. -/
theorem half_step (n j : Nat) : n / 2 ^ j = 2 * (n / 2 ^ (j + 1)) + n / 2 ^ j % 2 := by
  rw [Nat.pow_succ, ← Nat.div_div_eq_div_mul]
  omega
theorem bit_lo (hi lo j : Nat) (hj : j < 64) : (hi * 18446744073709551616 + lo) / 2 ^ j % 2 = lo / 2 ^ j % 2 := by
  have e : 18446744073709551616 = 2 ^ j * (2 * 2 ^ (63 - j)) := by
    rw [show (18446744073709551616 : Nat) = 2 ^ 64 from rfl, ← Nat.pow_succ', ← Nat.pow_add]
    congr 1; omega
  rw [e, ← Nat.mul_assoc, ← Nat.mul_assoc, Nat.mul_comm hi, Nat.mul_assoc, Nat.mul_assoc, Nat.add_comm, Nat.add_mul_div_left _ _ (Nat.two_pow_pos j), ← Nat.mul_assoc, Nat.mul_comm hi, Nat.mul_assoc]
  omega
theorem top_hi (hi lo : Nat) (h : lo < 18446744073709551616) : (hi * 18446744073709551616 + lo) / 2 ^ 64 = hi := by
  have e : (2 : Nat) ^ 64 = 18446744073709551616 := by decide
  rw [e]; omega
/-- One step of the product by bits. -/
theorem mul_step (a b j : Nat) : a * (b / 2 ^ j) = 2 * (a * (b / 2 ^ (j + 1))) + (if b / 2 ^ j % 2 = 1 then a else 0) := by
  have h := half_step b j
  rcases Nat.mod_two_eq_zero_or_one (b / 2 ^ j) with h0 | h0
  · rw [if_neg (by omega)]
    rw [h0] at h
    rw [h, Nat.add_zero, Nat.mul_left_comm]
    rfl
  · rw [if_pos h0]
    rw [h0] at h
    rw [h, Nat.mul_add, Nat.mul_left_comm, Nat.mul_one]
theorem mul_top (a b : Nat) (h : b < 18446744073709551616) : a * (b / 2 ^ 64) = 0 := by
  have e : (2 : Nat) ^ 64 = 18446744073709551616 := by decide
  rw [e, Nat.div_eq_of_lt h, Nat.mul_zero]
theorem mul_bound (a b j : Nat) (ha : a < 18446744073709551616) (hb : b < 18446744073709551616) : a * (b / 2 ^ j) < 18446744073709551616 * 18446744073709551616 := by
  have h1 : b / 2 ^ j ≤ b := Nat.div_le_self _ _
  have h2 := Nat.mul_le_mul (show a ≤ 18446744073709551615 by omega) (show b / 2 ^ j ≤ 18446744073709551615 by omega)
  omega
end Go.Proofs.Ytllblmoojohffaa.EvM

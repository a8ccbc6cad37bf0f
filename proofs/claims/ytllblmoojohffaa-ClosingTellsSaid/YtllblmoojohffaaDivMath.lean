/- Division of two words by one, the school method: plain numbers. No condition. -/
import Derived.IntWalk
namespace Go.Proofs.Ytllblmoojohffaa.DivM

/-- The quotient digit: what the loop keeps. u: the upper part, l: the next digit below 2^32, Y = y1 * 2^32 + y0. -/
def Inv (u l y1 y0 q r : Nat) : Prop := q * y1 + r = u ∧ (u * 4294967296 + l) / (y1 * 4294967296 + y0) ≤ q

theorem inv_start (u l y1 y0 : Nat) (hl : l < 4294967296) (h1 : 0 < y1) : Inv u l y1 y0 (u / y1) (u % y1) := by
  refine ⟨Nat.div_add_mod' u y1, ?_⟩
  have h : (u * 4294967296 + l) / (y1 * 4294967296) = u / y1 := by
    rw [Nat.mul_comm y1, ← Nat.div_div_eq_div_mul]
    congr 1; omega
  rw [← h]
  exact Nat.div_le_div_left (by omega) (by omega)

theorem digit_lt (u l y1 y0 : Nat) (hl : l < 4294967296) (hu : u < y1 * 4294967296 + y0) : (u * 4294967296 + l) / (y1 * 4294967296 + y0) < 4294967296 := by
  obtain ⟨Y, hY⟩ : ∃ Y, y1 * 4294967296 + y0 = Y := ⟨_, rfl⟩
  rw [hY] at hu ⊢
  rw [Nat.div_lt_iff_lt_mul (by omega)]
  omega

theorem le_digit {u l y1 y0 q r : Nat} (h : q * y1 + r = u) (hY : 0 < y1 * 4294967296 + y0) (hq : q * y0 ≤ 4294967296 * r + l) : q ≤ (u * 4294967296 + l) / (y1 * 4294967296 + y0) := by
  rw [Nat.le_div_iff_mul_le hY, Nat.mul_add, ← Nat.mul_assoc]
  generalize q * y1 = A at *
  generalize q * y0 = B at *
  omega
theorem digit_lt_of {u l y1 y0 q r : Nat} (h : q * y1 + r = u) (hY : 0 < y1 * 4294967296 + y0) (hq : 4294967296 * r + l < q * y0) : (u * 4294967296 + l) / (y1 * 4294967296 + y0) < q := by
  rw [Nat.div_lt_iff_lt_mul hY, Nat.mul_add, ← Nat.mul_assoc]
  generalize q * y1 = A at *
  generalize q * y0 = B at *
  omega
/-- The test fails: the digit is right. -/
theorem inv_done {u l y1 y0 q r : Nat} (h : Inv u l y1 y0 q r) (hY : 0 < y1 * 4294967296 + y0) (hq : q * y0 ≤ 4294967296 * r + l) : q = (u * 4294967296 + l) / (y1 * 4294967296 + y0) :=
  Nat.le_antisymm (le_digit h.1 hY hq) h.2
/-- The test holds: one less. -/
theorem inv_step {u l y1 y0 q r : Nat} (h : Inv u l y1 y0 q r) (hl : l < 4294967296) (hu : u < y1 * 4294967296 + y0) (hq : 4294967296 ≤ q ∨ 4294967296 * r + l < q * y0) : 1 ≤ q ∧ Inv u l y1 y0 (q - 1) (r + y1) := by
  have hlt : (u * 4294967296 + l) / (y1 * 4294967296 + y0) < q := by
    rcases hq with hq | hq
    · have := digit_lt u l y1 y0 hl hu; omega
    · exact digit_lt_of h.1 (by omega) hq
  have h2 := h.2
  have h1 := h.1
  clear h
  obtain ⟨D, hD⟩ : ∃ D, (u * 4294967296 + l) / (y1 * 4294967296 + y0) = D := ⟨_, rfl⟩
  unfold Inv
  rw [hD] at hlt ⊢
  clear hD h2 hq hu
  refine ⟨by omega, ?_, by omega⟩
  obtain ⟨k, rfl⟩ : ∃ k, q = k + 1 := ⟨q - 1, by omega⟩
  rw [Nat.add_sub_cancel]
  rw [Nat.add_mul, Nat.one_mul] at h1
  omega
/-- At the break: the digit is right. -/
theorem inv_break {u l y1 y0 q r : Nat} (h : Inv u l y1 y0 q r) (hY : 0 < y1 * 4294967296 + y0) (h0 : y0 < 4294967296) (hq : q ≤ 4294967296) (hr : 4294967296 ≤ r) : q = (u * 4294967296 + l) / (y1 * 4294967296 + y0) := by
  refine inv_done h hY ?_
  have : q * y0 ≤ 4294967296 * 4294967295 := Nat.mul_le_mul hq (by omega)
  omega
theorem start_le {u y1 y0 : Nat} (hu : u < y1 * 4294967296 + y0) (h0 : y0 < 4294967296) (h1 : 2147483648 ≤ y1) : u / y1 ≤ 4294967297 := by
  have : u / y1 < 4294967298 := by
    rw [Nat.div_lt_iff_lt_mul (by omega)]; omega
  omega
/-- What is left behind the digit. -/
theorem rest_eq (N Y q : Nat) (h : q = N / Y) : N - q * Y = N % Y := by
  subst h
  have := Nat.div_add_mod' N Y
  omega
/-- Both digits. -/
theorem two_digits (u l1 l0 Y : Nat) (hY : 0 < Y) :
    (u * 4294967296 + l1) / Y * 4294967296 + ((u * 4294967296 + l1) % Y * 4294967296 + l0) / Y = ((u * 4294967296 + l1) * 4294967296 + l0) / Y ∧
    ((u * 4294967296 + l1) % Y * 4294967296 + l0) % Y = ((u * 4294967296 + l1) * 4294967296 + l0) % Y := by
  obtain ⟨A, hA⟩ : ∃ A, u * 4294967296 + l1 = A := ⟨_, rfl⟩
  rw [hA]
  obtain ⟨B, hB⟩ : ∃ B, A * 4294967296 + l0 = B := ⟨_, rfl⟩
  rw [hB]
  obtain ⟨C, hC⟩ : ∃ C, A % Y * 4294967296 + l0 = C := ⟨_, rfl⟩
  rw [hC]
  obtain ⟨D, hD⟩ : ∃ D, A / Y * 4294967296 = D := ⟨_, rfl⟩
  rw [hD]
  have e : B = C + Y * D := by
    have := Nat.div_add_mod A Y
    rw [← hD, ← Nat.mul_assoc]
    generalize Y * (A / Y) = B at *
    omega
  rw [e]
  constructor
  · rw [Nat.add_mul_div_left _ _ hY]; omega
  · rw [Nat.add_mul_mod_self_left]
/-- Both shifted up. -/
theorem shifted (n y s : Nat) : n * 2 ^ s / (y * 2 ^ s) = n / y ∧ n * 2 ^ s % (y * 2 ^ s) / 2 ^ s = n % y := by
  have h2 : 0 < 2 ^ s := Nat.two_pow_pos s
  refine ⟨Nat.mul_div_mul_right _ _ h2, ?_⟩
  rw [Nat.mul_mod_mul_right, Nat.mul_div_cancel _ h2]
end Go.Proofs.Ytllblmoojohffaa.DivM

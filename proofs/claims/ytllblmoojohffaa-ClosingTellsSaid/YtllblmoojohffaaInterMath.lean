/- The exact sum of balances times rates, in plain numbers. -/
import Derived.Test.YtllblmoojohffaaCashMath
namespace Go.Proofs.Ytllblmoojohffaa
open EvM

/-- below 0, or above the most -/
def overB (most x : Int) : Bool := decide (x < 0) || decide (most < x)
def okE (bs rs : List Int) : Bool := (bs.length == rs.length) && decide (bs.length ≤ 40000) && !bs.any (overB 1000000000000000) && !rs.any (overB 10000000)
/-- The sum of the first k products. -/
def sumE (bs rs : List Int) : Nat → Nat
  | 0 => 0
  | k + 1 => sumE bs rs k + (bs.getD k 0).toNat * (rs.getD k 0).toNat
def exactR (bs rs : List Int) : Nat × Nat × Int := if okE bs rs = true then (sumE bs rs bs.length / 18446744073709551616, sumE bs rs bs.length % 18446744073709551616, 0) else (0, 0, 1)
/-- What balances bear. -/
def ofR2 (n : Nat) : Int × Int :=
  if (evQ ((n / 18446744073709551616 : Nat) : Int) ((n % 18446744073709551616 : Nat) : Int) 1000000000).2 = true ∧ (evQ ((n / 18446744073709551616 : Nat) : Int) ((n % 18446744073709551616 : Nat) : Int) 1000000000).1 ≤ 1000000000000000 then
    ((evQ ((n / 18446744073709551616 : Nat) : Int) ((n % 18446744073709551616 : Nat) : Int) 1000000000).1, 0) else (0, 5)
def interR (bs rs : List Int) : Int × Int := if okE bs rs = true then ofR2 (sumE bs rs bs.length) else (0, 1)
def sumB (bs : List Int) : Nat → Nat
  | 0 => 0
  | k + 1 => sumB bs k + (bs.getD k 0).toNat
def okA (bs : List Int) : Bool := decide (1 ≤ bs.length) && decide (bs.length ≤ 40000) && !bs.any (overB 1000000000000000)
def averR (bs : List Int) : Int × Int :=
  if okA bs = true then ((evQ ((sumB bs bs.length / 18446744073709551616 : Nat) : Int) ((sumB bs bs.length % 18446744073709551616 : Nat) : Int) (bs.length : Int)).1, 0) else (0, 1)

theorem overB_no {most x : Int} (h : overB most x = false) : 0 ≤ x ∧ x ≤ most := by
  simp [overB] at h
  omega
theorem any_over {most : Int} {l : List Int} (h : l.any (overB most) = false) (hm : 0 ≤ most) (j : Nat) : 0 ≤ l.getD j 0 ∧ l.getD j 0 ≤ most := by
  by_cases hj : j < l.length
  · rw [List.any_eq_false] at h
    have := h l[j] (List.getElem_mem hj)
    have e : l.getD j 0 = l[j] := by simp [List.getD, hj]
    rw [e]
    exact overB_no (by simpa using this)
  · have e : l.getD j 0 = 0 := by simp [List.getD, Nat.le_of_not_lt hj]
    rw [e]; omega
theorem okE_parts {bs rs : List Int} (h : okE bs rs = true) : bs.length = rs.length ∧ bs.length ≤ 40000 ∧ bs.any (overB 1000000000000000) = false ∧ rs.any (overB 10000000) = false := by
  unfold okE at h
  simp only [Bool.and_eq_true, beq_iff_eq, decide_eq_true_eq, Bool.not_eq_true'] at h
  exact ⟨h.1.1.1, h.1.1.2, h.1.2, h.2⟩
theorem mul_le2 {a b A B : Nat} (h1 : a ≤ A) (h2 : b ≤ B) : a * b ≤ A * B := Nat.mul_le_mul h1 h2
theorem sumE_le {bs rs : List Int} (h1 : bs.any (overB 1000000000000000) = false) (h2 : rs.any (overB 10000000) = false) (k : Nat) : sumE bs rs k ≤ k * 10000000000000000000000 := by
  induction k with
  | zero => exact Nat.le_refl _
  | succ k ih =>
    have a := any_over h1 (by omega) k
    have b := any_over h2 (by omega) k
    have c : (bs.getD k 0).toNat * (rs.getD k 0).toNat ≤ 1000000000000000 * 10000000 := mul_le2 (by omega) (by omega)
    simp only [sumE]
    generalize (bs.getD k 0).toNat * (rs.getD k 0).toNat = q at c
    have c' : q ≤ 10000000000000000000000 := c
    omega
/-- One step of the sum, in words of 64 bits. -/
theorem sum_step (S P hi lo h l c lo2 hi2 : Nat) (e1 : S / 18446744073709551616 = hi) (e2 : S % 18446744073709551616 = lo) (e3 : P / 18446744073709551616 = h) (e4 : P % 18446744073709551616 = l)
    (e5 : (lo + l) % 18446744073709551616 = lo2) (e6 : (lo + l) / 18446744073709551616 = c) (e7 : (hi + h + c) % 18446744073709551616 = hi2) (hS : S + P < 18446744073709551616 * 18446744073709551616) :
    (S + P) / 18446744073709551616 = hi2 ∧ (S + P) % 18446744073709551616 = lo2 ∧ hi + h + c < 18446744073709551616 ∧ c ≤ 1 := by
  omega
theorem sumB_le {bs : List Int} (h1 : bs.any (overB 1000000000000000) = false) (k : Nat) : sumB bs k ≤ k * 1000000000000000 := by
  induction k with
  | zero => exact Nat.le_refl _
  | succ k ih =>
    have a := any_over h1 (by omega) k
    simp only [sumB]
    omega
theorem getD_rep (n k : Nat) (x : Int) (h : k < n) : (List.replicate n x).getD k 0 = x := by simp [List.getD, h]
theorem sumE_one (bs : List Int) (n k : Nat) (h : k ≤ n) : sumE bs (List.replicate n 1) k = sumB bs k := by
  induction k with
  | zero => rfl
  | succ k ih =>
    simp only [sumE, sumB]
    rw [ih (by omega), getD_rep n k 1 (by omega)]
    simp
theorem rep_ok (n : Nat) : (List.replicate n (1 : Int)).any (overB 10000000) = false := by
  rw [List.any_eq_false]
  intro x hx
  obtain rfl := (List.mem_replicate.1 hx).2
  decide
theorem okE_one (bs : List Int) : okE bs (List.replicate bs.length 1) = (decide (bs.length ≤ 40000) && !bs.any (overB 1000000000000000)) := by
  unfold okE
  rw [rep_ok]
  simp
end Go.Proofs.Ytllblmoojohffaa

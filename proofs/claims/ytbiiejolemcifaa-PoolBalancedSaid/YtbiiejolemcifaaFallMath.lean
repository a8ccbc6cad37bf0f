/- How an amount is spread, in plain lists. -/
import Derived.Test.YtbiiejolemcifaaLib
namespace Go.Proofs.Ytbiiejolemcifaa

/-- Are the first i numbers of an order each one of 1 to n, and none twice? -/
def ordT (ks : List Int) (n : Nat) : Nat → Bool
  | 0 => true
  | i + 1 => ordT ks n i && (decide (1 ≤ ks.getD i 0) && decide (ks.getD i 0 ≤ n) && !(ks.take i).contains (ks.getD i 0))
def ordB (ks : List Int) (n : Nat) : Bool := ordT ks n ks.length
/-- What lies in which place, and what is left, when the first i of an order have had theirs. -/
def fill (bal ks : List Int) (amount : Int) : Nat → List Int × Int
  | 0 => (List.replicate bal.length 0, amount)
  | i + 1 => ((fill bal ks amount i).1.set (ks.getD i 0 - 1).toNat (min (fill bal ks amount i).2 (bal.getD (ks.getD i 0 - 1).toNat 0)), (fill bal ks amount i).2 - min (fill bal ks amount i).2 (bal.getD (ks.getD i 0 - 1).toNat 0))
def filled (bal ks : List Int) (amount : Int) : List Int × Int := fill bal ks amount ks.length

theorem ordT_le {ks : List Int} {n i j : Nat} (h : ordT ks n j = true) (hij : i ≤ j) : ordT ks n i = true := by
  induction j with
  | zero => obtain rfl : i = 0 := by omega
            rfl
  | succ j ih =>
    by_cases e : i = j + 1
    · subst e; exact h
    · simp only [ordT, Bool.and_eq_true] at h
      exact ih h.1 (by omega)
theorem ordT_at {ks : List Int} {n i j : Nat} (h : ordT ks n j = true) (hij : i < j) : 1 ≤ ks.getD i 0 ∧ ks.getD i 0 ≤ n ∧ (ks.take i).contains (ks.getD i 0) = false := by
  have h1 := ordT_le h (show i + 1 ≤ j from hij)
  simp only [ordT, Bool.and_eq_true, decide_eq_true_eq, Bool.not_eq_true'] at h1
  exact ⟨h1.2.1.1, h1.2.1.2, h1.2.2⟩
theorem fill_length (bal ks : List Int) (amount : Int) (i : Nat) : (fill bal ks amount i).1.length = bal.length := by
  induction i with
  | zero => simp [fill]
  | succ i ih => simp [fill, ih]
theorem fill_left {bal ks : List Int} {amount : Int} (ha : 0 ≤ amount) (hb : ∀ x ∈ bal, 0 ≤ x) (i : Nat) : 0 ≤ (fill bal ks amount i).2 ∧ (fill bal ks amount i).2 ≤ amount := by
  induction i with
  | zero => simp [fill]; omega
  | succ i ih =>
    simp only [fill]
    have h0 : 0 ≤ bal.getD (ks.getD i 0 - 1).toNat 0 := by
      by_cases h : (ks.getD i 0 - 1).toNat < bal.length
      · have := hb bal[(ks.getD i 0 - 1).toNat] (List.getElem_mem h)
        rw [List.getD, List.getElem?_eq_getElem h]
        exact this
      · rw [List.getD, List.getElem?_eq_none (by omega)]
        exact Int.le_refl _
    omega
end Go.Proofs.Ytbiiejolemcifaa

/- Interest on a position, in plain lists. -/
import Derived.Test.YtllblmoojohffaaBearIdx
namespace Go.Proofs.Ytllblmoojohffaa
open Go.RowKit

/-- Balances and credit when the first k tranches have borne. -/
def bearSt (ns bs : List Int) (c : Int) : Nat → List Int × Int
  | 0 => (bs, c)
  | k + 1 => ((bearSt ns bs c k).1.set k ((bearSt ns bs c k).1.getD k 0 + (ns.getD k 0 - min (ns.getD k 0) (bearSt ns bs c k).2)), (bearSt ns bs c k).2 - min (ns.getD k 0) (bearSt ns bs c k).2)
/-- What interest makes of a position, or why not. -/
def bearS (bs : List Int) (c d : Int) (ns : List Int) : List Int × Int × Int × Int :=
  if rightP bs c d = false then ([], 0, 0, 1) else
  if (ns.length == bs.length) = false then ([], 0, 0, 1) else
  if ns.any notMay = true then ([], 0, 0, 1) else
  if rightP (bearSt ns bs c bs.length).1 (bearSt ns bs c bs.length).2 d = true then ((bearSt ns bs c bs.length).1, (bearSt ns bs c bs.length).2, d, 0) else ([], 0, 0, 5)
theorem bearSt_len (ns bs : List Int) (c : Int) (k : Nat) : (bearSt ns bs c k).1.length = bs.length := by
  induction k with
  | zero => rfl
  | succ k ih => simp [bearSt, ih]
theorem bearSt_later (ns bs : List Int) (c : Int) (k j : Nat) (h : k ≤ j) : (bearSt ns bs c k).1.getD j 0 = bs.getD j 0 := by
  induction k with
  | zero => rfl
  | succ k ih =>
    have := ih (by omega)
    simp only [bearSt]
    rw [← this]
    simp [List.getD, show k ≠ j by omega]
theorem any_may {ns : List Int} (h : ns.any notMay = false) (j : Nat) : 0 ≤ ns.getD j 0 ∧ ns.getD j 0 ≤ 1000000000000000 := by
  by_cases hj : j < ns.length
  · rw [List.any_eq_false] at h
    have := h ns[j] (List.getElem_mem hj)
    have e : ns.getD j 0 = ns[j] := by simp [List.getD, hj]
    rw [e]
    exact may0_iff.1 (by simpa [notMay] using this)
  · have e : ns.getD j 0 = 0 := by simp [List.getD, Nat.le_of_not_lt hj]
    rw [e]; omega
theorem bearSt_c {ns bs : List Int} {c : Int} (h : ns.any notMay = false) (hc : 0 ≤ c ∧ c ≤ 1000000000000000) (k : Nat) : 0 ≤ (bearSt ns bs c k).2 ∧ (bearSt ns bs c k).2 ≤ 1000000000000000 := by
  induction k with
  | zero => exact hc
  | succ k ih =>
    have := any_may h k
    simp only [bearSt]
    omega
theorem rightP_len {bs : List Int} {c d : Int} (h : rightP bs c d = true) : 1 ≤ bs.length := by
  unfold rightP at h
  cases hs : sumsB 0 bs with
  | none => rw [hs] at h; simp at h
  | some s => rw [hs] at h; simp only [Bool.and_eq_true, decide_eq_true_eq] at h; exact h.1.1.1.1
end Go.Proofs.Ytllblmoojohffaa

/- Positions of two tranches, in plain numbers. -/
import Derived.Test.YtllblmoojohffaaBear
namespace Go.Proofs.Ytllblmoojohffaa
open Go.RowKit

theorem rightP_two {a b c d : Int} : rightP [a, b] c d = true ↔ (0 ≤ a ∧ a ≤ 1000000000000000) ∧ (0 ≤ b ∧ b ≤ 1000000000000000) ∧ a + b ≤ 1000000000000000 ∧ (0 ≤ c ∧ c ≤ 1000000000000000) ∧ (0 ≤ d ∧ d ≤ 1000000000000000) ∧ (c = 0 ∨ a + b = 0) := by
  unfold rightP sumsB
  by_cases h1 : may0 a = true ∧ may0 (0 + a) = true
  · rw [if_pos h1]
    unfold sumsB
    have g1 := may0_iff.1 h1.1
    by_cases h2 : may0 b = true ∧ may0 (0 + a + b) = true
    · rw [if_pos h2]
      have g2 := may0_iff.1 h2.1
      have g3 := may0_iff.1 h2.2
      simp only [sumsB]
      simp only [List.length_cons, List.length_nil, Bool.and_eq_true, may0_iff, Bool.or_eq_true, beq_iff_eq, decide_eq_true_eq]
      omega
    · rw [if_neg h2]
      have : ¬ ((0 ≤ b ∧ b ≤ 1000000000000000) ∧ (0 ≤ 0 + a + b ∧ 0 + a + b ≤ 1000000000000000)) := fun h => h2 ⟨may0_iff.2 h.1, may0_iff.2 h.2⟩
      simp only [Bool.false_eq_true, false_iff]
      omega
  · rw [if_neg h1]
    have : ¬ ((0 ≤ a ∧ a ≤ 1000000000000000) ∧ (0 ≤ 0 + a ∧ 0 + a ≤ 1000000000000000)) := fun h => h1 ⟨may0_iff.2 h.1, may0_iff.2 h.2⟩
    simp only [Bool.false_eq_true, false_iff]
    omega
theorem rightP_two_no {a b c d : Int} (h : ¬ ((0 ≤ a ∧ a ≤ 1000000000000000) ∧ (0 ≤ b ∧ b ≤ 1000000000000000) ∧ a + b ≤ 1000000000000000 ∧ (0 ≤ c ∧ c ≤ 1000000000000000) ∧ (0 ≤ d ∧ d ≤ 1000000000000000) ∧ (c = 0 ∨ a + b = 0))) : rightP [a, b] c d = false := by
  cases hr : rightP [a, b] c d with
  | false => rfl
  | true => exact absurd (rightP_two.1 hr) h
theorem any_two {x y : Int} (hx : 0 ≤ x ∧ x ≤ 1000000000000000) (hy : 0 ≤ y ∧ y ≤ 1000000000000000) : [x, y].any notMay = false := by
  simp [notMay, may0_iff.2 hx, may0_iff.2 hy]
theorem bear_two {a b c d x y p q c1 c2 : Int} (hr : rightP [a, b] c d = true) (hx : 0 ≤ x ∧ x ≤ 1000000000000000) (hy : 0 ≤ y ∧ y ≤ 1000000000000000)
    (hp : a + (x - min x c) = p) (h1 : c - min x c = c1) (hq : b + (y - min y c1) = q) (h2 : c1 - min y c1 = c2) :
    bearS [a, b] c d [x, y] = if rightP [p, q] c2 d = true then ([p, q], c2, d, 0) else ([], 0, 0, 5) := by
  unfold bearS
  have e : bearSt [x, y] [a, b] c [a, b].length = ([p, q], c2) := by
    simp only [List.length_cons, List.length_nil, bearSt, List.set_cons_succ, List.set_cons_zero, List.getD_cons_succ, List.getD_cons_zero, hp, h1, hq, h2]
  rw [hr, any_two hx hy, e]
  simp only [Bool.true_eq_false, if_false, List.length_cons, List.length_nil, beq_self_eq_true, Bool.false_eq_true]
theorem total_two {a b t : Int} (hr : rightP [a, b] 0 0 = true) (h : a + b = t) : totalP [a, b] 0 0 = t := by
  unfold totalP
  rw [if_pos hr]
  simp [h]
end Go.Proofs.Ytllblmoojohffaa

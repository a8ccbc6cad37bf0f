/- ClosingLines: what the two lines and the total are, in plain numbers. -/
import Derived.Test.YtllblmoojohffaaLaw18
import Derived.Test.YtllblmoojohffaaPoolTwo
namespace Go.Proofs.Ytllblmoojohffaa
open Go.RowKit EvM

theorem least_le {T : Int} (hT : 0 ≤ T ∧ T ≤ 1000000000000000) : ∃ M, leastR (rightT 5000 ts18 1 20 25 20 10957) 25 20 T = (M, 0) ∧ 0 ≤ M ∧ M ≤ T := by
  rw [right18]
  obtain ⟨⟨M, e⟩, h⟩ : ∃ r, leastR true 25 20 T = r := ⟨_, rfl⟩
  obtain ⟨p, h1, h2, h3⟩ := leastR_fine h (by omega) (by omega) (by omega)
  refine ⟨M, by rw [h, h3], ?_, ?_⟩ <;> omega
/-- Both lines, and what is left of the credit. -/
theorem lines_facts {A B c I K : Int} (hA : 0 ≤ A ∧ A < 10000) (hB : 0 ≤ B ∧ B < 10000) (hc : 0 ≤ c ∧ c < 1000) (h0 : c = 0 ∨ A + B = 0) (hI : 0 ≤ I ∧ I < 1000) (hK : 0 ≤ K ∧ K < 1000) :
    ∃ x y C T M, bearS [A, B] c 0 [I, K] = ([x, y], C, 0, 0) ∧ totalP [x, y] C 0 = T ∧ leastR (rightT 5000 ts18 1 20 25 20 10957) 25 20 T = (M, 0) ∧ rightP [x, y] C M = true ∧ (0 ≤ x ∧ x ≤ 20000) ∧ (0 ≤ y ∧ y ≤ 20000) ∧ (0 ≤ C ∧ C ≤ 1000) ∧ x + y = T ∧ T - C = A + B - c + I + K ∧ 0 ≤ M ∧ M ≤ T := by
  have hr : rightP [A, B] c 0 = true := rightP_two.2 (by omega)
  obtain ⟨c1, h1⟩ : ∃ c1, c - min I c = c1 := ⟨_, rfl⟩
  obtain ⟨c2, h2⟩ : ∃ c2, c1 - min K c1 = c2 := ⟨_, rfl⟩
  obtain ⟨x, hx⟩ : ∃ x, A + (I - min I c) = x := ⟨_, rfl⟩
  obtain ⟨y, hy⟩ : ∃ y, B + (K - min K c1) = y := ⟨_, rfl⟩
  have hr2 : rightP [x, y] c2 0 = true := rightP_two.2 (by omega)
  have hb := bear_two hr (by omega) (by omega) hx h1 hy h2
  rw [if_pos hr2] at hb
  obtain ⟨M, hM, m1, m2⟩ := least_le (T := x + y) (by omega)
  refine ⟨x, y, c2, x + y, M, hb, ?_, hM, rightP_two.2 (by omega), by omega, by omega, by omega, rfl, by omega, m1, m2⟩
  unfold totalP
  rw [hr2]
  simp
end Go.Proofs.Ytllblmoojohffaa

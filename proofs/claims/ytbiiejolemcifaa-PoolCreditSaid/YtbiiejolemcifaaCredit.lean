/- PoolCredit: plain. -/
import Derived.Test.YtbiiejolemcifaaPoolPay
import Derived.Test.YtbiiejolemcifaaLaw11B
namespace Go.Proofs.Ytbiiejolemcifaa
open Go.RowKit

theorem low12 : rankL ltLow [1, 2] ([1, 2] : List Int).length = [1, 2] := by decide
theorem high12 : rankL ltHigh [1, 2] ([1, 2] : List Int).length = [2, 1] := by decide
theorem pay_two {B A : Int} (hB : 0 ≤ B ∧ B ≤ 1000000000000000) (hA : 0 ≤ A ∧ A ≤ 1000000000000000) : payR [B, 0] 0 0 [1, 2] A = ([min A B, 0], 0, A - min A B, 0) := by
  have e0 : min A 0 = 0 := by omega
  have h1 : pay1 [B, 0] [1, 2] 0 = ([0, 0], 0) := by
    have m1 : min 0 B = 0 := by omega
    unfold pay1
    rw [low12]
    simp [filled, fill, m1]
  have h2 : payRest [B, 0] [1, 2] 0 = [B, 0] := by
    unfold payRest
    rw [h1]
    simp [subL]
  have h3 : pay2 [B, 0] [1, 2] 0 A = ([min A B, 0], A - min A B) := by
    unfold pay2
    rw [e0, h2, h1, high12]
    have m2 : A - 0 + 0 = A := by omega
    simp [filled, fill, e0]
  have b1 : badMoney B = false := by simp [badMoney]; omega
  have b2 : badMoney A = false := by simp [badMoney]; omega
  have b3 : badMoney 0 = false := by decide
  unfold payR
  rw [h3, e0, h1]
  simp [b1, b2, b3, addL]
theorem credit_facts {B A M : Int} (hB : 0 ≤ B ∧ B < 1000) (hA : 0 ≤ A ∧ A < 2000) (hM : 0 ≤ M ∧ M < 2000) :
    payS [B, 0] 0 0 [1, 2] A = ([max 0 (B - A), 0], max 0 (A - B), 0, 0) ∧
    chargeS [max 0 (B - A), 0] (max 0 (A - B)) 0 2 M = ([max 0 (B - A), max 0 (M - max 0 (A - B))], max 0 (max 0 (A - B) - M), 0, 0) := by
  have hr0 : rightP [B, 0] 0 0 = true := rightP_two.2 (by omega)
  have hr1 : rightP [max 0 (B - A), 0] (max 0 (A - B)) 0 = true := rightP_two.2 (by omega)
  have hr2 : rightP [max 0 (B - A), max 0 (M - max 0 (A - B))] (max 0 (max 0 (A - B) - M)) 0 = true := rightP_two.2 (by omega)
  constructor
  · have ha : askedE [B, 0] 0 0 A [] = 0 := by
      unfold askedE
      have h1 : badK [B, 0].length [] = false := rfl
      have h2 : may0 A = true := may0_iff.2 (by omega)
      rw [hr0, h1, h2]
      rfl
    have hp := pay_two (B := B) (A := A) (by omega) (by omega)
    have hs : subL [B, 0] [min A B, 0] = [max 0 (B - A), 0] := by
      have e : B - min A B = max 0 (B - A) := by omega
      simp [subL, e]
    unfold payS
    rw [ha, hp]
    simp only [ne_eq, not_true_eq_false, if_false]
    rw [hs, show (0 : Int) + (A - min A B) = max 0 (A - B) by omega, show (0 : Int) - 0 = 0 by omega, if_pos hr1]
  · rw [charge_two (x := max 0 (M - max 0 (A - B))) (f := max 0 (max 0 (A - B) - M)) hr1 (by omega) (by omega) (by omega), if_pos hr2]
end Go.Proofs.Ytbiiejolemcifaa

/- What a gift makes of a position, in plain lists. -/
import Derived.Test.YtbiiejolemcifaaPoolPay
import Derived.Test.YtbiiejolemcifaaRankLaws
namespace Go.Proofs.Ytbiiejolemcifaa
open Go.RowKit

/-- The tranche first, then the others by falling rates. -/
def giveO (rates : List Int) (k : Int) : List Int := k :: (rankL ltHigh rates rates.length).filter (fun x => x != k)
theorem ordT_of2 {ks : List Int} {n : Nat} (h : ∀ i, i < ks.length → 1 ≤ ks.getD i 0 ∧ ks.getD i 0 ≤ n) (hd : ks.Nodup) (i : Nat) (hi : i ≤ ks.length) : ordT ks n i = true := by
  induction i with
  | zero => rfl
  | succ i ih =>
    have h1 := h i (by omega)
    have h2 := take_not_mem hd (show i < ks.length by omega)
    simp only [ordT, ih (by omega), h2, decide_eq_true h1.1, decide_eq_true h1.2]
    rfl
theorem giveO_mem {rates : List Int} {k x : Int} {n : Nat} (hn : rates.length = n) (hk : 1 ≤ k ∧ k ≤ n) (h : x ∈ giveO rates k) : 1 ≤ x ∧ x ≤ n := by
  unfold giveO at h
  rcases List.mem_cons.1 h with rfl | h
  · exact hk
  · have := rankL_mem (List.mem_filter.1 h).1
    omega
theorem giveO_nodup (rates : List Int) (k : Int) : (giveO rates k).Nodup := by
  unfold giveO
  refine List.nodup_cons.2 ⟨?_, (rankL_nodup ltHigh rates rates.length).filter _⟩
  intro h
  have := (List.mem_filter.1 h).2
  simp at this
theorem giveO_ord {rates : List Int} {k : Int} {n : Nat} (hn : rates.length = n) (hk : 1 ≤ k ∧ k ≤ n) : ordB (giveO rates k) n = true := by
  refine ordT_of2 (fun i hi => ?_) (giveO_nodup rates k) _ (Nat.le_refl _)
  have e : (giveO rates k).getD i 0 = (giveO rates k)[i] := by simp [List.getD, hi]
  rw [e]
  exact giveO_mem hn hk (List.getElem_mem hi)
theorem giveO_length (rates : List Int) (k : Int) : (giveO rates k).length ≤ rates.length + 1 := by
  unfold giveO
  have := List.length_filter_le (fun x : Int => x != k) (rankL ltHigh rates rates.length)
  rw [rankL_length] at this
  simp only [List.length_cons]
  omega
theorem into_yes {bs ks : List Int} {am : Int} (ho : ordB ks bs.length = true) (hb : bs.any badMoney = false) (ha : 0 ≤ am ∧ am ≤ 1000000000000000) : intoR bs ks am = ((filled bs ks am).1, (filled bs ks am).2, 0) := by
  have h2 : badMoney am = false := by simp [badMoney]; omega
  unfold intoR
  rw [ho, hb, h2]
  rfl
/-- What a gift makes of a position, or why not. -/
def giveS (bs : List Int) (c d : Int) (rates : List Int) (k am : Int) : List Int × Int × Int × Int :=
  if askedE bs c d am [k] ≠ 0 then ([], 0, 0, askedE bs c d am [k]) else
  if (rates.length == bs.length) = false then ([], 0, 0, 1) else
  if rightP (subL bs (filled bs (giveO rates k) am).1) (c + (filled bs (giveO rates k) am).2) d = true then
    (subL bs (filled bs (giveO rates k) am).1, c + (filled bs (giveO rates k) am).2, d, 0) else ([], 0, 0, 5)
theorem giveO_step {rates : List Int} {k y : Int} {j : Nat} (hj : j < (rankL ltHigh rates rates.length).length) (hy : (rankL ltHigh rates rates.length).getD j 0 = y) :
    k :: ((rankL ltHigh rates rates.length).take (j + 1)).filter (fun x => x != k) = if (y != k) = true then (k :: ((rankL ltHigh rates rates.length).take j).filter (fun x => x != k)) ++ [y] else k :: ((rankL ltHigh rates rates.length).take j).filter (fun x => x != k) := by
  have e : (rankL ltHigh rates rates.length)[j] = y := by rw [← hy]; simp [List.getD, hj]
  rw [List.take_succ_eq_append_getElem hj, e, List.filter_append]
  by_cases h : (y != k) = true
  · rw [if_pos h]; simp [h]
  · rw [if_neg h]; simp [h]
end Go.Proofs.Ytbiiejolemcifaa

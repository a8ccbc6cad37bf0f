/- What a payment makes of a position, in plain lists. -/
import Derived.Test.YtbiiejolemcifaaFallPayYN
import Derived.Test.YtbiiejolemcifaaPoolG
namespace Go.Proofs.Ytbiiejolemcifaa
open Go.RowKit

theorem any_bad_no {bs : List Int} {all s : Int} (h : sumsB all bs = some s) : bs.any badMoney = false := by
  rw [List.any_eq_false]
  intro x hx
  obtain ⟨j, hj, rfl⟩ := List.getElem_of_mem hx
  have := sumsB_may h j hj
  have e : bs.getD j 0 = bs[j] := by simp [List.getD, hj]
  rw [e] at this
  simp [badMoney]
  omega
theorem rightP_due {bs : List Int} {c d : Int} (h : rightP bs c d = true) : (0 ≤ d ∧ d ≤ 1000000000000000) ∧ bs.length ≤ 8 ∧ 1 ≤ bs.length := by
  unfold rightP at h
  cases hs : sumsB 0 bs with
  | none => rw [hs] at h; simp at h
  | some s =>
    rw [hs] at h
    simp only [Bool.and_eq_true, decide_eq_true_eq] at h
    exact ⟨may0_iff.1 h.1.2, h.1.1.1.2, h.1.1.1.1⟩
theorem asked_none {bs : List Int} {c d am : Int} (h : askedE bs c d am [] = 0) : rightP bs c d = true ∧ 0 ≤ am ∧ am ≤ 1000000000000000 := by
  unfold askedE at h
  cases hr : rightP bs c d with
  | false => rw [hr] at h; simp at h
  | true =>
    rw [hr] at h
    have hb : badK bs.length [] = false := rfl
    rw [hb] at h
    cases hm : may0 am with
    | false => rw [hm] at h; simp at h
    | true => have := may0_iff.1 hm; exact ⟨rfl, this.1, this.2⟩
/-- What Pay answers at what may be. -/
theorem payR_parts {bs rates : List Int} {c d am : Int} {l : List Int} {du le e : Int} (h : payR bs c d rates am = (l, du, le, e)) :
    (e = 0 ∧ rates.length = bs.length ∧ bs.any badMoney = false ∧ badMoney c = false ∧ badMoney d = false ∧ badMoney am = false ∧ l = addL (pay1 bs rates (min am d)).1 (pay2 bs rates d am).1 ∧ du = min am d ∧ le = (pay2 bs rates d am).2) ∨ (e = 1 ∧ l = [] ∧ du = 0 ∧ le = 0) := by
  unfold payR at h
  cases hc : (rates.length == bs.length && !bs.any badMoney && !badMoney c && !badMoney d && !badMoney am) with
  | false =>
    rw [hc, if_neg (by simp)] at h
    simp only [Prod.mk.injEq] at h
    exact .inr ⟨h.2.2.2.symm, h.1.symm, h.2.1.symm, h.2.2.1.symm⟩
  | true =>
    rw [hc, if_pos rfl] at h
    simp only [Prod.mk.injEq] at h
    simp only [Bool.and_eq_true, beq_iff_eq, Bool.not_eq_true'] at hc
    exact .inl ⟨h.2.2.2.symm, hc.1.1.1.1, hc.1.1.1.2, hc.1.1.2, hc.1.2, hc.2, h.1.symm, h.2.1.symm, h.2.2.1.symm⟩
theorem payR_range {bs rates : List Int} {c d am : Int} {l : List Int} {du le : Int} (h : payR bs c d rates am = (l, du, le, 0)) :
    l.length = bs.length ∧ (∀ j, j < bs.length → 0 ≤ l.getD j 0 ∧ l.getD j 0 ≤ bs.getD j 0) ∧ (0 ≤ le ∧ le ≤ am) ∧ du = min am d := by
  rcases payR_parts h with ⟨_, hl, hb, _, hd, ha, rfl, rfl, rfl⟩ | ⟨h0, _⟩
  · have hbr := bad_no hb
    have hdr := badMoney_no hd
    have har := badMoney_no ha
    have hb0 : ∀ x ∈ bs, 0 ≤ x := fun x hx => (hbr x hx).1
    have hm : 0 ≤ min am d := by omega
    have l1 : (pay1 bs rates (min am d)).1.length = bs.length := filled_length _ _ _
    have l2 : (pay2 bs rates d am).1.length = bs.length := by unfold pay2; rw [filled_length, payRest_length]
    have r1 : ∀ j, j < bs.length → 0 ≤ (pay1 bs rates (min am d)).1.getD j 0 ∧ (pay1 bs rates (min am d)).1.getD j 0 ≤ bs.getD j 0 := fun j hj => fill_range hm hb0 _ j hj
    have q1 : 0 ≤ (pay1 bs rates (min am d)).2 ∧ (pay1 bs rates (min am d)).2 ≤ min am d := fill_left hm hb0 _
    have hrr := payRest_range (rates := rates) hm hbr
    have hr0 : ∀ x ∈ payRest bs rates (min am d), 0 ≤ x := fun x hx => (hrr x hx).1
    have ha2 : 0 ≤ am - min am d + (pay1 bs rates (min am d)).2 := by omega
    have r2 : ∀ j, j < bs.length → 0 ≤ (pay2 bs rates d am).1.getD j 0 ∧ (pay2 bs rates d am).1.getD j 0 ≤ (payRest bs rates (min am d)).getD j 0 := fun j hj => fill_range ha2 hr0 _ j (by rw [payRest_length]; exact hj)
    have q2 : 0 ≤ (pay2 bs rates d am).2 ∧ (pay2 bs rates d am).2 ≤ am - min am d + (pay1 bs rates (min am d)).2 := fill_left ha2 hr0 _
    refine ⟨?_, ?_, by omega, rfl⟩
    · unfold addL
      rw [List.length_zipWith]
      omega
    · intro j hj
      have a := r1 j hj
      have b := r2 j hj
      have e : (payRest bs rates (min am d)).getD j 0 = bs.getD j 0 - (pay1 bs rates (min am d)).1.getD j 0 := getD_subL hj (by omega)
      rw [e] at b
      rw [getD_addL (by omega) (by omega)]
      omega
  · exact absurd h0 (by decide)
/-- What a payment makes of a position, or why not. -/
def payS (bs : List Int) (c d : Int) (rates : List Int) (am : Int) : List Int × Int × Int × Int :=
  if askedE bs c d am [] ≠ 0 then ([], 0, 0, askedE bs c d am []) else
  if (payR bs c d rates am).2.2.2 ≠ 0 then ([], 0, 0, (payR bs c d rates am).2.2.2) else
  if rightP (subL bs (payR bs c d rates am).1) (c + (payR bs c d rates am).2.2.1) (d - (payR bs c d rates am).2.1) = true then
    (subL bs (payR bs c d rates am).1, c + (payR bs c d rates am).2.2.1, d - (payR bs c d rates am).2.1, 0) else ([], 0, 0, 5)
end Go.Proofs.Ytbiiejolemcifaa

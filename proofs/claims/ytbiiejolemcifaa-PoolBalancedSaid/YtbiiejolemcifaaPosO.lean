/- Postings that a call owns: their cells. -/
import Derived.Test.YtbiiejolemcifaaPosV
namespace Go.Proofs.Ytbiiejolemcifaa
open Go.RowKit

/-- The cells of postings. -/
def cellsP (ps : List (Int × Nat × Nat)) : List Value := ps.flatMap fun p => [Value.int .i64 p.1, Value.complex .f64 p.2.1 p.2.2]
theorem cellsP_append (a b : List (Int × Nat × Nat)) : cellsP (a ++ b) = cellsP a ++ cellsP b := by simp [cellsP]
theorem cellsP_length (l : List (Int × Nat × Nat)) : (cellsP l).length = l.length * 2 := by
  induction l with
  | nil => rfl
  | cons x l ih =>
    have e : cellsP (x :: l) = Value.int .i64 x.1 :: Value.complex .f64 x.2.1 x.2.2 :: cellsP l := rfl
    rw [e]
    simp only [List.length_cons, ih]
    omega
theorem cellsP_get (l : List (Int × Nat × Nat)) (i : Nat) (hi : i < l.length) : (cellsP l)[i * 2]? = some (.int .i64 (l.getD i (0, 0, 0)).1) ∧ (cellsP l)[i * 2 + 1]? = some (.complex .f64 (l.getD i (0, 0, 0)).2.1 (l.getD i (0, 0, 0)).2.2) := by
  induction l generalizing i with
  | nil => simp at hi
  | cons x l ih =>
    have e : cellsP (x :: l) = Value.int .i64 x.1 :: Value.complex .f64 x.2.1 x.2.2 :: cellsP l := rfl
    rw [e]
    cases i with
    | zero => simp
    | succ i =>
      have h := ih i (by simpa using hi)
      rw [show (i + 1) * 2 = i * 2 + 1 + 1 by omega]
      simpa using h
theorem cellsP_set (l : List (Int × Nat × Nat)) (i : Nat) (p : Int × Nat × Nat) (hi : i < l.length) : cellsP (l.set i p) = ((cellsP l).set (i * 2) (.int .i64 p.1)).set (i * 2 + 1) (.complex .f64 p.2.1 p.2.2) := by
  induction l generalizing i with
  | nil => simp at hi
  | cons x l ih =>
    have e : ∀ x l, cellsP (x :: l) = Value.int .i64 x.1 :: Value.complex .f64 x.2.1 x.2.2 :: cellsP l := fun _ _ => rfl
    cases i with
    | zero => simp [e]
    | succ i =>
      rw [show (i + 1) * 2 = i * 2 + 1 + 1 by omega, List.set_cons_succ, e, e, ih i (by simpa using hi)]
      simp
theorem PoS.of_blk {w : World} {g cap n : Nat} {e : TypeId} {cur : List Value} {ls : List (Int × Nat × Nat)} (h : Blk w g e cur) (hn : ls.length = n) (hnc : n ≤ cap) (hcm : cap ≤ maxLen) (hx : cur.take (n * 2) = cellsP ls) : PoS w (.slice (some ⟨g, 0, none⟩) n cap) ls := by
  subst hn
  refine ⟨_, _, rfl, hnc, ⟨hcm, fun h => by cases h⟩, fun _ => ⟨g, 0, rfl, fun i hi => ?_⟩⟩
  obtain ⟨h1, h2⟩ := cellsP_get ls i hi
  have key : ∀ j, j < ls.length * 2 → cur[j]? = (cellsP ls)[j]? := fun j hj => by rw [← hx]; simp [hj]
  rw [h.cell, h.cell]
  refine ⟨?_, ?_⟩
  · rw [Nat.zero_add, key _ (by omega)]; exact h1
  · rw [show 0 + i * 2 + 1 = i * 2 + 1 by omega, key _ (by omega)]; exact h2
theorem PoS.of_own {w : World} {base : Nat} {e : TypeId} {v : Value} {n : Nat} {ls : List (Int × Nat × Nat)} (h : w.ownsRow base e 2 v n (cellsP ls)) (hn : ls.length = n) : PoS w v ls := by
  rcases h.2 with ⟨rfl, h0⟩ | ⟨g, cap, cur, rfl, hb, hg, hnc, hcm, hcs, htake⟩
  · obtain rfl : ls = [] := List.eq_nil_of_length_eq_zero (by omega)
    exact ⟨none, 0, rfl, Nat.le_refl _, ⟨by simp [maxLen], fun _ => rfl⟩, fun h => absurd rfl h⟩
  · exact PoS.of_blk (cur := cur.toList) (by simpa [Blk] using hg) hn hnc hcm (by simpa using htake)
/-- What is appended from a slice of postings, nil or not. -/
theorem PoS.news {w : World} {ao : Option Addr} {n cap : Nat} {ls : List (Int × Nat × Nat)} (h : PoS w (.slice ao n cap) ls) : ∀ ad, ao = some ad → ∀ j u, (cellsP ls)[j]? = some u → w.cell? (ad.add j) = some u := by
  intro ad had j u hu
  have hj : j < ls.length * 2 := by
    have := (List.getElem?_eq_some_iff.1 hu).1
    rwa [cellsP_length] at this
  obtain ⟨ao', cap', e, h1, h2, h3⟩ := h
  cases e
  obtain ⟨b, o, rfl, hc⟩ := h3 (by intro e; subst e; simp at hj)
  obtain rfl := Option.some.inj had
  have hi : j / 2 < ls.length := by omega
  obtain ⟨c1, c2⟩ := hc (j / 2) hi
  obtain ⟨g1, g2⟩ := cellsP_get ls (j / 2) hi
  rw [Addr.add_lit]
  by_cases hp : j % 2 = 0
  · have e : j = j / 2 * 2 := by omega
    rw [e] at hu ⊢
    rw [c1, ← g1, ← hu]
  · have e : j = j / 2 * 2 + 1 := by omega
    rw [e] at hu ⊢
    rw [← Nat.add_assoc, c2, ← g2, ← hu]
theorem PoS.len {w : World} {ao : Option Addr} {n cap : Nat} {ls : List (Int × Nat × Nat)} (h : PoS w (.slice ao n cap) ls) : n = ls.length ∧ n ≤ cap ∧ cap ≤ maxLen ∧ (ao = none → n = 0 ∧ cap = 0) := by
  obtain ⟨ao', cap', e, h1, h2, h3⟩ := h
  cases e
  exact ⟨rfl, h1, h2.1, fun h => by have := h2.2 h; omega⟩
theorem cellsP_one (ls : List (Int × Nat × Nat)) : ∀ u ∈ cellsP ls, u.oneCell' = true := by
  intro u hu
  unfold cellsP at hu
  simp only [List.mem_flatMap] at hu
  obtain ⟨p, _, hp⟩ := hu
  simp at hp
  rcases hp with rfl | rfl <;> rfl
end Go.Proofs.Ytbiiejolemcifaa

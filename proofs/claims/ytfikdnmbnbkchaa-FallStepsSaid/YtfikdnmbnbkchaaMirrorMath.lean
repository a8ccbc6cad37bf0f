/- The two orders of rates of which no two are alike are each other's mirror; of rates that are all alike both are by number. -/
import Derived.Test.YtfikdnmbnbkchaaRankLaws
namespace Go.Proofs.Ytfikdnmbnbkchaa

/-- The first k of some, each once. -/
def once (xs : List Int) : Nat → List Int
  | 0 => []
  | k + 1 => if (once xs k).contains (xs.getD k 0) then once xs k else once xs k ++ [xs.getD k 0]
theorem once_le (xs : List Int) (k : Nat) : (once xs k).length ≤ k := by
  induction k with
  | zero => simp [once]
  | succ k ih =>
    unfold once
    split
    · omega
    · simp only [List.length_append, List.length_singleton]; omega
theorem once_nodup (xs : List Int) (k : Nat) : (once xs k).Nodup := by
  induction k with
  | zero => simp [once]
  | succ k ih =>
    unfold once
    split
    · exact ih
    · rename_i h
      rw [List.nodup_append]
      refine ⟨ih, by simp, ?_⟩
      intro a ha b hb e
      simp at hb
      subst e
      subst hb
      exact h (by simpa using ha)
theorem getD_lt {l : List Int} {i : Nat} (h : i < l.length) : l.getD i 0 = l[i] := by simp [List.getD, h]
theorem val_inj {xs : List Int} (h : xs.Nodup) {y z : Int} (hy : 1 ≤ y ∧ y ≤ xs.length) (hz : 1 ≤ z ∧ z ≤ xs.length) (e : val xs y = val xs z) : y = z := by
  unfold val at e
  have e1 : (y - 1).toNat < xs.length := by omega
  have e2 : (z - 1).toNat < xs.length := by omega
  rw [getD_lt e1, getD_lt e2] at e
  have := (List.getElem_inj h).1 e
  omega
theorem mirror {xs : List Int} (h : xs.Nodup) : rankL ltLow xs xs.length = (rankL ltHigh xs xs.length).reverse := by
  have hp : (rankL ltLow xs xs.length).Perm (rankL ltHigh xs xs.length).reverse :=
    (rankL_perm _ _ _).trans ((rankL_perm _ _ _).symm.trans (List.reverse_perm _).symm)
  refine hp.eq_of_pairwise (le := Stand ltLow xs) ?_ (rankL_pairwise low_asym low_ntr _ _) ?_
  · intro a b _ _ hab hba
    simp [Stand, ltLow] at hab hba
    omega
  · rw [List.pairwise_reverse]
    refine ((rankL_pairwise high_asym high_ntr xs xs.length).and (rankL_nodup ltHigh xs xs.length)).imp_of_mem ?_
    intro a b ha hb hab
    obtain ⟨⟨h1, _⟩, hne⟩ := hab
    have ia := rankL_mem ha
    have ib := rankL_mem hb
    have hv : val xs a ≠ val xs b := fun e => hne (val_inj h ia ib e)
    simp [ltHigh] at h1
    simp [Stand, ltLow]
    omega
theorem bk_none {p : Int → Bool} {l : List Int} (h : ∀ y ∈ l, p y = false) : bk p l l.length = l.length := by
  cases hl : l.length with
  | zero => rfl
  | succ n =>
    unfold bk
    have : p (l.getD n 0) = false := h _ (by simp [List.getD, show n < l.length by omega])
    rw [this]
    rfl
theorem alike {lt : Int → Int → Bool} (irr : ∀ a, lt a a = false) (v : Int) (m n : Nat) (hn : n ≤ m) : rankL lt (List.replicate m v) n = (List.range n).map (fun (i : Nat) => (i : Int) + 1) := by
  induction n with
  | zero => rfl
  | succ n ih =>
    have ih := ih (by omega)
    have hb : bk (fun y => lt ((List.replicate m v).getD n 0) ((List.replicate m v).getD (y - 1).toNat 0)) (rankL lt (List.replicate m v) n) (rankL lt (List.replicate m v) n).length = (rankL lt (List.replicate m v) n).length := by
      refine bk_none fun y hy => ?_
      have := rankL_mem hy
      have e1 : (List.replicate m v).getD n 0 = v := by rw [getD_lt (by simp; omega)]; simp
      have e2 : (List.replicate m v).getD (y - 1).toNat 0 = v := by rw [getD_lt (by simp; omega)]; simp
      simp only [e1, e2, irr]
    show mid _ _ _ = _
    rw [hb, mid_end, ih, List.range_succ, List.map_append]
    rfl
theorem apart_or {a b : Option Nat} (h : a = none ∨ b = none ∨ a ≠ b) : b = none ∨ b ≠ a := by
  rcases h with h | h | h
  · subst h; cases b <;> simp
  · exact .inl h
  · exact .inr (Ne.symm h)
theorem apart_one {a b a' : Option Nat} {n : Nat} (h : a = none ∨ b = none ∨ a ≠ b) (ha : a' = a ∨ a' = some n) (hb : ∀ k, b = some k → k < n) : a' = none ∨ a' ≠ b := by
  rcases ha with rfl | rfl
  · rcases h with h | h | h
    · exact .inl h
    · subst h
      cases a' <;> simp
    · exact .inr h
  · refine .inr fun e => ?_
    have := hb n e.symm
    omega
theorem apart_two {a b a' b' : Option Nat} {n m s : Nat} (h : a = none ∨ b = none ∨ a ≠ b) (ha : a' = a ∨ a' = some n) (hb : b' = b ∨ b' = some m) (la : ∀ k, a = some k → k < s) (lb : ∀ k, b = some k → k < s) (h1 : s ≤ n) (h2 : n < m) :
    a' = none ∨ b' = none ∨ a' ≠ b' := by
  rcases ha with rfl | rfl <;> rcases hb with rfl | rfl
  · exact h
  · refine .inr (.inr fun e => ?_)
    have := la m e
    omega
  · refine .inr (.inr fun e => ?_)
    have := lb n e.symm
    omega
  · refine .inr (.inr fun e => ?_)
    cases e
    omega
theorem getD_reverse {l : List Int} {i : Nat} (h : i < l.length) : l.reverse.getD i 0 = l.getD (l.length - 1 - i) 0 := by
  simp [List.getD, h, show l.length - 1 - i < l.length by omega]
theorem mirror_at {xs : List Int} (h : xs.Nodup) {i : Nat} (hi : i < xs.length) : (rankL ltLow xs xs.length).getD i 0 = (rankL ltHigh xs xs.length).getD (xs.length - 1 - i) 0 := by
  rw [mirror h]
  have hl := rankL_length ltHigh xs xs.length
  rw [getD_reverse (by omega), hl]
theorem alike_at {lt : Int → Int → Bool} (irr : ∀ a, lt a a = false) (v : Int) {m i : Nat} (hi : i < m) : (rankL lt (List.replicate m v) m).getD i 0 = (i : Int) + 1 := by
  rw [alike irr v m m (Nat.le_refl _)]
  simp [List.getD, hi]
end Go.Proofs.Ytfikdnmbnbkchaa

/- What follows of the order of rates: of two in it none stands wrong; each stands there once; where no two rates are alike one order is the other one from behind; where all are alike both are by number. -/
import Derived.Test.YtbiiejolemcifaaRankLow
import Derived.Test.YtbiiejolemcifaaRankHigh
namespace Go.Proofs.Ytbiiejolemcifaa

def val (xs : List Int) (y : Int) : Int := xs.getD (y - 1).toNat 0
/-- y may stand ahead of z. -/
def Stand (lt : Int → Int → Bool) (xs : List Int) (y z : Int) : Prop := lt (val xs z) (val xs y) = false ∧ (lt (val xs y) (val xs z) = true ∨ y < z)

theorem bk_hi (p : Int → Bool) (l : List Int) (n j : Nat) (h1 : bk p l n ≤ j) (h2 : j < n) : p (l.getD j 0) = true := by
  induction n with
  | zero => omega
  | succ n ih =>
    unfold bk at h1
    split at h1
    · rename_i hp
      by_cases e : j = n
      · subst e; exact hp
      · exact ih h1 (by omega)
    · omega
theorem bk_lo (p : Int → Bool) (l : List Int) (n j : Nat) (h1 : bk p l n = j + 1) : p (l.getD j 0) = false := by
  induction n with
  | zero => simp [bk] at h1
  | succ n ih =>
    unfold bk at h1
    split at h1
    · exact ih h1
    · rename_i hp
      have e : j = n := by omega
      subst e
      simpa using hp

theorem ins_pairwise {lt : Int → Int → Bool} (asym : ∀ a b, lt a b = true → lt b a = false) (ntr : ∀ a b c, lt a c = true → lt a b = true ∨ lt b c = true)
    {xs : List Int} {l : List Int} {x : Int} (hl : l.Pairwise (Stand lt xs)) (hx : ∀ y ∈ l, y < x) :
    (ins (fun y => lt (val xs x) (val xs y)) l x).Pairwise (Stand lt xs) := by
  have hk := bk_le (fun y => lt (val xs x) (val xs y)) l l.length
  have hhi := bk_hi (fun y => lt (val xs x) (val xs y)) l l.length
  have hlo := bk_lo (fun y => lt (val xs x) (val xs y)) l l.length
  unfold ins mid
  generalize bk (fun y => lt (val xs x) (val xs y)) l l.length = k at hk hhi hlo
  have hd : ∀ z ∈ l.drop k, Stand lt xs x z := by
    intro z hz
    obtain ⟨j, hj, rfl⟩ := List.getElem_of_mem hz
    rw [List.length_drop] at hj
    have := hhi (k + j) (by omega) (by omega)
    simp only [List.getElem_drop]
    simp [List.getD, show k + j < l.length by omega] at this
    exact ⟨asym _ _ this, Or.inl this⟩
  have ht : ∀ y ∈ l.take k, Stand lt xs y x := by
    intro y hy
    refine ⟨?_, Or.inr (hx y (List.mem_of_mem_take hy))⟩
    obtain ⟨j, hj, rfl⟩ := List.getElem_of_mem hy
    rw [List.length_take] at hj
    simp only [List.getElem_take]
    obtain ⟨m, rfl⟩ : ∃ m, k = m + 1 := ⟨k - 1, by omega⟩
    have hm := hlo m rfl
    simp [List.getD, show m < l.length by omega] at hm
    by_cases e : j = m
    · subst e; exact hm
    · have hpw := (List.pairwise_iff_getElem.1 hl) j m (by omega) (by omega) (by omega)
      cases hc : lt (val xs x) (val xs l[j]) with
      | false => rfl
      | true =>
        rcases ntr _ (val xs l[m]) _ hc with h | h
        · rw [hm] at h; cases h
        · rw [hpw.1] at h; cases h
  rw [List.pairwise_append, List.pairwise_cons]
  refine ⟨hl.sublist (List.take_sublist _ _), ⟨hd, hl.sublist (List.drop_sublist _ _)⟩, ?_⟩
  intro y hy z hz
  rcases List.mem_cons.1 hz with rfl | hz
  · exact ht y hy
  · obtain ⟨i, hi, rfl⟩ := List.getElem_of_mem hy
    obtain ⟨j, hj, rfl⟩ := List.getElem_of_mem hz
    rw [List.length_take] at hi
    rw [List.length_drop] at hj
    simp only [List.getElem_take, List.getElem_drop]
    exact (List.pairwise_iff_getElem.1 hl) i (k + j) (by omega) (by omega) (by omega)

theorem rankL_pairwise {lt : Int → Int → Bool} (asym : ∀ a b, lt a b = true → lt b a = false) (ntr : ∀ a b c, lt a c = true → lt a b = true ∨ lt b c = true)
    (xs : List Int) (n : Nat) : (rankL lt xs n).Pairwise (Stand lt xs) := by
  induction n with
  | zero => exact List.Pairwise.nil
  | succ n ih =>
    have := ins_pairwise asym ntr (x := (n : Int) + 1) ih (fun y hy => by have := rankL_mem hy; omega)
    have e : val xs ((n : Int) + 1) = xs.getD n 0 := by unfold val; congr 1; omega
    rw [e] at this
    exact this
theorem rankL_nodup (lt : Int → Int → Bool) (xs : List Int) (n : Nat) : (rankL lt xs n).Nodup := by
  rw [(rankL_perm lt xs n).nodup_iff]
  have : (List.range n).Nodup := List.nodup_range
  unfold List.Nodup at this ⊢
  rw [List.pairwise_map]
  exact this.imp (by intro a b h; omega)
theorem low_asym : ∀ a b, ltLow a b = true → ltLow b a = false := by simp [ltLow]; omega
theorem low_ntr : ∀ a b c, ltLow a c = true → ltLow a b = true ∨ ltLow b c = true := by simp [ltLow]; omega
theorem high_asym : ∀ a b, ltHigh a b = true → ltHigh b a = false := by simp [ltHigh]; omega
theorem high_ntr : ∀ a b c, ltHigh a c = true → ltHigh a b = true ∨ ltHigh b c = true := by simp [ltHigh]; omega
theorem take_not_mem {l : List Int} (h : l.Nodup) {i : Nat} (hi : i < l.length) : (l.take i).contains (l.getD i 0) = false := by
  cases hc : (l.take i).contains (l.getD i 0) with
  | false => rfl
  | true =>
    exfalso
    have hm : l.getD i 0 ∈ l.take i := by simpa using hc
    obtain ⟨j, hj, e⟩ := List.getElem_of_mem hm
    rw [List.length_take] at hj
    rw [List.getElem_take] at e
    have e2 : l.getD i 0 = l[i] := by simp [List.getD, hi]
    rw [e2] at e
    have := (List.pairwise_iff_getElem.1 h) j i (by omega) hi (by omega)
    exact this e
end Go.Proofs.Ytbiiejolemcifaa

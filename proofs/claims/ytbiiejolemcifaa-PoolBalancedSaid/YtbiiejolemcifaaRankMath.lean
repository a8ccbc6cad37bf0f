/- The order of rates, in plain lists: one number after the other goes to its place from behind. No condition. -/
import Derived.Test.YtbiiejolemcifaaLib
namespace Go.Proofs.Ytbiiejolemcifaa

/-- From place k down: as long as p holds of what stands ahead, one place down. -/
def bk (p : Int → Bool) (l : List Int) : Nat → Nat
  | 0 => 0
  | k + 1 => if p (l.getD k 0) then bk p l k else k + 1
/-- x stands at place k. -/
def mid (l : List Int) (x : Int) (k : Nat) : List Int := l.take k ++ x :: l.drop k
def ins (p : Int → Bool) (l : List Int) (x : Int) : List Int := mid l x (bk p l l.length)
/-- The numbers of the first n rates. -/
def rankL (lt : Int → Int → Bool) (xs : List Int) : Nat → List Int
  | 0 => []
  | n + 1 => ins (fun y => lt (xs.getD n 0) (xs.getD (y - 1).toNat 0)) (rankL lt xs n) ((n : Int) + 1)

theorem bk_le (p : Int → Bool) (l : List Int) (k : Nat) : bk p l k ≤ k := by
  induction k with
  | zero => simp [bk]
  | succ k ih => unfold bk; split <;> omega
theorem mid_length (l : List Int) (x : Int) (k : Nat) : (mid l x k).length = l.length + 1 := by
  simp [mid]; omega
theorem mid_end (l : List Int) (x : Int) : mid l x l.length = l ++ [x] := by simp [mid]
theorem mid_perm (l : List Int) (x : Int) (k : Nat) : (mid l x k).Perm (x :: l) := by
  unfold mid
  exact List.perm_middle.trans (by rw [List.take_append_drop])
theorem rankL_length (lt : Int → Int → Bool) (xs : List Int) (n : Nat) : (rankL lt xs n).length = n := by
  induction n with
  | zero => rfl
  | succ n ih => simp [rankL, ins, mid_length, ih]
theorem rankL_perm (lt : Int → Int → Bool) (xs : List Int) (n : Nat) : (rankL lt xs n).Perm ((List.range n).map (fun (i : Nat) => (i : Int) + 1)) := by
  induction n with
  | zero => simp [rankL]
  | succ n ih =>
    rw [List.range_succ, List.map_append]
    refine (mid_perm _ _ _).trans ?_
    refine (List.Perm.cons _ ih).trans ?_
    exact (List.perm_append_comm (l₁ := [(n : Int) + 1]) (l₂ := (List.range n).map (fun (i : Nat) => (i : Int) + 1)))
theorem rankL_mem {lt : Int → Int → Bool} {xs : List Int} {n : Nat} {y : Int} (h : y ∈ rankL lt xs n) : 1 ≤ y ∧ y ≤ n := by
  have := (rankL_perm lt xs n).mem_iff.1 h
  simp at this
  omega
theorem rankL_at {lt : Int → Int → Bool} {xs : List Int} {n i : Nat} (h : i < n) : 1 ≤ (rankL lt xs n).getD i 0 ∧ (rankL lt xs n).getD i 0 ≤ n := by
  refine rankL_mem (lt := lt) (xs := xs) ?_
  have hl := rankL_length lt xs n
  simp [List.getD, show i < (rankL lt xs n).length by omega]
theorem mid_get_hi {l : List Int} {x : Int} {k : Nat} (hk : k ≤ l.length) : (mid l x k).getD k 0 = x := by
  simp [mid, List.getD, hk]
theorem mid_get_lo {l : List Int} {x : Int} {k i : Nat} (hk : k ≤ l.length) (hi : i < k) : (mid l x k).getD i 0 = l.getD i 0 := by
  simp [mid, List.getD, List.getElem?_append, hi, hk, show i < l.length by omega]
theorem take_set2 {α : Type} {cur : List α} {n i j : Nat} {a b : α} (_hi : i < n) (_hj : j < n) : ((cur.set i a).set j b).take n = ((cur.take n).set i a).set j b := by
  rw [List.take_set, List.take_set]
/-- Two neighbours change places. -/
theorem mid_swap {l : List Int} {x : Int} {k : Nat} (hk : k < l.length) : ((mid l x (k + 1)).set k x).set (k + 1) (l.getD k 0) = mid l x k := by
  apply List.ext_getElem?
  intro i
  simp only [mid, List.getElem?_set, List.getElem?_append, List.length_take, List.length_set, List.length_append, List.length_cons, List.length_drop, List.getD_eq_getElem?_getD]
  have e1 : min (k + 1) l.length = k + 1 := by omega
  have e2 : min k l.length = k := by omega
  rw [e1, e2]
  by_cases h1 : k + 1 = i
  · subst h1
    simp [hk, show k + 1 < k + 1 + (l.length - (k + 1) + 1) by omega]
    intro h
    omega
  · by_cases h2 : k = i
    · subst h2
      simp [show k < k + 1 + (l.length - (k + 1) + 1) by omega]
    · simp [h1, h2]
      by_cases h3 : i < k
      · simp [h3, show i < k + 1 by omega]
      · have h4 : ¬ i < k + 1 := by omega
        simp [h3, h4]
        obtain ⟨j, rfl⟩ : ∃ j, i = k + 2 + j := ⟨i - (k + 2), by omega⟩
        have e3 : k + 2 + j - (k + 1) = j + 1 := by omega
        have e4 : k + 2 + j - k = j + 2 := by omega
        rw [e3, e4]
        simp only [List.getElem?_cons_succ, List.getElem?_drop]
        congr 1
        omega
end Go.Proofs.Ytbiiejolemcifaa

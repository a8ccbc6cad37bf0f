/- The first numbers of one list, then another's; a block of numbers. -/
import Derived.Test.YtllblmoojohffaaLib
namespace Go.Proofs.Ytllblmoojohffaa
open Go.RowKit

/-- The first k of a, then b. -/
def mixL (a b : List Int) (k : Nat) : List Int := a.take k ++ b.drop k
theorem mixL_zero (a b : List Int) : mixL a b 0 = b := by simp [mixL]
theorem mixL_all {a b : List Int} {n : Nat} (h1 : a.length = n) (h2 : b.length = n) : mixL a b n = a := by
  subst h1
  simp [mixL, List.drop_eq_nil_of_le (show b.length ≤ a.length by omega)]
theorem mixL_length {a b : List Int} {n k : Nat} (h1 : a.length = n) (h2 : b.length = n) (hk : k ≤ n) : (mixL a b k).length = n := by
  simp [mixL]; omega
theorem mixL_get {a b : List Int} {n k : Nat} (h1 : a.length = n) (h2 : b.length = n) (hk : k < n) : (mixL a b k).getD k 0 = b.getD k 0 := by
  have e : (a.take k).length = k := by rw [List.length_take]; omega
  simp only [mixL, List.getD_eq_getElem?_getD]
  rw [List.getElem?_append_right (by omega), e, List.getElem?_drop]
  simp
theorem mixL_set {a b : List Int} {n k : Nat} (h1 : a.length = n) (h2 : b.length = n) (hk : k < n) : (mixL a b k).set k (a.getD k 0) = mixL a b (k + 1) := by
  have e : (a.take k).length = k := by rw [List.length_take]; omega
  have e2 : a.getD k 0 = a[k] := by simp [List.getD, show k < a.length by omega]
  have e3 : b.drop k = b[k] :: b.drop (k + 1) := List.drop_eq_getElem_cons (show k < b.length by omega)
  have e4 : a.take (k + 1) = a.take k ++ [a[k]] := List.take_succ_eq_append_getElem (by omega)
  simp only [mixL]
  rw [List.set_append_right _ _ (by omega), e, Nat.sub_self, e2, e3, e4]
  rw [List.set_cons_zero, List.append_assoc]
  rfl
/-- A slice that the call owns, with its block if it has elements. -/
theorem own_block {w : World} {base : Nat} {e : TypeId} {v : Value} {n : Nat} {xs : List Value} (h : w.ownsRow base e 1 v n xs) :
    ∃ ao cap, v = .slice ao n cap ∧ n ≤ cap ∧ cap ≤ maxLen ∧ (0 < n → ∃ g, ao = some ⟨g, 0, none⟩ ∧ base ≤ g ∧ ∃ cur, Blk w g e cur ∧ cur.length = cap ∧ cur.take n = xs) := by
  rcases h.2 with ⟨rfl, rfl⟩ | ⟨g, cap, cur, rfl, hb, hg, hnc, hcm, hcs, htake⟩
  · exact ⟨none, 0, rfl, Nat.le_refl _, by simp [maxLen], fun h => absurd h (by omega)⟩
  · exact ⟨_, cap, rfl, hnc, hcm, fun _ => ⟨g, rfl, hb, cur.toList, by simpa [Blk] using hg, by simpa using hcs, by simpa using htake⟩⟩
/-- The numbers of a block. -/
def Nums (w : World) (g : Nat) (cap : Nat) (xs : List Int) : Prop := ∃ cur, Blk w g 2 cur ∧ cur.length = cap ∧ cur.take xs.length = xs.map (Value.int .i64)
theorem Nums.below {w w' : World} {g cap : Nat} {xs : List Int} (h : Nums w g cap xs) (hb : Below w.heap.size w w') : Nums w' g cap xs := by
  obtain ⟨cur, h1, h2, h3⟩ := h
  exact ⟨cur, h1.below hb, h2, h3⟩
theorem Nums.lt {w : World} {g cap : Nat} {xs : List Int} (h : Nums w g cap xs) : g < w.heap.size := by obtain ⟨cur, h1, _⟩ := h; exact h1.lt
theorem Nums.cell {w : World} {g cap : Nat} {xs : List Int} (h : Nums w g cap xs) {i : Nat} (hi : i < xs.length) : w.cell? ⟨g, i, none⟩ = some (.int .i64 (xs.getD i 0)) := by
  obtain ⟨cur, h1, h2, h3⟩ := h
  rw [h1.cell]
  exact take_get h3 hi hi
theorem Nums.frozen {w : World} {g cap : Nat} {xs : List Int} (h : Nums w g cap xs) (i : Nat) : w.frozen? ⟨g, i, none⟩ = false := by obtain ⟨cur, h1, _⟩ := h; exact h1.frozen i
theorem Nums.set {w : World} {g cap : Nat} {xs : List Int} (h : Nums w g cap xs) (i : Nat) (x : Int) : Nums (w.setCell ⟨g, i, none⟩ (.int .i64 x)) g cap (xs.set i x) := by
  obtain ⟨cur, h1, h2, h3⟩ := h
  refine ⟨_, h1.set i _, by simpa using h2, ?_⟩
  rw [List.length_set, List.take_set, h3, List.map_set]
theorem Nums.sl {w : World} {g cap n : Nat} {xs : List Int} (h : Nums w g cap xs) (hn : xs.length = n) (hc : n ≤ cap) (hm : cap ≤ maxLen) : Sl .i64 w (.slice (some ⟨g, 0, none⟩) n cap) xs := by
  obtain ⟨cur, h1, h2, h3⟩ := h
  exact Sl.of_blk h1 hn hc hm (by rw [← hn]; exact h3)
theorem Nums.setOther {w : World} {g g' cap : Nat} {xs : List Int} (h : Nums w g cap xs) (hne : g ≠ g') (i : Nat) (x : Value) : Nums (w.setCell ⟨g', i, none⟩ x) g cap xs := by
  obtain ⟨cur, h1, h2, h3⟩ := h
  exact ⟨cur, h1.setOther hne i x, h2, h3⟩
end Go.Proofs.Ytllblmoojohffaa

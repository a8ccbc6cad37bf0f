/- Which terms any bytes are: plain mathematics. -/
import Derived.Test.YtdjfpbjlmojikaaOwnT
import Derived.Test.YtdjfpbjlmojikaaEvTake
namespace Go.Proofs.Ytdjfpbjlmojikaa
open Go.RowKit

/-- what is wrong with the k-th tranche's nine bytes: 3, too few; 4, the last above 1; 0, nothing -/
def badK (xs : List Int) (k : Nat) : Int := if xs.length < 65 + 9 * k then 3 else if 1 < xs.getD (64 + 9 * k) 0 then 4 else 0
/-- the first thing that is wrong with m tranches from the k-th on -/
def scanK (xs : List Int) : Nat → Nat → Int
  | _, 0 => 0
  | k, m + 1 => if badK xs k = 0 then scanK xs (k + 1) m else badK xs k
def trK (xs : List Int) (k : Nat) : Int × Bool := (num8 (xs.drop (56 + 9 * k)), xs.getD (64 + 9 * k) 0 == 1)
def tsK (xs : List Int) (n : Nat) : List (Int × Bool) := (List.range n).map (trK xs)
theorem tsK_length (xs : List Int) (n : Nat) : (tsK xs n).length = n := by simp [tsK]
theorem tsK_succ (xs : List Int) (n : Nat) : tsK xs (n + 1) = tsK xs n ++ [trK xs n] := by simp [tsK, List.range_succ]
/-- how many tranches the bytes say there are -/
def nT (xs : List Int) : Int := num8 (xs.drop 48)
/-- are they right? -/
def okT (xs : List Int) : Bool := decide (xs.length = 56 + 9 * (nT xs).toNat) && rightT (num8 xs) (tsK xs (nT xs).toNat) (num8 (xs.drop 8)) (num8 (xs.drop 16)) (num8 (xs.drop 24)) (num8 (xs.drop 32)) (num8 (xs.drop 40))
/-- what Take answers -/
def takeE (xs : List Int) : Int :=
  if xs.length < 56 then 3 else if nT xs < 1 ∨ 8 < nT xs then 4 else if scanK xs 0 (nT xs).toNat ≠ 0 then scanK xs 0 (nT xs).toNat
  else if okT xs = true then 0 else 4
/-- a number of the answer -/
def takeI (xs : List Int) (o : Nat) : Int := if takeE xs = 0 then num8 (xs.drop o) else 0
def takeTs (xs : List Int) : List (Int × Bool) := if takeE xs = 0 then tsK xs (nT xs).toNat else []
theorem badK_ne {xs : List Int} {k : Nat} (h : badK xs k ≠ 0) : badK xs k = 3 ∨ badK xs k = 4 := by
  unfold badK at h ⊢
  split
  · exact .inl rfl
  · split
    · exact .inr rfl
    · rename_i h1 h2; rw [if_neg h1, if_neg h2] at h; exact absurd rfl h
theorem numL_length (xs : List Int) : (numL xs).length = xs.length - 8 := by
  unfold numL
  split
  · simp; omega
  · simp
/-- Has there been too little for the seven numbers? -/
theorem short7 (xs : List Int) : numS (numL (numL (numL (numL (numL (numL xs)))))) (numS (numL (numL (numL (numL (numL xs))))) (numS (numL (numL (numL (numL xs)))) (numS (numL (numL (numL xs))) (numS (numL (numL xs)) (numS (numL xs) (numS xs false)))))) = decide (xs.length < 56) := by
  simp only [numS, numL_length]
  by_cases h : xs.length < 56
  · rw [decide_eq_true h]
    rw [if_pos (by omega)]
  · rw [decide_eq_false h]
    repeat rw [if_neg (by omega)]
theorem numLs {xs : List Int} (h : 56 ≤ xs.length) : numL xs = xs.drop 8 ∧ numL (numL xs) = xs.drop 16 ∧ numL (numL (numL xs)) = xs.drop 24 ∧ numL (numL (numL (numL xs))) = xs.drop 32 ∧ numL (numL (numL (numL (numL xs)))) = xs.drop 40 ∧
    numL (numL (numL (numL (numL (numL xs))))) = xs.drop 48 ∧ numL (numL (numL (numL (numL (numL (numL xs)))))) = xs.drop 56 := by
  have l1 : numL xs = xs.drop 8 := numL_of (by omega)
  have l2 : numL (numL xs) = xs.drop 16 := by rw [l1, numL_of (by simp; omega), List.drop_drop]
  have l3 : numL (numL (numL xs)) = xs.drop 24 := by rw [l2, numL_of (by simp; omega), List.drop_drop]
  have l4 : numL (numL (numL (numL xs))) = xs.drop 32 := by rw [l3, numL_of (by simp; omega), List.drop_drop]
  have l5 : numL (numL (numL (numL (numL xs)))) = xs.drop 40 := by rw [l4, numL_of (by simp; omega), List.drop_drop]
  have l6 : numL (numL (numL (numL (numL (numL xs))))) = xs.drop 48 := by rw [l5, numL_of (by simp; omega), List.drop_drop]
  have l7 : numL (numL (numL (numL (numL (numL (numL xs)))))) = xs.drop 56 := by rw [l6, numL_of (by simp; omega), List.drop_drop]
  exact ⟨l1, l2, l3, l4, l5, l6, l7⟩
theorem TrS.of_own {w : World} {base : Nat} {e : TypeId} {v : Value} {n : Nat} {ts : List (Int × Bool)} (h : w.ownsRow base e 2 v n (cells2 ts)) (hn : ts.length = n) : TrS w v ts := by
  rcases h.2 with ⟨rfl, rfl⟩ | ⟨g, cap, cur, rfl, hb, hg, hnc, hcm, hcs, htake⟩
  · obtain rfl : ts = [] := List.eq_nil_of_length_eq_zero hn
    exact TrS.nil w
  · exact TrS.of_blk (cur := cur.toList) (by simpa [Blk] using hg) hn hnc hcm (by simpa using htake)
/-- What terms.Take answers. -/
def TakeR (xs : List Int) (w : World) (e : Ending) (w' : World) : Prop :=
  ∃ u, e = .returned (.tuple #[.agg #[.int .i64 (takeI xs 0), u, .int .i64 (takeI xs 8), .int .i64 (takeI xs 16), .int .i64 (takeI xs 24), .int .i64 (takeI xs 32), .int .i64 (takeI xs 40)], .int .i64 (takeE xs)]) ∧ TrS w' u (takeTs xs) ∧ Below w.heap.size w w'
theorem TakeR.no {xs : List Int} {w w' : World} {r : Int} (hr : takeE xs = r) (h0 : r ≠ 0) (hb : Below w.heap.size w w') :
    TakeR xs w (.returned (.tuple #[.agg #[.int .i64 0, .slice none 0 0, .int .i64 0, .int .i64 0, .int .i64 0, .int .i64 0, .int .i64 0], .int .i64 r])) w' := by
  refine ⟨.slice none 0 0, ?_, ?_, hb⟩
  · simp [takeI, hr, h0]
  · simp only [takeTs, hr, h0, if_false]
    exact TrS.nil w'
theorem TakeR.yes {xs : List Int} {w w' : World} {u : Value} (hr : takeE xs = 0) (hu : TrS w' u (tsK xs (nT xs).toNat)) (hb : Below w.heap.size w w') :
    TakeR xs w (.returned (.tuple #[.agg #[.int .i64 (num8 xs), u, .int .i64 (num8 (xs.drop 8)), .int .i64 (num8 (xs.drop 16)), .int .i64 (num8 (xs.drop 24)), .int .i64 (num8 (xs.drop 32)), .int .i64 (num8 (xs.drop 40))], .int .i64 0])) w' := by
  refine ⟨u, ?_, ?_, hb⟩
  · simp [takeI, hr]
  · simp only [takeTs, hr, if_true]
    exact hu
theorem scanK_bad {xs : List Int} {k m : Nat} (h : badK xs k ≠ 0) : scanK xs k (m + 1) = badK xs k := by simp [scanK, h]
theorem scanK_good {xs : List Int} {k m : Nat} (h : badK xs k = 0) : scanK xs k (m + 1) = scanK xs (k + 1) m := by simp [scanK, h]
end Go.Proofs.Ytdjfpbjlmojikaa

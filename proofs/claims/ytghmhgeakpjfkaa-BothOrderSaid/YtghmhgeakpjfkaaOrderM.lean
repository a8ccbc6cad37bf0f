/- Postings in another order: plain lists. -/
import Derived.Test.YtghmhgeakpjfkaaPostC
namespace Go.Proofs.Ytghmhgeakpjfkaa
open Go.RowKit

/-- What is meant of debits, of credits. -/
def sumD (f : Int → Bool) (qs : List (Int × Nat × Nat)) : Nat := (qs.map fun p => if f p.1 = true then p.2.1 else 0).sum
def sumC (f : Int → Bool) (qs : List (Int × Nat × Nat)) : Nat := (qs.map fun p => if f p.1 = true then p.2.2 else 0).sum
theorem tot_sum {f : Int → Bool} {qs : List (Int × Nat × Nat)} {d c : Nat} (h1 : d + sumD f qs ≤ 1000000000000000) (h2 : c + sumC f qs ≤ 1000000000000000) : tot f d c qs = some (d + sumD f qs, c + sumC f qs) := by
  induction qs generalizing d c with
  | nil => simp [tot, sumD, sumC]
  | cons p qs ih =>
    have e1 : sumD f (p :: qs) = (if f p.1 = true then p.2.1 else 0) + sumD f qs := by simp [sumD]
    have e2 : sumC f (p :: qs) = (if f p.1 = true then p.2.2 else 0) + sumC f qs := by simp [sumC]
    rw [e1] at h1
    rw [e2] at h2
    have g1 : (if f p.1 = true then d + p.2.1 else d) = d + (if f p.1 = true then p.2.1 else 0) := by split <;> omega
    have g2 : (if f p.1 = true then c + p.2.2 else c) = c + (if f p.1 = true then p.2.2 else 0) := by split <;> omega
    unfold tot
    rw [g1, g2, if_pos (by omega), ih (by omega) (by omega), e1, e2]
    simp only [Nat.add_assoc]
theorem sumD_le (f : Int → Bool) (qs : List (Int × Nat × Nat)) : sumD f qs ≤ sumD (fun _ => true) qs := by
  induction qs with
  | nil => simp [sumD]
  | cons p qs ih =>
    have e1 : sumD f (p :: qs) = (if f p.1 = true then p.2.1 else 0) + sumD f qs := by simp [sumD]
    have e2 : sumD (fun _ => true) (p :: qs) = p.2.1 + sumD (fun _ => true) qs := by simp [sumD]
    rw [e1, e2]
    split <;> omega
theorem sumC_le (f : Int → Bool) (qs : List (Int × Nat × Nat)) : sumC f qs ≤ sumC (fun _ => true) qs := by
  induction qs with
  | nil => simp [sumC]
  | cons p qs ih =>
    have e1 : sumC f (p :: qs) = (if f p.1 = true then p.2.2 else 0) + sumC f qs := by simp [sumC]
    have e2 : sumC (fun _ => true) (p :: qs) = p.2.2 + sumC (fun _ => true) qs := by simp [sumC]
    rw [e1, e2]
    split <;> omega
/-- Each account is one of three: what each has is all of it. -/
theorem sumD_three {qs : List (Int × Nat × Nat)} (h : ∀ p ∈ qs, p.1 = 0 ∨ p.1 = 1 ∨ p.1 = 2) : sumD (fun x => x == 0) qs + sumD (fun x => x == 1) qs + sumD (fun x => x == 2) qs = sumD (fun _ => true) qs := by
  induction qs with
  | nil => simp [sumD]
  | cons p qs ih =>
    have e : ∀ f : Int → Bool, sumD f (p :: qs) = (if f p.1 = true then p.2.1 else 0) + sumD f qs := fun f => by simp [sumD]
    rw [e, e, e, e]
    have i := ih fun q hq => h q (List.mem_cons_of_mem _ hq)
    rcases h p List.mem_cons_self with h | h | h <;> simp [h] <;> omega
theorem sumC_three {qs : List (Int × Nat × Nat)} (h : ∀ p ∈ qs, p.1 = 0 ∨ p.1 = 1 ∨ p.1 = 2) : sumC (fun x => x == 0) qs + sumC (fun x => x == 1) qs + sumC (fun x => x == 2) qs = sumC (fun _ => true) qs := by
  induction qs with
  | nil => simp [sumC]
  | cons p qs ih =>
    have e : ∀ f : Int → Bool, sumC f (p :: qs) = (if f p.1 = true then p.2.2 else 0) + sumC f qs := fun f => by simp [sumC]
    rw [e, e, e, e]
    have i := ih fun q hq => h q (List.mem_cons_of_mem _ hq)
    rcases h p List.mem_cons_self with h | h | h <;> simp [h] <;> omega
theorem sumD_perm {f : Int → Bool} {a b : List (Int × Nat × Nat)} (h : a.Perm b) : sumD f a = sumD f b := (h.map _).sum_nat
theorem sumC_perm {f : Int → Bool} {a b : List (Int × Nat × Nat)} (h : a.Perm b) : sumC f a = sumC f b := (h.map _).sum_nat
/-- Two of a list in each other's place. -/
def swapP (l : List (Int × Nat × Nat)) (i j : Nat) : List (Int × Nat × Nat) := (l.set i (l.getD j (0, 0, 0))).set j (l.getD i (0, 0, 0))
theorem swapP_perm {l : List (Int × Nat × Nat)} {i j : Nat} (hi : i < l.length) (hj : j < l.length) : (swapP l i j).Perm l := by
  unfold swapP
  have e1 : l.getD i (0, 0, 0) = l[i] := by simp [List.getD, hi]
  have e2 : l.getD j (0, 0, 0) = l[j] := by simp [List.getD, hj]
  rw [e1, e2]
  exact List.set_set_perm hi hj
/-- The law's postings. -/
def amt (xs : List Int) (i : Nat) : Nat := (IntKind.u64.wrap (xs.getD i 0) % 15625000000000).toNat
def qAt (xs : List Int) (i : Nat) : Int × Nat × Nat := (((i % 3 : Nat) : Int), if i % 2 = 1 then (0, amt xs i) else (amt xs i, 0))
def qsK (xs : List Int) (k : Nat) : List (Int × Nat × Nat) := (List.range k).map (qAt xs)
theorem amt_lt (xs : List Int) (i : Nat) : amt xs i < 15625000000000 := by unfold amt; omega
theorem qsK_length (xs : List Int) (k : Nat) : (qsK xs k).length = k := by simp [qsK]
theorem qsK_succ (xs : List Int) (k : Nat) : qsK xs (k + 1) = qsK xs k ++ [qAt xs k] := by simp [qsK, List.range_succ]
theorem qAt_ok (xs : List Int) (i : Nat) : (qAt xs i).2.1 + (qAt xs i).2.2 < 15625000000000 := by
  have := amt_lt xs i
  unfold qAt
  split <;> simp <;> omega
theorem qsK_ok (xs : List Int) (k : Nat) : okP (qsK xs k) := by
  intro p hp
  simp only [qsK, List.mem_map, List.mem_range] at hp
  obtain ⟨i, _, rfl⟩ := hp
  have h := qAt_ok xs i
  generalize qAt xs i = q at h ⊢
  exact ⟨by omega, by omega⟩
theorem qsK_acc (xs : List Int) (k : Nat) : ∀ p ∈ qsK xs k, p.1 = 0 ∨ p.1 = 1 ∨ p.1 = 2 := by
  intro p hp
  simp only [qsK, List.mem_map, List.mem_range] at hp
  obtain ⟨i, _, rfl⟩ := hp
  have h : i % 3 = 0 ∨ i % 3 = 1 ∨ i % 3 = 2 := by omega
  unfold qAt
  rcases h with h | h | h <;> simp [h]
theorem qsK_sum (xs : List Int) (k : Nat) : sumD (fun _ => true) (qsK xs k) ≤ k * 15625000000000 ∧ sumC (fun _ => true) (qsK xs k) ≤ k * 15625000000000 := by
  induction k with
  | zero => simp [qsK, sumD, sumC]
  | succ k ih =>
    have h := qAt_ok xs k
    have e1 : sumD (fun _ => true) (qsK xs k ++ [qAt xs k]) = sumD (fun _ => true) (qsK xs k) + (qAt xs k).2.1 := by simp [sumD]
    have e2 : sumC (fun _ => true) (qsK xs k ++ [qAt xs k]) = sumC (fun _ => true) (qsK xs k) + (qAt xs k).2.2 := by simp [sumC]
    rw [qsK_succ, e1, e2]
    omega
theorem okP_perm {a b : List (Int × Nat × Nat)} (h : a.Perm b) (hb : okP b) : okP a := fun p hp => hb p (h.mem_iff.1 hp)
/-- What the three questions answer of any order. -/
theorem order_all {xs : List Int} {n : Nat} (hn : n ≤ 40) {m : List (Int × Nat × Nat)} (h : m.Perm (qsK xs n)) : ∃ D C : Nat, ∃ v0 v1 v2 : Int, (D ≤ 1000000000000000 ∧ C ≤ 1000000000000000) ∧ tot (fun _ => true) 0 0 (qsK xs n) = some (D, C) ∧ tot (fun _ => true) 0 0 m = some (D, C) ∧ ofR 0 m = (v0, 0) ∧ ofR 1 m = (v1, 0) ∧ ofR 2 m = (v2, 0) ∧ v0 + v1 + v2 = (D : Int) - C ∧ balR m = (D == C) ∧ (-1000000000000000 ≤ v0 ∧ v0 ≤ 1000000000000000) ∧ (-1000000000000000 ≤ v1 ∧ v1 ≤ 1000000000000000) ∧ (-1000000000000000 ≤ v2 ∧ v2 ≤ 1000000000000000) := by
  have hs := qsK_sum xs n
  have hD : ∀ f, sumD f m ≤ 1000000000000000 := fun f => by
    have h1 := sumD_le f m
    rw [sumD_perm (f := fun _ => true) h] at h1
    omega
  have hC : ∀ f, sumC f m ≤ 1000000000000000 := fun f => by
    have h1 := sumC_le f m
    rw [sumC_perm (f := fun _ => true) h] at h1
    omega
  have hT : ∀ f : Int → Bool, tot f 0 0 m = some (sumD f m, sumC f m) := fun f => by
    have := tot_sum (f := f) (qs := m) (d := 0) (c := 0) (by have := hD f; omega) (by have := hC f; omega)
    simpa using this
  have hO : ∀ a : Int, ofR a m = ((sumD (fun x => x == a) m : Int) - (sumC (fun x => x == a) m : Int), 0) := fun a => by
    unfold ofR
    rw [hT, hT]
  have hacc : ∀ p ∈ m, p.1 = 0 ∨ p.1 = 1 ∨ p.1 = 2 := fun p hp => qsK_acc xs n p (h.mem_iff.1 hp)
  have h3 := sumD_three hacc
  have h4 := sumC_three hacc
  refine ⟨sumD (fun _ => true) m, sumC (fun _ => true) m, _, _, _, ⟨hD _, hC _⟩, ?_, hT _, hO 0, hO 1, hO 2, by omega, ?_, ?_, ?_, ?_⟩
  · have := tot_sum (f := fun _ => true) (qs := qsK xs n) (d := 0) (c := 0) (by omega) (by omega)
    rw [sumD_perm h, sumC_perm h]
    simpa using this
  · unfold balR; rw [hT]
  · have := hD (fun x => x == 0); have := hC (fun x => x == 0); omega
  · have := hD (fun x => x == 1); have := hC (fun x => x == 1); omega
  · have := hD (fun x => x == 2); have := hC (fun x => x == 2); omega
/-- The cells of postings. -/
def cellsP (ps : List (Int × Nat × Nat)) : List Value := ps.flatMap fun p => [Value.int .i64 p.1, Value.complex .f64 p.2.1 p.2.2]
theorem cellsP_append (a b : List (Int × Nat × Nat)) : cellsP (a ++ b) = cellsP a ++ cellsP b := by simp [cellsP]
theorem cellsP_length (l : List (Int × Nat × Nat)) : (cellsP l).length = l.length * 2 := by
  induction l with
  | nil => rfl
  | cons x l ih =>
    have e : cellsP (x :: l) = Value.int .i64 x.1 :: Value.complex .f64 x.2.1 x.2.2 :: cellsP l := rfl
    rw [e]
    simp only [List.length_cons, ih]
    omega
theorem cellsP_get (l : List (Int × Nat × Nat)) (i : Nat) (hi : i < l.length) : (cellsP l)[i * 2]? = some (.int .i64 (l.getD i (0, 0, 0)).1) ∧ (cellsP l)[i * 2 + 1]? = some (.complex .f64 (l.getD i (0, 0, 0)).2.1 (l.getD i (0, 0, 0)).2.2) := by
  induction l generalizing i with
  | nil => simp at hi
  | cons x l ih =>
    have e : cellsP (x :: l) = Value.int .i64 x.1 :: Value.complex .f64 x.2.1 x.2.2 :: cellsP l := rfl
    rw [e]
    cases i with
    | zero => simp
    | succ i =>
      have h := ih i (by simpa using hi)
      rw [show (i + 1) * 2 = i * 2 + 1 + 1 by omega]
      simpa using h
theorem cellsP_set (l : List (Int × Nat × Nat)) (i : Nat) (p : Int × Nat × Nat) (hi : i < l.length) : cellsP (l.set i p) = ((cellsP l).set (i * 2) (.int .i64 p.1)).set (i * 2 + 1) (.complex .f64 p.2.1 p.2.2) := by
  induction l generalizing i with
  | nil => simp at hi
  | cons x l ih =>
    have e : ∀ x l, cellsP (x :: l) = Value.int .i64 x.1 :: Value.complex .f64 x.2.1 x.2.2 :: cellsP l := fun _ _ => rfl
    cases i with
    | zero => simp [e]
    | succ i =>
      rw [show (i + 1) * 2 = i * 2 + 1 + 1 by omega, List.set_cons_succ, e, e, ih i (by simpa using hi)]
      simp
theorem PoS.of_blk {w : World} {g cap n : Nat} {e : TypeId} {cur : List Value} {ls : List (Int × Nat × Nat)} (h : Blk w g e cur) (hn : ls.length = n) (hnc : n ≤ cap) (hcm : cap ≤ maxLen) (hx : cur.take (n * 2) = cellsP ls) : PoS w (.slice (some ⟨g, 0, none⟩) n cap) ls := by
  subst hn
  refine ⟨_, _, rfl, hnc, ⟨hcm, fun h => by cases h⟩, fun _ => ⟨g, 0, rfl, fun i hi => ?_⟩⟩
  obtain ⟨h1, h2⟩ := cellsP_get ls i hi
  have key : ∀ j, j < ls.length * 2 → cur[j]? = (cellsP ls)[j]? := fun j hj => by rw [← hx]; simp [hj]
  rw [h.cell, h.cell]
  refine ⟨?_, ?_⟩
  · rw [Nat.zero_add, key _ (by omega)]; exact h1
  · rw [show 0 + i * 2 + 1 = i * 2 + 1 by omega, key _ (by omega)]; exact h2
theorem PoS.of_own {w : World} {base : Nat} {e : TypeId} {v : Value} {n : Nat} {ls : List (Int × Nat × Nat)} (h : w.ownsRow base e 2 v n (cellsP ls)) (hn : ls.length = n) : PoS w v ls := by
  rcases h.2 with ⟨rfl, h0⟩ | ⟨g, cap, cur, rfl, hb, hg, hnc, hcm, hcs, htake⟩
  · obtain rfl : ls = [] := List.eq_nil_of_length_eq_zero (by omega)
    exact ⟨none, 0, rfl, Nat.le_refl _, ⟨by simp [maxLen], fun _ => rfl⟩, fun h => absurd rfl h⟩
  · exact PoS.of_blk (cur := cur.toList) (by simpa [Blk] using hg) hn hnc hcm (by simpa using htake)
end Go.Proofs.Ytghmhgeakpjfkaa

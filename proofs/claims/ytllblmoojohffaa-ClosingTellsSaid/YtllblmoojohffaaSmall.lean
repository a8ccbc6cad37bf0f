/- Numbers without a sign, by m; lists of them; sums over them; three slices that the call owns. -/
import Derived.Test.YtllblmoojohffaaLaw13
namespace Go.Proofs.Ytllblmoojohffaa
open Go.RowKit EvM

/-- The first n of some, each without a sign, and what is left of it by m. -/
def small (m : Int) (xs : List Int) (n : Nat) : List Int := (xs.take n).map fun x => wrap64 ((IntKind.u64.wrap x).tmod m)
theorem small_length {m : Int} {xs : List Int} {n : Nat} (h : n ≤ xs.length) : (small m xs n).length = n := by simp [small]; omega
theorem small_zero {m : Int} {xs : List Int} : small m xs 0 = [] := by simp [small]
theorem small_succ {m : Int} {xs : List Int} {n : Nat} (h : n < xs.length) : small m xs (n + 1) = small m xs n ++ [wrap64 ((IntKind.u64.wrap (xs.getD n 0)).tmod m)] := by
  have e : xs.take (n + 1) = xs.take n ++ [xs[n]] := List.take_succ_eq_append_getElem h
  have e2 : xs.getD n 0 = xs[n] := by simp [List.getD, h]
  simp only [small]
  rw [e, e2, List.map_append]
  rfl
theorem modu_bdN (x : Int) (m : Nat) (hm : 0 < m) (hm2 : m ≤ 9223372036854775808) : 0 ≤ wrap64 ((IntKind.u64.wrap x).tmod (m : Int)) ∧ wrap64 ((IntKind.u64.wrap x).tmod (m : Int)) < m := by
  obtain ⟨r, h1, h2, h3⟩ := u64_rem3 x m hm hm2
  rw [h1, h2]
  omega
theorem small_rangeN {m : Nat} {xs : List Int} {n : Nat} (h0 : 0 < m) (h1 : m ≤ 9223372036854775808) : ∀ x ∈ small (m : Int) xs n, 0 ≤ x ∧ x < m := by
  intro x hx
  simp only [small, List.mem_map] at hx
  obtain ⟨y, _, rfl⟩ := hx
  exact modu_bdN y m h0 h1
theorem rng_any {l : List Int} {m : Nat} {most : Nat} (h : ∀ x ∈ l, 0 ≤ x ∧ x < m) (hm : m ≤ most + 1) : l.any (overB (most : Int)) = false := by
  rw [List.any_eq_false]
  intro x hx
  have := h x hx
  simp [overB]
  omega
theorem getD_rngN {l : List Int} {m : Nat} (h : ∀ x ∈ l, 0 ≤ x ∧ x < m) (hm : 0 < m) (j : Nat) : 0 ≤ l.getD j 0 ∧ l.getD j 0 < m := by
  by_cases hj : j < l.length
  · have e : l.getD j 0 = l[j] := by simp [List.getD, hj]
    rw [e]
    exact h _ (List.getElem_mem hj)
  · have e : l.getD j 0 = 0 := by simp [List.getD, Nat.le_of_not_lt hj]
    rw [e]; omega
theorem sumE_bd {bs rs : List Int} {m p : Nat} (hb : ∀ x ∈ bs, 0 ≤ x ∧ x < m) (hr : ∀ x ∈ rs, 0 ≤ x ∧ x < p) (hm : 0 < m) (hp : 0 < p) (k : Nat) : sumE bs rs k ≤ k * (m * p) := by
  induction k with
  | zero => exact Nat.zero_le _
  | succ k ih =>
    have a := getD_rngN hb hm k
    have b := getD_rngN hr hp k
    have c : (bs.getD k 0).toNat * (rs.getD k 0).toNat ≤ m * p := mul_le2 (by omega) (by omega)
    simp only [sumE]
    rw [Nat.succ_mul]
    omega
theorem sumE_take (bs rs : List Int) (k j : Nat) (h : j ≤ k) : sumE (bs.take k) (rs.take k) j = sumE bs rs j := by
  induction j with
  | zero => rfl
  | succ j ih =>
    simp only [sumE]
    rw [ih (by omega)]
    simp [List.getD, show j < k by omega]
theorem sumE_drop (bs rs : List Int) (k j : Nat) : sumE (bs.drop k) (rs.drop k) j + sumE bs rs k = sumE bs rs (k + j) := by
  induction j with
  | zero => simp [sumE]
  | succ j ih =>
    have e : sumE bs rs (k + (j + 1)) = sumE bs rs (k + j) + (bs.getD (k + j) 0).toNat * (rs.getD (k + j) 0).toNat := rfl
    have e2 : sumE (bs.drop k) (rs.drop k) (j + 1) = sumE (bs.drop k) (rs.drop k) j + ((bs.drop k).getD j 0).toNat * ((rs.drop k).getD j 0).toNat := rfl
    rw [e, e2, ← ih]
    simp [List.getD]
    omega
theorem sumE_zeroR (bs : List Int) (n k : Nat) : sumE bs (List.replicate n 0) k = 0 := by
  induction k with
  | zero => rfl
  | succ k ih =>
    simp only [sumE, ih]
    by_cases h : k < n
    · rw [getD_rep n k 0 h]; simp
    · simp [List.getD, h]
theorem sumE_zeroL (bs : List Int) (n k : Nat) : sumE (List.replicate n 0) bs k = 0 := by
  induction k with
  | zero => rfl
  | succ k ih =>
    simp only [sumE, ih]
    by_cases h : k < n
    · rw [getD_rep n k 0 h]; simp
    · simp [List.getD, h]
theorem ofR2_zero : ofR2 0 = (0, 0) := by decide
theorem okE_of {bs rs : List Int} (hl : bs.length = rs.length) (hn : bs.length ≤ 40000) (h1 : bs.any (overB 1000000000000000) = false) (h2 : rs.any (overB 10000000) = false) : okE bs rs = true := by
  unfold okE
  rw [h1, h2]
  simp [hl]
  omega
theorem rep_zero (n : Nat) (most : Nat) : (List.replicate n (0 : Int)).any (overB (most : Int)) = false := rep_any n (by simp [overB])
theorem exact_small {bs rs : List Int} (h : okE bs rs = true) (hS : sumE bs rs bs.length < 18446744073709551616) : exactR bs rs = (0, sumE bs rs bs.length, 0) := by
  unfold exactR
  rw [if_pos h, Nat.div_eq_of_lt hS, Nat.mod_eq_of_lt hS]
/-- What InterestParts asks. -/
theorem parts_facts {B R : List Int} {n k : Nat} (hB : B.length = n) (hR : R.length = n) (hn : n ≤ 80) (hk : k ≤ n) (rB : ∀ x ∈ B, 0 ≤ x ∧ x < (1073741824 : Nat)) (rR : ∀ x ∈ R, 0 ≤ x ∧ x < (1048576 : Nat)) :
    ∃ l1 l2 l3 : Nat, exactR (B.take k) (R.take k) = (0, l1, 0) ∧ exactR (B.drop k) (R.drop k) = (0, l2, 0) ∧ exactR B R = (0, l3, 0) ∧ interR B (List.replicate n 0) = (0, 0) ∧ interR (List.replicate n 0) R = (0, 0) ∧ l1 + l2 = l3 ∧ l3 < 10000000000000000000 := by
  have s1 := sumE_take B R k k (Nat.le_refl _)
  have s2 := sumE_drop B R k (n - k)
  rw [show k + (n - k) = n by omega] at s2
  have s3 := sumE_bd rB rR (by omega) (by omega) n
  have s4 : n * (1073741824 * 1048576) ≤ 80 * (1073741824 * 1048576) := Nat.mul_le_mul_right _ hn
  have aB : B.any (overB 1000000000000000) = false := rng_any (most := 1000000000000000) rB (by omega)
  have aR : R.any (overB 10000000) = false := rng_any (most := 10000000) rR (by omega)
  have aB1 : (B.take k).any (overB 1000000000000000) = false := rng_any (most := 1000000000000000) (fun x hx => rB x (List.mem_of_mem_take hx)) (by omega)
  have aR1 : (R.take k).any (overB 10000000) = false := rng_any (most := 10000000) (fun x hx => rR x (List.mem_of_mem_take hx)) (by omega)
  have aB2 : (B.drop k).any (overB 1000000000000000) = false := rng_any (most := 1000000000000000) (fun x hx => rB x (List.mem_of_mem_drop hx)) (by omega)
  have aR2 : (R.drop k).any (overB 10000000) = false := rng_any (most := 10000000) (fun x hx => rR x (List.mem_of_mem_drop hx)) (by omega)
  have lB1 : (B.take k).length = k := by rw [List.length_take]; omega
  have lR1 : (R.take k).length = k := by rw [List.length_take]; omega
  have lB2 : (B.drop k).length = n - k := by rw [List.length_drop]; omega
  have lR2 : (R.drop k).length = n - k := by rw [List.length_drop]; omega
  have x1 := exact_small (okE_of (by omega) (by omega) aB1 aR1) (by rw [lB1]; omega)
  have x2 := exact_small (okE_of (by omega) (by omega) aB2 aR2) (by rw [lB2]; omega)
  have x3 := exact_small (okE_of (by omega) (by omega) aB aR) (by rw [hB]; omega)
  rw [lB1] at x1
  rw [lB2] at x2
  rw [hB] at x3
  refine ⟨_, _, _, x1, x2, x3, ?_, ?_, by omega, by omega⟩
  · unfold interR
    rw [if_pos (okE_of (by rw [List.length_replicate]; omega) (by omega) aB (rep_zero n 10000000)), sumE_zeroR, ofR2_zero]
  · unfold interR
    rw [if_pos (okE_of (by rw [List.length_replicate]; omega) (by rw [List.length_replicate]; omega) (rep_zero n 1000000000000000) aR), sumE_zeroL, ofR2_zero]

theorem apart_new {a b a' : Option Nat} {n : Nat} (h : a = none ∨ b = none ∨ a ≠ b) (ha : a' = a ∨ a' = some n) (hb : ∀ k, b = some k → k < n) : a' = none ∨ b = none ∨ a' ≠ b := by
  rcases apart_one h ha hb with h | h
  · exact .inl h
  · exact .inr (.inr h)
theorem apart_sym {a b : Option Nat} (h : a = none ∨ b = none ∨ a ≠ b) : b = none ∨ a = none ∨ b ≠ a := by
  rcases h with h | h | h
  · exact .inr (.inl h)
  · exact .inl h
  · exact .inr (.inr (Ne.symm h))
/-- Three slices that the call owns, apart from each other. -/
def Three (w0 w : World) (a b c : Value) (xs ys zs : List Int) : Prop :=
  (w.ownsRow w0.heap.size 2 1 a xs.length (xs.map (Value.int .i64)) ∧ w.ownsRow w0.heap.size 2 1 b ys.length (ys.map (Value.int .i64)) ∧ w.ownsRow w0.heap.size 2 1 c zs.length (zs.map (Value.int .i64))) ∧
  ((a.ownBlock = none ∨ b.ownBlock = none ∨ a.ownBlock ≠ b.ownBlock) ∧ (a.ownBlock = none ∨ c.ownBlock = none ∨ a.ownBlock ≠ c.ownBlock) ∧ (b.ownBlock = none ∨ c.ownBlock = none ∨ b.ownBlock ≠ c.ownBlock)) ∧ Below w0.heap.size w0 w
end Go.Proofs.Ytllblmoojohffaa

/- What Pay answers to small books. -/
import Derived.Test.YtfikdnmbnbkchaaPayLaws
import Derived.Test.YtfikdnmbnbkchaaFallOrderW
namespace Go.Proofs.Ytfikdnmbnbkchaa
open Go.RowKit

/-- The first n of some, each without a sign, and what is left of it by m. -/
def small (m : Int) (xs : List Int) (n : Nat) : List Int := (xs.take n).map fun x => wrap64 ((IntKind.u64.wrap x).tmod m)
theorem small_length {m : Int} {xs : List Int} {n : Nat} (h : n ≤ xs.length) : (small m xs n).length = n := by simp [small]; omega
theorem small_zero {m : Int} {xs : List Int} : small m xs 0 = [] := by simp [small]
theorem small_succ {m : Int} {xs : List Int} {n : Nat} (h : n < xs.length) : small m xs (n + 1) = small m xs n ++ [wrap64 ((IntKind.u64.wrap (xs.getD n 0)).tmod m)] := by
  have e : xs.take (n + 1) = xs.take n ++ [xs[n]] := List.take_succ_eq_append_getElem h
  have e2 : xs.getD n 0 = xs[n] := by simp [List.getD, h]
  simp only [small]
  rw [e, e2, List.map_append]
  rfl
theorem small_range {m : Int} {xs : List Int} {n : Nat} (h0 : 0 < m) (h1 : m ≤ 1000000) : ∀ x ∈ small m xs n, 0 ≤ x ∧ x < m := by
  intro x hx
  simp only [small, List.mem_map] at hx
  obtain ⟨y, _, rfl⟩ := hx
  exact modu_bd y m h0 h1
theorem getD_rng {l : List Int} {m : Int} (h : ∀ x ∈ l, 0 ≤ x ∧ x < m) {j : Nat} (hj : j < l.length) : 0 ≤ l.getD j 0 ∧ l.getD j 0 < m := by
  have e : l.getD j 0 = l[j] := by simp [List.getD, hj]
  rw [e]
  exact h _ (List.getElem_mem hj)
theorem any_bad {l : List Int} {m : Int} (h : ∀ x ∈ l, 0 ≤ x ∧ x < m) (hm : m ≤ 1000000000000000) : l.any badMoney = false := by
  rw [List.any_eq_false]
  intro x hx
  have := h x hx
  simp [badMoney]
  omega
theorem payR_ok {bal rates : List Int} {due a m : Int} (hl : rates.length = bal.length) (hb : ∀ x ∈ bal, 0 ≤ x ∧ x < m) (hm : m ≤ 1000000) (hd : 0 ≤ due ∧ due < 1000000) (ha : 0 ≤ a ∧ a < 1000000) :
    payR bal 0 due rates a = (addL (pay1 bal rates (min a due)).1 (pay2 bal rates due a).1, min a due, (pay2 bal rates due a).2, 0) := by
  have e1 : badMoney 0 = false := rfl
  have e2 : badMoney due = false := by simp [badMoney]; omega
  have e3 : badMoney a = false := by simp [badMoney]; omega
  have e4 := any_bad hb (by omega)
  unfold payR
  simp [hl, e1, e2, e3, e4]
section
variable {bal rates : List Int} {n : Nat} {due a m : Int} (hl : bal.length = n) (hr : rates.length = n) (hb : ∀ x ∈ bal, 0 ≤ x) (hd : 0 ≤ due) (ha : 0 ≤ a)
include hl hr hb hd ha
theorem pay_parts : ∃ f1 l1 f2 l2, pay1 bal rates (min a due) = (f1, l1) ∧ pay2 bal rates due a = (f2, l2) ∧ f1.length = n ∧ f2.length = n ∧ 0 ≤ l1 ∧ l1 ≤ min a due ∧ 0 ≤ l2 ∧ f1.sum + l1 = min a due ∧ f2.sum + l2 = a - min a due + l1 ∧
    (∀ j, j < n → 0 ≤ f1.getD j 0 ∧ f1.getD j 0 ≤ bal.getD j 0 ∧ 0 ≤ f2.getD j 0 ∧ f2.getD j 0 ≤ bal.getD j 0 - f1.getD j 0) ∧ (0 < l2 → ∀ j, j < n → f2.getD j 0 = bal.getD j 0 - f1.getD j 0) ∧ (0 < l1 → ∀ j, j < n → f1.getD j 0 = bal.getD j 0) := by
  have o1 : Ord (rankL ltLow rates rates.length) n := by rw [hr]; exact rank_ord _ _ _
  have o2 : Ord (rankL ltHigh rates rates.length) n := by rw [hr]; exact rank_ord _ _ _
  have hmn : 0 ≤ min a due := by omega
  have r1 := fun j hj => filled_range (ks := rankL ltLow rates rates.length) hb hmn (j := j) hj
  have s1 := filled_sum o1 hl (a := min a due)
  have g1 := filled_left (ks := rankL ltLow rates rates.length) hb hmn
  have u1 := fun h j hj => filled_full o1 hl hb hmn h (j := j) hj
  have n1 := filled_length bal (rankL ltLow rates rates.length) (min a due)
  have hR : ∀ x ∈ payRest bal rates (min a due), 0 ≤ x := by
    intro x hx
    obtain ⟨j, hj, rfl⟩ := List.getElem_of_mem hx
    have hj' : j < bal.length := by rw [payRest_length] at hj; exact hj
    have e : (payRest bal rates (min a due))[j] = (payRest bal rates (min a due)).getD j 0 := by simp [List.getD, hj]
    rw [e]
    unfold payRest pay1
    rw [getD_subL (by omega) (by omega)]
    have := r1 j hj'
    omega
  have hRl : (payRest bal rates (min a due)).length = n := by rw [payRest_length]; exact hl
  have hRg : ∀ j, j < n → (payRest bal rates (min a due)).getD j 0 = bal.getD j 0 - (filled bal (rankL ltLow rates rates.length) (min a due)).1.getD j 0 := by
    intro j hj
    unfold payRest pay1
    rw [getD_subL (by omega) (by omega)]
  have e1 : pay1 bal rates (min a due) = filled bal (rankL ltLow rates rates.length) (min a due) := rfl
  have e2 : pay2 bal rates due a = filled (payRest bal rates (min a due)) (rankL ltHigh rates rates.length) (a - min a due + (filled bal (rankL ltLow rates rates.length) (min a due)).2) := rfl
  generalize filled bal (rankL ltLow rates rates.length) (min a due) = F at r1 s1 g1 u1 n1 hRg e1 e2
  generalize hq : payRest bal rates (min a due) = Q at hR hRl hRg e2
  have hm2 : 0 ≤ a - min a due + F.2 := by omega
  have r2 := fun j hj => filled_range (ks := rankL ltHigh rates rates.length) hR hm2 (j := j) hj
  have s2 := filled_sum o2 hRl (a := a - min a due + F.2)
  have g2 := filled_left (ks := rankL ltHigh rates rates.length) hR hm2
  have u2 := fun h j hj => filled_full o2 hRl hR hm2 h (j := j) hj
  have n2 := filled_length Q (rankL ltHigh rates rates.length) (a - min a due + F.2)
  generalize filled Q (rankL ltHigh rates rates.length) (a - min a due + F.2) = G at r2 s2 g2 u2 n2 e2
  obtain ⟨f1, l1⟩ := F
  obtain ⟨f2, l2⟩ := G
  simp only at *
  refine ⟨f1, l1, f2, l2, e1, e2, by omega, by omega, g1.1, g1.2, g2.1, s1, s2, ?_, ?_, ?_⟩
  · intro j hj
    have h1 := r1 j (by omega)
    have h2 := r2 j (by omega)
    rw [hRg j hj] at h2
    exact ⟨h1.1, h1.2, h2.1, h2.2⟩
  · intro h j hj
    rw [u2 h j hj, hRg j hj]
  · intro h j hj
    exact u1 h j hj
end
theorem sum_nn {l : List Int} (h : ∀ x ∈ l, 0 ≤ x) : 0 ≤ l.sum := by
  induction l with
  | nil => simp
  | cons x l ih =>
    have h1 := h x (by simp)
    have h2 := ih fun y hy => h y (by simp [hy])
    simp
    omega
theorem sum_addL {a b : List Int} (h : a.length = b.length) : (addL a b).sum = a.sum + b.sum := by
  unfold addL
  induction a generalizing b with
  | nil => cases b with
    | nil => rfl
    | cons y b => simp at h
  | cons x a ih => cases b with
    | nil => simp at h
    | cons y b =>
      have := ih (b := b) (by simpa using h)
      simp [this]
      omega
theorem addL_length {a b : List Int} {n : Nat} (h1 : a.length = n) (h2 : b.length = n) : (addL a b).length = n := by unfold addL; rw [List.length_zipWith]; omega
/-- All that comes in goes, or is left. -/
theorem pay_all {bal rates : List Int} {n : Nat} {due a : Int} (hl : bal.length = n) (hr : rates.length = n) (hb : ∀ x ∈ bal, 0 ≤ x ∧ x < 1000) (hd : 0 ≤ due ∧ due < 1000000) (ha : 0 ≤ a ∧ a < 1000000) :
    ∃ G left, payR bal 0 due rates a = (G, min a due, left, 0) ∧ G.length = n ∧ 0 ≤ left ∧ left ≤ a ∧ G.sum + left = a ∧ (∀ j, j < n → 0 ≤ G.getD j 0 ∧ G.getD j 0 ≤ bal.getD j 0) ∧ (0 < left → ∀ j, j < n → G.getD j 0 = bal.getD j 0) := by
  obtain ⟨f1, l1, f2, l2, e1, e2, n1, n2, h1, h2, h3, s1, s2, r, u2, u1⟩ := pay_parts hl hr (fun x hx => (hb x hx).1) hd.1 ha.1
  rw [payR_ok (by omega) hb (by decide) hd ha, e1, e2]
  refine ⟨_, _, rfl, addL_length n1 n2, h3, ?_, ?_, ?_, ?_⟩
  · have : 0 ≤ f2.sum := by
      refine sum_nn ?_
      intro x hx
      obtain ⟨j, hj, rfl⟩ := List.getElem_of_mem hx
      have := r j (by omega)
      simpa [List.getD, hj] using this.2.2.1
    omega
  · rw [sum_addL (a := f1) (b := f2) (by omega)]
    omega
  · intro j hj
    have := r j hj
    rw [getD_addL (a := f1) (b := f2) (i := j) (by omega) (by omega)]
    omega
  · intro h j hj
    have := u2 h j hj
    rw [getD_addL (a := f1) (b := f2) (i := j) (by omega) (by omega)]
    omega
/-- The numbers of one order. -/
def ordOf (all : Bool) (rates : List Int) : List Int := if all then rankL ltLow rates rates.length else rankL ltHigh rates rates.length
theorem filled_zero {bal ks : List Int} {n : Nat} (hl : bal.length = n) (hb : ∀ x ∈ bal, 0 ≤ x) (ho : Ord ks n) : (∀ j, j < n → (filled bal ks 0).1.getD j 0 = 0) ∧ (filled bal ks 0).2 = 0 := by
  have h1 := filled_left (ks := ks) hb (a := 0) (by decide)
  refine ⟨?_, by omega⟩
  intro j hj
  obtain ⟨i, hi, rfl⟩ := at_all ho hj
  rw [filled_at ho hl hi]
  have h2 := fill_left (bal := bal) (ks := ks) (amount := 0) (by decide) hb i
  have h3 := getD_nn hb (at_ ks i)
  unfold took
  omega
theorem pay_one {bal rates : List Int} {n : Nat} {a : Int} (all : Bool) (hl : bal.length = n) (hr : rates.length = n) (hb : ∀ x ∈ bal, 0 ≤ x ∧ x < 1000) (ha : 0 ≤ a ∧ a < 1000000) :
    ∃ G left, payR bal 0 (if all then a else 0) rates a = (G, if all then a else 0, left, 0) ∧ G.length = n ∧ left = (filled bal (ordOf all rates) a).2 ∧ ∀ j, j < n → G.getD j 0 = (filled bal (ordOf all rates) a).1.getD j 0 := by
  have hb' : ∀ x ∈ bal, 0 ≤ x := fun x hx => (hb x hx).1
  cases all with
  | false =>
    have hmn : min a 0 = 0 := by omega
    have o1 : Ord (rankL ltLow rates rates.length) n := by rw [hr]; exact rank_ord _ _ _
    have hz := filled_zero hl hb' o1
    have hn1 := filled_length bal (rankL ltLow rates rates.length) 0
    have hp : payRest bal rates 0 = bal := by
      unfold payRest pay1
      apply List.ext_getElem
      · unfold subL; rw [List.length_zipWith]; omega
      · intro j h1 h2
        have e := getD_subL (a := bal) (b := (filled bal (rankL ltLow rates rates.length) 0).1) (i := j) h2 (by omega)
        rw [hz.1 j (by omega)] at e
        have e1 : (subL bal (filled bal (rankL ltLow rates rates.length) 0).1)[j] = (subL bal (filled bal (rankL ltLow rates rates.length) 0).1).getD j 0 := by simp [List.getD, h1]
        have e2 : bal[j] = bal.getD j 0 := by simp [List.getD, h2]
        rw [e1, e, e2]
        omega
    have e2 : pay2 bal rates 0 a = filled bal (rankL ltHigh rates rates.length) a := by
      unfold pay2
      rw [hmn, hp]
      unfold pay1
      rw [hz.2]
      congr 1
      omega
    rw [payR_ok (by omega) hb (by decide) (by simp) ha]
    simp only [hmn, e2, Bool.false_eq_true, if_false, ordOf]
    have hn2 := filled_length bal (rankL ltHigh rates rates.length) a
    have hn3 : (pay1 bal rates 0).1.length = n := by unfold pay1; omega
    refine ⟨_, _, rfl, addL_length hn3 (by omega), rfl, ?_⟩
    intro j hj
    rw [getD_addL (a := (pay1 bal rates 0).1) (b := (filled bal (rankL ltHigh rates rates.length) a).1) (i := j) (by omega) (by omega)]
    have := hz.1 j hj
    unfold pay1
    omega
  | true =>
    have hmn : min a a = a := by omega
    obtain ⟨f1, l1, f2, l2, e1, e2, n1, n2, h1, h2, h3, s1, s2, r, u2, u1⟩ := pay_parts hl hr hb' ha.1 ha.1 (due := a)
    rw [hmn] at e1
    rw [payR_ok (by omega) hb (by decide) (by simp; omega) ha]
    simp only [if_true, hmn, e1, e2, ordOf]
    have e3 : filled bal (rankL ltLow rates rates.length) a = (f1, l1) := e1
    rw [e3]
    have hz : ∀ j, j < n → f2.getD j 0 = 0 := by
      intro j hj
      by_cases h : 0 < l1
      · have := u1 h j hj
        have := r j hj
        omega
      · have hs : f2.sum = 0 ∨ f2.sum < 0 := by omega
        have hj' : f2.getD j 0 ≤ f2.sum := by
          have hf : ∀ x ∈ f2, 0 ≤ x := by
            intro x hx
            obtain ⟨i, hi, rfl⟩ := List.getElem_of_mem hx
            have := r i (by omega)
            simpa [List.getD, hi] using this.2.2.1
          have hm : f2.getD j 0 ∈ f2 := by simp [List.getD, show j < f2.length by omega]
          generalize f2.getD j 0 = y at hm
          clear hs r u2 u1 s2 s1 e2 e1 e3 n2
          induction f2 with
          | nil => simp at hm
          | cons z t ih =>
            have hz := hf z (by simp)
            have ht : 0 ≤ t.sum := sum_nn fun x hx => hf x (by simp [hx])
            rcases List.mem_cons.1 hm with rfl | hm
            · simp; omega
            · have := ih (fun x hx => hf x (by simp [hx])) hm
              simp
              omega
        have := r j hj
        omega
    refine ⟨_, _, rfl, addL_length n1 n2, ?_, ?_⟩
    · show l2 = l1
      have hs : f2.sum = 0 := by
        have hf : ∀ x ∈ f2, x = 0 := by
          intro x hx
          obtain ⟨i, hi, rfl⟩ := List.getElem_of_mem hx
          have := hz i (by omega)
          simpa [List.getD, hi] using this
        clear hz r u2 u1 s2 e2 n2
        induction f2 with
        | nil => rfl
        | cons z t ih =>
          have h0 := hf z (by simp)
          subst h0
          simpa using ih fun x hx => hf x (by simp [hx])
      omega
    · intro j hj
      rw [getD_addL (a := f1) (b := f2) (i := j) (by omega) (by omega), hz j hj]
      simp
end Go.Proofs.Ytfikdnmbnbkchaa

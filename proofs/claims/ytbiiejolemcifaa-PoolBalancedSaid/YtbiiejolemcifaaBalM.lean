/- What Charge, Pay and Give make of a position, and the postings of it: sums, in plain lists. -/
import Derived.Test.YtbiiejolemcifaaRefTotal
import Derived.Test.YtbiiejolemcifaaPoolE
import Derived.Test.YtbiiejolemcifaaPoolGiveM
import Derived.Test.YtbiiejolemcifaaPayLaws
namespace Go.Proofs.Ytbiiejolemcifaa
open Go.RowKit FlM

def pQ (a m : Int) : List (Int × Nat × Nat) := if 0 < m then [(a, m.toNat, 0)] else if m < 0 then [(a, 0, (-m).toNat)] else []
def trQ (bs cs : List Int) : Nat → List (Int × Nat × Nat)
  | 0 => []
  | k + 1 => trQ bs cs k ++ pQ ((k : Int) + 1) (cs.getD k 0 - bs.getD k 0)
/-- The postings, as numbers. -/
def balQ (bs : List Int) (c : Int) (cs : List Int) (c2 : Int) : List (Int × Nat × Nat) :=
  trQ bs cs cs.length ++ pQ (-1) (c - c2) ++ pQ 0 (-(trS bs cs cs.length + (c - c2)))
theorem sideW_pos {m : Int} (h : 0 < m) (h2 : m ≤ 1000000000000000) : sideW m = FlM.N m.toNat := by
  unfold sideW
  rw [if_neg (by omega)]
theorem bits_pQ (a m : Int) (h : -1000000000000000 ≤ m ∧ m ≤ 1000000000000000) : bitsP (pQ a m) = postL a m := by
  unfold pQ postL
  by_cases h1 : 0 < m
  · rw [if_pos h1, if_pos h1, sideW_pos h1 h.2]
    simp [bitsP, N_zero]
  · rw [if_neg h1, if_neg h1]
    by_cases h2 : m < 0
    · rw [if_pos h2, if_pos h2, sideW_pos (by omega) (by omega)]
      simp [bitsP, N_zero]
    · rw [if_neg h2, if_neg h2]
      rfl
theorem bits_append (a b : List (Int × Nat × Nat)) : bitsP (a ++ b) = bitsP a ++ bitsP b := by simp [bitsP]
theorem ok_append {a b : List (Int × Nat × Nat)} (h1 : okP a) (h2 : okP b) : okP (a ++ b) := by
  intro p hp
  rcases List.mem_append.1 hp with h | h
  · exact h1 p h
  · exact h2 p h
theorem ok_pQ (a m : Int) (h : -1000000000000000 ≤ m ∧ m ≤ 1000000000000000) : okP (pQ a m) := by
  unfold pQ
  intro p hp
  split at hp
  · simp at hp; subst hp; exact ⟨by show m.toNat ≤ _; omega, by show 0 ≤ _; omega⟩
  · split at hp
    · simp at hp; subst hp; exact ⟨by show 0 ≤ _; omega, by show (-m).toNat ≤ _; omega⟩
    · simp at hp
theorem pQ_len (a m : Int) : (pQ a m).length ≤ 1 := by
  unfold pQ
  split
  · simp
  · split <;> simp
theorem trQ_len (bs cs : List Int) (k : Nat) : (trQ bs cs k).length ≤ k := by
  induction k with
  | zero => simp [trQ]
  | succ k ih =>
    have := pQ_len ((k : Int) + 1) (cs.getD k 0 - bs.getD k 0)
    simp only [trQ, List.length_append]
    omega
theorem sD_append (f : Int → Bool) (a b : List (Int × Nat × Nat)) : sD f (a ++ b) = sD f a + sD f b ∧ sC f (a ++ b) = sC f a + sC f b := by
  induction a with
  | nil => simp [sD, sC]
  | cons p l ih =>
    simp only [List.cons_append, sD, sC, ih.1, ih.2]
    omega
theorem sD_pQ (f : Int → Bool) (a m : Int) : sD f (pQ a m) = (if f a then max m 0 else 0) ∧ sC f (pQ a m) = (if f a then max (-m) 0 else 0) := by
  unfold pQ
  by_cases h1 : 0 < m
  · rw [if_pos h1]
    simp only [sD, sC]
    cases f a <;> simp <;> omega
  · rw [if_neg h1]
    by_cases h2 : m < 0
    · rw [if_pos h2]
      simp only [sD, sC]
      cases f a <;> simp <;> omega
    · rw [if_neg h2]
      simp only [sD, sC]
      cases f a <;> simp <;> omega
section
variable {bs cs : List Int} {n : Nat} (hb : bs.length = n) (hc : cs.length = n)
theorem trS_sum (hb : bs.length = n) (hc : cs.length = n) (k : Nat) (hk : k ≤ n) : trS bs cs k = (cs.take k).sum - (bs.take k).sum := by
  induction k with
  | zero => simp [trS]
  | succ k ih =>
    rw [trS, ih (by omega), take_sum_succ _ _ (by omega), take_sum_succ _ _ (by omega)]
    omega
theorem tr_all (k : Nat) (h : ∀ j, j < k → -1000000000000000 ≤ cs.getD j 0 - bs.getD j 0 ∧ cs.getD j 0 - bs.getD j 0 ≤ 1000000000000000) : bitsP (trQ bs cs k) = trP bs cs k ∧ okP (trQ bs cs k) := by
  induction k with
  | zero => exact ⟨rfl, fun p hp => by simp [trQ] at hp⟩
  | succ k ih =>
    obtain ⟨i1, i2⟩ := ih fun j hj => h j (by omega)
    have hk := h k (by omega)
    exact ⟨by rw [trQ, trP, bits_append, i1, bits_pQ _ _ hk], ok_append i2 (ok_pQ _ _ hk)⟩
theorem tr_up (k : Nat) (h : ∀ j, j < k → bs.getD j 0 ≤ cs.getD j 0) : sD (fun _ => true) (trQ bs cs k) = trS bs cs k ∧ sC (fun _ => true) (trQ bs cs k) = 0 := by
  induction k with
  | zero => exact ⟨rfl, rfl⟩
  | succ k ih =>
    obtain ⟨i1, i2⟩ := ih fun j hj => h j (by omega)
    have hk := h k (by omega)
    have a := sD_append (fun _ => true) (trQ bs cs k) (pQ ((k : Int) + 1) (cs.getD k 0 - bs.getD k 0))
    have b := sD_pQ (fun _ => true) ((k : Int) + 1) (cs.getD k 0 - bs.getD k 0)
    simp only [if_true] at b
    rw [trQ, trS, a.1, a.2, b.1, b.2, i1, i2]
    omega
theorem tr_down (k : Nat) (h : ∀ j, j < k → cs.getD j 0 ≤ bs.getD j 0) : sD (fun _ => true) (trQ bs cs k) = 0 ∧ sC (fun _ => true) (trQ bs cs k) = -trS bs cs k := by
  induction k with
  | zero => exact ⟨rfl, rfl⟩
  | succ k ih =>
    obtain ⟨i1, i2⟩ := ih fun j hj => h j (by omega)
    have hk := h k (by omega)
    have a := sD_append (fun _ => true) (trQ bs cs k) (pQ ((k : Int) + 1) (cs.getD k 0 - bs.getD k 0))
    have b := sD_pQ (fun _ => true) ((k : Int) + 1) (cs.getD k 0 - bs.getD k 0)
    simp only [if_true] at b
    rw [trQ, trS, a.1, a.2, b.1, b.2, i1, i2]
    omega
/-- What an account has of the tranches' postings. -/
theorem tr_net (acc : Int) (k : Nat) : sD (fun a => false || a == acc) (trQ bs cs k) - sC (fun a => false || a == acc) (trQ bs cs k) = if 1 ≤ acc ∧ acc ≤ k then cs.getD (acc - 1).toNat 0 - bs.getD (acc - 1).toNat 0 else 0 := by
  induction k with
  | zero => rw [if_neg (by omega)]; rfl
  | succ k ih =>
    have a := sD_append (fun a => false || a == acc) (trQ bs cs k) (pQ ((k : Int) + 1) (cs.getD k 0 - bs.getD k 0))
    have b := sD_pQ (fun a => false || a == acc) ((k : Int) + 1) (cs.getD k 0 - bs.getD k 0)
    simp only [Bool.false_or, beq_iff_eq] at a b ih ⊢
    rw [trQ, a.1, a.2, b.1, b.2]
    by_cases e : (k : Int) + 1 = acc
    · subst e
      rw [if_neg (by omega)] at ih
      rw [if_pos rfl, if_pos rfl, if_pos (by omega), show ((k : Int) + 1 - 1).toNat = k by omega]
      omega
    · rw [if_neg e, if_neg e]
      by_cases e2 : 1 ≤ acc ∧ acc ≤ k
      · rw [if_pos e2] at ih
        rw [if_pos (by omega)]
        omega
      · rw [if_neg e2] at ih
        rw [if_neg (by omega)]
        omega
end
/-- What the law wants of the postings. -/
theorem bal_facts {bs cs : List Int} {c d c2 d2 A : Int} {n : Nat} (up : Bool) (hb : bs.length = n) (hc : cs.length = n) (h1 : rightP bs c d = true) (h2 : rightP cs c2 d2 = true) (hA : 0 ≤ A ∧ A ≤ 1000000000000000)
    (hd : if up then (∀ j, j < n → bs.getD j 0 ≤ cs.getD j 0) ∧ c2 ≤ c ∧ cs.sum - bs.sum + (c - c2) = A else (∀ j, j < n → cs.getD j 0 ≤ bs.getD j 0) ∧ c ≤ c2 ∧ cs.sum - bs.sum + (c - c2) = -A) :
    postS bs c d cs c2 d2 0 = bitsP (balQ bs c cs c2) ∧ okP (balQ bs c cs c2) ∧ (balQ bs c cs c2).length ≤ 1000000 ∧
    (sD (fun _ => true) (balQ bs c cs c2) = A ∧ sC (fun _ => true) (balQ bs c cs c2) = A) ∧
    (∀ k, k < n → sD (fun a => false || a == (k : Int) + 1) (balQ bs c cs c2) - sC (fun a => false || a == (k : Int) + 1) (balQ bs c cs c2) = cs.getD k 0 - bs.getD k 0) ∧
    sD (fun a => false || a == -1) (balQ bs c cs c2) - sC (fun a => false || a == -1) (balQ bs c cs c2) = c - c2 ∧
    sD (fun a => false || a == 0) (balQ bs c cs c2) - sC (fun a => false || a == 0) (balQ bs c cs c2) = if up then -A else A := by
  have hl : bs.length = cs.length := by omega
  have hone := fun k (hk : k < cs.length) => tr_one h1 h2 hl (k := k) hk
  have ht := trS_sum hb hc n (Nat.le_refl _)
  rw [List.take_of_length_le (by omega), List.take_of_length_le (by omega)] at ht
  obtain ⟨⟨c1, c3⟩, c4, c5⟩ := And.intro (rightP_may h1).1 (rightP_may h2).1
  obtain ⟨M, hM⟩ : ∃ M, trS bs cs n + (c - c2) = M := ⟨_, rfl⟩
  have hMA : M = if up then A else -A := by
    cases up <;> simp at hd ⊢ <;> omega
  have hMb : -1000000000000000 ≤ -M ∧ -M ≤ 1000000000000000 := by cases up <;> simp at hMA <;> omega
  have hcb : -1000000000000000 ≤ c - c2 ∧ c - c2 ≤ 1000000000000000 := by omega
  obtain ⟨t1, t2⟩ := tr_all (bs := bs) (cs := cs) n fun j hj => hone j (by omega)
  have ap := fun f => sD_append f (trQ bs cs n ++ pQ (-1) (c - c2)) (pQ 0 (-M))
  have ap2 := fun f => sD_append f (trQ bs cs n) (pQ (-1) (c - c2))
  have p1 := fun f => sD_pQ f (-1) (c - c2)
  have p2 := fun f => sD_pQ f 0 (-M)
  unfold balQ
  rw [hc, hM]
  refine ⟨?_, ok_append (ok_append t2 (ok_pQ _ _ hcb)) (ok_pQ _ _ hMb), ?_, ?_, ?_, ?_, ?_⟩
  · unfold postS
    rw [if_neg (by rw [h1, h2]; simp [hl]), hc, hM, if_neg (by omega), bits_append, bits_append, t1, bits_pQ _ _ hcb, bits_pQ _ _ hMb]
  · have a := trQ_len bs cs n
    have b := pQ_len (-1) (c - c2)
    have e := pQ_len 0 (-M)
    have := (rightP_len h1).2
    simp only [List.length_append]
    omega
  · rw [(ap _).1, (ap _).2, (ap2 _).1, (ap2 _).2, (p1 _).1, (p1 _).2, (p2 _).1, (p2 _).2]
    cases up with
    | true =>
      simp only [if_true] at hd hMA ⊢
      have := tr_up n hd.1
      rw [this.1, this.2]
      omega
    | false =>
      simp only [Bool.false_eq_true, if_false, if_true] at hd hMA ⊢
      have := tr_down n hd.1
      rw [this.1, this.2]
      omega
  · intro k hk
    have tn := tr_net (bs := bs) (cs := cs) ((k : Int) + 1) n
    rw [if_pos (by omega), show ((k : Int) + 1 - 1).toNat = k by omega] at tn
    rw [(ap _).1, (ap _).2, (ap2 _).1, (ap2 _).2, (p1 _).1, (p1 _).2, (p2 _).1, (p2 _).2]
    have e1 : (false || (-1 : Int) == (k : Int) + 1) = false := by simp; omega
    have e2 : (false || (0 : Int) == (k : Int) + 1) = false := by simp; omega
    simp only [e1, e2, Bool.false_eq_true, if_false]
    omega
  · have tn := tr_net (bs := bs) (cs := cs) (-1) n
    rw [if_neg (by omega)] at tn
    rw [(ap _).1, (ap _).2, (ap2 _).1, (ap2 _).2, (p1 _).1, (p1 _).2, (p2 _).1, (p2 _).2]
    have e1 : (false || (-1 : Int) == -1) = true := rfl
    have e2 : (false || (0 : Int) == -1) = false := rfl
    simp only [e1, e2, Bool.false_eq_true, if_false, if_true]
    omega
  · have tn := tr_net (bs := bs) (cs := cs) 0 n
    rw [if_neg (by omega)] at tn
    rw [(ap _).1, (ap _).2, (ap2 _).1, (ap2 _).2, (p1 _).1, (p1 _).2, (p2 _).1, (p2 _).2]
    have e1 : (false || (-1 : Int) == 0) = false := rfl
    have e2 : (false || (0 : Int) == 0) = true := rfl
    simp only [e1, e2, Bool.false_eq_true, if_false, if_true]
    cases up with
    | true => simp only [if_true] at hMA ⊢; omega
    | false => simp only [Bool.false_eq_true, if_false] at hMA ⊢; omega
/-! What the three make. -/
theorem sum_setD {l : List Int} {k : Nat} {x : Int} (hk : k < l.length) : (l.set k x).sum = l.sum + (x - l.getD k 0) := by
  induction l generalizing k with
  | nil => simp at hk
  | cons y l ih =>
    cases k with
    | zero => simp; omega
    | succ k =>
      have := ih (k := k) (by simpa using hk)
      simp only [List.set_cons_succ, List.sum_cons, this, List.getD_cons_succ]
      omega
theorem sum_subL {a b : List Int} (h : a.length = b.length) : (subL a b).sum = a.sum - b.sum := by
  unfold subL
  induction a generalizing b with
  | nil =>
    cases b with
    | nil => rfl
    | cons y b => simp at h
  | cons x a ih =>
    cases b with
    | nil => simp at h
    | cons y b =>
      simp only [List.zipWith_cons_cons, List.sum_cons, ih (by simpa using h)]
      omega
theorem sum_addL2 {a b : List Int} (h : a.length = b.length) : (addL a b).sum = a.sum + b.sum := by
  unfold addL
  induction a generalizing b with
  | nil =>
    cases b with
    | nil => rfl
    | cons y b => simp at h
  | cons x a ih =>
    cases b with
    | nil => simp at h
    | cons y b =>
      simp only [List.zipWith_cons_cons, List.sum_cons, ih (by simpa using h)]
      omega
theorem subL_len {a b : List Int} {n : Nat} (h1 : a.length = n) (h2 : b.length = n) : (subL a b).length = n := by
  unfold subL; rw [List.length_zipWith]; omega
theorem asked0 {bs : List Int} {c d am : Int} {ks : List Int} (h : rightP bs c d = true) (hk : badK bs.length ks = false) (ha : 0 ≤ am ∧ am ≤ 1000000000000000) : askedE bs c d am ks = 0 := by
  unfold askedE
  rw [h, hk, may0_iff.2 ha]
  rfl
/-- What is right once: an answer of the three, and what it means. -/
def OkS (bs : List Int) (c : Int) (n : Nat) (A : Int) (up : Bool) (r : List Int × Int × Int × Int) : Prop :=
  r.2.2.2 = 5 ∨ r.2.2.2 = 0 ∧ rightP r.1 r.2.1 r.2.2.1 = true ∧ r.1.length = n ∧ (if up then (∀ j, j < n → bs.getD j 0 ≤ r.1.getD j 0) ∧ r.2.1 ≤ c ∧ r.1.sum - bs.sum + (c - r.2.1) = A else (∀ j, j < n → r.1.getD j 0 ≤ bs.getD j 0) ∧ c ≤ r.2.1 ∧ r.1.sum - bs.sum + (c - r.2.1) = -A)
theorem charge_ok {bs : List Int} {c d k A : Int} {n : Nat} (hb : bs.length = n) (h1 : rightP bs c d = true) (hk : 1 ≤ k ∧ k ≤ n) (hA : 0 ≤ A ∧ A ≤ 1000000000000000) (hkk : badK bs.length [k] = false) : OkS bs c n A true (chargeS bs c d k A) := by
  have ha := asked0 h1 hkk hA
  obtain ⟨c1, c3⟩ := (rightP_may h1).1
  unfold OkS chargeS
  rw [if_neg (by rw [ha]; simp)]
  by_cases h : rightP (bs.set (k - 1).toNat (bs.getD (k - 1).toNat 0 + (A - min A c))) (c - min A c) d = true
  · rw [if_pos h]
    refine .inr ⟨rfl, h, by simpa using hb, ?_⟩
    simp only [if_true]
    refine ⟨?_, by omega, ?_⟩
    · intro j hj
      have hq : (k - 1).toNat < bs.length := by omega
      generalize (k - 1).toNat = q at *
      by_cases e : q = j
      · subst e
        have e1 : (bs.set q (bs.getD q 0 + (A - min A c))).getD q 0 = bs.getD q 0 + (A - min A c) := by rw [List.getD_eq_getElem?_getD, List.getElem?_set_self hq]; rfl
        rw [e1]
        omega
      · have e1 : (bs.set q (bs.getD q 0 + (A - min A c))).getD j 0 = bs.getD j 0 := by rw [List.getD_eq_getElem?_getD, List.getElem?_set_ne e, ← List.getD_eq_getElem?_getD]
        rw [e1]
        exact Int.le_refl _
    · have := sum_setD (l := bs) (k := (k - 1).toNat) (x := bs.getD (k - 1).toNat 0 + (A - min A c)) (by omega)
      rw [this]
      omega
  · rw [if_neg h]
    exact .inl rfl
theorem pay_ok {bs rates : List Int} {c d A : Int} {n : Nat} (hb : bs.length = n) (hr : rates.length = n) (h1 : rightP bs c d = true) (hA : 0 ≤ A ∧ A ≤ 1000000000000000) : OkS bs c n A false (payS bs c d rates A) := by
  have ha := asked0 (ks := []) h1 rfl hA
  have hm := rightP_may h1
  have hdu := rightP_due h1
  obtain ⟨⟨l, du, le, e⟩, hp⟩ : ∃ r, payR bs c d rates A = r := ⟨_, rfl⟩
  rcases payR_parts hp with ⟨rfl, _, hbad, _, _, _, hl, _, hle⟩ | ⟨rfl, _⟩
  · obtain ⟨q1, q2, q3, q4⟩ := payR_range hp
    have hb0 : ∀ x ∈ bs, 0 ≤ x := fun x hx => (bad_no hbad x hx).1
    have o1 : Ord (rankL ltLow rates rates.length) n := by rw [hr]; exact rank_ord _ _ _
    have o2 : Ord (rankL ltHigh rates rates.length) n := by rw [hr]; exact rank_ord _ _ _
    have s1 : (pay1 bs rates (min A d)).1.sum + (pay1 bs rates (min A d)).2 = min A d := filled_sum o1 hb
    have s2 : (pay2 bs rates d A).1.sum + (pay2 bs rates d A).2 = A - min A d + (pay1 bs rates (min A d)).2 := filled_sum o2 (by rw [payRest_length]; exact hb)
    have l1 : (pay1 bs rates (min A d)).1.length = n := by rw [show (pay1 bs rates (min A d)).1.length = bs.length from filled_length _ _ _]; exact hb
    have l2 : (pay2 bs rates d A).1.length = n := by unfold pay2; rw [filled_length, payRest_length]; exact hb
    have hls : l.sum + le = A := by
      rw [hl, hle, sum_addL2 (by omega)]
      omega
    unfold OkS payS
    rw [if_neg (by rw [ha]; simp), hp]
    simp only [ne_eq, not_true_eq_false, if_false]
    by_cases h : rightP (subL bs l) (c + le) (d - du) = true
    · rw [if_pos h]
      refine .inr ⟨rfl, h, subL_len hb (by omega), ?_⟩
      simp only [Bool.false_eq_true, if_false]
      refine ⟨?_, by omega, ?_⟩
      · intro j hj
        rw [getD_subL (by omega) (by omega)]
        have := q2 j (by omega)
        omega
      · rw [sum_subL (by omega)]
        omega
    · rw [if_neg h]
      exact .inl rfl
  · exfalso
    have hbn : bs.any badMoney = false := by
      rw [List.any_eq_false]
      intro x hx
      obtain ⟨j, hj, rfl⟩ := List.getElem_of_mem hx
      have := hm.2 j hj
      have e : bs.getD j 0 = bs[j] := by simp [List.getD, hj]
      rw [e] at this
      simp [badMoney]
      omega
    have b1 : badMoney c = false := by have := hm.1; simp [badMoney]; omega
    have b2 : badMoney d = false := by have := hdu.1; simp [badMoney]; omega
    have b3 : badMoney A = false := by simp [badMoney]; omega
    unfold payR at hp
    rw [if_pos (by rw [hbn, b1, b2, b3]; simp; omega)] at hp
    simp only [Prod.mk.injEq] at hp
    exact absurd hp.2.2.2 (by decide)
theorem give_ord {rates : List Int} {k : Int} {n : Nat} (hr : rates.length = n) (hk : 1 ≤ k ∧ k ≤ n) : Ord (giveO rates k) n := by
  have hnd := giveO_nodup rates k
  have hmem : k ∈ rankL ltHigh rates rates.length := by
    refine (rankL_perm ltHigh rates rates.length).mem_iff.2 ?_
    simp only [List.mem_map, List.mem_range]
    exact ⟨(k - 1).toNat, by omega, by omega⟩
  have hlen : (giveO rates k).length = n := by
    have e : (rankL ltHigh rates rates.length).filter (fun x => x != k) = (rankL ltHigh rates rates.length).erase k := ((rankL_nodup ltHigh rates rates.length).erase_eq_filter k).symm
    unfold giveO
    rw [List.length_cons, e, List.length_erase_of_mem hmem, rankL_length]
    omega
  have hat : ∀ i, (hi : i < n) → (giveO rates k).getD i 0 = (giveO rates k)[i]'(by omega) := fun i hi => by simp [List.getD, show i < (giveO rates k).length by omega]
  refine ⟨hlen, fun i hi => ?_, fun i j hij hj e => ?_, fun j hj => ?_⟩
  · rw [hat i hi]
    exact giveO_mem hr hk (List.getElem_mem _)
  · rw [hat i (by omega), hat j hj] at e
    have := (List.getElem_inj hnd).1 e
    omega
  · have hm : ((j : Int) + 1) ∈ giveO rates k := by
      unfold giveO
      by_cases e : (j : Int) + 1 = k
      · rw [e]; exact List.mem_cons_self
      · refine List.mem_cons_of_mem _ (List.mem_filter.2 ⟨?_, by simpa using e⟩)
        refine (rankL_perm ltHigh rates rates.length).mem_iff.2 ?_
        simp only [List.mem_map, List.mem_range]
        exact ⟨j, by omega, rfl⟩
    obtain ⟨i, hi, e⟩ := List.getElem_of_mem hm
    exact ⟨i, by omega, by rw [hat i (by omega)]; exact e⟩
theorem give_ok {bs rates : List Int} {c d k A : Int} {n : Nat} (hb : bs.length = n) (hr : rates.length = n) (h1 : rightP bs c d = true) (hk : 1 ≤ k ∧ k ≤ n) (hA : 0 ≤ A ∧ A ≤ 1000000000000000) (hkk : badK bs.length [k] = false) : OkS bs c n A false (giveS bs c d rates k A) := by
  have ha := asked0 h1 hkk hA
  have hb0 : ∀ x ∈ bs, 0 ≤ x := by
    intro x hx
    obtain ⟨j, hj, rfl⟩ := List.getElem_of_mem hx
    have := (rightP_may h1).2 j hj
    have e : bs.getD j 0 = bs[j] := by simp [List.getD, hj]
    rw [e] at this
    omega
  have s := filled_sum (give_ord hr hk) hb (a := A)
  have g := filled_left (ks := giveO rates k) hb0 hA.1
  have r := fun j hj => filled_range (ks := giveO rates k) hb0 hA.1 (j := j) hj
  have ln := filled_length bs (giveO rates k) A
  unfold OkS giveS
  rw [if_neg (by rw [ha]; simp), if_neg (by simp; omega)]
  generalize (filled bs (giveO rates k) A).1 = l at *
  generalize (filled bs (giveO rates k) A).2 = le at *
  by_cases h : rightP (subL bs l) (c + le) d = true
  · rw [if_pos h]
    refine .inr ⟨rfl, h, subL_len hb (by omega), ?_⟩
    simp only [Bool.false_eq_true, if_false]
    refine ⟨?_, by omega, ?_⟩
    · intro j hj
      rw [getD_subL (by omega) (by omega)]
      have := r j (by omega)
      omega
    · rw [sum_subL (by omega)]
      omega
  · rw [if_neg h]
    exact .inl rfl
end Go.Proofs.Ytbiiejolemcifaa

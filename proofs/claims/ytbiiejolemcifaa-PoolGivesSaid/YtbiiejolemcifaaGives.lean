/- PoolGives: plain. -/
import Derived.Test.YtbiiejolemcifaaPoolGive
import Derived.Test.YtbiiejolemcifaaPayLaws
import Derived.Test.YtbiiejolemcifaaLaw11B
namespace Go.Proofs.Ytbiiejolemcifaa
open Go.RowKit

theorem rightP_three {a b e c d : Int} (h : (0 ≤ a ∧ a ≤ 1000000000000000) ∧ (0 ≤ b ∧ b ≤ 1000000000000000) ∧ (0 ≤ e ∧ e ≤ 1000000000000000) ∧ a + b + e ≤ 1000000000000000 ∧ (0 ≤ c ∧ c ≤ 1000000000000000) ∧ (0 ≤ d ∧ d ≤ 1000000000000000) ∧ (c = 0 ∨ a + b + e = 0)) : rightP [a, b, e] c d = true := by
  have m1 : may0 a = true ∧ may0 (0 + a) = true := ⟨may0_iff.2 (by omega), may0_iff.2 (by omega)⟩
  have m2 : may0 b = true ∧ may0 (0 + a + b) = true := ⟨may0_iff.2 (by omega), may0_iff.2 (by omega)⟩
  have m3 : may0 e = true ∧ may0 (0 + a + b + e) = true := ⟨may0_iff.2 (by omega), may0_iff.2 (by omega)⟩
  unfold rightP sumsB
  rw [if_pos m1]
  unfold sumsB
  rw [if_pos m2]
  unfold sumsB
  rw [if_pos m3]
  simp only [sumsB]
  simp only [List.length_cons, List.length_nil, Bool.and_eq_true, may0_iff, Bool.or_eq_true, beq_iff_eq, decide_eq_true_eq]
  omega
theorem three_cases {i : Nat} (h : i < 3) : i = 0 ∨ i = 1 ∨ i = 2 := by omega
theorem gives_ord {k : Int} (hk : k = 1 ∨ k = 2 ∨ k = 3) : Ord (giveO [5, 9, 7] k) 3 := by
  have e : giveO [5, 9, 7] k = [1, 2, 3] ∧ k = 1 ∨ giveO [5, 9, 7] k = [2, 3, 1] ∧ k = 2 ∨ giveO [5, 9, 7] k = [3, 2, 1] ∧ k = 3 := by
    rcases hk with rfl | rfl | rfl <;> decide
  rcases e with ⟨e, _⟩ | ⟨e, _⟩ | ⟨e, _⟩ <;> rw [e] <;> refine ⟨rfl, ?_, ?_, ?_⟩
  all_goals first
    | (intro i hi; rcases three_cases hi with rfl | rfl | rfl <;> decide)
    | (intro i j hij hj; rcases three_cases hj with rfl | rfl | rfl <;> rcases three_cases (show i < 3 by omega) with rfl | rfl | rfl <;> first | omega | decide)
    | (intro j hj; rcases three_cases hj with rfl | rfl | rfl <;> first | exact ⟨0, by omega, by decide⟩ | exact ⟨1, by omega, by decide⟩ | exact ⟨2, by omega, by decide⟩)
theorem list3 {l : List Int} (h : l.length = 3) : ∃ x y z, l = [x, y, z] := by
  match l, h with
  | [x, y, z], _ => exact ⟨x, y, z, rfl⟩
/-- What the law asks of the gift. -/
theorem gives_facts {A B C M k : Int} (hA : 0 ≤ A ∧ A < 1000) (hB : 0 ≤ B ∧ B < 1000) (hC : 0 ≤ C ∧ C < 1000) (hM : 0 ≤ M ∧ M < 4000) (hk : k = 1 ∨ k = 2 ∨ k = 3) :
    giveS [A, B, C] 0 0 [5, 9, 7] k M = (subL [A, B, C] (filled [A, B, C] (giveO [5, 9, 7] k) M).1, (filled [A, B, C] (giveO [5, 9, 7] k) M).2, 0, 0) := by
  have ho := gives_ord hk
  have hl : ([A, B, C] : List Int).length = 3 := rfl
  have hb0 : ∀ x ∈ ([A, B, C] : List Int), 0 ≤ x := by intro x hx; simp at hx; omega
  have hr0 : rightP [A, B, C] 0 0 = true := rightP_three (by omega)
  have ha : askedE [A, B, C] 0 0 M [k] = 0 := by
    unfold askedE
    have h1 : badK [A, B, C].length [k] = false := by simp [badK]; omega
    have h2 : may0 M = true := may0_iff.2 (by omega)
    rw [hr0, h1, h2]
    rfl
  have fl := filled_length [A, B, C] (giveO [5, 9, 7] k) M
  have fr := fun j hj => filled_range (bal := [A, B, C]) (ks := giveO [5, 9, 7] k) (a := M) hb0 hM.1 (j := j) hj
  have fL := filled_left (bal := [A, B, C]) (ks := giveO [5, 9, 7] k) (a := M) hb0 hM.1
  have ff := fun (h : 0 < (filled [A, B, C] (giveO [5, 9, 7] k) M).2) j (hj : j < 3) => filled_full ho hl hb0 hM.1 h (j := j) hj
  obtain ⟨x, y, z, hx⟩ := list3 fl
  have r0 := fr 0 (by simp)
  have r1 := fr 1 (by simp)
  have r2 := fr 2 (by simp)
  have f0 := fun h => ff h 0 (by omega)
  have f1 := fun h => ff h 1 (by omega)
  have f2 := fun h => ff h 2 (by omega)
  unfold giveS
  rw [ha]
  rw [hx] at r0 r1 r2 f0 f1 f2 ⊢
  generalize (filled [A, B, C] (giveO [5, 9, 7] k) M).2 = le at fL f0 f1 f2 ⊢
  simp only [List.getD_cons_zero, List.getD_cons_succ] at r0 r1 r2 f0 f1 f2
  have hs : subL [A, B, C] [x, y, z] = [A - x, B - y, C - z] := rfl
  have hle : le = 0 ∨ 0 < le := by omega
  have hr : rightP [A - x, B - y, C - z] (0 + le) 0 = true := by
    apply rightP_three
    rcases hle with h | h
    · omega
    · have := f0 h
      have := f1 h
      have := f2 h
      omega
  rw [hs]
  rw [Int.zero_add] at hr
  simp only [ne_eq, not_true_eq_false, if_false, List.length_cons, List.length_nil, beq_self_eq_true, Bool.true_eq_false, Int.zero_add]
  rw [if_pos hr]
/-- A place of the order: its number, what is there, what it takes, what stays. -/
theorem gives_at {A B C M k : Int} (hA : 0 ≤ A ∧ A < 1000) (hB : 0 ≤ B ∧ B < 1000) (hC : 0 ≤ C ∧ C < 1000) (hM : 0 ≤ M ∧ M < 4000) (hk : k = 1 ∨ k = 2 ∨ k = 3) {m : Nat} (hm : m < 3) :
    ∃ (p : Nat) (x lm n : Int), p < 3 ∧ (giveO [5, 9, 7] k).getD m 0 = (p : Int) + 1 ∧ [A, B, C].getD p 0 = x ∧ (fill [A, B, C] (giveO [5, 9, 7] k) M m).2 = lm ∧ min lm x = n ∧ (fill [A, B, C] (giveO [5, 9, 7] k) M (m + 1)).2 = lm - n ∧
      (subL [A, B, C] (filled [A, B, C] (giveO [5, 9, 7] k) M).1).getD p 0 = x - n ∧ 0 ≤ x ∧ x < 1000 ∧ 0 ≤ lm ∧ lm < 4000 ∧ 0 ≤ n ∧ n ≤ x ∧ n ≤ lm := by
  have ho := gives_ord hk
  have hl : ([A, B, C] : List Int).length = 3 := rfl
  have hb0 : ∀ x ∈ ([A, B, C] : List Int), 0 ≤ x := by intro x hx; simp at hx; omega
  have h1 := ho.rng m hm
  obtain ⟨p, hp⟩ : ∃ p : Nat, (giveO [5, 9, 7] k).getD m 0 = (p : Int) + 1 := ⟨((giveO [5, 9, 7] k).getD m 0 - 1).toNat, by omega⟩
  have hp3 : p < 3 := by omega
  have hat : at_ (giveO [5, 9, 7] k) m = p := by unfold at_; rw [hp]; omega
  have hf := filled_at ho hl (a := M) hm
  have ht : took [A, B, C] (giveO [5, 9, 7] k) M m = min (fill [A, B, C] (giveO [5, 9, 7] k) M m).2 ([A, B, C].getD p 0) := by unfold took; rw [hat]
  have hs := left_succ (bal := [A, B, C]) (ks := giveO [5, 9, 7] k) (a := M) m
  rw [hat, ht] at hf
  rw [ht] at hs
  have fL := fill_left (bal := [A, B, C]) (ks := giveO [5, 9, 7] k) hM.1 hb0 m
  have hx : 0 ≤ [A, B, C].getD p 0 ∧ [A, B, C].getD p 0 < 1000 := by
    rcases three_cases hp3 with rfl | rfl | rfl <;> simp <;> omega
  have hsub := getD_subL (a := [A, B, C]) (b := (filled [A, B, C] (giveO [5, 9, 7] k) M).1) (i := p) hp3 (by rw [filled_length]; exact hp3)
  rw [hf] at hsub
  exact ⟨p, _, _, _, hp3, hp, rfl, rfl, rfl, hs, hsub, hx.1, hx.2, fL.1, by omega, by omega, by omega, by omega⟩
end Go.Proofs.Ytbiiejolemcifaa

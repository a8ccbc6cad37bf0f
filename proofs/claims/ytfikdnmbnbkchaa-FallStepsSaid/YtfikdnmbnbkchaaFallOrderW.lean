/- lombardlaw10.FallOrder: what is in no order takes nothing; numbers that are twice there, or are none, are refused. -/
import Derived.Test.YtfikdnmbnbkchaaLaw10
import Derived.IntWalk
namespace Go.Proofs.Ytfikdnmbnbkchaa
open Go.RowKit

/-- A number taken as one without a sign, and what is left of it by m. -/
theorem modu_bd (a m : Int) (h0 : 0 < m) (h1 : m ≤ 1000000) : 0 ≤ wrap64 ((IntKind.u64.wrap a).tmod m) ∧ wrap64 ((IntKind.u64.wrap a).tmod m) < m := by
  have hu : IntKind.u64.wrap a = a % 18446744073709551616 := by simp [IntKind.wrap, IntKind.signed, IntKind.bits]
  have hn : 0 ≤ a % 18446744073709551616 := Int.emod_nonneg _ (by decide)
  have e1 : (a % 18446744073709551616).tmod m = (a % 18446744073709551616) % m := Int.tmod_eq_emod_of_nonneg hn
  have h2 := Int.emod_nonneg (a % 18446744073709551616) (show m ≠ 0 by omega)
  have h3 := Int.emod_lt_of_pos (a % 18446744073709551616) h0
  rw [hu, e1]
  rw [IntWalk.wrap64_in _ ⟨by omega, by omega⟩]
  exact ⟨h2, h3⟩
theorem five (a : Int) : (IntKind.u64.wrap a).tmod 5 = 0 ∨ (IntKind.u64.wrap a).tmod 5 = 1 ∨ (IntKind.u64.wrap a).tmod 5 = 2 ∨ (IntKind.u64.wrap a).tmod 5 = 3 ∨ (IntKind.u64.wrap a).tmod 5 = 4 := by
  have hu : IntKind.u64.wrap a = a % 18446744073709551616 := by simp [IntKind.wrap, IntKind.signed, IntKind.bits]
  have hn : 0 ≤ a % 18446744073709551616 := Int.emod_nonneg _ (by decide)
  have e1 : (a % 18446744073709551616).tmod 5 = (a % 18446744073709551616) % 5 := Int.tmod_eq_emod_of_nonneg hn
  rw [hu, e1]
  omega
theorem into_two {A B M : Int} (hA : 0 ≤ A ∧ A < 1000) (hB : 0 ≤ B ∧ B < 1000) (hM : 0 ≤ M ∧ M < 3000) : intoR [A, B] [2] M = ([0, min M B], M - min M B, 0) := by
  have e1 : badMoney A = false := by simp [badMoney]; omega
  have e2 : badMoney B = false := by simp [badMoney]; omega
  have e3 : badMoney M = false := by simp [badMoney]; omega
  have e4 : ordB [2] ([A, B] : List Int).length = true := (by decide : ordB [2] 2 = true)
  simp only [intoR, e4, e3, List.any_cons, List.any_nil, e1, e2]
  rfl
theorem into_bad {A B M : Int} {ks : List Int} (h : ordB ks 2 = false) : intoR [A, B] ks M = ([], 0, 1) := by
  have e : ([A, B] : List Int).length = 2 := rfl
  simp only [intoR, e, h]
  rfl

set_option maxRecDepth 100000 in
set_option maxHeartbeats 800000 in
theorem fallOrder_any (a b amount what : Int) (w : World) :
    Calls Try.prog 7 #[.int .i64 a, .int .i64 b, .int .i64 amount, .int .i64 what] w (RetB (.bool true) w) := by
  go_enter Try.func7, Try.ntmps7
  go_wp2_with fail
  have hA := modu_bd a 1000 (by decide) (by decide)
  have hB := modu_bd b 1000 (by decide) (by decide)
  have hM := modu_bd amount 3000 (by decide) (by decide)
  generalize wrap64 ((IntKind.u64.wrap a).tmod 1000) = A at hA ⊢
  generalize wrap64 ((IntKind.u64.wrap b).tmod 1000) = B at hB ⊢
  generalize wrap64 ((IntKind.u64.wrap amount).tmod 3000) = M at hM ⊢
  refine (fallInto_any _ _ [A, B] [2] M _ ((Sl.litAt w _ [A, B] 2 _ rfl _ rfl (by decide) rfl).alloc _) (Sl.litAt _ _ [2] 1 _ rfl _ rfl (by decide) (by simp)) (show 2 ≤ 1000 by decide) (by decide)).mono ?_
  rintro e w1 ⟨u1, rfl, ho1, hb1⟩
  have hs1 := Sl.of_own ho1 rfl
  clear ho1
  rw [into_two hA hB hM] at hs1 ⊢
  simp only at hs1 ⊢
  have hmn : 0 ≤ min M B ∧ min M B ≤ M := by omega
  have hmB : min B M = min M B := by omega
  have HS1 := Lib.hid hs1
  obtain ⟨ao, cap, rfl, hc, ⟨hc2, _⟩, _⟩ := hs1
  obtain ⟨b1, o1, c0, rfl, hx0, hv0⟩ := HS1.out.get (i := 0) (show 0 < 2 by decide)
  obtain ⟨b1', o1', c1, e0, hx1, hv1⟩ := HS1.out.get (i := 1) (show 1 < 2 by decide)
  cases e0
  obtain rfl : c0 = 0 := hv0.out.symm
  obtain rfl : c1 = min M B := hv1.out.symm
  rcases five what with h5 | h5 | h5 | h5 | h5
  · go_wp2_with fail
    refine (fallInto_any _ _ [A, B] [1, 1] M _ (by repeat (first | exact Sl.litAt _ _ [A, B] 2 _ rfl _ rfl (by decide) (by simp) | refine Sl.alloc ?_ _)) (by repeat (first | exact Sl.litAt _ _ [1, 1] 2 _ rfl _ rfl (by decide) (by simp) | refine Sl.alloc ?_ _)) (show 2 ≤ 1000 by decide) (by decide)).mono ?_
    rintro e w2 ⟨u2, rfl, ho2, hb2⟩
    have hs2 := Sl.of_own ho2 rfl
    clear ho2
    rw [into_bad (by decide)] at hs2 ⊢
    simp only at hs2 ⊢
    obtain ⟨ao2, cap2, rfl, _, _, _⟩ := hs2
    go_wp2_with fail
    refine (fallInto_any _ _ [-1] [1] 1 _ ((Sl.litAt w2 _ [-1] 1 _ rfl _ rfl (by decide) rfl).alloc _) (Sl.litAt _ _ [1] 1 _ rfl _ rfl (by decide) (by simp)) (by decide) (by decide)).mono ?_
    rintro e w3 ⟨u3, rfl, ho3, hb3⟩
    have hs3 := Sl.of_own ho3 rfl
    clear ho3
    have e3 : intoR [-1] [1] 1 = ([], 0, 1) := by decide
    rw [e3] at ⊢
    clear e3 hs3
    simp only
    go_wp2_with fail
    refine (awake10_any _).mono ?_
    rintro e w4 ⟨rfl, hb4⟩
    have hb14 : Below w1.heap.size w1 w4 := (by repeat (first | exact Below.refl _ _ | refine bl_al ?_ _ | refine bl_dr ?_ | refine bl_dN ?_ _ | refine bl_tr ?_ (by assumption)))
    have k0 : w4.cell? ⟨b1, o1, none⟩ = some (.int .i64 0) := (hb14.cell (p := ⟨b1, o1, none⟩) (cell_block_lt hx0)).trans hx0
    have k1 : w4.cell? ⟨b1, o1 + 1, none⟩ = some (.int .i64 (min M B)) := (hb14.cell (p := ⟨b1, o1 + 1, none⟩) (cell_block_lt hx1)).trans hx1
    go_wp2_with fail
    all_goals
      go_ret
      exact ⟨rfl, (by repeat (first | exact Below.refl _ _ | refine bl_al ?_ _ | refine bl_dr ?_ | refine bl_dN ?_ _ | refine bl_tr ?_ (by assumption)))⟩
  · go_wp2_with fail
    refine (fallInto_any _ _ [A, B] [0] M _ (by repeat (first | exact Sl.litAt _ _ [A, B] 2 _ rfl _ rfl (by decide) (by simp) | refine Sl.alloc ?_ _)) (by repeat (first | exact Sl.litAt _ _ [0] 1 _ rfl _ rfl (by decide) (by simp) | refine Sl.alloc ?_ _)) (show 2 ≤ 1000 by decide) (by decide)).mono ?_
    rintro e w2 ⟨u2, rfl, ho2, hb2⟩
    have hs2 := Sl.of_own ho2 rfl
    clear ho2
    rw [into_bad (by decide)] at hs2 ⊢
    simp only at hs2 ⊢
    obtain ⟨ao2, cap2, rfl, _, _, _⟩ := hs2
    go_wp2_with fail
    refine (fallInto_any _ _ [-1] [1] 1 _ ((Sl.litAt w2 _ [-1] 1 _ rfl _ rfl (by decide) rfl).alloc _) (Sl.litAt _ _ [1] 1 _ rfl _ rfl (by decide) (by simp)) (by decide) (by decide)).mono ?_
    rintro e w3 ⟨u3, rfl, ho3, hb3⟩
    have hs3 := Sl.of_own ho3 rfl
    clear ho3
    have e3 : intoR [-1] [1] 1 = ([], 0, 1) := by decide
    rw [e3] at ⊢
    clear e3 hs3
    simp only
    go_wp2_with fail
    refine (awake10_any _).mono ?_
    rintro e w4 ⟨rfl, hb4⟩
    have hb14 : Below w1.heap.size w1 w4 := (by repeat (first | exact Below.refl _ _ | refine bl_al ?_ _ | refine bl_dr ?_ | refine bl_dN ?_ _ | refine bl_tr ?_ (by assumption)))
    have k0 : w4.cell? ⟨b1, o1, none⟩ = some (.int .i64 0) := (hb14.cell (p := ⟨b1, o1, none⟩) (cell_block_lt hx0)).trans hx0
    have k1 : w4.cell? ⟨b1, o1 + 1, none⟩ = some (.int .i64 (min M B)) := (hb14.cell (p := ⟨b1, o1 + 1, none⟩) (cell_block_lt hx1)).trans hx1
    go_wp2_with fail
    all_goals
      go_ret
      exact ⟨rfl, (by repeat (first | exact Below.refl _ _ | refine bl_al ?_ _ | refine bl_dr ?_ | refine bl_dN ?_ _ | refine bl_tr ?_ (by assumption)))⟩
  · go_wp2_with fail
    refine (fallInto_any _ _ [A, B] [3] M _ (by repeat (first | exact Sl.litAt _ _ [A, B] 2 _ rfl _ rfl (by decide) (by simp) | refine Sl.alloc ?_ _)) (by repeat (first | exact Sl.litAt _ _ [3] 1 _ rfl _ rfl (by decide) (by simp) | refine Sl.alloc ?_ _)) (show 2 ≤ 1000 by decide) (by decide)).mono ?_
    rintro e w2 ⟨u2, rfl, ho2, hb2⟩
    have hs2 := Sl.of_own ho2 rfl
    clear ho2
    rw [into_bad (by decide)] at hs2 ⊢
    simp only at hs2 ⊢
    obtain ⟨ao2, cap2, rfl, _, _, _⟩ := hs2
    go_wp2_with fail
    refine (fallInto_any _ _ [-1] [1] 1 _ ((Sl.litAt w2 _ [-1] 1 _ rfl _ rfl (by decide) rfl).alloc _) (Sl.litAt _ _ [1] 1 _ rfl _ rfl (by decide) (by simp)) (by decide) (by decide)).mono ?_
    rintro e w3 ⟨u3, rfl, ho3, hb3⟩
    have hs3 := Sl.of_own ho3 rfl
    clear ho3
    have e3 : intoR [-1] [1] 1 = ([], 0, 1) := by decide
    rw [e3] at ⊢
    clear e3 hs3
    simp only
    go_wp2_with fail
    refine (awake10_any _).mono ?_
    rintro e w4 ⟨rfl, hb4⟩
    have hb14 : Below w1.heap.size w1 w4 := (by repeat (first | exact Below.refl _ _ | refine bl_al ?_ _ | refine bl_dr ?_ | refine bl_dN ?_ _ | refine bl_tr ?_ (by assumption)))
    have k0 : w4.cell? ⟨b1, o1, none⟩ = some (.int .i64 0) := (hb14.cell (p := ⟨b1, o1, none⟩) (cell_block_lt hx0)).trans hx0
    have k1 : w4.cell? ⟨b1, o1 + 1, none⟩ = some (.int .i64 (min M B)) := (hb14.cell (p := ⟨b1, o1 + 1, none⟩) (cell_block_lt hx1)).trans hx1
    go_wp2_with fail
    all_goals
      go_ret
      exact ⟨rfl, (by repeat (first | exact Below.refl _ _ | refine bl_al ?_ _ | refine bl_dr ?_ | refine bl_dN ?_ _ | refine bl_tr ?_ (by assumption)))⟩
  · go_wp2_with fail
    refine (fallInto_any _ _ [A, B] [-1] M _ (by repeat (first | exact Sl.litAt _ _ [A, B] 2 _ rfl _ rfl (by decide) (by simp) | refine Sl.alloc ?_ _)) (by repeat (first | exact Sl.litAt _ _ [-1] 1 _ rfl _ rfl (by decide) (by simp) | refine Sl.alloc ?_ _)) (show 2 ≤ 1000 by decide) (by decide)).mono ?_
    rintro e w2 ⟨u2, rfl, ho2, hb2⟩
    have hs2 := Sl.of_own ho2 rfl
    clear ho2
    rw [into_bad (by decide)] at hs2 ⊢
    simp only at hs2 ⊢
    obtain ⟨ao2, cap2, rfl, _, _, _⟩ := hs2
    go_wp2_with fail
    refine (fallInto_any _ _ [-1] [1] 1 _ ((Sl.litAt w2 _ [-1] 1 _ rfl _ rfl (by decide) rfl).alloc _) (Sl.litAt _ _ [1] 1 _ rfl _ rfl (by decide) (by simp)) (by decide) (by decide)).mono ?_
    rintro e w3 ⟨u3, rfl, ho3, hb3⟩
    have hs3 := Sl.of_own ho3 rfl
    clear ho3
    have e3 : intoR [-1] [1] 1 = ([], 0, 1) := by decide
    rw [e3] at ⊢
    clear e3 hs3
    simp only
    go_wp2_with fail
    refine (awake10_any _).mono ?_
    rintro e w4 ⟨rfl, hb4⟩
    have hb14 : Below w1.heap.size w1 w4 := (by repeat (first | exact Below.refl _ _ | refine bl_al ?_ _ | refine bl_dr ?_ | refine bl_dN ?_ _ | refine bl_tr ?_ (by assumption)))
    have k0 : w4.cell? ⟨b1, o1, none⟩ = some (.int .i64 0) := (hb14.cell (p := ⟨b1, o1, none⟩) (cell_block_lt hx0)).trans hx0
    have k1 : w4.cell? ⟨b1, o1 + 1, none⟩ = some (.int .i64 (min M B)) := (hb14.cell (p := ⟨b1, o1 + 1, none⟩) (cell_block_lt hx1)).trans hx1
    go_wp2_with fail
    all_goals
      go_ret
      exact ⟨rfl, (by repeat (first | exact Below.refl _ _ | refine bl_al ?_ _ | refine bl_dr ?_ | refine bl_dN ?_ _ | refine bl_tr ?_ (by assumption)))⟩
  · go_wp2_with fail
    refine (fallInto_any _ _ [A, B] [2, 1, 2] M _ (by repeat (first | exact Sl.litAt _ _ [A, B] 2 _ rfl _ rfl (by decide) (by simp) | refine Sl.alloc ?_ _)) (by repeat (first | exact Sl.litAt _ _ [2, 1, 2] 3 _ rfl _ rfl (by decide) (by simp) | refine Sl.alloc ?_ _)) (show 2 ≤ 1000 by decide) (by decide)).mono ?_
    rintro e w2 ⟨u2, rfl, ho2, hb2⟩
    have hs2 := Sl.of_own ho2 rfl
    clear ho2
    rw [into_bad (by decide)] at hs2 ⊢
    simp only at hs2 ⊢
    obtain ⟨ao2, cap2, rfl, _, _, _⟩ := hs2
    go_wp2_with fail
    refine (fallInto_any _ _ [-1] [1] 1 _ ((Sl.litAt w2 _ [-1] 1 _ rfl _ rfl (by decide) rfl).alloc _) (Sl.litAt _ _ [1] 1 _ rfl _ rfl (by decide) (by simp)) (by decide) (by decide)).mono ?_
    rintro e w3 ⟨u3, rfl, ho3, hb3⟩
    have hs3 := Sl.of_own ho3 rfl
    clear ho3
    have e3 : intoR [-1] [1] 1 = ([], 0, 1) := by decide
    rw [e3] at ⊢
    clear e3 hs3
    simp only
    go_wp2_with fail
    refine (awake10_any _).mono ?_
    rintro e w4 ⟨rfl, hb4⟩
    have hb14 : Below w1.heap.size w1 w4 := (by repeat (first | exact Below.refl _ _ | refine bl_al ?_ _ | refine bl_dr ?_ | refine bl_dN ?_ _ | refine bl_tr ?_ (by assumption)))
    have k0 : w4.cell? ⟨b1, o1, none⟩ = some (.int .i64 0) := (hb14.cell (p := ⟨b1, o1, none⟩) (cell_block_lt hx0)).trans hx0
    have k1 : w4.cell? ⟨b1, o1 + 1, none⟩ = some (.int .i64 (min M B)) := (hb14.cell (p := ⟨b1, o1 + 1, none⟩) (cell_block_lt hx1)).trans hx1
    go_wp2_with fail
    all_goals
      go_ret
      exact ⟨rfl, (by repeat (first | exact Below.refl _ _ | refine bl_al ?_ _ | refine bl_dr ?_ | refine bl_dN ?_ _ | refine bl_tr ?_ (by assumption)))⟩
end Go.Proofs.Ytfikdnmbnbkchaa

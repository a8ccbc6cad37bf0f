/- lombardhelp.Same and Plain at api.Tranche: whether two lists are alike. -/
import Derived.Test.YtdjfpbjlmojikaaTerms
import Derived.Test.YtdjfpbjlmojikaaBytes
import Derived.Deep.RegionHeld3
import Derived.Deep.DrawnRows
import Derived.Laws.StructEq
import Derived.DeepKeys
namespace Go.Proofs.Ytdjfpbjlmojikaa
open Go.RowKit
attribute [local go_sem ↓] Go.wp_at_zero Go.wp_at_succ

theorem tr_guard (op : BinOp) (x y : Operand) (xs ys : Array Value) (W : World) : (eqGuard op 23 x y (.agg xs) (.agg ys)).run Try.prog W = .ok () W := run_eqGuard_agg W op _ x y xs ys (by kernel_rfl)
theorem tr_equal (x x' : Int) (g g' : Bool) (W : World) : (Op.equalIn 10000 23 (.agg #[.int .i64 x, .bool g]) (.agg #[.int .i64 x', .bool g'])).run Try.prog W = .ok (x == x' && g == g') W := by
  have u2 := Try.underlying2
  have u4 := Try.underlying4
  have a2 := Try.isAgg2
  have z2 := Try.sizeOf2
  have a4 := Try.isAgg4
  have z4 := Try.sizeOf4
  have hS : Try.prog.underlying 23 = some (.struct (Try.prog.fieldsOf 23)) := by kernel_rfl
  have hp : Try.prog.stoodInHeld 23 = false := by kernel_rfl
  rw [show (10000 : Nat) = 9999 + 1 from rfl, run_equalIn_agg W 9999 23 _ _ hS hp]
  simp only [Program.fieldsOf, Try.underlying23]
  go_simp
  by_cases h1 : x = x' <;> by_cases h2 : g = g' <;> simp [h1, h2]
theorem tr_eql (x x' : Int) (g g' : Bool) (W : World) : (binOp .eql 23 (.agg #[.int .i64 x, .bool g]) (.agg #[.int .i64 x', .bool g'])).run Try.prog W = .ok (.bool (x == x' && g == g')) W := by
  rw [run_eql_struct, tr_equal]; rfl
theorem tr_neq (x x' : Int) (g g' : Bool) (W : World) : (binOp .neq 23 (.agg #[.int .i64 x, .bool g]) (.agg #[.int .i64 x', .bool g'])).run Try.prog W = .ok (.bool (!(x == x' && g == g'))) W := by
  rw [run_neq_struct, tr_equal]; rfl
attribute [local go_sem] tr_guard

theorem eqT_any (x x' : Int) (g g' : Bool) (r : Bool) (hr : Hid ((x == x' && g == g') = r)) (w : World) : Calls Try.prog 49 #[.agg #[.int .i64 x, .bool g], .agg #[.int .i64 x', .bool g']] w (RetB (.bool r) w) := by
  have hq : (x == x' && g == g') = r := hr.out
  have ht : ∀ W : World, (binOp .eql 23 (.agg #[.int .i64 x, .bool g]) (.agg #[.int .i64 x', .bool g'])).run Try.prog W = .ok (.bool r) W := fun W => by rw [tr_eql, hq]
  clear hr hq
  go_enter Try.func49, Try.ntmps49
  go_wp2
  go_ret
  exact ⟨rfl, (by repeat (first | with_reducible exact Below.refl _ _ | (with_reducible refine bl_sc ?_ ?hge; case hge => (first | exact Nat.le_refl _ | omega)) | with_reducible refine bl_al ?_ _ | with_reducible refine bl_dr ?_ | with_reducible refine bl_dN ?_ _ | (refine bl_tr ?_ (by assumption)) | (refine bl_gr ?_ (by assumption) (by first | exact Nat.le_refl _ | omega)) | exact Below.refl _ _ | refine bl_al ?_ _ | refine bl_dr ?_ | refine bl_dN ?_ _))⟩

theorem getD_extT {xs ys : List (Int × Bool)} (hl : xs.length = ys.length) (h : ∀ j, j < xs.length → xs.getD j (0, false) = ys.getD j (0, false)) : xs = ys := by
  refine List.ext_getElem hl fun i h1 h2 => ?_
  have := h i h1
  simpa [List.getD, h1, h2] using this

set_option maxHeartbeats 800000 in
theorem sameT_any (v u : Value) (xs ys : List (Int × Bool)) (r : Bool) (hr : Hid ((xs == ys) = r)) (w : World) (hv : TrS w v xs) (hu : TrS w u ys) :
    Calls Try.prog 48 #[v, u, .func (.func 49) #[] #[]] w (RetB (.bool r) w) := by
  have HV := Lib.hid hv
  have HU := Lib.hid hu
  obtain ⟨ao, cap, rfl, h1, ⟨h2, _⟩, h3⟩ := hv
  obtain ⟨ao', cap', rfl, h1', ⟨h2', _⟩, h3'⟩ := hu
  unfold maxLen at h2 h2'
  clear h3 h3'
  by_cases hl : xs.length = ys.length
  · have hlb : ((xs.length : Int) != (ys.length : Int)) = false := by simp [hl]
    have HL := Lib.hid hl; clear hl
    go_enter Try.func48, Try.ntmps48
    go_wp2
    go_loopw [7] (fun i wr => ∃ k : Nat, k ≤ xs.length ∧ i = .int .i64 k ∧ Hid (∀ j, j < k → xs.getD j (0, false) = ys.getD j (0, false)) ∧ Below w.heap.size w wr) (fun i _ => xs.length - (intOf i).toNat)
    case atStart => exact ⟨0, Nat.zero_le _, rfl, fun j hj => absurd hj (by omega), Below.refl _ _⟩
    case round =>
      obtain ⟨k, hk, rfl, HN, hb⟩ := hrel
      by_cases hlt : k < xs.length
      · have hlt' : k < ys.length := by have := HL.out; omega
        have hki : (k : Int) < (xs.length : Int) := by omega
        have hki' : (k : Int) < (ys.length : Int) := by omega
        have hk0 : (0 : Int) ≤ (k : Int) := by omega
        obtain ⟨b, o, x, g, rfl, f0, f1, HX⟩ := (HV.out.below hb).get (i := k) hlt
        obtain ⟨b', o', x', g', rfl, f2, f3, HY⟩ := (HU.out.below hb).get (i := k) hlt'
        cases hq : (x == x' && g == g') with
        | true =>
          have HQ := Lib.hid hq
          have HE : Hid (xs.getD k (0, false) = ys.getD k (0, false)) := by
            show _ = _
            rw [HX.out, HY.out]
            simp at hq
            rw [hq.1, hq.2]
          clear hq
          go_wp2_with fail
          go_region_held3 (fun w' => w'.cell? ⟨b, o + k * 2, none⟩ = some (.int .i64 x) ∧ w'.cell? ⟨b, o + k * 2 + 1, none⟩ = some (.bool g) ∧ w'.cell? ⟨b', o' + k * 2, none⟩ = some (.int .i64 x') ∧ w'.cell? ⟨b', o' + k * 2 + 1, none⟩ = some (.bool g'))
            (first | assumption | exact ⟨f0, f1, f2, f3⟩)
            (first | (go_at_call 49; refine (eqT_any x x' g g' true HQ _).mono ?_; rintro e w1 ⟨rfl, hb1⟩; have hbw1 : Below w.heap.size w w1 := (by first | exact bl_tr hb hb1 | exact bl_tr (bl_dr hb) hb1); have hS1 : w1.cell? ⟨b, o + k * 2, none⟩ = some (.int .i64 x) ∧ w1.cell? ⟨b, o + k * 2 + 1, none⟩ = some (.bool g) ∧ w1.cell? ⟨b', o' + k * 2, none⟩ = some (.int .i64 x') ∧ w1.cell? ⟨b', o' + k * 2 + 1, none⟩ = some (.bool g') := ⟨(hb1.cell (p := ⟨b, o + k * 2, none⟩) (cell_block_lt f0)).trans f0, (hb1.cell (p := ⟨b, o + k * 2 + 1, none⟩) (cell_block_lt f1)).trans f1, (hb1.cell (p := ⟨b', o' + k * 2, none⟩) (cell_block_lt f2)).trans f2, (hb1.cell (p := ⟨b', o' + k * 2 + 1, none⟩) (cell_block_lt f3)).trans f3⟩))
          all_goals
            clear hS1 f0 f1 f2 f3
            go_wp2
            go_roundw
            case rel => exact ⟨k + 1, hlt, by go_num, fun j hj => by
              rcases Nat.lt_succ_iff_lt_or_eq.1 hj with h' | rfl
              · exact HN.out j h'
              · exact HE.out, hbw1⟩
            case measure => simp [intOf]; omega
        | false =>
          have HQ := Lib.hid hq
          have e : r = false := by
            rw [← hr.out]
            simp only [beq_eq_false_iff_ne, ne_eq]
            intro hxy
            have h1 := HX.out
            rw [hxy, HY.out] at h1
            simp only [Prod.mk.injEq] at h1
            simp [h1.1, h1.2] at hq
          subst e
          clear hq
          go_wp2_with fail
          go_region_held3 (fun w' => w'.cell? ⟨b, o + k * 2, none⟩ = some (.int .i64 x) ∧ w'.cell? ⟨b, o + k * 2 + 1, none⟩ = some (.bool g) ∧ w'.cell? ⟨b', o' + k * 2, none⟩ = some (.int .i64 x') ∧ w'.cell? ⟨b', o' + k * 2 + 1, none⟩ = some (.bool g'))
            (first | assumption | exact ⟨f0, f1, f2, f3⟩)
            (first | (go_at_call 49; refine (eqT_any x x' g g' false HQ _).mono ?_; rintro e w1 ⟨rfl, hb1⟩; have hbw1 : Below w.heap.size w w1 := (by first | exact bl_tr hb hb1 | exact bl_tr (bl_dr hb) hb1); have hS1 : w1.cell? ⟨b, o + k * 2, none⟩ = some (.int .i64 x) ∧ w1.cell? ⟨b, o + k * 2 + 1, none⟩ = some (.bool g) ∧ w1.cell? ⟨b', o' + k * 2, none⟩ = some (.int .i64 x') ∧ w1.cell? ⟨b', o' + k * 2 + 1, none⟩ = some (.bool g') := ⟨(hb1.cell (p := ⟨b, o + k * 2, none⟩) (cell_block_lt f0)).trans f0, (hb1.cell (p := ⟨b, o + k * 2 + 1, none⟩) (cell_block_lt f1)).trans f1, (hb1.cell (p := ⟨b', o' + k * 2, none⟩) (cell_block_lt f2)).trans f2, (hb1.cell (p := ⟨b', o' + k * 2 + 1, none⟩) (cell_block_lt f3)).trans f3⟩))
          all_goals
            clear hS1 f0 f1 f2 f3
            go_wp2
            go_ret
            exact ⟨rfl, hbw1⟩
      · have e : r = true := by
          rw [← hr.out]
          simp
          exact getD_extT HL.out fun j hj => HN.out j (by omega)
        subst e
        go_wp2
        go_ret
        exact ⟨rfl, hb⟩
  · have hlb : ((xs.length : Int) != (ys.length : Int)) = true := by simp; omega
    go_enter Try.func48, Try.ntmps48
    go_wp2
    go_ret
    have e : r = false := by rw [← hr.out]; simp; intro h; exact hl (by rw [h])
    subst e
    exact (Ret.mk _ _).b

theorem plainT_any (v u : Value) (xs ys : List (Int × Bool)) (r : Bool) (hr : Hid ((xs == ys) = r)) (w : World) (hv : TrS w v xs) (hu : TrS w u ys) :
    Calls Try.prog 45 #[v, u] w (RetB (.bool r) w) := by
  go_enter Try.func45, Try.ntmps45
  go_wp2_with (go_at_call 48; refine (sameT_any _ _ xs ys r hr _ hv hu).mono ?_; rintro e w' ⟨rfl, hb⟩)
  go_ret
  exact ⟨rfl, hb⟩
end Go.Proofs.Ytdjfpbjlmojikaa

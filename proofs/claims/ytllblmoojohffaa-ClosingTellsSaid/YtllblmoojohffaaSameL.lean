/- lombardhelp.Same and Plain at api.Line, and Statement: two that read the same are alike. -/
import Derived.Test.YtllblmoojohffaaLaw18
import Derived.Deep.RegionHeld3
import Derived.Deep.DrawnRows
import Derived.Laws.StructEq
import Derived.DeepKeys
namespace Go.Proofs.Ytllblmoojohffaa
open Go.RowKit
attribute [local go_sem ↓] Go.wp_at_zero Go.wp_at_succ

theorem ln_guard (op : BinOp) (x y : Operand) (xs ys : Array Value) (W : World) : (eqGuard op 57 x y (.agg xs) (.agg ys)).run Try.prog W = .ok () W := run_eqGuard_agg W op _ x y xs ys (by kernel_rfl)
theorem ln_eql (a b c : Int) (W : World) : (binOp .eql 57 (.agg #[.int .i64 a, .int .i64 b, .int .i64 c]) (.agg #[.int .i64 a, .int .i64 b, .int .i64 c])).run Try.prog W = .ok (.bool true) W := by
  have u2 := Try.underlying2
  have a2 := Try.isAgg2
  have z2 := Try.sizeOf2
  have hS : Try.prog.underlying 57 = some (.struct (Try.prog.fieldsOf 57)) := by kernel_rfl
  have hp : Try.prog.stoodInHeld 57 = false := by kernel_rfl
  rw [run_eql_struct, show (10000 : Nat) = 9999 + 1 from rfl, run_equalIn_agg W 9999 57 _ _ hS hp]
  simp only [Program.fieldsOf, Try.underlying57]
  go_simp
attribute [local go_sem] ln_guard

theorem eqLn_any (a b c : Int) (w : World) : Calls Try.prog 74 #[.agg #[.int .i64 a, .int .i64 b, .int .i64 c], .agg #[.int .i64 a, .int .i64 b, .int .i64 c]] w (RetB (.bool true) w) := by
  have ht := fun W : World => ln_eql a b c W
  go_enter Try.func74, Try.ntmps74
  go_wp2
  go_ret
  exact ⟨rfl, (by repeat (first | with_reducible exact Below.refl _ _ | (with_reducible refine bl_sc ?_ ?hge; case hge => (first | exact Nat.le_refl _ | omega)) | with_reducible refine bl_al ?_ _ | with_reducible refine bl_dr ?_ | with_reducible refine bl_dN ?_ _ | (refine bl_tr ?_ (by assumption)) | (refine bl_gr ?_ (by assumption) (by first | exact Nat.le_refl _ | omega)) | exact Below.refl _ _ | refine bl_al ?_ _ | refine bl_dr ?_ | refine bl_dN ?_ _))⟩
theorem LnS.get {w : World} {ao : Option Addr} {n cap : Nat} {ls : List (Int × Int × Int)} (h : LnS w (.slice ao n cap) ls) {i : Nat} (hi : i < ls.length) :
    ∃ b o x y z, ao = some ⟨b, o, none⟩ ∧ w.cell? ⟨b, o + i * 3, none⟩ = some (.int .i64 x) ∧ w.cell? ⟨b, o + i * 3 + 1, none⟩ = some (.int .i64 y) ∧ w.cell? ⟨b, o + i * 3 + 2, none⟩ = some (.int .i64 z) ∧ Hid (ls.getD i (0, 0, 0) = (x, y, z)) := by
  obtain ⟨ao', cap', e, h1, h2, h3⟩ := h
  cases e
  obtain ⟨b, o, rfl, hc⟩ := h3 (by intro h; rw [h] at hi; simp at hi)
  exact ⟨b, o, _, _, _, rfl, (hc i hi).1, (hc i hi).2.1, (hc i hi).2.2, rfl⟩

set_option maxHeartbeats 1600000 in
theorem sameLn_any (v u : Value) (xs : List (Int × Int × Int)) (w : World) (hv : LnS w v xs) (hu : LnS w u xs) :
    Calls Try.prog 73 #[v, u, .func (.func 74) #[] #[]] w (RetB (.bool true) w) := by
  have HV := Lib.hid hv
  have HU := Lib.hid hu
  obtain ⟨ao, cap, rfl, h1, ⟨h2, _⟩, h3⟩ := hv
  obtain ⟨ao', cap', rfl, h1', ⟨h2', _⟩, h3'⟩ := hu
  unfold maxLen at h2 h2'
  clear h3 h3'
  have hlb : ((xs.length : Int) != (xs.length : Int)) = false := by simp
  go_enter Try.func73, Try.ntmps73
  go_wp2
  go_loopw [7] (fun i wr => ∃ k : Nat, k ≤ xs.length ∧ i = .int .i64 k ∧ Below w.heap.size w wr) (fun i _ => xs.length - (intOf i).toNat)
  case atStart => exact ⟨0, Nat.zero_le _, rfl, Below.refl _ _⟩
  case round =>
    obtain ⟨k, hk, rfl, hb⟩ := hrel
    by_cases hlt : k < xs.length
    · have hki : (k : Int) < (xs.length : Int) := by omega
      have hk0 : (0 : Int) ≤ (k : Int) := by omega
      obtain ⟨b, o, x, y, z, rfl, f0, f1, f2, HX⟩ := (HV.out.below hb).get (i := k) hlt
      obtain ⟨b', o', x', y', z', rfl, f3, f4, f5, HY⟩ := (HU.out.below hb).get (i := k) hlt
      obtain ⟨rfl, rfl, rfl⟩ : x = x' ∧ y = y' ∧ z = z' := by
        have h1 := HX.out
        rw [HY.out] at h1
        simp only [Prod.mk.injEq] at h1
        exact ⟨h1.1.symm, h1.2.1.symm, h1.2.2.symm⟩
      go_wp2_with fail
      go_region_held3 (fun w' => w'.cell? ⟨b, o + k * 3, none⟩ = some (.int .i64 x) ∧ w'.cell? ⟨b, o + k * 3 + 1, none⟩ = some (.int .i64 y) ∧ w'.cell? ⟨b, o + k * 3 + 2, none⟩ = some (.int .i64 z) ∧ w'.cell? ⟨b', o' + k * 3, none⟩ = some (.int .i64 x) ∧ w'.cell? ⟨b', o' + k * 3 + 1, none⟩ = some (.int .i64 y) ∧ w'.cell? ⟨b', o' + k * 3 + 2, none⟩ = some (.int .i64 z))
        (first | assumption | exact ⟨f0, f1, f2, f3, f4, f5⟩)
        (first | (go_at_call 74; refine (eqLn_any x y z _).mono ?_; rintro e w1 ⟨rfl, hb1⟩; have hbw1 : Below w.heap.size w w1 := (by first | exact bl_tr hb hb1 | exact bl_tr (bl_dr hb) hb1); have hS1 : w1.cell? ⟨b, o + k * 3, none⟩ = some (.int .i64 x) ∧ w1.cell? ⟨b, o + k * 3 + 1, none⟩ = some (.int .i64 y) ∧ w1.cell? ⟨b, o + k * 3 + 2, none⟩ = some (.int .i64 z) ∧ w1.cell? ⟨b', o' + k * 3, none⟩ = some (.int .i64 x) ∧ w1.cell? ⟨b', o' + k * 3 + 1, none⟩ = some (.int .i64 y) ∧ w1.cell? ⟨b', o' + k * 3 + 2, none⟩ = some (.int .i64 z) := ⟨(hb1.cell (p := ⟨b, o + k * 3, none⟩) (cell_block_lt f0)).trans f0, (hb1.cell (p := ⟨b, o + k * 3 + 1, none⟩) (cell_block_lt f1)).trans f1, (hb1.cell (p := ⟨b, o + k * 3 + 2, none⟩) (cell_block_lt f2)).trans f2, (hb1.cell (p := ⟨b', o' + k * 3, none⟩) (cell_block_lt f3)).trans f3, (hb1.cell (p := ⟨b', o' + k * 3 + 1, none⟩) (cell_block_lt f4)).trans f4, (hb1.cell (p := ⟨b', o' + k * 3 + 2, none⟩) (cell_block_lt f5)).trans f5⟩))
      all_goals
        clear hS1 f0 f1 f2 f3 f4 f5
        go_wp2
        go_roundw
        case rel => exact ⟨k + 1, hlt, by go_num, hbw1⟩
        case measure => simp [intOf]; omega
    · go_wp2
      go_ret
      exact ⟨rfl, hb⟩
theorem plainLn_any (v u : Value) (xs : List (Int × Int × Int)) (w : World) (hv : LnS w v xs) (hu : LnS w u xs) :
    Calls Try.prog 53 #[v, u] w (RetB (.bool true) w) := by
  go_enter Try.func53, Try.ntmps53
  go_wp2_with (go_at_call 73; refine (sameLn_any _ _ xs _ hv hu).mono ?_; rintro e w' ⟨rfl, hb⟩)
  go_ret
  exact ⟨rfl, hb⟩
theorem span_guard (op : BinOp) (x y : Operand) (xs ys : Array Value) (W : World) : (eqGuard op 48 x y (.agg xs) (.agg ys)).run Try.prog W = .ok () W := run_eqGuard_agg W op _ x y xs ys (by kernel_rfl)
theorem span_eql (a b : Int) (W : World) : (binOp .eql 48 (.agg #[.int .i64 a, .int .i64 b]) (.agg #[.int .i64 a, .int .i64 b])).run Try.prog W = .ok (.bool true) W := by
  have u2 := Try.underlying3
  have a2 := Try.isAgg3
  have z2 := Try.sizeOf3
  have hS : Try.prog.underlying 48 = some (.struct (Try.prog.fieldsOf 48)) := by kernel_rfl
  have hp : Try.prog.stoodInHeld 48 = false := by kernel_rfl
  rw [run_eql_struct, show (10000 : Nat) = 9999 + 1 from rfl, run_equalIn_agg W 9999 48 _ _ hS hp]
  simp only [Program.fieldsOf, Try.underlying48]
  go_simp
attribute [local go_sem] span_guard
theorem stm_two (w : World) (e : TypeId) (xs ys : List Value) : Hid (Blk ((w.alloc (.cells xs.toArray e)).alloc (.cells ys.toArray e)) w.heap.size e xs) ∧ Hid (Blk ((w.alloc (.cells xs.toArray e)).alloc (.cells ys.toArray e)) (w.heap.size + 1) e ys) ∧ Hid (Below w.heap.size w ((w.alloc (.cells xs.toArray e)).alloc (.cells ys.toArray e))) := by
  refine ⟨Blk.below (heap_alloc_new w _) (bl_al (Below.refl _ _) _), ?_, bl_al (bl_al (Below.refl _ _) _) _⟩
  have := heap_alloc_new (w.alloc (.cells xs.toArray e)) (.cells ys.toArray e)
  rw [World.size_alloc] at this
  exact this
set_option maxHeartbeats 3200000 in
theorem sameStmt_any (v u : Value) (ls : List (Int × Int × Int)) (n fr til du t c m : Int) (g : Bool) (w : World) (hv : LnS w v ls) (hu : LnS w u ls) :
    Calls Try.prog 31 #[.agg #[.int .i64 n, .int .i64 fr, .int .i64 til, .int .i64 du, v, .int .i64 t, .int .i64 c, .int .i64 m, .bool g], .agg #[.int .i64 n, .int .i64 fr, .int .i64 til, .int .i64 du, u, .int .i64 t, .int .i64 c, .int .i64 m, .bool g]] w (RetB (.bool true) w) := by
  have HV := Lib.hid hv
  have HU := Lib.hid hu
  obtain ⟨ao, cap, rfl⟩ := hv.shape
  obtain ⟨ao', cap', rfl⟩ := hu.shape
  clear hv hu
  have hsp := fun W => span_eql fr til W
  obtain ⟨HA, HB, HW0⟩ := stm_two w 51 [.int .i64 n, .int .i64 fr, .int .i64 til, .int .i64 du, .slice ao ls.length cap, .int .i64 t, .int .i64 c, .int .i64 m, .bool g] [.int .i64 n, .int .i64 fr, .int .i64 til, .int .i64 du, .slice ao' ls.length cap', .int .i64 t, .int .i64 c, .int .i64 m, .bool g]
  go_enter Try.func31, Try.ntmps31
  go_wp2_with fail
  refine (plainLn_any _ _ ls _ (HV.out.below HW0.out) (HU.out.below HW0.out)).mono ?_
  rintro _ w1 ⟨rfl, hb1⟩
  have hA := HA.out.below hb1
  have hB := HB.out.below hb1
  have a0 := hA.cell 0
  have a1 := hA.cell 1
  have a2 := hA.cell 2
  have a3 := hA.cell 3
  have a4 := hA.cell 4
  have a5 := hA.cell 5
  have a6 := hA.cell 6
  have a7 := hA.cell 7
  have a8 := hA.cell 8
  simp only [List.getElem?_cons_zero, List.getElem?_cons_succ] at a0 a1 a2 a3 a4 a5 a6 a7 a8
  have b0 := hB.cell 0
  have b1 := hB.cell 1
  have b2 := hB.cell 2
  have b3 := hB.cell 3
  have b4 := hB.cell 4
  have b5 := hB.cell 5
  have b6 := hB.cell 6
  have b7 := hB.cell 7
  have b8 := hB.cell 8
  simp only [List.getElem?_cons_zero, List.getElem?_cons_succ] at b0 b1 b2 b3 b4 b5 b6 b7 b8
  have HBF := Lib.hid (bl_tr HW0.out hb1)
  clear hA hB hb1
  go_wp2_with fail
  go_ret
  exact ⟨rfl, HBF.out⟩
end Go.Proofs.Ytllblmoojohffaa

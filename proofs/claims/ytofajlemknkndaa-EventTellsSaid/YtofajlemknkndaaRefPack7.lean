/- lombardref07.Pack: the document's answer: an event as forty bytes. -/
import Derived.Test.YtofajlemknkndaaEvPack
import Derived.Test.YtofajlemknkndaaReader
import Derived.Test.YtofajlemknkndaaTermsPack
import Derived.Deep.WholeRow
namespace Go.Proofs.Ytofajlemknkndaa
open Go.RowKit

theorem gr_of_bl {w w' : World} (h : Below w.heap.size w w') (r : Option Nat) : w.grownBy w' r := ⟨h.os, h.tape, h.output, h.size, fun k hk _ => h.block k hk⟩
/-- the first m bytes of L, zeros behind -/
def fillN (L : List Int) (m : Nat) : List Int := L.take m ++ List.replicate (L.length - m) 0
theorem fillN_length (L : List Int) {m : Nat} (h : m ≤ L.length) : (fillN L m).length = L.length := by simp [fillN]; omega
theorem fillN_set (L : List Int) {m : Nat} (h : m < L.length) : (fillN L m).set m (L.getD m 0) = fillN L (m + 1) := by
  unfold fillN
  have e : L.length - m = (L.length - (m + 1)) + 1 := by omega
  rw [e, List.replicate_succ, List.set_append_right _ _ (by simp; omega)]
  have e2 : m - (L.take m).length = 0 := by simp; omega
  rw [e2, List.take_succ_eq_append_getElem h, List.append_assoc]
  simp [List.getD, h]
theorem packE_get {k d t a r : Int} {i j : Nat} (hi : i < 5) (hj : j < 8) : (packE k d t a r).getD (8 * i + j) 0 = (be8 ([k, d, t, a, r].getD i 0)).getD j 0 := by
  have h1 : i = 0 ∨ i = 1 ∨ i = 2 ∨ i = 3 ∨ i = 4 := by omega
  have h2 : j = 0 ∨ j = 1 ∨ j = 2 ∨ j = 3 ∨ j = 4 ∨ j = 5 ∨ j = 6 ∨ j = 7 := by omega
  rcases h1 with rfl | rfl | rfl | rfl | rfl <;> rcases h2 with rfl | rfl | rfl | rfl | rfl | rfl | rfl | rfl <;> rfl

set_option maxRecDepth 100000 in
set_option maxHeartbeats 800000 in
theorem refPack7_any (k d t a r : Int) (w : World) : Calls Try.prog 31 #[.agg #[.int .i64 k, .int .i64 d, .int .i64 t, .int .i64 a, .int .i64 r]] w (RetB (arrV (packE k d t a r)) w) := by
  have HLL := Lib.hid (packE_length k d t a r)
  have HPG := Lib.hid (fun (i j : Nat) (hi : i < 5) (hj : j < 8) => packE_get (k := k) (d := d) (t := t) (a := a) (r := r) hi hj)
  obtain ⟨L, hL⟩ : ∃ L, packE k d t a r = L := ⟨_, rfl⟩
  rw [hL] at HLL HPG ⊢
  clear hL
  go_enter Try.func31, Try.ntmps31
  go_wp2_with fail
  have hbW : Below w.heap.size w ((((w.alloc (.cells #[.int .i64 k, .int .i64 d, .int .i64 t, .int .i64 a, .int .i64 r] 49)).alloc (.cells #[.int .u8 0, .int .u8 0, .int .u8 0, .int .u8 0, .int .u8 0, .int .u8 0, .int .u8 0, .int .u8 0, .int .u8 0, .int .u8 0, .int .u8 0, .int .u8 0, .int .u8 0, .int .u8 0, .int .u8 0, .int .u8 0, .int .u8 0, .int .u8 0, .int .u8 0, .int .u8 0, .int .u8 0, .int .u8 0, .int .u8 0, .int .u8 0, .int .u8 0, .int .u8 0, .int .u8 0, .int .u8 0, .int .u8 0, .int .u8 0, .int .u8 0, .int .u8 0, .int .u8 0, .int .u8 0, .int .u8 0, .int .u8 0, .int .u8 0, .int .u8 0, .int .u8 0, .int .u8 0] 54)).alloc (.cells #[.int .u8 0, .int .u8 0, .int .u8 0, .int .u8 0, .int .u8 0, .int .u8 0, .int .u8 0, .int .u8 0, .int .u8 0, .int .u8 0, .int .u8 0, .int .u8 0, .int .u8 0, .int .u8 0, .int .u8 0, .int .u8 0, .int .u8 0, .int .u8 0, .int .u8 0, .int .u8 0, .int .u8 0, .int .u8 0, .int .u8 0, .int .u8 0, .int .u8 0, .int .u8 0, .int .u8 0, .int .u8 0, .int .u8 0, .int .u8 0, .int .u8 0, .int .u8 0, .int .u8 0, .int .u8 0, .int .u8 0, .int .u8 0, .int .u8 0, .int .u8 0, .int .u8 0, .int .u8 0] 54)).alloc (.cells #[.int .i64 k, .int .i64 d, .int .i64 t, .int .i64 a, .int .i64 r] 2)) := (by repeat (first | with_reducible exact Below.refl _ _ | (with_reducible refine bl_sc ?_ ?hge; case hge => (first | exact Nat.le_refl _ | omega)) | with_reducible refine bl_al ?_ _ | with_reducible refine bl_dr ?_ | with_reducible refine bl_dN ?_ _ | (refine bl_tr ?_ (by assumption)) | (refine bl_gr ?_ (by assumption) (by first | exact Nat.le_refl _ | omega)) | exact Below.refl _ _ | refine bl_al ?_ _ | refine bl_dr ?_ | refine bl_dN ?_ _))
  have hsz : ((((w.alloc (.cells #[.int .i64 k, .int .i64 d, .int .i64 t, .int .i64 a, .int .i64 r] 49)).alloc (.cells #[.int .u8 0, .int .u8 0, .int .u8 0, .int .u8 0, .int .u8 0, .int .u8 0, .int .u8 0, .int .u8 0, .int .u8 0, .int .u8 0, .int .u8 0, .int .u8 0, .int .u8 0, .int .u8 0, .int .u8 0, .int .u8 0, .int .u8 0, .int .u8 0, .int .u8 0, .int .u8 0, .int .u8 0, .int .u8 0, .int .u8 0, .int .u8 0, .int .u8 0, .int .u8 0, .int .u8 0, .int .u8 0, .int .u8 0, .int .u8 0, .int .u8 0, .int .u8 0, .int .u8 0, .int .u8 0, .int .u8 0, .int .u8 0, .int .u8 0, .int .u8 0, .int .u8 0, .int .u8 0] 54)).alloc (.cells #[.int .u8 0, .int .u8 0, .int .u8 0, .int .u8 0, .int .u8 0, .int .u8 0, .int .u8 0, .int .u8 0, .int .u8 0, .int .u8 0, .int .u8 0, .int .u8 0, .int .u8 0, .int .u8 0, .int .u8 0, .int .u8 0, .int .u8 0, .int .u8 0, .int .u8 0, .int .u8 0, .int .u8 0, .int .u8 0, .int .u8 0, .int .u8 0, .int .u8 0, .int .u8 0, .int .u8 0, .int .u8 0, .int .u8 0, .int .u8 0, .int .u8 0, .int .u8 0, .int .u8 0, .int .u8 0, .int .u8 0, .int .u8 0, .int .u8 0, .int .u8 0, .int .u8 0, .int .u8 0] 54)).alloc (.cells #[.int .i64 k, .int .i64 d, .int .i64 t, .int .i64 a, .int .i64 r] 2)).heap.size = w.heap.size + 4 := by simp
  have hK1 : Blk ((((w.alloc (.cells #[.int .i64 k, .int .i64 d, .int .i64 t, .int .i64 a, .int .i64 r] 49)).alloc (.cells #[.int .u8 0, .int .u8 0, .int .u8 0, .int .u8 0, .int .u8 0, .int .u8 0, .int .u8 0, .int .u8 0, .int .u8 0, .int .u8 0, .int .u8 0, .int .u8 0, .int .u8 0, .int .u8 0, .int .u8 0, .int .u8 0, .int .u8 0, .int .u8 0, .int .u8 0, .int .u8 0, .int .u8 0, .int .u8 0, .int .u8 0, .int .u8 0, .int .u8 0, .int .u8 0, .int .u8 0, .int .u8 0, .int .u8 0, .int .u8 0, .int .u8 0, .int .u8 0, .int .u8 0, .int .u8 0, .int .u8 0, .int .u8 0, .int .u8 0, .int .u8 0, .int .u8 0, .int .u8 0] 54)).alloc (.cells #[.int .u8 0, .int .u8 0, .int .u8 0, .int .u8 0, .int .u8 0, .int .u8 0, .int .u8 0, .int .u8 0, .int .u8 0, .int .u8 0, .int .u8 0, .int .u8 0, .int .u8 0, .int .u8 0, .int .u8 0, .int .u8 0, .int .u8 0, .int .u8 0, .int .u8 0, .int .u8 0, .int .u8 0, .int .u8 0, .int .u8 0, .int .u8 0, .int .u8 0, .int .u8 0, .int .u8 0, .int .u8 0, .int .u8 0, .int .u8 0, .int .u8 0, .int .u8 0, .int .u8 0, .int .u8 0, .int .u8 0, .int .u8 0, .int .u8 0, .int .u8 0, .int .u8 0, .int .u8 0] 54)).alloc (.cells #[.int .i64 k, .int .i64 d, .int .i64 t, .int .i64 a, .int .i64 r] 2)) (w.heap.size + 1) 54 ((#[.int .u8 0, .int .u8 0, .int .u8 0, .int .u8 0, .int .u8 0, .int .u8 0, .int .u8 0, .int .u8 0, .int .u8 0, .int .u8 0, .int .u8 0, .int .u8 0, .int .u8 0, .int .u8 0, .int .u8 0, .int .u8 0, .int .u8 0, .int .u8 0, .int .u8 0, .int .u8 0, .int .u8 0, .int .u8 0, .int .u8 0, .int .u8 0, .int .u8 0, .int .u8 0, .int .u8 0, .int .u8 0, .int .u8 0, .int .u8 0, .int .u8 0, .int .u8 0, .int .u8 0, .int .u8 0, .int .u8 0, .int .u8 0, .int .u8 0, .int .u8 0, .int .u8 0, .int .u8 0] : Array Value).toList) := by
    refine Blk.below (w := ((w.alloc (.cells #[.int .i64 k, .int .i64 d, .int .i64 t, .int .i64 a, .int .i64 r] 49)).alloc (.cells #[.int .u8 0, .int .u8 0, .int .u8 0, .int .u8 0, .int .u8 0, .int .u8 0, .int .u8 0, .int .u8 0, .int .u8 0, .int .u8 0, .int .u8 0, .int .u8 0, .int .u8 0, .int .u8 0, .int .u8 0, .int .u8 0, .int .u8 0, .int .u8 0, .int .u8 0, .int .u8 0, .int .u8 0, .int .u8 0, .int .u8 0, .int .u8 0, .int .u8 0, .int .u8 0, .int .u8 0, .int .u8 0, .int .u8 0, .int .u8 0, .int .u8 0, .int .u8 0, .int .u8 0, .int .u8 0, .int .u8 0, .int .u8 0, .int .u8 0, .int .u8 0, .int .u8 0, .int .u8 0] 54))) (by unfold Blk; rw [Array.toArray_toList]; exact heap_alloc2_new w _ _) (by repeat (first | with_reducible exact Below.refl _ _ | (with_reducible refine bl_sc ?_ ?hge; case hge => (first | exact Nat.le_refl _ | omega)) | with_reducible refine bl_al ?_ _ | with_reducible refine bl_dr ?_ | with_reducible refine bl_dN ?_ _ | (refine bl_tr ?_ (by assumption)) | (refine bl_gr ?_ (by assumption) (by first | exact Nat.le_refl _ | omega)) | exact Below.refl _ _ | refine bl_al ?_ _ | refine bl_dr ?_ | refine bl_dN ?_ _))
  have hK2 : Blk ((((w.alloc (.cells #[.int .i64 k, .int .i64 d, .int .i64 t, .int .i64 a, .int .i64 r] 49)).alloc (.cells #[.int .u8 0, .int .u8 0, .int .u8 0, .int .u8 0, .int .u8 0, .int .u8 0, .int .u8 0, .int .u8 0, .int .u8 0, .int .u8 0, .int .u8 0, .int .u8 0, .int .u8 0, .int .u8 0, .int .u8 0, .int .u8 0, .int .u8 0, .int .u8 0, .int .u8 0, .int .u8 0, .int .u8 0, .int .u8 0, .int .u8 0, .int .u8 0, .int .u8 0, .int .u8 0, .int .u8 0, .int .u8 0, .int .u8 0, .int .u8 0, .int .u8 0, .int .u8 0, .int .u8 0, .int .u8 0, .int .u8 0, .int .u8 0, .int .u8 0, .int .u8 0, .int .u8 0, .int .u8 0] 54)).alloc (.cells #[.int .u8 0, .int .u8 0, .int .u8 0, .int .u8 0, .int .u8 0, .int .u8 0, .int .u8 0, .int .u8 0, .int .u8 0, .int .u8 0, .int .u8 0, .int .u8 0, .int .u8 0, .int .u8 0, .int .u8 0, .int .u8 0, .int .u8 0, .int .u8 0, .int .u8 0, .int .u8 0, .int .u8 0, .int .u8 0, .int .u8 0, .int .u8 0, .int .u8 0, .int .u8 0, .int .u8 0, .int .u8 0, .int .u8 0, .int .u8 0, .int .u8 0, .int .u8 0, .int .u8 0, .int .u8 0, .int .u8 0, .int .u8 0, .int .u8 0, .int .u8 0, .int .u8 0, .int .u8 0] 54)).alloc (.cells #[.int .i64 k, .int .i64 d, .int .i64 t, .int .i64 a, .int .i64 r] 2)) (w.heap.size + 2) 54 ((fillN L 0).map (Value.int .u8)) := by
    have e : (fillN L 0).map (Value.int .u8) = (#[.int .u8 0, .int .u8 0, .int .u8 0, .int .u8 0, .int .u8 0, .int .u8 0, .int .u8 0, .int .u8 0, .int .u8 0, .int .u8 0, .int .u8 0, .int .u8 0, .int .u8 0, .int .u8 0, .int .u8 0, .int .u8 0, .int .u8 0, .int .u8 0, .int .u8 0, .int .u8 0, .int .u8 0, .int .u8 0, .int .u8 0, .int .u8 0, .int .u8 0, .int .u8 0, .int .u8 0, .int .u8 0, .int .u8 0, .int .u8 0, .int .u8 0, .int .u8 0, .int .u8 0, .int .u8 0, .int .u8 0, .int .u8 0, .int .u8 0, .int .u8 0, .int .u8 0, .int .u8 0] : Array Value).toList := by
      unfold fillN
      rw [HLL.out]
      rfl
    rw [e]
    have h := heap_alloc_new ((w.alloc (.cells #[.int .i64 k, .int .i64 d, .int .i64 t, .int .i64 a, .int .i64 r] 49)).alloc (.cells #[.int .u8 0, .int .u8 0, .int .u8 0, .int .u8 0, .int .u8 0, .int .u8 0, .int .u8 0, .int .u8 0, .int .u8 0, .int .u8 0, .int .u8 0, .int .u8 0, .int .u8 0, .int .u8 0, .int .u8 0, .int .u8 0, .int .u8 0, .int .u8 0, .int .u8 0, .int .u8 0, .int .u8 0, .int .u8 0, .int .u8 0, .int .u8 0, .int .u8 0, .int .u8 0, .int .u8 0, .int .u8 0, .int .u8 0, .int .u8 0, .int .u8 0, .int .u8 0, .int .u8 0, .int .u8 0, .int .u8 0, .int .u8 0, .int .u8 0, .int .u8 0, .int .u8 0, .int .u8 0] 54)) (.cells #[.int .u8 0, .int .u8 0, .int .u8 0, .int .u8 0, .int .u8 0, .int .u8 0, .int .u8 0, .int .u8 0, .int .u8 0, .int .u8 0, .int .u8 0, .int .u8 0, .int .u8 0, .int .u8 0, .int .u8 0, .int .u8 0, .int .u8 0, .int .u8 0, .int .u8 0, .int .u8 0, .int .u8 0, .int .u8 0, .int .u8 0, .int .u8 0, .int .u8 0, .int .u8 0, .int .u8 0, .int .u8 0, .int .u8 0, .int .u8 0, .int .u8 0, .int .u8 0, .int .u8 0, .int .u8 0, .int .u8 0, .int .u8 0, .int .u8 0, .int .u8 0, .int .u8 0, .int .u8 0] 54)
    rw [World.size_alloc, World.size_alloc] at h
    refine Blk.below (w := (((w.alloc (.cells #[.int .i64 k, .int .i64 d, .int .i64 t, .int .i64 a, .int .i64 r] 49)).alloc (.cells #[.int .u8 0, .int .u8 0, .int .u8 0, .int .u8 0, .int .u8 0, .int .u8 0, .int .u8 0, .int .u8 0, .int .u8 0, .int .u8 0, .int .u8 0, .int .u8 0, .int .u8 0, .int .u8 0, .int .u8 0, .int .u8 0, .int .u8 0, .int .u8 0, .int .u8 0, .int .u8 0, .int .u8 0, .int .u8 0, .int .u8 0, .int .u8 0, .int .u8 0, .int .u8 0, .int .u8 0, .int .u8 0, .int .u8 0, .int .u8 0, .int .u8 0, .int .u8 0, .int .u8 0, .int .u8 0, .int .u8 0, .int .u8 0, .int .u8 0, .int .u8 0, .int .u8 0, .int .u8 0] 54)).alloc (.cells #[.int .u8 0, .int .u8 0, .int .u8 0, .int .u8 0, .int .u8 0, .int .u8 0, .int .u8 0, .int .u8 0, .int .u8 0, .int .u8 0, .int .u8 0, .int .u8 0, .int .u8 0, .int .u8 0, .int .u8 0, .int .u8 0, .int .u8 0, .int .u8 0, .int .u8 0, .int .u8 0, .int .u8 0, .int .u8 0, .int .u8 0, .int .u8 0, .int .u8 0, .int .u8 0, .int .u8 0, .int .u8 0, .int .u8 0, .int .u8 0, .int .u8 0, .int .u8 0, .int .u8 0, .int .u8 0, .int .u8 0, .int .u8 0, .int .u8 0, .int .u8 0, .int .u8 0, .int .u8 0] 54))) ?_ (by repeat (first | with_reducible exact Below.refl _ _ | (with_reducible refine bl_sc ?_ ?hge; case hge => (first | exact Nat.le_refl _ | omega)) | with_reducible refine bl_al ?_ _ | with_reducible refine bl_dr ?_ | with_reducible refine bl_dN ?_ _ | (refine bl_tr ?_ (by assumption)) | (refine bl_gr ?_ (by assumption) (by first | exact Nat.le_refl _ | omega)) | exact Below.refl _ _ | refine bl_al ?_ _ | refine bl_dr ?_ | refine bl_dN ?_ _))
    unfold Blk
    rw [Array.toArray_toList]
    exact h
  have hS3 : Sl .i64 ((((w.alloc (.cells #[.int .i64 k, .int .i64 d, .int .i64 t, .int .i64 a, .int .i64 r] 49)).alloc (.cells #[.int .u8 0, .int .u8 0, .int .u8 0, .int .u8 0, .int .u8 0, .int .u8 0, .int .u8 0, .int .u8 0, .int .u8 0, .int .u8 0, .int .u8 0, .int .u8 0, .int .u8 0, .int .u8 0, .int .u8 0, .int .u8 0, .int .u8 0, .int .u8 0, .int .u8 0, .int .u8 0, .int .u8 0, .int .u8 0, .int .u8 0, .int .u8 0, .int .u8 0, .int .u8 0, .int .u8 0, .int .u8 0, .int .u8 0, .int .u8 0, .int .u8 0, .int .u8 0, .int .u8 0, .int .u8 0, .int .u8 0, .int .u8 0, .int .u8 0, .int .u8 0, .int .u8 0, .int .u8 0] 54)).alloc (.cells #[.int .u8 0, .int .u8 0, .int .u8 0, .int .u8 0, .int .u8 0, .int .u8 0, .int .u8 0, .int .u8 0, .int .u8 0, .int .u8 0, .int .u8 0, .int .u8 0, .int .u8 0, .int .u8 0, .int .u8 0, .int .u8 0, .int .u8 0, .int .u8 0, .int .u8 0, .int .u8 0, .int .u8 0, .int .u8 0, .int .u8 0, .int .u8 0, .int .u8 0, .int .u8 0, .int .u8 0, .int .u8 0, .int .u8 0, .int .u8 0, .int .u8 0, .int .u8 0, .int .u8 0, .int .u8 0, .int .u8 0, .int .u8 0, .int .u8 0, .int .u8 0, .int .u8 0, .int .u8 0] 54)).alloc (.cells #[.int .i64 k, .int .i64 d, .int .i64 t, .int .i64 a, .int .i64 r] 2)) (.slice (some ⟨w.heap.size + 1 + 1 + 1, 0, none⟩) 5 5) [k, d, t, a, r] := Sl.litAt _ _ _ 5 _ rfl _ rfl (by decide) (by simp)
  obtain ⟨W, hW, gbW, gsz, gK1, gK2, gS3⟩ : ∃ W, ((((w.alloc (.cells #[.int .i64 k, .int .i64 d, .int .i64 t, .int .i64 a, .int .i64 r] 49)).alloc (.cells #[.int .u8 0, .int .u8 0, .int .u8 0, .int .u8 0, .int .u8 0, .int .u8 0, .int .u8 0, .int .u8 0, .int .u8 0, .int .u8 0, .int .u8 0, .int .u8 0, .int .u8 0, .int .u8 0, .int .u8 0, .int .u8 0, .int .u8 0, .int .u8 0, .int .u8 0, .int .u8 0, .int .u8 0, .int .u8 0, .int .u8 0, .int .u8 0, .int .u8 0, .int .u8 0, .int .u8 0, .int .u8 0, .int .u8 0, .int .u8 0, .int .u8 0, .int .u8 0, .int .u8 0, .int .u8 0, .int .u8 0, .int .u8 0, .int .u8 0, .int .u8 0, .int .u8 0, .int .u8 0] 54)).alloc (.cells #[.int .u8 0, .int .u8 0, .int .u8 0, .int .u8 0, .int .u8 0, .int .u8 0, .int .u8 0, .int .u8 0, .int .u8 0, .int .u8 0, .int .u8 0, .int .u8 0, .int .u8 0, .int .u8 0, .int .u8 0, .int .u8 0, .int .u8 0, .int .u8 0, .int .u8 0, .int .u8 0, .int .u8 0, .int .u8 0, .int .u8 0, .int .u8 0, .int .u8 0, .int .u8 0, .int .u8 0, .int .u8 0, .int .u8 0, .int .u8 0, .int .u8 0, .int .u8 0, .int .u8 0, .int .u8 0, .int .u8 0, .int .u8 0, .int .u8 0, .int .u8 0, .int .u8 0, .int .u8 0] 54)).alloc (.cells #[.int .i64 k, .int .i64 d, .int .i64 t, .int .i64 a, .int .i64 r] 2)) = W ∧ Below w.heap.size w W ∧ W.heap.size = w.heap.size + 4 ∧ Blk W (w.heap.size + 1) 54 ((#[.int .u8 0, .int .u8 0, .int .u8 0, .int .u8 0, .int .u8 0, .int .u8 0, .int .u8 0, .int .u8 0, .int .u8 0, .int .u8 0, .int .u8 0, .int .u8 0, .int .u8 0, .int .u8 0, .int .u8 0, .int .u8 0, .int .u8 0, .int .u8 0, .int .u8 0, .int .u8 0, .int .u8 0, .int .u8 0, .int .u8 0, .int .u8 0, .int .u8 0, .int .u8 0, .int .u8 0, .int .u8 0, .int .u8 0, .int .u8 0, .int .u8 0, .int .u8 0, .int .u8 0, .int .u8 0, .int .u8 0, .int .u8 0, .int .u8 0, .int .u8 0, .int .u8 0, .int .u8 0] : Array Value).toList) ∧ Blk W (w.heap.size + 2) 54 ((fillN L 0).map (Value.int .u8)) ∧ Sl .i64 W (.slice (some ⟨w.heap.size + 1 + 1 + 1, 0, none⟩) 5 5) [k, d, t, a, r] := ⟨_, rfl, hbW, hsz, hK1, hK2, hS3⟩
  with_reducible rw [hW]
  clear hW hbW hsz hK1 hK2 hS3
  have hbW := gbW
  have hK2 := gK2
  have hsz := Lib.hid gsz
  clear gbW gK2 gsz
  have HK1 := Lib.hid gK1
  have HS3 := Lib.hid gS3
  have hB2 := Blk.lt hK2
  clear gK1 gS3
  go_loopg [20] 5 (fun g i wr => ∃ n : Nat, n + g = 5 ∧ i = .int .i64 n ∧ Blk wr (w.heap.size + 2) 54 ((fillN L (8 * n)).map (Value.int .u8)) ∧ W.grownBy wr (some (w.heap.size + 2)))
  case atStart => exact ⟨0, by omega, rfl, hK2, World.grownBy.refl _ _⟩
  case round =>
    obtain ⟨n, hng, rfl, hK, hg⟩ := hrel
    cases gk with
    | zero =>
      have hlt : ¬ ((n : Int) < 5) := by omega
      obtain rfl : n = 5 := by omega
      have hcs : (fillN L (8 * 5)).map (Value.int .u8) = L.map (Value.int .u8) := by
        unfold fillN
        rw [HLL.out, List.take_of_length_le (by rw [HLL.out]; exact Nat.le_refl _)]
        simp
      rw [hcs] at hK
      clear hcs
      have hKs := blk_grown HK1.out hg (by omega)
      have HKs := Lib.hid hKs
      unfold Blk at HKs
      rw [Array.toArray_toList] at HKs
      have HK := Lib.hid hK
      have hbw : Below w.heap.size w wr := bl_gr hbW hg (by omega)
      have hrg : wr.rangeAt (w.heap.size + 1 + 1) 0 (L.map (Value.int .u8)) := fun j v hv => by rw [Nat.zero_add, hK.cell]; exact hv
      have HRg := Lib.hid hrg
      clear hK hKs hrg
      go_wp2_with (first
        | (with_reducible refine wpList_load_mid rfl 54 (.tmp 3) rfl (w.heap.size + 1 + 1) 0 rfl (L.map (Value.int .u8)) _ HRg.out Try.underlying54 rfl (by rw [info_arr, List.length_map, HLL.out]) ?_)
        | (with_reducible refine wpList_store_rowTo rfl 54 (.tmp 2) (.tmp 41) rfl rfl (w.heap.size + 1) (L.map (Value.int .u8)).toArray rfl rfl 54 #[.int .u8 0, .int .u8 0, .int .u8 0, .int .u8 0, .int .u8 0, .int .u8 0, .int .u8 0, .int .u8 0, .int .u8 0, .int .u8 0, .int .u8 0, .int .u8 0, .int .u8 0, .int .u8 0, .int .u8 0, .int .u8 0, .int .u8 0, .int .u8 0, .int .u8 0, .int .u8 0, .int .u8 0, .int .u8 0, .int .u8 0, .int .u8 0, .int .u8 0, .int .u8 0, .int .u8 0, .int .u8 0, .int .u8 0, .int .u8 0, .int .u8 0, .int .u8 0, .int .u8 0, .int .u8 0, .int .u8 0, .int .u8 0, .int .u8 0, .int .u8 0, .int .u8 0, .int .u8 0] HKs.out (by rw [info_arr, List.size_toArray, List.length_map, HLL.out]) (by simp only [List.size_toArray, List.length_map, HLL.out, List.length_cons, List.length_nil]) (all_oneCell_toArray (ints_oneCell _ _)) ?_))
      refine bodyPost_ret (v := arrV L) (results_cell_row (p := 2) (ty := 54) rfl _ _ (w.heap.size + 1) 54 (L.map (Value.int .u8)).toArray (0, 0) _ rfl (setRow_heap _ _ _ _ _ _ HKs.out) Try.underlying54 rfl (by rw [info_arr, List.size_toArray, List.length_map, HLL.out])) rfl ⟨rfl, bl_setRow hbw (by omega) _⟩
    | succ g =>
      have hlt : (n : Int) < 5 := by omega
      have hS := HS3.out.kept hg (by simp)
      obtain ⟨b, o, x, he, hcell, HX⟩ := hS.get (i := n) (by simp; omega)
      cases he
      have HP : Hid (∀ j, j < 8 → L.getD (8 * n + j) 0 = (be8 x).getD j 0) := fun j hj => by
        rw [HPG.out n j (by omega) hj, HX.out]
      have hn5 : n < 5 := by omega
      simp only [Nat.zero_add] at hcell
      clear hS
      go_wp2_with fail
      refine (eight_own x _).mono ?_
      rintro e w1 ⟨u1, rfl, ho1, hb1⟩
      obtain ⟨b1, cap1, rfl⟩ := own_shape ho1 (by decide)
      have hne : b1 ≠ w.heap.size + 2 := by
        have h := (ho1.lt b1 rfl).1
        have h2 := hK.lt
        omega
      have hs1 := Sl.of_own ho1 rfl
      have hK1 := hK.below hb1
      have hg1 : W.grownBy w1 (some (w.heap.size + 2)) := grown_tr hg (gr_of_bl hb1 none) (.inl rfl)
      have HS1 := Lib.hid hs1
      clear hK hg hb1 ho1 hs1
      go_wp2_with fail
      go_loopg [7] 8 (fun g i wy => ∃ j : Nat, j + g = 8 ∧ i = .int .i64 j ∧ Blk wy (w.heap.size + 2) 54 ((fillN L (8 * n + j)).map (Value.int .u8)) ∧ w1.grownBy wy (some (w.heap.size + 2)))
      case atStart => exact ⟨0, by omega, rfl, hK1, World.grownBy.refl _ _⟩
      case round =>
        obtain ⟨j, hjg, rfl, hK2, hg2⟩ := hrel
        cases gk with
        | zero =>
          have hlt2 : ¬ ((j : Int) < 8) := by omega
          obtain rfl : j = 8 := by omega
          have hg3 := grown_same hg1 hg2
          have e8 : 8 * n + 8 = 8 * (n + 1) := by omega
          rw [e8] at hK2
          clear e8
          go_wp2_with fail
          go_roundg g
          case measure => omega
          case rel => exact ⟨n + 1, by omega, by go_num, hK2, hg3⟩
        | succ g' =>
          have hlt2 : (j : Int) < 8 := by omega
          have hs2 := HS1.out.kept hg2 (by simpa using hne)
          obtain ⟨b2, o2, y, he2, hcy, HY⟩ := hs2.get (i := j) (by rw [be8_length]; omega)
          cases he2
          simp only [Nat.zero_add] at hcy
          obtain ⟨v0, hc0⟩ := hK2.some (j := 8 * n + j) (by rw [List.length_map, fillN_length L (by rw [HLL.out]; omega), HLL.out]; omega)
          have hf0 := hK2.frozen (8 * n + j)
          have hx0 : (8 : Int) * n + j < 40 := by omega
          have HK2 := Lib.hid hK2
          clear hs2 hK2
          have HST : Hid (((fillN L (8 * n + j)).map (Value.int .u8)).set (8 * n + j) (.int .u8 y) = (fillN L (8 * n + (j + 1))).map (Value.int .u8)) := by
            show _ = _
            have h := fillN_set L (m := 8 * n + j) (by rw [HLL.out]; omega)
            rw [HP.out j (by omega), HY.out] at h
            rw [show 8 * n + (j + 1) = 8 * n + j + 1 from by omega, ← h, List.map_set]
          go_wp2_with fail
          go_roundg g'
          case measure => omega
          case rel => exact ⟨j + 1, by omega, by go_num, by rw [← HST.out]; exact HK2.out.set _ _, grown_same hg2 (grown_set _ _)⟩
end Go.Proofs.Ytofajlemknkndaa

/- pool.charge. -/
import Derived.Test.YtllblmoojohffaaPoolC
namespace Go.Proofs.Ytllblmoojohffaa
open Go.RowKit

/-- What charge leaves: the credit less what it took, the tranche's balance more by the rest. -/
def ChargeR (base g gr n cap : Nat) (bs : List Int) (c d : Int) (w : World) (e : Ending) (w' : World) : Prop :=
  e = .returned (.tuple #[]) ∧ Blk w' g 46 [.slice (some ⟨gr, 0, none⟩) n cap, .int .i64 c, .int .i64 d] ∧ w'.ownsRow base 2 1 (.slice (some ⟨gr, 0, none⟩) n cap) n (bs.map (Value.int .i64)) ∧ w'.heap.size = w.heap.size ∧ (∀ B, B ≤ g → B ≤ gr → Below B w w') ∧ ∀ k, k ≠ g → k ≠ gr → w'.heap[k]? = w.heap[k]?



set_option maxHeartbeats 800000 in
set_option maxRecDepth 100000 in
theorem charge_small (base g gr n cap i : Nat) (bs : List Int) (c d am y c2 : Int) (hn : Hid (bs.length = n)) (hi : i < n) (hn2 : n ≤ 1000) (hy : Hid (bs.getD i 0 = y)) (hle : am ≤ c) (hc2 : c - am = c2) (hw : wrap64 c2 = c2) (hy0 : wrap64 y = y) (hgb : g < base) (w : World)
    (hB : Blk w g 46 [.slice (some ⟨gr, 0, none⟩) n cap, .int .i64 c, .int .i64 d]) (hown : w.ownsRow base 2 1 (.slice (some ⟨gr, 0, none⟩) n cap) n (bs.map (Value.int .i64))) :
    Calls Try.prog 70 #[.pointer (some ⟨g, 0, none⟩), .int .i64 ((i : Int) + 1), .int .i64 am] w (ChargeR base g gr n cap (bs.set i y) c2 d w) := by
  have HB := Lib.hid hB
  have HO := Lib.hid hown
  have hgr : base ≤ gr := (hown.lt gr rfl).1
  have hgl := hB.lt
  have hrl : gr < w.heap.size := (hown.lt gr rfl).2
  have c0 := hB.cell 0
  have c1 := hB.cell 1
  have f1 := hB.frozen 1
  have hcel := hown.cellAt i (by omega)
  have hxe : (bs.map (Value.int .i64))[i]? = some (.int .i64 y) := by
    rw [← hy.out]
    simp [List.getD, show i < bs.length by have := hn.out; omega]
  rw [hxe] at hcel
  have hfr := hown.frozenAt i
  simp only [List.getElem?_cons_zero, List.getElem?_cons_succ] at c0 c1
  have ho2 : (w.setCell ⟨g, 1, none⟩ (.int .i64 c2)).ownsRow base 2 1 (.slice (some ⟨gr, 0, none⟩) n cap) n (bs.map (Value.int .i64)) := own_setElder hown hgb
  obtain ⟨hst, _⟩ := ho2.stored i (.int .i64 y)
  have HST := Lib.hid hst
  have HB2 := Lib.hid ((hB.set 1 (.int .i64 c2)).setOther (show g ≠ gr by omega) i (.int .i64 y))
  have hne : ¬ g = gr := by omega
  have hne2 : ¬ gr = g := by omega
  have w0 : wrap64 0 = 0 := by unfold wrap64; omega
  have hmin : min am c = am := by omega
  clear hB hown ho2 hst hxe
  go_enter Try.func70, Try.ntmps70
  go_wp2
  all_goals first
    | (exfalso; omega)
    | skip
  go_end0
  refine ⟨rfl, HB2.out, ?_, by simp, fun B h1 h2 => ((Below.refl _ _).setCell h1 _).setCell h2 _, fun k h1 h2 => (heap_setCell_other _ ⟨gr, i, none⟩ k _ (fun e => h2 e)).trans (heap_setCell_other w ⟨g, 1, none⟩ k _ (fun e => h1 e))⟩
  rw [List.map_set]
  exact HST.out

set_option maxHeartbeats 800000 in
set_option maxRecDepth 100000 in
theorem charge_great (base g gr n cap i : Nat) (bs : List Int) (c d am y m z : Int) (hn : Hid (bs.length = n)) (hi : i < n) (hn2 : n ≤ 1000) (hy : Hid (bs.getD i 0 = y)) (hle : ¬ am ≤ c) (hm : am - c = m) (hz : y + m = z) (hwm : wrap64 m = m) (hwz : wrap64 z = z) (hgb : g < base) (w : World)
    (hB : Blk w g 46 [.slice (some ⟨gr, 0, none⟩) n cap, .int .i64 c, .int .i64 d]) (hown : w.ownsRow base 2 1 (.slice (some ⟨gr, 0, none⟩) n cap) n (bs.map (Value.int .i64))) :
    Calls Try.prog 70 #[.pointer (some ⟨g, 0, none⟩), .int .i64 ((i : Int) + 1), .int .i64 am] w (ChargeR base g gr n cap (bs.set i z) 0 d w) := by
  have HB := Lib.hid hB
  have HO := Lib.hid hown
  have hgr : base ≤ gr := (hown.lt gr rfl).1
  have hgl := hB.lt
  have hrl : gr < w.heap.size := (hown.lt gr rfl).2
  have c0 := hB.cell 0
  have c1 := hB.cell 1
  have f1 := hB.frozen 1
  have hcel := hown.cellAt i (by omega)
  have hxe : (bs.map (Value.int .i64))[i]? = some (.int .i64 y) := by
    rw [← hy.out]
    simp [List.getD, show i < bs.length by have := hn.out; omega]
  rw [hxe] at hcel
  have hfr := hown.frozenAt i
  simp only [List.getElem?_cons_zero, List.getElem?_cons_succ] at c0 c1
  have ho2 : (w.setCell ⟨g, 1, none⟩ (.int .i64 0)).ownsRow base 2 1 (.slice (some ⟨gr, 0, none⟩) n cap) n (bs.map (Value.int .i64)) := own_setElder hown hgb
  obtain ⟨hst, _⟩ := ho2.stored i (.int .i64 z)
  have HST := Lib.hid hst
  have HB2 := Lib.hid ((hB.set 1 (.int .i64 0)).setOther (show g ≠ gr by omega) i (.int .i64 z))
  have hne : ¬ g = gr := by omega
  have hne2 : ¬ gr = g := by omega
  have w0 : wrap64 0 = 0 := by unfold wrap64; omega
  have hmin : min am c = c := by omega
  have hlt : c ≤ am := by omega
  clear hB hown ho2 hst hxe
  go_enter Try.func70, Try.ntmps70
  go_wp2
  all_goals first
    | (exfalso; omega)
    | skip
  go_end0
  refine ⟨rfl, HB2.out, ?_, by simp, fun B h1 h2 => ((Below.refl _ _).setCell h1 _).setCell h2 _, fun k h1 h2 => (heap_setCell_other _ ⟨gr, i, none⟩ k _ (fun e => h2 e)).trans (heap_setCell_other w ⟨g, 1, none⟩ k _ (fun e => h1 e))⟩
  rw [List.map_set]
  exact HST.out
end Go.Proofs.Ytllblmoojohffaa

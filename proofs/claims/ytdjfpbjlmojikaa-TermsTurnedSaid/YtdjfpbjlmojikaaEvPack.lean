/- event.Pack: an event as forty bytes. -/
import Derived.Test.YtdjfpbjlmojikaaPut
import Derived.Deep.MidRow
import Derived.Great.BuildSlice
namespace Go.Proofs.Ytdjfpbjlmojikaa
open Go.RowKit

/-- an event as bytes -/
def packE (kind day tr am ref : Int) : List Int := [kind, day, tr, am, ref].flatMap be8
/-- bytes as the array's value -/
def arrV (l : List Int) : Value := .agg (l.map (Value.int .u8)).toArray
theorem packE_length (kind day tr am ref : Int) : (packE kind day tr am ref).length = 40 := rfl
theorem info_arr : (Try.prog.info? 42).map (·.size) = some 40 := by kernel_rfl
theorem bl_setRow {B : Nat} {a w : World} (h : Below B a w) {g : Nat} (hg : B ≤ g) (cs : Array Value) : Below B a (w.setRow g cs) :=
  h.trans ⟨rfl, rfl, rfl, by rw [size_setRow]; exact Nat.le_refl _, fun k hk => setRow_other w g k cs (by omega)⟩

set_option maxRecDepth 100000 in
set_option maxHeartbeats 400000 in
theorem evPack_any (kind day tr am ref : Int) (w : World) : Calls Try.prog 20 #[.agg #[.int .i64 kind, .int .i64 day, .int .i64 tr, .int .i64 am, .int .i64 ref]] w (RetB (arrV (packE kind day tr am ref)) w) := by
  go_enter Try.func20, Try.ntmps20
  go_wp2_with fail
  refine (put_any _ _ [] [kind, day, tr, am, ref] w.heap.size _ (World.ownsRow_nil _ _ _ _) (fun W hW => Sl.litG [kind, day, tr, am, ref] 5 hW rfl rfl (by decide) (by simp) (by simp [Value.ownBlock])) (by simp; omega) (by simp)).mono ?_
  rintro e w1 ⟨u1, rfl, hown, hg1, hwh⟩
  have hold : ∃ old : Array Value, old.size = 40 ∧ w1.heap[w.heap.size + 1]? = some (.cells old 42 (0, 0)) := by
    refine ⟨_, ?_, (hg1.block (w.heap.size + 1) (by simp) (by simp [Value.ownBlock])).trans ((heap_alloc_old _ _ (by simp)).trans (heap_alloc2_new _ _ _))⟩
    rfl
  obtain ⟨old, hos, hold⟩ := hold
  have hs1 := hg1.size
  simp only [World.size_alloc] at hs1
  have hb1 : Below w.heap.size w w1 := bl_tr (bl_al (bl_al (bl_al (Below.refl _ _) _) _) _) (grown_below1 hg1)
  have e1 : putAt [] [kind, day, tr, am, ref] [kind, day, tr, am, ref].length = packE kind day tr am ref := by simp [putAt, packE]
  rw [e1, packE_length] at hown
  clear e1 hg1 hwh
  obtain ⟨g, cap, rfl⟩ := own_shape hown (by decide)
  have hrange : w1.rangeAt g 0 ((packE kind day tr am ref).map (Value.int .u8)) := by
    intro j u hu
    have := hown.cells (g := g) rfl j u hu
    rwa [Addr.add_lit] at this
  have HR := Lib.hid hrange
  have HO := Lib.hid hold
  have HL := Lib.hid (packE_length kind day tr am ref)
  have HOS := Lib.hid hos
  clear hrange hown hold hos
  have harr : ∀ W : World, (Instr.arrayAt 42 (.slice (some ⟨g, 0, none⟩) 40 cap)).run Try.prog W = .ok (.pointer (some ⟨g, 0, none⟩)) W := fun W => by
    simp [Instr.arrayAt, run_underlying Try.underlying42]
  generalize packE kind day tr am ref = L at *
  go_wp2_with (first
    | (with_reducible refine wpList_load_mid rfl 42 (.tmp 15) rfl g 0 rfl (L.map (Value.int .u8)) _ HR.out Try.underlying42 rfl (by rw [info_arr, List.length_map, HL.out]) ?_)
    | (with_reducible refine wpList_store_rowTo rfl 42 (.tmp 2) (.tmp 16) rfl rfl (w.heap.size + 1) (L.map (Value.int .u8)).toArray rfl rfl 42 old HO.out (by rw [info_arr, List.size_toArray, List.length_map, HL.out]) (by rw [HOS.out, List.size_toArray, List.length_map, HL.out]) (all_oneCell_toArray (ints_oneCell _ _)) ?_))
  refine bodyPost_ret (v := arrV L) (results_cell_row (p := 2) (ty := 42) rfl _ _ (w.heap.size + 1) 42 (L.map (Value.int .u8)).toArray (0, 0) _ rfl (setRow_heap _ _ _ _ _ _ HO.out) Try.underlying42 rfl (by rw [info_arr, List.size_toArray, List.length_map, HL.out])) rfl ⟨rfl, bl_setRow hb1 (by omega) _⟩
end Go.Proofs.Ytdjfpbjlmojikaa

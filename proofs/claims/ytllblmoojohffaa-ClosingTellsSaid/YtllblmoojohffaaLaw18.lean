/- The laws of layer 18: terms, awake, what is nothing. -/
import Derived.Test.YtllblmoojohffaaCloseB
import Derived.Test.YtllblmoojohffaaSame64
namespace Go.Proofs.Ytllblmoojohffaa
open Go.RowKit EvM

/-- The tranches of the law's terms. -/
def ts18 : List (Int × Bool) := [(5, true), (9, false)]
theorem TrS.lit18 {w : World} {e : TypeId} {g : Nat} (hg : w.heap.size = g) : TrS (w.alloc (.cells #[.int .i64 5, .bool true, .int .i64 9, .bool false] e)) (.slice (some ⟨g, 0, none⟩) 2 2) ts18 := by
  subst hg
  have hb : Blk (w.alloc (.cells #[.int .i64 5, .bool true, .int .i64 9, .bool false] e)) w.heap.size e [.int .i64 5, .bool true, .int .i64 9, .bool false] := heap_alloc_new w _
  refine ⟨_, _, rfl, Nat.le_refl _, ⟨by simp [maxLen], fun h => by cases h⟩, fun _ => ⟨w.heap.size, 0, rfl, fun i hi => ?_⟩⟩
  have hi2 : i < 2 := hi
  have : i = 0 ∨ i = 1 := by omega
  rcases this with rfl | rfl
  · exact ⟨hb.cell 0, hb.cell 1⟩
  · exact ⟨hb.cell 2, hb.cell 3⟩
def Terms18 (w : World) (e : Ending) (w' : World) : Prop := ∃ a q, e = .returned (.agg #[.int .i64 5000, .slice a 2 q, .int .i64 1, .int .i64 20, .int .i64 25, .int .i64 20, .int .i64 10957]) ∧ TrS w' (.slice a 2 q) ts18 ∧ Below w.heap.size w w'
set_option maxHeartbeats 400000 in
theorem terms18_any (w : World) : Calls Try.prog 28 #[] w (Terms18 w) := by
  go_enter Try.func28, Try.ntmps28
  go_wp2
  refine bodyPost_ret (v := .agg #[.int .i64 5000, .slice (some ⟨w.heap.size + 1, 0, none⟩) 2 2, .int .i64 1, .int .i64 20, .int .i64 25, .int .i64 20, .int .i64 10957]) (by simp [results, Try.results28, go_sem]) rfl ⟨_, _, rfl, ?_, ?_⟩
  · exact TrS.lit18 (by simp)
  · exact (by repeat (first | with_reducible exact Below.refl _ _ | (with_reducible refine bl_sc ?_ ?hge; case hge => (first | exact Nat.le_refl _ | omega)) | with_reducible refine bl_al ?_ _ | with_reducible refine bl_dr ?_ | with_reducible refine bl_dN ?_ _ | (refine bl_tr ?_ (by assumption)) | (refine bl_gr ?_ (by assumption) (by first | exact Nat.le_refl _ | omega)) | exact Below.refl _ _ | refine bl_al ?_ _ | refine bl_dr ?_ | refine bl_dN ?_ _))
theorem right18 : rightT 5000 ts18 1 20 25 20 10957 = true := by decide
theorem min18 : leastR (rightT 5000 ts18 1 20 25 20 10957) 25 20 1003 = (25, 0) := by decide
theorem bear18 : bearS [1000, 0] 0 0 [3, 0] = ([1003, 0], 0, 0, 0) := by decide
theorem total18 : totalP [1003, 0] 0 0 = 1003 := by decide
/-- Three lists of two numbers, made one behind the other. -/
theorem lits3 (w : World) (e : TypeId) (a b c d x y : Int) : ∃ W, (((w.alloc (.cells #[.int .i64 a, .int .i64 b] e)).alloc (.cells #[.int .i64 c, .int .i64 d] e)).alloc (.cells #[.int .i64 x, .int .i64 y] e)) = W ∧ Hid (Sl .i64 W (.slice (some ⟨w.heap.size, 0, none⟩) 2 2) [a, b]) ∧ Hid (Sl .i64 W (.slice (some ⟨w.heap.size + 1, 0, none⟩) 2 2) [c, d]) ∧ Hid (Sl .i64 W (.slice (some ⟨w.heap.size + 1 + 1, 0, none⟩) 2 2) [x, y]) ∧ Hid (Below w.heap.size w W) :=
  ⟨_, rfl, (Sl.litAt w e [a, b] 2 _ rfl _ rfl (by unfold maxLen; omega) rfl).below (bl_al (bl_al (Below.refl _ _) _) _), (Sl.litAt (w.alloc _) e [c, d] 2 _ rfl _ rfl (by unfold maxLen; omega) (by simp)).below (bl_al (Below.refl _ _) _), Sl.litAt ((w.alloc _).alloc _) e [x, y] 2 _ rfl _ rfl (by unfold maxLen; omega) (by simp), bl_al (bl_al (bl_al (Below.refl _ _) _) _) _⟩

set_option maxHeartbeats 1600000 in
set_option maxRecDepth 100000 in
theorem awake18_any (w : World) : Calls Try.prog 29 #[] w (RetB (.bool true) w) := by
  go_enter Try.func29, Try.ntmps29
  go_wp2_with fail
  refine (terms18_any _).mono ?_
  rintro _ w1 ⟨a1, q1, rfl, ht1, hb1⟩
  have HT := Lib.hid ht1
  have HB := Lib.hid hb1
  clear ht1 hb1
  go_wp2_with fail
  obtain ⟨W, hW, S1, S2, S3, SB⟩ := lits3 w1 2 1000 0 5 9 3 0
  with_reducible rw [hW]
  clear hW
  refine (close_yes _ ts18 5000 1 20 25 20 10957 1 10957 10987 _ [1000, 0] 0 0 _ [5, 9] _ [3, 0] true (by decide) right18 (by decide) (by decide) [1003, 0] 0 0 bear18 rfl rfl 1003 total18 25 0 min18 11007 (by decide) (by decide) W (HT.out.below SB.out) S1.out S2.out S3.out).mono ?_
  rintro _ w2 ⟨lv, bv, rfl, hln, hbl, hb2⟩
  obtain ⟨al, ql, rfl⟩ := hln.shape
  obtain ⟨ab, qb, rfl⟩ := hbl.shape
  have HBF := Lib.hid (bl_tr (bl_tr HB.out SB.out) hb2)
  clear hln hbl hb2
  go_wp2_with fail
  go_ret
  exact ⟨rfl, bl_al (bl_al HBF.out _) _⟩

set_option maxHeartbeats 800000 in
theorem samePos_true (v u : Value) (bs : List Int) (c d : Int) (w : World) (hv : Sl .i64 w v bs) (hu : Sl .i64 w u bs) :
    Calls Try.prog 32 #[.agg #[v, .int .i64 c, .int .i64 d], .agg #[u, .int .i64 c, .int .i64 d]] w (RetB (.bool true) w) := by
  have HV := Lib.hid hv
  have HU := Lib.hid hu
  obtain ⟨ao, cap, rfl, h1, ⟨h2, hnn⟩, h3⟩ := hv
  clear h3 hnn
  obtain ⟨ao', cap', rfl, h1', ⟨h2', hnn⟩, h3⟩ := hu
  clear h3 hnn
  unfold maxLen at h2 h2'
  have hW0 : Below w.heap.size w ((w.alloc (.cells #[.slice ao bs.length cap, .int .i64 c, .int .i64 d] 46)).alloc (.cells #[.slice ao' bs.length cap', .int .i64 c, .int .i64 d] 46)) := bl_al (bl_al (Below.refl _ _) _) _
  have HE : Hid ((bs == bs) = true) := by show _ = _; simp
  have HA : Hid (Blk ((w.alloc (.cells #[.slice ao bs.length cap, .int .i64 c, .int .i64 d] 46)).alloc (.cells #[.slice ao' bs.length cap', .int .i64 c, .int .i64 d] 46)) w.heap.size 46 [.slice ao bs.length cap, .int .i64 c, .int .i64 d]) := Blk.below (heap_alloc_new w _) (bl_al (Below.refl _ _) _)
  have HB : Hid (Blk ((w.alloc (.cells #[.slice ao bs.length cap, .int .i64 c, .int .i64 d] 46)).alloc (.cells #[.slice ao' bs.length cap', .int .i64 c, .int .i64 d] 46)) (w.heap.size + 1) 46 [.slice ao' bs.length cap', .int .i64 c, .int .i64 d]) := by
    have := heap_alloc_new (w.alloc (.cells #[.slice ao bs.length cap, .int .i64 c, .int .i64 d] 46)) (.cells #[.slice ao' bs.length cap', .int .i64 c, .int .i64 d] 46)
    simpa [Blk, Hid] using this
  have HW0 := Lib.hid hW0
  clear hW0
  go_enter Try.func32, Try.ntmps32
  go_wp2_with fail
  refine (plain64_any _ _ bs bs true HE _ (HV.out.below HW0.out) (HU.out.below HW0.out)).mono ?_
  rintro _ w1 ⟨rfl, hb1⟩
  have hA := HA.out.below hb1
  have hB := HB.out.below hb1
  have a0 := hA.cell 0
  have a1 := hA.cell 1
  have a2 := hA.cell 2
  have b0 := hB.cell 0
  have b1 := hB.cell 1
  have b2 := hB.cell 2
  simp only [List.getElem?_cons_zero, List.getElem?_cons_succ] at a0 a1 a2 b0 b1 b2
  have HBF := Lib.hid (bl_tr HW0.out hb1)
  clear hA hB hb1
  go_wp2_with fail
  go_ret
  exact ⟨rfl, HBF.out⟩


set_option maxHeartbeats 800000 in
theorem sameLines0 (al : Option Addr) (ql : Nat) (w : World) : Calls Try.prog 53 #[.slice al 0 ql, .slice none 0 0] w (RetB (.bool true) w) := by
  have key : ∀ W : World, Calls Try.prog 73 #[.slice al 0 ql, .slice none 0 0, .func (.func 74) #[] #[]] W (RetB (.bool true) W) := by
    intro W
    go_enter Try.func73, Try.ntmps73
    go_wp2_with fail
    refine wp_loop_rounds 1 ?_
    rw [rounds_succ]
    go_wp2
    go_ret
    exact ⟨rfl, Below.refl _ _⟩
  go_enter Try.func53, Try.ntmps53
  go_wp2_with (go_at_call 73; refine (key _).mono ?_; rintro e w' ⟨rfl, hb⟩)
  go_ret
  exact ⟨rfl, hb⟩
set_option maxHeartbeats 1600000 in
theorem sameStmt0 (al : Option Addr) (ql : Nat) (w : World) : Calls Try.prog 31 #[.agg #[.int .i64 0, .int .i64 0, .int .i64 0, .int .i64 0, .slice al 0 ql, .int .i64 0, .int .i64 0, .int .i64 0, .bool false], .agg #[.int .i64 0, .int .i64 0, .int .i64 0, .int .i64 0, .slice none 0 0, .int .i64 0, .int .i64 0, .int .i64 0, .bool false]] w (RetB (.bool true) w) := by
  have HA : Hid (Blk ((w.alloc (.cells #[.int .i64 0, .int .i64 0, .int .i64 0, .int .i64 0, .slice al 0 ql, .int .i64 0, .int .i64 0, .int .i64 0, .bool false] 51)).alloc (.cells #[.int .i64 0, .int .i64 0, .int .i64 0, .int .i64 0, .slice none 0 0, .int .i64 0, .int .i64 0, .int .i64 0, .bool false] 51)) w.heap.size 51 [.int .i64 0, .int .i64 0, .int .i64 0, .int .i64 0, .slice al 0 ql, .int .i64 0, .int .i64 0, .int .i64 0, .bool false]) := Blk.below (heap_alloc_new w _) (bl_al (Below.refl _ _) _)
  have HB : Hid (Blk ((w.alloc (.cells #[.int .i64 0, .int .i64 0, .int .i64 0, .int .i64 0, .slice al 0 ql, .int .i64 0, .int .i64 0, .int .i64 0, .bool false] 51)).alloc (.cells #[.int .i64 0, .int .i64 0, .int .i64 0, .int .i64 0, .slice none 0 0, .int .i64 0, .int .i64 0, .int .i64 0, .bool false] 51)) (w.heap.size + 1) 51 [.int .i64 0, .int .i64 0, .int .i64 0, .int .i64 0, .slice none 0 0, .int .i64 0, .int .i64 0, .int .i64 0, .bool false]) := blk_new (w.alloc _) _ _ _ (by simp)
  have HW0 : Hid (Below w.heap.size w ((w.alloc (.cells #[.int .i64 0, .int .i64 0, .int .i64 0, .int .i64 0, .slice al 0 ql, .int .i64 0, .int .i64 0, .int .i64 0, .bool false] 51)).alloc (.cells #[.int .i64 0, .int .i64 0, .int .i64 0, .int .i64 0, .slice none 0 0, .int .i64 0, .int .i64 0, .int .i64 0, .bool false] 51))) := bl_al (bl_al (Below.refl _ _) _) _
  go_enter Try.func31, Try.ntmps31
  go_wp2_with fail
  refine (sameLines0 _ _ _).mono ?_
  rintro _ w1 ⟨rfl, hb1⟩
  have hA := HA.out.below hb1
  have hB := HB.out.below hb1
  have a0 := hA.cell 0
  have a1 := hA.cell 1
  have a2 := hA.cell 2
  have a3 := hA.cell 3
  have a4 := hA.cell 4
  have a5 := hA.cell 5
  have a6 := hA.cell 6
  have a7 := hA.cell 7
  have a8 := hA.cell 8
  simp only [List.getElem?_cons_zero, List.getElem?_cons_succ] at a0 a1 a2 a3 a4 a5 a6 a7 a8
  have b0 := hB.cell 0
  have b1 := hB.cell 1
  have b2 := hB.cell 2
  have b3 := hB.cell 3
  have b4 := hB.cell 4
  have b5 := hB.cell 5
  have b6 := hB.cell 6
  have b7 := hB.cell 7
  have b8 := hB.cell 8
  simp only [List.getElem?_cons_zero, List.getElem?_cons_succ] at b0 b1 b2 b3 b4 b5 b6 b7 b8
  have HBF := Lib.hid (bl_tr HW0.out hb1)
  clear hA hB hb1
  go_wp2_with fail
  go_ret
  exact ⟨rfl, HBF.out⟩
end Go.Proofs.Ytllblmoojohffaa

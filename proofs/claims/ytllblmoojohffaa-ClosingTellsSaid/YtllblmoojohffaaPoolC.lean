/- pool.own: a position in memory of its own. -/
import Derived.Test.YtllblmoojohffaaPoolB
import Derived.Test.YtllblmoojohffaaClone64
namespace Go.Proofs.Ytllblmoojohffaa
open Go.RowKit

/-- A row that is owned stays so when a cell of an elder block is written. -/
theorem own_setElder {w : World} {base g o : Nat} {e : TypeId} {size n : Nat} {v x : Value} {xs : List Value} (h : w.ownsRow base e size v n xs) (hg : g < base) : (w.setCell ⟨g, o, none⟩ x).ownsRow base e size v n xs := by
  obtain ⟨h1, h2⟩ := h
  refine ⟨h1, ?_⟩
  rcases h2 with h2 | ⟨g', cap, cur, hv, hb, hg', r⟩
  · exact Or.inl h2
  · exact Or.inr ⟨g', cap, cur, hv, hb, (heap_setCell_other w ⟨g, o, none⟩ g' x (by intro h; simp at h; omega)).trans hg', r⟩
/-- A position whose balances are a row of its own. -/
def OwnP (bs : List Int) (c d : Int) (w : World) (e : Ending) (w' : World) : Prop :=
  ∃ u, e = .returned (.agg #[u, .int .i64 c, .int .i64 d]) ∧ w'.ownsRow (w.heap.size + 2) 2 1 u bs.length (bs.map (Value.int .i64)) ∧ Below w.heap.size w w'
set_option maxHeartbeats 800000 in
set_option maxRecDepth 100000 in
theorem own_any (v : Value) (bs : List Int) (c d : Int) (hlen : bs.length ≤ 1000) (w : World) (hv : Sl .i64 w v bs) :
    Calls Try.prog 69 #[.agg #[v, .int .i64 c, .int .i64 d]] w (OwnP bs c d w) := by
  have HV := Lib.hid hv
  obtain ⟨ao, cap, rfl, h1, ⟨h2, _⟩, h3⟩ := hv
  clear h3
  unfold maxLen at h2
  have HBLK : Hid (Blk ((w.alloc (.cells #[.slice ao bs.length cap, .int .i64 c, .int .i64 d] 46)).alloc (.cells #[.slice none 0 0, .int .i64 0, .int .i64 0] 46)) (w.heap.size + 1) 46 [.slice none 0 0, .int .i64 0, .int .i64 0]) := by
    have := heap_alloc_new (w.alloc (.cells #[.slice ao bs.length cap, .int .i64 c, .int .i64 d] 46)) (.cells #[.slice none 0 0, .int .i64 0, .int .i64 0] 46)
    simpa [Blk, Hid] using this
  have hB0 : Blk (w.alloc (.cells #[.slice ao bs.length cap, .int .i64 c, .int .i64 d] 46)) w.heap.size 46 [.slice ao bs.length cap, .int .i64 c, .int .i64 d] := heap_alloc_new w _
  have HB0 := Lib.hid (hB0.below (bl_al (Below.refl _ _) (.cells #[.slice none 0 0, .int .i64 0, .int .i64 0] 46)))
  have HW0 : Hid (Below w.heap.size w ((w.alloc (.cells #[.slice ao bs.length cap, .int .i64 c, .int .i64 d] 46)).alloc (.cells #[.slice none 0 0, .int .i64 0, .int .i64 0] 46))) := bl_al (bl_al (Below.refl _ _) _) _
  have HSZ : Hid (((w.alloc (.cells #[.slice ao bs.length cap, .int .i64 c, .int .i64 d] 46)).alloc (.cells #[.slice none 0 0, .int .i64 0, .int .i64 0] 46)).heap.size = w.heap.size + 2) := by show _ = _; simp
  clear hB0
  go_enter Try.func69, Try.ntmps69
  go_wp2_with fail
  refine (clone64_any _ bs _ (HV.out.below HW0.out) hlen).mono ?_
  rintro _ w1 ⟨u, rfl, hown, hb1⟩
  rw [HSZ.out] at hown
  have hB := HB0.out.below hb1
  have c0 := hB.cell 0
  have c1 := hB.cell 1
  have c2 := hB.cell 2
  have f0 := hB.frozen 0
  have hR := HBLK.out.below hb1
  have r0 := hR.cell 0
  have r1 := hR.cell 1
  have r2 := hR.cell 2
  have g0 := hR.frozen 0
  have g1 := hR.frozen 1
  have g2 := hR.frozen 2
  simp only [List.getElem?_cons_zero, List.getElem?_cons_succ] at c0 c1 c2 r0 r1 r2
  have hbf := bl_tr HW0.out hb1
  have HOWN := Lib.hid hown
  obtain ⟨bo, bn, bc, rfl⟩ : ∃ ao n cap, u = .slice ao n cap := by
    rcases hown.2 with ⟨h, _⟩ | ⟨g, cap', cur, h, _⟩
    · exact ⟨_, _, _, h⟩
    · exact ⟨_, _, _, h⟩
  clear hown hB hR hb1
  go_wp2
  refine bodyPost_ret (v := .agg #[.slice bo bn bc, .int .i64 c, .int .i64 d]) (by simp [results, Try.results69, go_sem, r0, r1, r2]) rfl ⟨_, rfl, ?_, ?_⟩
  · exact own_setElder (own_setElder (own_setElder (own_setElder HOWN.out (by omega)) (by omega)) (by omega)) (by omega)
  · exact (((hbf.setCell (by simp) _).setCell (by simp) _).setCell (by simp) _).setCell (by simp) _
end Go.Proofs.Ytllblmoojohffaa

/- lombardref18.Close: what it answers where all is right. -/
import Derived.Test.YtllblmoojohffaaRefClose
import Derived.Test.YtllblmoojohffaaCloseB
import Derived.Test.YtllblmoojohffaaRegionPhase
namespace Go.Proofs.Ytllblmoojohffaa
open Go.RowKit

theorem s4_below {w w' : World} {g1 i1 g2 i2 g3 i3 g4 i4 : Nat} {x1 x2 x3 x4 : Value} (h : w.cell? ⟨g1, i1, none⟩ = some x1 ∧ w.cell? ⟨g2, i2, none⟩ = some x2 ∧ w.cell? ⟨g3, i3, none⟩ = some x3 ∧ w.cell? ⟨g4, i4, none⟩ = some x4) (hb : Below w.heap.size w w') : w'.cell? ⟨g1, i1, none⟩ = some x1 ∧ w'.cell? ⟨g2, i2, none⟩ = some x2 ∧ w'.cell? ⟨g3, i3, none⟩ = some x3 ∧ w'.cell? ⟨g4, i4, none⟩ = some x4 :=
  ⟨(hb.cell (p := ⟨g1, i1, none⟩) (cell_block_lt h.1)).trans h.1, (hb.cell (p := ⟨g2, i2, none⟩) (cell_block_lt h.2.1)).trans h.2.1, (hb.cell (p := ⟨g3, i3, none⟩) (cell_block_lt h.2.2.1)).trans h.2.2.1, (hb.cell (p := ⟨g4, i4, none⟩) (cell_block_lt h.2.2.2)).trans h.2.2.2⟩
theorem kept_grown {w w' : World} {r : Option Nat} {b o : Nat} {x : Value} (hc : w.cell? ⟨b, o, none⟩ = some x) (hg : w.grownBy w' r) (hne : some b ≠ r) : w'.cell? ⟨b, o, none⟩ = some x :=
  (World.cell?_of_block (w := w) (a := ⟨b, o, none⟩) (hg.block b (cell_block_lt hc) hne)).trans hc
theorem kept_set {w : World} {g i b o : Nat} {x : Value} (hc : w.cell? ⟨b, o, none⟩ = some x) (hne : b ≠ g) (z : Value) : (w.setCell ⟨g, i, none⟩ z).cell? ⟨b, o, none⟩ = some x :=
  (World.cell?_of_block (w := w) (a := ⟨b, o, none⟩) (heap_setCell_other w ⟨g, i, none⟩ b z (fun e => hne e))).trans hc
theorem s4_grown {w w' : World} {r : Option Nat} {g1 i1 g2 i2 g3 i3 g4 i4 : Nat} {x1 x2 x3 x4 : Value} (h : w.cell? ⟨g1, i1, none⟩ = some x1 ∧ w.cell? ⟨g2, i2, none⟩ = some x2 ∧ w.cell? ⟨g3, i3, none⟩ = some x3 ∧ w.cell? ⟨g4, i4, none⟩ = some x4) (hg : w.grownBy w' r) (n1 : some g1 ≠ r) (n2 : some g2 ≠ r) (n3 : some g3 ≠ r) (n4 : some g4 ≠ r) : w'.cell? ⟨g1, i1, none⟩ = some x1 ∧ w'.cell? ⟨g2, i2, none⟩ = some x2 ∧ w'.cell? ⟨g3, i3, none⟩ = some x3 ∧ w'.cell? ⟨g4, i4, none⟩ = some x4 :=
  ⟨kept_grown h.1 hg n1, kept_grown h.2.1 hg n2, kept_grown h.2.2.1 hg n3, kept_grown h.2.2.2 hg n4⟩
theorem s4_set {w : World} {g i : Nat} {g1 i1 g2 i2 g3 i3 g4 i4 : Nat} {x1 x2 x3 x4 : Value} (h : w.cell? ⟨g1, i1, none⟩ = some x1 ∧ w.cell? ⟨g2, i2, none⟩ = some x2 ∧ w.cell? ⟨g3, i3, none⟩ = some x3 ∧ w.cell? ⟨g4, i4, none⟩ = some x4) (n1 : g1 ≠ g) (n2 : g2 ≠ g) (n3 : g3 ≠ g) (n4 : g4 ≠ g) (z : Value) : (w.setCell ⟨g, i, none⟩ z).cell? ⟨g1, i1, none⟩ = some x1 ∧ (w.setCell ⟨g, i, none⟩ z).cell? ⟨g2, i2, none⟩ = some x2 ∧ (w.setCell ⟨g, i, none⟩ z).cell? ⟨g3, i3, none⟩ = some x3 ∧ (w.setCell ⟨g, i, none⟩ z).cell? ⟨g4, i4, none⟩ = some x4 :=
  ⟨kept_set h.1 n1 z, kept_set h.2.1 n2 z, kept_set h.2.2.1 n3 z, kept_set h.2.2.2 n4 z⟩
theorem b5_dr {W w5 : World} (h : Below W.drew.heap.size W.drew w5) : Below W.heap.size W w5 := bl_tr (bl_dr (Below.refl _ _)) h
theorem b5_ad {W w5 : World} {o : Obj} (h : Below (W.alloc o).drew.heap.size (W.alloc o).drew w5) : Below W.heap.size W w5 := bl_tr (bl_dr (bl_al (Below.refl _ _) _)) h
theorem b5_new {W w5 : World} {cs : List Value} {t : TypeId} (h : Below (W.alloc (.cells cs.toArray t)).drew.heap.size (W.alloc (.cells cs.toArray t)).drew w5) : Blk w5 W.heap.size t cs := Blk.below (w := (W.alloc (.cells cs.toArray t)).drew) (heap_alloc_new W _) h

set_option maxHeartbeats 6400000 in
set_option maxRecDepth 100000 in
theorem refClose_yesN (v : Value) (ts : List (Int × Bool)) (lim cyc dued minf minp start n fr til : Int) (bv : Value) (bs : List Int) (c d : Int) (rv : Value) (rs : List Int) (nv : Value) (ns : List Int) (g : Bool) (HLT : ts.length ≤ 1000) (hrt : rightT lim ts cyc dued minf minp start = true) (ha : argsOk ts.length n fr til bs.length rs.length = true) (hra : rs.any rateBad = false) (L : List Int) (C D : Int) (HBS : Hid (bearS bs c d ns = (L, C, D, 0))) (hLl : L.length = bs.length) (hnl : ns.length = bs.length) (tot : Int) (HTOT : Hid (totalP L C D = tot)) (mn x : Int) (HMN : Hid (leastR (rightT lim ts cyc dued minf minp start) minf minp tot = (mn, x))) (du : Int) (hdu : til + dued = du) (hdur : -9000000000 ≤ du ∧ du ≤ 9000000000) (w : World) (hv : TrS w v ts) (hb : Sl .i64 w bv bs) (hr : Sl .i64 w rv rs) (hn : Sl .i64 w nv ns) :
    Calls Try.prog 36 #[.agg #[.int .i64 lim, v, .int .i64 cyc, .int .i64 dued, .int .i64 minf, .int .i64 minp, .int .i64 start], .int .i64 n, .agg #[.int .i64 fr, .int .i64 til], .agg #[bv, .int .i64 c, .int .i64 d], rv, nv, .bool g] w (RetCloseN n fr til du (zip3 L ns rs) tot C mn g L C mn 0 w) := by
  have HV := Lib.hid hv
  have HB := Lib.hid hb
  have HR := Lib.hid hr
  have HN := Lib.hid hn
  obtain ⟨ao, cap, rfl, h1, ⟨h2, hnn⟩, h3⟩ := hv
  clear h3 hnn
  obtain ⟨b0, bc, rfl, g1, ⟨g2, hnn⟩, h3⟩ := hb
  clear h3 hnn
  obtain ⟨r0, rc, rfl, i1, ⟨i2, hnn⟩, h3⟩ := hr
  clear h3 hnn
  obtain ⟨n0, nc, rfl, j1, ⟨j2, hnn⟩, h3⟩ := hn
  clear h3 hnn
  unfold maxLen at h2 g2 i2 j2
  obtain ⟨ha1, ha2, ha3, ha4, ha5, heq, heq2⟩ := argsOk_day.1 ha
  have d1 : ((bs.length : Int) == (ts.length : Int)) = true := by simp; omega
  have d2 : ((rs.length : Int) == (ts.length : Int)) = true := by simp; omega
  have HEQ := Lib.hid (And.intro heq (And.intro heq2 (And.intro hLl (And.intro hnl HLT))))
  have HRT : Hid ((if rightT lim ts cyc dued minf minp start = true then 0 else 6) = (0 : Int)) := by show _ = _; rw [hrt]; rfl
  have wdu : wrap64 (til + dued) = du := by rw [hdu]; exact IntWalk.wrap64_in _ ⟨by omega, by omega⟩
  have wdu2 : IntKind.i64.wrap (til + dued) = du := by rw [hdu]; exact IntWalk.i64_in _ ⟨by omega, by omega⟩
  have WDU := Lib.hid (And.intro wdu wdu2)
  have HRA := Lib.hid hra
  clear ha hrt hra hLl hnl hdu wdu wdu2 hdur heq heq2
  go_enter Try.func36, Try.ntmps36
  go_wp2_with fail
  obtain ⟨W, hW, S7, S9, S10, S14, S15, SB, SZ⟩ := close_start w lim cyc dued minf minp start fr til c d (.slice ao ts.length cap) (.slice b0 bs.length bc)
  with_reducible rw [hW]
  clear hW SZ
  have HVW := Lib.hid (HV.out.below SB.out)
  refine (refRight_any _ ts lim cyc dued minf minp start _ HRT _ HVW.out).mono ?_
  rintro _ w2 ⟨rfl, hb2⟩
  have X7 := Lib.hid (S7.out.below hb2)
  have X9 := Lib.hid (S9.out.below hb2)
  have X10 := Lib.hid (S10.out.below hb2)
  have X14 := Lib.hid (S14.out.below hb2)
  have X15 := Lib.hid (S15.out.below hb2)
  have XB := Lib.hid (bl_tr SB.out hb2)
  clear hb2 S7 S9 S10 S14 S15 SB HVW HRT
  go_upto_region 3 with fail
  have q9 := X9.out
  have s0 := q9.cell 0
  have s1 := q9.cell 1
  have q7 := X7.out
  have t1 := q7.cell 1
  have q10 := X10.out
  have p0 := q10.cell 0
  simp only [List.getElem?_cons_zero, List.getElem?_cons_succ] at s0 s1 t1 p0
  clear q9 q7 q10
  go_wp2_with fail
  clear s0 s1 t1 p0 d1 d2 ha1 ha2 ha3 ha4 ha5
  have HRW := Lib.hid (HR.out.below XB.out)
  go_loopg [17, 18] rs.length (fun g s i wr => ∃ (k : Nat), k + g = rs.length ∧ s = .bool true ∧ i = .int .i64 k ∧ w2 = wr)
  case atStart => exact ⟨0, by omega, rfl, rfl, rfl⟩
  case round =>
    obtain ⟨k, hkg, rfl, rfl, rfl⟩ := hrel
    cases gk with
    | succ gg =>
      have hlt : (k : Int) < (rs.length : Int) := by omega
      obtain ⟨b', o', y, rfl, hcell, HX⟩ := HRW.out.get (i := k) (by omega)
      have hx := rates_at HRA.out (k := k) (by omega)
      rw [HX.out] at hx
      obtain ⟨hx1, hx2⟩ := hx
      go_wp2_with fail
      go_roundg gg
      case measure => omega
      case rel => exact ⟨k + 1, by omega, rfl, by go_num, rfl⟩
    | zero =>
      have hlt : ¬ ((k : Int) < (rs.length : Int)) := by omega
      have q10 := X10.out
      have p0 := q10.cell 0
      have p1 := q10.cell 1
      have p2 := q10.cell 2
      simp only [List.getElem?_cons_zero, List.getElem?_cons_succ] at p0 p1 p2
      clear q10
      go_wp2_with fail
      refine (refBear11N_any _ _ bs ns c d _ HBS (by have := HEQ.out; omega) _ (HB.out.below XB.out) (HN.out.below XB.out)).mono ?_
      rintro _ w3 ⟨u3, rfl, ⟨hul, huf⟩, hb3⟩
      simp only at hul ⊢
      obtain ⟨a3, q3, rfl⟩ := hul.shape
      have HZ2 := Lib.hid X15.out.lt
      have HUL := Lib.hid hul
      have HUF := Lib.hid huf
      have Y7 := Lib.hid (X7.out.below hb3)
      have Y9 := Lib.hid (X9.out.below hb3)
      have Y14 := Lib.hid (X14.out.below hb3)
      have Y15 := Lib.hid (X15.out.below hb3)
      have YB := Lib.hid (bl_tr XB.out hb3)
      have Y10 := Lib.hid (X10.out.below hb3)
      have qy := Y10.out
      clear p0 p1 p2
      have p0 := qy.cell 0
      have p1 := qy.cell 1
      have p2 := qy.cell 2
      simp only [List.getElem?_cons_zero, List.getElem?_cons_succ] at p0 p1 p2
      have f0 := qy.frozen 0
      have f1 := qy.frozen 1
      have f2 := qy.frozen 2
      clear qy hul huf hb3 X7 X9 X10 X14 X15 XB HRW hlt
      go_upto_region 13 with fail
      have HA3 : Hid (∀ b o m q, Value.slice a3 L.length q3 = .slice (some ⟨b, o, none⟩) m q → 0 < m → b ≠ w.heap.size ∧ b ≠ (w.heap.size + 1) ∧ b ≠ (w.heap.size + 1 + 1) ∧ b ≠ (w.heap.size + 1 + 1 + 1) ∧ b ≠ (w.heap.size + 1 + 1 + 1 + 1)) := fun b o m q e hm => by
        have := HUF.out b o m q e hm
        have h5 := HZ2.out
        omega
      have HA3F : Hid (Fr w (.slice a3 L.length q3)) := fun b o m q e hm => by
        have := HUF.out b o m q e hm
        have h5 := HZ2.out
        omega
      obtain ⟨W4, hW4, Z7, Z9, Z10, Z14, Z15, ZB, ZU⟩ : ∃ W4, (((w3.setCell ⟨(w.heap.size + 1 + 1), 0, none⟩ (.slice a3 L.length q3)).setCell ⟨(w.heap.size + 1 + 1), 1, none⟩ (.int .i64 C)).setCell ⟨(w.heap.size + 1 + 1), 2, none⟩ (.int .i64 D)) = W4 ∧ Hid (Blk W4 w.heap.size 34 [.int .i64 lim, .slice ao ts.length cap, .int .i64 cyc, .int .i64 dued, .int .i64 minf, .int .i64 minp, .int .i64 start]) ∧ Hid (Blk W4 (w.heap.size + 1) 48 [.int .i64 fr, .int .i64 til]) ∧ Hid (Blk W4 (w.heap.size + 1 + 1) 46 [.slice a3 L.length q3, .int .i64 C, .int .i64 D]) ∧ Hid (Blk W4 (w.heap.size + 1 + 1 + 1) 51 [.int .i64 0, .int .i64 0, .int .i64 0, .int .i64 0, .slice none 0 0, .int .i64 0, .int .i64 0, .int .i64 0, .bool false]) ∧ Hid (Blk W4 (w.heap.size + 1 + 1 + 1 + 1) 46 [.slice none 0 0, .int .i64 0, .int .i64 0]) ∧ Hid (Below w.heap.size w W4) ∧ Hid (Sl .i64 W4 (.slice a3 L.length q3) L) :=
        ⟨_, rfl, ((Y7.out.setOther (by omega) _ _).setOther (by omega) _ _).setOther (by omega) _ _, ((Y9.out.setOther (by omega) _ _).setOther (by omega) _ _).setOther (by omega) _ _, ((Y10.out.set 0 _).set 1 _).set 2 _, ((Y14.out.setOther (by omega) _ _).setOther (by omega) _ _).setOther (by omega) _ _, ((Y15.out.setOther (by omega) _ _).setOther (by omega) _ _).setOther (by omega) _ _, bl_s3 YB.out (by omega) _ _ _, ((HUL.out.setCell (fun b o m q e h => (HA3.out b o m q e h).2.2.1) _).setCell (fun b o m q e h => (HA3.out b o m q e h).2.2.1) _).setCell (fun b o m q e h => (HA3.out b o m q e h).2.2.1) _⟩
      with_reducible rw [hW4]
      clear hW4 Y7 Y9 Y10 Y14 Y15 YB HUL HUF p0 p1 p2 f0 f1 f2
      have hSB : ∀ W', Blk W' w.heap.size 34 [.int .i64 lim, .slice ao ts.length cap, .int .i64 cyc, .int .i64 dued, .int .i64 minf, .int .i64 minp, .int .i64 start] → Blk W' (w.heap.size + 1) 48 [.int .i64 fr, .int .i64 til] → Blk W' (w.heap.size + 1 + 1) 46 [.slice a3 L.length q3, .int .i64 C, .int .i64 D] → (W'.cell? ⟨(w.heap.size + 1), 0, none⟩ = some (.int .i64 fr) ∧ W'.cell? ⟨(w.heap.size + 1), 1, none⟩ = some (.int .i64 til)) ∧ W'.cell? ⟨w.heap.size, 3, none⟩ = some (.int .i64 dued) ∧ (W'.cell? ⟨(w.heap.size + 1 + 1), 0, none⟩ = some (.slice a3 L.length q3) ∧ W'.cell? ⟨(w.heap.size + 1 + 1), 1, none⟩ = some (.int .i64 C) ∧ W'.cell? ⟨(w.heap.size + 1 + 1), 2, none⟩ = some (.int .i64 D)) := fun W' q7 q9 q10 =>
        ⟨⟨q9.cell 0, q9.cell 1⟩, q7.cell 3, q10.cell 0, q10.cell 1, q10.cell 2⟩
      have HSB := Lib.hid hSB
      have HSA := Lib.hid (fun W' (hbw : Below W4.heap.size W4 W') => hSB W' (Z7.out.below hbw) (Z9.out.below hbw) (Z10.out.below hbw))
      have HS9 := Lib.hid (fun w5 (hbw : Below W4.heap.size W4 w5) (z0 z1 z2 z3 z4 z5 z6 z7 z8 : Value) => (show Below W4.heap.size W4 (((((((((w5.setCell ⟨W4.heap.size, 0, none⟩ z0).setCell ⟨W4.heap.size, 1, none⟩ z1).setCell ⟨W4.heap.size, 2, none⟩ z2).setCell ⟨W4.heap.size, 3, none⟩ z3).setCell ⟨W4.heap.size, 4, none⟩ z4).setCell ⟨W4.heap.size, 5, none⟩ z5).setCell ⟨W4.heap.size, 6, none⟩ z6).setCell ⟨W4.heap.size, 7, none⟩ z7).setCell ⟨W4.heap.size, 8, none⟩ z8) from bl_s9 hbw (Nat.le_refl _) _ _ _ _ _ _ _ _ _) |> fun h => hSB (((((((((w5.setCell ⟨W4.heap.size, 0, none⟩ z0).setCell ⟨W4.heap.size, 1, none⟩ z1).setCell ⟨W4.heap.size, 2, none⟩ z2).setCell ⟨W4.heap.size, 3, none⟩ z3).setCell ⟨W4.heap.size, 4, none⟩ z4).setCell ⟨W4.heap.size, 5, none⟩ z5).setCell ⟨W4.heap.size, 6, none⟩ z6).setCell ⟨W4.heap.size, 7, none⟩ z7).setCell ⟨W4.heap.size, 8, none⟩ z8) (Z7.out.below h) (Z9.out.below h) (Z10.out.below h))
      have hs0 := hSB W4 Z7.out Z9.out Z10.out
      have hsd := hSB W4.drew Z7.out Z9.out Z10.out
      clear hSB
      obtain ⟨wdu, wdu2⟩ := WDU.out
      go_region_held3 (fun W' => (W'.cell? ⟨(w.heap.size + 1), 0, none⟩ = some (.int .i64 fr) ∧ W'.cell? ⟨(w.heap.size + 1), 1, none⟩ = some (.int .i64 til)) ∧ W'.cell? ⟨w.heap.size, 3, none⟩ = some (.int .i64 dued) ∧ (W'.cell? ⟨(w.heap.size + 1 + 1), 0, none⟩ = some (.slice a3 L.length q3) ∧ W'.cell? ⟨(w.heap.size + 1 + 1), 1, none⟩ = some (.int .i64 C) ∧ W'.cell? ⟨(w.heap.size + 1 + 1), 2, none⟩ = some (.int .i64 D))) (first | with_reducible exact HS9.out _ HB5.out _ _ _ _ _ _ _ _ _ | with_reducible exact hs0 | with_reducible exact hsd | with_reducible exact hs5 | with_reducible exact HSA.out _ (bl_al (Below.refl _ _) _) | with_reducible exact HSA.out _ (bl_dr (bl_al (Below.refl _ _) _)) | with_reducible exact HSA.out _ (bl_al (bl_dr (Below.refl _ _)) _) | with_reducible exact HSA.out _ (bl_al HB5.out _) | with_reducible assumption) (first | (go_at_call 55; refine (refTotal11_any _ L C D tot HTOT _ (ZU.out.below (by repeat (first | with_reducible exact Below.refl _ _ | (with_reducible refine bl_sc ?_ ?hge; case hge => (first | exact Nat.le_refl _ | omega)) | with_reducible refine bl_al ?_ _ | with_reducible refine bl_dr ?_ | with_reducible refine bl_dN ?_ _ | (refine bl_tr ?_ (by assumption)) | (refine bl_gr ?_ (by assumption) (by first | exact Nat.le_refl _ | omega)) | exact Below.refl _ _ | refine bl_al ?_ _ | refine bl_dr ?_ | refine bl_dN ?_ _)))).mono ?_; rintro _ w5 ⟨rfl, hb5⟩; have hbx : Below W4.heap.size W4 w5 := (by first | with_reducible exact hb5 | with_reducible exact b5_dr hb5 | with_reducible exact b5_ad hb5); have HB5 := Lib.hid hbx; have hs5 := HSA.out w5 hbx; clear hbx; try (have hk : Blk w5 W4.heap.size 51 [.int .i64 0, .int .i64 0, .int .i64 0, .int .i64 0, .slice none 0 0, .int .i64 0, .int .i64 0, .int .i64 0, .bool false] := b5_new (cs := [.int .i64 0, .int .i64 0, .int .i64 0, .int .i64 0, .slice none 0 0, .int .i64 0, .int .i64 0, .int .i64 0, .bool false]) (by with_reducible exact hb5); have k0 := hk.cell 0; have k1 := hk.cell 1; have k2 := hk.cell 2; have k3 := hk.cell 3; have k4 := hk.cell 4; have k5 := hk.cell 5; have k6 := hk.cell 6; have k7 := hk.cell 7; have k8 := hk.cell 8; simp only [List.getElem?_cons_zero, List.getElem?_cons_succ] at k0 k1 k2 k3 k4 k5 k6 k7 k8; have kf0 := hk.frozen 0; have kf1 := hk.frozen 1; have kf2 := hk.frozen 2; have kf3 := hk.frozen 3; have kf4 := hk.frozen 4; have kf5 := hk.frozen 5; have kf6 := hk.frozen 6; have kf7 := hk.frozen 7; have kf8 := hk.frozen 8; have HKB := Lib.hid hk; clear hk); clear hb5))
      all_goals (first
        | (
        obtain ⟨W6, hW6, V7, V10, V14, V15, V17, VB, VU⟩ : ∃ W6, (w5.alloc (.cells #[.int .i64 n, .int .i64 fr, .int .i64 til, .int .i64 du, .slice none 0 0, .int .i64 tot, .int .i64 C, .int .i64 0, .bool g] 51)) = W6 ∧ Hid (Blk W6 w.heap.size 34 [.int .i64 lim, .slice ao ts.length cap, .int .i64 cyc, .int .i64 dued, .int .i64 minf, .int .i64 minp, .int .i64 start]) ∧ Hid (Blk W6 (w.heap.size + 1 + 1) 46 [.slice a3 L.length q3, .int .i64 C, .int .i64 D]) ∧ Hid (Blk W6 (w.heap.size + 1 + 1 + 1) 51 [.int .i64 0, .int .i64 0, .int .i64 0, .int .i64 0, .slice none 0 0, .int .i64 0, .int .i64 0, .int .i64 0, .bool false]) ∧ Hid (Blk W6 (w.heap.size + 1 + 1 + 1 + 1) 46 [.slice none 0 0, .int .i64 0, .int .i64 0]) ∧ Hid (Blk W6 w5.heap.size 51 [.int .i64 n, .int .i64 fr, .int .i64 til, .int .i64 du, .slice none 0 0, .int .i64 tot, .int .i64 C, .int .i64 0, .bool g]) ∧ Hid (Below w.heap.size w W6) ∧ Hid (Sl .i64 W6 (.slice a3 L.length q3) L) :=
          ⟨_, rfl, (Z7.out.below HB5.out).below (bl_al (Below.refl _ _) _), (Z10.out.below HB5.out).below (bl_al (Below.refl _ _) _), (Z14.out.below HB5.out).below (bl_al (Below.refl _ _) _), (Z15.out.below HB5.out).below (bl_al (Below.refl _ _) _), heap_alloc_new w5 _, bl_al (bl_tr ZB.out HB5.out) _, (ZU.out.below HB5.out).below (bl_al (Below.refl _ _) _)⟩
        with_reducible rw [hW6]
        have hge : W4.heap.size ≤ w5.heap.size := HB5.out.size
        have hzz := Z15.out.lt
        have HAG : Hid (∀ b o m q, Value.slice a3 L.length q3 = .slice (some ⟨b, o, none⟩) m q → 0 < m → b < w5.heap.size) := by
          intro b o m q e hm
          cases e
          obtain ⟨b', o', e1, hc⟩ := ZU.out.at (i := 0) hm
          cases e1
          have := cell_block_lt hc
          omega
        obtain ⟨G17, hG⟩ : ∃ G, w5.heap.size = G := ⟨_, rfl⟩
        with_reducible rw [hG]
        rw [hG] at V17 hge HAG
        have HG17 : Hid (w.heap.size + 1 + 1 + 1 + 1 < G17) := by show _ < _; omega
        clear hG hge hzz hW6 Z7 Z9 Z10 Z14 Z15 ZB ZU hs0 hsd hs5 HSB HSA HS9 HB5 wdu wdu2)
        | (
        have hzz := Z15.out.lt
        have HAG : Hid (∀ b o m q, Value.slice a3 L.length q3 = .slice (some ⟨b, o, none⟩) m q → 0 < m → b < W4.heap.size) := by
          intro b o m q e hm
          cases e
          obtain ⟨b', o', e1, hc⟩ := ZU.out.at (i := 0) hm
          cases e1
          have := cell_block_lt hc
          omega
        obtain ⟨W6, hW6, V7, V10, V14, V15, V17, VB, VU⟩ : ∃ W6, (((((((((w5.setCell ⟨W4.heap.size, 0, none⟩ (.int .i64 n)).setCell ⟨W4.heap.size, 1, none⟩ (.int .i64 fr)).setCell ⟨W4.heap.size, 2, none⟩ (.int .i64 til)).setCell ⟨W4.heap.size, 3, none⟩ (.int .i64 du)).setCell ⟨W4.heap.size, 4, none⟩ (.slice none 0 0)).setCell ⟨W4.heap.size, 5, none⟩ (.int .i64 tot)).setCell ⟨W4.heap.size, 6, none⟩ (.int .i64 C)).setCell ⟨W4.heap.size, 7, none⟩ (.int .i64 0)).setCell ⟨W4.heap.size, 8, none⟩ (.bool g)) = W6 ∧ Hid (Blk W6 w.heap.size 34 [.int .i64 lim, .slice ao ts.length cap, .int .i64 cyc, .int .i64 dued, .int .i64 minf, .int .i64 minp, .int .i64 start]) ∧ Hid (Blk W6 (w.heap.size + 1 + 1) 46 [.slice a3 L.length q3, .int .i64 C, .int .i64 D]) ∧ Hid (Blk W6 (w.heap.size + 1 + 1 + 1) 51 [.int .i64 0, .int .i64 0, .int .i64 0, .int .i64 0, .slice none 0 0, .int .i64 0, .int .i64 0, .int .i64 0, .bool false]) ∧ Hid (Blk W6 (w.heap.size + 1 + 1 + 1 + 1) 46 [.slice none 0 0, .int .i64 0, .int .i64 0]) ∧ Hid (Blk W6 W4.heap.size 51 [.int .i64 n, .int .i64 fr, .int .i64 til, .int .i64 du, .slice none 0 0, .int .i64 tot, .int .i64 C, .int .i64 0, .bool g]) ∧ Hid (Below w.heap.size w W6) ∧ Hid (Sl .i64 W6 (.slice a3 L.length q3) L) :=
          ⟨_, rfl, (Z7.out.below HB5.out).s9 (by omega) _ _ _ _ _ _ _ _ _, (Z10.out.below HB5.out).s9 (by omega) _ _ _ _ _ _ _ _ _, (Z14.out.below HB5.out).s9 (by omega) _ _ _ _ _ _ _ _ _, (Z15.out.below HB5.out).s9 (by omega) _ _ _ _ _ _ _ _ _, (((((((((HKB.out.set 0 _).set 1 _).set 2 _).set 3 _).set 4 _).set 5 _).set 6 _).set 7 _).set 8 _), bl_s9 (bl_tr ZB.out HB5.out) (by omega) _ _ _ _ _ _ _ _ _, (ZU.out.below HB5.out).s9 (fun b o m q e h => by have := HAG.out b o m q e h; omega) _ _ _ _ _ _ _ _ _⟩
        with_reducible rw [hW6]
        obtain ⟨G17, hG⟩ : ∃ G, W4.heap.size = G := ⟨_, rfl⟩
        with_reducible rw [hG]
        rw [hG] at V17 HAG hzz
        have HG17 : Hid (w.heap.size + 1 + 1 + 1 + 1 < G17) := hzz
        clear k0 kf0 k1 kf1 k2 kf2 k3 kf3 k4 kf4 k5 kf5 k6 kf6 k7 kf7 k8 kf8 HKB
        clear hG hzz hW6 Z7 Z9 Z10 Z14 Z15 ZB ZU hs0 hsd hs5 HSB HSA HS9 HB5 wdu wdu2))
      all_goals (
        obtain ⟨j0, hi, hz0, hz1', hz2⟩ := info_parts info_line
        have HLE := Lib.hid (show L.length ≤ 1000 by have := HEQ.out; omega)
        obtain ⟨B8, hB8⟩ : ∃ B, W6.heap.size = B := ⟨_, rfl⟩
        have HB8 : Hid (G17 < B8 ∧ w.heap.size < B8) := by
          have h1 := V17.out.lt
          have h3 := V10.out.lt
          show _ ∧ _
          omega
        have HA8 : Hid (∀ b o m q, Value.slice a3 L.length q3 = .slice (some ⟨b, o, none⟩) m q → 0 < m → b < B8) := by
          intro b o m q e hm
          have := HAG.out b o m q e hm
          have := HB8.out
          omega
        go_wp2_with fail
        go_loopg [21] rs.length (fun gg i wr => ∃ k : Nat, k + gg = rs.length ∧ i = .int .i64 k ∧ (∃ u : Value, Blk wr G17 51 [.int .i64 n, .int .i64 fr, .int .i64 til, .int .i64 du, u, .int .i64 tot, .int .i64 C, .int .i64 0, .bool g] ∧ wr.ownsRow B8 57 3 u k (cells3 ((zip3 L ns rs).take k))) ∧ Hid (Blk wr w.heap.size 34 [.int .i64 lim, .slice ao ts.length cap, .int .i64 cyc, .int .i64 dued, .int .i64 minf, .int .i64 minp, .int .i64 start]) ∧ Hid (Blk wr (w.heap.size + 1 + 1) 46 [.slice a3 L.length q3, .int .i64 C, .int .i64 D]) ∧ Hid (Blk wr (w.heap.size + 1 + 1 + 1) 51 [.int .i64 0, .int .i64 0, .int .i64 0, .int .i64 0, .slice none 0 0, .int .i64 0, .int .i64 0, .int .i64 0, .bool false]) ∧ Hid (Blk wr (w.heap.size + 1 + 1 + 1 + 1) 46 [.slice none 0 0, .int .i64 0, .int .i64 0]) ∧ B8 ≤ wr.heap.size ∧ Below w.heap.size w wr ∧ Hid (Sl .i64 wr (.slice a3 L.length q3) L))
        case atStart =>
          refine ⟨0, by omega, rfl, ⟨.slice none 0 0, V17.out, ?_⟩, V7.out, V10.out, V14.out, V15.out, Nat.le_of_eq hB8.symm, VB.out, VU.out⟩
          exact World.ownsRow_nil _ _ _ _
        case round =>
          clear V7 V10 V14 V15 V17 VB VU hB8 hkg
          obtain ⟨k, hkg, rfl, ⟨u, hC, hown⟩, I7, I10, I14, I15, hsz, hb, IU⟩ := hrel
          cases gk with
          | succ gg =>
            have hlt : (k : Int) < (rs.length : Int) := by omega
            have hkL : k < L.length := by have := HEQ.out; omega
            have hkLi : (k : Int) < (L.length : Int) := by omega
            obtain ⟨ba, oa, x1, e0, hc1, HX1⟩ := IU.out.get (i := k) hkL
            have hkn : k < ns.length := by have := HEQ.out; omega
            have hkr : k < rs.length := by omega
            have hkni : (k : Int) < (ns.length : Int) := by omega
            obtain ⟨bn, on, x2, e1, hcw2, HX2⟩ := HN.out.get (i := k) hkn
            obtain ⟨br, or, x3, e2, hcw3, HX3⟩ := HR.out.get (i := k) hkr
            subst e0 e1 e2
            have p0 := I10.out.cell 0
            simp only [List.getElem?_cons_zero] at p0
            have hc2 : wr.cell? ⟨bn, on + k, none⟩ = some (.int .i64 x2) := (hb.cell (p := ⟨bn, on + k, none⟩) (cell_block_lt hcw2)).trans hcw2
            have hc5 : wr.cell? ⟨br, or + k, none⟩ = some (.int .i64 x3) := (hb.cell (p := ⟨br, or + k, none⟩) (cell_block_lt hcw3)).trans hcw3
            have e4 : wr.cell? ⟨G17, 4, none⟩ = some u := hC.cell 4
            have hCne : ∀ q, u.ownBlock = some q → B8 ≤ q := fun q hq => (hown.lt q hq).1
            have HCNE := Lib.hid hCne
            have HCN17 : Hid (∀ q, u.ownBlock = some q → q = G17 → False) := fun q hq e => by
              have := HCNE.out q hq
              have := HB8.out.1
              omega
            have hm63 : k + 1 ≤ maxLen := by unfold maxLen; have := HLE.out; omega
            have hbyt : (k + 1) * 24 ≤ 140737488355328 := by have := HLE.out; omega
            have HB2 := Lib.hid hb
            have HC2 := Lib.hid hC
            have HOW := Lib.hid hown
            have HCW := Lib.hid (And.intro (cell_block_lt hcw2) (cell_block_lt hcw3))
            clear hC hb hCne hown
            have e4a : ∀ ob : Obj, (wr.alloc ob).cell? ⟨G17, 4, none⟩ = some u := fun ob => (HC2.out.below (bl_al (Below.refl _ _) ob)).cell 4
            go_upto_region 17 with fail
            have hs4 : wr.cell? ⟨(w.heap.size + 1 + 1), 0, none⟩ = some (.slice (some ⟨ba, oa, none⟩) L.length q3) ∧ wr.cell? ⟨ba, oa + k, none⟩ = some (.int .i64 x1) ∧ wr.cell? ⟨bn, on + k, none⟩ = some (.int .i64 x2) ∧ wr.cell? ⟨br, or + k, none⟩ = some (.int .i64 x3) := ⟨p0, hc1, hc2, hc5⟩
            have HSK := Lib.hid (fun W' (h : Below wr.heap.size wr W') => s4_below hs4 h)
            have hs4d := HSK.out wr.drew (bl_dr (Below.refl _ _))
            have HBN : Hid (bn < w.heap.size ∧ br < w.heap.size) := And.intro HCW.out.1 HCW.out.2
            have HBA : Hid (ba < B8 ∧ ba ≠ G17) := by
              have h1 := HA8.out ba oa _ _ rfl (by omega)
              have h2 := HAG.out ba oa _ _ rfl (by omega)
              exact And.intro h1 (by omega)
            have HNE4 : Hid ((some (w.heap.size + 1 + 1) ≠ u.ownBlock) ∧ (some ba ≠ u.ownBlock) ∧ (some bn ≠ u.ownBlock) ∧ (some br ≠ u.ownBlock)) := by
              have h1 := HBN.out
              have h2 := HBA.out
              have h3 := HB8.out
              have h4 := HG17.out
              refine ⟨fun e => ?_, fun e => ?_, fun e => ?_, fun e => ?_⟩ <;> (have := HCNE.out _ e.symm; omega)
            have HNG : Hid ((w.heap.size + 1 + 1) ≠ G17 ∧ ba ≠ G17 ∧ bn ≠ G17 ∧ br ≠ G17) := by
              have h1 := HBN.out
              have h2 := HBA.out
              have h4 := HG17.out
              show _ ∧ _
              omega
            clear hcw2 hcw3
            have e4d : wr.drew.cell? ⟨G17, 4, none⟩ = some u := e4
            have hSd := And.intro hs4d e4d
            refine wp_region_phase (fun W' => (W'.cell? ⟨(w.heap.size + 1 + 1), 0, none⟩ = some (.slice (some ⟨ba, oa, none⟩) L.length q3) ∧ W'.cell? ⟨ba, oa + k, none⟩ = some (.int .i64 x1) ∧ W'.cell? ⟨bn, on + k, none⟩ = some (.int .i64 x2) ∧ W'.cell? ⟨br, or + k, none⟩ = some (.int .i64 x3)) ∧ W'.cell? ⟨G17, 4, none⟩ = some u) 18 (by kernel_rfl) ?_
            refine wpAnyP_take (i := 0) (oi := ⟨_, _, _, _, _, _⟩) (v := ?_) rfl (by kernel_rfl) (by kernel_rfl) (by kernel_rfl) (by kernel_rfl) (by kernel_rfl) (fun _ _ _ h => h) (Or.inl ⟨by rfl, ?_⟩) (by assumption) ?_
            rotate_left
            · (intro w hSw; (try dsimp only at hSw); go_simp; try with_reducible rfl)
            simp only [Act.put, List.setIfInBounds_toArray, List.set_cons_zero, List.set_cons_succ]
            refine wpAnyP_take (i := 1) (oi := ⟨_, _, _, _, _, _⟩) (v := ?_) rfl (by kernel_rfl) (by kernel_rfl) (by kernel_rfl) (by kernel_rfl) (by kernel_rfl) (fun _ _ _ h => h) (Or.inl ⟨by rfl, ?_⟩) (by assumption) ?_
            rotate_left
            · (intro w hSw; (try dsimp only at hSw); go_simp; try with_reducible rfl)
            simp only [Act.put, List.setIfInBounds_toArray, List.set_cons_zero, List.set_cons_succ]
            refine wpAnyP_take (i := 2) (oi := ⟨_, _, _, _, _, _⟩) (v := ?_) rfl (by kernel_rfl) (by kernel_rfl) (by kernel_rfl) (by kernel_rfl) (by kernel_rfl) (fun _ _ _ h => h) (Or.inl ⟨by rfl, ?_⟩) (by assumption) ?_
            rotate_left
            · (intro w hSw; (try dsimp only at hSw); go_simp; try with_reducible rfl)
            simp only [Act.put, List.setIfInBounds_toArray, List.set_cons_zero, List.set_cons_succ]
            refine wpAnyP_take (i := 3) (oi := ⟨_, _, _, _, _, _⟩) (v := ?_) rfl (by kernel_rfl) (by kernel_rfl) (by kernel_rfl) (by kernel_rfl) (by kernel_rfl) (fun _ _ _ h => h) (Or.inl ⟨by rfl, ?_⟩) (by assumption) ?_
            rotate_left
            · (intro w hSw; (try dsimp only at hSw); go_simp; try with_reducible rfl)
            simp only [Act.put, List.setIfInBounds_toArray, List.set_cons_zero, List.set_cons_succ]
            refine wpAnyP_take (i := 4) (oi := ⟨_, _, _, _, _, _⟩) (v := ?_) rfl (by kernel_rfl) (by kernel_rfl) (by kernel_rfl) (by kernel_rfl) (by kernel_rfl) (fun _ _ _ h => h) (Or.inl ⟨by rfl, ?_⟩) (by assumption) ?_
            rotate_left
            · (intro w hSw; (try dsimp only at hSw); go_simp; try with_reducible rfl)
            simp only [Act.put, List.setIfInBounds_toArray, List.set_cons_zero, List.set_cons_succ]
            refine wpAnyP_take (i := 5) (oi := ⟨_, _, _, _, _, _⟩) (v := ?_) rfl (by kernel_rfl) (by kernel_rfl) (by kernel_rfl) (by kernel_rfl) (by kernel_rfl) (fun _ _ _ h => h) (Or.inl ⟨by rfl, ?_⟩) (by assumption) ?_
            rotate_left
            · (intro w hSw; (try dsimp only at hSw); go_simp; try with_reducible rfl)
            simp only [Act.put, List.setIfInBounds_toArray, List.set_cons_zero, List.set_cons_succ]
            refine wpAnyP_take (i := 6) (oi := ⟨_, _, _, _, _, _⟩) (v := ?_) rfl (by kernel_rfl) (by kernel_rfl) (by kernel_rfl) (by kernel_rfl) (by kernel_rfl) (fun _ _ _ h => h) (Or.inl ⟨by rfl, ?_⟩) (by assumption) ?_
            rotate_left
            · (intro w hSw; (try dsimp only at hSw); go_simp; try with_reducible rfl)
            simp only [Act.put, List.setIfInBounds_toArray, List.set_cons_zero, List.set_cons_succ]
            refine wpAnyP_take (i := 7) (oi := ⟨_, _, _, _, _, _⟩) (v := ?_) rfl (by kernel_rfl) (by kernel_rfl) (by kernel_rfl) (by kernel_rfl) (by kernel_rfl) (fun _ _ _ h => h) (Or.inl ⟨by rfl, ?_⟩) (by assumption) ?_
            rotate_left
            · (intro w hSw; (try dsimp only at hSw); go_simp; try with_reducible rfl)
            simp only [Act.put, List.setIfInBounds_toArray, List.set_cons_zero, List.set_cons_succ]
            refine wpAnyP_take (i := 8) (oi := ⟨_, _, _, _, _, _⟩) (v := ?_) rfl (by kernel_rfl) (by kernel_rfl) (by kernel_rfl) (by kernel_rfl) (by kernel_rfl) (fun _ _ _ h => h) (Or.inl ⟨by rfl, ?_⟩) (by assumption) ?_
            rotate_left
            · (intro w hSw; (try dsimp only at hSw); go_simp; try with_reducible rfl)
            simp only [Act.put, List.setIfInBounds_toArray, List.set_cons_zero, List.set_cons_succ]
            refine wpAnyP_take (i := 9) (oi := ⟨_, _, _, _, _, _⟩) (v := ?_) rfl (by kernel_rfl) (by kernel_rfl) (by kernel_rfl) (by kernel_rfl) (by kernel_rfl) (fun _ _ _ h => h) (Or.inl ⟨by rfl, ?_⟩) (by assumption) ?_
            rotate_left
            · (intro w hSw; (try dsimp only at hSw); go_simp; try with_reducible rfl)
            simp only [Act.put, List.setIfInBounds_toArray, List.set_cons_zero, List.set_cons_succ]
            refine wpAnyP_take (i := 10) (oi := ⟨_, _, _, _, _, _⟩) (v := ?_) rfl (by kernel_rfl) (by kernel_rfl) (by kernel_rfl) (by kernel_rfl) (by kernel_rfl) (fun _ _ _ h => h) (Or.inl ⟨by rfl, ?_⟩) (by assumption) ?_
            rotate_left
            · (intro w hSw; (try dsimp only at hSw); go_simp; try with_reducible rfl)
            simp only [Act.put, List.setIfInBounds_toArray, List.set_cons_zero, List.set_cons_succ]
            refine wpAnyP_take (i := 11) (oi := ⟨_, _, _, _, _, _⟩) (v := ?_) rfl (by kernel_rfl) (by kernel_rfl) (by kernel_rfl) (by kernel_rfl) (by kernel_rfl) (fun _ _ _ h => h) (Or.inl ⟨by rfl, ?_⟩) (by assumption) ?_
            rotate_left
            · (intro w hSw; (try dsimp only at hSw); go_simp; try with_reducible rfl)
            simp only [Act.put, List.setIfInBounds_toArray, List.set_cons_zero, List.set_cons_succ]
            refine wpAnyP_take (i := 12) (oi := ⟨_, _, _, _, _, _⟩) (v := ?_) rfl (by kernel_rfl) (by kernel_rfl) (by kernel_rfl) (by kernel_rfl) (by kernel_rfl) (fun _ _ _ h => h) (Or.inl ⟨by rfl, ?_⟩) (by assumption) ?_
            rotate_left
            · (intro w hSw; (try dsimp only at hSw); go_simp; try with_reducible rfl)
            simp only [Act.put, List.setIfInBounds_toArray, List.set_cons_zero, List.set_cons_succ]
            refine wpAnyP_take (i := 13) (oi := ⟨_, _, _, _, _, _⟩) (v := ?_) rfl (by kernel_rfl) (by kernel_rfl) (by kernel_rfl) (by kernel_rfl) (by kernel_rfl) (fun _ _ _ h => h) (Or.inl ⟨by rfl, ?_⟩) (by assumption) ?_
            rotate_left
            · (intro w hSw; (try dsimp only at hSw); go_simp; try with_reducible rfl)
            simp only [Act.put, List.setIfInBounds_toArray, List.set_cons_zero, List.set_cons_succ]
            refine wpAnyP_take (i := 14) (oi := ⟨_, _, _, _, _, _⟩) (v := ?_) rfl (by kernel_rfl) (by kernel_rfl) (by kernel_rfl) (by kernel_rfl) (by kernel_rfl) (fun _ _ _ h => h) (Or.inl ⟨by rfl, ?_⟩) (by assumption) ?_
            rotate_left
            · (intro w hSw; (try dsimp only at hSw); go_simp; try with_reducible rfl)
            simp only [Act.put, List.setIfInBounds_toArray, List.set_cons_zero, List.set_cons_succ]
            refine wpAnyP_take (i := 15) (oi := ⟨_, _, _, _, _, _⟩) (v := ?_) rfl (by kernel_rfl) (by kernel_rfl) (by kernel_rfl) (by kernel_rfl) (by kernel_rfl) (fun _ _ _ h => h) (Or.inl ⟨by rfl, ?_⟩) (by assumption) ?_
            rotate_left
            · (intro w hSw; (try dsimp only at hSw); go_simp; try with_reducible rfl)
            simp only [Act.put, List.setIfInBounds_toArray, List.set_cons_zero, List.set_cons_succ]
            refine wpAnyP_one (i := 16) (o := ⟨_, _, _, _, _, _⟩) (by kernel_rfl) rfl (fun K hK => ?_)
            go_simp
            refine hK.out _ _ (fun hun => And.intro (HSK.out _ (bl_al (bl_dr (Below.refl _ _)) _)) (((HC2.out.below (bl_al (bl_dr (Below.refl _ _)) _)).cell 4))) ?_
            clear hK K
            try simp only [Act.put, List.setIfInBounds_toArray, List.set_cons_zero, List.set_cons_succ]
            refine wpAnyP_one (i := 17) (o := ⟨_, _, _, _, _, _⟩) (by kernel_rfl) rfl (fun K hK => ?_)
            refine step_append_any _ rfl (.tmp 123) (.tmp 138) 49 rfl B8 57 j0 (.agg #[.int .i64 0, .int .i64 0, .int .i64 0]) 3 24 Try.underlying49 hi hz0 hz1' hz2 rfl (by decide) u k (cells3 ((zip3 L ns rs).take k)) (by rfl) (by first | exact HOW.out.alloc _ | exact (HOW.out.alloc _).drew) (some ⟨wr.heap.size, 0, none⟩) 1 1 [.int .i64 x1, .int .i64 x2, .int .i64 x3] (by rfl) rfl (by intro h; cases h) (by intro ad had; cases had; exact news3 wr _ _ _ _) (fun x hx => by simp at hx; rcases hx with rfl | rfl | rfl <;> rfl) hm63 hbyt (by first | (rw [World.size_alloc]; exact Nat.le_succ_of_le hsz) | (rw [World.size_drew, World.size_alloc]; exact Nat.le_succ_of_le hsz)) ?_
            intro v1 w9 hown3 hg3 hn3; clear hn3; obtain ⟨g3, cap3, rfl⟩ := own_shape hown3 (Nat.succ_pos k); have HG3 := Lib.hid hg3; have hC3 := blk_grownC (by first | exact HC2.out.below (bl_al (Below.refl _ _) _) | exact HC2.out.below (bl_al (bl_dr (Below.refl _ _)) _) | exact HC2.out.below (bl_dr (bl_al (Below.refl _ _) _))) hg3 (fun e => HCN17.out _ e.symm rfl); have e3 : w9.cell? ⟨G17, 4, none⟩ = some u := hC3.cell 4; have f3 := hC3.frozen 4; have HC3 := Lib.hid hC3; have hb3 : Below w.heap.size w w9 := Below.grown (by first | exact bl_al HB2.out _ | exact bl_al (bl_dr HB2.out) _ | exact bl_dr (bl_al HB2.out _)) hg3 (by first | (rw [World.size_alloc]; exact Nat.le_succ_of_le HB2.out.size) | exact HB2.out.size | (rw [World.size_drew, World.size_alloc]; exact Nat.le_succ_of_le HB2.out.size)) (fun q hq => by have := HCNE.out q hq; have := HB8.out.2; omega); have HB3 := Lib.hid hb3; have hs9 := s4_grown (by first | exact HSK.out _ (bl_al (Below.refl _ _) _) | exact HSK.out _ (bl_al (bl_dr (Below.refl _ _)) _) | exact HSK.out _ (bl_dr (bl_al (Below.refl _ _) _))) hg3 HNE4.out.1 HNE4.out.2.1 HNE4.out.2.2.1 HNE4.out.2.2.2; have HSS := Lib.hid (fun z : Value => s4_set (g := G17) (i := 4) hs9 HNG.out.1 HNG.out.2.1 HNG.out.2.2.1 HNG.out.2.2.2 z); clear hC3 hg3 hb3
            refine hK.out _ _ (fun hun => And.intro hs9 e3) ?_
            clear hK K
            try simp only [Act.put, List.setIfInBounds_toArray, List.set_cons_zero, List.set_cons_succ]
            refine wpAnyP_one (i := 18) (o := ⟨_, _, _, _, _, _⟩) (by kernel_rfl) rfl (fun K hK => ?_)
            go_simp
            refine hK.out _ _ (fun hun => absurd hun (by decide)) ?_
            clear hK K
            try simp only [Act.put, List.setIfInBounds_toArray, List.set_cons_zero, List.set_cons_succ]
            refine wpAnyP_one (i := 19) (o := ⟨_, _, _, _, _, _⟩) (by kernel_rfl) rfl (fun K hK => ?_)
            go_simp
            refine hK.out _ _ (fun hun => absurd hun (by decide)) ?_
            clear hK K
            try simp only [Act.put, List.setIfInBounds_toArray, List.set_cons_zero, List.set_cons_succ]
            refine wpAnyP_done (by kernel_rfl) ?_ _
            all_goals
              clear e4a e4 hc2 hc5 p0 hc1 hs4 hs4d HSK hs9 HSS
              have hA7 : some w.heap.size ≠ u.ownBlock := fun e => by have := HCNE.out _ e.symm; have := HB8.out; have := HG17.out; omega
              have hA10 : some (w.heap.size + 1 + 1) ≠ u.ownBlock := fun e => by have := HCNE.out _ e.symm; have := HB8.out; have := HG17.out; omega
              have hA14 : some (w.heap.size + 1 + 1 + 1) ≠ u.ownBlock := fun e => by have := HCNE.out _ e.symm; have := HB8.out; have := HG17.out; omega
              have hA15 : some (w.heap.size + 1 + 1 + 1 + 1) ≠ u.ownBlock := fun e => by have := HCNE.out _ e.symm; have := HB8.out; have := HG17.out; omega
              have N7 := Lib.hid (blk_grownC (by first | exact I7.out.below (bl_al (Below.refl _ _) _) | exact I7.out.below (bl_al (bl_dr (Below.refl _ _)) _) | exact I7.out.below (bl_dr (bl_al (Below.refl _ _) _))) HG3.out hA7)
              have N10 := Lib.hid (blk_grownC (by first | exact I10.out.below (bl_al (Below.refl _ _) _) | exact I10.out.below (bl_al (bl_dr (Below.refl _ _)) _) | exact I10.out.below (bl_dr (bl_al (Below.refl _ _) _))) HG3.out hA10)
              have N14 := Lib.hid (blk_grownC (by first | exact I14.out.below (bl_al (Below.refl _ _) _) | exact I14.out.below (bl_al (bl_dr (Below.refl _ _)) _) | exact I14.out.below (bl_dr (bl_al (Below.refl _ _) _))) HG3.out hA14)
              have N15 := Lib.hid (blk_grownC (by first | exact I15.out.below (bl_al (Below.refl _ _) _) | exact I15.out.below (bl_al (bl_dr (Below.refl _ _)) _) | exact I15.out.below (bl_dr (bl_al (Below.refl _ _) _))) HG3.out hA15)
              have NU := Lib.hid (Sl.grownC (by first | exact IU.out.below (bl_al (Below.refl _ _) _) | exact IU.out.below (bl_al (bl_dr (Below.refl _ _)) _) | exact IU.out.below (bl_dr (bl_al (Below.refl _ _) _))) HG3.out (fun b o m q e hm e2 => by have := HCNE.out _ e2.symm; have := HA8.out b o m q e hm; omega))
              have hszn : B8 ≤ w9.heap.size := by
                have h := HG3.out.size
                simp only [World.size_alloc, World.size_drew] at h
                omega
              have HT3 : Hid (w9.ownsRow B8 57 3 (.slice (some ⟨g3, 0, none⟩) (k + 1) cap3) (k + 1) (cells3 ((zip3 L ns rs).take (k + 1)))) := by
                rw [zip3_take (show k < L.length by omega), cells3_append, HX1.out, HX2.out, HX3.out]
                exact hown3
              clear hown3 hA7 hA10 hA14 hA15
              go_wp2_with fail
              go_roundg gg
              case measure => omega
              case rel =>
                have h17 := HG17.out
                exact ⟨k + 1, by omega, by go_num, ⟨_, HC3.out.set 4 _, ownsRow_setCell_below HT3.out HB8.out.1 _⟩, N7.out.setOther (by omega) _ _, N10.out.setOther (by omega) _ _, N14.out.setOther (by omega) _ _, N15.out.setOther (by omega) _ _, by rw [World.size_setCell]; exact hszn, HB3.out.setCell (show w.heap.size ≤ G17 by omega) _, NU.out.setCell (fun b o m q e h => by have := HAG.out b o m q e h; omega) _⟩
          | zero =>
            have hkl : rs.length = L.length := by have := HEQ.out; omega
            have hkr : k = L.length := by omega
            subst hkr
            have hlt : ¬ ((L.length : Int) < (rs.length : Int)) := by omega
            rw [List.take_of_length_le (by rw [zip3_length]; exact Nat.le_refl _)] at hown
            have hln := LnS.of_own hown (zip3_length L ns rs)
            obtain ⟨au, cu, rfl⟩ := hln.shape
            have HLN := Lib.hid hln
            have hCne : ∀ b o m q, Value.slice au (zip3 L ns rs).length cu = .slice (some ⟨b, o, none⟩) m q → 0 < m → B8 ≤ b := fun b o m q e hm => by
              cases e
              rw [zip3_length] at hm
              rcases hown.2 with ⟨h, _⟩ | ⟨g', cap', cur', h, hb', _⟩
              · simp only [Value.slice.injEq] at h; cases h.1
              · simp only [Value.slice.injEq, Option.some.injEq, Addr.mk.injEq] at h
                have := h.1.1
                omega
            have HCNE := Lib.hid hCne
            have HCNF : Hid (Fr w (.slice au (zip3 L ns rs).length cu)) := fun b o m q e hm => by
              have := HCNE.out b o m q e hm
              have := HB8.out
              omega
            have HC2 := Lib.hid hC
            have HBF := Lib.hid hb
            clear hown hln hCne hC hb
            have t0 := I7.out.cell 0
            have t1 := I7.out.cell 1
            have t2 := I7.out.cell 2
            have t3 := I7.out.cell 3
            have t4 := I7.out.cell 4
            have t5 := I7.out.cell 5
            have t6 := I7.out.cell 6
            simp only [List.getElem?_cons_zero, List.getElem?_cons_succ] at t0 t1 t2 t3 t4 t5 t6
            have m5 := HC2.out.cell 5
            simp only [List.getElem?_cons_zero, List.getElem?_cons_succ] at m5
            go_wp2_with fail
            refine (refLeast_any _ ts lim cyc dued minf minp start tot mn x HMN _ (HV.out.below HBF.out)).mono ?_
            rintro _ w7 ⟨rfl, hb7⟩
            have U10 := Lib.hid (I10.out.below hb7)
            have U14 := Lib.hid (I14.out.below hb7)
            have U15 := Lib.hid (I15.out.below hb7)
            have U17 := Lib.hid (HC2.out.below hb7)
            have UB := Lib.hid (bl_tr HBF.out hb7)
            have UU := Lib.hid (IU.out.below hb7)
            have UL := Lib.hid (HLN.out.below hb7)
            have m7 := U17.out.cell 7
            have g7 := U17.out.frozen 7
            have p2 := U10.out.cell 2
            have f2 := U10.out.frozen 2
            simp only [List.getElem?_cons_zero, List.getElem?_cons_succ] at m7 p2
            clear hb7 t0 t1 t2 t3 t4 t5 t6 m5
            have hn10 : (w.heap.size + 1 + 1) ≠ G17 := by have := HG17.out; omega
            have hn17 : ¬ G17 = (w.heap.size + 1 + 1) := by have := HG17.out; omega
            go_upto_region 20 with fail
            obtain ⟨W8, hW8, T10, T14, T15, T17, TBB, TU, TL⟩ : ∃ W8, ((w7.setCell ⟨G17, 7, none⟩ (.int .i64 mn)).setCell ⟨(w.heap.size + 1 + 1), 2, none⟩ (.int .i64 mn)) = W8 ∧ Hid (Blk W8 (w.heap.size + 1 + 1) 46 [.slice a3 L.length q3, .int .i64 C, .int .i64 mn]) ∧ Hid (Blk W8 (w.heap.size + 1 + 1 + 1) 51 [.int .i64 0, .int .i64 0, .int .i64 0, .int .i64 0, .slice none 0 0, .int .i64 0, .int .i64 0, .int .i64 0, .bool false]) ∧ Hid (Blk W8 (w.heap.size + 1 + 1 + 1 + 1) 46 [.slice none 0 0, .int .i64 0, .int .i64 0]) ∧ Hid (Blk W8 G17 51 [.int .i64 n, .int .i64 fr, .int .i64 til, .int .i64 du, .slice au (zip3 L ns rs).length cu, .int .i64 tot, .int .i64 C, .int .i64 mn, .bool g]) ∧ Hid (Below w.heap.size w W8) ∧ Hid (Sl .i64 W8 (.slice a3 L.length q3) L) ∧ Hid (LnS W8 (.slice au (zip3 L ns rs).length cu) (zip3 L ns rs)) := by
              have h4 := HG17.out
              have h8 := HB8.out
              exact ⟨_, rfl, (U10.out.setOther hn10 _ _).set 2 _, (U14.out.setOther (by omega) _ _).setOther (by omega) _ _, (U15.out.setOther (by omega) _ _).setOther (by omega) _ _, (U17.out.set 7 _).setOther (by omega) _ _, (UB.out.setCell (show w.heap.size ≤ G17 by omega) _).setCell (show w.heap.size ≤ (w.heap.size + 1 + 1) by omega) _, (UU.out.setCell (fun b o m q e h => by have := HAG.out b o m q e h; omega) _).setCell (fun b o m q e h => (HA3.out b o m q e h).2.2.1) _, (UL.out.setCell (fun b o m q e h => by have := HCNE.out b o m q e h; omega) _).setCell (fun b o m q e h => by have := HCNE.out b o m q e h; omega) _⟩
            with_reducible rw [hW8]
            clear hW8 U10 U14 U15 U17 UB UU UL m7 g7 p2 f2 hn10 hn17
            have m0 := T17.out.cell 0
            have m1 := T17.out.cell 1
            have m2 := T17.out.cell 2
            have m3 := T17.out.cell 3
            have m4 := T17.out.cell 4
            have m5 := T17.out.cell 5
            have m6 := T17.out.cell 6
            have m7 := T17.out.cell 7
            have m8 := T17.out.cell 8
            simp only [List.getElem?_cons_zero, List.getElem?_cons_succ] at m0 m1 m2 m3 m4 m5 m6 m7 m8
            have q0 := T10.out.cell 0
            have q1 := T10.out.cell 1
            have q2 := T10.out.cell 2
            simp only [List.getElem?_cons_zero, List.getElem?_cons_succ] at q0 q1 q2
            have c0 := T14.out.cell 0
            have c1 := T14.out.cell 1
            have c2 := T14.out.cell 2
            have c3 := T14.out.cell 3
            have c4 := T14.out.cell 4
            have c5 := T14.out.cell 5
            have c6 := T14.out.cell 6
            have c7 := T14.out.cell 7
            have c8 := T14.out.cell 8
            simp only [List.getElem?_cons_zero, List.getElem?_cons_succ] at c0 c1 c2 c3 c4 c5 c6 c7 c8
            have f0 := T14.out.frozen 0
            have f1 := T14.out.frozen 1
            have f2 := T14.out.frozen 2
            have f3 := T14.out.frozen 3
            have f4 := T14.out.frozen 4
            have f5 := T14.out.frozen 5
            have f6 := T14.out.frozen 6
            have f7 := T14.out.frozen 7
            have f8 := T14.out.frozen 8
            have y0 := T15.out.cell 0
            have y1 := T15.out.cell 1
            have y2 := T15.out.cell 2
            simp only [List.getElem?_cons_zero, List.getElem?_cons_succ] at y0 y1 y2
            have z0 := T15.out.frozen 0
            have z1 := T15.out.frozen 1
            have z2 := T15.out.frozen 2
            have h17 := HG17.out
            have hne1 : ¬ (w.heap.size + 1 + 1 + 1) = G17 := by omega
            have hne2 : ¬ (w.heap.size + 1 + 1 + 1 + 1) = G17 := by omega
            have hne3 : ¬ G17 = (w.heap.size + 1 + 1 + 1) := by omega
            have hne4 : ¬ G17 = (w.heap.size + 1 + 1 + 1 + 1) := by omega
            clear h17
            go_region
            clear hne1 hne2 hne3 hne4 m0 m1 m2 m3 m4 m5 m6 m7 m8 q0 q1 q2
            go_wp2
            refine bodyPost_ret (v := .tuple #[.agg #[.int .i64 n, .int .i64 fr, .int .i64 til, .int .i64 du, .slice au (zip3 L ns rs).length cu, .int .i64 tot, .int .i64 C, .int .i64 mn, .bool g], .agg #[.slice a3 L.length q3, .int .i64 C, .int .i64 mn], .int .i64 0]) (by simp [results, Try.results36, go_sem, c0, c1, c2, c3, c4, c5, c6, c7, c8, y0, y1, y2]) rfl ⟨.slice au (zip3 L ns rs).length cu, .slice a3 L.length q3, rfl, ((TL.out.s9 (fun b o m q e h => by have := HCNE.out b o m q e h; have := HB8.out; have := HG17.out; omega) _ _ _ _ _ _ _ _ _).s3 (fun b o m q e h => by have := HCNE.out b o m q e h; have := HB8.out; have := HG17.out; omega) _ _ _).below (bl_dr (Below.refl _ _)), ((TU.out.s9 (fun b o m q e h => (HA3.out b o m q e h).2.2.2.1) _ _ _ _ _ _ _ _ _).s3 (fun b o m q e h => (HA3.out b o m q e h).2.2.2.2) _ _ _).below (bl_dr (Below.refl _ _)), ⟨HCNF.out, HA3F.out⟩, (bl_s3 (bl_s9 TBB.out (show w.heap.size ≤ (w.heap.size + 1 + 1 + 1) by omega) _ _ _ _ _ _ _ _ _) (by omega) _ _ _).drew⟩)
end Go.Proofs.Ytllblmoojohffaa

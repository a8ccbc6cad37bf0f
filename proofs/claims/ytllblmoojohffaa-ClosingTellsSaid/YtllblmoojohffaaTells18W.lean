/- ClosingTells: the interest of any days, and what any cycle's statement is, or why not. -/
import Derived.Test.YtllblmoojohffaaTells18M
import Derived.Test.YtllblmoojohffaaClosIntA
import Derived.Test.YtllblmoojohffaaRefInt18
import Derived.Test.YtllblmoojohffaaLists
import Derived.Test.YtllblmoojohffaaSameL
namespace Go.Proofs.Ytllblmoojohffaa
open Go.RowKit EvM

/-- The boxes that the law makes first. -/
theorem tells_start (w : World) (lim cyc dued minf minp start fr til c d : Int) (vt vb : Value) : ∃ W, (((w.alloc (.cells #[.int .i64 lim, vt, .int .i64 cyc, .int .i64 dued, .int .i64 minf, .int .i64 minp, .int .i64 start] 34)).alloc (.cells #[.int .i64 fr, .int .i64 til] 48)).alloc (.cells #[vb, .int .i64 c, .int .i64 d] 46)) = W ∧ Hid (Blk W w.heap.size 34 [.int .i64 lim, vt, .int .i64 cyc, .int .i64 dued, .int .i64 minf, .int .i64 minp, .int .i64 start]) ∧ Hid (Blk W (w.heap.size + 1) 48 [.int .i64 fr, .int .i64 til]) ∧ Hid (Blk W (w.heap.size + 1 + 1) 46 [vb, .int .i64 c, .int .i64 d]) ∧ Hid (Below w.heap.size w W) := by
  exact ⟨_, rfl, Blk.below (blk_new w _ _ _ rfl) (bl_al (bl_al (Below.refl _ _) _) _), Blk.below (blk_new (w.alloc _) _ _ _ (by simp)) (bl_al (Below.refl _ _) _), blk_new ((w.alloc _).alloc _) _ _ _ (by simp), bl_al (bl_al (bl_al (Below.refl _ _) _) _) _⟩
theorem RwS.shape {w : World} {v : Value} {rows : List (List Int)} (h : RwS w v rows) : ∃ ao cap, v = .slice ao rows.length cap := by
  obtain ⟨ao, cap, rfl, _⟩ := h; exact ⟨ao, cap, rfl⟩
theorem stmpos_start (w : World) (n fr til du tot cr mn pc pd : Int) (g : Bool) (vl vb : Value) : ∃ W, ((w.alloc (.cells #[.int .i64 n, .int .i64 fr, .int .i64 til, .int .i64 du, vl, .int .i64 tot, .int .i64 cr, .int .i64 mn, .bool g] 51)).alloc (.cells #[vb, .int .i64 pc, .int .i64 pd] 46)) = W ∧ Hid (Blk W w.heap.size 51 [.int .i64 n, .int .i64 fr, .int .i64 til, .int .i64 du, vl, .int .i64 tot, .int .i64 cr, .int .i64 mn, .bool g]) ∧ Hid (Blk W (w.heap.size + 1) 46 [vb, .int .i64 pc, .int .i64 pd]) ∧ Hid (Below w.heap.size w W) := by
  exact ⟨_, rfl, Blk.below (blk_new w _ _ _ rfl) (bl_al (Below.refl _ _) _), blk_new (w.alloc _) _ _ _ (by simp), bl_al (bl_al (Below.refl _ _) _) _⟩

set_option maxHeartbeats 3200000 in
set_option maxRecDepth 100000 in
theorem tells18_long (v : Value) (ts : List (Int × Bool)) (lim cyc dued minf minp start : Int) (bb dv : Value) (bss dss : List (List Int)) (n fr til : Int) (bv : Value) (bs : List Int) (c d : Int) (rv : Value) (rs : List Int) (nv : Value) (ns : List Int) (g : Bool) (H : 12 < ts.length ∨ (ts.length ≤ 12 ∧ 12 < bs.length) ∨ (ts.length ≤ 12 ∧ bs.length ≤ 12 ∧ 12 < rs.length) ∨ (ts.length ≤ 12 ∧ bs.length ≤ 12 ∧ rs.length ≤ 12 ∧ 12 < ns.length)) (w : World) (hv : TrS w v ts) (hbb : RwS w bb bss) (hdv : RwS w dv dss) (hb : Sl .i64 w bv bs) (hr : Sl .i64 w rv rs) (hn : Sl .i64 w nv ns) :
    Calls Try.prog 12 #[.agg #[.int .i64 lim, v, .int .i64 cyc, .int .i64 dued, .int .i64 minf, .int .i64 minp, .int .i64 start], bb, dv, .int .i64 n, .agg #[.int .i64 fr, .int .i64 til], .agg #[bv, .int .i64 c, .int .i64 d], rv, nv, .bool g] w (RetB (.bool true) w) := by
  have HV := Lib.hid hv
  have HBB := Lib.hid hbb
  have HDV := Lib.hid hdv
  have HB := Lib.hid hb
  have HR := Lib.hid hr
  have HN := Lib.hid hn
  obtain ⟨ao, cap, rfl, h1, ⟨h2, hnn⟩, h3⟩ := hv
  clear h3 hnn
  obtain ⟨bo, bcap, rfl, k1, ⟨k2, hnn⟩, h3⟩ := hbb
  clear h3 hnn
  obtain ⟨do', dcap, rfl, l1, ⟨l2, hnn⟩, h3⟩ := hdv
  clear h3 hnn
  obtain ⟨b0, bc, rfl, g1, ⟨g2, hnn⟩, h3⟩ := hb
  clear h3 hnn
  obtain ⟨r0, rc, rfl, i1, ⟨i2, hnn⟩, h3⟩ := hr
  clear h3 hnn
  obtain ⟨n0, nc, rfl, j1, ⟨j2, hnn⟩, h3⟩ := hn
  clear h3 hnn
  unfold maxLen at h2 g2 i2 j2 k2 l2
  rcases H with H | ⟨H1, H⟩ | ⟨H1, H2, H⟩ | ⟨H1, H2, H3, H⟩
  · have t0 : (12 : Int) < (ts.length : Int) := by omega
    clear H
    go_enter Try.func12, Try.ntmps12
    go_wp2_with fail
    obtain ⟨W, hW, S9, S13, S14, SB⟩ := tells_start w lim cyc dued minf minp start fr til c d (.slice ao ts.length cap) (.slice b0 bs.length bc)
    with_reducible rw [hW]
    clear hW
    refine (awake18_any _).mono ?_
    rintro _ w1 ⟨rfl, hb1⟩
    have HBF := Lib.hid (bl_tr SB.out hb1)
    clear hb1
    go_wp2_with fail
    go_ret
    exact ⟨rfl, HBF.out⟩
  · have t1 : (12 : Int) < (bs.length : Int) := by omega
    have t0 : ¬ (12 : Int) < (ts.length : Int) := by omega
    clear H H1
    go_enter Try.func12, Try.ntmps12
    go_wp2_with fail
    obtain ⟨W, hW, S9, S13, S14, SB⟩ := tells_start w lim cyc dued minf minp start fr til c d (.slice ao ts.length cap) (.slice b0 bs.length bc)
    with_reducible rw [hW]
    clear hW
    refine (awake18_any _).mono ?_
    rintro _ w1 ⟨rfl, hb1⟩
    have HBF := Lib.hid (bl_tr SB.out hb1)
    clear hb1
    go_wp2_with fail
    go_ret
    exact ⟨rfl, HBF.out⟩
  · have t2 : (12 : Int) < (rs.length : Int) := by omega
    have t0 : ¬ (12 : Int) < (ts.length : Int) := by omega
    have t1 : ¬ (12 : Int) < (bs.length : Int) := by omega
    clear H H1 H2
    go_enter Try.func12, Try.ntmps12
    go_wp2_with fail
    obtain ⟨W, hW, S9, S13, S14, SB⟩ := tells_start w lim cyc dued minf minp start fr til c d (.slice ao ts.length cap) (.slice b0 bs.length bc)
    with_reducible rw [hW]
    clear hW
    refine (awake18_any _).mono ?_
    rintro _ w1 ⟨rfl, hb1⟩
    have HBF := Lib.hid (bl_tr SB.out hb1)
    clear hb1
    go_wp2_with fail
    go_ret
    exact ⟨rfl, HBF.out⟩
  · have t3 : (12 : Int) < (ns.length : Int) := by omega
    have t0 : ¬ (12 : Int) < (ts.length : Int) := by omega
    have t1 : ¬ (12 : Int) < (bs.length : Int) := by omega
    have t2 : ¬ (12 : Int) < (rs.length : Int) := by omega
    clear H H1 H2 H3
    go_enter Try.func12, Try.ntmps12
    go_wp2_with fail
    obtain ⟨W, hW, S9, S13, S14, SB⟩ := tells_start w lim cyc dued minf minp start fr til c d (.slice ao ts.length cap) (.slice b0 bs.length bc)
    with_reducible rw [hW]
    clear hW
    refine (awake18_any _).mono ?_
    rintro _ w1 ⟨rfl, hb1⟩
    have HBF := Lib.hid (bl_tr SB.out hb1)
    clear hb1
    go_wp2_with fail
    go_ret
    exact ⟨rfl, HBF.out⟩
set_option maxHeartbeats 3200000 in
set_option maxRecDepth 100000 in
theorem tells18_go (v : Value) (ts : List (Int × Bool)) (lim cyc dued minf minp start : Int) (bb dv : Value) (bss dss : List (List Int)) (n fr til : Int) (bv : Value) (bs : List Int) (c d : Int) (rv : Value) (rs : List Int) (nv : Value) (ns : List Int) (g : Bool) (H1 : ts.length ≤ 12) (H2 : bs.length ≤ 12) (H3 : rs.length ≤ 12) (H4 : ns.length ≤ 12) (w : World) (hv : TrS w v ts) (hbb : RwS w bb bss) (hdv : RwS w dv dss) (hb : Sl .i64 w bv bs) (hr : Sl .i64 w rv rs) (hn : Sl .i64 w nv ns) :
    Calls Try.prog 12 #[.agg #[.int .i64 lim, v, .int .i64 cyc, .int .i64 dued, .int .i64 minf, .int .i64 minp, .int .i64 start], bb, dv, .int .i64 n, .agg #[.int .i64 fr, .int .i64 til], .agg #[bv, .int .i64 c, .int .i64 d], rv, nv, .bool g] w (RetB (.bool true) w) := by
  obtain ⟨A, HA1, HA2⟩ := close_both v ts lim cyc dued minf minp start n fr til bv bs c d rv rs nv ns g H1
  have HA1 := Lib.hid HA1
  have HA2 := Lib.hid HA2
  have HV := Lib.hid hv
  have HBB := Lib.hid hbb
  have HDV := Lib.hid hdv
  have HB := Lib.hid hb
  have HR := Lib.hid hr
  have HN := Lib.hid hn
  obtain ⟨ao, cap, rfl, h1, ⟨h2, hnn⟩, h3⟩ := hv
  clear h3 hnn
  obtain ⟨bo, bcap, rfl, k1, ⟨k2, hnn⟩, h3⟩ := hbb
  clear h3 hnn
  obtain ⟨do', dcap, rfl, l1, ⟨l2, hnn⟩, h3⟩ := hdv
  clear h3 hnn
  obtain ⟨b0, bc, rfl, g1, ⟨g2, hnn⟩, h3⟩ := hb
  clear h3 hnn
  obtain ⟨r0, rc, rfl, i1, ⟨i2, hnn⟩, h3⟩ := hr
  clear h3 hnn
  obtain ⟨n0, nc, rfl, j1, ⟨j2, hnn⟩, h3⟩ := hn
  clear h3 hnn
  unfold maxLen at h2 g2 i2 j2 k2 l2
  have t0 : ¬ (12 : Int) < (ts.length : Int) := by omega
  have t1 : ¬ (12 : Int) < (bs.length : Int) := by omega
  have t2 : ¬ (12 : Int) < (rs.length : Int) := by omega
  have t3 : ¬ (12 : Int) < (ns.length : Int) := by omega
  clear H1 H2 H3 H4
  obtain ⟨r, hr0⟩ : ∃ r, intS (rightT lim ts cyc dued minf minp start) ts (cutL bss) (cutL dss) g = r := ⟨_, rfl⟩
  have HR0 := Lib.hid hr0
  clear hr0
  go_enter Try.func12, Try.ntmps12
  go_wp2_with fail
  obtain ⟨W, hW, S9, S13, S14, SB⟩ := tells_start w lim cyc dued minf minp start fr til c d (.slice ao ts.length cap) (.slice b0 bs.length bc)
  with_reducible rw [hW]
  clear hW t0 t1 t2 t3
  refine (lists18_any _ bss _ (HBB.out.below SB.out)).mono ?_
  rintro _ w1 ⟨v1, rfl, hrw1, hb1⟩
  obtain ⟨a1, q1, rfl⟩ := hrw1.shape
  have HR1 := Lib.hid hrw1
  have X9 := Lib.hid (S9.out.below hb1)
  have X13 := Lib.hid (S13.out.below hb1)
  have X14 := Lib.hid (S14.out.below hb1)
  have XB := Lib.hid (bl_tr SB.out hb1)
  clear hrw1 hb1 S9 S13 S14 SB
  go_wp2_with fail
  refine (lists18_any _ dss _ (HDV.out.below XB.out)).mono ?_
  rintro _ w2 ⟨v2, rfl, hrw2, hb2⟩
  obtain ⟨a2, q2, rfl⟩ := hrw2.shape
  have HR2 := Lib.hid hrw2
  have HR1' := Lib.hid (HR1.out.below hb2)
  have Y9 := Lib.hid (X9.out.below hb2)
  have Y13 := Lib.hid (X13.out.below hb2)
  have Y14 := Lib.hid (X14.out.below hb2)
  have YB := Lib.hid (bl_tr XB.out hb2)
  clear hrw2 hb2 X9 X13 X14 XB HR1
  have t0 := Y9.out.cell 0
  have t1 := Y9.out.cell 1
  have t2 := Y9.out.cell 2
  have t3 := Y9.out.cell 3
  have t4 := Y9.out.cell 4
  have t5 := Y9.out.cell 5
  have t6 := Y9.out.cell 6
  simp only [List.getElem?_cons_zero, List.getElem?_cons_succ] at t0 t1 t2 t3 t4 t5 t6
  go_wp2_with fail
  refine (closInt_any _ ts lim cyc dued minf minp start _ _ (cutL bss) (cutL dss) g r HR0 _ (HV.out.below YB.out) HR1'.out HR2.out).mono ?_
  rintro _ w3 ⟨v3, rfl, hs3, hb3⟩
  obtain ⟨a3, q3, rfl⟩ := hs3.shape
  have HS3 := Lib.hid hs3
  have HR1a := Lib.hid (HR1'.out.below hb3)
  have HR2a := Lib.hid (HR2.out.below hb3)
  have Z9 := Lib.hid (Y9.out.below hb3)
  have Z13 := Lib.hid (Y13.out.below hb3)
  have Z14 := Lib.hid (Y14.out.below hb3)
  have ZB := Lib.hid (bl_tr YB.out hb3)
  clear hs3 hb3 Y9 Y13 Y14 YB HR1' HR2 t0 t1 t2 t3 t4 t5 t6
  have t0 := Z9.out.cell 0
  have t1 := Z9.out.cell 1
  have t2 := Z9.out.cell 2
  have t3 := Z9.out.cell 3
  have t4 := Z9.out.cell 4
  have t5 := Z9.out.cell 5
  have t6 := Z9.out.cell 6
  simp only [List.getElem?_cons_zero, List.getElem?_cons_succ] at t0 t1 t2 t3 t4 t5 t6
  go_wp2_with fail
  refine (refInt18_any _ ts lim cyc dued minf minp start _ _ (cutL bss) (cutL dss) g r HR0 _ (HV.out.below ZB.out) HR1a.out HR2a.out).mono ?_
  rintro _ w4 ⟨v4, rfl, hs4, hb4⟩
  obtain ⟨a4, q4, rfl⟩ := hs4.shape
  have HS4 := Lib.hid hs4
  have HS3a := Lib.hid (HS3.out.below hb4)
  have U9 := Lib.hid (Z9.out.below hb4)
  have U13 := Lib.hid (Z13.out.below hb4)
  have U14 := Lib.hid (Z14.out.below hb4)
  have UB := Lib.hid (bl_tr ZB.out hb4)
  clear hs4 hb4 Z9 Z13 Z14 ZB HR1a HR2a HS3 t0 t1 t2 t3 t4 t5 t6
  have t0 := U9.out.cell 0
  have t1 := U9.out.cell 1
  have t2 := U9.out.cell 2
  have t3 := U9.out.cell 3
  have t4 := U9.out.cell 4
  have t5 := U9.out.cell 5
  have t6 := U9.out.cell 6
  simp only [List.getElem?_cons_zero, List.getElem?_cons_succ] at t0 t1 t2 t3 t4 t5 t6
  have s0 := U13.out.cell 0
  have s1 := U13.out.cell 1
  simp only [List.getElem?_cons_zero, List.getElem?_cons_succ] at s0 s1
  have p0 := U14.out.cell 0
  have p1 := U14.out.cell 1
  have p2 := U14.out.cell 2
  simp only [List.getElem?_cons_zero, List.getElem?_cons_succ] at p0 p1 p2
  go_wp2_with fail
  refine (HA1.out _ (HV.out.below UB.out) (HB.out.below UB.out) (HR.out.below UB.out) (HN.out.below UB.out)).mono ?_
  rintro _ w5 ⟨lv5, bv5, rfl, hln5, hbl5, _, hb5⟩
  obtain ⟨al5, ql5, rfl⟩ := hln5.shape
  obtain ⟨ab5, qb5, rfl⟩ := hbl5.shape
  have HLN5 := Lib.hid hln5
  have HBL5 := Lib.hid hbl5
  have HS3b := Lib.hid (HS3a.out.below hb5)
  have HS4b := Lib.hid (HS4.out.below hb5)
  have V9 := Lib.hid (U9.out.below hb5)
  have V13 := Lib.hid (U13.out.below hb5)
  have V14 := Lib.hid (U14.out.below hb5)
  have VB := Lib.hid (bl_tr UB.out hb5)
  clear hln5 hbl5 hb5 U9 U13 U14 UB HS3a HS4 t0 t1 t2 t3 t4 t5 t6 s0 s1 p0 p1 p2
  go_upto_region 7 with fail

  obtain ⟨W6, hW6, K25, K26, KB⟩ := stmpos_start w5 A.n A.fr A.til A.du A.tot A.cr A.mn A.pc A.pd A.g (.slice al5 A.ls.length ql5) (.slice ab5 A.bs.length qb5)
  with_reducible rw [hW6]
  obtain ⟨G5, hG5⟩ : ∃ G, w5.heap.size = G := ⟨_, rfl⟩
  with_reducible rw [hG5]
  rw [hG5] at K25 K26
  have HLN6 := Lib.hid (HLN5.out.below KB.out)
  have HBL6 := Lib.hid (HBL5.out.below KB.out)
  have HS3c := Lib.hid (HS3b.out.below KB.out)
  have HS4c := Lib.hid (HS4b.out.below KB.out)
  have V9' := Lib.hid (V9.out.below KB.out)
  have V13' := Lib.hid (V13.out.below KB.out)
  have V14' := Lib.hid (V14.out.below KB.out)
  have VB' := Lib.hid (bl_tr VB.out KB.out)
  clear hW6 hG5 KB HLN5 HBL5 HS3b HS4b V9 V13 V14 VB
  have t0 := V9'.out.cell 0
  have t1 := V9'.out.cell 1
  have t2 := V9'.out.cell 2
  have t3 := V9'.out.cell 3
  have t4 := V9'.out.cell 4
  have t5 := V9'.out.cell 5
  have t6 := V9'.out.cell 6
  simp only [List.getElem?_cons_zero, List.getElem?_cons_succ] at t0 t1 t2 t3 t4 t5 t6
  have s0 := V13'.out.cell 0
  have s1 := V13'.out.cell 1
  simp only [List.getElem?_cons_zero, List.getElem?_cons_succ] at s0 s1
  have p0 := V14'.out.cell 0
  have p1 := V14'.out.cell 1
  have p2 := V14'.out.cell 2
  simp only [List.getElem?_cons_zero, List.getElem?_cons_succ] at p0 p1 p2
  go_wp2_with fail
  refine (HA2.out _ (HV.out.below VB'.out) (HB.out.below VB'.out) (HR.out.below VB'.out) (HN.out.below VB'.out)).mono ?_
  rintro _ w7 ⟨lv7, bv7, rfl, hln7, hbl7, _, hb7⟩
  obtain ⟨al7, ql7, rfl⟩ := hln7.shape
  obtain ⟨ab7, qb7, rfl⟩ := hbl7.shape
  have HLN7 := Lib.hid hln7
  have HBL7 := Lib.hid hbl7
  have HLN6' := Lib.hid (HLN6.out.below hb7)
  have HBL6' := Lib.hid (HBL6.out.below hb7)
  have HS3d := Lib.hid (HS3c.out.below hb7)
  have HS4d := Lib.hid (HS4c.out.below hb7)
  have L25 := Lib.hid (K25.out.below hb7)
  have L26 := Lib.hid (K26.out.below hb7)
  have LB := Lib.hid (bl_tr VB'.out hb7)
  clear hln7 hbl7 hb7 HLN6 HBL6 HS3c HS4c K25 K26 V9' V13' V14' VB' t0 t1 t2 t3 t4 t5 t6 s0 s1 p0 p1 p2
  go_upto_region 8 with fail
  obtain ⟨W8, hW8, M28, M29, MB⟩ := stmpos_start w7 A.n A.fr A.til A.du A.tot A.cr A.mn A.pc A.pd A.g (.slice al7 A.ls.length ql7) (.slice ab7 A.bs.length qb7)
  with_reducible rw [hW8]
  obtain ⟨G7, hG7⟩ : ∃ G, w7.heap.size = G := ⟨_, rfl⟩
  with_reducible rw [hG7]
  rw [hG7] at M28 M29
  have HLN8 := Lib.hid (HLN6'.out.below MB.out)
  have HLN9 := Lib.hid (HLN7.out.below MB.out)
  have HBL8 := Lib.hid (HBL6'.out.below MB.out)
  have HBL9 := Lib.hid (HBL7.out.below MB.out)
  have HS3e := Lib.hid (HS3d.out.below MB.out)
  have HS4e := Lib.hid (HS4d.out.below MB.out)
  have M25 := Lib.hid (L25.out.below MB.out)
  have M26 := Lib.hid (L26.out.below MB.out)
  have NB := Lib.hid (bl_tr LB.out MB.out)
  clear hW8 hG7 MB HLN6' HLN7 HBL6' HBL7 HS3d HS4d L25 L26 LB
  go_wp2_with fail
  refine (awake18_any _).mono ?_
  rintro _ w9 ⟨rfl, hb9⟩
  have HS3f := Lib.hid (HS3e.out.below hb9)
  have HS4f := Lib.hid (HS4e.out.below hb9)
  have HLNa := Lib.hid (HLN8.out.below hb9)
  have HLNb := Lib.hid (HLN9.out.below hb9)
  have HBLa := Lib.hid (HBL8.out.below hb9)
  have HBLb := Lib.hid (HBL9.out.below hb9)
  have N25 := Lib.hid (M25.out.below hb9)
  have N26 := Lib.hid (M26.out.below hb9)
  have N28 := Lib.hid (M28.out.below hb9)
  have N29 := Lib.hid (M29.out.below hb9)
  have NB9 := Lib.hid (bl_tr NB.out hb9)
  clear hb9 HS3e HS4e HLN8 HLN9 HBL8 HBL9 M25 M26 M28 M29 NB
  go_wp2_with fail
  refine (plain64_any _ _ r.1 r.1 true (Lib.hid (by simp)) _ HS3f.out HS4f.out).mono ?_
  rintro _ wa ⟨rfl, hba⟩
  have HLNc := Lib.hid (HLNa.out.below hba)
  have HLNd := Lib.hid (HLNb.out.below hba)
  have HBLc := Lib.hid (HBLa.out.below hba)
  have HBLd := Lib.hid (HBLb.out.below hba)
  have O25 := Lib.hid (N25.out.below hba)
  have O26 := Lib.hid (N26.out.below hba)
  have O28 := Lib.hid (N28.out.below hba)
  have O29 := Lib.hid (N29.out.below hba)
  have OB := Lib.hid (bl_tr NB9.out hba)
  clear hba HS3f HS4f HLNa HLNb HBLa HBLb N25 N26 N28 N29 NB9
  have x0 := O25.out.cell 0
  have x1 := O25.out.cell 1
  have x2 := O25.out.cell 2
  have x3 := O25.out.cell 3
  have x4 := O25.out.cell 4
  have x5 := O25.out.cell 5
  have x6 := O25.out.cell 6
  have x7 := O25.out.cell 7
  have x8 := O25.out.cell 8
  simp only [List.getElem?_cons_zero, List.getElem?_cons_succ] at x0 x1 x2 x3 x4 x5 x6 x7 x8
  have y0 := O28.out.cell 0
  have y1 := O28.out.cell 1
  have y2 := O28.out.cell 2
  have y3 := O28.out.cell 3
  have y4 := O28.out.cell 4
  have y5 := O28.out.cell 5
  have y6 := O28.out.cell 6
  have y7 := O28.out.cell 7
  have y8 := O28.out.cell 8
  simp only [List.getElem?_cons_zero, List.getElem?_cons_succ] at y0 y1 y2 y3 y4 y5 y6 y7 y8
  go_wp2_with fail
  refine (sameStmt_any _ _ A.ls A.n A.fr A.til A.du A.tot A.cr A.mn A.g _ HLNc.out HLNd.out).mono ?_
  rintro _ wb ⟨rfl, hbb⟩
  have HBLe := Lib.hid (HBLc.out.below hbb)
  have HBLf := Lib.hid (HBLd.out.below hbb)
  have P26 := Lib.hid (O26.out.below hbb)
  have P29 := Lib.hid (O29.out.below hbb)
  have PB := Lib.hid (bl_tr OB.out hbb)
  clear hbb HLNc HLNd HBLc HBLd O25 O26 O28 O29 OB x0 x1 x2 x3 x4 x5 x6 x7 x8 y0 y1 y2 y3 y4 y5 y6 y7 y8
  have x0 := P26.out.cell 0
  have x1 := P26.out.cell 1
  have x2 := P26.out.cell 2
  simp only [List.getElem?_cons_zero, List.getElem?_cons_succ] at x0 x1 x2
  have y0 := P29.out.cell 0
  have y1 := P29.out.cell 1
  have y2 := P29.out.cell 2
  simp only [List.getElem?_cons_zero, List.getElem?_cons_succ] at y0 y1 y2
  go_wp2_with fail
  refine (samePos_true _ _ A.bs A.pc A.pd _ HBLe.out HBLf.out).mono ?_
  rintro _ wc ⟨rfl, hbc⟩
  have QB := Lib.hid (bl_tr PB.out hbc)
  clear hbc HBLe HBLf P26 P29 PB
  clear x0 x1 x2 y0 y1 y2
  go_wp2_with fail
  go_ret
  exact ⟨rfl, QB.out⟩
theorem tells18_any (v : Value) (ts : List (Int × Bool)) (lim cyc dued minf minp start : Int) (bb dv : Value) (bss dss : List (List Int)) (n fr til : Int) (bv : Value) (bs : List Int) (c d : Int) (rv : Value) (rs : List Int) (nv : Value) (ns : List Int) (g : Bool) (w : World) (hv : TrS w v ts) (hbb : RwS w bb bss) (hdv : RwS w dv dss) (hb : Sl .i64 w bv bs) (hr : Sl .i64 w rv rs) (hn : Sl .i64 w nv ns) :
    Calls Try.prog 12 #[.agg #[.int .i64 lim, v, .int .i64 cyc, .int .i64 dued, .int .i64 minf, .int .i64 minp, .int .i64 start], bb, dv, .int .i64 n, .agg #[.int .i64 fr, .int .i64 til], .agg #[bv, .int .i64 c, .int .i64 d], rv, nv, .bool g] w (RetB (.bool true) w) := by
  by_cases c1 : ts.length ≤ 12
  · by_cases c2 : bs.length ≤ 12
    · by_cases c3 : rs.length ≤ 12
      · by_cases c4 : ns.length ≤ 12
        · exact tells18_go v ts lim cyc dued minf minp start bb dv bss dss n fr til bv bs c d rv rs nv ns g c1 c2 c3 c4 w hv hbb hdv hb hr hn
        · exact tells18_long v ts lim cyc dued minf minp start bb dv bss dss n fr til bv bs c d rv rs nv ns g (.inr (.inr (.inr ⟨c1, c2, c3, by omega⟩))) w hv hbb hdv hb hr hn
      · exact tells18_long v ts lim cyc dued minf minp start bb dv bss dss n fr til bv bs c d rv rs nv ns g (.inr (.inr (.inl ⟨c1, c2, by omega⟩))) w hv hbb hdv hb hr hn
    · exact tells18_long v ts lim cyc dued minf minp start bb dv bss dss n fr til bv bs c d rv rs nv ns g (.inr (.inl ⟨c1, by omega⟩)) w hv hbb hdv hb hr hn
  · exact tells18_long v ts lim cyc dued minf minp start bb dv bss dss n fr til bv bs c d rv rs nv ns g (.inl (by omega)) w hv hbb hdv hb hr hn
end Go.Proofs.Ytllblmoojohffaa

/- pool.Pay: what a payment makes of a position, or why not. -/
import Derived.Test.YtbiiejolemcifaaPoolPayM
namespace Go.Proofs.Ytbiiejolemcifaa
open Go.RowKit

set_option maxHeartbeats 1600000 in
set_option maxRecDepth 100000 in
theorem poolPay_no1 (v u : Value) (bs rates : List Int) (c d am e : Int) (HE : Hid (askedE bs c d am [] = e)) (hne : (e != 0) = true) (hlen : bs.length ≤ 1000) (w : World) (hv : Sl .i64 w v bs) (hu : Sl .i64 w u rates) :
    Calls Try.prog 18 #[.agg #[v, .int .i64 c, .int .i64 d], u, .int .i64 am] w (RetPosN ([], 0, 0, e) w) := by
  have HV := Lib.hid hv
  have HU := Lib.hid hu
  obtain ⟨ao, cap, rfl, h1, ⟨h2, _⟩, h3⟩ := hv
  clear h3
  obtain ⟨ao', cap', rfl, h1', ⟨h2', _⟩, h3⟩ := hu
  clear h3
  unfold maxLen at h2 h2'
  have HBLK : Hid (Blk ((w.alloc (.cells #[.slice ao bs.length cap, .int .i64 c, .int .i64 d] 25)).alloc (.cells #[.slice none 0 0, .int .i64 0, .int .i64 0] 25)) (w.heap.size + 1) 25 [.slice none 0 0, .int .i64 0, .int .i64 0]) := by
    have := heap_alloc_new (w.alloc (.cells #[.slice ao bs.length cap, .int .i64 c, .int .i64 d] 25)) (.cells #[.slice none 0 0, .int .i64 0, .int .i64 0] 25)
    simpa [Blk, Hid] using this
  have hB0 : Blk (w.alloc (.cells #[.slice ao bs.length cap, .int .i64 c, .int .i64 d] 25)) w.heap.size 25 [.slice ao bs.length cap, .int .i64 c, .int .i64 d] := heap_alloc_new w _
  have HB0 := Lib.hid (hB0.below (bl_al (Below.refl _ _) (.cells #[.slice none 0 0, .int .i64 0, .int .i64 0] 25)))
  have HW0 : Hid (Below w.heap.size w ((w.alloc (.cells #[.slice ao bs.length cap, .int .i64 c, .int .i64 d] 25)).alloc (.cells #[.slice none 0 0, .int .i64 0, .int .i64 0] 25))) := bl_al (bl_al (Below.refl _ _) _) _
  clear hB0
  go_enter Try.func18, Try.ntmps18
  go_wp2_with fail
  refine (asked_any _ bs c d am _ [] e HE (by omega) (by simp) _ (HV.out.below HW0.out) Sl.nil).mono ?_
  rintro _ w1 ⟨rfl, hb1⟩
  have HR1 := Lib.hid (HBLK.out.below hb1)
  have HB1 := Lib.hid (HB0.out.below hb1)
  have hbf := bl_tr HW0.out hb1
  clear hb1
  have hR := HR1.out
  have r0 := hR.cell 0
  have r1 := hR.cell 1
  have r2 := hR.cell 2
  simp only [List.getElem?_cons_zero, List.getElem?_cons_succ] at r0 r1 r2
  have f0 := hR.frozen 0
  have f1 := hR.frozen 1
  have f2 := hR.frozen 2
  have hlt := hR.lt
  clear hR
  go_wp2
  refine bodyPost_ret (v := .tuple #[.agg #[.slice none 0 0, .int .i64 0, .int .i64 0], .int .i64 e]) (by simp [results, Try.results18, go_sem, r0, r1, r2]) rfl ⟨.slice none 0 0, rfl, ⟨Sl.nil, fr_nil⟩, bl_s3 hbf (by omega) _ _ _⟩

set_option maxHeartbeats 1600000 in
set_option maxRecDepth 100000 in
theorem poolPay_no2 (v u : Value) (bs rates : List Int) (c d am e : Int) (HE : Hid (askedE bs c d am [] = 0)) (HP : Hid (payR bs c d rates am = ([], 0, 0, e))) (hne : (e != 0) = true) (hlen : bs.length ≤ 1000) (w : World) (hv : Sl .i64 w v bs) (hu : Sl .i64 w u rates) :
    Calls Try.prog 18 #[.agg #[v, .int .i64 c, .int .i64 d], u, .int .i64 am] w (RetPosN ([], 0, 0, e) w) := by
  have HV := Lib.hid hv
  have HU := Lib.hid hu
  obtain ⟨ao, cap, rfl, h1, ⟨h2, _⟩, h3⟩ := hv
  clear h3
  obtain ⟨ao', cap', rfl, h1', ⟨h2', _⟩, h3⟩ := hu
  clear h3
  unfold maxLen at h2 h2'
  have HBLK : Hid (Blk ((w.alloc (.cells #[.slice ao bs.length cap, .int .i64 c, .int .i64 d] 25)).alloc (.cells #[.slice none 0 0, .int .i64 0, .int .i64 0] 25)) (w.heap.size + 1) 25 [.slice none 0 0, .int .i64 0, .int .i64 0]) := by
    have := heap_alloc_new (w.alloc (.cells #[.slice ao bs.length cap, .int .i64 c, .int .i64 d] 25)) (.cells #[.slice none 0 0, .int .i64 0, .int .i64 0] 25)
    simpa [Blk, Hid] using this
  have hB0 : Blk (w.alloc (.cells #[.slice ao bs.length cap, .int .i64 c, .int .i64 d] 25)) w.heap.size 25 [.slice ao bs.length cap, .int .i64 c, .int .i64 d] := heap_alloc_new w _
  have HB0 := Lib.hid (hB0.below (bl_al (Below.refl _ _) (.cells #[.slice none 0 0, .int .i64 0, .int .i64 0] 25)))
  have HW0 : Hid (Below w.heap.size w ((w.alloc (.cells #[.slice ao bs.length cap, .int .i64 c, .int .i64 d] 25)).alloc (.cells #[.slice none 0 0, .int .i64 0, .int .i64 0] 25))) := bl_al (bl_al (Below.refl _ _) _) _
  clear hB0
  have HL := Lib.hid hlen
  go_enter Try.func18, Try.ntmps18
  go_wp2_with fail
  refine (asked_any _ bs c d am _ [] 0 HE (by omega) (by simp) _ (HV.out.below HW0.out) Sl.nil).mono ?_
  rintro _ w1 ⟨rfl, hb1⟩
  have HR1 := Lib.hid (HBLK.out.below hb1)
  have HB1 := Lib.hid (HB0.out.below hb1)
  have hbf := bl_tr HW0.out hb1
  have hB1 := HB1.out
  have c0 := hB1.cell 0
  have c1 := hB1.cell 1
  have c2 := hB1.cell 2
  simp only [List.getElem?_cons_zero, List.getElem?_cons_succ] at c0 c1 c2
  clear hB1 hb1
  go_wp2_with fail
  refine (fallPay_any _ _ bs rates c d am _ HP _ (HV.out.below hbf) (HU.out.below hbf) HL.out).mono ?_
  rintro _ w2 ⟨q, rfl, _, hb2⟩
  have HR2 := Lib.hid (HR1.out.below hb2)
  have hbf2 := bl_tr hbf hb2
  clear HR1 hbf hb2 c0 c1 c2
  have hR := HR2.out
  have r0 := hR.cell 0
  have r1 := hR.cell 1
  have r2 := hR.cell 2
  simp only [List.getElem?_cons_zero, List.getElem?_cons_succ] at r0 r1 r2
  have f0 := hR.frozen 0
  have f1 := hR.frozen 1
  have f2 := hR.frozen 2
  have hlt := hR.lt
  clear hR
  go_wp2
  refine bodyPost_ret (v := .tuple #[.agg #[.slice none 0 0, .int .i64 0, .int .i64 0], .int .i64 e]) (by simp [results, Try.results18, go_sem, r0, r1, r2]) rfl ⟨.slice none 0 0, rfl, ⟨Sl.nil, fr_nil⟩, bl_s3 hbf2 (by omega) _ _ _⟩

set_option maxHeartbeats 3200000 in
set_option maxRecDepth 100000 in
theorem poolPay_ok (v u : Value) (bs rates : List Int) (c d am : Int) (HE : Hid (askedE bs c d am [] = 0)) (l : List Int) (du le cf df : Int) (HP : Hid (payR bs c d rates am = (l, du, le, 0))) (hcf : c + le = cf) (hdf : d - du = df) (hq : Hid (rightP (subL bs l) cf df = true)) (hlen : bs.length ≤ 1000) (w : World) (hv : Sl .i64 w v bs) (hu : Sl .i64 w u rates) :
    Calls Try.prog 18 #[.agg #[v, .int .i64 c, .int .i64 d], u, .int .i64 am] w (RetPosN (subL bs l, cf, df, 0) w) := by
  have HV := Lib.hid hv
  have HU := Lib.hid hu
  obtain ⟨ao, cap, rfl, h1, ⟨h2, _⟩, h3⟩ := hv
  clear h3
  obtain ⟨ao', cap', rfl, h1', ⟨h2', _⟩, h3⟩ := hu
  clear h3
  unfold maxLen at h2 h2'
  have HBLK : Hid (Blk ((w.alloc (.cells #[.slice ao bs.length cap, .int .i64 c, .int .i64 d] 25)).alloc (.cells #[.slice none 0 0, .int .i64 0, .int .i64 0] 25)) (w.heap.size + 1) 25 [.slice none 0 0, .int .i64 0, .int .i64 0]) := by
    have := heap_alloc_new (w.alloc (.cells #[.slice ao bs.length cap, .int .i64 c, .int .i64 d] 25)) (.cells #[.slice none 0 0, .int .i64 0, .int .i64 0] 25)
    simpa [Blk, Hid] using this
  have hB0 : Blk (w.alloc (.cells #[.slice ao bs.length cap, .int .i64 c, .int .i64 d] 25)) w.heap.size 25 [.slice ao bs.length cap, .int .i64 c, .int .i64 d] := heap_alloc_new w _
  have HB0 := Lib.hid (hB0.below (bl_al (Below.refl _ _) (.cells #[.slice none 0 0, .int .i64 0, .int .i64 0] 25)))
  have HW0 : Hid (Below w.heap.size w ((w.alloc (.cells #[.slice ao bs.length cap, .int .i64 c, .int .i64 d] 25)).alloc (.cells #[.slice none 0 0, .int .i64 0, .int .i64 0] 25))) := bl_al (bl_al (Below.refl _ _) _) _
  clear hB0
  obtain ⟨hr, ham1, ham2⟩ := asked_none HE.out
  obtain ⟨⟨hd1, hd2⟩, hl8, hl1⟩ := rightP_due hr
  obtain ⟨⟨hc1, hc2⟩, hmay⟩ := rightP_may hr
  obtain ⟨hll, hlr, ⟨hle1, hle2⟩, hdu⟩ := payR_range HP.out
  have HMAY := Lib.hid hmay
  have HLR := Lib.hid hlr
  have HLL := Lib.hid hll
  have HARG := Lib.hid (And.intro hl1 hlen)
  have wcf : wrap64 cf = cf := IntWalk.wrap64_in _ ⟨by omega, by omega⟩
  have wdf : wrap64 df = df := IntWalk.wrap64_in _ ⟨by omega, by omega⟩
  have WW := Lib.hid (And.intro hcf (And.intro hdf (And.intro wcf wdf)))
  clear hr ham1 ham2 hd1 hd2 hl8 hl1 hc1 hc2 hmay hll hlr hle1 hle2 hdu hcf hdf wcf wdf
  go_enter Try.func18, Try.ntmps18
  go_wp2_with fail
  refine (asked_any _ bs c d am _ [] 0 HE (by omega) (by simp) _ (HV.out.below HW0.out) Sl.nil).mono ?_
  rintro _ w1 ⟨rfl, hb1⟩
  have HR1 := Lib.hid (HBLK.out.below hb1)
  have HB1 := Lib.hid (HB0.out.below hb1)
  have hbf := bl_tr HW0.out hb1
  have hB1 := HB1.out
  have c0 := hB1.cell 0
  have c1 := hB1.cell 1
  have c2 := hB1.cell 2
  simp only [List.getElem?_cons_zero, List.getElem?_cons_succ] at c0 c1 c2
  clear hB1 hb1
  go_wp2_with fail
  refine (fallPay_any _ _ bs rates c d am _ HP _ (HV.out.below hbf) (HU.out.below hbf) HARG.out.2).mono ?_
  rintro _ w2 ⟨q, rfl, ⟨hql, hqf⟩, hb2⟩
  simp only at hql ⊢
  have HQL := Lib.hid hql
  have HQF := Lib.hid hqf
  obtain ⟨aq, cq, rfl, hq1, ⟨hq2, _⟩, _⟩ := hql
  unfold maxLen at hq2
  have hR2 := HR1.out.below hb2
  have hB2 := HB1.out.below hb2
  have hz1 := HR1.out.lt
  have hz12 := hb2.size
  clear c0 c1 c2
  have c0 := hB2.cell 0
  have c1 := hB2.cell 1
  have c2 := hB2.cell 2
  simp only [List.getElem?_cons_zero, List.getElem?_cons_succ] at c0 c1 c2
  have HR2 := Lib.hid hR2
  have HB2 := Lib.hid hB2
  have HBF2 := Lib.hid (bl_tr hbf hb2)
  have HV2 := Lib.hid (HV.out.below (bl_tr hbf hb2))
  clear hR2 hB2 hqf hb2 hbf
  go_wp2_with fail
  refine (own_any _ bs c d HARG.out.2 _ HV2.out).mono ?_
  rintro _ w3 ⟨q3, rfl, hown, hb3⟩
  obtain ⟨ao3, capr, rfl, hnc, hcm, hBR⟩ := own_block hown
  obtain ⟨gr, hgr0, hgr1, cur, hcur1, hcur2, hcur3⟩ := hBR (by have := HARG.out.1; omega)
  subst hgr0
  obtain ⟨n, hn⟩ : ∃ n, bs.length = n := ⟨_, rfl⟩
  have HN := Lib.hid hn
  have HNR : Hid (Nums w3 gr capr bs) := ⟨cur, hcur1, hcur2, hcur3⟩
  have hbr : w2.heap.size + 2 ≤ gr := hgr1
  have HLn : Hid (l.length = n) := HLL.out.trans hn
  rw [hn] at hnc ⊢
  have hB3 := HB2.out.below hb3
  have f0 := hB3.frozen 0
  have f1 := hB3.frozen 1
  have f2 := hB3.frozen 2
  clear c0 c1 c2
  have c0 := hB3.cell 0
  have c1 := hB3.cell 1
  have c2 := hB3.cell 2
  simp only [List.getElem?_cons_zero, List.getElem?_cons_succ] at c0 c1 c2
  have HB3 := Lib.hid hB3
  have HR3 := Lib.hid (HR2.out.below hb3)
  have HQ3 := Lib.hid (HQL.out.below hb3)
  have HBF3 := Lib.hid (bl_tr HBF2.out hb3)
  have HNE1 : Hid (∀ b o m k, (Value.slice aq l.length cq) = .slice (some ⟨b, o, none⟩) m k → 0 < m → b ≠ w.heap.size) := fun b o m k e hm => by
    have := HQF.out b o m k e hm
    omega
  have HNE2 : Hid (∀ b o m k, (Value.slice aq l.length cq) = .slice (some ⟨b, o, none⟩) m k → 0 < m → b ≠ gr) := by
    intro b o m k e hm
    cases e
    obtain ⟨b', o', e1, hc⟩ := HQL.out.at (i := 0) hm
    cases e1
    have := cell_block_lt hc
    omega
  have hz23 := hb3.size
  clear hB3 hown hb3 hn hcur1 hcur2 hcur3 HQL HQF HBF2 HR2 HB2 HV2 HR1 HB1 HBLK HB0 HW0 HV HU hgr1 cur
  go_wp2_with fail
  go_loopg [39] n (fun g i wr => ∃ (k : Nat), k + g = n ∧ i = .int .i64 k ∧ Hid (Blk wr w.heap.size 25 [.slice (some ⟨gr, 0, none⟩) n capr, .int .i64 c, .int .i64 d] ∧ Nums wr gr capr (mixL (subL bs l) bs k) ∧ Blk wr (w.heap.size + 1) 25 [.slice none 0 0, .int .i64 0, .int .i64 0] ∧ Below w.heap.size w wr ∧ Sl .i64 wr (.slice aq l.length cq) l))
  case atStart =>
    refine ⟨0, by omega, rfl, ?_⟩
    refine ⟨((HB3.out.set 0 _).set 1 _).set 2 _, ?_, ((HR3.out.setOther (by omega) 0 _).setOther (by omega) 1 _).setOther (by omega) 2 _, bl_s3 HBF3.out (by omega) _ _ _, ((HQ3.out.setCell HNE1.out _).setCell HNE1.out _).setCell HNE1.out _⟩
    rw [mixL_zero]
    exact ((HNR.out.setOther (by omega) 0 _).setOther (by omega) 1 _).setOther (by omega) 2 _
  case round =>
    obtain ⟨k, hkg, rfl, HI⟩ := hrel
    clear c0 c1 c2 f0 f1 f2
    have HSLn : Hid ((subL bs l).length = n) := by show _ = _; unfold subL; rw [List.length_zipWith]; have := HN.out; have := HLn.out; omega
    cases gk with
    | succ g =>
      have hlt : (k : Int) < (l.length : Int) := by have := HLn.out; omega
      have hkn : k < n := by omega
      obtain ⟨hBp, hNm, hRr, hbw, hSq⟩ := HI.out
      obtain ⟨b', o', y, rfl, hcell, HY⟩ := hSq.get (i := k) (by have := HLn.out; omega)
      have hml := mixL_length (k := k) HSLn.out HN.out (Nat.le_of_lt hkn)
      have c5 := hNm.cell (i := k) (by omega)
      rw [mixL_get HSLn.out HN.out hkn] at c5
      have f5 := hNm.frozen k
      have c0 := hBp.cell 0
      simp only [List.getElem?_cons_zero] at c0
      have hsub := getD_subL (a := bs) (b := l) (i := k) (by have := HN.out; omega) (by have := HLn.out; omega)
      have hlr := HLR.out k (by have := HN.out; omega)
      have hmy := HMAY.out k (by have := HN.out; omega)
      rw [HY.out] at hlr hsub
      generalize bs.getD k 0 = x at c5 hsub hlr hmy
      have HS := Lib.hid hsub
      have HX := Lib.hid (And.intro hBp (And.intro hNm (And.intro hRr (And.intro hbw hSq))))
      have hnc2 : k < capr := by omega
      clear hsub hNm hBp hRr hbw hSq hml HI
      go_wp2_with fail
      go_roundg g
      case measure => omega
      case rel =>
        refine ⟨k + 1, by omega, by go_num, ?_⟩
        obtain ⟨hBp, hNm, hRr, hbw, hSq⟩ := HX.out
        refine ⟨hBp.setOther (by omega) _ _, ?_, hRr.setOther (by omega) _ _, hbw.setCell (show w.heap.size ≤ gr by omega) _, hSq.setCell HNE2.out _⟩
        have e := mixL_set HSLn.out HN.out hkn
        rw [HS.out] at e
        rw [← e]
        exact hNm.set k (x - y)
    | zero =>
      obtain rfl : k = n := by omega
      have hlt : ¬ ((k : Int) < (l.length : Int)) := by have := HLn.out; omega
      obtain ⟨hBp, hNm, hRr, hbw, hSq⟩ := HI.out
      rw [mixL_all HSLn.out HN.out] at hNm
      have c0 := hBp.cell 0
      have c1 := hBp.cell 1
      have c2 := hBp.cell 2
      simp only [List.getElem?_cons_zero, List.getElem?_cons_succ] at c0 c1 c2
      have f1 := hBp.frozen 1
      have f2 := hBp.frozen 2
      obtain ⟨hcf, hdf, wcf, wdf⟩ := WW.out
      have hlb := hBp.lt
      have HX := Lib.hid (And.intro hBp (And.intro hNm (And.intro hRr hbw)))
      have HJ : Hid (judgedV (.slice (some ⟨gr, 0, none⟩) k capr) (subL bs l) cf df = .tuple #[.agg #[.slice (some ⟨gr, 0, none⟩) k capr, .int .i64 cf, .int .i64 df], .int .i64 0]) := by show _ = _; unfold judgedV; rw [hq.out]; rfl
      have HLL1 : Hid ((subL bs l).length ≤ 1000000) := by show _ ≤ _; have := HSLn.out; have := HN.out; have := HARG.out.2; omega
      clear hBp hNm hRr hbw hSq HI
      go_wp2_with fail
      refine (judged_any _ (subL bs l) cf df _ HJ HLL1.out _ ?sl).mono ?_
      case sl => exact ((HX.out.2.1.setOther (by omega) 2 _).setOther (by omega) 1 _).sl HSLn.out hnc hcm
      rintro _ w4 ⟨rfl, hb4⟩
      have hR4 := ((HX.out.2.2.1.setOther (by omega) 2 (.int .i64 df)).setOther (by omega) 1 (.int .i64 cf)).below hb4
      have r0 := hR4.cell 0
      have r1 := hR4.cell 1
      have r2 := hR4.cell 2
      simp only [List.getElem?_cons_zero, List.getElem?_cons_succ] at r0 r1 r2
      have e0 := hR4.frozen 0
      have e1 := hR4.frozen 1
      have e2 := hR4.frozen 2
      have hbf4 : Below w.heap.size w w4 := ((HX.out.2.2.2.setCell (p := ⟨w.heap.size, 2, none⟩) (Nat.le_refl _) (.int .i64 df)).setCell (p := ⟨w.heap.size, 1, none⟩) (Nat.le_refl _) (.int .i64 cf)).trans (hb4.mono (by simp; omega))
      have HN4 := Lib.hid (((HX.out.2.1.setOther (by omega) 2 (.int .i64 df)).setOther (by omega) 1 (.int .i64 cf)).below hb4)
      have HSL := HSLn
      have hlt4 := hR4.lt
      clear hR4 hb4 c0 c1 c2 f1 f2 hcf hdf wcf wdf
      go_wp2
      refine bodyPost_ret (v := .tuple #[.agg #[.slice (some ⟨gr, 0, none⟩) k capr, .int .i64 cf, .int .i64 df], .int .i64 0]) (by simp [results, Try.results18, go_sem, r0, r1, r2]) rfl ⟨.slice (some ⟨gr, 0, none⟩) k capr, rfl, ⟨(((HN4.out.setOther (by omega) 0 _).setOther (by omega) 1 _).setOther (by omega) 2 _).sl HSL.out hnc hcm, fr_of fun _ => ⟨rfl, by omega⟩⟩, bl_s3 hbf4 (by omega) _ _ _⟩

set_option maxHeartbeats 3200000 in
set_option maxRecDepth 100000 in
theorem poolPay_bad (v u : Value) (bs rates : List Int) (c d am : Int) (HE : Hid (askedE bs c d am [] = 0)) (l : List Int) (du le cf df : Int) (HP : Hid (payR bs c d rates am = (l, du, le, 0))) (hcf : c + le = cf) (hdf : d - du = df) (hq : Hid (rightP (subL bs l) cf df = false)) (hlen : bs.length ≤ 1000) (w : World) (hv : Sl .i64 w v bs) (hu : Sl .i64 w u rates) :
    Calls Try.prog 18 #[.agg #[v, .int .i64 c, .int .i64 d], u, .int .i64 am] w (RetPosN ([], 0, 0, 5) w) := by
  have HV := Lib.hid hv
  have HU := Lib.hid hu
  obtain ⟨ao, cap, rfl, h1, ⟨h2, _⟩, h3⟩ := hv
  clear h3
  obtain ⟨ao', cap', rfl, h1', ⟨h2', _⟩, h3⟩ := hu
  clear h3
  unfold maxLen at h2 h2'
  have HBLK : Hid (Blk ((w.alloc (.cells #[.slice ao bs.length cap, .int .i64 c, .int .i64 d] 25)).alloc (.cells #[.slice none 0 0, .int .i64 0, .int .i64 0] 25)) (w.heap.size + 1) 25 [.slice none 0 0, .int .i64 0, .int .i64 0]) := by
    have := heap_alloc_new (w.alloc (.cells #[.slice ao bs.length cap, .int .i64 c, .int .i64 d] 25)) (.cells #[.slice none 0 0, .int .i64 0, .int .i64 0] 25)
    simpa [Blk, Hid] using this
  have hB0 : Blk (w.alloc (.cells #[.slice ao bs.length cap, .int .i64 c, .int .i64 d] 25)) w.heap.size 25 [.slice ao bs.length cap, .int .i64 c, .int .i64 d] := heap_alloc_new w _
  have HB0 := Lib.hid (hB0.below (bl_al (Below.refl _ _) (.cells #[.slice none 0 0, .int .i64 0, .int .i64 0] 25)))
  have HW0 : Hid (Below w.heap.size w ((w.alloc (.cells #[.slice ao bs.length cap, .int .i64 c, .int .i64 d] 25)).alloc (.cells #[.slice none 0 0, .int .i64 0, .int .i64 0] 25))) := bl_al (bl_al (Below.refl _ _) _) _
  clear hB0
  obtain ⟨hr, ham1, ham2⟩ := asked_none HE.out
  obtain ⟨⟨hd1, hd2⟩, hl8, hl1⟩ := rightP_due hr
  obtain ⟨⟨hc1, hc2⟩, hmay⟩ := rightP_may hr
  obtain ⟨hll, hlr, ⟨hle1, hle2⟩, hdu⟩ := payR_range HP.out
  have HMAY := Lib.hid hmay
  have HLR := Lib.hid hlr
  have HLL := Lib.hid hll
  have HARG := Lib.hid (And.intro hl1 hlen)
  have wcf : wrap64 cf = cf := IntWalk.wrap64_in _ ⟨by omega, by omega⟩
  have wdf : wrap64 df = df := IntWalk.wrap64_in _ ⟨by omega, by omega⟩
  have WW := Lib.hid (And.intro hcf (And.intro hdf (And.intro wcf wdf)))
  clear hr ham1 ham2 hd1 hd2 hl8 hl1 hc1 hc2 hmay hll hlr hle1 hle2 hdu hcf hdf wcf wdf
  go_enter Try.func18, Try.ntmps18
  go_wp2_with fail
  refine (asked_any _ bs c d am _ [] 0 HE (by omega) (by simp) _ (HV.out.below HW0.out) Sl.nil).mono ?_
  rintro _ w1 ⟨rfl, hb1⟩
  have HR1 := Lib.hid (HBLK.out.below hb1)
  have HB1 := Lib.hid (HB0.out.below hb1)
  have hbf := bl_tr HW0.out hb1
  have hB1 := HB1.out
  have c0 := hB1.cell 0
  have c1 := hB1.cell 1
  have c2 := hB1.cell 2
  simp only [List.getElem?_cons_zero, List.getElem?_cons_succ] at c0 c1 c2
  clear hB1 hb1
  go_wp2_with fail
  refine (fallPay_any _ _ bs rates c d am _ HP _ (HV.out.below hbf) (HU.out.below hbf) HARG.out.2).mono ?_
  rintro _ w2 ⟨q, rfl, ⟨hql, hqf⟩, hb2⟩
  simp only at hql ⊢
  have HQL := Lib.hid hql
  have HQF := Lib.hid hqf
  obtain ⟨aq, cq, rfl, hq1, ⟨hq2, _⟩, _⟩ := hql
  unfold maxLen at hq2
  have hR2 := HR1.out.below hb2
  have hB2 := HB1.out.below hb2
  have hz1 := HR1.out.lt
  have hz12 := hb2.size
  clear c0 c1 c2
  have c0 := hB2.cell 0
  have c1 := hB2.cell 1
  have c2 := hB2.cell 2
  simp only [List.getElem?_cons_zero, List.getElem?_cons_succ] at c0 c1 c2
  have HR2 := Lib.hid hR2
  have HB2 := Lib.hid hB2
  have HBF2 := Lib.hid (bl_tr hbf hb2)
  have HV2 := Lib.hid (HV.out.below (bl_tr hbf hb2))
  clear hR2 hB2 hqf hb2 hbf
  go_wp2_with fail
  refine (own_any _ bs c d HARG.out.2 _ HV2.out).mono ?_
  rintro _ w3 ⟨q3, rfl, hown, hb3⟩
  obtain ⟨ao3, capr, rfl, hnc, hcm, hBR⟩ := own_block hown
  obtain ⟨gr, hgr0, hgr1, cur, hcur1, hcur2, hcur3⟩ := hBR (by have := HARG.out.1; omega)
  subst hgr0
  obtain ⟨n, hn⟩ : ∃ n, bs.length = n := ⟨_, rfl⟩
  have HN := Lib.hid hn
  have HNR : Hid (Nums w3 gr capr bs) := ⟨cur, hcur1, hcur2, hcur3⟩
  have hbr : w2.heap.size + 2 ≤ gr := hgr1
  have HLn : Hid (l.length = n) := HLL.out.trans hn
  rw [hn] at hnc ⊢
  have hB3 := HB2.out.below hb3
  have f0 := hB3.frozen 0
  have f1 := hB3.frozen 1
  have f2 := hB3.frozen 2
  clear c0 c1 c2
  have c0 := hB3.cell 0
  have c1 := hB3.cell 1
  have c2 := hB3.cell 2
  simp only [List.getElem?_cons_zero, List.getElem?_cons_succ] at c0 c1 c2
  have HB3 := Lib.hid hB3
  have HR3 := Lib.hid (HR2.out.below hb3)
  have HQ3 := Lib.hid (HQL.out.below hb3)
  have HBF3 := Lib.hid (bl_tr HBF2.out hb3)
  have HNE1 : Hid (∀ b o m k, (Value.slice aq l.length cq) = .slice (some ⟨b, o, none⟩) m k → 0 < m → b ≠ w.heap.size) := fun b o m k e hm => by
    have := HQF.out b o m k e hm
    omega
  have HNE2 : Hid (∀ b o m k, (Value.slice aq l.length cq) = .slice (some ⟨b, o, none⟩) m k → 0 < m → b ≠ gr) := by
    intro b o m k e hm
    cases e
    obtain ⟨b', o', e1, hc⟩ := HQL.out.at (i := 0) hm
    cases e1
    have := cell_block_lt hc
    omega
  have hz23 := hb3.size
  clear hB3 hown hb3 hn hcur1 hcur2 hcur3 HQL HQF HBF2 HR2 HB2 HV2 HR1 HB1 HBLK HB0 HW0 HV HU hgr1 cur
  go_wp2_with fail
  go_loopg [39] n (fun g i wr => ∃ (k : Nat), k + g = n ∧ i = .int .i64 k ∧ Hid (Blk wr w.heap.size 25 [.slice (some ⟨gr, 0, none⟩) n capr, .int .i64 c, .int .i64 d] ∧ Nums wr gr capr (mixL (subL bs l) bs k) ∧ Blk wr (w.heap.size + 1) 25 [.slice none 0 0, .int .i64 0, .int .i64 0] ∧ Below w.heap.size w wr ∧ Sl .i64 wr (.slice aq l.length cq) l))
  case atStart =>
    refine ⟨0, by omega, rfl, ?_⟩
    refine ⟨((HB3.out.set 0 _).set 1 _).set 2 _, ?_, ((HR3.out.setOther (by omega) 0 _).setOther (by omega) 1 _).setOther (by omega) 2 _, bl_s3 HBF3.out (by omega) _ _ _, ((HQ3.out.setCell HNE1.out _).setCell HNE1.out _).setCell HNE1.out _⟩
    rw [mixL_zero]
    exact ((HNR.out.setOther (by omega) 0 _).setOther (by omega) 1 _).setOther (by omega) 2 _
  case round =>
    obtain ⟨k, hkg, rfl, HI⟩ := hrel
    clear c0 c1 c2 f0 f1 f2
    have HSLn : Hid ((subL bs l).length = n) := by show _ = _; unfold subL; rw [List.length_zipWith]; have := HN.out; have := HLn.out; omega
    cases gk with
    | succ g =>
      have hlt : (k : Int) < (l.length : Int) := by have := HLn.out; omega
      have hkn : k < n := by omega
      obtain ⟨hBp, hNm, hRr, hbw, hSq⟩ := HI.out
      obtain ⟨b', o', y, rfl, hcell, HY⟩ := hSq.get (i := k) (by have := HLn.out; omega)
      have hml := mixL_length (k := k) HSLn.out HN.out (Nat.le_of_lt hkn)
      have c5 := hNm.cell (i := k) (by omega)
      rw [mixL_get HSLn.out HN.out hkn] at c5
      have f5 := hNm.frozen k
      have c0 := hBp.cell 0
      simp only [List.getElem?_cons_zero] at c0
      have hsub := getD_subL (a := bs) (b := l) (i := k) (by have := HN.out; omega) (by have := HLn.out; omega)
      have hlr := HLR.out k (by have := HN.out; omega)
      have hmy := HMAY.out k (by have := HN.out; omega)
      rw [HY.out] at hlr hsub
      generalize bs.getD k 0 = x at c5 hsub hlr hmy
      have HS := Lib.hid hsub
      have HX := Lib.hid (And.intro hBp (And.intro hNm (And.intro hRr (And.intro hbw hSq))))
      have hnc2 : k < capr := by omega
      clear hsub hNm hBp hRr hbw hSq hml HI
      go_wp2_with fail
      go_roundg g
      case measure => omega
      case rel =>
        refine ⟨k + 1, by omega, by go_num, ?_⟩
        obtain ⟨hBp, hNm, hRr, hbw, hSq⟩ := HX.out
        refine ⟨hBp.setOther (by omega) _ _, ?_, hRr.setOther (by omega) _ _, hbw.setCell (show w.heap.size ≤ gr by omega) _, hSq.setCell HNE2.out _⟩
        have e := mixL_set HSLn.out HN.out hkn
        rw [HS.out] at e
        rw [← e]
        exact hNm.set k (x - y)
    | zero =>
      obtain rfl : k = n := by omega
      have hlt : ¬ ((k : Int) < (l.length : Int)) := by have := HLn.out; omega
      obtain ⟨hBp, hNm, hRr, hbw, hSq⟩ := HI.out
      rw [mixL_all HSLn.out HN.out] at hNm
      have c0 := hBp.cell 0
      have c1 := hBp.cell 1
      have c2 := hBp.cell 2
      simp only [List.getElem?_cons_zero, List.getElem?_cons_succ] at c0 c1 c2
      have f1 := hBp.frozen 1
      have f2 := hBp.frozen 2
      obtain ⟨hcf, hdf, wcf, wdf⟩ := WW.out
      have hlb := hBp.lt
      have HX := Lib.hid (And.intro hBp (And.intro hNm (And.intro hRr hbw)))
      have HJ : Hid (judgedV (.slice (some ⟨gr, 0, none⟩) k capr) (subL bs l) cf df = .tuple #[.agg #[.slice none 0 0, .int .i64 0, .int .i64 0], .int .i64 5]) := by show _ = _; unfold judgedV; rw [hq.out]; rfl
      have HLL1 : Hid ((subL bs l).length ≤ 1000000) := by show _ ≤ _; have := HSLn.out; have := HN.out; have := HARG.out.2; omega
      clear hBp hNm hRr hbw hSq HI
      go_wp2_with fail
      refine (judged_any _ (subL bs l) cf df _ HJ HLL1.out _ ?sl).mono ?_
      case sl => exact ((HX.out.2.1.setOther (by omega) 2 _).setOther (by omega) 1 _).sl HSLn.out hnc hcm
      rintro _ w4 ⟨rfl, hb4⟩
      have hR4 := ((HX.out.2.2.1.setOther (by omega) 2 (.int .i64 df)).setOther (by omega) 1 (.int .i64 cf)).below hb4
      have r0 := hR4.cell 0
      have r1 := hR4.cell 1
      have r2 := hR4.cell 2
      simp only [List.getElem?_cons_zero, List.getElem?_cons_succ] at r0 r1 r2
      have e0 := hR4.frozen 0
      have e1 := hR4.frozen 1
      have e2 := hR4.frozen 2
      have hbf4 : Below w.heap.size w w4 := ((HX.out.2.2.2.setCell (p := ⟨w.heap.size, 2, none⟩) (Nat.le_refl _) (.int .i64 df)).setCell (p := ⟨w.heap.size, 1, none⟩) (Nat.le_refl _) (.int .i64 cf)).trans (hb4.mono (by simp; omega))
      have HN4 := Lib.hid (((HX.out.2.1.setOther (by omega) 2 (.int .i64 df)).setOther (by omega) 1 (.int .i64 cf)).below hb4)
      have HSL := HSLn
      have hlt4 := hR4.lt
      clear hR4 hb4 c0 c1 c2 f1 f2 hcf hdf wcf wdf
      go_wp2
      refine bodyPost_ret (v := .tuple #[.agg #[.slice none 0 0, .int .i64 0, .int .i64 0], .int .i64 5]) (by simp [results, Try.results18, go_sem, r0, r1, r2]) rfl ⟨.slice none 0 0, rfl, ⟨Sl.nil, fr_nil⟩, bl_s3 hbf4 (by omega) _ _ _⟩

theorem poolPayN_any (v u : Value) (bs rates : List Int) (c d am : Int) (s : List Int × Int × Int × Int) (hs : Hid (payS bs c d rates am = s)) (hlen : bs.length ≤ 1000) (w : World) (hv : Sl .i64 w v bs) (hu : Sl .i64 w u rates) :
    Calls Try.prog 18 #[.agg #[v, .int .i64 c, .int .i64 d], u, .int .i64 am] w (RetPosN s w) := by
  have hs := hs.out
  subst hs
  unfold payS
  by_cases he : askedE bs c d am [] = 0
  · rw [if_neg (by simpa using he)]
    obtain ⟨l, du, le, e, hp⟩ : ∃ l du le e, payR bs c d rates am = (l, du, le, e) := ⟨_, _, _, _, rfl⟩
    rw [hp]
    rcases payR_parts hp with ⟨rfl, _⟩ | ⟨rfl, rfl, rfl, rfl⟩
    · simp only [ne_eq, not_true_eq_false, if_false]
      cases hq : rightP (subL bs l) (c + le) (d - du) with
      | true => rw [if_pos rfl]; exact poolPay_ok v u bs rates c d am he l du le _ _ hp rfl rfl hq hlen w hv hu
      | false => rw [if_neg (by simp)]; exact poolPay_bad v u bs rates c d am he l du le _ _ hp rfl rfl hq hlen w hv hu
    · rw [if_pos (by decide)]
      exact poolPay_no2 v u bs rates c d am 1 he hp (by decide) hlen w hv hu
  · rw [if_pos (by simpa using he)]
    exact poolPay_no1 v u bs rates c d am _ rfl (by simpa using he) hlen w hv hu
theorem poolPay_any (v u : Value) (bs rates : List Int) (c d am : Int) (s : List Int × Int × Int × Int) (hs : Hid (payS bs c d rates am = s)) (hlen : bs.length ≤ 1000) (w : World) (hv : Sl .i64 w v bs) (hu : Sl .i64 w u rates) :
    Calls Try.prog 18 #[.agg #[v, .int .i64 c, .int .i64 d], u, .int .i64 am] w (RetPos s w) :=
  (poolPayN_any v u bs rates c d am s hs hlen w hv hu).mono fun _ _ ⟨u, h1, h2, h3⟩ => ⟨u, h1, h2.1, h3⟩
end Go.Proofs.Ytbiiejolemcifaa

/- lombardref11.Pay. -/
import Derived.Test.YtbiiejolemcifaaRef11E
import Derived.Test.YtbiiejolemcifaaRefPayN
namespace Go.Proofs.Ytbiiejolemcifaa
open Go.RowKit

set_option maxHeartbeats 1600000 in
set_option maxRecDepth 100000 in
theorem refPay11_no1 (v u : Value) (bs rates : List Int) (c d am : Int) (HR : Hid (rightP bs c d = false)) (w : World) (hv : Sl .i64 w v bs) (hu : Sl .i64 w u rates) :
    Calls Try.prog 22 #[.agg #[v, .int .i64 c, .int .i64 d], u, .int .i64 am] w (RetPos ([], 0, 0, 1) w) := by
  have HV := Lib.hid hv
  have HU := Lib.hid hu
  obtain ⟨ao, cap, rfl, h1, ⟨h2, _⟩, h3⟩ := hv
  clear h3
  obtain ⟨ao', cap', rfl, h1', ⟨h2', _⟩, h3⟩ := hu
  clear h3
  unfold maxLen at h2 h2'
  have HBLK : Hid (Blk ((w.alloc (.cells #[.slice ao bs.length cap, .int .i64 c, .int .i64 d] 25)).alloc (.cells #[.slice none 0 0, .int .i64 0, .int .i64 0] 25)) (w.heap.size + 1) 25 [.slice none 0 0, .int .i64 0, .int .i64 0]) := by
    have := heap_alloc_new (w.alloc (.cells #[.slice ao bs.length cap, .int .i64 c, .int .i64 d] 25)) (.cells #[.slice none 0 0, .int .i64 0, .int .i64 0] 25)
    simpa [Blk, Hid] using this
  have hB0 : Blk (w.alloc (.cells #[.slice ao bs.length cap, .int .i64 c, .int .i64 d] 25)) w.heap.size 25 [.slice ao bs.length cap, .int .i64 c, .int .i64 d] := heap_alloc_new w _
  have HB0 := Lib.hid (hB0.below (bl_al (Below.refl _ _) (.cells #[.slice none 0 0, .int .i64 0, .int .i64 0] 25)))
  have HW0 : Hid (Below w.heap.size w ((w.alloc (.cells #[.slice ao bs.length cap, .int .i64 c, .int .i64 d] 25)).alloc (.cells #[.slice none 0 0, .int .i64 0, .int .i64 0] 25))) := bl_al (bl_al (Below.refl _ _) _) _
  clear hB0
  go_enter Try.func22, Try.ntmps22
  go_wp2_with fail
  refine (refRight11_any _ bs c d false HR _ (HV.out.below HW0.out)).mono ?_
  rintro _ w1 ⟨rfl, hb1⟩
  have hbf := bl_tr HW0.out hb1
  have hR := HBLK.out.below hb1
  have r0 := hR.cell 0
  have r1 := hR.cell 1
  have r2 := hR.cell 2
  simp only [List.getElem?_cons_zero, List.getElem?_cons_succ] at r0 r1 r2
  have f0 := hR.frozen 0
  have f1 := hR.frozen 1
  have f2 := hR.frozen 2
  have hlt := hR.lt
  clear hR
  clear hb1
  go_wp2
  refine bodyPost_ret (v := .tuple #[.agg #[.slice none 0 0, .int .i64 0, .int .i64 0], .int .i64 1]) (by simp [results, Try.results22, go_sem, r0, r1, r2]) rfl ⟨.slice none 0 0, rfl, Sl.nil, bl_s3 hbf (by omega) _ _ _⟩

set_option maxHeartbeats 1600000 in
set_option maxRecDepth 100000 in
theorem refPay11_no2 (v u : Value) (bs rates : List Int) (c d am : Int) (HR : Hid (rightP bs c d = true)) (HM : Hid (may0 am = false)) (w : World) (hv : Sl .i64 w v bs) (hu : Sl .i64 w u rates) :
    Calls Try.prog 22 #[.agg #[v, .int .i64 c, .int .i64 d], u, .int .i64 am] w (RetPos ([], 0, 0, 8) w) := by
  have HV := Lib.hid hv
  have HU := Lib.hid hu
  obtain ⟨ao, cap, rfl, h1, ⟨h2, _⟩, h3⟩ := hv
  clear h3
  obtain ⟨ao', cap', rfl, h1', ⟨h2', _⟩, h3⟩ := hu
  clear h3
  unfold maxLen at h2 h2'
  have HBLK : Hid (Blk ((w.alloc (.cells #[.slice ao bs.length cap, .int .i64 c, .int .i64 d] 25)).alloc (.cells #[.slice none 0 0, .int .i64 0, .int .i64 0] 25)) (w.heap.size + 1) 25 [.slice none 0 0, .int .i64 0, .int .i64 0]) := by
    have := heap_alloc_new (w.alloc (.cells #[.slice ao bs.length cap, .int .i64 c, .int .i64 d] 25)) (.cells #[.slice none 0 0, .int .i64 0, .int .i64 0] 25)
    simpa [Blk, Hid] using this
  have hB0 : Blk (w.alloc (.cells #[.slice ao bs.length cap, .int .i64 c, .int .i64 d] 25)) w.heap.size 25 [.slice ao bs.length cap, .int .i64 c, .int .i64 d] := heap_alloc_new w _
  have HB0 := Lib.hid (hB0.below (bl_al (Below.refl _ _) (.cells #[.slice none 0 0, .int .i64 0, .int .i64 0] 25)))
  have HW0 : Hid (Below w.heap.size w ((w.alloc (.cells #[.slice ao bs.length cap, .int .i64 c, .int .i64 d] 25)).alloc (.cells #[.slice none 0 0, .int .i64 0, .int .i64 0] 25))) := bl_al (bl_al (Below.refl _ _) _) _
  clear hB0
  go_enter Try.func22, Try.ntmps22
  go_wp2_with fail
  refine (refRight11_any _ bs c d true HR _ (HV.out.below HW0.out)).mono ?_
  rintro _ w1 ⟨rfl, hb1⟩
  have hbf := bl_tr HW0.out hb1
  go_wp2_with fail
  refine (refMay11_is HM.out _).mono ?_
  rintro _ w2 ⟨rfl, rfl⟩
  have hR := HBLK.out.below hb1
  have r0 := hR.cell 0
  have r1 := hR.cell 1
  have r2 := hR.cell 2
  simp only [List.getElem?_cons_zero, List.getElem?_cons_succ] at r0 r1 r2
  have f0 := hR.frozen 0
  have f1 := hR.frozen 1
  have f2 := hR.frozen 2
  have hlt := hR.lt
  clear hR
  clear hb1
  go_wp2
  refine bodyPost_ret (v := .tuple #[.agg #[.slice none 0 0, .int .i64 0, .int .i64 0], .int .i64 8]) (by simp [results, Try.results22, go_sem, r0, r1, r2]) rfl ⟨.slice none 0 0, rfl, Sl.nil, bl_s3 hbf (by omega) _ _ _⟩

set_option maxHeartbeats 1600000 in
set_option maxRecDepth 100000 in
theorem refPay11_no3 (v u : Value) (bs rates : List Int) (c d am e : Int) (HR : Hid (rightP bs c d = true)) (HM : Hid (may0 am = true)) (HP : Hid (payR bs c d rates am = ([], 0, 0, e))) (hne : (e != 0) = true) (hlen : bs.length ≤ 1000) (w : World) (hv : Sl .i64 w v bs) (hu : Sl .i64 w u rates) :
    Calls Try.prog 22 #[.agg #[v, .int .i64 c, .int .i64 d], u, .int .i64 am] w (RetPos ([], 0, 0, e) w) := by
  have HV := Lib.hid hv
  have HU := Lib.hid hu
  obtain ⟨ao, cap, rfl, h1, ⟨h2, _⟩, h3⟩ := hv
  clear h3
  obtain ⟨ao', cap', rfl, h1', ⟨h2', _⟩, h3⟩ := hu
  clear h3
  unfold maxLen at h2 h2'
  have HBLK : Hid (Blk ((w.alloc (.cells #[.slice ao bs.length cap, .int .i64 c, .int .i64 d] 25)).alloc (.cells #[.slice none 0 0, .int .i64 0, .int .i64 0] 25)) (w.heap.size + 1) 25 [.slice none 0 0, .int .i64 0, .int .i64 0]) := by
    have := heap_alloc_new (w.alloc (.cells #[.slice ao bs.length cap, .int .i64 c, .int .i64 d] 25)) (.cells #[.slice none 0 0, .int .i64 0, .int .i64 0] 25)
    simpa [Blk, Hid] using this
  have hB0 : Blk (w.alloc (.cells #[.slice ao bs.length cap, .int .i64 c, .int .i64 d] 25)) w.heap.size 25 [.slice ao bs.length cap, .int .i64 c, .int .i64 d] := heap_alloc_new w _
  have HB0 := Lib.hid (hB0.below (bl_al (Below.refl _ _) (.cells #[.slice none 0 0, .int .i64 0, .int .i64 0] 25)))
  have HW0 : Hid (Below w.heap.size w ((w.alloc (.cells #[.slice ao bs.length cap, .int .i64 c, .int .i64 d] 25)).alloc (.cells #[.slice none 0 0, .int .i64 0, .int .i64 0] 25))) := bl_al (bl_al (Below.refl _ _) _) _
  clear hB0
  have HL := Lib.hid hlen
  clear hlen
  go_enter Try.func22, Try.ntmps22
  go_wp2_with fail
  refine (refRight11_any _ bs c d true HR _ (HV.out.below HW0.out)).mono ?_
  rintro _ w1 ⟨rfl, hb1⟩
  have hbf := bl_tr HW0.out hb1
  go_wp2_with fail
  refine (refMay11_is HM.out _).mono ?_
  rintro _ w2 ⟨rfl, rfl⟩
  have hB := HB0.out.below hb1
  have c0 := hB.cell 0
  have c1 := hB.cell 1
  have c2 := hB.cell 2
  simp only [List.getElem?_cons_zero, List.getElem?_cons_succ] at c0 c1 c2
  have HR1 := Lib.hid (HBLK.out.below hb1)
  clear hB hb1
  go_wp2_with fail
  refine (refPay_any _ _ bs rates c d am _ HP _ (HV.out.below hbf) (HU.out.below hbf) HL.out).mono ?_
  rintro _ w2 ⟨q, rfl, _, hb2⟩
  have hbf2 := bl_tr hbf hb2
  have hR := HR1.out.below hb2
  have r0 := hR.cell 0
  have r1 := hR.cell 1
  have r2 := hR.cell 2
  simp only [List.getElem?_cons_zero, List.getElem?_cons_succ] at r0 r1 r2
  have f0 := hR.frozen 0
  have f1 := hR.frozen 1
  have f2 := hR.frozen 2
  have hlt := hR.lt
  clear hR
  clear hb2 c0 c1 c2
  go_wp2
  refine bodyPost_ret (v := .tuple #[.agg #[.slice none 0 0, .int .i64 0, .int .i64 0], .int .i64 e]) (by simp [results, Try.results22, go_sem, r0, r1, r2]) rfl ⟨.slice none 0 0, rfl, Sl.nil, bl_s3 hbf2 (by omega) _ _ _⟩

set_option maxHeartbeats 3200000 in
set_option maxRecDepth 100000 in
theorem refPay11_yes (v u : Value) (bs rates : List Int) (c d am : Int) (HR : Hid (rightP bs c d = true)) (HM : Hid (may0 am = true)) (l : List Int) (du le df : Int) (HP : Hid (payR bs c d rates am = (l, du, le, 0))) (hdf : d - du = df) (l2 : List Int) (x2 y2 e2 : Int) (HS : Hid (lessS bs l c df le = (l2, x2, y2, e2))) (hlen : bs.length ≤ 1000) (w : World) (hv : Sl .i64 w v bs) (hu : Sl .i64 w u rates) :
    Calls Try.prog 22 #[.agg #[v, .int .i64 c, .int .i64 d], u, .int .i64 am] w (RetPos (l2, x2, y2, e2) w) := by
  have HV := Lib.hid hv
  have HU := Lib.hid hu
  obtain ⟨ao, cap, rfl, h1, ⟨h2, _⟩, h3⟩ := hv
  clear h3
  obtain ⟨ao', cap', rfl, h1', ⟨h2', _⟩, h3⟩ := hu
  clear h3
  unfold maxLen at h2 h2'
  have HBLK : Hid (Blk ((w.alloc (.cells #[.slice ao bs.length cap, .int .i64 c, .int .i64 d] 25)).alloc (.cells #[.slice none 0 0, .int .i64 0, .int .i64 0] 25)) (w.heap.size + 1) 25 [.slice none 0 0, .int .i64 0, .int .i64 0]) := by
    have := heap_alloc_new (w.alloc (.cells #[.slice ao bs.length cap, .int .i64 c, .int .i64 d] 25)) (.cells #[.slice none 0 0, .int .i64 0, .int .i64 0] 25)
    simpa [Blk, Hid] using this
  have hB0 : Blk (w.alloc (.cells #[.slice ao bs.length cap, .int .i64 c, .int .i64 d] 25)) w.heap.size 25 [.slice ao bs.length cap, .int .i64 c, .int .i64 d] := heap_alloc_new w _
  have HB0 := Lib.hid (hB0.below (bl_al (Below.refl _ _) (.cells #[.slice none 0 0, .int .i64 0, .int .i64 0] 25)))
  have HW0 : Hid (Below w.heap.size w ((w.alloc (.cells #[.slice ao bs.length cap, .int .i64 c, .int .i64 d] 25)).alloc (.cells #[.slice none 0 0, .int .i64 0, .int .i64 0] 25))) := bl_al (bl_al (Below.refl _ _) _) _
  clear hB0
  obtain ⟨⟨hd1, hd2⟩, hl8, hl1⟩ := rightP_due HR.out
  obtain ⟨⟨hc1, hc2⟩, hmay⟩ := rightP_may HR.out
  have ham := may0_iff.1 HM.out
  obtain ⟨hll, hlr, ⟨hle1, hle2⟩, hdu⟩ := payR_range HP.out
  have HLR : Hid (∀ j, j < bs.length → 0 ≤ l.getD j 0 ∧ l.getD j 0 ≤ bs.getD j 0 ∧ bs.getD j 0 ≤ 1000000000000000) := fun j hj => ⟨(hlr j hj).1, (hlr j hj).2, (hmay j hj).2⟩
  have HARG := Lib.hid (And.intro hl1 (And.intro hlen (And.intro hll (And.intro (show 0 ≤ c + le by omega) (show c + le ≤ 9000000000000000 by omega)))))
  have wdf : wrap64 df = df := IntWalk.wrap64_in _ ⟨by omega, by omega⟩
  have WW := Lib.hid (And.intro hdf wdf)
  clear hd1 hd2 hl8 hl1 hc1 hc2 hmay ham hll hlr hle1 hle2 hdu hdf wdf hlen
  go_enter Try.func22, Try.ntmps22
  go_wp2_with fail
  refine (refRight11_any _ bs c d true HR _ (HV.out.below HW0.out)).mono ?_
  rintro _ w1 ⟨rfl, hb1⟩
  have hbf := bl_tr HW0.out hb1
  go_wp2_with fail
  refine (refMay11_is HM.out _).mono ?_
  rintro _ w2 ⟨rfl, rfl⟩
  have hB := HB0.out.below hb1
  have c0 := hB.cell 0
  have c1 := hB.cell 1
  have c2 := hB.cell 2
  simp only [List.getElem?_cons_zero, List.getElem?_cons_succ] at c0 c1 c2
  have HB1 := Lib.hid hB
  have HR1 := Lib.hid (HBLK.out.below hb1)
  clear hB hb1
  go_wp2_with fail
  refine (refPay_any _ _ bs rates c d am _ HP _ (HV.out.below hbf) (HU.out.below hbf) HARG.out.2.1).mono ?_
  rintro _ w2 ⟨q, rfl, ⟨hql, hqf⟩, hb2⟩
  simp only at hql ⊢
  have HQL := Lib.hid hql
  obtain ⟨aq, cq, rfl⟩ := hql.shape
  have hz1 := HR1.out.lt
  have hz12 := hb2.size
  have HNE1 : Hid (∀ b o m k, (Value.slice aq l.length cq) = .slice (some ⟨b, o, none⟩) m k → 0 < m → b ≠ w.heap.size) := fun b o m k e hm => by
    have := hqf b o m k e hm
    omega
  clear c0 c1 c2
  have hB := HB1.out.below hb2
  have c0 := hB.cell 0
  have c1 := hB.cell 1
  have c2 := hB.cell 2
  simp only [List.getElem?_cons_zero, List.getElem?_cons_succ] at c0 c1 c2
  have g2 := hB.frozen 2
  have HB2 := Lib.hid hB
  have HR2 := Lib.hid (HR1.out.below hb2)
  have HBF2 := Lib.hid (bl_tr hbf hb2)
  have HV2 := Lib.hid (HV.out.below (bl_tr hbf hb2))
  obtain ⟨hdf, wdf⟩ := WW.out
  clear hB hb2 hbf hql hqf
  go_wp2_with fail
  clear hdf wdf
  obtain ⟨W, hW, gP, gR, gw, gV, gQ⟩ : ∃ W, (w2.setCell ⟨w.heap.size, 2, none⟩ (.int .i64 df)) = W ∧ Hid (Blk W w.heap.size 25 [.slice ao bs.length cap, .int .i64 c, .int .i64 df]) ∧ Hid (Blk W (w.heap.size + 1) 25 [.slice none 0 0, .int .i64 0, .int .i64 0]) ∧ Hid (Below w.heap.size w W) ∧ Hid (Sl .i64 W (.slice ao bs.length cap) bs) ∧ Hid (Sl .i64 W (.slice aq l.length cq) l) := by
    refine ⟨_, rfl, HB2.out.set 2 _, HR2.out.setOther (by omega) _ _, HBF2.out.setCell (Nat.le_refl _) _, ?_, HQL.out.setCell HNE1.out _⟩
    exact HV.out.below (HBF2.out.setCell (Nat.le_refl _) _)
  with_reducible rw [hW]
  clear hW HB2 HR2 HBF2 HV2 c0 c1 c2 g2 HQL
  refine (refLess11_any _ _ bs l c df le _ HS HARG.out.2.2.1 HLR ⟨HARG.out.2.2.2.1, HARG.out.2.2.2.2⟩ HARG.out.1 HARG.out.2.1 _ gV.out gQ.out).mono ?_
  rintro _ w3 ⟨u3, rfl, ⟨hul, huf⟩, hb3⟩
  simp only at hul ⊢
  have HUL := Lib.hid hul
  obtain ⟨au, cu, rfl⟩ := hul.shape
  have hlt1 := gR.out.lt
  have HNE : Hid (∀ b o m q, (Value.slice au l2.length cu) = .slice (some ⟨b, o, none⟩) m q → 0 < m → b ≠ w.heap.size + 1) := fun b o m q e hm => by
    have := huf b o m q e hm
    omega
  have hbf := bl_tr gw.out hb3
  have hR := gR.out.below hb3
  have r0 := hR.cell 0
  have r1 := hR.cell 1
  have r2 := hR.cell 2
  simp only [List.getElem?_cons_zero, List.getElem?_cons_succ] at r0 r1 r2
  have f0 := hR.frozen 0
  have f1 := hR.frozen 1
  have f2 := hR.frozen 2
  have hlt := hR.lt
  clear hR
  clear hb3 hul huf
  go_wp2
  refine bodyPost_ret (v := .tuple #[.agg #[.slice au l2.length cu, .int .i64 x2, .int .i64 y2], .int .i64 e2]) (by simp [results, Try.results22, go_sem, r0, r1, r2]) rfl ⟨.slice au l2.length cu, rfl, ((HUL.out.setCell HNE.out _).setCell HNE.out _).setCell HNE.out _, bl_s3 hbf (by omega) _ _ _⟩

theorem refPay11_any (v u : Value) (bs rates : List Int) (c d am : Int) (s : List Int × Int × Int × Int) (hs : Hid (payS bs c d rates am = s)) (hlen : bs.length ≤ 1000) (w : World) (hv : Sl .i64 w v bs) (hu : Sl .i64 w u rates) :
    Calls Try.prog 22 #[.agg #[v, .int .i64 c, .int .i64 d], u, .int .i64 am] w (RetPos s w) := by
  have hs := hs.out
  subst hs
  cases hr : rightP bs c d with
  | false =>
    have he : askedE bs c d am [] = 1 := by unfold askedE; rw [if_pos hr]
    have e : payS bs c d rates am = ([], 0, 0, 1) := by unfold payS; rw [he]; rfl
    rw [e]
    exact refPay11_no1 v u bs rates c d am hr w hv hu
  | true =>
    cases hm : may0 am with
    | false =>
      have he : askedE bs c d am [] = 8 := by unfold askedE; rw [hr, hm]; rfl
      have e : payS bs c d rates am = ([], 0, 0, 8) := by unfold payS; rw [he]; rfl
      rw [e]
      exact refPay11_no2 v u bs rates c d am hr hm w hv hu
    | true =>
      have he : askedE bs c d am [] = 0 := by unfold askedE; rw [hr, hm]; rfl
      obtain ⟨l, du, le, e, hp⟩ : ∃ l du le e, payR bs c d rates am = (l, du, le, e) := ⟨_, _, _, _, rfl⟩
      rcases payR_parts hp with ⟨rfl, _⟩ | ⟨rfl, rfl, rfl, rfl⟩
      · have e : payS bs c d rates am = lessS bs l c (d - du) le := by
          unfold payS lessS
          rw [he, hp]
          simp only [ne_eq, not_true_eq_false, if_false]
        rw [e]
        exact refPay11_yes v u bs rates c d am hr hm l du le _ hp rfl _ _ _ _ rfl hlen w hv hu
      · have e : payS bs c d rates am = ([], 0, 0, 1) := by unfold payS; rw [he, hp]; rfl
        rw [e]
        exact refPay11_no3 v u bs rates c d am 1 hr hm hp (by decide) hlen w hv hu
end Go.Proofs.Ytbiiejolemcifaa

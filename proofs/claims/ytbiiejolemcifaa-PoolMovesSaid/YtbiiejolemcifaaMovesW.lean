/- PoolMoves: what any charge, payment, gift and interest make of any position; what is handed in stays. -/
import Derived.Test.YtbiiejolemcifaaRef11H
import Derived.Test.YtbiiejolemcifaaLaw11
import Derived.Test.YtbiiejolemcifaaPoolGive
import Derived.Test.YtbiiejolemcifaaKept64
import Derived.Test.YtbiiejolemcifaaOwnNew
import Derived.Deep.RegionHeld3
import Derived.Deep.DrawnRows
namespace Go.Proofs.Ytbiiejolemcifaa
open Go.RowKit
attribute [local go_sem ↓] Go.wp_at_zero Go.wp_at_succ

theorem few11_any (v : Value) (bs : List Int) (c d : Int) (r : Bool) (hr : decide ((bs.length : Int) ≤ 30) = r) (w : World) (hv : Sl .i64 w v bs) :
    Calls Try.prog 12 #[.agg #[v, .int .i64 c, .int .i64 d]] w (RetB (.bool r) w) := by
  obtain ⟨ao, cap, rfl, h1, ⟨h2, _⟩, h3⟩ := hv
  clear h3
  unfold maxLen at h2
  go_enter Try.func12, Try.ntmps12
  go_wp2
  go_ret
  exact ⟨by first | rfl | rw [hr], bl_al (Below.refl _ _) _⟩
set_option maxHeartbeats 800000 in
theorem samePos_true (v u : Value) (bs : List Int) (c d : Int) (w : World) (hv : Sl .i64 w v bs) (hu : Sl .i64 w u bs) :
    Calls Try.prog 25 #[.agg #[v, .int .i64 c, .int .i64 d], .agg #[u, .int .i64 c, .int .i64 d]] w (RetB (.bool true) w) := by
  have HV := Lib.hid hv
  have HU := Lib.hid hu
  obtain ⟨ao, cap, rfl, h1, ⟨h2, hnn⟩, h3⟩ := hv
  clear h3 hnn
  obtain ⟨ao', cap', rfl, h1', ⟨h2', hnn⟩, h3⟩ := hu
  clear h3 hnn
  unfold maxLen at h2 h2'
  have hW0 : Below w.heap.size w ((w.alloc (.cells #[.slice ao bs.length cap, .int .i64 c, .int .i64 d] 25)).alloc (.cells #[.slice ao' bs.length cap', .int .i64 c, .int .i64 d] 25)) := bl_al (bl_al (Below.refl _ _) _) _
  have HE : Hid ((bs == bs) = true) := by show _ = _; simp
  have HA : Hid (Blk ((w.alloc (.cells #[.slice ao bs.length cap, .int .i64 c, .int .i64 d] 25)).alloc (.cells #[.slice ao' bs.length cap', .int .i64 c, .int .i64 d] 25)) w.heap.size 25 [.slice ao bs.length cap, .int .i64 c, .int .i64 d]) := Blk.below (heap_alloc_new w _) (bl_al (Below.refl _ _) _)
  have HB : Hid (Blk ((w.alloc (.cells #[.slice ao bs.length cap, .int .i64 c, .int .i64 d] 25)).alloc (.cells #[.slice ao' bs.length cap', .int .i64 c, .int .i64 d] 25)) (w.heap.size + 1) 25 [.slice ao' bs.length cap', .int .i64 c, .int .i64 d]) := by
    have := heap_alloc_new (w.alloc (.cells #[.slice ao bs.length cap, .int .i64 c, .int .i64 d] 25)) (.cells #[.slice ao' bs.length cap', .int .i64 c, .int .i64 d] 25)
    simpa [Blk, Hid] using this
  have HW0 := Lib.hid hW0
  clear hW0
  go_enter Try.func25, Try.ntmps25
  go_wp2_with fail
  refine (plain64_any _ _ bs bs true HE _ (HV.out.below HW0.out) (HU.out.below HW0.out)).mono ?_
  rintro _ w1 ⟨rfl, hb1⟩
  have hA := HA.out.below hb1
  have hB := HB.out.below hb1
  have a0 := hA.cell 0
  have a1 := hA.cell 1
  have a2 := hA.cell 2
  have b0 := hB.cell 0
  have b1 := hB.cell 1
  have b2 := hB.cell 2
  simp only [List.getElem?_cons_zero, List.getElem?_cons_succ] at a0 a1 a2 b0 b1 b2
  have HBF := Lib.hid (bl_tr HW0.out hb1)
  clear hA hB hb1
  go_wp2_with fail
  go_ret
  exact ⟨rfl, HBF.out⟩

set_option maxHeartbeats 6400000 in
set_option maxRecDepth 100000 in
theorem poolMoves_go (v u x : Value) (bs rates ns : List Int) (c d k am : Int) (hlb : bs.length ≤ 30) (hlr : rates.length ≤ 30) (hln : ns.length ≤ 30) (w : World) (hv : Sl .i64 w v bs) (hu : Sl .i64 w u rates) (hx : Sl .i64 w x ns) :
    Calls Try.prog 8 #[.agg #[v, .int .i64 c, .int .i64 d], u, x, .int .i64 k, .int .i64 am] w (RetB (.bool true) w) := by
  have HV := Lib.hid hv
  have HU := Lib.hid hu
  have HX := Lib.hid hx
  obtain ⟨ao, cap, rfl, h1, ⟨h2, hnn⟩, h3⟩ := hv
  clear h3 hnn
  obtain ⟨ao', cap', rfl, h1', ⟨h2', hnn⟩, h3⟩ := hu
  clear h3 hnn
  obtain ⟨ao'', cap'', rfl, h1'', ⟨h2'', hnn⟩, h3⟩ := hx
  clear h3 hnn
  unfold maxLen at h2 h2' h2''
  have t1 : decide ((30 : Int) < (rates.length : Int)) = false := by simp; omega
  have t2 : decide ((30 : Int) < (ns.length : Int)) = false := by simp; omega
  have HK := Lib.hid (And.intro (show bs.length ≤ 1000 by omega) (And.intro (show rates.length ≤ 1000 by omega) (show ns.length ≤ 1000 by omega)))
  have P5_0 : Hid (Blk (w.alloc (.cells #[.slice ao bs.length cap, .int .i64 c, .int .i64 d] 25)) w.heap.size 25 [.slice ao bs.length cap, .int .i64 c, .int .i64 d]) := heap_alloc_new w _
  have BEL_0 : Hid (Below w.heap.size w (w.alloc (.cells #[.slice ao bs.length cap, .int .i64 c, .int .i64 d] 25))) := bl_al (Below.refl _ _) _
  go_enter Try.func8, Try.ntmps8
  go_wp2_with fail
  refine (few11_any _ bs c d true (by simp; omega) _ (HV.out.below BEL_0.out)).mono ?_
  rintro _ w1 ⟨rfl, hb1⟩
  have P5_1 := Lib.hid (P5_0.out.below hb1)
  have BEL_1 := Lib.hid (bl_tr BEL_0.out hb1)
  clear P5_0 BEL_0 hb1
  have hB := P5_1.out
  have c0 := hB.cell 0
  have c1 := hB.cell 1
  have c2 := hB.cell 2
  simp only [List.getElem?_cons_zero, List.getElem?_cons_succ] at c0 c1 c2
  clear hB
  have hz0 := P5_1.out.lt
  clear t1 t2
  have t1 : decide ((30 : Int) < (rates.length : Int)) = false := by simp; omega
  have t2 : decide ((30 : Int) < (ns.length : Int)) = false := by simp; omega
  go_upto_region 4 with fail
  clear t1 t2 c0 c1 c2
  obtain ⟨wa, hW, P5_2, BEL_2, P11_2⟩ : ∃ wa, w1.alloc (.cells #[.slice ao bs.length cap, .int .i64 c, .int .i64 d] 25) = wa ∧ Hid (Blk wa w.heap.size 25 [.slice ao bs.length cap, .int .i64 c, .int .i64 d]) ∧ Hid (Below w.heap.size w wa) ∧ Hid (Blk wa w1.heap.size 25 [.slice ao bs.length cap, .int .i64 c, .int .i64 d]) :=
    ⟨_, rfl, P5_1.out.below (bl_al (Below.refl _ _) _), bl_tr BEL_1.out (bl_al (Below.refl _ _) _), heap_alloc_new w1 _⟩
  with_reducible rw [hW]
  clear hW P5_1 BEL_1
  obtain ⟨G11, hG11⟩ : ∃ G, w1.heap.size = G := ⟨_, rfl⟩
  rw [hG11] at P11_2 hz0 ⊢
  have hB := P5_2.out
  have c0 := hB.cell 0
  have c1 := hB.cell 1
  have c2 := hB.cell 2
  simp only [List.getElem?_cons_zero, List.getElem?_cons_succ] at c0 c1 c2
  clear hB
  have hza := P11_2.out.lt
  go_wp2_with fail
  refine (own64_new _ bs 71 _ (HV.out.below BEL_2.out) HK.out.1).mono ?_
  rintro _ wb ⟨rfl, hnb, hbb⟩
  have BB_0 := Lib.hid hnb
  obtain ⟨GB, hGB⟩ : ∃ G, wa.heap.size = G := ⟨_, rfl⟩
  rw [hGB] at BB_0 hza ⊢
  clear hnb c0 c1 c2
  have P5_3 := Lib.hid (P5_2.out.below hbb)
  have BEL_3 := Lib.hid (bl_tr BEL_2.out hbb)
  have P11_3 := Lib.hid (P11_2.out.below hbb)
  clear P5_2 BEL_2 P11_2 hbb
  have hB := P11_3.out
  have c0 := hB.cell 0
  have c1 := hB.cell 1
  have c2 := hB.cell 2
  simp only [List.getElem?_cons_zero, List.getElem?_cons_succ] at c0 c1 c2
  have f0 := hB.frozen 0
  clear hB
  clear hGB
  go_upto_region 5 with fail
  clear c0 c1 c2 f0
  obtain ⟨wc, hW, P5_4, BEL_4, P11_4, BB_4⟩ : ∃ wc, wb.setCell ⟨G11, 0, none⟩ (.slice (some ⟨GB, 0, none⟩) bs.length (bs.length + 3)) = wc ∧ Hid (Blk wc w.heap.size 25 [.slice ao bs.length cap, .int .i64 c, .int .i64 d]) ∧ Hid (Below w.heap.size w wc) ∧ Hid (Blk wc G11 25 [.slice (some ⟨GB, 0, none⟩) bs.length (bs.length + 3), .int .i64 c, .int .i64 d]) ∧ Hid (Blk wc GB 2 ((bs ++ ([71, 71, 71] : List Int)).map (Value.int .i64))) :=
    ⟨_, rfl, P5_3.out.setOther (by omega) _ _, BEL_3.out.setCell (show w.heap.size ≤ G11 by omega) _, P11_3.out.set 0 _, BB_0.out.setOther (by omega) _ _⟩
  with_reducible rw [hW]
  clear hW P5_3 BEL_3 P11_3 BB_0
  go_wp2_with fail
  refine (own64_new _ rates 71 _ (HU.out.below BEL_4.out) HK.out.2.1).mono ?_
  rintro _ wd ⟨rfl, hnb, hbb⟩
  have RB_0 := Lib.hid hnb
  obtain ⟨GR, hG⟩ : ∃ G, wc.heap.size = G := ⟨_, rfl⟩
  rw [hG] at RB_0 ⊢
  clear hnb hG
  have P5_5 := Lib.hid (P5_4.out.below hbb)
  have BEL_5 := Lib.hid (bl_tr BEL_4.out hbb)
  have P11_5 := Lib.hid (P11_4.out.below hbb)
  have BB_5 := Lib.hid (BB_4.out.below hbb)
  clear P5_4 BEL_4 P11_4 BB_4 hbb
  go_wp2_with fail
  refine (own64_new _ ns 71 _ (HX.out.below BEL_5.out) HK.out.2.2).mono ?_
  rintro _ we ⟨rfl, hnb, hbb⟩
  have NB_0 := Lib.hid hnb
  obtain ⟨GN, hG⟩ : ∃ G, wd.heap.size = G := ⟨_, rfl⟩
  rw [hG] at NB_0 ⊢
  clear hnb hG
  have P5_6 := Lib.hid (P5_5.out.below hbb)
  have BEL_6 := Lib.hid (bl_tr BEL_5.out hbb)
  have P11_6 := Lib.hid (P11_5.out.below hbb)
  have BB_6 := Lib.hid (BB_5.out.below hbb)
  have RB_6 := Lib.hid (RB_0.out.below hbb)
  clear P5_5 BEL_5 P11_5 BB_5 RB_0 hbb
  obtain ⟨L1, C1, D1, E1, hs⟩ : ∃ L C D E, chargeS bs c d k am = (L, C, D, E) := ⟨_, _, _, _, rfl⟩
  have HS1 := Lib.hid hs
  clear hs
  obtain ⟨L2, C2, D2, E2, hs⟩ : ∃ L C D E, payS bs c d rates am = (L, C, D, E) := ⟨_, _, _, _, rfl⟩
  have HS2 := Lib.hid hs
  clear hs
  obtain ⟨L3, C3, D3, E3, hs⟩ : ∃ L C D E, giveS bs c d rates k am = (L, C, D, E) := ⟨_, _, _, _, rfl⟩
  have HS3 := Lib.hid hs
  clear hs
  obtain ⟨L4, C4, D4, E4, hs⟩ : ∃ L C D E, bearS bs c d ns = (L, C, D, E) := ⟨_, _, _, _, rfl⟩
  have HS4 := Lib.hid hs
  clear hs
  have hB := P11_6.out
  have c0 := hB.cell 0
  have c1 := hB.cell 1
  have c2 := hB.cell 2
  simp only [List.getElem?_cons_zero, List.getElem?_cons_succ] at c0 c1 c2
  clear hB
  go_wp2_with fail
  refine (poolCharge_any _ bs c d k am _ HS1 HK.out.1 _ (blk_sp BB_6.out HK.out.1).sl).mono ?_
  rintro _ wf0 ⟨u0, rfl, hul, hb⟩
  simp only at hul ⊢
  obtain ⟨a0, q0, rfl⟩ := hul.shape
  have S0_0 := Lib.hid hul
  clear hul c0 c1 c2
  have P5_7 := Lib.hid (P5_6.out.below hb)
  have BEL_7 := Lib.hid (bl_tr BEL_6.out hb)
  have P11_7 := Lib.hid (P11_6.out.below hb)
  have BB_7 := Lib.hid (BB_6.out.below hb)
  have RB_7 := Lib.hid (RB_6.out.below hb)
  have NB_7 := Lib.hid (NB_0.out.below hb)
  clear P5_6 BEL_6 P11_6 BB_6 RB_6 NB_0 hb
  go_upto_region 7 with fail
  obtain ⟨wg0, hW, P5_8, BEL_8, P11_8, BB_8, RB_8, NB_8, S0_8, Q0_8⟩ : ∃ wg0, wf0.alloc (.cells #[.slice a0 L1.length q0, .int .i64 C1, .int .i64 D1] 25) = wg0 ∧ Hid (Blk wg0 w.heap.size 25 [.slice ao bs.length cap, .int .i64 c, .int .i64 d]) ∧ Hid (Below w.heap.size w wg0) ∧ Hid (Blk wg0 G11 25 [.slice (some ⟨GB, 0, none⟩) bs.length (bs.length + 3), .int .i64 c, .int .i64 d]) ∧ Hid (Blk wg0 GB 2 ((bs ++ ([71, 71, 71] : List Int)).map (Value.int .i64))) ∧ Hid (Blk wg0 GR 2 ((rates ++ ([71, 71, 71] : List Int)).map (Value.int .i64))) ∧ Hid (Blk wg0 GN 2 ((ns ++ ([71, 71, 71] : List Int)).map (Value.int .i64))) ∧ Hid (Sl .i64 wg0 (.slice a0 L1.length q0) L1) ∧ Hid (Blk wg0 wf0.heap.size 25 [.slice a0 L1.length q0, .int .i64 C1, .int .i64 D1]) :=
    ⟨_, rfl, P5_7.out.below (bl_al (Below.refl _ _) _), bl_tr BEL_7.out (bl_al (Below.refl _ _) _), P11_7.out.below (bl_al (Below.refl _ _) _), BB_7.out.below (bl_al (Below.refl _ _) _), RB_7.out.below (bl_al (Below.refl _ _) _), NB_7.out.below (bl_al (Below.refl _ _) _), S0_0.out.below (bl_al (Below.refl _ _) _), heap_alloc_new wf0 _⟩
  with_reducible rw [hW]
  clear hW P5_7 BEL_7 P11_7 BB_7 RB_7 NB_7 S0_0
  obtain ⟨GQ0, hG⟩ : ∃ G, wf0.heap.size = G := ⟨_, rfl⟩
  rw [hG] at Q0_8 ⊢
  clear hG
  have hB := P5_8.out
  have c0 := hB.cell 0
  have c1 := hB.cell 1
  have c2 := hB.cell 2
  simp only [List.getElem?_cons_zero, List.getElem?_cons_succ] at c0 c1 c2
  clear hB
  go_wp2_with fail
  refine (refCharge11_any _ bs c d k am _ HS1 HK.out.1 _ (HV.out.below BEL_8.out)).mono ?_
  rintro _ wf1 ⟨u1, rfl, hul, hb⟩
  simp only at hul ⊢
  obtain ⟨a1, q1, rfl⟩ := hul.shape
  have S1_0 := Lib.hid hul
  clear hul c0 c1 c2
  have P5_9 := Lib.hid (P5_8.out.below hb)
  have BEL_9 := Lib.hid (bl_tr BEL_8.out hb)
  have P11_9 := Lib.hid (P11_8.out.below hb)
  have BB_9 := Lib.hid (BB_8.out.below hb)
  have RB_9 := Lib.hid (RB_8.out.below hb)
  have NB_9 := Lib.hid (NB_8.out.below hb)
  have S0_9 := Lib.hid (S0_8.out.below hb)
  have Q0_9 := Lib.hid (Q0_8.out.below hb)
  clear P5_8 BEL_8 P11_8 BB_8 RB_8 NB_8 S0_8 Q0_8 hb
  go_upto_region 8 with fail
  obtain ⟨wg1, hW, P5_10, BEL_10, P11_10, BB_10, RB_10, NB_10, S0_10, Q0_10, S1_10, Q1_10⟩ : ∃ wg1, wf1.alloc (.cells #[.slice a1 L1.length q1, .int .i64 C1, .int .i64 D1] 25) = wg1 ∧ Hid (Blk wg1 w.heap.size 25 [.slice ao bs.length cap, .int .i64 c, .int .i64 d]) ∧ Hid (Below w.heap.size w wg1) ∧ Hid (Blk wg1 G11 25 [.slice (some ⟨GB, 0, none⟩) bs.length (bs.length + 3), .int .i64 c, .int .i64 d]) ∧ Hid (Blk wg1 GB 2 ((bs ++ ([71, 71, 71] : List Int)).map (Value.int .i64))) ∧ Hid (Blk wg1 GR 2 ((rates ++ ([71, 71, 71] : List Int)).map (Value.int .i64))) ∧ Hid (Blk wg1 GN 2 ((ns ++ ([71, 71, 71] : List Int)).map (Value.int .i64))) ∧ Hid (Sl .i64 wg1 (.slice a0 L1.length q0) L1) ∧ Hid (Blk wg1 GQ0 25 [.slice a0 L1.length q0, .int .i64 C1, .int .i64 D1]) ∧ Hid (Sl .i64 wg1 (.slice a1 L1.length q1) L1) ∧ Hid (Blk wg1 wf1.heap.size 25 [.slice a1 L1.length q1, .int .i64 C1, .int .i64 D1]) :=
    ⟨_, rfl, P5_9.out.below (bl_al (Below.refl _ _) _), bl_tr BEL_9.out (bl_al (Below.refl _ _) _), P11_9.out.below (bl_al (Below.refl _ _) _), BB_9.out.below (bl_al (Below.refl _ _) _), RB_9.out.below (bl_al (Below.refl _ _) _), NB_9.out.below (bl_al (Below.refl _ _) _), S0_9.out.below (bl_al (Below.refl _ _) _), Q0_9.out.below (bl_al (Below.refl _ _) _), S1_0.out.below (bl_al (Below.refl _ _) _), heap_alloc_new wf1 _⟩
  with_reducible rw [hW]
  clear hW P5_9 BEL_9 P11_9 BB_9 RB_9 NB_9 S0_9 Q0_9 S1_0
  obtain ⟨GQ1, hG⟩ : ∃ G, wf1.heap.size = G := ⟨_, rfl⟩
  rw [hG] at Q1_10 ⊢
  clear hG
  have hB := P11_10.out
  have c0 := hB.cell 0
  have c1 := hB.cell 1
  have c2 := hB.cell 2
  simp only [List.getElem?_cons_zero, List.getElem?_cons_succ] at c0 c1 c2
  clear hB
  go_wp2_with fail
  refine (poolPay_any _ _ bs rates c d am _ HS2 HK.out.1 _ (blk_sp BB_10.out HK.out.1).sl (blk_sp RB_10.out HK.out.2.1).sl).mono ?_
  rintro _ wf2 ⟨u2, rfl, hul, hb⟩
  simp only at hul ⊢
  obtain ⟨a2, q2, rfl⟩ := hul.shape
  have S2_0 := Lib.hid hul
  clear hul c0 c1 c2
  have P5_11 := Lib.hid (P5_10.out.below hb)
  have BEL_11 := Lib.hid (bl_tr BEL_10.out hb)
  have P11_11 := Lib.hid (P11_10.out.below hb)
  have BB_11 := Lib.hid (BB_10.out.below hb)
  have RB_11 := Lib.hid (RB_10.out.below hb)
  have NB_11 := Lib.hid (NB_10.out.below hb)
  have S0_11 := Lib.hid (S0_10.out.below hb)
  have Q0_11 := Lib.hid (Q0_10.out.below hb)
  have S1_11 := Lib.hid (S1_10.out.below hb)
  have Q1_11 := Lib.hid (Q1_10.out.below hb)
  clear P5_10 BEL_10 P11_10 BB_10 RB_10 NB_10 S0_10 Q0_10 S1_10 Q1_10 hb
  go_upto_region 9 with fail
  obtain ⟨wg2, hW, P5_12, BEL_12, P11_12, BB_12, RB_12, NB_12, S0_12, Q0_12, S1_12, Q1_12, S2_12, Q2_12⟩ : ∃ wg2, wf2.alloc (.cells #[.slice a2 L2.length q2, .int .i64 C2, .int .i64 D2] 25) = wg2 ∧ Hid (Blk wg2 w.heap.size 25 [.slice ao bs.length cap, .int .i64 c, .int .i64 d]) ∧ Hid (Below w.heap.size w wg2) ∧ Hid (Blk wg2 G11 25 [.slice (some ⟨GB, 0, none⟩) bs.length (bs.length + 3), .int .i64 c, .int .i64 d]) ∧ Hid (Blk wg2 GB 2 ((bs ++ ([71, 71, 71] : List Int)).map (Value.int .i64))) ∧ Hid (Blk wg2 GR 2 ((rates ++ ([71, 71, 71] : List Int)).map (Value.int .i64))) ∧ Hid (Blk wg2 GN 2 ((ns ++ ([71, 71, 71] : List Int)).map (Value.int .i64))) ∧ Hid (Sl .i64 wg2 (.slice a0 L1.length q0) L1) ∧ Hid (Blk wg2 GQ0 25 [.slice a0 L1.length q0, .int .i64 C1, .int .i64 D1]) ∧ Hid (Sl .i64 wg2 (.slice a1 L1.length q1) L1) ∧ Hid (Blk wg2 GQ1 25 [.slice a1 L1.length q1, .int .i64 C1, .int .i64 D1]) ∧ Hid (Sl .i64 wg2 (.slice a2 L2.length q2) L2) ∧ Hid (Blk wg2 wf2.heap.size 25 [.slice a2 L2.length q2, .int .i64 C2, .int .i64 D2]) :=
    ⟨_, rfl, P5_11.out.below (bl_al (Below.refl _ _) _), bl_tr BEL_11.out (bl_al (Below.refl _ _) _), P11_11.out.below (bl_al (Below.refl _ _) _), BB_11.out.below (bl_al (Below.refl _ _) _), RB_11.out.below (bl_al (Below.refl _ _) _), NB_11.out.below (bl_al (Below.refl _ _) _), S0_11.out.below (bl_al (Below.refl _ _) _), Q0_11.out.below (bl_al (Below.refl _ _) _), S1_11.out.below (bl_al (Below.refl _ _) _), Q1_11.out.below (bl_al (Below.refl _ _) _), S2_0.out.below (bl_al (Below.refl _ _) _), heap_alloc_new wf2 _⟩
  with_reducible rw [hW]
  clear hW P5_11 BEL_11 P11_11 BB_11 RB_11 NB_11 S0_11 Q0_11 S1_11 Q1_11 S2_0
  obtain ⟨GQ2, hG⟩ : ∃ G, wf2.heap.size = G := ⟨_, rfl⟩
  rw [hG] at Q2_12 ⊢
  clear hG
  have hB := P5_12.out
  have c0 := hB.cell 0
  have c1 := hB.cell 1
  have c2 := hB.cell 2
  simp only [List.getElem?_cons_zero, List.getElem?_cons_succ] at c0 c1 c2
  clear hB
  go_wp2_with fail
  refine (refPay11_any _ _ bs rates c d am _ HS2 HK.out.1 _ (HV.out.below BEL_12.out) (HU.out.below BEL_12.out)).mono ?_
  rintro _ wf3 ⟨u3, rfl, hul, hb⟩
  simp only at hul ⊢
  obtain ⟨a3, q3, rfl⟩ := hul.shape
  have S3_0 := Lib.hid hul
  clear hul c0 c1 c2
  have P5_13 := Lib.hid (P5_12.out.below hb)
  have BEL_13 := Lib.hid (bl_tr BEL_12.out hb)
  have P11_13 := Lib.hid (P11_12.out.below hb)
  have BB_13 := Lib.hid (BB_12.out.below hb)
  have RB_13 := Lib.hid (RB_12.out.below hb)
  have NB_13 := Lib.hid (NB_12.out.below hb)
  have S0_13 := Lib.hid (S0_12.out.below hb)
  have Q0_13 := Lib.hid (Q0_12.out.below hb)
  have S1_13 := Lib.hid (S1_12.out.below hb)
  have Q1_13 := Lib.hid (Q1_12.out.below hb)
  have S2_13 := Lib.hid (S2_12.out.below hb)
  have Q2_13 := Lib.hid (Q2_12.out.below hb)
  clear P5_12 BEL_12 P11_12 BB_12 RB_12 NB_12 S0_12 Q0_12 S1_12 Q1_12 S2_12 Q2_12 hb
  go_upto_region 10 with fail
  obtain ⟨wg3, hW, P5_14, BEL_14, P11_14, BB_14, RB_14, NB_14, S0_14, Q0_14, S1_14, Q1_14, S2_14, Q2_14, S3_14, Q3_14⟩ : ∃ wg3, wf3.alloc (.cells #[.slice a3 L2.length q3, .int .i64 C2, .int .i64 D2] 25) = wg3 ∧ Hid (Blk wg3 w.heap.size 25 [.slice ao bs.length cap, .int .i64 c, .int .i64 d]) ∧ Hid (Below w.heap.size w wg3) ∧ Hid (Blk wg3 G11 25 [.slice (some ⟨GB, 0, none⟩) bs.length (bs.length + 3), .int .i64 c, .int .i64 d]) ∧ Hid (Blk wg3 GB 2 ((bs ++ ([71, 71, 71] : List Int)).map (Value.int .i64))) ∧ Hid (Blk wg3 GR 2 ((rates ++ ([71, 71, 71] : List Int)).map (Value.int .i64))) ∧ Hid (Blk wg3 GN 2 ((ns ++ ([71, 71, 71] : List Int)).map (Value.int .i64))) ∧ Hid (Sl .i64 wg3 (.slice a0 L1.length q0) L1) ∧ Hid (Blk wg3 GQ0 25 [.slice a0 L1.length q0, .int .i64 C1, .int .i64 D1]) ∧ Hid (Sl .i64 wg3 (.slice a1 L1.length q1) L1) ∧ Hid (Blk wg3 GQ1 25 [.slice a1 L1.length q1, .int .i64 C1, .int .i64 D1]) ∧ Hid (Sl .i64 wg3 (.slice a2 L2.length q2) L2) ∧ Hid (Blk wg3 GQ2 25 [.slice a2 L2.length q2, .int .i64 C2, .int .i64 D2]) ∧ Hid (Sl .i64 wg3 (.slice a3 L2.length q3) L2) ∧ Hid (Blk wg3 wf3.heap.size 25 [.slice a3 L2.length q3, .int .i64 C2, .int .i64 D2]) :=
    ⟨_, rfl, P5_13.out.below (bl_al (Below.refl _ _) _), bl_tr BEL_13.out (bl_al (Below.refl _ _) _), P11_13.out.below (bl_al (Below.refl _ _) _), BB_13.out.below (bl_al (Below.refl _ _) _), RB_13.out.below (bl_al (Below.refl _ _) _), NB_13.out.below (bl_al (Below.refl _ _) _), S0_13.out.below (bl_al (Below.refl _ _) _), Q0_13.out.below (bl_al (Below.refl _ _) _), S1_13.out.below (bl_al (Below.refl _ _) _), Q1_13.out.below (bl_al (Below.refl _ _) _), S2_13.out.below (bl_al (Below.refl _ _) _), Q2_13.out.below (bl_al (Below.refl _ _) _), S3_0.out.below (bl_al (Below.refl _ _) _), heap_alloc_new wf3 _⟩
  with_reducible rw [hW]
  clear hW P5_13 BEL_13 P11_13 BB_13 RB_13 NB_13 S0_13 Q0_13 S1_13 Q1_13 S2_13 Q2_13 S3_0
  obtain ⟨GQ3, hG⟩ : ∃ G, wf3.heap.size = G := ⟨_, rfl⟩
  rw [hG] at Q3_14 ⊢
  clear hG
  have hB := P11_14.out
  have c0 := hB.cell 0
  have c1 := hB.cell 1
  have c2 := hB.cell 2
  simp only [List.getElem?_cons_zero, List.getElem?_cons_succ] at c0 c1 c2
  clear hB
  go_wp2_with fail
  refine (poolGive_any _ _ bs rates c d k am _ HS3 HK.out.1 _ (blk_sp BB_14.out HK.out.1).sl (blk_sp RB_14.out HK.out.2.1).sl).mono ?_
  rintro _ wf4 ⟨u4, rfl, hul, hb⟩
  simp only at hul ⊢
  obtain ⟨a4, q4, rfl⟩ := hul.shape
  have S4_0 := Lib.hid hul
  clear hul c0 c1 c2
  have P5_15 := Lib.hid (P5_14.out.below hb)
  have BEL_15 := Lib.hid (bl_tr BEL_14.out hb)
  have P11_15 := Lib.hid (P11_14.out.below hb)
  have BB_15 := Lib.hid (BB_14.out.below hb)
  have RB_15 := Lib.hid (RB_14.out.below hb)
  have NB_15 := Lib.hid (NB_14.out.below hb)
  have S0_15 := Lib.hid (S0_14.out.below hb)
  have Q0_15 := Lib.hid (Q0_14.out.below hb)
  have S1_15 := Lib.hid (S1_14.out.below hb)
  have Q1_15 := Lib.hid (Q1_14.out.below hb)
  have S2_15 := Lib.hid (S2_14.out.below hb)
  have Q2_15 := Lib.hid (Q2_14.out.below hb)
  have S3_15 := Lib.hid (S3_14.out.below hb)
  have Q3_15 := Lib.hid (Q3_14.out.below hb)
  clear P5_14 BEL_14 P11_14 BB_14 RB_14 NB_14 S0_14 Q0_14 S1_14 Q1_14 S2_14 Q2_14 S3_14 Q3_14 hb
  go_upto_region 11 with fail
  obtain ⟨wg4, hW, P5_16, BEL_16, P11_16, BB_16, RB_16, NB_16, S0_16, Q0_16, S1_16, Q1_16, S2_16, Q2_16, S3_16, Q3_16, S4_16, Q4_16⟩ : ∃ wg4, wf4.alloc (.cells #[.slice a4 L3.length q4, .int .i64 C3, .int .i64 D3] 25) = wg4 ∧ Hid (Blk wg4 w.heap.size 25 [.slice ao bs.length cap, .int .i64 c, .int .i64 d]) ∧ Hid (Below w.heap.size w wg4) ∧ Hid (Blk wg4 G11 25 [.slice (some ⟨GB, 0, none⟩) bs.length (bs.length + 3), .int .i64 c, .int .i64 d]) ∧ Hid (Blk wg4 GB 2 ((bs ++ ([71, 71, 71] : List Int)).map (Value.int .i64))) ∧ Hid (Blk wg4 GR 2 ((rates ++ ([71, 71, 71] : List Int)).map (Value.int .i64))) ∧ Hid (Blk wg4 GN 2 ((ns ++ ([71, 71, 71] : List Int)).map (Value.int .i64))) ∧ Hid (Sl .i64 wg4 (.slice a0 L1.length q0) L1) ∧ Hid (Blk wg4 GQ0 25 [.slice a0 L1.length q0, .int .i64 C1, .int .i64 D1]) ∧ Hid (Sl .i64 wg4 (.slice a1 L1.length q1) L1) ∧ Hid (Blk wg4 GQ1 25 [.slice a1 L1.length q1, .int .i64 C1, .int .i64 D1]) ∧ Hid (Sl .i64 wg4 (.slice a2 L2.length q2) L2) ∧ Hid (Blk wg4 GQ2 25 [.slice a2 L2.length q2, .int .i64 C2, .int .i64 D2]) ∧ Hid (Sl .i64 wg4 (.slice a3 L2.length q3) L2) ∧ Hid (Blk wg4 GQ3 25 [.slice a3 L2.length q3, .int .i64 C2, .int .i64 D2]) ∧ Hid (Sl .i64 wg4 (.slice a4 L3.length q4) L3) ∧ Hid (Blk wg4 wf4.heap.size 25 [.slice a4 L3.length q4, .int .i64 C3, .int .i64 D3]) :=
    ⟨_, rfl, P5_15.out.below (bl_al (Below.refl _ _) _), bl_tr BEL_15.out (bl_al (Below.refl _ _) _), P11_15.out.below (bl_al (Below.refl _ _) _), BB_15.out.below (bl_al (Below.refl _ _) _), RB_15.out.below (bl_al (Below.refl _ _) _), NB_15.out.below (bl_al (Below.refl _ _) _), S0_15.out.below (bl_al (Below.refl _ _) _), Q0_15.out.below (bl_al (Below.refl _ _) _), S1_15.out.below (bl_al (Below.refl _ _) _), Q1_15.out.below (bl_al (Below.refl _ _) _), S2_15.out.below (bl_al (Below.refl _ _) _), Q2_15.out.below (bl_al (Below.refl _ _) _), S3_15.out.below (bl_al (Below.refl _ _) _), Q3_15.out.below (bl_al (Below.refl _ _) _), S4_0.out.below (bl_al (Below.refl _ _) _), heap_alloc_new wf4 _⟩
  with_reducible rw [hW]
  clear hW P5_15 BEL_15 P11_15 BB_15 RB_15 NB_15 S0_15 Q0_15 S1_15 Q1_15 S2_15 Q2_15 S3_15 Q3_15 S4_0
  obtain ⟨GQ4, hG⟩ : ∃ G, wf4.heap.size = G := ⟨_, rfl⟩
  rw [hG] at Q4_16 ⊢
  clear hG
  have hB := P5_16.out
  have c0 := hB.cell 0
  have c1 := hB.cell 1
  have c2 := hB.cell 2
  simp only [List.getElem?_cons_zero, List.getElem?_cons_succ] at c0 c1 c2
  clear hB
  go_wp2_with fail
  refine (refGive11_any _ _ bs rates c d k am _ HS3 HK.out.1 _ (HV.out.below BEL_16.out) (HU.out.below BEL_16.out)).mono ?_
  rintro _ wf5 ⟨u5, rfl, hul, hb⟩
  simp only at hul ⊢
  obtain ⟨a5, q5, rfl⟩ := hul.shape
  have S5_0 := Lib.hid hul
  clear hul c0 c1 c2
  have P5_17 := Lib.hid (P5_16.out.below hb)
  have BEL_17 := Lib.hid (bl_tr BEL_16.out hb)
  have P11_17 := Lib.hid (P11_16.out.below hb)
  have BB_17 := Lib.hid (BB_16.out.below hb)
  have RB_17 := Lib.hid (RB_16.out.below hb)
  have NB_17 := Lib.hid (NB_16.out.below hb)
  have S0_17 := Lib.hid (S0_16.out.below hb)
  have Q0_17 := Lib.hid (Q0_16.out.below hb)
  have S1_17 := Lib.hid (S1_16.out.below hb)
  have Q1_17 := Lib.hid (Q1_16.out.below hb)
  have S2_17 := Lib.hid (S2_16.out.below hb)
  have Q2_17 := Lib.hid (Q2_16.out.below hb)
  have S3_17 := Lib.hid (S3_16.out.below hb)
  have Q3_17 := Lib.hid (Q3_16.out.below hb)
  have S4_17 := Lib.hid (S4_16.out.below hb)
  have Q4_17 := Lib.hid (Q4_16.out.below hb)
  clear P5_16 BEL_16 P11_16 BB_16 RB_16 NB_16 S0_16 Q0_16 S1_16 Q1_16 S2_16 Q2_16 S3_16 Q3_16 S4_16 Q4_16 hb
  go_upto_region 12 with fail
  obtain ⟨wg5, hW, P5_18, BEL_18, P11_18, BB_18, RB_18, NB_18, S0_18, Q0_18, S1_18, Q1_18, S2_18, Q2_18, S3_18, Q3_18, S4_18, Q4_18, S5_18, Q5_18⟩ : ∃ wg5, wf5.alloc (.cells #[.slice a5 L3.length q5, .int .i64 C3, .int .i64 D3] 25) = wg5 ∧ Hid (Blk wg5 w.heap.size 25 [.slice ao bs.length cap, .int .i64 c, .int .i64 d]) ∧ Hid (Below w.heap.size w wg5) ∧ Hid (Blk wg5 G11 25 [.slice (some ⟨GB, 0, none⟩) bs.length (bs.length + 3), .int .i64 c, .int .i64 d]) ∧ Hid (Blk wg5 GB 2 ((bs ++ ([71, 71, 71] : List Int)).map (Value.int .i64))) ∧ Hid (Blk wg5 GR 2 ((rates ++ ([71, 71, 71] : List Int)).map (Value.int .i64))) ∧ Hid (Blk wg5 GN 2 ((ns ++ ([71, 71, 71] : List Int)).map (Value.int .i64))) ∧ Hid (Sl .i64 wg5 (.slice a0 L1.length q0) L1) ∧ Hid (Blk wg5 GQ0 25 [.slice a0 L1.length q0, .int .i64 C1, .int .i64 D1]) ∧ Hid (Sl .i64 wg5 (.slice a1 L1.length q1) L1) ∧ Hid (Blk wg5 GQ1 25 [.slice a1 L1.length q1, .int .i64 C1, .int .i64 D1]) ∧ Hid (Sl .i64 wg5 (.slice a2 L2.length q2) L2) ∧ Hid (Blk wg5 GQ2 25 [.slice a2 L2.length q2, .int .i64 C2, .int .i64 D2]) ∧ Hid (Sl .i64 wg5 (.slice a3 L2.length q3) L2) ∧ Hid (Blk wg5 GQ3 25 [.slice a3 L2.length q3, .int .i64 C2, .int .i64 D2]) ∧ Hid (Sl .i64 wg5 (.slice a4 L3.length q4) L3) ∧ Hid (Blk wg5 GQ4 25 [.slice a4 L3.length q4, .int .i64 C3, .int .i64 D3]) ∧ Hid (Sl .i64 wg5 (.slice a5 L3.length q5) L3) ∧ Hid (Blk wg5 wf5.heap.size 25 [.slice a5 L3.length q5, .int .i64 C3, .int .i64 D3]) :=
    ⟨_, rfl, P5_17.out.below (bl_al (Below.refl _ _) _), bl_tr BEL_17.out (bl_al (Below.refl _ _) _), P11_17.out.below (bl_al (Below.refl _ _) _), BB_17.out.below (bl_al (Below.refl _ _) _), RB_17.out.below (bl_al (Below.refl _ _) _), NB_17.out.below (bl_al (Below.refl _ _) _), S0_17.out.below (bl_al (Below.refl _ _) _), Q0_17.out.below (bl_al (Below.refl _ _) _), S1_17.out.below (bl_al (Below.refl _ _) _), Q1_17.out.below (bl_al (Below.refl _ _) _), S2_17.out.below (bl_al (Below.refl _ _) _), Q2_17.out.below (bl_al (Below.refl _ _) _), S3_17.out.below (bl_al (Below.refl _ _) _), Q3_17.out.below (bl_al (Below.refl _ _) _), S4_17.out.below (bl_al (Below.refl _ _) _), Q4_17.out.below (bl_al (Below.refl _ _) _), S5_0.out.below (bl_al (Below.refl _ _) _), heap_alloc_new wf5 _⟩
  with_reducible rw [hW]
  clear hW P5_17 BEL_17 P11_17 BB_17 RB_17 NB_17 S0_17 Q0_17 S1_17 Q1_17 S2_17 Q2_17 S3_17 Q3_17 S4_17 Q4_17 S5_0
  obtain ⟨GQ5, hG⟩ : ∃ G, wf5.heap.size = G := ⟨_, rfl⟩
  rw [hG] at Q5_18 ⊢
  clear hG
  have hB := P11_18.out
  have c0 := hB.cell 0
  have c1 := hB.cell 1
  have c2 := hB.cell 2
  simp only [List.getElem?_cons_zero, List.getElem?_cons_succ] at c0 c1 c2
  clear hB
  go_wp2_with fail
  refine (poolBear_any _ _ bs ns c d _ HS4 HK.out.1 _ (blk_sp BB_18.out HK.out.1).sl (blk_sp NB_18.out HK.out.2.2).sl).mono ?_
  rintro _ wf6 ⟨u6, rfl, hul, hb⟩
  simp only at hul ⊢
  obtain ⟨a6, q6, rfl⟩ := hul.shape
  have S6_0 := Lib.hid hul
  clear hul c0 c1 c2
  have P5_19 := Lib.hid (P5_18.out.below hb)
  have BEL_19 := Lib.hid (bl_tr BEL_18.out hb)
  have P11_19 := Lib.hid (P11_18.out.below hb)
  have BB_19 := Lib.hid (BB_18.out.below hb)
  have RB_19 := Lib.hid (RB_18.out.below hb)
  have NB_19 := Lib.hid (NB_18.out.below hb)
  have S0_19 := Lib.hid (S0_18.out.below hb)
  have Q0_19 := Lib.hid (Q0_18.out.below hb)
  have S1_19 := Lib.hid (S1_18.out.below hb)
  have Q1_19 := Lib.hid (Q1_18.out.below hb)
  have S2_19 := Lib.hid (S2_18.out.below hb)
  have Q2_19 := Lib.hid (Q2_18.out.below hb)
  have S3_19 := Lib.hid (S3_18.out.below hb)
  have Q3_19 := Lib.hid (Q3_18.out.below hb)
  have S4_19 := Lib.hid (S4_18.out.below hb)
  have Q4_19 := Lib.hid (Q4_18.out.below hb)
  have S5_19 := Lib.hid (S5_18.out.below hb)
  have Q5_19 := Lib.hid (Q5_18.out.below hb)
  clear P5_18 BEL_18 P11_18 BB_18 RB_18 NB_18 S0_18 Q0_18 S1_18 Q1_18 S2_18 Q2_18 S3_18 Q3_18 S4_18 Q4_18 S5_18 Q5_18 hb
  go_upto_region 13 with fail
  obtain ⟨wg6, hW, P5_20, BEL_20, P11_20, BB_20, RB_20, NB_20, S0_20, Q0_20, S1_20, Q1_20, S2_20, Q2_20, S3_20, Q3_20, S4_20, Q4_20, S5_20, Q5_20, S6_20, Q6_20⟩ : ∃ wg6, wf6.alloc (.cells #[.slice a6 L4.length q6, .int .i64 C4, .int .i64 D4] 25) = wg6 ∧ Hid (Blk wg6 w.heap.size 25 [.slice ao bs.length cap, .int .i64 c, .int .i64 d]) ∧ Hid (Below w.heap.size w wg6) ∧ Hid (Blk wg6 G11 25 [.slice (some ⟨GB, 0, none⟩) bs.length (bs.length + 3), .int .i64 c, .int .i64 d]) ∧ Hid (Blk wg6 GB 2 ((bs ++ ([71, 71, 71] : List Int)).map (Value.int .i64))) ∧ Hid (Blk wg6 GR 2 ((rates ++ ([71, 71, 71] : List Int)).map (Value.int .i64))) ∧ Hid (Blk wg6 GN 2 ((ns ++ ([71, 71, 71] : List Int)).map (Value.int .i64))) ∧ Hid (Sl .i64 wg6 (.slice a0 L1.length q0) L1) ∧ Hid (Blk wg6 GQ0 25 [.slice a0 L1.length q0, .int .i64 C1, .int .i64 D1]) ∧ Hid (Sl .i64 wg6 (.slice a1 L1.length q1) L1) ∧ Hid (Blk wg6 GQ1 25 [.slice a1 L1.length q1, .int .i64 C1, .int .i64 D1]) ∧ Hid (Sl .i64 wg6 (.slice a2 L2.length q2) L2) ∧ Hid (Blk wg6 GQ2 25 [.slice a2 L2.length q2, .int .i64 C2, .int .i64 D2]) ∧ Hid (Sl .i64 wg6 (.slice a3 L2.length q3) L2) ∧ Hid (Blk wg6 GQ3 25 [.slice a3 L2.length q3, .int .i64 C2, .int .i64 D2]) ∧ Hid (Sl .i64 wg6 (.slice a4 L3.length q4) L3) ∧ Hid (Blk wg6 GQ4 25 [.slice a4 L3.length q4, .int .i64 C3, .int .i64 D3]) ∧ Hid (Sl .i64 wg6 (.slice a5 L3.length q5) L3) ∧ Hid (Blk wg6 GQ5 25 [.slice a5 L3.length q5, .int .i64 C3, .int .i64 D3]) ∧ Hid (Sl .i64 wg6 (.slice a6 L4.length q6) L4) ∧ Hid (Blk wg6 wf6.heap.size 25 [.slice a6 L4.length q6, .int .i64 C4, .int .i64 D4]) :=
    ⟨_, rfl, P5_19.out.below (bl_al (Below.refl _ _) _), bl_tr BEL_19.out (bl_al (Below.refl _ _) _), P11_19.out.below (bl_al (Below.refl _ _) _), BB_19.out.below (bl_al (Below.refl _ _) _), RB_19.out.below (bl_al (Below.refl _ _) _), NB_19.out.below (bl_al (Below.refl _ _) _), S0_19.out.below (bl_al (Below.refl _ _) _), Q0_19.out.below (bl_al (Below.refl _ _) _), S1_19.out.below (bl_al (Below.refl _ _) _), Q1_19.out.below (bl_al (Below.refl _ _) _), S2_19.out.below (bl_al (Below.refl _ _) _), Q2_19.out.below (bl_al (Below.refl _ _) _), S3_19.out.below (bl_al (Below.refl _ _) _), Q3_19.out.below (bl_al (Below.refl _ _) _), S4_19.out.below (bl_al (Below.refl _ _) _), Q4_19.out.below (bl_al (Below.refl _ _) _), S5_19.out.below (bl_al (Below.refl _ _) _), Q5_19.out.below (bl_al (Below.refl _ _) _), S6_0.out.below (bl_al (Below.refl _ _) _), heap_alloc_new wf6 _⟩
  with_reducible rw [hW]
  clear hW P5_19 BEL_19 P11_19 BB_19 RB_19 NB_19 S0_19 Q0_19 S1_19 Q1_19 S2_19 Q2_19 S3_19 Q3_19 S4_19 Q4_19 S5_19 Q5_19 S6_0
  obtain ⟨GQ6, hG⟩ : ∃ G, wf6.heap.size = G := ⟨_, rfl⟩
  rw [hG] at Q6_20 ⊢
  clear hG
  have hB := P5_20.out
  have c0 := hB.cell 0
  have c1 := hB.cell 1
  have c2 := hB.cell 2
  simp only [List.getElem?_cons_zero, List.getElem?_cons_succ] at c0 c1 c2
  clear hB
  go_wp2_with fail
  refine (refBear11_any _ _ bs ns c d _ HS4 HK.out.1 _ (HV.out.below BEL_20.out) (HX.out.below BEL_20.out)).mono ?_
  rintro _ wf7 ⟨u7, rfl, hul, hb⟩
  simp only at hul ⊢
  obtain ⟨a7, q7, rfl⟩ := hul.shape
  have S7_0 := Lib.hid hul
  clear hul c0 c1 c2
  have P5_21 := Lib.hid (P5_20.out.below hb)
  have BEL_21 := Lib.hid (bl_tr BEL_20.out hb)
  have P11_21 := Lib.hid (P11_20.out.below hb)
  have BB_21 := Lib.hid (BB_20.out.below hb)
  have RB_21 := Lib.hid (RB_20.out.below hb)
  have NB_21 := Lib.hid (NB_20.out.below hb)
  have S0_21 := Lib.hid (S0_20.out.below hb)
  have Q0_21 := Lib.hid (Q0_20.out.below hb)
  have S1_21 := Lib.hid (S1_20.out.below hb)
  have Q1_21 := Lib.hid (Q1_20.out.below hb)
  have S2_21 := Lib.hid (S2_20.out.below hb)
  have Q2_21 := Lib.hid (Q2_20.out.below hb)
  have S3_21 := Lib.hid (S3_20.out.below hb)
  have Q3_21 := Lib.hid (Q3_20.out.below hb)
  have S4_21 := Lib.hid (S4_20.out.below hb)
  have Q4_21 := Lib.hid (Q4_20.out.below hb)
  have S5_21 := Lib.hid (S5_20.out.below hb)
  have Q5_21 := Lib.hid (Q5_20.out.below hb)
  have S6_21 := Lib.hid (S6_20.out.below hb)
  have Q6_21 := Lib.hid (Q6_20.out.below hb)
  clear P5_20 BEL_20 P11_20 BB_20 RB_20 NB_20 S0_20 Q0_20 S1_20 Q1_20 S2_20 Q2_20 S3_20 Q3_20 S4_20 Q4_20 S5_20 Q5_20 S6_20 Q6_20 hb
  go_upto_region 14 with fail
  obtain ⟨wg7, hW, P5_22, BEL_22, P11_22, BB_22, RB_22, NB_22, S0_22, Q0_22, S1_22, Q1_22, S2_22, Q2_22, S3_22, Q3_22, S4_22, Q4_22, S5_22, Q5_22, S6_22, Q6_22, S7_22, Q7_22⟩ : ∃ wg7, wf7.alloc (.cells #[.slice a7 L4.length q7, .int .i64 C4, .int .i64 D4] 25) = wg7 ∧ Hid (Blk wg7 w.heap.size 25 [.slice ao bs.length cap, .int .i64 c, .int .i64 d]) ∧ Hid (Below w.heap.size w wg7) ∧ Hid (Blk wg7 G11 25 [.slice (some ⟨GB, 0, none⟩) bs.length (bs.length + 3), .int .i64 c, .int .i64 d]) ∧ Hid (Blk wg7 GB 2 ((bs ++ ([71, 71, 71] : List Int)).map (Value.int .i64))) ∧ Hid (Blk wg7 GR 2 ((rates ++ ([71, 71, 71] : List Int)).map (Value.int .i64))) ∧ Hid (Blk wg7 GN 2 ((ns ++ ([71, 71, 71] : List Int)).map (Value.int .i64))) ∧ Hid (Sl .i64 wg7 (.slice a0 L1.length q0) L1) ∧ Hid (Blk wg7 GQ0 25 [.slice a0 L1.length q0, .int .i64 C1, .int .i64 D1]) ∧ Hid (Sl .i64 wg7 (.slice a1 L1.length q1) L1) ∧ Hid (Blk wg7 GQ1 25 [.slice a1 L1.length q1, .int .i64 C1, .int .i64 D1]) ∧ Hid (Sl .i64 wg7 (.slice a2 L2.length q2) L2) ∧ Hid (Blk wg7 GQ2 25 [.slice a2 L2.length q2, .int .i64 C2, .int .i64 D2]) ∧ Hid (Sl .i64 wg7 (.slice a3 L2.length q3) L2) ∧ Hid (Blk wg7 GQ3 25 [.slice a3 L2.length q3, .int .i64 C2, .int .i64 D2]) ∧ Hid (Sl .i64 wg7 (.slice a4 L3.length q4) L3) ∧ Hid (Blk wg7 GQ4 25 [.slice a4 L3.length q4, .int .i64 C3, .int .i64 D3]) ∧ Hid (Sl .i64 wg7 (.slice a5 L3.length q5) L3) ∧ Hid (Blk wg7 GQ5 25 [.slice a5 L3.length q5, .int .i64 C3, .int .i64 D3]) ∧ Hid (Sl .i64 wg7 (.slice a6 L4.length q6) L4) ∧ Hid (Blk wg7 GQ6 25 [.slice a6 L4.length q6, .int .i64 C4, .int .i64 D4]) ∧ Hid (Sl .i64 wg7 (.slice a7 L4.length q7) L4) ∧ Hid (Blk wg7 wf7.heap.size 25 [.slice a7 L4.length q7, .int .i64 C4, .int .i64 D4]) :=
    ⟨_, rfl, P5_21.out.below (bl_al (Below.refl _ _) _), bl_tr BEL_21.out (bl_al (Below.refl _ _) _), P11_21.out.below (bl_al (Below.refl _ _) _), BB_21.out.below (bl_al (Below.refl _ _) _), RB_21.out.below (bl_al (Below.refl _ _) _), NB_21.out.below (bl_al (Below.refl _ _) _), S0_21.out.below (bl_al (Below.refl _ _) _), Q0_21.out.below (bl_al (Below.refl _ _) _), S1_21.out.below (bl_al (Below.refl _ _) _), Q1_21.out.below (bl_al (Below.refl _ _) _), S2_21.out.below (bl_al (Below.refl _ _) _), Q2_21.out.below (bl_al (Below.refl _ _) _), S3_21.out.below (bl_al (Below.refl _ _) _), Q3_21.out.below (bl_al (Below.refl _ _) _), S4_21.out.below (bl_al (Below.refl _ _) _), Q4_21.out.below (bl_al (Below.refl _ _) _), S5_21.out.below (bl_al (Below.refl _ _) _), Q5_21.out.below (bl_al (Below.refl _ _) _), S6_21.out.below (bl_al (Below.refl _ _) _), Q6_21.out.below (bl_al (Below.refl _ _) _), S7_0.out.below (bl_al (Below.refl _ _) _), heap_alloc_new wf7 _⟩
  with_reducible rw [hW]
  clear hW P5_21 BEL_21 P11_21 BB_21 RB_21 NB_21 S0_21 Q0_21 S1_21 Q1_21 S2_21 Q2_21 S3_21 Q3_21 S4_21 Q4_21 S5_21 Q5_21 S6_21 Q6_21 S7_0
  obtain ⟨GQ7, hG⟩ : ∃ G, wf7.heap.size = G := ⟨_, rfl⟩
  rw [hG] at Q7_22 ⊢
  clear hG
  have hall : ∀ W' : World, Below wg7.heap.size wg7 W' → (W'.cell? ⟨w.heap.size, 0, none⟩ = some (.slice ao bs.length cap) ∧ W'.cell? ⟨w.heap.size, 1, none⟩ = some (.int .i64 c) ∧ W'.cell? ⟨w.heap.size, 2, none⟩ = some (.int .i64 d)) ∧ (W'.cell? ⟨G11, 0, none⟩ = some (.slice (some ⟨GB, 0, none⟩) bs.length (bs.length + 3)) ∧ W'.cell? ⟨G11, 1, none⟩ = some (.int .i64 c) ∧ W'.cell? ⟨G11, 2, none⟩ = some (.int .i64 d)) ∧ (W'.cell? ⟨GQ0, 0, none⟩ = some (.slice a0 L1.length q0) ∧ W'.cell? ⟨GQ0, 1, none⟩ = some (.int .i64 C1) ∧ W'.cell? ⟨GQ0, 2, none⟩ = some (.int .i64 D1)) ∧ (W'.cell? ⟨GQ1, 0, none⟩ = some (.slice a1 L1.length q1) ∧ W'.cell? ⟨GQ1, 1, none⟩ = some (.int .i64 C1) ∧ W'.cell? ⟨GQ1, 2, none⟩ = some (.int .i64 D1)) ∧ (W'.cell? ⟨GQ2, 0, none⟩ = some (.slice a2 L2.length q2) ∧ W'.cell? ⟨GQ2, 1, none⟩ = some (.int .i64 C2) ∧ W'.cell? ⟨GQ2, 2, none⟩ = some (.int .i64 D2)) ∧ (W'.cell? ⟨GQ3, 0, none⟩ = some (.slice a3 L2.length q3) ∧ W'.cell? ⟨GQ3, 1, none⟩ = some (.int .i64 C2) ∧ W'.cell? ⟨GQ3, 2, none⟩ = some (.int .i64 D2)) ∧ (W'.cell? ⟨GQ4, 0, none⟩ = some (.slice a4 L3.length q4) ∧ W'.cell? ⟨GQ4, 1, none⟩ = some (.int .i64 C3) ∧ W'.cell? ⟨GQ4, 2, none⟩ = some (.int .i64 D3)) ∧ (W'.cell? ⟨GQ5, 0, none⟩ = some (.slice a5 L3.length q5) ∧ W'.cell? ⟨GQ5, 1, none⟩ = some (.int .i64 C3) ∧ W'.cell? ⟨GQ5, 2, none⟩ = some (.int .i64 D3)) ∧ (W'.cell? ⟨GQ6, 0, none⟩ = some (.slice a6 L4.length q6) ∧ W'.cell? ⟨GQ6, 1, none⟩ = some (.int .i64 C4) ∧ W'.cell? ⟨GQ6, 2, none⟩ = some (.int .i64 D4)) ∧ (W'.cell? ⟨GQ7, 0, none⟩ = some (.slice a7 L4.length q7) ∧ W'.cell? ⟨GQ7, 1, none⟩ = some (.int .i64 C4) ∧ W'.cell? ⟨GQ7, 2, none⟩ = some (.int .i64 D4)) := fun W' h => by
    have q0 := P5_22.out.below h
    have q1 := P11_22.out.below h
    have q2 := Q0_22.out.below h
    have q3 := Q1_22.out.below h
    have q4 := Q2_22.out.below h
    have q5 := Q3_22.out.below h
    have q6 := Q4_22.out.below h
    have q7 := Q5_22.out.below h
    have q8 := Q6_22.out.below h
    have q9 := Q7_22.out.below h
    exact ⟨⟨q0.cell 0, q0.cell 1, q0.cell 2⟩, ⟨q1.cell 0, q1.cell 1, q1.cell 2⟩, ⟨q2.cell 0, q2.cell 1, q2.cell 2⟩, ⟨q3.cell 0, q3.cell 1, q3.cell 2⟩, ⟨q4.cell 0, q4.cell 1, q4.cell 2⟩, ⟨q5.cell 0, q5.cell 1, q5.cell 2⟩, ⟨q6.cell 0, q6.cell 1, q6.cell 2⟩, ⟨q7.cell 0, q7.cell 1, q7.cell 2⟩, ⟨q8.cell 0, q8.cell 1, q8.cell 2⟩, ⟨q9.cell 0, q9.cell 1, q9.cell 2⟩⟩
  have HALL := Lib.hid hall
  have AV : Hid (∀ W' : World, Below wg7.heap.size wg7 W' → Sl .i64 W' (.slice ao bs.length cap) bs) := fun W' h => HV.out.below (bl_tr BEL_22.out h)
  have AU : Hid (∀ W' : World, Below wg7.heap.size wg7 W' → Sl .i64 W' (.slice ao' rates.length cap') rates) := fun W' h => HU.out.below (bl_tr BEL_22.out h)
  have AX : Hid (∀ W' : World, Below wg7.heap.size wg7 W' → Sl .i64 W' (.slice ao'' ns.length cap'') ns) := fun W' h => HX.out.below (bl_tr BEL_22.out h)
  have KB : Hid (∀ W' : World, Below wg7.heap.size wg7 W' → Sp .i64 W' (.slice (some ⟨GB, 0, none⟩) bs.length (bs.length + 3)) bs [71, 71, 71]) := fun W' h => blk_sp (BB_22.out.below h) HK.out.1
  have KR : Hid (∀ W' : World, Below wg7.heap.size wg7 W' → Sp .i64 W' (.slice (some ⟨GR, 0, none⟩) rates.length (rates.length + 3)) rates [71, 71, 71]) := fun W' h => blk_sp (RB_22.out.below h) HK.out.2.1
  have KN : Hid (∀ W' : World, Below wg7.heap.size wg7 W' → Sp .i64 W' (.slice (some ⟨GN, 0, none⟩) ns.length (ns.length + 3)) ns [71, 71, 71]) := fun W' h => blk_sp (NB_22.out.below h) HK.out.2.2
  have AS0 : Hid (∀ W' : World, Below wg7.heap.size wg7 W' → Sl .i64 W' (.slice a0 L1.length q0) L1) := fun W' h => S0_22.out.below h
  have AS1 : Hid (∀ W' : World, Below wg7.heap.size wg7 W' → Sl .i64 W' (.slice a1 L1.length q1) L1) := fun W' h => S1_22.out.below h
  have AS2 : Hid (∀ W' : World, Below wg7.heap.size wg7 W' → Sl .i64 W' (.slice a2 L2.length q2) L2) := fun W' h => S2_22.out.below h
  have AS3 : Hid (∀ W' : World, Below wg7.heap.size wg7 W' → Sl .i64 W' (.slice a3 L2.length q3) L2) := fun W' h => S3_22.out.below h
  have AS4 : Hid (∀ W' : World, Below wg7.heap.size wg7 W' → Sl .i64 W' (.slice a4 L3.length q4) L3) := fun W' h => S4_22.out.below h
  have AS5 : Hid (∀ W' : World, Below wg7.heap.size wg7 W' → Sl .i64 W' (.slice a5 L3.length q5) L3) := fun W' h => S5_22.out.below h
  have AS6 : Hid (∀ W' : World, Below wg7.heap.size wg7 W' → Sl .i64 W' (.slice a6 L4.length q6) L4) := fun W' h => S6_22.out.below h
  have AS7 : Hid (∀ W' : World, Below wg7.heap.size wg7 W' → Sl .i64 W' (.slice a7 L4.length q7) L4) := fun W' h => S7_22.out.below h
  obtain ⟨rr, hrr⟩ : ∃ r, rightP bs c d = r := ⟨_, rfl⟩
  obtain ⟨tt, htt⟩ : ∃ r, totalP bs c d = r := ⟨_, rfl⟩
  have HRR := Lib.hid hrr
  have HTT := Lib.hid htt
  clear hrr htt
  have HBEL := Lib.hid BEL_22.out
  have hS0 := hall wg7 (Below.refl _ _)
  have hbc0 : Below wg7.heap.size wg7 wg7 := Below.refl _ _
  have hbcd : Below wg7.heap.size wg7 wg7.drew := bl_dr (Below.refl _ _)
  have hSd := hall wg7.drew hbcd
  clear hall P5_22 BEL_22 P11_22 BB_22 RB_22 NB_22 S0_22 Q0_22 S1_22 Q1_22 S2_22 Q2_22 S3_22 Q3_22 S4_22 Q4_22 S5_22 Q5_22 S6_22 Q6_22 S7_22 Q7_22
  clear HV HU HX hza hz0 hG11 hlb hlr hln
  go_region_held3 (fun w' => (w'.cell? ⟨w.heap.size, 0, none⟩ = some (.slice ao bs.length cap) ∧ w'.cell? ⟨w.heap.size, 1, none⟩ = some (.int .i64 c) ∧ w'.cell? ⟨w.heap.size, 2, none⟩ = some (.int .i64 d)) ∧ (w'.cell? ⟨G11, 0, none⟩ = some (.slice (some ⟨GB, 0, none⟩) bs.length (bs.length + 3)) ∧ w'.cell? ⟨G11, 1, none⟩ = some (.int .i64 c) ∧ w'.cell? ⟨G11, 2, none⟩ = some (.int .i64 d)) ∧ (w'.cell? ⟨GQ0, 0, none⟩ = some (.slice a0 L1.length q0) ∧ w'.cell? ⟨GQ0, 1, none⟩ = some (.int .i64 C1) ∧ w'.cell? ⟨GQ0, 2, none⟩ = some (.int .i64 D1)) ∧ (w'.cell? ⟨GQ1, 0, none⟩ = some (.slice a1 L1.length q1) ∧ w'.cell? ⟨GQ1, 1, none⟩ = some (.int .i64 C1) ∧ w'.cell? ⟨GQ1, 2, none⟩ = some (.int .i64 D1)) ∧ (w'.cell? ⟨GQ2, 0, none⟩ = some (.slice a2 L2.length q2) ∧ w'.cell? ⟨GQ2, 1, none⟩ = some (.int .i64 C2) ∧ w'.cell? ⟨GQ2, 2, none⟩ = some (.int .i64 D2)) ∧ (w'.cell? ⟨GQ3, 0, none⟩ = some (.slice a3 L2.length q3) ∧ w'.cell? ⟨GQ3, 1, none⟩ = some (.int .i64 C2) ∧ w'.cell? ⟨GQ3, 2, none⟩ = some (.int .i64 D2)) ∧ (w'.cell? ⟨GQ4, 0, none⟩ = some (.slice a4 L3.length q4) ∧ w'.cell? ⟨GQ4, 1, none⟩ = some (.int .i64 C3) ∧ w'.cell? ⟨GQ4, 2, none⟩ = some (.int .i64 D3)) ∧ (w'.cell? ⟨GQ5, 0, none⟩ = some (.slice a5 L3.length q5) ∧ w'.cell? ⟨GQ5, 1, none⟩ = some (.int .i64 C3) ∧ w'.cell? ⟨GQ5, 2, none⟩ = some (.int .i64 D3)) ∧ (w'.cell? ⟨GQ6, 0, none⟩ = some (.slice a6 L4.length q6) ∧ w'.cell? ⟨GQ6, 1, none⟩ = some (.int .i64 C4) ∧ w'.cell? ⟨GQ6, 2, none⟩ = some (.int .i64 D4)) ∧ (w'.cell? ⟨GQ7, 0, none⟩ = some (.slice a7 L4.length q7) ∧ w'.cell? ⟨GQ7, 1, none⟩ = some (.int .i64 C4) ∧ w'.cell? ⟨GQ7, 2, none⟩ = some (.int .i64 D4))) (first | assumption | exact hS0 | exact hSd)
    (first
      | (go_at_call 25; refine (samePos_true _ _ _ _ _ _ (by first | exact AS0.out _ (by assumption) | exact AS2.out _ (by assumption) | exact AS4.out _ (by assumption) | exact AS6.out _ (by assumption)) (by first | exact AS1.out _ (by assumption) | exact AS3.out _ (by assumption) | exact AS5.out _ (by assumption) | exact AS7.out _ (by assumption))).mono ?_; rintro e wN ⟨rfl, hbN⟩; have hbc : Below wg7.heap.size wg7 wN := (by first | exact bl_tr (by assumption) hbN | exact bl_tr (bl_dr (by assumption)) hbN); have hSN := HALL.out wN hbc; clear hbN)
      | (go_at_call 26; refine (poolRight_any _ bs c d rr HRR (Nat.le_trans HK.out.1 (by decide)) _ ((KB.out _ (by assumption)).sl)).mono ?_; rintro e wN ⟨rfl, hbN⟩; have hbc : Below wg7.heap.size wg7 wN := (by first | exact bl_tr (by assumption) hbN | exact bl_tr (bl_dr (by assumption)) hbN); have hSN := HALL.out wN hbc; clear hbN)
      | (go_at_call 27; refine (refRight11_any _ bs c d rr HRR _ (AV.out _ (by assumption))).mono ?_; rintro e wN ⟨rfl, hbN⟩; have hbc : Below wg7.heap.size wg7 wN := (by first | exact bl_tr (by assumption) hbN | exact bl_tr (bl_dr (by assumption)) hbN); have hSN := HALL.out wN hbc; clear hbN)
      | (go_at_call 17; refine (poolTotal_any _ bs c d tt HTT (Nat.le_trans HK.out.1 (by decide)) _ ((KB.out _ (by assumption)).sl)).mono ?_; rintro e wN ⟨rfl, hbN⟩; have hbc : Below wg7.heap.size wg7 wN := (by first | exact bl_tr (by assumption) hbN | exact bl_tr (bl_dr (by assumption)) hbN); have hSN := HALL.out wN hbc; clear hbN)
      | (go_at_call 28; refine (refTotal11_any _ bs c d tt HTT _ (AV.out _ (by assumption))).mono ?_; rintro e wN ⟨rfl, hbN⟩; have hbc : Below wg7.heap.size wg7 wN := (by first | exact bl_tr (by assumption) hbN | exact bl_tr (bl_dr (by assumption)) hbN); have hSN := HALL.out wN hbc; clear hbN))
  have hbn : Below wg7.heap.size wg7 wN := by assumption
  have HBN := Lib.hid hbn
  clear hbn hS0 hbc0 hSd hbcd
  go_wp2_with fail
  refine (awake11_any _).mono ?_
  rintro _ wx ⟨rfl, hbx⟩
  have hby := bl_tr HBN.out hbx
  have HBY := Lib.hid hby
  obtain ⟨⟨p0, _, _⟩, ⟨i0, _, _⟩, _⟩ := HALL.out wx hby
  clear hbx hby
  go_wp2_with fail
  refine (kept64_true _ _ bs 71 _ (KB.out _ HBY.out) (AV.out _ HBY.out) HK.out.1).mono ?_
  rintro _ wy ⟨rfl, hbk⟩
  have HBZ := Lib.hid (bl_tr HBY.out hbk)
  clear hbk p0 i0
  go_wp2_with fail
  refine (kept64_true _ _ rates 71 _ (KR.out _ HBZ.out) (AU.out _ HBZ.out) HK.out.2.1).mono ?_
  rintro _ wz ⟨rfl, hbk⟩
  have HBU := Lib.hid (bl_tr HBZ.out hbk)
  clear hbk
  go_wp2_with fail
  refine (kept64_true _ _ ns 71 _ (KN.out _ HBU.out) (AX.out _ HBU.out) HK.out.2.2).mono ?_
  rintro _ wq ⟨rfl, hbk⟩
  have HBE := Lib.hid (bl_tr HBEL.out (bl_tr HBU.out hbk))
  clear hbk
  go_wp2_with fail
  go_ret
  exact ⟨rfl, HBE.out⟩

set_option maxHeartbeats 1600000 in
set_option maxRecDepth 100000 in
theorem poolMoves_any (v u x : Value) (bs rates ns : List Int) (c d k am : Int) (w : World) (hv : Sl .i64 w v bs) (hu : Sl .i64 w u rates) (hx : Sl .i64 w x ns) :
    Calls Try.prog 8 #[.agg #[v, .int .i64 c, .int .i64 d], u, x, .int .i64 k, .int .i64 am] w (RetB (.bool true) w) := by
  by_cases hlb : bs.length ≤ 30
  · by_cases hlr : rates.length ≤ 30
    · by_cases hln : ns.length ≤ 30
      · exact poolMoves_go v u x bs rates ns c d k am hlb hlr hln w hv hu hx
      · have HV := Lib.hid hv
        obtain ⟨ao, cap, rfl, h1, ⟨h2, hnn⟩, h3⟩ := hv
        clear h3 hnn
        obtain ⟨ao', cap', rfl, h1', ⟨h2', hnn⟩, h3⟩ := hu
        clear h3 hnn
        obtain ⟨ao'', cap'', rfl, h1'', ⟨h2'', hnn⟩, h3⟩ := hx
        clear h3 hnn
        unfold maxLen at h2 h2' h2''
        have BEL : Hid (Below w.heap.size w (w.alloc (.cells #[.slice ao bs.length cap, .int .i64 c, .int .i64 d] 25))) := bl_al (Below.refl _ _) _
        have t1 : decide ((30 : Int) < (rates.length : Int)) = false := by simp; omega
        have t2 : decide ((30 : Int) < (ns.length : Int)) = true := by simp; omega
        go_enter Try.func8, Try.ntmps8
        go_wp2_with fail
        refine (few11_any _ bs c d true (by simp; omega) _ (HV.out.below BEL.out)).mono ?_
        rintro _ w1 ⟨rfl, hb1⟩
        have HB1 := Lib.hid (bl_tr BEL.out hb1)
        clear hb1
        go_wp2_with fail
        refine (awake11_any _).mono ?_
        rintro _ w2 ⟨rfl, hb2⟩
        have HB2 := Lib.hid (bl_tr HB1.out hb2)
        clear hb2
        go_wp2_with fail
        go_ret
        exact ⟨rfl, HB2.out⟩
    · have HV := Lib.hid hv
      obtain ⟨ao, cap, rfl, h1, ⟨h2, hnn⟩, h3⟩ := hv
      clear h3 hnn
      obtain ⟨ao', cap', rfl, h1', ⟨h2', hnn⟩, h3⟩ := hu
      clear h3 hnn
      obtain ⟨ao'', cap'', rfl, h1'', ⟨h2'', hnn⟩, h3⟩ := hx
      clear h3 hnn
      unfold maxLen at h2 h2' h2''
      have BEL : Hid (Below w.heap.size w (w.alloc (.cells #[.slice ao bs.length cap, .int .i64 c, .int .i64 d] 25))) := bl_al (Below.refl _ _) _
      have t1 : decide ((30 : Int) < (rates.length : Int)) = true := by simp; omega
      go_enter Try.func8, Try.ntmps8
      go_wp2_with fail
      refine (few11_any _ bs c d true (by simp; omega) _ (HV.out.below BEL.out)).mono ?_
      rintro _ w1 ⟨rfl, hb1⟩
      have HB1 := Lib.hid (bl_tr BEL.out hb1)
      clear hb1
      go_wp2_with fail
      refine (awake11_any _).mono ?_
      rintro _ w2 ⟨rfl, hb2⟩
      have HB2 := Lib.hid (bl_tr HB1.out hb2)
      clear hb2
      go_wp2_with fail
      go_ret
      exact ⟨rfl, HB2.out⟩
  · have HV := Lib.hid hv
    obtain ⟨ao, cap, rfl, h1, ⟨h2, hnn⟩, h3⟩ := hv
    clear h3 hnn
    obtain ⟨ao', cap', rfl, h1', ⟨h2', hnn⟩, h3⟩ := hu
    clear h3 hnn
    obtain ⟨ao'', cap'', rfl, h1'', ⟨h2'', hnn⟩, h3⟩ := hx
    clear h3 hnn
    unfold maxLen at h2 h2' h2''
    have BEL : Hid (Below w.heap.size w (w.alloc (.cells #[.slice ao bs.length cap, .int .i64 c, .int .i64 d] 25))) := bl_al (Below.refl _ _) _
    go_enter Try.func8, Try.ntmps8
    go_wp2_with fail
    refine (few11_any _ bs c d false (by simp; omega) _ (HV.out.below BEL.out)).mono ?_
    rintro _ w1 ⟨rfl, hb1⟩
    have HB1 := Lib.hid (bl_tr BEL.out hb1)
    clear hb1
    go_wp2_with fail
    refine (awake11_any _).mono ?_
    rintro _ w2 ⟨rfl, hb2⟩
    have HB2 := Lib.hid (bl_tr HB1.out hb2)
    clear hb2
    go_wp2_with fail
    go_ret
    exact ⟨rfl, HB2.out⟩
end Go.Proofs.Ytbiiejolemcifaa

/- pool.Charge. -/
import Derived.Test.YtbiiejolemcifaaPoolR
import Derived.Test.YtbiiejolemcifaaPoolBA
namespace Go.Proofs.Ytbiiejolemcifaa
open Go.RowKit

/-- What a charge makes of a position, or why not. -/
def chargeS (bs : List Int) (c d k am : Int) : List Int × Int × Int × Int :=
  if askedE bs c d am [k] ≠ 0 then ([], 0, 0, askedE bs c d am [k]) else
  if rightP (bs.set (k - 1).toNat (bs.getD (k - 1).toNat 0 + (am - min am c))) (c - min am c) d = true then (bs.set (k - 1).toNat (bs.getD (k - 1).toNat 0 + (am - min am c)), c - min am c, d, 0) else ([], 0, 0, 5)

set_option maxHeartbeats 1600000 in
set_option maxRecDepth 100000 in
theorem poolCharge_no (v : Value) (bs : List Int) (c d k am e : Int) (he : Hid (askedE bs c d am [k] = e)) (hne : (e != 0) = true) (hlen : bs.length ≤ 1000) (w : World) (hv : Sl .i64 w v bs) :
    Calls Try.prog 16 #[.agg #[v, .int .i64 c, .int .i64 d], .int .i64 k, .int .i64 am] w (RetPosN ([], 0, 0, e) w) := by
  have HV := Lib.hid hv
  obtain ⟨ao, cap, rfl, h1, ⟨h2, _⟩, h3⟩ := hv
  clear h3
  unfold maxLen at h2
  have HBLK : Hid (Blk ((w.alloc (.cells #[.slice ao bs.length cap, .int .i64 c, .int .i64 d] 25)).alloc (.cells #[.slice none 0 0, .int .i64 0, .int .i64 0] 25)) (w.heap.size + 1) 25 [.slice none 0 0, .int .i64 0, .int .i64 0]) := by
    have := heap_alloc_new (w.alloc (.cells #[.slice ao bs.length cap, .int .i64 c, .int .i64 d] 25)) (.cells #[.slice none 0 0, .int .i64 0, .int .i64 0] 25)
    simpa [Blk, Hid] using this
  have hB0 : Blk (w.alloc (.cells #[.slice ao bs.length cap, .int .i64 c, .int .i64 d] 25)) w.heap.size 25 [.slice ao bs.length cap, .int .i64 c, .int .i64 d] := heap_alloc_new w _
  have HB0 := Lib.hid (hB0.below (bl_al (Below.refl _ _) (.cells #[.slice none 0 0, .int .i64 0, .int .i64 0] 25)))
  have HW0 : Hid (Below w.heap.size w ((w.alloc (.cells #[.slice ao bs.length cap, .int .i64 c, .int .i64 d] 25)).alloc (.cells #[.slice none 0 0, .int .i64 0, .int .i64 0] 25))) := bl_al (bl_al (Below.refl _ _) _) _
  clear hB0
  go_enter Try.func16, Try.ntmps16
  go_wp2_with fail
  obtain ⟨W, hW, gB, gR, gw, gS, gV⟩ : ∃ W, (((w.alloc (.cells #[.slice ao bs.length cap, .int .i64 c, .int .i64 d] 25)).alloc (.cells #[.slice none 0 0, .int .i64 0, .int .i64 0] 25)).alloc (.cells #[.int .i64 k] 3)) = W ∧ Hid (Blk W w.heap.size 25 [.slice ao bs.length cap, .int .i64 c, .int .i64 d]) ∧ Hid (Blk W (w.heap.size + 1) 25 [.slice none 0 0, .int .i64 0, .int .i64 0]) ∧ Hid (Below w.heap.size w W) ∧ Hid (Sl .i64 W (.slice (some ⟨w.heap.size + 1 + 1, 0, none⟩) 1 1) [k]) ∧ Hid (Sl .i64 W (.slice ao bs.length cap) bs) :=
    ⟨_, rfl, HB0.out.below (bl_al (Below.refl _ _) _), HBLK.out.below (bl_al (Below.refl _ _) _), bl_al HW0.out _, Sl.litAt _ _ [k] 1 _ rfl _ rfl (by unfold maxLen; omega) (by simp), HV.out.below (bl_al HW0.out _)⟩
  with_reducible rw [hW]
  clear hW HB0 HBLK HW0 HV
  have hgl := gw.out.size
  refine (asked_any _ bs c d am _ [k] e he (by omega) (by simp) _ gV.out gS.out).mono ?_
  rintro _ w1 ⟨rfl, hb1⟩
  have hR := gR.out.below hb1
  have r0 := hR.cell 0
  have r1 := hR.cell 1
  have r2 := hR.cell 2
  simp only [List.getElem?_cons_zero, List.getElem?_cons_succ] at r0 r1 r2
  have f0 := hR.frozen 0
  have f1 := hR.frozen 1
  have f2 := hR.frozen 2
  have hbf := bl_tr gw.out hb1
  have hlt := hR.lt
  clear hR hb1
  go_wp2
  refine bodyPost_ret (v := .tuple #[.agg #[.slice none 0 0, .int .i64 0, .int .i64 0], .int .i64 e]) (by simp [results, Try.results16, go_sem, r0, r1, r2]) rfl ⟨.slice none 0 0, rfl, ⟨Sl.nil, fr_nil⟩, bl_s3 hbf (by omega) _ _ _⟩


set_option maxHeartbeats 3200000 in
set_option maxRecDepth 100000 in
theorem poolCharge_small_ok (v : Value) (bs : List Int) (c d : Int) (i : Nat) (am y c2 : Int) (he : Hid (askedE bs c d am [(i : Int) + 1] = 0)) (hi : i < bs.length) (hy : Hid (bs.getD i 0 = y)) (hle : am ≤ c) (hc2 : c - am = c2) (hw : wrap64 c2 = c2) (hy0 : wrap64 y = y) (hq : Hid (rightP (bs.set i y) c2 d = true)) (hlen : bs.length ≤ 1000) (w : World) (hv : Sl .i64 w v bs) :
    Calls Try.prog 16 #[.agg #[v, .int .i64 c, .int .i64 d], .int .i64 ((i : Int) + 1), .int .i64 am] w (RetPosN ((bs.set i y), c2, d, 0) w) := by
  have HV := Lib.hid hv
  obtain ⟨ao, cap, rfl, h1, ⟨h2, _⟩, h3⟩ := hv
  clear h3
  unfold maxLen at h2
  have HBLK : Hid (Blk ((w.alloc (.cells #[.slice ao bs.length cap, .int .i64 c, .int .i64 d] 25)).alloc (.cells #[.slice none 0 0, .int .i64 0, .int .i64 0] 25)) (w.heap.size + 1) 25 [.slice none 0 0, .int .i64 0, .int .i64 0]) := by
    have := heap_alloc_new (w.alloc (.cells #[.slice ao bs.length cap, .int .i64 c, .int .i64 d] 25)) (.cells #[.slice none 0 0, .int .i64 0, .int .i64 0] 25)
    simpa [Blk, Hid] using this
  have hB0 : Blk (w.alloc (.cells #[.slice ao bs.length cap, .int .i64 c, .int .i64 d] 25)) w.heap.size 25 [.slice ao bs.length cap, .int .i64 c, .int .i64 d] := heap_alloc_new w _
  have HB0 := Lib.hid (hB0.below (bl_al (Below.refl _ _) (.cells #[.slice none 0 0, .int .i64 0, .int .i64 0] 25)))
  have HW0 : Hid (Below w.heap.size w ((w.alloc (.cells #[.slice ao bs.length cap, .int .i64 c, .int .i64 d] 25)).alloc (.cells #[.slice none 0 0, .int .i64 0, .int .i64 0] 25))) := bl_al (bl_al (Below.refl _ _) _) _
  have HARG := Lib.hid (And.intro hi hlen)
  clear hB0 
  go_enter Try.func16, Try.ntmps16
  go_wp2_with fail
  obtain ⟨W, hW, gB, gR, gw, gS, gV⟩ : ∃ W, (((w.alloc (.cells #[.slice ao bs.length cap, .int .i64 c, .int .i64 d] 25)).alloc (.cells #[.slice none 0 0, .int .i64 0, .int .i64 0] 25)).alloc (.cells #[.int .i64 ((i : Int) + 1)] 3)) = W ∧ Hid (Blk W w.heap.size 25 [.slice ao bs.length cap, .int .i64 c, .int .i64 d]) ∧ Hid (Blk W (w.heap.size + 1) 25 [.slice none 0 0, .int .i64 0, .int .i64 0]) ∧ Hid (Below w.heap.size w W) ∧ Hid (Sl .i64 W (.slice (some ⟨w.heap.size + 1 + 1, 0, none⟩) 1 1) [(i : Int) + 1]) ∧ Hid (Sl .i64 W (.slice ao bs.length cap) bs) :=
    ⟨_, rfl, HB0.out.below (bl_al (Below.refl _ _) _), HBLK.out.below (bl_al (Below.refl _ _) _), bl_al HW0.out _, Sl.litAt _ _ [(i : Int) + 1] 1 _ rfl _ rfl (by unfold maxLen; omega) (by simp), HV.out.below (bl_al HW0.out _)⟩
  with_reducible rw [hW]
  clear hW HB0 HBLK HW0 HV
  have hgl := gR.out.lt
  refine (asked_any _ bs c d am _ [(i : Int) + 1] 0 he (by omega) (by simp) _ gV.out gS.out).mono ?_
  rintro _ w1 ⟨rfl, hb1⟩
  have hB1 := gB.out.below hb1
  have c0 := hB1.cell 0
  have c1 := hB1.cell 1
  have c2' := hB1.cell 2
  simp only [List.getElem?_cons_zero, List.getElem?_cons_succ] at c0 c1 c2'
  have hz1 := hb1.size
  go_wp2_with fail
  refine (own_any _ bs c d HARG.out.2 _ (gV.out.below hb1)).mono ?_
  rintro _ w2 ⟨u, rfl, hown, hb2⟩
  obtain ⟨gr, capr, rfl⟩ := own_shape hown (by have := HARG.out.1; omega)
  obtain ⟨n, hn⟩ : ∃ n, bs.length = n := ⟨_, rfl⟩
  rw [hn] at hown ⊢
  have HN := Lib.hid hn
  have hB2 := hB1.below hb2
  have f0 := hB2.frozen 0
  have f1 := hB2.frozen 1
  have f2 := hB2.frozen 2
  clear c0 c1 c2'
  have c0 := hB2.cell 0
  have c1 := hB2.cell 1
  have c2' := hB2.cell 2
  simp only [List.getElem?_cons_zero, List.getElem?_cons_succ] at c0 c1 c2'
  have HB2 := Lib.hid hB2
  have HOWN := Lib.hid hown
  have hgr := (hown.lt gr rfl).1
  have hz2 := hb2.size
  have HBF2 := Lib.hid (bl_tr (bl_tr gw.out hb1) hb2)
  have HR2 := Lib.hid ((gR.out.below hb1).below hb2)
  clear hB1 hB2 hown hb1 hb2 hn
  go_wp2_with fail
  refine (charge_small (w1.heap.size + 2) w.heap.size gr n capr i bs c d am y c2 HN (by have := HARG.out.1; have := HN.out; omega) (by have := HARG.out.2; have := HN.out; omega) hy hle hc2 hw hy0 (by omega) _ (((HB2.out.set 0 _).set 1 _).set 2 _) (own_setElder (own_setElder (own_setElder HOWN.out (by omega)) (by omega)) (by omega))).mono ?_
  rintro _ w3 ⟨rfl, hB3, hown3, hsz3, hbel3, hoth3⟩
  have hb3 : Below w.heap.size w w3 := (((HBF2.out.setCell (p := ⟨w.heap.size, 0, none⟩) (Nat.le_refl _) _).setCell (p := ⟨w.heap.size, 1, none⟩) (Nat.le_refl _) _).setCell (p := ⟨w.heap.size, 2, none⟩) (Nat.le_refl _) _).trans (hbel3 w.heap.size (Nat.le_refl _) (by omega))
  have hR3 : Blk w3 (w.heap.size + 1) 25 [.slice none 0 0, .int .i64 0, .int .i64 0] := (hoth3 (w.heap.size + 1) (by omega) (by omega)).trans (((HR2.out.setOther (by omega) 0 _).setOther (by omega) 1 _).setOther (by omega) 2 _)
  clear c0 c1 c2' f0 f1 f2
  have c0 := hB3.cell 0
  have c1 := hB3.cell 1
  have c2' := hB3.cell 2
  simp only [List.getElem?_cons_zero, List.getElem?_cons_succ] at c0 c1 c2'
  obtain ⟨cur, hBR, hnc, hcm, hcl, htk, _⟩ := blk_of_own hown3
  have HTK : Hid (cur.take n = (bs.set i y).map (Value.int .i64)) := by show _ = _; simpa using htk
  have HSL := Lib.hid (Sl.of_own hown3 (show (bs.set i y).length = n by rw [List.length_set]; exact HN.out))
  have HJ : Hid (judgedV (.slice (some ⟨gr, 0, none⟩) n capr) (bs.set i y) c2 d = .tuple #[.agg #[.slice (some ⟨gr, 0, none⟩) n capr, .int .i64 c2, .int .i64 d], .int .i64 0]) := by show _ = _; unfold judgedV; rw [hq.out]; rfl
  have HR3 := Lib.hid hR3
  have HBR := Lib.hid hBR
  have HB3 := Lib.hid hb3
  clear hB3 hown3 hbel3 hoth3 hb3 hR3 hBR hcl htk HBF2 HR2 HB2 HOWN
  go_wp2_with fail
  refine (judged_any _ (bs.set i y) c2 d _ HJ (by rw [List.length_set]; have := HARG.out.2; omega) _ HSL.out).mono ?_
  rintro _ w4 ⟨rfl, hb4⟩
  have hR4 := HR3.out.below hb4
  have r0 := hR4.cell 0
  have r1 := hR4.cell 1
  have r2 := hR4.cell 2
  simp only [List.getElem?_cons_zero, List.getElem?_cons_succ] at r0 r1 r2
  have e0 := hR4.frozen 0
  have e1 := hR4.frozen 1
  have e2 := hR4.frozen 2
  have hbf := bl_tr HB3.out hb4
  have HBR4 := Lib.hid (HBR.out.below hb4)
  clear hR4 hb4 c0 c1 c2'
  go_wp2
  refine bodyPost_ret (v := .tuple #[.agg #[.slice (some ⟨gr, 0, none⟩) n capr, .int .i64 c2, .int .i64 d], .int .i64 0]) (by simp [results, Try.results16, go_sem, r0, r1, r2]) rfl ⟨.slice (some ⟨gr, 0, none⟩) n capr, rfl, ⟨Sl.of_blk (((HBR4.out.setOther (by omega) 0 _).setOther (by omega) 1 _).setOther (by omega) 2 _) (by rw [List.length_set]; exact HN.out) hnc hcm HTK.out, fr_of fun _ => ⟨rfl, by omega⟩⟩, bl_s3 hbf (by omega) _ _ _⟩
end Go.Proofs.Ytbiiejolemcifaa

/- lombardref11.Copy, add. Interest step by step; lombardref11.Total. lombardref11.Bear. -/
import Derived.Test.YtllblmoojohffaaRef11
import Derived.Test.YtllblmoojohffaaClone64
import Derived.Test.YtllblmoojohffaaMix
import Derived.Deep.RegionHeld3
import Derived.Deep.RegionLaw
import Derived.Deep.QuietTactic
import Derived.BigQuiet
import Derived.BigRegion
import Derived.Deep.DeepCutAuto
import Derived.Test.YtllblmoojohffaaBear
namespace Go.Proofs.Ytllblmoojohffaa
open Go.RowKit

set_option maxHeartbeats 800000 in
set_option maxRecDepth 100000 in
theorem refCopy11_any (v : Value) (bs : List Int) (c d : Int) (hlen : bs.length ≤ 1000) (w : World) (hv : Sl .i64 w v bs) :
    Calls Try.prog 76 #[.agg #[v, .int .i64 c, .int .i64 d]] w (OwnP bs c d w) := by
  have HV := Lib.hid hv
  obtain ⟨ao, cap, rfl, h1, ⟨h2, hnone⟩, h3⟩ := hv
  clear h3
  unfold maxLen at h2
  have HBLK : Hid (Blk ((w.alloc (.cells #[.slice ao bs.length cap, .int .i64 c, .int .i64 d] 46)).alloc (.cells #[.slice none 0 0, .int .i64 0, .int .i64 0] 46)) (w.heap.size + 1) 46 [.slice none 0 0, .int .i64 0, .int .i64 0]) := by
    have := heap_alloc_new (w.alloc (.cells #[.slice ao bs.length cap, .int .i64 c, .int .i64 d] 46)) (.cells #[.slice none 0 0, .int .i64 0, .int .i64 0] 46)
    simpa [Blk, Hid] using this
  have hB0 : Blk (w.alloc (.cells #[.slice ao bs.length cap, .int .i64 c, .int .i64 d] 46)) w.heap.size 46 [.slice ao bs.length cap, .int .i64 c, .int .i64 d] := heap_alloc_new w _
  have HB0 := Lib.hid (hB0.below (bl_al (Below.refl _ _) (.cells #[.slice none 0 0, .int .i64 0, .int .i64 0] 46)))
  have HW0 : Hid (Below w.heap.size w ((w.alloc (.cells #[.slice ao bs.length cap, .int .i64 c, .int .i64 d] 46)).alloc (.cells #[.slice none 0 0, .int .i64 0, .int .i64 0] 46))) := bl_al (bl_al (Below.refl _ _) _) _
  have HSZ : Hid (((w.alloc (.cells #[.slice ao bs.length cap, .int .i64 c, .int .i64 d] 46)).alloc (.cells #[.slice none 0 0, .int .i64 0, .int .i64 0] 46)).heap.size = w.heap.size + 2) := by show _ = _; simp
  have HNN := Lib.hid (HV.out.below HW0.out)
  have HNO : Hid (ao = none → bs.length = 0 ∧ cap = 0) := HV.out.none_cap
  obtain ⟨i0, hi, hz0, hz1, hz2⟩ := info_parts info_clone
  clear hB0 hnone
  go_enter Try.func76, Try.ntmps76
  go_wp2_with (at_builtin; refine wpList_append_any _ rfl (.const (.slice none 0 0)) (.tmp 4) 22 rfl (w.heap.size + 2) 2 i0 (.int .i64 0) 1 8 Try.underlying22 hi hz0 hz1 hz2 rfl (by decide) (.slice none 0 0) 0 [] rfl (World.ownsRow_nil _ _ _ _) ao bs.length cap (bs.map (Value.int .i64)) rfl (by simp) HNO.out HNN.out.news (ints_oneCell _ _) (by unfold maxLen; omega) (by omega) (by rw [HSZ.out]; exact Nat.le_refl _) ?_; intro v' w1 hown1 hg1 hn1; clear hn1; have HG := Lib.hid hg1; have HO1 := Lib.hid hown1; have HBw := Lib.hid (grown_below1 hg1); have hB := HB0.out.below HBw.out; have c0 := hB.cell 0; have c1 := hB.cell 1; have c2 := hB.cell 2; have f0 := hB.frozen 0; have hR := HBLK.out.below HBw.out; have r0 := hR.cell 0; have r1 := hR.cell 1; have r2 := hR.cell 2; have g0 := hR.frozen 0; have g1 := hR.frozen 1; have g2 := hR.frozen 2; simp only [List.getElem?_cons_zero, List.getElem?_cons_succ] at c0 c1 c2 r0 r1 r2; obtain ⟨bo, bn, bc, rfl⟩ : ∃ ao n cap, v' = .slice ao n cap := (by rcases hown1.2 with ⟨h, _⟩ | ⟨g, cap', cur, h, _⟩; exact ⟨_, _, _, h⟩; exact ⟨_, _, _, h⟩); clear hB hR hown1 hg1)
  have hbf := bl_tr HW0.out HBw.out
  refine bodyPost_ret (v := .agg #[.slice bo bn bc, .int .i64 c, .int .i64 d]) (by simp [results, Try.results76, go_sem, r0, r1, r2]) rfl ⟨_, rfl, ?_, ?_⟩
  · have h := HO1.out
    rw [Nat.zero_add, List.nil_append] at h
    exact own_setElder (own_setElder (own_setElder (own_setElder h (by omega)) (by omega)) (by omega)) (by omega)
  · exact (((hbf.setCell (by simp) _).setCell (by simp) _).setCell (by simp) _).setCell (by simp) _

set_option maxHeartbeats 3200000 in
set_option maxRecDepth 100000 in
theorem refAdd11_ok (v : Value) (bs : List Int) (c d : Int) (i : Nat) (am y m z c2 : Int) (hi : i < bs.length) (hy : Hid (bs.getD i 0 = y)) (hm : min c am = m) (hz : y + am - m = z) (hc2 : c - m = c2) (hb : (0 ≤ y ∧ y ≤ 1000000000000000) ∧ (0 ≤ c ∧ c ≤ 1000000000000000) ∧ (0 ≤ am ∧ am ≤ 1000000000000000)) (hq : Hid (rightP (bs.set i z) c2 d = true)) (hlen : bs.length ≤ 1000) (w : World) (hv : Sl .i64 w v bs) :
    Calls Try.prog 75 #[.agg #[v, .int .i64 c, .int .i64 d], .int .i64 ((i : Int) + 1), .int .i64 am] w (RetPosN (bs.set i z, c2, d, 0) w) := by
  have HV := Lib.hid hv
  obtain ⟨ao, cap, rfl, h1, ⟨h2, _⟩, h3⟩ := hv
  clear h3
  unfold maxLen at h2
  have HBLK : Hid (Blk ((w.alloc (.cells #[.slice ao bs.length cap, .int .i64 c, .int .i64 d] 46)).alloc (.cells #[.slice none 0 0, .int .i64 0, .int .i64 0] 46)) (w.heap.size + 1) 46 [.slice none 0 0, .int .i64 0, .int .i64 0]) := by
    have := heap_alloc_new (w.alloc (.cells #[.slice ao bs.length cap, .int .i64 c, .int .i64 d] 46)) (.cells #[.slice none 0 0, .int .i64 0, .int .i64 0] 46)
    simpa [Blk, Hid] using this
  have hB0 : Blk (w.alloc (.cells #[.slice ao bs.length cap, .int .i64 c, .int .i64 d] 46)) w.heap.size 46 [.slice ao bs.length cap, .int .i64 c, .int .i64 d] := heap_alloc_new w _
  have HB0 := Lib.hid (hB0.below (bl_al (Below.refl _ _) (.cells #[.slice none 0 0, .int .i64 0, .int .i64 0] 46)))
  have HW0 : Hid (Below w.heap.size w ((w.alloc (.cells #[.slice ao bs.length cap, .int .i64 c, .int .i64 d] 46)).alloc (.cells #[.slice none 0 0, .int .i64 0, .int .i64 0] 46))) := bl_al (bl_al (Below.refl _ _) _) _
  have HSZ : Hid (((w.alloc (.cells #[.slice ao bs.length cap, .int .i64 c, .int .i64 d] 46)).alloc (.cells #[.slice none 0 0, .int .i64 0, .int .i64 0] 46)).heap.size = w.heap.size + 2) := by show _ = _; simp
  have wm : 0 ≤ m ∧ m ≤ 1000000000000000 ∧ m ≤ am := by omega
  have HWC : Hid (wrap64 (c - m) = c2) := by show _ = _; rw [hc2]; exact IntWalk.wrap64_in _ ⟨by omega, by omega⟩
  have HW1 : Hid (IntKind.i64.wrap (y + am) = y + am) := IntWalk.i64_in _ ⟨by omega, by omega⟩
  have HW2 : Hid (IntKind.i64.wrap (y + am - m) = z) := by show _ = _; rw [hz]; exact IntWalk.i64_in _ ⟨by omega, by omega⟩
  have HW3 : Hid (wrap64 (y + am) = y + am) := IntWalk.wrap64_in _ ⟨by omega, by omega⟩
  have HW4 : Hid (wrap64 (y + am - m) = z) := by show _ = _; rw [hz]; exact IntWalk.wrap64_in _ ⟨by omega, by omega⟩
  have HX := Lib.hid (And.intro hi hlen)
  have HM : Hid ((if am < c then am else c) = m) := by show _ = _; split <;> omega
  clear hB0 hm hz hc2 wm hi hb
  go_enter Try.func75, Try.ntmps75
  go_wp2_with fail
  refine (refCopy11_any _ bs c d HX.out.2 _ (HV.out.below HW0.out)).mono ?_
  rintro _ w3 ⟨q3, rfl, hown, hb3⟩
  rw [HSZ.out] at hown
  obtain ⟨ao3, capr, rfl, hnc, hcm, hBR⟩ := own_block hown
  obtain ⟨gr, hgr0, hgr1, cur, hcur1, hcur2, hcur3⟩ := hBR (by have := HX.out.1; omega)
  subst hgr0
  obtain ⟨n, hn⟩ : ∃ n, bs.length = n := ⟨_, rfl⟩
  have HN := Lib.hid hn
  have HNR : Hid (Nums w3 gr capr bs) := ⟨cur, hcur1, hcur2, hcur3⟩
  have hbr : w.heap.size + 2 ≤ gr := by omega
  rw [hn] at hnc ⊢
  have hB3 := HB0.out.below hb3
  have f0 := hB3.frozen 0
  have f1 := hB3.frozen 1
  have f2 := hB3.frozen 2
  have c0 := hB3.cell 0
  have c1 := hB3.cell 1
  have c2' := hB3.cell 2
  simp only [List.getElem?_cons_zero, List.getElem?_cons_succ] at c0 c1 c2'
  have HB3 := Lib.hid hB3
  have HR3 := Lib.hid (HBLK.out.below hb3)
  have HBF3 := Lib.hid (bl_tr HW0.out hb3)
  have hgr3 := HNR.out.lt
  have hR1 := HR3.out.lt
  clear hB3 hown hb3 hn hcur1 hcur2 hcur3 hgr1 cur HBLK HB0 HW0 HSZ HV
  have hin : i < n := by have := HX.out.1; have := HN.out; omega
  have hin2 : i < capr := by omega
  have hin3 : (i : Int) < (n : Int) := by omega
  have wC := HWC.out
  have hmm := HM.out
  go_upto_region 4 with fail
  simp only [wC]
  clear wC hmm
  obtain ⟨W, hW, gP, gN, gR, gw⟩ : ∃ W, ((((w3.setCell ⟨w.heap.size, 0, none⟩ (.slice (some ⟨gr, 0, none⟩) n capr)).setCell ⟨w.heap.size, 1, none⟩ (.int .i64 c)).setCell ⟨w.heap.size, 2, none⟩ (.int .i64 d)).setCell ⟨w.heap.size, 1, none⟩ (.int .i64 c2)) = W ∧ Blk W w.heap.size 46 [.slice (some ⟨gr, 0, none⟩) n capr, .int .i64 c2, .int .i64 d] ∧ Nums W gr capr bs ∧ Hid (Blk W (w.heap.size + 1) 46 [.slice none 0 0, .int .i64 0, .int .i64 0]) ∧ Hid (Below w.heap.size w W) := by
    refine ⟨_, rfl, ?_, ?_, ?_, ?_⟩
    · exact (((HB3.out.set 0 _).set 1 _).set 2 _).set 1 _
    · exact (((HNR.out.setOther (by omega) 0 _).setOther (by omega) 1 _).setOther (by omega) 2 _).setOther (by omega) 1 _
    · exact (((HR3.out.setOther (by omega) 0 _).setOther (by omega) 1 _).setOther (by omega) 2 _).setOther (by omega) 1 _
    · exact (bl_s3 HBF3.out (Nat.le_refl _) _ _ _).setCell (Nat.le_refl _) _
  with_reducible rw [hW]
  have c0 := gP.cell 0
  simp only [List.getElem?_cons_zero] at c0
  have c5 := gN.cell (i := i) (by have := HX.out.1; omega)
  rw [hy.out] at c5
  have f5 := gN.frozen i
  have GP := Lib.hid gP
  have GN := Lib.hid gN
  have wi1 : IntKind.i64.wrap (i : Int) = i := IntWalk.i64_in _ ⟨by omega, by have := HX.out.1; have := HX.out.2; omega⟩
  have wi2 : wrap64 (i : Int) = i := IntWalk.wrap64_in _ ⟨by omega, by have := HX.out.1; have := HX.out.2; omega⟩
  have w1 := HW1.out
  have w2 := HW2.out
  have w3' := HW3.out
  have w4' := HW4.out
  clear hW HB3 HNR HR3 HBF3 c1 c2' f0 f1 f2 gP gN
  go_wp2_with fail
  go_region
  clear c0 c5 f5 wi1 wi2 w1 w2 w3' w4'
  have hPz : Blk (W.setCell ⟨gr, i, none⟩ (.int .i64 z)).drew w.heap.size 46 [.slice (some ⟨gr, 0, none⟩) n capr, .int .i64 c2, .int .i64 d] := GP.out.setOther (by omega) _ _
  have hNz : Nums (W.setCell ⟨gr, i, none⟩ (.int .i64 z)).drew gr capr (bs.set i z) := GN.out.set i z
  have hRz : Blk (W.setCell ⟨gr, i, none⟩ (.int .i64 z)).drew (w.heap.size + 1) 46 [.slice none 0 0, .int .i64 0, .int .i64 0] := gR.out.setOther (by omega) _ _
  have hBz : Below w.heap.size w (W.setCell ⟨gr, i, none⟩ (.int .i64 z)).drew := (gw.out.setCell (show w.heap.size ≤ gr by omega) _).drew
  obtain ⟨W2, hW2⟩ : ∃ W2, (W.setCell ⟨gr, i, none⟩ (.int .i64 z)).drew = W2 := ⟨_, rfl⟩
  rw [hW2] at hPz hNz hRz hBz
  with_reducible rw [hW2]
  clear hW2 GP GN gR gw
  have HSLn : Hid ((bs.set i z).length = n) := by show _ = _; rw [List.length_set]; exact HN.out
  have c0 := hPz.cell 0
  have c1 := hPz.cell 1
  have c2' := hPz.cell 2
  simp only [List.getElem?_cons_zero, List.getElem?_cons_succ] at c0 c1 c2'
  have HSz := Lib.hid (hNz.sl HSLn.out hnc hcm)
  have HNz := Lib.hid hNz
  have HRz := Lib.hid hRz
  have HPz := Lib.hid hPz
  have HBz := Lib.hid hBz
  clear hPz hNz hRz hBz
  go_wp2_with fail
  refine (refRight11_any _ (bs.set i z) c2 d _ hq _ HSz.out).mono ?_
  rintro _ w7 ⟨rfl, hb7⟩
  have hR7 := HRz.out.below hb7
  have r0 := hR7.cell 0
  have r1 := hR7.cell 1
  have r2 := hR7.cell 2
  simp only [List.getElem?_cons_zero, List.getElem?_cons_succ] at r0 r1 r2
  have e0 := hR7.frozen 0
  have e1 := hR7.frozen 1
  have e2 := hR7.frozen 2
  have hP7 := HPz.out.below hb7
  clear c0 c1 c2'
  have c0 := hP7.cell 0
  have c1 := hP7.cell 1
  have c2' := hP7.cell 2
  simp only [List.getElem?_cons_zero, List.getElem?_cons_succ] at c0 c1 c2'
  have hbf4 : Below w.heap.size w w7 := bl_tr HBz.out hb7
  have HN4 := Lib.hid (HNz.out.below hb7)
  have HSL := HSLn
  have hlt4 := hR7.lt
  clear hR7 hb7 hP7
  go_wp2
  refine bodyPost_ret (v := .tuple #[.agg #[.slice (some ⟨gr, 0, none⟩) n capr, .int .i64 c2, .int .i64 d], .int .i64 0]) (by simp [results, Try.results75, go_sem, r0, r1, r2]) rfl ⟨.slice (some ⟨gr, 0, none⟩) n capr, rfl, ⟨(((HN4.out.setOther (by omega) 0 _).setOther (by omega) 1 _).setOther (by omega) 2 _).sl HSL.out hnc hcm, fr_of fun _ => ⟨rfl, by omega⟩⟩, bl_s3 hbf4 (by omega) _ _ _⟩

set_option maxHeartbeats 3200000 in
set_option maxRecDepth 100000 in
theorem refAdd11_bad (v : Value) (bs : List Int) (c d : Int) (i : Nat) (am y m z c2 : Int) (hi : i < bs.length) (hy : Hid (bs.getD i 0 = y)) (hm : min c am = m) (hz : y + am - m = z) (hc2 : c - m = c2) (hb : (0 ≤ y ∧ y ≤ 1000000000000000) ∧ (0 ≤ c ∧ c ≤ 1000000000000000) ∧ (0 ≤ am ∧ am ≤ 1000000000000000)) (hq : Hid (rightP (bs.set i z) c2 d = false)) (hlen : bs.length ≤ 1000) (w : World) (hv : Sl .i64 w v bs) :
    Calls Try.prog 75 #[.agg #[v, .int .i64 c, .int .i64 d], .int .i64 ((i : Int) + 1), .int .i64 am] w (RetPosN ([], 0, 0, 5) w) := by
  have HV := Lib.hid hv
  obtain ⟨ao, cap, rfl, h1, ⟨h2, _⟩, h3⟩ := hv
  clear h3
  unfold maxLen at h2
  have HBLK : Hid (Blk ((w.alloc (.cells #[.slice ao bs.length cap, .int .i64 c, .int .i64 d] 46)).alloc (.cells #[.slice none 0 0, .int .i64 0, .int .i64 0] 46)) (w.heap.size + 1) 46 [.slice none 0 0, .int .i64 0, .int .i64 0]) := by
    have := heap_alloc_new (w.alloc (.cells #[.slice ao bs.length cap, .int .i64 c, .int .i64 d] 46)) (.cells #[.slice none 0 0, .int .i64 0, .int .i64 0] 46)
    simpa [Blk, Hid] using this
  have hB0 : Blk (w.alloc (.cells #[.slice ao bs.length cap, .int .i64 c, .int .i64 d] 46)) w.heap.size 46 [.slice ao bs.length cap, .int .i64 c, .int .i64 d] := heap_alloc_new w _
  have HB0 := Lib.hid (hB0.below (bl_al (Below.refl _ _) (.cells #[.slice none 0 0, .int .i64 0, .int .i64 0] 46)))
  have HW0 : Hid (Below w.heap.size w ((w.alloc (.cells #[.slice ao bs.length cap, .int .i64 c, .int .i64 d] 46)).alloc (.cells #[.slice none 0 0, .int .i64 0, .int .i64 0] 46))) := bl_al (bl_al (Below.refl _ _) _) _
  have HSZ : Hid (((w.alloc (.cells #[.slice ao bs.length cap, .int .i64 c, .int .i64 d] 46)).alloc (.cells #[.slice none 0 0, .int .i64 0, .int .i64 0] 46)).heap.size = w.heap.size + 2) := by show _ = _; simp
  have wm : 0 ≤ m ∧ m ≤ 1000000000000000 ∧ m ≤ am := by omega
  have HWC : Hid (wrap64 (c - m) = c2) := by show _ = _; rw [hc2]; exact IntWalk.wrap64_in _ ⟨by omega, by omega⟩
  have HW1 : Hid (IntKind.i64.wrap (y + am) = y + am) := IntWalk.i64_in _ ⟨by omega, by omega⟩
  have HW2 : Hid (IntKind.i64.wrap (y + am - m) = z) := by show _ = _; rw [hz]; exact IntWalk.i64_in _ ⟨by omega, by omega⟩
  have HW3 : Hid (wrap64 (y + am) = y + am) := IntWalk.wrap64_in _ ⟨by omega, by omega⟩
  have HW4 : Hid (wrap64 (y + am - m) = z) := by show _ = _; rw [hz]; exact IntWalk.wrap64_in _ ⟨by omega, by omega⟩
  have HX := Lib.hid (And.intro hi hlen)
  have HM : Hid ((if am < c then am else c) = m) := by show _ = _; split <;> omega
  clear hB0 hm hz hc2 wm hi hb
  go_enter Try.func75, Try.ntmps75
  go_wp2_with fail
  refine (refCopy11_any _ bs c d HX.out.2 _ (HV.out.below HW0.out)).mono ?_
  rintro _ w3 ⟨q3, rfl, hown, hb3⟩
  rw [HSZ.out] at hown
  obtain ⟨ao3, capr, rfl, hnc, hcm, hBR⟩ := own_block hown
  obtain ⟨gr, hgr0, hgr1, cur, hcur1, hcur2, hcur3⟩ := hBR (by have := HX.out.1; omega)
  subst hgr0
  obtain ⟨n, hn⟩ : ∃ n, bs.length = n := ⟨_, rfl⟩
  have HN := Lib.hid hn
  have HNR : Hid (Nums w3 gr capr bs) := ⟨cur, hcur1, hcur2, hcur3⟩
  have hbr : w.heap.size + 2 ≤ gr := by omega
  rw [hn] at hnc ⊢
  have hB3 := HB0.out.below hb3
  have f0 := hB3.frozen 0
  have f1 := hB3.frozen 1
  have f2 := hB3.frozen 2
  have c0 := hB3.cell 0
  have c1 := hB3.cell 1
  have c2' := hB3.cell 2
  simp only [List.getElem?_cons_zero, List.getElem?_cons_succ] at c0 c1 c2'
  have HB3 := Lib.hid hB3
  have HR3 := Lib.hid (HBLK.out.below hb3)
  have HBF3 := Lib.hid (bl_tr HW0.out hb3)
  have hgr3 := HNR.out.lt
  have hR1 := HR3.out.lt
  clear hB3 hown hb3 hn hcur1 hcur2 hcur3 hgr1 cur HBLK HB0 HW0 HSZ HV
  have hin : i < n := by have := HX.out.1; have := HN.out; omega
  have hin2 : i < capr := by omega
  have hin3 : (i : Int) < (n : Int) := by omega
  have wC := HWC.out
  have hmm := HM.out
  go_upto_region 4 with fail
  simp only [wC]
  clear wC hmm
  obtain ⟨W, hW, gP, gN, gR, gw⟩ : ∃ W, ((((w3.setCell ⟨w.heap.size, 0, none⟩ (.slice (some ⟨gr, 0, none⟩) n capr)).setCell ⟨w.heap.size, 1, none⟩ (.int .i64 c)).setCell ⟨w.heap.size, 2, none⟩ (.int .i64 d)).setCell ⟨w.heap.size, 1, none⟩ (.int .i64 c2)) = W ∧ Blk W w.heap.size 46 [.slice (some ⟨gr, 0, none⟩) n capr, .int .i64 c2, .int .i64 d] ∧ Nums W gr capr bs ∧ Hid (Blk W (w.heap.size + 1) 46 [.slice none 0 0, .int .i64 0, .int .i64 0]) ∧ Hid (Below w.heap.size w W) := by
    refine ⟨_, rfl, ?_, ?_, ?_, ?_⟩
    · exact (((HB3.out.set 0 _).set 1 _).set 2 _).set 1 _
    · exact (((HNR.out.setOther (by omega) 0 _).setOther (by omega) 1 _).setOther (by omega) 2 _).setOther (by omega) 1 _
    · exact (((HR3.out.setOther (by omega) 0 _).setOther (by omega) 1 _).setOther (by omega) 2 _).setOther (by omega) 1 _
    · exact (bl_s3 HBF3.out (Nat.le_refl _) _ _ _).setCell (Nat.le_refl _) _
  with_reducible rw [hW]
  have c0 := gP.cell 0
  simp only [List.getElem?_cons_zero] at c0
  have c5 := gN.cell (i := i) (by have := HX.out.1; omega)
  rw [hy.out] at c5
  have f5 := gN.frozen i
  have GP := Lib.hid gP
  have GN := Lib.hid gN
  have wi1 : IntKind.i64.wrap (i : Int) = i := IntWalk.i64_in _ ⟨by omega, by have := HX.out.1; have := HX.out.2; omega⟩
  have wi2 : wrap64 (i : Int) = i := IntWalk.wrap64_in _ ⟨by omega, by have := HX.out.1; have := HX.out.2; omega⟩
  have w1 := HW1.out
  have w2 := HW2.out
  have w3' := HW3.out
  have w4' := HW4.out
  clear hW HB3 HNR HR3 HBF3 c1 c2' f0 f1 f2 gP gN
  go_wp2_with fail
  go_region
  clear c0 c5 f5 wi1 wi2 w1 w2 w3' w4'
  have hPz : Blk (W.setCell ⟨gr, i, none⟩ (.int .i64 z)).drew w.heap.size 46 [.slice (some ⟨gr, 0, none⟩) n capr, .int .i64 c2, .int .i64 d] := GP.out.setOther (by omega) _ _
  have hNz : Nums (W.setCell ⟨gr, i, none⟩ (.int .i64 z)).drew gr capr (bs.set i z) := GN.out.set i z
  have hRz : Blk (W.setCell ⟨gr, i, none⟩ (.int .i64 z)).drew (w.heap.size + 1) 46 [.slice none 0 0, .int .i64 0, .int .i64 0] := gR.out.setOther (by omega) _ _
  have hBz : Below w.heap.size w (W.setCell ⟨gr, i, none⟩ (.int .i64 z)).drew := (gw.out.setCell (show w.heap.size ≤ gr by omega) _).drew
  obtain ⟨W2, hW2⟩ : ∃ W2, (W.setCell ⟨gr, i, none⟩ (.int .i64 z)).drew = W2 := ⟨_, rfl⟩
  rw [hW2] at hPz hNz hRz hBz
  with_reducible rw [hW2]
  clear hW2 GP GN gR gw
  have HSLn : Hid ((bs.set i z).length = n) := by show _ = _; rw [List.length_set]; exact HN.out
  have c0 := hPz.cell 0
  have c1 := hPz.cell 1
  have c2' := hPz.cell 2
  simp only [List.getElem?_cons_zero, List.getElem?_cons_succ] at c0 c1 c2'
  have HSz := Lib.hid (hNz.sl HSLn.out hnc hcm)
  have HNz := Lib.hid hNz
  have HRz := Lib.hid hRz
  have HPz := Lib.hid hPz
  have HBz := Lib.hid hBz
  clear hPz hNz hRz hBz
  go_wp2_with fail
  refine (refRight11_any _ (bs.set i z) c2 d _ hq _ HSz.out).mono ?_
  rintro _ w7 ⟨rfl, hb7⟩
  have hR7 := HRz.out.below hb7
  have r0 := hR7.cell 0
  have r1 := hR7.cell 1
  have r2 := hR7.cell 2
  simp only [List.getElem?_cons_zero, List.getElem?_cons_succ] at r0 r1 r2
  have e0 := hR7.frozen 0
  have e1 := hR7.frozen 1
  have e2 := hR7.frozen 2
  have hP7 := HPz.out.below hb7
  clear c0 c1 c2'
  have c0 := hP7.cell 0
  have c1 := hP7.cell 1
  have c2' := hP7.cell 2
  simp only [List.getElem?_cons_zero, List.getElem?_cons_succ] at c0 c1 c2'
  have hbf4 : Below w.heap.size w w7 := bl_tr HBz.out hb7
  have HN4 := Lib.hid (HNz.out.below hb7)
  have HSL := HSLn
  have hlt4 := hR7.lt
  clear hR7 hb7 hP7
  go_wp2
  refine bodyPost_ret (v := .tuple #[.agg #[.slice none 0 0, .int .i64 0, .int .i64 0], .int .i64 5]) (by simp [results, Try.results75, go_sem, r0, r1, r2]) rfl ⟨.slice none 0 0, rfl, ⟨Sl.nil, fr_nil⟩, bl_s3 hbf4 (by omega) _ _ _⟩

/-- What is added to a tranche, the credit first. -/
def addS (bs : List Int) (c d : Int) (i : Nat) (am : Int) : List Int × Int × Int × Int :=
  if rightP (bs.set i (bs.getD i 0 + (am - min am c))) (c - min am c) d = true then (bs.set i (bs.getD i 0 + (am - min am c)), c - min am c, d, 0) else ([], 0, 0, 5)
theorem refAdd11_any (v : Value) (bs : List Int) (c d : Int) (i : Nat) (am : Int) (s : List Int × Int × Int × Int) (hs : Hid (addS bs c d i am = s)) (hi : i < bs.length) (hr : rightP bs c d = true) (ham : 0 ≤ am ∧ am ≤ 1000000000000000) (hlen : bs.length ≤ 1000) (w : World) (hv : Sl .i64 w v bs) :
    Calls Try.prog 75 #[.agg #[v, .int .i64 c, .int .i64 d], .int .i64 ((i : Int) + 1), .int .i64 am] w (RetPosN s w) := by
  have hs := hs.out
  subst hs
  obtain ⟨hc, hm⟩ := rightP_may hr
  have hy := hm i hi
  have e1 : min c am = min am c := Int.min_comm _ _
  have e2 : bs.getD i 0 + am - min am c = bs.getD i 0 + (am - min am c) := by omega
  unfold addS
  cases hq : rightP (bs.set i (bs.getD i 0 + (am - min am c))) (c - min am c) d with
  | true => rw [if_pos rfl]; exact refAdd11_ok v bs c d i am _ _ _ _ hi rfl e1 e2 rfl ⟨hy, hc, ham⟩ hq hlen w hv
  | false => rw [if_neg (by simp)]; exact refAdd11_bad v bs c d i am _ _ _ _ hi rfl e1 e2 rfl ⟨hy, hc, ham⟩ hq hlen w hv
end Go.Proofs.Ytllblmoojohffaa

namespace Go.Proofs.Ytllblmoojohffaa
open Go.RowKit

theorem sumK_sum {bs : List Int} (n : Nat) (hn : n ≤ bs.length) : sumK bs n = (bs.take n).sum := by
  induction n with
  | zero => simp [sumK]
  | succ n ih =>
    rw [sumK, ih (by omega), List.take_succ_eq_append_getElem (by omega), List.sum_append]
    simp [List.getD, show n < bs.length by omega]
theorem rightP_iff {bs : List Int} {c d : Int} : rightP bs c d = true ↔ (1 ≤ bs.length ∧ bs.length ≤ 8) ∧ (0 ≤ c ∧ c ≤ 1000000000000000) ∧ (0 ≤ d ∧ d ≤ 1000000000000000) ∧ (∀ j, j < bs.length → 0 ≤ bs.getD j 0 ∧ bs.getD j 0 ≤ 1000000000000000) ∧ (0 ≤ sumK bs bs.length ∧ sumK bs bs.length ≤ 1000000000000000) ∧ (c = 0 ∨ sumK bs bs.length = 0) := by
  rw [← rightD_eq]
  unfold rightD
  simp only [Bool.and_eq_true, decide_eq_true_eq, may0_iff, Bool.or_eq_true, beq_iff_eq, List.all_eq_true, List.mem_range]
  constructor
  · rintro ⟨⟨⟨⟨⟨h1, h2⟩, h3⟩, h4⟩, h5⟩, h6, h7⟩
    exact ⟨⟨h1, h2⟩, h3, h4, h5, h6, h7⟩
  · rintro ⟨⟨h1, h2⟩, h3, h4, h5, h6, h7⟩
    exact ⟨⟨⟨⟨⟨h1, h2⟩, h3⟩, h4⟩, h5⟩, h6, h7⟩
theorem sumK_set (bs : List Int) (k : Nat) (x : Int) (hk : k < bs.length) (n : Nat) : sumK (bs.set k x) n = sumK bs n + (if k < n then x - bs.getD k 0 else 0) := by
  induction n with
  | zero => simp [sumK]
  | succ n ih =>
    rw [sumK, sumK, ih]
    by_cases e : k = n
    · subst e
      have e1 : (bs.set k x).getD k 0 = x := by simp [List.getD, hk]
      rw [e1, if_neg (by omega), if_pos (by omega)]
      omega
    · have e1 : (bs.set k x).getD n 0 = bs.getD n 0 := by simp [List.getD, e]
      rw [e1]
      by_cases h : k < n
      · rw [if_pos h, if_pos (by omega)]; omega
      · rw [if_neg h, if_neg (by omega)]; omega
/-- What each step of the interest keeps. -/
theorem bearSt_inv {ns bs : List Int} {c d : Int} (hr : rightP bs c d = true) (ha : ns.any notMay = false) (k : Nat) (hk : k ≤ bs.length) :
    (0 ≤ (bearSt ns bs c k).2 ∧ (bearSt ns bs c k).2 ≤ 1000000000000000) ∧ (∀ j, j < bs.length → 0 ≤ (bearSt ns bs c k).1.getD j 0) ∧ 0 ≤ sumK (bearSt ns bs c k).1 bs.length ∧ ((bearSt ns bs c k).2 = 0 ∨ sumK (bearSt ns bs c k).1 bs.length = 0) := by
  obtain ⟨_, hc, _, hb, hs, ho⟩ := rightP_iff.1 hr
  induction k with
  | zero => exact ⟨hc, fun j hj => (hb j hj).1, hs.1, ho⟩
  | succ k ih =>
    obtain ⟨i1, i2, i3, i4⟩ := ih (by omega)
    have hv := any_may ha k
    have hl := bearSt_len ns bs c k
    have hx := i2 k (by omega)
    simp only [bearSt]
    generalize (bearSt ns bs c k).1 = L at *
    generalize (bearSt ns bs c k).2 = C at *
    generalize ns.getD k 0 = v at *
    have hset := sumK_set L k (L.getD k 0 + (v - min v C)) (by omega) bs.length
    rw [if_pos (by omega)] at hset
    refine ⟨by omega, ?_, by omega, by omega⟩
    intro j hj
    by_cases e : k = j
    · subst e
      have e1 : (L.set k (L.getD k 0 + (v - min v C))).getD k 0 = L.getD k 0 + (v - min v C) := by simp [List.getD, show k < L.length by omega]
      rw [e1]
      omega
    · have e1 : (L.set k (L.getD k 0 + (v - min v C))).getD j 0 = L.getD j 0 := by simp [List.getD, e]
      rw [e1]
      exact i2 j hj
theorem bearSt_mono {ns bs : List Int} {c d : Int} (hr : rightP bs c d = true) (ha : ns.any notMay = false) (k : Nat) (hk : k < bs.length) :
    sumK (bearSt ns bs c k).1 bs.length ≤ sumK (bearSt ns bs c (k + 1)).1 bs.length ∧ ∀ j, (bearSt ns bs c k).1.getD j 0 ≤ (bearSt ns bs c (k + 1)).1.getD j 0 := by
  obtain ⟨i1, i2, i3, i4⟩ := bearSt_inv hr ha k (by omega)
  have hv := any_may ha k
  have hl := bearSt_len ns bs c k
  simp only [bearSt]
  generalize (bearSt ns bs c k).1 = L at *
  generalize (bearSt ns bs c k).2 = C at *
  generalize ns.getD k 0 = v at *
  have hset := sumK_set L k (L.getD k 0 + (v - min v C)) (by omega) bs.length
  rw [if_pos (by omega)] at hset
  refine ⟨by omega, fun j => ?_⟩
  by_cases e : k = j
  · subst e
    have e1 : (L.set k (L.getD k 0 + (v - min v C))).getD k 0 = L.getD k 0 + (v - min v C) := by simp [List.getD, show k < L.length by omega]
    rw [e1]
    omega
  · have e1 : (L.set k (L.getD k 0 + (v - min v C))).getD j 0 = L.getD j 0 := by simp [List.getD, e]
    rw [e1]
    exact Int.le_refl _
/-- Where all of it may be, each step may be. -/
theorem bearSt_right {ns bs : List Int} {c d : Int} (hr : rightP bs c d = true) (ha : ns.any notMay = false) (hn : rightP (bearSt ns bs c bs.length).1 (bearSt ns bs c bs.length).2 d = true) (k : Nat) (hk : k ≤ bs.length) : rightP (bearSt ns bs c k).1 (bearSt ns bs c k).2 d = true := by
  have key : ∀ g m, m + g = bs.length → sumK (bearSt ns bs c m).1 bs.length ≤ sumK (bearSt ns bs c bs.length).1 bs.length ∧ ∀ j, (bearSt ns bs c m).1.getD j 0 ≤ (bearSt ns bs c bs.length).1.getD j 0 := by
    intro g
    induction g with
    | zero =>
      intro m hm
      have : m = bs.length := by omega
      rw [this]
      exact ⟨Int.le_refl _, fun _ => Int.le_refl _⟩
    | succ g ih =>
      intro m hm
      obtain ⟨a1, a2⟩ := ih (m + 1) (by omega)
      obtain ⟨b1, b2⟩ := bearSt_mono hr ha m (by omega)
      exact ⟨Int.le_trans b1 a1, fun j => Int.le_trans (b2 j) (a2 j)⟩
  obtain ⟨k1, k2⟩ := key (bs.length - k) k (by omega)
  obtain ⟨i1, i2, i3, i4⟩ := bearSt_inv hr ha k hk
  obtain ⟨n1, n2, n3, n4, n5, n6⟩ := rightP_iff.1 hn
  rw [bearSt_len] at n1 n4 n5
  refine rightP_iff.2 ?_
  rw [bearSt_len]
  exact ⟨n1, i1, n3, fun j hj => ⟨i2 j hj, Int.le_trans (k2 j) (n4 j hj).2⟩, ⟨i3, Int.le_trans k1 n5.2⟩, i4⟩
theorem addS_bear {ns bs : List Int} {c d : Int} (k : Nat) : addS (bearSt ns bs c k).1 (bearSt ns bs c k).2 d k (ns.getD k 0) = if rightP (bearSt ns bs c (k + 1)).1 (bearSt ns bs c (k + 1)).2 d = true then ((bearSt ns bs c (k + 1)).1, (bearSt ns bs c (k + 1)).2, d, 0) else ([], 0, 0, 5) := rfl

set_option maxHeartbeats 800000 in
theorem refTotal11_any (v : Value) (bs : List Int) (c d t : Int) (ht : Hid (totalP bs c d = t)) (w : World) (hv : Sl .i64 w v bs) :
    Calls Try.prog 55 #[.agg #[v, .int .i64 c, .int .i64 d]] w (RetB (.int .i64 t) w) := by
  have HV := Lib.hid hv
  obtain ⟨ao, cap, rfl, h1, ⟨h2, _⟩, h3⟩ := hv
  clear h3
  unfold maxLen at h2
  have HP := Lib.hid (PB.new w 46 (.slice ao bs.length cap) c d)
  obtain ⟨p0, p1, p2⟩ := HP.out
  have hb0 : Below w.heap.size w (w.alloc (.cells #[.slice ao bs.length cap, .int .i64 c, .int .i64 d] 46)) := bl_al (Below.refl _ _) _
  cases hr : rightP bs c d with
  | false =>
    obtain rfl : 0 = t := by rw [← ht.out]; unfold totalP; rw [hr]; rfl
    have HR := Lib.hid hr
    clear ht hr
    go_enter Try.func55, Try.ntmps55
    go_wp2_with fail
    refine (refRight11_any _ bs c d false HR _ (HV.out.below hb0)).mono ?_
    rintro _ w1 ⟨rfl, hb1⟩
    go_wp2
    go_ret
    exact ⟨rfl, bl_tr hb0 hb1⟩
  | true =>
    obtain ⟨⟨l1, l8⟩, _, _, hb, hs, _⟩ := rightP_iff.1 hr
    have HT : Hid (sumK bs bs.length = t) := by
      show _ = _
      rw [← ht.out, sumK_sum _ (Nat.le_refl _), List.take_length]
      unfold totalP
      rw [if_pos hr]
    have HR := Lib.hid hr
    have HBB := Lib.hid hb
    have HL := Lib.hid l8
    clear ht hr hb hs l1 l8
    go_enter Try.func55, Try.ntmps55
    go_wp2_with fail
    refine (refRight11_any _ bs c d true HR _ (HV.out.below hb0)).mono ?_
    rintro _ w1 ⟨rfl, hb1⟩
    obtain ⟨q0, q1, q2⟩ := HP.out.below hb1
    have HB1 := Lib.hid (bl_tr hb0 hb1)
    have HV1 := Lib.hid (HV.out.below (bl_tr hb0 hb1))
    clear p0 p1 p2 hb0 hb1
    go_wp2_with fail
    go_loopg [3, 4] bs.length (fun g a i wr => ∃ (k : Nat) (all : Int), k + g = bs.length ∧ i = .int .i64 k ∧ a = .int .i64 all ∧ Hid (sumK bs k = all) ∧ Hid (0 ≤ all ∧ all ≤ 1000000000000000 * k) ∧ w1 = wr)
    case atStart => exact ⟨0, 0, by omega, rfl, rfl, rfl, by show _ ∧ _; omega, rfl⟩
    case round =>
      obtain ⟨k, all, hkg, rfl, rfl, HA, HB, rfl⟩ := hrel
      cases gk with
      | zero =>
        have hlt : ¬ ((k : Int) < (bs.length : Int)) := by omega
        have hk : k = bs.length := by omega
        obtain rfl : all = t := by rw [← HA.out, hk]; exact HT.out
        go_wp2
        go_ret
        exact ⟨rfl, HB1.out⟩
      | succ g =>
        have hlt : (k : Int) < (bs.length : Int) := by omega
        obtain ⟨b, o, y, rfl, hcell, HX⟩ := HV1.out.get (i := k) (by omega)
        have hy := HBB.out k (by omega)
        rw [HX.out] at hy
        have hB := HB.out
        have hk8 : k < 8 := by have := HL.out; omega
        obtain ⟨s, hs⟩ : ∃ s, all + y = s := ⟨_, rfl⟩
        have HS : Hid (sumK bs (k + 1) = s) := by show _ = _; rw [sumK, HA.out, HX.out, hs]
        have HSB : Hid (0 ≤ s ∧ s ≤ 1000000000000000 * ((k + 1 : Nat) : Int)) := by show _ ∧ _; omega
        have wS : wrap64 (all + y) = s := by rw [hs]; exact IntWalk.wrap64_in _ ⟨by omega, by omega⟩
        have WS := Lib.hid wS
        clear hy hB hk8 hs wS HA HB
        go_wp2_with fail
        go_roundg g
        case measure => omega
        case rel => exact ⟨k + 1, s, by omega, by go_num, by first | rfl | exact congrArg (Value.int .i64) WS.out, HS, HSB, rfl⟩
end Go.Proofs.Ytllblmoojohffaa

namespace Go.Proofs.Ytllblmoojohffaa
open Go.RowKit
theorem fr_own {w w' : World} {base : Nat} {e : TypeId} {size n : Nat} {v : Value} {xs : List Value} (h : w'.ownsRow base e size v n xs) (hb : w.heap.size ≤ base) : Fr w v := by
  intro b o m c e1 _
  rcases h.2 with ⟨rfl, _⟩ | ⟨g, cap, cur, rfl, hg, _⟩
  · cases e1
  · cases e1
    omega
theorem rightP_due8 {bs : List Int} {c d : Int} (h : rightP bs c d = true) : (0 ≤ d ∧ d ≤ 1000000000000000) ∧ bs.length ≤ 8 ∧ 1 ≤ bs.length := by
  unfold rightP at h
  cases hs : sumsB 0 bs with
  | none => rw [hs] at h; simp at h
  | some s =>
    rw [hs] at h
    simp only [Bool.and_eq_true, decide_eq_true_eq] at h
    exact ⟨may0_iff.1 h.1.2, h.1.1.1.2, h.1.1.1.1⟩

theorem keep4 {w w' : World} {a b c d : Addr} {x y z t : Value} (h1 : w.cell? ⟨a.block, a.off, none⟩ = some x) (h2 : w.cell? ⟨b.block, b.off, none⟩ = some y) (h3 : w.cell? ⟨c.block, c.off, none⟩ = some z) (h4 : w.cell? ⟨d.block, d.off, none⟩ = some t) (hb : Below w.heap.size w w') :
    w'.cell? ⟨a.block, a.off, none⟩ = some x ∧ w'.cell? ⟨b.block, b.off, none⟩ = some y ∧ w'.cell? ⟨c.block, c.off, none⟩ = some z ∧ w'.cell? ⟨d.block, d.off, none⟩ = some t :=
  ⟨(hb.cell (p := ⟨a.block, a.off, none⟩) (cell_block_lt h1)).trans h1, (hb.cell (p := ⟨b.block, b.off, none⟩) (cell_block_lt h2)).trans h2, (hb.cell (p := ⟨c.block, c.off, none⟩) (cell_block_lt h3)).trans h3, (hb.cell (p := ⟨d.block, d.off, none⟩) (cell_block_lt h4)).trans h4⟩
def bearOk (bs ns : List Int) (c d : Int) : Bool := rightP bs c d && ns.length == bs.length
theorem bearS_no {bs ns : List Int} {c d : Int} (h : (bearOk bs ns c d && !ns.any notMay) = false) : bearS bs c d ns = ([], 0, 0, 1) := by
  unfold bearS
  unfold bearOk at h
  cases hr : rightP bs c d with
  | false => rfl
  | true =>
    cases hl : (ns.length == bs.length) with
    | false => rfl
    | true =>
      cases ha : ns.any notMay with
      | true => rfl
      | false => rw [hr, hl, ha] at h; cases h
theorem bearS_yes {bs ns : List Int} {c d : Int} (h : (bearOk bs ns c d && !ns.any notMay) = true) : rightP bs c d = true ∧ ns.length = bs.length ∧ ns.any notMay = false ∧ bearS bs c d ns = if rightP (bearSt ns bs c bs.length).1 (bearSt ns bs c bs.length).2 d = true then ((bearSt ns bs c bs.length).1, (bearSt ns bs c bs.length).2, d, 0) else ([], 0, 0, 5) := by
  unfold bearOk at h
  simp only [Bool.and_eq_true, Bool.not_eq_true', beq_iff_eq] at h
  obtain ⟨⟨h1, h2⟩, h3⟩ := h
  refine ⟨h1, h2, h3, ?_⟩
  unfold bearS
  rw [h1, h3, show (ns.length == bs.length) = true by simp [h2]]
  rfl

set_option maxHeartbeats 1600000 in
set_option maxRecDepth 100000 in
theorem refBear11_no1 (v u : Value) (bs ns : List Int) (c d : Int) (HR : Hid (rightP bs c d = false)) (w : World) (hv : Sl .i64 w v bs) (hu : Sl .i64 w u ns) :
    Calls Try.prog 54 #[.agg #[v, .int .i64 c, .int .i64 d], u] w (RetPosN ([], 0, 0, 1) w) := by
  have HV := Lib.hid hv
  have HU := Lib.hid hu
  obtain ⟨ao, cap, rfl, h1, ⟨h2, _⟩, h3⟩ := hv
  clear h3
  obtain ⟨ao', cap', rfl, h1', ⟨h2', _⟩, h3⟩ := hu
  clear h3
  unfold maxLen at h2 h2'
  have HBLK : Hid (Blk ((w.alloc (.cells #[.slice ao bs.length cap, .int .i64 c, .int .i64 d] 46)).alloc (.cells #[.slice none 0 0, .int .i64 0, .int .i64 0] 46)) (w.heap.size + 1) 46 [.slice none 0 0, .int .i64 0, .int .i64 0]) := by
    have := heap_alloc_new (w.alloc (.cells #[.slice ao bs.length cap, .int .i64 c, .int .i64 d] 46)) (.cells #[.slice none 0 0, .int .i64 0, .int .i64 0] 46)
    simpa [Blk, Hid] using this
  have hB0 : Blk (w.alloc (.cells #[.slice ao bs.length cap, .int .i64 c, .int .i64 d] 46)) w.heap.size 46 [.slice ao bs.length cap, .int .i64 c, .int .i64 d] := heap_alloc_new w _
  have HB0 := Lib.hid (hB0.below (bl_al (Below.refl _ _) (.cells #[.slice none 0 0, .int .i64 0, .int .i64 0] 46)))
  have HW0 : Hid (Below w.heap.size w ((w.alloc (.cells #[.slice ao bs.length cap, .int .i64 c, .int .i64 d] 46)).alloc (.cells #[.slice none 0 0, .int .i64 0, .int .i64 0] 46))) := bl_al (bl_al (Below.refl _ _) _) _
  clear hB0
  go_enter Try.func54, Try.ntmps54
  go_wp2_with fail
  refine (refRight11_any _ bs c d false HR _ (HV.out.below HW0.out)).mono ?_
  rintro _ w1 ⟨rfl, hb1⟩
  have HB1 := Lib.hid (HB0.out.below hb1)
  have HR1 := Lib.hid (HBLK.out.below hb1)
  have HBF := Lib.hid (bl_tr HW0.out hb1)
  clear hb1
  go_wp2_with fail
  go_loopg [6, 7] ns.length (fun g s i wr => ∃ k : Nat, k + g = ns.length ∧ i = .int .i64 k ∧ s = .bool false ∧ w1 = wr)
  case atStart => exact ⟨0, by omega, rfl, rfl, rfl⟩
  case round =>
    obtain ⟨k, hkg, rfl, rfl, rfl⟩ := hrel
    cases gk with
    | succ g =>
      have hlt : (k : Int) < (ns.length : Int) := by omega
      go_wp2_with fail
      go_roundg g
      case measure => omega
      case rel => exact ⟨k + 1, by omega, by go_num, rfl, rfl⟩
    | zero =>
      have hlt : ¬ ((k : Int) < (ns.length : Int)) := by omega
      have hR := HR1.out
      have r0 := hR.cell 0
      have r1 := hR.cell 1
      have r2 := hR.cell 2
      simp only [List.getElem?_cons_zero, List.getElem?_cons_succ] at r0 r1 r2
      have f0 := hR.frozen 0
      have f1 := hR.frozen 1
      have f2 := hR.frozen 2
      have hlt4 := hR.lt
      clear hR
      go_wp2
      refine bodyPost_ret (v := .tuple #[.agg #[.slice none 0 0, .int .i64 0, .int .i64 0], .int .i64 1]) (by simp [results, Try.results54, go_sem, r0, r1, r2]) rfl ⟨.slice none 0 0, rfl, ⟨Sl.nil, fr_nil⟩, bl_s3 HBF.out (by omega) _ _ _⟩

set_option maxHeartbeats 1600000 in
set_option maxRecDepth 100000 in
theorem refBear11_no2 (v u : Value) (bs ns : List Int) (c d : Int) (HR : Hid (rightP bs c d = true)) (hl : ¬ ns.length = bs.length) (w : World) (hv : Sl .i64 w v bs) (hu : Sl .i64 w u ns) :
    Calls Try.prog 54 #[.agg #[v, .int .i64 c, .int .i64 d], u] w (RetPosN ([], 0, 0, 1) w) := by
  have HV := Lib.hid hv
  have HU := Lib.hid hu
  obtain ⟨ao, cap, rfl, h1, ⟨h2, _⟩, h3⟩ := hv
  clear h3
  obtain ⟨ao', cap', rfl, h1', ⟨h2', _⟩, h3⟩ := hu
  clear h3
  unfold maxLen at h2 h2'
  have HBLK : Hid (Blk ((w.alloc (.cells #[.slice ao bs.length cap, .int .i64 c, .int .i64 d] 46)).alloc (.cells #[.slice none 0 0, .int .i64 0, .int .i64 0] 46)) (w.heap.size + 1) 46 [.slice none 0 0, .int .i64 0, .int .i64 0]) := by
    have := heap_alloc_new (w.alloc (.cells #[.slice ao bs.length cap, .int .i64 c, .int .i64 d] 46)) (.cells #[.slice none 0 0, .int .i64 0, .int .i64 0] 46)
    simpa [Blk, Hid] using this
  have hB0 : Blk (w.alloc (.cells #[.slice ao bs.length cap, .int .i64 c, .int .i64 d] 46)) w.heap.size 46 [.slice ao bs.length cap, .int .i64 c, .int .i64 d] := heap_alloc_new w _
  have HB0 := Lib.hid (hB0.below (bl_al (Below.refl _ _) (.cells #[.slice none 0 0, .int .i64 0, .int .i64 0] 46)))
  have HW0 : Hid (Below w.heap.size w ((w.alloc (.cells #[.slice ao bs.length cap, .int .i64 c, .int .i64 d] 46)).alloc (.cells #[.slice none 0 0, .int .i64 0, .int .i64 0] 46))) := bl_al (bl_al (Below.refl _ _) _) _
  clear hB0
  have d1 : ((ns.length : Int) == (bs.length : Int)) = false := by simp; omega
  go_enter Try.func54, Try.ntmps54
  go_wp2_with fail
  refine (refRight11_any _ bs c d true HR _ (HV.out.below HW0.out)).mono ?_
  rintro _ w1 ⟨rfl, hb1⟩
  have HB1 := Lib.hid (HB0.out.below hb1)
  have HR1 := Lib.hid (HBLK.out.below hb1)
  have HBF := Lib.hid (bl_tr HW0.out hb1)
  clear hb1
  have hB := HB1.out
  have c0 := hB.cell 0
  have c1 := hB.cell 1
  have c2 := hB.cell 2
  simp only [List.getElem?_cons_zero, List.getElem?_cons_succ] at c0 c1 c2
  clear hB
  go_wp2_with fail
  go_loopg [6, 7] ns.length (fun g s i wr => ∃ k : Nat, k + g = ns.length ∧ i = .int .i64 k ∧ s = .bool false ∧ w1 = wr)
  case atStart => exact ⟨0, by omega, rfl, rfl, rfl⟩
  case round =>
    obtain ⟨k, hkg, rfl, rfl, rfl⟩ := hrel
    cases gk with
    | succ g =>
      have hlt : (k : Int) < (ns.length : Int) := by omega
      go_wp2_with fail
      go_roundg g
      case measure => omega
      case rel => exact ⟨k + 1, by omega, by go_num, rfl, rfl⟩
    | zero =>
      have hlt : ¬ ((k : Int) < (ns.length : Int)) := by omega
      have hR := HR1.out
      have r0 := hR.cell 0
      have r1 := hR.cell 1
      have r2 := hR.cell 2
      simp only [List.getElem?_cons_zero, List.getElem?_cons_succ] at r0 r1 r2
      have f0 := hR.frozen 0
      have f1 := hR.frozen 1
      have f2 := hR.frozen 2
      have hlt4 := hR.lt
      clear hR
      go_wp2
      refine bodyPost_ret (v := .tuple #[.agg #[.slice none 0 0, .int .i64 0, .int .i64 0], .int .i64 1]) (by simp [results, Try.results54, go_sem, r0, r1, r2]) rfl ⟨.slice none 0 0, rfl, ⟨Sl.nil, fr_nil⟩, bl_s3 HBF.out (by omega) _ _ _⟩

theorem any_take {ns : List Int} (k : Nat) (h : ∃ j, j < k ∧ notMay (ns.getD j 0) = true) (hk : k ≤ ns.length) : ns.any notMay = true := by
  obtain ⟨j, hj, hb⟩ := h
  rw [List.any_eq_true]
  exact ⟨ns[j]'(by omega), List.getElem_mem _, by simpa [List.getD, show j < ns.length by omega] using hb⟩
theorem any_none {ns : List Int} (h : ∀ j, j < ns.length → notMay (ns.getD j 0) = false) : ns.any notMay = false := by
  rw [List.any_eq_false]
  intro x hx
  obtain ⟨j, hj, rfl⟩ := List.getElem_of_mem hx
  have := h j hj
  simpa [List.getD, hj] using this
end Go.Proofs.Ytllblmoojohffaa

namespace Go.Proofs.Ytllblmoojohffaa
open Go.RowKit

theorem keep4b {w w' : World} {g b o : Nat} {x y z t : Value} (hb : Below w.heap.size w w') (h : w.cell? ⟨g, 0, none⟩ = some x ∧ w.cell? ⟨g, 1, none⟩ = some y ∧ w.cell? ⟨g, 2, none⟩ = some z ∧ w.cell? ⟨b, o, none⟩ = some t) :
    w'.cell? ⟨g, 0, none⟩ = some x ∧ w'.cell? ⟨g, 1, none⟩ = some y ∧ w'.cell? ⟨g, 2, none⟩ = some z ∧ w'.cell? ⟨b, o, none⟩ = some t :=
  ⟨(hb.cell (p := ⟨g, 0, none⟩) (cell_block_lt h.1)).trans h.1, (hb.cell (p := ⟨g, 1, none⟩) (cell_block_lt h.2.1)).trans h.2.1, (hb.cell (p := ⟨g, 2, none⟩) (cell_block_lt h.2.2.1)).trans h.2.2.1, (hb.cell (p := ⟨b, o, none⟩) (cell_block_lt h.2.2.2)).trans h.2.2.2⟩

set_option maxHeartbeats 3200000 in
set_option maxRecDepth 100000 in
theorem refBear11_yes (v u : Value) (bs ns : List Int) (c d : Int) (HR : Hid (rightP bs c d = true)) (hl : ns.length = bs.length) (s : List Int × Int × Int × Int) (hs : Hid (bearS bs c d ns = s)) (hlen : bs.length ≤ 1000) (w : World) (hv : Sl .i64 w v bs) (hu : Sl .i64 w u ns) :
    Calls Try.prog 54 #[.agg #[v, .int .i64 c, .int .i64 d], u] w (RetPosN s w) := by
  have HV := Lib.hid hv
  have HU := Lib.hid hu
  obtain ⟨ao, cap, rfl, h1, ⟨h2, _⟩, h3⟩ := hv
  clear h3
  obtain ⟨ao', cap', rfl, h1', ⟨h2', _⟩, h3⟩ := hu
  clear h3
  unfold maxLen at h2 h2'
  have HBLK : Hid (Blk ((w.alloc (.cells #[.slice ao bs.length cap, .int .i64 c, .int .i64 d] 46)).alloc (.cells #[.slice none 0 0, .int .i64 0, .int .i64 0] 46)) (w.heap.size + 1) 46 [.slice none 0 0, .int .i64 0, .int .i64 0]) := by
    have := heap_alloc_new (w.alloc (.cells #[.slice ao bs.length cap, .int .i64 c, .int .i64 d] 46)) (.cells #[.slice none 0 0, .int .i64 0, .int .i64 0] 46)
    simpa [Blk, Hid] using this
  have hB0 : Blk (w.alloc (.cells #[.slice ao bs.length cap, .int .i64 c, .int .i64 d] 46)) w.heap.size 46 [.slice ao bs.length cap, .int .i64 c, .int .i64 d] := heap_alloc_new w _
  have HB0 := Lib.hid (hB0.below (bl_al (Below.refl _ _) (.cells #[.slice none 0 0, .int .i64 0, .int .i64 0] 46)))
  have HW0 : Hid (Below w.heap.size w ((w.alloc (.cells #[.slice ao bs.length cap, .int .i64 c, .int .i64 d] 46)).alloc (.cells #[.slice none 0 0, .int .i64 0, .int .i64 0] 46))) := bl_al (bl_al (Below.refl _ _) _) _
  clear hB0
  have d1 : ((ns.length : Int) == (bs.length : Int)) = true := by simp [hl]
  have HL := Lib.hid (And.intro hl hlen)
  clear hl hlen
  go_enter Try.func54, Try.ntmps54
  go_wp2_with fail
  refine (refRight11_any _ bs c d true HR _ (HV.out.below HW0.out)).mono ?_
  rintro _ w1 ⟨rfl, hb1⟩
  have HB1 := Lib.hid (HB0.out.below hb1)
  have HR1 := Lib.hid (HBLK.out.below hb1)
  have HBF := Lib.hid (bl_tr HW0.out hb1)
  clear hb1
  have hB := HB1.out
  have c0 := hB.cell 0
  have c1 := hB.cell 1
  have c2 := hB.cell 2
  simp only [List.getElem?_cons_zero, List.getElem?_cons_succ] at c0 c1 c2
  clear hB
  go_wp2_with fail
  go_loopg [6, 7] ns.length (fun g s i wr => ∃ k : Nat, k + g = ns.length ∧ i = .int .i64 k ∧ ((s = .bool true ∧ Hid (∀ j, j < k → notMay (ns.getD j 0) = false)) ∨ (s = .bool false ∧ Hid (ns.any notMay = true))) ∧ w1 = wr)
  case atStart => exact ⟨0, by omega, rfl, .inl ⟨rfl, fun j hj => absurd hj (by omega)⟩, rfl⟩
  case round =>
    obtain ⟨k, hkg, rfl, hss, rfl⟩ := hrel
    rcases hss with ⟨rfl, HK⟩ | ⟨rfl, HK⟩
    · cases gk with
      | succ g =>
        have hlt : (k : Int) < (ns.length : Int) := by omega
        obtain ⟨b', o', x, rfl, hcell, HX⟩ := (HU.out.below HBF.out).get (i := k) (by omega)
        cases hm : may0 x with
        | true =>
          have HM := Lib.hid hm
          have HK2 : Hid (∀ j, j < k + 1 → notMay (ns.getD j 0) = false) := fun j hj => by
            by_cases e : j = k
            · subst e; rw [HX.out]; simp [notMay, hm]
            · exact HK.out j (by omega)
          clear hm
          go_wp2_with fail
          refine (refMay11_is HM.out _).mono ?_
          rintro _ w2 ⟨rfl, rfl⟩
          go_wp2_with fail
          go_roundg g
          case measure => omega
          case rel => exact ⟨k + 1, by omega, by go_num, .inl ⟨rfl, HK2⟩, rfl⟩
        | false =>
          have HM := Lib.hid hm
          have HK2 : Hid (ns.any notMay = true) := any_take (k + 1) ⟨k, by omega, by rw [HX.out]; simp [notMay, hm]⟩ (by omega)
          clear hm
          go_wp2_with fail
          refine (refMay11_is HM.out _).mono ?_
          rintro _ w2 ⟨rfl, rfl⟩
          go_wp2_with fail
          go_roundg g
          case measure => omega
          case rel => exact ⟨k + 1, by omega, by go_num, .inr ⟨rfl, HK2⟩, rfl⟩
      | zero =>
        have hlt : ¬ ((k : Int) < (ns.length : Int)) := by omega
        have hkl : k = ns.length := by omega
        have HANY : Hid (ns.any notMay = false) := any_none (fun j hj => HK.out j (by omega))
        have hl8 := (rightP_due8 HR.out).2
        have HL8 := Lib.hid hl8
        have HNO : Hid (∀ k, k ≤ bs.length → rightP (bearSt ns bs c k).1 (bearSt ns bs c k).2 d = false → s = ([], 0, 0, 5)) := by
          intro k hk hf
          have hy := (bearS_yes (bs := bs) (ns := ns) (c := c) (d := d) (by rw [HANY.out]; unfold bearOk; rw [HR.out, show (ns.length == bs.length) = true by simp [HL.out.1]]; rfl)).2.2.2
          rw [← hs.out, hy, if_neg]
          intro hn
          have := bearSt_right HR.out HANY.out hn k hk
          rw [hf] at this
          cases this
        have HYES : Hid (rightP (bearSt ns bs c bs.length).1 (bearSt ns bs c bs.length).2 d = true → s = ((bearSt ns bs c bs.length).1, (bearSt ns bs c bs.length).2, d, 0)) := by
          intro hn
          have hy := (bearS_yes (bs := bs) (ns := ns) (c := c) (d := d) (by rw [HANY.out]; unfold bearOk; rw [HR.out, show (ns.length == bs.length) = true by simp [HL.out.1]]; rfl)).2.2.2
          rw [← hs.out, hy, if_pos hn]
        have HNE0 : Hid (∀ b o m q, (Value.slice ao bs.length cap) = .slice (some ⟨b, o, none⟩) m q → 0 < m → b ≠ w.heap.size ∧ b ≠ w.heap.size + 1) := by
          intro b o m q e hm
          cases e
          obtain ⟨b', o', e1, hc⟩ := HV.out.at (i := 0) hm
          cases e1
          have := cell_block_lt hc
          omega
        have HV1 := Lib.hid (HV.out.below HBF.out)
        clear hkl HK hl8
        go_wp2_with fail
        go_loopg [8] bs.length (fun g i wr => ∃ (k : Nat) (uv : Value), k + g = bs.length ∧ i = .int .i64 k ∧ Hid (Blk wr w.heap.size 46 [uv, .int .i64 (bearSt ns bs c k).2, .int .i64 d]) ∧ Hid (Sl .i64 wr uv (bearSt ns bs c k).1) ∧ Hid (∀ b o m q, uv = .slice (some ⟨b, o, none⟩) m q → 0 < m → b ≠ w.heap.size ∧ b ≠ w.heap.size + 1) ∧ Hid (rightP (bearSt ns bs c k).1 (bearSt ns bs c k).2 d = true) ∧ Hid (Blk wr (w.heap.size + 1) 46 [.slice none 0 0, .int .i64 0, .int .i64 0]) ∧ Hid (Below w.heap.size w wr))
        case atStart => exact ⟨0, .slice ao bs.length cap, by omega, rfl, HB1.out, HV1.out, HNE0.out, HR.out, HR1.out, HBF.out⟩
        case round =>
          obtain ⟨k2, uv, hkg2, rfl, HPb, HSv, HNE, HRk, HRb, HBw⟩ := hrel
          clear c0 c1 c2
          have hll := bearSt_len ns bs c k2
          obtain ⟨au, cu, hshape⟩ := HSv.out.shape
          subst hshape
          cases gk with
          | succ g =>
            have hlt2 : (k2 : Int) < (ns.length : Int) := by have := HL.out.1; omega
            obtain ⟨b', o', x, rfl, hcell, HX⟩ := (HU.out.below HBw.out).get (i := k2) (by have := HL.out.1; omega)
            have hx := any_may HANY.out k2
            rw [HX.out] at hx
            have hadd := addS_bear (ns := ns) (bs := bs) (c := c) (d := d) k2
            rw [HX.out] at hadd
            have hB := HPb.out
            have c0 := hB.cell 0
            have c1 := hB.cell 1
            have c2 := hB.cell 2
            simp only [List.getElem?_cons_zero, List.getElem?_cons_succ] at c0 c1 c2
            have HRk2 := HRk.out
            have hlb := hB.lt
            have hlR := HRb.out.lt
            obtain ⟨L, C, hLC⟩ : ∃ L C, bearSt ns bs c k2 = (L, C) := ⟨_, _, rfl⟩
            have HSv2 := HSv.out
            rw [hLC] at hll hadd c0 c1 HRk2 HSv2
            simp only at hll hadd c0 c1 HRk2 HSv2
            rw [hLC] at *
            simp only at *
            have HLk : Hid (k2 < L.length) := by show _ < _; omega
            have HL1000 : Hid (L.length ≤ 1000) := by show _ ≤ _; have := HL.out.2; omega
            obtain ⟨L', C', D', E', hq⟩ : ∃ L' C' D' E', addS L C d k2 x = (L', C', D', E') := ⟨_, _, _, _, rfl⟩
            have HCASE : Hid ((5 = E' ∧ ([], 0, 0, 5) = s) ∨ (0 = E' ∧ (bearSt ns bs c (k2 + 1)).1 = L' ∧ (bearSt ns bs c (k2 + 1)).2 = C' ∧ d = D' ∧ rightP (bearSt ns bs c (k2 + 1)).1 (bearSt ns bs c (k2 + 1)).2 d = true)) := by
              rw [hq] at hadd
              cases hr : rightP (bearSt ns bs c (k2 + 1)).1 (bearSt ns bs c (k2 + 1)).2 d with
              | false =>
                rw [if_neg (by rw [hr]; simp)] at hadd
                simp only [Prod.mk.injEq] at hadd
                exact .inl ⟨hadd.2.2.2.symm, (HNO.out (k2 + 1) (by omega) hr).symm⟩
              | true =>
                rw [if_pos hr] at hadd
                simp only [Prod.mk.injEq] at hadd
                exact .inr ⟨hadd.2.2.2.symm, hadd.1.symm, hadd.2.1.symm, hadd.2.2.1.symm, rfl⟩
            have HQ := Lib.hid hq
            have HSv3 := Lib.hid HSv2
            have HLL3 := Lib.hid hll
            have HPb2 := Lib.hid hB
            have hws : IntKind.i64.wrap ((k2 : Int) + 1) = (k2 : Int) + 1 := IntWalk.i64_in _ ⟨by omega, by have := HL.out.2; omega⟩
            have HH := Lib.hid (And.intro HRk2 hx)
            clear HSv2 hll hLC hlt hkg hadd hx HRk2 hq hB HNE HRk HSv
            go_wp2_with fail
            have hbl := cell_block_lt hcell
            have hk4 : wr.cell? ⟨w.heap.size, 0, none⟩ = some (.slice au L.length cu) ∧ wr.cell? ⟨w.heap.size, 1, none⟩ = some (.int .i64 C) ∧ wr.cell? ⟨w.heap.size, 2, none⟩ = some (.int .i64 d) ∧ wr.cell? ⟨b', o' + k2, none⟩ = some (.int .i64 x) := ⟨c0, c1, c2, hcell⟩
            go_region_held3 (fun w' => w'.cell? ⟨w.heap.size, 0, none⟩ = some (.slice au L.length cu) ∧ w'.cell? ⟨w.heap.size, 1, none⟩ = some (.int .i64 C) ∧ w'.cell? ⟨w.heap.size, 2, none⟩ = some (.int .i64 d) ∧ w'.cell? ⟨b', o' + k2, none⟩ = some (.int .i64 x)) (first | assumption | (refine keep4b ?_ hk4; first | with_reducible exact HBR.out | with_reducible exact bl_al HBR.out _ | with_reducible exact bl_s3 HBR.out (Nat.le_refl _) _ _ _ | with_reducible exact bl_s3 (bl_al HBR.out _) HBR.out.size _ _ _ | with_reducible exact bl_dr (bl_al (Below.refl _ _) _) | with_reducible exact bl_al (Below.refl _ _) _)) (first | (go_at_call 75; refine (refAdd11_any _ L C d k2 x _ HQ HLk.out HH.out.1 HH.out.2 HL1000.out _ (HSv3.out.below (by repeat (first | with_reducible exact Below.refl _ _ | (with_reducible refine bl_sc ?_ ?hge; case hge => (first | exact Nat.le_refl _ | omega)) | with_reducible refine bl_al ?_ _ | with_reducible refine bl_dr ?_ | with_reducible refine bl_dN ?_ _ | (refine bl_tr ?_ (by assumption)) | (refine bl_gr ?_ (by assumption) (by first | exact Nat.le_refl _ | omega)) | exact Below.refl _ _ | refine bl_al ?_ _ | refine bl_dr ?_ | refine bl_dN ?_ _)))).mono ?_; rintro _ w2 ⟨u2, rfl, ⟨hul, huf⟩, hb2⟩; obtain ⟨a2, q2, rfl⟩ := hul.shape; have HUL := Lib.hid hul; have HUF := Lib.hid huf; have HBR : Hid (Below wr.heap.size wr w2) := (by first | exact hb2 | exact bl_tr (bl_dr (Below.refl _ _)) hb2 | exact bl_tr (bl_dr (bl_al (Below.refl _ _) _)) hb2 | exact bl_tr (bl_al (Below.refl _ _) _) hb2); try (have hk := (show Blk (wr.alloc (.cells #[.slice none 0 0, .int .i64 0, .int .i64 0] 46)).drew wr.heap.size 46 [.slice none 0 0, .int .i64 0, .int .i64 0] from heap_alloc_new wr _).below hb2; have k0 := hk.cell 0; have k1 := hk.cell 1; have k2' := hk.cell 2; simp only [List.getElem?_cons_zero, List.getElem?_cons_succ] at k0 k1 k2'; have kf0 := hk.frozen 0; have kf1 := hk.frozen 1; have kf2 := hk.frozen 2; have HKB := Lib.hid hk; clear hk); clear hul huf hb2))
            · obtain ⟨W, hW, GN, GB, GS, GF⟩ : ∃ W, w2.alloc (.cells #[.slice a2 L'.length q2, .int .i64 C', .int .i64 D'] 46) = W ∧ Hid (Blk W w2.heap.size 46 [.slice a2 L'.length q2, .int .i64 C', .int .i64 D']) ∧ Hid (Below wr.heap.size wr W) ∧ Hid (Sl .i64 W (.slice a2 L'.length q2) L') ∧ Hid (∀ b o m q, Value.slice a2 L'.length q2 = .slice (some ⟨b, o, none⟩) m q → 0 < m → b ≠ w.heap.size ∧ b ≠ w.heap.size + 1) := by
                refine ⟨_, rfl, heap_alloc_new w2 _, bl_al HBR.out _, (HUL.out.below (bl_al (Below.refl _ _) _)), ?_⟩
                intro b o m q e hm
                have := HUF.out b o m q e hm
                have e1 : wr.heap.size = wr.drew.heap.size := rfl
                simp at this
                omega
              with_reducible rw [hW]
              have hP := HPb2.out.below GB.out
              have hR := HRb.out.below GB.out
              have HBW := Lib.hid (bl_tr HBw.out GB.out)
              have HPw := Lib.hid hP
              have HRw := Lib.hid hR
              clear hW HBR HUF HUL hk4 c0 c1 c2 hcell
              rcases HCASE.out with ⟨rfl, rfl⟩ | ⟨rfl, rfl, rfl, rfl, hright⟩
              · have r0 := hR.cell 0
                have r1 := hR.cell 1
                have r2 := hR.cell 2
                simp only [List.getElem?_cons_zero, List.getElem?_cons_succ] at r0 r1 r2
                have f0 := hR.frozen 0
                have f1 := hR.frozen 1
                have f2 := hR.frozen 2
                have hlt4 := hR.lt
                clear hR hP
                go_wp2
                refine bodyPost_ret (v := .tuple #[.agg #[.slice none 0 0, .int .i64 0, .int .i64 0], .int .i64 5]) (by simp [results, Try.results54, go_sem, r0, r1, r2]) rfl ⟨.slice none 0 0, rfl, ⟨Sl.nil, fr_nil⟩, bl_s3 HBW.out (by omega) _ _ _⟩
              · have hN := GN.out
                have n0 := hN.cell 0
                have n1 := hN.cell 1
                have n2 := hN.cell 2
                have p0 := hP.cell 0
                have p1 := hP.cell 1
                have p2 := hP.cell 2
                simp only [List.getElem?_cons_zero, List.getElem?_cons_succ] at n0 n1 n2 p0 p1 p2
                have f0 := hP.frozen 0
                have f1 := hP.frozen 1
                have f2 := hP.frozen 2
                have HRIGHT := Lib.hid hright
                clear hR hN hP hright
                go_wp2_with fail
                go_roundg g
                case measure => omega
                case rel => exact ⟨k2 + 1, _, by omega, by go_num, ((HPw.out.set 0 _).set 1 _).set 2 _, ((GS.out.setCell (fun b o n c e h => (GF.out b o n c e h).1) _).setCell (fun b o n c e h => (GF.out b o n c e h).1) _).setCell (fun b o n c e h => (GF.out b o n c e h).1) _, GF.out, HRIGHT.out, ((HRw.out.setOther (by omega) 0 _).setOther (by omega) 1 _).setOther (by omega) 2 _, bl_s3 HBW.out (Nat.le_refl _) _ _ _⟩
            · obtain ⟨W, hW, GN, GB, GS, GF⟩ : ∃ W, ((w2.setCell ⟨wr.heap.size, 0, none⟩ (.slice a2 L'.length q2)).setCell ⟨wr.heap.size, 1, none⟩ (.int .i64 C')).setCell ⟨wr.heap.size, 2, none⟩ (.int .i64 D') = W ∧ Hid (Blk W wr.heap.size 46 [.slice a2 L'.length q2, .int .i64 C', .int .i64 D']) ∧ Hid (Below wr.heap.size wr W) ∧ Hid (Sl .i64 W (.slice a2 L'.length q2) L') ∧ Hid (∀ b o m q, Value.slice a2 L'.length q2 = .slice (some ⟨b, o, none⟩) m q → 0 < m → b ≠ w.heap.size ∧ b ≠ w.heap.size + 1) := by
                refine ⟨_, rfl, ((HKB.out.set 0 _).set 1 _).set 2 _, bl_s3 HBR.out (Nat.le_refl _) _ _ _, (((HUL.out.setCell (fun b o n c e h => by have := HUF.out b o n c e h; simp at this; omega) _).setCell (fun b o n c e h => by have := HUF.out b o n c e h; simp at this; omega) _).setCell (fun b o n c e h => by have := HUF.out b o n c e h; simp at this; omega) _), ?_⟩
                intro b o m q e hm
                have := HUF.out b o m q e hm
                have e1 : wr.heap.size = wr.drew.heap.size := rfl
                simp at this
                omega
              with_reducible rw [hW]
              have hP := HPb2.out.below GB.out
              have hR := HRb.out.below GB.out
              have HBW := Lib.hid (bl_tr HBw.out GB.out)
              have HPw := Lib.hid hP
              have HRw := Lib.hid hR
              clear hW HBR HUF HUL hk4 c0 c1 c2 hcell
              rcases HCASE.out with ⟨rfl, rfl⟩ | ⟨rfl, rfl, rfl, rfl, hright⟩
              · have r0 := hR.cell 0
                have r1 := hR.cell 1
                have r2 := hR.cell 2
                simp only [List.getElem?_cons_zero, List.getElem?_cons_succ] at r0 r1 r2
                have f0 := hR.frozen 0
                have f1 := hR.frozen 1
                have f2 := hR.frozen 2
                have hlt4 := hR.lt
                clear hR hP
                go_wp2
                refine bodyPost_ret (v := .tuple #[.agg #[.slice none 0 0, .int .i64 0, .int .i64 0], .int .i64 5]) (by simp [results, Try.results54, go_sem, r0, r1, r2]) rfl ⟨.slice none 0 0, rfl, ⟨Sl.nil, fr_nil⟩, bl_s3 HBW.out (by omega) _ _ _⟩
              · have hN := GN.out
                have n0 := hN.cell 0
                have n1 := hN.cell 1
                have n2 := hN.cell 2
                have p0 := hP.cell 0
                have p1 := hP.cell 1
                have p2 := hP.cell 2
                simp only [List.getElem?_cons_zero, List.getElem?_cons_succ] at n0 n1 n2 p0 p1 p2
                have f0 := hP.frozen 0
                have f1 := hP.frozen 1
                have f2 := hP.frozen 2
                have HRIGHT := Lib.hid hright
                clear hR hN hP hright
                go_wp2_with fail
                go_roundg g
                case measure => omega
                case rel => exact ⟨k2 + 1, _, by omega, by go_num, ((HPw.out.set 0 _).set 1 _).set 2 _, ((GS.out.setCell (fun b o n c e h => (GF.out b o n c e h).1) _).setCell (fun b o n c e h => (GF.out b o n c e h).1) _).setCell (fun b o n c e h => (GF.out b o n c e h).1) _, GF.out, HRIGHT.out, ((HRw.out.setOther (by omega) 0 _).setOther (by omega) 1 _).setOther (by omega) 2 _, bl_s3 HBW.out (Nat.le_refl _) _ _ _⟩
          | zero =>
            have hk2 : k2 = bs.length := by omega
            subst hk2
            have hlt2 : ¬ ((bs.length : Int) < (ns.length : Int)) := by have := HL.out.1; omega
            have hB := HPb.out
            have c0 := hB.cell 0
            have c1 := hB.cell 1
            have c2 := hB.cell 2
            simp only [List.getElem?_cons_zero, List.getElem?_cons_succ] at c0 c1 c2
            have HS := Lib.hid (HYES.out HRk.out)
            obtain ⟨L, C, hLC⟩ : ∃ L C, bearSt ns bs c bs.length = (L, C) := ⟨_, _, rfl⟩
            have hLC0 := hLC
            rw [hLC] at hll c0 c1 HS HSv
            simp only at hll c0 c1 HS HSv
            have hL8 : L.length ≤ 1000 := by have := HL.out.2; have e : (bearSt ns bs c bs.length).1.length = bs.length := bearSt_len ns bs c bs.length; rw [hLC0] at e; simp only at e; omega
            have HSV := HSv
            clear hB hLC hLC0 hll HRk HYES HNO hlt hkg hkg2
            go_wp2_with fail
            refine (refCopy11_any _ L C d hL8 _ HSV.out).mono ?_
            rintro _ w3 ⟨u3, rfl, hown, hb3⟩
            have hR := HRb.out.below hb3
            have r0 := hR.cell 0
            have r1 := hR.cell 1
            have r2 := hR.cell 2
            simp only [List.getElem?_cons_zero, List.getElem?_cons_succ] at r0 r1 r2
            have f0 := hR.frozen 0
            have f1 := hR.frozen 1
            have f2 := hR.frozen 2
            have hlt4 := hR.lt
            have hz3 := hb3.size
            have HBW := Lib.hid (bl_tr HBw.out hb3)
            have hsl := Sl.of_own hown rfl
            obtain ⟨a3, q3, rfl⟩ := hsl.shape
            have HOWN := Lib.hid hown
            have HSL := Lib.hid hsl
            clear hR hb3 hown hsl
            go_wp2
            refine bodyPost_ret (v := .tuple #[.agg #[.slice a3 L.length q3, .int .i64 C, .int .i64 d], .int .i64 0]) (by simp [results, Try.results54, go_sem, r0, r1, r2]) rfl ?_
            rw [HS.out]
            exact ⟨_, rfl, ⟨Sl.of_own (own_setElder (own_setElder (own_setElder HOWN.out (by have := HRb.out.lt; omega)) (by have := HRb.out.lt; omega)) (by have := HRb.out.lt; omega)) rfl, fr_own HOWN.out (Nat.le_trans HBw.out.size (Nat.le_add_right _ _))⟩, bl_s3 HBW.out (by omega) _ _ _⟩
    · obtain rfl : ([], 0, 0, 1) = s := by
        rw [← hs.out, bearS_no]
        rw [HK.out]
        simp
      cases gk with
      | succ g =>
        have hlt : (k : Int) < (ns.length : Int) := by omega
        go_wp2_with fail
        go_roundg g
        case measure => omega
        case rel => exact ⟨k + 1, by omega, by go_num, .inr ⟨rfl, HK⟩, rfl⟩
      | zero =>
        have hlt : ¬ ((k : Int) < (ns.length : Int)) := by omega
        clear c0 c1 c2
        have hR := HR1.out
        have r0 := hR.cell 0
        have r1 := hR.cell 1
        have r2 := hR.cell 2
        simp only [List.getElem?_cons_zero, List.getElem?_cons_succ] at r0 r1 r2
        have f0 := hR.frozen 0
        have f1 := hR.frozen 1
        have f2 := hR.frozen 2
        have hlt4 := hR.lt
        clear hR
        go_wp2
        refine bodyPost_ret (v := .tuple #[.agg #[.slice none 0 0, .int .i64 0, .int .i64 0], .int .i64 1]) (by simp [results, Try.results54, go_sem, r0, r1, r2]) rfl ⟨.slice none 0 0, rfl, ⟨Sl.nil, fr_nil⟩, bl_s3 HBF.out (by omega) _ _ _⟩
theorem refBear11N_any (v u : Value) (bs ns : List Int) (c d : Int) (s : List Int × Int × Int × Int) (hs : Hid (bearS bs c d ns = s)) (hlen : bs.length ≤ 1000) (w : World) (hv : Sl .i64 w v bs) (hu : Sl .i64 w u ns) :
    Calls Try.prog 54 #[.agg #[v, .int .i64 c, .int .i64 d], u] w (RetPosN s w) := by
  cases hr : rightP bs c d with
  | false =>
    obtain rfl : ([], 0, 0, 1) = s := by rw [← hs.out, bearS_no]; unfold bearOk; rw [hr]; rfl
    exact refBear11_no1 v u bs ns c d hr w hv hu
  | true =>
    by_cases hl : ns.length = bs.length
    · exact refBear11_yes v u bs ns c d hr hl s hs hlen w hv hu
    · obtain rfl : ([], 0, 0, 1) = s := by
        rw [← hs.out, bearS_no]; unfold bearOk; rw [hr, show (ns.length == bs.length) = false by simp [hl]]; rfl
      exact refBear11_no2 v u bs ns c d hr hl w hv hu
end Go.Proofs.Ytllblmoojohffaa

namespace Go.Proofs.Ytllblmoojohffaa
open Go.RowKit

theorem refBear11_any (v u : Value) (bs ns : List Int) (c d : Int) (s : List Int × Int × Int × Int) (hs : Hid (bearS bs c d ns = s)) (hlen : bs.length ≤ 1000) (w : World) (hv : Sl .i64 w v bs) (hu : Sl .i64 w u ns) :
    Calls Try.prog 54 #[.agg #[v, .int .i64 c, .int .i64 d], u] w (RetPos s w) :=
  (refBear11N_any v u bs ns c d s hs hlen w hv hu).mono fun _ _ ⟨u, h1, h2, h3⟩ => ⟨u, h1, h2.1, h3⟩
end Go.Proofs.Ytllblmoojohffaa

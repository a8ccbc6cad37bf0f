/- lombardref11.add: to a tranche, the credit first. -/
import Derived.Test.YtbiiejolemcifaaRef11B
import Derived.Test.YtbiiejolemcifaaPoolPay
import Derived.Test.YtbiiejolemcifaaLaw11B
import Derived.BigRegion
namespace Go.Proofs.Ytbiiejolemcifaa
open Go.RowKit

/-- A position, or none, whose balances lie in new memory. -/
def RetPosN (s : List Int × Int × Int × Int) (w : World) (e : Ending) (w' : World) : Prop :=
  ∃ u, e = .returned (.tuple #[.agg #[u, .int .i64 s.2.1, .int .i64 s.2.2.1], .int .i64 s.2.2.2]) ∧ (Sl .i64 w' u s.1 ∧ Fr w u) ∧ Below w.heap.size w w'

set_option maxHeartbeats 3200000 in
set_option maxRecDepth 100000 in
theorem refAdd11_ok (v : Value) (bs : List Int) (c d : Int) (i : Nat) (am y m z c2 : Int) (hi : i < bs.length) (hy : Hid (bs.getD i 0 = y)) (hm : min c am = m) (hz : y + am - m = z) (hc2 : c - m = c2) (hb : (0 ≤ y ∧ y ≤ 1000000000000000) ∧ (0 ≤ c ∧ c ≤ 1000000000000000) ∧ (0 ≤ am ∧ am ≤ 1000000000000000)) (hq : Hid (rightP (bs.set i z) c2 d = true)) (hlen : bs.length ≤ 1000) (w : World) (hv : Sl .i64 w v bs) :
    Calls Try.prog 49 #[.agg #[v, .int .i64 c, .int .i64 d], .int .i64 ((i : Int) + 1), .int .i64 am] w (RetPosN (bs.set i z, c2, d, 0) w) := by
  have HV := Lib.hid hv
  obtain ⟨ao, cap, rfl, h1, ⟨h2, _⟩, h3⟩ := hv
  clear h3
  unfold maxLen at h2
  have HBLK : Hid (Blk ((w.alloc (.cells #[.slice ao bs.length cap, .int .i64 c, .int .i64 d] 25)).alloc (.cells #[.slice none 0 0, .int .i64 0, .int .i64 0] 25)) (w.heap.size + 1) 25 [.slice none 0 0, .int .i64 0, .int .i64 0]) := by
    have := heap_alloc_new (w.alloc (.cells #[.slice ao bs.length cap, .int .i64 c, .int .i64 d] 25)) (.cells #[.slice none 0 0, .int .i64 0, .int .i64 0] 25)
    simpa [Blk, Hid] using this
  have hB0 : Blk (w.alloc (.cells #[.slice ao bs.length cap, .int .i64 c, .int .i64 d] 25)) w.heap.size 25 [.slice ao bs.length cap, .int .i64 c, .int .i64 d] := heap_alloc_new w _
  have HB0 := Lib.hid (hB0.below (bl_al (Below.refl _ _) (.cells #[.slice none 0 0, .int .i64 0, .int .i64 0] 25)))
  have HW0 : Hid (Below w.heap.size w ((w.alloc (.cells #[.slice ao bs.length cap, .int .i64 c, .int .i64 d] 25)).alloc (.cells #[.slice none 0 0, .int .i64 0, .int .i64 0] 25))) := bl_al (bl_al (Below.refl _ _) _) _
  have HSZ : Hid (((w.alloc (.cells #[.slice ao bs.length cap, .int .i64 c, .int .i64 d] 25)).alloc (.cells #[.slice none 0 0, .int .i64 0, .int .i64 0] 25)).heap.size = w.heap.size + 2) := by show _ = _; simp
  have wm : 0 ≤ m ∧ m ≤ 1000000000000000 ∧ m ≤ am := by omega
  have HWC : Hid (wrap64 (c - m) = c2) := by show _ = _; rw [hc2]; exact IntWalk.wrap64_in _ ⟨by omega, by omega⟩
  have HW1 : Hid (IntKind.i64.wrap (y + am) = y + am) := IntWalk.i64_in _ ⟨by omega, by omega⟩
  have HW2 : Hid (IntKind.i64.wrap (y + am - m) = z) := by show _ = _; rw [hz]; exact IntWalk.i64_in _ ⟨by omega, by omega⟩
  have HW3 : Hid (wrap64 (y + am) = y + am) := IntWalk.wrap64_in _ ⟨by omega, by omega⟩
  have HW4 : Hid (wrap64 (y + am - m) = z) := by show _ = _; rw [hz]; exact IntWalk.wrap64_in _ ⟨by omega, by omega⟩
  have HX := Lib.hid (And.intro hi hlen)
  have HM : Hid ((if am < c then am else c) = m) := by show _ = _; split <;> omega
  clear hB0 hm hz hc2 wm hi hb
  go_enter Try.func49, Try.ntmps49
  go_wp2_with fail
  refine (refCopy11_any _ bs c d HX.out.2 _ (HV.out.below HW0.out)).mono ?_
  rintro _ w3 ⟨q3, rfl, hown, hb3⟩
  rw [HSZ.out] at hown
  obtain ⟨ao3, capr, rfl, hnc, hcm, hBR⟩ := own_block hown
  obtain ⟨gr, hgr0, hgr1, cur, hcur1, hcur2, hcur3⟩ := hBR (by have := HX.out.1; omega)
  subst hgr0
  obtain ⟨n, hn⟩ : ∃ n, bs.length = n := ⟨_, rfl⟩
  have HN := Lib.hid hn
  have HNR : Hid (Nums w3 gr capr bs) := ⟨cur, hcur1, hcur2, hcur3⟩
  have hbr : w.heap.size + 2 ≤ gr := by omega
  rw [hn] at hnc ⊢
  have hB3 := HB0.out.below hb3
  have f0 := hB3.frozen 0
  have f1 := hB3.frozen 1
  have f2 := hB3.frozen 2
  have c0 := hB3.cell 0
  have c1 := hB3.cell 1
  have c2' := hB3.cell 2
  simp only [List.getElem?_cons_zero, List.getElem?_cons_succ] at c0 c1 c2'
  have HB3 := Lib.hid hB3
  have HR3 := Lib.hid (HBLK.out.below hb3)
  have HBF3 := Lib.hid (bl_tr HW0.out hb3)
  have hgr3 := HNR.out.lt
  have hR1 := HR3.out.lt
  clear hB3 hown hb3 hn hcur1 hcur2 hcur3 hgr1 cur HBLK HB0 HW0 HSZ HV
  have hin : i < n := by have := HX.out.1; have := HN.out; omega
  have hin2 : i < capr := by omega
  have hin3 : (i : Int) < (n : Int) := by omega
  have wC := HWC.out
  have hmm := HM.out
  go_upto_region 4 with fail
  simp only [wC]
  clear wC hmm
  obtain ⟨W, hW, gP, gN, gR, gw⟩ : ∃ W, ((((w3.setCell ⟨w.heap.size, 0, none⟩ (.slice (some ⟨gr, 0, none⟩) n capr)).setCell ⟨w.heap.size, 1, none⟩ (.int .i64 c)).setCell ⟨w.heap.size, 2, none⟩ (.int .i64 d)).setCell ⟨w.heap.size, 1, none⟩ (.int .i64 c2)) = W ∧ Blk W w.heap.size 25 [.slice (some ⟨gr, 0, none⟩) n capr, .int .i64 c2, .int .i64 d] ∧ Nums W gr capr bs ∧ Hid (Blk W (w.heap.size + 1) 25 [.slice none 0 0, .int .i64 0, .int .i64 0]) ∧ Hid (Below w.heap.size w W) := by
    refine ⟨_, rfl, ?_, ?_, ?_, ?_⟩
    · exact (((HB3.out.set 0 _).set 1 _).set 2 _).set 1 _
    · exact (((HNR.out.setOther (by omega) 0 _).setOther (by omega) 1 _).setOther (by omega) 2 _).setOther (by omega) 1 _
    · exact (((HR3.out.setOther (by omega) 0 _).setOther (by omega) 1 _).setOther (by omega) 2 _).setOther (by omega) 1 _
    · exact (bl_s3 HBF3.out (Nat.le_refl _) _ _ _).setCell (Nat.le_refl _) _
  with_reducible rw [hW]
  have c0 := gP.cell 0
  simp only [List.getElem?_cons_zero] at c0
  have c5 := gN.cell (i := i) (by have := HX.out.1; omega)
  rw [hy.out] at c5
  have f5 := gN.frozen i
  have GP := Lib.hid gP
  have GN := Lib.hid gN
  have wi1 : IntKind.i64.wrap (i : Int) = i := IntWalk.i64_in _ ⟨by omega, by have := HX.out.1; have := HX.out.2; omega⟩
  have wi2 : wrap64 (i : Int) = i := IntWalk.wrap64_in _ ⟨by omega, by have := HX.out.1; have := HX.out.2; omega⟩
  have w1 := HW1.out
  have w2 := HW2.out
  have w3' := HW3.out
  have w4' := HW4.out
  clear hW HB3 HNR HR3 HBF3 c1 c2' f0 f1 f2 gP gN
  go_wp2_with fail
  go_region
  clear c0 c5 f5 wi1 wi2 w1 w2 w3' w4'
  have hPz : Blk (W.setCell ⟨gr, i, none⟩ (.int .i64 z)).drew w.heap.size 25 [.slice (some ⟨gr, 0, none⟩) n capr, .int .i64 c2, .int .i64 d] := GP.out.setOther (by omega) _ _
  have hNz : Nums (W.setCell ⟨gr, i, none⟩ (.int .i64 z)).drew gr capr (bs.set i z) := GN.out.set i z
  have hRz : Blk (W.setCell ⟨gr, i, none⟩ (.int .i64 z)).drew (w.heap.size + 1) 25 [.slice none 0 0, .int .i64 0, .int .i64 0] := gR.out.setOther (by omega) _ _
  have hBz : Below w.heap.size w (W.setCell ⟨gr, i, none⟩ (.int .i64 z)).drew := (gw.out.setCell (show w.heap.size ≤ gr by omega) _).drew
  obtain ⟨W2, hW2⟩ : ∃ W2, (W.setCell ⟨gr, i, none⟩ (.int .i64 z)).drew = W2 := ⟨_, rfl⟩
  rw [hW2] at hPz hNz hRz hBz
  with_reducible rw [hW2]
  clear hW2 GP GN gR gw
  have HSLn : Hid ((bs.set i z).length = n) := by show _ = _; rw [List.length_set]; exact HN.out
  have c0 := hPz.cell 0
  have c1 := hPz.cell 1
  have c2' := hPz.cell 2
  simp only [List.getElem?_cons_zero, List.getElem?_cons_succ] at c0 c1 c2'
  have HSz := Lib.hid (hNz.sl HSLn.out hnc hcm)
  have HNz := Lib.hid hNz
  have HRz := Lib.hid hRz
  have HPz := Lib.hid hPz
  have HBz := Lib.hid hBz
  clear hPz hNz hRz hBz
  go_wp2_with fail
  refine (refRight11_any _ (bs.set i z) c2 d _ hq _ HSz.out).mono ?_
  rintro _ w7 ⟨rfl, hb7⟩
  have hR7 := HRz.out.below hb7
  have r0 := hR7.cell 0
  have r1 := hR7.cell 1
  have r2 := hR7.cell 2
  simp only [List.getElem?_cons_zero, List.getElem?_cons_succ] at r0 r1 r2
  have e0 := hR7.frozen 0
  have e1 := hR7.frozen 1
  have e2 := hR7.frozen 2
  have hP7 := HPz.out.below hb7
  clear c0 c1 c2'
  have c0 := hP7.cell 0
  have c1 := hP7.cell 1
  have c2' := hP7.cell 2
  simp only [List.getElem?_cons_zero, List.getElem?_cons_succ] at c0 c1 c2'
  have hbf4 : Below w.heap.size w w7 := bl_tr HBz.out hb7
  have HN4 := Lib.hid (HNz.out.below hb7)
  have HSL := HSLn
  have hlt4 := hR7.lt
  clear hR7 hb7 hP7
  go_wp2
  refine bodyPost_ret (v := .tuple #[.agg #[.slice (some ⟨gr, 0, none⟩) n capr, .int .i64 c2, .int .i64 d], .int .i64 0]) (by simp [results, Try.results49, go_sem, r0, r1, r2]) rfl ⟨.slice (some ⟨gr, 0, none⟩) n capr, rfl, ⟨(((HN4.out.setOther (by omega) 0 _).setOther (by omega) 1 _).setOther (by omega) 2 _).sl HSL.out hnc hcm, fr_of fun _ => ⟨rfl, by omega⟩⟩, bl_s3 hbf4 (by omega) _ _ _⟩

set_option maxHeartbeats 3200000 in
set_option maxRecDepth 100000 in
theorem refAdd11_bad (v : Value) (bs : List Int) (c d : Int) (i : Nat) (am y m z c2 : Int) (hi : i < bs.length) (hy : Hid (bs.getD i 0 = y)) (hm : min c am = m) (hz : y + am - m = z) (hc2 : c - m = c2) (hb : (0 ≤ y ∧ y ≤ 1000000000000000) ∧ (0 ≤ c ∧ c ≤ 1000000000000000) ∧ (0 ≤ am ∧ am ≤ 1000000000000000)) (hq : Hid (rightP (bs.set i z) c2 d = false)) (hlen : bs.length ≤ 1000) (w : World) (hv : Sl .i64 w v bs) :
    Calls Try.prog 49 #[.agg #[v, .int .i64 c, .int .i64 d], .int .i64 ((i : Int) + 1), .int .i64 am] w (RetPosN ([], 0, 0, 5) w) := by
  have HV := Lib.hid hv
  obtain ⟨ao, cap, rfl, h1, ⟨h2, _⟩, h3⟩ := hv
  clear h3
  unfold maxLen at h2
  have HBLK : Hid (Blk ((w.alloc (.cells #[.slice ao bs.length cap, .int .i64 c, .int .i64 d] 25)).alloc (.cells #[.slice none 0 0, .int .i64 0, .int .i64 0] 25)) (w.heap.size + 1) 25 [.slice none 0 0, .int .i64 0, .int .i64 0]) := by
    have := heap_alloc_new (w.alloc (.cells #[.slice ao bs.length cap, .int .i64 c, .int .i64 d] 25)) (.cells #[.slice none 0 0, .int .i64 0, .int .i64 0] 25)
    simpa [Blk, Hid] using this
  have hB0 : Blk (w.alloc (.cells #[.slice ao bs.length cap, .int .i64 c, .int .i64 d] 25)) w.heap.size 25 [.slice ao bs.length cap, .int .i64 c, .int .i64 d] := heap_alloc_new w _
  have HB0 := Lib.hid (hB0.below (bl_al (Below.refl _ _) (.cells #[.slice none 0 0, .int .i64 0, .int .i64 0] 25)))
  have HW0 : Hid (Below w.heap.size w ((w.alloc (.cells #[.slice ao bs.length cap, .int .i64 c, .int .i64 d] 25)).alloc (.cells #[.slice none 0 0, .int .i64 0, .int .i64 0] 25))) := bl_al (bl_al (Below.refl _ _) _) _
  have HSZ : Hid (((w.alloc (.cells #[.slice ao bs.length cap, .int .i64 c, .int .i64 d] 25)).alloc (.cells #[.slice none 0 0, .int .i64 0, .int .i64 0] 25)).heap.size = w.heap.size + 2) := by show _ = _; simp
  have wm : 0 ≤ m ∧ m ≤ 1000000000000000 ∧ m ≤ am := by omega
  have HWC : Hid (wrap64 (c - m) = c2) := by show _ = _; rw [hc2]; exact IntWalk.wrap64_in _ ⟨by omega, by omega⟩
  have HW1 : Hid (IntKind.i64.wrap (y + am) = y + am) := IntWalk.i64_in _ ⟨by omega, by omega⟩
  have HW2 : Hid (IntKind.i64.wrap (y + am - m) = z) := by show _ = _; rw [hz]; exact IntWalk.i64_in _ ⟨by omega, by omega⟩
  have HW3 : Hid (wrap64 (y + am) = y + am) := IntWalk.wrap64_in _ ⟨by omega, by omega⟩
  have HW4 : Hid (wrap64 (y + am - m) = z) := by show _ = _; rw [hz]; exact IntWalk.wrap64_in _ ⟨by omega, by omega⟩
  have HX := Lib.hid (And.intro hi hlen)
  have HM : Hid ((if am < c then am else c) = m) := by show _ = _; split <;> omega
  clear hB0 hm hz hc2 wm hi hb
  go_enter Try.func49, Try.ntmps49
  go_wp2_with fail
  refine (refCopy11_any _ bs c d HX.out.2 _ (HV.out.below HW0.out)).mono ?_
  rintro _ w3 ⟨q3, rfl, hown, hb3⟩
  rw [HSZ.out] at hown
  obtain ⟨ao3, capr, rfl, hnc, hcm, hBR⟩ := own_block hown
  obtain ⟨gr, hgr0, hgr1, cur, hcur1, hcur2, hcur3⟩ := hBR (by have := HX.out.1; omega)
  subst hgr0
  obtain ⟨n, hn⟩ : ∃ n, bs.length = n := ⟨_, rfl⟩
  have HN := Lib.hid hn
  have HNR : Hid (Nums w3 gr capr bs) := ⟨cur, hcur1, hcur2, hcur3⟩
  have hbr : w.heap.size + 2 ≤ gr := by omega
  rw [hn] at hnc ⊢
  have hB3 := HB0.out.below hb3
  have f0 := hB3.frozen 0
  have f1 := hB3.frozen 1
  have f2 := hB3.frozen 2
  have c0 := hB3.cell 0
  have c1 := hB3.cell 1
  have c2' := hB3.cell 2
  simp only [List.getElem?_cons_zero, List.getElem?_cons_succ] at c0 c1 c2'
  have HB3 := Lib.hid hB3
  have HR3 := Lib.hid (HBLK.out.below hb3)
  have HBF3 := Lib.hid (bl_tr HW0.out hb3)
  have hgr3 := HNR.out.lt
  have hR1 := HR3.out.lt
  clear hB3 hown hb3 hn hcur1 hcur2 hcur3 hgr1 cur HBLK HB0 HW0 HSZ HV
  have hin : i < n := by have := HX.out.1; have := HN.out; omega
  have hin2 : i < capr := by omega
  have hin3 : (i : Int) < (n : Int) := by omega
  have wC := HWC.out
  have hmm := HM.out
  go_upto_region 4 with fail
  simp only [wC]
  clear wC hmm
  obtain ⟨W, hW, gP, gN, gR, gw⟩ : ∃ W, ((((w3.setCell ⟨w.heap.size, 0, none⟩ (.slice (some ⟨gr, 0, none⟩) n capr)).setCell ⟨w.heap.size, 1, none⟩ (.int .i64 c)).setCell ⟨w.heap.size, 2, none⟩ (.int .i64 d)).setCell ⟨w.heap.size, 1, none⟩ (.int .i64 c2)) = W ∧ Blk W w.heap.size 25 [.slice (some ⟨gr, 0, none⟩) n capr, .int .i64 c2, .int .i64 d] ∧ Nums W gr capr bs ∧ Hid (Blk W (w.heap.size + 1) 25 [.slice none 0 0, .int .i64 0, .int .i64 0]) ∧ Hid (Below w.heap.size w W) := by
    refine ⟨_, rfl, ?_, ?_, ?_, ?_⟩
    · exact (((HB3.out.set 0 _).set 1 _).set 2 _).set 1 _
    · exact (((HNR.out.setOther (by omega) 0 _).setOther (by omega) 1 _).setOther (by omega) 2 _).setOther (by omega) 1 _
    · exact (((HR3.out.setOther (by omega) 0 _).setOther (by omega) 1 _).setOther (by omega) 2 _).setOther (by omega) 1 _
    · exact (bl_s3 HBF3.out (Nat.le_refl _) _ _ _).setCell (Nat.le_refl _) _
  with_reducible rw [hW]
  have c0 := gP.cell 0
  simp only [List.getElem?_cons_zero] at c0
  have c5 := gN.cell (i := i) (by have := HX.out.1; omega)
  rw [hy.out] at c5
  have f5 := gN.frozen i
  have GP := Lib.hid gP
  have GN := Lib.hid gN
  have wi1 : IntKind.i64.wrap (i : Int) = i := IntWalk.i64_in _ ⟨by omega, by have := HX.out.1; have := HX.out.2; omega⟩
  have wi2 : wrap64 (i : Int) = i := IntWalk.wrap64_in _ ⟨by omega, by have := HX.out.1; have := HX.out.2; omega⟩
  have w1 := HW1.out
  have w2 := HW2.out
  have w3' := HW3.out
  have w4' := HW4.out
  clear hW HB3 HNR HR3 HBF3 c1 c2' f0 f1 f2 gP gN
  go_wp2_with fail
  go_region
  clear c0 c5 f5 wi1 wi2 w1 w2 w3' w4'
  have hPz : Blk (W.setCell ⟨gr, i, none⟩ (.int .i64 z)).drew w.heap.size 25 [.slice (some ⟨gr, 0, none⟩) n capr, .int .i64 c2, .int .i64 d] := GP.out.setOther (by omega) _ _
  have hNz : Nums (W.setCell ⟨gr, i, none⟩ (.int .i64 z)).drew gr capr (bs.set i z) := GN.out.set i z
  have hRz : Blk (W.setCell ⟨gr, i, none⟩ (.int .i64 z)).drew (w.heap.size + 1) 25 [.slice none 0 0, .int .i64 0, .int .i64 0] := gR.out.setOther (by omega) _ _
  have hBz : Below w.heap.size w (W.setCell ⟨gr, i, none⟩ (.int .i64 z)).drew := (gw.out.setCell (show w.heap.size ≤ gr by omega) _).drew
  obtain ⟨W2, hW2⟩ : ∃ W2, (W.setCell ⟨gr, i, none⟩ (.int .i64 z)).drew = W2 := ⟨_, rfl⟩
  rw [hW2] at hPz hNz hRz hBz
  with_reducible rw [hW2]
  clear hW2 GP GN gR gw
  have HSLn : Hid ((bs.set i z).length = n) := by show _ = _; rw [List.length_set]; exact HN.out
  have c0 := hPz.cell 0
  have c1 := hPz.cell 1
  have c2' := hPz.cell 2
  simp only [List.getElem?_cons_zero, List.getElem?_cons_succ] at c0 c1 c2'
  have HSz := Lib.hid (hNz.sl HSLn.out hnc hcm)
  have HNz := Lib.hid hNz
  have HRz := Lib.hid hRz
  have HPz := Lib.hid hPz
  have HBz := Lib.hid hBz
  clear hPz hNz hRz hBz
  go_wp2_with fail
  refine (refRight11_any _ (bs.set i z) c2 d _ hq _ HSz.out).mono ?_
  rintro _ w7 ⟨rfl, hb7⟩
  have hR7 := HRz.out.below hb7
  have r0 := hR7.cell 0
  have r1 := hR7.cell 1
  have r2 := hR7.cell 2
  simp only [List.getElem?_cons_zero, List.getElem?_cons_succ] at r0 r1 r2
  have e0 := hR7.frozen 0
  have e1 := hR7.frozen 1
  have e2 := hR7.frozen 2
  have hP7 := HPz.out.below hb7
  clear c0 c1 c2'
  have c0 := hP7.cell 0
  have c1 := hP7.cell 1
  have c2' := hP7.cell 2
  simp only [List.getElem?_cons_zero, List.getElem?_cons_succ] at c0 c1 c2'
  have hbf4 : Below w.heap.size w w7 := bl_tr HBz.out hb7
  have HN4 := Lib.hid (HNz.out.below hb7)
  have HSL := HSLn
  have hlt4 := hR7.lt
  clear hR7 hb7 hP7
  go_wp2
  refine bodyPost_ret (v := .tuple #[.agg #[.slice none 0 0, .int .i64 0, .int .i64 0], .int .i64 5]) (by simp [results, Try.results49, go_sem, r0, r1, r2]) rfl ⟨.slice none 0 0, rfl, ⟨Sl.nil, fr_nil⟩, bl_s3 hbf4 (by omega) _ _ _⟩

/-- What is added to a tranche, the credit first. -/
def addS (bs : List Int) (c d : Int) (i : Nat) (am : Int) : List Int × Int × Int × Int :=
  if rightP (bs.set i (bs.getD i 0 + (am - min am c))) (c - min am c) d = true then (bs.set i (bs.getD i 0 + (am - min am c)), c - min am c, d, 0) else ([], 0, 0, 5)
theorem refAdd11_any (v : Value) (bs : List Int) (c d : Int) (i : Nat) (am : Int) (s : List Int × Int × Int × Int) (hs : Hid (addS bs c d i am = s)) (hi : i < bs.length) (hr : rightP bs c d = true) (ham : 0 ≤ am ∧ am ≤ 1000000000000000) (hlen : bs.length ≤ 1000) (w : World) (hv : Sl .i64 w v bs) :
    Calls Try.prog 49 #[.agg #[v, .int .i64 c, .int .i64 d], .int .i64 ((i : Int) + 1), .int .i64 am] w (RetPosN s w) := by
  have hs := hs.out
  subst hs
  obtain ⟨hc, hm⟩ := rightP_may hr
  have hy := hm i hi
  have e1 : min c am = min am c := Int.min_comm _ _
  have e2 : bs.getD i 0 + am - min am c = bs.getD i 0 + (am - min am c) := by omega
  unfold addS
  cases hq : rightP (bs.set i (bs.getD i 0 + (am - min am c))) (c - min am c) d with
  | true => rw [if_pos rfl]; exact refAdd11_ok v bs c d i am _ _ _ _ hi rfl e1 e2 rfl ⟨hy, hc, ham⟩ hq hlen w hv
  | false => rw [if_neg (by simp)]; exact refAdd11_bad v bs c d i am _ _ _ _ hi rfl e1 e2 rfl ⟨hy, hc, ham⟩ hq hlen w hv
end Go.Proofs.Ytbiiejolemcifaa

/- lombardref11.less: balances less what goes into them. -/
import Derived.Test.YtbiiejolemcifaaRef11D
namespace Go.Proofs.Ytbiiejolemcifaa
open Go.RowKit

set_option maxHeartbeats 3200000 in
set_option maxRecDepth 100000 in
theorem refLess11_ok (v u : Value) (bs l : List Int) (c d le cf : Int) (hll : l.length = bs.length) (hlr : Hid (∀ j, j < bs.length → 0 ≤ l.getD j 0 ∧ l.getD j 0 ≤ bs.getD j 0 ∧ bs.getD j 0 ≤ 1000000000000000)) (hcf : c + le = cf) (wcf : wrap64 cf = cf) (hq : Hid (rightP (subL bs l) cf d = true)) (hl1 : 1 ≤ bs.length) (hlen : bs.length ≤ 1000) (w : World) (hv : Sl .i64 w v bs) (hu : Sl .i64 w u l) :
    Calls Try.prog 52 #[.agg #[v, .int .i64 c, .int .i64 d], u, .int .i64 le] w (RetPosN (subL bs l, cf, d, 0) w) := by
  have HV := Lib.hid hv
  have HU := Lib.hid hu
  obtain ⟨ao, cap, rfl, h1, ⟨h2, _⟩, h3⟩ := hv
  clear h3
  obtain ⟨ao', cap', rfl, h1', ⟨h2', _⟩, h3⟩ := hu
  clear h3
  unfold maxLen at h2 h2'
  have HBLK : Hid (Blk ((w.alloc (.cells #[.slice ao bs.length cap, .int .i64 c, .int .i64 d] 25)).alloc (.cells #[.slice none 0 0, .int .i64 0, .int .i64 0] 25)) (w.heap.size + 1) 25 [.slice none 0 0, .int .i64 0, .int .i64 0]) := by
    have := heap_alloc_new (w.alloc (.cells #[.slice ao bs.length cap, .int .i64 c, .int .i64 d] 25)) (.cells #[.slice none 0 0, .int .i64 0, .int .i64 0] 25)
    simpa [Blk, Hid] using this
  have hB0 : Blk (w.alloc (.cells #[.slice ao bs.length cap, .int .i64 c, .int .i64 d] 25)) w.heap.size 25 [.slice ao bs.length cap, .int .i64 c, .int .i64 d] := heap_alloc_new w _
  have HB0 := Lib.hid (hB0.below (bl_al (Below.refl _ _) (.cells #[.slice none 0 0, .int .i64 0, .int .i64 0] 25)))
  have HW0 : Hid (Below w.heap.size w ((w.alloc (.cells #[.slice ao bs.length cap, .int .i64 c, .int .i64 d] 25)).alloc (.cells #[.slice none 0 0, .int .i64 0, .int .i64 0] 25))) := bl_al (bl_al (Below.refl _ _) _) _
  have HSZ : Hid (((w.alloc (.cells #[.slice ao bs.length cap, .int .i64 c, .int .i64 d] 25)).alloc (.cells #[.slice none 0 0, .int .i64 0, .int .i64 0] 25)).heap.size = w.heap.size + 2) := by show _ = _; simp
  have HX := Lib.hid (And.intro hl1 hlen)
  have HLL := Lib.hid hll
  have WW := Lib.hid (And.intro hcf wcf)
  clear hB0 hl1 hlen hll hcf wcf
  go_enter Try.func52, Try.ntmps52
  go_wp2_with fail
  refine (refCopy11_any _ bs c d HX.out.2 _ (HV.out.below HW0.out)).mono ?_
  rintro _ w3 ⟨q3, rfl, hown, hb3⟩
  rw [HSZ.out] at hown
  obtain ⟨ao3, capr, rfl, hnc, hcm, hBR⟩ := own_block hown
  obtain ⟨gr, hgr0, hgr1, cur, hcur1, hcur2, hcur3⟩ := hBR (by have := HX.out.1; omega)
  subst hgr0
  obtain ⟨n, hn⟩ : ∃ n, bs.length = n := ⟨_, rfl⟩
  have HN := Lib.hid hn
  have HNR : Hid (Nums w3 gr capr bs) := ⟨cur, hcur1, hcur2, hcur3⟩
  have hbr : w.heap.size + 2 ≤ gr := by omega
  have HLn : Hid (l.length = n) := HLL.out.trans hn
  rw [hn] at hnc ⊢
  have hB3 := HB0.out.below hb3
  have f0 := hB3.frozen 0
  have f1 := hB3.frozen 1
  have f2 := hB3.frozen 2
  have c0 := hB3.cell 0
  have c1 := hB3.cell 1
  have c2' := hB3.cell 2
  simp only [List.getElem?_cons_zero, List.getElem?_cons_succ] at c0 c1 c2'
  have HB3 := Lib.hid hB3
  have HR3 := Lib.hid (HBLK.out.below hb3)
  have HBF3 := Lib.hid (bl_tr HW0.out hb3)
  have hgr3 := HNR.out.lt
  have hR1 := HR3.out.lt
  clear hB3 hown hb3 hn hcur1 hcur2 hcur3 hgr1 cur HBLK HB0 HW0 HSZ HV
  go_wp2_with fail
  go_loopg [8] n (fun g i wr => ∃ (k : Nat), k + g = n ∧ i = .int .i64 k ∧ Hid (Blk wr w.heap.size 25 [.slice (some ⟨gr, 0, none⟩) n capr, .int .i64 c, .int .i64 d] ∧ Nums wr gr capr (mixL (subL bs l) bs k) ∧ Blk wr (w.heap.size + 1) 25 [.slice none 0 0, .int .i64 0, .int .i64 0] ∧ Below w.heap.size w wr))
  case atStart =>
    refine ⟨0, by omega, rfl, ?_⟩
    refine ⟨((HB3.out.set 0 _).set 1 _).set 2 _, ?_, ((HR3.out.setOther (by omega) 0 _).setOther (by omega) 1 _).setOther (by omega) 2 _, bl_s3 HBF3.out (Nat.le_refl _) _ _ _⟩
    rw [mixL_zero]
    exact ((HNR.out.setOther (by omega) 0 _).setOther (by omega) 1 _).setOther (by omega) 2 _
  case round =>
    obtain ⟨k, hkg, rfl, HI⟩ := hrel
    clear c0 c1 c2' f0 f1 f2
    have HSLn : Hid ((subL bs l).length = n) := by show _ = _; unfold subL; rw [List.length_zipWith]; have := HN.out; have := HLn.out; omega
    cases gk with
    | succ g =>
      have hlt : (k : Int) < (l.length : Int) := by have := HLn.out; omega
      have hkn : k < n := by omega
      have hkn2 : (k : Int) < (n : Int) := by omega
      obtain ⟨hBp, hNm, hRr, hbw⟩ := HI.out
      obtain ⟨b', o', y, rfl, hcell, HY⟩ := (HU.out.below hbw).get (i := k) (by have := HLn.out; omega)
      have hml := mixL_length (k := k) HSLn.out HN.out (Nat.le_of_lt hkn)
      have c5 := hNm.cell (i := k) (by omega)
      rw [mixL_get HSLn.out HN.out hkn] at c5
      have f5 := hNm.frozen k
      have c0 := hBp.cell 0
      simp only [List.getElem?_cons_zero] at c0
      have hsub := getD_subL (a := bs) (b := l) (i := k) (by have := HN.out; omega) (by have := HLn.out; omega)
      have hr := hlr.out k (by have := HN.out; omega)
      rw [HY.out] at hr hsub
      generalize bs.getD k 0 = x at c5 hsub hr
      have HS := Lib.hid hsub
      have HZ := Lib.hid (And.intro hBp (And.intro hNm (And.intro hRr hbw)))
      have wx1 : IntKind.i64.wrap (x - y) = x - y := IntWalk.i64_in _ ⟨by omega, by omega⟩
      clear hsub hNm hBp hRr hbw hml HI
      go_wp2_with fail
      go_region
      go_wp2_with fail
      go_roundg g
      case measure => omega
      case rel =>
        refine ⟨k + 1, by omega, by go_num, ?_⟩
        obtain ⟨hBp, hNm, hRr, hbw⟩ := HZ.out
        refine ⟨hBp.setOther (by omega) _ _, ?_, hRr.setOther (by omega) _ _, (hbw.setCell (show w.heap.size ≤ gr by omega) _).drew⟩
        have e := mixL_set HSLn.out HN.out hkn
        rw [HS.out] at e
        rw [← e]
        exact hNm.set k (x - y)
    | zero =>
      obtain rfl : k = n := by omega
      have hlt : ¬ ((k : Int) < (l.length : Int)) := by have := HLn.out; omega
      obtain ⟨hBp, hNm, hRr, hbw⟩ := HI.out
      rw [mixL_all HSLn.out HN.out] at hNm
      have c0 := hBp.cell 0
      have c1 := hBp.cell 1
      have c2' := hBp.cell 2
      simp only [List.getElem?_cons_zero, List.getElem?_cons_succ] at c0 c1 c2'
      have f1 := hBp.frozen 1
      obtain ⟨hcf, wcf⟩ := WW.out
      have hlb := hBp.lt
      have HZ := Lib.hid (And.intro hBp (And.intro hNm (And.intro hRr hbw)))
      clear hBp hNm hRr hbw HI
      go_wp2_with fail
      refine (refRight11_any _ (subL bs l) cf d _ hq _ ?sl).mono ?_
      case sl => exact (HZ.out.2.1.setOther (by omega) 1 _).sl HSLn.out hnc hcm
      rintro _ w7 ⟨rfl, hb7⟩
      have hR7 := (HZ.out.2.2.1.setOther (by omega) 1 (.int .i64 cf)).below hb7
      have r0 := hR7.cell 0
      have r1 := hR7.cell 1
      have r2 := hR7.cell 2
      simp only [List.getElem?_cons_zero, List.getElem?_cons_succ] at r0 r1 r2
      have e0 := hR7.frozen 0
      have e1 := hR7.frozen 1
      have e2 := hR7.frozen 2
      have hP7 := (HZ.out.1.set 1 (.int .i64 cf)).below hb7
      clear c0 c1 c2' f1
      have c0 := hP7.cell 0
      have c1 := hP7.cell 1
      have c2' := hP7.cell 2
      simp only [List.set_cons_succ, List.set_cons_zero, List.getElem?_cons_zero, List.getElem?_cons_succ] at c0 c1 c2'
      have hbf4 : Below w.heap.size w w7 := (HZ.out.2.2.2.setCell (p := ⟨w.heap.size, 1, none⟩) (Nat.le_refl _) (.int .i64 cf)).trans (hb7.mono (by simp; omega))
      have HN4 := Lib.hid ((HZ.out.2.1.setOther (by omega) 1 (.int .i64 cf)).below hb7)
      have HSL := HSLn
      have hlt4 := hR7.lt
      clear hR7 hb7 hP7 hcf wcf
      go_wp2
      refine bodyPost_ret (v := .tuple #[.agg #[.slice (some ⟨gr, 0, none⟩) k capr, .int .i64 cf, .int .i64 d], .int .i64 0]) (by simp [results, Try.results52, go_sem, r0, r1, r2]) rfl ⟨.slice (some ⟨gr, 0, none⟩) k capr, rfl, ⟨(((HN4.out.setOther (by omega) 0 _).setOther (by omega) 1 _).setOther (by omega) 2 _).sl HSL.out hnc hcm, fr_of fun _ => ⟨rfl, by omega⟩⟩, bl_s3 hbf4 (by omega) _ _ _⟩

set_option maxHeartbeats 3200000 in
set_option maxRecDepth 100000 in
theorem refLess11_bad (v u : Value) (bs l : List Int) (c d le cf : Int) (hll : l.length = bs.length) (hlr : Hid (∀ j, j < bs.length → 0 ≤ l.getD j 0 ∧ l.getD j 0 ≤ bs.getD j 0 ∧ bs.getD j 0 ≤ 1000000000000000)) (hcf : c + le = cf) (wcf : wrap64 cf = cf) (hq : Hid (rightP (subL bs l) cf d = false)) (hl1 : 1 ≤ bs.length) (hlen : bs.length ≤ 1000) (w : World) (hv : Sl .i64 w v bs) (hu : Sl .i64 w u l) :
    Calls Try.prog 52 #[.agg #[v, .int .i64 c, .int .i64 d], u, .int .i64 le] w (RetPosN ([], 0, 0, 5) w) := by
  have HV := Lib.hid hv
  have HU := Lib.hid hu
  obtain ⟨ao, cap, rfl, h1, ⟨h2, _⟩, h3⟩ := hv
  clear h3
  obtain ⟨ao', cap', rfl, h1', ⟨h2', _⟩, h3⟩ := hu
  clear h3
  unfold maxLen at h2 h2'
  have HBLK : Hid (Blk ((w.alloc (.cells #[.slice ao bs.length cap, .int .i64 c, .int .i64 d] 25)).alloc (.cells #[.slice none 0 0, .int .i64 0, .int .i64 0] 25)) (w.heap.size + 1) 25 [.slice none 0 0, .int .i64 0, .int .i64 0]) := by
    have := heap_alloc_new (w.alloc (.cells #[.slice ao bs.length cap, .int .i64 c, .int .i64 d] 25)) (.cells #[.slice none 0 0, .int .i64 0, .int .i64 0] 25)
    simpa [Blk, Hid] using this
  have hB0 : Blk (w.alloc (.cells #[.slice ao bs.length cap, .int .i64 c, .int .i64 d] 25)) w.heap.size 25 [.slice ao bs.length cap, .int .i64 c, .int .i64 d] := heap_alloc_new w _
  have HB0 := Lib.hid (hB0.below (bl_al (Below.refl _ _) (.cells #[.slice none 0 0, .int .i64 0, .int .i64 0] 25)))
  have HW0 : Hid (Below w.heap.size w ((w.alloc (.cells #[.slice ao bs.length cap, .int .i64 c, .int .i64 d] 25)).alloc (.cells #[.slice none 0 0, .int .i64 0, .int .i64 0] 25))) := bl_al (bl_al (Below.refl _ _) _) _
  have HSZ : Hid (((w.alloc (.cells #[.slice ao bs.length cap, .int .i64 c, .int .i64 d] 25)).alloc (.cells #[.slice none 0 0, .int .i64 0, .int .i64 0] 25)).heap.size = w.heap.size + 2) := by show _ = _; simp
  have HX := Lib.hid (And.intro hl1 hlen)
  have HLL := Lib.hid hll
  have WW := Lib.hid (And.intro hcf wcf)
  clear hB0 hl1 hlen hll hcf wcf
  go_enter Try.func52, Try.ntmps52
  go_wp2_with fail
  refine (refCopy11_any _ bs c d HX.out.2 _ (HV.out.below HW0.out)).mono ?_
  rintro _ w3 ⟨q3, rfl, hown, hb3⟩
  rw [HSZ.out] at hown
  obtain ⟨ao3, capr, rfl, hnc, hcm, hBR⟩ := own_block hown
  obtain ⟨gr, hgr0, hgr1, cur, hcur1, hcur2, hcur3⟩ := hBR (by have := HX.out.1; omega)
  subst hgr0
  obtain ⟨n, hn⟩ : ∃ n, bs.length = n := ⟨_, rfl⟩
  have HN := Lib.hid hn
  have HNR : Hid (Nums w3 gr capr bs) := ⟨cur, hcur1, hcur2, hcur3⟩
  have hbr : w.heap.size + 2 ≤ gr := by omega
  have HLn : Hid (l.length = n) := HLL.out.trans hn
  rw [hn] at hnc ⊢
  have hB3 := HB0.out.below hb3
  have f0 := hB3.frozen 0
  have f1 := hB3.frozen 1
  have f2 := hB3.frozen 2
  have c0 := hB3.cell 0
  have c1 := hB3.cell 1
  have c2' := hB3.cell 2
  simp only [List.getElem?_cons_zero, List.getElem?_cons_succ] at c0 c1 c2'
  have HB3 := Lib.hid hB3
  have HR3 := Lib.hid (HBLK.out.below hb3)
  have HBF3 := Lib.hid (bl_tr HW0.out hb3)
  have hgr3 := HNR.out.lt
  have hR1 := HR3.out.lt
  clear hB3 hown hb3 hn hcur1 hcur2 hcur3 hgr1 cur HBLK HB0 HW0 HSZ HV
  go_wp2_with fail
  go_loopg [8] n (fun g i wr => ∃ (k : Nat), k + g = n ∧ i = .int .i64 k ∧ Hid (Blk wr w.heap.size 25 [.slice (some ⟨gr, 0, none⟩) n capr, .int .i64 c, .int .i64 d] ∧ Nums wr gr capr (mixL (subL bs l) bs k) ∧ Blk wr (w.heap.size + 1) 25 [.slice none 0 0, .int .i64 0, .int .i64 0] ∧ Below w.heap.size w wr))
  case atStart =>
    refine ⟨0, by omega, rfl, ?_⟩
    refine ⟨((HB3.out.set 0 _).set 1 _).set 2 _, ?_, ((HR3.out.setOther (by omega) 0 _).setOther (by omega) 1 _).setOther (by omega) 2 _, bl_s3 HBF3.out (Nat.le_refl _) _ _ _⟩
    rw [mixL_zero]
    exact ((HNR.out.setOther (by omega) 0 _).setOther (by omega) 1 _).setOther (by omega) 2 _
  case round =>
    obtain ⟨k, hkg, rfl, HI⟩ := hrel
    clear c0 c1 c2' f0 f1 f2
    have HSLn : Hid ((subL bs l).length = n) := by show _ = _; unfold subL; rw [List.length_zipWith]; have := HN.out; have := HLn.out; omega
    cases gk with
    | succ g =>
      have hlt : (k : Int) < (l.length : Int) := by have := HLn.out; omega
      have hkn : k < n := by omega
      have hkn2 : (k : Int) < (n : Int) := by omega
      obtain ⟨hBp, hNm, hRr, hbw⟩ := HI.out
      obtain ⟨b', o', y, rfl, hcell, HY⟩ := (HU.out.below hbw).get (i := k) (by have := HLn.out; omega)
      have hml := mixL_length (k := k) HSLn.out HN.out (Nat.le_of_lt hkn)
      have c5 := hNm.cell (i := k) (by omega)
      rw [mixL_get HSLn.out HN.out hkn] at c5
      have f5 := hNm.frozen k
      have c0 := hBp.cell 0
      simp only [List.getElem?_cons_zero] at c0
      have hsub := getD_subL (a := bs) (b := l) (i := k) (by have := HN.out; omega) (by have := HLn.out; omega)
      have hr := hlr.out k (by have := HN.out; omega)
      rw [HY.out] at hr hsub
      generalize bs.getD k 0 = x at c5 hsub hr
      have HS := Lib.hid hsub
      have HZ := Lib.hid (And.intro hBp (And.intro hNm (And.intro hRr hbw)))
      have wx1 : IntKind.i64.wrap (x - y) = x - y := IntWalk.i64_in _ ⟨by omega, by omega⟩
      clear hsub hNm hBp hRr hbw hml HI
      go_wp2_with fail
      go_region
      go_wp2_with fail
      go_roundg g
      case measure => omega
      case rel =>
        refine ⟨k + 1, by omega, by go_num, ?_⟩
        obtain ⟨hBp, hNm, hRr, hbw⟩ := HZ.out
        refine ⟨hBp.setOther (by omega) _ _, ?_, hRr.setOther (by omega) _ _, (hbw.setCell (show w.heap.size ≤ gr by omega) _).drew⟩
        have e := mixL_set HSLn.out HN.out hkn
        rw [HS.out] at e
        rw [← e]
        exact hNm.set k (x - y)
    | zero =>
      obtain rfl : k = n := by omega
      have hlt : ¬ ((k : Int) < (l.length : Int)) := by have := HLn.out; omega
      obtain ⟨hBp, hNm, hRr, hbw⟩ := HI.out
      rw [mixL_all HSLn.out HN.out] at hNm
      have c0 := hBp.cell 0
      have c1 := hBp.cell 1
      have c2' := hBp.cell 2
      simp only [List.getElem?_cons_zero, List.getElem?_cons_succ] at c0 c1 c2'
      have f1 := hBp.frozen 1
      obtain ⟨hcf, wcf⟩ := WW.out
      have hlb := hBp.lt
      have HZ := Lib.hid (And.intro hBp (And.intro hNm (And.intro hRr hbw)))
      clear hBp hNm hRr hbw HI
      go_wp2_with fail
      refine (refRight11_any _ (subL bs l) cf d _ hq _ ?sl).mono ?_
      case sl => exact (HZ.out.2.1.setOther (by omega) 1 _).sl HSLn.out hnc hcm
      rintro _ w7 ⟨rfl, hb7⟩
      have hR7 := (HZ.out.2.2.1.setOther (by omega) 1 (.int .i64 cf)).below hb7
      have r0 := hR7.cell 0
      have r1 := hR7.cell 1
      have r2 := hR7.cell 2
      simp only [List.getElem?_cons_zero, List.getElem?_cons_succ] at r0 r1 r2
      have e0 := hR7.frozen 0
      have e1 := hR7.frozen 1
      have e2 := hR7.frozen 2
      have hP7 := (HZ.out.1.set 1 (.int .i64 cf)).below hb7
      clear c0 c1 c2' f1
      have c0 := hP7.cell 0
      have c1 := hP7.cell 1
      have c2' := hP7.cell 2
      simp only [List.set_cons_succ, List.set_cons_zero, List.getElem?_cons_zero, List.getElem?_cons_succ] at c0 c1 c2'
      have hbf4 : Below w.heap.size w w7 := (HZ.out.2.2.2.setCell (p := ⟨w.heap.size, 1, none⟩) (Nat.le_refl _) (.int .i64 cf)).trans (hb7.mono (by simp; omega))
      have HN4 := Lib.hid ((HZ.out.2.1.setOther (by omega) 1 (.int .i64 cf)).below hb7)
      have HSL := HSLn
      have hlt4 := hR7.lt
      clear hR7 hb7 hP7 hcf wcf
      go_wp2
      refine bodyPost_ret (v := .tuple #[.agg #[.slice none 0 0, .int .i64 0, .int .i64 0], .int .i64 5]) (by simp [results, Try.results52, go_sem, r0, r1, r2]) rfl ⟨.slice none 0 0, rfl, ⟨Sl.nil, fr_nil⟩, bl_s3 hbf4 (by omega) _ _ _⟩

def lessS (bs l : List Int) (c d le : Int) : List Int × Int × Int × Int := if rightP (subL bs l) (c + le) d = true then (subL bs l, c + le, d, 0) else ([], 0, 0, 5)
theorem refLess11_any (v u : Value) (bs l : List Int) (c d le : Int) (s : List Int × Int × Int × Int) (hs : Hid (lessS bs l c d le = s)) (hll : l.length = bs.length) (hlr : Hid (∀ j, j < bs.length → 0 ≤ l.getD j 0 ∧ l.getD j 0 ≤ bs.getD j 0 ∧ bs.getD j 0 ≤ 1000000000000000)) (hcl : 0 ≤ c + le ∧ c + le ≤ 9000000000000000) (hl1 : 1 ≤ bs.length) (hlen : bs.length ≤ 1000) (w : World) (hv : Sl .i64 w v bs) (hu : Sl .i64 w u l) :
    Calls Try.prog 52 #[.agg #[v, .int .i64 c, .int .i64 d], u, .int .i64 le] w (RetPosN s w) := by
  have hs := hs.out
  subst hs
  have wcf : wrap64 (c + le) = c + le := IntWalk.wrap64_in _ ⟨by omega, by omega⟩
  unfold lessS
  cases hq : rightP (subL bs l) (c + le) d with
  | true => rw [if_pos rfl]; exact refLess11_ok v u bs l c d le _ hll hlr rfl wcf hq hl1 hlen w hv hu
  | false => rw [if_neg (by simp)]; exact refLess11_bad v u bs l c d le _ hll hlr rfl wcf hq hl1 hlen w hv hu
end Go.Proofs.Ytbiiejolemcifaa

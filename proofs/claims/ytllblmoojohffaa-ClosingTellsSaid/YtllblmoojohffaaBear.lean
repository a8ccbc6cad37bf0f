/- pool.Bear: what interest makes of a position, or why not. -/
import Derived.Test.YtllblmoojohffaaBearMath
namespace Go.Proofs.Ytllblmoojohffaa
open Go.RowKit

set_option maxHeartbeats 1600000 in
set_option maxRecDepth 100000 in
theorem poolBear_no (v u : Value) (bs ns : List Int) (c d : Int) (h : Hid (rightP bs c d = false ∨ (ns.length == bs.length) = false ∨ ns.any notMay = true)) (hlen : bs.length ≤ 1000) (w : World) (hv : Sl .i64 w v bs) (hu : Sl .i64 w u ns) :
    Calls Try.prog 50 #[.agg #[v, .int .i64 c, .int .i64 d], u] w (RetPosN ([], 0, 0, 1) w) := by
  have HV := Lib.hid hv
  have HU := Lib.hid hu
  obtain ⟨ao, cap, rfl, h1, ⟨h2, _⟩, h3⟩ := hv
  clear h3
  obtain ⟨ao', cap', rfl, h1', ⟨h2', _⟩, h3⟩ := hu
  clear h3
  unfold maxLen at h2 h2'
  have HBLK : Hid (Blk ((w.alloc (.cells #[.slice ao bs.length cap, .int .i64 c, .int .i64 d] 46)).alloc (.cells #[.slice none 0 0, .int .i64 0, .int .i64 0] 46)) (w.heap.size + 1) 46 [.slice none 0 0, .int .i64 0, .int .i64 0]) := by
    have := heap_alloc_new (w.alloc (.cells #[.slice ao bs.length cap, .int .i64 c, .int .i64 d] 46)) (.cells #[.slice none 0 0, .int .i64 0, .int .i64 0] 46)
    simpa [Blk, Hid] using this
  have hB0 : Blk (w.alloc (.cells #[.slice ao bs.length cap, .int .i64 c, .int .i64 d] 46)) w.heap.size 46 [.slice ao bs.length cap, .int .i64 c, .int .i64 d] := heap_alloc_new w _
  have HB0 := Lib.hid (hB0.below (bl_al (Below.refl _ _) (.cells #[.slice none 0 0, .int .i64 0, .int .i64 0] 46)))
  have HW0 : Hid (Below w.heap.size w ((w.alloc (.cells #[.slice ao bs.length cap, .int .i64 c, .int .i64 d] 46)).alloc (.cells #[.slice none 0 0, .int .i64 0, .int .i64 0] 46))) := bl_al (bl_al (Below.refl _ _) _) _
  clear hB0
  cases hq : rightP bs c d with
  | false =>
    have HQ := Lib.hid hq
    clear hq
    go_enter Try.func50, Try.ntmps50
    go_wp2_with fail
    refine (poolRight_any _ bs c d _ HQ (by omega) _ (HV.out.below HW0.out)).mono ?_
    rintro _ w1 ⟨rfl, hb1⟩
    have HR1 := Lib.hid (HBLK.out.below hb1)
    have HB1 := Lib.hid (HB0.out.below hb1)
    have hbf := bl_tr HW0.out hb1
    clear hb1
    have hR := HR1.out
    have r0 := hR.cell 0
    have r1 := hR.cell 1
    have r2 := hR.cell 2
    simp only [List.getElem?_cons_zero, List.getElem?_cons_succ] at r0 r1 r2
    have f0 := hR.frozen 0
    have f1 := hR.frozen 1
    have f2 := hR.frozen 2
    have hlt := hR.lt
    clear hR
    go_wp2
    refine bodyPost_ret (v := .tuple #[.agg #[.slice none 0 0, .int .i64 0, .int .i64 0], .int .i64 1]) (by simp [results, Try.results50, go_sem, r0, r1, r2]) rfl ⟨.slice none 0 0, rfl, ⟨Sl.nil, fr_nil⟩, bl_s3 hbf (by omega) _ _ _⟩
  | true =>
    have HQ := Lib.hid hq
    by_cases hl : ns.length = bs.length
    · have d1 : ((ns.length : Int) != (bs.length : Int)) = false := by simp [hl]
      have hany : Hid (ns.any notMay = true) := by
        rcases h.out with h' | h' | h'
        · rw [hq] at h'; exact absurd h' (by simp)
        · simp [hl] at h'
        · exact h'
      clear hq hl
      go_enter Try.func50, Try.ntmps50
      go_wp2_with fail
      refine (poolRight_any _ bs c d _ HQ (by omega) _ (HV.out.below HW0.out)).mono ?_
      rintro _ w1 ⟨rfl, hb1⟩
      have HR1 := Lib.hid (HBLK.out.below hb1)
      have HB1 := Lib.hid (HB0.out.below hb1)
      have hbf := bl_tr HW0.out hb1
      clear hb1
      have hB1 := HB1.out
      have c0 := hB1.cell 0
      have c1 := hB1.cell 1
      have c2 := hB1.cell 2
      simp only [List.getElem?_cons_zero, List.getElem?_cons_succ] at c0 c1 c2
      clear hB1
      go_wp2_with fail
      refine (bearmay_contains _ ns true hany _ (HU.out.below hbf)).mono ?_
      rintro _ w2 ⟨rfl, rfl⟩
      have hR := HR1.out
      have r0 := hR.cell 0
      have r1 := hR.cell 1
      have r2 := hR.cell 2
      simp only [List.getElem?_cons_zero, List.getElem?_cons_succ] at r0 r1 r2
      have f0 := hR.frozen 0
      have f1 := hR.frozen 1
      have f2 := hR.frozen 2
      have hlt := hR.lt
      clear hR
      go_wp2
      refine bodyPost_ret (v := .tuple #[.agg #[.slice none 0 0, .int .i64 0, .int .i64 0], .int .i64 1]) (by simp [results, Try.results50, go_sem, r0, r1, r2]) rfl ⟨.slice none 0 0, rfl, ⟨Sl.nil, fr_nil⟩, bl_s3 hbf (by omega) _ _ _⟩
    · have d1 : ((ns.length : Int) != (bs.length : Int)) = true := by simp; omega
      clear hq hl
      go_enter Try.func50, Try.ntmps50
      go_wp2_with fail
      refine (poolRight_any _ bs c d _ HQ (by omega) _ (HV.out.below HW0.out)).mono ?_
      rintro _ w1 ⟨rfl, hb1⟩
      have HR1 := Lib.hid (HBLK.out.below hb1)
      have HB1 := Lib.hid (HB0.out.below hb1)
      have hbf := bl_tr HW0.out hb1
      clear hb1
      have hB1 := HB1.out
      have c0 := hB1.cell 0
      have c1 := hB1.cell 1
      have c2 := hB1.cell 2
      simp only [List.getElem?_cons_zero, List.getElem?_cons_succ] at c0 c1 c2
      clear hB1
      have hR := HR1.out
      have r0 := hR.cell 0
      have r1 := hR.cell 1
      have r2 := hR.cell 2
      simp only [List.getElem?_cons_zero, List.getElem?_cons_succ] at r0 r1 r2
      have f0 := hR.frozen 0
      have f1 := hR.frozen 1
      have f2 := hR.frozen 2
      have hlt := hR.lt
      clear hR
      go_wp2
      refine bodyPost_ret (v := .tuple #[.agg #[.slice none 0 0, .int .i64 0, .int .i64 0], .int .i64 1]) (by simp [results, Try.results50, go_sem, r0, r1, r2]) rfl ⟨.slice none 0 0, rfl, ⟨Sl.nil, fr_nil⟩, bl_s3 hbf (by omega) _ _ _⟩

set_option maxHeartbeats 3200000 in
set_option maxRecDepth 100000 in
theorem poolBear_ok (v u : Value) (bs ns : List Int) (c d : Int) (hr : Hid (rightP bs c d = true)) (hl : ns.length = bs.length) (hany : Hid (ns.any notMay = false)) (Lf : List Int) (Cf : Int) (HF : Hid (bearSt ns bs c bs.length = (Lf, Cf))) (hq : Hid (rightP Lf Cf d = true)) (hlen : bs.length ≤ 1000) (w : World) (hv : Sl .i64 w v bs) (hu : Sl .i64 w u ns) :
    Calls Try.prog 50 #[.agg #[v, .int .i64 c, .int .i64 d], u] w (RetPosN (Lf, Cf, d, 0) w) := by
  have HV := Lib.hid hv
  have HU := Lib.hid hu
  obtain ⟨ao, cap, rfl, h1, ⟨h2, _⟩, h3⟩ := hv
  clear h3
  obtain ⟨ao', cap', rfl, h1', ⟨h2', _⟩, h3⟩ := hu
  clear h3
  unfold maxLen at h2 h2'
  have HBLK : Hid (Blk ((w.alloc (.cells #[.slice ao bs.length cap, .int .i64 c, .int .i64 d] 46)).alloc (.cells #[.slice none 0 0, .int .i64 0, .int .i64 0] 46)) (w.heap.size + 1) 46 [.slice none 0 0, .int .i64 0, .int .i64 0]) := by
    have := heap_alloc_new (w.alloc (.cells #[.slice ao bs.length cap, .int .i64 c, .int .i64 d] 46)) (.cells #[.slice none 0 0, .int .i64 0, .int .i64 0] 46)
    simpa [Blk, Hid] using this
  have hB0 : Blk (w.alloc (.cells #[.slice ao bs.length cap, .int .i64 c, .int .i64 d] 46)) w.heap.size 46 [.slice ao bs.length cap, .int .i64 c, .int .i64 d] := heap_alloc_new w _
  have HB0 := Lib.hid (hB0.below (bl_al (Below.refl _ _) (.cells #[.slice none 0 0, .int .i64 0, .int .i64 0] 46)))
  have HW0 : Hid (Below w.heap.size w ((w.alloc (.cells #[.slice ao bs.length cap, .int .i64 c, .int .i64 d] 46)).alloc (.cells #[.slice none 0 0, .int .i64 0, .int .i64 0] 46))) := bl_al (bl_al (Below.refl _ _) _) _
  clear hB0
  have HQ := hr
  have d1 : ((ns.length : Int) != (bs.length : Int)) = false := by simp [hl]
  have HL := Lib.hid hl
  have hmay := rightP_may hr.out
  have hpos : 1 ≤ bs.length := rightP_len hr.out
  have HC := Lib.hid (fun k => bearSt_c (bs := bs) hany.out hmay.1 k)
  have HM := Lib.hid (fun k => any_may hany.out k)
  have HBM := Lib.hid hmay.2
  have HARG := Lib.hid (And.intro hpos hlen)
  clear hl hmay
  go_enter Try.func50, Try.ntmps50
  go_wp2_with fail
  refine (poolRight_any _ bs c d _ HQ (by omega) _ (HV.out.below HW0.out)).mono ?_
  rintro _ w1 ⟨rfl, hb1⟩
  have HR1 := Lib.hid (HBLK.out.below hb1)
  have HB1 := Lib.hid (HB0.out.below hb1)
  have hbf := bl_tr HW0.out hb1
  clear hb1
  have hB1 := HB1.out
  have c0 := hB1.cell 0
  have c1 := hB1.cell 1
  have c2 := hB1.cell 2
  simp only [List.getElem?_cons_zero, List.getElem?_cons_succ] at c0 c1 c2
  clear hB1
  go_wp2_with fail
  refine (bearmay_contains _ ns false hany _ (HU.out.below hbf)).mono ?_
  rintro _ w2 ⟨rfl, rfl⟩
  have hz1 := hbf.size
  go_wp2_with fail
  refine (own_any _ bs c d HARG.out.2 _ (HV.out.below hbf)).mono ?_
  rintro _ w2 ⟨q, rfl, hown, hb2⟩
  obtain ⟨gr, capr, rfl⟩ := own_shape hown (by have := HARG.out.1; omega)
  obtain ⟨n, hn⟩ : ∃ n, bs.length = n := ⟨_, rfl⟩
  have HN := Lib.hid hn
  obtain ⟨base, hbase⟩ : ∃ B, w1.heap.size + 2 = B := ⟨_, rfl⟩
  rw [hn] at hown ⊢
  rw [hbase] at hown
  have hgb : w.heap.size < base := by have := HR1.out.lt; omega
  have hgb2 : w.heap.size + 1 < base := by have := HR1.out.lt; omega
  have hB2 := HB1.out.below hb2
  have f0 := hB2.frozen 0
  have f1 := hB2.frozen 1
  have f2 := hB2.frozen 2
  clear c0 c1 c2
  have c0 := hB2.cell 0
  have c1 := hB2.cell 1
  have c2 := hB2.cell 2
  simp only [List.getElem?_cons_zero, List.getElem?_cons_succ] at c0 c1 c2
  have HB2 := Lib.hid hB2
  have HOWN := Lib.hid hown
  have hgr := (hown.lt gr rfl).1
  have hz2 := hb2.size
  have HBF2 := Lib.hid (bl_tr hbf hb2)
  have HR2 := Lib.hid (HR1.out.below hb2)
  have HBase := Lib.hid hbase
  have d2 : ns.length = n := HL.out.trans HN.out
  have HD2 := Lib.hid d2
  clear hB2 hown hb2 hn hbase d1 d2
  go_wp2_with fail
  go_loopg [28] n (fun g i wr => ∃ (k : Nat), k + g = n ∧ i = .int .i64 k ∧ Hid (Blk wr w.heap.size 46 [.slice (some ⟨gr, 0, none⟩) n capr, .int .i64 (bearSt ns bs c k).2, .int .i64 d] ∧ wr.ownsRow base 2 1 (.slice (some ⟨gr, 0, none⟩) n capr) n ((bearSt ns bs c k).1.map (Value.int .i64)) ∧ Blk wr (w.heap.size + 1) 46 [.slice none 0 0, .int .i64 0, .int .i64 0] ∧ Below w.heap.size w wr))
  case atStart =>
    refine ⟨0, by omega, rfl, ?_⟩
    exact ⟨((HB2.out.set 0 _).set 1 _).set 2 _, own_setElder (own_setElder (own_setElder HOWN.out hgb) hgb) hgb, ((HR2.out.setOther (by omega) 0 _).setOther (by omega) 1 _).setOther (by omega) 2 _, bl_s3 HBF2.out (by omega) _ _ _⟩
  case round =>
    obtain ⟨k, hkg, rfl, HI⟩ := hrel
    clear c0 c1 c2 f0 f1 f2
    cases gk with
    | succ g =>
      have hlt : (k : Int) < (ns.length : Int) := by have := HD2.out; omega
      obtain ⟨b', o', x, rfl, hcell, HX⟩ := (HU.out.below HI.out.2.2.2).get (i := k) (by have := HD2.out; omega)
      have hx := HM.out k
      rw [HX.out] at hx
      have hy := HBM.out k (by have := HN.out; omega)
      have hc := HC.out k
      have hll := bearSt_len ns bs c k
      have hlat := bearSt_later ns bs c k k (Nat.le_refl _)
      have hnext : bearSt ns bs c (k + 1) = ((bearSt ns bs c k).1.set k ((bearSt ns bs c k).1.getD k 0 + (ns.getD k 0 - min (ns.getD k 0) (bearSt ns bs c k).2)), (bearSt ns bs c k).2 - min (ns.getD k 0) (bearSt ns bs c k).2) := rfl
      rw [HX.out, hlat] at hnext
      have HI2 := HI.out
      have hLY : (bearSt ns bs c k).1.getD k 0 = bs.getD k 0 := hlat
      generalize (bearSt ns bs c k).2 = C at HI2 hc hnext
      generalize (bearSt ns bs c k).1 = L at HI2 hll hnext hLY
      generalize bs.getD k 0 = y at hy hnext hLY
      have HNX := Lib.hid hnext
      have HI3 := Lib.hid HI2
      have HY := Lib.hid hLY
      have HLn : Hid (L.length = n) := hll.trans HN.out
      have hn2 : n ≤ 1000 := by have := HN.out; have := HARG.out.2; omega
      have hpw := HI2.2.2.2
      clear hnext HI2 hLY hll hlat HI
      by_cases hle : x ≤ C
      · have HCALL := fun (w' : World) => charge_small base w.heap.size gr n capr k L C d x y (C - x) HLn (by omega) hn2 HY hle rfl (IntWalk.wrap64_in _ ⟨by omega, by omega⟩) (IntWalk.wrap64_in _ ⟨by omega, by omega⟩) hgb w'
        have HNX2 : Hid (bearSt ns bs c (k + 1) = (L.set k y, C - x)) := by
          show _ = _
          rw [HNX.out, Int.min_eq_left hle, show y + (x - x) = y by omega]
        have HH := Lib.hid HCALL
        clear HCALL HNX hy hc hx
        go_wp2_with fail
        refine (HH.out _ HI3.out.1 HI3.out.2.1).mono ?_
        rintro _ w3 ⟨rfl, hB3, hown3, hsz3, hbel3, hoth3⟩
        have HNEW : Hid (Blk w3 w.heap.size 46 [.slice (some ⟨gr, 0, none⟩) n capr, .int .i64 (bearSt ns bs c (k + 1)).2, .int .i64 d] ∧ w3.ownsRow base 2 1 (.slice (some ⟨gr, 0, none⟩) n capr) n ((bearSt ns bs c (k + 1)).1.map (Value.int .i64)) ∧ Blk w3 (w.heap.size + 1) 46 [.slice none 0 0, .int .i64 0, .int .i64 0] ∧ Below w.heap.size w w3) := by
          rw [HNX2.out]
          exact ⟨hB3, hown3, (hoth3 (w.heap.size + 1) (by omega) (by omega)).trans HI3.out.2.2.1, HI3.out.2.2.2.trans (hbel3 w.heap.size (Nat.le_refl _) (by omega))⟩
        clear hB3 hown3 hsz3 hbel3 hoth3 HH HI3 hcell hpw
        go_wp2
        go_roundg g
        case measure => omega
        case rel => exact ⟨k + 1, by omega, by go_num, HNEW⟩
      · have HCALL := fun (w' : World) => charge_great base w.heap.size gr n capr k L C d x y (x - C) (y + (x - C)) HLn (by omega) hn2 HY hle rfl rfl (IntWalk.wrap64_in _ ⟨by omega, by omega⟩) (IntWalk.wrap64_in _ ⟨by omega, by omega⟩) hgb w'
        have HNX2 : Hid (bearSt ns bs c (k + 1) = (L.set k (y + (x - C)), 0)) := by
          show _ = _
          rw [HNX.out, Int.min_eq_right (by omega), show C - C = 0 by omega]
        have HH := Lib.hid HCALL
        clear HCALL HNX hy hc hx
        go_wp2_with fail
        refine (HH.out _ HI3.out.1 HI3.out.2.1).mono ?_
        rintro _ w3 ⟨rfl, hB3, hown3, hsz3, hbel3, hoth3⟩
        have HNEW : Hid (Blk w3 w.heap.size 46 [.slice (some ⟨gr, 0, none⟩) n capr, .int .i64 (bearSt ns bs c (k + 1)).2, .int .i64 d] ∧ w3.ownsRow base 2 1 (.slice (some ⟨gr, 0, none⟩) n capr) n ((bearSt ns bs c (k + 1)).1.map (Value.int .i64)) ∧ Blk w3 (w.heap.size + 1) 46 [.slice none 0 0, .int .i64 0, .int .i64 0] ∧ Below w.heap.size w w3) := by
          rw [HNX2.out]
          exact ⟨hB3, hown3, (hoth3 (w.heap.size + 1) (by omega) (by omega)).trans HI3.out.2.2.1, HI3.out.2.2.2.trans (hbel3 w.heap.size (Nat.le_refl _) (by omega))⟩
        clear hB3 hown3 hsz3 hbel3 hoth3 HH HI3 hcell hpw
        go_wp2
        go_roundg g
        case measure => omega
        case rel => exact ⟨k + 1, by omega, by go_num, HNEW⟩
    | zero =>
      obtain rfl : k = n := by omega
      have hlt : ¬ ((k : Int) < (ns.length : Int)) := by have := HD2.out; omega
      have hll := bearSt_len ns bs c bs.length
      have hq2 := hq.out
      have hn := HN.out
      have HI2 := HI.out
      have hF := HF.out
      rw [hn] at hll hF
      rw [hF] at HI2 hll
      simp only at HI2 hll
      obtain ⟨hB3, hown3, hR3, hb3⟩ := HI2
      have c0 := hB3.cell 0
      have c1 := hB3.cell 1
      have c2 := hB3.cell 2
      simp only [List.getElem?_cons_zero, List.getElem?_cons_succ] at c0 c1 c2
      obtain ⟨cur, hBR, hnc, hcm, hcl, htk, _⟩ := blk_of_own hown3
      have HTK : Hid (cur.take k = Lf.map (Value.int .i64)) := by show _ = _; simpa using htk
      have HLN := Lib.hid hll
      have HSL := Lib.hid (Sl.of_own hown3 hll)
      have HJ : Hid (judgedV (.slice (some ⟨gr, 0, none⟩) k capr) Lf Cf d = .tuple #[.agg #[.slice (some ⟨gr, 0, none⟩) k capr, .int .i64 Cf, .int .i64 d], .int .i64 0]) := by show _ = _; unfold judgedV; rw [hq2]; rfl
      have HR3 := Lib.hid hR3
      have HBR := Lib.hid hBR
      have HB3 := Lib.hid hb3
      have HLL : Hid (Lf.length ≤ 1000000) := by show _ ≤ _; have := HARG.out.2; omega
      clear hB3 hown3 hb3 hR3 hBR hcl htk HBF2 HR2 HB2 HOWN hll hq2 hn HI HARG HC HM HBM
      go_wp2_with fail
      refine (judged_any _ Lf Cf d _ HJ HLL.out _ HSL.out).mono ?_
      rintro _ w4 ⟨rfl, hb4⟩
      have hR4 := HR3.out.below hb4
      have r0 := hR4.cell 0
      have r1 := hR4.cell 1
      have r2 := hR4.cell 2
      simp only [List.getElem?_cons_zero, List.getElem?_cons_succ] at r0 r1 r2
      have e0 := hR4.frozen 0
      have e1 := hR4.frozen 1
      have e2 := hR4.frozen 2
      have hbf := bl_tr HB3.out hb4
      have HBR4 := Lib.hid (HBR.out.below hb4)
      have hlt4 := hR4.lt
      clear hR4 hb4 c0 c1 c2
      go_wp2
      refine bodyPost_ret (v := .tuple #[.agg #[.slice (some ⟨gr, 0, none⟩) k capr, .int .i64 Cf, .int .i64 d], .int .i64 0]) (by simp [results, Try.results50, go_sem, r0, r1, r2]) rfl ⟨.slice (some ⟨gr, 0, none⟩) k capr, rfl, ⟨Sl.of_blk (((HBR4.out.setOther (by omega) 0 _).setOther (by omega) 1 _).setOther (by omega) 2 _) HLN.out hnc hcm HTK.out, fr_of fun _ => ⟨rfl, by omega⟩⟩, bl_s3 hbf (by omega) _ _ _⟩

set_option maxHeartbeats 3200000 in
set_option maxRecDepth 100000 in
theorem poolBear_bad (v u : Value) (bs ns : List Int) (c d : Int) (hr : Hid (rightP bs c d = true)) (hl : ns.length = bs.length) (hany : Hid (ns.any notMay = false)) (Lf : List Int) (Cf : Int) (HF : Hid (bearSt ns bs c bs.length = (Lf, Cf))) (hq : Hid (rightP Lf Cf d = false)) (hlen : bs.length ≤ 1000) (w : World) (hv : Sl .i64 w v bs) (hu : Sl .i64 w u ns) :
    Calls Try.prog 50 #[.agg #[v, .int .i64 c, .int .i64 d], u] w (RetPosN ([], 0, 0, 5) w) := by
  have HV := Lib.hid hv
  have HU := Lib.hid hu
  obtain ⟨ao, cap, rfl, h1, ⟨h2, _⟩, h3⟩ := hv
  clear h3
  obtain ⟨ao', cap', rfl, h1', ⟨h2', _⟩, h3⟩ := hu
  clear h3
  unfold maxLen at h2 h2'
  have HBLK : Hid (Blk ((w.alloc (.cells #[.slice ao bs.length cap, .int .i64 c, .int .i64 d] 46)).alloc (.cells #[.slice none 0 0, .int .i64 0, .int .i64 0] 46)) (w.heap.size + 1) 46 [.slice none 0 0, .int .i64 0, .int .i64 0]) := by
    have := heap_alloc_new (w.alloc (.cells #[.slice ao bs.length cap, .int .i64 c, .int .i64 d] 46)) (.cells #[.slice none 0 0, .int .i64 0, .int .i64 0] 46)
    simpa [Blk, Hid] using this
  have hB0 : Blk (w.alloc (.cells #[.slice ao bs.length cap, .int .i64 c, .int .i64 d] 46)) w.heap.size 46 [.slice ao bs.length cap, .int .i64 c, .int .i64 d] := heap_alloc_new w _
  have HB0 := Lib.hid (hB0.below (bl_al (Below.refl _ _) (.cells #[.slice none 0 0, .int .i64 0, .int .i64 0] 46)))
  have HW0 : Hid (Below w.heap.size w ((w.alloc (.cells #[.slice ao bs.length cap, .int .i64 c, .int .i64 d] 46)).alloc (.cells #[.slice none 0 0, .int .i64 0, .int .i64 0] 46))) := bl_al (bl_al (Below.refl _ _) _) _
  clear hB0
  have HQ := hr
  have d1 : ((ns.length : Int) != (bs.length : Int)) = false := by simp [hl]
  have HL := Lib.hid hl
  have hmay := rightP_may hr.out
  have hpos : 1 ≤ bs.length := rightP_len hr.out
  have HC := Lib.hid (fun k => bearSt_c (bs := bs) hany.out hmay.1 k)
  have HM := Lib.hid (fun k => any_may hany.out k)
  have HBM := Lib.hid hmay.2
  have HARG := Lib.hid (And.intro hpos hlen)
  clear hl hmay
  go_enter Try.func50, Try.ntmps50
  go_wp2_with fail
  refine (poolRight_any _ bs c d _ HQ (by omega) _ (HV.out.below HW0.out)).mono ?_
  rintro _ w1 ⟨rfl, hb1⟩
  have HR1 := Lib.hid (HBLK.out.below hb1)
  have HB1 := Lib.hid (HB0.out.below hb1)
  have hbf := bl_tr HW0.out hb1
  clear hb1
  have hB1 := HB1.out
  have c0 := hB1.cell 0
  have c1 := hB1.cell 1
  have c2 := hB1.cell 2
  simp only [List.getElem?_cons_zero, List.getElem?_cons_succ] at c0 c1 c2
  clear hB1
  go_wp2_with fail
  refine (bearmay_contains _ ns false hany _ (HU.out.below hbf)).mono ?_
  rintro _ w2 ⟨rfl, rfl⟩
  have hz1 := hbf.size
  go_wp2_with fail
  refine (own_any _ bs c d HARG.out.2 _ (HV.out.below hbf)).mono ?_
  rintro _ w2 ⟨q, rfl, hown, hb2⟩
  obtain ⟨gr, capr, rfl⟩ := own_shape hown (by have := HARG.out.1; omega)
  obtain ⟨n, hn⟩ : ∃ n, bs.length = n := ⟨_, rfl⟩
  have HN := Lib.hid hn
  obtain ⟨base, hbase⟩ : ∃ B, w1.heap.size + 2 = B := ⟨_, rfl⟩
  rw [hn] at hown ⊢
  rw [hbase] at hown
  have hgb : w.heap.size < base := by have := HR1.out.lt; omega
  have hgb2 : w.heap.size + 1 < base := by have := HR1.out.lt; omega
  have hB2 := HB1.out.below hb2
  have f0 := hB2.frozen 0
  have f1 := hB2.frozen 1
  have f2 := hB2.frozen 2
  clear c0 c1 c2
  have c0 := hB2.cell 0
  have c1 := hB2.cell 1
  have c2 := hB2.cell 2
  simp only [List.getElem?_cons_zero, List.getElem?_cons_succ] at c0 c1 c2
  have HB2 := Lib.hid hB2
  have HOWN := Lib.hid hown
  have hgr := (hown.lt gr rfl).1
  have hz2 := hb2.size
  have HBF2 := Lib.hid (bl_tr hbf hb2)
  have HR2 := Lib.hid (HR1.out.below hb2)
  have HBase := Lib.hid hbase
  have d2 : ns.length = n := HL.out.trans HN.out
  have HD2 := Lib.hid d2
  clear hB2 hown hb2 hn hbase d1 d2
  go_wp2_with fail
  go_loopg [28] n (fun g i wr => ∃ (k : Nat), k + g = n ∧ i = .int .i64 k ∧ Hid (Blk wr w.heap.size 46 [.slice (some ⟨gr, 0, none⟩) n capr, .int .i64 (bearSt ns bs c k).2, .int .i64 d] ∧ wr.ownsRow base 2 1 (.slice (some ⟨gr, 0, none⟩) n capr) n ((bearSt ns bs c k).1.map (Value.int .i64)) ∧ Blk wr (w.heap.size + 1) 46 [.slice none 0 0, .int .i64 0, .int .i64 0] ∧ Below w.heap.size w wr))
  case atStart =>
    refine ⟨0, by omega, rfl, ?_⟩
    exact ⟨((HB2.out.set 0 _).set 1 _).set 2 _, own_setElder (own_setElder (own_setElder HOWN.out hgb) hgb) hgb, ((HR2.out.setOther (by omega) 0 _).setOther (by omega) 1 _).setOther (by omega) 2 _, bl_s3 HBF2.out (by omega) _ _ _⟩
  case round =>
    obtain ⟨k, hkg, rfl, HI⟩ := hrel
    clear c0 c1 c2 f0 f1 f2
    cases gk with
    | succ g =>
      have hlt : (k : Int) < (ns.length : Int) := by have := HD2.out; omega
      obtain ⟨b', o', x, rfl, hcell, HX⟩ := (HU.out.below HI.out.2.2.2).get (i := k) (by have := HD2.out; omega)
      have hx := HM.out k
      rw [HX.out] at hx
      have hy := HBM.out k (by have := HN.out; omega)
      have hc := HC.out k
      have hll := bearSt_len ns bs c k
      have hlat := bearSt_later ns bs c k k (Nat.le_refl _)
      have hnext : bearSt ns bs c (k + 1) = ((bearSt ns bs c k).1.set k ((bearSt ns bs c k).1.getD k 0 + (ns.getD k 0 - min (ns.getD k 0) (bearSt ns bs c k).2)), (bearSt ns bs c k).2 - min (ns.getD k 0) (bearSt ns bs c k).2) := rfl
      rw [HX.out, hlat] at hnext
      have HI2 := HI.out
      have hLY : (bearSt ns bs c k).1.getD k 0 = bs.getD k 0 := hlat
      generalize (bearSt ns bs c k).2 = C at HI2 hc hnext
      generalize (bearSt ns bs c k).1 = L at HI2 hll hnext hLY
      generalize bs.getD k 0 = y at hy hnext hLY
      have HNX := Lib.hid hnext
      have HI3 := Lib.hid HI2
      have HY := Lib.hid hLY
      have HLn : Hid (L.length = n) := hll.trans HN.out
      have hn2 : n ≤ 1000 := by have := HN.out; have := HARG.out.2; omega
      have hpw := HI2.2.2.2
      clear hnext HI2 hLY hll hlat HI
      by_cases hle : x ≤ C
      · have HCALL := fun (w' : World) => charge_small base w.heap.size gr n capr k L C d x y (C - x) HLn (by omega) hn2 HY hle rfl (IntWalk.wrap64_in _ ⟨by omega, by omega⟩) (IntWalk.wrap64_in _ ⟨by omega, by omega⟩) hgb w'
        have HNX2 : Hid (bearSt ns bs c (k + 1) = (L.set k y, C - x)) := by
          show _ = _
          rw [HNX.out, Int.min_eq_left hle, show y + (x - x) = y by omega]
        have HH := Lib.hid HCALL
        clear HCALL HNX hy hc hx
        go_wp2_with fail
        refine (HH.out _ HI3.out.1 HI3.out.2.1).mono ?_
        rintro _ w3 ⟨rfl, hB3, hown3, hsz3, hbel3, hoth3⟩
        have HNEW : Hid (Blk w3 w.heap.size 46 [.slice (some ⟨gr, 0, none⟩) n capr, .int .i64 (bearSt ns bs c (k + 1)).2, .int .i64 d] ∧ w3.ownsRow base 2 1 (.slice (some ⟨gr, 0, none⟩) n capr) n ((bearSt ns bs c (k + 1)).1.map (Value.int .i64)) ∧ Blk w3 (w.heap.size + 1) 46 [.slice none 0 0, .int .i64 0, .int .i64 0] ∧ Below w.heap.size w w3) := by
          rw [HNX2.out]
          exact ⟨hB3, hown3, (hoth3 (w.heap.size + 1) (by omega) (by omega)).trans HI3.out.2.2.1, HI3.out.2.2.2.trans (hbel3 w.heap.size (Nat.le_refl _) (by omega))⟩
        clear hB3 hown3 hsz3 hbel3 hoth3 HH HI3 hcell hpw
        go_wp2
        go_roundg g
        case measure => omega
        case rel => exact ⟨k + 1, by omega, by go_num, HNEW⟩
      · have HCALL := fun (w' : World) => charge_great base w.heap.size gr n capr k L C d x y (x - C) (y + (x - C)) HLn (by omega) hn2 HY hle rfl rfl (IntWalk.wrap64_in _ ⟨by omega, by omega⟩) (IntWalk.wrap64_in _ ⟨by omega, by omega⟩) hgb w'
        have HNX2 : Hid (bearSt ns bs c (k + 1) = (L.set k (y + (x - C)), 0)) := by
          show _ = _
          rw [HNX.out, Int.min_eq_right (by omega), show C - C = 0 by omega]
        have HH := Lib.hid HCALL
        clear HCALL HNX hy hc hx
        go_wp2_with fail
        refine (HH.out _ HI3.out.1 HI3.out.2.1).mono ?_
        rintro _ w3 ⟨rfl, hB3, hown3, hsz3, hbel3, hoth3⟩
        have HNEW : Hid (Blk w3 w.heap.size 46 [.slice (some ⟨gr, 0, none⟩) n capr, .int .i64 (bearSt ns bs c (k + 1)).2, .int .i64 d] ∧ w3.ownsRow base 2 1 (.slice (some ⟨gr, 0, none⟩) n capr) n ((bearSt ns bs c (k + 1)).1.map (Value.int .i64)) ∧ Blk w3 (w.heap.size + 1) 46 [.slice none 0 0, .int .i64 0, .int .i64 0] ∧ Below w.heap.size w w3) := by
          rw [HNX2.out]
          exact ⟨hB3, hown3, (hoth3 (w.heap.size + 1) (by omega) (by omega)).trans HI3.out.2.2.1, HI3.out.2.2.2.trans (hbel3 w.heap.size (Nat.le_refl _) (by omega))⟩
        clear hB3 hown3 hsz3 hbel3 hoth3 HH HI3 hcell hpw
        go_wp2
        go_roundg g
        case measure => omega
        case rel => exact ⟨k + 1, by omega, by go_num, HNEW⟩
    | zero =>
      obtain rfl : k = n := by omega
      have hlt : ¬ ((k : Int) < (ns.length : Int)) := by have := HD2.out; omega
      have hll := bearSt_len ns bs c bs.length
      have hq2 := hq.out
      have hn := HN.out
      have HI2 := HI.out
      have hF := HF.out
      rw [hn] at hll hF
      rw [hF] at HI2 hll
      simp only at HI2 hll
      obtain ⟨hB3, hown3, hR3, hb3⟩ := HI2
      have c0 := hB3.cell 0
      have c1 := hB3.cell 1
      have c2 := hB3.cell 2
      simp only [List.getElem?_cons_zero, List.getElem?_cons_succ] at c0 c1 c2
      obtain ⟨cur, hBR, hnc, hcm, hcl, htk, _⟩ := blk_of_own hown3
      have HTK : Hid (cur.take k = Lf.map (Value.int .i64)) := by show _ = _; simpa using htk
      have HLN := Lib.hid hll
      have HSL := Lib.hid (Sl.of_own hown3 hll)
      have HJ : Hid (judgedV (.slice (some ⟨gr, 0, none⟩) k capr) Lf Cf d = .tuple #[.agg #[.slice none 0 0, .int .i64 0, .int .i64 0], .int .i64 5]) := by show _ = _; unfold judgedV; rw [hq2]; rfl
      have HR3 := Lib.hid hR3
      have HBR := Lib.hid hBR
      have HB3 := Lib.hid hb3
      have HLL : Hid (Lf.length ≤ 1000000) := by show _ ≤ _; have := HARG.out.2; omega
      clear hB3 hown3 hb3 hR3 hBR hcl htk HBF2 HR2 HB2 HOWN hll hq2 hn HI HARG HC HM HBM
      go_wp2_with fail
      refine (judged_any _ Lf Cf d _ HJ HLL.out _ HSL.out).mono ?_
      rintro _ w4 ⟨rfl, hb4⟩
      have hR4 := HR3.out.below hb4
      have r0 := hR4.cell 0
      have r1 := hR4.cell 1
      have r2 := hR4.cell 2
      simp only [List.getElem?_cons_zero, List.getElem?_cons_succ] at r0 r1 r2
      have e0 := hR4.frozen 0
      have e1 := hR4.frozen 1
      have e2 := hR4.frozen 2
      have hbf := bl_tr HB3.out hb4
      have HBR4 := Lib.hid (HBR.out.below hb4)
      have hlt4 := hR4.lt
      clear hR4 hb4 c0 c1 c2
      go_wp2
      refine bodyPost_ret (v := .tuple #[.agg #[.slice none 0 0, .int .i64 0, .int .i64 0], .int .i64 5]) (by simp [results, Try.results50, go_sem, r0, r1, r2]) rfl ⟨.slice none 0 0, rfl, ⟨Sl.nil, fr_nil⟩, bl_s3 hbf (by omega) _ _ _⟩

theorem poolBearN_any (v u : Value) (bs ns : List Int) (c d : Int) (s : List Int × Int × Int × Int) (hs : Hid (bearS bs c d ns = s)) (hlen : bs.length ≤ 1000) (w : World) (hv : Sl .i64 w v bs) (hu : Sl .i64 w u ns) :
    Calls Try.prog 50 #[.agg #[v, .int .i64 c, .int .i64 d], u] w (RetPosN s w) := by
  have hs := hs.out
  subst hs
  unfold bearS
  cases hr : rightP bs c d with
  | false => rw [if_pos rfl]; exact poolBear_no v u bs ns c d (.inl hr) hlen w hv hu
  | true =>
    rw [if_neg (by simp)]
    cases hl : (ns.length == bs.length) with
    | false => rw [if_pos rfl]; exact poolBear_no v u bs ns c d (.inr (.inl hl)) hlen w hv hu
    | true =>
      rw [if_neg (by simp)]
      cases ha : ns.any notMay with
      | true => rw [if_pos rfl]; exact poolBear_no v u bs ns c d (.inr (.inr ha)) hlen w hv hu
      | false =>
        rw [if_neg (by simp)]
        cases hq : rightP (bearSt ns bs c bs.length).1 (bearSt ns bs c bs.length).2 d with
        | true => rw [if_pos rfl]; exact poolBear_ok v u bs ns c d hr (by simpa using hl) ha _ _ rfl hq hlen w hv hu
        | false => rw [if_neg (by simp)]; exact poolBear_bad v u bs ns c d hr (by simpa using hl) ha _ _ rfl hq hlen w hv hu
theorem poolBear_any (v u : Value) (bs ns : List Int) (c d : Int) (s : List Int × Int × Int × Int) (hs : Hid (bearS bs c d ns = s)) (hlen : bs.length ≤ 1000) (w : World) (hv : Sl .i64 w v bs) (hu : Sl .i64 w u ns) :
    Calls Try.prog 50 #[.agg #[v, .int .i64 c, .int .i64 d], u] w (RetPos s w) :=
  (poolBearN_any v u bs ns c d s hs hlen w hv hu).mono fun _ _ ⟨u, h1, ⟨h2, _⟩, h3⟩ => ⟨u, h1, h2, h3⟩
end Go.Proofs.Ytllblmoojohffaa

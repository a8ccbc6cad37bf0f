/- lombardref11.Postings: the postings of two positions, as the document says it. -/
import Derived.Test.YtbiiejolemcifaaPostM
import Derived.Test.YtbiiejolemcifaaPutP
import Derived.Test.YtbiiejolemcifaaRef11
import Derived.Deep.QuietTactic
import Derived.BigQuiet
namespace Go.Proofs.Ytbiiejolemcifaa
open Go.RowKit FlM
attribute [local go_sem] run_store_complex run_store_float

set_option maxHeartbeats 1600000 in
set_option maxRecDepth 100000 in
theorem refPostings_go (v u : Value) (bs cs : List Int) (c d c2 d2 other : Int) (HR1 : Hid (rightP bs c d = true)) (HR2 : Hid (rightP cs c2 d2 = true)) (hl : bs.length = cs.length) (w : World) (hv : Sl .i64 w v bs) (hu : Sl .i64 w u cs) :
    Calls Try.prog 15 #[.agg #[v, .int .i64 c, .int .i64 d], .agg #[u, .int .i64 c2, .int .i64 d2], .int .i64 other] w (RetPo (postS bs c d cs c2 d2 other) w) := by
  have HV := Lib.hid hv
  have HU := Lib.hid hu
  obtain ⟨ao, cap, rfl, h1, ⟨h2, hnn⟩, h3⟩ := hv
  clear h3 hnn
  obtain ⟨ao', cap', rfl, h1', ⟨h2', hnn⟩, h3⟩ := hu
  clear h3 hnn
  unfold maxLen at h2 h2'
  have SB : Hid (Below w.heap.size w ((w.alloc (.cells #[.slice ao bs.length cap, .int .i64 c, .int .i64 d] 25)).alloc (.cells #[.slice ao' cs.length cap', .int .i64 c2, .int .i64 d2] 25))) := bl_al (bl_al (Below.refl _ _) _) _
  have S3 : Hid (Blk ((w.alloc (.cells #[.slice ao bs.length cap, .int .i64 c, .int .i64 d] 25)).alloc (.cells #[.slice ao' cs.length cap', .int .i64 c2, .int .i64 d2] 25)) w.heap.size 25 [.slice ao bs.length cap, .int .i64 c, .int .i64 d]) := Blk.below (heap_alloc_new w _) (bl_al (Below.refl _ _) _)
  have S4 : Hid (Blk ((w.alloc (.cells #[.slice ao bs.length cap, .int .i64 c, .int .i64 d] 25)).alloc (.cells #[.slice ao' cs.length cap', .int .i64 c2, .int .i64 d2] 25)) (w.heap.size + 1) 25 [.slice ao' cs.length cap', .int .i64 c2, .int .i64 d2]) := by
    have := heap_alloc_new (w.alloc (.cells #[.slice ao bs.length cap, .int .i64 c, .int .i64 d] 25)) (.cells #[.slice ao' cs.length cap', .int .i64 c2, .int .i64 d2] 25)
    simpa [Blk, Hid] using this
  have hlen := (rightP_len HR2.out).2
  have HBD := Lib.hid (fun k => tr_bd HR1.out HR2.out hl k)
  have HT := Lib.hid (fun k => tr_tight HR1.out HR2.out hl k)
  have HONE := Lib.hid (fun k (hk : k < cs.length) => tr_one HR1.out HR2.out hl hk)
  have HRX := Lib.hid (rightP_may HR1.out).2
  have HRY := Lib.hid (rightP_may HR2.out).2
  have HC := Lib.hid (And.intro (rightP_may HR1.out).1 (rightP_may HR2.out).1)
  have d1 : ((bs.length : Int) != (cs.length : Int)) = false := by simp; omega
  obtain ⟨i0, hi, hz0, hz1, hz2⟩ := info_parts info_postP
  have HL := Lib.hid hl
  clear hl
  go_enter Try.func15, Try.ntmps15
  go_wp2_with fail
  refine (refRight11_any _ bs c d true HR1 _ (HV.out.below SB.out)).mono ?_
  rintro _ w1 ⟨rfl, hb1⟩
  have q4 := S4.out.below hb1
  have x0 := q4.cell 0
  have x1 := q4.cell 1
  have x2 := q4.cell 2
  simp only [List.getElem?_cons_zero, List.getElem?_cons_succ] at x0 x1 x2
  have T3 := Lib.hid (S3.out.below hb1)
  have T4 := Lib.hid q4
  have TB := Lib.hid (bl_tr SB.out hb1)
  clear q4 hb1
  go_wp2_with fail
  refine (refRight11_any _ cs c2 d2 true HR2 _ (HU.out.below TB.out)).mono ?_
  rintro _ w2 ⟨rfl, hb2⟩
  have U3 := Lib.hid (T3.out.below hb2)
  have U4 := Lib.hid (T4.out.below hb2)
  have UB := Lib.hid (bl_tr TB.out hb2)
  have hz4 := U4.out.lt
  have hz5 : w.heap.size < w2.heap.size := by omega
  have y0 := U3.out.cell 0
  have z0 := U4.out.cell 0
  simp only [List.getElem?_cons_zero] at y0 z0
  clear hb2 x0 x1 x2 S3 S4 SB T3 T4 TB
  go_wp2_with fail
  obtain ⟨n, hn⟩ : ∃ n, cs.length = n := ⟨_, rfl⟩
  have HN := Lib.hid hn
  rw [hn] at hlen h1' ⊢
  have HLN : Hid (bs.length = n) := by show _ = _; rw [HL.out, hn]
  have z0' := z0
  rw [hn] at z0'
  have ST : Hid (w2.ownsRow w2.heap.size 61 2 (.slice none 0 0) 0 (cellsP (trP bs cs 0))) := ⟨rfl, .inl ⟨rfl, rfl⟩⟩
  clear hn y0 z0
  go_loopg [7, 8, 9] n (fun g l s i wr => ∃ (k m : Nat) (T : Int), k + g = n ∧ i = .int .i64 k ∧ s = .int .i64 T ∧ Hid (trS bs cs k = T) ∧ Hid ((trP bs cs k).length = m) ∧ Hid (wr.ownsRow w2.heap.size 61 2 l m (cellsP (trP bs cs k))) ∧ Hid (Below w2.heap.size w2 wr))
  case atStart => exact ⟨0, 0, 0, by omega, rfl, rfl, rfl, rfl, ST, Below.refl _ _⟩
  case round =>
    obtain ⟨k, m, T, hkg, rfl, rfl, HTS, HM, HOWN, HB⟩ := hrel
    have Q3 := HB.out
    have V3 := U3.out.belowB Q3 (by omega)
    have V4 := U4.out.belowB Q3 (by omega)
    have p0 := V4.cell 0
    simp only [List.getElem?_cons_zero] at p0
    rw [HN.out] at p0
    have QB : Below w.heap.size w wr := UB.out.trans (Q3.mono (by have := UB.out.size; omega))
    have hmk := trP_len bs cs k
    rw [HM.out] at hmk
    have hts := HBD.out k (by have := HN.out; omega)
    have htt := HT.out k (by have := HN.out; omega)
    rw [HTS.out] at hts
    have hT : -1000000000000000 ≤ T ∧ T ≤ 1000000000000000 := by omega
    have HTB := Lib.hid hT
    have HBS : Hid (w2.heap.size ≤ wr.heap.size) := Q3.size
    clear hts htt hT
    cases gk with
    | zero =>
      have hlt : ¬ ((k : Int) < (n : Int)) := by omega
      have p1 := V4.cell 1
      have r1 := V3.cell 1
      simp only [List.getElem?_cons_zero, List.getElem?_cons_succ] at p1 r1
      obtain ⟨⟨hcc1, hcc2⟩, hcc3, hcc4⟩ := HC.out
      obtain rfl : k = n := by omega
      have HNC := Lib.hid HN.out
      have QH := Lib.hid QB
      have htb := HTB.out
      clear Q3 V3 V4 QB
      go_wp2_with fail
      refine (refPosting_any (-1) (c - c2) (by omega) _).mono ?_
      rintro _ w5 ⟨u, rfl, hu, hb5⟩
      obtain ⟨PA, hPA⟩ : ∃ l, postL (-1) (c - c2) = l := ⟨_, rfl⟩
      have HPA := Lib.hid hPA
      have hpnA := postL_len (-1) (c - c2)
      rw [hPA] at hu hpnA
      obtain ⟨au, cu, hue⟩ : ∃ au cu, u = .slice au PA.length cu := by obtain ⟨a, b, h, _⟩ := hu; exact ⟨a, b, h⟩
      subst hue
      obtain ⟨nA, hnA⟩ : ∃ nu, PA.length = nu := ⟨_, rfl⟩
      rw [hnA] at hu hpnA
      have HNLA := Lib.hid hu.len.2.2.2
      have HNWA := Lib.hid hu.news
      have HCLA : Hid ((cellsP PA).length = nA * 2) := by show _ = _; rw [cellsP_length, hnA]
      have HNA := Lib.hid hnA
      have HO5A := Lib.hid (ownP_below HOWN.out hb5)
      have HB5A := Lib.hid (HB.out.trans (below_le hb5 HBS.out))
      have HBS5A : Hid (w2.heap.size ≤ w5.heap.size) := Nat.le_trans HBS.out hb5.size
      rw [hnA]
      clear hu hnA hPA hb5
      go_wp2_with (at_builtin; refine wpList_append_any _ rfl (.tmp 62) (.tmp 64) 33 rfl w2.heap.size 61 i0 (.agg #[.int .i64 0, .complex .f64 0 0]) 2 24 Try.underlying33 hi hz0 hz1 hz2 rfl (by decide) _ m (cellsP (trP bs cs k)) rfl HO5A.out au nA cu (cellsP PA) rfl HCLA.out HNLA.out HNWA.out (cellsP_one _) (by unfold maxLen; omega) (by omega) HBS5A.out ?_; intro vw6 w6 hown6 hg6 hn6; clear hn6; have HO6A := Lib.hid hown6; have HG6A := Lib.hid hg6; clear hown6 hg6)
      all_goals
        have HB6A : Hid (Below w2.heap.size w2 w6) := Below.grown HB5A.out HG6A.out HBS5A.out (fun q hq => (HO5A.out.lt q hq).1)
        have HBS6 : Hid (w2.heap.size ≤ w6.heap.size) := HB6A.out.size
        have HPO : Hid (PoS w6 vw6 (trP bs cs k ++ PA)) := PoS.of_own (by show World.ownsRow _ _ _ _ _ _ _; rw [cellsP_append]; exact HO6A.out) (by rw [List.length_append, HM.out, HNA.out])
        have HF0 : Hid (¬ ((rightP bs c d && rightP cs c2 d2 && bs.length == cs.length) = false)) := by show ¬ _; rw [HR1.out, HR2.out]; simp [HL.out]
      · go_ret
        have e : postS bs c d cs c2 d2 other = trP bs cs k ++ PA := by
          unfold postS
          rw [if_neg HF0.out, HNC.out, HTS.out, if_pos (by omega), HPA.out]
        rw [e]
        exact ⟨_, rfl, HPO.out, UB.out.trans (HB6A.out.mono (by have := UB.out.size; omega))⟩
      · refine (refPosting_any other (-(T + (c - c2))) (by omega) _).mono ?_
        rintro _ w8 ⟨u, rfl, hu, hb5⟩
        obtain ⟨PB, hPB⟩ : ∃ l, postL other (-(T + (c - c2))) = l := ⟨_, rfl⟩
        have HPB := Lib.hid hPB
        have hpnB := postL_len other (-(T + (c - c2)))
        rw [hPB] at hu hpnB
        obtain ⟨au, cu, hue⟩ : ∃ au cu, u = .slice au PB.length cu := by obtain ⟨a, b, h, _⟩ := hu; exact ⟨a, b, h⟩
        subst hue
        obtain ⟨nB, hnB⟩ : ∃ nu, PB.length = nu := ⟨_, rfl⟩
        rw [hnB] at hu hpnB
        have HNLB := Lib.hid hu.len.2.2.2
        have HNWB := Lib.hid hu.news
        have HCLB : Hid ((cellsP PB).length = nB * 2) := by show _ = _; rw [cellsP_length, hnB]
        have HNB := Lib.hid hnB
        have HO5B : Hid (w8.ownsRow w2.heap.size 61 2 vw6 (m + nA) (cellsP (trP bs cs k ++ PA))) := ownP_below (by rw [cellsP_append]; exact HO6A.out) hb5
        have HB5B := Lib.hid (HB6A.out.trans (below_le hb5 HBS6.out))
        have HBS5B : Hid (w2.heap.size ≤ w8.heap.size) := Nat.le_trans HBS6.out hb5.size
        rw [hnB]
        clear hu hnB hPB hb5
        go_wp2_with (at_builtin; refine wpList_append_any _ rfl (.tmp 77) (.tmp 80) 33 rfl w2.heap.size 61 i0 (.agg #[.int .i64 0, .complex .f64 0 0]) 2 24 Try.underlying33 hi hz0 hz1 hz2 rfl (by decide) _ (m + nA) (cellsP (trP bs cs k ++ PA)) rfl HO5B.out au nB cu (cellsP PB) rfl HCLB.out HNLB.out HNWB.out (cellsP_one _) (by unfold maxLen; omega) (by omega) HBS5B.out ?_; intro vw9 w9 hown6 hg6 hn6; clear hn6; have HO6B := Lib.hid hown6; have HG6B := Lib.hid hg6; clear hown6 hg6)
        have HB9 : Hid (Below w2.heap.size w2 w9) := Below.grown HB5B.out HG6B.out HBS5B.out (fun q hq => (HO5B.out.lt q hq).1)
        go_ret
        have e : postS bs c d cs c2 d2 other = trP bs cs k ++ PA ++ PB := by
          unfold postS
          rw [if_neg HF0.out, HNC.out, HTS.out, if_neg (by omega), HPA.out, HPB.out]
        rw [e]
        refine ⟨_, rfl, PoS.of_own (by rw [cellsP_append]; exact HO6B.out) (by rw [List.length_append, List.length_append, HM.out, HNA.out, HNB.out]), UB.out.trans (HB9.out.mono (by have := UB.out.size; omega))⟩
      · go_ret
        have e : postS bs c d cs c2 d2 other = trP bs cs k ++ PA := by
          unfold postS
          rw [if_neg HF0.out, HNC.out, HTS.out, if_pos (by omega), HPA.out]
        rw [e]
        exact ⟨_, rfl, HPO.out, UB.out.trans (HB6A.out.mono (by have := UB.out.size; omega))⟩
    | succ g =>
      have hlt : (k : Int) < (n : Int) := by omega
      have q0 := V3.cell 0
      simp only [List.getElem?_cons_zero] at q0
      have HVW := Lib.hid (HV.out.below QB)
      have HUW := Lib.hid (HU.out.below QB)
      obtain ⟨b, o, x, rfl, hc1, HX⟩ := (HVW.out).get (i := k) (by have := HLN.out; omega)
      obtain ⟨b', o', y, rfl, hc2, HY⟩ := (HUW.out).get (i := k) (by have := HN.out; omega)
      have hx := (HRX.out k (by have := HLN.out; omega))
      have hy := (HRY.out k (by have := HN.out; omega))
      rw [HX.out] at hx
      rw [HY.out] at hy
      have hkn : (k : Int) < (bs.length : Int) := by have := HLN.out; omega
      have QH := Lib.hid QB
      clear Q3 V3 V4 QB
      go_wp2_with fail
      go_quiet (fail)
      have htb := HTB.out
      go_wp2_with fail
      refine (refPosting_any ((k : Int) + 1) (y - x) (by omega) _).mono ?_
      rintro _ w5 ⟨u, rfl, hu, hb5⟩
      obtain ⟨PN, hPN⟩ : ∃ l, postL ((k : Int) + 1) (y - x) = l := ⟨_, rfl⟩
      have HPN := Lib.hid hPN
      have hpn := postL_len ((k : Int) + 1) (y - x)
      rw [hPN] at hu hpn
      obtain ⟨au, cu, hue⟩ : ∃ au cu, u = .slice au PN.length cu := by obtain ⟨a, b, h, _⟩ := hu; exact ⟨a, b, h⟩
      subst hue
      obtain ⟨nu, hnu⟩ : ∃ nu, PN.length = nu := ⟨_, rfl⟩
      rw [hnu] at hu hpn
      have HNL := Lib.hid hu.len.2.2.2
      have HNW := Lib.hid hu.news
      have HCL : Hid ((cellsP PN).length = nu * 2) := by show _ = _; rw [cellsP_length, hnu]
      have HNU := Lib.hid hnu
      have HO5 := Lib.hid (ownP_below (own_dN HOWN.out nq) hb5)
      have HB5 := Lib.hid ((bdN HB.out nq).trans (below_le hb5 (show w2.heap.size ≤ (wr.drewN nq).heap.size from HBS.out)))
      have HBS5 : Hid (w2.heap.size ≤ w5.heap.size) := Nat.le_trans (show w2.heap.size ≤ (wr.drewN nq).heap.size from HBS.out) hb5.size
      rw [hnu]
      clear hu hnu hPN hb5
      go_wp2_with (at_builtin; refine wpList_append_any _ rfl (.tmp 48) (.tmp 52) 33 rfl w2.heap.size 61 i0 (.agg #[.int .i64 0, .complex .f64 0 0]) 2 24 Try.underlying33 hi hz0 hz1 hz2 rfl (by decide) _ m (cellsP (trP bs cs k)) rfl HO5.out au nu cu (cellsP PN) rfl HCL.out HNL.out HNW.out (cellsP_one _) (by unfold maxLen; omega) (by omega) HBS5.out ?_; intro v6 w6 hown6 hg6 hn6; clear hn6; have HO6 := Lib.hid hown6; have HG6 := Lib.hid hg6; clear hown6 hg6)
      have HB6 : Hid (Below w2.heap.size w2 w6) := Below.grown HB5.out HG6.out HBS5.out (fun q hq => (HO5.out.lt q hq).1)
      have HO7 : Hid (w6.ownsRow w2.heap.size 61 2 v6 (m + nu) (cellsP (trP bs cs (k + 1)))) := by
        show World.ownsRow _ _ _ _ _ _ _
        simp only [trP, HX.out, HY.out, HPN.out, cellsP_append]
        exact HO6.out
      have HM7 : Hid ((trP bs cs (k + 1)).length = m + nu) := by
        show _ = _
        simp only [trP, HX.out, HY.out, HPN.out, List.length_append, HM.out, HNU.out]
      have HT7 : Hid (trS bs cs (k + 1) = T + (y - x)) := by
        show _ = _
        simp only [trS, HX.out, HY.out, HTS.out]
      go_roundg g
      case measure => omega
      case rel => exact ⟨k + 1, m + nu, T + (y - x), by omega, by go_num, rfl, HT7, HM7, HO7, HB6⟩
set_option maxHeartbeats 800000 in
set_option maxRecDepth 100000 in
theorem refPostings_no (v u : Value) (bs cs : List Int) (c d c2 d2 other : Int) (HNO : Hid ((rightP bs c d && rightP cs c2 d2 && bs.length == cs.length) = false)) (w : World) (hv : Sl .i64 w v bs) (hu : Sl .i64 w u cs) :
    Calls Try.prog 15 #[.agg #[v, .int .i64 c, .int .i64 d], .agg #[u, .int .i64 c2, .int .i64 d2], .int .i64 other] w (RetB (.slice none 0 0) w) := by
  have HV := Lib.hid hv
  have HU := Lib.hid hu
  obtain ⟨ao, cap, rfl, h1, ⟨h2, hnn⟩, h3⟩ := hv
  clear h3 hnn
  obtain ⟨ao', cap', rfl, h1', ⟨h2', hnn⟩, h3⟩ := hu
  clear h3 hnn
  unfold maxLen at h2 h2'
  have SB : Hid (Below w.heap.size w ((w.alloc (.cells #[.slice ao bs.length cap, .int .i64 c, .int .i64 d] 25)).alloc (.cells #[.slice ao' cs.length cap', .int .i64 c2, .int .i64 d2] 25))) := bl_al (bl_al (Below.refl _ _) _) _
  have S3 : Hid (Blk ((w.alloc (.cells #[.slice ao bs.length cap, .int .i64 c, .int .i64 d] 25)).alloc (.cells #[.slice ao' cs.length cap', .int .i64 c2, .int .i64 d2] 25)) w.heap.size 25 [.slice ao bs.length cap, .int .i64 c, .int .i64 d]) := Blk.below (heap_alloc_new w _) (bl_al (Below.refl _ _) _)
  have S4 : Hid (Blk ((w.alloc (.cells #[.slice ao bs.length cap, .int .i64 c, .int .i64 d] 25)).alloc (.cells #[.slice ao' cs.length cap', .int .i64 c2, .int .i64 d2] 25)) (w.heap.size + 1) 25 [.slice ao' cs.length cap', .int .i64 c2, .int .i64 d2]) := by
    have := heap_alloc_new (w.alloc (.cells #[.slice ao bs.length cap, .int .i64 c, .int .i64 d] 25)) (.cells #[.slice ao' cs.length cap', .int .i64 c2, .int .i64 d2] 25)
    simpa [Blk, Hid] using this
  cases hr1 : rightP bs c d with
  | false =>
    have HR1 := Lib.hid hr1
    clear hr1
    go_enter Try.func15, Try.ntmps15
    go_wp2_with fail
    refine (refRight11_any _ bs c d false HR1 _ (HV.out.below SB.out)).mono ?_
    rintro _ w1 ⟨rfl, hb1⟩
    have TB := Lib.hid (bl_tr SB.out hb1)
    clear hb1 S3 S4
    go_wp2
    go_ret
    exact ⟨rfl, TB.out⟩
  | true =>
    have HR1 := Lib.hid hr1
    clear hr1
    cases hr2 : rightP cs c2 d2 with
    | false =>
      have HR2 := Lib.hid hr2
      clear hr2
      go_enter Try.func15, Try.ntmps15
      go_wp2_with fail
      refine (refRight11_any _ bs c d true HR1 _ (HV.out.below SB.out)).mono ?_
      rintro _ w1 ⟨rfl, hb1⟩
      have q4 := S4.out.below hb1
      have x0 := q4.cell 0
      have x1 := q4.cell 1
      have x2 := q4.cell 2
      simp only [List.getElem?_cons_zero, List.getElem?_cons_succ] at x0 x1 x2
      have TB := Lib.hid (bl_tr SB.out hb1)
      clear q4 hb1 S3 S4
      go_wp2_with fail
      refine (refRight11_any _ cs c2 d2 false HR2 _ (HU.out.below TB.out)).mono ?_
      rintro _ w2 ⟨rfl, hb2⟩
      have UB := Lib.hid (bl_tr TB.out hb2)
      clear hb2 x0 x1 x2
      go_wp2
      go_ret
      exact ⟨rfl, UB.out⟩
    | true =>
      have HR2 := Lib.hid hr2
      have d1 : ((bs.length : Int) != (cs.length : Int)) = true := by
        have := HNO.out
        rw [HR1.out, hr2] at this
        simp at this ⊢
        omega
      clear hr2
      go_enter Try.func15, Try.ntmps15
      go_wp2_with fail
      refine (refRight11_any _ bs c d true HR1 _ (HV.out.below SB.out)).mono ?_
      rintro _ w1 ⟨rfl, hb1⟩
      have q4 := S4.out.below hb1
      have x0 := q4.cell 0
      have x1 := q4.cell 1
      have x2 := q4.cell 2
      simp only [List.getElem?_cons_zero, List.getElem?_cons_succ] at x0 x1 x2
      have T3 := Lib.hid (S3.out.below hb1)
      have T4 := Lib.hid q4
      have TB := Lib.hid (bl_tr SB.out hb1)
      clear q4 hb1 S3 S4
      go_wp2_with fail
      refine (refRight11_any _ cs c2 d2 true HR2 _ (HU.out.below TB.out)).mono ?_
      rintro _ w2 ⟨rfl, hb2⟩
      have y0 := (T3.out.below hb2).cell 0
      have z0 := (T4.out.below hb2).cell 0
      simp only [List.getElem?_cons_zero] at y0 z0
      have UB := Lib.hid (bl_tr TB.out hb2)
      clear hb2 x0 x1 x2
      go_wp2
      go_ret
      exact ⟨rfl, UB.out⟩
theorem refPostings_any (v u : Value) (bs cs : List Int) (c d c2 d2 other : Int) (L : List (Int × Nat × Nat)) (HL : Hid (postS bs c d cs c2 d2 other = L)) (w : World) (hv : Sl .i64 w v bs) (hu : Sl .i64 w u cs) :
    Calls Try.prog 15 #[.agg #[v, .int .i64 c, .int .i64 d], .agg #[u, .int .i64 c2, .int .i64 d2], .int .i64 other] w (RetPo L w) := by
  cases h : (rightP bs c d && rightP cs c2 d2 && bs.length == cs.length) with
  | false =>
    have e : L = [] := by rw [← HL.out]; unfold postS; rw [if_pos h]
    subst e
    refine (refPostings_no v u bs cs c d c2 d2 other h w hv hu).mono ?_
    rintro _ w1 ⟨rfl, hb⟩
    exact ⟨_, rfl, PoS.none, hb⟩
  | true =>
    simp only [Bool.and_eq_true, beq_iff_eq] at h
    have := refPostings_go v u bs cs c d c2 d2 other h.1.1 h.1.2 h.2 w hv hu
    rw [HL.out] at this
    exact this
end Go.Proofs.Ytbiiejolemcifaa

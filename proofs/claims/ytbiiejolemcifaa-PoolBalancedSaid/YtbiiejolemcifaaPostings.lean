/- pool.Postings: the postings of two positions, as the program makes them. -/
import Derived.Test.YtbiiejolemcifaaPostM
import Derived.Test.YtbiiejolemcifaaPutP
import Derived.Test.YtbiiejolemcifaaAddA
namespace Go.Proofs.Ytbiiejolemcifaa
open Go.RowKit FlM EvM
attribute [local go_sem] run_store_complex run_store_float

theorem toInt_N (n : Nat) (h : n < 9007199254740992) : floatToIntVal .f64 (FlM.N n) .i64 = some (n : Int) := by
  unfold floatToIntVal
  have e : (FloatKind.f64.decode (FlM.N n)).toInt .zero = some (n : Int) := toInt_rep (read_N n h)
  have e1 : IntKind.i64.min = -9223372036854775808 := rfl
  have e2 : IntKind.i64.max = 9223372036854775807 := rfl
  rw [e]
  dsimp only
  rw [e1, e2, if_pos ⟨by omega, by omega⟩]
theorem PutSt.start (w : World) : PutSt w.heap.size w.heap.size (w.heap.size + 1) [] 0 0 w ((w.alloc (.cells #[.slice none 0 0] 33)).alloc (.cells #[.complex .f64 0 0] 59)) := by
  have h1 : Blk (w.alloc (.cells #[.slice none 0 0] 33)) w.heap.size 33 [.slice none 0 0] := heap_alloc_new w _
  have h2 : Blk ((w.alloc (.cells #[.slice none 0 0] 33)).alloc (.cells #[.complex .f64 0 0] 59)) (w.alloc (.cells #[.slice none 0 0] 33)).heap.size 59 [.complex .f64 0 0] := heap_alloc_new _ _
  rw [World.size_alloc] at h2
  exact ⟨.slice none 0 0, 0, 0, ⟨rfl, .inl ⟨rfl, rfl⟩⟩, h1.below (bl_al (Below.refl _ _) _), h2, ⟨N_zero, N_zero⟩, bl_al (bl_al (Below.refl _ _) _) _⟩
theorem PutSt.b {base bl ba : Nat} {ps : List (Int × Nat × Nat)} {D C : Nat} {w0 w : World} (h : PutSt base bl ba ps D C w0 w) : Below base w0 w := by
  obtain ⟨v, x, y, h1, h2, h3, h4, h5⟩ := h
  exact h5
/-- The tests at the head go well. -/
theorem PutSt.facts {base bl ba : Nat} {ps : List (Int × Nat × Nat)} {D C : Nat} {w0 w : World} (h : PutSt base bl ba ps D C w0 w) : ∃ v x y, w.cell? ⟨bl, 0, none⟩ = some v ∧ w.cell? ⟨ba, 0, none⟩ = some (.complex .f64 x y) ∧ Hid (FlM.N D = x ∧ FlM.N C = y) ∧ Hid (PoS w v ps) ∧ Hid (Below base w0 w) := by
  obtain ⟨v, x, y, h1, h2, h3, h4, h5⟩ := h
  have a := h2.cell 0
  have b := h3.cell 0
  simp only [List.getElem?_cons_zero] at a b
  exact ⟨v, x, y, a, b, h4, PoS.of_own h1 rfl, h5⟩

set_option maxHeartbeats 1600000 in
set_option maxRecDepth 100000 in
theorem postings_go (v u : Value) (bs cs : List Int) (c d c2 d2 other : Int) (HR1 : Hid (rightP bs c d = true)) (HR2 : Hid (rightP cs c2 d2 = true)) (hl : bs.length = cs.length) (w : World) (hv : Sl .i64 w v bs) (hu : Sl .i64 w u cs) :
    Calls Try.prog 14 #[.agg #[v, .int .i64 c, .int .i64 d], .agg #[u, .int .i64 c2, .int .i64 d2], .int .i64 other] w (RetPo (postS bs c d cs c2 d2 other) w) := by
  have HV := Lib.hid hv
  have HU := Lib.hid hu
  obtain ⟨ao, cap, rfl, h1, ⟨h2, hnn⟩, h3⟩ := hv
  clear h3 hnn
  obtain ⟨ao', cap', rfl, h1', ⟨h2', hnn⟩, h3⟩ := hu
  clear h3 hnn
  unfold maxLen at h2 h2'
  have hlen := (rightP_len HR2.out).2
  have HT := Lib.hid (fun k => tr_tight HR1.out HR2.out hl k)
  have HBD := Lib.hid (fun k => tr_bd HR1.out HR2.out hl k)
  have HONE := Lib.hid (fun k (hk : k < cs.length) => tr_one HR1.out HR2.out hl hk)
  have HRX := Lib.hid (rightP_may HR1.out).2
  have HRY := Lib.hid (rightP_may HR2.out).2
  have HC := Lib.hid (And.intro (rightP_may HR1.out).1 (rightP_may HR2.out).1)
  have SB : Hid (Below w.heap.size w ((w.alloc (.cells #[.slice ao bs.length cap, .int .i64 c, .int .i64 d] 25)).alloc (.cells #[.slice ao' cs.length cap', .int .i64 c2, .int .i64 d2] 25))) := bl_al (bl_al (Below.refl _ _) _) _
  have S3 : Hid (Blk ((w.alloc (.cells #[.slice ao bs.length cap, .int .i64 c, .int .i64 d] 25)).alloc (.cells #[.slice ao' cs.length cap', .int .i64 c2, .int .i64 d2] 25)) w.heap.size 25 [.slice ao bs.length cap, .int .i64 c, .int .i64 d]) := Blk.below (heap_alloc_new w _) (bl_al (Below.refl _ _) _)
  have S4 : Hid (Blk ((w.alloc (.cells #[.slice ao bs.length cap, .int .i64 c, .int .i64 d] 25)).alloc (.cells #[.slice ao' cs.length cap', .int .i64 c2, .int .i64 d2] 25)) (w.heap.size + 1) 25 [.slice ao' cs.length cap', .int .i64 c2, .int .i64 d2]) := by
    have := heap_alloc_new (w.alloc (.cells #[.slice ao bs.length cap, .int .i64 c, .int .i64 d] 25)) (.cells #[.slice ao' cs.length cap', .int .i64 c2, .int .i64 d2] 25)
    simpa [Blk, Hid] using this
  have d1 : ((bs.length : Int) != (cs.length : Int)) = false := by simp; omega
  have HL := Lib.hid hl
  clear hl
  have hmf : ∀ (fn : Fn) (first cap : Array Value) (w : World), (Instr.makeFunc fn first cap).run Try.prog w = .ok (.func fn first cap) w := fun _ _ _ _ => rfl
  go_enter Try.func14, Try.ntmps14
  go_wp2_with fail
  refine (poolRight_any _ bs c d true HR1 (by have := HL.out; omega) _ (HV.out.below SB.out)).mono ?_
  rintro _ w1 ⟨rfl, hb1⟩
  have q4 := S4.out.below hb1
  have x0 := q4.cell 0
  have x1 := q4.cell 1
  have x2 := q4.cell 2
  simp only [List.getElem?_cons_zero, List.getElem?_cons_succ] at x0 x1 x2
  have T3 := Lib.hid (S3.out.below hb1)
  have T4 := Lib.hid q4
  have TB := Lib.hid (bl_tr SB.out hb1)
  clear q4 hb1
  go_wp2_with fail
  refine (poolRight_any _ cs c2 d2 true HR2 (by omega) _ (HU.out.below TB.out)).mono ?_
  rintro _ w2 ⟨rfl, hb2⟩
  have U3 := Lib.hid (T3.out.below hb2)
  have U4 := Lib.hid (T4.out.below hb2)
  have UB := Lib.hid (bl_tr TB.out hb2)
  have y0 := U3.out.cell 0
  have z0 := U4.out.cell 0
  have hz4 := U4.out.lt
  have hz5 : w.heap.size < w2.heap.size := by omega
  simp only [List.getElem?_cons_zero] at y0 z0
  have ST := Lib.hid (PutSt.start w2)
  clear hb2 x0 x1 x2 S3 S4 SB T3 T4 TB
  go_wp2_with fail
  obtain ⟨w3, hw3, ST3⟩ : ∃ w3, ((w2.alloc (.cells #[.slice none 0 0] 33)).alloc (.cells #[.complex .f64 0 0] 59)) = w3 ∧ Hid (PutSt w2.heap.size w2.heap.size (w2.heap.size + 1) [] 0 0 w2 w3) := ⟨_, rfl, ST.out⟩
  with_reducible rw [hw3]
  clear hw3 ST y0 z0
  obtain ⟨n, hn⟩ : ∃ n, cs.length = n := ⟨_, rfl⟩
  have HN := Lib.hid hn
  rw [hn] at hlen h1' ⊢
  have HLN : Hid (bs.length = n) := by show _ = _; rw [HL.out, hn]
  clear hn
  go_loopg [34] n (fun g i wr => ∃ k : Nat, k + g = n ∧ i = .int .i64 k ∧ Hid (PutSt w2.heap.size w2.heap.size (w2.heap.size + 1) (trP bs cs k) (trD bs cs k) (trC bs cs k) w2 wr))
  case atStart => exact ⟨0, by omega, rfl, ST3⟩
  case round =>
    obtain ⟨k, hkg, rfl, HST⟩ := hrel
    cases gk with
    | zero =>
      have hlt : ¬ ((k : Int) < (n : Int)) := by omega
      obtain rfl : k = n := by omega
      have Q3 := HST.out.b
      have V3 := U3.out.belowB Q3 (by omega)
      have V4 := U4.out.belowB Q3 (by omega)
      have p1 := V3.cell 1
      have r1 := V4.cell 1
      simp only [List.getElem?_cons_zero, List.getElem?_cons_succ] at p1 r1
      obtain ⟨⟨hcc1, hcc2⟩, hcc3, hcc4⟩ := HC.out
      have hps := trP_len bs cs k
      have hbd := HT.out k (by have := HN.out; omega)
      have hbz : w2.heap.size ≤ w2.heap.size + 1 := Nat.le_succ _
      have hm1 : -1000000000000000 ≤ c - c2 ∧ c - c2 ≤ 1000000000000000 := by omega
      have CT := Lib.hid (fun W hW => put_any (-1) (c - c2) hm1 w2.heap.size w2.heap.size (w2.heap.size + 1) (trP bs cs k) (trD bs cs k) (trC bs cs k) (by omega) (by omega) (by omega) (Nat.le_refl _) hbz w2 W hW)
      clear Q3 V3 V4 hbd hps hm1
      go_wp2_with fail
      refine (CT.out _ HST.out).mono ?_
      rintro _ w4 ⟨rfl, HST4⟩
      have HS4 := Lib.hid HST4
      obtain ⟨DD, hDD⟩ : ∃ x, trD bs cs k + (c - c2).toNat = x := ⟨_, rfl⟩
      obtain ⟨CC, hCC⟩ : ∃ x, trC bs cs k + (-(c - c2)).toNat = x := ⟨_, rfl⟩
      obtain ⟨PP, hPP⟩ : ∃ x, trP bs cs k ++ postL (-1) (c - c2) = x := ⟨_, rfl⟩
      rw [hDD, hCC, hPP] at HS4 HST4
      have hbd := HT.out k (by have := HN.out; omega)
      have hsum := (HBD.out k (by have := HN.out; omega)).2.2
      have hpl : PP.length ≤ 9 := by
        rw [← hPP, List.length_append]
        have := trP_len bs cs k
        have := postL_len (-1) (c - c2)
        omega
      have HPL := Lib.hid hpl
      have hD2 : DD ≤ 2000000000000000 ∧ CC ≤ 2000000000000000 := by omega
      obtain ⟨R, hR⟩ : ∃ R, (CC : Int) - (DD : Int) = R := ⟨_, rfl⟩
      have hRS : -(trS bs cs k + (c - c2)) = R := by omega
      have HRS := Lib.hid hRS
      have HPP := Lib.hid hPP
      have HNC := Lib.hid HN.out
      have HD2 := Lib.hid hD2
      obtain ⟨v7, x8, y8, q7, q8, HXY, HPO, HB4⟩ := HST4.facts
      have cv1 := fun W => run_convert_float_int (P := Try.prog) W 65 2 .f64 .i64 x8 DD rfl Try.underlying2 (by rw [← HXY.out.1]; exact toInt_N DD (by omega))
      have cv2 := fun W => run_convert_float_int (P := Try.prog) W 65 2 .f64 .i64 y8 CC rfl Try.underlying2 (by rw [← HXY.out.2]; exact toInt_N CC (by omega))
      have HRR := Lib.hid hR
      have WB := Lib.hid (UB.out.trans (HB4.out.mono (by have := UB.out.size; omega)))
      clear HST4 hDD hCC hPP hbd hsum hpl hR hRS hcc1 hcc2 hcc3 hcc4 p1 r1
      obtain ⟨hd1, hd2⟩ := hD2
      cases hmay : mayM ((CC : Int) - (DD : Int)) with
      | false =>
        have HF : Hid (postS bs c d cs c2 d2 other = PP) := by
          show _ = _
          unfold postS
          rw [if_neg (by rw [HR1.out, HR2.out]; simp [HL.out]), HNC.out, HRS.out, if_pos (by have := mayM_no.1 hmay; have := HRR.out; omega), HPP.out]
        have HM := Lib.hid hmay
        clear hmay
        go_wp2_with fail
        refine (may_is HM.out _).mono ?_
        rintro _ _ ⟨rfl, rfl⟩
        go_wp2
        go_ret
        exact ⟨_, rfl, by rw [HF.out]; exact HPO.out, WB.out⟩
      | true =>
        have hmm := mayM_iff.1 hmay
        have HF : Hid (postS bs c d cs c2 d2 other = PP ++ postL other ((CC : Int) - (DD : Int))) := by
          show _ = _
          unfold postS
          rw [if_neg (by rw [HR1.out, HR2.out]; simp [HL.out]), HNC.out, HRS.out, if_neg (by have := HRR.out; omega), HPP.out, HRR.out]
        have CT := Lib.hid (fun W hW => put_any other ((CC : Int) - (DD : Int)) hmm w2.heap.size w2.heap.size (w2.heap.size + 1) PP DD CC (by have := HPL.out; omega) (by omega) (by omega) (Nat.le_refl _) hbz w2 W hW)
        have HM := Lib.hid hmay
        clear hmay hmm
        go_wp2_with fail
        refine (may_is HM.out _).mono ?_
        rintro _ _ ⟨rfl, rfl⟩
        go_wp2_with fail
        refine (CT.out _ HS4.out).mono ?_
        rintro _ w5 ⟨rfl, HS5⟩
        obtain ⟨v9, x9, y9, r7, r8, HXY9, HPO9, HB9⟩ := HS5.facts
        clear HS5 q7 q8
        go_wp2
        go_ret
        exact ⟨_, rfl, by rw [HF.out]; exact HPO9.out, UB.out.trans (HB9.out.mono (by have := UB.out.size; omega))⟩
    | succ g =>
      have hlt : (k : Int) < (n : Int) := by omega
      have Q3 := HST.out.b
      have V3 := U3.out.belowB Q3 (by omega)
      have p0 := V3.cell 0
      simp only [List.getElem?_cons_zero] at p0
      have QB : Below w.heap.size w wr := UB.out.trans (Q3.mono (by have := UB.out.size; omega))
      have HVW := Lib.hid (HV.out.below QB)
      have HUW := Lib.hid (HU.out.below QB)
      obtain ⟨b, o, x, rfl, hc1, HX⟩ := (HVW.out).get (i := k) (by have := HLN.out; omega)
      obtain ⟨b', o', y, rfl, hc2, HY⟩ := (HUW.out).get (i := k) (by have := HN.out; omega)
      have hone := HONE.out k (by have := HN.out; omega)
      rw [HX.out, HY.out] at hone
      have hps := trP_len bs cs k
      have hbd := HT.out k (by have := HN.out; omega)
      have hkn : (k : Int) < (bs.length : Int) := by have := HLN.out; omega
      have hbz : w2.heap.size ≤ w2.heap.size + 1 := Nat.le_succ _
      have CT := Lib.hid (fun W hW => put_any ((k : Int) + 1) (y - x) hone w2.heap.size w2.heap.size (w2.heap.size + 1) (trP bs cs k) (trD bs cs k) (trC bs cs k) (by omega) (by omega) (by omega) (Nat.le_refl _) hbz w2 W hW)
      have hx := (HRX.out k (by have := HLN.out; omega))
      have hy := (HRY.out k (by have := HN.out; omega))
      rw [HX.out] at hx
      rw [HY.out] at hy
      clear Q3 V3 QB hbd hps hone
      go_wp2_with fail
      refine (CT.out _ HST.out).mono ?_
      rintro _ w4 ⟨rfl, HST4⟩
      have HS5 : Hid (PutSt w2.heap.size w2.heap.size (w2.heap.size + 1) (trP bs cs (k + 1)) (trD bs cs (k + 1)) (trC bs cs (k + 1)) w2 w4) := by
        show PutSt _ _ _ _ _ _ _ _
        simp only [trP, trD, trC, HX.out, HY.out]
        exact HST4
      clear HST4
      go_wp2
      go_roundg g
      case measure => omega
      case rel => exact ⟨k + 1, by omega, by go_num, HS5⟩
set_option maxHeartbeats 800000 in
set_option maxRecDepth 100000 in
theorem postings_no (v u : Value) (bs cs : List Int) (c d c2 d2 other : Int) (HNO : Hid ((rightP bs c d && rightP cs c2 d2 && bs.length == cs.length) = false)) (HLN : bs.length ≤ 1000000 ∧ cs.length ≤ 1000000) (w : World) (hv : Sl .i64 w v bs) (hu : Sl .i64 w u cs) :
    Calls Try.prog 14 #[.agg #[v, .int .i64 c, .int .i64 d], .agg #[u, .int .i64 c2, .int .i64 d2], .int .i64 other] w (RetB (.slice none 0 0) w) := by
  have HV := Lib.hid hv
  have HU := Lib.hid hu
  obtain ⟨ao, cap, rfl, h1, ⟨h2, hnn⟩, h3⟩ := hv
  clear h3 hnn
  obtain ⟨ao', cap', rfl, h1', ⟨h2', hnn⟩, h3⟩ := hu
  clear h3 hnn
  unfold maxLen at h2 h2'
  have SB : Hid (Below w.heap.size w ((w.alloc (.cells #[.slice ao bs.length cap, .int .i64 c, .int .i64 d] 25)).alloc (.cells #[.slice ao' cs.length cap', .int .i64 c2, .int .i64 d2] 25))) := bl_al (bl_al (Below.refl _ _) _) _
  have S3 : Hid (Blk ((w.alloc (.cells #[.slice ao bs.length cap, .int .i64 c, .int .i64 d] 25)).alloc (.cells #[.slice ao' cs.length cap', .int .i64 c2, .int .i64 d2] 25)) w.heap.size 25 [.slice ao bs.length cap, .int .i64 c, .int .i64 d]) := Blk.below (heap_alloc_new w _) (bl_al (Below.refl _ _) _)
  have S4 : Hid (Blk ((w.alloc (.cells #[.slice ao bs.length cap, .int .i64 c, .int .i64 d] 25)).alloc (.cells #[.slice ao' cs.length cap', .int .i64 c2, .int .i64 d2] 25)) (w.heap.size + 1) 25 [.slice ao' cs.length cap', .int .i64 c2, .int .i64 d2]) := by
    have := heap_alloc_new (w.alloc (.cells #[.slice ao bs.length cap, .int .i64 c, .int .i64 d] 25)) (.cells #[.slice ao' cs.length cap', .int .i64 c2, .int .i64 d2] 25)
    simpa [Blk, Hid] using this
  cases hr1 : rightP bs c d with
  | false =>
    have HR1 := Lib.hid hr1
    clear hr1
    go_enter Try.func14, Try.ntmps14
    go_wp2_with fail
    refine (poolRight_any _ bs c d false HR1 HLN.1 _ (HV.out.below SB.out)).mono ?_
    rintro _ w1 ⟨rfl, hb1⟩
    have TB := Lib.hid (bl_tr SB.out hb1)
    clear hb1 S3 S4
    go_wp2
    go_ret
    exact ⟨rfl, TB.out⟩
  | true =>
    have HR1 := Lib.hid hr1
    clear hr1
    cases hr2 : rightP cs c2 d2 with
    | false =>
      have HR2 := Lib.hid hr2
      clear hr2
      go_enter Try.func14, Try.ntmps14
      go_wp2_with fail
      refine (poolRight_any _ bs c d true HR1 HLN.1 _ (HV.out.below SB.out)).mono ?_
      rintro _ w1 ⟨rfl, hb1⟩
      have q4 := S4.out.below hb1
      have x0 := q4.cell 0
      have x1 := q4.cell 1
      have x2 := q4.cell 2
      simp only [List.getElem?_cons_zero, List.getElem?_cons_succ] at x0 x1 x2
      have TB := Lib.hid (bl_tr SB.out hb1)
      clear q4 hb1 S3 S4
      go_wp2_with fail
      refine (poolRight_any _ cs c2 d2 false HR2 HLN.2 _ (HU.out.below TB.out)).mono ?_
      rintro _ w2 ⟨rfl, hb2⟩
      have UB := Lib.hid (bl_tr TB.out hb2)
      clear hb2 x0 x1 x2
      go_wp2
      go_ret
      exact ⟨rfl, UB.out⟩
    | true =>
      have HR2 := Lib.hid hr2
      have d1 : ((bs.length : Int) != (cs.length : Int)) = true := by
        have := HNO.out
        rw [HR1.out, hr2] at this
        simp at this ⊢
        omega
      clear hr2
      go_enter Try.func14, Try.ntmps14
      go_wp2_with fail
      refine (poolRight_any _ bs c d true HR1 HLN.1 _ (HV.out.below SB.out)).mono ?_
      rintro _ w1 ⟨rfl, hb1⟩
      have q4 := S4.out.below hb1
      have x0 := q4.cell 0
      have x1 := q4.cell 1
      have x2 := q4.cell 2
      simp only [List.getElem?_cons_zero, List.getElem?_cons_succ] at x0 x1 x2
      have T3 := Lib.hid (S3.out.below hb1)
      have T4 := Lib.hid q4
      have TB := Lib.hid (bl_tr SB.out hb1)
      clear q4 hb1 S3 S4
      go_wp2_with fail
      refine (poolRight_any _ cs c2 d2 true HR2 HLN.2 _ (HU.out.below TB.out)).mono ?_
      rintro _ w2 ⟨rfl, hb2⟩
      have y0 := (T3.out.below hb2).cell 0
      have z0 := (T4.out.below hb2).cell 0
      simp only [List.getElem?_cons_zero] at y0 z0
      have UB := Lib.hid (bl_tr TB.out hb2)
      clear hb2 x0 x1 x2
      go_wp2
      go_ret
      exact ⟨rfl, UB.out⟩
theorem postings_any (v u : Value) (bs cs : List Int) (c d c2 d2 other : Int) (L : List (Int × Nat × Nat)) (HL : Hid (postS bs c d cs c2 d2 other = L)) (HLN : bs.length ≤ 1000000 ∧ cs.length ≤ 1000000) (w : World) (hv : Sl .i64 w v bs) (hu : Sl .i64 w u cs) :
    Calls Try.prog 14 #[.agg #[v, .int .i64 c, .int .i64 d], .agg #[u, .int .i64 c2, .int .i64 d2], .int .i64 other] w (RetPo L w) := by
  cases h : (rightP bs c d && rightP cs c2 d2 && bs.length == cs.length) with
  | false =>
    have e : L = [] := by rw [← HL.out]; unfold postS; rw [if_pos h]
    subst e
    refine (postings_no v u bs cs c d c2 d2 other h HLN w hv hu).mono ?_
    rintro _ w1 ⟨rfl, hb⟩
    exact ⟨_, rfl, PoS.none, hb⟩
  | true =>
    simp only [Bool.and_eq_true, beq_iff_eq] at h
    have := postings_go v u bs cs c d c2 d2 other h.1.1 h.1.2 h.2 w hv hu
    rw [HL.out] at this
    exact this
end Go.Proofs.Ytbiiejolemcifaa

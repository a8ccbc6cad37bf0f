/- lombardref18.Close: what it refuses. -/
import Derived.Test.YtllblmoojohffaaClose
import Derived.Test.YtllblmoojohffaaRefRight
import Derived.Test.YtllblmoojohffaaR18
import Derived.Deep.DeepCutAuto
namespace Go.Proofs.Ytllblmoojohffaa
open Go.RowKit

/-- Does all go together, as far as the k-th rate? -/
def okC (a : Bool) (rs : List Int) (k : Nat) : Bool := a && !(rs.take k).any rateBad
theorem okC_zero (a : Bool) (rs : List Int) : okC a rs 0 = a := by simp [okC]
theorem okC_succ {a : Bool} {rs : List Int} {k : Nat} (h : k < rs.length) : okC a rs (k + 1) = (okC a rs k && !rateBad (rs.getD k 0)) := by
  unfold okC
  rw [List.take_succ_eq_append_getElem h, List.any_append]
  simp [List.getD, h, Bool.and_assoc]
theorem okC_all (a : Bool) (rs : List Int) : okC a rs rs.length = (a && !rs.any rateBad) := by simp [okC]

theorem argsOk_day {nts : Nat} {n fr til : Int} {nb nr : Nat} : argsOk nts n fr til nb nr = true ↔ 1 ≤ n ∧ n ≤ 300 ∧ -135140 ≤ fr ∧ fr ≤ til ∧ til ≤ 2932896 ∧ nb = nts ∧ nr = nts := by
  rw [argsOk_iff]
  simp only [dayB, Bool.and_eq_true, decide_eq_true_eq]
  omega
theorem argsF {nts : Nat} {n fr til : Int} {nb nr : Nat} (h : ¬ (1 ≤ n ∧ n ≤ 300 ∧ -135140 ≤ fr ∧ fr ≤ til ∧ til ≤ 2932896 ∧ (nb : Int) = (nts : Int))) : false = argsOk nts n fr til nb nr := by
  cases e : argsOk nts n fr til nb nr with
  | false => rfl
  | true => have := argsOk_day.1 e; omega
theorem argsT {nts : Nat} {n fr til : Int} {nb nr : Nat} (h : 1 ≤ n ∧ n ≤ 300 ∧ -135140 ≤ fr ∧ fr ≤ til ∧ til ≤ 2932896 ∧ (nb : Int) = (nts : Int)) : ((nr : Int) == (nts : Int)) = argsOk nts n fr til nb nr := by
  cases e : argsOk nts n fr til nb nr with
  | true => have := argsOk_day.1 e; simp; omega
  | false =>
    cases f : ((nr : Int) == (nts : Int)) with
    | false => rfl
    | true =>
      rw [argsOk_day.2 (by simp at f; omega)] at e
      cases e

set_option maxHeartbeats 3200000 in
set_option maxRecDepth 100000 in
theorem refClose_noN (v : Value) (ts : List (Int × Bool)) (lim cyc dued minf minp start n fr til : Int) (bv : Value) (bs : List Int) (c d : Int) (rv : Value) (rs : List Int) (nv : Value) (ns : List Int) (g : Bool) (HLT : ts.length ≤ 1000) (E : Int) (HE : Hid (CloseNo ts lim cyc dued minf minp start n fr til bs c d rs ns E)) (w : World) (hv : TrS w v ts) (hb : Sl .i64 w bv bs) (hr : Sl .i64 w rv rs) (hn : Sl .i64 w nv ns) :
    Calls Try.prog 36 #[.agg #[.int .i64 lim, v, .int .i64 cyc, .int .i64 dued, .int .i64 minf, .int .i64 minp, .int .i64 start], .int .i64 n, .agg #[.int .i64 fr, .int .i64 til], .agg #[bv, .int .i64 c, .int .i64 d], rv, nv, .bool g] w (NoCloseN E w) := by
  have HV := Lib.hid hv
  have HB := Lib.hid hb
  have HR := Lib.hid hr
  have HN := Lib.hid hn
  obtain ⟨ao, cap, rfl, h1, ⟨h2, hnn⟩, h3⟩ := hv
  clear h3 hnn
  obtain ⟨b0, bc, rfl, g1, ⟨g2, hnn⟩, h3⟩ := hb
  clear h3 hnn
  obtain ⟨r0, rc, rfl, i1, ⟨i2, hnn⟩, h3⟩ := hr
  clear h3 hnn
  obtain ⟨n0, nc, rfl, j1, ⟨j2, hnn⟩, h3⟩ := hn
  clear h3 hnn
  unfold maxLen at h2 g2 i2 j2
  go_enter Try.func36, Try.ntmps36
  go_wp2_with fail
  obtain ⟨W, hW, S7, S9, S10, S14, S15, SB, SZ⟩ := close_start w lim cyc dued minf minp start fr til c d (.slice ao ts.length cap) (.slice b0 bs.length bc)
  with_reducible rw [hW]
  clear hW SZ
  have HVW := Lib.hid (HV.out.below SB.out)
  rcases HE.out with ⟨hrt, rfl⟩ | hE
  · have HRT : Hid ((if rightT lim ts cyc dued minf minp start = true then 0 else 6) = (6 : Int)) := by show _ = _; rw [hrt]; rfl
    clear hrt HE
    refine (refRight_any _ ts lim cyc dued minf minp start _ HRT _ HVW.out).mono ?_
    rintro _ w2 ⟨rfl, hb2⟩
    have X14 := Lib.hid (S14.out.below hb2)
    have X15 := Lib.hid (S15.out.below hb2)
    have XB := Lib.hid (bl_tr SB.out hb2)
    clear hb2
    have hA := X14.out
    have hC := X15.out
    have HBW := Lib.hid (XB.out)
    have c0 := hA.cell 0
    have c1 := hA.cell 1
    have c2 := hA.cell 2
    have c3 := hA.cell 3
    have c4 := hA.cell 4
    have c5 := hA.cell 5
    have c6 := hA.cell 6
    have c7 := hA.cell 7
    have c8 := hA.cell 8
    simp only [List.getElem?_cons_zero, List.getElem?_cons_succ] at c0 c1 c2 c3 c4 c5 c6 c7 c8
    have f0 := hA.frozen 0
    have f1 := hA.frozen 1
    have f2 := hA.frozen 2
    have f3 := hA.frozen 3
    have f4 := hA.frozen 4
    have f5 := hA.frozen 5
    have f6 := hA.frozen 6
    have f7 := hA.frozen 7
    have f8 := hA.frozen 8
    have d0 := hC.cell 0
    have d1 := hC.cell 1
    have d2 := hC.cell 2
    simp only [List.getElem?_cons_zero, List.getElem?_cons_succ] at d0 d1 d2
    have e0 := hC.frozen 0
    have e1 := hC.frozen 1
    have e2 := hC.frozen 2
    have hlt := hC.lt
    clear hA hC
    go_wp2
    try simp only [jumps]
    refine bodyPost_ret (v := .tuple #[.agg #[.int .i64 0, .int .i64 0, .int .i64 0, .int .i64 0, .slice none 0 0, .int .i64 0, .int .i64 0, .int .i64 0, .bool false], .agg #[.slice none 0 0, .int .i64 0, .int .i64 0], .int .i64 6]) (by simp [results, Try.results36, go_sem, c0, c1, c2, c3, c4, c5, c6, c7, c8, d0, d1, d2]) rfl ⟨.slice none 0 0, .slice none 0 0, rfl, LnS.nil, Sl.nil, ⟨fr_nil, fr_nil⟩, ?_⟩
    have h14 : w.heap.size ≤ w.heap.size + 1 + 1 + 1 := by omega
    exact bl_s3 (bl_s9 HBW.out h14 _ _ _ _ _ _ _ _ _) (by omega) _ _ _
  · have hrt : rightT lim ts cyc dued minf minp start = true := by rcases hE with h | h; exact h.1; exact h.1.1
    have HRT : Hid ((if rightT lim ts cyc dued minf minp start = true then 0 else 6) = (0 : Int)) := by show _ = _; rw [hrt]; rfl
    obtain ⟨q, hq⟩ : ∃ q, argsOk ts.length n fr til bs.length rs.length = q := ⟨_, rfl⟩
    have HE2 := Lib.hid hE
    have HQ := Lib.hid hq
    clear hrt HE hE hq
    refine (refRight_any _ ts lim cyc dued minf minp start _ HRT _ HVW.out).mono ?_
    rintro _ w2 ⟨rfl, hb2⟩
    have X7 := Lib.hid (S7.out.below hb2)
    have X9 := Lib.hid (S9.out.below hb2)
    have X10 := Lib.hid (S10.out.below hb2)
    have X14 := Lib.hid (S14.out.below hb2)
    have X15 := Lib.hid (S15.out.below hb2)
    have XB := Lib.hid (bl_tr SB.out hb2)
    clear hb2 S7 S9 S10 S14 S15 SB HVW HRT
    go_upto_region 3 with fail
    have q9 := X9.out
    have s0 := q9.cell 0
    have s1 := q9.cell 1
    have q7 := X7.out
    have t1 := q7.cell 1
    have q10 := X10.out
    have p0 := q10.cell 0
    simp only [List.getElem?_cons_zero, List.getElem?_cons_succ] at s0 s1 t1 p0
    clear q9 q7 q10
    go_cut [17] (fun s wr => s = .bool q ∧ w2 = wr)
    case first =>
      go_wp2_with fail
      all_goals go_meet
      all_goals (case rel => exact ⟨by rw [← HQ.out]; first | exact congrArg Value.bool (argsF (by omega)) | exact congrArg Value.bool (argsT (by omega)), rfl⟩)
    case rest =>
      obtain ⟨rfl, rfl⟩ := hcut
      clear s0 s1 t1 p0
      have HRW := Lib.hid (HR.out.below XB.out)
      go_wp2_with fail
      go_loopg [17, 18] rs.length (fun g s i wr => ∃ (k : Nat) (p : Bool), k + g = rs.length ∧ s = .bool p ∧ i = .int .i64 k ∧ Hid (okC q rs k = p) ∧ w2 = wr)
      case atStart => exact ⟨0, q, by omega, rfl, rfl, okC_zero _ _, rfl⟩
      case round =>
        obtain ⟨k, p, hkg, rfl, rfl, HK, rfl⟩ := hrel
        cases gk with
        | succ gg =>
          have hlt : (k : Int) < (rs.length : Int) := by omega
          obtain ⟨b', o', x, rfl, hcell, HX⟩ := HRW.out.get (i := k) (by omega)
          have HKS : Hid (okC q rs (k + 1) = (p && !rateBad x)) := by show _ = _; rw [okC_succ (by omega), HK.out, HX.out]
          cases p with
          | false =>
            have HK2 : Hid (okC q rs (k + 1) = false) := by show _ = _; rw [HKS.out]; rfl
            clear HKS
            go_wp2_with fail
            go_roundg gg
            case measure => omega
            case rel => exact ⟨k + 1, false, by omega, rfl, by go_num, HK2, rfl⟩
          | true =>
            by_cases hx : 0 ≤ x
            · have hy : ¬ x < 0 := by omega
              obtain ⟨z, hz⟩ : ∃ z, decide (x ≤ 10000000) = z := ⟨_, rfl⟩
              have HK2 : Hid (okC q rs (k + 1) = z) := by show _ = _; rw [HKS.out, ← hz]; simp [rateBad, hy]; by_cases h : x ≤ 10000000 <;> simp [h] <;> omega
              clear HKS hy
              go_wp2_with fail
              go_roundg gg
              case measure => omega
              case rel => exact ⟨k + 1, z, by omega, by rw [← hz], by go_num, HK2, rfl⟩
            · have HK2 : Hid (okC q rs (k + 1) = false) := by show _ = _; rw [HKS.out]; simp [rateBad]; omega
              clear HKS
              go_wp2_with fail
              go_roundg gg
              case measure => omega
              case rel => exact ⟨k + 1, false, by omega, rfl, by go_num, HK2, rfl⟩
        | zero =>
          have hlt : ¬ ((k : Int) < (rs.length : Int)) := by omega
          have hk : k = rs.length := by omega
          subst hk
          have HP : Hid ((argsOk ts.length n fr til bs.length rs.length && !rs.any rateBad) = p) := by show _ = _; rw [HQ.out, ← okC_all]; exact HK.out
          cases p with
          | false =>
            have hE1 : 1 = E := by
              have h := HP.out
              rcases HE2.out with ⟨_, _, h2⟩ | ⟨⟨_, h1⟩, ⟨_, h2⟩ | ⟨h2, _⟩⟩
              · exact h2
              · exact h2
              · rw [h1, h2] at h; cases h
            subst hE1
            go_upto_region 9 with fail
            have hA := X14.out
            have hC := X15.out
            have HBW := Lib.hid (XB.out)
            have c0 := hA.cell 0
            have c1 := hA.cell 1
            have c2 := hA.cell 2
            have c3 := hA.cell 3
            have c4 := hA.cell 4
            have c5 := hA.cell 5
            have c6 := hA.cell 6
            have c7 := hA.cell 7
            have c8 := hA.cell 8
            simp only [List.getElem?_cons_zero, List.getElem?_cons_succ] at c0 c1 c2 c3 c4 c5 c6 c7 c8
            have f0 := hA.frozen 0
            have f1 := hA.frozen 1
            have f2 := hA.frozen 2
            have f3 := hA.frozen 3
            have f4 := hA.frozen 4
            have f5 := hA.frozen 5
            have f6 := hA.frozen 6
            have f7 := hA.frozen 7
            have f8 := hA.frozen 8
            have d0 := hC.cell 0
            have d1 := hC.cell 1
            have d2 := hC.cell 2
            simp only [List.getElem?_cons_zero, List.getElem?_cons_succ] at d0 d1 d2
            have e0 := hC.frozen 0
            have e1 := hC.frozen 1
            have e2 := hC.frozen 2
            have hlt := hC.lt
            clear hA hC
            go_wp2
            try simp only [jumps]
            refine bodyPost_ret (v := .tuple #[.agg #[.int .i64 0, .int .i64 0, .int .i64 0, .int .i64 0, .slice none 0 0, .int .i64 0, .int .i64 0, .int .i64 0, .bool false], .agg #[.slice none 0 0, .int .i64 0, .int .i64 0], .int .i64 1]) (by simp [results, Try.results36, go_sem, c0, c1, c2, c3, c4, c5, c6, c7, c8, d0, d1, d2]) rfl ⟨.slice none 0 0, .slice none 0 0, rfl, LnS.nil, Sl.nil, ⟨fr_nil, fr_nil⟩, ?_⟩
            have h14 : w.heap.size ≤ w.heap.size + 1 + 1 + 1 := by omega
            exact bl_s3 (bl_s9 HBW.out h14 _ _ _ _ _ _ _ _ _) (by omega) _ _ _
          | true =>
            have h := HP.out
            simp only [Bool.and_eq_true, Bool.not_eq_true'] at h
            have HEQ := Lib.hid (argsOk_iff.1 h.1).2.2.2.2.2
            obtain ⟨L, C, D, HBE⟩ : ∃ L C D, Hid (E ≠ 0 ∧ bearS bs c d ns = (L, C, D, E)) := by
              rcases HE2.out with ⟨_, h1, _⟩ | ⟨_, ⟨h2, _⟩ | ⟨_, h0, L, C, D, h2⟩⟩
              · rw [h.1] at h1; cases h1
              · rw [h.2] at h2; cases h2
              · exact ⟨L, C, D, h0, h2⟩
            have q10 := X10.out
            have p0 := q10.cell 0
            have p1 := q10.cell 1
            have p2 := q10.cell 2
            simp only [List.getElem?_cons_zero, List.getElem?_cons_succ] at p0 p1 p2
            have hE0 : (E != 0) = true := by have := HBE.out.1; simpa using this
            have HBS := Lib.hid HBE.out.2
            clear q10 h
            go_wp2_with fail
            refine (refBear11N_any _ _ bs ns c d _ HBS (by have := HEQ.out; have := HLT; omega) _ (HB.out.below XB.out) (HN.out.below XB.out)).mono ?_
            rintro _ w3 ⟨u3, rfl, ⟨hul, _⟩, hb3⟩
            simp only at hul ⊢
            obtain ⟨a3, q3, rfl⟩ := hul.shape
            have Y14 := Lib.hid (X14.out.below hb3)
            have Y15 := Lib.hid (X15.out.below hb3)
            have YB := Lib.hid (bl_tr XB.out hb3)
            have qy := X10.out.below hb3
            clear p0 p1 p2
            have p0 := qy.cell 0
            have p1 := qy.cell 1
            have p2 := qy.cell 2
            simp only [List.getElem?_cons_zero, List.getElem?_cons_succ] at p0 p1 p2
            have f0 := qy.frozen 0
            have f1 := qy.frozen 1
            have f2 := qy.frozen 2
            clear qy hul hb3
            go_upto_region 12 with fail
            clear p0 p1 p2 f0 f1 f2
            have hA := ((Y14.out.setOther (g' := w.heap.size + 1 + 1) (by omega) 0 (.slice a3 L.length q3)).setOther (g' := w.heap.size + 1 + 1) (by omega) 1 (.int .i64 C)).setOther (g' := w.heap.size + 1 + 1) (by omega) 2 (.int .i64 D)
            have hC := ((Y15.out.setOther (g' := w.heap.size + 1 + 1) (by omega) 0 (.slice a3 L.length q3)).setOther (g' := w.heap.size + 1 + 1) (by omega) 1 (.int .i64 C)).setOther (g' := w.heap.size + 1 + 1) (by omega) 2 (.int .i64 D)
            have HBW := Lib.hid (bl_s3 YB.out (show w.heap.size ≤ w.heap.size + 1 + 1 by omega) (.slice a3 L.length q3) (.int .i64 C) (.int .i64 D))
            have c0 := hA.cell 0
            have c1 := hA.cell 1
            have c2 := hA.cell 2
            have c3 := hA.cell 3
            have c4 := hA.cell 4
            have c5 := hA.cell 5
            have c6 := hA.cell 6
            have c7 := hA.cell 7
            have c8 := hA.cell 8
            simp only [List.getElem?_cons_zero, List.getElem?_cons_succ] at c0 c1 c2 c3 c4 c5 c6 c7 c8
            have f0 := hA.frozen 0
            have f1 := hA.frozen 1
            have f2 := hA.frozen 2
            have f3 := hA.frozen 3
            have f4 := hA.frozen 4
            have f5 := hA.frozen 5
            have f6 := hA.frozen 6
            have f7 := hA.frozen 7
            have f8 := hA.frozen 8
            have d0 := hC.cell 0
            have d1 := hC.cell 1
            have d2 := hC.cell 2
            simp only [List.getElem?_cons_zero, List.getElem?_cons_succ] at d0 d1 d2
            have e0 := hC.frozen 0
            have e1 := hC.frozen 1
            have e2 := hC.frozen 2
            have hlt := hC.lt
            clear hA hC
            go_wp2
            try simp only [jumps]
            refine bodyPost_ret (v := .tuple #[.agg #[.int .i64 0, .int .i64 0, .int .i64 0, .int .i64 0, .slice none 0 0, .int .i64 0, .int .i64 0, .int .i64 0, .bool false], .agg #[.slice none 0 0, .int .i64 0, .int .i64 0], .int .i64 E]) (by simp [results, Try.results36, go_sem, c0, c1, c2, c3, c4, c5, c6, c7, c8, d0, d1, d2]) rfl ⟨.slice none 0 0, .slice none 0 0, rfl, LnS.nil, Sl.nil, ⟨fr_nil, fr_nil⟩, ?_⟩
            have h14 : w.heap.size ≤ w.heap.size + 1 + 1 + 1 := by omega
            exact bl_s3 (bl_s9 HBW.out h14 _ _ _ _ _ _ _ _ _) (by omega) _ _ _
end Go.Proofs.Ytllblmoojohffaa

/- PoolBalanced: whatever is done to a position that is right, its postings are balanced, and make it what it is. -/
import Derived.Test.YtbiiejolemcifaaBalM
import Derived.Test.YtbiiejolemcifaaPoolPay
import Derived.Test.YtbiiejolemcifaaPoolGive
import Derived.Test.YtbiiejolemcifaaPostings
import Derived.Test.YtbiiejolemcifaaLaw11
import Derived.Test.YtbiiejolemcifaaRef11
import Derived.Deep.RegionHeld3
import Derived.Deep.DrawnRows
import Derived.Deep.QuietTactic
import Derived.BigQuiet
namespace Go.Proofs.Ytbiiejolemcifaa
open Go.RowKit FlM EvM
attribute [local go_sem ↓] Go.wp_at_zero Go.wp_at_succ

theorem u64_remN (x M : Int) (hM : 0 < M) : ∃ r : Nat, (IntKind.u64.wrap x).tmod M = (r : Int) ∧ (r : Int) < M := by
  have h0 : 0 ≤ IntKind.u64.wrap x := by rw [IntKind.wrap_u64]; omega
  have h1 := Int.emod_nonneg (IntKind.u64.wrap x) (show M ≠ 0 by omega)
  have h2 := Int.emod_lt_of_pos (IntKind.u64.wrap x) hM
  obtain ⟨r, hr⟩ := Int.eq_ofNat_of_zero_le h1
  exact ⟨r, by rw [Int.tmod_eq_emod_of_nonneg h0]; exact hr, by omega⟩
theorem PB.s3 {w : World} {g g' : Nat} {v : Value} {c d : Int} (h : PB w g v c d) (hne : g ≠ g') (x y z : Value) : PB (((w.setCell ⟨g', 0, none⟩ x).setCell ⟨g', 1, none⟩ y).setCell ⟨g', 2, none⟩ z) g v c d := by
  have key : ∀ (w : World) i j x, (w.setCell ⟨g', i, none⟩ x).cell? ⟨g, j, none⟩ = w.cell? ⟨g, j, none⟩ := fun w i j x => World.cell?_of_block (w := w) (a := ⟨g, j, none⟩) (heap_setCell_other w ⟨g', i, none⟩ g x (fun e => hne e))
  obtain ⟨h0, h1, h2⟩ := h
  refine ⟨?_, ?_, ?_⟩ <;> (rw [key, key, key]; assumption)
theorem Blk.pb {w : World} {g : Nat} {e : TypeId} {v : Value} {c d : Int} (h : Blk w g e [v, .int .i64 c, .int .i64 d]) : PB w g v c d := ⟨h.cell 0, h.cell 1, h.cell 2⟩

set_option maxHeartbeats 3200000 in
set_option maxRecDepth 100000 in
theorem poolBalanced_0 (v u : Value) (bs rates : List Int) (c d tr what am : Int) (n R A : Nat) (HN : Hid (bs.length = n)) (HLR : Hid (n ≤ rates.length)) (HR : Hid (rightP bs c d = true)) (HR2 : Hid (R < n)) (HA2 : Hid (A ≤ 1000000000000000))
    (kW : (IntKind.u64.wrap what).tmod 3 = 0) (kR : (IntKind.u64.wrap tr).tmod (n : Int) = (R : Int)) (kA : (IntKind.u64.wrap am).tmod 1000000000000001 = (A : Int)) (w : World) (hv : Sl .i64 w v bs) (hu : Sl .i64 w u rates) :
    Calls Try.prog 9 #[.agg #[v, .int .i64 c, .int .i64 d], u, .int .i64 tr, .int .i64 what, .int .i64 am] w (RetB (.bool true) w) := by
  have KW := Lib.hid kW
  have KR := Lib.hid kR
  have KA := Lib.hid kA
  clear kW kR kA
  have HV := Lib.hid hv
  have HU := Lib.hid hu
  obtain ⟨ao, cap, rfl, h1, ⟨h2, hnn⟩, h3⟩ := hv
  clear h3 hnn
  obtain ⟨ao', cap', rfl, h1', ⟨h2', hnn⟩, h3⟩ := hu
  clear h3 hnn
  unfold maxLen at h2 h2'
  have hn8 := rightP_len HR.out
  rw [HN.out] at hn8 HV h1 ⊢
  obtain ⟨hn1, hn2⟩ := hn8
  obtain ⟨m, hm⟩ : ∃ m, rates.length = m := ⟨_, rfl⟩
  rw [hm] at HU h1' HLR ⊢
  have HM := Lib.hid hm
  have t1 : decide (m < n) = false := by simp; exact HLR.out
  have hnz : ((n : Int) == 0) = false := by simp; omega
  have SB : Hid (Below w.heap.size w (w.alloc (.cells #[.slice ao n cap, .int .i64 c, .int .i64 d] 25))) := bl_al (Below.refl _ _) _
  have S3 : Hid (Blk (w.alloc (.cells #[.slice ao n cap, .int .i64 c, .int .i64 d] 25)) w.heap.size 25 [.slice ao n cap, .int .i64 c, .int .i64 d]) := heap_alloc_new w _
  clear hm
  have wR : wrap64 (1 + wrap64 (R : Int)) = (R : Int) + 1 := by
    have := HR2.out
    rw [IntWalk.wrap64_in (R : Int) ⟨by omega, by omega⟩]
    rw [IntWalk.wrap64_in _ ⟨by omega, by omega⟩]
    omega
  have wA : wrap64 (A : Int) = (A : Int) := by
    have := HA2.out
    exact IntWalk.wrap64_in _ ⟨by omega, by omega⟩
  have WR0 := Lib.hid wR
  have WA0 := Lib.hid wA
  clear wR wA
  obtain ⟨K, hK⟩ : ∃ K : Int, (R : Int) + 1 = K := ⟨_, rfl⟩
  obtain ⟨B, hB⟩ : ∃ B : Int, (A : Int) = B := ⟨_, rfl⟩
  have hKb : 1 ≤ K ∧ K ≤ n := by have := HR2.out; omega
  have hBb : 0 ≤ B ∧ B ≤ 1000000000000000 := by have := HA2.out; omega
  have HKB := Lib.hid hKb
  have HBB := Lib.hid hBb
  have hbk : badK bs.length [K] = false := by rw [HN.out]; simp [badK]; omega
  obtain ⟨L, C, D, e, hs⟩ : ∃ L C D e, chargeS bs c d K B = (L, C, D, e) := ⟨_, _, _, _, rfl⟩
  have HOK : Hid (OkS bs c n B true (L, C, D, e)) := by have := charge_ok HN.out HR.out hKb hBb hbk; rw [hs] at this; exact this
  have HS := Lib.hid hs
  clear hs
  have WR : Hid (wrap64 (1 + wrap64 (R : Int)) = K) := by show _ = _; rw [WR0.out, hK]
  have WA : Hid (wrap64 (A : Int) = B) := by show _ = _; rw [WA0.out, hB]
  clear WR0 WA0 hK hB hKb hBb hbk
  go_enter Try.func9, Try.ntmps9
  go_wp2_with fail
  refine (refRight11_any _ bs c d true HR _ (HV.out.below SB.out)).mono ?_
  rintro _ w1 ⟨rfl, hb1⟩
  have T3 := Lib.hid (S3.out.below hb1)
  have TB := Lib.hid (bl_tr SB.out hb1)
  have x0 := T3.out.cell 0
  have x1 := T3.out.cell 1
  have x2 := T3.out.cell 2
  simp only [List.getElem?_cons_zero, List.getElem?_cons_succ] at x0 x1 x2
  have hz := T3.out.lt
  clear hb1 SB S3
  have kW := KW.out
  have kR := KR.out
  have kA := KA.out
  go_wp2_with fail
  clear kW kR kA
  rw [WR.out, WA.out]
  obtain ⟨G, hG⟩ : ∃ G, w1.heap.size = G := ⟨_, rfl⟩
  have A12 := heap_alloc_new w1 (.cells #[.slice none 0 0, .int .i64 0, .int .i64 0] 25)
  obtain ⟨W2, hW2, A3, A12, BW⟩ : ∃ W2, w1.alloc (.cells #[.slice none 0 0, .int .i64 0, .int .i64 0] 25) = W2 ∧ Hid (Blk W2 w.heap.size 25 [.slice ao n cap, .int .i64 c, .int .i64 d]) ∧ Hid (Blk W2 w1.heap.size 25 [.slice none 0 0, .int .i64 0, .int .i64 0]) ∧ Hid (Below w.heap.size w W2) :=
    ⟨_, rfl, T3.out.below (bl_al (Below.refl _ _) _), A12, bl_al TB.out _⟩
  with_reducible rw [hW2]
  rw [hG] at hz A12 ⊢
  clear hW2 hG T3 TB x0 x1 x2
  have TB2 : Hid (w.heap.size ≤ G) := by show _ ≤ _; omega
  have HGne : Hid (w.heap.size ≠ G) := by show _ ≠ _; omega
  have HGlt : Hid (G < W2.heap.size) := A12.out.lt
  have HVW := Lib.hid (HV.out.below BW.out)
  have HUW := Lib.hid (HU.out.below BW.out)
  refine (poolChargeN_any _ bs c d K B _ HS (by have := HN.out; omega) _ HVW.out).mono ?_
  rintro _ w3 ⟨u3, rfl, ⟨hu3, hf3⟩, hb3⟩
  obtain ⟨a3, q3, rfl⟩ := hu3.shape
  have z0 := (A12.out.below hb3).frozen 0
  have z1 := (A12.out.below hb3).frozen 1
  have z2 := (A12.out.below hb3).frozen 2
  have zl := (A12.out.below hb3).lt
  have zc0 := (A12.out.below hb3).cell 0
  have zc1 := (A12.out.below hb3).cell 1
  have zc2 := (A12.out.below hb3).cell 2
  simp only [List.getElem?_cons_zero, List.getElem?_cons_succ] at zc0 zc1 zc2
  go_wp2_with fail

  obtain ⟨W4, hW4, P5, P12, SU, BW4⟩ : ∃ W4, (((w3.setCell ⟨G, 0, none⟩ (.slice a3 L.length q3)).setCell ⟨G, 1, none⟩ (.int .i64 C)).setCell ⟨G, 2, none⟩ (.int .i64 D)) = W4 ∧ Hid (PB W4 w.heap.size (.slice ao n cap) c d) ∧ Hid (PB W4 G (.slice a3 L.length q3) C D) ∧ Hid (Sl .i64 W4 (.slice a3 L.length q3) L) ∧ Hid (Below w.heap.size w W4) :=
    ⟨_, rfl, PB.s3 (A3.out.pb.below hb3) HGne.out _ _ _, (by have h := (((A12.out.below hb3).set 0 (.slice a3 L.length q3)).set 1 (.int .i64 C)).set 2 (.int .i64 D); exact h.pb), ((hu3.setCell (fun b o x y e h => by have := hf3 b o x y e h; have := HGlt.out; omega) _).setCell (fun b o x y e h => by have := hf3 b o x y e h; have := HGlt.out; omega) _).setCell (fun b o x y e h => by have := hf3 b o x y e h; have := HGlt.out; omega) _, bl_s3 (bl_tr BW.out hb3) (by have := TB2.out; omega) _ _ _⟩
  with_reducible rw [hW4]
  clear hW4 hb3 hu3 hf3 A3 A12
  clear z0 z1 z2 zl zc0 zc1 zc2
  rcases HOK.out with he | ⟨he, hr, hlL, hdir⟩
  · simp only at he
    subst he
    go_wp2_with fail
    refine (awake11_any _).mono ?_
    rintro _ w5 ⟨rfl, hb5⟩
    go_wp2_with fail
    refine (awake11_any _).mono ?_
    rintro _ w6 ⟨rfl, hb6⟩
    go_wp2
    go_ret
    exact ⟨rfl, bl_tr (bl_tr BW4.out hb5) hb6⟩
  · simp only at he hr hlL hdir
    subst he
    obtain ⟨hf1, hf2, hf3, ⟨hf4, hf5⟩, hf6, hf7, hf8⟩ := bal_facts true HN.out hlL HR.out hr HBB.out hdir
    obtain ⟨Q, hQ⟩ : ∃ Q, balQ bs c L C = Q := ⟨_, rfl⟩
    rw [hQ] at hf1 hf2 hf3 hf4 hf5 hf6 hf7 hf8
    have HQ1 := Lib.hid hf1
    have HQ2 := Lib.hid hf2
    have HQ3 := Lib.hid hf3
    have HQ4 : Hid (sD (fun _ => true) Q ≤ 1000000000000000 ∧ sC (fun _ => true) Q ≤ 1000000000000000) := by have := HBB.out; exact ⟨by omega, by omega⟩
    have HQ5 : Hid (sD (fun _ => true) Q = sC (fun _ => true) Q) := by show _ = _; rw [hf4, hf5]
    have HQ6 := Lib.hid hf6
    have HQ7 := Lib.hid hf7
    have HQ8 := Lib.hid hf8
    have HRL := Lib.hid hr
    have HLL := Lib.hid hlL
    have HMY := Lib.hid (rightP_may HR.out)
    have HMZ := Lib.hid (rightP_may hr)
    clear hf1 hf2 hf3 hf4 hf5 hf6 hf7 hf8 hQ hr hdir
    rw [hlL] at P12 SU ⊢
    clear hlL
    go_wp2_with fail
    refine (awake11_any _).mono ?_
    rintro _ w5 ⟨rfl, hb5⟩
    obtain ⟨e0, e1, e2⟩ := P12.out.below hb5
    have P5a := Lib.hid (P5.out.below hb5)
    have P12a := Lib.hid (P12.out.below hb5)
    have SUa := Lib.hid (SU.out.below hb5)
    have BWa := Lib.hid (bl_tr BW4.out hb5)
    clear hb5 P5 P12 SU BW4
    go_wp2_with fail
    refine (refRight11_any _ L C D true HRL _ SUa.out).mono ?_
    rintro _ w6 ⟨rfl, hb6⟩
    clear e0 e1 e2
    obtain ⟨e0, e1, e2⟩ := P12a.out.below hb6
    obtain ⟨g0, g1, g2⟩ := P5a.out.below hb6
    have P5b := Lib.hid (P5a.out.below hb6)
    have P12b := Lib.hid (P12a.out.below hb6)
    have SUb := Lib.hid (SUa.out.below hb6)
    have BWb := Lib.hid (bl_tr BWa.out hb6)
    clear hb6 P5a P12a SUa BWa
    go_wp2_with fail
    refine (postings_any _ _ bs L c d C D 0 _ HQ1 (by have := HN.out; have := HLL.out; omega) _ (HV.out.below BWb.out) SUb.out).mono ?_
    rintro _ w7 ⟨ul, rfl, hul, hb7⟩
    obtain ⟨au, cu, hue⟩ : ∃ au cu, ul = .slice au (bitsP Q).length cu := by obtain ⟨a, b, h, _⟩ := hul; exact ⟨a, b, h⟩
    subst hue
    have P5c := Lib.hid (P5b.out.below hb7)
    have P12c := Lib.hid (P12b.out.below hb7)
    have SUc := Lib.hid (SUb.out.below hb7)
    have BWc := Lib.hid (bl_tr BWb.out hb7)
    have HUL := Lib.hid hul
    clear hb7 hul P5b P12b SUb BWb e0 e1 e2 g0 g1 g2
    go_wp2_with fail
    go_loopg [15] n (fun g i wr => ∃ k : Nat, k + g = n ∧ i = .int .i64 k ∧ Hid (Below w7.heap.size w7 wr))
    case atStart => exact ⟨0, by omega, rfl, Below.refl _ _⟩
    case round =>
      obtain ⟨k, hkg, rfl, HBk⟩ := hrel
      cases gk with
      | zero =>
        have hlt : ¬ ((k : Int) < (n : Int)) := by omega
        have BWd := Lib.hid (bl_tr BWc.out HBk.out)
        obtain ⟨e0, e1, e2⟩ := P12c.out.below HBk.out
        obtain ⟨g0, g1, g2⟩ := P5c.out.below HBk.out
        have hc1 := HMY.out.1
        have hc2 := HMZ.out.1
        obtain ⟨VC, hVC⟩ : ∃ x, c - C = x := ⟨_, rfl⟩
        have q7 := HQ7.out
        rw [hVC] at q7
        have HQ7' := Lib.hid q7
        obtain ⟨VO, hVO⟩ : ∃ x, -B = x := ⟨_, rfl⟩
        have q8 := HQ8.out
        simp only [if_true] at q8
        rw [hVO] at q8
        have HQ8' := Lib.hid q8
        have hBb := HBB.out
        have tC : (c - VC == C) = true := by simp; omega
        have tO : (-VO == B) = true := by simp; omega
        have hv1 : -1000000000000000 ≤ VC ∧ VC ≤ 1000000000000000 := by omega
        have hv2 : -1000000000000000 ≤ VO ∧ VO ≤ 1000000000000000 := by omega
        clear q7 q8 hVC hVO
        go_wp2_with fail
        refine (refOf_any _ Q (-1) VC HQ2 HQ3.out HQ4 HQ7' _ (HUL.out.below HBk.out)).mono ?_
        rintro _ _ ⟨rfl, rfl⟩
        go_wp2_with fail
        refine (refOf_any _ Q 0 VO HQ2 HQ3.out HQ4 HQ8' _ (HUL.out.below HBk.out)).mono ?_
        rintro _ _ ⟨rfl, rfl⟩
        have kW := KW.out
        go_wp2_with fail
        refine (refBalanced_any _ Q HQ2 HQ3.out HQ4 HQ5 _ (HUL.out.below HBk.out)).mono ?_
        rintro _ _ ⟨rfl, rfl⟩
        clear kW
        go_wp2
        go_ret
        exact ⟨rfl, BWd.out⟩
      | succ g =>
        have hlt : (k : Int) < (n : Int) := by omega
        have SVk := Lib.hid (HV.out.below (bl_tr BWc.out HBk.out))
        have SUk := Lib.hid (SUc.out.below HBk.out)
        obtain ⟨b, o, x, rfl, hc1, HX⟩ := (SVk.out).get (i := k) (by have := HN.out; omega)
        obtain ⟨b', o', y, rfl, hc2, HY⟩ := (SUk.out).get (i := k) (by have := HLL.out; omega)
        obtain ⟨V, hV⟩ : ∃ V, y - x = V := ⟨_, rfl⟩
        have q6 := HQ6.out k (by omega)
        rw [HX.out, HY.out, hV] at q6
        have HQV := Lib.hid q6
        have hx := HMY.out.2 k (by have := HN.out; omega)
        have hy := HMZ.out.2 k (by have := HLL.out; omega)
        rw [HX.out] at hx
        rw [HY.out] at hy
        obtain ⟨e0, e1, e2⟩ := P12c.out.below HBk.out
        obtain ⟨g0, g1, g2⟩ := P5c.out.below HBk.out
        have hvb : -1000000000000000 ≤ V ∧ V ≤ 1000000000000000 := by omega
        have tS : (x + V != y) = false := by simp; omega
        have hw : IntKind.i64.wrap (x + V) = x + V := IntWalk.i64_in _ (by omega)
        clear q6 hV
        go_wp2_with fail
        refine (refOf_any _ Q ((k : Int) + 1) V HQ2 HQ3.out HQ4 HQV _ (HUL.out.below HBk.out)).mono ?_
        rintro _ _ ⟨rfl, rfl⟩
        go_wp2_with fail
        go_quiet (fail)
        go_wp2
        go_roundg g
        case measure => omega
        case rel => exact ⟨k + 1, by omega, by go_num, bdN HBk.out _⟩


set_option maxHeartbeats 3200000 in
set_option maxRecDepth 100000 in
theorem poolBalanced_1 (v u : Value) (bs rates : List Int) (c d tr what am : Int) (n R A : Nat) (HN : Hid (bs.length = n)) (HLR : Hid (n ≤ rates.length)) (HR : Hid (rightP bs c d = true)) (HR2 : Hid (R < n)) (HA2 : Hid (A ≤ 1000000000000000))
    (kW : (IntKind.u64.wrap what).tmod 3 = 1) (kR : (IntKind.u64.wrap tr).tmod (n : Int) = (R : Int)) (kA : (IntKind.u64.wrap am).tmod 1000000000000001 = (A : Int)) (w : World) (hv : Sl .i64 w v bs) (hu : Sl .i64 w u rates) :
    Calls Try.prog 9 #[.agg #[v, .int .i64 c, .int .i64 d], u, .int .i64 tr, .int .i64 what, .int .i64 am] w (RetB (.bool true) w) := by
  have KW := Lib.hid kW
  have KR := Lib.hid kR
  have KA := Lib.hid kA
  clear kW kR kA
  have HV := Lib.hid hv
  have HU := Lib.hid hu
  obtain ⟨ao, cap, rfl, h1, ⟨h2, hnn⟩, h3⟩ := hv
  clear h3 hnn
  obtain ⟨ao', cap', rfl, h1', ⟨h2', hnn⟩, h3⟩ := hu
  clear h3 hnn
  unfold maxLen at h2 h2'
  have hn8 := rightP_len HR.out
  rw [HN.out] at hn8 HV h1 ⊢
  obtain ⟨hn1, hn2⟩ := hn8
  obtain ⟨m, hm⟩ : ∃ m, rates.length = m := ⟨_, rfl⟩
  rw [hm] at HU h1' HLR ⊢
  have HM := Lib.hid hm
  have t1 : decide (m < n) = false := by simp; exact HLR.out
  have hnz : ((n : Int) == 0) = false := by simp; omega
  have SB : Hid (Below w.heap.size w (w.alloc (.cells #[.slice ao n cap, .int .i64 c, .int .i64 d] 25))) := bl_al (Below.refl _ _) _
  have S3 : Hid (Blk (w.alloc (.cells #[.slice ao n cap, .int .i64 c, .int .i64 d] 25)) w.heap.size 25 [.slice ao n cap, .int .i64 c, .int .i64 d]) := heap_alloc_new w _
  clear hm
  have wR : wrap64 (1 + wrap64 (R : Int)) = (R : Int) + 1 := by
    have := HR2.out
    rw [IntWalk.wrap64_in (R : Int) ⟨by omega, by omega⟩]
    rw [IntWalk.wrap64_in _ ⟨by omega, by omega⟩]
    omega
  have wA : wrap64 (A : Int) = (A : Int) := by
    have := HA2.out
    exact IntWalk.wrap64_in _ ⟨by omega, by omega⟩
  have WR0 := Lib.hid wR
  have WA0 := Lib.hid wA
  clear wR wA
  obtain ⟨K, hK⟩ : ∃ K : Int, (R : Int) + 1 = K := ⟨_, rfl⟩
  obtain ⟨B, hB⟩ : ∃ B : Int, (A : Int) = B := ⟨_, rfl⟩
  have hKb : 1 ≤ K ∧ K ≤ n := by have := HR2.out; omega
  have hBb : 0 ≤ B ∧ B ≤ 1000000000000000 := by have := HA2.out; omega
  have HKB := Lib.hid hKb
  have HBB := Lib.hid hBb
  have hbk : badK bs.length [K] = false := by rw [HN.out]; simp [badK]; omega
  obtain ⟨L, C, D, e, hs⟩ : ∃ L C D e, payS bs c d (rates.take n) B = (L, C, D, e) := ⟨_, _, _, _, rfl⟩
  have hlt : (rates.take n).length = n := by rw [List.length_take]; have := HLR.out; have := HM.out; omega
  have HOK : Hid (OkS bs c n B false (L, C, D, e)) := by have := pay_ok HN.out hlt HR.out hBb; rw [hs] at this; exact this
  have HS := Lib.hid hs
  clear hs
  have WR : Hid (wrap64 (1 + wrap64 (R : Int)) = K) := by show _ = _; rw [WR0.out, hK]
  have WA : Hid (wrap64 (A : Int) = B) := by show _ = _; rw [WA0.out, hB]
  clear WR0 WA0 hK hB hKb hBb hbk
  go_enter Try.func9, Try.ntmps9
  go_wp2_with fail
  refine (refRight11_any _ bs c d true HR _ (HV.out.below SB.out)).mono ?_
  rintro _ w1 ⟨rfl, hb1⟩
  have T3 := Lib.hid (S3.out.below hb1)
  have TB := Lib.hid (bl_tr SB.out hb1)
  have x0 := T3.out.cell 0
  have x1 := T3.out.cell 1
  have x2 := T3.out.cell 2
  simp only [List.getElem?_cons_zero, List.getElem?_cons_succ] at x0 x1 x2
  have hz := T3.out.lt
  clear hb1 SB S3
  have kW := KW.out
  have kR := KR.out
  have kA := KA.out
  go_wp2_with fail
  clear kW kR kA
  rw [WR.out, WA.out]
  obtain ⟨G, hG⟩ : ∃ G, w1.heap.size = G := ⟨_, rfl⟩
  have A12 := heap_alloc_new w1 (.cells #[.slice none 0 0, .int .i64 0, .int .i64 0] 25)
  obtain ⟨W2, hW2, A3, A12, BW⟩ : ∃ W2, w1.alloc (.cells #[.slice none 0 0, .int .i64 0, .int .i64 0] 25) = W2 ∧ Hid (Blk W2 w.heap.size 25 [.slice ao n cap, .int .i64 c, .int .i64 d]) ∧ Hid (Blk W2 w1.heap.size 25 [.slice none 0 0, .int .i64 0, .int .i64 0]) ∧ Hid (Below w.heap.size w W2) :=
    ⟨_, rfl, T3.out.below (bl_al (Below.refl _ _) _), A12, bl_al TB.out _⟩
  with_reducible rw [hW2]
  rw [hG] at hz A12 ⊢
  clear hW2 hG T3 TB x0 x1 x2
  have TB2 : Hid (w.heap.size ≤ G) := by show _ ≤ _; omega
  have HGne : Hid (w.heap.size ≠ G) := by show _ ≠ _; omega
  have HGlt : Hid (G < W2.heap.size) := A12.out.lt
  have HVW := Lib.hid (HV.out.below BW.out)
  have HUW := Lib.hid (HU.out.below BW.out)
  have hS0 : W2.cell? ⟨w.heap.size, 0, none⟩ = some (.slice ao n cap) ∧ W2.cell? ⟨w.heap.size, 1, none⟩ = some (.int .i64 c) ∧ W2.cell? ⟨w.heap.size, 2, none⟩ = some (.int .i64 d) := A3.out.pb
  have hSd : W2.drew.cell? ⟨w.heap.size, 0, none⟩ = some (.slice ao n cap) ∧ W2.drew.cell? ⟨w.heap.size, 1, none⟩ = some (.int .i64 c) ∧ W2.drew.cell? ⟨w.heap.size, 2, none⟩ = some (.int .i64 d) := A3.out.pb
  have hn0 : (0 : Int) ≤ (n : Int) := by omega
  have hnm : (n : Int) ≤ (m : Int) := by have := HLR.out; omega
  have hnc : (n : Int) ≤ (cap' : Int) := by have := HLR.out; omega
  have HFIN : Hid (∀ w3 x y z, PB w3 w.heap.size (.slice ao n cap) c d → PB (((w3.setCell ⟨G, 0, none⟩ x).setCell ⟨G, 1, none⟩ y).setCell ⟨G, 2, none⟩ z) w.heap.size (.slice ao n cap) c d) := fun w3 x y z h => PB.s3 h HGne.out _ _ _
  go_region_held3 (fun w' => w'.cell? ⟨w.heap.size, 0, none⟩ = some (.slice ao n cap) ∧ w'.cell? ⟨w.heap.size, 1, none⟩ = some (.int .i64 c) ∧ w'.cell? ⟨w.heap.size, 2, none⟩ = some (.int .i64 d)) (first | assumption | exact hS0 | exact hSd | exact HFIN.out _ _ _ _ (by assumption))
    (first | (go_at_call 18; refine (poolPayN_any _ _ bs (rates.take n) c d B _ HS (by have := HN.out; omega) _ (HVW.out.below (by first | exact Below.refl _ _ | exact bl_dr (Below.refl _ _))) ((HUW.out.below (by first | exact Below.refl _ _ | exact bl_dr (Below.refl _ _))).lo HLR.out)).mono ?_; rintro e' w3 ⟨u3, rfl, ⟨hu3, hf3⟩, hb3⟩; obtain ⟨a3, q3, rfl⟩ := hu3.shape; have HB12 : Hid (Blk w3 G 25 [.slice none 0 0, .int .i64 0, .int .i64 0]) := (by first | exact A12.out.below hb3 | exact (A12.out.below (bl_dr (Below.refl _ _))).below hb3); have HB5 : Hid (PB w3 w.heap.size (.slice ao n cap) c d) := (by first | exact A3.out.pb.below hb3 | exact (A3.out.pb.below (bl_dr (Below.refl _ _))).below hb3); have HBB3 : Hid (Below W2.heap.size W2 w3) := (by first | exact hb3 | exact bl_tr (bl_dr (Below.refl _ _)) hb3); have HU3 := Lib.hid hu3; have HF3 : Hid (∀ b o x y, (.slice a3 L.length q3 : Value) = .slice (some ⟨b, o, none⟩) x y → 0 < x → W2.heap.size ≤ b) := hf3; have z0 := HB12.out.frozen 0; have z1 := HB12.out.frozen 1; have z2 := HB12.out.frozen 2; have zl := HB12.out.lt; have zc0 := HB12.out.cell 0; have zc1 := HB12.out.cell 1; have zc2 := HB12.out.cell 2; simp only [List.getElem?_cons_zero, List.getElem?_cons_succ] at zc0 zc1 zc2; have hS3 : w3.cell? ⟨w.heap.size, 0, none⟩ = some (.slice ao n cap) ∧ w3.cell? ⟨w.heap.size, 1, none⟩ = some (.int .i64 c) ∧ w3.cell? ⟨w.heap.size, 2, none⟩ = some (.int .i64 d) := HB5.out; clear hb3 hu3 hf3))
  rename_i hHeld
  clear hHeld hS0 hSd hS3 HFIN hn0 hnm hnc
  have hb3 := HBB3.out
  have hu3 := HU3.out
  have hf3 := HF3.out
  go_wp2_with fail

  obtain ⟨W4, hW4, P5, P12, SU, BW4⟩ : ∃ W4, (((w3.setCell ⟨G, 0, none⟩ (.slice a3 L.length q3)).setCell ⟨G, 1, none⟩ (.int .i64 C)).setCell ⟨G, 2, none⟩ (.int .i64 D)) = W4 ∧ Hid (PB W4 w.heap.size (.slice ao n cap) c d) ∧ Hid (PB W4 G (.slice a3 L.length q3) C D) ∧ Hid (Sl .i64 W4 (.slice a3 L.length q3) L) ∧ Hid (Below w.heap.size w W4) :=
    ⟨_, rfl, PB.s3 (A3.out.pb.below hb3) HGne.out _ _ _, (by have h := (((A12.out.below hb3).set 0 (.slice a3 L.length q3)).set 1 (.int .i64 C)).set 2 (.int .i64 D); exact h.pb), ((hu3.setCell (fun b o x y e h => by have := hf3 b o x y e h; have := HGlt.out; omega) _).setCell (fun b o x y e h => by have := hf3 b o x y e h; have := HGlt.out; omega) _).setCell (fun b o x y e h => by have := hf3 b o x y e h; have := HGlt.out; omega) _, bl_s3 (bl_tr BW.out hb3) (by have := TB2.out; omega) _ _ _⟩
  with_reducible rw [hW4]
  clear hW4 hb3 hu3 hf3 A3 A12
  clear z0 z1 z2 zl zc0 zc1 zc2
  rcases HOK.out with he | ⟨he, hr, hlL, hdir⟩
  · simp only at he
    subst he
    go_wp2_with fail
    refine (awake11_any _).mono ?_
    rintro _ w5 ⟨rfl, hb5⟩
    go_wp2_with fail
    refine (awake11_any _).mono ?_
    rintro _ w6 ⟨rfl, hb6⟩
    go_wp2
    go_ret
    exact ⟨rfl, bl_tr (bl_tr BW4.out hb5) hb6⟩
  · simp only at he hr hlL hdir
    subst he
    obtain ⟨hf1, hf2, hf3, ⟨hf4, hf5⟩, hf6, hf7, hf8⟩ := bal_facts false HN.out hlL HR.out hr HBB.out hdir
    obtain ⟨Q, hQ⟩ : ∃ Q, balQ bs c L C = Q := ⟨_, rfl⟩
    rw [hQ] at hf1 hf2 hf3 hf4 hf5 hf6 hf7 hf8
    have HQ1 := Lib.hid hf1
    have HQ2 := Lib.hid hf2
    have HQ3 := Lib.hid hf3
    have HQ4 : Hid (sD (fun _ => true) Q ≤ 1000000000000000 ∧ sC (fun _ => true) Q ≤ 1000000000000000) := by have := HBB.out; exact ⟨by omega, by omega⟩
    have HQ5 : Hid (sD (fun _ => true) Q = sC (fun _ => true) Q) := by show _ = _; rw [hf4, hf5]
    have HQ6 := Lib.hid hf6
    have HQ7 := Lib.hid hf7
    have HQ8 := Lib.hid hf8
    have HRL := Lib.hid hr
    have HLL := Lib.hid hlL
    have HMY := Lib.hid (rightP_may HR.out)
    have HMZ := Lib.hid (rightP_may hr)
    clear hf1 hf2 hf3 hf4 hf5 hf6 hf7 hf8 hQ hr hdir
    rw [hlL] at P12 SU ⊢
    clear hlL
    go_wp2_with fail
    refine (awake11_any _).mono ?_
    rintro _ w5 ⟨rfl, hb5⟩
    obtain ⟨e0, e1, e2⟩ := P12.out.below hb5
    have P5a := Lib.hid (P5.out.below hb5)
    have P12a := Lib.hid (P12.out.below hb5)
    have SUa := Lib.hid (SU.out.below hb5)
    have BWa := Lib.hid (bl_tr BW4.out hb5)
    clear hb5 P5 P12 SU BW4
    go_wp2_with fail
    refine (refRight11_any _ L C D true HRL _ SUa.out).mono ?_
    rintro _ w6 ⟨rfl, hb6⟩
    clear e0 e1 e2
    obtain ⟨e0, e1, e2⟩ := P12a.out.below hb6
    obtain ⟨g0, g1, g2⟩ := P5a.out.below hb6
    have P5b := Lib.hid (P5a.out.below hb6)
    have P12b := Lib.hid (P12a.out.below hb6)
    have SUb := Lib.hid (SUa.out.below hb6)
    have BWb := Lib.hid (bl_tr BWa.out hb6)
    clear hb6 P5a P12a SUa BWa
    go_wp2_with fail
    refine (postings_any _ _ bs L c d C D 0 _ HQ1 (by have := HN.out; have := HLL.out; omega) _ (HV.out.below BWb.out) SUb.out).mono ?_
    rintro _ w7 ⟨ul, rfl, hul, hb7⟩
    obtain ⟨au, cu, hue⟩ : ∃ au cu, ul = .slice au (bitsP Q).length cu := by obtain ⟨a, b, h, _⟩ := hul; exact ⟨a, b, h⟩
    subst hue
    have P5c := Lib.hid (P5b.out.below hb7)
    have P12c := Lib.hid (P12b.out.below hb7)
    have SUc := Lib.hid (SUb.out.below hb7)
    have BWc := Lib.hid (bl_tr BWb.out hb7)
    have HUL := Lib.hid hul
    clear hb7 hul P5b P12b SUb BWb e0 e1 e2 g0 g1 g2
    go_wp2_with fail
    go_loopg [15] n (fun g i wr => ∃ k : Nat, k + g = n ∧ i = .int .i64 k ∧ Hid (Below w7.heap.size w7 wr))
    case atStart => exact ⟨0, by omega, rfl, Below.refl _ _⟩
    case round =>
      obtain ⟨k, hkg, rfl, HBk⟩ := hrel
      cases gk with
      | zero =>
        have hlt : ¬ ((k : Int) < (n : Int)) := by omega
        have BWd := Lib.hid (bl_tr BWc.out HBk.out)
        obtain ⟨e0, e1, e2⟩ := P12c.out.below HBk.out
        obtain ⟨g0, g1, g2⟩ := P5c.out.below HBk.out
        have hc1 := HMY.out.1
        have hc2 := HMZ.out.1
        obtain ⟨VC, hVC⟩ : ∃ x, c - C = x := ⟨_, rfl⟩
        have q7 := HQ7.out
        rw [hVC] at q7
        have HQ7' := Lib.hid q7
        obtain ⟨VO, hVO⟩ : ∃ x, B = x := ⟨_, rfl⟩
        have q8 := HQ8.out
        simp only [Bool.false_eq_true, if_false] at q8
        rw [hVO] at q8
        have HQ8' := Lib.hid q8
        have hBb := HBB.out
        have tC : (c - VC == C) = true := by simp; omega
        have tO : (VO == B) = true := by simp; omega
        have hv1 : -1000000000000000 ≤ VC ∧ VC ≤ 1000000000000000 := by omega
        have hv2 : -1000000000000000 ≤ VO ∧ VO ≤ 1000000000000000 := by omega
        clear q7 q8 hVC hVO
        go_wp2_with fail
        refine (refOf_any _ Q (-1) VC HQ2 HQ3.out HQ4 HQ7' _ (HUL.out.below HBk.out)).mono ?_
        rintro _ _ ⟨rfl, rfl⟩
        go_wp2_with fail
        refine (refOf_any _ Q 0 VO HQ2 HQ3.out HQ4 HQ8' _ (HUL.out.below HBk.out)).mono ?_
        rintro _ _ ⟨rfl, rfl⟩
        have kW := KW.out
        go_wp2_with fail
        refine (refBalanced_any _ Q HQ2 HQ3.out HQ4 HQ5 _ (HUL.out.below HBk.out)).mono ?_
        rintro _ _ ⟨rfl, rfl⟩
        clear kW
        go_wp2
        go_ret
        exact ⟨rfl, BWd.out⟩
      | succ g =>
        have hlt : (k : Int) < (n : Int) := by omega
        have SVk := Lib.hid (HV.out.below (bl_tr BWc.out HBk.out))
        have SUk := Lib.hid (SUc.out.below HBk.out)
        obtain ⟨b, o, x, rfl, hc1, HX⟩ := (SVk.out).get (i := k) (by have := HN.out; omega)
        obtain ⟨b', o', y, rfl, hc2, HY⟩ := (SUk.out).get (i := k) (by have := HLL.out; omega)
        obtain ⟨V, hV⟩ : ∃ V, y - x = V := ⟨_, rfl⟩
        have q6 := HQ6.out k (by omega)
        rw [HX.out, HY.out, hV] at q6
        have HQV := Lib.hid q6
        have hx := HMY.out.2 k (by have := HN.out; omega)
        have hy := HMZ.out.2 k (by have := HLL.out; omega)
        rw [HX.out] at hx
        rw [HY.out] at hy
        obtain ⟨e0, e1, e2⟩ := P12c.out.below HBk.out
        obtain ⟨g0, g1, g2⟩ := P5c.out.below HBk.out
        have hvb : -1000000000000000 ≤ V ∧ V ≤ 1000000000000000 := by omega
        have tS : (x + V != y) = false := by simp; omega
        have hw : IntKind.i64.wrap (x + V) = x + V := IntWalk.i64_in _ (by omega)
        clear q6 hV
        go_wp2_with fail
        refine (refOf_any _ Q ((k : Int) + 1) V HQ2 HQ3.out HQ4 HQV _ (HUL.out.below HBk.out)).mono ?_
        rintro _ _ ⟨rfl, rfl⟩
        go_wp2_with fail
        go_quiet (fail)
        go_wp2
        go_roundg g
        case measure => omega
        case rel => exact ⟨k + 1, by omega, by go_num, bdN HBk.out _⟩


set_option maxHeartbeats 3200000 in
set_option maxRecDepth 100000 in
theorem poolBalanced_2 (v u : Value) (bs rates : List Int) (c d tr what am : Int) (n R A : Nat) (HN : Hid (bs.length = n)) (HLR : Hid (n ≤ rates.length)) (HR : Hid (rightP bs c d = true)) (HR2 : Hid (R < n)) (HA2 : Hid (A ≤ 1000000000000000))
    (kW : (IntKind.u64.wrap what).tmod 3 = 2) (kR : (IntKind.u64.wrap tr).tmod (n : Int) = (R : Int)) (kA : (IntKind.u64.wrap am).tmod 1000000000000001 = (A : Int)) (w : World) (hv : Sl .i64 w v bs) (hu : Sl .i64 w u rates) :
    Calls Try.prog 9 #[.agg #[v, .int .i64 c, .int .i64 d], u, .int .i64 tr, .int .i64 what, .int .i64 am] w (RetB (.bool true) w) := by
  have KW := Lib.hid kW
  have KR := Lib.hid kR
  have KA := Lib.hid kA
  clear kW kR kA
  have HV := Lib.hid hv
  have HU := Lib.hid hu
  obtain ⟨ao, cap, rfl, h1, ⟨h2, hnn⟩, h3⟩ := hv
  clear h3 hnn
  obtain ⟨ao', cap', rfl, h1', ⟨h2', hnn⟩, h3⟩ := hu
  clear h3 hnn
  unfold maxLen at h2 h2'
  have hn8 := rightP_len HR.out
  rw [HN.out] at hn8 HV h1 ⊢
  obtain ⟨hn1, hn2⟩ := hn8
  obtain ⟨m, hm⟩ : ∃ m, rates.length = m := ⟨_, rfl⟩
  rw [hm] at HU h1' HLR ⊢
  have HM := Lib.hid hm
  have t1 : decide (m < n) = false := by simp; exact HLR.out
  have hnz : ((n : Int) == 0) = false := by simp; omega
  have SB : Hid (Below w.heap.size w (w.alloc (.cells #[.slice ao n cap, .int .i64 c, .int .i64 d] 25))) := bl_al (Below.refl _ _) _
  have S3 : Hid (Blk (w.alloc (.cells #[.slice ao n cap, .int .i64 c, .int .i64 d] 25)) w.heap.size 25 [.slice ao n cap, .int .i64 c, .int .i64 d]) := heap_alloc_new w _
  clear hm
  have wR : wrap64 (1 + wrap64 (R : Int)) = (R : Int) + 1 := by
    have := HR2.out
    rw [IntWalk.wrap64_in (R : Int) ⟨by omega, by omega⟩]
    rw [IntWalk.wrap64_in _ ⟨by omega, by omega⟩]
    omega
  have wA : wrap64 (A : Int) = (A : Int) := by
    have := HA2.out
    exact IntWalk.wrap64_in _ ⟨by omega, by omega⟩
  have WR0 := Lib.hid wR
  have WA0 := Lib.hid wA
  clear wR wA
  obtain ⟨K, hK⟩ : ∃ K : Int, (R : Int) + 1 = K := ⟨_, rfl⟩
  obtain ⟨B, hB⟩ : ∃ B : Int, (A : Int) = B := ⟨_, rfl⟩
  have hKb : 1 ≤ K ∧ K ≤ n := by have := HR2.out; omega
  have hBb : 0 ≤ B ∧ B ≤ 1000000000000000 := by have := HA2.out; omega
  have HKB := Lib.hid hKb
  have HBB := Lib.hid hBb
  have hbk : badK bs.length [K] = false := by rw [HN.out]; simp [badK]; omega
  obtain ⟨L, C, D, e, hs⟩ : ∃ L C D e, giveS bs c d (rates.take n) K B = (L, C, D, e) := ⟨_, _, _, _, rfl⟩
  have hlt : (rates.take n).length = n := by rw [List.length_take]; have := HLR.out; have := HM.out; omega
  have HOK : Hid (OkS bs c n B false (L, C, D, e)) := by have := give_ok HN.out hlt HR.out hKb hBb hbk; rw [hs] at this; exact this
  have HS := Lib.hid hs
  clear hs
  have WR : Hid (wrap64 (1 + wrap64 (R : Int)) = K) := by show _ = _; rw [WR0.out, hK]
  have WA : Hid (wrap64 (A : Int) = B) := by show _ = _; rw [WA0.out, hB]
  clear WR0 WA0 hK hB hKb hBb hbk
  go_enter Try.func9, Try.ntmps9
  go_wp2_with fail
  refine (refRight11_any _ bs c d true HR _ (HV.out.below SB.out)).mono ?_
  rintro _ w1 ⟨rfl, hb1⟩
  have T3 := Lib.hid (S3.out.below hb1)
  have TB := Lib.hid (bl_tr SB.out hb1)
  have x0 := T3.out.cell 0
  have x1 := T3.out.cell 1
  have x2 := T3.out.cell 2
  simp only [List.getElem?_cons_zero, List.getElem?_cons_succ] at x0 x1 x2
  have hz := T3.out.lt
  clear hb1 SB S3
  have kW := KW.out
  have kR := KR.out
  have kA := KA.out
  go_wp2_with fail
  clear kW kR kA
  rw [WR.out, WA.out]
  obtain ⟨G, hG⟩ : ∃ G, w1.heap.size = G := ⟨_, rfl⟩
  have A12 := heap_alloc_new w1 (.cells #[.slice none 0 0, .int .i64 0, .int .i64 0] 25)
  obtain ⟨W2, hW2, A3, A12, BW⟩ : ∃ W2, w1.alloc (.cells #[.slice none 0 0, .int .i64 0, .int .i64 0] 25) = W2 ∧ Hid (Blk W2 w.heap.size 25 [.slice ao n cap, .int .i64 c, .int .i64 d]) ∧ Hid (Blk W2 w1.heap.size 25 [.slice none 0 0, .int .i64 0, .int .i64 0]) ∧ Hid (Below w.heap.size w W2) :=
    ⟨_, rfl, T3.out.below (bl_al (Below.refl _ _) _), A12, bl_al TB.out _⟩
  with_reducible rw [hW2]
  rw [hG] at hz A12 ⊢
  clear hW2 hG T3 TB x0 x1 x2
  have TB2 : Hid (w.heap.size ≤ G) := by show _ ≤ _; omega
  have HGne : Hid (w.heap.size ≠ G) := by show _ ≠ _; omega
  have HGlt : Hid (G < W2.heap.size) := A12.out.lt
  have HVW := Lib.hid (HV.out.below BW.out)
  have HUW := Lib.hid (HU.out.below BW.out)
  have hS0 : W2.cell? ⟨w.heap.size, 0, none⟩ = some (.slice ao n cap) ∧ W2.cell? ⟨w.heap.size, 1, none⟩ = some (.int .i64 c) ∧ W2.cell? ⟨w.heap.size, 2, none⟩ = some (.int .i64 d) := A3.out.pb
  have hSd : W2.drew.cell? ⟨w.heap.size, 0, none⟩ = some (.slice ao n cap) ∧ W2.drew.cell? ⟨w.heap.size, 1, none⟩ = some (.int .i64 c) ∧ W2.drew.cell? ⟨w.heap.size, 2, none⟩ = some (.int .i64 d) := A3.out.pb
  have hn0 : (0 : Int) ≤ (n : Int) := by omega
  have hnm : (n : Int) ≤ (m : Int) := by have := HLR.out; omega
  have hnc : (n : Int) ≤ (cap' : Int) := by have := HLR.out; omega
  have HFIN : Hid (∀ w3 x y z, PB w3 w.heap.size (.slice ao n cap) c d → PB (((w3.setCell ⟨G, 0, none⟩ x).setCell ⟨G, 1, none⟩ y).setCell ⟨G, 2, none⟩ z) w.heap.size (.slice ao n cap) c d) := fun w3 x y z h => PB.s3 h HGne.out _ _ _
  go_region_held3 (fun w' => w'.cell? ⟨w.heap.size, 0, none⟩ = some (.slice ao n cap) ∧ w'.cell? ⟨w.heap.size, 1, none⟩ = some (.int .i64 c) ∧ w'.cell? ⟨w.heap.size, 2, none⟩ = some (.int .i64 d)) (first | assumption | exact hS0 | exact hSd | exact HFIN.out _ _ _ _ (by assumption))
    (first | (go_at_call 19; refine (poolGiveN_any _ _ bs (rates.take n) c d K B _ HS (by have := HN.out; omega) _ (HVW.out.below (by first | exact Below.refl _ _ | exact bl_dr (Below.refl _ _))) ((HUW.out.below (by first | exact Below.refl _ _ | exact bl_dr (Below.refl _ _))).lo HLR.out)).mono ?_; rintro e' w3 ⟨u3, rfl, ⟨hu3, hf3⟩, hb3⟩; obtain ⟨a3, q3, rfl⟩ := hu3.shape; have HB12 : Hid (Blk w3 G 25 [.slice none 0 0, .int .i64 0, .int .i64 0]) := (by first | exact A12.out.below hb3 | exact (A12.out.below (bl_dr (Below.refl _ _))).below hb3); have HB5 : Hid (PB w3 w.heap.size (.slice ao n cap) c d) := (by first | exact A3.out.pb.below hb3 | exact (A3.out.pb.below (bl_dr (Below.refl _ _))).below hb3); have HBB3 : Hid (Below W2.heap.size W2 w3) := (by first | exact hb3 | exact bl_tr (bl_dr (Below.refl _ _)) hb3); have HU3 := Lib.hid hu3; have HF3 : Hid (∀ b o x y, (.slice a3 L.length q3 : Value) = .slice (some ⟨b, o, none⟩) x y → 0 < x → W2.heap.size ≤ b) := hf3; have z0 := HB12.out.frozen 0; have z1 := HB12.out.frozen 1; have z2 := HB12.out.frozen 2; have zl := HB12.out.lt; have zc0 := HB12.out.cell 0; have zc1 := HB12.out.cell 1; have zc2 := HB12.out.cell 2; simp only [List.getElem?_cons_zero, List.getElem?_cons_succ] at zc0 zc1 zc2; have hS3 : w3.cell? ⟨w.heap.size, 0, none⟩ = some (.slice ao n cap) ∧ w3.cell? ⟨w.heap.size, 1, none⟩ = some (.int .i64 c) ∧ w3.cell? ⟨w.heap.size, 2, none⟩ = some (.int .i64 d) := HB5.out; clear hb3 hu3 hf3))
  rename_i hHeld
  clear hHeld hS0 hSd hS3 HFIN hn0 hnm hnc
  have hb3 := HBB3.out
  have hu3 := HU3.out
  have hf3 := HF3.out
  go_wp2_with fail

  obtain ⟨W4, hW4, P5, P12, SU, BW4⟩ : ∃ W4, (((w3.setCell ⟨G, 0, none⟩ (.slice a3 L.length q3)).setCell ⟨G, 1, none⟩ (.int .i64 C)).setCell ⟨G, 2, none⟩ (.int .i64 D)) = W4 ∧ Hid (PB W4 w.heap.size (.slice ao n cap) c d) ∧ Hid (PB W4 G (.slice a3 L.length q3) C D) ∧ Hid (Sl .i64 W4 (.slice a3 L.length q3) L) ∧ Hid (Below w.heap.size w W4) :=
    ⟨_, rfl, PB.s3 (A3.out.pb.below hb3) HGne.out _ _ _, (by have h := (((A12.out.below hb3).set 0 (.slice a3 L.length q3)).set 1 (.int .i64 C)).set 2 (.int .i64 D); exact h.pb), ((hu3.setCell (fun b o x y e h => by have := hf3 b o x y e h; have := HGlt.out; omega) _).setCell (fun b o x y e h => by have := hf3 b o x y e h; have := HGlt.out; omega) _).setCell (fun b o x y e h => by have := hf3 b o x y e h; have := HGlt.out; omega) _, bl_s3 (bl_tr BW.out hb3) (by have := TB2.out; omega) _ _ _⟩
  with_reducible rw [hW4]
  clear hW4 hb3 hu3 hf3 A3 A12
  clear z0 z1 z2 zl zc0 zc1 zc2
  rcases HOK.out with he | ⟨he, hr, hlL, hdir⟩
  · simp only at he
    subst he
    go_wp2_with fail
    refine (awake11_any _).mono ?_
    rintro _ w5 ⟨rfl, hb5⟩
    go_wp2_with fail
    refine (awake11_any _).mono ?_
    rintro _ w6 ⟨rfl, hb6⟩
    go_wp2
    go_ret
    exact ⟨rfl, bl_tr (bl_tr BW4.out hb5) hb6⟩
  · simp only at he hr hlL hdir
    subst he
    obtain ⟨hf1, hf2, hf3, ⟨hf4, hf5⟩, hf6, hf7, hf8⟩ := bal_facts false HN.out hlL HR.out hr HBB.out hdir
    obtain ⟨Q, hQ⟩ : ∃ Q, balQ bs c L C = Q := ⟨_, rfl⟩
    rw [hQ] at hf1 hf2 hf3 hf4 hf5 hf6 hf7 hf8
    have HQ1 := Lib.hid hf1
    have HQ2 := Lib.hid hf2
    have HQ3 := Lib.hid hf3
    have HQ4 : Hid (sD (fun _ => true) Q ≤ 1000000000000000 ∧ sC (fun _ => true) Q ≤ 1000000000000000) := by have := HBB.out; exact ⟨by omega, by omega⟩
    have HQ5 : Hid (sD (fun _ => true) Q = sC (fun _ => true) Q) := by show _ = _; rw [hf4, hf5]
    have HQ6 := Lib.hid hf6
    have HQ7 := Lib.hid hf7
    have HQ8 := Lib.hid hf8
    have HRL := Lib.hid hr
    have HLL := Lib.hid hlL
    have HMY := Lib.hid (rightP_may HR.out)
    have HMZ := Lib.hid (rightP_may hr)
    clear hf1 hf2 hf3 hf4 hf5 hf6 hf7 hf8 hQ hr hdir
    rw [hlL] at P12 SU ⊢
    clear hlL
    go_wp2_with fail
    refine (awake11_any _).mono ?_
    rintro _ w5 ⟨rfl, hb5⟩
    obtain ⟨e0, e1, e2⟩ := P12.out.below hb5
    have P5a := Lib.hid (P5.out.below hb5)
    have P12a := Lib.hid (P12.out.below hb5)
    have SUa := Lib.hid (SU.out.below hb5)
    have BWa := Lib.hid (bl_tr BW4.out hb5)
    clear hb5 P5 P12 SU BW4
    go_wp2_with fail
    refine (refRight11_any _ L C D true HRL _ SUa.out).mono ?_
    rintro _ w6 ⟨rfl, hb6⟩
    clear e0 e1 e2
    obtain ⟨e0, e1, e2⟩ := P12a.out.below hb6
    obtain ⟨g0, g1, g2⟩ := P5a.out.below hb6
    have P5b := Lib.hid (P5a.out.below hb6)
    have P12b := Lib.hid (P12a.out.below hb6)
    have SUb := Lib.hid (SUa.out.below hb6)
    have BWb := Lib.hid (bl_tr BWa.out hb6)
    clear hb6 P5a P12a SUa BWa
    go_wp2_with fail
    refine (postings_any _ _ bs L c d C D 0 _ HQ1 (by have := HN.out; have := HLL.out; omega) _ (HV.out.below BWb.out) SUb.out).mono ?_
    rintro _ w7 ⟨ul, rfl, hul, hb7⟩
    obtain ⟨au, cu, hue⟩ : ∃ au cu, ul = .slice au (bitsP Q).length cu := by obtain ⟨a, b, h, _⟩ := hul; exact ⟨a, b, h⟩
    subst hue
    have P5c := Lib.hid (P5b.out.below hb7)
    have P12c := Lib.hid (P12b.out.below hb7)
    have SUc := Lib.hid (SUb.out.below hb7)
    have BWc := Lib.hid (bl_tr BWb.out hb7)
    have HUL := Lib.hid hul
    clear hb7 hul P5b P12b SUb BWb e0 e1 e2 g0 g1 g2
    go_wp2_with fail
    go_loopg [15] n (fun g i wr => ∃ k : Nat, k + g = n ∧ i = .int .i64 k ∧ Hid (Below w7.heap.size w7 wr))
    case atStart => exact ⟨0, by omega, rfl, Below.refl _ _⟩
    case round =>
      obtain ⟨k, hkg, rfl, HBk⟩ := hrel
      cases gk with
      | zero =>
        have hlt : ¬ ((k : Int) < (n : Int)) := by omega
        have BWd := Lib.hid (bl_tr BWc.out HBk.out)
        obtain ⟨e0, e1, e2⟩ := P12c.out.below HBk.out
        obtain ⟨g0, g1, g2⟩ := P5c.out.below HBk.out
        have hc1 := HMY.out.1
        have hc2 := HMZ.out.1
        obtain ⟨VC, hVC⟩ : ∃ x, c - C = x := ⟨_, rfl⟩
        have q7 := HQ7.out
        rw [hVC] at q7
        have HQ7' := Lib.hid q7
        obtain ⟨VO, hVO⟩ : ∃ x, B = x := ⟨_, rfl⟩
        have q8 := HQ8.out
        simp only [Bool.false_eq_true, if_false] at q8
        rw [hVO] at q8
        have HQ8' := Lib.hid q8
        have hBb := HBB.out
        have tC : (c - VC == C) = true := by simp; omega
        have tO : (VO == B) = true := by simp; omega
        have hv1 : -1000000000000000 ≤ VC ∧ VC ≤ 1000000000000000 := by omega
        have hv2 : -1000000000000000 ≤ VO ∧ VO ≤ 1000000000000000 := by omega
        clear q7 q8 hVC hVO
        go_wp2_with fail
        refine (refOf_any _ Q (-1) VC HQ2 HQ3.out HQ4 HQ7' _ (HUL.out.below HBk.out)).mono ?_
        rintro _ _ ⟨rfl, rfl⟩
        go_wp2_with fail
        refine (refOf_any _ Q 0 VO HQ2 HQ3.out HQ4 HQ8' _ (HUL.out.below HBk.out)).mono ?_
        rintro _ _ ⟨rfl, rfl⟩
        have kW := KW.out
        go_wp2_with fail
        refine (refBalanced_any _ Q HQ2 HQ3.out HQ4 HQ5 _ (HUL.out.below HBk.out)).mono ?_
        rintro _ _ ⟨rfl, rfl⟩
        clear kW
        go_wp2
        go_ret
        exact ⟨rfl, BWd.out⟩
      | succ g =>
        have hlt : (k : Int) < (n : Int) := by omega
        have SVk := Lib.hid (HV.out.below (bl_tr BWc.out HBk.out))
        have SUk := Lib.hid (SUc.out.below HBk.out)
        obtain ⟨b, o, x, rfl, hc1, HX⟩ := (SVk.out).get (i := k) (by have := HN.out; omega)
        obtain ⟨b', o', y, rfl, hc2, HY⟩ := (SUk.out).get (i := k) (by have := HLL.out; omega)
        obtain ⟨V, hV⟩ : ∃ V, y - x = V := ⟨_, rfl⟩
        have q6 := HQ6.out k (by omega)
        rw [HX.out, HY.out, hV] at q6
        have HQV := Lib.hid q6
        have hx := HMY.out.2 k (by have := HN.out; omega)
        have hy := HMZ.out.2 k (by have := HLL.out; omega)
        rw [HX.out] at hx
        rw [HY.out] at hy
        obtain ⟨e0, e1, e2⟩ := P12c.out.below HBk.out
        obtain ⟨g0, g1, g2⟩ := P5c.out.below HBk.out
        have hvb : -1000000000000000 ≤ V ∧ V ≤ 1000000000000000 := by omega
        have tS : (x + V != y) = false := by simp; omega
        have hw : IntKind.i64.wrap (x + V) = x + V := IntWalk.i64_in _ (by omega)
        clear q6 hV
        go_wp2_with fail
        refine (refOf_any _ Q ((k : Int) + 1) V HQ2 HQ3.out HQ4 HQV _ (HUL.out.below HBk.out)).mono ?_
        rintro _ _ ⟨rfl, rfl⟩
        go_wp2_with fail
        go_quiet (fail)
        go_wp2
        go_roundg g
        case measure => omega
        case rel => exact ⟨k + 1, by omega, by go_num, bdN HBk.out _⟩


set_option maxHeartbeats 1600000 in
set_option maxRecDepth 100000 in
theorem poolBalanced_no (v u : Value) (bs rates : List Int) (c d tr what am : Int) (r : Bool) (HR : Hid (rightP bs c d = r)) (HNO : Hid (r = true → rates.length < bs.length)) (w : World) (hv : Sl .i64 w v bs) (hu : Sl .i64 w u rates) :
    Calls Try.prog 9 #[.agg #[v, .int .i64 c, .int .i64 d], u, .int .i64 tr, .int .i64 what, .int .i64 am] w (RetB (.bool true) w) := by
  have HV := Lib.hid hv
  obtain ⟨ao, cap, rfl, h1, ⟨h2, hnn⟩, h3⟩ := hv
  clear h3 hnn
  obtain ⟨ao', cap', rfl, h1', ⟨h2', hnn⟩, h3⟩ := hu
  clear h3 hnn
  unfold maxLen at h2 h2'
  have SB : Hid (Below w.heap.size w (w.alloc (.cells #[.slice ao bs.length cap, .int .i64 c, .int .i64 d] 25))) := bl_al (Below.refl _ _) _
  have S3 : Hid (Blk (w.alloc (.cells #[.slice ao bs.length cap, .int .i64 c, .int .i64 d] 25)) w.heap.size 25 [.slice ao bs.length cap, .int .i64 c, .int .i64 d]) := heap_alloc_new w _
  cases r with
  | false =>
    go_enter Try.func9, Try.ntmps9
    go_wp2_with fail
    refine (refRight11_any _ bs c d false HR _ (HV.out.below SB.out)).mono ?_
    rintro _ w1 ⟨rfl, hb1⟩
    have TB := Lib.hid (bl_tr SB.out hb1)
    clear hb1 S3
    go_wp2_with fail
    refine (awake11_any _).mono ?_
    rintro _ w2 ⟨rfl, hb2⟩
    go_wp2
    go_ret
    exact ⟨rfl, bl_tr TB.out hb2⟩
  | true =>
    have t1 : decide (rates.length < bs.length) = true := by simp; exact HNO.out rfl
    go_enter Try.func9, Try.ntmps9
    go_wp2_with fail
    refine (refRight11_any _ bs c d true HR _ (HV.out.below SB.out)).mono ?_
    rintro _ w1 ⟨rfl, hb1⟩
    have x0 := (S3.out.below hb1).cell 0
    simp only [List.getElem?_cons_zero] at x0
    have TB := Lib.hid (bl_tr SB.out hb1)
    clear hb1 S3
    go_wp2_with fail
    refine (awake11_any _).mono ?_
    rintro _ w2 ⟨rfl, hb2⟩
    go_wp2
    go_ret
    exact ⟨rfl, bl_tr TB.out hb2⟩
theorem poolBalanced_any (v u : Value) (bs rates : List Int) (c d tr what am : Int) (w : World) (hv : Sl .i64 w v bs) (hu : Sl .i64 w u rates) :
    Calls Try.prog 9 #[.agg #[v, .int .i64 c, .int .i64 d], u, .int .i64 tr, .int .i64 what, .int .i64 am] w (RetB (.bool true) w) := by
  cases hr : rightP bs c d with
  | false => exact poolBalanced_no v u bs rates c d tr what am false hr (fun h => by cases h) w hv hu
  | true =>
    by_cases hl : rates.length < bs.length
    · exact poolBalanced_no v u bs rates c d tr what am true hr (fun _ => hl) w hv hu
    · have hn := rightP_len hr
      obtain ⟨R, r2, r4⟩ := u64_remN tr (bs.length : Int) (by omega)
      obtain ⟨A, a2, a4⟩ := u64_remN am 1000000000000001 (by omega)
      obtain ⟨T, t2, t4⟩ := u64_remN what 3 (by omega)
      have hR : R < bs.length := by clear r2 a2 t2; omega
      have hA : A ≤ 1000000000000000 := by clear r2 a2 t2; omega
      have hT : T = 0 ∨ T = 1 ∨ T = 2 := by clear r2 a2 t2; omega
      rcases hT with rfl | rfl | rfl
      · exact poolBalanced_0 v u bs rates c d tr what am bs.length R A rfl (Nat.le_of_not_lt hl) hr hR hA t2 r2 a2 w hv hu
      · exact poolBalanced_1 v u bs rates c d tr what am bs.length R A rfl (Nat.le_of_not_lt hl) hr hR hA t2 r2 a2 w hv hu
      · exact poolBalanced_2 v u bs rates c d tr what am bs.length R A rfl (Nat.le_of_not_lt hl) hr hR hA t2 r2 a2 w hv hu
end Go.Proofs.Ytbiiejolemcifaa

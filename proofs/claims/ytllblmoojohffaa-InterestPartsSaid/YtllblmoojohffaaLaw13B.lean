/- InterestParts. -/
import Derived.Test.YtllblmoojohffaaSmall
import Derived.Deep.CutBlock
import Derived.Deep.RegionHeld3
namespace Go.Proofs.Ytllblmoojohffaa
open Go.RowKit EvM

set_option maxRecDepth 100000 in
set_option maxHeartbeats 3200000 in
theorem interestParts_any (v u : Value) (bs rs : List Int) (at' : Int) (w : World) (hv : Sl .i64 w v bs) (hu : Sl .i64 w u rs) :
    Calls Try.prog 4 #[v, u, .int .i64 at'] w (RetB (.bool true) w) := by
  have HV := Lib.hid hv
  have HU := Lib.hid hu
  obtain ⟨ao, cap, rfl, h1, ⟨h2, _⟩, h3⟩ := hv
  obtain ⟨ao', cap', rfl, h1', ⟨h2', _⟩, h3'⟩ := hu
  clear h3 h3'
  unfold maxLen at h2 h2'
  obtain ⟨i0, hi, hz0, hz1, hz2⟩ := info_parts info_two
  obtain ⟨n, hN⟩ : ∃ n : Nat, Hid (n = min (min bs.length rs.length) 80) := ⟨_, Lib.hid rfl⟩
  have hn1 : n ≤ bs.length := by have := hN.out; omega
  have hn2 : n ≤ rs.length := by have := hN.out; omega
  have hn8 : n ≤ 80 := by have := hN.out; omega
  go_enter Try.func4, Try.ntmps4
  go_upto_block 0 with fail
  have hc : (if (80 : Int) < (if rs.length < bs.length then (rs.length : Int) else (bs.length : Int)) then (80 : Int) else if rs.length < bs.length then (rs.length : Int) else (bs.length : Int)) = (n : Int) := by
    rw [hN.out]
    repeat (first | omega | split)
  rw [hc]
  clear hc
  go_wp2_with fail
  go_loopg [8, 9, 10, 11] n (fun g s t z i wr => ∃ k : Nat, k + g = n ∧ i = .int .i64 k ∧ Three w wr s t z (small 1073741824 bs k) (small 1048576 rs k) (List.replicate k 0))
  case atStart => exact ⟨0, by omega, rfl, ⟨World.ownsRow_nil _ _ _ _, World.ownsRow_nil _ _ _ _, World.ownsRow_nil _ _ _ _⟩, ⟨.inl rfl, .inl rfl, .inl rfl⟩, Below.refl _ _⟩
  case round =>
    obtain ⟨k, hkg, rfl, hT⟩ := hrel
    cases gk with
    | zero =>
      have hlt : ¬ ((k : Int) < (n : Int)) := by omega
      obtain rfl : k = n := by omega
      obtain ⟨⟨hA, hB, hC⟩, _, hb⟩ := hT
      have hBl := small_length (m := 1073741824) hn1
      have hRl := small_length (m := 1048576) hn2
      have hZl : (List.replicate k (0 : Int)).length = k := List.length_replicate
      have rB := small_rangeN (m := 1073741824) (xs := bs) (n := k) (by omega) (by omega)
      have rR := small_rangeN (m := 1048576) (xs := rs) (n := k) (by omega) (by omega)
      have rB' : ∀ x ∈ small 1073741824 bs k, 0 ≤ x ∧ x < (1073741824 : Nat) := rB
      have rR' : ∀ x ∈ small 1048576 rs k, 0 ≤ x ∧ x < (1048576 : Nat) := rR
      clear rB rR
      generalize small 1073741824 bs k = B at *
      generalize small 1048576 rs k = R at *
      obtain ⟨q, kq, wq, hq⟩ := u64_rem3 at' (k + 1) (by omega) (by omega)
      have hqk : q ≤ k := Nat.le_of_lt_succ hq
      have WQ := Lib.hid wq
      have KQ := Lib.hid kq
      clear wq kq hq
      obtain ⟨l1, l2, l3, f1, f2, f3, f4, f5, f6, f7⟩ := parts_facts (k := q) hBl hRl hn8 hqk rB' rR'
      have F1 := Lib.hid f1
      have F2 := Lib.hid f2
      have F3 := Lib.hid f3
      have F4 := Lib.hid f4
      have F5 := Lib.hid f5
      have F6 := Lib.hid f6
      have F7 := Lib.hid f7
      have hSB := Lib.hid (Sl.of_own (k := .i64) hA rfl)
      have hSR := Lib.hid (Sl.of_own (k := .i64) hB rfl)
      have hSZ := Lib.hid (Sl.of_own (k := .i64) hC rfl)
      have HB0 := Lib.hid hb
      obtain ⟨aB, cB, rfl, mB, ⟨nB, _⟩, _⟩ := hSB.out
      obtain ⟨aR, cR, rfl, mR, ⟨nR, _⟩, _⟩ := hSR.out
      rw [hBl] at mB hSB
      rw [hRl] at mR hSR
      have kq' : (IntKind.u64.wrap at').tmod ((k : Int) + 1) = (q : Int) := KQ.out
      have wk : IntKind.u64.wrap ((k : Int) + 1) = (k : Int) + 1 := by rw [IntKind.wrap_u64]; omega
      clear hA hB hC hb HV HU hz0 hz1 hz2 hi h1 h2 h1' h2' f1 f2 f3 f4 f5 f6 f7 rB' rR' hZl hN hn1 hn2
      go_wp2_with fail
      have hqB : q ≤ cB := Nat.le_trans hqk mB
      have hqR : q ≤ cR := Nat.le_trans hqk mR
      have hq0 : (0 : Int) ≤ q := Int.natCast_nonneg q
      clear kq' wk
      go_region_held3 (fun _ => True) (trivial)
        ((go_at_call 16; refine (interExact_any _ _ _ _ 0 l1 0 F1 _ ((hSB.out.lo hqk).below (by repeat (first | with_reducible exact Below.refl _ _ | (with_reducible refine bl_sc ?_ ?hge; case hge => (first | exact Nat.le_refl _ | omega)) | with_reducible refine bl_al ?_ _ | with_reducible refine bl_dr ?_ | with_reducible refine bl_dN ?_ _ | (refine bl_tr ?_ (by assumption)) | (refine bl_gr ?_ (by assumption) (by first | exact Nat.le_refl _ | omega)) | exact Below.refl _ _ | refine bl_al ?_ _ | refine bl_dr ?_ | refine bl_dN ?_ _))) ((hSR.out.lo hqk).below (by repeat (first | with_reducible exact Below.refl _ _ | (with_reducible refine bl_sc ?_ ?hge; case hge => (first | exact Nat.le_refl _ | omega)) | with_reducible refine bl_al ?_ _ | with_reducible refine bl_dr ?_ | with_reducible refine bl_dN ?_ _ | (refine bl_tr ?_ (by assumption)) | (refine bl_gr ?_ (by assumption) (by first | exact Nat.le_refl _ | omega)) | exact Below.refl _ _ | refine bl_al ?_ _ | refine bl_dr ?_ | refine bl_dN ?_ _)))).mono ?_; rintro _ w1 ⟨rfl, hb1⟩))
      have HB1 := Lib.hid (show Below w.heap.size w w1 from bl_tr (bl_dr HB0.out) hb1)
      have HSB1 := Lib.hid (hSB.out.below (show Below wr.heap.size wr w1 from bl_tr (bl_dr (Below.refl _ _)) hb1))
      have HSR1 := Lib.hid (hSR.out.below (show Below wr.heap.size wr w1 from bl_tr (bl_dr (Below.refl _ _)) hb1))
      have HSZ1 := Lib.hid (hSZ.out.below (show Below wr.heap.size wr w1 from bl_tr (bl_dr (Below.refl _ _)) hb1))
      clear hb1 hSB hSR hSZ HB0
      obtain ⟨aX, hX⟩ : ∃ aX, (if cB = q then aB else Option.map (fun x => x.add q) aB) = aX := ⟨_, rfl⟩
      obtain ⟨aY, hY⟩ : ∃ aY, (if cR = q then aR else Option.map (fun x => x.add q) aR) = aY := ⟨_, rfl⟩
      have HSX := Lib.hid (HSB1.out.hi hqk)
      have HSY := Lib.hid (HSR1.out.hi hqk)
      rw [hX] at HSX
      rw [hY] at HSY
      go_wp2_with fail
      go_region_held3 (fun _ => True) (trivial)
        ((go_at_call 16; refine (interExact_any _ _ _ _ 0 l2 0 F2 _ (HSX.out.below (by repeat (first | with_reducible exact Below.refl _ _ | (with_reducible refine bl_sc ?_ ?hge; case hge => (first | exact Nat.le_refl _ | omega)) | with_reducible refine bl_al ?_ _ | with_reducible refine bl_dr ?_ | with_reducible refine bl_dN ?_ _ | (refine bl_tr ?_ (by assumption)) | (refine bl_gr ?_ (by assumption) (by first | exact Nat.le_refl _ | omega)) | exact Below.refl _ _ | refine bl_al ?_ _ | refine bl_dr ?_ | refine bl_dN ?_ _))) (HSY.out.below (by repeat (first | with_reducible exact Below.refl _ _ | (with_reducible refine bl_sc ?_ ?hge; case hge => (first | exact Nat.le_refl _ | omega)) | with_reducible refine bl_al ?_ _ | with_reducible refine bl_dr ?_ | with_reducible refine bl_dN ?_ _ | (refine bl_tr ?_ (by assumption)) | (refine bl_gr ?_ (by assumption) (by first | exact Nat.le_refl _ | omega)) | exact Below.refl _ _ | refine bl_al ?_ _ | refine bl_dr ?_ | refine bl_dN ?_ _)))).mono ?_; rintro _ w2 ⟨rfl, hb2⟩))
      have hb12 : Below w1.heap.size w1 w2 := bl_tr (bl_dr (Below.refl _ _)) hb2
      have HB2 := Lib.hid (bl_tr HB1.out hb12)
      have HSB2 := Lib.hid (HSB1.out.below hb12)
      have HSR2 := Lib.hid (HSR1.out.below hb12)
      have HSZ2 := Lib.hid (HSZ1.out.below hb12)
      have HL := Lib.hid (show IntKind.u64.wrap ((l1 : Int) + l2) = (l3 : Int) by have := F6.out; have := F7.out; rw [IntKind.wrap_u64]; omega)
      clear hb2 hb12 HB1 HSB1 HSR1 HSZ1 HSX HSY hX hY
      go_wp2_with fail
      refine (interExact_any _ _ _ _ 0 l3 0 F3 _ HSB2.out HSR2.out).mono ?_
      rintro _ w3 ⟨rfl, hb3⟩
      have HB3 := Lib.hid (bl_tr HB2.out hb3)
      have HSB3 := Lib.hid (HSB2.out.below hb3)
      have HSR3 := Lib.hid (HSR2.out.below hb3)
      have HSZ3 := Lib.hid (HSZ2.out.below hb3)
      clear hb3 HB2 HSB2 HSR2 HSZ2
      go_wp2_with fail
      refine (interOf_any _ _ _ _ 0 0 F4 _ HSB3.out HSZ3.out).mono ?_
      rintro _ w4 ⟨rfl, hb4⟩
      have HB4 := Lib.hid (bl_tr HB3.out hb4)
      have HSR4 := Lib.hid (HSR3.out.below hb4)
      have HSZ4 := Lib.hid (HSZ3.out.below hb4)
      clear hb4 HB3 HSB3 HSR3 HSZ3
      go_wp2_with fail
      refine (interOf_any _ _ _ _ 0 0 F5 _ HSZ4.out HSR4.out).mono ?_
      rintro _ w5 ⟨rfl, hb5⟩
      have HB5 := Lib.hid (bl_tr HB4.out hb5)
      clear hb5 HB4 HSR4 HSZ4
      go_wp2_with fail
      refine (awake13_any _).mono ?_
      rintro _ w6 ⟨rfl, hb6⟩
      have hL := HL.out
      go_wp2
      go_ret
      exact ⟨rfl, bl_tr HB5.out hb6⟩
    | succ g =>
      have hlt : (k : Int) < (n : Int) := by omega
      have hkb : k < bs.length := by omega
      have hkr : k < rs.length := by omega
      have hlb := small_length (m := 1073741824) (xs := bs) (n := k) (by omega)
      have hlr := small_length (m := 1048576) (xs := rs) (n := k) (by omega)
      obtain ⟨⟨hA, hB, hC⟩, ⟨hab, hac, hbc⟩, hb⟩ := hT
      rw [hlb] at hA
      rw [hlr] at hB
      rw [List.length_replicate] at hC
      obtain ⟨b0, o0, x, rfl, hcx, hx⟩ := (HV.out.below hb).get (i := k) hkb
      obtain ⟨b1, o1, y, rfl, hcw, hy⟩ := HU.out.get (i := k) hkr
      have hbs := hb.size
      have hcK : Hid (∀ W, Below w.heap.size w W → W.cell? ⟨b1, o1 + k, none⟩ = some (.int .i64 y)) := Lib.hid fun W h => (h.cell (p := ⟨b1, o1 + k, none⟩) (cell_block_lt hcw)).trans hcw
      have HAB := Lib.hid (And.intro hab (And.intro hac hbc))
      clear hcw hab hac hbc hlb hlr
      have hkc : k < cap ∧ k < cap' := by omega
      go_wp2_with (first
        | (at_builtin; refine wpList_append_where _ rfl (.tmp 36) (.tmp 44) 22 rfl w.heap.size 2 i0 (.int .i64 0) 1 8 Try.underlying22 hi hz0 hz1 hz2 rfl (by decide) _ _ _ rfl (hA.alloc _) ⟨wr.heap.size, 0, none⟩ 1 1 [_] rfl rfl (cell_one_new _ _ _) (fun x hx => by simp at hx; subst hx; rfl) (by unfold maxLen; omega) (by omega) (by simp; omega) ?_; intro v1 w1 hown1 hg1 hbk1; have hB1 := (hB.alloc _).kept hg1 (apart_or HAB.out.1); have hC1 := (hC.alloc _).kept hg1 (apart_or HAB.out.2.1); have hz1' := hg1.size; simp only [World.size_alloc] at hz1'; have hb1 := (hb.alloc hbs (.cells #[.int .i64 (wrap64 ((IntKind.u64.wrap x).tmod 1073741824))] 2)).grown hg1 (by rw [World.size_alloc]; omega) (fun k hk => (hA.lt k hk).1); have hcy := hcK.out _ hb1; have HBK1 := Lib.hid hbk1; have HG1 := Lib.hid hg1; clear hbk1 hg1)
        | (at_builtin; refine wpList_append_where _ rfl (.tmp 46) (.tmp 54) 22 rfl w.heap.size 2 i0 (.int .i64 0) 1 8 Try.underlying22 hi hz0 hz1 hz2 rfl (by decide) _ _ _ rfl (hB1.alloc _) ⟨w1.heap.size, 0, none⟩ 1 1 [_] rfl rfl (cell_one_new _ _ _) (fun x hx => by simp at hx; subst hx; rfl) (by unfold maxLen; omega) (by omega) (by rw [World.size_alloc]; omega) ?_; intro v2 w2 hown2 hg2 hbk2; have hC2 := (hC1.alloc _).kept hg2 (apart_or HAB.out.2.2); have hz2' := hg2.size; simp only [World.size_alloc] at hz2'; have HBK2 := Lib.hid hbk2; have HG2 := Lib.hid hg2; clear hbk2 hg2)
        | (at_builtin; refine wpList_append_where _ rfl (.tmp 56) (.tmp 57) 22 rfl w.heap.size 2 i0 (.int .i64 0) 1 8 Try.underlying22 hi hz0 hz1 hz2 rfl (by decide) _ _ _ rfl (hC2.alloc _) ⟨w2.heap.size, 0, none⟩ 1 1 [_] rfl rfl (cell_one_new _ _ _) (fun x hx => by simp at hx; subst hx; rfl) (by unfold maxLen; omega) (by omega) (by rw [World.size_alloc]; omega) ?_; intro v3 w3 hown3 hg3 hbk3))
      obtain ⟨hab, hac, hbc⟩ := HAB.out
      have hbk1 := HBK1.out
      have hbk2 := HBK2.out
      have hb2 : Below w.heap.size w w2 := (hb1.alloc (by omega) _).grown HG2.out (by rw [World.size_alloc]; omega) (fun k hk => (hB1.lt k hk).1)
      have hb3 : Below w.heap.size w w3 := (hb2.alloc (by omega) _).grown hg3 (by rw [World.size_alloc]; omega) (fun k hk => (hC2.lt k hk).1)
      have hA2 := (hown1.alloc (.cells #[.int .i64 (wrap64 ((IntKind.u64.wrap y).tmod 1048576))] 2)).kept HG2.out (apart_one hab hbk1 (fun k hk => by have := (hB.lt k hk).2; rw [World.size_alloc]; omega))
      have hA3 := (hA2.alloc (.cells #[.int .i64 0] 2)).kept hg3 (apart_one hac hbk1 (fun k hk => by have := (hC.lt k hk).2; rw [World.size_alloc]; omega))
      have hB3 := (hown2.alloc (.cells #[.int .i64 0] 2)).kept hg3 (apart_one hbc hbk2 (fun k hk => by have := (hC1.lt k hk).2; rw [World.size_alloc]; omega))
      have p1 := apart_two (s := wr.heap.size) hab hbk1 hbk2 (fun k hk => by have := (hA.lt k hk).2; omega) (fun k hk => by have := (hB.lt k hk).2; omega) (by rw [World.size_alloc]; omega) (by simp only [World.size_alloc]; omega)
      have p2 := apart_two (s := wr.heap.size) hac hbk1 hbk3 (fun k hk => by have := (hA.lt k hk).2; omega) (fun k hk => by have := (hC.lt k hk).2; omega) (by rw [World.size_alloc]; omega) (by simp only [World.size_alloc]; omega)
      have p3 := apart_two (s := w1.heap.size) hbc hbk2 hbk3 (fun k hk => by have := (hB1.lt k hk).2; omega) (fun k hk => by have := (hC1.lt k hk).2; omega) (by rw [World.size_alloc]; omega) (by simp only [World.size_alloc]; omega)
      have HT : Hid (Three w w3 v1 v2 v3 (small 1073741824 bs (k + 1)) (small 1048576 rs (k + 1)) (List.replicate (k + 1) 0)) := by
        rw [small_succ hkb, small_succ hkr, hx.out, hy.out, List.replicate_succ']
        have lA := small_length (m := 1073741824) (xs := bs) (n := k) (by omega)
        have lB := small_length (m := 1048576) (xs := rs) (n := k) (by omega)
        exact Lib.hid ⟨⟨by simpa [lA] using hA3, by simpa [lB] using hB3, by simpa using hown3⟩, ⟨p1, p2, p3⟩, hb3⟩
      clear hA2 hA3 hB3 p1 p2 p3 hb2 hb3 hown1 hown2 hown3 hg3 hbk1 hbk2 hbk3 hA hB hC hB1 hC1 hC2 hb hb1 hab hac hbc
      go_roundg g
      case measure => omega
      case rel => exact ⟨k + 1, by omega, by go_num, HT.out⟩
end Go.Proofs.Ytllblmoojohffaa

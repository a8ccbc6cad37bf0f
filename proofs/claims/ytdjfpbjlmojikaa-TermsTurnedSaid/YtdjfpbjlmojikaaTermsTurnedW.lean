/- TermsTurned: with a byte turned, or more behind, terms are taken as the document takes them. -/
import Derived.Test.YtdjfpbjlmojikaaTermsBackW
import Derived.Test.YtdjfpbjlmojikaaRefPack6O
import Derived.BigRegion
namespace Go.Proofs.Ytdjfpbjlmojikaa
open Go.RowKit
attribute [local go_sem ↓] Go.wp_at_zero Go.wp_at_succ

theorem xor_u8 (x y : Int) : 0 ≤ bits .xor .u8 x y ∧ bits .xor .u8 x y < 256 := by
  have h : bits .xor .u8 x y = IntKind.u8.wrap ((BitVec.ofInt 8 x ^^^ BitVec.ofInt 8 y).toNat : Int) := rfl
  rw [h, u8_wrap]
  omega
theorem Byts.set {l : List Int} (h : Byts l) (i : Nat) {x : Int} (hx : 0 ≤ x ∧ x < 256) : Byts (l.set i x) := fun y hy => by
  rcases List.mem_or_eq_of_mem_set hy with h' | rfl
  · exact h y h'
  · exact hx
/-- A length that no terms have. -/
theorem takeE_len {xs : List Int} {n : Nat} (h : xs.length = 56 + 9 * n + 1) : takeE xs ≠ 0 := fun he => by
  obtain ⟨_, _, _, h4, _⟩ := takeE_ok he
  omega

set_option maxRecDepth 100000 in
set_option maxHeartbeats 1600000 in
theorem termsTurned_no (v : Value) (ts : List (Int × Bool)) (lim cyc dued minf minp start : Int) (at_ by_ : Int) (more : Bool) (hby : 0 ≤ by_ ∧ by_ < 256) (hlt : ts.length ≤ 20) (w : World) (hv : TrS w v ts) (hr : rightT lim ts cyc dued minf minp start = false) :
    Calls Try.prog 10 #[.agg #[.int .i64 lim, v, .int .i64 cyc, .int .i64 dued, .int .i64 minf, .int .i64 minp, .int .i64 start], .int .i64 at_, .int .u8 by_, .bool more] w (RetB (.bool true) w) := by
  have HV := Lib.hid hv
  obtain ⟨ao, cap, rfl, h1, ⟨h2, _⟩, h3⟩ := hv
  clear h3
  unfold maxLen at h2
  have d1 : decide ((20 : Int) < (ts.length : Int)) = false := by simp; omega
  have hw0 : Below w.heap.size w (w.alloc (.cells #[.int .i64 lim, .slice ao ts.length cap, .int .i64 cyc, .int .i64 dued, .int .i64 minf, .int .i64 minp, .int .i64 start] 26)) := bl_al (Below.refl _ _) _
  have _h := hby
  clear _h
  have HR := Lib.hid (show packR lim ts cyc dued minf minp start = ([], 6) by simp [packR, hr])
  clear hr
  go_enter Try.func10, Try.ntmps10
  go_wp2_with fail
  refine (refPack6_any _ ts lim cyc dued minf minp start _ (HV.out.below hw0)).mono ?_
  rintro e w1 ⟨u1, rfl, hs1, hb1⟩
  rw [HR.out] at hs1 ⊢
  have hwa : Below w.heap.size w w1 := bl_tr hw0 hb1
  go_wp2_with fail
  refine (awake6_any _).mono ?_
  rintro e w2 ⟨rfl, hb2⟩
  go_wp2_with fail
  go_ret
  exact ⟨rfl, bl_tr hwa hb2⟩

set_option maxRecDepth 100000 in
set_option maxHeartbeats 1600000 in
theorem termsTurned_yes (v : Value) (ts : List (Int × Bool)) (lim cyc dued minf minp start : Int) (at_ by_ : Int) (more : Bool) (hby : 0 ≤ by_ ∧ by_ < 256) (hlt : ts.length ≤ 20) (w : World) (hv : TrS w v ts) (hr : rightT lim ts cyc dued minf minp start = true) :
    Calls Try.prog 10 #[.agg #[.int .i64 lim, v, .int .i64 cyc, .int .i64 dued, .int .i64 minf, .int .i64 minp, .int .i64 start], .int .i64 at_, .int .u8 by_, .bool more] w (RetB (.bool true) w) := by
  have HV := Lib.hid hv
  obtain ⟨ao, cap, rfl, h1, ⟨h2, _⟩, h3⟩ := hv
  clear h3
  unfold maxLen at h2
  have d1 : decide ((20 : Int) < (ts.length : Int)) = false := by simp; omega
  have hw0 : Below w.heap.size w (w.alloc (.cells #[.int .i64 lim, .slice ao ts.length cap, .int .i64 cyc, .int .i64 dued, .int .i64 minf, .int .i64 minp, .int .i64 start] 26)) := bl_al (Below.refl _ _) _
  obtain ⟨i0, hi, hz0, hz1, hz2⟩ := info_parts info_u8
  obtain ⟨xs, hxs⟩ : ∃ xs, packT lim ts cyc dued minf minp start = xs := ⟨_, rfl⟩
  have hl := packT_length lim ts cyc dued minf minp start
  have h8 := ts_one hr
  rw [hxs] at hl
  have HPO := Lib.hid (refPack6_own _ ts lim cyc dued minf minp start _ (HV.out.below hw0) hr)
  rw [hxs] at HPO
  have HBY : Hid (Byts xs) := by rw [← hxs]; exact Byts.pack _ _ _ _ _ _ _
  obtain ⟨L, hL⟩ : ∃ L, xs.length = L := ⟨_, rfl⟩
  rw [hL] at hl
  have HL := Lib.hid hL
  have HLN : Hid (L = 56 + 9 * ts.length) := hl
  have hge : 56 ≤ L := by omega
  have hle : L ≤ 128 := by omega
  clear hr hxs hl hL
  have hm1 : IntKind.u64.wrap (L : Int) = L := by rw [u64_wrap]; omega
  have hu0 : 0 ≤ IntKind.u64.wrap at_ := by rw [u64_wrap]; omega
  obtain ⟨c, hc0⟩ : ∃ c : Nat, (IntKind.u64.wrap at_).tmod (L : Int) = c := ⟨((IntKind.u64.wrap at_).tmod (L : Int)).toNat, by rw [Int.tmod_eq_emod_of_nonneg hu0]; exact (Int.toNat_of_nonneg (Int.emod_nonneg _ (by omega))).symm⟩
  have hcl : c < L := by
    have := Int.emod_lt_of_pos (IntKind.u64.wrap at_) (show (0 : Int) < L by omega)
    rw [← Int.tmod_eq_emod_of_nonneg hu0, hc0] at this
    omega
  have hc : wrap64 ((IntKind.u64.wrap at_).tmod (L : Int)) = c := by
    rw [hc0]; unfold wrap64; omega
  clear hu0
  have hx0 : ((L : Int) == 0) = false := by rw [beq_eq_false_iff_ne]; omega
  have hx1 : ¬ L = 0 := by omega
  go_enter Try.func10, Try.ntmps10
  go_wp2_with fail
  refine HPO.out.mono ?_
  rintro e w1 ⟨base, u1, rfl, hbase, hown, hb1⟩
  have hbase' : w.heap.size ≤ base := Nat.le_trans hw0.size hbase
  rw [HL.out] at hown
  have hwa : Below w.heap.size w w1 := bl_tr hw0 hb1
  obtain ⟨g, cap1, cur1, rfl, hbg, hg, hnc, hcm, hcs, _⟩ : ∃ g cap cur, u1 = .slice (some ⟨g, 0, none⟩) L cap ∧ base ≤ g ∧ w1.heap[g]? = some (.cells cur 5 (0, 0)) ∧ L ≤ cap ∧ cap ≤ maxLen ∧ cur.size = cap * 1 ∧ cur.toList.take (L * 1) = xs.map (Value.int .u8) := by
    rcases hown.2 with ⟨_, h0⟩ | h
    · omega
    · exact h
  unfold maxLen at hcm
  have hcel := hown.cellAt c (by omega)
  obtain ⟨x, hx⟩ : ∃ x, xs.getD c 0 = x := ⟨_, rfl⟩
  have hxe : (xs.map (Value.int .u8))[c]? = some (.int .u8 x) := by
    rw [← hx]
    simp [List.getD, show c < xs.length by rw [HL.out]; exact hcl]
  rw [hxe] at hcel
  have hfr := hown.frozenAt c
  obtain ⟨y, hy⟩ : ∃ y, bits .xor .u8 x by_ = y := ⟨_, rfl⟩
  have HY : Hid (0 ≤ y ∧ y < 256) := by rw [← hy]; exact xor_u8 _ _
  obtain ⟨hst, hgr⟩ := hown.stored c (.int .u8 y)
  have HST : Hid ((w1.setCell ⟨g, c, none⟩ (.int .u8 y)).ownsRow base 5 1 (.slice (some ⟨g, 0, none⟩) L cap1) L ((xs.set c y).map (Value.int .u8))) := by
    show _
    rw [List.map_set]
    exact hst
  have hwb : Below w.heap.size w (w1.setCell ⟨g, c, none⟩ (.int .u8 y)) := bl_sc hwa (by omega)
  have HWB := Lib.hid hwb
  have HYS : Hid (Byts (xs.set c y)) := HBY.out.set c HY.out
  have hsl0 : (xs.set c y).length = L := by rw [List.length_set, HL.out]
  have HSL0 := Lib.hid hsl0
  clear hsl0
  clear hown hg hcs hxe hx hst hgr hb1 hw0 hwb hbg hwa
  go_wp2_with fail
  go_region
  obtain ⟨W1, hW1, gB, gO⟩ : ∃ W1, (w1.setCell ⟨g, c, none⟩ (.int .u8 y)).drew = W1 ∧ Below w.heap.size w W1 ∧ W1.ownsRow base 5 1 (.slice (some ⟨g, 0, none⟩) L cap1) L ((xs.set c y).map (Value.int .u8)) := ⟨_, rfl, bl_dr HWB.out, HST.out.drew⟩
  with_reducible rw [hW1]
  have GO := Lib.hid gO
  have hWs := gB.size
  clear hW1 HWB HST gO hcel hfr hy
  obtain ⟨zs0, hzs0⟩ : ∃ zs, xs.set c y = zs := ⟨_, rfl⟩
  rw [hzs0] at GO HYS HSL0
  clear hzs0
  cases more with
  | false =>
    obtain ⟨zs, rfl⟩ : ∃ zs, zs = zs0 := ⟨zs0, rfl⟩
    have HZ := HYS
    have HZL := HSL0
    go_wp2_with fail
    have HSL := Lib.hid (Sl.of_own (k := .u8) GO.out HZL.out)
    refine (termsTake_any _ zs HZ _ HSL.out (by rw [HZL.out]; omega)).mono ?_
    rintro e w4 ⟨u4, rfl, ht4, hb4⟩
    have HT4 := Lib.hid ht4
    obtain ⟨aox, nx, capx, rfl⟩ := ht4.form
    clear ht4
    obtain ⟨x0, hx0⟩ : ∃ y, takeI zs 0 = y := ⟨_, rfl⟩
    obtain ⟨x1, hx1⟩ : ∃ y, takeI zs 8 = y := ⟨_, rfl⟩
    obtain ⟨x2, hx2⟩ : ∃ y, takeI zs 16 = y := ⟨_, rfl⟩
    obtain ⟨x3, hx3⟩ : ∃ y, takeI zs 24 = y := ⟨_, rfl⟩
    obtain ⟨x4, hx4⟩ : ∃ y, takeI zs 32 = y := ⟨_, rfl⟩
    obtain ⟨x5, hx5⟩ : ∃ y, takeI zs 40 = y := ⟨_, rfl⟩
    obtain ⟨xe, hxe⟩ : ∃ y, takeE zs = y := ⟨_, rfl⟩
    rw [hx0, hx1, hx2, hx3, hx4, hx5, hxe]
    have HX := Lib.hid (And.intro hx0 (And.intro hx1 (And.intro hx2 (And.intro hx3 (And.intro hx4 (And.intro hx5 hxe))))))
    have HXE := Lib.hid hxe
    clear hx0 hx1 hx2 hx3 hx4 hx5 hxe
    have hw4 := bl_tr gB hb4
    go_wp2_with fail
    refine (refTake6_any _ zs HZ _ (HSL.out.below (bl_al hb4 _)) (by rw [HZL.out]; omega)).mono ?_
    rintro e w5 ⟨u5, rfl, ht5, hb5⟩
    have HT5 := Lib.hid ht5
    obtain ⟨aoy, ny, capy, rfl⟩ := ht5.form
    clear ht5
    obtain ⟨q0, q1, q2, q3, q4, q5, q6⟩ := HX.out
    rw [q0, q1, q2, q3, q4, q5, q6]
    clear q0 q1 q2 q3 q4 q5 q6 HX
    have hw5 : Below w.heap.size w (w5.alloc (.cells #[.int .i64 x0, .slice aoy ny capy, .int .i64 x1, .int .i64 x2, .int .i64 x3, .int .i64 x4, .int .i64 x5] 26)) := bl_al (bl_tr (bl_al hw4 (.cells #[.int .i64 x0, .slice aox nx capx, .int .i64 x1, .int .i64 x2, .int .i64 x3, .int .i64 x4, .int .i64 x5] 26)) hb5) _
    have gX : Blk (w5.alloc (.cells #[.int .i64 x0, .slice aoy ny capy, .int .i64 x1, .int .i64 x2, .int .i64 x3, .int .i64 x4, .int .i64 x5] 26)) w4.heap.size 26 [.int .i64 x0, .slice aox nx capx, .int .i64 x1, .int .i64 x2, .int .i64 x3, .int .i64 x4, .int .i64 x5] := Blk.below (heap_alloc_new w4 _) (bl_al hb5 _)
    have gY : Blk (w5.alloc (.cells #[.int .i64 x0, .slice aoy ny capy, .int .i64 x1, .int .i64 x2, .int .i64 x3, .int .i64 x4, .int .i64 x5] 26)) w5.heap.size 26 [.int .i64 x0, .slice aoy ny capy, .int .i64 x1, .int .i64 x2, .int .i64 x3, .int .i64 x4, .int .i64 x5] := heap_alloc_new w5 _
    have gt4 := HT4.out.below (bl_al (bl_tr (bl_al (Below.refl _ _) (.cells #[.int .i64 x0, .slice aox nx capx, .int .i64 x1, .int .i64 x2, .int .i64 x3, .int .i64 x4, .int .i64 x5] 26)) hb5) (.cells #[.int .i64 x0, .slice aoy ny capy, .int .i64 x1, .int .i64 x2, .int .i64 x3, .int .i64 x4, .int .i64 x5] 26))
    have gt5 := HT5.out.below (bl_al (Below.refl _ _) (.cells #[.int .i64 x0, .slice aoy ny capy, .int .i64 x1, .int .i64 x2, .int .i64 x3, .int .i64 x4, .int .i64 x5] 26))
    go_wp2_with fail
    obtain ⟨W, hW, fX, fY, fw, ft4, ft5⟩ : ∃ W, (w5.alloc (.cells #[.int .i64 x0, .slice aoy ny capy, .int .i64 x1, .int .i64 x2, .int .i64 x3, .int .i64 x4, .int .i64 x5] 26)) = W ∧ Blk W w4.heap.size 26 [.int .i64 x0, .slice aox nx capx, .int .i64 x1, .int .i64 x2, .int .i64 x3, .int .i64 x4, .int .i64 x5] ∧ Blk W w5.heap.size 26 [.int .i64 x0, .slice aoy ny capy, .int .i64 x1, .int .i64 x2, .int .i64 x3, .int .i64 x4, .int .i64 x5] ∧ Below w.heap.size w W ∧ TrS W (.slice aox nx capx) (takeTs zs) ∧ TrS W (.slice aoy ny capy) (takeTs zs) := ⟨_, rfl, gX, gY, hw5, gt4, gt5⟩
    with_reducible rw [hW]
    clear hW gX gY hw5 gt4 gt5 hb5 hw4 hb4 HT4 HT5
    generalize w4.heap.size = GX at *
    generalize w5.heap.size = GY at *
    refine (awake6_any _).mono ?_
    rintro e w6 ⟨rfl, hb6⟩
    have kX := fX.below hb6
    have kY := fY.below hb6
    have t0 := kX.cell 0
    have t1 := kX.cell 1
    have t2 := kX.cell 2
    have t3 := kX.cell 3
    have t4 := kX.cell 4
    have t5 := kX.cell 5
    have t6 := kX.cell 6
    simp only [List.getElem?_cons_zero, List.getElem?_cons_succ] at t0 t1 t2 t3 t4 t5 t6
    have r0 := kY.cell 0
    have r1 := kY.cell 1
    have r2 := kY.cell 2
    have r3 := kY.cell 3
    have r4 := kY.cell 4
    have r5 := kY.cell 5
    have r6 := kY.cell 6
    simp only [List.getElem?_cons_zero, List.getElem?_cons_succ] at r0 r1 r2 r3 r4 r5 r6
    go_wp2_with fail
    refine (sameTerms_true _ _ (takeTs zs) x0 x1 x2 x3 x4 x5 _ (ft4.below hb6) (ft5.below hb6)).mono ?_
    rintro e w7 ⟨rfl, hb7⟩
    have hw7 := bl_tr fw (bl_tr hb6 hb7)
    clear hb6 hb7 fX fY ft4 ft5 kX kY
    go_wp2_with fail
    go_ret
    exact ⟨rfl, hw7⟩
  | true =>
    have hlt1 : ∀ k, (Value.slice (some ⟨g, 0, none⟩) L cap1).ownBlock = some k → w.heap.size ≤ k := fun k hk => Nat.le_trans hbase' (GO.out.lt k hk).1
    have HLT1 := Lib.hid hlt1
    have hgx := GO.out.lt g rfl
    clear hlt1
    go_wp2_with (at_builtin; refine wpList_append_where _ rfl (.tmp 55) (.tmp 57) 38 rfl base 5 i0 (.int .u8 0) 1 1 Try.underlying38 hi hz0 hz1 hz2 rfl (by decide) _ _ _ rfl (GO.out.alloc _) ⟨W1.heap.size, 0, none⟩ 1 1 [_] rfl rfl (cell_one_new _ _ _) (fun x hx => by simp at hx; subst hx; rfl) (by unfold maxLen; omega) (by omega) (by simp; omega) ?_; intro v2 w2 hown2 hg2 hbk2)
    have gB2 : Below w.heap.size w w2 := Below.grown (gB.alloc hWs _) hg2 (by simp; omega) HLT1.out
    have GO2 : Hid (w2.ownsRow base 5 1 v2 (L + 1) ((zs0 ++ [by_]).map (Value.int .u8))) := by show _; rw [List.map_append]; exact hown2
    have HZ0 : Hid (Byts (zs0 ++ [by_])) := fun y hy => by
      rcases List.mem_append.1 hy with h | h
      · exact HYS.out y h
      · simp at h; subst h; exact hby
    have hzl0 : (zs0 ++ [by_]).length = L + 1 := by rw [List.length_append, HSL0.out]; rfl
    have HNE0 : Hid (takeE (zs0 ++ [by_]) ≠ 0) := takeE_len (n := ts.length) (by rw [hzl0, HLN.out])
    obtain ⟨zs, hzs⟩ : ∃ zs, zs0 ++ [by_] = zs := ⟨_, rfl⟩
    rw [hzs] at GO2 HZ0 hzl0 HNE0
    have HZ := HZ0
    have HNE := HNE0
    have HZL := Lib.hid hzl0
    obtain ⟨aoz, nz, capz, rfl⟩ : ∃ ao n cap, v2 = .slice ao n cap := by
      obtain ⟨g2, c2, rfl⟩ := own_shape GO2.out (by omega)
      exact ⟨_, _, _, rfl⟩
    clear hown2 hg2 hbk2 hzl0 hzs HZ0 HNE0 hgx HLT1
    go_wp2_with fail
    have HSL := Lib.hid (Sl.of_own (k := .u8) GO2.out HZL.out)
    refine (termsTake_any _ zs HZ _ HSL.out (by rw [HZL.out]; omega)).mono ?_
    rintro e w4 ⟨u4, rfl, ht4, hb4⟩
    have HT4 := Lib.hid ht4
    obtain ⟨aox, nx, capx, rfl⟩ := ht4.form
    clear ht4
    obtain ⟨x0, hx0⟩ : ∃ y, takeI zs 0 = y := ⟨_, rfl⟩
    obtain ⟨x1, hx1⟩ : ∃ y, takeI zs 8 = y := ⟨_, rfl⟩
    obtain ⟨x2, hx2⟩ : ∃ y, takeI zs 16 = y := ⟨_, rfl⟩
    obtain ⟨x3, hx3⟩ : ∃ y, takeI zs 24 = y := ⟨_, rfl⟩
    obtain ⟨x4, hx4⟩ : ∃ y, takeI zs 32 = y := ⟨_, rfl⟩
    obtain ⟨x5, hx5⟩ : ∃ y, takeI zs 40 = y := ⟨_, rfl⟩
    obtain ⟨xe, hxe⟩ : ∃ y, takeE zs = y := ⟨_, rfl⟩
    rw [hx0, hx1, hx2, hx3, hx4, hx5, hxe]
    have HX := Lib.hid (And.intro hx0 (And.intro hx1 (And.intro hx2 (And.intro hx3 (And.intro hx4 (And.intro hx5 hxe))))))
    have HXE := Lib.hid hxe
    clear hx0 hx1 hx2 hx3 hx4 hx5 hxe
    have hw4 := bl_tr gB2 hb4
    go_wp2_with fail
    refine (refTake6_any _ zs HZ _ (HSL.out.below (bl_al hb4 _)) (by rw [HZL.out]; omega)).mono ?_
    rintro e w5 ⟨u5, rfl, ht5, hb5⟩
    have HT5 := Lib.hid ht5
    obtain ⟨aoy, ny, capy, rfl⟩ := ht5.form
    clear ht5
    obtain ⟨q0, q1, q2, q3, q4, q5, q6⟩ := HX.out
    rw [q0, q1, q2, q3, q4, q5, q6]
    clear q0 q1 q2 q3 q4 q5 q6 HX
    have hw5 : Below w.heap.size w (w5.alloc (.cells #[.int .i64 x0, .slice aoy ny capy, .int .i64 x1, .int .i64 x2, .int .i64 x3, .int .i64 x4, .int .i64 x5] 26)) := bl_al (bl_tr (bl_al hw4 (.cells #[.int .i64 x0, .slice aox nx capx, .int .i64 x1, .int .i64 x2, .int .i64 x3, .int .i64 x4, .int .i64 x5] 26)) hb5) _
    have gX : Blk (w5.alloc (.cells #[.int .i64 x0, .slice aoy ny capy, .int .i64 x1, .int .i64 x2, .int .i64 x3, .int .i64 x4, .int .i64 x5] 26)) w4.heap.size 26 [.int .i64 x0, .slice aox nx capx, .int .i64 x1, .int .i64 x2, .int .i64 x3, .int .i64 x4, .int .i64 x5] := Blk.below (heap_alloc_new w4 _) (bl_al hb5 _)
    have gY : Blk (w5.alloc (.cells #[.int .i64 x0, .slice aoy ny capy, .int .i64 x1, .int .i64 x2, .int .i64 x3, .int .i64 x4, .int .i64 x5] 26)) w5.heap.size 26 [.int .i64 x0, .slice aoy ny capy, .int .i64 x1, .int .i64 x2, .int .i64 x3, .int .i64 x4, .int .i64 x5] := heap_alloc_new w5 _
    have gt4 := HT4.out.below (bl_al (bl_tr (bl_al (Below.refl _ _) (.cells #[.int .i64 x0, .slice aox nx capx, .int .i64 x1, .int .i64 x2, .int .i64 x3, .int .i64 x4, .int .i64 x5] 26)) hb5) (.cells #[.int .i64 x0, .slice aoy ny capy, .int .i64 x1, .int .i64 x2, .int .i64 x3, .int .i64 x4, .int .i64 x5] 26))
    have gt5 := HT5.out.below (bl_al (Below.refl _ _) (.cells #[.int .i64 x0, .slice aoy ny capy, .int .i64 x1, .int .i64 x2, .int .i64 x3, .int .i64 x4, .int .i64 x5] 26))
    go_wp2_with fail
    obtain ⟨W, hW, fX, fY, fw, ft4, ft5⟩ : ∃ W, (w5.alloc (.cells #[.int .i64 x0, .slice aoy ny capy, .int .i64 x1, .int .i64 x2, .int .i64 x3, .int .i64 x4, .int .i64 x5] 26)) = W ∧ Blk W w4.heap.size 26 [.int .i64 x0, .slice aox nx capx, .int .i64 x1, .int .i64 x2, .int .i64 x3, .int .i64 x4, .int .i64 x5] ∧ Blk W w5.heap.size 26 [.int .i64 x0, .slice aoy ny capy, .int .i64 x1, .int .i64 x2, .int .i64 x3, .int .i64 x4, .int .i64 x5] ∧ Below w.heap.size w W ∧ TrS W (.slice aox nx capx) (takeTs zs) ∧ TrS W (.slice aoy ny capy) (takeTs zs) := ⟨_, rfl, gX, gY, hw5, gt4, gt5⟩
    with_reducible rw [hW]
    clear hW gX gY hw5 gt4 gt5 hb5 hw4 hb4 HT4 HT5
    generalize w4.heap.size = GX at *
    generalize w5.heap.size = GY at *
    refine (awake6_any _).mono ?_
    rintro e w6 ⟨rfl, hb6⟩
    have kX := fX.below hb6
    have kY := fY.below hb6
    have t0 := kX.cell 0
    have t1 := kX.cell 1
    have t2 := kX.cell 2
    have t3 := kX.cell 3
    have t4 := kX.cell 4
    have t5 := kX.cell 5
    have t6 := kX.cell 6
    simp only [List.getElem?_cons_zero, List.getElem?_cons_succ] at t0 t1 t2 t3 t4 t5 t6
    have r0 := kY.cell 0
    have r1 := kY.cell 1
    have r2 := kY.cell 2
    have r3 := kY.cell 3
    have r4 := kY.cell 4
    have r5 := kY.cell 5
    have r6 := kY.cell 6
    simp only [List.getElem?_cons_zero, List.getElem?_cons_succ] at r0 r1 r2 r3 r4 r5 r6
    go_wp2_with fail
    refine (sameTerms_true _ _ (takeTs zs) x0 x1 x2 x3 x4 x5 _ (ft4.below hb6) (ft5.below hb6)).mono ?_
    rintro e w7 ⟨rfl, hb7⟩
    have hw7 := bl_tr fw (bl_tr hb6 hb7)
    clear hb6 hb7 fX fY ft4 ft5 kX kY
    have hne : (xe != 0) = true := by rw [bne_iff_ne, ← HXE.out]; exact HNE.out
    have hne2 : (xe == 0) = false := by rw [beq_eq_false_iff_ne, ← HXE.out]; exact HNE.out
    clear HXE HNE
    go_wp2_with fail
    go_ret
    exact ⟨rfl, hw7⟩
theorem termsTurned_any (v : Value) (ts : List (Int × Bool)) (lim cyc dued minf minp start : Int) (at_ by_ : Int) (more : Bool) (hby : 0 ≤ by_ ∧ by_ < 256) (w : World) (hv : TrS w v ts) :
    Calls Try.prog 10 #[.agg #[.int .i64 lim, v, .int .i64 cyc, .int .i64 dued, .int .i64 minf, .int .i64 minp, .int .i64 start], .int .i64 at_, .int .u8 by_, .bool more] w (RetB (.bool true) w) := by
  by_cases hlt : ts.length ≤ 20
  · cases hr : rightT lim ts cyc dued minf minp start with
    | false => exact termsTurned_no v ts lim cyc dued minf minp start at_ by_ more hby hlt w hv hr
    | true => exact termsTurned_yes v ts lim cyc dued minf minp start at_ by_ more hby hlt w hv hr
  · obtain ⟨ao, cap, rfl, h1, ⟨h2, _⟩, h3⟩ := hv
    clear h3
    unfold maxLen at h2
    have d1 : decide ((20 : Int) < (ts.length : Int)) = true := by simp; omega
    have hw0 : Below w.heap.size w (w.alloc (.cells #[.int .i64 lim, .slice ao ts.length cap, .int .i64 cyc, .int .i64 dued, .int .i64 minf, .int .i64 minp, .int .i64 start] 26)) := bl_al (Below.refl _ _) _
    go_enter Try.func10, Try.ntmps10
    go_wp2_with fail
    refine (awake6_any _).mono ?_
    rintro e w2 ⟨rfl, hb2⟩
    go_wp2_with fail
    go_ret
    exact ⟨rfl, bl_tr hw0 hb2⟩
end Go.Proofs.Ytdjfpbjlmojikaa

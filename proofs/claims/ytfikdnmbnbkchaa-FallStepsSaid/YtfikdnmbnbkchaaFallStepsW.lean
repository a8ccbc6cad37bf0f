/- lombardlaw10.FallSteps: two payments are as one. -/
import Derived.Test.YtfikdnmbnbkchaaPayLawsB
import Derived.Test.YtfikdnmbnbkchaaFallPayY
import Derived.Test.YtfikdnmbnbkchaaRankMirrorW
import Derived.Deep.CutBlock
import Derived.IntWalk
namespace Go.Proofs.Ytfikdnmbnbkchaa
open Go.RowKit

theorem eq_of_getD {a b : List Int} {n : Nat} (h1 : a.length = n) (h2 : b.length = n) (h : ∀ j, j < n → a.getD j 0 = b.getD j 0) : a = b := by
  apply List.ext_getElem (by omega)
  intro j h3 h4
  have := h j (by omega)
  simpa [List.getD, h3, h4] using this
theorem pay_steps {B R : List Int} {n : Nat} {a b : Int} (hl : B.length = n) (hr : R.length = n) (hb : ∀ x ∈ B, 0 ≤ x ∧ x < 1000) (ha : 0 ≤ a ∧ a < 3000) (hbb : 0 ≤ b ∧ b < 3000) :
    ∃ G1 l1 G2 l2 G3, payR B 0 0 R a = (G1, 0, l1, 0) ∧ payR (subL B G1) 0 0 R b = (G2, 0, l2, 0) ∧ payR B 0 0 R (a + b) = (G3, 0, l1 + l2, 0) ∧ G1.length = n ∧ G2.length = n ∧ G3.length = n ∧ (subL B G1).length = n ∧ 0 ≤ l1 ∧ l1 ≤ a ∧ 0 ≤ l2 ∧ l2 ≤ b ∧
      (∀ j, j < n → G1.getD j 0 + G2.getD j 0 = G3.getD j 0 ∧ 0 ≤ B.getD j 0 ∧ B.getD j 0 < 1000 ∧ 0 ≤ G1.getD j 0 ∧ G1.getD j 0 ≤ B.getD j 0 ∧ 0 ≤ G2.getD j 0 ∧ G2.getD j 0 ≤ 1000) := by
  have ho : Ord (rankL ltHigh R R.length) n := by rw [hr]; exact rank_ord _ _ _
  have hb0 : ∀ x ∈ B, 0 ≤ x := fun x hx => (hb x hx).1
  obtain ⟨G1, l1, e1, n1, f1, g1⟩ := pay_one false hl hr hb (a := a) ⟨ha.1, by omega⟩
  simp only [Bool.false_eq_true, if_false, ordOf] at e1 f1 g1
  have q1 : G1 = (filled B (rankL ltHigh R R.length) a).1 := eq_of_getD n1 (by rw [filled_length]; exact hl) g1
  have r1 := fun j hj => filled_range (ks := rankL ltHigh R R.length) hb0 ha.1 (j := j) hj
  have hT : (subL B G1).length = n := by unfold subL; rw [List.length_zipWith]; omega
  have hTr : ∀ x ∈ subL B G1, 0 ≤ x ∧ x < 1000 := by
    intro x hx
    obtain ⟨j, hj, rfl⟩ := List.getElem_of_mem hx
    have e : (subL B G1)[j] = (subL B G1).getD j 0 := by simp [List.getD, hj]
    rw [e, getD_subL (by omega) (by omega), g1 j (by omega)]
    have h1 := r1 j (by omega)
    have h2 := getD_rng hb (j := j) (by omega)
    omega
  obtain ⟨G2, l2, e2, n2, f2, g2⟩ := pay_one false hT hr hTr (a := b) ⟨hbb.1, by omega⟩
  obtain ⟨G3, l3, e3, n3, f3, g3⟩ := pay_one false hl hr hb (a := a + b) ⟨by omega, by omega⟩
  simp only [Bool.false_eq_true, if_false, ordOf] at e2 f2 g2 e3 f3 g3
  obtain ⟨s1, s2⟩ := steps ho hl hb0 ha.1 hbb.1
  rw [← q1] at s1 s2
  have m1 := filled_left (ks := rankL ltHigh R R.length) hb0 ha.1
  have m2 := filled_left (ks := rankL ltHigh R R.length) (fun x hx => (hTr x hx).1) hbb.1
  have hl3 : l3 = l1 + l2 := by omega
  rw [hl3] at e3
  refine ⟨G1, l1, G2, l2, G3, e1, e2, e3, n1, n2, n3, hT, by omega, by omega, by omega, by omega, ?_⟩
  intro j hj
  have h2 := getD_rng hb (j := j) (by omega)
  have h3 := r1 j (by omega)
  have h4 := filled_range (ks := rankL ltHigh R R.length) (fun x hx => (hTr x hx).1) hbb.1 (j := j) (by omega)
  have h5 := getD_rng hTr (j := j) (by omega)
  have h6 := s2 j hj
  have h7 := g1 j hj
  have h8 := g2 j hj
  have h9 := g3 j hj
  omega

set_option maxRecDepth 100000 in
set_option maxHeartbeats 800000 in
theorem fallSteps_any (v u : Value) (bs rs : List Int) (first second : Int) (w : World) (hv : Sl .i64 w v bs) (hu : Sl .i64 w u rs) :
    Calls Try.prog 11 #[v, u, .int .i64 first, .int .i64 second] w (RetB (.bool true) w) := by
  have HV := Lib.hid hv
  have HU := Lib.hid hu
  obtain ⟨ao, cap, rfl, h1, ⟨h2, _⟩, h3⟩ := hv
  obtain ⟨ao', cap', rfl, h1', ⟨h2', _⟩, h3'⟩ := hu
  clear h3 h3'
  unfold maxLen at h2 h2'
  obtain ⟨i0, hi, hz0, hz1, hz2⟩ := info_parts info_mirror
  obtain ⟨n, hN⟩ : ∃ n : Nat, Hid (n = min (min bs.length rs.length) 8) := ⟨_, Lib.hid rfl⟩
  have hn1 : n ≤ bs.length := by have := hN.out; omega
  have hn2 : n ≤ rs.length := by have := hN.out; omega
  have hn8 : n ≤ 8 := by have := hN.out; omega
  go_enter Try.func11, Try.ntmps11
  go_upto_block 0 with fail
  have hc : (if (8 : Int) < (if rs.length < bs.length then (rs.length : Int) else (bs.length : Int)) then (8 : Int) else if rs.length < bs.length then (rs.length : Int) else (bs.length : Int)) = (n : Int) := by
    rw [hN.out]
    repeat (first | omega | split)
  rw [hc]
  clear hc
  go_cut [10, 11] (fun s al wr => Two w wr s al (small 1000 bs n) (small 8 rs n))
  case first =>
    go_wp2_with fail
    go_loopg [10, 11, 12] n (fun g s al i wr => ∃ k : Nat, k + g = n ∧ i = .int .i64 k ∧ Two w wr s al (small 1000 bs k) (small 8 rs k))
    case atStart => exact ⟨0, by omega, rfl, World.ownsRow_nil _ _ _ _, World.ownsRow_nil _ _ _ _, .inl rfl, Below.refl _ _⟩
    case round =>
      obtain ⟨k, hkg, rfl, hT⟩ := hrel
      cases gk with
      | zero =>
        have hlt : ¬ ((k : Int) < (n : Int)) := by omega
        obtain rfl : k = n := by omega
        go_wp2
        go_meet
        case rel => exact hT
      | succ g =>
        have hlt : (k : Int) < (n : Int) := by omega
        have hkb : k < bs.length := by omega
        have hkr : k < rs.length := by omega
        have hlb := small_length (m := 1000) (xs := bs) (n := k) (by omega)
        have hlr := small_length (m := 8) (xs := rs) (n := k) (by omega)
        obtain ⟨hA, hB, hap, hb⟩ := hT
        obtain ⟨b0, o0, x, rfl, hcx, hx⟩ := (HV.out.below hb).get (i := k) hkb
        obtain ⟨b1, o1, y, rfl, hcw, hy⟩ := HU.out.get (i := k) hkr
        have hbs := hb.size
        have hcK : Hid (∀ W, Below w.heap.size w W → W.cell? ⟨b1, o1 + k, none⟩ = some (.int .i64 y)) := Lib.hid fun W h => (h.cell (p := ⟨b1, o1 + k, none⟩) (cell_block_lt hcw)).trans hcw
        clear hcw
        have hkc : k < cap ∧ k < cap' := by omega
        go_wp2_with (first
          | (at_builtin; refine wpList_append_where _ rfl (.tmp 38) (.tmp 46) 22 rfl w.heap.size 2 i0 (.int .i64 0) 1 8 Try.underlying22 hi hz0 hz1 hz2 rfl (by decide) _ _ _ rfl (hA.alloc _) ⟨wr.heap.size, 0, none⟩ 1 1 [_] rfl rfl (cell_one_new _ _ _) (fun x hx => by simp at hx; subst hx; rfl) (by unfold maxLen; omega) (by omega) (by simp; omega) ?_; intro v1 w1 hown1 hg1 hbk1; have hB1 := (hB.alloc _).kept hg1 (apart_or hap); have hz1' := hg1.size; simp only [World.size_alloc] at hz1'; have hb1 := (hb.alloc hbs (.cells #[.int .i64 (wrap64 ((IntKind.u64.wrap x).tmod 1000))] 2)).grown hg1 (by rw [World.size_alloc]; omega) (fun k hk => (hA.lt k hk).1); have hcy := hcK.out _ hb1)
          | (at_builtin; refine wpList_append_where _ rfl (.tmp 48) (.tmp 56) 22 rfl w.heap.size 2 i0 (.int .i64 0) 1 8 Try.underlying22 hi hz0 hz1 hz2 rfl (by decide) _ _ _ rfl (hB1.alloc _) ⟨w1.heap.size, 0, none⟩ 1 1 [_] rfl rfl (cell_one_new _ _ _) (fun x hx => by simp at hx; subst hx; rfl) (by unfold maxLen; omega) (by omega) (by rw [World.size_alloc]; omega) ?_; intro v2 w2 hown2 hg2 hbk2))
        have hb2 : Below w.heap.size w w2 := (hb1.alloc (by omega) _).grown hg2 (by rw [World.size_alloc]; omega) (fun k hk => (hB1.lt k hk).1)
        have hap2 : v1.ownBlock = none ∨ v2.ownBlock = none ∨ v1.ownBlock ≠ v2.ownBlock := apart_two (s := wr.heap.size) hap hbk1 hbk2 (fun k hk => by have := (hA.lt k hk).2; omega) (fun k hk => by have := (hB.lt k hk).2; omega) (by rw [World.size_alloc]; omega) (by simp only [World.size_alloc]; omega)
        have hA2 := (hown1.alloc (.cells #[.int .i64 (wrap64 ((IntKind.u64.wrap y).tmod 8))] 2)).kept hg2 (apart_one hap hbk1 (fun k hk => by have := (hB.lt k hk).2; rw [World.size_alloc]; omega))
        have HT : Hid (Two w w2 v1 v2 (small 1000 bs (k + 1)) (small 8 rs (k + 1))) := by
          rw [small_succ hkb, small_succ hkr, hx.out, hy.out]
          exact Lib.hid ⟨by simpa using hA2, by simpa using hown2, hap2, hb2⟩
        clear hA2 hap2 hb2 hown1 hown2 hg1 hg2 hbk1 hbk2 hA hB hB1 hap hb hb1
        go_wp2_with fail
        go_roundg g
        case measure => omega
        case rel => exact ⟨k + 1, by omega, by go_num, HT.out⟩
  case rest =>
    have hB := small_range (m := 1000) (xs := bs) (n := n) (by decide) (by decide)
    have hBl := small_length (m := 1000) hn1
    have hRl := small_length (m := 8) hn2
    generalize small 1000 bs n = B at hcut hB hBl
    generalize small 8 rs n = R at hcut hRl
    obtain ⟨hA, hC, _, hb⟩ := hcut
    have HB0 := Lib.hid hb
    have hSB := Lib.hid (Sl.of_own (k := .i64) hA rfl)
    have hSR := Lib.hid (Sl.of_own (k := .i64) hC rfl)
    obtain ⟨aB, cB, rfl, mB, ⟨nB, _⟩, _⟩ := hSB.out
    obtain ⟨aR, cR, rfl, mR, ⟨nR, _⟩, _⟩ := hSR.out
    rw [hBl] at mB hSB
    rw [hRl] at mR hSR
    clear hA hC hb HV HU h1 h2 h1' h2'
    go_wp2_with fail
    have hD := modu_bd first 3000 (by decide) (by decide)
    have hM := modu_bd second 3000 (by decide) (by decide)
    generalize wrap64 ((IntKind.u64.wrap first).tmod 3000) = D at hD ⊢
    generalize wrap64 ((IntKind.u64.wrap second).tmod 3000) = M at hM ⊢
    obtain ⟨G1, l1, G2, l2, G3, e1, e2, e3, k1, k2, k3, kT, r1, r2, r3, r4, hG⟩ := pay_steps hBl hRl hB hD hM
    have E2 := Lib.hid e2
    have E3 := Lib.hid e3
    have HG := Lib.hid hG
    clear e2 e3 hG
    refine (fallPay_any _ _ B R 0 0 D _ (Lib.hid e1) _ hSB.out hSR.out (by omega)).mono ?_
    rintro e w1 ⟨u1, rfl, hs1, hb1⟩
    clear e1
    simp only at hs1 ⊢
    go_wp2_with fail
    refine (awake10_any _).mono ?_
    rintro e w2 ⟨rfl, hb2⟩
    have L1 := Lib.hid (hs1.below ((by repeat (first | exact Below.refl _ _ | refine bl_al ?_ _ | refine bl_dr ?_ | refine bl_dN ?_ _ | refine bl_tr ?_ (by assumption))) : Below w1.heap.size w1 w2))
    obtain ⟨a1, c1, rfl, m1, ⟨n1, _⟩, _⟩ := hs1
    rw [k1] at m1 L1 ⊢
    have LB : Hid (Sl .i64 w2 (.slice aB n cB) B) := Lib.hid (hSB.out.below (by repeat (first | exact Below.refl _ _ | refine bl_al ?_ _ | refine bl_dr ?_ | refine bl_dN ?_ _ | refine bl_tr ?_ (by assumption))))
    have LR : Hid (Sl .i64 w2 (.slice aR n cR) R) := Lib.hid (hSR.out.below (by repeat (first | exact Below.refl _ _ | refine bl_al ?_ _ | refine bl_dr ?_ | refine bl_dN ?_ _ | refine bl_tr ?_ (by assumption))))
    have HB2 : Hid (Below w.heap.size w w2) := Lib.hid (bl_tr HB0.out (by repeat (first | exact Below.refl _ _ | refine bl_al ?_ _ | refine bl_dr ?_ | refine bl_dN ?_ _ | refine bl_tr ?_ (by assumption))))
    clear hSB hSR hb1 hb2 HB0 hB
    have hne1 : ((n : Int) != (n : Int)) = false := by simp
    go_wp2_with (at_make; refine wpList_make_full _ rfl _ _ 22 rfl w2.heap.size 2 i0 (.int .i64 0) 1 Try.underlying22 hi hz0 hz1 _ _ _ _ n rfl rfl rfl rfl (by rw [hz2]; omega) (by unfold maxLen; omega) (Nat.le_refl _) ?_; intro w5 hown5 hgrow5)
    have hb45 := grown_below1 hgrow5
    obtain ⟨cur0, hB0, _, _, hcl0, hct0, _⟩ := blk_of_own hown5
    have hc0 : cur0 = List.replicate n (.int .i64 0) := by
      rw [← List.take_of_length_le (show cur0.length ≤ n * 1 by omega), hct0, Nat.mul_one]
      exact toList_madeCells_one _ _
    have hN5 : Nums w5 w2.heap.size n (List.replicate n 0) := ⟨cur0, hB0, by rw [hc0]; simp, by rw [hc0]; simp⟩
    clear hown5 hgrow5 hB0 hcl0 hct0 hc0
    have HZL := Lib.hid (show (List.replicate n (0 : Int)).length = n from by simp)
    have HT := Lib.hid kT
    have H1 := Lib.hid k1
    have H2 := Lib.hid k2
    have H3 := Lib.hid k3
    have HBL := Lib.hid hBl
    have HRL := Lib.hid hRl
    clear kT k1 k2 k3 hBl hRl
    go_loopg [18] n (fun gg i wr => ∃ k : Nat, k + gg = n ∧ i = .int .i64 k ∧ Nums wr w2.heap.size n (mixL (subL B G1) (List.replicate n 0) k) ∧ Below w2.heap.size w2 wr)
    case atStart => exact ⟨0, by omega, rfl, by rw [mixL_zero]; exact hN5, hb45⟩
    case round =>
      obtain ⟨k, hkg, rfl, hN, hb⟩ := hrel
      cases gk with
      | succ gg =>
        have hlt : (k : Int) < (n : Int) := by omega
        have hkn : k < n := by omega
        obtain ⟨b1, o1, x, rfl, hcx, hx⟩ := (LB.out.below hb).get (i := k) (by have := HBL.out; omega)
        obtain ⟨b2, o2, y, rfl, hcy, hy⟩ := (L1.out.below hb).get (i := k) (by have := H1.out; omega)
        have hml := mixL_length (k := k) HT.out HZL.out (Nat.le_of_lt hkn)
        have c5 := hN.cell (i := k) (by omega)
        have f5 := hN.frozen k
        have hr := HG.out k hkn
        have hsub := getD_subL (a := B) (b := G1) (i := k) (by have := HBL.out; omega) (by have := H1.out; omega)
        rw [hx.out, hy.out] at hr hsub
        generalize (mixL (subL B G1) (List.replicate n 0) k).getD k 0 = y5 at c5
        have HS := Lib.hid hsub
        have X := Lib.hid hN
        have hkc : k < cB ∧ k < c1 := by omega
        clear hsub hN hml
        go_wp2_with fail
        go_region
        go_wp2_with fail
        go_roundg gg
        case measure => omega
        case rel =>
          refine ⟨k + 1, by omega, by go_num, ?_, (hb.setCell (Nat.le_refl _) _).drew⟩
          have e := mixL_set HT.out HZL.out hkn
          rw [HS.out] at e
          rw [← e]
          exact X.out.set k (x - y)
      | zero =>
        have hlt : ¬ ((k : Int) < (n : Int)) := by omega
        obtain rfl : k = n := by omega
        obtain ⟨w6, hw6⟩ : ∃ w6 : World, w6 = wr := ⟨_, rfl⟩
        subst hw6
        have HT6 : Hid (Sl .i64 w6 (.slice (some ⟨w2.heap.size, 0, none⟩) k k) (subL B G1)) := by
          have h := hN
          rw [mixL_all HT.out HZL.out] at h
          exact h.sl HT.out (Nat.le_refl _) (by unfold maxLen; omega)
        clear hN
        have L1' := Lib.hid (L1.out.below hb)
        have LB' := Lib.hid (LB.out.below hb)
        have LR' := Lib.hid (LR.out.below hb)
        have HB6 : Hid (Below w.heap.size w w6) := Lib.hid (bl_tr HB2.out hb)
        clear L1 LB LR HB2 hb
        go_wp2_with fail
        refine (fallPay_any _ _ (subL B G1) R 0 0 M _ E2 _ HT6.out LR'.out (by have := HT.out; omega)).mono ?_
        rintro e w7 ⟨u7, rfl, hs7, hb7⟩
        simp only at hs7 ⊢
        have hw1 : wrap64 (D + M) = D + M := IntWalk.wrap64_in _ ⟨by omega, by omega⟩
        have hDM : 0 ≤ D + M ∧ D + M < 6000 := by omega
        go_wp2_with fail
        refine (fallPay_any _ _ B R 0 0 (D + M) _ E3 _ (LB'.out.below (by repeat (first | exact Below.refl _ _ | refine bl_al ?_ _ | refine bl_dr ?_ | refine bl_dN ?_ _ | refine bl_tr ?_ (by assumption)))) (LR'.out.below (by repeat (first | exact Below.refl _ _ | refine bl_al ?_ _ | refine bl_dr ?_ | refine bl_dN ?_ _ | refine bl_tr ?_ (by assumption)))) (by have := HBL.out; omega)).mono ?_
        rintro e w8 ⟨u8, rfl, hs8, hb8⟩
        simp only at hs8 ⊢
        have L7 := Lib.hid (hs7.below ((by repeat (first | exact Below.refl _ _ | refine bl_al ?_ _ | refine bl_dr ?_ | refine bl_dN ?_ _ | refine bl_tr ?_ (by assumption))) : Below w7.heap.size w7 w8))
        have L8 := Lib.hid hs8
        have L1 := Lib.hid (L1'.out.below ((by repeat (first | exact Below.refl _ _ | refine bl_al ?_ _ | refine bl_dr ?_ | refine bl_dN ?_ _ | refine bl_tr ?_ (by assumption))) : Below w6.heap.size w6 w8))
        have HB8 : Hid (Below w.heap.size w w8) := Lib.hid (bl_tr HB6.out (by repeat (first | exact Below.refl _ _ | refine bl_al ?_ _ | refine bl_dr ?_ | refine bl_dN ?_ _ | refine bl_tr ?_ (by assumption))))
        obtain ⟨a7, c7, rfl, m7, ⟨n7, _⟩, _⟩ := hs7
        obtain ⟨a8, c8, rfl, m8, ⟨n8, _⟩, _⟩ := hs8
        rw [H2.out] at m7 L7
        rw [H3.out] at m8 L8
        rw [H2.out, H3.out]
        have hw2 : wrap64 (l1 + l2) = l1 + l2 := IntWalk.wrap64_in _ ⟨by omega, by omega⟩
        have hne2 : ((l1 + l2) != (l1 + l2)) = false := by simp
        clear hb7 hb8
        go_wp2_with fail
        clear hne1 hne2
        go_loopg [27] k (fun gg i wr => ∃ j : Nat, j + gg = k ∧ i = .int .i64 j ∧ Below w8.heap.size w8 wr)
        case atStart => exact ⟨0, by omega, rfl, Below.refl _ _⟩
        case round =>
          obtain ⟨j, hjg, rfl, hb⟩ := hrel
          cases gk with
          | zero =>
            have hlt : ¬ ((j : Int) < (k : Int)) := by omega
            go_wp2
            go_ret
            exact ⟨rfl, bl_tr HB8.out hb⟩
          | succ gg =>
            have hlt : (j : Int) < (k : Int) := by omega
            have hjn : j < k := by omega
            obtain ⟨b1, o1, x, rfl, hcx, hx⟩ := (L1.out.below hb).get (i := j) (by have := H1.out; omega)
            obtain ⟨b2, o2, y, rfl, hcy, hy⟩ := (L7.out.below hb).get (i := j) (by have := H2.out; omega)
            obtain ⟨b3, o3, z, rfl, hcz, hz⟩ := (L8.out.below hb).get (i := j) (by have := H3.out; omega)
            have hr := HG.out j hjn
            rw [hx.out, hy.out, hz.out] at hr
            obtain ⟨rfl, hr⟩ := hr
            have hkc : j < c1 ∧ j < c7 ∧ j < c8 := by omega
            have hw3 : wrap64 (x + y) = x + y := IntWalk.wrap64_in _ ⟨by omega, by omega⟩
            have hne3 : ((x + y) != (x + y)) = false := by simp
            go_wp2_with fail
            go_quiet (fail)
            go_wp2_with fail
            go_roundg gg
            case measure => omega
            case rel => exact ⟨j + 1, by omega, by go_num, bdN hb _⟩
end Go.Proofs.Ytfikdnmbnbkchaa

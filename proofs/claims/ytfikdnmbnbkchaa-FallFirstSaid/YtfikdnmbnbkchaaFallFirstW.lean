/- lombardlaw10.FallFirst: the first of the order first. -/
import Derived.Test.YtfikdnmbnbkchaaPayLawsB
import Derived.Test.YtfikdnmbnbkchaaFallPayY
import Derived.Test.YtfikdnmbnbkchaaRankMirrorW
import Derived.Test.YtfikdnmbnbkchaaRefRank
import Derived.Deep.CutBlock
import Derived.IntWalk
namespace Go.Proofs.Ytfikdnmbnbkchaa
open Go.RowKit

/-- Are the first k of an order full? -/
def fullO (G B ks : List Int) : Nat → Bool
  | 0 => true
  | k + 1 => fullO G B ks k && decide (G.getD (at_ ks k) 0 = B.getD (at_ ks k) 0)
theorem fullO_all {G B ks : List Int} (k : Nat) (h : ∀ i, i < k → G.getD (at_ ks i) 0 = B.getD (at_ ks i) 0) : fullO G B ks k = true := by
  induction k with
  | zero => rfl
  | succ k ih => rw [fullO, ih (fun i hi => h i (by omega)), h k (by omega)]; simp
theorem first_ok {G B ks : List Int} {n : Nat} {a : Int} (ho : Ord ks n) (hl : B.length = n) (hb : ∀ x ∈ B, 0 ≤ x) (ha : 0 ≤ a) (hG : ∀ j, j < n → G.getD j 0 = (filled B ks a).1.getD j 0) {k : Nat} (hk : k < n) (h : 0 < G.getD (at_ ks k) 0) : fullO G B ks k = true := by
  refine fullO_all k fun i hi => ?_
  have h1 := at_lt ho hk
  have h2 := at_lt ho (show i < n by omega)
  rw [hG _ h1] at h
  rw [hG _ h2]
  exact filled_first ho hl hb ha hi hk h

set_option maxRecDepth 100000 in
set_option maxHeartbeats 800000 in
theorem fallFirst_any (v u : Value) (bs rs : List Int) (amount : Int) (all : Bool) (w : World) (hv : Sl .i64 w v bs) (hu : Sl .i64 w u rs) :
    Calls Try.prog 10 #[v, u, .int .i64 amount, .bool all] w (RetB (.bool true) w) := by
  have HV := Lib.hid hv
  have HU := Lib.hid hu
  obtain ⟨ao, cap, rfl, h1, ⟨h2, _⟩, h3⟩ := hv
  obtain ⟨ao', cap', rfl, h1', ⟨h2', _⟩, h3'⟩ := hu
  clear h3 h3'
  unfold maxLen at h2 h2'
  obtain ⟨i0, hi, hz0, hz1, hz2⟩ := info_parts info_mirror
  obtain ⟨n, hN⟩ : ∃ n : Nat, Hid (n = min (min bs.length rs.length) 8) := ⟨_, Lib.hid rfl⟩
  have hn1 : n ≤ bs.length := by have := hN.out; omega
  have hn2 : n ≤ rs.length := by have := hN.out; omega
  have hn8 : n ≤ 8 := by have := hN.out; omega
  go_enter Try.func10, Try.ntmps10
  go_upto_block 0 with fail
  have hc : (if (8 : Int) < (if rs.length < bs.length then (rs.length : Int) else (bs.length : Int)) then (8 : Int) else if rs.length < bs.length then (rs.length : Int) else (bs.length : Int)) = (n : Int) := by
    rw [hN.out]
    repeat (first | omega | split)
  rw [hc]
  clear hc
  go_cut [10, 11] (fun s al wr => Two w wr s al (small 1000 bs n) (small 8 rs n))
  case first =>
    go_wp2_with fail
    go_loopg [10, 11, 12] n (fun g s al i wr => ∃ k : Nat, k + g = n ∧ i = .int .i64 k ∧ Two w wr s al (small 1000 bs k) (small 8 rs k))
    case atStart => exact ⟨0, by omega, rfl, World.ownsRow_nil _ _ _ _, World.ownsRow_nil _ _ _ _, .inl rfl, Below.refl _ _⟩
    case round =>
      obtain ⟨k, hkg, rfl, hT⟩ := hrel
      cases gk with
      | zero =>
        have hlt : ¬ ((k : Int) < (n : Int)) := by omega
        obtain rfl : k = n := by omega
        go_wp2
        go_meet
        case rel => exact hT
      | succ g =>
        have hlt : (k : Int) < (n : Int) := by omega
        have hkb : k < bs.length := by omega
        have hkr : k < rs.length := by omega
        have hlb := small_length (m := 1000) (xs := bs) (n := k) (by omega)
        have hlr := small_length (m := 8) (xs := rs) (n := k) (by omega)
        obtain ⟨hA, hB, hap, hb⟩ := hT
        obtain ⟨b0, o0, x, rfl, hcx, hx⟩ := (HV.out.below hb).get (i := k) hkb
        obtain ⟨b1, o1, y, rfl, hcw, hy⟩ := HU.out.get (i := k) hkr
        have hbs := hb.size
        have hcK : Hid (∀ W, Below w.heap.size w W → W.cell? ⟨b1, o1 + k, none⟩ = some (.int .i64 y)) := Lib.hid fun W h => (h.cell (p := ⟨b1, o1 + k, none⟩) (cell_block_lt hcw)).trans hcw
        clear hcw
        have hkc : k < cap ∧ k < cap' := by omega
        go_wp2_with (first
          | (at_builtin; refine wpList_append_where _ rfl (.tmp 32) (.tmp 40) 22 rfl w.heap.size 2 i0 (.int .i64 0) 1 8 Try.underlying22 hi hz0 hz1 hz2 rfl (by decide) _ _ _ rfl (hA.alloc _) ⟨wr.heap.size, 0, none⟩ 1 1 [_] rfl rfl (cell_one_new _ _ _) (fun x hx => by simp at hx; subst hx; rfl) (by unfold maxLen; omega) (by omega) (by simp; omega) ?_; intro v1 w1 hown1 hg1 hbk1; have hB1 := (hB.alloc _).kept hg1 (apart_or hap); have hz1' := hg1.size; simp only [World.size_alloc] at hz1'; have hb1 := (hb.alloc hbs (.cells #[.int .i64 (wrap64 ((IntKind.u64.wrap x).tmod 1000))] 2)).grown hg1 (by rw [World.size_alloc]; omega) (fun k hk => (hA.lt k hk).1); have hcy := hcK.out _ hb1)
          | (at_builtin; refine wpList_append_where _ rfl (.tmp 42) (.tmp 50) 22 rfl w.heap.size 2 i0 (.int .i64 0) 1 8 Try.underlying22 hi hz0 hz1 hz2 rfl (by decide) _ _ _ rfl (hB1.alloc _) ⟨w1.heap.size, 0, none⟩ 1 1 [_] rfl rfl (cell_one_new _ _ _) (fun x hx => by simp at hx; subst hx; rfl) (by unfold maxLen; omega) (by omega) (by rw [World.size_alloc]; omega) ?_; intro v2 w2 hown2 hg2 hbk2))
        have hb2 : Below w.heap.size w w2 := (hb1.alloc (by omega) _).grown hg2 (by rw [World.size_alloc]; omega) (fun k hk => (hB1.lt k hk).1)
        have hap2 : v1.ownBlock = none ∨ v2.ownBlock = none ∨ v1.ownBlock ≠ v2.ownBlock := apart_two (s := wr.heap.size) hap hbk1 hbk2 (fun k hk => by have := (hA.lt k hk).2; omega) (fun k hk => by have := (hB.lt k hk).2; omega) (by rw [World.size_alloc]; omega) (by simp only [World.size_alloc]; omega)
        have hA2 := (hown1.alloc (.cells #[.int .i64 (wrap64 ((IntKind.u64.wrap y).tmod 8))] 2)).kept hg2 (apart_one hap hbk1 (fun k hk => by have := (hB.lt k hk).2; rw [World.size_alloc]; omega))
        have HT : Hid (Two w w2 v1 v2 (small 1000 bs (k + 1)) (small 8 rs (k + 1))) := by
          rw [small_succ hkb, small_succ hkr, hx.out, hy.out]
          exact Lib.hid ⟨by simpa using hA2, by simpa using hown2, hap2, hb2⟩
        clear hA2 hap2 hb2 hown1 hown2 hg1 hg2 hbk1 hbk2 hA hB hB1 hap hb hb1
        go_wp2_with fail
        go_roundg g
        case measure => omega
        case rel => exact ⟨k + 1, by omega, by go_num, HT.out⟩
  case rest =>
    have hB := small_range (m := 1000) (xs := bs) (n := n) (by decide) (by decide)
    have hBl := small_length (m := 1000) hn1
    have hRl := small_length (m := 8) hn2
    generalize small 1000 bs n = B at hcut hB hBl
    generalize small 8 rs n = R at hcut hRl
    obtain ⟨hA, hC, _, hb⟩ := hcut
    have HB0 := Lib.hid hb
    have hSB := Lib.hid (Sl.of_own (k := .i64) hA rfl)
    have hSR := Lib.hid (Sl.of_own (k := .i64) hC rfl)
    obtain ⟨aB, cB, rfl, mB, ⟨nB, _⟩, _⟩ := hSB.out
    obtain ⟨aR, cR, rfl, mR, ⟨nR, _⟩, _⟩ := hSR.out
    rw [hBl] at mB hSB
    rw [hRl] at mR hSR
    clear hA hC hb HV HU hz0 hz1 hz2 hi h1 h2 h1' h2'
    cases all with
    | false =>
      go_wp2_with fail
      have hM := modu_bd amount 4000 (by decide) (by decide)
      generalize wrap64 ((IntKind.u64.wrap amount).tmod 4000) = M at hM ⊢
      refine (refHigh_any _ R _ hSR.out (by omega)).mono ?_
      rintro e wh ⟨uh, rfl, hs1, hbh⟩
      have hbo : Below wc.heap.size wc wh := (by repeat (first | exact Below.refl _ _ | refine bl_al ?_ _ | refine bl_dr ?_ | refine bl_dN ?_ _ | refine bl_tr ?_ (by assumption)))
      obtain ⟨G, left, hr, hGl, -, hG⟩ := pay_one false hBl hRl hB (a := M) ⟨hM.1, by omega⟩
      simp only [Bool.false_eq_true, if_false, ordOf] at hr hG
      go_wp2_with fail
      refine (fallPay_any _ _ B R 0 0 M _ (Lib.hid hr) _ (hSB.out.below hbo) (hSR.out.below hbo) (by omega)).mono ?_
      rintro e w1 ⟨u1, rfl, hs2, hb1⟩
      clear hr
      simp only at hs2 ⊢
      go_wp2_with fail
      refine (awake10_any _).mono ?_
      rintro e w2 ⟨rfl, hb2⟩
      have hK : ∃ K : List Int, K = rankL ltHigh R R.length := ⟨_, rfl⟩
      obtain ⟨K, hK⟩ := hK
      have hs1' : Sl .i64 wh uh K := by rw [hK]; exact hs1
      have HO : Hid (Ord K n) := Lib.hid (by rw [hK, hRl]; exact rank_ord _ _ _)
      rw [← hK] at hG
      clear hK hs1
      have LK := Lib.hid (hs1'.below ((by repeat (first | exact Below.refl _ _ | refine bl_al ?_ _ | refine bl_dr ?_ | refine bl_dN ?_ _ | refine bl_tr ?_ (by assumption))) : Below wh.heap.size wh w2))
      have L1 := Lib.hid (hs2.below ((by repeat (first | exact Below.refl _ _ | refine bl_al ?_ _ | refine bl_dr ?_ | refine bl_dN ?_ _ | refine bl_tr ?_ (by assumption))) : Below w1.heap.size w1 w2))
      have LB : Hid (Sl .i64 w2 (.slice aB n cB) B) := Lib.hid (hSB.out.below (by repeat (first | exact Below.refl _ _ | refine bl_al ?_ _ | refine bl_dr ?_ | refine bl_dN ?_ _ | refine bl_tr ?_ (by assumption))))
      have HB2 : Hid (Below w.heap.size w w2) := Lib.hid (bl_tr HB0.out (by repeat (first | exact Below.refl _ _ | refine bl_al ?_ _ | refine bl_dr ?_ | refine bl_dN ?_ _ | refine bl_tr ?_ (by assumption))))
      obtain ⟨a1, c1, rfl, m1, ⟨n1, _⟩, _⟩ := hs2
      obtain ⟨aK, cK, rfl, mK, ⟨nK, _⟩, _⟩ := hs1'
      have hKl := HO.out.len
      rw [hGl] at m1 L1 ⊢
      rw [hKl] at mK LK ⊢
      clear hKl hb1 hb2 hbo
      have hne1 : ((n : Int) != (n : Int)) = false := by simp
      go_wp2_with fail
      clear hne1
      have HF : Hid (∀ k, k < n → 0 < G.getD (at_ K k) 0 → fullO G B K k = true) := Lib.hid fun k hk h => first_ok HO.out hBl (fun x hx => (hB x hx).1) hM.1 hG hk h
      clear hG hB
      go_loopg [19, 20] n (fun g f i wr => ∃ k : Nat, k + g = n ∧ f = .bool (fullO G B K k) ∧ i = .int .i64 k ∧ Below w2.heap.size w2 wr)
      case atStart => exact ⟨0, by omega, rfl, rfl, Below.refl _ _⟩
      case round =>
        obtain ⟨k, hkg, rfl, rfl, hb⟩ := hrel
        cases gk with
        | zero =>
          have hlt : ¬ ((k : Int) < (n : Int)) := by omega
          go_wp2
          go_ret
          exact ⟨rfl, bl_tr HB2.out hb⟩
        | succ g =>
          have hlt : (k : Int) < (n : Int) := by omega
          obtain ⟨p0, q0, z, rfl, hz, hzv⟩ := (LK.out.below hb).get (i := k) (by have := HO.out.len; omega)
          have hzr := HO.out.rng k (by omega)
          rw [hzv.out] at hzr
          obtain ⟨m, rfl⟩ : ∃ m : Nat, z = (m : Int) + 1 := ⟨(z - 1).toNat, by omega⟩
          have hat : Hid (at_ K k = m) := Lib.hid (by unfold at_; rw [hzv.out]; omega)
          have hmn : m < n := by omega
          have hmi : (m : Int) < (n : Int) := by omega
          obtain ⟨p1, q1, x, rfl, hx, hxv⟩ := (L1.out.below hb).get (i := m) (by omega)
          obtain ⟨p2, q2, y, rfl, hy, hyv⟩ := (LB.out.below hb).get (i := m) (by omega)
          have hk1 : k < cK ∧ m < c1 ∧ m < cB := by omega
          have hfx : 0 < x → fullO G B K k = true := fun h => HF.out k (by omega) (by rw [hat.out, hxv.out]; exact h)
          have E2 : Hid (fullO G B K (k + 1) = (fullO G B K k && decide (x = y))) := Lib.hid (by rw [fullO, hat.out, hxv.out, hyv.out])
          generalize fullO G B K k = F at E2 hfx ⊢
          have hw1 : wrap64 ((m : Int) + 1 - 1) = (m : Int) := by
            rw [IntWalk.wrap64_in _ ⟨by omega, by omega⟩]; omega
          by_cases exy : x = y
          · have g3 : decide (x = y) = true := by simp [exy]
            have g3' : (x == y) = true := by simp [exy]
            rw [g3] at E2
            clear exy
            by_cases hx0 : 0 < x
            · obtain rfl := hfx hx0
              clear hfx
              go_wp2_with fail
              go_quiet (fail)
              go_wp2_with fail
              go_roundg g
              case measure => omega
              case rel => exact ⟨k + 1, by omega, by rw [E2.out]; rfl, by go_num, bdN hb _⟩
            · clear hfx
              cases F with
              | true =>
                go_wp2_with fail
                go_quiet (fail)
                go_wp2_with fail
                go_roundg g
                case measure => omega
                case rel => exact ⟨k + 1, by omega, by rw [E2.out]; rfl, by go_num, bdN hb _⟩
              | false =>
                go_wp2_with fail
                go_quiet (fail)
                go_wp2_with fail
                go_roundg g
                case measure => omega
                case rel => exact ⟨k + 1, by omega, by rw [E2.out]; rfl, by go_num, bdN hb _⟩
          · have g3 : decide (x = y) = false := by simp [exy]
            have g3' : (x == y) = false := by simp [exy]
            rw [g3] at E2
            clear exy
            by_cases hx0 : 0 < x
            · obtain rfl := hfx hx0
              clear hfx
              go_wp2_with fail
              go_quiet (fail)
              go_wp2_with fail
              go_roundg g
              case measure => omega
              case rel => exact ⟨k + 1, by omega, by rw [E2.out]; rfl, by go_num, bdN hb _⟩
            · clear hfx
              cases F with
              | true =>
                go_wp2_with fail
                go_quiet (fail)
                go_wp2_with fail
                go_roundg g
                case measure => omega
                case rel => exact ⟨k + 1, by omega, by rw [E2.out]; rfl, by go_num, bdN hb _⟩
              | false =>
                go_wp2_with fail
                go_quiet (fail)
                go_wp2_with fail
                go_roundg g
                case measure => omega
                case rel => exact ⟨k + 1, by omega, by rw [E2.out]; rfl, by go_num, bdN hb _⟩
    | true =>
      go_wp2_with fail
      have hM := modu_bd amount 4000 (by decide) (by decide)
      generalize wrap64 ((IntKind.u64.wrap amount).tmod 4000) = M at hM ⊢
      refine (refHigh_any _ R _ hSR.out (by omega)).mono ?_
      rintro e wh ⟨uh, rfl, hsx, hbh⟩
      go_wp2_with fail
      refine (refLow_any _ R _ (hSR.out.below (by repeat (first | exact Below.refl _ _ | refine bl_al ?_ _ | refine bl_dr ?_ | refine bl_dN ?_ _ | refine bl_tr ?_ (by assumption)))) (by omega)).mono ?_
      rintro e wl ⟨ul, rfl, hs1, hbl⟩
      have hbo : Below wc.heap.size wc wl := (by repeat (first | exact Below.refl _ _ | refine bl_al ?_ _ | refine bl_dr ?_ | refine bl_dN ?_ _ | refine bl_tr ?_ (by assumption)))
      obtain ⟨G, left, hr, hGl, -, hG⟩ := pay_one true hBl hRl hB (a := M) ⟨hM.1, by omega⟩
      simp only [if_true, ordOf] at hr hG
      go_wp2_with fail
      refine (fallPay_any _ _ B R 0 M M _ (Lib.hid hr) _ (hSB.out.below hbo) (hSR.out.below hbo) (by omega)).mono ?_
      rintro e w1 ⟨u1, rfl, hs2, hb1⟩
      clear hr
      simp only at hs2 ⊢
      go_wp2_with fail
      refine (awake10_any _).mono ?_
      rintro e w2 ⟨rfl, hb2⟩
      have hK : ∃ K : List Int, K = rankL ltLow R R.length := ⟨_, rfl⟩
      obtain ⟨K, hK⟩ := hK
      have hs1' : Sl .i64 wl ul K := by rw [hK]; exact hs1
      have HO : Hid (Ord K n) := Lib.hid (by rw [hK, hRl]; exact rank_ord _ _ _)
      rw [← hK] at hG
      clear hK hs1
      have LK := Lib.hid (hs1'.below ((by repeat (first | exact Below.refl _ _ | refine bl_al ?_ _ | refine bl_dr ?_ | refine bl_dN ?_ _ | refine bl_tr ?_ (by assumption))) : Below wl.heap.size wl w2))
      have L1 := Lib.hid (hs2.below ((by repeat (first | exact Below.refl _ _ | refine bl_al ?_ _ | refine bl_dr ?_ | refine bl_dN ?_ _ | refine bl_tr ?_ (by assumption))) : Below w1.heap.size w1 w2))
      have LB : Hid (Sl .i64 w2 (.slice aB n cB) B) := Lib.hid (hSB.out.below (by repeat (first | exact Below.refl _ _ | refine bl_al ?_ _ | refine bl_dr ?_ | refine bl_dN ?_ _ | refine bl_tr ?_ (by assumption))))
      have HB2 : Hid (Below w.heap.size w w2) := Lib.hid (bl_tr HB0.out (by repeat (first | exact Below.refl _ _ | refine bl_al ?_ _ | refine bl_dr ?_ | refine bl_dN ?_ _ | refine bl_tr ?_ (by assumption))))
      obtain ⟨a1, c1, rfl, m1, ⟨n1, _⟩, _⟩ := hs2
      obtain ⟨aK, cK, rfl, mK, ⟨nK, _⟩, _⟩ := hs1'
      have hKl := HO.out.len
      rw [hGl] at m1 L1 ⊢
      rw [hKl] at mK LK ⊢
      clear hKl hb1 hb2 hbo
      have hne1 : ((n : Int) != (n : Int)) = false := by simp
      go_wp2_with fail
      clear hne1
      have HF : Hid (∀ k, k < n → 0 < G.getD (at_ K k) 0 → fullO G B K k = true) := Lib.hid fun k hk h => first_ok HO.out hBl (fun x hx => (hB x hx).1) hM.1 hG hk h
      clear hG hB
      go_loopg [19, 20] n (fun g f i wr => ∃ k : Nat, k + g = n ∧ f = .bool (fullO G B K k) ∧ i = .int .i64 k ∧ Below w2.heap.size w2 wr)
      case atStart => exact ⟨0, by omega, rfl, rfl, Below.refl _ _⟩
      case round =>
        obtain ⟨k, hkg, rfl, rfl, hb⟩ := hrel
        cases gk with
        | zero =>
          have hlt : ¬ ((k : Int) < (n : Int)) := by omega
          go_wp2
          go_ret
          exact ⟨rfl, bl_tr HB2.out hb⟩
        | succ g =>
          have hlt : (k : Int) < (n : Int) := by omega
          obtain ⟨p0, q0, z, rfl, hz, hzv⟩ := (LK.out.below hb).get (i := k) (by have := HO.out.len; omega)
          have hzr := HO.out.rng k (by omega)
          rw [hzv.out] at hzr
          obtain ⟨m, rfl⟩ : ∃ m : Nat, z = (m : Int) + 1 := ⟨(z - 1).toNat, by omega⟩
          have hat : Hid (at_ K k = m) := Lib.hid (by unfold at_; rw [hzv.out]; omega)
          have hmn : m < n := by omega
          have hmi : (m : Int) < (n : Int) := by omega
          obtain ⟨p1, q1, x, rfl, hx, hxv⟩ := (L1.out.below hb).get (i := m) (by omega)
          obtain ⟨p2, q2, y, rfl, hy, hyv⟩ := (LB.out.below hb).get (i := m) (by omega)
          have hk1 : k < cK ∧ m < c1 ∧ m < cB := by omega
          have hfx : 0 < x → fullO G B K k = true := fun h => HF.out k (by omega) (by rw [hat.out, hxv.out]; exact h)
          have E2 : Hid (fullO G B K (k + 1) = (fullO G B K k && decide (x = y))) := Lib.hid (by rw [fullO, hat.out, hxv.out, hyv.out])
          generalize fullO G B K k = F at E2 hfx ⊢
          have hw1 : wrap64 ((m : Int) + 1 - 1) = (m : Int) := by
            rw [IntWalk.wrap64_in _ ⟨by omega, by omega⟩]; omega
          by_cases exy : x = y
          · have g3 : decide (x = y) = true := by simp [exy]
            have g3' : (x == y) = true := by simp [exy]
            rw [g3] at E2
            clear exy
            by_cases hx0 : 0 < x
            · obtain rfl := hfx hx0
              clear hfx
              go_wp2_with fail
              go_quiet (fail)
              go_wp2_with fail
              go_roundg g
              case measure => omega
              case rel => exact ⟨k + 1, by omega, by rw [E2.out]; rfl, by go_num, bdN hb _⟩
            · clear hfx
              cases F with
              | true =>
                go_wp2_with fail
                go_quiet (fail)
                go_wp2_with fail
                go_roundg g
                case measure => omega
                case rel => exact ⟨k + 1, by omega, by rw [E2.out]; rfl, by go_num, bdN hb _⟩
              | false =>
                go_wp2_with fail
                go_quiet (fail)
                go_wp2_with fail
                go_roundg g
                case measure => omega
                case rel => exact ⟨k + 1, by omega, by rw [E2.out]; rfl, by go_num, bdN hb _⟩
          · have g3 : decide (x = y) = false := by simp [exy]
            have g3' : (x == y) = false := by simp [exy]
            rw [g3] at E2
            clear exy
            by_cases hx0 : 0 < x
            · obtain rfl := hfx hx0
              clear hfx
              go_wp2_with fail
              go_quiet (fail)
              go_wp2_with fail
              go_roundg g
              case measure => omega
              case rel => exact ⟨k + 1, by omega, by rw [E2.out]; rfl, by go_num, bdN hb _⟩
            · clear hfx
              cases F with
              | true =>
                go_wp2_with fail
                go_quiet (fail)
                go_wp2_with fail
                go_roundg g
                case measure => omega
                case rel => exact ⟨k + 1, by omega, by rw [E2.out]; rfl, by go_num, bdN hb _⟩
              | false =>
                go_wp2_with fail
                go_quiet (fail)
                go_wp2_with fail
                go_roundg g
                case measure => omega
                case rel => exact ⟨k + 1, by omega, by rw [E2.out]; rfl, by go_num, bdN hb _⟩
end Go.Proofs.Ytfikdnmbnbkchaa

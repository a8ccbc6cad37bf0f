/- lombardlaw10.FallAll: what goes, and what is left, is the amount. -/
import Derived.Test.YtfikdnmbnbkchaaPayLawsB
import Derived.Test.YtfikdnmbnbkchaaFallPayY
import Derived.Test.YtfikdnmbnbkchaaRankMirrorW
import Derived.Deep.CutBlock
import Derived.IntWalk
namespace Go.Proofs.Ytfikdnmbnbkchaa
open Go.RowKit

/-- The sum of the first k. -/
def runS (G : List Int) : Nat → Int
  | 0 => 0
  | k + 1 => runS G k + G.getD k 0
theorem runS_take (G : List Int) (k : Nat) (h : k ≤ G.length) : runS G k = (G.take k).sum := by
  induction k with
  | zero => rfl
  | succ k ih =>
    have e : G.take (k + 1) = G.take k ++ [G[k]] := List.take_succ_eq_append_getElem (by omega)
    have e2 : G.getD k 0 = G[k] := by simp [List.getD, show k < G.length by omega]
    rw [runS, e, ih (by omega), e2, List.sum_append]
    simp
theorem runS_all (G : List Int) : runS G G.length = G.sum := by rw [runS_take G _ (Nat.le_refl _), List.take_length]
theorem runS_range {G : List Int} {n : Nat} (h : ∀ j, j < n → 0 ≤ G.getD j 0 ∧ G.getD j 0 < 1000) (k : Nat) (hk : k ≤ n) : 0 ≤ runS G k ∧ runS G k ≤ 1000 * k := by
  induction k with
  | zero => simp [runS]
  | succ k ih =>
    have h1 := ih (by omega)
    have h2 := h k (by omega)
    simp only [runS]
    omega
/-- Are the first k full? -/
def fullB (G B : List Int) : Nat → Bool
  | 0 => true
  | k + 1 => fullB G B k && decide (G.getD k 0 = B.getD k 0)
theorem fullB_all {G B : List Int} {n : Nat} (h : ∀ j, j < n → G.getD j 0 = B.getD j 0) (k : Nat) (hk : k ≤ n) : fullB G B k = true := by
  induction k with
  | zero => rfl
  | succ k ih => rw [fullB, ih (by omega), h k (by omega)]; simp

set_option maxRecDepth 100000 in
set_option maxHeartbeats 800000 in
theorem fallAll_any (v u : Value) (bs rs : List Int) (due amount : Int) (w : World) (hv : Sl .i64 w v bs) (hu : Sl .i64 w u rs) :
    Calls Try.prog 9 #[v, u, .int .i64 due, .int .i64 amount] w (RetB (.bool true) w) := by
  have HV := Lib.hid hv
  have HU := Lib.hid hu
  obtain ⟨ao, cap, rfl, h1, ⟨h2, _⟩, h3⟩ := hv
  obtain ⟨ao', cap', rfl, h1', ⟨h2', _⟩, h3'⟩ := hu
  clear h3 h3'
  unfold maxLen at h2 h2'
  obtain ⟨i0, hi, hz0, hz1, hz2⟩ := info_parts info_mirror
  obtain ⟨n, hN⟩ : ∃ n : Nat, Hid (n = min (min bs.length rs.length) 8) := ⟨_, Lib.hid rfl⟩
  have hn1 : n ≤ bs.length := by have := hN.out; omega
  have hn2 : n ≤ rs.length := by have := hN.out; omega
  have hn8 : n ≤ 8 := by have := hN.out; omega
  go_enter Try.func9, Try.ntmps9
  go_upto_block 0 with fail
  have hc : (if (8 : Int) < (if rs.length < bs.length then (rs.length : Int) else (bs.length : Int)) then (8 : Int) else if rs.length < bs.length then (rs.length : Int) else (bs.length : Int)) = (n : Int) := by
    rw [hN.out]
    repeat (first | omega | split)
  rw [hc]
  clear hc
  go_cut [10, 11] (fun s al wr => Two w wr s al (small 1000 bs n) (small 8 rs n))
  case first =>
    go_wp2_with fail
    go_loopg [10, 11, 12] n (fun g s al i wr => ∃ k : Nat, k + g = n ∧ i = .int .i64 k ∧ Two w wr s al (small 1000 bs k) (small 8 rs k))
    case atStart => exact ⟨0, by omega, rfl, World.ownsRow_nil _ _ _ _, World.ownsRow_nil _ _ _ _, .inl rfl, Below.refl _ _⟩
    case round =>
      obtain ⟨k, hkg, rfl, hT⟩ := hrel
      cases gk with
      | zero =>
        have hlt : ¬ ((k : Int) < (n : Int)) := by omega
        obtain rfl : k = n := by omega
        go_wp2
        go_meet
        case rel => exact hT
      | succ g =>
        have hlt : (k : Int) < (n : Int) := by omega
        have hkb : k < bs.length := by omega
        have hkr : k < rs.length := by omega
        have hlb := small_length (m := 1000) (xs := bs) (n := k) (by omega)
        have hlr := small_length (m := 8) (xs := rs) (n := k) (by omega)
        obtain ⟨hA, hB, hap, hb⟩ := hT
        obtain ⟨b0, o0, x, rfl, hcx, hx⟩ := (HV.out.below hb).get (i := k) hkb
        obtain ⟨b1, o1, y, rfl, hcw, hy⟩ := HU.out.get (i := k) hkr
        have hbs := hb.size
        have hcK : Hid (∀ W, Below w.heap.size w W → W.cell? ⟨b1, o1 + k, none⟩ = some (.int .i64 y)) := Lib.hid fun W h => (h.cell (p := ⟨b1, o1 + k, none⟩) (cell_block_lt hcw)).trans hcw
        clear hcw
        have hkc : k < cap ∧ k < cap' := by omega
        go_wp2_with (first
          | (at_builtin; refine wpList_append_where _ rfl (.tmp 30) (.tmp 38) 22 rfl w.heap.size 2 i0 (.int .i64 0) 1 8 Try.underlying22 hi hz0 hz1 hz2 rfl (by decide) _ _ _ rfl (hA.alloc _) ⟨wr.heap.size, 0, none⟩ 1 1 [_] rfl rfl (cell_one_new _ _ _) (fun x hx => by simp at hx; subst hx; rfl) (by unfold maxLen; omega) (by omega) (by simp; omega) ?_; intro v1 w1 hown1 hg1 hbk1; have hB1 := (hB.alloc _).kept hg1 (apart_or hap); have hz1' := hg1.size; simp only [World.size_alloc] at hz1'; have hb1 := (hb.alloc hbs (.cells #[.int .i64 (wrap64 ((IntKind.u64.wrap x).tmod 1000))] 2)).grown hg1 (by rw [World.size_alloc]; omega) (fun k hk => (hA.lt k hk).1); have hcy := hcK.out _ hb1)
          | (at_builtin; refine wpList_append_where _ rfl (.tmp 40) (.tmp 48) 22 rfl w.heap.size 2 i0 (.int .i64 0) 1 8 Try.underlying22 hi hz0 hz1 hz2 rfl (by decide) _ _ _ rfl (hB1.alloc _) ⟨w1.heap.size, 0, none⟩ 1 1 [_] rfl rfl (cell_one_new _ _ _) (fun x hx => by simp at hx; subst hx; rfl) (by unfold maxLen; omega) (by omega) (by rw [World.size_alloc]; omega) ?_; intro v2 w2 hown2 hg2 hbk2))
        have hb2 : Below w.heap.size w w2 := (hb1.alloc (by omega) _).grown hg2 (by rw [World.size_alloc]; omega) (fun k hk => (hB1.lt k hk).1)
        have hap2 : v1.ownBlock = none ∨ v2.ownBlock = none ∨ v1.ownBlock ≠ v2.ownBlock := apart_two (s := wr.heap.size) hap hbk1 hbk2 (fun k hk => by have := (hA.lt k hk).2; omega) (fun k hk => by have := (hB.lt k hk).2; omega) (by rw [World.size_alloc]; omega) (by simp only [World.size_alloc]; omega)
        have hA2 := (hown1.alloc (.cells #[.int .i64 (wrap64 ((IntKind.u64.wrap y).tmod 8))] 2)).kept hg2 (apart_one hap hbk1 (fun k hk => by have := (hB.lt k hk).2; rw [World.size_alloc]; omega))
        have HT : Hid (Two w w2 v1 v2 (small 1000 bs (k + 1)) (small 8 rs (k + 1))) := by
          rw [small_succ hkb, small_succ hkr, hx.out, hy.out]
          exact Lib.hid ⟨by simpa using hA2, by simpa using hown2, hap2, hb2⟩
        clear hA2 hap2 hb2 hown1 hown2 hg1 hg2 hbk1 hbk2 hA hB hB1 hap hb hb1
        go_wp2_with fail
        go_roundg g
        case measure => omega
        case rel => exact ⟨k + 1, by omega, by go_num, HT.out⟩

  case rest =>
    have hB := small_range (m := 1000) (xs := bs) (n := n) (by decide) (by decide)
    have hBl := small_length (m := 1000) hn1
    have hRl := small_length (m := 8) hn2
    generalize small 1000 bs n = B at hcut hB hBl
    generalize small 8 rs n = R at hcut hRl
    obtain ⟨hA, hC, _, hb⟩ := hcut
    have HB0 := Lib.hid hb
    have hSB := Lib.hid (Sl.of_own (k := .i64) hA rfl)
    have hSR := Lib.hid (Sl.of_own (k := .i64) hC rfl)
    obtain ⟨aB, cB, rfl, mB, ⟨nB, _⟩, _⟩ := hSB.out
    obtain ⟨aR, cR, rfl, mR, ⟨nR, _⟩, _⟩ := hSR.out
    rw [hBl] at mB hSB
    rw [hRl] at mR hSR
    clear hA hC hb HV HU hz0 hz1 hz2 hi h1 h2 h1' h2'
    go_wp2_with fail
    have hD := modu_bd due 2000 (by decide) (by decide)
    have hM := modu_bd amount 9000 (by decide) (by decide)
    generalize wrap64 ((IntKind.u64.wrap due).tmod 2000) = D at hD ⊢
    generalize wrap64 ((IntKind.u64.wrap amount).tmod 9000) = M at hM ⊢
    obtain ⟨G, left, hr, hGl, hl0, hlM, hsum, hrg, hfl⟩ := pay_all (due := D) (a := M) hBl hRl hB ⟨hD.1, by omega⟩ ⟨hM.1, by omega⟩
    refine (fallPay_any _ _ B R 0 D M _ (Lib.hid hr) _ hSB.out hSR.out (by omega)).mono ?_
    rintro e w1 ⟨u1, rfl, hs1, hb1⟩
    clear hr
    simp only at hs1 ⊢
    go_wp2_with fail
    refine (awake10_any _).mono ?_
    rintro e w2 ⟨rfl, hb2⟩
    have L1 := Lib.hid (hs1.below ((by repeat (first | exact Below.refl _ _ | refine bl_al ?_ _ | refine bl_dr ?_ | refine bl_dN ?_ _ | refine bl_tr ?_ (by assumption))) : Below w1.heap.size w1 w2))
    obtain ⟨a1, c1, rfl, m1, ⟨n1, _⟩, _⟩ := hs1
    rw [hGl] at m1 ⊢
    have LB : Hid (Sl .i64 w2 (.slice aB n cB) B) := Lib.hid (hSB.out.below (by repeat (first | exact Below.refl _ _ | refine bl_al ?_ _ | refine bl_dr ?_ | refine bl_dN ?_ _ | refine bl_tr ?_ (by assumption))))
    have HB2 : Hid (Below w.heap.size w w2) := Lib.hid (bl_tr HB0.out (by repeat (first | exact Below.refl _ _ | refine bl_al ?_ _ | refine bl_dr ?_ | refine bl_dN ?_ _ | refine bl_tr ?_ (by assumption))))
    rw [hGl] at L1
    have hmin : (if M < D then M else D) = min M D := by split <;> omega
    generalize min M D = P at hmin ⊢
    have hne1 : ((n : Int) != (n : Int)) = false := by simp
    have hne2 : (P != P) = false := by simp
    have hlt0 : ¬ (left < 0) := by omega
    go_wp2_with fail
    clear hne1 hne2 hmin
    have HR := Lib.hid hrg
    have HF := Lib.hid hfl
    have HS := Lib.hid hsum
    clear hrg hfl hsum hlt0
    have hB' : ∀ j, j < n → B.getD j 0 < 1000 := fun j hj => (getD_rng hB (by omega)).2
    have HRN : Hid (∀ k, k ≤ n → 0 ≤ runS G k ∧ runS G k ≤ 1000 * k) := Lib.hid fun k hk => runS_range (n := n) (fun j hj => ⟨(HR.out j hj).1, by have := (HR.out j hj).2; have := hB' j hj; omega⟩) k hk
    go_loopg [17, 18, 19] n (fun g s f i wr => ∃ k : Nat, k + g = n ∧ s = .int .i64 (left + runS G k) ∧ f = .bool (fullB G B k) ∧ i = .int .i64 k ∧ Below w2.heap.size w2 wr)
    case atStart => exact ⟨0, by omega, by simp [runS], rfl, rfl, Below.refl _ _⟩
    case round =>
      obtain ⟨k, hkg, rfl, rfl, rfl, hb⟩ := hrel
      cases gk with
      | zero =>
        have hlt : ¬ ((k : Int) < (n : Int)) := by omega
        obtain rfl : k = n := by omega
        have e1 : left + runS G k = M := by
          rw [← hGl, runS_all]
          have := HS.out
          omega
        rw [e1]
        have hM1 : (M == M) = true := by simp
        by_cases h0 : left = 0
        · subst h0
          go_wp2
          go_ret
          exact ⟨rfl, bl_tr HB2.out hb⟩
        · have h0' : (left == 0) = false := by simp [h0]
          rw [fullB_all (HF.out (by omega)) k (Nat.le_refl _)]
          go_wp2
          go_ret
          exact ⟨rfl, bl_tr HB2.out hb⟩
      | succ g =>
        have hlt : (k : Int) < (n : Int) := by omega
        obtain ⟨p1, q1, x, rfl, hx, hxv⟩ := (L1.out.below hb).get (i := k) (by omega)
        obtain ⟨p2, q2, y, rfl, hy, hyv⟩ := (LB.out.below hb).get (i := k) (by omega)
        have hxr : 0 ≤ x ∧ x ≤ y := by rw [← hxv.out, ← hyv.out]; exact HR.out k (by omega)
        have hyr : y < 1000 := by rw [← hyv.out]; exact hB' k (by omega)
        have hk1 : k < c1 ∧ k < cB := by omega
        have g1 : decide (x < 0) = false := by simp; omega
        have g2 : decide (y < x) = false := by simp; omega
        have hrs := HRN.out k (by omega)
        have hadd : wrap64 (left + runS G k + x) = left + runS G k + x := IntWalk.wrap64_in _ ⟨by omega, by omega⟩
        have e1 : runS G (k + 1) = runS G k + x := by rw [runS, hxv.out]
        have e2 : fullB G B (k + 1) = (fullB G B k && decide (x = y)) := by rw [fullB, hxv.out, hyv.out]
        have E1 := Lib.hid e1
        have E2 := Lib.hid e2
        clear e1 e2
        generalize fullB G B k = F at E2 ⊢
        generalize runS G k = S at E1 hadd ⊢
        clear hrs
        go_wp2_with fail
        go_quiet (fail)
        go_wp2_with fail
        by_cases exy : x = y
        · have g3 : decide (x = y) = true := by simp [exy]
          have g3' : (x == y) = true := by simp [exy]
          rw [g3] at E2
          clear exy
          cases F with
          | true =>
            go_quiet (fail)
            go_wp2_with fail
            go_roundg g
            case measure => omega
            case rel => exact ⟨k + 1, by omega, by rw [E1.out, ← Int.add_assoc, hadd], by rw [E2.out]; rfl, by go_num, bdN hb _⟩
          | false =>
            go_quiet (fail)
            go_wp2_with fail
            go_roundg g
            case measure => omega
            case rel => exact ⟨k + 1, by omega, by rw [E1.out, ← Int.add_assoc, hadd], by rw [E2.out]; rfl, by go_num, bdN hb _⟩
        · have g3 : decide (x = y) = false := by simp [exy]
          have g3' : (x == y) = false := by simp [exy]
          rw [g3] at E2
          clear exy
          cases F with
          | true =>
            go_quiet (fail)
            go_wp2_with fail
            go_roundg g
            case measure => omega
            case rel => exact ⟨k + 1, by omega, by rw [E1.out, ← Int.add_assoc, hadd], by rw [E2.out]; rfl, by go_num, bdN hb _⟩
          | false =>
            go_quiet (fail)
            go_wp2_with fail
            go_roundg g
            case measure => omega
            case rel => exact ⟨k + 1, by omega, by rw [E1.out, ← Int.add_assoc, hadd], by rw [E2.out]; rfl, by go_num, bdN hb _⟩
end Go.Proofs.Ytfikdnmbnbkchaa

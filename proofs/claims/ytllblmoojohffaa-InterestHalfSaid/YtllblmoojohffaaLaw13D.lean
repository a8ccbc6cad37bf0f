/- InterestHalf. -/
import Derived.Test.YtllblmoojohffaaSmall
import Derived.Deep.CutBlock
import Derived.Deep.QuietTactic
import Derived.Deep.DeepCutAuto
import Derived.BigQuiet
namespace Go.Proofs.Ytllblmoojohffaa
open Go.RowKit EvM

/-- Two lists of days, of the same length, each number in its bounds. -/
def Days (xs ys : List Int) : Prop := xs.length = ys.length ∧ (∀ x ∈ xs, 0 ≤ x ∧ x < (1099511627776 : Nat)) ∧ ∀ y ∈ ys, 0 ≤ y ∧ y < (1000 : Nat)
theorem Days.snoc {xs ys : List Int} {x y : Int} (h : Days xs ys) (hx : 0 ≤ x ∧ x < (1099511627776 : Nat)) (hy : 0 ≤ y ∧ y < (1000 : Nat)) : Days (xs ++ [x]) (ys ++ [y]) := by
  obtain ⟨h1, h2, h3⟩ := h
  refine ⟨by simp [h1], ?_, ?_⟩
  · intro z hz
    rcases List.mem_append.1 hz with hz | hz
    · exact h2 z hz
    · obtain rfl := List.mem_singleton.1 hz; exact hx
  · intro z hz
    rcases List.mem_append.1 hz with hz | hz
    · exact h3 z hz
    · obtain rfl := List.mem_singleton.1 hz; exact hy
/-- What InterestHalf asks. -/
theorem half_facts {xs ys : List Int} (h : Days xs ys) (hn : xs.length ≤ 480) : ∃ v : Nat, interR xs ys = ((v : Int), 0) ∧ v ≤ 600000000 ∧ sumE xs ys xs.length ≤ 527765581332480000 ∧
    2 * ((sumE xs ys xs.length : Int) - v * 1000000000) ≤ 1000000000 ∧ -1000000000 ≤ 2 * ((sumE xs ys xs.length : Int) - v * 1000000000) := by
  obtain ⟨h1, h2, h3⟩ := h
  have aB : xs.any (overB 1000000000000000) = false := by
    rw [List.any_eq_false]
    intro x hx
    have := h2 x hx
    simp [overB]
    omega
  have aR : ys.any (overB 10000000) = false := by
    rw [List.any_eq_false]
    intro x hx
    have := h3 x hx
    simp [overB]
    omega
  have hok := okE_of h1 (by omega) aB aR
  have hbd := sumE_bd h2 h3 (by omega) (by omega) xs.length
  have hbd2 : xs.length * (1099511627776 * 1000) ≤ 480 * (1099511627776 * 1000) := Nat.mul_le_mul_right _ hn
  have hS : sumE xs ys xs.length ≤ 527765581332480000 := by omega
  have ho := even_off (sumE xs ys xs.length) 1000000000 (by omega)
  have hle := even_le (sumE xs ys xs.length) 1000000000
  generalize hSS : sumE xs ys xs.length = S at *
  have hv : evenN S 1000000000 ≤ 600000000 := by omega
  refine ⟨evenN S 1000000000, ?_, hv, hS, ?_, ?_⟩
  · unfold interR
    rw [if_pos hok, hSS]
    have e1 : S / 18446744073709551616 = 0 := Nat.div_eq_of_lt (by omega)
    have e2 : S % 18446744073709551616 = S := Nat.mod_eq_of_lt (by omega)
    have e3 : evQ ((0 : Nat) : Int) (S : Int) 1000000000 = (((evenN S 1000000000 : Nat) : Int), true) := by
      unfold evQ
      have t1 : (((0 : Nat) : Int) * 18446744073709551616 + (S : Int)).toNat = S := by omega
      have t2 : (1000000000 : Int).toNat = 1000000000 := by decide
      rw [if_neg (by omega), t1, t2, if_pos (by omega)]
    unfold ofR2
    rw [e1, e2, e3]
    exact if_pos ⟨rfl, by omega⟩
  · omega
  · omega
theorem days_at {xs ys : List Int} (h : Days xs ys) {k : Nat} {x y : Int} (hx : xs.getD k 0 = x) (hy : ys.getD k 0 = y) : ∃ P d : Int, x * y = P ∧ P / 1000000000 = d ∧ P.tdiv 1000000000 = d ∧ 0 ≤ P ∧ P ≤ 1099511627776000 ∧ 0 ≤ d ∧ d * 1000000000 ≤ P ∧ sumE xs ys (k + 1) = sumE xs ys k + P.toNat := by
  have a := getD_rngN h.2.1 (by omega) k
  have b := getD_rngN h.2.2 (by omega) k
  rw [hx] at a
  rw [hy] at b
  obtain ⟨X, rfl⟩ := Int.eq_ofNat_of_zero_le a.1
  obtain ⟨Y, rfl⟩ := Int.eq_ofNat_of_zero_le b.1
  have c : X * Y ≤ 1099511627776 * 1000 := mul_le2 (by omega) (by omega)
  have e : (X : Int) * (Y : Int) = ((X * Y : Nat) : Int) := (Int.natCast_mul X Y).symm
  have hs : sumE xs ys (k + 1) = sumE xs ys k + X * Y := by simp only [sumE, hx, hy, Int.toNat_natCast]
  rw [e]
  generalize X * Y = P at *
  refine ⟨(P : Int), _, rfl, rfl, ?_, by omega, by omega, by omega, by omega, ?_⟩
  · rw [Int.tdiv_eq_ediv_of_nonneg (by omega)]
  · rw [hs, Int.toNat_natCast]

set_option maxRecDepth 100000 in
set_option maxHeartbeats 3200000 in
theorem interestHalf_any (v u : Value) (bs rs : List Int) (times : Int) (w : World) (hv : Sl .i64 w v bs) (hu : Sl .i64 w u rs) :
    Calls Try.prog 3 #[v, u, .int .i64 times] w (RetB (.bool true) w) := by
  have HV := Lib.hid hv
  have HU := Lib.hid hu
  obtain ⟨ao, cap, rfl, h1, ⟨h2, _⟩, h3⟩ := hv
  obtain ⟨ao', cap', rfl, h1', ⟨h2', _⟩, h3'⟩ := hu
  clear h3 h3'
  unfold maxLen at h2 h2'
  obtain ⟨i0, hi, hz0, hz1, hz2⟩ := info_parts info_two
  obtain ⟨n, hN⟩ : ∃ n : Nat, Hid (n = min (min bs.length rs.length) 60) := ⟨_, Lib.hid rfl⟩
  have hn1 : n ≤ bs.length := by have := hN.out; omega
  have hn2 : n ≤ rs.length := by have := hN.out; omega
  have hn8 : n ≤ 60 := by have := hN.out; omega
  obtain ⟨T, kT, wT, hT⟩ := u64_rem3 times 8 (by omega) (by omega)
  have KT : Hid ((IntKind.u64.wrap times).tmod 8 = (T : Int)) := kT
  have WT := Lib.hid wT
  clear kT wT
  go_enter Try.func3, Try.ntmps3
  go_upto_block 0 with fail
  have hc : (if (60 : Int) < (if rs.length < bs.length then (rs.length : Int) else (bs.length : Int)) then (60 : Int) else if rs.length < bs.length then (rs.length : Int) else (bs.length : Int)) = (n : Int) := by
    rw [hN.out]
    repeat (first | omega | split)
  rw [hc]
  clear hc
  go_cut [8, 9] (fun s t wr => ∃ xs ys, Two w wr s t xs ys ∧ Hid (Days xs ys ∧ xs.length ≤ 480))
  case first =>
    go_wp2_with fail
    go_loopg [8, 9, 10] (T + 1) (fun g s t i wr => ∃ (k : Nat) (xs ys : List Int), k + g = T + 1 ∧ i = .int .i64 k ∧ Two w wr s t xs ys ∧ Hid (Days xs ys ∧ xs.length ≤ 60 * k))
    case atStart => exact ⟨0, [], [], by omega, rfl, ⟨World.ownsRow_nil _ _ _ _, World.ownsRow_nil _ _ _ _, .inl rfl, Below.refl _ _⟩, ⟨rfl, by simp, by simp⟩, by simp⟩
    case round =>
      obtain ⟨k, xs, ys, hkg, rfl, hTw, HD⟩ := hrel
      have kT := KT.out
      cases gk with
      | zero =>
        have hlt : ¬ ((k : Int) ≤ (T : Int)) := by clear kT; omega
        have HD2 : Hid (Days xs ys ∧ xs.length ≤ 480) := ⟨HD.out.1, by have := HD.out.2; clear kT; omega⟩
        go_wp2_with fail
        go_meet
        case rel => exact ⟨xs, ys, hTw, HD2⟩
      | succ g =>
        have hlt : (k : Int) ≤ (T : Int) := by clear kT; omega
        obtain ⟨wo, rfl⟩ : ∃ wo : World, wo = wr := ⟨_, rfl⟩
        go_wp2_with fail
        clear kT
        go_loopg [8, 9, 11] n (fun gg s t i wr => ∃ (j : Nat) (xs ys : List Int), j + gg = n ∧ i = .int .i64 j ∧ Two w wr s t xs ys ∧ Hid (Days xs ys ∧ xs.length ≤ 60 * k + j))
        case atStart => exact ⟨0, xs, ys, by omega, rfl, hTw, ⟨HD.out.1, by have := HD.out.2; omega⟩⟩
        case round =>
          clear hTw HD xs ys
          obtain ⟨j, xs, ys, hjg, rfl, hTw, HD⟩ := hrel
          cases gk with
          | zero =>
            have hlt3 : ¬ ((j : Int) < (n : Int)) := by omega
            have HD2 : Hid (Days xs ys ∧ xs.length ≤ 60 * (k + 1)) := ⟨HD.out.1, by have := HD.out.2; omega⟩
            go_wp2_with fail
            go_roundg g
            case measure => omega
            case rel => exact ⟨k + 1, xs, ys, by omega, by go_num, hTw, HD2⟩
          | succ gg =>
            have hlt3 : (j : Int) < (n : Int) := by omega
            have hkb : j < bs.length := by omega
            have hkr : j < rs.length := by omega
            obtain ⟨hA, hB, hap, hb⟩ := hTw
            have hll : ys.length = xs.length := HD.out.1.1.symm
            have hxl : xs.length ≤ 540 := by have := HD.out.2; omega
            rw [hll] at hB
            have HLL := Lib.hid hll
            clear hll
            obtain ⟨b0, o0, x, rfl, hcx, hx⟩ := (HV.out.below hb).get (i := j) hkb
            obtain ⟨b1, o1, y, rfl, hcw, hy⟩ := HU.out.get (i := j) hkr
            have hbs := hb.size
            have hcK : Hid (∀ W, Below w.heap.size w W → W.cell? ⟨b1, o1 + j, none⟩ = some (.int .i64 y)) := Lib.hid fun W h => (h.cell (p := ⟨b1, o1 + j, none⟩) (cell_block_lt hcw)).trans hcw
            clear hcw
            have hkc : j < cap ∧ j < cap' := by omega
            go_wp2_with (first
              | (at_builtin; refine wpList_append_where _ rfl (.tmp 37) (.tmp 45) 22 rfl w.heap.size 2 i0 (.int .i64 0) 1 8 Try.underlying22 hi hz0 hz1 hz2 rfl (by decide) _ _ _ rfl (hA.alloc _) ⟨wr.heap.size, 0, none⟩ 1 1 [_] rfl rfl (cell_one_new _ _ _) (fun x hx => by simp at hx; subst hx; rfl) (by unfold maxLen; omega) (by omega) (by simp; omega) ?_; intro v1 w1 hown1 hg1 hbk1; have hB1 := (hB.alloc _).kept hg1 (apart_or hap); have hz1' := hg1.size; simp only [World.size_alloc] at hz1'; have hb1 := (hb.alloc hbs (.cells #[.int .i64 (wrap64 ((IntKind.u64.wrap x).tmod 1099511627776))] 2)).grown hg1 (by rw [World.size_alloc]; omega) (fun k hk => (hA.lt k hk).1); have hcy := hcK.out _ hb1)
              | (at_builtin; refine wpList_append_where _ rfl (.tmp 47) (.tmp 55) 22 rfl w.heap.size 2 i0 (.int .i64 0) 1 8 Try.underlying22 hi hz0 hz1 hz2 rfl (by decide) _ _ _ rfl (hB1.alloc _) ⟨w1.heap.size, 0, none⟩ 1 1 [_] rfl rfl (cell_one_new _ _ _) (fun x hx => by simp at hx; subst hx; rfl) (by unfold maxLen; omega) (by omega) (by rw [World.size_alloc]; omega) ?_; intro v2 w2 hown2 hg2 hbk2))
            have hb2 : Below w.heap.size w w2 := (hb1.alloc (by omega) _).grown hg2 (by rw [World.size_alloc]; omega) (fun k hk => (hB1.lt k hk).1)
            have hap2 : v1.ownBlock = none ∨ v2.ownBlock = none ∨ v1.ownBlock ≠ v2.ownBlock := apart_two (s := wr.heap.size) hap hbk1 hbk2 (fun k hk => by have := (hA.lt k hk).2; omega) (fun k hk => by have := (hB.lt k hk).2; omega) (by rw [World.size_alloc]; omega) (by simp only [World.size_alloc]; omega)
            have hA2 := (hown1.alloc (.cells #[.int .i64 (wrap64 ((IntKind.u64.wrap y).tmod 1000))] 2)).kept hg2 (apart_one hap hbk1 (fun k hk => by have := (hB.lt k hk).2; rw [World.size_alloc]; omega))
            have HDN : Hid (Days (xs ++ [wrap64 ((IntKind.u64.wrap x).tmod 1099511627776)]) (ys ++ [wrap64 ((IntKind.u64.wrap y).tmod 1000)]) ∧ (xs ++ [wrap64 ((IntKind.u64.wrap x).tmod 1099511627776)]).length ≤ 60 * k + (j + 1)) :=
              ⟨HD.out.1.snoc (modu_bdN x 1099511627776 (by omega) (by omega)) (modu_bdN y 1000 (by omega) (by omega)), by have := HD.out.2; simp; omega⟩
            have HTT : Hid (Two w w2 v1 v2 (xs ++ [wrap64 ((IntKind.u64.wrap x).tmod 1099511627776)]) (ys ++ [wrap64 ((IntKind.u64.wrap y).tmod 1000)])) :=
              Lib.hid ⟨by simpa using hA2, by simpa [HLL.out] using hown2, hap2, hb2⟩
            clear hA2 hap2 hb2 hown1 hown2 hg1 hg2 hbk1 hbk2 hA hB hB1 hap hb hb1
            go_wp2_with fail
            go_roundg gg
            case measure => omega
            case rel => exact ⟨j + 1, _, _, by omega, by go_num, HTT.out, HDN⟩
  case rest =>
    obtain ⟨xs, ys, ⟨hA, hC, _, hb⟩, HD⟩ := hcut
    have hSB := Lib.hid (Sl.of_own (k := .i64) hA rfl)
    have hSR := Lib.hid (Sl.of_own (k := .i64) hC rfl)
    have HB0 := Lib.hid hb
    obtain ⟨aB, cB, rfl, mB, ⟨nB, _⟩, _⟩ := hSB.out
    obtain ⟨aR, cR, rfl, mR, ⟨nR, _⟩, _⟩ := hSR.out
    obtain ⟨v, hI, hv1, hS1, hS2, hS3⟩ := half_facts HD.out.1 HD.out.2
    have HI := Lib.hid hI
    have HS := Lib.hid (And.intro hv1 (And.intro hS1 (And.intro hS2 hS3)))
    have hxl : xs.length ≤ 480 := HD.out.2
    have HLL := Lib.hid HD.out.1.1
    have HDD := Lib.hid HD.out.1
    unfold maxLen at nB nR
    clear hA hC hb HV HU hz0 hz1 hz2 hi h1 h2 h1' h2' hI hv1 hS1 hS2 hS3 HD hN hn1 hn2 hn8 KT WT hT
    go_wp2_with fail
    refine (interOf_any _ _ xs ys v 0 HI _ hSB.out hSR.out).mono ?_
    rintro _ w1 ⟨rfl, hb1⟩
    have HB1 := Lib.hid (bl_tr HB0.out hb1)
    have HSB1 := Lib.hid (hSB.out.below hb1)
    have HSR1 := Lib.hid (hSR.out.below hb1)
    clear hb1 hSB hSR HB0
    go_wp2_with fail
    refine (awake13_any _).mono ?_
    rintro _ w2 ⟨rfl, hb2⟩
    have HB2 := Lib.hid (bl_tr HB1.out hb2)
    have HSB2 := Lib.hid (HSB1.out.below hb2)
    have HSR2 := Lib.hid (HSR1.out.below hb2)
    clear hb2 HSB1 HSR1 HB1
    go_wp2_with fail
    go_loopg [14, 15, 16] xs.length (fun g s t i wr => ∃ (k : Nat) (o l : Int), k + g = xs.length ∧ i = .int .i64 k ∧ s = .int .i64 o ∧ t = .int .i64 l ∧ Hid (o + ((v : Int) - l) * 1000000000 = (sumE xs ys k : Int)) ∧ Hid (0 ≤ l ∧ l ≤ v ∧ 0 ≤ o ∧ o ≤ 1099511627776000 * k) ∧ Hid (Below w2.heap.size w2 wr))
    case atStart => exact ⟨0, 0, v, by omega, rfl, rfl, rfl, by show _ = _; simp [sumE], by show _ ∧ _; omega, Below.refl _ _⟩
    case round =>
      obtain ⟨k, o, l, hkg, rfl, rfl, rfl, HE, HR, HW⟩ := hrel
      cases gk with
      | zero =>
        have hlt : ¬ ((k : Int) < (xs.length : Int)) := by omega
        have hkl : k = xs.length := by omega
        have hO : ∃ O : Int, o - l * 1000000000 = O ∧ 2 * O ≤ 1000000000 ∧ -1000000000 ≤ 2 * O := by
          refine ⟨_, rfl, ?_, ?_⟩
          · have h1 := HE.out
            have h2 := HS.out.2.2
            rw [← hkl] at h2
            omega
          · have h1 := HE.out
            have h2 := HS.out.2.2
            rw [← hkl] at h2
            omega
        obtain ⟨O, hO1, hO2, hO3⟩ := hO
        have hr := HR.out
        have hvv := HS.out.1
        have hBF := Lib.hid (bl_tr HB2.out HW.out)
        have HO1 := Lib.hid hO1
        have w1 : wrap64 (l * 1000000000) = l * 1000000000 := IntWalk.wrap64_in _ ⟨by omega, by omega⟩
        have w2 : wrap64 (o - l * 1000000000) = O := by rw [hO1]; exact IntWalk.wrap64_in _ ⟨by omega, by omega⟩
        have w3 : wrap64 (-O) = -O := IntWalk.wrap64_in _ ⟨by omega, by omega⟩
        have w4 : wrap64 (2 * O) = 2 * O := IntWalk.wrap64_in _ ⟨by omega, by omega⟩
        have w5 : wrap64 (2 * -O) = 2 * -O := IntWalk.wrap64_in _ ⟨by omega, by omega⟩
        clear hkl HE HR HS HI HLL HDD HSB2 HSR2 HB2 HW hr hvv hO1
        by_cases hneg : O < 0
        · have e1 : decide (O < 0) = true := decide_eq_true hneg
          have e2 : decide (2 * -O ≤ 1000000000) = true := by simp; omega
          go_wp2_with fail
          go_ret
          exact ⟨rfl, hBF.out⟩
        · have e1 : decide (O < 0) = false := decide_eq_false hneg
          have e2 : decide (2 * O ≤ 1000000000) = true := by simp; omega
          go_wp2_with fail
          go_ret
          exact ⟨rfl, hBF.out⟩
      | succ g =>
        have hlt : (k : Int) < (xs.length : Int) := by omega
        have hlt2 : (k : Int) < (ys.length : Int) := by have := HLL.out; omega
        obtain ⟨b, o1, x, rfl, hcx, hx⟩ := (HSB2.out.below HW.out).get (i := k) (by omega)
        obtain ⟨b', o', y, rfl, hcy, hy⟩ := (HSR2.out.below HW.out).get (i := k) (by have := HLL.out; omega)
        obtain ⟨P, d, p1, p2, p3, p4, p5, p6, p7, p8⟩ := days_at HDD.out hx.out hy.out
        have hr := HR.out
        have hvv := HS.out.1
        have hk4 : k < 480 := by omega
        have hok : o ≤ 1099511627776000 * 480 := by omega
        obtain ⟨q, hq⟩ : ∃ q, min l d = q := ⟨_, rfl⟩
        have hqf : q ≤ l ∧ q ≤ d ∧ 0 ≤ q ∧ (q = l ∨ q = d) := by omega
        obtain ⟨o2, ho2⟩ : ∃ o2, o + P - q * 1000000000 = o2 := ⟨_, rfl⟩
        obtain ⟨l2, hl2⟩ : ∃ l2, l - q = l2 := ⟨_, rfl⟩
        have HE2 : Hid (o2 + ((v : Int) - l2) * 1000000000 = (sumE xs ys (k + 1) : Int)) := by
          have h := HE.out
          show _ = _
          rw [p8, Int.natCast_add, Int.toNat_of_nonneg p4, ← h]
          omega
        have HR2 : Hid (0 ≤ l2 ∧ l2 ≤ v ∧ 0 ≤ o2 ∧ o2 ≤ 1099511627776000 * ((k + 1 : Nat) : Int)) := by show _ ∧ _; omega
        have wP : wrap64 (x * y) = P := by rw [p1]; exact IntWalk.wrap64_in _ ⟨by omega, by omega⟩
        have wL : wrap64 (l - q) = l2 := by rw [hl2]; exact IntWalk.wrap64_in _ ⟨by omega, by omega⟩
        have wQ : wrap64 (q * 1000000000) = q * 1000000000 := IntWalk.wrap64_in _ ⟨by omega, by omega⟩
        have wA : wrap64 (o + P) = o + P := IntWalk.wrap64_in _ ⟨by omega, by omega⟩
        have wO : wrap64 (o + P - q * 1000000000) = o2 := by rw [ho2]; exact IntWalk.wrap64_in _ ⟨by omega, by omega⟩
        have wd : wrap64 d = d := IntWalk.wrap64_in _ ⟨by omega, by omega⟩
        have HQ := Lib.hid hq
        have HW2 := Lib.hid HW.out
        clear hr hvv hk4 hok hqf ho2 hl2 hq HE HR p1 p8 p4 p5 p6 p7
        go_wp2_with fail
        go_quiet (fail)
        rw [wP]
        clear wP
        go_wp2_with fail
        have hq := HQ.out
        simp only [wd, hq, wQ, wO, wL]
        go_roundg g
        case measure => omega
        case rel => exact ⟨k + 1, o2, l2, by omega, by go_num, rfl, rfl, HE2, HR2, bl_dN HW2.out _⟩
end Go.Proofs.Ytllblmoojohffaa

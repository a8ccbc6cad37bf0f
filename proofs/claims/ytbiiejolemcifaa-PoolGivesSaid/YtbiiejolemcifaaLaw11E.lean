/- PoolGives. -/
import Derived.Test.YtbiiejolemcifaaGives
import Derived.Deep.QuietTactic
import Derived.BigQuiet
namespace Go.Proofs.Ytbiiejolemcifaa
open Go.RowKit

theorem gives_pre {k : Int} {j : Nat} {y : Int} (hj : j < 3) (hy : ([2, 3, 1] : List Int).getD j 0 = y) :
    k :: (([2, 3, 1] : List Int).take (j + 1)).filter (fun x => x != k) = if (y != k) = true then (k :: (([2, 3, 1] : List Int).take j).filter (fun x => x != k)) ++ [y] else k :: (([2, 3, 1] : List Int).take j).filter (fun x => x != k) := by
  have e : ([2, 3, 1] : List Int)[j]'hj = y := by rw [← hy]; simp [List.getD, show j < 3 from hj]
  rw [List.take_succ_eq_append_getElem hj, e, List.filter_append]
  by_cases h : (y != k) = true
  · rw [if_pos h]; simp [h]
  · rw [if_neg h]; simp [h]
theorem gives_high : rankL ltHigh [5, 9, 7] ([5, 9, 7] : List Int).length = [2, 3, 1] := by decide

set_option maxRecDepth 100000 in
set_option maxHeartbeats 3200000 in
theorem poolGives_main (a b c amount tr : Int) (A B C M K : Nat) (hA : A < 1000) (hB : B < 1000) (hC : C < 1000) (hM : M < 4000) (hK : (K : Int) = 1 ∨ (K : Int) = 2 ∨ (K : Int) = 3)
    (kA : (IntKind.u64.wrap a).tmod 1000 = (A : Int)) (wA : wrap64 (A : Int) = A) (kB : (IntKind.u64.wrap b).tmod 1000 = (B : Int)) (wB : wrap64 (B : Int) = B) (kC : (IntKind.u64.wrap c).tmod 1000 = (C : Int)) (wC : wrap64 (C : Int) = C)
    (kM : (IntKind.u64.wrap amount).tmod 4000 = (M : Int)) (wM : wrap64 (M : Int) = M) (d : Nat) (kT : (IntKind.u64.wrap tr).tmod 3 = (d : Int)) (hd : d < 3) (hKd : 1 + (d : Int) = (K : Int)) (w : World) :
    Calls Try.prog 7 #[.int .i64 a, .int .i64 b, .int .i64 c, .int .i64 amount, .int .i64 tr] w (RetB (.bool true) w) := by
  have bA : 0 ≤ (A : Int) ∧ (A : Int) < 1000 := ⟨Int.natCast_nonneg A, Int.ofNat_lt.2 hA⟩
  have bB : 0 ≤ (B : Int) ∧ (B : Int) < 1000 := ⟨Int.natCast_nonneg B, Int.ofNat_lt.2 hB⟩
  have bC : 0 ≤ (C : Int) ∧ (C : Int) < 1000 := ⟨Int.natCast_nonneg C, Int.ofNat_lt.2 hC⟩
  have bM : 0 ≤ (M : Int) ∧ (M : Int) < 4000 := ⟨Int.natCast_nonneg M, Int.ofNat_lt.2 hM⟩
  have HFA := Lib.hid (gives_facts bA bB bC bM hK)
  have HAT := Lib.hid (fun m (hm : m < 3) => gives_at bA bB bC bM hK (m := m) hm)
  have HOL : Hid ((giveO [5, 9, 7] (K : Int)).length = 3) := (gives_ord hK).len
  have HKK := Lib.hid hK
  have HKD := Lib.hid hKd
  have HD := Lib.hid hd
  have HWK : Hid (wrap64 (1 + wrap64 (d : Int)) = (K : Int)) := by
    show _ = _
    rw [IntWalk.wrap64_in (d : Int) ⟨by clear kA wA kB wB kC wC kM wM kT; omega, by clear kA wA kB wB kC wC kM wM kT; omega⟩, hKd]
    exact IntWalk.wrap64_in _ ⟨by clear kA wA kB wB kC wC kM wM kT; omega, by clear kA wA kB wB kC wC kM wM kT; omega⟩
  obtain ⟨O, hO⟩ : ∃ O, giveO [5, 9, 7] (K : Int) = O := ⟨_, rfl⟩
  rw [hO] at HFA HAT HOL
  have HOO := Lib.hid hO
  obtain ⟨ls, le, hF⟩ : ∃ ls le, filled [(A : Int), (B : Int), (C : Int)] O M = (ls, le) := ⟨_, _, rfl⟩
  rw [hF] at HFA HAT
  have HFF := Lib.hid hF
  obtain ⟨i0, hi, hz0, hz1, hz2⟩ := info_parts info_int
  have hsl : Hid ((subL [(A : Int), (B : Int), (C : Int)] ls).length = 3) := by
    have := filled_length [(A : Int), (B : Int), (C : Int)] O M
    rw [hF] at this
    show _ = _
    unfold subL
    rw [List.length_zipWith]
    simp at this ⊢
    omega
  obtain ⟨ss, hss⟩ : ∃ ss, subL [(A : Int), (B : Int), (C : Int)] ls = ss := ⟨_, rfl⟩
  simp only at HFA HAT
  rw [hss] at HFA HAT hsl
  clear hA hB hC hM hK bA bB bC bM hO hF hKd hd hss
  go_enter Try.func7, Try.ntmps7
  go_wp2_with fail
  rw [HWK.out]
  have HS0 := Lib.hid ((Sl.lit w 2 [(A : Int), (B : Int), (C : Int)] 3 rfl #[.int .i64 (A : Int), .int .i64 (B : Int), .int .i64 (C : Int)] rfl (by unfold maxLen; omega)).alloc (.cells #[.int .i64 5, .int .i64 9, .int .i64 7] 2))
  refine (poolGive_any _ _ _ [5, 9, 7] 0 0 K M _ HFA (by simp) _ HS0.out (Sl.litAt _ _ [5, 9, 7] 3 _ rfl _ rfl (by unfold maxLen; omega) (by simp))).mono ?_
  rintro _ w1 ⟨u, rfl, hu, hb1⟩
  simp only at hu ⊢
  have HU := Lib.hid hu
  obtain ⟨ao, cap, rfl⟩ := hu.shape
  obtain ⟨_, hu1, hu2⟩ := hu.len
  unfold maxLen at hu2
  have HS1 := Lib.hid (HS0.out.below hb1)
  have HB1 := Lib.hid (bl_tr (bl_al (bl_al (Below.refl w.heap.size w) _) _) hb1)
  have hss := hsl.out
  rw [hss] at hu1 HU ⊢
  clear hu hb1 hss HS0 HFA HWK
  go_wp2_with fail
  obtain ⟨W1, hW1, gU, gS, gQ, gw⟩ : ∃ W1, (w1.alloc (.cells #[.slice ao 3 cap, .int .i64 le, .int .i64 0] 25)) = W1 ∧ Hid (Sl .i64 W1 (.slice ao 3 cap) ss) ∧ Hid (Sl .i64 W1 (.slice (some ⟨w.heap.size, 0, none⟩) 3 3) [(A : Int), (B : Int), (C : Int)]) ∧ Hid (PB W1 w1.heap.size (.slice ao 3 cap) le 0) ∧ Hid (Below w.heap.size w W1) :=
    ⟨_, rfl, HU.out.alloc _, HS1.out.alloc _, PB.new w1 _ _ _ _, bl_al HB1.out _⟩
  with_reducible rw [hW1]
  clear hW1 HU HS1 HB1
  refine (awake11_any _).mono ?_
  rintro _ w3 ⟨rfl, hb3⟩
  have HU3 := Lib.hid (gU.out.below hb3)
  have HS3 := Lib.hid (gS.out.below hb3)
  have HQ3 := Lib.hid (gQ.out.below hb3)
  have HB3 := Lib.hid (bl_tr gw.out hb3)
  obtain ⟨q0, q1, q2⟩ := HQ3.out
  have hlq : w1.heap.size < w3.heap.size := cell_block_lt q0
  clear gU gS gQ gw hb3
  go_wp2_with fail
  obtain ⟨w4, hW4, gF, gH, gb4, gz4⟩ : ∃ w4, ((w3.alloc (.cells #[.int .i64 (K : Int)] 3)).alloc (.cells #[.int .i64 2, .int .i64 3, .int .i64 1] 3)) = w4 ∧ Hid (w4.ownsRow w3.heap.size 3 1 (.slice (some ⟨w3.heap.size, 0, none⟩) 1 1) 1 [.int .i64 (K : Int)]) ∧ Hid (w4.ownsRow (w3.heap.size + 1) 3 1 (.slice (some ⟨w3.heap.size + 1, 0, none⟩) 3 3) 3 (([2, 3, 1] : List Int).map (Value.int .i64))) ∧ Hid (Below w3.heap.size w3 w4) ∧ w3.heap.size + 1 < w4.heap.size := by
    refine ⟨_, rfl, ?_, ?_, bl_al (bl_al (Below.refl _ _) _) _, by simp⟩
    · refine (own_of_blk (g := w3.heap.size) (cur := [.int .i64 (K : Int)]) (heap_alloc_new w3 _) (Nat.le_refl _) (Nat.le_refl _) (by unfold maxLen; omega) rfl rfl).alloc _
    · refine own_of_blk (g := w3.heap.size + 1) (cur := ([2, 3, 1] : List Int).map (Value.int .i64)) ?_ (Nat.le_refl _) (Nat.le_refl _) (by unfold maxLen; omega) rfl rfl
      have := heap_alloc_new (w3.alloc (.cells #[.int .i64 (K : Int)] 3)) (.cells #[.int .i64 2, .int .i64 3, .int .i64 1] 3)
      simpa [Blk] using this
  with_reducible rw [hW4]
  clear hW4 q0 q1 q2
  have e3 : (([2, 3, 1] : List Int)).length = 3 := rfl
  have HE3 := Lib.hid e3
  clear e3
  go_loopg [14, 68] 3 (fun g s i wr => ∃ (j : Nat) (xs : List Int), j + g = 3 ∧ i = .int .i64 j ∧ Hid (xs = (K : Int) :: (([2, 3, 1] : List Int).take j).filter (fun x => x != (K : Int))) ∧ Hid (xs.length ≤ j + 1) ∧ Hid (wr.ownsRow w3.heap.size 3 1 s xs.length (xs.map (Value.int .i64))) ∧ Hid (wr.ownsRow (w3.heap.size + 1) 3 1 (.slice (some ⟨w3.heap.size + 1, 0, none⟩) 3 3) 3 (([2, 3, 1] : List Int).map (Value.int .i64))) ∧ Hid (s.ownBlock = some w3.heap.size ∨ ∀ b, s.ownBlock = some b → w4.heap.size ≤ b) ∧ Hid (Below w3.heap.size w3 wr) ∧ Hid (w4.heap.size ≤ wr.heap.size))
  case atStart => exact ⟨0, [(K : Int)], by omega, rfl, rfl, by show _ ≤ _; simp, gF.out, gH.out, .inl rfl, gb4.out, Nat.le_refl _⟩
  case round =>
    obtain ⟨j, xs, hjg, rfl, HXS, HXL, HO, HOHw, HBL, HBW, HZ⟩ := hrel
    cases gk with
    | succ g =>
      have hlt : (j : Int) < 3 := by omega
      have hlt' : j < 3 := by omega
      obtain ⟨bb, oo, y, e, hcell, HY⟩ := (Sl.of_own HOHw.out HE3.out).get (i := j) (by rw [HE3.out]; omega)
      cases e
      simp only [Nat.zero_add] at hcell
      have hst := gives_pre (k := (K : Int)) hlt' HY.out
      by_cases hyk : y = (K : Int)
      · have e1 : (y != (K : Int)) = false := by simp [hyk]
        rw [if_neg (by rw [e1]; simp), ← HXS.out] at hst
        have HST : Hid (xs = (K : Int) :: (([2, 3, 1] : List Int).take (j + 1)).filter (fun x => x != (K : Int))) := hst.symm
        have HXL2 : Hid (xs.length ≤ j + 1 + 1) := by show _ ≤ _; have := HXL.out; omega
        clear hst hyk
        go_wp2_with fail
        go_roundg g
        case measure => omega
        case rel => exact ⟨j + 1, xs, by omega, by go_num, HST, HXL2, HO, HOHw, HBL, HBW, HZ⟩
      · have e1 : (y != (K : Int)) = true := by simp [hyk]
        rw [if_pos e1, ← HXS.out] at hst
        have HST : Hid (xs ++ [y] = (K : Int) :: (([2, 3, 1] : List Int).take (j + 1)).filter (fun x => x != (K : Int))) := hst.symm
        have HXL2 : Hid ((xs ++ [y]).length ≤ j + 1 + 1) := by show _ ≤ _; have := HXL.out; simp; omega
        have hxl : xs.length ≤ 1001 := by have := HXL.out; omega
        have hbs : w3.heap.size ≤ wr.heap.size := HBW.out.size
        have hb4s : w4.heap.size ≤ wr.heap.size := HZ.out
        have hA := HO.out
        clear hst hyk
        go_wp2_with (at_builtin; refine wpList_append_where _ rfl (.tmp 75) (.tmp 77) 43 rfl w3.heap.size 3 i0 (.int .i64 0) 1 8 Try.underlying43 hi hz0 hz1 hz2 rfl (by decide) _ _ _ rfl (hA.alloc _) ⟨wr.heap.size, 0, none⟩ 1 1 [_] rfl rfl (cell_one_new _ _ _) (fun x hx => by simp at hx; subst hx; rfl) (by unfold maxLen; omega) (by omega) (by simp; omega) ?_; intro v1 w5 hown1 hg1 hbk1)
        have HO5 : Hid (w5.ownsRow w3.heap.size 3 1 v1 (xs ++ [y]).length ((xs ++ [y]).map (Value.int .i64))) := by
          have h := hown1
          show World.ownsRow _ _ _ _ _ _ _
          simpa using h
        have HOH5 : Hid (w5.ownsRow (w3.heap.size + 1) 3 1 (.slice (some ⟨w3.heap.size + 1, 0, none⟩) 3 3) 3 (([2, 3, 1] : List Int).map (Value.int .i64))) := by
          refine (HOHw.out.alloc _).kept hg1 (.inr ?_)
          intro e0
          have e : (Value.slice (some ⟨w3.heap.size + 1, 0, none⟩) 3 3).ownBlock = u14.ownBlock := e0
          rcases HBL.out with h | h
          · have e2 : some (w3.heap.size + 1) = some w3.heap.size := e.trans h
            injection e2 with e3
            omega
          · have := h (w3.heap.size + 1) e.symm; omega
        have HBL5 : Hid (v1.ownBlock = some w3.heap.size ∨ ∀ b, v1.ownBlock = some b → w4.heap.size ≤ b) := by
          rcases hbk1 with h | h
          · show _ ∨ _; rw [h]; exact HBL.out
          · right
            intro b hb
            rw [h] at hb
            cases hb
            simp only [World.size_alloc] at *
            omega
        have HBW5 : Hid (Below w3.heap.size w3 w5) := (HBW.out.alloc hbs _).grown hg1 (by rw [World.size_alloc]; omega) (fun q hq => (hA.lt q hq).1)
        have HZ5 : Hid (w4.heap.size ≤ w5.heap.size) := by show _ ≤ _; have := hg1.size; simp only [World.size_alloc] at this; omega
        clear hown1 hg1 hbk1 hA
        go_wp2_with fail
        go_roundg g
        case measure => omega
        case rel => exact ⟨j + 1, _, by omega, by go_num, HST, HXL2, HO5, HOH5, HBL5, HBW5, HZ5⟩
    | zero =>
      obtain rfl : j = 3 := by omega
      have hxs : xs = O := by
        rw [HXS.out, ← HOO.out]
        unfold giveO
        rw [gives_high]
        rfl
      subst hxs
      have HSO := Lib.hid (Sl.of_own HO.out rfl)
      have hol := HOL.out
      obtain ⟨ao3, co3, e3, _⟩ := HSO.out
      rw [hol] at e3
      subst e3
      have HUr := Lib.hid (HU3.out.below HBW.out)
      have HSr := Lib.hid (HS3.out.below HBW.out)
      have HQr := Lib.hid (HQ3.out.below HBW.out)
      have HBr := Lib.hid (bl_tr HB3.out HBW.out)
      clear HXS HXL HO HOHw HBL HBW HZ HU3 HS3 HQ3 HB3 gF gH gb4 gz4 hol hlq
      go_wp2_with fail
      have HFL : Hid ((fill [(A : Int), (B : Int), (C : Int)] xs M 3).2 = le) := by
        have h := HFF.out
        unfold filled at h
        rw [HOL.out] at h
        show _ = _
        rw [h]
      have hsl2 := Lib.hid hsl.out
      clear hsl HFF HOO HD HKD HKK wA wB wC wM kA kB kC kM kT
      go_loopg [17, 18] 3 (fun g lf i wr2 => ∃ (m : Nat) (lm : Int), m + g = 3 ∧ i = .int .i64 m ∧ lf = .int .i64 lm ∧ Hid ((fill [(A : Int), (B : Int), (C : Int)] xs M m).2 = lm) ∧ Hid (Below wr.heap.size wr wr2))
      case atStart => exact ⟨0, (M : Int), by omega, rfl, rfl, rfl, Below.refl _ _⟩
      case round =>
        obtain ⟨m, lm, hmg, rfl, rfl, HLM, HB⟩ := hrel
        cases gk with
        | succ g =>
          have hlt : (m : Int) < 3 := by omega
          have hm3 : m < 3 := by omega
          obtain ⟨pp, x, lm', n, hp3, hO, hx, hlm, hn, hnext, hsub, x0, x1, l0, l1, n0, n1, n2⟩ := HAT.out m hm3
          obtain rfl : lm = lm' := HLM.out.symm.trans hlm
          obtain ⟨b1, o1, y1, rfl, cO, HYO⟩ := (HSO.out.below HB.out).get (i := m) (by rw [HOL.out]; omega)
          obtain ⟨b2, o2, y2, rfl, cU, HYU⟩ := (HUr.out.below HB.out).get (i := pp) (by rw [hsl2.out]; omega)
          obtain ⟨b3, o3, y3, e3, cS, HYS⟩ := (HSr.out.below HB.out).get (i := pp) (by simpa using hp3)
          cases e3
          simp only [Nat.zero_add] at cS
          obtain rfl : y1 = (pp : Int) + 1 := HYO.out.symm.trans hO
          obtain rfl : y2 = x - n := HYU.out.symm.trans hsub
          obtain rfl : y3 = x := HYS.out.symm.trans hx
          obtain ⟨s0, s1, s2⟩ := HQr.out.below HB.out
          have wXN : IntKind.i64.wrap (y3 - n) = y3 - n := IntWalk.i64_in _ ⟨by omega, by omega⟩
          have HNX : Hid ((fill [(A : Int), (B : Int), (C : Int)] xs M (m + 1)).2 = lm - n) := hnext
          have HB2 := Lib.hid HB.out
          have hpc : pp < cap := by omega
          have hp3' : (pp : Int) < 3 := by omega
          clear hnext hsub hlm hx hO HLM
          by_cases hmin : lm ≤ y3
          · obtain rfl : n = lm := by rw [← hn]; exact Int.min_eq_left hmin
            have HNX2 : Hid ((fill [(A : Int), (B : Int), (C : Int)] xs M (m + 1)).2 = 0) := by have h := HNX.out; rw [Int.sub_self] at h; exact h
            clear HNX hn
            go_wp2_with fail
            go_quiet (fail)
            go_wp2_with fail
            go_roundg g
            case measure => omega
            case rel => exact ⟨m + 1, 0, by omega, by go_num, rfl, HNX2, bl_dN HB2.out _⟩
          · obtain rfl : n = y3 := by rw [← hn]; exact Int.min_eq_right (by omega)
            clear hn
            go_wp2_with fail
            go_quiet (fail)
            go_wp2_with fail
            go_roundg g
            case measure => omega
            case rel => exact ⟨m + 1, lm - n, by omega, by go_num, by first | rfl | go_num, HNX, bl_dN HB2.out _⟩
        | zero =>
          obtain rfl : m = 3 := by omega
          obtain rfl : lm = le := HLM.out.symm.trans HFL.out
          obtain ⟨s0, s1, s2⟩ := HQr.out.below HB.out
          go_wp2_with fail
          go_ret
          exact ⟨rfl, bl_tr HBr.out HB.out⟩

theorem three_K {d : Nat} (h : d < 3) : ((1 + d : Nat) : Int) = 1 ∨ ((1 + d : Nat) : Int) = 2 ∨ ((1 + d : Nat) : Int) = 3 := by omega
theorem one_K (d : Nat) : 1 + (d : Int) = ((1 + d : Nat) : Int) := by omega
theorem poolGives_any (a b c amount tr : Int) (w : World) : Calls Try.prog 7 #[.int .i64 a, .int .i64 b, .int .i64 c, .int .i64 amount, .int .i64 tr] w (RetB (.bool true) w) := by
  obtain ⟨A, _, hA1, hA2, hA3⟩ := u64_rem2 a 1000 (by omega) (by omega)
  obtain ⟨B, _, hB1, hB2, hB3⟩ := u64_rem2 b 1000 (by omega) (by omega)
  obtain ⟨C, _, hC1, hC2, hC3⟩ := u64_rem2 c 1000 (by omega) (by omega)
  obtain ⟨M, _, hM1, hM2, hM3⟩ := u64_rem2 amount 4000 (by omega) (by omega)
  obtain ⟨d, _, hd1, _, hd3⟩ := u64_rem2 tr 3 (by omega) (by omega)
  exact poolGives_main a b c amount tr A B C M (1 + d) hA3 hB3 hC3 hM3 (three_K hd3) hA1 hA2 hB1 hB2 hC1 hC2 hM1 hM2 d hd1 hd3 (one_K d) w
end Go.Proofs.Ytbiiejolemcifaa

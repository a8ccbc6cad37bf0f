/- lombardref06.Pack of right terms: the bytes lie in memory of their own. (Printed by mkrefpack6o.py out of RefPack6's walk.) -/
import Derived.Test.YtdjfpbjlmojikaaRefPack6
namespace Go.Proofs.Ytdjfpbjlmojikaa
open Go.RowKit

def RetOwnE (xs : List Int) (w : World) (e : Ending) (w' : World) : Prop :=
  ∃ base u, e = .returned (.tuple #[u, .int .i64 0]) ∧ w.heap.size ≤ base ∧ w'.ownsRow base 5 1 u xs.length (xs.map (Value.int .u8)) ∧ Below w.heap.size w w'

set_option maxHeartbeats 1600000 in
theorem refPack6_own (v : Value) (ts : List (Int × Bool)) (lim cyc dued minf minp start : Int) (w : World) (hv : TrS w v ts) (hr : rightT lim ts cyc dued minf minp start = true) :
    Calls Try.prog 25 #[.agg #[.int .i64 lim, v, .int .i64 cyc, .int .i64 dued, .int .i64 minf, .int .i64 minp, .int .i64 start]] w (RetOwnE (packT lim ts cyc dued minf minp start) w) := by
  have HV := Lib.hid hv
  obtain ⟨ao, cap, rfl, h1, ⟨h2, _⟩, h3⟩ := hv
  clear h3
  unfold maxLen at h2
  obtain ⟨i0, hi, hz0, hz1, hz2⟩ := info_parts info_u8
  have hT := TB.new w 26 lim (.slice ao ts.length cap) cyc dued minf minp start
  have hb0 : Below w.heap.size w (w.alloc (.cells #[.int .i64 lim, .slice ao ts.length cap, .int .i64 cyc, .int .i64 dued, .int .i64 minf, .int .i64 minp, .int .i64 start] 26)) := (Below.refl _ _).alloc (Nat.le_refl _) _
  have hts : ts.length ≤ 8 := by
    simp only [rightT, betw, Bool.and_eq_true, decide_eq_true_eq] at hr
    omega
  have H0 := Lib.hid (show (if rightT lim ts cyc dued minf minp start = true then (0 : Int) else 6) = 0 from by rw [hr]; rfl)
  clear hr
  go_enter Try.func25, Try.ntmps25
  go_wp2_with fail
  refine (refRight_any _ ts lim cyc dued minf minp start 0 H0 _ (HV.out.below hb0)).mono ?_
  rintro e w1 ⟨rfl, hb1⟩
  have hT1 := hT.below hb1
  have hbw1 : Below w.heap.size w w1 := bl_tr hb0 hb1
  have hs1 := hbw1.size
  obtain ⟨t0, t1, t2, t3, t4, t5, t6⟩ := hT1
  have hS := Sl.lit (k := .i64) w1 2 [lim, cyc, dued, minf, minp, start, ts.length] 7 rfl _ rfl (by decide)
  have hTb := (hT.below hb1).below (bl_al (Below.refl _ _) (.cells ([lim, cyc, dued, minf, minp, start, (ts.length : Int)].map (Value.int .i64)).toArray 2))
  have hbwb := bl_al hbw1 (.cells ([lim, cyc, dued, minf, minp, start, (ts.length : Int)].map (Value.int .i64)).toArray 2)
  clear hT hb1 hb0
  go_wp2_with fail
  obtain ⟨W, hW, gS, gT, gb⟩ : ∃ W, (w1.alloc (.cells ([lim, cyc, dued, minf, minp, start, (ts.length : Int)].map (Value.int .i64)).toArray 2)) = W ∧ Sl .i64 W (.slice (some ⟨w1.heap.size, 0, none⟩) 7 7) [lim, cyc, dued, minf, minp, start, (ts.length : Int)] ∧ TB W w.heap.size lim (.slice ao ts.length cap) cyc dued minf minp start ∧ Below w.heap.size w W := ⟨_, rfl, hS, hTb, hbwb⟩
  simp only [List.map_cons, List.map_nil] at hW
  with_reducible rw [hW]
  clear hW hS hTb hbwb t0 t1 t2 t3 t4 t5 t6 hbw1
  have GS := Lib.hid gS
  have GT := Lib.hid gT
  have GB := Lib.hid gb
  clear gS gT gb
  obtain ⟨ls, hls⟩ : ∃ ls, [lim, cyc, dued, minf, minp, start, (ts.length : Int)] = ls := ⟨_, rfl⟩
  have HLS := Lib.hid hls
  rw [hls] at GS
  have hl7 : Hid (ls.length = 7) := by rw [← hls]; rfl
  clear hls
  go_loopg [4, 29] 7 (fun g c i wr => ∃ k : Nat, k + g = 7 ∧ i = .int .i64 k ∧ wr.ownsRow W.heap.size 5 1 c (8 * k) ((flat8 ls k).map (Value.int .u8)) ∧ Below W.heap.size W wr)
  case atStart => exact ⟨0, by omega, rfl, World.ownsRow_nil _ _ _ _, Below.refl _ _⟩
  case round =>
    obtain ⟨k, hkg, rfl, hown, hb⟩ := hrel
    cases gk with
    | zero =>
      have hlt : ¬ ((k : Int) < 7) := by omega
      obtain rfl : k = 7 := by omega
      have HP0 : Hid (flat8 ls 7 = packAt lim ts cyc dued minf minp start 0) := by
        show _ = _
        rw [← HLS.out]
        simp [flat8, packAt]
      rw [HP0.out] at hown
      clear hlt hkg
      obtain ⟨wo, hwo⟩ : ∃ wo : World, wo = wr := ⟨_, rfl⟩
      subst hwo
      obtain ⟨t0, t1, t2, t3, t4, t5, t6⟩ := GT.out.below hb
      go_wp2_with fail
      go_loopg [4, 7] ts.length (fun g c i wr => ∃ k : Nat, k + g = ts.length ∧ i = .int .i64 k ∧ wr.ownsRow W.heap.size 5 1 c (56 + 9 * k) ((packAt lim ts cyc dued minf minp start k).map (Value.int .u8)) ∧ Below W.heap.size W wr)
      case atStart => exact ⟨0, by omega, rfl, hown, hb⟩
      case round =>
        clear t0 t1 t2 t3 t4 t5 t6 hown hb
        obtain ⟨k, hkg, rfl, hown, hb⟩ := hrel
        obtain ⟨t0, t1, t2, t3, t4, t5, t6⟩ := GT.out.below hb
        clear t0 t2 t3 t4 t5 t6
        cases gk with
        | zero =>
          have hlt : ¬ ((k : Int) < (ts.length : Int)) := by omega
          obtain rfl : k = ts.length := by omega
          have HO := Lib.hid hown
          clear hown
          go_wp2
          go_ret2
          refine ⟨_, _, rfl, GB.out.size, ?_, bl_tr GB.out hb⟩
          have e1 : packAt lim ts cyc dued minf minp start ts.length = packT lim ts cyc dued minf minp start := by simp [packAt, packT]
          have e2 : (packT lim ts cyc dued minf minp start).length = 56 + 9 * ts.length := by rw [← e1, packAt_length _ _ _ _ _ _ _ (Nat.le_refl _)]
          rw [e2, ← e1]
          exact HO.out
        | succ g =>
          have hlt : ((k : Int) < (ts.length : Int)) := by omega
          obtain ⟨b, o, x, gr, rfl, hc1, hc2, HX⟩ := (HV.out.below (bl_tr GB.out hb)).get (i := k) (by omega)
          have HSU := Lib.hid (packAt_succ lim ts cyc dued minf minp start (k := k) (by omega) HX.out)
          have hk8 : k ≤ 8 := by omega
          have hbs := hb.size
          have HC2 := Lib.hid hc2
          have T1 := Lib.hid t1
          go_wp2_with fail
          refine (eight_any x _).mono ?_
          rintro e wa ⟨ua, rfl, hsa, hba⟩
          have howna := own_keep hown hba
          have hbW : Below W.heap.size W wa := bl_tr hb hba
          have hbWs := hbW.size
          have HSA := Lib.hid hsa
          obtain ⟨aa, ca, rfl, hca, ⟨hcb, _⟩, _⟩ := hsa
          clear hown hc1 hc2 t1
          simp only [be8_length] at HSA hca ⊢
          have hu1 : W.heap.size ≤ W.heap.size := Nat.le_refl _
          go_upto_region 13 with (at_builtin; refine wpList_append_any _ rfl (.tmp 45) (.tmp 52) 38 rfl W.heap.size 5 i0 (.int .u8 0) 1 1 Try.underlying38 hi hz0 hz1 hz2 rfl (by decide) _ _ _ rfl howna aa 8 ca ((be8 x).map (Value.int .u8)) rfl rfl HSA.out.none_cap HSA.out.news (ints_oneCell _ _) (by unfold maxLen; omega) (by omega) hbWs ?_; intro v1 w9 hown9 hg9 hn9; clear hn9)
          have hb9 : Below W.heap.size W w9 := hbW.grown hg9 hbWs (fun q hq => (howna.lt q hq).1)
          have hs9 := hb9.size
          obtain ⟨t0, t1, t2, t3, t4, t5, t6⟩ := GT.out.below hb9
          obtain ⟨b', o', x', gr', he', hc1', hc2', HX'⟩ := (HV.out.below (bl_tr GB.out hb9)).get (i := k) (by omega)
          cases he'
          have hxx := HX'.out.symm.trans HX.out
          simp only [Prod.mk.injEq] at hxx
          obtain ⟨rfl, rfl⟩ := hxx
          have HO9 : Hid (w9.ownsRow W.heap.size 5 1 v1 (56 + 9 * k + 8) ((packAt lim ts cyc dued minf minp start k ++ be8 x').map (Value.int .u8))) := by
            rw [List.map_append]
            exact hown9
          clear hown9 hg9 howna hba hb HX' t0 t2 t3 t4 t5 t6 hc1' HC2 T1
          cases gr' with
          | true =>
            go_wp2_with (at_builtin; refine wpList_append_where _ rfl (.tmp 60) (.tmp 62) 38 rfl W.heap.size 5 i0 (.int .u8 0) 1 1 Try.underlying38 hi hz0 hz1 hz2 rfl (by decide) _ _ _ rfl (HO9.out.alloc _) ⟨w9.heap.size, 0, none⟩ 1 1 [_] rfl rfl (cell_one_new _ _ _) (fun x hx => by simp at hx; subst hx; rfl) (by unfold maxLen; omega) (by omega) (by simp; omega) ?_; intro v2 w10 hown10 hg10 hbk10)
            have hb10 : Below W.heap.size W w10 := (bl_al hb9 _).grown hg10 (by simp; omega) (fun q hq => (HO9.out.lt q hq).1)
            have HT10 : Hid (w10.ownsRow W.heap.size 5 1 v2 (56 + 9 * (k + 1)) ((packAt lim ts cyc dued minf minp start (k + 1)).map (Value.int .u8))) := by
              rw [HSU.out, show 56 + 9 * (k + 1) = 56 + 9 * k + 8 + 1 from by omega]
              simpa [Hid] using hown10
            clear hown10 hg10 hbk10
            go_wp2_with fail
            go_roundg g
            case measure => omega
            case rel => exact ⟨k + 1, by omega, by go_num, HT10.out, hb10⟩
          | false =>
            go_wp2_with (at_builtin; refine wpList_append_where _ rfl (.tmp 60) (.tmp 62) 38 rfl W.heap.size 5 i0 (.int .u8 0) 1 1 Try.underlying38 hi hz0 hz1 hz2 rfl (by decide) _ _ _ rfl (HO9.out.alloc _) ⟨w9.heap.size, 0, none⟩ 1 1 [_] rfl rfl (cell_one_new _ _ _) (fun x hx => by simp at hx; subst hx; rfl) (by unfold maxLen; omega) (by omega) (by simp; omega) ?_; intro v2 w10 hown10 hg10 hbk10)
            have hb10 : Below W.heap.size W w10 := (bl_al hb9 _).grown hg10 (by simp; omega) (fun q hq => (HO9.out.lt q hq).1)
            have HT10 : Hid (w10.ownsRow W.heap.size 5 1 v2 (56 + 9 * (k + 1)) ((packAt lim ts cyc dued minf minp start (k + 1)).map (Value.int .u8))) := by
              rw [HSU.out, show 56 + 9 * (k + 1) = 56 + 9 * k + 8 + 1 from by omega]
              simpa [Hid] using hown10
            clear hown10 hg10 hbk10
            go_wp2_with fail
            go_roundg g
            case measure => omega
            case rel => exact ⟨k + 1, by omega, by go_num, HT10.out, hb10⟩
    | succ g =>
      have hlt : (k : Int) < 7 := by omega
      obtain ⟨b, o, x, he, hcell, HX⟩ := (GS.out.below hb).get (i := k) (by rw [hl7.out]; omega)
      cases he
      simp only [Nat.zero_add] at hcell
      have hk7 : k < 7 := by omega
      have HF := Lib.hid (flat8_succ ls (k := k) (by rw [hl7.out]; omega))
      have hbs := hb.size
      go_wp2_with fail
      refine (eight_any x _).mono ?_
      rintro e wa ⟨ua, rfl, hsa, hba⟩
      have howna := own_keep hown hba
      have hbW : Below W.heap.size W wa := bl_tr hb hba
      have hbWs := hbW.size
      have HSA := Lib.hid hsa
      obtain ⟨aa, ca, rfl, hca, ⟨hcb, _⟩, _⟩ := hsa
      clear hown hba hb
      simp only [be8_length] at HSA hca ⊢
      go_wp2_with (at_builtin; refine wpList_append_any _ rfl (.tmp 33) (.tmp 35) 38 rfl W.heap.size 5 i0 (.int .u8 0) 1 1 Try.underlying38 hi hz0 hz1 hz2 rfl (by decide) _ _ _ rfl howna aa 8 ca ((be8 x).map (Value.int .u8)) rfl rfl HSA.out.none_cap HSA.out.news (ints_oneCell _ _) (by unfold maxLen; omega) (by omega) hbWs ?_; intro v1 w9 hown9 hg9 hn9; clear hn9)
      have hb9 : Below W.heap.size W w9 := hbW.grown hg9 hbWs (fun q hq => (howna.lt q hq).1)
      have HT9 : Hid (w9.ownsRow W.heap.size 5 1 v1 (8 * (k + 1)) ((flat8 ls (k + 1)).map (Value.int .u8))) := by
        rw [HF.out, HX.out, List.map_append, show 8 * (k + 1) = 8 * k + 8 from by omega]
        exact hown9
      clear hown9 hg9 howna
      go_wp2_with fail
      go_roundg g
      case measure => omega
      case rel => exact ⟨k + 1, by omega, by go_num, HT9.out, hb9⟩
end Go.Proofs.Ytdjfpbjlmojikaa

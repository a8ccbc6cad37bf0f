/- terms.Pack: right terms as bytes. -/
import Derived.Test.YtdjfpbjlmojikaaTermsRight
import Derived.Test.YtdjfpbjlmojikaaPut
namespace Go.Proofs.Ytdjfpbjlmojikaa
open Go.RowKit

/-- a tranche's bytes -/
def be9 (x : Int × Bool) : List Int := be8 x.1 ++ [if x.2 then 1 else 0]
/-- terms as bytes -/
def packT (lim : Int) (ts : List (Int × Bool)) (cyc dued minf minp start : Int) : List Int := [lim, cyc, dued, minf, minp, start, ts.length].flatMap be8 ++ ts.flatMap be9
/-- what Pack answers -/
def packR (lim : Int) (ts : List (Int × Bool)) (cyc dued minf minp start : Int) : List Int × Int := if rightT lim ts cyc dued minf minp start = true then (packT lim ts cyc dued minf minp start, 0) else ([], 6)
/-- the bytes behind k tranches -/
def packAt (lim : Int) (ts : List (Int × Bool)) (cyc dued minf minp start : Int) (k : Nat) : List Int := [lim, cyc, dued, minf, minp, start, ts.length].flatMap be8 ++ (ts.take k).flatMap be9
def RetSlE (k : IntKind) (r : List Int × Int) (w : World) (e : Ending) (w' : World) : Prop := ∃ u, e = .returned (.tuple #[u, .int .i64 r.2]) ∧ Sl k w' u r.1 ∧ Below w.heap.size w w'
theorem be9_length (x : Int × Bool) : (be9 x).length = 9 := rfl
theorem flat9_length (l : List (Int × Bool)) : (l.flatMap be9).length = 9 * l.length := by
  induction l with
  | nil => rfl
  | cons x l ih => rw [List.flatMap_cons, List.length_append, ih, be9_length, List.length_cons]; omega
theorem flat8_length (l : List Int) : (l.flatMap be8).length = 8 * l.length := by
  induction l with
  | nil => rfl
  | cons x l ih => rw [List.flatMap_cons, List.length_append, ih, be8_length, List.length_cons]; omega
theorem packAt_length (lim : Int) (ts : List (Int × Bool)) (cyc dued minf minp start : Int) {k : Nat} (h : k ≤ ts.length) : (packAt lim ts cyc dued minf minp start k).length = 56 + 9 * k := by
  rw [packAt, List.length_append, flat9_length, flat8_length, List.length_take]
  simp only [List.length_cons, List.length_nil]
  omega
theorem packAt_succ (lim : Int) (ts : List (Int × Bool)) (cyc dued minf minp start : Int) {k : Nat} (h : k < ts.length) {x : Int} {g : Bool} (he : ts.getD k (0, false) = (x, g)) :
    packAt lim ts cyc dued minf minp start (k + 1) = packAt lim ts cyc dued minf minp start k ++ be8 x ++ [if g then 1 else 0] := by
  unfold packAt
  rw [List.take_succ_eq_append_getElem h, List.flatMap_append]
  have : ts[k] = (x, g) := by rw [← he]; simp [List.getD, h]
  rw [this]
  simp [be9]
theorem sl_nil' (k : IntKind) (w : World) : Sl k w (.slice none 0 0) [] := ⟨none, 0, rfl, Nat.le_refl _, ⟨by simp [maxLen], fun _ => rfl⟩, fun h => absurd rfl h⟩
theorem Sl.kept {k : IntKind} {w w' : World} {g o n cap : Nat} {r : Option Nat} {xs : List Int} (h : Sl k w (.slice (some ⟨g, o, none⟩) n cap) xs) (hg : w.grownBy w' r) (hne : some g ≠ r) : Sl k w' (.slice (some ⟨g, o, none⟩) n cap) xs := by
  obtain ⟨ao, cap', e, h1, h2, h3⟩ := h
  cases e
  refine ⟨_, _, rfl, h1, h2, fun hx => ?_⟩
  obtain ⟨b, o', e, hc⟩ := h3 hx
  cases e
  exact ⟨g, o, rfl, fun i hi => hg.cell (hc i hi) hne⟩

set_option maxHeartbeats 800000 in
theorem termsPack_any (v : Value) (ts : List (Int × Bool)) (lim cyc dued minf minp start : Int) (w : World) (hv : TrS w v ts) :
    Calls Try.prog 24 #[.agg #[.int .i64 lim, v, .int .i64 cyc, .int .i64 dued, .int .i64 minf, .int .i64 minp, .int .i64 start]] w (RetSlE .u8 (packR lim ts cyc dued minf minp start) w) := by
  have HV := Lib.hid hv
  obtain ⟨ao, cap, rfl, h1, ⟨h2, _⟩, h3⟩ := hv
  clear h3
  unfold maxLen at h2
  obtain ⟨i0, hi, hz0, hz1, hz2⟩ := info_parts info_u8
  have hT := TB.new w 26 lim (.slice ao ts.length cap) cyc dued minf minp start
  have hb0 : Below w.heap.size w (w.alloc (.cells #[.int .i64 lim, .slice ao ts.length cap, .int .i64 cyc, .int .i64 dued, .int .i64 minf, .int .i64 minp, .int .i64 start] 26)) := (Below.refl _ _).alloc (Nat.le_refl _) _
  cases hr : rightT lim ts cyc dued minf minp start with
  | false =>
    have hR : packR lim ts cyc dued minf minp start = ([], 6) := by simp [packR, hr]
    rw [hR]
    clear hR
    have H6 := Lib.hid (show (if rightT lim ts cyc dued minf minp start = true then (0 : Int) else 6) = 6 from by rw [hr]; rfl)
    clear hr
    go_enter Try.func24, Try.ntmps24
    go_wp2_with fail
    refine (termsRight_any _ ts lim cyc dued minf minp start 6 H6 _ (HV.out.below hb0)).mono ?_
    rintro e w1 ⟨rfl, hb1⟩
    go_wp2_with fail
    go_ret2
    exact ⟨_, rfl, sl_nil' _ _, bl_tr hb0 hb1⟩
  | true =>
    have hR : packR lim ts cyc dued minf minp start = (packT lim ts cyc dued minf minp start, 0) := by simp [packR, hr]
    rw [hR]
    clear hR
    have hts : ts.length ≤ 8 := by
      simp only [rightT, betw, Bool.and_eq_true, decide_eq_true_eq] at hr
      omega
    have H0 := Lib.hid (show (if rightT lim ts cyc dued minf minp start = true then (0 : Int) else 6) = 0 from by rw [hr]; rfl)
    clear hr
    go_enter Try.func24, Try.ntmps24
    go_wp2_with fail
    refine (termsRight_any _ ts lim cyc dued minf minp start 0 H0 _ (HV.out.below hb0)).mono ?_
    rintro e w1 ⟨rfl, hb1⟩
    have hT1 := hT.below hb1
    have hbw1 : Below w.heap.size w w1 := bl_tr hb0 hb1
    obtain ⟨t0, t1, t2, t3, t4, t5, t6⟩ := hT1
    have hs1 := hbw1.size
    have HT := Lib.hid hT
    clear hT
    have hbx1 : Below (w.heap.size + 1) (w.alloc (.cells #[.int .i64 lim, .slice ao ts.length cap, .int .i64 cyc, .int .i64 dued, .int .i64 minf, .int .i64 minp, .int .i64 start] 26)) w1 := hb1.mono (by rw [World.size_alloc]; exact Nat.le_refl _)
    have hbs1 : w.heap.size + 1 ≤ w1.heap.size := by have := hbx1.size; rw [World.size_alloc] at this; exact this
    go_wp2_with fail
    refine (put_any _ _ [] [lim, cyc, dued, minf, minp, start, ts.length] (w.heap.size + 1) _ (World.ownsRow_nil _ _ _ _) (fun W hW => (Sl.litAt _ _ _ 7 w1.heap.size rfl _ rfl (by decide) rfl).kept hW (by simp [Value.ownBlock])) (by simp; omega) (by simp)).mono ?_
    rintro e w2 ⟨u2, rfl, hown2, hg2, hwh2⟩
    have hbx2 : Below (w.heap.size + 1) (w.alloc (.cells #[.int .i64 lim, .slice ao ts.length cap, .int .i64 cyc, .int .i64 dued, .int .i64 minf, .int .i64 minp, .int .i64 start] 26)) w2 := (hbx1.alloc hbs1 _).grown hg2 (by simp; omega) (fun k hk => by cases hk)
    have HO2 : Hid (w2.ownsRow (w.heap.size + 1) 5 1 u2 (packAt lim ts cyc dued minf minp start 0).length ((packAt lim ts cyc dued minf minp start 0).map (Value.int .u8))) := by
      simpa [packAt, putAt, Hid] using hown2
    obtain ⟨t0, t1, t2, t3, t4, t5, t6⟩ := HT.out.below (hbx2.mono (by rw [World.size_alloc]; exact Nat.le_refl _))
    clear hown2 hg2 hwh2 hb1 hbw1 hbx1
    go_wp2_with fail
    go_loopg [5, 33] ts.length (fun g c i wr => ∃ k : Nat, k + g = ts.length ∧ i = .int .i64 k ∧ wr.ownsRow (w.heap.size + 1) 5 1 c (packAt lim ts cyc dued minf minp start k).length ((packAt lim ts cyc dued minf minp start k).map (Value.int .u8)) ∧ Below (w.heap.size + 1) (w.alloc (.cells #[.int .i64 lim, .slice ao ts.length cap, .int .i64 cyc, .int .i64 dued, .int .i64 minf, .int .i64 minp, .int .i64 start] 26)) wr)
    case atStart => exact ⟨0, by omega, rfl, HO2.out, hbx2⟩
    case round =>
      obtain ⟨k, hkg, rfl, hown, hbx⟩ := hrel
      have hb : Below w.heap.size w wr := hb0.trans (hbx.mono (by omega))
      have hbs : w.heap.size + 1 ≤ wr.heap.size := by have := hbx.size; rw [World.size_alloc] at this; exact this
      cases gk with
      | zero =>
        have hlt : ¬ ((k : Int) < (ts.length : Int)) := by omega
        obtain rfl : k = ts.length := by omega
        have HO := Lib.hid hown
        clear hown
        go_wp2
        go_ret2
        refine ⟨_, rfl, ?_, hb⟩
        have := Sl.of_own HO.out rfl
        simpa [packAt, packT] using this
      | succ g =>
        have hlt : ((k : Int) < (ts.length : Int)) := by omega
        obtain ⟨b, o, x, gr, rfl, hc1, hc2, HX⟩ := (HV.out.below hb).get (i := k) (by omega)
        have HLen := Lib.hid (packAt_length lim ts cyc dued minf minp start (k := k) (by omega))
        go_wp2_with fail
        refine (put_any _ _ (packAt lim ts cyc dued minf minp start k) [x] (w.heap.size + 1) _ ((hown.alloc _).alloc _) (fun W hW => (Sl.litAt _ _ [x] 1 (wr.heap.size + 1) rfl _ rfl (by decide) (by simp)).kept hW (by intro e; have := hown.lt _ e.symm; omega)) (by simp; omega) (by rw [HLen.out]; simp; omega)).mono ?_
        rintro e w3 ⟨u3, rfl, hown3, hg3, hwh3⟩
        have hcg : w3.cell? ⟨wr.heap.size, 1, none⟩ = some (.bool gr) := by
          have hB : Blk (wr.alloc (.cells #[.int .i64 x, .bool gr] 23)) wr.heap.size 23 [.int .i64 x, .bool gr] := heap_alloc_new wr _
          exact hg3.cell ((hB.below ((Below.refl _ _).alloc (Nat.le_refl _) _)).cell 1) (fun e => Nat.lt_irrefl _ (hown.lt _ e.symm).2)
        have hbx3 : Below (w.heap.size + 1) (w.alloc (.cells #[.int .i64 lim, .slice (some ⟨b, o, none⟩) ts.length cap, .int .i64 cyc, .int .i64 dued, .int .i64 minf, .int .i64 minp, .int .i64 start] 26)) w3 := ((hbx.alloc hbs _).alloc (by simp; omega) _).grown hg3 (by simp; omega) (fun q hq => (hown.lt q hq).1)
        have hs3 := hg3.size
        simp only [World.size_alloc] at hs3
        have e3 : (putAt (packAt lim ts cyc dued minf minp start k) [x] 1) = packAt lim ts cyc dued minf minp start k ++ be8 x := by simp [putAt]
        have hl3 : (packAt lim ts cyc dued minf minp start k ++ be8 x).length = 56 + 9 * k + 8 := by rw [List.length_append, HLen.out, be8_length]
        simp only [List.length_cons, List.length_nil, Nat.zero_add] at hown3
        rw [e3, hl3] at hown3
        have HS := Lib.hid (packAt_succ lim ts cyc dued minf minp start (k := k) (by omega) HX.out)
        have HLS := Lib.hid (packAt_length lim ts cyc dued minf minp start (k := k + 1) (by omega))
        clear e3 hl3 hown hg3 hwh3 hc1 hc2 hbx
        have hk8 : k ≤ 8 := by omega
        cases gr with
        | true =>
          go_wp2_with (at_builtin; refine wpList_append_where _ rfl (.tmp 44) (.tmp 45) 38 rfl (w.heap.size + 1) 5 i0 (.int .u8 0) 1 1 Try.underlying38 hi hz0 hz1 hz2 rfl (by decide) _ _ _ rfl (hown3.alloc _) ⟨w3.heap.size, 0, none⟩ 1 1 [_] rfl rfl (cell_one_new _ _ _) (fun x hx => by simp at hx; subst hx; rfl) (by unfold maxLen; omega) (by omega) (by simp; omega) ?_; intro v1 w4 hown4 hg4 hbk4)
          have hbx4 : Below (w.heap.size + 1) (w.alloc (.cells #[.int .i64 lim, .slice (some ⟨b, o, none⟩) ts.length cap, .int .i64 cyc, .int .i64 dued, .int .i64 minf, .int .i64 minp, .int .i64 start] 26)) w4 := (hbx3.alloc (by omega) _).grown hg4 (by simp; omega) (fun q hq => (hown3.lt q hq).1)
          have HT4 : Hid (w4.ownsRow (w.heap.size + 1) 5 1 v1 (packAt lim ts cyc dued minf minp start (k + 1)).length ((packAt lim ts cyc dued minf minp start (k + 1)).map (Value.int .u8))) := by
            rw [HLS.out, HS.out]
            have e : 56 + 9 * (k + 1) = 56 + 9 * k + 8 + 1 := by omega
            rw [e]
            simpa [Hid] using hown4
          clear hown3 hown4 hg4 hbk4 hbx3
          go_wp2_with fail
          go_roundg g
          case measure => omega
          case rel => exact ⟨k + 1, by omega, by go_num, HT4.out, hbx4⟩
        | false =>
          go_wp2_with (at_builtin; refine wpList_append_where _ rfl (.tmp 47) (.tmp 48) 38 rfl (w.heap.size + 1) 5 i0 (.int .u8 0) 1 1 Try.underlying38 hi hz0 hz1 hz2 rfl (by decide) _ _ _ rfl (hown3.alloc _) ⟨w3.heap.size, 0, none⟩ 1 1 [_] rfl rfl (cell_one_new _ _ _) (fun x hx => by simp at hx; subst hx; rfl) (by unfold maxLen; omega) (by omega) (by simp; omega) ?_; intro v1 w4 hown4 hg4 hbk4)
          have hbx4 : Below (w.heap.size + 1) (w.alloc (.cells #[.int .i64 lim, .slice (some ⟨b, o, none⟩) ts.length cap, .int .i64 cyc, .int .i64 dued, .int .i64 minf, .int .i64 minp, .int .i64 start] 26)) w4 := (hbx3.alloc (by omega) _).grown hg4 (by simp; omega) (fun q hq => (hown3.lt q hq).1)
          have HT4 : Hid (w4.ownsRow (w.heap.size + 1) 5 1 v1 (packAt lim ts cyc dued minf minp start (k + 1)).length ((packAt lim ts cyc dued minf minp start (k + 1)).map (Value.int .u8))) := by
            rw [HLS.out, HS.out]
            have e : 56 + 9 * (k + 1) = 56 + 9 * k + 8 + 1 := by omega
            rw [e]
            simpa [Hid] using hown4
          clear hown3 hown4 hg4 hbk4 hbx3
          go_wp2_with fail
          go_roundg g
          case measure => omega
          case rel => exact ⟨k + 1, by omega, by go_num, HT4.out, hbx4⟩
end Go.Proofs.Ytdjfpbjlmojikaa

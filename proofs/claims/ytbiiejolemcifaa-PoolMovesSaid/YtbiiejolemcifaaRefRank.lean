/- lombardref09.order, Low and High: the document's order of rates. -/
import Derived.Test.YtbiiejolemcifaaRankMath
import Derived.Test.YtbiiejolemcifaaAppend
import Derived.Deep.QuietTactic
import Derived.BigQuiet
import Derived.Deep.DeepCutAuto
import Derived.Deep.CutBlock
namespace Go.Proofs.Ytbiiejolemcifaa
open Go.RowKit

theorem info_ref09 : (Try.prog.info? 3).map (fun i => (i.zero, i.size, i.bytes)) = some (some (.int .i64 0), 1, 8) := by kernel_rfl
def ltOf (high : Bool) (x y : Int) : Bool := if high then decide (y < x) else decide (x < y)

set_option maxRecDepth 100000 in
set_option maxHeartbeats 400000 in
theorem order_any (high : Bool) (v : Value) (xs : List Int) (w : World) (hv : Sl .i64 w v xs) (hn : xs.length ≤ 1000) :
    Calls Try.prog 75 #[v, .bool high] w (RetSl .i64 (rankL (ltOf high) xs xs.length) w) := by
  have HV := Lib.hid hv
  obtain ⟨ao, cap, rfl, h1, ⟨h2, _⟩, h3⟩ := hv
  clear h3
  unfold maxLen at h2
  obtain ⟨i0, hi, hz0, hz1, hz2⟩ := info_parts info_ref09
  go_enter Try.func75, Try.ntmps75
  go_wp2
  go_loopg [5, 6] xs.length (fun g l i wr => ∃ n : Nat, n + g = xs.length ∧ i = .int .i64 n ∧ wr.ownsRow w.heap.size 3 1 l n ((rankL (ltOf high) xs n).map (Value.int .i64)) ∧ Below w.heap.size w wr)
  case atStart => exact ⟨0, by omega, rfl, World.ownsRow_nil _ _ _ _, Below.refl _ _⟩
  case round =>
    obtain ⟨n, hng, rfl, hown, hb⟩ := hrel
    cases gk with
    | zero =>
      have hlt : ¬ ((n : Int) < (xs.length : Int)) := by omega
      obtain rfl : n = xs.length := by omega
      go_wp2
      go_ret
      exact ⟨_, rfl, Sl.of_own hown (rankL_length _ _ _), hb⟩
    | succ g =>
      have hlt : ((n : Int) < (xs.length : Int)) := by omega
      obtain ⟨b, o, x, rfl, hcell, HX⟩ := (HV.out.below hb).get (i := n) (by omega)
      have hbs := hb.size
      have hsl : Sl .i64 wr u5 (rankL (ltOf high) xs n) := Sl.of_own hown (rankL_length _ _ _)
      have HSL := Lib.hid hsl
      obtain ⟨ao5, cap5, hu5, hl5, ⟨hl6, _⟩, _⟩ := hsl
      rw [rankL_length] at hu5 hl5
      subst hu5
      unfold maxLen at hl6
      have HO := Lib.hid (And.intro hown hb)
      have HB := Lib.hid hbs
      obtain ⟨wo, hwo⟩ : ∃ wo : World, wo = wr := ⟨_, rfl⟩
      subst hwo
      clear hown hb hbs
      go_upto_block 2 with fail
      go_cut [7] (fun s wy => s = .int .i64 (bk (fun y => ltOf high x (xs.getD (y - 1).toNat 0)) (rankL (ltOf high) xs n) n) ∧ Below wo.heap.size wo wy)
      case first =>
        go_wp2_with fail
        go_loopg [7] n (fun g s wy => ∃ k : Nat, k ≤ g ∧ k ≤ n ∧ s = .int .i64 k ∧ Hid (bk (fun y => ltOf high x (xs.getD (y - 1).toNat 0)) (rankL (ltOf high) xs n) k = bk (fun y => ltOf high x (xs.getD (y - 1).toNat 0)) (rankL (ltOf high) xs n) n) ∧ Below wo.heap.size wo wy)
        case atStart => exact ⟨n, Nat.le_refl _, Nat.le_refl _, rfl, rfl, Below.refl _ _⟩
        case round =>
          obtain ⟨k, hgk, hk, rfl, hbk, hby⟩ := hrel
          cases k with
          | zero =>
            have hk0 : decide ((0 : Int) < ((0 : Nat) : Int)) = false := by simp
            have hk1 : ¬ ((0 : Int) < ((0 : Nat) : Int)) := by omega
            go_wp2_with fail
            go_quiet (fail)
            go_wp2_with fail
            go_meet
            case rel => exact ⟨by rw [← hbk.out]; rfl, bdN hby _⟩
          | succ k =>
            have hl := rankL_length (ltOf high) xs n
            have hk0 : decide ((0 : Int) < ((k + 1 : Nat) : Int)) = true := by simp
            have hk1 : (0 : Int) < ((k + 1 : Nat) : Int) := by omega
            obtain ⟨y, hy⟩ : ∃ y, (rankL (ltOf high) xs n).getD k 0 = y := ⟨_, rfl⟩
            have hyr : 1 ≤ y ∧ y ≤ n := by rw [← hy]; exact rankL_at (by omega)
            obtain ⟨m, rfl⟩ : ∃ m : Nat, y = (m : Int) + 1 := ⟨(y - 1).toNat, by omega⟩
            have hb2 : Below w.heap.size w wr := HO.out.2.trans (hby.mono HB.out)
            obtain ⟨b', o', z, e0, hcz, hz⟩ := (HV.out.below hb2).get (i := m) (by omega)
            cases e0
            obtain ⟨b5, o5, y', e5, hcy, hy'⟩ := (HSL.out.below hby).get (i := k) (by omega)
            subst e5
            obtain rfl : (m : Int) + 1 = y' := hy.symm.trans hy'.out
            obtain ⟨b6, o6, x6, e6, hcx, hx6⟩ := (HV.out.below hb2).get (i := n) (by omega)
            cases e6
            obtain rfl : x = x6 := HX.out.symm.trans hx6.out
            have hm : m < xs.length := by omega
            have e1 : ((m : Int) + 1 - 1).toNat = m := by omega
            have hst : bk (fun y => ltOf high x (xs.getD (y - 1).toNat 0)) (rankL (ltOf high) xs n) (k + 1) = if ltOf high x z then bk (fun y => ltOf high x (xs.getD (y - 1).toNat 0)) (rankL (ltOf high) xs n) k else k + 1 := by
              simp only [bk, hy, e1, hz.out]
            have XT : Hid (ltOf high x z = true → bk (fun y => ltOf high x (xs.getD (y - 1).toNat 0)) (rankL (ltOf high) xs n) k = bk (fun y => ltOf high x (xs.getD (y - 1).toNat 0)) (rankL (ltOf high) xs n) n) := fun h => by
              rw [← hbk.out, hst, h]; rfl
            have XF : Hid (ltOf high x z = false → bk (fun y => ltOf high x (xs.getD (y - 1).toNat 0)) (rankL (ltOf high) xs n) n = k + 1) := fun h => by
              rw [← hbk.out, hst, h]; rfl
            clear hst e1 hl hy
            cases high
            · by_cases hc : x < z
              · have HC := Lib.hid hc
                go_wp2_with fail
                go_quiet (fail)
                go_wp2_with fail
                go_roundg k
                case measure => omega
                case rel => exact ⟨k, Nat.le_refl _, by omega, rfl, XT.out (by simp [ltOf, HC.out]), bdN hby _⟩
              · have HC := Lib.hid hc
                go_wp2_with fail
                go_quiet (fail)
                go_wp2_with fail
                go_meet
                case rel => exact ⟨by rw [XF.out (by simp [ltOf] ; have := HC.out; omega)]; go_num, bdN hby _⟩
            · by_cases hc : z < x
              · have HC := Lib.hid hc
                go_wp2_with fail
                go_quiet (fail)
                go_wp2_with fail
                go_roundg k
                case measure => omega
                case rel => exact ⟨k, Nat.le_refl _, by omega, rfl, XT.out (by simp [ltOf, HC.out]), bdN hby _⟩
              · have HC := Lib.hid hc
                have hd : decide (z < x) = false := by simpa using hc
                clear hc
                go_wp2_with fail
                go_quiet (fail)
                go_wp2_with fail
                go_meet
                case rel => exact ⟨by rw [XF.out (by simp [ltOf] ; have := HC.out; omega)]; go_num, bdN hby _⟩
      case rest =>
        obtain ⟨hs, hby⟩ := hcut
        subst hs
        have hkn := bk_le (fun y => ltOf high x (xs.getD (y - 1).toNat 0)) (rankL (ltOf high) xs n) n
        obtain ⟨k, hk⟩ : ∃ k, bk (fun y => ltOf high x (xs.getD (y - 1).toNat 0)) (rankL (ltOf high) xs n) n = k := ⟨_, rfl⟩
        rw [hk] at hkn ⊢
        have HK := Lib.hid hk
        clear hk
        go_upto_region 8 with fail
        have h3 : k ≤ cap5 := by omega
        have hoW : Below w.heap.size w wo := HO.out.2
        have hzW := HB.out
        have hzc : wo.heap.size ≤ wc.heap.size := hby.size
        have HL1 : Hid (∀ W, Below wo.heap.size wo W → Sl .i64 W (.slice ao5 k cap5) ((rankL (ltOf high) xs n).take k)) := fun W hW => (HSL.out.below hW).lo hkn
        have HL2 : Hid (∀ W, Below wo.heap.size wo W → Sl .i64 W (.slice (if cap5 = k then ao5 else Option.map (fun x => x.add k) ao5) (n - k) (cap5 - k)) ((rankL (ltOf high) xs n).drop k)) := fun W hW => (HSL.out.below hW).hi hkn
        have HLN := Lib.hid (rankL_length (ltOf high) xs n)
        go_region_law (first
          | (refine step_append_any _ rfl (.const (.slice none 0 0)) (.tmp 61) 43 rfl wo.heap.size 3 i0 (.int .i64 0) 1 8 Try.underlying43 hi hz0 hz1 hz2 rfl (by decide) (.slice none 0 0) 0 [] rfl (World.ownsRow_nil _ _ _ _) ao5 k cap5 (((rankL (ltOf high) xs n).take k).map (Value.int .i64)) ?_ ?_ (HL1.out wo (Below.refl _ _)).none_cap ?_ (ints_oneCell _ _) ?_ ?_ ?_ ?_
             · simp [Act.eval, Act.put]
             · have := HLN.out; simp; omega
             · exact (HL1.out _ (by first | exact hby.drew | exact (hby.drew).alloc (by simp; omega) _)).news
             · unfold maxLen; omega
             · omega
             · first | (simp; omega) | omega
             intro v1 w1 hown1 hg1 hn1; clear hn1
             have hb1 : Below wo.heap.size wo w1 := Below.grown (by first | exact hby.drew | exact (hby.drew).alloc (by simp; omega) _) hg1 (by first | (simp; omega) | omega) (by intro q hq; cases hq)
             have hsz1 := hb1.size)
          | (refine step_append_any _ rfl (.tmp 62) (.tmp 65) 43 rfl wo.heap.size 3 i0 (.int .i64 0) 1 8 Try.underlying43 hi hz0 hz1 hz2 rfl (by decide) v1 (0 + k) ([] ++ ((rankL (ltOf high) xs n).take k).map (Value.int .i64)) ?_ (hown1.alloc _) (some ⟨w1.heap.size, 0, none⟩) 1 1 [.int .i64 (IntKind.i64.wrap ((n : Int) + 1))] ?_ rfl (by intro h; cases h) ?_ (by intro u hu; simp at hu; subst hu; rfl) ?_ ?_ ?_ ?_
             · simp [Act.eval]
             · simp [Act.eval]
             · intro ad had; cases had; exact cell_one_new _ _ _
             · unfold maxLen; omega
             · omega
             · first | (simp; omega) | omega
             intro v2 w2 hown2 hg2 hn2; clear hn2
             have hb2 : Below wo.heap.size wo w2 := Below.grown (hb1.alloc (by omega) _) hg2 (by first | (simp; omega) | omega) (fun q hq => by have := (hown1.lt q hq).1; omega)
             have hsz2 := hb2.size)
          | (refine step_append_any _ rfl (.tmp 62) (.tmp 65) 43 rfl wo.heap.size 3 i0 (.int .i64 0) 1 8 Try.underlying43 hi hz0 hz1 hz2 rfl (by decide) v1 (0 + k) ([] ++ ((rankL (ltOf high) xs n).take k).map (Value.int .i64)) ?_ hown1 (some ⟨wc.heap.size, 0, none⟩) 1 1 [.int .i64 (IntKind.i64.wrap ((n : Int) + 1))] ?_ rfl (by intro h; cases h) ?_ (by intro u hu; simp at hu; subst hu; rfl) ?_ ?_ ?_ ?_
             · simp [Act.eval]
             · simp [Act.eval]
             · intro ad had; cases had; exact one_in_grown_drew hg1 rfl
             · unfold maxLen; omega
             · omega
             · first | (simp; omega) | omega
             intro v2 w2 hown2 hg2 hn2; clear hn2
             have hb2 : Below wo.heap.size wo w2 := Below.grown hb1 hg2 (by first | (simp; omega) | omega) (fun q hq => by have := (hown1.lt q hq).1; omega)
             have hsz2 := hb2.size)
          | (refine step_append_any _ rfl (.tmp 66) (.tmp 69) 43 rfl wo.heap.size 3 i0 (.int .i64 0) 1 8 Try.underlying43 hi hz0 hz1 hz2 rfl (by decide) v2 (0 + k + 1) ([] ++ ((rankL (ltOf high) xs n).take k).map (Value.int .i64) ++ [.int .i64 (IntKind.i64.wrap ((n : Int) + 1))]) ?_ hown2 (if cap5 = k then ao5 else Option.map (fun x => x.add k) ao5) (n - k) (cap5 - k) (((rankL (ltOf high) xs n).drop k).map (Value.int .i64)) ?_ ?_ (HL2.out _ hb2).none_cap (HL2.out _ hb2).news (ints_oneCell _ _) ?_ ?_ ?_ ?_
             · simp [Act.eval]
             · simp [Act.eval]
             · have := HLN.out; simp; omega
             · unfold maxLen; omega
             · omega
             · omega
             intro v3 w3 hown3 hg3 hn3; clear hn3
             have hb3 : Below wo.heap.size wo w3 := hb2.grown hg3 hsz2 (fun q hq => (hown2.lt q hq).1)))
        all_goals
          have hb4 : Below w.heap.size w w3 := hoW.trans (hb3.mono hzW)
          have hfin : w3.ownsRow w.heap.size 3 1 v3 (n + 1) ((rankL (ltOf high) xs (n + 1)).map (Value.int .i64)) := by
            have e1 : IntKind.i64.wrap ((n : Int) + 1) = (n : Int) + 1 := IntWalk.i64_in _ (by omega)
            have e2 : 0 + k + 1 + (n - k) = n + 1 := by omega
            rw [e2] at hown3
            have hl := HLN.out
            have e3 : rankL (ltOf high) xs (n + 1) = (rankL (ltOf high) xs n).take k ++ [(n : Int) + 1] ++ (rankL (ltOf high) xs n).drop k := by
              simp only [rankL, ins, hl, HX.out]
              rw [HK.out]
              simp [mid]
            rw [e3]
            refine own_base ?_ hzW
            simpa [e1] using hown3
          have HF := Lib.hid (And.intro hfin hb4)
          clear hfin hown1 hown2 hown3 hg1 hg2 hg3 hb1 hb2 hb3 hb4
          generalize (if cap5 = k then ao5 else Option.map (fun x => x.add k) ao5) = aoX
          go_wp2
          go_roundg g
          case measure => omega
          case rel => exact ⟨n + 1, by omega, by go_num, HF.out.1, HF.out.2⟩

theorem refLow_any (v : Value) (xs : List Int) (w : World) (hv : Sl .i64 w v xs) (hn : xs.length ≤ 1000) : Calls Try.prog 73 #[v] w (RetSl .i64 (rankL (ltOf false) xs xs.length) w) := by
  go_enter Try.func73, Try.ntmps73
  go_wp2_with (go_at_call 75; refine (order_any false _ xs _ hv hn).mono ?_; rintro e w' ⟨u, rfl, hs, hb⟩)
  go_ret
  exact ⟨u, rfl, hs, hb⟩
theorem refHigh_any (v : Value) (xs : List Int) (w : World) (hv : Sl .i64 w v xs) (hn : xs.length ≤ 1000) : Calls Try.prog 54 #[v] w (RetSl .i64 (rankL (ltOf true) xs xs.length) w) := by
  go_enter Try.func54, Try.ntmps54
  go_wp2_with (go_at_call 75; refine (order_any true _ xs _ hv hn).mono ?_; rintro e w' ⟨u, rfl, hs, hb⟩)
  go_ret
  exact ⟨u, rfl, hs, hb⟩
end Go.Proofs.Ytbiiejolemcifaa

/- rank.High: the order of rates, by falling ones. -/
import Derived.Test.YtbiiejolemcifaaRankMath
import Derived.BigRegion
import Derived.ScopeJumps
import Derived.Outline
import Derived.Deep.LoopGhost
namespace Go.Proofs.Ytbiiejolemcifaa
open Go.RowKit

def ltHigh (x y : Int) : Bool := decide (y < x)
theorem high1_any (x y : Int) (w : World) : Calls Try.prog 70 #[.int .i64 x, .int .i64 y] w (Ret (.bool (ltHigh x y)) w) := by
  go_enter Try.func70, Try.ntmps70
  go_wp2
  all_goals
    go_ret
    exact Ret.mk _ _
theorem info_rankHigh : (Try.prog.info? 3).map (fun i => (i.zero, i.size, i.bytes)) = some (some (.int .i64 0), 1, 8) := by kernel_rfl

set_option maxHeartbeats 400000 in
theorem rankedHigh_any (v : Value) (xs : List Int) (w : World) (hv : Sl .i64 w v xs) (hn : xs.length ≤ 1000) :
    Calls Try.prog 69 #[v, .func (.func 70) #[] #[]] w (RetSl .i64 (rankL ltHigh xs xs.length) w) := by
  have HV := Lib.hid hv
  obtain ⟨ao, cap, rfl, h1, ⟨h2, _⟩, h3⟩ := hv
  clear h3
  unfold maxLen at h2
  obtain ⟨i0, hi, hz0, hz1, hz2⟩ := info_parts info_rankHigh
  go_enter Try.func69, Try.ntmps69
  go_wp2
  go_loopg [5, 11] xs.length (fun g l i wr => ∃ n : Nat, n + g = xs.length ∧ i = .int .i64 n ∧ wr.ownsRow w.heap.size 3 1 l n ((rankL ltHigh xs n).map (Value.int .i64)) ∧ Below w.heap.size w wr)
  case atStart => exact ⟨0, by omega, rfl, World.ownsRow_nil _ _ _ _, Below.refl _ _⟩
  case round =>
    obtain ⟨n, hng, rfl, hown, hb⟩ := hrel
    cases gk with
    | zero =>
      have hlt : ¬ ((n : Int) < (xs.length : Int)) := by omega
      obtain rfl : n = xs.length := by omega
      go_wp2
      go_ret
      exact ⟨_, rfl, Sl.of_own hown (rankL_length _ _ _), hb⟩
    | succ g =>
      have hlt : ((n : Int) < (xs.length : Int)) := by omega
      obtain ⟨b, o, x, rfl, hcell, HX⟩ := (HV.out.below hb).get (i := n) (by omega)
      have hbs := hb.size
      go_wp2
      refine wp_scope_back 0 (fun a' w' => ∃ (k gg cap' : Nat) (cur : List Value) (u16 u17 u18 u19 u20 u21 u22 u23 u24 u25 u26 u27 u28 u29 u30 u31 u32 u33 u34 u35 u36 u37 u38 u39 u40 u41 u42 u43 u44 u45 u46 u47 u48 u49 u50 u51 u52 u53 u54 u55 u56 : Value), a' = { tmps := #[Value.slice (some { block := b, off := o }) xs.length cap, Value.func (Fn.func 70) #[] #[], undef, undef, Value.slice none 0 0, .slice (some ⟨gg, 0, none⟩) (n + 1) cap', .int .i64 n, .int .i64 x, .int .i64 k, Value.slice (some { block := b, off := o }) xs.length cap, Value.int IntKind.i64 ↑xs.length, .int .i64 n, .bool true, .int .i64 n, Value.pointer (some { block := b, off := o + n }), .int .i64 x, u16, u17, u18, u19, u20, u21, u22, u23, u24, u25, u26, u27, u28, u29, u30, u31, u32, u33, u34, u35, u36, u37, u38, u39, u40, u41, u42, u43, u44, u45, u46, u47, u48, u49, u50, u51, u52, u53, u54, u55, u56, undef], defers := [] } ∧
        k ≤ n ∧ bk (fun y => ltHigh x (xs.getD (y - 1).toNat 0)) (rankL ltHigh xs n) k = bk (fun y => ltHigh x (xs.getD (y - 1).toNat 0)) (rankL ltHigh xs n) n ∧ Blk w' gg 3 cur ∧ w.heap.size ≤ gg ∧ n + 1 ≤ cap' ∧ cap' ≤ maxLen ∧ cur.length = cap' ∧ cur.take (n + 1) = (mid (rankL ltHigh xs n) (n + 1) k).map (Value.int .i64) ∧ Below w.heap.size w w')
        (fun a' _ => (intOf (a'.tmps.getD 8 undef)).toNat) rfl ?pass ?first
      case first =>
        intro J' _ hrest
        have HR := Lib.hid hrest
        clear hrest
        go_wp2_with (at_builtin; refine wpList_append_own _ rfl (.tmp 16) (.tmp 19) 43 rfl w.heap.size 3 i0 (.int .i64 0) 1 8 Try.underlying43 hi hz0 hz1 hz2 rfl (by decide) _ _ _ rfl (hown.alloc _) ⟨wr.heap.size, 0, none⟩ 1 1 [.int .i64 (n + 1)] rfl rfl (cell_one_new _ _ _) (fun x hx => by simp at hx; subst hx; rfl) (by unfold maxLen; omega) (by omega) (by simp; omega) ?_; intro v' w1 hown1 hgrow1 hnil1)
        obtain ⟨gg, cap', rfl⟩ := own_shape hown1 (by omega)
        obtain ⟨cur, hB, hc1, hc2, hc3, hc4, hc5⟩ := blk_of_own hown1
        have hbw : Below w.heap.size w w1 := (hb.alloc hbs _).grown hgrow1 (by simp; omega) (fun k hk => (hown.lt k hk).1)
        go_step3
        go_step
        go_step
        refine HR.out _ _ ⟨n, gg, cap', cur, _, _, _, _, _, _, _, _, _, _, _, _, _, _, _, _, _, _, _, _, _, _, _, _, _, _, _, _, _, _, _, _, _, _, _, _, _, _, _, _, _, rfl, Nat.le_refl _, rfl, hB, hc5, hc1, hc2, by omega, ?_, hbw⟩
        have hl := rankL_length ltHigh xs n
        have e : mid (rankL ltHigh xs n) (n + 1) n = rankL ltHigh xs n ++ [(n : Int) + 1] := by
          have := mid_end (rankL ltHigh xs n) (n + 1)
          rwa [hl] at this
        rw [e, List.map_append]
        simpa using hc4
      case pass =>
        intro a1 w1 hJ J' hJ'
        obtain ⟨k, gg, cap', cur, hJ⟩ := hJ
        obtain ⟨u16, hJ⟩ := hJ
        obtain ⟨u17, hJ⟩ := hJ
        obtain ⟨u18, hJ⟩ := hJ
        obtain ⟨u19, hJ⟩ := hJ
        obtain ⟨u20, hJ⟩ := hJ
        obtain ⟨u21, hJ⟩ := hJ
        obtain ⟨u22, hJ⟩ := hJ
        obtain ⟨u23, hJ⟩ := hJ
        obtain ⟨u24, hJ⟩ := hJ
        obtain ⟨u25, hJ⟩ := hJ
        obtain ⟨u26, hJ⟩ := hJ
        obtain ⟨u27, hJ⟩ := hJ
        obtain ⟨u28, hJ⟩ := hJ
        obtain ⟨u29, hJ⟩ := hJ
        obtain ⟨u30, hJ⟩ := hJ
        obtain ⟨u31, hJ⟩ := hJ
        obtain ⟨u32, hJ⟩ := hJ
        obtain ⟨u33, hJ⟩ := hJ
        obtain ⟨u34, hJ⟩ := hJ
        obtain ⟨u35, hJ⟩ := hJ
        obtain ⟨u36, hJ⟩ := hJ
        obtain ⟨u37, hJ⟩ := hJ
        obtain ⟨u38, hJ⟩ := hJ
        obtain ⟨u39, hJ⟩ := hJ
        obtain ⟨u40, hJ⟩ := hJ
        obtain ⟨u41, hJ⟩ := hJ
        obtain ⟨u42, hJ⟩ := hJ
        obtain ⟨u43, hJ⟩ := hJ
        obtain ⟨u44, hJ⟩ := hJ
        obtain ⟨u45, hJ⟩ := hJ
        obtain ⟨u46, hJ⟩ := hJ
        obtain ⟨u47, hJ⟩ := hJ
        obtain ⟨u48, hJ⟩ := hJ
        obtain ⟨u49, hJ⟩ := hJ
        obtain ⟨u50, hJ⟩ := hJ
        obtain ⟨u51, hJ⟩ := hJ
        obtain ⟨u52, hJ⟩ := hJ
        obtain ⟨u53, hJ⟩ := hJ
        obtain ⟨u54, hJ⟩ := hJ
        obtain ⟨u55, hJ⟩ := hJ
        obtain ⟨u56, hJ⟩ := hJ
        obtain ⟨ha, hk, hbk, hB, hg, hc1, hc2, hc3, hc4, hbw⟩ := hJ
        subst ha
        have hl := rankL_length ltHigh xs n
        cases k with
        | zero =>
          have X := Lib.hid (And.intro hbk (And.intro hB (And.intro hc3 (And.intro hc4 (And.intro hbw hl)))))
          clear hbk hB hc3 hc4 hl
          have hk0 : ¬ ((0 : Int) < ((0 : Nat) : Int)) := by omega
          go_wp2
          simp only [Exit.jump]
          go_wp2
          go_roundg g
          case measure => omega
          case rel =>
            obtain ⟨hbk, hB, hc3, hc4, hbw, hl⟩ := X.out
            refine ⟨n + 1, by omega, by go_num, own_of_blk hB hg hc1 hc2 (by omega) ?_, hbw⟩
            rw [Nat.mul_one, hc4]
            simp only [rankL, ins, hl, HX.out]
            rw [← hbk]
            rfl
        | succ k =>
          have hk0 : (0 : Int) < ((k + 1 : Nat) : Int) := by omega
          obtain ⟨y, hy⟩ : ∃ y, (rankL ltHigh xs n).getD k 0 = y := ⟨_, rfl⟩
          have hyr : 1 ≤ y ∧ y ≤ n := by rw [← hy]; exact rankL_at (by omega)
          obtain ⟨m, rfl⟩ : ∃ m : Nat, y = (m : Int) + 1 := ⟨(y - 1).toNat, by omega⟩
          obtain ⟨b', o', z, e0, hcz, hz⟩ := (HV.out.below hbw).get (i := m) (by omega)
          cases e0
          have hcy : w1.cell? ⟨gg, k, none⟩ = some (.int .i64 ((m : Int) + 1)) := by
            rw [hB.cell, take_get hc4 (by omega) (by rw [mid_length]; omega), mid_get_lo (by omega) (by omega), hy]
          have hcx : w1.cell? ⟨gg, k + 1, none⟩ = some (.int .i64 ((n : Int) + 1)) := by
            rw [hB.cell, take_get hc4 (by omega) (by rw [mid_length]; omega), mid_get_hi (by omega)]
          have hf1 := hB.frozen k
          have hf2 := hB.frozen (k + 1)
          have hcall := high1_any x z w1
          have hm : m < xs.length := by omega
          have X := Lib.hid (And.intro hbk (And.intro hB (And.intro hc3 (And.intro hc4 (And.intro hbw (And.intro hl hy))))))
          clear hbk hB hc3 hc4 hl hy
          cases hz' : ltHigh x z
          · rw [hz'] at hcall
            have Z := Lib.hid hz'
            clear hz'
            go_wp2_with (go_at_call 70; refine hcall.mono ?_; rintro e w' ⟨rfl, rfl⟩)
            simp only [Exit.jump]
            go_wp2
            go_roundg g
            case measure => omega
            case rel =>
              obtain ⟨hbk, hB, hc3, hc4, hbw, hl, hy⟩ := X.out
              refine ⟨n + 1, by omega, by go_num, own_of_blk hB hg hc1 hc2 (by omega) ?_, hbw⟩
              rw [Nat.mul_one, hc4]
              simp only [rankL, ins, hl, HX.out]
              rw [← hbk]
              have e1 : ((m : Int) + 1 - 1).toNat = m := by omega
              simp only [bk, hy, e1, hz.out, Z.out]
              rfl
          · rw [hz'] at hcall
            have Z := Lib.hid hz'
            clear hz'
            go_wp2_with (go_at_call 70; refine hcall.mono ?_; rintro e w' ⟨rfl, rfl⟩)
            go_region
            go_wp2
            go_step3
            obtain ⟨hbk, hB, hc3, hc4, hbw, hl, hy⟩ := X.out
            refine ⟨rfl, hJ' _ _ ⟨k, gg, cap', (cur.set k (.int .i64 ((n : Int) + 1))).set (k + 1) (.int .i64 ((m : Int) + 1)), _, _, _, _, _, _, _, _, _, _, _, _, _, _, _, _, _, _, _, _, _, _, _, _, _, _, _, _, _, _, _, _, _, _, _, _, _, _, _, _, _, rfl, by omega, ?_, (hB.set k _).set (k + 1) _, hg, hc1, hc2, by simpa using hc3, ?_, ((hbw.setCell hg _).setCell hg _).drew⟩ ?_⟩
            · have e1 : ((m : Int) + 1 - 1).toNat = m := by omega
              rw [← hbk]
              simp only [bk, hy, e1, hz.out, Z.out, if_true]
            · rw [← mid_swap (by omega), hy]
              simp only [List.map_set, ← hc4]
              rw [take_set2 (by omega) (by omega)]
            · simp [intOf]
theorem high_any (v : Value) (xs : List Int) (w : World) (hv : Sl .i64 w v xs) (hn : xs.length ≤ 1000) : Calls Try.prog 46 #[v] w (RetSl .i64 (rankL ltHigh xs xs.length) w) := by
  go_enter Try.func46, Try.ntmps46
  go_wp2_with (go_at_call 69; refine (rankedHigh_any _ xs _ hv hn).mono ?_; rintro e w' ⟨u, rfl, hs, hb⟩)
  go_ret
  exact ⟨u, rfl, hs, hb⟩
end Go.Proofs.Ytbiiejolemcifaa

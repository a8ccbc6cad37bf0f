/- lombardlaw09.RankMirror: where no two rates are alike one order is the other one from behind; where all are alike both are by number. -/
import Derived.Test.YtfikdnmbnbkchaaMirrorMath
import Derived.Test.YtfikdnmbnbkchaaLaw09
import Derived.Test.YtfikdnmbnbkchaaIn64
import Derived.Deep.QuietTactic
import Derived.BigQuiet
import Derived.Deep.CutBlock
namespace Go.Proofs.Ytfikdnmbnbkchaa
open Go.RowKit

theorem info_mirror : (Try.prog.info? 2).map (fun i => (i.zero, i.size, i.bytes)) = some (some (.int .i64 0), 1, 8) := by kernel_rfl
/-- Two slices that the call owns, apart from each other. -/
def Two (w0 w : World) (a b : Value) (xs ys : List Int) : Prop :=
  w.ownsRow w0.heap.size 2 1 a xs.length (xs.map (Value.int .i64)) ∧ w.ownsRow w0.heap.size 2 1 b ys.length (ys.map (Value.int .i64)) ∧ (a.ownBlock = none ∨ b.ownBlock = none ∨ a.ownBlock ≠ b.ownBlock) ∧ Below w0.heap.size w0 w
theorem irr_low : ∀ a, ltLow a a = false := by simp [ltLow]
theorem irr_high : ∀ a, ltHigh a a = false := by simp [ltHigh]

set_option maxRecDepth 100000 in
set_option maxHeartbeats 800000 in
theorem rankMirror_any (v : Value) (xs : List Int) (q : Int) (w : World) (hv : Sl .i64 w v xs) : Calls Try.prog 5 #[v, .int .i64 q] w (RetB (.bool true) w) := by
  have HV := Lib.hid hv
  obtain ⟨ao, cap, rfl, h1, ⟨h2, _⟩, h3⟩ := hv
  clear h3
  unfold maxLen at h2
  obtain ⟨i0, hi, hz0, hz1, hz2⟩ := info_parts info_mirror
  by_cases hn : xs.length ≤ 60
  · have hd : ¬ ((60 : Int) < (xs.length : Int)) := by omega
    go_enter Try.func5, Try.ntmps5
    go_upto_block 0 with fail
    go_cut [5, 6] (fun s al wr => Two w wr s al (once xs xs.length) (List.replicate (once xs xs.length).length q))
    case first =>
      go_wp2_with fail
      go_loopg [5, 6, 7] xs.length (fun g s al i wr => ∃ k : Nat, k + g = xs.length ∧ i = .int .i64 k ∧ Two w wr s al (once xs k) (List.replicate (once xs k).length q))
      case atStart => exact ⟨0, by omega, rfl, World.ownsRow_nil _ _ _ _, World.ownsRow_nil _ _ _ _, .inl rfl, Below.refl _ _⟩
      case round =>
        obtain ⟨k, hkg, rfl, hT⟩ := hrel
        cases gk with
        | zero =>
          have hlt : ¬ ((k : Int) < (xs.length : Int)) := by omega
          obtain rfl : k = xs.length := by omega
          go_wp2
          go_meet
          case rel => exact hT
        | succ g =>
          have hlt : (k : Int) < (xs.length : Int) := by omega
          have hkn : k < xs.length := by omega
          have hle := once_le xs k
          obtain ⟨hA, hB, hap, hb⟩ := hT
          obtain ⟨b0, o0, x, rfl, hcx, hx⟩ := (HV.out.below hb).get (i := k) (by omega)
          have hS : Sl .i64 wr u5 (once xs k) := Sl.of_own hA rfl
          have hbs := hb.size
          cases hr : (once xs k).contains x with
          | true =>
            have HR := Lib.hid hr
            have HT := Lib.hid (And.intro hA (And.intro hB (And.intro hap hb)))
            clear hr hA hB hap hb
            go_wp2_with (go_at_call 21; refine (in64_any _ _ _ true HR.out _ hS).mono ?_; rintro e w' ⟨rfl, rfl⟩)
            go_roundg g
            case measure => omega
            case rel =>
              refine ⟨k + 1, by omega, by go_num, ?_⟩
              have e : once xs (k + 1) = once xs k := by simp only [once, hx.out, HR.out, if_true]
              rw [e]
              exact HT.out
          | false =>
            have HR := Lib.hid hr
            clear hr
            go_wp2_with (first
              | (go_at_call 21; refine (in64_any _ _ _ false HR.out _ hS).mono ?_; rintro e w' ⟨rfl, rfl⟩)
              | (at_builtin; refine wpList_append_where _ rfl (.tmp 30) (.tmp 35) 22 rfl w.heap.size 2 i0 (.int .i64 0) 1 8 Try.underlying22 hi hz0 hz1 hz2 rfl (by decide) _ _ _ rfl (hA.alloc _) ⟨wr.heap.size, 0, none⟩ 1 1 [.int .i64 x] rfl rfl (cell_one_new _ _ _) (fun x hx => by simp at hx; subst hx; rfl) (by unfold maxLen; omega) (by omega) (by simp; omega) ?_; intro v1 w1 hown1 hg1 hbk1; have hB1 := (hB.alloc (.cells #[.int .i64 x] 2)).kept hg1 (apart_or hap); have hz1' := hg1.size; simp only [World.size_alloc] at hz1')
              | (at_builtin; refine wpList_append_where _ rfl (.tmp 37) (.tmp 39) 22 rfl w.heap.size 2 i0 (.int .i64 0) 1 8 Try.underlying22 hi hz0 hz1 hz2 rfl (by decide) _ _ _ rfl (hB1.alloc _) ⟨w1.heap.size, 0, none⟩ 1 1 [.int .i64 q] rfl rfl (cell_one_new _ _ _) (fun x hx => by simp at hx; subst hx; rfl) (by unfold maxLen; rw [List.length_replicate]; omega) (by rw [List.length_replicate]; omega) (by rw [World.size_alloc]; omega) ?_; intro v2 w2 hown2 hg2 hbk2))
            have hb2 : Below w.heap.size w w2 := (((hb.alloc hbs _).grown hg1 (by rw [World.size_alloc]; omega) (fun k hk => (hA.lt k hk).1)).alloc (by omega) _).grown hg2 (by rw [World.size_alloc]; omega) (fun k hk => (hB1.lt k hk).1)
            have hap2 : v1.ownBlock = none ∨ v2.ownBlock = none ∨ v1.ownBlock ≠ v2.ownBlock := apart_two (s := wr.heap.size) hap hbk1 hbk2 (fun k hk => by have := (hA.lt k hk).2; omega) (fun k hk => by have := (hB.lt k hk).2; omega) (by rw [World.size_alloc]; omega) (by simp only [World.size_alloc]; omega)
            have hA2 := (hown1.alloc (.cells #[.int .i64 q] 2)).kept hg2 (apart_one hap hbk1 (fun k hk => by have := (hB.lt k hk).2; rw [World.size_alloc]; omega))
            have HT : Hid (Two w w2 v1 v2 (once xs (k + 1)) (List.replicate (once xs (k + 1)).length q)) := by
              have e : once xs (k + 1) = once xs k ++ [x] := by simp only [once, hx.out, HR.out, Bool.false_eq_true, if_false]
              rw [e]
              refine ⟨by simpa using hA2, ?_, hap2, hb2⟩
              rw [List.length_append, List.length_singleton, List.replicate_succ']
              simpa using hown2
            clear hA2 hap2 hb2 hown1 hown2 hg1 hg2 hbk1 hbk2 hA hB hB1 hap hb
            go_wp2_with fail
            go_roundg g
            case measure => omega
            case rel => exact ⟨k + 1, by omega, by go_num, HT.out⟩
    case rest =>
      have hDn := once_nodup xs xs.length
      have hDl := once_le xs xs.length
      generalize once xs xs.length = D at hcut hDn hDl
      obtain ⟨hA, hB, _, hb⟩ := hcut
      have hS := Lib.hid (Sl.of_own (k := .i64) hA rfl)
      have hA' := Lib.hid (Sl.of_own (k := .i64) hB rfl)
      have ML : Hid (∀ i, i < D.length → (rankL ltLow D D.length).getD i 0 = (rankL ltHigh D D.length).getD (D.length - 1 - i) 0) := fun i hi => mirror_at hDn hi
      clear hA hB hDn
      go_wp2_with fail
      refine (low_any _ D _ hS.out (by omega)).mono ?_
      rintro e w1 ⟨r1, rfl, hr1, hb1⟩
      go_wp2_with fail
      refine (high_any _ D _ (hS.out.below (by repeat (first | exact Below.refl _ _ | refine bl_al ?_ _ | refine bl_dr ?_ | refine bl_dN ?_ _ | refine bl_tr ?_ (by assumption)))) (by omega)).mono ?_
      rintro e w2 ⟨r2, rfl, hr2, hb2⟩
      go_wp2_with fail
      refine (low_any _ (List.replicate D.length q) _ (hA'.out.below (by repeat (first | exact Below.refl _ _ | refine bl_al ?_ _ | refine bl_dr ?_ | refine bl_dN ?_ _ | refine bl_tr ?_ (by assumption)))) (by simp; omega)).mono ?_
      rintro e w3 ⟨r3, rfl, hr3, hb3⟩
      go_wp2_with fail
      refine (high_any _ (List.replicate D.length q) _ (hA'.out.below (by repeat (first | exact Below.refl _ _ | refine bl_al ?_ _ | refine bl_dr ?_ | refine bl_dN ?_ _ | refine bl_tr ?_ (by assumption)))) (by simp; omega)).mono ?_
      rintro e w4 ⟨r4, rfl, hr4, hb4⟩
      rw [List.length_replicate] at hr3 hr4
      go_wp2_with fail
      refine (awake09_any _).mono ?_
      rintro e w5 ⟨rfl, hb5⟩
      have L1 := Lib.hid (hr1.below ((by repeat (first | exact Below.refl _ _ | refine bl_al ?_ _ | refine bl_dr ?_ | refine bl_dN ?_ _ | refine bl_tr ?_ (by assumption))) : Below w1.heap.size w1 w5))
      have L2 := Lib.hid (hr2.below ((by repeat (first | exact Below.refl _ _ | refine bl_al ?_ _ | refine bl_dr ?_ | refine bl_dN ?_ _ | refine bl_tr ?_ (by assumption))) : Below w2.heap.size w2 w5))
      have L3 := Lib.hid (hr3.below ((by repeat (first | exact Below.refl _ _ | refine bl_al ?_ _ | refine bl_dr ?_ | refine bl_dN ?_ _ | refine bl_tr ?_ (by assumption))) : Below w3.heap.size w3 w5))
      have L4 := Lib.hid (hr4.below ((by repeat (first | exact Below.refl _ _ | refine bl_al ?_ _ | refine bl_dr ?_ | refine bl_dN ?_ _ | refine bl_tr ?_ (by assumption))) : Below w4.heap.size w4 w5))
      have L0 : Hid (Below w.heap.size w w5) := (by repeat (first | exact Below.refl _ _ | refine bl_al ?_ _ | refine bl_dr ?_ | refine bl_dN ?_ _ | refine bl_tr ?_ (by assumption)))
      clear hb1 hb2 hb3 hb4 hb5 hb
      obtain ⟨a1, c1, rfl, m1, ⟨n1, _⟩, _⟩ := hr1
      obtain ⟨a2, c2, rfl, m2, ⟨n2, _⟩, _⟩ := hr2
      obtain ⟨a3, c3, rfl, m3, ⟨n3, _⟩, _⟩ := hr3
      obtain ⟨a4, c4, rfl, m4, ⟨n4, _⟩, _⟩ := hr4
      simp only [rankL_length] at L1 L2 L3 L4 m1 m2 m3 m4 ⊢
      obtain ⟨aS, cS, rfl, mS, ⟨nS, _⟩, _⟩ := hS.out
      unfold maxLen at n1 n2 n3 n4 nS
      have hne : ((D.length : Int) != (D.length : Int)) = false := by simp
      go_wp2_with fail
      clear hne
      go_loopg [12] D.length (fun g i wr => ∃ k : Nat, k + g = D.length ∧ i = .int .i64 k ∧ Below w5.heap.size w5 wr)
      case atStart => exact ⟨0, by omega, rfl, Below.refl _ _⟩
      case round =>
        obtain ⟨k, hkg, rfl, hb⟩ := hrel
        cases gk with
        | zero =>
          have hlt : ¬ ((k : Int) < (D.length : Int)) := by omega
          go_wp2
          go_ret
          exact ⟨rfl, bl_tr L0.out hb⟩
        | succ g =>
          have hlt : (k : Int) < (D.length : Int) := by omega
          have hkn : k < D.length := by omega
          obtain ⟨q1, p1, z, rfl, y1, v1⟩ := (L1.out.below hb).get (i := k) (by rw [rankL_length]; omega)
          obtain ⟨q2, p2, z', rfl, y2, v2⟩ := (L2.out.below hb).get (i := D.length - 1 - k) (by rw [rankL_length]; omega)
          obtain ⟨q3, p3, z3, rfl, y3, v3⟩ := (L3.out.below hb).get (i := k) (by rw [rankL_length]; omega)
          obtain ⟨q4, p4, z4, rfl, y4, v4⟩ := (L4.out.below hb).get (i := k) (by rw [rankL_length]; omega)
          obtain rfl : z = z' := by rw [← v1.out, ← v2.out]; exact ML.out k hkn
          obtain rfl : (k : Int) + 1 = z3 := by rw [← v3.out]; exact (alike_at irr_low q hkn).symm
          obtain rfl : (k : Int) + 1 = z4 := by rw [← v4.out]; exact (alike_at irr_high q hkn).symm
          have t1 : (z != z) = false := by simp
          have t2 : ((k : Int) + 1 != (k : Int) + 1) = false := by simp
          go_wp2_with fail
          go_quiet (fail)
          go_wp2_with fail
          go_roundg g
          case measure => omega
          case rel => exact ⟨k + 1, by omega, by go_num, bdN hb _⟩
  · have hd : (60 : Int) < (xs.length : Int) := by omega
    go_enter Try.func5, Try.ntmps5
    go_wp2_with fail
    refine (awake09_any _).mono ?_
    rintro e w2 ⟨rfl, hb2⟩
    go_wp2_with fail
    go_ret
    exact ⟨rfl, hb2⟩
end Go.Proofs.Ytfikdnmbnbkchaa

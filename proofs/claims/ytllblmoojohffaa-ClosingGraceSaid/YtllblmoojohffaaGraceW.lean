/- ClosingGrace: where there is grace a tranche that may have it bears nothing, another one as ever. -/
import Derived.Test.YtllblmoojohffaaClosInt
import Derived.Test.YtllblmoojohffaaLaw13
import Derived.Deep.DrawnRows
namespace Go.Proofs.Ytllblmoojohffaa
open Go.RowKit EvM
attribute [local go_sem ↓] Go.wp_at_zero Go.wp_at_succ

theorem ofR2_small {n : Nat} (h : n ≤ 1000000000000000000) : ∃ x, ofR2 n = (x, 0) := by
  have he := even_le n 1000000000
  have e1 : (((0 : Nat) : Int) * 18446744073709551616 + (n : Int)).toNat = n := by omega
  have hq : evQ ((0 : Nat) : Int) (n : Int) 1000000000 = ((evenN n 1000000000 : Int), true) := by
    unfold evQ
    rw [if_neg (by omega), e1, show (1000000000 : Int).toNat = 1000000000 from by decide, if_pos (by omega)]
  rw [ofR2_of (hi := 0) (lo := n) (by omega) (by omega) hq]
  exact ⟨_, if_pos ⟨rfl, by omega⟩⟩
/-- One list, twice. -/
theorem RwS.twice {w : World} {e : TypeId} {v : Value} {xs : List Int} {g : Nat} (h : Sl .i64 w v xs) (hg : w.heap.size = g) : RwS (w.alloc (.cells #[v, v] e)) (.slice (some ⟨g, 0, none⟩) 2 2) [xs, xs] := by
  subst hg
  have hb : Blk (w.alloc (.cells #[v, v] e)) w.heap.size e [v, v] := heap_alloc_new w _
  refine ⟨_, _, rfl, Nat.le_refl _, ⟨by simp [maxLen], fun h => by cases h⟩, fun _ => ⟨w.heap.size, 0, rfl, fun i hi => ?_⟩⟩
  have hi2 : i < 2 := hi
  have : i = 0 ∨ i = 1 := by omega
  rcases this with rfl | rfl
  · exact ⟨v, hb.cell 0, h.below (bl_al (Below.refl _ _) _)⟩
  · exact ⟨v, hb.cell 1, h.below (bl_al (Below.refl _ _) _)⟩
theorem grace_on {bs rs : List Int} {x : Int} (h : interR bs rs = (x, 0)) : ∀ i, i < ts18.length → ((true && (ts18.getD i (0, false)).2) = true ∧ [0, x].getD i 0 = 0) ∨ ((true && (ts18.getD i (0, false)).2) = false ∧ interR ([bs, bs].getD i []) ([rs, rs].getD i []) = ([0, x].getD i 0, 0)) := by
  intro i hi
  have hi2 : i < 2 := hi
  have : i = 0 ∨ i = 1 := by omega
  rcases this with rfl | rfl
  · exact .inl ⟨rfl, rfl⟩
  · exact .inr ⟨rfl, h⟩
theorem grace_off {bs rs : List Int} {x : Int} (h : interR bs rs = (x, 0)) : ∀ i, i < ts18.length → ((false && (ts18.getD i (0, false)).2) = true ∧ [x, x].getD i 0 = 0) ∨ ((false && (ts18.getD i (0, false)).2) = false ∧ interR ([bs, bs].getD i []) ([rs, rs].getD i []) = ([x, x].getD i 0, 0)) := by
  intro i hi
  have hi2 : i < 2 := hi
  have : i = 0 ∨ i = 1 := by omega
  rcases this with rfl | rfl
  · exact .inr ⟨rfl, h⟩
  · exact .inr ⟨rfl, h⟩

set_option maxRecDepth 100000 in
set_option maxHeartbeats 3200000 in
theorem closingGrace_any (balance days : Int) (w : World) : Calls Try.prog 13 #[.int .i64 balance, .int .i64 days] w (RetB (.bool true) w) := by
  obtain ⟨B, kB, wB, hB⟩ := u64_rem3 balance 1000000000 (by omega) (by omega)
  obtain ⟨D, kD, wD, hD⟩ := u64_rem3 days 40 (by omega) (by omega)
  obtain ⟨x, hx⟩ := ofR2_small (n := D * (B * 1000)) (by
    have h1 : B * 1000 ≤ 1000000000000 := by omega
    have h2 : D * (B * 1000) ≤ 40 * 1000000000000 := Nat.mul_le_mul (by omega) h1
    omega)
  have HI : Hid (interR (List.replicate D (B : Int)) (List.replicate D (1000 : Int)) = (x, 0)) := by
    show _ = _
    have := inter_rep (B := B) (R := 1000) (D := D) (by omega) (by omega) (by omega)
    rw [hx] at this
    exact this
  have kB' : (IntKind.u64.wrap balance).tmod 1000000000 = (B : Int) := kB
  have kD' : (IntKind.u64.wrap days).tmod 40 = (D : Int) := kD
  obtain ⟨i0, hi, hz0, hz1, hz2⟩ := info_parts info_two
  have HD := Lib.hid hD
  clear hx kB kD
  go_enter Try.func13, Try.ntmps13
  go_wp2_with fail
  clear kB' kD' wD wB
  go_loopg [5, 6, 7] D (fun g s t i wr => ∃ k : Nat, k + g = D ∧ i = .int .i64 k ∧ Two w wr s t (List.replicate k (B : Int)) (List.replicate k (1000 : Int)))
  case atStart => exact ⟨0, by omega, rfl, World.ownsRow_nil _ _ _ _, World.ownsRow_nil _ _ _ _, .inl rfl, Below.refl _ _⟩
  case round =>
    obtain ⟨k, hkg, rfl, hT⟩ := hrel
    cases gk with
    | zero =>
      have hlt : ¬ ((k : Int) < (D : Int)) := by omega
      obtain rfl : k = D := by omega
      obtain ⟨hA, hC, _, hb⟩ := hT
      have hSB := Sl.of_own (k := .i64) hA rfl
      have hSR := Sl.of_own (k := .i64) hC rfl
      have HB0 := Lib.hid hb
      obtain ⟨ab, qb, rfl⟩ := hSB.shape
      obtain ⟨ar, qr, rfl⟩ := hSR.shape
      rw [List.length_replicate] at *
      have HSB := Lib.hid hSB
      have HSR := Lib.hid hSR
      clear hA hC hb hi hz0 hz1 hz2 hSB hSR
      go_wp2_with fail
      refine (terms18_any _).mono ?_
      rintro _ w1 ⟨a1, q1, rfl, ht1, hb1⟩
      have HT1 := Lib.hid ht1
      have HSB1 := Lib.hid (HSB.out.below hb1)
      have HSR1 := Lib.hid (HSR.out.below hb1)
      have HB1 := Lib.hid (bl_tr HB0.out hb1)
      clear ht1 hb1
      go_wp2_with fail
      refine (closInt_yes _ ts18 5000 1 20 25 20 10957 _ _ [(List.replicate k (B : Int)), (List.replicate k (B : Int))] [(List.replicate k (1000 : Int)), (List.replicate k (1000 : Int))] true right18 rfl rfl (by decide) [0, x] rfl (grace_on HI.out) _ (HT1.out.below (bl_al (bl_al (Below.refl _ _) _) _)) ((RwS.twice HSB1.out rfl).below (bl_al (Below.refl _ _) _)) (RwS.twice (HSR1.out.below (bl_al (Below.refl _ _) _)) (by simp))).mono ?_
      rintro _ w2 ⟨v2, rfl, hs2, hbn⟩
      have hbq := bl_tr (bl_al (bl_al (Below.refl w1.heap.size w1) (.cells #[.slice ab k qb, .slice ab k qb] 22)) (.cells #[.slice ar k qr, .slice ar k qr] 22)) hbn
      obtain ⟨aq2, qq2, rfl⟩ := hs2.shape
      simp only [List.length_cons, List.length_nil, Nat.zero_add, Nat.reduceAdd] at hs2 ⊢
      have HS2 := Lib.hid hs2
      have HSB2 := Lib.hid (HSB1.out.below hbq)
      have HSR2 := Lib.hid (HSR1.out.below hbq)
      have HB2 := Lib.hid (bl_tr HB1.out hbq)
      clear hs2 hbn hbq
      go_wp2_with fail
      refine (terms18_any _).mono ?_
      rintro _ w3 ⟨a3, q3, rfl, ht3, hb3⟩
      have HT3 := Lib.hid ht3
      have HSB3 := Lib.hid (HSB2.out.below hb3)
      have HSR3 := Lib.hid (HSR2.out.below hb3)
      have HB3 := Lib.hid (bl_tr HB2.out hb3)
      have HS2b := Lib.hid (HS2.out.below hb3)
      clear ht3 hb3
      go_wp2_with fail
      refine (closInt_yes _ ts18 5000 1 20 25 20 10957 _ _ [(List.replicate k (B : Int)), (List.replicate k (B : Int))] [(List.replicate k (1000 : Int)), (List.replicate k (1000 : Int))] false right18 rfl rfl (by decide) [x, x] rfl (grace_off HI.out) _ (HT3.out.below (bl_al (bl_al (Below.refl _ _) _) _)) ((RwS.twice HSB3.out rfl).below (bl_al (Below.refl _ _) _)) (RwS.twice (HSR3.out.below (bl_al (Below.refl _ _) _)) (by simp))).mono ?_
      rintro _ w4 ⟨v4, rfl, hs4, hbn⟩
      have hbq := bl_tr (bl_al (bl_al (Below.refl w3.heap.size w3) (.cells #[.slice ab k qb, .slice ab k qb] 22)) (.cells #[.slice ar k qr, .slice ar k qr] 22)) hbn
      obtain ⟨aq4, qq4, rfl⟩ := hs4.shape
      simp only [List.length_cons, List.length_nil, Nat.zero_add, Nat.reduceAdd] at hs4 ⊢
      have HS4 := Lib.hid hs4
      have HB4 := Lib.hid (bl_tr HB3.out hbq)
      have HS2c := Lib.hid (HS2b.out.below hbq)
      clear hs4 hbn hbq
      obtain ⟨b2, o2, e2, c20⟩ := HS2c.out.at (i := 0) (by simp)
      subst e2
      obtain ⟨b2', o2', e2, c21⟩ := HS2c.out.at (i := 1) (by simp)
      cases e2
      obtain ⟨b4, o4, e4, c40⟩ := HS4.out.at (i := 0) (by simp)
      subst e4
      obtain ⟨b4', o4', e4, c41⟩ := HS4.out.at (i := 1) (by simp)
      cases e4
      simp only [Nat.add_zero, List.getD_cons_zero, List.getD_cons_succ] at c20 c21 c40 c41
      have hall : ∀ W', Below w4.heap.size w4 W' → (W'.cell? ⟨b2, o2, none⟩ = some (.int .i64 0) ∧ W'.cell? ⟨b2, o2 + 1, none⟩ = some (.int .i64 x) ∧ W'.cell? ⟨b4, o4, none⟩ = some (.int .i64 x) ∧ W'.cell? ⟨b4, o4 + 1, none⟩ = some (.int .i64 x)) := fun W' h =>
        ⟨(h.cell (p := ⟨b2, o2, none⟩) (cell_block_lt c20)).trans c20, (h.cell (p := ⟨b2, o2 + 1, none⟩) (cell_block_lt c21)).trans c21, (h.cell (p := ⟨b4, o4, none⟩) (cell_block_lt c40)).trans c40, (h.cell (p := ⟨b4, o4 + 1, none⟩) (cell_block_lt c41)).trans c41⟩
      have HALL := Lib.hid hall
      have hs0 := hall w4 (Below.refl _ _)
      have hsd := hall w4.drew (bl_dr (Below.refl _ _))
      clear hall c20 c21 c40 c41
      go_upto_region 10 with fail
      go_region_held3 (fun W' => W'.cell? ⟨b2, o2, none⟩ = some (.int .i64 0) ∧ W'.cell? ⟨b2, o2 + 1, none⟩ = some (.int .i64 x) ∧ W'.cell? ⟨b4, o4, none⟩ = some (.int .i64 x) ∧ W'.cell? ⟨b4, o4 + 1, none⟩ = some (.int .i64 x)) (first | with_reducible assumption | with_reducible exact hs0 | with_reducible exact hsd | with_reducible exact hs5) (first | (go_at_call 29; refine (awake18_any _).mono ?_; rintro _ w5 ⟨rfl, hb5⟩; have HB5 : Hid (Below w4.heap.size w4 w5) := (by first | exact hb5 | exact bl_tr (bl_dr (Below.refl _ _)) hb5); have hs5 := HALL.out w5 HB5.out; clear hb5))
      have HBF := Lib.hid (bl_tr HB4.out HB5.out)
      go_wp2_with fail
      go_ret
      exact ⟨rfl, HBF.out⟩
    | succ g =>
      have hlt : (k : Int) < (D : Int) := by omega
      have hD := HD.out
      obtain ⟨hA, hB, hap, hb⟩ := hT
      have hbs := hb.size
      rw [List.length_replicate] at hA hB
      go_wp2_with (first
        | (at_builtin; refine wpList_append_where _ rfl (.tmp 25) (.tmp 27) 22 rfl w.heap.size 2 i0 (.int .i64 0) 1 8 Try.underlying22 hi hz0 hz1 hz2 rfl (by decide) _ _ _ rfl (hA.alloc _) ⟨wr.heap.size, 0, none⟩ 1 1 [_] rfl rfl (cell_one_new _ _ _) (fun x hx => by simp at hx; subst hx; rfl) (by unfold maxLen; omega) (by omega) (by simp; omega) ?_; intro v1 w1 hown1 hg1 hbk1; have hB1 := (hB.alloc _).kept hg1 (apart_or hap); have hz1' := hg1.size; simp only [World.size_alloc] at hz1'; have hb1 := (hb.alloc hbs (.cells #[.int .i64 (B : Int)] 2)).grown hg1 (by rw [World.size_alloc]; omega) (fun k hk => (hA.lt k hk).1))
        | (at_builtin; refine wpList_append_where _ rfl (.tmp 29) (.tmp 30) 22 rfl w.heap.size 2 i0 (.int .i64 0) 1 8 Try.underlying22 hi hz0 hz1 hz2 rfl (by decide) _ _ _ rfl (hB1.alloc _) ⟨w1.heap.size, 0, none⟩ 1 1 [_] rfl rfl (cell_one_new _ _ _) (fun x hx => by simp at hx; subst hx; rfl) (by unfold maxLen; omega) (by omega) (by rw [World.size_alloc]; omega) ?_; intro v2 w2 hown2 hg2 hbk2))
      have hb2 : Below w.heap.size w w2 := (hb1.alloc (by omega) _).grown hg2 (by rw [World.size_alloc]; omega) (fun k hk => (hB1.lt k hk).1)
      have hap2 : v1.ownBlock = none ∨ v2.ownBlock = none ∨ v1.ownBlock ≠ v2.ownBlock := apart_two (s := wr.heap.size) hap hbk1 hbk2 (fun k hk => by have := (hA.lt k hk).2; omega) (fun k hk => by have := (hB.lt k hk).2; omega) (by rw [World.size_alloc]; omega) (by simp only [World.size_alloc]; omega)
      have hA2 := (hown1.alloc (.cells #[.int .i64 1000] 2)).kept hg2 (apart_one hap hbk1 (fun k hk => by have := (hB.lt k hk).2; rw [World.size_alloc]; omega))
      have HT : Hid (Two w w2 v1 v2 (List.replicate (k + 1) (B : Int)) (List.replicate (k + 1) (1000 : Int))) := by
        rw [List.replicate_succ', List.replicate_succ']
        exact Lib.hid ⟨by simpa using hA2, by simpa using hown2, hap2, hb2⟩
      clear hA2 hap2 hb2 hown1 hown2 hg1 hg2 hbk1 hbk2 hA hB hB1 hap hb hb1
      go_wp2_with fail
      go_roundg g
      case measure => omega
      case rel => exact ⟨k + 1, by omega, by go_num, HT.out⟩
end Go.Proofs.Ytllblmoojohffaa

/- pool.Postings' own function put: one posting more, if it is one, in the slice and in the sum that it holds. -/
import Derived.Test.YtbiiejolemcifaaTurn
import Derived.Test.YtbiiejolemcifaaPosO
import Derived.Test.YtbiiejolemcifaaPosting
import Derived.Test.YtbiiejolemcifaaAppend
namespace Go.Proofs.Ytbiiejolemcifaa
open Go.RowKit FlM
attribute [local go_sem] run_store_complex run_store_float

theorem info_postP : (Try.prog.info? 61).map (fun i => (i.zero, i.size, i.bytes)) = some (some (.agg #[.int .i64 0, .complex .f64 0 0]), 2, 24) := by kernel_rfl
/-- What is there by then: the slice in its box, the sum in its box. -/
def PutSt (base bl ba : Nat) (ps : List (Int × Nat × Nat)) (D C : Nat) (w0 w : World) : Prop :=
  ∃ v x y, w.ownsRow base 61 2 v ps.length (cellsP ps) ∧ Blk w bl 33 [v] ∧ Blk w ba 59 [.complex .f64 x y] ∧ Hid (FlM.N D = x ∧ FlM.N C = y) ∧ Below base w0 w
theorem turnW_eq (more : Int) (h : -1000000000000000 ≤ more ∧ more ≤ 1000000000000000) : turnW more = (FlM.N more.toNat, FlM.N (-more).toNat) := by
  obtain ⟨h1, h2⟩ := h
  unfold turnW sideW
  by_cases a : more < 0
  · rw [if_pos a, if_neg (by omega), show more.toNat = 0 by omega, N_zero]
  · rw [if_neg a, if_neg (by omega), show (-more).toNat = 0 by omega, N_zero]
theorem postL_yes (acc more : Int) {x y : Nat} (h : turnW more = (x, y)) (hne : more ≠ 0) : postL acc more = [(acc, x, y)] := by
  unfold turnW at h
  unfold postL
  by_cases a : more < 0
  · rw [if_pos a] at h
    injection h with e1 e2
    rw [if_neg (by omega), if_pos a, ← e1, ← e2]
  · rw [if_neg a] at h
    injection h with e1 e2
    rw [if_pos (by omega), ← e1, ← e2]
theorem postL_no (acc : Int) : postL acc 0 = [] := rfl
theorem ownP_below {w w' : World} {base : Nat} {e : TypeId} {size n : Nat} {v : Value} {xs : List Value} (h : w.ownsRow base e size v n xs) (hb : Below w.heap.size w w') : w'.ownsRow base e size v n xs := by
  obtain ⟨h1, h2⟩ := h
  refine ⟨h1, ?_⟩
  rcases h2 with h2 | ⟨g, cap, cur, hv, hg, hc, r⟩
  · exact Or.inl h2
  · exact Or.inr ⟨g, cap, cur, hv, hg, (hb.block g (Array.getElem?_eq_some_iff.1 hc).1).trans hc, r⟩
theorem below_le {B : Nat} {w w' : World} (h : Below w.heap.size w w') (hle : B ≤ w.heap.size) : Below B w w' := h.mono hle
theorem PutSt.below {base bl ba : Nat} {ps : List (Int × Nat × Nat)} {D C : Nat} {w0 w w' : World} (h : PutSt base bl ba ps D C w0 w) (hb : Below w.heap.size w w') (hbl : base ≤ bl) : PutSt base bl ba ps D C w0 w' := by
  obtain ⟨v, x, y, h1, h2, h3, h4, h5⟩ := h
  exact ⟨v, x, y, ownP_below h1 hb, h2.below hb, h3.below hb, h4, h5.trans (below_le hb (by have := h2.lt; omega))⟩
/-- The block of what is owned is not one of another type. -/
theorem own_ne {w : World} {base : Nat} {e t : TypeId} {size n g : Nat} {v : Value} {xs cur : List Value} (h : w.ownsRow base e size v n xs) (hb : Blk w g t cur) (hne : t ≠ e) : v.ownBlock ≠ some g := by
  rcases h.2 with ⟨rfl, _⟩ | ⟨g', cap, cur', rfl, _, hc, _⟩
  · simp [Value.ownBlock]
  · intro e1
    simp only [Value.ownBlock, Option.some.injEq] at e1
    subst e1
    unfold Blk at hb
    rw [hb] at hc
    simp at hc
    exact hne hc.2
theorem blk_grownP {w w' : World} {g : Nat} {r : Option Nat} {e : TypeId} {cur : List Value} (h : Blk w g e cur) (hg : w.grownBy w' r) (hne : some g ≠ r) : Blk w' g e cur := (hg.block g h.lt hne).trans h
theorem own_new_ne {w : World} {base : Nat} {e : TypeId} {size n : Nat} {v : Value} {xs : List Value} (h : w.ownsRow base e size v n xs) : v.ownBlock ≠ some w.heap.size := by
  rcases h.2 with ⟨rfl, _⟩ | ⟨g', cap, cur', rfl, _, hc, _⟩
  · simp [Value.ownBlock]
  · intro e1
    simp only [Value.ownBlock, Option.some.injEq] at e1
    have := (Array.getElem?_eq_some_iff.1 hc).1
    omega
theorem Blk.belowB {w w' : World} {B g : Nat} {e : TypeId} {cur : List Value} (h : Blk w g e cur) (hb : Below B w w') (hg : g < B) : Blk w' g e cur := (hb.block g hg).trans h
theorem two_new (w : World) (a b : Value) (t : TypeId) : ∀ j u, [a, b][j]? = some u → (w.alloc (.cells #[a, b] t)).cell? ((⟨w.heap.size, 0, none⟩ : Addr).add j) = some u := by
  intro j u hu
  have h : Blk (w.alloc (.cells #[a, b] t)) w.heap.size t [a, b] := heap_alloc_new w _
  rw [Addr.add_lit, h.cell, Nat.zero_add]
  exact hu
set_option maxHeartbeats 800000 in
theorem put_any (acc more : Int) (hm : -1000000000000000 ≤ more ∧ more ≤ 1000000000000000) (base bl ba : Nat) (ps : List (Int × Nat × Nat)) (D C : Nat) (hps : ps.length ≤ 1000) (hD : D + more.toNat < 9007199254740992) (hC : C + (-more).toNat < 9007199254740992) (hbl : base ≤ bl) (hba : base ≤ ba) (w0 w : World) (hst : PutSt base bl ba ps D C w0 w) :
    Calls Try.prog 39 #[.int .i64 acc, .int .i64 more, .pointer (some ⟨bl, 0, none⟩), .pointer (some ⟨ba, 0, none⟩)] w (fun e w' => e = .returned (.tuple #[]) ∧ PutSt base bl ba (ps ++ postL acc more) (D + more.toNat) (C + (-more).toNat) w0 w') := by
  obtain ⟨v, x, y, hown, hl, ha, HXY, hB⟩ := hst
  have HOWN := Lib.hid hown
  obtain ⟨tx, ty, ht⟩ : ∃ a b, turnW more = (a, b) := ⟨_, _, rfl⟩
  have HT := Lib.hid ht
  have hne : bl ≠ ba := by
    rintro rfl
    unfold Blk at hl ha
    rw [hl] at ha
    simp at ha
  by_cases h0 : more = 0
  · subst h0
    have HR : Hid (((0 : Int) != 0) = false) := rfl
    have HF : Hid (PutSt base bl ba (ps ++ postL acc 0) (D + (0 : Int).toNat) (C + (-(0 : Int)).toNat) w0 w) := by
      show PutSt _ _ _ _ _ _ _ _
      rw [postL_no, List.append_nil]
      exact ⟨v, x, y, hown, hl, ha, HXY, hB⟩
    clear hown hl ha hB ht
    go_enter Try.func39, Try.ntmps39
    go_wp2_with fail
    refine (turn_any acc 0 (by omega) tx ty HT false HR _).mono ?_
    rintro _ w1 ⟨rfl, hb1⟩
    go_wp2_with fail
    go_end0
    exact ⟨rfl, HF.out.below (bl_al hb1 _) hbl⟩
  · have hr : (more != 0) = true := by simp; omega
    have HR := Lib.hid hr
    have HL := Lib.hid hl
    have HA := Lib.hid ha
    have HBS : Hid (base ≤ w.heap.size) := by show base ≤ _; have := hl.lt; omega
    obtain ⟨nx, hnx⟩ : ∃ a, FlM.N (D + more.toNat) = a := ⟨_, rfl⟩
    obtain ⟨ny, hny⟩ : ∃ a, FlM.N (C + (-more).toNat) = a := ⟨_, rfl⟩
    have hsb := sum_bits D C more.toNat (-more).toNat hD hC
    have htw := turnW_eq more hm
    rw [ht] at htw
    injection htw with ht1 ht2
    rw [HXY.out.1, HXY.out.2, ← ht1, ← ht2, hnx, hny] at hsb
    have csum := fun W => run_complex_sum (P := Try.prog) W .add (Or.inl rfl) 59 .f64 x y tx ty nx ny hsb
    have HNX := Lib.hid (And.intro hnx hny)
    have HPL := Lib.hid (postL_yes acc more ht h0)
    have NL := Lib.hid (own_ne hown hl (by decide))
    have NA := Lib.hid (own_ne hown ha (by decide))
    obtain ⟨i0, hi, hz0, hz1, hz2⟩ := info_parts info_postP
    have HB0 := Lib.hid hB
    have HNE := Lib.hid hne
    have hm2 : -1000000000000000000 ≤ more ∧ more ≤ 1000000000000000000 := by omega
    have HM2 := Lib.hid hm2
    clear hown hl ha hB ht hsb hnx hny ht1 ht2 hr hne hD hC hm hm2
    go_enter Try.func39, Try.ntmps39
    go_wp2_with fail
    refine (turn_any acc more HM2.out tx ty HT true HR _).mono ?_
    rintro _ w1 ⟨rfl, hb1⟩
    have KL := Lib.hid (HL.out.below hb1)
    have KA := Lib.hid (HA.out.below hb1)
    have KO := Lib.hid (ownP_below HOWN.out hb1)
    have cl := KL.out.cell 0
    have kl := KL.out.lt
    simp only [List.getElem?_cons_zero] at cl
    have HP : Hid (Blk (w1.alloc (.cells #[.int .i64 acc, .complex .f64 tx ty] 61)) w1.heap.size 61 [.int .i64 acc, .complex .f64 tx ty]) := heap_alloc_new w1 _
    have HB1 := Lib.hid (HB0.out.trans (below_le hb1 HBS.out))
    have hbz : base ≤ w1.heap.size := by have := hb1.size; have := HBS.out; omega
    clear hb1
    obtain ⟨n, hn⟩ : ∃ n, ps.length = n := ⟨_, rfl⟩
    rw [hn] at hps
    have HN := Lib.hid hn
    have KO2 : Hid (w1.ownsRow base 61 2 v n (cellsP ps)) := by have := KO.out; rwa [hn] at this
    clear hn
    go_wp2_with (at_builtin; refine wpList_append_where _ rfl (.tmp 15) (.tmp 17) 33 rfl base 61 i0 (.agg #[.int .i64 0, .complex .f64 0 0]) 2 24 Try.underlying33 hi hz0 hz1 hz2 rfl (by decide) _ n (cellsP ps) rfl ((KO2.out.alloc _).alloc _) ⟨w1.heap.size + 1, 0, none⟩ 1 1 [.int .i64 acc, .complex .f64 tx ty] rfl rfl (by have h := two_new (w1.alloc (.cells #[.int .i64 acc, .complex .f64 tx ty] 61)) (.int .i64 acc) (.complex .f64 tx ty) 61; simp only [World.size_alloc] at h; exact h) (fun x hx => by simp at hx; rcases hx with rfl | rfl <;> rfl) (by unfold maxLen; omega) (by omega) (by simp only [World.size_alloc]; omega) ?_; intro v2 w2 hown2 hg2 hw2; obtain ⟨g2, c2, rfl⟩ := own_shape hown2 (by omega); have HO2 := Lib.hid hown2; clear hw2; have BL2 := Lib.hid (blk_grownP ((KL.out.below (bl_al (Below.refl _ _) _)).below (bl_al (Below.refl _ _) _)) hg2 (fun e => NL.out e.symm)); have BA2 := Lib.hid (blk_grownP ((KA.out.below (bl_al (Below.refl _ _) _)).below (bl_al (Below.refl _ _) _)) hg2 (fun e => NA.out e.symm)); have BP2 := Lib.hid (blk_grownP (HP.out.below (bl_al (Below.refl _ _) _)) hg2 (fun e => own_new_ne KO2.out e.symm)); have HB2 : Hid (Below base w0 w2) := Below.grown ((HB1.out.alloc (by omega) _).alloc (by simp only [World.size_alloc]; omega) _) hg2 (by simp only [World.size_alloc]; omega) (fun q hq => (KO2.out.lt q hq).1); have b0 := BL2.out.cell 0; have b1 := BL2.out.frozen 0; have b2 := BL2.out.lt; have a0 := BA2.out.cell 0; have a1 := BA2.out.frozen 0; have a2 := BA2.out.lt; have p1 := BP2.out.cell 1; simp only [List.getElem?_cons_zero, List.getElem?_cons_succ] at b0 a0 p1; have ne1 := HNE.out; have ne2 : w1.heap.size ≠ bl := (by omega); clear hown2 hg2)
    go_end0
    refine ⟨rfl, .slice (some ⟨g2, 0, none⟩) (n + 1) c2, nx, ny, ?_, (BL2.out.set 0 _).setOther HNE.out _ _, (BA2.out.setOther (fun e => HNE.out e.symm) 0 _).set 0 _, HNX.out, (HB2.out.setCell hbl _).setCell hba _⟩
    have e1 : (ps ++ postL acc more).length = n + 1 := by rw [HPL.out, List.length_append, HN.out]; rfl
    have e2 : cellsP (ps ++ postL acc more) = cellsP ps ++ [.int .i64 acc, .complex .f64 tx ty] := by rw [HPL.out, cellsP_append]; rfl
    rw [e1, e2]
    exact ownsRow_setCell_other (ownsRow_setCell_other HO2.out (own_ne HO2.out BL2.out (by decide)) _) (own_ne HO2.out BA2.out (by decide)) _
end Go.Proofs.Ytbiiejolemcifaa

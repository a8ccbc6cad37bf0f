/- closing.Interest where all goes together: what each tranche bears. -/
import Derived.Test.YtllblmoojohffaaLaw18
import Derived.Test.YtllblmoojohffaaInterOf
import Derived.Test.YtllblmoojohffaaMix
namespace Go.Proofs.Ytllblmoojohffaa
open Go.RowKit EvM

/-- A list of lists of numbers. -/
def RwS (w : World) (v : Value) (rows : List (List Int)) : Prop :=
  ∃ ao cap, v = .slice ao rows.length cap ∧ rows.length ≤ cap ∧ (cap ≤ maxLen ∧ (ao = none → cap = 0)) ∧
    (rows ≠ [] → ∃ b o, ao = some ⟨b, o, none⟩ ∧ ∀ i, i < rows.length → ∃ u, w.cell? ⟨b, o + i, none⟩ = some u ∧ Sl .i64 w u (rows.getD i []))
theorem RwS.below {w w' : World} {v : Value} {rows : List (List Int)} (h : RwS w v rows) (hb : Below w.heap.size w w') : RwS w' v rows := by
  obtain ⟨ao, cap, rfl, h1, h2, h3⟩ := h
  refine ⟨ao, cap, rfl, h1, h2, fun hx => ?_⟩
  obtain ⟨b, o, rfl, hc⟩ := h3 hx
  refine ⟨b, o, rfl, fun i hi => ?_⟩
  obtain ⟨u, h4, h5⟩ := hc i hi
  exact ⟨u, (hb.cell (p := ⟨b, o + i, none⟩) (cell_block_lt h4)).trans h4, h5.below hb⟩
theorem RwS.get {w : World} {ao : Option Addr} {n cap : Nat} {rows : List (List Int)} (h : RwS w (.slice ao n cap) rows) {i : Nat} (hi : i < rows.length) :
    ∃ b o u, ao = some ⟨b, o, none⟩ ∧ w.cell? ⟨b, o + i, none⟩ = some u ∧ Hid (Sl .i64 w u (rows.getD i [])) := by
  obtain ⟨ao', cap', e, h1, h2, h3⟩ := h
  cases e
  obtain ⟨b, o, rfl, hc⟩ := h3 (by intro h; rw [h] at hi; simp at hi)
  obtain ⟨u, h4, h5⟩ := hc i hi
  exact ⟨b, o, u, rfl, h4, h5⟩
theorem TrS.get18 {w : World} {ao : Option Addr} {n cap : Nat} {ts : List (Int × Bool)} (h : TrS w (.slice ao n cap) ts) {i : Nat} (hi : i < ts.length) :
    ∃ b o, ao = some ⟨b, o, none⟩ ∧ w.cell? ⟨b, o + i * 2, none⟩ = some (.int .i64 (ts.getD i (0, false)).1) ∧ w.cell? ⟨b, o + i * 2 + 1, none⟩ = some (.bool (ts.getD i (0, false)).2) := by
  obtain ⟨ao', cap', e, h1, h2, h3⟩ := h
  cases e
  obtain ⟨b, o, rfl, hc⟩ := h3 (by intro h; rw [h] at hi; simp at hi)
  exact ⟨b, o, rfl, hc i hi⟩
/-- Numbers, and the reason. -/
def RetIn (xs : List Int) (e : Int) (w : World) (x : Ending) (w' : World) : Prop := ∃ u, x = .returned (.tuple #[u, .int .i64 e]) ∧ Sl .i64 w' u xs ∧ Below w.heap.size w w'

set_option maxHeartbeats 3200000 in
set_option maxRecDepth 100000 in
theorem closInt_yes (v : Value) (ts : List (Int × Bool)) (lim cyc dued minf minp start : Int) (bv rv : Value) (bss rss : List (List Int)) (g : Bool) (hrt : rightT lim ts cyc dued minf minp start = true) (hl1 : bss.length = ts.length) (hl2 : rss.length = ts.length) (hts : 1 ≤ ts.length ∧ ts.length ≤ 1000) (V : List Int) (hVl : V.length = ts.length)
    (HVV : Hid (∀ i, i < ts.length → ((g && (ts.getD i (0, false)).2) = true ∧ V.getD i 0 = 0) ∨ ((g && (ts.getD i (0, false)).2) = false ∧ interR (bss.getD i []) (rss.getD i []) = (V.getD i 0, 0)))) (w : World) (hv : TrS w v ts) (hb : RwS w bv bss) (hr : RwS w rv rss) :
    Calls Try.prog 34 #[.agg #[.int .i64 lim, v, .int .i64 cyc, .int .i64 dued, .int .i64 minf, .int .i64 minp, .int .i64 start], bv, rv, .bool g] w (RetIn V 0 w) := by
  have HV := Lib.hid hv
  have HB := Lib.hid hb
  have HR := Lib.hid hr
  obtain ⟨ao, cap, rfl, h1, ⟨h2, hnn⟩, h3⟩ := hv
  clear h3 hnn
  obtain ⟨b0, bc, rfl, g1, ⟨g2, hnn⟩, h3⟩ := hb
  clear h3 hnn
  obtain ⟨r0, rc, rfl, i1, ⟨i2, hnn⟩, h3⟩ := hr
  clear h3 hnn
  unfold maxLen at h2 g2 i2
  have HRT : Hid ((if rightT lim ts cyc dued minf minp start = true then 0 else 6) = (0 : Int)) := by show _ = _; rw [hrt]; rfl
  have d1 : ((bss.length : Int) != (ts.length : Int)) = false := by simp; omega
  have d2 : ((rss.length : Int) != (ts.length : Int)) = false := by simp; omega
  have HL := Lib.hid (And.intro hl1 (And.intro hl2 (And.intro hts hVl)))
  have S0 : Hid (Blk (w.alloc (.cells #[.int .i64 lim, .slice ao ts.length cap, .int .i64 cyc, .int .i64 dued, .int .i64 minf, .int .i64 minp, .int .i64 start] 34)) w.heap.size 34 [.int .i64 lim, .slice ao ts.length cap, .int .i64 cyc, .int .i64 dued, .int .i64 minf, .int .i64 minp, .int .i64 start]) := heap_alloc_new w _
  have SB : Hid (Below w.heap.size w (w.alloc (.cells #[.int .i64 lim, .slice ao ts.length cap, .int .i64 cyc, .int .i64 dued, .int .i64 minf, .int .i64 minp, .int .i64 start] 34))) := bl_al (Below.refl _ _) _
  obtain ⟨i0, hi, hz0, hz1, hz2⟩ := info_parts info_clone
  clear hrt hl1 hl2 hts hVl
  go_enter Try.func34, Try.ntmps34
  go_wp2_with fail
  refine (termsRight_any _ ts lim cyc dued minf minp start _ HRT _ (HV.out.below SB.out)).mono ?_
  rintro _ w1 ⟨rfl, hb1⟩
  have R0 := Lib.hid (S0.out.below hb1)
  have RB := Lib.hid (bl_tr SB.out hb1)
  have t1 := R0.out.cell 1
  simp only [List.getElem?_cons_zero, List.getElem?_cons_succ] at t1
  clear hb1 S0 SB HRT
  go_upto_region 7 with (at_make; refine wpList_make_full _ rfl _ _ 22 rfl w1.heap.size 2 i0 (.int .i64 0) 1 Try.underlying22 hi hz0 hz1 _ _ _ _ ts.length rfl rfl rfl rfl (by rw [hz2]; have := HL.out; omega) (by unfold maxLen; have := HL.out; omega) (Nat.le_refl _) ?_; intro w2 hown2 hgrow2)
  obtain ⟨cur0, hG0, _, _, hcl0, hct0, _⟩ := blk_of_own hown2
  have hc0 : cur0 = List.replicate ts.length (.int .i64 0) := by
    rw [← List.take_of_length_le (show cur0.length ≤ ts.length * 1 by omega), hct0, Nat.mul_one]
    exact toList_madeCells_one _ _
  have hb12 : Below w1.heap.size w1 w2 := grown_below1 hgrow2
  have HG : Hid (Nums w2 w1.heap.size ts.length (List.replicate ts.length 0)) := ⟨cur0, hG0, by rw [hc0]; simp, by rw [hc0]; simp⟩
  have HZL : Hid ((List.replicate ts.length (0 : Int)).length = ts.length) := by show _ = _; simp
  have HB2 := Lib.hid (bl_tr RB.out hb12)
  have X0 := Lib.hid (R0.out.below hb12)
  have hzb := RB.out.size
  obtain ⟨G, hG⟩ : ∃ G, w1.heap.size = G := ⟨_, rfl⟩
  rw [hG] at HG hzb ⊢
  clear hc0 hct0 hcl0 hG0 hown2 hgrow2 hb12 cur0 t1 R0 RB hi hz0 hz1 hz2 hG d1 d2
  have t1 := X0.out.cell 1
  simp only [List.getElem?_cons_zero, List.getElem?_cons_succ] at t1
  go_wp2_with fail
  clear t1
  go_loopg [42] ts.length (fun gg i wr => ∃ k : Nat, k + gg = ts.length ∧ i = .int .i64 k ∧ Hid (Nums wr G ts.length (mixL V (List.replicate ts.length 0) k)) ∧ Below w.heap.size w wr)
  case atStart => exact ⟨0, by omega, rfl, by rw [mixL_zero]; exact HG.out, HB2.out⟩
  case round =>
    obtain ⟨k, hkg, rfl, HI, hbw⟩ := hrel
    cases gk with
    | succ gg =>
      have hlt : (k : Int) < (ts.length : Int) := by omega
      have hkn : k < ts.length := by omega
      have HBW := Lib.hid hbw
      obtain ⟨b, o, e0, hc1, hc2⟩ := (HV.out.below hbw).get18 hkn
      subst e0
      obtain ⟨x1, x2, hx12⟩ : ∃ x1 x2, ts.getD k (0, false) = (x1, x2) := ⟨_, _, rfl⟩
      have hcase := HVV.out k hkn
      rw [hx12] at hc1 hc2 hcase
      simp only at hc1 hc2 hcase
      have HM := Lib.hid hx12
      have hml := mixL_length (a := V) (b := List.replicate ts.length 0) (n := ts.length) (k := k) HL.out.2.2.2 HZL.out (Nat.le_of_lt hkn)
      have hgv := mixL_get (a := V) (b := List.replicate ts.length 0) (n := ts.length) HL.out.2.2.2 HZL.out hkn
      have hz : (List.replicate ts.length (0 : Int)).getD k 0 = 0 := by simp [List.getD, hkn]
      have hst := mixL_set (a := V) (b := List.replicate ts.length 0) (n := ts.length) HL.out.2.2.2 HZL.out hkn
      have HST := Lib.hid hst
      have HGV := Lib.hid (hgv.trans hz)
      have HML := Lib.hid hml
      clear hx12 hml hgv hz hst hbw
      rcases hcase with ⟨hgr, hv0⟩ | ⟨hgr, hint⟩
      · have hg1 : g = true ∧ x2 = true := by simpa using hgr
        obtain ⟨rfl, rfl⟩ := hg1
        have HV0 := Lib.hid hv0
        clear hgr hv0
        go_wp2_with fail
        go_roundg gg
        case measure => omega
        case rel =>
          refine ⟨k + 1, by omega, by go_num, ?_, by exact (by repeat (first | with_reducible exact Below.refl _ _ | (with_reducible refine bl_sc ?_ ?hge; case hge => (first | exact Nat.le_refl _ | omega)) | with_reducible refine bl_al ?_ _ | with_reducible refine bl_dr ?_ | with_reducible refine bl_dN ?_ _ | (refine bl_tr ?_ (by assumption)) | (refine bl_gr ?_ (by assumption) (by first | exact Nat.le_refl _ | omega)) | exact Below.refl _ _ | refine bl_al ?_ _ | refine bl_dr ?_ | refine bl_dN ?_ _))⟩
          have hn := (HI.out.below (bl_al (Below.refl _ _) (.cells #[.int .i64 x1, .bool true] 77)))
          rw [← HST.out, HV0.out]
          have e : (mixL V (List.replicate ts.length 0) k).set k 0 = mixL V (List.replicate ts.length 0) k := by
            have h9 := HGV.out
            have hk2 : k < (mixL V (List.replicate ts.length 0) k).length := by rw [HML.out]; exact hkn
            apply List.ext_getElem (by simp)
            intro j h1 h2
            rw [List.getElem_set]
            split
            · rename_i hjk; subst hjk
              simp only [List.getD, List.getElem?_eq_getElem hk2, Option.getD_some] at h9
              exact h9.symm
            · rfl
          rw [e]
          exact hn
      · obtain ⟨bb, ob, ub, e1, hcb, HSb⟩ := (HB.out.below HBW.out).get (i := k) (by have := HL.out; omega)
        obtain ⟨br, or, ur, e2, hcr, HSr⟩ := (HR.out.below HBW.out).get (i := k) (by have := HL.out; omega)
        subst e1 e2
        obtain ⟨aub, qub, rfl⟩ := HSb.out.shape
        obtain ⟨aur, qur, rfl⟩ := HSr.out.shape
        have hkb : (k : Int) < (bss.length : Int) := by have := HL.out; omega
        have hkr : (k : Int) < (rss.length : Int) := by have := HL.out; omega
        obtain ⟨y, hy⟩ : ∃ y, V.getD k 0 = y := ⟨_, rfl⟩
        rw [hy] at hint
        have HY := Lib.hid hy
        have HINT := Lib.hid hint
        have hor : g = false ∨ (g = true ∧ x2 = false) := by cases g <;> simp_all
        clear hint hy hgr
        have HW : ∃ W, wr.alloc (.cells #[.int .i64 x1, .bool x2] 77) = W ∧ Hid (W.cell? ⟨bb, ob + k, none⟩ = some (.slice aub (bss.getD k []).length qub) ∧ W.cell? ⟨br, or + k, none⟩ = some (.slice aur (rss.getD k []).length qur)) ∧ Hid (Nums W G ts.length (mixL V (List.replicate ts.length 0) k)) ∧ Hid (Below w.heap.size w W) ∧ Hid (Sl .i64 W (.slice aub (bss.getD k []).length qub) (bss.getD k [])) ∧ Hid (Sl .i64 W (.slice aur (rss.getD k []).length qur) (rss.getD k [])) :=
          ⟨_, rfl, ⟨((bl_al (Below.refl wr.heap.size wr) _).cell (p := ⟨bb, ob + k, none⟩) (cell_block_lt hcb)).trans hcb, ((bl_al (Below.refl wr.heap.size wr) _).cell (p := ⟨br, or + k, none⟩) (cell_block_lt hcr)).trans hcr⟩, HI.out.below (bl_al (Below.refl _ _) _), bl_al HBW.out _, HSb.out.below (bl_al (Below.refl _ _) _), HSr.out.below (bl_al (Below.refl _ _) _)⟩
        have HWH := Lib.hid HW
        clear HW
        rcases hor with rfl | ⟨rfl, rfl⟩
        all_goals
          go_upto_region 11 with fail
          obtain ⟨W, hW, SC, SN, SBB, SS1, SS2⟩ := HWH.out
          with_reducible rw [hW]
          clear hW HWH hcb hcr hc1 hc2
          have hs0 := SC.out
          have hsd : W.drew.cell? ⟨bb, ob + k, none⟩ = some (.slice aub (bss.getD k []).length qub) ∧ W.drew.cell? ⟨br, or + k, none⟩ = some (.slice aur (rss.getD k []).length qur) := SC.out
          go_region_held3 (fun W' => W'.cell? ⟨bb, ob + k, none⟩ = some (.slice aub (bss.getD k []).length qub) ∧ W'.cell? ⟨br, or + k, none⟩ = some (.slice aur (rss.getD k []).length qur)) (first | with_reducible assumption | with_reducible exact hs0 | with_reducible exact hsd | with_reducible exact hs5) (first | (go_at_call 14; refine (interOf_any _ _ (bss.getD k []) (rss.getD k []) y 0 HINT _ (SS1.out.below (by first | exact Below.refl _ _ | exact bl_dr (Below.refl _ _))) (SS2.out.below (by first | exact Below.refl _ _ | exact bl_dr (Below.refl _ _)))).mono ?_; rintro _ w5 ⟨rfl, hb5⟩; have HB5 : Hid (Below W.heap.size W w5) := (by first | exact hb5 | exact bl_tr (bl_dr (Below.refl _ _)) hb5); have hs5 : w5.cell? ⟨bb, ob + k, none⟩ = some (.slice aub (bss.getD k []).length qub) ∧ w5.cell? ⟨br, or + k, none⟩ = some (.slice aur (rss.getD k []).length qur) := ⟨(HB5.out.cell (p := ⟨bb, ob + k, none⟩) (cell_block_lt SC.out.1)).trans SC.out.1, (HB5.out.cell (p := ⟨br, or + k, none⟩) (cell_block_lt SC.out.2)).trans SC.out.2⟩; clear hb5))
          have hn5 := SN.out.below HB5.out
          have c5 := hn5.cell (i := k) (by rw [HML.out]; exact hkn)
          rw [HGV.out] at c5
          have f5 := hn5.frozen k
          have HN5 := Lib.hid hn5
          clear hn5 hs0 hsd hs5
          go_wp2_with fail
          go_roundg gg
          case measure => omega
          case rel =>
            refine ⟨k + 1, by omega, by go_num, ?_, (bl_tr SBB.out HB5.out).setCell (show w.heap.size ≤ G by omega) _⟩
            rw [← HST.out, HY.out]
            exact HN5.out.set k y
    | zero =>
      have hlt : ¬ ((k : Int) < (ts.length : Int)) := by omega
      obtain rfl : k = ts.length := by omega
      have hn := HI.out
      rw [mixL_all HL.out.2.2.2 HZL.out] at hn
      have HS := Lib.hid (hn.sl HL.out.2.2.2 (Nat.le_refl _) (by unfold maxLen; have := HL.out; omega))
      clear hn
      go_wp2_with fail
      go_ret2
      exact ⟨_, rfl, HS.out, hbw⟩
end Go.Proofs.Ytllblmoojohffaa

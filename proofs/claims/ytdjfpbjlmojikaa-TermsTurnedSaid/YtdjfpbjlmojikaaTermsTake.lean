/- terms.Take: the terms that bytes are. -/
import Derived.Test.YtdjfpbjlmojikaaTakeMath
import Derived.Test.YtdjfpbjlmojikaaScope
import Derived.Test.YtdjfpbjlmojikaaReader2
namespace Go.Proofs.Ytdjfpbjlmojikaa
open Go.RowKit

theorem blk_grownR {w w' : World} {g : Nat} {r : Option Nat} {e : TypeId} {cur : List Value} (h : Blk w g e cur) (hg : w.grownBy w' r) (hne : some g ≠ r) : Blk w' g e cur := (hg.block g h.lt hne).trans h
theorem news2 (w : World) (a b : Value) (t : TypeId) : ∀ j u, [a, b][j]? = some u → (w.alloc (.cells #[a, b] t)).cell? ((⟨w.heap.size, 0, none⟩ : Addr).add j) = some u := by
  intro j u hu
  have h : Blk (w.alloc (.cells #[a, b] t)) w.heap.size t [a, b] := heap_alloc_new w _
  rw [Addr.add_lit, h.cell, Nat.zero_add]
  exact hu
theorem TrS.setOther {w : World} {g o n cap a i : Nat} {v : Value} {ts : List (Int × Bool)} (h : TrS w (.slice (some ⟨g, o, none⟩) n cap) ts) (hne : g ≠ a) : TrS (w.setCell ⟨a, i, none⟩ v) (.slice (some ⟨g, o, none⟩) n cap) ts := by
  obtain ⟨ao, cap', e, h1, h2, h3⟩ := h
  cases e
  refine ⟨_, _, rfl, h1, h2, fun hx => ?_⟩
  obtain ⟨b, o', e, hc⟩ := h3 hx
  cases e
  have hq : ∀ j, (w.setCell ⟨a, i, none⟩ v).cell? ⟨g, j, none⟩ = w.cell? ⟨g, j, none⟩ := fun j => World.cell?_of_block (w := w) (a := ⟨g, j, none⟩) (heap_setCell_other w ⟨a, i, none⟩ g v hne)
  exact ⟨g, o, rfl, fun j hj => ⟨(hq _).trans (hc j hj).1, (hq _).trans (hc j hj).2⟩⟩
/-- the cells of no terms -/
def zeroT : List Value := [.int .i64 0, .slice none 0 0, .int .i64 0, .int .i64 0, .int .i64 0, .int .i64 0, .int .i64 0]
/-- what holds at the labels: the result's cells are as at first; e is known at the second -/
def TakeJ (xs : List Int) (w : World) (l : Nat) (a' : Act) (w' : World) : Prop :=
  (l = 0 ∧ takeE xs = 3 ∧ Blk w' w.heap.size 26 zeroT ∧ Below w.heap.size w w' ∧ ∃ (u0 u1 u3 u4 u5 u6 u7 u8 u9 u10 u11 u12 u13 u14 u15 u16 u17 u18 u19 u20 u21 u22 u23 u24 u25 u26 u27 u28 u29 u30 u31 u32 u33 u34 u35 u36 u37 u38 u39 u40 u41 u42 u43 u44 u45 u46 u47 u48 u49 u50 u51 u52 u53 u54 u55 u56 u57 u58 u59 u60 u61 u62 u63 u64 u65 u66 : Value), a' = { tmps := #[u0, u1, .pointer (some ⟨w.heap.size, 0, none⟩), u3, u4, u5, u6, u7, u8, u9, u10, u11, u12, u13, u14, u15, u16, u17, u18, u19, u20, u21, u22, u23, u24, u25, u26, u27, u28, u29, u30, u31, u32, u33, u34, u35, u36, u37, u38, u39, u40, u41, u42, u43, u44, u45, u46, u47, u48, u49, u50, u51, u52, u53, u54, u55, u56, u57, u58, u59, u60, u61, u62, u63, u64, u65, u66], defers := [] }) ∨
  (l = 1 ∧ ∃ r : Int, takeE xs = r ∧ r ≠ 0 ∧ Blk w' w.heap.size 26 zeroT ∧ Below w.heap.size w w' ∧ ∃ (u0 u1 u3 u5 u6 u7 u8 u9 u10 u11 u12 u13 u14 u15 u16 u17 u18 u19 u20 u21 u22 u23 u24 u25 u26 u27 u28 u29 u30 u31 u32 u33 u34 u35 u36 u37 u38 u39 u40 u41 u42 u43 u44 u45 u46 u47 u48 u49 u50 u51 u52 u53 u54 u55 u56 u57 u58 u59 u60 u61 u62 u63 u64 u65 u66 : Value), a' = { tmps := #[u0, u1, .pointer (some ⟨w.heap.size, 0, none⟩), u3, .int .i64 r, u5, u6, u7, u8, u9, u10, u11, u12, u13, u14, u15, u16, u17, u18, u19, u20, u21, u22, u23, u24, u25, u26, u27, u28, u29, u30, u31, u32, u33, u34, u35, u36, u37, u38, u39, u40, u41, u42, u43, u44, u45, u46, u47, u48, u49, u50, u51, u52, u53, u54, u55, u56, u57, u58, u59, u60, u61, u62, u63, u64, u65, u66], defers := [] })
theorem TakeJ.zero {xs : List Int} {w w' : World} {u0 u1 u3 u4 u5 u6 u7 u8 u9 u10 u11 u12 u13 u14 u15 u16 u17 u18 u19 u20 u21 u22 u23 u24 u25 u26 u27 u28 u29 u30 u31 u32 u33 u34 u35 u36 u37 u38 u39 u40 u41 u42 u43 u44 u45 u46 u47 u48 u49 u50 u51 u52 u53 u54 u55 u56 u57 u58 u59 u60 u61 u62 u63 u64 u65 u66 : Value} (h : takeE xs = 3) (hB : Blk w' w.heap.size 26 zeroT) (hb : Below w.heap.size w w') : TakeJ xs w 0 { tmps := #[u0, u1, .pointer (some ⟨w.heap.size, 0, none⟩), u3, u4, u5, u6, u7, u8, u9, u10, u11, u12, u13, u14, u15, u16, u17, u18, u19, u20, u21, u22, u23, u24, u25, u26, u27, u28, u29, u30, u31, u32, u33, u34, u35, u36, u37, u38, u39, u40, u41, u42, u43, u44, u45, u46, u47, u48, u49, u50, u51, u52, u53, u54, u55, u56, u57, u58, u59, u60, u61, u62, u63, u64, u65, u66], defers := [] } w' :=
  .inl ⟨rfl, h, hB, hb, u0, u1, u3, u4, u5, u6, u7, u8, u9, u10, u11, u12, u13, u14, u15, u16, u17, u18, u19, u20, u21, u22, u23, u24, u25, u26, u27, u28, u29, u30, u31, u32, u33, u34, u35, u36, u37, u38, u39, u40, u41, u42, u43, u44, u45, u46, u47, u48, u49, u50, u51, u52, u53, u54, u55, u56, u57, u58, u59, u60, u61, u62, u63, u64, u65, u66, rfl⟩
theorem TakeJ.one {xs : List Int} {w w' : World} {r : Int} {u0 u1 u3 u5 u6 u7 u8 u9 u10 u11 u12 u13 u14 u15 u16 u17 u18 u19 u20 u21 u22 u23 u24 u25 u26 u27 u28 u29 u30 u31 u32 u33 u34 u35 u36 u37 u38 u39 u40 u41 u42 u43 u44 u45 u46 u47 u48 u49 u50 u51 u52 u53 u54 u55 u56 u57 u58 u59 u60 u61 u62 u63 u64 u65 u66 : Value} (h : takeE xs = r) (h0 : r ≠ 0) (hB : Blk w' w.heap.size 26 zeroT) (hb : Below w.heap.size w w') : TakeJ xs w 1 { tmps := #[u0, u1, .pointer (some ⟨w.heap.size, 0, none⟩), u3, .int .i64 r, u5, u6, u7, u8, u9, u10, u11, u12, u13, u14, u15, u16, u17, u18, u19, u20, u21, u22, u23, u24, u25, u26, u27, u28, u29, u30, u31, u32, u33, u34, u35, u36, u37, u38, u39, u40, u41, u42, u43, u44, u45, u46, u47, u48, u49, u50, u51, u52, u53, u54, u55, u56, u57, u58, u59, u60, u61, u62, u63, u64, u65, u66], defers := [] } w' :=
  .inr ⟨rfl, r, h, h0, hB, hb, u0, u1, u3, u5, u6, u7, u8, u9, u10, u11, u12, u13, u14, u15, u16, u17, u18, u19, u20, u21, u22, u23, u24, u25, u26, u27, u28, u29, u30, u31, u32, u33, u34, u35, u36, u37, u38, u39, u40, u41, u42, u43, u44, u45, u46, u47, u48, u49, u50, u51, u52, u53, u54, u55, u56, u57, u58, u59, u60, u61, u62, u63, u64, u65, u66, rfl⟩

set_option maxRecDepth 100000 in
set_option maxHeartbeats 1600000 in
theorem termsTake_any (v : Value) (xs : List Int) (hby : Hid (Byts xs)) (w : World) (hv : Sl .u8 w v xs) (hn : xs.length ≤ 1000000) : Calls Try.prog 26 #[v] w (TakeR xs w) := by
  have HV := Lib.hid hv
  obtain ⟨ao, cap, rfl, h1, ⟨h2, _⟩, h3⟩ := hv
  clear h3
  unfold maxLen at h2
  go_enter Try.func26, Try.ntmps26
  go_wp2
  refine wp_scope_fwd (TakeJ xs w) ?first ?pass
  case pass =>
    intro l a1 w1 hJ
    rcases hJ with ⟨rfl, h3, hB, hb, hJ⟩ | ⟨rfl, r, h3, h0, hB, hb, hJ⟩
    · refine ⟨_, rfl, ?_⟩
      obtain ⟨u0, hJ⟩ := hJ
      obtain ⟨u1, hJ⟩ := hJ
      obtain ⟨u3, hJ⟩ := hJ
      obtain ⟨u4, hJ⟩ := hJ
      obtain ⟨u5, hJ⟩ := hJ
      obtain ⟨u6, hJ⟩ := hJ
      obtain ⟨u7, hJ⟩ := hJ
      obtain ⟨u8, hJ⟩ := hJ
      obtain ⟨u9, hJ⟩ := hJ
      obtain ⟨u10, hJ⟩ := hJ
      obtain ⟨u11, hJ⟩ := hJ
      obtain ⟨u12, hJ⟩ := hJ
      obtain ⟨u13, hJ⟩ := hJ
      obtain ⟨u14, hJ⟩ := hJ
      obtain ⟨u15, hJ⟩ := hJ
      obtain ⟨u16, hJ⟩ := hJ
      obtain ⟨u17, hJ⟩ := hJ
      obtain ⟨u18, hJ⟩ := hJ
      obtain ⟨u19, hJ⟩ := hJ
      obtain ⟨u20, hJ⟩ := hJ
      obtain ⟨u21, hJ⟩ := hJ
      obtain ⟨u22, hJ⟩ := hJ
      obtain ⟨u23, hJ⟩ := hJ
      obtain ⟨u24, hJ⟩ := hJ
      obtain ⟨u25, hJ⟩ := hJ
      obtain ⟨u26, hJ⟩ := hJ
      obtain ⟨u27, hJ⟩ := hJ
      obtain ⟨u28, hJ⟩ := hJ
      obtain ⟨u29, hJ⟩ := hJ
      obtain ⟨u30, hJ⟩ := hJ
      obtain ⟨u31, hJ⟩ := hJ
      obtain ⟨u32, hJ⟩ := hJ
      obtain ⟨u33, hJ⟩ := hJ
      obtain ⟨u34, hJ⟩ := hJ
      obtain ⟨u35, hJ⟩ := hJ
      obtain ⟨u36, hJ⟩ := hJ
      obtain ⟨u37, hJ⟩ := hJ
      obtain ⟨u38, hJ⟩ := hJ
      obtain ⟨u39, hJ⟩ := hJ
      obtain ⟨u40, hJ⟩ := hJ
      obtain ⟨u41, hJ⟩ := hJ
      obtain ⟨u42, hJ⟩ := hJ
      obtain ⟨u43, hJ⟩ := hJ
      obtain ⟨u44, hJ⟩ := hJ
      obtain ⟨u45, hJ⟩ := hJ
      obtain ⟨u46, hJ⟩ := hJ
      obtain ⟨u47, hJ⟩ := hJ
      obtain ⟨u48, hJ⟩ := hJ
      obtain ⟨u49, hJ⟩ := hJ
      obtain ⟨u50, hJ⟩ := hJ
      obtain ⟨u51, hJ⟩ := hJ
      obtain ⟨u52, hJ⟩ := hJ
      obtain ⟨u53, hJ⟩ := hJ
      obtain ⟨u54, hJ⟩ := hJ
      obtain ⟨u55, hJ⟩ := hJ
      obtain ⟨u56, hJ⟩ := hJ
      obtain ⟨u57, hJ⟩ := hJ
      obtain ⟨u58, hJ⟩ := hJ
      obtain ⟨u59, hJ⟩ := hJ
      obtain ⟨u60, hJ⟩ := hJ
      obtain ⟨u61, hJ⟩ := hJ
      obtain ⟨u62, hJ⟩ := hJ
      obtain ⟨u63, hJ⟩ := hJ
      obtain ⟨u64, hJ⟩ := hJ
      obtain ⟨u65, hJ⟩ := hJ
      obtain ⟨u66, hJ⟩ := hJ
      subst hJ
      have H3 := Lib.hid h3
      have c0 := hB.cell 0
      have c1 := hB.cell 1
      have c2 := hB.cell 2
      have c3 := hB.cell 3
      have c4 := hB.cell 4
      have c5 := hB.cell 5
      have c6 := hB.cell 6
      have f0 := hB.frozen 0
      have f1 := hB.frozen 1
      have f2 := hB.frozen 2
      have f3 := hB.frozen 3
      have f4 := hB.frozen 4
      have f5 := hB.frozen 5
      have f6 := hB.frozen 6
      simp only [zeroT, List.getElem?_cons_zero, List.getElem?_cons_succ] at c0 c1 c2 c3 c4 c5 c6
      clear hB h3
      go_wp2
      go_step3
      go_step
      go_step
      go_wp2
      simp only [jumps]
      refine bodyPost_ret (v := .tuple #[.agg #[.int .i64 0, .slice none 0 0, .int .i64 0, .int .i64 0, .int .i64 0, .int .i64 0, .int .i64 0], .int .i64 3]) (by simp [results, Try.results26, go_sem, c0, c1, c2, c3, c4, c5, c6]) rfl (TakeR.no H3.out (by decide) (by repeat (first | with_reducible exact Below.refl _ _ | (with_reducible refine bl_sc ?_ ?hge; case hge => (first | exact Nat.le_refl _ | omega)) | with_reducible refine bl_al ?_ _ | with_reducible refine bl_dr ?_ | with_reducible refine bl_dN ?_ _ | (refine bl_tr ?_ (by assumption)) | (refine bl_gr ?_ (by assumption) (by first | exact Nat.le_refl _ | omega)) | exact Below.refl _ _ | refine bl_al ?_ _ | refine bl_dr ?_ | refine bl_dN ?_ _)))
    · refine ⟨_, rfl, ?_⟩
      obtain ⟨u0, hJ⟩ := hJ
      obtain ⟨u1, hJ⟩ := hJ
      obtain ⟨u3, hJ⟩ := hJ
      obtain ⟨u5, hJ⟩ := hJ
      obtain ⟨u6, hJ⟩ := hJ
      obtain ⟨u7, hJ⟩ := hJ
      obtain ⟨u8, hJ⟩ := hJ
      obtain ⟨u9, hJ⟩ := hJ
      obtain ⟨u10, hJ⟩ := hJ
      obtain ⟨u11, hJ⟩ := hJ
      obtain ⟨u12, hJ⟩ := hJ
      obtain ⟨u13, hJ⟩ := hJ
      obtain ⟨u14, hJ⟩ := hJ
      obtain ⟨u15, hJ⟩ := hJ
      obtain ⟨u16, hJ⟩ := hJ
      obtain ⟨u17, hJ⟩ := hJ
      obtain ⟨u18, hJ⟩ := hJ
      obtain ⟨u19, hJ⟩ := hJ
      obtain ⟨u20, hJ⟩ := hJ
      obtain ⟨u21, hJ⟩ := hJ
      obtain ⟨u22, hJ⟩ := hJ
      obtain ⟨u23, hJ⟩ := hJ
      obtain ⟨u24, hJ⟩ := hJ
      obtain ⟨u25, hJ⟩ := hJ
      obtain ⟨u26, hJ⟩ := hJ
      obtain ⟨u27, hJ⟩ := hJ
      obtain ⟨u28, hJ⟩ := hJ
      obtain ⟨u29, hJ⟩ := hJ
      obtain ⟨u30, hJ⟩ := hJ
      obtain ⟨u31, hJ⟩ := hJ
      obtain ⟨u32, hJ⟩ := hJ
      obtain ⟨u33, hJ⟩ := hJ
      obtain ⟨u34, hJ⟩ := hJ
      obtain ⟨u35, hJ⟩ := hJ
      obtain ⟨u36, hJ⟩ := hJ
      obtain ⟨u37, hJ⟩ := hJ
      obtain ⟨u38, hJ⟩ := hJ
      obtain ⟨u39, hJ⟩ := hJ
      obtain ⟨u40, hJ⟩ := hJ
      obtain ⟨u41, hJ⟩ := hJ
      obtain ⟨u42, hJ⟩ := hJ
      obtain ⟨u43, hJ⟩ := hJ
      obtain ⟨u44, hJ⟩ := hJ
      obtain ⟨u45, hJ⟩ := hJ
      obtain ⟨u46, hJ⟩ := hJ
      obtain ⟨u47, hJ⟩ := hJ
      obtain ⟨u48, hJ⟩ := hJ
      obtain ⟨u49, hJ⟩ := hJ
      obtain ⟨u50, hJ⟩ := hJ
      obtain ⟨u51, hJ⟩ := hJ
      obtain ⟨u52, hJ⟩ := hJ
      obtain ⟨u53, hJ⟩ := hJ
      obtain ⟨u54, hJ⟩ := hJ
      obtain ⟨u55, hJ⟩ := hJ
      obtain ⟨u56, hJ⟩ := hJ
      obtain ⟨u57, hJ⟩ := hJ
      obtain ⟨u58, hJ⟩ := hJ
      obtain ⟨u59, hJ⟩ := hJ
      obtain ⟨u60, hJ⟩ := hJ
      obtain ⟨u61, hJ⟩ := hJ
      obtain ⟨u62, hJ⟩ := hJ
      obtain ⟨u63, hJ⟩ := hJ
      obtain ⟨u64, hJ⟩ := hJ
      obtain ⟨u65, hJ⟩ := hJ
      obtain ⟨u66, hJ⟩ := hJ
      subst hJ
      have H3 := Lib.hid h3
      have H0 := Lib.hid h0
      have c0 := hB.cell 0
      have c1 := hB.cell 1
      have c2 := hB.cell 2
      have c3 := hB.cell 3
      have c4 := hB.cell 4
      have c5 := hB.cell 5
      have c6 := hB.cell 6
      have f0 := hB.frozen 0
      have f1 := hB.frozen 1
      have f2 := hB.frozen 2
      have f3 := hB.frozen 3
      have f4 := hB.frozen 4
      have f5 := hB.frozen 5
      have f6 := hB.frozen 6
      simp only [zeroT, List.getElem?_cons_zero, List.getElem?_cons_succ] at c0 c1 c2 c3 c4 c5 c6
      clear hB h3 h0
      go_wp2
      simp only [jumps]
      refine bodyPost_ret (v := .tuple #[.agg #[.int .i64 0, .slice none 0 0, .int .i64 0, .int .i64 0, .int .i64 0, .int .i64 0, .int .i64 0], .int .i64 r]) (by simp [results, Try.results26, go_sem, c0, c1, c2, c3, c4, c5, c6]) rfl (TakeR.no H3.out H0.out (by repeat (first | with_reducible exact Below.refl _ _ | (with_reducible refine bl_sc ?_ ?hge; case hge => (first | exact Nat.le_refl _ | omega)) | with_reducible refine bl_al ?_ _ | with_reducible refine bl_dr ?_ | with_reducible refine bl_dN ?_ _ | (refine bl_tr ?_ (by assumption)) | (refine bl_gr ?_ (by assumption) (by first | exact Nat.le_refl _ | omega)) | exact Below.refl _ _ | refine bl_al ?_ _ | refine bl_dr ?_ | refine bl_dN ?_ _)))
  case first =>
    have B1 := Lib.hid hby.out.numL
    have B2 := Lib.hid B1.out.numL
    have B3 := Lib.hid B2.out.numL
    have B4 := Lib.hid B3.out.numL
    have B5 := Lib.hid B4.out.numL
    have B6 := Lib.hid B5.out.numL
    go_wp2_with fail
    refine (newO_any _ xs w _ HV.out).mono ?_
    rintro e w1 ⟨rfl, hR1, hb1⟩
    have hA1 : Blk w1 w.heap.size 26 zeroT := Blk.below (heap_alloc_new w _) hb1
    have hz1 := hb1.size
    simp only [World.size_alloc] at hz1 hR1
    have hbw1 : Below w.heap.size w w1 := (by repeat (first | with_reducible exact Below.refl _ _ | (with_reducible refine bl_sc ?_ ?hge; case hge => (first | exact Nat.le_refl _ | omega)) | with_reducible refine bl_al ?_ _ | with_reducible refine bl_dr ?_ | with_reducible refine bl_dN ?_ _ | (refine bl_tr ?_ (by assumption)) | (refine bl_gr ?_ (by assumption) (by first | exact Nat.le_refl _ | omega)) | exact Below.refl _ _ | refine bl_al ?_ _ | refine bl_dr ?_ | refine bl_dN ?_ _))
    have hzr : w.heap.size + 1 < w1.heap.size := by
      obtain ⟨v, q, _⟩ := hR1
      exact q.lt
    simp only [World.size_alloc]
    go_wp2_with fail
    refine (numO_any _ _ _ _ w hbw1 hR1 hby).mono ?_
    rintro e w2 ⟨rfl, hR2, hg2⟩
    have hbw2 : Below w.heap.size w w2 := bl_gr hbw1 hg2 (by omega)
    go_wp2_with fail
    refine (intO_any _ _ _ _ w hbw2 hR2 B1).mono ?_
    rintro e w3 ⟨rfl, hR3, hg3⟩
    have hbw3 : Below w.heap.size w w3 := bl_gr hbw2 hg3 (by omega)
    go_wp2_with fail
    refine (intO_any _ _ _ _ w hbw3 hR3 B2).mono ?_
    rintro e w4 ⟨rfl, hR4, hg4⟩
    have hbw4 : Below w.heap.size w w4 := bl_gr hbw3 hg4 (by omega)
    go_wp2_with fail
    refine (numO_any _ _ _ _ w hbw4 hR4 B3).mono ?_
    rintro e w5 ⟨rfl, hR5, hg5⟩
    have hbw5 : Below w.heap.size w w5 := bl_gr hbw4 hg5 (by omega)
    go_wp2_with fail
    refine (numO_any _ _ _ _ w hbw5 hR5 B4).mono ?_
    rintro e w6 ⟨rfl, hR6, hg6⟩
    have hbw6 : Below w.heap.size w w6 := bl_gr hbw5 hg6 (by omega)
    go_wp2_with fail
    refine (intO_any _ _ _ _ w hbw6 hR6 B5).mono ?_
    rintro e w7 ⟨rfl, hR7, hg7⟩
    have hbw7 : Below w.heap.size w w7 := bl_gr hbw6 hg7 (by omega)
    have hg := grown_same (grown_same (grown_same (grown_same (grown_same hg2 hg3) hg4) hg5) hg6) hg7
    have hA7 := blk_grown hA1 hg (by omega)
    have hz7 := hg.size
    clear hg hg2 hg3 hg4 hg5 hg6 hg7 hR1 hR2 hR3 hR4 hR5 hR6 hA1 hb1 hbw1 hbw2 hbw3 hbw4 hbw5 hbw6
    have hR7a : RdO w (w7.alloc (.cells #[.int .i64 (numV xs), .slice none 0 0, .int .i64 (numV (numL xs)), .int .i64 (numV (numL (numL xs))), .int .i64 (numV (numL (numL (numL xs)))), .int .i64 (numV (numL (numL (numL (numL xs))))), .int .i64 (numV (numL (numL (numL (numL (numL xs))))))] 26)) (w.heap.size + 1) (numL (numL (numL (numL (numL (numL xs)))))) (numS (numL (numL (numL (numL (numL xs))))) (numS (numL (numL (numL (numL xs)))) (numS (numL (numL (numL xs))) (numS (numL (numL xs)) (numS (numL xs) (numS xs false)))))) := by
      obtain ⟨v, q1, q2⟩ := hR7
      exact ⟨v, q1.below (bl_al (Below.refl _ _) _), q2⟩
    have hC7 : Blk (w7.alloc (.cells #[.int .i64 (numV xs), .slice none 0 0, .int .i64 (numV (numL xs)), .int .i64 (numV (numL (numL xs))), .int .i64 (numV (numL (numL (numL xs)))), .int .i64 (numV (numL (numL (numL (numL xs))))), .int .i64 (numV (numL (numL (numL (numL (numL xs))))))] 26)) w7.heap.size 26 [.int .i64 (numV xs), .slice none 0 0, .int .i64 (numV (numL xs)), .int .i64 (numV (numL (numL xs))), .int .i64 (numV (numL (numL (numL xs)))), .int .i64 (numV (numL (numL (numL (numL xs))))), .int .i64 (numV (numL (numL (numL (numL (numL xs))))))] := heap_alloc_new _ _
    have hA7a := hA7.below (bl_al (Below.refl _ _) (.cells #[.int .i64 (numV xs), .slice none 0 0, .int .i64 (numV (numL xs)), .int .i64 (numV (numL (numL xs))), .int .i64 (numV (numL (numL (numL xs)))), .int .i64 (numV (numL (numL (numL (numL xs))))), .int .i64 (numV (numL (numL (numL (numL (numL xs))))))] 26))
    have hbw7a : Below w.heap.size w (w7.alloc (.cells #[.int .i64 (numV xs), .slice none 0 0, .int .i64 (numV (numL xs)), .int .i64 (numV (numL (numL xs))), .int .i64 (numV (numL (numL (numL xs)))), .int .i64 (numV (numL (numL (numL (numL xs))))), .int .i64 (numV (numL (numL (numL (numL (numL xs))))))] 26)) := bl_al hbw7 _
    clear hR7 hA7
    go_wp2_with fail
    refine (numO_any _ _ _ _ w hbw7a hR7a B6).mono ?_
    rintro e w8 ⟨rfl, hR8, hg8⟩
    have hA8 := blk_grown hA7a hg8 (by omega)
    have hC8 := blk_grown hC7 hg8 (by omega)
    have hbw8 := bl_gr hbw7a hg8 (by omega)
    have hz8 := hg8.size
    simp only [World.size_alloc] at hz8
    clear hR7a hg8 hA7a hC7 hbw7a
    rw [short7] at hR8
    have HA8 := Lib.hid hA8
    have HB8 := Lib.hid hbw8
    have HC8 := Lib.hid hC8
    clear hA8 hC8 hbw8
    by_cases hlen : xs.length < 56
    · have hd : decide (xs.length < 56) = true := by simpa using hlen
      rw [hd] at hR8
      have HE : Hid (takeE xs = 3) := by simp [Hid, takeE, hlen]
      clear hlen hd
      go_wp2_with fail
      refine (shortO_any _ _ _ _ w HB8.out hR8).mono ?_
      rintro e w9 ⟨rfl, rfl⟩
      go_wp2
      go_step3
      exact TakeJ.zero HE.out HA8.out HB8.out
    · have hd : decide (xs.length < 56) = false := by simpa using hlen
      rw [hd] at hR8
      obtain ⟨l1, l2, l3, l4, l5, l6, l7⟩ := numLs (xs := xs) (by omega)
      rw [l7] at hR8
      rw [l6, l5, l4, l3, l2, l1]
      rw [l5, l4, l3, l2, l1] at HC8
      rw [numV_of (xs := xs) (by omega), numV_of (xs := xs.drop 8) (by simp; omega), numV_of (xs := xs.drop 16) (by simp; omega), numV_of (xs := xs.drop 24) (by simp; omega), numV_of (xs := xs.drop 32) (by simp; omega), numV_of (xs := xs.drop 40) (by simp; omega)] at *
      have l8 : numV (xs.drop 48) = nT xs := numV_of (by simp; omega)
      rw [l8]
      obtain ⟨y0, hy0⟩ : ∃ y, num8 xs = y := ⟨_, rfl⟩
      obtain ⟨y1, hy1⟩ : ∃ y, num8 (xs.drop 8) = y := ⟨_, rfl⟩
      obtain ⟨y2, hy2⟩ : ∃ y, num8 (xs.drop 16) = y := ⟨_, rfl⟩
      obtain ⟨y3, hy3⟩ : ∃ y, num8 (xs.drop 24) = y := ⟨_, rfl⟩
      obtain ⟨y4, hy4⟩ : ∃ y, num8 (xs.drop 32) = y := ⟨_, rfl⟩
      obtain ⟨y5, hy5⟩ : ∃ y, num8 (xs.drop 40) = y := ⟨_, rfl⟩
      obtain ⟨n, hnT⟩ : ∃ y, nT xs = y := ⟨_, rfl⟩
      rw [hy0, hy1, hy2, hy3, hy4, hy5] at HC8
      rw [hy0, hy1, hy2, hy3, hy4, hy5, hnT]
      have HY := Lib.hid (And.intro hy0 (And.intro hy1 (And.intro hy2 (And.intro hy3 (And.intro hy4 hy5)))))
      have HN := Lib.hid hnT
      have HD := Lib.hid hd
      have HL56 := Lib.hid (show 56 ≤ xs.length by omega)
      clear l1 l2 l3 l4 l5 l6 l7 l8 hy0 hy1 hy2 hy3 hy4 hy5 hnT hd hlen B1 B2 B3 B4 B5 B6
      by_cases hnr : n < 1 ∨ 8 < n
      · have HE : Hid (takeE xs = 4) := by
          have := HL56.out
          show _ = _
          rw [takeE, if_neg (by omega), if_pos (by rw [HN.out]; exact hnr)]
        by_cases hn1 : n < 1
        · have d1 : decide (n < 1) = true := by simpa using hn1
          clear hnr hn1
          go_wp2_with fail
          refine (shortO_any _ _ _ _ w HB8.out hR8).mono ?_
          rintro e w9 ⟨rfl, rfl⟩
          go_wp2
          go_step3
          exact TakeJ.one HE.out (by decide) HA8.out HB8.out
        · have d1 : decide (n < 1) = false := by simpa using hn1
          have d2 : decide (8 < n) = true := by simp; omega
          clear hnr hn1
          go_wp2_with fail
          refine (shortO_any _ _ _ _ w HB8.out hR8).mono ?_
          rintro e w9 ⟨rfl, rfl⟩
          go_wp2
          go_step3
          exact TakeJ.one HE.out (by decide) HA8.out HB8.out
      · obtain ⟨m, rfl⟩ : ∃ m : Nat, n = (m : Int) := ⟨n.toNat, by omega⟩
        have hm1 : 1 ≤ m := by omega
        have hm8 : m ≤ 8 := by omega
        have d1 : decide ((m : Int) < 1) = false := by simp; omega
        have d2 : decide ((8 : Int) < (m : Int)) = false := by simp; omega
        have HSC : Hid (takeE xs = if scanK xs 0 m ≠ 0 then scanK xs 0 m else if okT xs = true then 0 else 4) := by
          have := HL56.out
          show _ = _
          rw [takeE, if_neg (by omega), HN.out, if_neg (by omega), Int.toNat_natCast]
        clear hnr
        obtain ⟨i0, hi, hz0, hz1', hz2⟩ := info_parts info_tr
        go_wp2_with fail
        refine (shortO_any _ _ _ _ w HB8.out hR8).mono ?_
        rintro e w9 ⟨rfl, rfl⟩
        go_wp2_with fail
        go_loopg [36] m (fun g i wr => ∃ k : Nat, k + g = m ∧ i = .int .i64 k ∧ Hid (scanK xs k (m - k) = scanK xs 0 m) ∧ (∃ u : Value, Blk wr w7.heap.size 26 [.int .i64 y0, u, .int .i64 y1, .int .i64 y2, .int .i64 y3, .int .i64 y4, .int .i64 y5] ∧ wr.ownsRow (w7.heap.size + 1) 23 2 u k (cells2 (tsK xs k))) ∧
          RdO w wr (w.heap.size + 1) (xs.drop (56 + 9 * k)) false ∧ Blk wr w.heap.size 26 zeroT ∧ Below w.heap.size w wr ∧ Hid (56 + 9 * k ≤ xs.length))
        case atStart => exact ⟨0, by omega, rfl, rfl, ⟨_, HC8.out, World.ownsRow_nil _ _ _ _⟩, by simpa using hR8, HA8.out, HB8.out, by have := HL56.out; exact this⟩
        case round =>
          obtain ⟨k, hkg, rfl, HK, ⟨u, hC, hown⟩, hR, hA, hb, HLk⟩ := hrel
          cases gk with
          | zero =>
            have hlt : ¬ ((k : Int) < (m : Int)) := by omega
            obtain rfl : k = m := by omega
            have HSZ : Hid (scanK xs 0 k = 0) := by
              have := HK.out
              rw [Nat.sub_self] at this
              exact this.symm
            have HEV : Hid (takeE xs = if okT xs = true then 0 else 4) := by
              show _ = _
              rw [HSC.out, HSZ.out]
              rfl
            have HOK : Hid (okT xs = (decide (xs.length = 56 + 9 * k) && rightT y0 (tsK xs k) y1 y2 y3 y4 y5)) := by
              obtain ⟨q0, q1, q2, q3, q4, q5⟩ := HY.out
              show _ = _
              rw [okT, HN.out, q0, q1, q2, q3, q4, q5, Int.toNat_natCast]
            have HAk := Lib.hid hA
            have HBk := Lib.hid hb
            have HCk := Lib.hid hC
            by_cases hl : xs.length = 56 + 9 * k
            · have dl := Lib.hid (show (xs.drop (56 + 9 * k)).length = 0 from by simp; omega)
              obtain ⟨g3, cap3, rfl⟩ := own_shape hown (by omega)
              have hg3 : g3 ≠ w.heap.size := by have := (hown.lt g3 rfl).1; omega
              have hts : TrS wr (.slice (some ⟨g3, 0, none⟩) k cap3) (tsK xs k) := TrS.of_own hown (tsK_length _ _)
              have c0 := hC.cell 0
              have c1 := hC.cell 1
              have c2 := hC.cell 2
              have c3 := hC.cell 3
              have c4 := hC.cell 4
              have c5 := hC.cell 5
              have c6 := hC.cell 6
              simp only [List.getElem?_cons_zero, List.getElem?_cons_succ] at c0 c1 c2 c3 c4 c5 c6
              cases hrt : rightT y0 (tsK xs k) y1 y2 y3 y4 y5 with
              | false =>
                have HE : Hid (takeE xs = 4) := by
                  show _ = _
                  rw [HEV.out, HOK.out, hrt, Bool.and_false]
                  rfl
                have HRT := Lib.hid (show (if rightT y0 (tsK xs k) y1 y2 y3 y4 y5 = true then (0 : Int) else 6) = 6 from by rw [hrt]; rfl)
                clear hrt hA hb hC hown hl
                go_wp2_with fail
                refine (leftO_any _ _ _ _ w HBk.out hR).mono ?_
                rintro e wd ⟨rfl, rfl⟩
                rw [dl.out]
                go_wp2_with fail
                refine (termsRight_any _ _ _ _ _ _ _ _ 6 HRT _ hts).mono ?_
                rintro e we ⟨rfl, hbe⟩
                have hAe := HAk.out.below hbe
                have hbb := bl_tr HBk.out hbe
                go_wp2
                go_step3
                exact TakeJ.one HE.out (by decide) hAe hbb
              | true =>
                have HE : Hid (takeE xs = 0) := by
                  show _ = _
                  rw [HEV.out, HOK.out, hrt, Bool.and_true, decide_eq_true hl]
                  rfl
                have HRT := Lib.hid (show (if rightT y0 (tsK xs k) y1 y2 y3 y4 y5 = true then (0 : Int) else 6) = 0 from by rw [hrt]; rfl)
                have HTS := Lib.hid hts
                clear hrt hA hb hC hown hl
                go_wp2_with fail
                refine (leftO_any _ _ _ _ w HBk.out hR).mono ?_
                rintro e wd ⟨rfl, rfl⟩
                rw [dl.out]
                go_wp2_with fail
                refine (termsRight_any _ _ _ _ _ _ _ _ 0 HRT _ hts).mono ?_
                rintro e we ⟨rfl, hbe⟩
                have hAe := HAk.out.below hbe
                have hCe := HCk.out.below hbe
                have hbb := bl_tr HBk.out hbe
                have HTE := Lib.hid (HTS.out.below hbe)
                clear c0 c1 c2 c3 c4 c5 c6 hts hbe
                have c0 := hCe.cell 0
                have c1 := hCe.cell 1
                have c2 := hCe.cell 2
                have c3 := hCe.cell 3
                have c4 := hCe.cell 4
                have c5 := hCe.cell 5
                have c6 := hCe.cell 6
                simp only [List.getElem?_cons_zero, List.getElem?_cons_succ] at c0 c1 c2 c3 c4 c5 c6
                have a0 := hAe.cell 0
                have a1 := hAe.cell 1
                have a2 := hAe.cell 2
                have a3 := hAe.cell 3
                have a4 := hAe.cell 4
                have a5 := hAe.cell 5
                have a6 := hAe.cell 6
                have f0 := hAe.frozen 0
                have f1 := hAe.frozen 1
                have f2 := hAe.frozen 2
                have f3 := hAe.frozen 3
                have f4 := hAe.frozen 4
                have f5 := hAe.frozen 5
                have f6 := hAe.frozen 6
                simp only [zeroT, List.getElem?_cons_zero, List.getElem?_cons_succ] at a0 a1 a2 a3 a4 a5 a6
                clear hAe hCe
                go_wp2
                simp only [jumps]
                refine bodyPost_ret (v := .tuple #[.agg #[.int .i64 y0, .slice (some ⟨g3, 0, none⟩) k cap3, .int .i64 y1, .int .i64 y2, .int .i64 y3, .int .i64 y4, .int .i64 y5], .int .i64 0]) (by simp [results, Try.results26, go_sem, a0, a1, a2, a3, a4, a5, a6]) rfl ?_
                obtain ⟨q0, q1, q2, q3, q4, q5⟩ := HY.out
                rw [← q0, ← q1, ← q2, ← q3, ← q4, ← q5]
                refine TakeR.yes HE.out ?_ (by repeat (first | with_reducible exact Below.refl _ _ | (with_reducible refine bl_sc ?_ ?hge; case hge => (first | exact Nat.le_refl _ | omega)) | with_reducible refine bl_al ?_ _ | with_reducible refine bl_dr ?_ | with_reducible refine bl_dN ?_ _ | (refine bl_tr ?_ (by assumption)) | (refine bl_gr ?_ (by assumption) (by first | exact Nat.le_refl _ | omega)) | exact Below.refl _ _ | refine bl_al ?_ _ | refine bl_dr ?_ | refine bl_dN ?_ _))
                rw [HN.out, Int.toNat_natCast]
                exact ((((((HTE.out.setOther hg3).setOther hg3).setOther hg3).setOther hg3).setOther hg3).setOther hg3).setOther hg3
            · obtain ⟨q, hq⟩ : ∃ q, (xs.drop (56 + 9 * k)).length = q + 1 := ⟨xs.length - (56 + 9 * k) - 1, by have := HLk.out; simp; omega⟩
              have dl := Lib.hid hq
              clear hq
              have HE : Hid (takeE xs = 4) := by
                show _ = _
                rw [HEV.out, HOK.out, decide_eq_false hl, Bool.false_and]
                rfl
              clear hA hb hC hown hl
              go_wp2_with fail
              refine (leftO_any _ _ _ _ w HBk.out hR).mono ?_
              rintro e wd ⟨rfl, rfl⟩
              rw [dl.out]
              go_wp2
              go_step3
              exact TakeJ.one HE.out (by decide) HAk.out HBk.out
          | succ g =>
            have hlt : (k : Int) < (m : Int) := by omega
            have hLk := HLk.out
            have By : Hid (Byts (xs.drop (56 + 9 * k))) := hby.out.drop _
            have hyl : (xs.drop (56 + 9 * k)).length = xs.length - (56 + 9 * k) := by simp
            have HYL := Lib.hid hyl
            clear hyl
            go_wp2_with fail
            refine (numO_any _ _ _ _ w hb hR By).mono ?_
            rintro e wa ⟨rfl, hRa, hga⟩
            have hba := bl_gr hb hga (by omega)
            go_wp2_with fail
            refine (byteO_any _ _ _ _ w hba hRa).mono ?_
            rintro e wb ⟨rfl, hRb, hgb⟩
            have hg := grown_same hga hgb
            have hCG : w7.heap.size ≠ w.heap.size + 1 := by omega
            have hC2 := blk_grown hC hg hCG
            have hA2 := blk_grown hA hg (by omega)
            have hb2 := bl_gr hb hg (by omega)
            have hown2 := hown.kept hg (.inr (fun e => by have := (hown.lt _ e).1; omega))
            clear hC hA hb hown hba hg hga hgb hR hRa
            by_cases hbad : xs.length < 65 + 9 * k
            · have hsb : byteS (numL (xs.drop (56 + 9 * k))) (numS (xs.drop (56 + 9 * k)) false) = true := by
                have := HYL.out
                rw [byteS, numL_length, if_pos (by omega)]
              rw [hsb] at hRb
              have HE : Hid (takeE xs = 3) := by
                have hb3 : badK xs k = 3 := by rw [badK, if_pos hbad]
                have := HK.out
                rw [show m - k = g + 1 from by omega, scanK_bad (by rw [hb3]; decide), hb3] at this
                show _ = _
                rw [HSC.out, ← this]
                rfl
              have HA2 := Lib.hid hA2
              have HB2 := Lib.hid hb2
              clear hC2 hA2 hown2 hbad hsb hb2
              go_wp2_with fail
              refine (shortO_any _ _ _ _ w HB2.out hRb).mono ?_
              rintro e wc ⟨rfl, rfl⟩
              go_wp2
              go_step3
              exact TakeJ.zero HE.out HA2.out HB2.out
            · have hn8 : numL (xs.drop (56 + 9 * k)) = xs.drop (64 + 9 * k) := by
                rw [numL_of (by rw [HYL.out]; omega), List.drop_drop]
                congr 1
                omega
              have hsb : byteS (numL (xs.drop (56 + 9 * k))) (numS (xs.drop (56 + 9 * k)) false) = false := by
                have := HYL.out
                rw [byteS, numL_length, if_neg (by omega), numS, if_neg (by omega)]
              have hbl : byteL (numL (xs.drop (56 + 9 * k))) = xs.drop (56 + 9 * (k + 1)) := by
                rw [hn8, byteL, List.drop_drop]
                congr 1
                omega
              have hbv : byteV (numL (xs.drop (56 + 9 * k))) = xs.getD (64 + 9 * k) 0 := by
                rw [hn8, byteV]
                simp [List.getD]
              have hnv : numV (xs.drop (56 + 9 * k)) = (trK xs k).1 := numV_of (by rw [HYL.out]; omega)
              rw [hsb, hbl] at hRb
              rw [hbv, hnv]
              obtain ⟨gr, hgr⟩ : ∃ gr, xs.getD (64 + 9 * k) 0 = gr := ⟨_, rfl⟩
              have hgrr : 0 ≤ gr ∧ gr < 256 := by rw [← hgr]; exact hby.out.getD (by omega)
              have HGR := Lib.hid hgr
              rw [hgr]
              clear hgr hsb hbl hbv hnv hn8
              obtain ⟨ra, hra⟩ : ∃ ra, (trK xs k).1 = ra := ⟨_, rfl⟩
              rw [hra]
              have HRA := Lib.hid hra
              have HBAD := Lib.hid hbad
              clear hra hbad
              by_cases hg1 : 1 < gr
              · have dg : decide (1 < gr) = true := by simpa using hg1
                have HE : Hid (takeE xs = 4) := by
                  have hb3 : badK xs k = 4 := by rw [badK, if_neg HBAD.out, HGR.out, if_pos hg1]
                  have := HK.out
                  rw [show m - k = g + 1 from by omega, scanK_bad (by rw [hb3]; decide), hb3] at this
                  show _ = _
                  rw [HSC.out, ← this]
                  rfl
                have HA2 := Lib.hid hA2
                have HB2 := Lib.hid hb2
                clear hC2 hA2 hown2 hb2 hg1
                go_wp2_with fail
                refine (shortO_any _ _ _ _ w HB2.out hRb).mono ?_
                rintro e wc ⟨rfl, rfl⟩
                go_wp2
                go_step3
                exact TakeJ.one HE.out (by decide) HA2.out HB2.out
              · have dg : decide (1 < gr) = false := by simpa using hg1
                have HKS : Hid (scanK xs (k + 1) (m - (k + 1)) = scanK xs 0 m) := by
                  have hb3 : badK xs k = 0 := by rw [badK, if_neg HBAD.out, HGR.out, if_neg hg1]
                  have := HK.out
                  rw [show m - k = g + 1 from by omega, scanK_good hb3] at this
                  show _ = _
                  rw [show m - (k + 1) = g from by omega]
                  exact this
                have e1 : wb.cell? ⟨w7.heap.size, 1, none⟩ = some u := hC2.cell 1
                have hbsz : w7.heap.size + 1 ≤ wb.heap.size := hC2.lt
                have hCne : ∀ q, u.ownBlock = some q → w7.heap.size + 1 ≤ q := fun q hq => (hown2.lt q hq).1
                have HCNE := Lib.hid hCne
                have HA2 := Lib.hid hA2
                have HB2 := Lib.hid hb2
                have HC2 := Lib.hid hC2
                have HRb := Lib.hid hRb
                clear hC2 hA2 hb2 hCne hg1
                go_wp2_with fail
                refine (shortO_any _ _ _ _ w HB2.out hRb).mono ?_
                rintro e wc ⟨rfl, rfl⟩
                clear hRb
                go_wp2_with (at_builtin; refine wpList_append_where _ rfl (.tmp 47) (.tmp 52) 24 rfl (w7.heap.size + 1) 23 i0 (.agg #[.int .i64 0, .bool false]) 2 16 Try.underlying24 hi hz0 hz1' hz2 rfl (by decide) _ _ _ rfl (hown2.alloc _) ⟨wb.heap.size, 0, none⟩ 1 1 [_, _] rfl rfl (news2 _ _ _ _) (fun x hx => by simp at hx; rcases hx with rfl | rfl <;> rfl) (by unfold maxLen; omega) (by omega) (by simp; omega) ?_; intro v1 w9 hown3 hg3 hbk3; obtain ⟨g3, cap3, rfl⟩ := own_shape hown3 (by omega); have HG3 := Lib.hid hg3; have hC3 := blk_grownR (HC2.out.below (bl_al (Below.refl _ _) _)) hg3 (fun e => by have := HCNE.out _ e.symm; omega); have e3 : w9.cell? ⟨w7.heap.size, 1, none⟩ = some u := hC3.cell 1; have f3 := hC3.frozen 1; have HC3 := Lib.hid hC3; clear hC3 hg3)
                have hA3 := blk_grownR (HA2.out.below (bl_al (Below.refl _ _) _)) HG3.out (fun e => by have := HCNE.out _ e.symm; omega)
                have hR3 : RdO w w9 (w.heap.size + 1) (xs.drop (56 + 9 * (k + 1))) false := by
                  obtain ⟨v, q1, q2⟩ := HRb.out
                  exact ⟨v, blk_grownR (q1.below (bl_al (Below.refl _ _) _)) HG3.out (fun e => by have := HCNE.out _ e.symm; omega), q2⟩
                have hb3 : Below w.heap.size w w9 := (bl_al HB2.out _).grown HG3.out (by have := HB2.out.size; simp; omega) (fun q hq => by have := HCNE.out q hq; have := hbw7.size; omega)
                have HT3 : Hid (w9.ownsRow (w7.heap.size + 1) 23 2 (.slice (some ⟨g3, 0, none⟩) (k + 1) cap3) (k + 1) (cells2 (tsK xs (k + 1)))) := by
                  have e : trK xs k = (ra, gr == 1) := by rw [← HRA.out, ← HGR.out]; rfl
                  rw [tsK_succ, cells2_append, e]
                  exact hown3
                clear hown3 hown2 hbk3
                go_roundg g
                case measure => omega
                case rel => exact ⟨k + 1, by omega, by go_num, HKS, ⟨_, HC3.out.set 1 _, ownsRow_setCell_below HT3.out (Nat.lt_succ_self _) _⟩, by obtain ⟨v, q1, q2⟩ := hR3; exact ⟨v, q1.setOther (by omega) _ _, q2⟩, hA3.setOther (by omega) _ _, bl_sc hb3 (by have := hbw7.size; omega), by have := HBAD.out; show _ ≤ _; omega⟩
end Go.Proofs.Ytdjfpbjlmojikaa

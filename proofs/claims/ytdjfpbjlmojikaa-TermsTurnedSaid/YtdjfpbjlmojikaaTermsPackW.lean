/- TermsPack: which terms are right, their bytes, and which terms any bytes are; what is handed in stays. -/
import Derived.Test.YtdjfpbjlmojikaaOwnT
import Derived.Test.YtdjfpbjlmojikaaHelp6
import Derived.Test.YtdjfpbjlmojikaaRefPack6
import Derived.Test.YtdjfpbjlmojikaaRefTake6
import Derived.Test.YtdjfpbjlmojikaaOwn8
import Derived.Test.YtdjfpbjlmojikaaKept8
import Derived.Deep.RegionHeld3
import Derived.Deep.DrawnRows
namespace Go.Proofs.Ytdjfpbjlmojikaa
open Go.RowKit
attribute [local go_sem ↓] Go.wp_at_zero Go.wp_at_succ

theorem TSp.set {w : World} {g : Nat} {e : TypeId} {cur : List Value} {v : Value} {ts : List (Int × Bool)} {f : Int × Bool} (h : TSp w v ts f) (hB : Blk w g e cur) (hno : ∀ (j : Nat) (q : Bool), cur[j]? ≠ some (Value.bool q)) (i : Nat) (x : Value) : TSp (w.setCell ⟨g, i, none⟩ x) v ts f := by
  obtain ⟨ao, rfl, h1, h2⟩ := h
  obtain ⟨b, o, y, q, rfl, _, c1, _⟩ := h2.get (i := 0) (by simp)
  have hne : b ≠ g := by
    intro hbg
    subst hbg
    rw [hB.cell] at c1
    exact hno _ _ c1
  exact ⟨_, rfl, h1.setOther hne, h2.setOther hne⟩
theorem TrS.form {w : World} {v : Value} {ts : List (Int × Bool)} (h : TrS w v ts) : ∃ ao n c, v = .slice ao n c := by
  obtain ⟨ao, cap, rfl, _⟩ := h
  exact ⟨_, _, _, rfl⟩

set_option maxRecDepth 100000 in
set_option maxHeartbeats 3200000 in
theorem termsPack_go (v : Value) (ts : List (Int × Bool)) (lim cyc dued minf minp start : Int) (u : Value) (bs : List Int) (hb : Hid (Byts bs)) (hlt : ts.length ≤ 40) (hlb : bs.length ≤ 500) (w : World) (hv : TrS w v ts) (hu : Sl .u8 w u bs) :
    Calls Try.prog 8 #[.agg #[.int .i64 lim, v, .int .i64 cyc, .int .i64 dued, .int .i64 minf, .int .i64 minp, .int .i64 start], u] w (RetB (.bool true) w) := by
  have HV := Lib.hid hv
  have HU := Lib.hid hu
  obtain ⟨ao, cap, rfl, h1, ⟨h2, _⟩, h3⟩ := hv
  obtain ⟨bo, bcap, rfl, h1', ⟨h2', _⟩, h3'⟩ := hu
  clear h3 h3'
  unfold maxLen at h2 h2'
  have d1 : decide ((40 : Int) < (ts.length : Int)) = false := by simp; omega
  have d2 : decide ((500 : Int) < (bs.length : Int)) = false := by simp; omega
  have hw0 : Below w.heap.size w ((w.alloc (.cells #[.int .i64 lim, .slice ao ts.length cap, .int .i64 cyc, .int .i64 dued, .int .i64 minf, .int .i64 minp, .int .i64 start] 26)).alloc (.cells #[.int .i64 lim, .slice ao ts.length cap, .int .i64 cyc, .int .i64 dued, .int .i64 minf, .int .i64 minp, .int .i64 start] 26)) := (by repeat (first | with_reducible exact Below.refl _ _ | (with_reducible refine bl_sc ?_ ?hge; case hge => (first | exact Nat.le_refl _ | omega)) | with_reducible refine bl_al ?_ _ | with_reducible refine bl_dr ?_ | with_reducible refine bl_dN ?_ _ | (refine bl_tr ?_ (by assumption)) | (refine bl_gr ?_ (by assumption) (by first | exact Nat.le_refl _ | omega)) | exact Below.refl _ _ | refine bl_al ?_ _ | refine bl_dr ?_ | refine bl_dN ?_ _))
  have hK0 : Blk ((w.alloc (.cells #[.int .i64 lim, .slice ao ts.length cap, .int .i64 cyc, .int .i64 dued, .int .i64 minf, .int .i64 minp, .int .i64 start] 26)).alloc (.cells #[.int .i64 lim, .slice ao ts.length cap, .int .i64 cyc, .int .i64 dued, .int .i64 minf, .int .i64 minp, .int .i64 start] 26)) w.heap.size 26 [.int .i64 lim, .slice ao ts.length cap, .int .i64 cyc, .int .i64 dued, .int .i64 minf, .int .i64 minp, .int .i64 start] := heap_alloc2_old _ _ _
  have hK1 : Blk ((w.alloc (.cells #[.int .i64 lim, .slice ao ts.length cap, .int .i64 cyc, .int .i64 dued, .int .i64 minf, .int .i64 minp, .int .i64 start] 26)).alloc (.cells #[.int .i64 lim, .slice ao ts.length cap, .int .i64 cyc, .int .i64 dued, .int .i64 minf, .int .i64 minp, .int .i64 start] 26)) (w.heap.size + 1) 26 [.int .i64 lim, .slice ao ts.length cap, .int .i64 cyc, .int .i64 dued, .int .i64 minf, .int .i64 minp, .int .i64 start] := heap_alloc2_new _ _ _
  go_enter Try.func8, Try.ntmps8
  go_wp2_with fail
  refine (ownT_any _ ts 71 false _ (HV.out.below hw0) (by omega)).mono ?_
  rintro e w1 ⟨u1, rfl, hs1, hb1⟩
  have HS1 := Lib.hid hs1
  obtain ⟨ao1, rfl, _, _⟩ := hs1
  have hKa := hK0.below hb1
  have hKb := hK1.below hb1
  have hwa : Below w.heap.size w w1 := bl_tr hw0 hb1
  have k1 := hKb.cell 1
  have f1 := hKb.frozen 1
  simp only [List.getElem?_cons_zero, List.getElem?_cons_succ] at k1
  have HKa := Lib.hid hKa
  have HKb := Lib.hid hKb
  have HWA := Lib.hid hwa
  clear hw0 hK0 hK1 hb1 hKa hKb hwa
  go_wp2_with fail
  have hwb : Below w.heap.size w (w1.setCell ⟨w.heap.size + 1, 1, none⟩ (.slice ao1 ts.length (ts.length + 3))) := bl_sc HWA.out (by omega)
  have hKc : Blk (w1.setCell ⟨w.heap.size + 1, 1, none⟩ (.slice ao1 ts.length (ts.length + 3))) (w.heap.size + 1) 26 [.int .i64 lim, .slice ao1 ts.length (ts.length + 3), .int .i64 cyc, .int .i64 dued, .int .i64 minf, .int .i64 minp, .int .i64 start] := HKb.out.set 1 _
  have hKd : Blk (w1.setCell ⟨w.heap.size + 1, 1, none⟩ (.slice ao1 ts.length (ts.length + 3))) w.heap.size 26 [.int .i64 lim, .slice ao ts.length cap, .int .i64 cyc, .int .i64 dued, .int .i64 minf, .int .i64 minp, .int .i64 start] := HKa.out.setOther (by omega) _ _
  have hSp : TSp (w1.setCell ⟨w.heap.size + 1, 1, none⟩ (.slice ao1 ts.length (ts.length + 3))) (.slice ao1 ts.length (ts.length + 3)) ts (71, false) := HS1.out.set HKb.out (by intro j b; rcases j with _ | _ | _ | _ | _ | _ | _ | j <;> simp) 1 _
  obtain ⟨W2, hW2, g1, g2, g3, g4⟩ : ∃ W2, (w1.setCell ⟨w.heap.size + 1, 1, none⟩ (.slice ao1 ts.length (ts.length + 3))) = W2 ∧ Below w.heap.size w W2 ∧ Blk W2 (w.heap.size + 1) 26 [.int .i64 lim, .slice ao1 ts.length (ts.length + 3), .int .i64 cyc, .int .i64 dued, .int .i64 minf, .int .i64 minp, .int .i64 start] ∧ Blk W2 w.heap.size 26 [.int .i64 lim, .slice ao ts.length cap, .int .i64 cyc, .int .i64 dued, .int .i64 minf, .int .i64 minp, .int .i64 start] ∧ TSp W2 (.slice ao1 ts.length (ts.length + 3)) ts (71, false) := ⟨_, rfl, hwb, hKc, hKd, hSp⟩
  with_reducible rw [hW2]
  clear hW2 hwb hKc hKd hSp HKa HKb HWA HS1 k1 f1
  go_wp2_with fail
  refine (own8_any _ bs 71 _ (HU.out.below g1) (by omega)).mono ?_
  rintro e w3 ⟨u3, rfl, hs3, hb3⟩
  have HS3 := Lib.hid hs3
  have hs3' := hs3.sl
  obtain ⟨ao3, rfl, _, _⟩ := hs3
  have k1 := (g2.below hb3)
  have t0 := k1.cell 0
  have t1 := k1.cell 1
  have t2 := k1.cell 2
  have t3 := k1.cell 3
  have t4 := k1.cell 4
  have t5 := k1.cell 5
  have t6 := k1.cell 6
  simp only [List.getElem?_cons_zero, List.getElem?_cons_succ] at t0 t1 t2 t3 t4 t5 t6
  clear k1
  go_wp2_with fail
  refine (termsPack_any _ ts lim cyc dued minf minp start _ ((g4.below hb3).choose_spec.2.1)).mono ?_
  rintro e w4 ⟨u4, rfl, hs4, hb4⟩
  have hb24 := bl_tr hb3 hb4
  clear t0 t1 t2 t3 t4 t5 t6
  have k0 := (g3.below hb24)
  have t0 := k0.cell 0
  have t1 := k0.cell 1
  have t2 := k0.cell 2
  have t3 := k0.cell 3
  have t4 := k0.cell 4
  have t5 := k0.cell 5
  have t6 := k0.cell 6
  simp only [List.getElem?_cons_zero, List.getElem?_cons_succ] at t0 t1 t2 t3 t4 t5 t6
  clear k0
  obtain ⟨pk, pe, hpk⟩ : ∃ pk pe, packR lim ts cyc dued minf minp start = (pk, pe) := ⟨_, _, rfl⟩
  have HPK := Lib.hid hpk
  rw [hpk] at hs4 ⊢
  clear hpk
  go_wp2_with fail
  refine (refPack6_any _ ts lim cyc dued minf minp start _ (HV.out.below (bl_tr g1 hb24))).mono ?_
  rintro e w5 ⟨u5, rfl, hs5, hb5⟩
  rw [HPK.out] at hs5 ⊢
  clear t0 t1 t2 t3 t4 t5 t6
  have hb25 := bl_tr hb24 hb5
  go_wp2_with fail
  refine (termsTake_any _ bs hb _ (hs3'.below (bl_tr hb4 hb5)) (by omega)).mono ?_
  rintro e w6 ⟨u6, rfl, ht6, hb6⟩
  have HT6 := Lib.hid ht6
  obtain ⟨aox, nx, capx, rfl⟩ := ht6.form
  clear ht6
  obtain ⟨x0, hx0⟩ : ∃ y, takeI bs 0 = y := ⟨_, rfl⟩
  obtain ⟨x1, hx1⟩ : ∃ y, takeI bs 8 = y := ⟨_, rfl⟩
  obtain ⟨x2, hx2⟩ : ∃ y, takeI bs 16 = y := ⟨_, rfl⟩
  obtain ⟨x3, hx3⟩ : ∃ y, takeI bs 24 = y := ⟨_, rfl⟩
  obtain ⟨x4, hx4⟩ : ∃ y, takeI bs 32 = y := ⟨_, rfl⟩
  obtain ⟨x5, hx5⟩ : ∃ y, takeI bs 40 = y := ⟨_, rfl⟩
  have HX := Lib.hid (And.intro hx0 (And.intro hx1 (And.intro hx2 (And.intro hx3 (And.intro hx4 hx5)))))
  rw [hx0, hx1, hx2, hx3, hx4, hx5]
  clear hx0 hx1 hx2 hx3 hx4 hx5
  have hb26 := bl_tr hb25 hb6
  go_wp2_with fail
  refine (refTake6_any _ bs hb _ (HU.out.below (bl_al (bl_tr g1 hb26) _)) (by omega)).mono ?_
  rintro e w7 ⟨u7, rfl, ht7, hb7⟩
  have HT7 := Lib.hid ht7
  obtain ⟨aoy, ny, capy, rfl⟩ := ht7.form
  clear ht7
  obtain ⟨q0, q1, q2, q3, q4, q5⟩ := HX.out
  rw [q0, q1, q2, q3, q4, q5]
  clear q0 q1 q2 q3 q4 q5
  go_wp2_with fail
  have hb2f : Below W2.heap.size W2 (w7.alloc (.cells #[.int .i64 x0, .slice aoy ny capy, .int .i64 x1, .int .i64 x2, .int .i64 x3, .int .i64 x4, .int .i64 x5] 26)) := bl_al (bl_tr (bl_al hb26 _) hb7) _
  have gA := g3.below hb2f
  have gB := g2.below hb2f
  have gX : Blk (w7.alloc (.cells #[.int .i64 x0, .slice aoy ny capy, .int .i64 x1, .int .i64 x2, .int .i64 x3, .int .i64 x4, .int .i64 x5] 26)) w6.heap.size 26 [.int .i64 x0, .slice aox nx capx, .int .i64 x1, .int .i64 x2, .int .i64 x3, .int .i64 x4, .int .i64 x5] := Blk.below (heap_alloc_new w6 _) (bl_al hb7 _)
  have gY : Blk (w7.alloc (.cells #[.int .i64 x0, .slice aoy ny capy, .int .i64 x1, .int .i64 x2, .int .i64 x3, .int .i64 x4, .int .i64 x5] 26)) w7.heap.size 26 [.int .i64 x0, .slice aoy ny capy, .int .i64 x1, .int .i64 x2, .int .i64 x3, .int .i64 x4, .int .i64 x5] := heap_alloc_new w7 _
  have gw : Below w.heap.size w (w7.alloc (.cells #[.int .i64 x0, .slice aoy ny capy, .int .i64 x1, .int .i64 x2, .int .i64 x3, .int .i64 x4, .int .i64 x5] 26)) := bl_tr g1 hb2f
  have gsp := g4.below hb2f
  have gs3 := HS3.out.below (bl_al (bl_tr (bl_al (bl_tr (bl_tr hb4 hb5) hb6) (.cells #[.int .i64 x0, .slice aox nx capx, .int .i64 x1, .int .i64 x2, .int .i64 x3, .int .i64 x4, .int .i64 x5] 26)) hb7) (.cells #[.int .i64 x0, .slice aoy ny capy, .int .i64 x1, .int .i64 x2, .int .i64 x3, .int .i64 x4, .int .i64 x5] 26))
  have gt6 := HT6.out.below (bl_al (bl_tr (bl_al (Below.refl _ _) (.cells #[.int .i64 x0, .slice aox nx capx, .int .i64 x1, .int .i64 x2, .int .i64 x3, .int .i64 x4, .int .i64 x5] 26)) hb7) (.cells #[.int .i64 x0, .slice aoy ny capy, .int .i64 x1, .int .i64 x2, .int .i64 x3, .int .i64 x4, .int .i64 x5] 26))
  have gt7 := HT7.out.below (bl_al (Below.refl _ _) (.cells #[.int .i64 x0, .slice aoy ny capy, .int .i64 x1, .int .i64 x2, .int .i64 x3, .int .i64 x4, .int .i64 x5] 26))
  have gs4 := hs4.below (bl_al (bl_tr (bl_al (bl_tr hb5 hb6) (.cells #[.int .i64 x0, .slice aox nx capx, .int .i64 x1, .int .i64 x2, .int .i64 x3, .int .i64 x4, .int .i64 x5] 26)) hb7) (.cells #[.int .i64 x0, .slice aoy ny capy, .int .i64 x1, .int .i64 x2, .int .i64 x3, .int .i64 x4, .int .i64 x5] 26))
  have gs5 := hs5.below (bl_al (bl_tr (bl_al hb6 (.cells #[.int .i64 x0, .slice aox nx capx, .int .i64 x1, .int .i64 x2, .int .i64 x3, .int .i64 x4, .int .i64 x5] 26)) hb7) (.cells #[.int .i64 x0, .slice aoy ny capy, .int .i64 x1, .int .i64 x2, .int .i64 x3, .int .i64 x4, .int .i64 x5] 26))
  obtain ⟨W, hW, fA, fB, fX, fY, fw, fsp, fs3, ft6, ft7, fs4, fs5⟩ : ∃ W, (w7.alloc (.cells #[.int .i64 x0, .slice aoy ny capy, .int .i64 x1, .int .i64 x2, .int .i64 x3, .int .i64 x4, .int .i64 x5] 26)) = W ∧ Blk W w.heap.size 26 [.int .i64 lim, .slice ao ts.length cap, .int .i64 cyc, .int .i64 dued, .int .i64 minf, .int .i64 minp, .int .i64 start] ∧ Blk W (w.heap.size + 1) 26 [.int .i64 lim, .slice ao1 ts.length (ts.length + 3), .int .i64 cyc, .int .i64 dued, .int .i64 minf, .int .i64 minp, .int .i64 start] ∧ Blk W w6.heap.size 26 [.int .i64 x0, .slice aox nx capx, .int .i64 x1, .int .i64 x2, .int .i64 x3, .int .i64 x4, .int .i64 x5] ∧ Blk W w7.heap.size 26 [.int .i64 x0, .slice aoy ny capy, .int .i64 x1, .int .i64 x2, .int .i64 x3, .int .i64 x4, .int .i64 x5] ∧ Below w.heap.size w W ∧ TSp W (.slice ao1 ts.length (ts.length + 3)) ts (71, false) ∧ Sp .u8 W (.slice ao3 bs.length (bs.length + 3)) bs [71, 71, 71] ∧ TrS W (.slice aox nx capx) (takeTs bs) ∧ TrS W (.slice aoy ny capy) (takeTs bs) ∧ Sl .u8 W u4 pk ∧ Sl .u8 W u5 pk := ⟨_, rfl, gA, gB, gX, gY, gw, gsp, gs3, gt6, gt7, gs4, gs5⟩
  with_reducible rw [hW]
  clear hW gA gB gX gY gw gsp gs3 gt6 gt7 gs4 gs5 hb2f hb3 hb4 hb24 hb5 hb25 hb6 hb26 hb7 g1 g2 g3 g4 hs3' hs4 hs5 HS3 HT6 HT7
  generalize w6.heap.size = GX at *
  generalize w7.heap.size = GY at *
  have hall : ∀ W' : World, Below W.heap.size W W' → (W'.cell? ⟨w.heap.size, 0, none⟩ = some (.int .i64 lim) ∧ W'.cell? ⟨w.heap.size, 1, none⟩ = some (.slice ao ts.length cap) ∧ W'.cell? ⟨w.heap.size, 2, none⟩ = some (.int .i64 cyc) ∧ W'.cell? ⟨w.heap.size, 3, none⟩ = some (.int .i64 dued) ∧ W'.cell? ⟨w.heap.size, 4, none⟩ = some (.int .i64 minf) ∧ W'.cell? ⟨w.heap.size, 5, none⟩ = some (.int .i64 minp) ∧ W'.cell? ⟨w.heap.size, 6, none⟩ = some (.int .i64 start)) ∧ (W'.cell? ⟨(w.heap.size + 1), 0, none⟩ = some (.int .i64 lim) ∧ W'.cell? ⟨(w.heap.size + 1), 1, none⟩ = some (.slice ao1 ts.length (ts.length + 3)) ∧ W'.cell? ⟨(w.heap.size + 1), 2, none⟩ = some (.int .i64 cyc) ∧ W'.cell? ⟨(w.heap.size + 1), 3, none⟩ = some (.int .i64 dued) ∧ W'.cell? ⟨(w.heap.size + 1), 4, none⟩ = some (.int .i64 minf) ∧ W'.cell? ⟨(w.heap.size + 1), 5, none⟩ = some (.int .i64 minp) ∧ W'.cell? ⟨(w.heap.size + 1), 6, none⟩ = some (.int .i64 start)) ∧ (W'.cell? ⟨GX, 0, none⟩ = some (.int .i64 x0) ∧ W'.cell? ⟨GX, 1, none⟩ = some (.slice aox nx capx) ∧ W'.cell? ⟨GX, 2, none⟩ = some (.int .i64 x1) ∧ W'.cell? ⟨GX, 3, none⟩ = some (.int .i64 x2) ∧ W'.cell? ⟨GX, 4, none⟩ = some (.int .i64 x3) ∧ W'.cell? ⟨GX, 5, none⟩ = some (.int .i64 x4) ∧ W'.cell? ⟨GX, 6, none⟩ = some (.int .i64 x5)) ∧ (W'.cell? ⟨GY, 0, none⟩ = some (.int .i64 x0) ∧ W'.cell? ⟨GY, 1, none⟩ = some (.slice aoy ny capy) ∧ W'.cell? ⟨GY, 2, none⟩ = some (.int .i64 x1) ∧ W'.cell? ⟨GY, 3, none⟩ = some (.int .i64 x2) ∧ W'.cell? ⟨GY, 4, none⟩ = some (.int .i64 x3) ∧ W'.cell? ⟨GY, 5, none⟩ = some (.int .i64 x4) ∧ W'.cell? ⟨GY, 6, none⟩ = some (.int .i64 x5)) := fun W' h => by
    have q0 := fA.below h
    have q1 := fB.below h
    have qX := fX.below h
    have qY := fY.below h
    exact ⟨⟨q0.cell 0, q0.cell 1, q0.cell 2, q0.cell 3, q0.cell 4, q0.cell 5, q0.cell 6⟩, ⟨q1.cell 0, q1.cell 1, q1.cell 2, q1.cell 3, q1.cell 4, q1.cell 5, q1.cell 6⟩, ⟨qX.cell 0, qX.cell 1, qX.cell 2, qX.cell 3, qX.cell 4, qX.cell 5, qX.cell 6⟩, ⟨qY.cell 0, qY.cell 1, qY.cell 2, qY.cell 3, qY.cell 4, qY.cell 5, qY.cell 6⟩⟩
  have HALL := Lib.hid hall
  have HTT : Hid (∀ W' : World, Below W.heap.size W W' → TrS W' (.slice ao ts.length cap) ts) := fun W' h => HV.out.below (bl_tr fw h)
  have HTU : Hid (∀ W' : World, Below W.heap.size W W' → TrS W' (.slice ao1 ts.length (ts.length + 3)) ts) := fun W' h => (fsp.below h).choose_spec.2.1
  have HTX : Hid (∀ W' : World, Below W.heap.size W W' → TrS W' (.slice aox nx capx) (takeTs bs)) := fun W' h => ft6.below h
  have HTY : Hid (∀ W' : World, Below W.heap.size W W' → TrS W' (.slice aoy ny capy) (takeTs bs)) := fun W' h => ft7.below h
  have HSP : Hid (∀ W' : World, Below W.heap.size W W' → TSp W' (.slice ao1 ts.length (ts.length + 3)) ts (71, false)) := fun W' h => fsp.below h
  have HUU : Hid (∀ W' : World, Below W.heap.size W W' → Sl .u8 W' (.slice bo bs.length bcap) bs) := fun W' h => HU.out.below (bl_tr fw h)
  have HKK : Hid (∀ W' : World, Below W.heap.size W W' → Sp .u8 W' (.slice ao3 bs.length (bs.length + 3)) bs [71, 71, 71]) := fun W' h => fs3.below h
  have HP4 : Hid (∀ W' : World, Below W.heap.size W W' → Sl .u8 W' u4 pk) := fun W' h => fs4.below h
  have HP5 : Hid (∀ W' : World, Below W.heap.size W W' → Sl .u8 W' u5 pk) := fun W' h => fs5.below h
  obtain ⟨rr, hrr⟩ : ∃ rr : Int, (if rightT lim ts cyc dued minf minp start = true then 0 else 6) = rr := ⟨_, rfl⟩
  have HRR := Lib.hid hrr
  clear hrr
  have hS0 := hall W (Below.refl _ _)
  have hbc0 : Below W.heap.size W W := Below.refl _ _
  have HW := Lib.hid fw
  clear hall fA fB fX fY fw fsp fs3 ft6 ft7 fs4 fs5
  go_region_held3 (fun w' => (w'.cell? ⟨w.heap.size, 0, none⟩ = some (.int .i64 lim) ∧ w'.cell? ⟨w.heap.size, 1, none⟩ = some (.slice ao ts.length cap) ∧ w'.cell? ⟨w.heap.size, 2, none⟩ = some (.int .i64 cyc) ∧ w'.cell? ⟨w.heap.size, 3, none⟩ = some (.int .i64 dued) ∧ w'.cell? ⟨w.heap.size, 4, none⟩ = some (.int .i64 minf) ∧ w'.cell? ⟨w.heap.size, 5, none⟩ = some (.int .i64 minp) ∧ w'.cell? ⟨w.heap.size, 6, none⟩ = some (.int .i64 start)) ∧ (w'.cell? ⟨(w.heap.size + 1), 0, none⟩ = some (.int .i64 lim) ∧ w'.cell? ⟨(w.heap.size + 1), 1, none⟩ = some (.slice ao1 ts.length (ts.length + 3)) ∧ w'.cell? ⟨(w.heap.size + 1), 2, none⟩ = some (.int .i64 cyc) ∧ w'.cell? ⟨(w.heap.size + 1), 3, none⟩ = some (.int .i64 dued) ∧ w'.cell? ⟨(w.heap.size + 1), 4, none⟩ = some (.int .i64 minf) ∧ w'.cell? ⟨(w.heap.size + 1), 5, none⟩ = some (.int .i64 minp) ∧ w'.cell? ⟨(w.heap.size + 1), 6, none⟩ = some (.int .i64 start)) ∧ (w'.cell? ⟨GX, 0, none⟩ = some (.int .i64 x0) ∧ w'.cell? ⟨GX, 1, none⟩ = some (.slice aox nx capx) ∧ w'.cell? ⟨GX, 2, none⟩ = some (.int .i64 x1) ∧ w'.cell? ⟨GX, 3, none⟩ = some (.int .i64 x2) ∧ w'.cell? ⟨GX, 4, none⟩ = some (.int .i64 x3) ∧ w'.cell? ⟨GX, 5, none⟩ = some (.int .i64 x4) ∧ w'.cell? ⟨GX, 6, none⟩ = some (.int .i64 x5)) ∧ (w'.cell? ⟨GY, 0, none⟩ = some (.int .i64 x0) ∧ w'.cell? ⟨GY, 1, none⟩ = some (.slice aoy ny capy) ∧ w'.cell? ⟨GY, 2, none⟩ = some (.int .i64 x1) ∧ w'.cell? ⟨GY, 3, none⟩ = some (.int .i64 x2) ∧ w'.cell? ⟨GY, 4, none⟩ = some (.int .i64 x3) ∧ w'.cell? ⟨GY, 5, none⟩ = some (.int .i64 x4) ∧ w'.cell? ⟨GY, 6, none⟩ = some (.int .i64 x5))) (first | assumption | exact hS0)
    (first
      | (go_at_call 11; refine (awake6_any _).mono ?_; rintro e wN ⟨rfl, hbN⟩; have hbc : Below W.heap.size W wN := (by first | exact bl_tr (by assumption) hbN | exact bl_tr (bl_dr (by assumption)) hbN); have hSN := HALL.out wN hbc; clear hbN)
      | (go_at_call 12; refine (termsRight_any _ _ _ _ _ _ _ _ _ HRR _ (HTU.out _ (by assumption))).mono ?_; rintro e wN ⟨rfl, hbN⟩; have hbc : Below W.heap.size W wN := (by first | exact bl_tr (by assumption) hbN | exact bl_tr (bl_dr (by assumption)) hbN); have hSN := HALL.out wN hbc; clear hbN)
      | (go_at_call 28; refine (refRight_any _ _ _ _ _ _ _ _ _ HRR _ (HTT.out _ (by assumption))).mono ?_; rintro e wN ⟨rfl, hbN⟩; have hbc : Below W.heap.size W wN := (by first | exact bl_tr (by assumption) hbN | exact bl_tr (bl_dr (by assumption)) hbN); have hSN := HALL.out wN hbc; clear hbN)
      | (go_at_call 29; refine (bytes_true _ _ pk _ (HP4.out _ (by assumption)) (HP5.out _ (by assumption))).mono ?_; rintro e wN ⟨rfl, rfl⟩)
      | (go_at_call 30; refine (sameTerms_true _ _ (takeTs bs) _ _ _ _ _ _ _ (HTX.out _ (by assumption)) (HTY.out _ (by assumption))).mono ?_; rintro e wN ⟨rfl, hbN⟩; have hbc : Below W.heap.size W wN := (by first | exact bl_tr (by assumption) hbN | exact bl_tr (bl_dr (by assumption)) hbN); have hSN := HALL.out wN hbc; clear hbN)
      | (go_at_call 31; refine (keptT_true _ _ ts 71 false _ (HSP.out _ (by assumption)) (HTT.out _ (by assumption)) (by omega)).mono ?_; rintro e wN ⟨rfl, hbN⟩; have hbc : Below W.heap.size W wN := (by first | exact bl_tr (by assumption) hbN | exact bl_tr (bl_dr (by assumption)) hbN); have hSN := HALL.out wN hbc; clear hbN)
      | (go_at_call 22; refine (kept8_true _ _ bs 71 _ (HKK.out _ (by assumption)) (HUU.out _ (by assumption)) (by omega)).mono ?_; rintro e wN ⟨rfl, hbN⟩; have hbc : Below W.heap.size W wN := (by first | exact bl_tr (by assumption) hbN | exact bl_tr (bl_dr (by assumption)) hbN); have hSN := HALL.out wN hbc; clear hbN))
  all_goals
    have hbf : Below w.heap.size w wN := bl_tr HW.out (by assumption)
    clear hS0
    go_wp2_with fail
    go_ret
    exact ⟨rfl, hbf⟩

theorem termsPackLaw_any (v : Value) (ts : List (Int × Bool)) (lim cyc dued minf minp start : Int) (u : Value) (bs : List Int) (hb : Byts bs) (w : World) (hv : TrS w v ts) (hu : Sl .u8 w u bs) :
    Calls Try.prog 8 #[.agg #[.int .i64 lim, v, .int .i64 cyc, .int .i64 dued, .int .i64 minf, .int .i64 minp, .int .i64 start], u] w (RetB (.bool true) w) := by
  by_cases hlt : ts.length ≤ 40
  · by_cases hlb : bs.length ≤ 500
    · exact termsPack_go v ts lim cyc dued minf minp start u bs (Lib.hid hb) hlt hlb w hv hu
    · obtain ⟨ao, cap, rfl, h1, ⟨h2, _⟩, h3⟩ := hv
      obtain ⟨bo, bcap, rfl, h1', ⟨h2', _⟩, h3'⟩ := hu
      clear h3 h3'
      unfold maxLen at h2 h2'
      have d1 : decide ((40 : Int) < (ts.length : Int)) = false := by simp; omega
      have d2 : decide ((500 : Int) < (bs.length : Int)) = true := by simp; omega
      go_enter Try.func8, Try.ntmps8
      go_wp2_with fail
      refine (awake6_any _).mono ?_
      rintro e w1 ⟨rfl, hb1⟩
      go_wp2_with fail
      go_ret
      exact ⟨rfl, bl_tr (bl_al (Below.refl _ _) _) hb1⟩
  · obtain ⟨ao, cap, rfl, h1, ⟨h2, _⟩, h3⟩ := hv
    clear h3
    unfold maxLen at h2
    have d1 : decide ((40 : Int) < (ts.length : Int)) = true := by simp; omega
    go_enter Try.func8, Try.ntmps8
    go_wp2_with fail
    refine (awake6_any _).mono ?_
    rintro e w1 ⟨rfl, hb1⟩
    go_wp2_with fail
    go_ret
    exact ⟨rfl, bl_tr (bl_al (Below.refl _ _) _) hb1⟩
end Go.Proofs.Ytdjfpbjlmojikaa

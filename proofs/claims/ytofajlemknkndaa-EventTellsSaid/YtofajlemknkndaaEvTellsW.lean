/- EventTells: which events are right, their bytes, and which event any bytes are; what is handed in stays. -/
import Derived.Test.YtofajlemknkndaaEvBackW
import Derived.Test.YtofajlemknkndaaRefEvRight
import Derived.Test.YtofajlemknkndaaRefTake
import Derived.Test.YtofajlemknkndaaRefPack7
import Derived.Test.YtofajlemknkndaaOwn8
import Derived.Test.YtofajlemknkndaaKept8
namespace Go.Proofs.Ytofajlemknkndaa
open Go.RowKit
attribute [local go_sem ↓] Go.wp_at_zero Go.wp_at_succ
attribute [local go_sem] ev_guard arr_guard ev_eql

theorem takeV_form (xs : List Int) : ∃ k d t a r e : Int, takeV xs = .tuple #[.agg #[.int .i64 k, .int .i64 d, .int .i64 t, .int .i64 a, .int .i64 r], .int .i64 e] := by
  unfold takeV evV
  split
  · exact ⟨_, _, _, _, _, _, rfl⟩
  · split <;> exact ⟨_, _, _, _, _, _, rfl⟩

set_option maxRecDepth 100000 in
set_option maxHeartbeats 1600000 in
theorem evTells_go (v : Value) (ts : List (Int × Bool)) (lim cyc dued minf minp start k d t a r : Int) (u : Value) (bs : List Int) (hb : Hid (Byts bs)) (hlt : ts.length ≤ 40) (hlb : bs.length ≤ 200) (w : World) (hv : TrS w v ts) (hu : Sl .u8 w u bs) :
    Calls Try.prog 9 #[.agg #[.int .i64 lim, v, .int .i64 cyc, .int .i64 dued, .int .i64 minf, .int .i64 minp, .int .i64 start], .agg #[.int .i64 k, .int .i64 d, .int .i64 t, .int .i64 a, .int .i64 r], u] w (RetB (.bool true) w) := by
  have HV := Lib.hid hv
  have HU := Lib.hid hu
  obtain ⟨ao, cap, rfl, h1, ⟨h2, _⟩, h3⟩ := hv
  obtain ⟨bo, bcap, rfl, h1', ⟨h2', _⟩, h3'⟩ := hu
  clear h3 h3'
  unfold maxLen at h2 h2'
  have d1 : decide ((40 : Int) < (ts.length : Int)) = false := by simp; omega
  have d2 : decide ((200 : Int) < (bs.length : Int)) = false := by simp; omega
  have hw0 : Below w.heap.size w ((w.alloc (.cells #[.int .i64 lim, .slice ao ts.length cap, .int .i64 cyc, .int .i64 dued, .int .i64 minf, .int .i64 minp, .int .i64 start] 26)).alloc (.cells #[.int .i64 k, .int .i64 d, .int .i64 t, .int .i64 a, .int .i64 r] 49)) := (by repeat (first | with_reducible exact Below.refl _ _ | (with_reducible refine bl_sc ?_ ?hge; case hge => (first | exact Nat.le_refl _ | omega)) | with_reducible refine bl_al ?_ _ | with_reducible refine bl_dr ?_ | with_reducible refine bl_dN ?_ _ | (refine bl_tr ?_ (by assumption)) | (refine bl_gr ?_ (by assumption) (by first | exact Nat.le_refl _ | omega)) | exact Below.refl _ _ | refine bl_al ?_ _ | refine bl_dr ?_ | refine bl_dN ?_ _))
  obtain ⟨x0, x1, x2, x3, x4, xe, hx⟩ := takeV_form bs
  have HX := Lib.hid hx
  clear hx
  go_enter Try.func9, Try.ntmps9
  go_wp2_with fail
  refine (own8_any _ bs 71 _ (HU.out.below hw0) (by omega)).mono ?_
  rintro e w1 ⟨u1, rfl, hs1, hb1⟩
  have HS1 := Lib.hid hs1
  have hs1' := hs1.sl
  obtain ⟨ao1, rfl, _, _⟩ := hs1
  go_wp2_with fail
  refine (evTake_any _ bs hb _ hs1').mono ?_
  rintro e w2 ⟨rfl, hb2⟩
  rw [HX.out]
  have hw2 : Below w.heap.size w w2 := (by repeat (first | with_reducible exact Below.refl _ _ | (with_reducible refine bl_sc ?_ ?hge; case hge => (first | exact Nat.le_refl _ | omega)) | with_reducible refine bl_al ?_ _ | with_reducible refine bl_dr ?_ | with_reducible refine bl_dN ?_ _ | (refine bl_tr ?_ (by assumption)) | (refine bl_gr ?_ (by assumption) (by first | exact Nat.le_refl _ | omega)) | exact Below.refl _ _ | refine bl_al ?_ _ | refine bl_dr ?_ | refine bl_dN ?_ _))
  go_wp2_with fail
  refine (refEvTake_any _ bs hb _ (HU.out.below (by repeat (first | with_reducible exact Below.refl _ _ | (with_reducible refine bl_sc ?_ ?hge; case hge => (first | exact Nat.le_refl _ | omega)) | with_reducible refine bl_al ?_ _ | with_reducible refine bl_dr ?_ | with_reducible refine bl_dN ?_ _ | (refine bl_tr ?_ (by assumption)) | (refine bl_gr ?_ (by assumption) (by first | exact Nat.le_refl _ | omega)) | exact Below.refl _ _ | refine bl_al ?_ _ | refine bl_dr ?_ | refine bl_dN ?_ _))) (by omega)).mono ?_
  rintro e w3 ⟨rfl, hb3⟩
  rw [HX.out]
  go_wp2_with fail
  have hbx : Below ((w.alloc (.cells #[.int .i64 lim, .slice ao ts.length cap, .int .i64 cyc, .int .i64 dued, .int .i64 minf, .int .i64 minp, .int .i64 start] 26)).alloc (.cells #[.int .i64 k, .int .i64 d, .int .i64 t, .int .i64 a, .int .i64 r] 49)).heap.size ((w.alloc (.cells #[.int .i64 lim, .slice ao ts.length cap, .int .i64 cyc, .int .i64 dued, .int .i64 minf, .int .i64 minp, .int .i64 start] 26)).alloc (.cells #[.int .i64 k, .int .i64 d, .int .i64 t, .int .i64 a, .int .i64 r] 49)) (w3.alloc (.cells #[.int .i64 x0, .int .i64 x1, .int .i64 x2, .int .i64 x3, .int .i64 x4] 49)) := bl_al (bl_tr (bl_al (bl_tr hb1 hb2) _) hb3) _
  have hB0 : Blk (w3.alloc (.cells #[.int .i64 x0, .int .i64 x1, .int .i64 x2, .int .i64 x3, .int .i64 x4] 49)) w.heap.size 26 [.int .i64 lim, .slice ao ts.length cap, .int .i64 cyc, .int .i64 dued, .int .i64 minf, .int .i64 minp, .int .i64 start] := Blk.below (heap_alloc2_old _ _ _) hbx
  have hB1 : Blk (w3.alloc (.cells #[.int .i64 x0, .int .i64 x1, .int .i64 x2, .int .i64 x3, .int .i64 x4] 49)) (w.heap.size + 1) 49 [.int .i64 k, .int .i64 d, .int .i64 t, .int .i64 a, .int .i64 r] := Blk.below (heap_alloc2_new _ _ _) hbx
  have hBX : Blk (w3.alloc (.cells #[.int .i64 x0, .int .i64 x1, .int .i64 x2, .int .i64 x3, .int .i64 x4] 49)) w2.heap.size 49 [.int .i64 x0, .int .i64 x1, .int .i64 x2, .int .i64 x3, .int .i64 x4] := Blk.below (heap_alloc_new w2 _) (bl_al hb3 _)
  have hBY : Blk (w3.alloc (.cells #[.int .i64 x0, .int .i64 x1, .int .i64 x2, .int .i64 x3, .int .i64 x4] 49)) w3.heap.size 49 [.int .i64 x0, .int .i64 x1, .int .i64 x2, .int .i64 x3, .int .i64 x4] := heap_alloc_new w3 _
  have hbw : Below w.heap.size w (w3.alloc (.cells #[.int .i64 x0, .int .i64 x1, .int .i64 x2, .int .i64 x3, .int .i64 x4] 49)) := bl_tr hw0 hbx
  have hbw1 : Below w1.heap.size w1 (w3.alloc (.cells #[.int .i64 x0, .int .i64 x1, .int .i64 x2, .int .i64 x3, .int .i64 x4] 49)) := bl_al (bl_tr (bl_al hb2 _) hb3) _
  obtain ⟨W, hW, gw, gw1, g0, g1, gX, gY⟩ : ∃ W, (w3.alloc (.cells #[.int .i64 x0, .int .i64 x1, .int .i64 x2, .int .i64 x3, .int .i64 x4] 49)) = W ∧ Below w.heap.size w W ∧ Below w1.heap.size w1 W ∧ Blk W w.heap.size 26 [.int .i64 lim, .slice ao ts.length cap, .int .i64 cyc, .int .i64 dued, .int .i64 minf, .int .i64 minp, .int .i64 start] ∧ Blk W (w.heap.size + 1) 49 [.int .i64 k, .int .i64 d, .int .i64 t, .int .i64 a, .int .i64 r] ∧ Blk W w2.heap.size 49 [.int .i64 x0, .int .i64 x1, .int .i64 x2, .int .i64 x3, .int .i64 x4] ∧ Blk W w3.heap.size 49 [.int .i64 x0, .int .i64 x1, .int .i64 x2, .int .i64 x3, .int .i64 x4] := ⟨_, rfl, hbw, hbw1, hB0, hB1, hBX, hBY⟩
  with_reducible rw [hW]
  clear hW hbw hbw1 hB0 hB1 hBX hBY hbx hb1 hb2 hb3 hw2 hw0
  generalize w2.heap.size = GX at *
  generalize w3.heap.size = GY at *
  have hall : ∀ W' : World, Below W.heap.size W W' → (W'.cell? ⟨w.heap.size, 0, none⟩ = some (.int .i64 lim) ∧ W'.cell? ⟨w.heap.size, 1, none⟩ = some (.slice ao ts.length cap) ∧ W'.cell? ⟨w.heap.size, 2, none⟩ = some (.int .i64 cyc) ∧ W'.cell? ⟨w.heap.size, 3, none⟩ = some (.int .i64 dued) ∧ W'.cell? ⟨w.heap.size, 4, none⟩ = some (.int .i64 minf) ∧ W'.cell? ⟨w.heap.size, 5, none⟩ = some (.int .i64 minp) ∧ W'.cell? ⟨w.heap.size, 6, none⟩ = some (.int .i64 start)) ∧ (W'.cell? ⟨(w.heap.size + 1), 0, none⟩ = some (.int .i64 k) ∧ W'.cell? ⟨(w.heap.size + 1), 1, none⟩ = some (.int .i64 d) ∧ W'.cell? ⟨(w.heap.size + 1), 2, none⟩ = some (.int .i64 t) ∧ W'.cell? ⟨(w.heap.size + 1), 3, none⟩ = some (.int .i64 a) ∧ W'.cell? ⟨(w.heap.size + 1), 4, none⟩ = some (.int .i64 r)) ∧ (W'.cell? ⟨GX, 0, none⟩ = some (.int .i64 x0) ∧ W'.cell? ⟨GX, 1, none⟩ = some (.int .i64 x1) ∧ W'.cell? ⟨GX, 2, none⟩ = some (.int .i64 x2) ∧ W'.cell? ⟨GX, 3, none⟩ = some (.int .i64 x3) ∧ W'.cell? ⟨GX, 4, none⟩ = some (.int .i64 x4)) ∧ (W'.cell? ⟨GY, 0, none⟩ = some (.int .i64 x0) ∧ W'.cell? ⟨GY, 1, none⟩ = some (.int .i64 x1) ∧ W'.cell? ⟨GY, 2, none⟩ = some (.int .i64 x2) ∧ W'.cell? ⟨GY, 3, none⟩ = some (.int .i64 x3) ∧ W'.cell? ⟨GY, 4, none⟩ = some (.int .i64 x4)) := fun W' h => by
    have q0 := g0.below h
    have q1 := g1.below h
    have qX := gX.below h
    have qY := gY.below h
    exact ⟨⟨q0.cell 0, q0.cell 1, q0.cell 2, q0.cell 3, q0.cell 4, q0.cell 5, q0.cell 6⟩, ⟨q1.cell 0, q1.cell 1, q1.cell 2, q1.cell 3, q1.cell 4⟩, ⟨qX.cell 0, qX.cell 1, qX.cell 2, qX.cell 3, qX.cell 4⟩, ⟨qY.cell 0, qY.cell 1, qY.cell 2, qY.cell 3, qY.cell 4⟩⟩
  have HALL := Lib.hid hall
  have HTT : Hid (∀ W' : World, Below W.heap.size W W' → TrS W' (.slice ao ts.length cap) ts) := fun W' h => HV.out.below (bl_tr gw h)
  have HUU : Hid (∀ W' : World, Below W.heap.size W W' → Sl .u8 W' (.slice bo bs.length bcap) bs) := fun W' h => HU.out.below (bl_tr gw h)
  have HKK : Hid (∀ W' : World, Below W.heap.size W W' → Sp .u8 W' (.slice ao1 bs.length (bs.length + 3)) bs [71, 71, 71]) := fun W' h => HS1.out.below (bl_tr gw1 h)
  have hS0 := hall W (Below.refl _ _)
  have hbc0 : Below W.heap.size W W := Below.refl _ _
  have HW := Lib.hid gw
  clear hall g0 g1 gX gY gw gw1 hs1'
  have heq : ∀ W' : World, (binOp .eql 54 (arrV (packE k d t a r)) (arrV (packE k d t a r))).run Try.prog W' = .ok (.bool true) W' := fun W' => arr_eql _ (packE_length _ _ _ _ _) W'
  have hgd : ∀ (op : BinOp) (x y : Operand) (W' : World), (eqGuard op 54 x y (arrV (packE k d t a r)) (arrV (packE k d t a r))).run Try.prog W' = .ok () W' := fun op x y W' => arr_guard op x y _ _ W'
  go_region_held3 (fun w' => (w'.cell? ⟨w.heap.size, 0, none⟩ = some (.int .i64 lim) ∧ w'.cell? ⟨w.heap.size, 1, none⟩ = some (.slice ao ts.length cap) ∧ w'.cell? ⟨w.heap.size, 2, none⟩ = some (.int .i64 cyc) ∧ w'.cell? ⟨w.heap.size, 3, none⟩ = some (.int .i64 dued) ∧ w'.cell? ⟨w.heap.size, 4, none⟩ = some (.int .i64 minf) ∧ w'.cell? ⟨w.heap.size, 5, none⟩ = some (.int .i64 minp) ∧ w'.cell? ⟨w.heap.size, 6, none⟩ = some (.int .i64 start)) ∧ (w'.cell? ⟨(w.heap.size + 1), 0, none⟩ = some (.int .i64 k) ∧ w'.cell? ⟨(w.heap.size + 1), 1, none⟩ = some (.int .i64 d) ∧ w'.cell? ⟨(w.heap.size + 1), 2, none⟩ = some (.int .i64 t) ∧ w'.cell? ⟨(w.heap.size + 1), 3, none⟩ = some (.int .i64 a) ∧ w'.cell? ⟨(w.heap.size + 1), 4, none⟩ = some (.int .i64 r)) ∧ (w'.cell? ⟨GX, 0, none⟩ = some (.int .i64 x0) ∧ w'.cell? ⟨GX, 1, none⟩ = some (.int .i64 x1) ∧ w'.cell? ⟨GX, 2, none⟩ = some (.int .i64 x2) ∧ w'.cell? ⟨GX, 3, none⟩ = some (.int .i64 x3) ∧ w'.cell? ⟨GX, 4, none⟩ = some (.int .i64 x4)) ∧ (w'.cell? ⟨GY, 0, none⟩ = some (.int .i64 x0) ∧ w'.cell? ⟨GY, 1, none⟩ = some (.int .i64 x1) ∧ w'.cell? ⟨GY, 2, none⟩ = some (.int .i64 x2) ∧ w'.cell? ⟨GY, 3, none⟩ = some (.int .i64 x3) ∧ w'.cell? ⟨GY, 4, none⟩ = some (.int .i64 x4))) (first | assumption | exact hS0)
    (first
      | (go_at_call 26; refine (awake7_any _).mono ?_; rintro e wN ⟨rfl, hbN⟩; have hbc : Below W.heap.size W wN := (by first | exact bl_tr (by assumption) hbN | exact bl_tr (bl_dr (by assumption)) hbN); have hSN := HALL.out wN hbc; clear hbN)
      | (go_at_call 25; refine (terms7_any _).mono ?_; rintro e wN ⟨vt, rfl, htt, hbN⟩; have hbc : Below W.heap.size W wN := (by first | exact bl_tr (by assumption) hbN | exact bl_tr (bl_dr (by assumption)) hbN); have hSN := HALL.out wN hbc; clear hbN)
      | (go_at_call 24; refine (evRight_any _ _ _ _ _ _ _ _ _ _ _ _ _ _ (Lib.hid rfl) _ (by first | assumption | exact HTT.out _ (by assumption))).mono ?_; rintro e wN ⟨rfl, hbN⟩; have hbc : Below W.heap.size W wN := (by first | exact bl_tr (by assumption) hbN | exact bl_tr (bl_dr (by assumption)) hbN); have hSN := HALL.out wN hbc; clear hbN)
      | (go_at_call 29; refine (refEvRight_any _ _ _ _ _ _ _ _ _ _ _ _ _ _ (Lib.hid rfl) _ (by first | assumption | exact HTT.out _ (by assumption))).mono ?_; rintro e wN ⟨rfl, hbN⟩; have hbc : Below W.heap.size W wN := (by first | exact bl_tr (by assumption) hbN | exact bl_tr (bl_dr (by assumption)) hbN); have hSN := HALL.out wN hbc; clear hbN)
      | (go_at_call 30; refine (evPack_any _ _ _ _ _ _).mono ?_; rintro e wN ⟨rfl, hbN⟩; have hbc : Below W.heap.size W wN := (by first | exact bl_tr (by assumption) hbN | exact bl_tr (bl_dr (by assumption)) hbN); have hSN := HALL.out wN hbc; clear hbN)
      | (go_at_call 31; refine (refPack7_any _ _ _ _ _ _).mono ?_; rintro e wN ⟨rfl, hbN⟩; have hbc : Below W.heap.size W wN := (by first | exact bl_tr (by assumption) hbN | exact bl_tr (bl_dr (by assumption)) hbN); have hSN := HALL.out wN hbc; clear hbN)
      | (go_at_call 23; refine (kept8_true _ _ bs 71 _ (HKK.out _ (by assumption)) (HUU.out _ (by assumption)) (by omega)).mono ?_; rintro e wN ⟨rfl, hbN⟩; have hbc : Below W.heap.size W wN := (by first | exact bl_tr (by assumption) hbN | exact bl_tr (bl_dr (by assumption)) hbN); have hSN := HALL.out wN hbc; clear hbN))
  all_goals
    have hbf : Below w.heap.size w wN := bl_tr HW.out (by assumption)
    clear hS0
    go_wp2_with fail
    go_ret
    exact ⟨rfl, hbf⟩

theorem evTells_any (v : Value) (ts : List (Int × Bool)) (lim cyc dued minf minp start k d t a r : Int) (u : Value) (bs : List Int) (hb : Byts bs) (w : World) (hv : TrS w v ts) (hu : Sl .u8 w u bs) :
    Calls Try.prog 9 #[.agg #[.int .i64 lim, v, .int .i64 cyc, .int .i64 dued, .int .i64 minf, .int .i64 minp, .int .i64 start], .agg #[.int .i64 k, .int .i64 d, .int .i64 t, .int .i64 a, .int .i64 r], u] w (RetB (.bool true) w) := by
  by_cases hlt : ts.length ≤ 40
  · by_cases hlb : bs.length ≤ 200
    · exact evTells_go v ts lim cyc dued minf minp start k d t a r u bs (Lib.hid hb) hlt hlb w hv hu
    · obtain ⟨ao, cap, rfl, h1, ⟨h2, _⟩, h3⟩ := hv
      obtain ⟨bo, bcap, rfl, h1', ⟨h2', _⟩, h3'⟩ := hu
      clear h3 h3'
      unfold maxLen at h2 h2'
      have d1 : decide ((40 : Int) < (ts.length : Int)) = false := by simp; omega
      have d2 : decide ((200 : Int) < (bs.length : Int)) = true := by simp; omega
      go_enter Try.func9, Try.ntmps9
      go_wp2_with fail
      refine (awake7_any _).mono ?_
      rintro e w1 ⟨rfl, hb1⟩
      go_wp2_with fail
      go_ret
      exact ⟨rfl, bl_tr (bl_al (bl_al (Below.refl _ _) _) _) hb1⟩
  · obtain ⟨ao, cap, rfl, h1, ⟨h2, _⟩, h3⟩ := hv
    clear h3
    unfold maxLen at h2
    have d1 : decide ((40 : Int) < (ts.length : Int)) = true := by simp; omega
    go_enter Try.func9, Try.ntmps9
    go_wp2_with fail
    refine (awake7_any _).mono ?_
    rintro e w1 ⟨rfl, hb1⟩
    go_wp2_with fail
    go_ret
    exact ⟨rfl, bl_tr (bl_al (bl_al (Below.refl _ _) _) _) hb1⟩
end Go.Proofs.Ytofajlemknkndaa

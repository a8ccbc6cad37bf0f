/- EventBack: what is packed is taken, whatever it is; what is taken, packed again, is the same bytes. -/
import Derived.Test.YtofajlemknkndaaEvEq
import Derived.Test.YtofajlemknkndaaLaw07
import Derived.Test.YtofajlemknkndaaOpen
import Derived.Deep.RegionHeld3
import Derived.Deep.WholeRow
import Derived.Deep.DrawnRows
namespace Go.Proofs.Ytofajlemknkndaa
open Go.RowKit
attribute [local go_sem ↓] Go.wp_at_zero Go.wp_at_succ
attribute [local go_sem] ev_guard arr_guard ev_eql


theorem takeV_packE {k d t a r : Int} (h1 : InI64 k) (h2 : InI64 d) (h3 : InI64 t) (h4 : InI64 a) (h5 : InI64 r) : takeV (packE k d t a r) = .tuple #[evV k d t a r, .int .i64 0] := by
  have e0 : packE k d t a r = be8 k ++ (be8 d ++ (be8 t ++ (be8 a ++ (be8 r ++ [])))) := by simp [packE]
  have hd : ∀ (v : Int) (l : List Int) (n : Nat), (be8 v ++ l).drop (8 + n) = l.drop n := fun v l n => by
    rw [List.drop_append, be8_length, List.drop_eq_nil_of_le (by rw [be8_length]; omega)]
    simp
  have hd8 : ∀ (v : Int) (l : List Int), (be8 v ++ l).drop 8 = l := fun v l => by simpa using hd v l 0
  unfold takeV
  rw [if_neg (by rw [packE_length]; omega), if_neg (by rw [packE_length]; omega), e0]
  rw [show (16 : Nat) = 8 + 8 from rfl, show (24 : Nat) = 8 + (8 + 8) from rfl, show (32 : Nat) = 8 + (8 + (8 + 8)) from rfl]
  simp only [hd, hd8]
  rw [num8_be8 h1.1 h1.2, num8_be8 h2.1 h2.2, num8_be8 h3.1 h3.2, num8_be8 h4.1 h4.2, num8_be8 h5.1 h5.2]
theorem split8 (l : List Int) (n : Nat) (h : n + 8 ≤ l.length) (hb : Byts l) : be8 (num8 (l.drop n)) ++ l.drop (n + 8) = l.drop n := by
  have e : num8 (l.drop n) = num8 ((l.drop n).take 8) := by simp [num8, List.take_take]
  rw [e, be8_num8 ((hb.drop n).take 8) (by rw [List.length_take, List.length_drop]; omega)]
  rw [← List.drop_drop, List.take_append_drop]
theorem packE_num8 {l : List Int} (hb : Byts l) (hl : l.length = 40) : packE (num8 l) (num8 (l.drop 8)) (num8 (l.drop 16)) (num8 (l.drop 24)) (num8 (l.drop 32)) = l := by
  have s0 := split8 l 0 (by omega) hb
  have s1 := split8 l 8 (by omega) hb
  have s2 := split8 l 16 (by omega) hb
  have s3 := split8 l 24 (by omega) hb
  have s4 := split8 l 32 (by omega) hb
  have s5 : l.drop (32 + 8) = [] := List.drop_eq_nil_of_le (by omega)
  simp only [List.drop_zero, Nat.zero_add, Nat.reduceAdd] at s0 s1 s2 s3 s4 s5
  rw [s5] at s4
  unfold packE
  simp only [List.flatMap_cons, List.flatMap_nil]
  rw [s4, s3, s2, s1, s0]

set_option maxRecDepth 100000 in
set_option maxHeartbeats 800000 in
theorem evBack_any (k d t a r : Int) (h1 : InI64 k) (h2 : InI64 d) (h3 : InI64 t) (h4 : InI64 a) (h5 : InI64 r) (l : List Int) (hb : Byts l) (hl : l.length = 40) (w : World) :
    Calls Try.prog 10 #[.agg #[.int .i64 k, .int .i64 d, .int .i64 t, .int .i64 a, .int .i64 r], arrV l] w (RetB (.bool true) w) := by
  have HT1 := Lib.hid (takeV_packE h1 h2 h3 h4 h5)
  have HT2 := Lib.hid (packE_num8 hb hl)
  have HB := Lib.hid hb
  have HL := Lib.hid hl
  clear h1 h2 h3 h4 h5 hb hl
  obtain ⟨A, hA⟩ : ∃ A, (l.map (Value.int .u8)).toArray = A := ⟨_, rfl⟩
  have HA := Lib.hid hA
  have e0 : arrV l = .agg A := by rw [← hA]; rfl
  rw [e0]
  clear e0 hA
  go_enter Try.func10, Try.ntmps10
  go_wp2_with fail
  refine (evPack_any k d t a r _).mono ?_
  rintro e w1 ⟨rfl, hb1⟩
  obtain ⟨A2, hA2⟩ : ∃ A2, ((packE k d t a r).map (Value.int .u8)).toArray = A2 := ⟨_, rfl⟩
  have HA2 := Lib.hid hA2
  have e1 : arrV (packE k d t a r) = .agg A2 := by rw [← hA2]; rfl
  have HAS : Hid (A2.size = 40) := by rw [← hA2]; rfl
  have HA1 : Hid (A2.all (·.oneCell') = true) := by rw [← hA2]; exact all_oneCell_toArray (ints_oneCell _ _)
  rw [e1]
  clear e1 hA2
  have hbw1 : Below w.heap.size w w1 := (by repeat (first | with_reducible exact Below.refl _ _ | (with_reducible refine bl_sc ?_ ?hge; case hge => (first | exact Nat.le_refl _ | omega)) | with_reducible refine bl_al ?_ _ | with_reducible refine bl_dr ?_ | with_reducible refine bl_dN ?_ _ | (refine bl_tr ?_ (by assumption)) | (refine bl_gr ?_ (by assumption) (by first | exact Nat.le_refl _ | omega)) | exact Below.refl _ _ | refine bl_al ?_ _ | refine bl_dr ?_ | refine bl_dN ?_ _))
  have hst : ∀ c : Array Value, c.size = 40 → (storeCells ⟨w1.heap.size, 0, none⟩ A2.toList).run Try.prog (w1.alloc (.cells c 54)) = .ok () (w1.alloc (.cells A2 54)) := fun c hc =>
    run_storeCells_new (P := Try.prog) w1 54 c A2 (by rw [info_arr, HAS.out]) (by rw [hc, HAS.out]) HA1.out
  have hAS := HAS.out
  unfold Hid at hAS
  go_wp2_with fail
  clear hst hAS
  have hB5 : Blk (w1.alloc (.cells A2 54)) w1.heap.size 54 ((packE k d t a r).map (Value.int .u8)) := by
    rw [← HA2.out]; exact heap_alloc_new _ _
  refine (evTake_any _ (packE k d t a r) (Lib.hid ?_) _ (Sl.of_blk hB5 (packE_length _ _ _ _ _) (Nat.le_refl 40) (by decide) (List.take_of_length_le (by rw [List.length_map]; exact Nat.le_refl _)))).mono ?_
  · intro x hx
    simp only [packE, List.mem_flatMap] at hx
    obtain ⟨v, _, hx⟩ := hx
    exact Byts.be8 v x hx
  rintro e w2 ⟨rfl, hb2⟩
  rw [HT1.out, evV]
  have hbw2 : Below w.heap.size w w2 := (by repeat (first | with_reducible exact Below.refl _ _ | (with_reducible refine bl_sc ?_ ?hge; case hge => (first | exact Nat.le_refl _ | omega)) | with_reducible refine bl_al ?_ _ | with_reducible refine bl_dr ?_ | with_reducible refine bl_dN ?_ _ | (refine bl_tr ?_ (by assumption)) | (refine bl_gr ?_ (by assumption) (by first | exact Nat.le_refl _ | omega)) | exact Below.refl _ _ | refine bl_al ?_ _ | refine bl_dr ?_ | refine bl_dN ?_ _))
  go_wp2_with fail
  have hB3 : Blk ((w.alloc (.cells #[.int .i64 k, .int .i64 d, .int .i64 t, .int .i64 a, .int .i64 r] 49)).alloc (.cells A 54)) (w.heap.size + 1) 54 (l.map (Value.int .u8)) := by
    rw [← HA.out]; exact heap_alloc2_new _ _ _
  have hB0 : Blk ((w.alloc (.cells #[.int .i64 k, .int .i64 d, .int .i64 t, .int .i64 a, .int .i64 r] 49)).alloc (.cells A 54)) w.heap.size 49 [.int .i64 k, .int .i64 d, .int .i64 t, .int .i64 a, .int .i64 r] := heap_alloc2_old _ _ _
  have hB6 : Blk (w2.alloc (.cells #[.int .i64 k, .int .i64 d, .int .i64 t, .int .i64 a, .int .i64 r] 49)) w2.heap.size 49 [.int .i64 k, .int .i64 d, .int .i64 t, .int .i64 a, .int .i64 r] := heap_alloc_new _ _
  have hbx1 : Below ((w.alloc (.cells #[.int .i64 k, .int .i64 d, .int .i64 t, .int .i64 a, .int .i64 r] 49)).alloc (.cells A 54)).heap.size ((w.alloc (.cells #[.int .i64 k, .int .i64 d, .int .i64 t, .int .i64 a, .int .i64 r] 49)).alloc (.cells A 54)) (w2.alloc (.cells #[.int .i64 k, .int .i64 d, .int .i64 t, .int .i64 a, .int .i64 r] 49)) := bl_al (bl_tr (bl_al hb1 _) hb2) _
  have hB3' := hB3.below hbx1
  have hB0' := hB0.below hbx1
  obtain ⟨y0, hy0⟩ : ∃ y, num8 l = y := ⟨_, rfl⟩
  obtain ⟨y1, hy1⟩ : ∃ y, num8 (l.drop 8) = y := ⟨_, rfl⟩
  obtain ⟨y2, hy2⟩ : ∃ y, num8 (l.drop 16) = y := ⟨_, rfl⟩
  obtain ⟨y3, hy3⟩ : ∃ y, num8 (l.drop 24) = y := ⟨_, rfl⟩
  obtain ⟨y4, hy4⟩ : ∃ y, num8 (l.drop 32) = y := ⟨_, rfl⟩
  have HT3 : Hid (takeV l = .tuple #[.agg #[.int .i64 y0, .int .i64 y1, .int .i64 y2, .int .i64 y3, .int .i64 y4], .int .i64 0]) := by
    show _ = _
    rw [takeV, if_neg (by rw [HL.out]; omega), if_neg (by rw [HL.out]; omega), hy0, hy1, hy2, hy3, hy4, evV]
  have HT4 : Hid (packE y0 y1 y2 y3 y4 = l) := by
    have := HT2.out
    rw [hy0, hy1, hy2, hy3, hy4] at this
    exact this
  clear HT2 hy0 hy1 hy2 hy3 hy4
  refine (evTake_any _ l HB _ (Sl.of_blk hB3' HL.out (Nat.le_refl 40) (by decide) (List.take_of_length_le (by rw [List.length_map, HL.out]; exact Nat.le_refl _)))).mono ?_
  rintro e w3 ⟨rfl, hb3⟩
  rw [HT3.out]
  go_wp2_with fail
  have hB8 : Blk (w3.alloc (.cells #[.int .i64 y0, .int .i64 y1, .int .i64 y2, .int .i64 y3, .int .i64 y4] 49)) w3.heap.size 49 [.int .i64 y0, .int .i64 y1, .int .i64 y2, .int .i64 y3, .int .i64 y4] := heap_alloc_new _ _
  have hb4 := bl_al hb3 (.cells #[.int .i64 y0, .int .i64 y1, .int .i64 y2, .int .i64 y3, .int .i64 y4] 49)
  have hB3f := hB3'.below hb4
  have hB0f := hB0'.below hb4
  have hB6f := hB6.below hb4
  have hbw4 : Below w.heap.size w (w3.alloc (.cells #[.int .i64 y0, .int .i64 y1, .int .i64 y2, .int .i64 y3, .int .i64 y4] 49)) := (by repeat (first | with_reducible exact Below.refl _ _ | (with_reducible refine bl_sc ?_ ?hge; case hge => (first | exact Nat.le_refl _ | omega)) | with_reducible refine bl_al ?_ _ | with_reducible refine bl_dr ?_ | with_reducible refine bl_dN ?_ _ | (refine bl_tr ?_ (by assumption)) | (refine bl_gr ?_ (by assumption) (by first | exact Nat.le_refl _ | omega)) | exact Below.refl _ _ | refine bl_al ?_ _ | refine bl_dr ?_ | refine bl_dN ?_ _))
  clear hb1 hb2 hb3 hb4 hbx1 hB0 hB3 hB0' hB3' hB5 hB6 hbw1 hbw2 HT1 HT3 HA2 HAS HA1
  generalize (w3.alloc (.cells #[.int .i64 y0, .int .i64 y1, .int .i64 y2, .int .i64 y3, .int .i64 y4] 49)) = W at *
  generalize w3.heap.size = G8 at *
  generalize w2.heap.size = G6 at *
  have hrg : ∀ W' : World, Blk W' (w.heap.size + 1) 54 (l.map (Value.int .u8)) → W'.rangeAt (w.heap.size + 1) 0 (l.map (Value.int .u8)) := fun W' h j v hv => by rw [h.cell, Nat.zero_add]; exact hv
  have HRG := Lib.hid hrg
  clear hrg
  have hall : ∀ W' : World, Below W.heap.size W W' → (W'.cell? ⟨w.heap.size, 0, none⟩ = some (.int .i64 k) ∧ W'.cell? ⟨w.heap.size, 1, none⟩ = some (.int .i64 d) ∧ W'.cell? ⟨w.heap.size, 2, none⟩ = some (.int .i64 t) ∧ W'.cell? ⟨w.heap.size, 3, none⟩ = some (.int .i64 a) ∧ W'.cell? ⟨w.heap.size, 4, none⟩ = some (.int .i64 r)) ∧ (W'.cell? ⟨G6, 0, none⟩ = some (.int .i64 k) ∧ W'.cell? ⟨G6, 1, none⟩ = some (.int .i64 d) ∧ W'.cell? ⟨G6, 2, none⟩ = some (.int .i64 t) ∧ W'.cell? ⟨G6, 3, none⟩ = some (.int .i64 a) ∧ W'.cell? ⟨G6, 4, none⟩ = some (.int .i64 r)) ∧ (W'.cell? ⟨G8, 0, none⟩ = some (.int .i64 y0) ∧ W'.cell? ⟨G8, 1, none⟩ = some (.int .i64 y1) ∧ W'.cell? ⟨G8, 2, none⟩ = some (.int .i64 y2) ∧ W'.cell? ⟨G8, 3, none⟩ = some (.int .i64 y3) ∧ W'.cell? ⟨G8, 4, none⟩ = some (.int .i64 y4)) ∧ W'.rangeAt (w.heap.size + 1) 0 (l.map (Value.int .u8)) := fun W' h => by
    have q0 := hB0f.below h
    have q6 := hB6f.below h
    have q8 := hB8.below h
    have q3 := hB3f.below h
    exact ⟨⟨q0.cell 0, q0.cell 1, q0.cell 2, q0.cell 3, q0.cell 4⟩, ⟨q6.cell 0, q6.cell 1, q6.cell 2, q6.cell 3, q6.cell 4⟩, ⟨q8.cell 0, q8.cell 1, q8.cell 2, q8.cell 3, q8.cell 4⟩, HRG.out _ q3⟩
  have HALL := Lib.hid hall
  have hS0 := hall W (Below.refl _ _)
  clear hall hB0f hB3f hB6f hB8
  have HW := Lib.hid hbw4
  clear hbw4
  have hu54 := Try.underlying54
  have hi54 : (Try.prog.info? 54).map (·.size) = some (l.map (Value.int .u8)).length := by rw [info_arr, List.length_map, HL.out]
  have heq : ∀ W' : World, (binOp .eql 54 (.agg (l.map (Value.int .u8)).toArray) (.agg (l.map (Value.int .u8)).toArray)).run Try.prog W' = .ok (.bool true) W' := fun W' => arr_eql l HL.out W'
  go_region_held3 (fun w' => (w'.cell? ⟨w.heap.size, 0, none⟩ = some (.int .i64 k) ∧ w'.cell? ⟨w.heap.size, 1, none⟩ = some (.int .i64 d) ∧ w'.cell? ⟨w.heap.size, 2, none⟩ = some (.int .i64 t) ∧ w'.cell? ⟨w.heap.size, 3, none⟩ = some (.int .i64 a) ∧ w'.cell? ⟨w.heap.size, 4, none⟩ = some (.int .i64 r)) ∧ (w'.cell? ⟨G6, 0, none⟩ = some (.int .i64 k) ∧ w'.cell? ⟨G6, 1, none⟩ = some (.int .i64 d) ∧ w'.cell? ⟨G6, 2, none⟩ = some (.int .i64 t) ∧ w'.cell? ⟨G6, 3, none⟩ = some (.int .i64 a) ∧ w'.cell? ⟨G6, 4, none⟩ = some (.int .i64 r)) ∧ (w'.cell? ⟨G8, 0, none⟩ = some (.int .i64 y0) ∧ w'.cell? ⟨G8, 1, none⟩ = some (.int .i64 y1) ∧ w'.cell? ⟨G8, 2, none⟩ = some (.int .i64 y2) ∧ w'.cell? ⟨G8, 3, none⟩ = some (.int .i64 y3) ∧ w'.cell? ⟨G8, 4, none⟩ = some (.int .i64 y4)) ∧ w'.rangeAt (w.heap.size + 1) 0 (l.map (Value.int .u8))) (first | assumption | exact hS0)
    (first
      | (go_at_call 26; refine (awake7_any _).mono ?_; rintro e w5 ⟨rfl, hb5⟩; have hb5' : Below W.heap.size W w5 := (by first | exact hb5 | exact bl_tr (bl_dr (Below.refl _ _)) hb5); have hS5 := HALL.out w5 hb5')
      | (go_at_call 30; refine (evPack_any y0 y1 y2 y3 y4 _).mono ?_; rintro e w6 ⟨rfl, hb6⟩; rw [HT4.out, arrV]; have hb6' : Below W.heap.size W w6 := (by first | exact bl_tr hb5' hb6 | exact bl_tr (bl_dr hb5') hb6); have hS6 := HALL.out w6 hb6'))
  all_goals
    have hbw6 : Below w.heap.size w w6 := bl_tr HW.out hb6'
    clear hS5 hS6 hS0
    go_wp2_with fail
    go_ret
    exact ⟨rfl, hbw6⟩
end Go.Proofs.Ytofajlemknkndaa

/- event.Take, lombardhelp.Take and lombardref07.Take: the event that bytes are. -/
import Derived.Test.YtdjfpbjlmojikaaReader
namespace Go.Proofs.Ytdjfpbjlmojikaa
open Go.RowKit

theorem numV_of {xs : List Int} (h : 8 ≤ xs.length) : numV xs = num8 xs := by simp [numV, show ¬ xs.length < 8 by omega]
theorem numL_of {xs : List Int} (h : 8 ≤ xs.length) : numL xs = xs.drop 8 := by simp [numL, show ¬ xs.length < 8 by omega]
/-- an event, five numbers -/
def evV (k d t a r : Int) : Value := .agg #[.int .i64 k, .int .i64 d, .int .i64 t, .int .i64 a, .int .i64 r]
/-- what Take answers -/
def takeV (xs : List Int) : Value :=
  if xs.length < 40 then .tuple #[evV 0 0 0 0 0, .int .i64 3] else if 40 < xs.length then .tuple #[evV 0 0 0 0 0, .int .i64 4]
  else .tuple #[evV (num8 xs) (num8 (xs.drop 8)) (num8 (xs.drop 16)) (num8 (xs.drop 24)) (num8 (xs.drop 32)), .int .i64 0]

set_option maxHeartbeats 800000 in
theorem evTake_any (v : Value) (xs : List Int) (hby : Hid (Byts xs)) (w : World) (hv : Sl .u8 w v xs) : Calls Try.prog 17 #[v] w (RetB (takeV xs) w) := by
  have HV := Lib.hid hv
  obtain ⟨ao, cap, rfl, h1, ⟨h2, _⟩, h3⟩ := hv
  clear h3
  unfold maxLen at h2
  by_cases hs : xs.length < 40
  · have e1 : takeV xs = .tuple #[evV 0 0 0 0 0, .int .i64 3] := by simp [takeV, hs]
    rw [e1]
    have d1 : decide ((xs.length : Int) < 40) = true := by simp; omega
    clear hs e1
    go_enter Try.func17, Try.ntmps17
    go_wp2_with fail
    refine (new_any _ xs _ (HV.out.alloc _)).mono ?_
    rintro e w1 ⟨rfl, hR1, hb1⟩
    obtain ⟨hc, hf⟩ := bcell hb1
    have hz1 := hb1.size
    simp only [World.size_alloc] at hz1
    go_wp2
    refine bodyPost_ret (v := .tuple #[evV 0 0 0 0 0, .int .i64 3]) (by simp [results, Try.results17, go_sem, hc, evV]) rfl ⟨rfl, (by repeat (first | with_reducible exact Below.refl _ _ | (with_reducible refine bl_sc ?_ ?hge; case hge => (first | exact Nat.le_refl _ | omega)) | with_reducible refine bl_al ?_ _ | with_reducible refine bl_dr ?_ | with_reducible refine bl_dN ?_ _ | (refine bl_tr ?_ (by assumption)) | (refine bl_gr ?_ (by assumption) (by first | exact Nat.le_refl _ | omega)) | exact Below.refl _ _ | refine bl_al ?_ _ | refine bl_dr ?_ | refine bl_dN ?_ _))⟩
  · have d1 : decide ((xs.length : Int) < 40) = false := by simp; omega
    by_cases hs2 : 40 < xs.length
    · have e1 : takeV xs = .tuple #[evV 0 0 0 0 0, .int .i64 4] := by simp [takeV, hs, hs2]
      rw [e1]
      have d2 : decide ((40 : Int) < (xs.length : Int)) = true := by simp; omega
      clear hs hs2 e1
      go_enter Try.func17, Try.ntmps17
      go_wp2_with fail
      refine (new_any _ xs _ (HV.out.alloc _)).mono ?_
      rintro e w1 ⟨rfl, hR1, hb1⟩
      obtain ⟨hc, hf⟩ := bcell hb1
      have hz1 := hb1.size
      simp only [World.size_alloc] at hz1
      go_wp2
      refine bodyPost_ret (v := .tuple #[evV 0 0 0 0 0, .int .i64 4]) (by simp [results, Try.results17, go_sem, hc, evV]) rfl ⟨rfl, (by repeat (first | with_reducible exact Below.refl _ _ | (with_reducible refine bl_sc ?_ ?hge; case hge => (first | exact Nat.le_refl _ | omega)) | with_reducible refine bl_al ?_ _ | with_reducible refine bl_dr ?_ | with_reducible refine bl_dN ?_ _ | (refine bl_tr ?_ (by assumption)) | (refine bl_gr ?_ (by assumption) (by first | exact Nat.le_refl _ | omega)) | exact Below.refl _ _ | refine bl_al ?_ _ | refine bl_dr ?_ | refine bl_dN ?_ _))⟩
    · have hlen : xs.length = 40 := by omega
      have e1 : takeV xs = .tuple #[evV (numV xs) (numV (numL xs)) (numV (numL (numL xs))) (numV (numL (numL (numL xs)))) (numV (numL (numL (numL (numL xs))))), .int .i64 0] := by
        have l1 : numL xs = xs.drop 8 := numL_of (by omega)
        have l2 : numL (numL xs) = xs.drop 16 := by rw [l1, numL_of (by simp; omega), List.drop_drop]
        have l3 : numL (numL (numL xs)) = xs.drop 24 := by rw [l2, numL_of (by simp; omega), List.drop_drop]
        have l4 : numL (numL (numL (numL xs))) = xs.drop 32 := by rw [l3, numL_of (by simp; omega), List.drop_drop]
        rw [l4, l3, l2, l1, numV_of (by omega), numV_of (by simp; omega), numV_of (by simp; omega), numV_of (by simp; omega), numV_of (by simp; omega)]
        simp [takeV, hlen]
      rw [e1]
      have d2 : decide ((40 : Int) < (xs.length : Int)) = false := by simp; omega
      clear hs hs2 e1 hlen
      have B1 := Lib.hid hby.out.numL
      have B2 := Lib.hid B1.out.numL
      have B3 := Lib.hid B2.out.numL
      have B4 := Lib.hid B3.out.numL
      go_enter Try.func17, Try.ntmps17
      go_wp2_with fail
      refine (new_any _ xs _ (HV.out.alloc _)).mono ?_
      rintro e w1 ⟨rfl, hR1, hb1⟩
      have hK1 : Blk w1 w.heap.size 35 [.int .i64 0, .int .i64 0, .int .i64 0, .int .i64 0, .int .i64 0] := Blk.below (heap_alloc_new w _) hb1
      have hz1 := hb1.size
      simp only [World.size_alloc] at hz1 hR1
      have hbw1 : Below w.heap.size w w1 := (by repeat (first | with_reducible exact Below.refl _ _ | (with_reducible refine bl_sc ?_ ?hge; case hge => (first | exact Nat.le_refl _ | omega)) | with_reducible refine bl_al ?_ _ | with_reducible refine bl_dr ?_ | with_reducible refine bl_dN ?_ _ | (refine bl_tr ?_ (by assumption)) | (refine bl_gr ?_ (by assumption) (by first | exact Nat.le_refl _ | omega)) | exact Below.refl _ _ | refine bl_al ?_ _ | refine bl_dr ?_ | refine bl_dN ?_ _))
      simp only [World.size_alloc]
      go_wp2_with fail
      refine (int_any _ xs _ _ hR1 hby).mono ?_
      rintro e w2 ⟨rfl, hR2, hg2⟩
      go_wp2_with fail
      refine (int_any _ _ _ _ hR2 B1).mono ?_
      rintro e w3 ⟨rfl, hR3, hg3⟩
      go_wp2_with fail
      refine (int_any _ _ _ _ hR3 B2).mono ?_
      rintro e w4 ⟨rfl, hR4, hg4⟩
      go_wp2_with fail
      refine (num_any _ _ _ _ hR4 B3).mono ?_
      rintro e w5 ⟨rfl, hR5, hg5⟩
      go_wp2_with fail
      refine (int_any _ _ _ _ hR5 B4).mono ?_
      rintro e w6 ⟨rfl, hR6, hg6⟩
      have hg := grown_same (grown_same (grown_same (grown_same hg2 hg3) hg4) hg5) hg6
      have hK6 := blk_grown hK1 hg (by omega)
      have hbw6 : Below w.heap.size w w6 := bl_gr hbw1 hg (by omega)
      have c0 := hK6.cell 0
      have c1 := hK6.cell 1
      have c2 := hK6.cell 2
      have c3 := hK6.cell 3
      have c4 := hK6.cell 4
      have f0 := hK6.frozen 0
      have f1 := hK6.frozen 1
      have f2 := hK6.frozen 2
      have f3 := hK6.frozen 3
      have f4 := hK6.frozen 4
      simp only [List.getElem?_cons_zero, List.getElem?_cons_succ] at c0 c1 c2 c3 c4
      clear hg hg2 hg3 hg4 hg5 hg6 hR1 hR2 hR3 hR4 hR5 hR6 hK1 hK6
      go_wp2
      refine bodyPost_ret (v := .tuple #[evV (numV xs) (numV (numL xs)) (numV (numL (numL xs))) (numV (numL (numL (numL xs)))) (numV (numL (numL (numL (numL xs))))), .int .i64 0]) (by simp [results, Try.results17, go_sem, c0, c1, c2, c3, c4, evV]) rfl ⟨rfl, (by repeat (first | with_reducible exact Below.refl _ _ | (with_reducible refine bl_sc ?_ ?hge; case hge => (first | exact Nat.le_refl _ | omega)) | with_reducible refine bl_al ?_ _ | with_reducible refine bl_dr ?_ | with_reducible refine bl_dN ?_ _ | (refine bl_tr ?_ (by assumption)) | (refine bl_gr ?_ (by assumption) (by first | exact Nat.le_refl _ | omega)) | exact Below.refl _ _ | refine bl_al ?_ _ | refine bl_dr ?_ | refine bl_dN ?_ _))⟩
end Go.Proofs.Ytdjfpbjlmojikaa

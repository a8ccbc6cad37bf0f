/- lombardhelp.Same and Plain at api.Posting: two lists that read the same, of numbers, are alike. -/
import Derived.Test.YtbiiejolemcifaaPostM
import Derived.Deep.RegionHeld3
import Derived.Deep.DrawnRows
import Derived.Laws.StructEq
import Derived.DeepKeys
namespace Go.Proofs.Ytbiiejolemcifaa
open Go.RowKit FlM
attribute [local go_sem ↓] Go.wp_at_zero Go.wp_at_succ

/-- A word that is like itself. -/
def selfF (x : Nat) : Prop := Op.floatEq .f64 x x = true
theorem selfF_N (n : Nat) (h : n < 9007199254740992) : selfF (FlM.N n) := by
  show (Ieee.double.order (FlM.N n) (FlM.N n) == some .eq) = true
  rw [order_N n n h h, cmp_self]
  rfl
theorem selfF_side (v : Int) : selfF (sideW v) := by
  unfold sideW
  split
  · rw [← N_zero]; exact selfF_N 0 (by omega)
  · exact selfF_N _ (by omega)
theorem selfF_zero : selfF 0 := by rw [← N_zero]; exact selfF_N 0 (by omega)
def selfP (ps : List (Int × Nat × Nat)) : Prop := ∀ p ∈ ps, selfF p.2.1 ∧ selfF p.2.2
theorem selfP_postL (a m : Int) : selfP (postL a m) := by
  unfold postL
  intro p hp
  split at hp
  · simp at hp; subst hp; exact ⟨selfF_side _, selfF_zero⟩
  · split at hp
    · simp at hp; subst hp; exact ⟨selfF_zero, selfF_side _⟩
    · simp at hp
theorem selfP_append {a b : List (Int × Nat × Nat)} (h1 : selfP a) (h2 : selfP b) : selfP (a ++ b) := by
  intro p hp
  rcases List.mem_append.1 hp with h | h
  · exact h1 p h
  · exact h2 p h
theorem selfP_trP (bs cs : List Int) (k : Nat) : selfP (trP bs cs k) := by
  induction k with
  | zero => intro p hp; simp [trP] at hp
  | succ k ih => exact selfP_append ih (selfP_postL _ _)
theorem selfP_postS (bs : List Int) (c d : Int) (cs : List Int) (c2 d2 other : Int) : selfP (postS bs c d cs c2 d2 other) := by
  unfold postS
  split
  · intro p hp; simp at hp
  · split
    · exact selfP_append (selfP_trP _ _ _) (selfP_postL _ _)
    · exact selfP_append (selfP_append (selfP_trP _ _ _) (selfP_postL _ _)) (selfP_postL _ _)
theorem run_equalIn_complex {P : Program} (w : World) (d : Nat) (t : TypeId) (k : FloatKind) (k' : FloatKind) (a b a' b' : Nat) (h : P.underlying t = some (.complex k')) : (Op.equalIn (d + 1) t (.complex k a b) (.complex k a' b')).run P w = .ok (Op.floatEq k a a' && Op.floatEq k b b') w := by
  simp [Op.equalIn, run_underlying h]
theorem po_guard (op : BinOp) (x y : Operand) (xs ys : Array Value) (W : World) : (eqGuard op 61 x y (.agg xs) (.agg ys)).run Try.prog W = .ok () W := run_eqGuard_agg W op _ x y xs ys (by kernel_rfl)
theorem po_eql (x : Int) (a b : Nat) (ha : selfF a) (hb : selfF b) (W : World) : (binOp .eql 61 (.agg #[.int .i64 x, .complex .f64 a b]) (.agg #[.int .i64 x, .complex .f64 a b])).run Try.prog W = .ok (.bool true) W := by
  have u2 := Try.underlying3
  have u4 := Try.underlying59
  have a2 := Try.isAgg3
  have z2 := Try.sizeOf3
  have a4 := Try.isAgg59
  have z4 := Try.sizeOf59
  have hS : Try.prog.underlying 61 = some (.struct (Try.prog.fieldsOf 61)) := by kernel_rfl
  have hp : Try.prog.stoodInHeld 61 = false := by kernel_rfl
  have hc : ∀ W, (Op.equalIn 9999 59 (.complex .f64 a b) (.complex .f64 a b)).run Try.prog W = .ok true W := fun W => by
    rw [show (9999 : Nat) = 9998 + 1 from rfl, run_equalIn_complex W 9998 _ .f64 .f64 a b a b u4, ha, hb]
    rfl
  rw [run_eql_struct, show (10000 : Nat) = 9999 + 1 from rfl, run_equalIn_agg W 9999 61 _ _ hS hp]
  simp only [Program.fieldsOf, Try.underlying61]
  go_simp
attribute [local go_sem] po_guard

theorem eqPo_any (x : Int) (a b : Nat) (ha : Hid (selfF a)) (hb : Hid (selfF b)) (w : World) : Calls Try.prog 61 #[.agg #[.int .i64 x, .complex .f64 a b], .agg #[.int .i64 x, .complex .f64 a b]] w (RetB (.bool true) w) := by
  have ht := fun W : World => po_eql x a b ha.out hb.out W
  clear ha hb
  go_enter Try.func61, Try.ntmps61
  go_wp2
  go_ret
  exact ⟨rfl, (by repeat (first | with_reducible exact Below.refl _ _ | (with_reducible refine bl_sc ?_ ?hge; case hge => (first | exact Nat.le_refl _ | omega)) | with_reducible refine bl_al ?_ _ | with_reducible refine bl_dr ?_ | with_reducible refine bl_dN ?_ _ | (refine bl_tr ?_ (by assumption)) | (refine bl_gr ?_ (by assumption) (by first | exact Nat.le_refl _ | omega)) | exact Below.refl _ _ | refine bl_al ?_ _ | refine bl_dr ?_ | refine bl_dN ?_ _))⟩

set_option maxHeartbeats 800000 in
theorem samePo_any (v u : Value) (xs : List (Int × Nat × Nat)) (HS : Hid (selfP xs)) (w : World) (hv : PoS w v xs) (hu : PoS w u xs) :
    Calls Try.prog 60 #[v, u, .func (.func 61) #[] #[]] w (RetB (.bool true) w) := by
  have HV := Lib.hid hv
  have HU := Lib.hid hu
  obtain ⟨ao, cap, rfl, h1, ⟨h2, _⟩, h3⟩ := hv
  obtain ⟨ao', cap', rfl, h1', ⟨h2', _⟩, h3'⟩ := hu
  unfold maxLen at h2 h2'
  clear h3 h3'
  have hlb : ((xs.length : Int) != (xs.length : Int)) = false := by simp
  go_enter Try.func60, Try.ntmps60
  go_wp2
  go_loopw [7] (fun i wr => ∃ k : Nat, k ≤ xs.length ∧ i = .int .i64 k ∧ Below w.heap.size w wr) (fun i _ => xs.length - (intOf i).toNat)
  case atStart => exact ⟨0, Nat.zero_le _, rfl, Below.refl _ _⟩
  case round =>
    obtain ⟨k, hk, rfl, hb⟩ := hrel
    by_cases hlt : k < xs.length
    · have hki : (k : Int) < (xs.length : Int) := by omega
      have hk0 : (0 : Int) ≤ (k : Int) := by omega
      obtain ⟨b, o, x, g, h, rfl, f0, f1, HX⟩ := (HV.out.below hb).get (i := k) hlt
      obtain ⟨b', o', x', g', h', rfl, f2, f3, HY⟩ := (HU.out.below hb).get (i := k) hlt
      obtain ⟨rfl, rfl, rfl⟩ : x = x' ∧ g = g' ∧ h = h' := by
        have h1 := HX.out
        rw [HY.out] at h1
        simp only [Prod.mk.injEq] at h1
        exact ⟨h1.1.symm, h1.2.1.symm, h1.2.2.symm⟩
      have hs := HS.out (xs.getD k (0, 0, 0)) (by simp [List.getD, hlt])
      rw [HX.out] at hs
      have HA : Hid (selfF g) := hs.1
      have HB : Hid (selfF h) := hs.2
      clear hs
      go_wp2_with fail
      go_region_held3 (fun w' => w'.cell? ⟨b, o + k * 2, none⟩ = some (.int .i64 x) ∧ w'.cell? ⟨b, o + k * 2 + 1, none⟩ = some (.complex .f64 g h) ∧ w'.cell? ⟨b', o' + k * 2, none⟩ = some (.int .i64 x) ∧ w'.cell? ⟨b', o' + k * 2 + 1, none⟩ = some (.complex .f64 g h))
        (first | assumption | exact ⟨f0, f1, f2, f3⟩)
        (first | (go_at_call 61; refine (eqPo_any x g h HA HB _).mono ?_; rintro e w1 ⟨rfl, hb1⟩; have hbw1 : Below w.heap.size w w1 := (by first | exact bl_tr hb hb1 | exact bl_tr (bl_dr hb) hb1); have hS1 : w1.cell? ⟨b, o + k * 2, none⟩ = some (.int .i64 x) ∧ w1.cell? ⟨b, o + k * 2 + 1, none⟩ = some (.complex .f64 g h) ∧ w1.cell? ⟨b', o' + k * 2, none⟩ = some (.int .i64 x) ∧ w1.cell? ⟨b', o' + k * 2 + 1, none⟩ = some (.complex .f64 g h) := ⟨(hb1.cell (p := ⟨b, o + k * 2, none⟩) (cell_block_lt f0)).trans f0, (hb1.cell (p := ⟨b, o + k * 2 + 1, none⟩) (cell_block_lt f1)).trans f1, (hb1.cell (p := ⟨b', o' + k * 2, none⟩) (cell_block_lt f2)).trans f2, (hb1.cell (p := ⟨b', o' + k * 2 + 1, none⟩) (cell_block_lt f3)).trans f3⟩))
      all_goals
        clear hS1 f0 f1 f2 f3
        go_wp2
        go_roundw
        case rel => exact ⟨k + 1, hlt, by go_num, hbw1⟩
        case measure => simp [intOf]; omega
    · go_wp2
      go_ret
      exact ⟨rfl, hb⟩

theorem plainPo_any (v u : Value) (xs : List (Int × Nat × Nat)) (HS : Hid (selfP xs)) (w : World) (hv : PoS w v xs) (hu : PoS w u xs) :
    Calls Try.prog 38 #[v, u] w (RetB (.bool true) w) := by
  go_enter Try.func38, Try.ntmps38
  go_wp2_with (go_at_call 60; refine (samePo_any _ _ xs HS _ hv hu).mono ?_; rintro e w' ⟨rfl, hb⟩)
  go_ret
  exact ⟨rfl, hb⟩
theorem postings11_any (v u : Value) (xs : List (Int × Nat × Nat)) (HS : Hid (selfP xs)) (w : World) (hv : PoS w v xs) (hu : PoS w u xs) :
    Calls Try.prog 13 #[v, u] w (RetB (.bool true) w) := by
  go_enter Try.func13, Try.ntmps13
  go_wp2_with (go_at_call 38; refine (plainPo_any _ _ xs HS _ hv hu).mono ?_; rintro e w' ⟨rfl, hb⟩)
  go_ret
  exact ⟨rfl, hb⟩
end Go.Proofs.Ytbiiejolemcifaa

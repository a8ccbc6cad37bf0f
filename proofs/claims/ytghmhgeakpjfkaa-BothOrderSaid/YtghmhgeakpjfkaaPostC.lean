/- both.Sum where an amount is none; both.Of, Balanced; Debit, Credit; eq; awake. -/
import Derived.Test.YtghmhgeakpjfkaaPostB
namespace Go.Proofs.Ytghmhgeakpjfkaa
open Go.RowKit FlM
attribute [local go_sem] run_store_complex run_store_float

/-- A posting whose amount is whole. -/
def wholeP (p : Int × Nat × Nat) : Bool := (FlM.part p.2.1).isSome && (FlM.part p.2.2).isSome
set_option maxHeartbeats 800000 in
theorem sumNo_any (v : Value) (ps : List (Int × Nat × Nat)) (hno : Hid (ps.all wholeP = false)) (hlen : ps.length ≤ 1000000) (w : World) (hv : PoS w v ps) :
    Calls Try.prog 22 #[v] w (RetB (.tuple #[.complex .f64 0 0, .int .i64 4]) w) := by
  have HV := Lib.hid hv
  obtain ⟨ao, cap, rfl, h1, ⟨h2, _⟩, h3⟩ := hv
  clear h3
  unfold maxLen at h2
  go_enter Try.func22, Try.ntmps22
  go_wp2_with fail
  go_loopg [8] ps.length (fun g i wr => ∃ (k : Nat), k + g = ps.length ∧ i = .int .i64 k ∧ Hid ((ps.drop k).all wholeP = false) ∧ Below w.heap.size w wr)
  case atStart => exact ⟨0, by omega, rfl, hno, Below.refl _ _⟩
  case round =>
    obtain ⟨k, hkg, rfl, HA, hb⟩ := hrel
    cases gk with
    | zero =>
      have := HA.out
      rw [List.drop_of_length_le (by omega)] at this
      simp at this
    | succ g =>
      have hlt : (k : Int) < (ps.length : Int) := by omega
      obtain ⟨b, o, a, x, y, rfl, hc1, hc2, HX⟩ := (HV.out.below hb).get (i := k) (by omega)
      have hk : k < ps.length := by omega
      have hst : (ps.drop k).all wholeP = (wholeP (a, x, y) && (ps.drop (k + 1)).all wholeP) := by
        rw [List.drop_eq_getElem_cons hk, List.all_cons]
        have e : ps[k] = (a, x, y) := by rw [← HX.out]; simp [List.getD, hk]
        rw [e]
      rw [HA.out] at hst
      have hbw : Below w.heap.size w (wr.alloc (.cells #[.int .i64 a, .complex .f64 x y] 36)) := bl_al hb _
      obtain ⟨r, hr⟩ : ∃ r, wholeP (a, x, y) = r := ⟨_, rfl⟩
      have HW : Hid (((FlM.part x).isSome && (FlM.part y).isSome) = r) := hr
      rw [hr] at hst
      have HST := Lib.hid hst
      clear hst hr HA
      cases r with
      | false =>
        go_wp2_with fail
        refine (whole_any x y _ HW _).mono ?_
        rintro _ w2 ⟨rfl, rfl⟩
        go_wp2
        go_ret2
        exact ⟨rfl, hbw⟩
      | true =>
        have HA2 : Hid ((ps.drop (k + 1)).all wholeP = false) := by have := HST.out; rw [Bool.true_and] at this; exact this.symm
        go_wp2_with fail
        refine (whole_any x y _ HW _).mono ?_
        rintro _ w2 ⟨rfl, rfl⟩
        go_wp2
        go_roundg g
        case measure => omega
        case rel => exact ⟨k + 1, by omega, by go_num, HA2, hbw⟩

/-- What an account has, of debits less credits. -/
def ofR (ac : Int) (qs : List (Int × Nat × Nat)) : Int × Int :=
  match tot (fun _ => true) 0 0 qs with
  | none => (0, 5)
  | some _ =>
    match tot (fun x => x == ac) 0 0 qs with
    | some (d, c) => ((d : Int) - (c : Int), 0)
    | none => (0, 5)
theorem tot_le {f : Int → Bool} {d c : Nat} {qs : List (Int × Nat × Nat)} (hd : d ≤ 1000000000000000) (hc : c ≤ 1000000000000000) {D C : Nat} (h : tot f d c qs = some (D, C)) : D ≤ 1000000000000000 ∧ C ≤ 1000000000000000 := by
  induction qs generalizing d c with
  | nil => simp [tot] at h; omega
  | cons p qs ih =>
    unfold tot at h
    generalize (if f p.1 = true then d + p.2.1 else d) = d1 at h
    generalize (if f p.1 = true then c + p.2.2 else c) = c1 at h
    by_cases hle : d1 ≤ 1000000000000000 ∧ c1 ≤ 1000000000000000
    · rw [if_pos hle] at h
      exact ih hle.1 hle.2 h
    · rw [if_neg hle] at h
      cases h
set_option maxHeartbeats 800000 in
theorem of_any (ac : Int) (v : Value) (qs : List (Int × Nat × Nat)) (hok : Hid (okP qs)) (hlen : qs.length ≤ 1000000) (x e : Int) (hx : Hid (ofR ac qs = (x, e))) (w : World) (hv : PoS w v (bitsP qs)) :
    Calls Try.prog 23 #[v, .int .i64 ac] w (RetB (.tuple #[.int .i64 x, .int .i64 e]) w) := by
  have HV := Lib.hid hv
  have hbx : Below w.heap.size w (w.alloc (.cells #[.int .i64 ac] 3)) := bl_al (Below.refl _ _) _
  have hcell : (w.alloc (.cells #[.int .i64 ac] 3)).cell? ⟨w.heap.size, 0, none⟩ = some (.int .i64 ac) := (show Blk (w.alloc (.cells #[.int .i64 ac] 3)) w.heap.size 3 [.int .i64 ac] from heap_alloc_new w _).cell 0
  have HC := Lib.hid hcell
  clear hcell
  go_enter Try.func23, Try.ntmps23
  go_wp2_with fail
  refine (sumW_any _ qs hok hlen _ (HV.out.below hbx)).mono ?_
  rintro _ w1 ⟨⟨d, c, h⟩, hb1⟩
  have hbw := bl_tr hbx hb1
  have HC1 := Lib.hid (cell_below HC.out hb1)
  clear hbx hb1
  rcases h with ⟨h, rfl⟩ | ⟨h, rfl⟩
  · have hx' := hx.out
    unfold ofR at hx'
    rw [h] at hx'
    have HX := Lib.hid hx'
    clear h hx hx'
    go_wp2_with fail
    refine (sumOf_any ac _ _ qs hok hlen _ HC1.out (HV.out.below hbw)).mono ?_
    rintro _ w2 ⟨⟨d2, c2, h⟩, hb2⟩
    have hbf := bl_tr hbw hb2
    clear hbw hb2
    rcases h with ⟨h, rfl⟩ | ⟨h, rfl⟩
    · obtain ⟨hd, hc⟩ := tot_le (by omega) (by omega) h
      have hx2 := HX.out
      rw [h] at hx2
      injection hx2 with e1 e2
      obtain ⟨nd, hnd⟩ : ∃ x, FlM.N d2 = x := ⟨_, rfl⟩
      obtain ⟨nc, hnc⟩ : ∃ x, FlM.N c2 = x := ⟨_, rfl⟩
      have c1 := fun W => run_convert_float_int (P := Try.prog) W 22 2 .f64 .i64 (FlM.N d2) d2 rfl Try.underlying2 (int_part (part_N d2 hd))
      have c2' := fun W => run_convert_float_int (P := Try.prog) W 22 2 .f64 .i64 (FlM.N c2) c2 rfl Try.underlying2 (int_part (part_N c2 hc))
      rw [hnd] at c1 ⊢; rw [hnc] at c2' ⊢
      have r1 : wrap64 ((d2 : Int) - (c2 : Int)) = x := by unfold wrap64; omega
      have HE := Lib.hid e2
      clear h hd hc HX e1 e2 hnd hnc
      go_wp2
      go_ret2
      rw [← HE.out]
      first | exact ⟨rfl, hbf⟩ | (refine ⟨?_, hbf⟩; simp only [r1]; rfl)
    · have hx2 := HX.out
      rw [h] at hx2
      injection hx2 with e1 e2
      have HE := Lib.hid (And.intro e1 e2)
      have c1 := fun W => run_convert_float_int (P := Try.prog) W 22 2 .f64 .i64 0 0 rfl Try.underlying2 (by have := int_part (part_N 0 (by omega)); rw [N_zero] at this; exact this)
      clear h HX e1 e2
      go_wp2
      go_ret2
      rw [← HE.out.1, ← HE.out.2]
      exact ⟨rfl, hbf⟩
  · have hx' := hx.out
    unfold ofR at hx'
    rw [h] at hx'
    injection hx' with e1 e2
    have HE := Lib.hid (And.intro e1 e2)
    clear h hx e1 e2
    go_wp2
    go_ret2
    rw [← HE.out.1, ← HE.out.2]
    exact ⟨rfl, hbw⟩
set_option maxHeartbeats 400000 in
theorem ofNo_any (ac : Int) (v : Value) (ps : List (Int × Nat × Nat)) (hno : Hid (ps.all wholeP = false)) (hlen : ps.length ≤ 1000000) (w : World) (hv : PoS w v ps) :
    Calls Try.prog 23 #[v, .int .i64 ac] w (RetB (.tuple #[.int .i64 0, .int .i64 4]) w) := by
  have HV := Lib.hid hv
  have hbx : Below w.heap.size w (w.alloc (.cells #[.int .i64 ac] 3)) := bl_al (Below.refl _ _) _
  go_enter Try.func23, Try.ntmps23
  go_wp2_with fail
  refine (sumNo_any _ ps hno hlen _ (HV.out.below hbx)).mono ?_
  rintro _ w1 ⟨rfl, hb1⟩
  go_wp2
  go_ret2
  exact ⟨rfl, bl_tr hbx hb1⟩
set_option maxHeartbeats 400000 in
theorem balancedNo_any (v : Value) (ps : List (Int × Nat × Nat)) (hno : Hid (ps.all wholeP = false)) (hlen : ps.length ≤ 1000000) (w : World) (hv : PoS w v ps) :
    Calls Try.prog 24 #[v] w (RetB (.bool false) w) := by
  go_enter Try.func24, Try.ntmps24
  go_wp2_with fail
  refine (sumNo_any _ ps hno hlen _ hv).mono ?_
  rintro _ w1 ⟨rfl, hb1⟩
  go_wp2
  go_ret
  exact ⟨rfl, hb1⟩
/-- Are both sides the same? -/
def balR (qs : List (Int × Nat × Nat)) : Bool := match tot (fun _ => true) 0 0 qs with | some (d, c) => d == c | none => false
set_option maxHeartbeats 400000 in
theorem balanced_any (v : Value) (qs : List (Int × Nat × Nat)) (hok : Hid (okP qs)) (hlen : qs.length ≤ 1000000) (r : Bool) (hr : Hid (balR qs = r)) (w : World) (hv : PoS w v (bitsP qs)) :
    Calls Try.prog 24 #[v] w (RetB (.bool r) w) := by
  go_enter Try.func24, Try.ntmps24
  go_wp2_with fail
  refine (sumW_any _ qs hok hlen _ hv).mono ?_
  rintro _ w1 ⟨⟨d, c, h⟩, hb1⟩
  rcases h with ⟨h, rfl⟩ | ⟨h, rfl⟩
  · obtain ⟨hd, hc⟩ := tot_le (by omega) (by omega) h
    have g : (FloatKind.f64.format.order (FlM.N d) (FlM.N c) == some .eq) = r := by
      rw [← hr.out]
      unfold balR
      rw [h]
      show (Ieee.double.order (FlM.N d) (FlM.N c) == some .eq) = (d == c)
      rw [order_N d c (by omega) (by omega)]
      by_cases hdc : d = c
      · subst hdc; rw [cmp_self]; simp
      · have h1 : (d == c) = false := by rw [beq_eq_false_iff_ne]; exact hdc
        rw [h1, beq_eq_false_iff_ne]
        intro h2
        exact hdc (by have := cmp_eq (Option.some.inj h2); omega)
    obtain ⟨nd, hnd⟩ : ∃ x, FlM.N d = x := ⟨_, rfl⟩
    obtain ⟨nc, hnc⟩ : ∃ x, FlM.N c = x := ⟨_, rfl⟩
    rw [hnd, hnc] at g ⊢
    clear hd hc h hr hnd hnc
    go_wp2
    go_ret
    first | exact ⟨rfl, hb1⟩ | (refine ⟨?_, hb1⟩; rw [← g]; rfl)
  · obtain rfl : false = r := by
      rw [← hr.out]
      unfold balR
      rw [h]
    clear h hr
    go_wp2
    go_ret
    exact ⟨rfl, hb1⟩

/-- So much on a side, as a word. -/
def sideW (v : Int) : Nat := if v < 0 ∨ 1000000000000000 < v then 0 else FlM.N v.toNat
set_option maxHeartbeats 400000 in
theorem side_any (v : Int) (s : Nat) (hs : Hid (sideW v = s)) (w : World) : Calls Try.prog 42 #[.int .i64 v] w (Ret (.float .f64 s) w) := by
  by_cases h0 : v < 0
  · obtain rfl : 0 = s := by rw [← hs.out]; unfold sideW; rw [if_pos (Or.inl h0)]
    clear hs
    go_enter Try.func42, Try.ntmps42
    go_wp2
    go_ret
    exact ⟨rfl, rfl⟩
  · by_cases h1 : 1000000000000000 < v
    · obtain rfl : 0 = s := by rw [← hs.out]; unfold sideW; rw [if_pos (Or.inr h1)]
      clear hs
      go_enter Try.func42, Try.ntmps42
      go_wp2
      go_ret
      exact ⟨rfl, rfl⟩
    · have e : floatOfInt .f64 v = s := by
        rw [← hs.out]
        unfold sideW
        rw [if_neg (by omega)]
        have := floatOf_N v.toNat
        rwa [Int.toNat_of_nonneg (by omega)] at this
      clear hs
      go_enter Try.func42, Try.ntmps42
      go_wp2
      go_ret
      first | exact ⟨rfl, rfl⟩ | (refine ⟨?_, rfl⟩; simp only [e]; rfl)
theorem debit_any (v : Int) (s : Nat) (hs : Hid (sideW v = s)) (w : World) : Calls Try.prog 18 #[.int .i64 v] w (Ret (.complex .f64 s 0) w) := by
  go_enter Try.func18, Try.ntmps18
  go_wp2_with fail
  refine (side_any v s hs _).mono ?_
  rintro _ w1 ⟨rfl, rfl⟩
  go_wp2
  go_ret
  exact ⟨rfl, rfl⟩
theorem credit_any (v : Int) (s : Nat) (hs : Hid (sideW v = s)) (w : World) : Calls Try.prog 20 #[.int .i64 v] w (Ret (.complex .f64 0 s) w) := by
  go_enter Try.func20, Try.ntmps20
  go_wp2_with fail
  refine (side_any v s hs _).mono ?_
  rintro _ w1 ⟨rfl, rfl⟩
  go_wp2
  go_ret
  exact ⟨rfl, rfl⟩
theorem sideW_N (n : Nat) (h : n ≤ 1000000000000000) : sideW (n : Int) = FlM.N n := by
  unfold sideW
  rw [if_neg (by omega), Int.toNat_natCast]
set_option maxHeartbeats 800000 in
set_option maxRecDepth 100000 in
theorem awake4_any (w : World) : Calls Try.prog 16 #[] w (RetB (.bool true) w) := by
  obtain ⟨n5, h5⟩ : ∃ x, FlM.N 5 = x := ⟨_, rfl⟩
  obtain ⟨n3, h3⟩ : ∃ x, FlM.N 3 = x := ⟨_, rfl⟩
  have s5 : Hid (sideW 5 = n5) := (sideW_N 5 (by omega)).trans h5
  have s3 : Hid (sideW 3 = n3) := (sideW_N 3 (by omega)).trans h3
  have p5 : Hid (partsR n5 0 = (5, 0, 0)) := by
    show _ = _
    unfold partsR
    rw [← h5, part_N 5 (by omega), ← N_zero, part_N 0 (by omega)]
    rfl
  have hb3 : bitsP [(0, 3, 0), (0, 0, 3)] = [(0, n3, 0), (0, 0, n3)] := by
    unfold bitsP
    simp [h3, N_zero]
  have HB3 := Lib.hid hb3
  have hbal : balR [(0, 3, 0), (0, 0, 3)] = true := by decide
  have HBAL := Lib.hid hbal
  have HOK : Hid (okP [(0, 3, 0), (0, 0, 3)]) := by
    intro p hp
    simp at hp
    rcases hp with rfl | rfl <;> simp
  clear h5 h3 hb3 hbal
  go_enter Try.func16, Try.ntmps16
  go_wp2_with fail
  refine (debit_any 5 n5 s5 _).mono ?_
  rintro _ w1 ⟨rfl, rfl⟩
  go_wp2_with fail
  refine (parts_any n5 0 5 0 0 p5 _).mono ?_
  rintro _ w1 ⟨rfl, rfl⟩
  go_wp2_with fail
  refine (debit_any 3 n3 s3 _).mono ?_
  rintro _ w1 ⟨rfl, rfl⟩
  go_wp2_with fail
  refine (credit_any 3 n3 s3 _).mono ?_
  rintro _ w1 ⟨rfl, rfl⟩
  go_wp2_with fail
  refine (balanced_any _ [(0, 3, 0), (0, 0, 3)] HOK (by simp) true HBAL _ (by rw [HB3.out]; exact PoS.lit _ _ [(0, n3, 0), (0, 0, n3)] 2 rfl _ rfl (by unfold maxLen; omega))).mono ?_
  rintro _ w2 ⟨rfl, hb2⟩
  go_wp2
  go_ret
  exact ⟨rfl, (by repeat (first | with_reducible exact Below.refl _ _ | (with_reducible refine bl_sc ?_ ?hge; case hge => (first | exact Nat.le_refl _ | omega)) | with_reducible refine bl_al ?_ _ | with_reducible refine bl_dr ?_ | with_reducible refine bl_dN ?_ _ | (refine bl_tr ?_ (by assumption)) | (refine bl_gr ?_ (by assumption) (by first | exact Nat.le_refl _ | omega)) | exact Below.refl _ _ | refine bl_al ?_ _ | refine bl_dr ?_ | refine bl_dN ?_ _))⟩
end Go.Proofs.Ytghmhgeakpjfkaa

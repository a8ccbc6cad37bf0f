/- both.Parts, Debit, Credit; lombardref04.part, may, Parts, Debit, Credit; lombardlaw04.eq; BothTell. -/
import Derived.Test.YtghmhgeakpjfkaaBothA
namespace Go.Proofs.Ytghmhgeakpjfkaa
open Go.RowKit FlM

/-- What both parts are. -/
def partsR (a b : Nat) : Int × Int × Int :=
  match FlM.part a, FlM.part b with
  | some n, some m => ((n : Int), (m : Int), 0)
  | _, _ => (0, 0, 4)
theorem partsR_no {a b : Nat} {x y e : Int} (h : partsR a b = (x, y, e)) (hn : ((FlM.part a).isSome && (FlM.part b).isSome) = false) : 0 = x ∧ 0 = y ∧ 4 = e := by
  unfold partsR at h
  cases ha : FlM.part a with
  | none => rw [ha] at h; simp at h; exact ⟨h.1, h.2.1, h.2.2⟩
  | some n =>
    cases hb : FlM.part b with
    | none => rw [ha, hb] at h; simp at h; exact ⟨h.1, h.2.1, h.2.2⟩
    | some m => rw [ha, hb] at hn; simp at hn
theorem partsR_yes {a b n m : Nat} {x y e : Int} (h : partsR a b = (x, y, e)) (ha : FlM.part a = some n) (hb : FlM.part b = some m) : (n : Int) = x ∧ (m : Int) = y ∧ 0 = e := by
  unfold partsR at h
  rw [ha, hb] at h
  simp at h
  exact ⟨h.1, h.2.1, h.2.2⟩
/-- A whole part as an integer. -/
theorem int_part {a n : Nat} (h : FlM.part a = some n) : floatToIntVal .f64 a .i64 = some (n : Int) := by
  obtain ⟨h1, h2, _⟩ := part_some h
  unfold floatToIntVal
  have e : (FloatKind.f64.decode a).toInt .zero = some (n : Int) := h2
  rw [e]
  dsimp only
  have e1 : IntKind.i64.min = -9223372036854775808 := rfl
  have e2 : IntKind.i64.max = 9223372036854775807 := rfl
  rw [e1, e2, if_pos ⟨by omega, by omega⟩]

set_option maxHeartbeats 400000 in
theorem parts_any (a b : Nat) (x y e : Int) (h : Hid (partsR a b = (x, y, e))) (w : World) : Calls Try.prog 14 #[.complex .f64 a b] w (Ret (.tuple #[.int .i64 x, .int .i64 y, .int .i64 e]) w) := by
  obtain ⟨r, hr⟩ : ∃ r, ((FlM.part a).isSome && (FlM.part b).isSome) = r := ⟨_, rfl⟩
  have HR := Lib.hid hr
  cases r with
  | false =>
    obtain ⟨rfl, rfl, rfl⟩ := partsR_no h.out hr
    clear h hr
    go_enter Try.func14, Try.ntmps14
    go_wp2_with fail
    refine (whole_any a b _ HR _).mono ?_
    rintro _ w1 ⟨rfl, rfl⟩
    go_wp2
    go_ret3
    exact ⟨rfl, rfl⟩
  | true =>
    obtain ⟨n, hn⟩ : ∃ n, FlM.part a = some n := by cases hp : FlM.part a with | none => rw [hp] at hr; simp at hr | some n => exact ⟨n, rfl⟩
    obtain ⟨m, hm⟩ : ∃ n, FlM.part b = some n := by cases hp : FlM.part b with | none => rw [hp] at hr; simp at hr | some n => exact ⟨n, rfl⟩
    obtain ⟨rfl, rfl, rfl⟩ := partsR_yes h.out hn hm
    have c1 := fun W => run_convert_float_int (P := Try.prog) W 22 2 .f64 .i64 a n rfl Try.underlying2 (int_part hn)
    have c2 := fun W => run_convert_float_int (P := Try.prog) W 22 2 .f64 .i64 b m rfl Try.underlying2 (int_part hm)
    clear h hr hn hm
    go_enter Try.func14, Try.ntmps14
    go_wp2_with fail
    refine (whole_any a b _ HR _).mono ?_
    rintro _ w1 ⟨rfl, rfl⟩
    go_wp2
    go_ret3
    exact ⟨rfl, rfl⟩

theorem order_of_ge {x : Nat} (h : geF x = true) : ∃ o, cmpF x 4831355200913801216 = some o := by
  rw [geF_iff] at h
  unfold cmpF
  rw [← N_max]
  show ∃ o, (Ieee.double.read x).order (Ieee.double.read (FlM.N 1000000000000000)) = some o
  obtain ⟨p, _, hp⟩ := read_N 1000000000000000 (by omega)
  obtain ⟨q, _, hq⟩ := read_N 0 (by omega)
  rw [hp]
  have h' : (Ieee.double.read x).order (Ieee.double.read (FlM.N 0)) = some .gt ∨ (Ieee.double.read x).order (Ieee.double.read (FlM.N 0)) = some .eq := h
  rw [hq] at h'
  cases hx : Ieee.double.read x with
  | number s m i => exact ⟨_, rfl⟩
  | infinity s => exact ⟨_, rfl⟩
  | nan s t => rw [hx] at h'; simp [Ieee.Datum.order] at h'
theorem floatOf_N (n : Nat) : floatOfInt .f64 (n : Int) = FlM.N n := by
  show FloatKind.f64.encode (.number (decide ((n : Int) < 0)) ((n : Int)).natAbs 0) = _
  have h1 : decide ((n : Int) < 0) = false := by simp
  rw [h1, Int.natAbs_natCast]
  rfl
/-- A part as the document takes it: a number, and whether it is whole. -/
def PartPost (x : Nat) (r : Bool) (w : World) (e : Ending) (w' : World) : Prop := ∃ n : Int, e = .returned (.tuple #[.int .i64 n, .bool r]) ∧ (∀ m : Nat, FlM.part x = some m → n = m) ∧ w = w'
set_option maxHeartbeats 400000 in
theorem refPart_any (x : Nat) (r : Bool) (hr : Hid ((FlM.part x).isSome = r)) (w : World) : Calls Try.prog 40 #[.float .f64 x] w (PartPost x r w) := by
  have hno : ∀ (h : r = false) (n : Int) (m : Nat), FlM.part x = some m → n = m := fun h n m hm => by
    have := hr.out
    rw [hm, h] at this
    cases this
  have HNO := Lib.hid hno
  cases hg : geF x with
  | false =>
    obtain rfl : false = r := by
      rw [← hr.out]
      cases hp : FlM.part x with
      | none => rfl
      | some n => rw [(part_geF hp).1] at hg; cases hg
    have g1 : (FloatKind.f64.format.order x 0 == some .gt || FloatKind.f64.format.order x 0 == some .eq) = false := hg
    clear hr hg hno
    go_enter Try.func40, Try.ntmps40
    go_wp2
    go_ret2
    exact ⟨_, rfl, HNO.out (by first | rfl | trivial) _, rfl⟩
  | true =>
    have g1 : (FloatKind.f64.format.order x 0 == some .gt || FloatKind.f64.format.order x 0 == some .eq) = true := hg
    cases hl : leF x with
    | false =>
      obtain rfl : false = r := by
        rw [← hr.out]
        cases hp : FlM.part x with
        | none => rfl
        | some n => rw [(part_geF hp).2] at hl; cases hl
      have g2 : (FloatKind.f64.format.order x 4831355200913801216 == some .gt) = true := by
        obtain ⟨o, ho⟩ := order_of_ge hg
        unfold leF at hl
        rw [ho] at hl
        show (cmpF x 4831355200913801216 == some .gt) = true
        rw [ho]
        cases o <;> simp at hl ⊢
      clear hr hg hl hno
      go_enter Try.func40, Try.ntmps40
      go_wp2
      go_ret2
      exact ⟨_, rfl, HNO.out (by first | rfl | trivial) _, rfl⟩
    | true =>
      have g2 : (FloatKind.f64.format.order x 4831355200913801216 == some .gt) = false := by
        unfold leF at hl
        show (cmpF x 4831355200913801216 == some .gt) = false
        rw [Bool.or_eq_true, beq_iff_eq, beq_iff_eq] at hl
        rcases hl with h | h <;> (rw [h]; rfl)
      obtain ⟨v, n, hv, hn, hti, _⟩ := trunc_of x ((geF_iff x).1 hg) ((leF_iff x).1 hl)
      have hconv : floatToIntVal .f64 x .i64 = some (n : Int) := by
        unfold floatToIntVal
        have e : (FloatKind.f64.decode x).toInt .zero = some (n : Int) := hti
        have e1 : IntKind.i64.min = -9223372036854775808 := rfl
        have e2 : IntKind.i64.max = 9223372036854775807 := rfl
        rw [e]
        dsimp only
        rw [e1, e2, if_pos ⟨by omega, by omega⟩]
      have c1 := fun W => run_convert_float_int (P := Try.prog) W 22 2 .f64 .i64 x n rfl Try.underlying2 hconv
      obtain ⟨N0, hN0⟩ : ∃ N0, FlM.N n = N0 := ⟨_, rfl⟩
      have c2 : floatOfInt .f64 (n : Int) = N0 := by rw [← hN0]; exact floatOf_N n
      have g3 : (FloatKind.f64.format.order N0 x == some .eq) = r := by
        rw [← hr.out, ← hN0]
        cases hp : FlM.part x with
        | none =>
          obtain ⟨_, n', hn', hti', hne⟩ := part_none hp ((geF_iff x).1 hg) ((leF_iff x).1 hl)
          rw [hti] at hti'
          obtain rfl : n = n' := by have := Option.some.inj hti'; omega
          show (Ieee.double.order (FlM.N n) x == some .eq) = false
          rw [beq_eq_false_iff_ne]
          exact hne
        | some m =>
          have h1 := (part_some hp).2.1
          rw [hti] at h1
          obtain rfl : n = m := by have := Option.some.inj h1; omega
          show (Ieee.double.order (FlM.N n) x == some .eq) = true
          rw [(part_order hp n (by omega)).2, cmp_self]
          rfl
      have HM : Hid (∀ m : Nat, FlM.part x = some m → (n : Int) = m) := fun m hm => by
        have h1 := (part_some hm).2.1
        rw [hti] at h1
        exact Option.some.inj h1
      clear hr hg hl hv hn hti hconv hN0 hno
      go_enter Try.func40, Try.ntmps40
      go_wp2
      go_ret2
      first | exact ⟨_, rfl, HM.out, rfl⟩ | (refine ⟨_, ?_, HM.out, rfl⟩; simp only [c2, g3]; rfl)
end Go.Proofs.Ytghmhgeakpjfkaa

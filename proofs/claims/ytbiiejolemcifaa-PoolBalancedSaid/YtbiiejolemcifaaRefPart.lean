/- lombardref04.part. -/
import Derived.Test.YtbiiejolemcifaaCmpF
import Derived.Test.YtbiiejolemcifaaPosV
namespace Go.Proofs.Ytbiiejolemcifaa
open Go.RowKit FlM

/-- A part as the document takes it: a number, and whether it is whole. -/
def PartPost (x : Nat) (r : Bool) (w : World) (e : Ending) (w' : World) : Prop := ∃ n : Int, e = .returned (.tuple #[.int .i64 n, .bool r]) ∧ (∀ m : Nat, FlM.part x = some m → n = m) ∧ w = w'
set_option maxHeartbeats 400000 in
theorem refPart_any (x : Nat) (r : Bool) (hr : Hid ((FlM.part x).isSome = r)) (w : World) : Calls Try.prog 83 #[.float .f64 x] w (PartPost x r w) := by
  have hno : ∀ (h : r = false) (n : Int) (m : Nat), FlM.part x = some m → n = m := fun h n m hm => by
    have := hr.out
    rw [hm, h] at this
    cases this
  have HNO := Lib.hid hno
  cases hg : geF x with
  | false =>
    obtain rfl : false = r := by
      rw [← hr.out]
      cases hp : FlM.part x with
      | none => rfl
      | some n => rw [(part_geF hp).1] at hg; cases hg
    have g1 : (FloatKind.f64.format.order x 0 == some .gt || FloatKind.f64.format.order x 0 == some .eq) = false := hg
    clear hr hg hno
    go_enter Try.func83, Try.ntmps83
    go_wp2
    go_ret2
    exact ⟨_, rfl, HNO.out (by first | rfl | trivial) _, rfl⟩
  | true =>
    have g1 : (FloatKind.f64.format.order x 0 == some .gt || FloatKind.f64.format.order x 0 == some .eq) = true := hg
    cases hl : leF x with
    | false =>
      obtain rfl : false = r := by
        rw [← hr.out]
        cases hp : FlM.part x with
        | none => rfl
        | some n => rw [(part_geF hp).2] at hl; cases hl
      have g2 : (FloatKind.f64.format.order x 4831355200913801216 == some .gt) = true := by
        obtain ⟨o, ho⟩ := order_of_ge hg
        unfold leF at hl
        rw [ho] at hl
        show (cmpF x 4831355200913801216 == some .gt) = true
        rw [ho]
        cases o <;> simp at hl ⊢
      clear hr hg hl hno
      go_enter Try.func83, Try.ntmps83
      go_wp2
      go_ret2
      exact ⟨_, rfl, HNO.out (by first | rfl | trivial) _, rfl⟩
    | true =>
      have g2 : (FloatKind.f64.format.order x 4831355200913801216 == some .gt) = false := by
        unfold leF at hl
        show (cmpF x 4831355200913801216 == some .gt) = false
        rw [Bool.or_eq_true, beq_iff_eq, beq_iff_eq] at hl
        rcases hl with h | h <;> (rw [h]; rfl)
      obtain ⟨v, n, hv, hn, hti, _⟩ := trunc_of x ((geF_iff x).1 hg) ((leF_iff x).1 hl)
      have hconv : floatToIntVal .f64 x .i64 = some (n : Int) := by
        unfold floatToIntVal
        have e : (FloatKind.f64.decode x).toInt .zero = some (n : Int) := hti
        have e1 : IntKind.i64.min = -9223372036854775808 := rfl
        have e2 : IntKind.i64.max = 9223372036854775807 := rfl
        rw [e]
        dsimp only
        rw [e1, e2, if_pos ⟨by omega, by omega⟩]
      have c1 := fun W => run_convert_float_int (P := Try.prog) W 65 2 .f64 .i64 x n rfl Try.underlying2 hconv
      obtain ⟨N0, hN0⟩ : ∃ N0, FlM.N n = N0 := ⟨_, rfl⟩
      have c2 : floatOfInt .f64 (n : Int) = N0 := by rw [← hN0]; exact floatOf_N n
      have g3 : (FloatKind.f64.format.order N0 x == some .eq) = r := by
        rw [← hr.out, ← hN0]
        cases hp : FlM.part x with
        | none =>
          obtain ⟨_, n', hn', hti', hne⟩ := part_none hp ((geF_iff x).1 hg) ((leF_iff x).1 hl)
          rw [hti] at hti'
          obtain rfl : n = n' := by have := Option.some.inj hti'; omega
          show (Ieee.double.order (FlM.N n) x == some .eq) = false
          rw [beq_eq_false_iff_ne]
          exact hne
        | some m =>
          have h1 := (part_some hp).2.1
          rw [hti] at h1
          obtain rfl : n = m := by have := Option.some.inj h1; omega
          show (Ieee.double.order (FlM.N n) x == some .eq) = true
          rw [(part_order hp n (by omega)).2, cmp_self]
          rfl
      have HM : Hid (∀ m : Nat, FlM.part x = some m → (n : Int) = m) := fun m hm => by
        have h1 := (part_some hm).2.1
        rw [hti] at h1
        exact Option.some.inj h1
      clear hr hg hl hv hn hti hconv hN0 hno
      go_enter Try.func83, Try.ntmps83
      go_wp2
      go_ret2
      first | exact ⟨_, rfl, HM.out, rfl⟩ | (refine ⟨_, ?_, HM.out, rfl⟩; simp only [c2, g3]; rfl)
end Go.Proofs.Ytbiiejolemcifaa

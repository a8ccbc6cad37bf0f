/- How the words of two numbers stand to each other; the parts of an amount. -/
import Derived.Test.YtbiiejolemcifaaLib
import Derived.Test.YtbiiejolemcifaaFlMath
namespace Go.Proofs.Ytbiiejolemcifaa
open Go.RowKit FlM

theorem N_max : FlM.N 1000000000000000 = 4831355200913801216 := by decide
/-- How two words stand to each other. -/
def cmpF (x y : Nat) : Option Ordering := FloatKind.f64.format.order x y
theorem cmpF_eq (x y : Nat) : FloatKind.f64.format.order x y = cmpF x y := rfl

/-- Not below 0; not above the bound. -/
def geF (x : Nat) : Bool := cmpF x 0 == some .gt || cmpF x 0 == some .eq
def leF (x : Nat) : Bool := cmpF x 4831355200913801216 == some .lt || cmpF x 4831355200913801216 == some .eq
theorem geF_iff (x : Nat) : geF x = true ↔ Ieee.double.order x (FlM.N 0) = some .gt ∨ Ieee.double.order x (FlM.N 0) = some .eq := by
  unfold geF cmpF
  rw [FlM.N_zero]
  simp
  rfl
theorem leF_iff (x : Nat) : leF x = true ↔ Ieee.double.order x (FlM.N 1000000000000000) = some .lt ∨ Ieee.double.order x (FlM.N 1000000000000000) = some .eq := by
  unfold leF cmpF
  rw [N_max]
  simp
  rfl
theorem part_geF {x n : Nat} (h : FlM.part x = some n) : geF x = true ∧ leF x = true := by
  have hn := (part_some h).1
  rw [geF_iff, leF_iff, (part_order h 0 (by omega)).1, (part_order h 1000000000000000 (by omega)).1]
  constructor
  · rcases Nat.eq_zero_or_pos n with h | h
    · subst h; exact Or.inr (by rw [cmp_self])
    · refine Or.inl (congrArg some (?_ : compareOfLessAndEq _ _ = _))
      unfold compareOfLessAndEq
      rw [if_neg (by omega), if_neg (by omega)]
  · by_cases h : n = 1000000000000000
    · subst h; exact Or.inr (by rw [cmp_self])
    · refine Or.inl (congrArg some (?_ : compareOfLessAndEq _ _ = _))
      unfold compareOfLessAndEq
      rw [if_pos (by omega)]

/-- What both parts are. -/
def partsR (a b : Nat) : Int × Int × Int :=
  match FlM.part a, FlM.part b with
  | some n, some m => ((n : Int), (m : Int), 0)
  | _, _ => (0, 0, 4)
theorem partsR_no {a b : Nat} {x y e : Int} (h : partsR a b = (x, y, e)) (hn : ((FlM.part a).isSome && (FlM.part b).isSome) = false) : 0 = x ∧ 0 = y ∧ 4 = e := by
  unfold partsR at h
  cases ha : FlM.part a with
  | none => rw [ha] at h; simp at h; exact ⟨h.1, h.2.1, h.2.2⟩
  | some n =>
    cases hb : FlM.part b with
    | none => rw [ha, hb] at h; simp at h; exact ⟨h.1, h.2.1, h.2.2⟩
    | some m => rw [ha, hb] at hn; simp at hn
theorem partsR_yes {a b n m : Nat} {x y e : Int} (h : partsR a b = (x, y, e)) (ha : FlM.part a = some n) (hb : FlM.part b = some m) : (n : Int) = x ∧ (m : Int) = y ∧ 0 = e := by
  unfold partsR at h
  rw [ha, hb] at h
  simp at h
  exact ⟨h.1, h.2.1, h.2.2⟩
/-- A whole part as an integer. -/
theorem int_part {a n : Nat} (h : FlM.part a = some n) : floatToIntVal .f64 a .i64 = some (n : Int) := by
  obtain ⟨h1, h2, _⟩ := part_some h
  unfold floatToIntVal
  have e : (FloatKind.f64.decode a).toInt .zero = some (n : Int) := h2
  rw [e]
  dsimp only
  have e1 : IntKind.i64.min = -9223372036854775808 := rfl
  have e2 : IntKind.i64.max = 9223372036854775807 := rfl
  rw [e1, e2, if_pos ⟨by omega, by omega⟩]

theorem order_of_ge {x : Nat} (h : geF x = true) : ∃ o, cmpF x 4831355200913801216 = some o := by
  rw [geF_iff] at h
  unfold cmpF
  rw [← N_max]
  show ∃ o, (Ieee.double.read x).order (Ieee.double.read (FlM.N 1000000000000000)) = some o
  obtain ⟨p, _, hp⟩ := read_N 1000000000000000 (by omega)
  obtain ⟨q, _, hq⟩ := read_N 0 (by omega)
  rw [hp]
  have h' : (Ieee.double.read x).order (Ieee.double.read (FlM.N 0)) = some .gt ∨ (Ieee.double.read x).order (Ieee.double.read (FlM.N 0)) = some .eq := h
  rw [hq] at h'
  cases hx : Ieee.double.read x with
  | number s m i => exact ⟨_, rfl⟩
  | infinity s => exact ⟨_, rfl⟩
  | nan s t => rw [hx] at h'; simp [Ieee.Datum.order] at h'
end Go.Proofs.Ytbiiejolemcifaa

/- both.may, both.whole, both.Parts, Debit, Credit; lombardref04's. -/
import Derived.Test.YtghmhgeakpjfkaaLib
import Derived.Test.YtghmhgeakpjfkaaFlMath
import Derived.Laws.Externs
namespace Go.Proofs.Ytghmhgeakpjfkaa
open Go.RowKit FlM

theorem N_max : FlM.N 1000000000000000 = 4831355200913801216 := by decide
/-- How two words stand to each other. -/
def cmpF (x y : Nat) : Option Ordering := FloatKind.f64.format.order x y
theorem cmpF_eq (x y : Nat) : FloatKind.f64.format.order x y = cmpF x y := rfl

/-- math.archTrunc: the model's own entry. -/
def truncEntry : Array Value → Sem Value := Extern.MathFloor.toIntegral "math.archTrunc" .zero
/-- What the entry does with a word, by what the word stands for (a word that is no number: whatever it does). -/
theorem trunc_form : ∃ f : Nat → Bool → Nat → Sem Value, ∀ x : Nat, truncEntry #[.float .f64 x] =
    Extern.MathFloor.toIntegral.match_1 (motive := fun _ => Sem Value) (FloatKind.f64.decode x) (fun s t => f x s t) (fun d => pure (.float .f64 (FloatKind.f64.encode (d.integral .zero)))) := ⟨_, fun _ => rfl⟩
theorem trunc_run (x : Nat) (v : Int) (hx : sc (Ieee.double.read x) = some v) (w : World) :
    (callFunc 56 #[.float .f64 x]).run Try.prog w = .ok (.value (.float .f64 (trunc x))) w := by
  rw [run_callFunc_extern (e := truncEntry) Try.func56 (by kernel_rfl) (by kernel_rfl) (by kernel_rfl) (by kernel_rfl)]
  have e : (truncEntry #[.float .f64 x]).run Try.prog w = .ok (.float .f64 (trunc x)) w := by
    obtain ⟨f, hf⟩ := trunc_form
    rw [hf x]
    unfold trunc
    have hd : FloatKind.f64.decode x = Ieee.double.read x := rfl
    rw [hd]
    cases hr : Ieee.double.read x with
    | number s m p => rfl
    | infinity s => rw [hr] at hx; simp [sc] at hx
    | nan s t => rw [hr] at hx; simp [sc] at hx
  rw [e]
  rfl
theorem trunc_any (x : Nat) (v : Int) (hx : Hid (sc (Ieee.double.read x) = some v)) (w : World) : Calls Try.prog 54 #[.float .f64 x] w (Ret (.float .f64 (trunc x)) w) := by
  have hr := fun W => trunc_run x v hx.out W
  go_enter Try.func54, Try.ntmps54
  go_wp2_with (simp only [hr])
  go_ret
  exact ⟨rfl, rfl⟩

/-- Not below 0; not above the bound. -/
def geF (x : Nat) : Bool := cmpF x 0 == some .gt || cmpF x 0 == some .eq
def leF (x : Nat) : Bool := cmpF x 4831355200913801216 == some .lt || cmpF x 4831355200913801216 == some .eq
theorem geF_iff (x : Nat) : geF x = true ↔ Ieee.double.order x (FlM.N 0) = some .gt ∨ Ieee.double.order x (FlM.N 0) = some .eq := by
  unfold geF cmpF
  rw [FlM.N_zero]
  simp
  rfl
theorem leF_iff (x : Nat) : leF x = true ↔ Ieee.double.order x (FlM.N 1000000000000000) = some .lt ∨ Ieee.double.order x (FlM.N 1000000000000000) = some .eq := by
  unfold leF cmpF
  rw [N_max]
  simp
  rfl
theorem part_geF {x n : Nat} (h : FlM.part x = some n) : geF x = true ∧ leF x = true := by
  have hn := (part_some h).1
  rw [geF_iff, leF_iff, (part_order h 0 (by omega)).1, (part_order h 1000000000000000 (by omega)).1]
  constructor
  · rcases Nat.eq_zero_or_pos n with h | h
    · subst h; exact Or.inr (by rw [cmp_self])
    · refine Or.inl (congrArg some (?_ : compareOfLessAndEq _ _ = _))
      unfold compareOfLessAndEq
      rw [if_neg (by omega), if_neg (by omega)]
  · by_cases h : n = 1000000000000000
    · subst h; exact Or.inr (by rw [cmp_self])
    · refine Or.inl (congrArg some (?_ : compareOfLessAndEq _ _ = _))
      unfold compareOfLessAndEq
      rw [if_pos (by omega)]

set_option maxHeartbeats 400000 in
theorem bothMay_any (x : Nat) (r : Bool) (hr : Hid ((FlM.part x).isSome = r)) (w : World) : Calls Try.prog 50 #[.float .f64 x] w (Ret (.bool r) w) := by
  cases hg : geF x with
  | false =>
    obtain rfl : false = r := by
      rw [← hr.out]
      cases hp : FlM.part x with
      | none => rfl
      | some n => rw [(part_geF hp).1] at hg; cases hg
    have g1 : (FloatKind.f64.format.order x 0 == some .gt || FloatKind.f64.format.order x 0 == some .eq) = false := hg
    clear hr hg
    go_enter Try.func50, Try.ntmps50
    go_wp2
    go_ret
    exact ⟨rfl, rfl⟩
  | true =>
    have g1 : (FloatKind.f64.format.order x 0 == some .gt || FloatKind.f64.format.order x 0 == some .eq) = true := hg
    cases hl : leF x with
    | false =>
      obtain rfl : false = r := by
        rw [← hr.out]
        cases hp : FlM.part x with
        | none => rfl
        | some n => rw [(part_geF hp).2] at hl; cases hl
      have g2 : (FloatKind.f64.format.order x 4831355200913801216 == some .lt || FloatKind.f64.format.order x 4831355200913801216 == some .eq) = false := hl
      clear hr hg hl
      go_enter Try.func50, Try.ntmps50
      go_wp2
      go_ret
      exact ⟨rfl, rfl⟩
    | true =>
      have g2 : (FloatKind.f64.format.order x 4831355200913801216 == some .lt || FloatKind.f64.format.order x 4831355200913801216 == some .eq) = true := hl
      obtain ⟨v, hv⟩ := sc_of_ge ((geF_iff x).1 hg) ((leF_iff x).1 hl)
      have HV := Lib.hid hv
      have g3 : (FloatKind.f64.format.order x (FlM.trunc x) == some .eq) = r := by
        rw [← hr.out]
        cases hp : FlM.part x with
        | none =>
          have := (part_none hp ((geF_iff x).1 hg) ((leF_iff x).1 hl)).1
          show (Ieee.double.order x (FlM.trunc x) == some .eq) = false
          rw [beq_eq_false_iff_ne]
          exact this
        | some n =>
          have := (part_some hp).2.2.2
          show (Ieee.double.order x (FlM.trunc x) == some .eq) = true
          rw [beq_iff_eq]
          exact this
      obtain ⟨t, ht⟩ : ∃ t, FlM.trunc x = t := ⟨_, rfl⟩
      rw [ht] at g3
      have HT := Lib.hid ht
      have hcall : ∀ W, Calls Try.prog 54 #[.float .f64 x] W (Ret (.float .f64 t) W) := fun W => by rw [← HT.out]; exact trunc_any x v HV W
      have HC := Lib.hid hcall
      clear hr hg hl hv ht hcall
      go_enter Try.func50, Try.ntmps50
      go_wp2_with fail
      refine (HC.out _).mono ?_
      rintro _ w1 ⟨rfl, rfl⟩
      go_wp2
      go_ret
      first | exact ⟨rfl, rfl⟩ | (refine ⟨?_, rfl⟩; rw [← g3]; rfl)

set_option maxHeartbeats 400000 in
theorem whole_any (a b : Nat) (r : Bool) (hr : Hid (((FlM.part a).isSome && (FlM.part b).isSome) = r)) (w : World) : Calls Try.prog 39 #[.complex .f64 a b] w (Ret (.bool r) w) := by
  obtain ⟨p, hp⟩ : ∃ p, (FlM.part a).isSome = p := ⟨_, rfl⟩
  obtain ⟨q, hq⟩ : ∃ q, (FlM.part b).isSome = q := ⟨_, rfl⟩
  obtain rfl : (p && q) = r := by rw [← hp, ← hq]; exact hr.out
  have HP := Lib.hid hp
  have HQ := Lib.hid hq
  clear hp hq hr
  cases p
  · go_enter Try.func39, Try.ntmps39
    go_wp2_with fail
    refine (bothMay_any a _ HP _).mono ?_
    rintro _ w1 ⟨rfl, rfl⟩
    go_wp2
    go_ret
    exact ⟨rfl, rfl⟩
  · go_enter Try.func39, Try.ntmps39
    go_wp2_with fail
    refine (bothMay_any a _ HP _).mono ?_
    rintro _ w1 ⟨rfl, rfl⟩
    go_wp2_with fail
    refine (bothMay_any b _ HQ _).mono ?_
    rintro _ w1 ⟨rfl, rfl⟩
    go_wp2
    go_ret
    exact ⟨by simp, rfl⟩
end Go.Proofs.Ytghmhgeakpjfkaa

/- Go's own == on two events, and on two arrays of forty bytes, that are the same. -/
import Derived.Test.YtofajlemknkndaaEvTake
import Derived.Test.YtofajlemknkndaaEvPack
import Derived.Laws.StructEq
import Derived.DeepKeys
namespace Go.Proofs.Ytofajlemknkndaa
open Go.RowKit

theorem ev_guard (op : BinOp) (x y : Operand) (xs ys : Array Value) (W : World) : (eqGuard op 49 x y (.agg xs) (.agg ys)).run Try.prog W = .ok () W := run_eqGuard_agg W op _ x y xs ys (by kernel_rfl)
theorem arr_guard (op : BinOp) (x y : Operand) (xs ys : Array Value) (W : World) : (eqGuard op 54 x y (.agg xs) (.agg ys)).run Try.prog W = .ok () W := run_eqGuard_agg W op _ x y xs ys (by kernel_rfl)
theorem ev_eql (k d t a r k' d' t' a' r' : Int) (W : World) : (binOp .eql 49 (.agg #[.int .i64 k, .int .i64 d, .int .i64 t, .int .i64 a, .int .i64 r]) (.agg #[.int .i64 k', .int .i64 d', .int .i64 t', .int .i64 a', .int .i64 r'])).run Try.prog W =
    .ok (.bool (k == k' && d == d' && t == t' && a == a' && r == r')) W := by
  have u2 := Try.underlying2
  have u3 := Try.underlying3
  have a2 := Try.isAgg2
  have z2 := Try.sizeOf2
  have a3 := Try.isAgg3
  have z3 := Try.sizeOf3
  have hS : Try.prog.underlying 49 = some (.struct (Try.prog.fieldsOf 49)) := by kernel_rfl
  have hp : Try.prog.stoodInHeld 49 = false := by kernel_rfl
  rw [run_eql_struct, show (10000 : Nat) = 9999 + 1 from rfl, run_equalIn_agg W 9999 49 _ _ hS hp]
  simp only [Program.fieldsOf, Try.underlying49]
  go_simp
  by_cases h1 : k = k' <;> by_cases h2 : d = d' <;> by_cases h3 : t = t' <;> by_cases h4 : a = a' <;> by_cases h5 : r = r' <;> simp [h1, h2, h3, h4, h5]
theorem arr_eql (l : List Int) (hl : l.length = 40) (W : World) : (binOp .eql 54 (arrV l) (arrV l)).run Try.prog W = .ok (.bool true) W := by
  obtain ⟨i0, hi, hz0, hz1, hz2⟩ := info_parts info_u8
  have hc : Try.prog.cellsOf 5 = 1 := by kernel_rfl
  unfold arrV
  rw [run_eql_struct, show (10000 : Nat) = 9999 + 1 from rfl, run_equalIn_array W 9999 _ _ Try.underlying54 hi, hc]
  have : ∀ is : List Nat, (∀ i ∈ is, i < 40) → (Op.eqItems 9999 5 1 (l.map (Value.int .u8)).toArray (l.map (Value.int .u8)).toArray is).run Try.prog W = .ok true W := by
    intro is
    induction is with
    | nil => intro _; simp [Op.eqItems]
    | cons i is ih =>
      intro h
      have hi' := h i (by simp)
      have ih := ih (fun j hj => h j (by simp [hj]))
      simp only [Op.eqItems, Sem.run_bind]
      have u5 := Try.underlying5
      have hp : (part 5 (l.map (Value.int .u8)).toArray (i * 1)).run Try.prog W = .ok (.int .u8 (l.getD i 0)) W := by
        have a5 := Try.isAgg5
        have z5 := Try.sizeOf5
        simp [part, a5, z5, Sem.run_bind, List.getD, hl, hi']
      rw [hp]
      simp only [Result.andThen_ok, hp]
      rw [show (9999 : Nat) = 9998 + 1 from rfl, run_equalIn_int W 9998 _ _ .u8 _ _ u5]
      simp only [Result.andThen_ok, beq_self_eq_true, Bool.not_true, Bool.false_eq_true, if_false]
      exact ih
  rw [this _ (by simp)]
  rfl
end Go.Proofs.Ytofajlemknkndaa

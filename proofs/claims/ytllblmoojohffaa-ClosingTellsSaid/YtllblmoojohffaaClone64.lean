/- slices.Clone at int64: a list of its own that reads the same. -/
import Derived.Test.YtllblmoojohffaaAppend
import Derived.Lib.SliceRun
namespace Go.Proofs.Ytllblmoojohffaa
open Go.RowKit

theorem info_clone : (Try.prog.info? 2).map (fun i => (i.zero, i.size, i.bytes)) = some (some (.int .i64 0), 1, 8) := by kernel_rfl
/-- A clone: nil, or a block of its own; it reads as xs. -/
def Cloned (xs : List Int) (w : World) (e : Ending) (w' : World) : Prop :=
  ∃ u, e = .returned u ∧ w'.ownsRow w.heap.size 2 1 u xs.length (xs.map (Value.int .i64)) ∧ Below w.heap.size w w'

set_option maxHeartbeats 400000 in
theorem clone64_any (v : Value) (xs : List Int) (w : World) (hv : Sl .i64 w v xs) (hn : xs.length ≤ 1000) :
    Calls Try.prog 80 #[v] w (Cloned xs w) := by
  have HV := Lib.hid hv
  obtain ⟨ao, cap, rfl, h1, ⟨h2, _⟩, h3⟩ := hv
  clear h3
  unfold maxLen at h2
  have qT : ∀ (w : World) (a : Option Addr) (n c n' c' : Nat), (binOp .eql 22 (.slice a n c) (.slice none n' c')).run Try.prog w = .ok (.bool a.isNone) w := fun w a n c n' c' => Lib.run_eql_slice_nil w _ _ a n c n' c' Try.underlying22
  obtain ⟨i0, hi, hz0, hz1, hz2⟩ := info_parts info_clone
  cases ao with
  | none =>
    obtain rfl := HV.out.none_len rfl
    obtain ⟨_, rfl⟩ := HV.out.none_cap rfl
    go_enter Try.func80, Try.ntmps80
    go_wp2
    go_ret
    exact ⟨_, rfl, World.ownsRow_nil _ _ _ _, Below.refl _ _⟩
  | some a =>
    have hA := HV.out.news
    have HA := Lib.hid hA
    clear hA
    go_enter Try.func80, Try.ntmps80
    go_wp2_with (at_builtin; refine wpList_append_any _ rfl (.tmp 5) (.tmp 6) 22 rfl w.heap.size 2 i0 (.int .i64 0) 1 8 Try.underlying22 hi hz0 hz1 hz2 rfl (by decide) _ 0 [] rfl (own_new w _) (some a) xs.length cap (xs.map (Value.int .i64)) rfl (by simp) (fun h => by cases h) (HV.out.alloc _).news (ints_oneCell _ _) (by unfold maxLen; omega) (by omega) (by rw [World.size_alloc]; omega) ?_; intro v' w1 hown1 hg1 hn1; clear hn1)
    go_ret
    refine ⟨_, rfl, by simpa using hown1, ?_⟩
    exact ((Below.refl _ _).alloc (Nat.le_refl _) _).grown hg1 (by rw [World.size_alloc]; omega) (by intro k hk; cases hk; exact Nat.le_refl _)
end Go.Proofs.Ytllblmoojohffaa

/- lombardref11.posting: of what an account is more, or less. -/
import Derived.Test.YtbiiejolemcifaaRefSide
namespace Go.Proofs.Ytbiiejolemcifaa
open Go.RowKit FlM
attribute [local go_sem] run_store_complex run_store_float

/-- One posting, or none. -/
def postL (acc more : Int) : List (Int × Nat × Nat) := if 0 < more then [(acc, sideW more, 0)] else if more < 0 then [(acc, 0, sideW (-more))] else []
/-- A list of postings, new. -/
def RetPo (ps : List (Int × Nat × Nat)) (w : World) (e : Ending) (w' : World) : Prop := ∃ u, e = .returned u ∧ PoS w' u ps ∧ Below w.heap.size w w'
theorem PoS.none {w : World} : PoS w (.slice none 0 0) [] := ⟨Option.none, 0, rfl, Nat.le_refl _, ⟨by simp [maxLen], fun _ => rfl⟩, fun h => absurd rfl h⟩
set_option maxHeartbeats 400000 in
theorem refPosting_any (acc more : Int) (hm : -1000000000000000000 ≤ more ∧ more ≤ 1000000000000000000) (w : World) : Calls Try.prog 42 #[.int .i64 acc, .int .i64 more] w (RetPo (postL acc more) w) := by
  obtain ⟨h1, h2⟩ := hm
  by_cases a : 0 < more
  · obtain ⟨s, hs⟩ : ∃ s, sideW more = s := ⟨_, rfl⟩
    have HS := Lib.hid hs
    have e : postL acc more = [(acc, s, 0)] := by unfold postL; rw [if_pos a, hs]
    rw [e]
    clear hs e
    go_enter Try.func42, Try.ntmps42
    go_wp2_with fail
    refine (refDebit_any more s HS _).mono ?_
    rintro _ _ ⟨rfl, rfl⟩
    go_wp2_with fail
    go_ret
    exact ⟨_, rfl, PoS.lit w _ [(acc, s, 0)] 1 rfl _ rfl (by unfold maxLen; omega), bl_al (Below.refl _ _) _⟩
  · by_cases b : more < 0
    · obtain ⟨s, hs⟩ : ∃ s, sideW (-more) = s := ⟨_, rfl⟩
      have HS := Lib.hid hs
      have e : postL acc more = [(acc, 0, s)] := by unfold postL; rw [if_neg a, if_pos b, hs]
      rw [e]
      clear hs e
      go_enter Try.func42, Try.ntmps42
      go_wp2_with fail
      refine (refCredit_any (-more) s HS _).mono ?_
      rintro _ _ ⟨rfl, rfl⟩
      go_wp2_with fail
      go_ret
      exact ⟨_, rfl, PoS.lit w _ [(acc, 0, s)] 1 rfl _ rfl (by unfold maxLen; omega), bl_al (Below.refl _ _) _⟩
    · have e : postL acc more = [] := by unfold postL; rw [if_neg a, if_neg b]
      rw [e]
      clear e
      go_enter Try.func42, Try.ntmps42
      go_wp2_with fail
      go_ret
      exact ⟨_, rfl, PoS.none, Below.refl _ _⟩
end Go.Proofs.Ytbiiejolemcifaa

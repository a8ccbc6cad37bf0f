/- pool.turn: a posting of what an account has more on its debit side, and whether it is one. -/
import Derived.Test.YtbiiejolemcifaaSide
namespace Go.Proofs.Ytbiiejolemcifaa
open Go.RowKit FlM
attribute [local go_sem] run_store_complex run_store_float

/-- Both words of a posting. -/
def turnW (more : Int) : Nat × Nat := if more < 0 then (0, sideW (-more)) else (sideW more, 0)
set_option maxHeartbeats 400000 in
theorem turn_any (acc more : Int) (hm : -1000000000000000000 ≤ more ∧ more ≤ 1000000000000000000) (x y : Nat) (hx : Hid (turnW more = (x, y))) (r : Bool) (hr : Hid ((more != 0) = r)) (w : World) :
    Calls Try.prog 40 #[.int .i64 acc, .int .i64 more] w (RetB (.tuple #[.agg #[.int .i64 acc, .complex .f64 x y], .bool r]) w) := by
  obtain ⟨h1, h2⟩ := hm
  obtain ⟨s, hs⟩ : ∃ s, sideW more = s := ⟨_, rfl⟩
  have HS := Lib.hid hs
  obtain ⟨t, ht⟩ : ∃ t, sideW (-more) = t := ⟨_, rfl⟩
  have HT := Lib.hid ht
  have HB : Hid (Blk (w.alloc (.cells #[.int .i64 0, .complex .f64 0 0] 61)) w.heap.size 61 [.int .i64 0, .complex .f64 0 0]) := heap_alloc_new w _
  by_cases hn : more < 0
  · obtain ⟨rfl, rfl⟩ : 0 = x ∧ t = y := by
      have := hx.out
      unfold turnW at this
      rw [if_pos hn, ht] at this
      injection this with e1 e2
      exact ⟨e1, e2⟩
    obtain rfl : true = r := by rw [← hr.out]; simp; omega
    clear hs ht hx hr
    go_enter Try.func40, Try.ntmps40
    go_wp2_with fail
    refine (debit_any more s HS _).mono ?_
    rintro _ w1 ⟨rfl, rfl⟩
    go_wp2_with fail
    refine (credit_any (-more) t HT _).mono ?_
    rintro _ w1 ⟨rfl, rfl⟩
    go_wp2_with fail
    have e : (more != 0) = true := by simp; omega
    refine bodyPost_ret (v := .tuple #[.agg #[.int .i64 acc, .complex .f64 0 t], .bool true]) (by simp [results, Try.results40, go_sem, e]) rfl ⟨rfl, (by repeat (first | with_reducible exact Below.refl _ _ | (with_reducible refine bl_sc ?_ ?hge; case hge => (first | exact Nat.le_refl _ | omega)) | with_reducible refine bl_al ?_ _ | with_reducible refine bl_dr ?_ | with_reducible refine bl_dN ?_ _ | (refine bl_tr ?_ (by assumption)) | (refine bl_gr ?_ (by assumption) (by first | exact Nat.le_refl _ | omega)) | exact Below.refl _ _ | refine bl_al ?_ _ | refine bl_dr ?_ | refine bl_dN ?_ _))⟩
  · obtain ⟨rfl, rfl⟩ : s = x ∧ 0 = y := by
      have := hx.out
      unfold turnW at this
      rw [if_neg hn, hs] at this
      injection this with e1 e2
      exact ⟨e1, e2⟩
    have HR := hr
    clear hs ht hx hr HT
    go_enter Try.func40, Try.ntmps40
    go_wp2_with fail
    refine (debit_any more s HS _).mono ?_
    rintro _ w1 ⟨rfl, rfl⟩
    go_wp2_with fail
    refine bodyPost_ret (v := .tuple #[.agg #[.int .i64 acc, .complex .f64 s 0], .bool r]) (by rw [← HR.out]; simp [results, Try.results40, go_sem]) rfl ⟨rfl, (by repeat (first | with_reducible exact Below.refl _ _ | (with_reducible refine bl_sc ?_ ?hge; case hge => (first | exact Nat.le_refl _ | omega)) | with_reducible refine bl_al ?_ _ | with_reducible refine bl_dr ?_ | with_reducible refine bl_dN ?_ _ | (refine bl_tr ?_ (by assumption)) | (refine bl_gr ?_ (by assumption) (by first | exact Nat.le_refl _ | omega)) | exact Below.refl _ _ | refine bl_al ?_ _ | refine bl_dr ?_ | refine bl_dN ?_ _))⟩
end Go.Proofs.Ytbiiejolemcifaa

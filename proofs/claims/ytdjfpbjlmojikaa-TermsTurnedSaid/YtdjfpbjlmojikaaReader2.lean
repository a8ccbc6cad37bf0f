/- wide.Reader once more: its bytes are told of an older world. -/
import Derived.Test.YtdjfpbjlmojikaaReader
namespace Go.Proofs.Ytdjfpbjlmojikaa
open Go.RowKit

/-- In w block g is a reader that still has these bytes, which lie in memory that was there in w0. -/
def RdO (w0 w : World) (g : Nat) (xs : List Int) (sh : Bool) : Prop := ∃ v, Blk w g 71 [v, .bool sh] ∧ Sl .u8 w0 v xs
theorem newO_any (v : Value) (xs : List Int) (w0 w : World) (hv : Sl .u8 w0 v xs) : Calls Try.prog 34 #[v] w (fun e w' => e = .returned (.pointer (some ⟨w.heap.size, 0, none⟩)) ∧ RdO w0 w' w.heap.size xs false ∧ Below w.heap.size w w') := by
  have HV := Lib.hid hv
  obtain ⟨ao, cap, rfl, h1, ⟨h2, _⟩, h3⟩ := hv
  clear h3
  go_enter Try.func34, Try.ntmps34
  go_wp2
  go_ret
  exact ⟨rfl, ⟨_, heap_alloc_new w _, HV.out⟩, bl_al (Below.refl _ _) _⟩

/-- What a call of a reader's answers, and leaves. -/
def RdRO (w0 : World) (v : Value) (g : Nat) (xs : List Int) (sh : Bool) (w : World) (e : Ending) (w' : World) : Prop := e = .returned v ∧ RdO w0 w' g xs sh ∧ w.grownBy w' (some g)
set_option maxHeartbeats 400000 in
theorem numO_any (g : Nat) (xs : List Int) (sh : Bool) (w : World) (w0 : World) (hb0 : Below w0.heap.size w0 w) (hR : RdO w0 w g xs sh) (hby : Hid (Byts xs)) :
    Calls Try.prog 36 #[.pointer (some ⟨g, 0, none⟩)] w (RdRO w0 (.int .i64 (numV xs)) g (numL xs) (numS xs sh) w) := by
  obtain ⟨v, hB, hv⟩ := hR
  have HV0 := Lib.hid hv
  have HV := Lib.hid (hv.below hb0)
  clear hb0
  have HB := Lib.hid hB
  obtain ⟨ao, cap, rfl, h1, ⟨h2, _⟩, h3⟩ := hv
  clear h3
  unfold maxLen at h2
  have c0 : w.cell? ⟨g, 0, none⟩ = some (.slice ao xs.length cap) := hB.cell 0
  have c1 : w.cell? ⟨g, 1, none⟩ = some (.bool sh) := hB.cell 1
  have f0 := hB.frozen 0
  have f1 := hB.frozen 1
  clear hB
  by_cases hs : xs.length < 8
  · have d1 : decide ((xs.length : Int) < 8) = true := by simp; omega
    have HN : Hid (numV xs = 0 ∧ numL xs = [] ∧ numS xs sh = true) := by simp [Hid, numV, numL, numS, hs]
    clear hs
    rw [HN.out.1, HN.out.2.1, HN.out.2.2]
    go_enter Try.func36, Try.ntmps36
    go_wp2
    go_ret
    have hB1 := (HB.out.set 0 (.slice none 0 0)).set 1 (.bool true)
    refine ⟨rfl, ⟨_, hB1, ?_⟩, grown_same (grown_set _ _) (grown_set _ _)⟩
    exact ⟨none, 0, rfl, Nat.le_refl _, ⟨by simp [maxLen], fun _ => rfl⟩, fun h => absurd rfl h⟩
  · have d1 : decide ((xs.length : Int) < 8) = false := by simp; omega
    have HN : Hid (numV xs = num8 xs ∧ numL xs = xs.drop 8 ∧ numS xs sh = sh) := by simp [Hid, numV, numL, numS, hs]
    have h8 : 8 ≤ xs.length := by omega
    clear hs
    rw [HN.out.1, HN.out.2.1, HN.out.2.2]
    have h8c : 8 ≤ cap := by omega
    go_enter Try.func36, Try.ntmps36
    go_wp2
    go_loopg [3, 24] 8 (fun gg a i wr => ∃ k : Nat, k + gg = 8 ∧ i = .int .i64 k ∧ a = .int .i64 (IntKind.i64.wrap (beNat (xs.take k))) ∧ w = wr)
    case atStart => exact ⟨0, by omega, rfl, rfl, rfl⟩
    case round =>
      obtain ⟨k, hkg, rfl, rfl, rfl⟩ := hrel
      cases gk with
      | zero =>
        have hlt : ¬ ((k : Int) < 8) := by omega
        obtain rfl : k = 8 := by omega
        obtain ⟨b, o, x, rfl, _, _⟩ := HV.out.get (i := 0) (by omega)
        have HH := Lib.hid (HV0.out.hi (t := 8) h8)
        by_cases hc8 : cap = 8
        · subst hc8
          go_wp2
          go_ret
          have hB1 := HB.out.set 0 (.slice (some ⟨b, o, none⟩) 0 0)
          refine ⟨rfl, ⟨_, hB1, ?_⟩, grown_set _ _⟩
          have := HH.out
          rw [show xs.length - 8 = 0 from by omega] at this
          exact (by simpa using this)
        · go_wp2
          go_ret
          have hB1 := HB.out.set 0 (.slice (some ⟨b, o + 8, none⟩) (xs.length - 8) (cap - 8))
          refine ⟨rfl, ⟨_, hB1, ?_⟩, grown_set _ _⟩
          have := HH.out
          rw [if_neg hc8] at this
          exact (by simpa [Addr.add_lit] using this)
      | succ gg =>
        have hlt : (k : Int) < 8 := by omega
        obtain ⟨b, o, x, rfl, hcell, HX⟩ := HV.out.get (i := k) (by omega)
        have hx : 0 ≤ x ∧ x < 256 := by rw [← HX.out]; exact hby.out.getD (by omega)
        have HS : Hid (bits .or .i64 (IntKind.i64.wrap (IntKind.i64.wrap (beNat (xs.take k)) * 256)) x = IntKind.i64.wrap (beNat (xs.take (k + 1)))) := by
          show _ = _
          rw [acc_step hx.1 hx.2, beNat_succ xs (by omega), HX.out]
        have hk8 : k < 8 := by omega
        go_wp2
        go_roundg gg
        case measure => omega
        case rel => exact ⟨k + 1, by omega, by go_num, congrArg (Value.int .i64) (by rw [← IntWalk.i64_left, ← IntWalk.i64_left]; exact HS.out), rfl⟩

set_option maxHeartbeats 400000 in
theorem intO_any (g : Nat) (xs : List Int) (sh : Bool) (w : World) (w0 : World) (hb0 : Below w0.heap.size w0 w) (hR : RdO w0 w g xs sh) (hby : Hid (Byts xs)) :
    Calls Try.prog 35 #[.pointer (some ⟨g, 0, none⟩)] w (RdRO w0 (.int .i64 (numV xs)) g (numL xs) (numS xs sh) w) := by
  have hr : -9223372036854775808 ≤ numV xs ∧ numV xs ≤ 9223372036854775807 := by
    unfold numV
    split
    · omega
    · exact num8_range xs
  have hw : Hid (wrap64 (numV xs) = numV xs) := IntWalk.wrap64_in _ hr
  obtain ⟨r1, r2⟩ := hr
  have HR := Lib.hid hR
  clear hR
  go_enter Try.func35, Try.ntmps35
  go_wp2_with fail
  refine (numO_any g xs sh _ w0 hb0 HR.out hby).mono ?_
  rintro e w1 ⟨rfl, hR1, hg1⟩
  go_wp2
  go_ret
  exact ⟨rfl, hR1, hg1⟩
theorem shortO_any (g : Nat) (xs : List Int) (sh : Bool) (w : World) (w0 : World) (_hb0 : Below w0.heap.size w0 w) (hR : RdO w0 w g xs sh) :
    Calls Try.prog 41 #[.pointer (some ⟨g, 0, none⟩)] w (Ret (.bool sh) w) := by
  obtain ⟨v, hB, hv⟩ := hR
  have c1 : w.cell? ⟨g, 1, none⟩ = some (.bool sh) := hB.cell 1
  clear hB hv
  go_enter Try.func41, Try.ntmps41
  go_wp2
  go_ret
  exact ⟨rfl, rfl⟩
theorem leftO_any (g : Nat) (xs : List Int) (sh : Bool) (w : World) (w0 : World) (_hb0 : Below w0.heap.size w0 w) (hR : RdO w0 w g xs sh) :
    Calls Try.prog 43 #[.pointer (some ⟨g, 0, none⟩)] w (Ret (.int .i64 xs.length) w) := by
  obtain ⟨v, hB, ao, cap, rfl, h1, ⟨h2, _⟩, _⟩ := hR
  have c0 : w.cell? ⟨g, 0, none⟩ = some (.slice ao xs.length cap) := hB.cell 0
  clear hB
  go_enter Try.func43, Try.ntmps43
  go_wp2
  go_ret
  exact ⟨rfl, rfl⟩
set_option maxHeartbeats 400000 in
theorem byteO_any (g : Nat) (xs : List Int) (sh : Bool) (w : World) (w0 : World) (hb0 : Below w0.heap.size w0 w) (hR : RdO w0 w g xs sh) :
    Calls Try.prog 42 #[.pointer (some ⟨g, 0, none⟩)] w (RdRO w0 (.int .u8 (byteV xs)) g (byteL xs) (byteS xs sh) w) := by
  obtain ⟨v, hB, hv⟩ := hR
  have HV0 := Lib.hid hv
  have HV := Lib.hid (hv.below hb0)
  clear hb0
  have HB := Lib.hid hB
  obtain ⟨ao, cap, rfl, h1, ⟨h2, _⟩, h3⟩ := hv
  clear h3
  unfold maxLen at h2
  have c0 : w.cell? ⟨g, 0, none⟩ = some (.slice ao xs.length cap) := hB.cell 0
  have c1 : w.cell? ⟨g, 1, none⟩ = some (.bool sh) := hB.cell 1
  have f0 := hB.frozen 0
  have f1 := hB.frozen 1
  clear hB
  by_cases hs : xs.length < 1
  · have d1 : decide ((xs.length : Int) < 1) = true := by simp; omega
    obtain rfl : xs = [] := List.eq_nil_of_length_eq_zero (by omega)
    clear hs
    go_enter Try.func42, Try.ntmps42
    go_wp2
    go_ret
    have hB1 := HB.out.set 1 (.bool true)
    refine ⟨rfl, ⟨_, hB1, ?_⟩, grown_set _ _⟩
    exact HV0.out
  · have d1 : decide ((xs.length : Int) < 1) = false := by simp; omega
    have HN : Hid (byteS xs sh = sh) := by simp [Hid, byteS, hs]
    have h8 : 1 ≤ xs.length := by omega
    clear hs
    rw [HN.out]
    have h8c : 1 ≤ cap := by omega
    obtain ⟨b, o, x, rfl, hcell, HX⟩ := HV.out.get (i := 0) (by omega)
    have HXV : Hid (byteV xs = x) := HX.out
    rw [HXV.out]
    have HH := Lib.hid (HV0.out.hi (t := 1) h8)
    simp only [Nat.add_zero] at hcell
    by_cases hc8 : cap = 1
    · subst hc8
      go_enter Try.func42, Try.ntmps42
      go_wp2
      go_ret
      have hB1 := HB.out.set 0 (.slice (some ⟨b, o, none⟩) 0 0)
      refine ⟨rfl, ⟨_, hB1, ?_⟩, grown_set _ _⟩
      have := HH.out
      rw [show xs.length - 1 = 0 from by omega] at this
      exact (by simpa [byteL] using this)
    · go_enter Try.func42, Try.ntmps42
      go_wp2
      go_ret
      have hB1 := HB.out.set 0 (.slice (some ⟨b, o + 1, none⟩) (xs.length - 1) (cap - 1))
      refine ⟨rfl, ⟨_, hB1, ?_⟩, grown_set _ _⟩
      have := HH.out
      rw [if_neg hc8] at this
      exact (by simpa [byteL, Addr.add_lit] using this)
end Go.Proofs.Ytdjfpbjlmojikaa

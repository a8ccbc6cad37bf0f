/- wide.Reader: numbers and bytes taken from bytes, one by one. -/
import Derived.Test.YtdjfpbjlmojikaaPut
import Derived.Deep.QuietTactic
import Derived.BigQuiet
namespace Go.Proofs.Ytdjfpbjlmojikaa
open Go.RowKit

/-- In w block g is a reader that still has these bytes; sh: has there been too little? -/
def Rd (w : World) (g : Nat) (xs : List Int) (sh : Bool) : Prop := ∃ v, Blk w g 71 [v, .bool sh] ∧ Sl .u8 w v xs
/-- what Num leaves -/
def numL (xs : List Int) : List Int := if xs.length < 8 then [] else xs.drop 8
def numS (xs : List Int) (sh : Bool) : Bool := if xs.length < 8 then true else sh
/-- what Num answers -/
def numV (xs : List Int) : Int := if xs.length < 8 then 0 else num8 xs
def byteL (xs : List Int) : List Int := xs.drop 1
def byteS (xs : List Int) (sh : Bool) : Bool := if xs.length < 1 then true else sh
def byteV (xs : List Int) : Int := xs.getD 0 0
theorem Byts.numL {xs : List Int} (h : Byts xs) : Byts (numL xs) := by
  unfold Go.Proofs.Ytdjfpbjlmojikaa.numL
  split
  · intro x hx; simp at hx
  · exact h.drop 8
theorem blk_grown {w w' : World} {g g' : Nat} {e : TypeId} {cur : List Value} (h : Blk w g e cur) (hg : w.grownBy w' (some g')) (hne : g ≠ g') : Blk w' g e cur := (hg.block g h.lt (by simpa using hne)).trans h
theorem grown_set {w : World} {g : Nat} (o : Nat) (v : Value) : w.grownBy (w.setCell ⟨g, o, none⟩ v) (some g) :=
  ⟨rfl, rfl, rfl, by simp [World.setCell], fun k _ hne => heap_setCell_other w ⟨g, o, none⟩ k v (fun e => hne (by rw [e]))⟩
theorem grown_same {w w1 w2 : World} {g : Nat} (h : w.grownBy w1 (some g)) (h1 : w1.grownBy w2 (some g)) : w.grownBy w2 (some g) := grown_tr h h1 (.inr (.inl rfl))
theorem grown_bel {w w' : World} {g B : Nat} (h : w.grownBy w' (some g)) (hB : B ≤ w.heap.size) (hg : B ≤ g) : Below B w w' := (Below.refl _ _).grown h hB (fun k hk => by cases hk; exact hg)
/-- the bytes of a reader do not lie in its own block -/
theorem Sl.rd {w w' : World} {g : Nat} {e : TypeId} {v u : Value} {sh : Bool} {xs : List Int} (h : Sl .u8 w v xs) (hu : ∃ ao n c, u = .slice ao n c) (hB : Blk w g e [u, .bool sh]) (hg : w.grownBy w' (some g)) : Sl .u8 w' v xs := by
  obtain ⟨ao, cap, rfl, h1, h2, h3⟩ := h
  refine ⟨ao, cap, rfl, h1, h2, fun hx => ?_⟩
  obtain ⟨b, o, rfl, hc⟩ := h3 hx
  refine ⟨b, o, rfl, fun i hi => ?_⟩
  refine hg.cell (hc i hi) ?_
  intro hbg
  have hbg : b = g := by simpa using hbg
  subst hbg
  have := hc i hi
  rw [hB.cell] at this
  obtain ⟨ao', n, c, rfl⟩ := hu
  rcases hj : o + i with _ | _ | j
  · rw [hj] at this; simp at this
  · rw [hj] at this; simp at this
  · rw [hj] at this; simp at this
theorem wrap_step (X c : Int) : IntKind.i64.wrap (IntKind.i64.wrap X * 256 + c) = IntKind.i64.wrap (X * 256 + c) := by
  rw [i64_wrap, i64_wrap, i64_wrap]
  split <;> split <;> split <;> omega
theorem acc_step {X c : Int} (h0 : 0 ≤ c) (h1 : c < 256) : bits .or .i64 (IntKind.i64.wrap (IntKind.i64.wrap X * 256)) c = IntKind.i64.wrap (X * 256 + c) := by
  rw [bits_or_i64 h0 h1, wrap_step]
theorem beNat_succ (xs : List Int) {k : Nat} (h : k < xs.length) : beNat (xs.take (k + 1)) = beNat (xs.take k) * 256 + xs.getD k 0 := by
  rw [List.take_succ_eq_append_getElem h, beNat_snoc]
  simp [List.getD, h]

theorem new_any (v : Value) (xs : List Int) (w : World) (hv : Sl .u8 w v xs) : Calls Try.prog 34 #[v] w (fun e w' => e = .returned (.pointer (some ⟨w.heap.size, 0, none⟩)) ∧ Rd w' w.heap.size xs false ∧ Below w.heap.size w w') := by
  have HV := Lib.hid hv
  obtain ⟨ao, cap, rfl, h1, ⟨h2, _⟩, h3⟩ := hv
  clear h3
  go_enter Try.func34, Try.ntmps34
  go_wp2
  go_ret
  exact ⟨rfl, ⟨_, heap_alloc_new w _, HV.out.alloc _⟩, bl_al (Below.refl _ _) _⟩

/-- What a call of a reader's answers, and leaves. -/
def RdR (v : Value) (g : Nat) (xs : List Int) (sh : Bool) (w : World) (e : Ending) (w' : World) : Prop := e = .returned v ∧ Rd w' g xs sh ∧ w.grownBy w' (some g)
set_option maxHeartbeats 400000 in
theorem num_any (g : Nat) (xs : List Int) (sh : Bool) (w : World) (hR : Rd w g xs sh) (hby : Hid (Byts xs)) :
    Calls Try.prog 36 #[.pointer (some ⟨g, 0, none⟩)] w (RdR (.int .i64 (numV xs)) g (numL xs) (numS xs sh) w) := by
  obtain ⟨v, hB, hv⟩ := hR
  have HV := Lib.hid hv
  have HB := Lib.hid hB
  obtain ⟨ao, cap, rfl, h1, ⟨h2, _⟩, h3⟩ := hv
  clear h3
  unfold maxLen at h2
  have c0 : w.cell? ⟨g, 0, none⟩ = some (.slice ao xs.length cap) := hB.cell 0
  have c1 : w.cell? ⟨g, 1, none⟩ = some (.bool sh) := hB.cell 1
  have f0 := hB.frozen 0
  have f1 := hB.frozen 1
  clear hB
  by_cases hs : xs.length < 8
  · have d1 : decide ((xs.length : Int) < 8) = true := by simp; omega
    have HN : Hid (numV xs = 0 ∧ numL xs = [] ∧ numS xs sh = true) := by simp [Hid, numV, numL, numS, hs]
    clear hs
    rw [HN.out.1, HN.out.2.1, HN.out.2.2]
    go_enter Try.func36, Try.ntmps36
    go_wp2
    go_ret
    have hB1 := (HB.out.set 0 (.slice none 0 0)).set 1 (.bool true)
    refine ⟨rfl, ⟨_, hB1, ?_⟩, grown_same (grown_set _ _) (grown_set _ _)⟩
    exact ⟨none, 0, rfl, Nat.le_refl _, ⟨by simp [maxLen], fun _ => rfl⟩, fun h => absurd rfl h⟩
  · have d1 : decide ((xs.length : Int) < 8) = false := by simp; omega
    have HN : Hid (numV xs = num8 xs ∧ numL xs = xs.drop 8 ∧ numS xs sh = sh) := by simp [Hid, numV, numL, numS, hs]
    have h8 : 8 ≤ xs.length := by omega
    clear hs
    rw [HN.out.1, HN.out.2.1, HN.out.2.2]
    have h8c : 8 ≤ cap := by omega
    go_enter Try.func36, Try.ntmps36
    go_wp2
    go_loopg [3, 24] 8 (fun gg a i wr => ∃ k : Nat, k + gg = 8 ∧ i = .int .i64 k ∧ a = .int .i64 (IntKind.i64.wrap (beNat (xs.take k))) ∧ w = wr)
    case atStart => exact ⟨0, by omega, rfl, rfl, rfl⟩
    case round =>
      obtain ⟨k, hkg, rfl, rfl, rfl⟩ := hrel
      cases gk with
      | zero =>
        have hlt : ¬ ((k : Int) < 8) := by omega
        obtain rfl : k = 8 := by omega
        obtain ⟨b, o, x, rfl, _, _⟩ := HV.out.get (i := 0) (by omega)
        have HH := Lib.hid (HV.out.hi (t := 8) h8)
        by_cases hc8 : cap = 8
        · subst hc8
          go_wp2
          go_ret
          have hB1 := HB.out.set 0 (.slice (some ⟨b, o, none⟩) 0 0)
          refine ⟨rfl, ⟨_, hB1, ?_⟩, grown_set _ _⟩
          have := HH.out
          rw [show xs.length - 8 = 0 from by omega] at this
          exact Sl.rd (by simpa using this) ⟨_, _, _, rfl⟩ HB.out (grown_set _ _)
        · go_wp2
          go_ret
          have hB1 := HB.out.set 0 (.slice (some ⟨b, o + 8, none⟩) (xs.length - 8) (cap - 8))
          refine ⟨rfl, ⟨_, hB1, ?_⟩, grown_set _ _⟩
          have := HH.out
          rw [if_neg hc8] at this
          exact Sl.rd (by simpa [Addr.add_lit] using this) ⟨_, _, _, rfl⟩ HB.out (grown_set _ _)
      | succ gg =>
        have hlt : (k : Int) < 8 := by omega
        obtain ⟨b, o, x, rfl, hcell, HX⟩ := HV.out.get (i := k) (by omega)
        have hx : 0 ≤ x ∧ x < 256 := by rw [← HX.out]; exact hby.out.getD (by omega)
        have HS : Hid (bits .or .i64 (IntKind.i64.wrap (IntKind.i64.wrap (beNat (xs.take k)) * 256)) x = IntKind.i64.wrap (beNat (xs.take (k + 1)))) := by
          show _ = _
          rw [acc_step hx.1 hx.2, beNat_succ xs (by omega), HX.out]
        have hk8 : k < 8 := by omega
        go_wp2
        go_roundg gg
        case measure => omega
        case rel => exact ⟨k + 1, by omega, by go_num, congrArg (Value.int .i64) (by rw [← IntWalk.i64_left, ← IntWalk.i64_left]; exact HS.out), rfl⟩

set_option maxHeartbeats 400000 in
theorem int_any (g : Nat) (xs : List Int) (sh : Bool) (w : World) (hR : Rd w g xs sh) (hby : Hid (Byts xs)) :
    Calls Try.prog 35 #[.pointer (some ⟨g, 0, none⟩)] w (RdR (.int .i64 (numV xs)) g (numL xs) (numS xs sh) w) := by
  have hr : -9223372036854775808 ≤ numV xs ∧ numV xs ≤ 9223372036854775807 := by
    unfold numV
    split
    · omega
    · exact num8_range xs
  have hw : Hid (wrap64 (numV xs) = numV xs) := IntWalk.wrap64_in _ hr
  obtain ⟨r1, r2⟩ := hr
  have HR := Lib.hid hR
  clear hR
  go_enter Try.func35, Try.ntmps35
  go_wp2_with fail
  refine (num_any g xs sh _ HR.out hby).mono ?_
  rintro e w1 ⟨rfl, hR1, hg1⟩
  go_wp2
  go_ret
  exact ⟨rfl, hR1, hg1⟩
theorem short_any (g : Nat) (xs : List Int) (sh : Bool) (w : World) (hR : Rd w g xs sh) :
    Calls Try.prog 41 #[.pointer (some ⟨g, 0, none⟩)] w (Ret (.bool sh) w) := by
  obtain ⟨v, hB, hv⟩ := hR
  have c1 : w.cell? ⟨g, 1, none⟩ = some (.bool sh) := hB.cell 1
  clear hB hv
  go_enter Try.func41, Try.ntmps41
  go_wp2
  go_ret
  exact ⟨rfl, rfl⟩
theorem left_any (g : Nat) (xs : List Int) (sh : Bool) (w : World) (hR : Rd w g xs sh) :
    Calls Try.prog 43 #[.pointer (some ⟨g, 0, none⟩)] w (Ret (.int .i64 xs.length) w) := by
  obtain ⟨v, hB, ao, cap, rfl, h1, ⟨h2, _⟩, _⟩ := hR
  have c0 : w.cell? ⟨g, 0, none⟩ = some (.slice ao xs.length cap) := hB.cell 0
  clear hB
  go_enter Try.func43, Try.ntmps43
  go_wp2
  go_ret
  exact ⟨rfl, rfl⟩
set_option maxHeartbeats 400000 in
theorem byte_any (g : Nat) (xs : List Int) (sh : Bool) (w : World) (hR : Rd w g xs sh) :
    Calls Try.prog 42 #[.pointer (some ⟨g, 0, none⟩)] w (RdR (.int .u8 (byteV xs)) g (byteL xs) (byteS xs sh) w) := by
  obtain ⟨v, hB, hv⟩ := hR
  have HV := Lib.hid hv
  have HB := Lib.hid hB
  obtain ⟨ao, cap, rfl, h1, ⟨h2, _⟩, h3⟩ := hv
  clear h3
  unfold maxLen at h2
  have c0 : w.cell? ⟨g, 0, none⟩ = some (.slice ao xs.length cap) := hB.cell 0
  have c1 : w.cell? ⟨g, 1, none⟩ = some (.bool sh) := hB.cell 1
  have f0 := hB.frozen 0
  have f1 := hB.frozen 1
  clear hB
  by_cases hs : xs.length < 1
  · have d1 : decide ((xs.length : Int) < 1) = true := by simp; omega
    obtain rfl : xs = [] := List.eq_nil_of_length_eq_zero (by omega)
    clear hs
    go_enter Try.func42, Try.ntmps42
    go_wp2
    go_ret
    have hB1 := HB.out.set 1 (.bool true)
    refine ⟨rfl, ⟨_, hB1, ?_⟩, grown_set _ _⟩
    exact Sl.rd HV.out ⟨_, _, _, rfl⟩ HB.out (grown_set _ _)
  · have d1 : decide ((xs.length : Int) < 1) = false := by simp; omega
    have HN : Hid (byteS xs sh = sh) := by simp [Hid, byteS, hs]
    have h8 : 1 ≤ xs.length := by omega
    clear hs
    rw [HN.out]
    have h8c : 1 ≤ cap := by omega
    obtain ⟨b, o, x, rfl, hcell, HX⟩ := HV.out.get (i := 0) (by omega)
    have HXV : Hid (byteV xs = x) := HX.out
    rw [HXV.out]
    have HH := Lib.hid (HV.out.hi (t := 1) h8)
    simp only [Nat.add_zero] at hcell
    by_cases hc8 : cap = 1
    · subst hc8
      go_enter Try.func42, Try.ntmps42
      go_wp2
      go_ret
      have hB1 := HB.out.set 0 (.slice (some ⟨b, o, none⟩) 0 0)
      refine ⟨rfl, ⟨_, hB1, ?_⟩, grown_set _ _⟩
      have := HH.out
      rw [show xs.length - 1 = 0 from by omega] at this
      exact Sl.rd (by simpa [byteL] using this) ⟨_, _, _, rfl⟩ HB.out (grown_set _ _)
    · go_enter Try.func42, Try.ntmps42
      go_wp2
      go_ret
      have hB1 := HB.out.set 0 (.slice (some ⟨b, o + 1, none⟩) (xs.length - 1) (cap - 1))
      refine ⟨rfl, ⟨_, hB1, ?_⟩, grown_set _ _⟩
      have := HH.out
      rw [if_neg hc8] at this
      exact Sl.rd (by simpa [byteL, Addr.add_lit] using this) ⟨_, _, _, rfl⟩ HB.out (grown_set _ _)
end Go.Proofs.Ytdjfpbjlmojikaa

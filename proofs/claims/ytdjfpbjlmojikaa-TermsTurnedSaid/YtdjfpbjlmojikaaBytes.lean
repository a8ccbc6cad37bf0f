/- A number as eight bytes, the highest first, and back: plain mathematics. -/
import Derived.Test.YtdjfpbjlmojikaaLib
namespace Go.Proofs.Ytdjfpbjlmojikaa
open Go.RowKit

theorem bcell {W w1 : World} (hb : Below W.heap.size W w1) : (∀ b o, b < W.heap.size → w1.cell? ⟨b, o, none⟩ = W.cell? ⟨b, o, none⟩) ∧ (∀ b o, b < W.heap.size → w1.frozen? ⟨b, o, none⟩ = W.frozen? ⟨b, o, none⟩) :=
  ⟨fun b o h => hb.cell (p := ⟨b, o, none⟩) h, fun b o h => hb.frozen (p := ⟨b, o, none⟩) h⟩

theorem bl_sc {a b : World} {g o : Nat} {v : Value} (h : Below a.heap.size a b) (hg : a.heap.size ≤ g) : Below a.heap.size a (b.setCell ⟨g, o, none⟩ v) := h.setCell (p := ⟨g, o, none⟩) hg v
theorem bl_gr {a b c : World} {g : Nat} (h : Below a.heap.size a b) (hg : b.grownBy c (some g)) (hge : a.heap.size ≤ g) : Below a.heap.size a c := h.grown hg h.size (fun k hk => by cases hk; exact hge)

/-- the byte of v from bit k on -/
def byteAt (v : Int) (k : Nat) : Int := v / 2 ^ k % 256
/-- the eight bytes of v -/
def be8 (v : Int) : List Int := [byteAt v 56, byteAt v 48, byteAt v 40, byteAt v 32, byteAt v 24, byteAt v 16, byteAt v 8, byteAt v 0]
theorem be8_length (v : Int) : (be8 v).length = 8 := rfl
theorem byteAt_range (v : Int) (k : Nat) : 0 ≤ byteAt v k ∧ byteAt v k < 256 := by
  unfold byteAt
  exact ⟨Int.emod_nonneg _ (by decide), Int.emod_lt_of_pos _ (by decide)⟩
theorem u8_wrap (x : Int) : IntKind.u8.wrap x = x % 256 := by simp [IntKind.wrap, IntKind.bits, IntKind.signed]
theorem u64_wrap (x : Int) : IntKind.u64.wrap x = x % 18446744073709551616 := by simp [IntKind.wrap, IntKind.bits, IntKind.signed]
theorem i64_wrap (x : Int) : IntKind.i64.wrap x = if 9223372036854775808 ≤ x % 18446744073709551616 then x % 18446744073709551616 - 18446744073709551616 else x % 18446744073709551616 := by
  simp [IntKind.wrap, IntKind.bits, IntKind.signed]
theorem i64_spec (x : Int) : ∃ M q : Int, IntKind.i64.wrap x = M ∧ M = x - 18446744073709551616 * q ∧ -9223372036854775808 ≤ M ∧ M ≤ 9223372036854775807 := by
  refine ⟨_, x / 18446744073709551616 + (if 9223372036854775808 ≤ x % 18446744073709551616 then 1 else 0), i64_wrap x, ?_, ?_, ?_⟩ <;> split <;> omega
theorem be8_get (v : Int) {j : Nat} (hj : j < 8) : (be8 v)[j]? = some (byteAt v (56 - 8 * j)) := by
  have : j = 0 ∨ j = 1 ∨ j = 2 ∨ j = 3 ∨ j = 4 ∨ j = 5 ∨ j = 6 ∨ j = 7 := by omega
  rcases this with rfl | rfl | rfl | rfl | rfl | rfl | rfl | rfl <;> rfl
theorem be8_take_succ (v : Int) {j : Nat} (hj : j < 8) : (be8 v).take (j + 1) = (be8 v).take j ++ [byteAt v (56 - 8 * j)] := by
  rw [List.take_add_one, be8_get v hj]; rfl
theorem byteAt_u64 (v : Int) {j : Nat} (hj : j < 8) : byteAt (IntKind.u64.wrap v) (56 - 8 * j) = byteAt v (56 - 8 * j) := by
  rw [u64_wrap]
  unfold byteAt
  have : j = 0 ∨ j = 1 ∨ j = 2 ∨ j = 3 ∨ j = 4 ∨ j = 5 ∨ j = 6 ∨ j = 7 := by omega
  rcases this with rfl | rfl | rfl | rfl | rfl | rfl | rfl | rfl <;> simp <;> omega

/-- the number that bytes are, the highest first -/
def beNat (l : List Int) : Int := l.foldl (fun a c => a * 256 + c) 0
theorem beNat_snoc (l : List Int) (c : Int) : beNat (l ++ [c]) = beNat l * 256 + c := by simp [beNat]
/-- the number of the first eight bytes -/
def num8 (l : List Int) : Int := IntKind.i64.wrap (beNat (l.take 8))
/-- are all of them bytes? -/
def Byts (l : List Int) : Prop := ∀ x ∈ l, 0 ≤ x ∧ x < 256
theorem Byts.take {l : List Int} (h : Byts l) (n : Nat) : Byts (l.take n) := fun x hx => h x (List.mem_of_mem_take hx)
theorem Byts.drop {l : List Int} (h : Byts l) (n : Nat) : Byts (l.drop n) := fun x hx => h x (List.mem_of_mem_drop hx)
theorem Byts.getD {l : List Int} (h : Byts l) {i : Nat} (hi : i < l.length) : 0 ≤ l.getD i 0 ∧ l.getD i 0 < 256 := by
  have := h l[i] (List.getElem_mem hi)
  simpa [List.getD, hi] using this
theorem Byts.be8 (v : Int) : Byts (be8 v) := by
  intro x hx
  simp only [Go.Proofs.Ytdjfpbjlmojikaa.be8, List.mem_cons, List.not_mem_nil, or_false] at hx
  rcases hx with rfl | rfl | rfl | rfl | rfl | rfl | rfl | rfl <;> exact byteAt_range _ _
theorem num8_be8 {v : Int} (h1 : -9223372036854775808 ≤ v) (h2 : v ≤ 9223372036854775807) (l : List Int) : num8 (be8 v ++ l) = v := by
  have e : (be8 v ++ l).take 8 = be8 v := by rw [List.take_append_of_le_length (by simp [be8])]; rfl
  unfold num8
  rw [e]
  obtain ⟨M, q, h, h3, h4, h5⟩ := i64_spec (beNat (be8 v))
  rw [h]
  clear h e
  simp only [beNat, be8, byteAt, List.foldl_cons, List.foldl_nil, Int.reducePow] at h3
  omega
theorem list8 {l : List Int} (h : l.length = 8) : ∃ a b c d e f g i, l = [a, b, c, d, e, f, g, i] := by
  match l, h with
  | [a, b, c, d, e, f, g, i], _ => exact ⟨a, b, c, d, e, f, g, i, rfl⟩
theorem be8_num8 {l : List Int} (h : Byts l) (hl : l.length = 8) : be8 (num8 l) = l := by
  obtain ⟨a, b, c, d, e, f, g, i, rfl⟩ := list8 hl
  have ha := h a (by simp)
  have hb := h b (by simp)
  have hc := h c (by simp)
  have hd := h d (by simp)
  have he := h e (by simp)
  have hf := h f (by simp)
  have hg := h g (by simp)
  have hi := h i (by simp)
  unfold num8
  obtain ⟨M, q, h, h3, h4, h5⟩ := i64_spec (beNat (List.take 8 [a, b, c, d, e, f, g, i]))
  rw [h]
  simp only [beNat, List.foldl_cons, List.foldl_nil, List.take_succ_cons, List.take_zero] at h3
  have h6 : q = 0 ∨ q = 1 := by omega
  simp only [be8, byteAt, List.cons.injEq, and_true, Int.reducePow]
  clear h h4 h5
  rcases h6 with rfl | rfl <;> refine ⟨?_, ?_, ?_, ?_, ?_, ?_, ?_, ?_⟩ <;> omega
theorem num8_range (l : List Int) : -9223372036854775808 ≤ num8 l ∧ num8 l ≤ 9223372036854775807 := by
  unfold num8
  rw [i64_wrap]
  omega

theorem ofInt64 (k : IntKind) (hk : k.bits = 64) (x : Int) : (BitVec.ofInt k.bits x).toNat = (x % 18446744073709551616).toNat := by
  rw [BitVec.toNat_ofInt, hk]
  rfl
theorem or_low (k : IntKind) (hk : k.bits = 64) {x c : Int} (h0 : 0 ≤ c) (h1 : c < 256) (hx : x % 256 = 0) : bits .or k x c = k.wrap (x % 18446744073709551616 + c) := by
  have e1 : (BitVec.ofInt k.bits x).toNat = 256 * ((x % 18446744073709551616) / 256).toNat := by
    rw [ofInt64 k hk]
    omega
  have e2 : (BitVec.ofInt k.bits c).toNat = c.toNat := by
    rw [ofInt64 k hk]
    omega
  have e3 := Nat.two_pow_add_eq_or_of_lt (i := 8) (b := c.toNat) (by omega) (((x % 18446744073709551616) / 256).toNat)
  simp only [Nat.reducePow] at e3
  have e4 : (BitVec.ofInt k.bits x ||| BitVec.ofInt k.bits c).toNat = 256 * ((x % 18446744073709551616) / 256).toNat + c.toNat := by
    rw [BitVec.toNat_or, e1, e2, ← e3]
  show k.wrap ((BitVec.ofInt k.bits x ||| BitVec.ofInt k.bits c).toNat : Int) = _
  rw [e4]
  congr 1
  omega
theorem bits_or_i64 {a c : Int} (h0 : 0 ≤ c) (h1 : c < 256) : bits .or .i64 (IntKind.i64.wrap (a * 256)) c = IntKind.i64.wrap (a * 256 + c) := by
  rw [or_low .i64 rfl h0 h1 (by rw [i64_wrap]; split <;> omega), i64_wrap, i64_wrap, i64_wrap]
  split <;> split <;> split <;> omega
theorem bits_or_u64 {a c : Int} (h0 : 0 ≤ c) (h1 : c < 256) : bits .or .u64 (IntKind.u64.wrap (a * 256)) c = IntKind.u64.wrap (a * 256 + c) := by
  rw [or_low .u64 rfl h0 h1 (by rw [u64_wrap]; omega), u64_wrap, u64_wrap, u64_wrap]
  omega
end Go.Proofs.Ytdjfpbjlmojikaa

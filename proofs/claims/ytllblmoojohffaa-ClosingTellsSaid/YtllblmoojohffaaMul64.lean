/- math/bits: Mul64, Len64, LeadingZeros64, as the program has them. No condition. -/
import Derived.Test.YtllblmoojohffaaLib
import Derived.Lib.Mul64
import Derived.Laws.Bits64b
import Derived.Lib.BitFns
import Derived.Lib.Walk
import Derived.Lib.ItoaNum
namespace Go.Proofs.Ytllblmoojohffaa
open Go.RowKit

theorem c_mask (a : Nat) (ha : a < 18446744073709551616) : bits .and .u64 (a : Int) 4294967295 = ((a % 4294967296 : Nat) : Int) := by
  have h := bits_and_u64_nat a 4294967295 ha (by omega)
  rw [show a &&& 4294967295 = a % 4294967296 from Nat.and_two_pow_sub_one_eq_mod a 32] at h
  exact h
theorem c_div (a : Nat) : (a : Int) / 4294967296 = ((a / 4294967296 : Nat) : Int) := by omega
theorem c_mul (a b : Nat) : (a : Int) * (b : Int) = ((a * b : Nat) : Int) := (Int.natCast_mul a b).symm
theorem c_add (a b : Nat) : (a : Int) + (b : Int) = ((a + b : Nat) : Int) := (Int.natCast_add a b).symm
theorem c_wrap (a : Nat) (ha : a < 18446744073709551616) : IntKind.u64.wrap (a : Int) = (a : Int) := by rw [IntKind.wrap_u64]; omega
theorem c_wrapM (a : Nat) : IntKind.u64.wrap (a : Int) = ((a % 18446744073709551616 : Nat) : Int) := by rw [IntKind.wrap_u64]; omega

set_option maxHeartbeats 1000000 in
theorem mul64_any (x y : Nat) (hx : x < 18446744073709551616) (hy : y < 18446744073709551616) (w : World) :
    Calls Try.prog 40 #[.int .u64 x, .int .u64 y] w (Ret (.tuple #[.int .u64 ((x * y / 18446744073709551616 : Nat) : Int), .int .u64 ((x * y % 18446744073709551616 : Nat) : Int)]) w) := by
  obtain ⟨bd, bt, bw, hhi⟩ := Lib.mul64_hi x y hx hy
  have ba := Lib.half_mul_le (a := x / 4294967296) (b := y / 4294967296) (by omega) (by omega)
  have bb := Lib.half_mul_le (a := x / 4294967296) (b := y % 4294967296) (by omega) (by omega)
  have bc := Lib.half_mul_le (a := x % 4294967296) (b := y / 4294967296) (by omega) (by omega)
  have ba' : x / 4294967296 * (y / 4294967296) < 18446744073709551616 := by omega
  have bb' : x / 4294967296 * (y % 4294967296) < 18446744073709551616 := by omega
  have bc' : x % 4294967296 * (y / 4294967296) < 18446744073709551616 := by omega
  have bh1 : x / 4294967296 * (y / 4294967296) + (x / 4294967296 * (y % 4294967296) + x % 4294967296 * (y % 4294967296) / 4294967296) / 4294967296 < 18446744073709551616 := by omega
  have bh : x / 4294967296 * (y / 4294967296) + (x / 4294967296 * (y % 4294967296) + x % 4294967296 * (y % 4294967296) / 4294967296) / 4294967296 + ((x / 4294967296 * (y % 4294967296) + x % 4294967296 * (y % 4294967296) / 4294967296) % 4294967296 + x % 4294967296 * (y / 4294967296)) / 4294967296 < 18446744073709551616 := by omega
  go_enter Try.func40, Try.ntmps40
  go_wp2
  simp only [c_mask x hx, c_mask y hy, c_div, c_mul, c_add, c_wrap _ bd, c_wrap _ bb', c_wrap _ bt, c_mask _ bt, c_wrap _ bc', c_wrap _ bw, c_wrap _ ba', c_wrap _ bh1, c_wrap _ bh, c_wrapM (x * y)]
  rw [hhi]
  go_ret2
  exact ⟨rfl, rfl⟩

set_option maxRecDepth 100000 in
theorem len8_size : Lib.len8tab.size = 256 := by decide
theorem len8_read (y : Int) (h : y.toNat < Lib.len8tab.size) : ((Lib.len8tab[y.toNat]'h).toNat : Int) = Lib.len8 y := by
  unfold Lib.len8
  rw [getElem?_pos Lib.len8tab y.toNat h]
  rfl
theorem wrap_sum (k a b : Nat) (hk : k ≤ 56) (ha : a ≤ 8) (hb : b = k + a) : wrap64 ((k : Int) + wrap64 (a : Int)) = (b : Int) := by
  unfold wrap64
  omega
theorem wrap_twice (a : Nat) (ha : a ≤ 8) : wrap64 (wrap64 (a : Int)) = (a : Int) := by
  unfold wrap64
  omega
theorem len_end (x y : Int) (k n : Nat) (h : y.toNat < Lib.len8tab.size) (hy0 : 0 ≤ y) (hy : y ≤ 255) (hk : k ≤ 56) (hyx : y.toNat = n) (hs : Lib.bitLen x.toNat = k + Lib.bitLen n) :
    wrap64 ((k : Int) + wrap64 ((Lib.len8tab[y.toNat]'h).toNat : Int)) = (Lib.bitLen x.toNat : Int) := by
  rw [len8_read y h, Lib.len8_of y hy0 hy]
  exact wrap_sum k _ _ hk (Lib.bitLen_le8' y hy0 hy) (by rw [hs, hyx])
theorem len_end0 (x : Int) (h : x.toNat < Lib.len8tab.size) (h0 : 0 ≤ x) (hx : x ≤ 255) : wrap64 (wrap64 ((Lib.len8tab[x.toNat]'h).toNat : Int)) = (Lib.bitLen x.toNat : Int) := by
  rw [len8_read x h, Lib.len8_of x h0 hx]
  exact wrap_twice _ (Lib.bitLen_le8' x h0 hx)

set_option maxHeartbeats 4000000 in
set_option maxRecDepth 100000 in
theorem len64_any (x : Int) (w : World) (h0 : 0 ≤ x) (h1 : x ≤ 18446744073709551615) :
    Calls Try.prog 81 #[.int .u64 x] w (Ret (.int .i64 (Lib.bitLen x.toNat)) w) := by
  go_enter Try.func81, Try.ntmps81
  go_wp2
  all_goals first
    | (go_ret; refine ⟨congrArg Ending.returned (congrArg (Value.int IntKind.i64) ?_), rfl⟩)
    | (exfalso
       have hs := len8_size
       omega)
  all_goals first
    | exact len_end x (x / 4294967296 / 65536 / 256) 56 _ _ (by omega) (by omega) (by omega) (by omega) (Lib.bitLen_shift56 x.toNat (by omega) (by omega))
    | exact len_end x (x / 4294967296 / 65536) 48 _ _ (by omega) (by omega) (by omega) (by omega) (Lib.bitLen_shift48 x.toNat (by omega) (by omega))
    | exact len_end x (x / 4294967296 / 256) 40 _ _ (by omega) (by omega) (by omega) (by omega) (Lib.bitLen_shift40 x.toNat (by omega) (by omega))
    | exact len_end x (x / 4294967296) 32 _ _ (by omega) (by omega) (by omega) (by omega) (Lib.bitLen_shift32 x.toNat (by omega) (by omega))
    | exact len_end x (x / 65536 / 256) 24 _ _ (by omega) (by omega) (by omega) (by omega) (Lib.bitLen_shift24 x.toNat (by omega) (by omega))
    | exact len_end x (x / 65536) 16 _ _ (by omega) (by omega) (by omega) (by omega) (Lib.bitLen_shift16 x.toNat (by omega) (by omega))
    | exact len_end x (x / 256) 8 _ _ (by omega) (by omega) (by omega) (by omega) (Lib.bitLen_shift8 x.toNat (by omega) (by omega))
    | exact len_end0 x _ h0 (by omega)

/-- How far a number that is not 0 is shifted up till its highest bit stands at the top. -/
theorem lz_spec (y : Nat) (h0 : 0 < y) (h : y < 18446744073709551616) : Lib.bitLen y ≤ 64 ∧ 9223372036854775808 ≤ y * 2 ^ (64 - Lib.bitLen y) ∧ y * 2 ^ (64 - Lib.bitLen y) < 18446744073709551616 := by
  have e64 : (2 : Nat) ^ 64 = 18446744073709551616 := by decide
  obtain ⟨b1, b2, b3⟩ := Lib.bitLenAux_bounds 64 y (by rw [e64]; exact h) (by omega)
  have b4 := Lib.bitLen_le y 64 (by omega) (by rw [e64]; exact h)
  have e : Lib.bitLenAux 64 y = Lib.bitLen y := rfl
  rw [e] at b1 b2 b3
  refine ⟨b4, ?_, ?_⟩
  · have := Nat.mul_le_mul_right (2 ^ (64 - Lib.bitLen y)) b2
    rwa [← Nat.pow_add, show Lib.bitLen y - 1 + (64 - Lib.bitLen y) = 63 by omega] at this
  · have := Nat.mul_lt_mul_of_pos_right b3 (Nat.two_pow_pos (64 - Lib.bitLen y))
    rwa [← Nat.pow_add, show Lib.bitLen y + (64 - Lib.bitLen y) = 64 by omega] at this

theorem lz64_any (y s : Nat) (w : World) (h0 : 0 < y) (h1 : y < 18446744073709551616) (hs : Hid (64 - Lib.bitLen y = s)) :
    Calls Try.prog 77 #[.int .u64 y] w (Ret (.int .i64 s) w) := by
  have l := (lz_spec y h0 h1).1
  have e8 : (64 - (Lib.bitLen y : Int) + 9223372036854775808) % 18446744073709551616 - 9223372036854775808 = 64 - (Lib.bitLen y : Int) := by omega
  have e9 : 64 - (Lib.bitLen y : Int) = (s : Int) := by have := hs.out; omega
  clear hs
  have e1 : ((y : Int)).toNat = y := by omega
  go_enter Try.func77, Try.ntmps77
  go_wp2_with fail
  refine (len64_any (y : Int) _ (by omega) (by omega)).mono ?_
  rintro e w' ⟨rfl, rfl⟩
  go_wp2
  go_ret
  refine ⟨ret_int ?_, rfl⟩
  first | omega | (simp only [IntKind.wrap_i64]; omega) | (unfold wrap64; omega)
end Go.Proofs.Ytllblmoojohffaa

/- TopPaid: parts of the proof, made small by a program (mini.py). -/
import Derived.Laws.Bits64b
import Derived.Lib.BitFns
import Derived.Lib.ItoaNum
import Derived.Lib.Mul64
import Derived.Lib.Walk
import Derived.Test.YtkongpjpkpfniaaGreatM01
set_option linter.unusedVariables false
set_option linter.unusedSimpArgs false
set_option maxRecDepth 100000
set_option maxHeartbeats 6400000
namespace Go.Proofs.YtkongpjpkpfniaaGreat
open Go.RowKit
theorem yo6 (a:Nat) (ha:a<18446744073709551616):bits .and .u64 (a:Int) 4294967295=((a%4294967296:Nat):Int):= by
 have h:=bits_and_u64_nat a 4294967295 ha om;rw [show a &&& 4294967295=a%4294967296 from Nat.and_two_pow_sub_one_eq_mod a 32] at h;exact h
theorem jaz (a:Nat):(a:Int)/4294967296=((a/4294967296:Nat):Int):=by omega
theorem jat (a b:Nat):(a:Int)*(b:Int)=((a*b:Nat):Int):=(Int.natCast_mul a b).symm
theorem jay (a b:Nat):(a:Int)+(b:Int)=((a+b:Nat):Int):=(Int.natCast_add a b).symm
theorem ydf (a:Nat) (ha:a<18446744073709551616):IntKind.u64.wrap (a:Int)=(a:Int):=by rw [IntKind.wrap_u64];omega
theorem yu0 (a:Nat):IntKind.u64.wrap (a:Int)=((a%18446744073709551616:Nat):Int):=by rw [IntKind.wrap_u64];omega
theorem yoj (x y:Nat) (hx:x<18446744073709551616) (hy:y<18446744073709551616) (w:World) :
 Calls Tryz.prog 239 #[.int .u64 x,.int .u64 y] w (Ret (.tuple #[.int .u64 ((x*y/18446744073709551616:Nat):Int),.int .u64 ((x*y%18446744073709551616:Nat):Int)]) w):= by
 obtain ⟨bd,bt,bw,hhi⟩:=Lib.mul64_hi x y hx hy;have ba:=Lib.half_mul_le (a:=x/4294967296) (b:=y/4294967296) om om;have bb:=Lib.half_mul_le (a:=x/4294967296) (b:=y%4294967296) om om;have bc:=Lib.half_mul_le (a:=x%4294967296) (b:=y/4294967296) om om;have ba':x/4294967296*(y/4294967296)<18446744073709551616:=by omega
 have bb':x/4294967296*(y%4294967296)<18446744073709551616:=by omega
 have bc':x%4294967296*(y/4294967296)<18446744073709551616:=by omega
 have bh1:x/4294967296*(y/4294967296)+(x/4294967296*(y%4294967296)+x%4294967296*(y%4294967296)/4294967296)/4294967296<18446744073709551616:=by omega
 have bh:x/4294967296*(y/4294967296)+(x/4294967296*(y%4294967296)+x%4294967296*(y%4294967296)/4294967296)/4294967296+((x/4294967296*(y%4294967296)+x%4294967296*(y%4294967296)/4294967296)%4294967296+x%4294967296*(y/4294967296))/4294967296<18446744073709551616:=by omega
 go_enter Tryz.func239,Tryz.ntmps239
 go_wp2
 simp only [yo6 x hx,yo6 y hy,jaz,jat,jay,ydf _ bd,ydf _ bb',ydf _ bt,yo6 _ bt,ydf _ bc',ydf _ bw,ydf _ ba',ydf _ bh1,ydf _ bh,yu0 (x*y)];rw [hhi]
 go_ret2
 exact ⟨rfl,rfl⟩
theorem yu8:Lib.len8tab.size=256:=by decide
theorem yn5 (y:Int) (h:y.toNat<Lib.len8tab.size):((Lib.len8tab[y.toNat]'h).toNat:Int)=Lib.len8 y:= by
 unfold Lib.len8;rw [getElem?_pos Lib.len8tab y.toNat h]
 rfl
theorem yw7 (k a b:Nat) (hk:k≤56) (ha:a≤8) (hb:b=k+a):wrap64 ((k:Int)+wrap64 (a:Int))=(b:Int):= by
 unfold wrap64;omega
theorem ysm (a:Nat) (ha:a≤8):wrap64 (wrap64 (a:Int))=(a:Int):= by
 unfold wrap64;omega
theorem yg0 (x y:Int) (k n:Nat) (h:y.toNat<Lib.len8tab.size) (hy0:0≤y) (hy:y≤255) (hk:k≤56) (hyx:y.toNat=n) (hs:Lib.bitLen x.toNat=k+Lib.bitLen n) :
 wrap64 ((k:Int)+wrap64 ((Lib.len8tab[y.toNat]'h).toNat:Int))=(Lib.bitLen x.toNat:Int):= by
 rw [yn5 y h,Lib.len8_of y hy0 hy];exact yw7 k _ _ hk (Lib.bitLen_le8' y hy0 hy) (by rw [hs,hyx])
theorem yxy (x:Int) (h:x.toNat<Lib.len8tab.size) (h0:0≤x) (hx:x≤255):wrap64 (wrap64 ((Lib.len8tab[x.toNat]'h).toNat:Int))=(Lib.bitLen x.toNat:Int):= by
 rw [yn5 x h,Lib.len8_of x h0 hx];exact ysm _ (Lib.bitLen_le8' x h0 hx)
theorem yuy (x:Int) (w:World) (h0:0≤x) (h1:x≤18446744073709551615) :
 Calls Tryz.prog 248 #[.int .u64 x] w (Ret (iV (Lib.bitLen x.toNat)) w):= by
 go_enter Tryz.func248,Tryz.ntmps248
 go_wp2
 all_goals first
  | (go_ret;refine ⟨congrArg Ending.returned (congrArg (Value.int IntKind.i64) ?_),rfl⟩)
  | (exfalso
     have hs:=yu8;omega)
 all_goals first
  | exact yg0 x (x/4294967296/65536/256) 56 _ _ om om om om (Lib.bitLen_shift56 x.toNat om om)
  | exact yg0 x (x/4294967296/65536) 48 _ _ om om om om (Lib.bitLen_shift48 x.toNat om om)
  | exact yg0 x (x/4294967296/256) 40 _ _ om om om om (Lib.bitLen_shift40 x.toNat om om)
  | exact yg0 x (x/4294967296) 32 _ _ om om om om (Lib.bitLen_shift32 x.toNat om om)
  | exact yg0 x (x/65536/256) 24 _ _ om om om om (Lib.bitLen_shift24 x.toNat om om)
  | exact yg0 x (x/65536) 16 _ _ om om om om (Lib.bitLen_shift16 x.toNat om om)
  | exact yg0 x (x/256) 8 _ _ om om om om (Lib.bitLen_shift8 x.toNat om om)
  | exact yxy x _ h0 om
theorem ytt (y:Nat) (h0:0<y) (h:y<18446744073709551616):Lib.bitLen y≤64∧9223372036854775808≤y*2 ^ (64-Lib.bitLen y)∧y*2 ^ (64-Lib.bitLen y)<18446744073709551616:= by
 have e64:(2:Nat) ^ 64=18446744073709551616:=by decide
 obtain ⟨b1,b2,b3⟩:=Lib.bitLenAux_bounds 64 y (by rw [e64];exact h) om;have b4:=Lib.bitLen_le y 64 om (by rw [e64];exact h);have e:Lib.bitLenAux 64 y=Lib.bitLen y:=rfl;rw [e] at b1 b2 b3;refine ⟨b4,?_,?_⟩
 ·have:=Nat.mul_le_mul_right (2 ^ (64-Lib.bitLen y)) b2
  rwa [←Nat.pow_add,show Lib.bitLen y-1+(64-Lib.bitLen y)=63 by omega] at this
 ·have:=Nat.mul_lt_mul_of_pos_right b3 (Nat.two_pow_pos (64-Lib.bitLen y))
  rwa [←Nat.pow_add,show Lib.bitLen y+(64-Lib.bitLen y)=64 by omega] at this
theorem yxl (y s:Nat) (w:World) (h0:0<y) (h1:y<18446744073709551616) (hs:Hid (64-Lib.bitLen y=s)) :
 Calls Tryz.prog 247 #[.int .u64 y] w (Ret (iV s) w):= by
 have l:=(ytt y h0 h1).1;have e8:(64-(Lib.bitLen y:Int)+9223372036854775808)%18446744073709551616-9223372036854775808=64-(Lib.bitLen y:Int):=by omega
 have e9:64-(Lib.bitLen y:Int)=(s:Int):=by have:=hs.out;omega
 clear hs;have e1:((y:Int)).toNat=y:=by omega
 go_enter Tryz.func247,Tryz.ntmps247
 go_wp2_with fail
 refine (yuy (y:Int) _ om om).mono ?_;rintro e w' ⟨rfl,rfl⟩;go_wp2
 go_ret
 refine ⟨ype ?_,rfl⟩
 first | omega | (simp only [IntKind.wrap_i64];omega) | (unfold wrap64;omega)
end Go.Proofs.YtkongpjpkpfniaaGreat

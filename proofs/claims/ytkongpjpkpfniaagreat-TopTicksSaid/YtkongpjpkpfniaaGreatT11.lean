/- TopTicks: parts of the proof, made small by a program (mini.py). -/
import Derived.Laws.Bits64b
import Derived.Lib.BitFns
import Derived.Lib.ItoaNum
import Derived.Lib.Mul64
import Derived.Lib.Walk
import Derived.Test.YtkongpjpkpfniaaGreatT01
import Derived.Test.YtkongpjpkpfniaaGreatT02
import Derived.Test.YtkongpjpkpfniaaGreatT03
set_option linter.unusedVariables false
set_option linter.unusedSimpArgs false
set_option maxRecDepth 100000
set_option maxHeartbeats 6400000
namespace Go.Proofs.YtkongpjpkpfniaaGreat
open Go.RowKit
theorem zq1117f0 {q:Prop} (h:q:= by
 obtain ⟨g,hge⟩:∃g,g=gk-1:=⟨_,rfl⟩;have hg0:gk=g+1:=by have:=HI2.out.1;omega
 obtain ⟨S,hS⟩:∃S,R+y1=S:=⟨_,rfl⟩;have HI3:Hid (Inv U l1 y1 y0 g S):=by rw [hge,<-hS];exact HI2.out.2
 clear HI HI2 hge;have m1:IntKind.u64.wrap ((gk:Int)-1)=(g:Int):=by rw [yav];omega
 have m2:IntKind.u64.wrap ((R:Int)+(y1:Int))=(S:Int):=by rw [yav];omega
 have HG:=lh (show g<=4294967296 by omega);have HLT:=lh (show g<gk by omega);clear hS hg0
 by_cases hbr:4294967296<=S
 ·have hbr':(4294967296:Int)<=(S:Int):=by omega
  have HQ:Hid (g=(U*4294967296+l1)/(y1*4294967296+y0)):=inv_break HI3.out om om HG.out hbr;clear HI3;clear hbr hg1 hR;try clear h1
  try clear h2
  obtain ⟨gk,rfl⟩:∃k,k=g:=⟨g,rfl⟩;exact zq11426c
 ·exact zq11e0d9):q:=h
theorem zq11e0d9 {q:Prop} (h:q:= by
 have hbr':¬(4294967296:Int)<=(S:Int):=by omega
 have HBR:=lh hbr;clear hbr hg1 hR;try clear h1
 try clear h2
 go_wp2
 go_roundg g
 case measure=>exact HLT.out
 case rel=>exact ⟨S,rfl,rfl,HI3,Nat.le_trans HG.out om,Nat.lt_of_not_le HBR.out,rfl⟩):q:=h
theorem zq11426c {q:Prop} (h:q:= by
 obtain ⟨Q1,rfl⟩:∃Q,Q=gk:=⟨gk,rfl⟩;have HQ1:=HQ;obtain ⟨X,hX⟩:∃X,X=(U*4294967296+l1)%Y:=⟨_,rfl⟩;have HX:=lh hX;have hXY:X<Y:=by rw [hX];exact Nat.mod_lt _ (by have:=hYe.out;omega)
 have hu2:X<y1*4294967296+y0:=by rw [hYe.out];exact hXY
 have hQ32:Q1<4294967296:=by rw [HQ1.out];exact digit_lt U l1 y1 y0 hl1 hu1
 obtain ⟨P,hP⟩:∃P,Q1*Y=P:=⟨_,rfl⟩;have hpz:=ymp (A:=0) (U*4294967296+l1) Y Q1 P X rfl HQ1.out hYe.out hP hX.symm (by have:=hYe.out;omega);have hYb:Y<18446744073709551616:=by rw [<-hYe.out];omega
 obtain ⟨a1,ha1⟩:∃b,b=U*4294967296%18446744073709551616:=⟨_,rfl⟩;obtain ⟨a2,ha2⟩:∃b,b=(U*4294967296+l1)%18446744073709551616:=⟨_,rfl⟩;obtain ⟨a3,ha3⟩:∃b,b=P%18446744073709551616:=⟨_,rfl⟩;clear hX;have n1:IntKind.u64.wrap ((U:Int)*4294967296)=(a1:Int):=by rw [yav];omega
 have n2:IntKind.u64.wrap ((a1:Int)+(l1:Int))=(a2:Int):=by rw [yav];omega
 have n3:IntKind.u64.wrap ((Q1:Int)*(Y:Int))=(a3:Int):=by rw [<-Int.natCast_mul,hP,yav];omega
 have n4:IntKind.u64.wrap ((a2:Int)-(a3:Int))=(X:Int):=by rw [yav];omega
 clear hP hpz ha1 ha2 ha3;have HS2:=lh (inv_start X l0 y1 y0 om om);have hql2:=start_le (u:=X) (y1:=y1) (y0:=y0) hu2 om om;have hrl2:X%y1<y1:=Nat.mod_lt _ om;obtain ⟨q2,hq2⟩:∃q,X/y1=q:=⟨_,rfl⟩;obtain ⟨r2,hr2⟩:∃r,X%y1=r:=⟨_,rfl⟩;rw [hq2,hr2] at HS2;rw [hq2] at hql2;rw [hr2] at hrl2;have hqy2:q2*y1+r2=X:=HS2.out.1;have w2a:IntKind.u64.wrap ((X:Int)/(y1:Int))=(q2:Int):=by rw [<-Int.natCast_ediv,hq2];exact ydf _ om
 have w2b:IntKind.u64.wrap ((q2:Int)*(y1:Int))=((q2*y1:Nat):Int):=by rw [<-Int.natCast_mul];exact ydf _ (by generalize q2*y1=A at *;omega)
 have w2c:IntKind.u64.wrap ((X:Int)-((q2*y1:Nat):Int))=(r2:Int):= by
  rw [show ((X:Int)-((q2*y1:Nat):Int))=(r2:Int) by generalize q2*y1=A at *;omega];exact ydf _ om
 have w2d:IntKind.u64.wrap ((X:Int)-(q2:Int)*(y1:Int))=(r2:Int):=by rw [<-Int.natCast_mul];exact w2c
 clear hq2 hr2 hqy2
 go_wp2_with fail
 clear w2a w2b w2c w2d;go_loopg [18,16] q2 (fun g q r wr=>∃R:Nat,q=.int .u64 g/\r=.int .u64 R/\Hid (Inv X l0 y1 y0 g R)/\g<=4294967297/\R<4294967296/\w=wr)
 case atStart=>exact ⟨r2,rfl,rfl,HS2,by omega,by omega,rfl⟩
 case round =>
  obtain ⟨R,rfl,rfl,HI,hg1,hR,rfl⟩:=hrel;have HFB:=lh (And.intro hg1 hR);clear HS2 hrl2 hql2;obtain ⟨A,hA⟩:∃A,gk*y0=A:=⟨_,rfl⟩;have HA:=lh hA
  have HAB:Hid (gk<4294967296->A<18446744073709551616):=fun h=>by
   have:=Nat.mul_le_mul (show gk<=4294967295 by omega) (show y0<=4294967295 by omega);rw [hA] at this;omega
  clear hA;obtain ⟨B,hB⟩:∃B,4294967296*R+l0=B:=⟨_,rfl⟩;have HB:=lh hB;have k1:IntKind.u64.wrap (4294967296*(R:Int))=4294967296*(R:Int):=by rw [yav];omega
  have k3:IntKind.u64.wrap (4294967296*(R:Int)+(l0:Int))=(B:Int):=by rw [yav];omega
  clear hB
  by_cases h1:4294967296<=gk
  ·have HI2:=lh (inv_step (l:=l0) (y0:=y0) HI.out om hu2 (Or.inl h1))
   have t1':(4294967296:Int)<=(gk:Int):=by omega
   clear HAB;obtain ⟨g,hge⟩:∃g,g=gk-1:=⟨_,rfl⟩;have hg0:gk=g+1:=by have:=HI2.out.1;omega
   obtain ⟨S,hS⟩:∃S,R+y1=S:=⟨_,rfl⟩;have HI3:Hid (Inv X l0 y1 y0 g S):=by rw [hge,<-hS];exact HI2.out.2
   clear HI HI2 hge;have m1:IntKind.u64.wrap ((gk:Int)-1)=(g:Int):=by rw [yav];omega
   have m2:IntKind.u64.wrap ((R:Int)+(y1:Int))=(S:Int):=by rw [yav];omega
   have HG:=lh (show g<=4294967296 by omega);have HLT:=lh (show g<gk by omega);clear hS hg0
   by_cases hbr:4294967296<=S
   ·have hbr':(4294967296:Int)<=(S:Int):=by omega
    have HQ:Hid (g=(X*4294967296+l0)/(y1*4294967296+y0)):=inv_break HI3.out om om HG.out hbr;clear HI3;clear hbr hg1 hR;try clear h1
    try clear h2
    obtain ⟨gk,rfl⟩:∃k,k=g:=⟨g,rfl⟩;have HEND:=lh (yqk hi lo y s Y y1 y0 U l1 l0 Q1 X gk hY.out hYe.out hN.out HQ1.out HX.out HQ.out om);have hg32:gk<4294967296:=by rw [HQ.out];exact digit_lt X l0 y1 y0 hl0 hu2
    obtain ⟨P,hP⟩:∃P,gk*Y=P:=⟨_,rfl⟩;obtain ⟨Z,hZ⟩:∃Z,(X*4294967296+l0)%Y=Z:=⟨_,rfl⟩;have HPZ:=lh (ymp (A:=0) (X*4294967296+l0) Y gk P Z rfl HQ.out hYe.out hP hZ om);rw [hZ] at HEND;obtain ⟨b1,hb1⟩:∃b,b=Q1*4294967296:=⟨_,rfl⟩;obtain ⟨c1,hc1⟩:∃b,b=X*4294967296%18446744073709551616:=⟨_,rfl⟩;obtain ⟨c2,hc2⟩:∃b,b=(X*4294967296+l0)%18446744073709551616:=⟨_,rfl⟩;obtain ⟨c3,hc3⟩:∃b,b=P%18446744073709551616:=⟨_,rfl⟩;rw [HQQ.out,HRR.out] at HEND;have hends:=HEND.out;have hpzs:=HPZ.out;have p1:IntKind.u64.wrap ((Q1:Int)*4294967296)=(b1:Int):=by rw [yav];omega
    have p2:IntKind.u64.wrap ((b1:Int)+(gk:Int))=(qq:Int):=by rw [yav];omega
    have p3:IntKind.u64.wrap ((X:Int)*4294967296)=(c1:Int):=by rw [yav];omega
    have p4:IntKind.u64.wrap ((c1:Int)+(l0:Int))=(c2:Int):=by rw [yav];omega
    have p5:IntKind.u64.wrap ((gk:Int)*(Y:Int))=(c3:Int):=by rw [<-Int.natCast_mul,hP,yav];omega
    have p6:IntKind.u64.wrap ((c2:Int)-(c3:Int))=(Z:Int):=by rw [yav];omega
    have p7:(Z:Int)/2 ^ s=(rr:Int):=by rw [show ((2:Int) ^ s)=((2 ^ s:Nat):Int) by push_cast;rfl,<-Int.natCast_ediv,hends.2]
    clear hP hZ hb1 hc1 hc2 hc3 hends hpzs HEND HPZ hg32;go_wp2
    go_ret2
    exact ⟨rfl,bL⟩
   ·have hbr':¬(4294967296:Int)<=(S:Int):=by omega
    have HBR:=lh hbr;clear hbr hg1 hR;try clear h1
    try clear h2
    go_wp2
    go_roundg g
    case measure=>exact HLT.out
    case rel=>exact ⟨S,rfl,rfl,HI3,Nat.le_trans HG.out om,Nat.lt_of_not_le HBR.out,rfl⟩
  ·have h1':gk<4294967296:=by omega
   have hAl:=HAB.out h1';have k0:IntKind.u64.wrap ((gk:Int)*(y0:Int))=(A:Int):=by rw [<-Int.natCast_mul,HA.out];exact ydf _ hAl
   have t1:¬4294967296<=gk:=h1;have t1':¬(4294967296:Int)<=(gk:Int):=by omega
   clear HAB
   by_cases h2:B<A
   ·have HI2:=lh (inv_step (l:=l0) (y0:=y0) HI.out om hu2 (Or.inr (by rw [HA.out,HB.out];exact h2)))
    have h2':(B:Int)<(A:Int):=by omega
    obtain ⟨g,hge⟩:∃g,g=gk-1:=⟨_,rfl⟩;have hg0:gk=g+1:=by have:=HI2.out.1;omega
    obtain ⟨S,hS⟩:∃S,R+y1=S:=⟨_,rfl⟩;have HI3:Hid (Inv X l0 y1 y0 g S):=by rw [hge,<-hS];exact HI2.out.2
    clear HI HI2 hge;have m1:IntKind.u64.wrap ((gk:Int)-1)=(g:Int):=by rw [yav];omega
    have m2:IntKind.u64.wrap ((R:Int)+(y1:Int))=(S:Int):=by rw [yav];omega
    have HG:=lh (show g<=4294967296 by omega);have HLT:=lh (show g<gk by omega);clear hS hg0
    by_cases hbr:4294967296<=S
    ·have hbr':(4294967296:Int)<=(S:Int):=by omega
     have HQ:Hid (g=(X*4294967296+l0)/(y1*4294967296+y0)):=inv_break HI3.out om om HG.out hbr;clear HI3;clear hbr hg1 hR;try clear h1
     try clear h2
     obtain ⟨gk,rfl⟩:∃k,k=g:=⟨g,rfl⟩;have HEND:=lh (yqk hi lo y s Y y1 y0 U l1 l0 Q1 X gk hY.out hYe.out hN.out HQ1.out HX.out HQ.out om);have hg32:gk<4294967296:=by rw [HQ.out];exact digit_lt X l0 y1 y0 hl0 hu2
     obtain ⟨P,hP⟩:∃P,gk*Y=P:=⟨_,rfl⟩;obtain ⟨Z,hZ⟩:∃Z,(X*4294967296+l0)%Y=Z:=⟨_,rfl⟩;have HPZ:=lh (ymp (A:=0) (X*4294967296+l0) Y gk P Z rfl HQ.out hYe.out hP hZ om);rw [hZ] at HEND;obtain ⟨b1,hb1⟩:∃b,b=Q1*4294967296:=⟨_,rfl⟩;obtain ⟨c1,hc1⟩:∃b,b=X*4294967296%18446744073709551616:=⟨_,rfl⟩;obtain ⟨c2,hc2⟩:∃b,b=(X*4294967296+l0)%18446744073709551616:=⟨_,rfl⟩;obtain ⟨c3,hc3⟩:∃b,b=P%18446744073709551616:=⟨_,rfl⟩;rw [HQQ.out,HRR.out] at HEND;have hends:=HEND.out;have hpzs:=HPZ.out;have p1:IntKind.u64.wrap ((Q1:Int)*4294967296)=(b1:Int):=by rw [yav];omega
     have p2:IntKind.u64.wrap ((b1:Int)+(gk:Int))=(qq:Int):=by rw [yav];omega
     have p3:IntKind.u64.wrap ((X:Int)*4294967296)=(c1:Int):=by rw [yav];omega
     have p4:IntKind.u64.wrap ((c1:Int)+(l0:Int))=(c2:Int):=by rw [yav];omega
     have p5:IntKind.u64.wrap ((gk:Int)*(Y:Int))=(c3:Int):=by rw [<-Int.natCast_mul,hP,yav];omega
     have p6:IntKind.u64.wrap ((c2:Int)-(c3:Int))=(Z:Int):=by rw [yav];omega
     have p7:(Z:Int)/2 ^ s=(rr:Int):=by rw [show ((2:Int) ^ s)=((2 ^ s:Nat):Int) by push_cast;rfl,<-Int.natCast_ediv,hends.2]
     clear hP hZ hb1 hc1 hc2 hc3 hends hpzs HEND HPZ hg32;go_wp2
     go_ret2
     exact ⟨rfl,bL⟩
    ·have hbr':¬(4294967296:Int)<=(S:Int):=by omega
     have HBR:=lh hbr;clear hbr hg1 hR;try clear h1
     try clear h2
     go_wp2
     go_roundg g
     case measure=>exact HLT.out
     case rel=>exact ⟨S,rfl,rfl,HI3,Nat.le_trans HG.out om,Nat.lt_of_not_le HBR.out,rfl⟩
   ·have HQ:Hid (gk=(X*4294967296+l0)/(y1*4294967296+y0)):=inv_done HI.out om (by rw [HA.out,HB.out];omega)
    have h2':¬(B:Int)<(A:Int):=by omega
    clear HI h1 h2 h1' hAl hg1 hR t1;have HEND:=lh (yqk hi lo y s Y y1 y0 U l1 l0 Q1 X gk hY.out hYe.out hN.out HQ1.out HX.out HQ.out om);have hg32:gk<4294967296:=by rw [HQ.out];exact digit_lt X l0 y1 y0 hl0 hu2
    obtain ⟨P,hP⟩:∃P,gk*Y=P:=⟨_,rfl⟩;obtain ⟨Z,hZ⟩:∃Z,(X*4294967296+l0)%Y=Z:=⟨_,rfl⟩;have HPZ:=lh (ymp (A:=0) (X*4294967296+l0) Y gk P Z rfl HQ.out hYe.out hP hZ om);rw [hZ] at HEND;obtain ⟨b1,hb1⟩:∃b,b=Q1*4294967296:=⟨_,rfl⟩;obtain ⟨c1,hc1⟩:∃b,b=X*4294967296%18446744073709551616:=⟨_,rfl⟩;obtain ⟨c2,hc2⟩:∃b,b=(X*4294967296+l0)%18446744073709551616:=⟨_,rfl⟩;obtain ⟨c3,hc3⟩:∃b,b=P%18446744073709551616:=⟨_,rfl⟩;rw [HQQ.out,HRR.out] at HEND;have hends:=HEND.out;have hpzs:=HPZ.out;have p1:IntKind.u64.wrap ((Q1:Int)*4294967296)=(b1:Int):=by rw [yav];omega
    have p2:IntKind.u64.wrap ((b1:Int)+(gk:Int))=(qq:Int):=by rw [yav];omega
    have p3:IntKind.u64.wrap ((X:Int)*4294967296)=(c1:Int):=by rw [yav];omega
    have p4:IntKind.u64.wrap ((c1:Int)+(l0:Int))=(c2:Int):=by rw [yav];omega
    have p5:IntKind.u64.wrap ((gk:Int)*(Y:Int))=(c3:Int):=by rw [<-Int.natCast_mul,hP,yav];omega
    have p6:IntKind.u64.wrap ((c2:Int)-(c3:Int))=(Z:Int):=by rw [yav];omega
    have p7:(Z:Int)/2 ^ s=(rr:Int):=by rw [show ((2:Int) ^ s)=((2 ^ s:Nat):Int) by push_cast;rfl,<-Int.natCast_ediv,hends.2]
    clear hP hZ hb1 hc1 hc2 hc3 hends hpzs HEND HPZ hg32;go_wp2
    go_ret2
    exact ⟨rfl,bL⟩):q:=h
theorem yo6 (a:Nat) (ha:a<18446744073709551616):bits .and .u64 (a:Int) 4294967295=((a%4294967296:Nat):Int):= by
 have h:=bits_and_u64_nat a 4294967295 ha om;rw [show a &&& 4294967295=a%4294967296 from Nat.and_two_pow_sub_one_eq_mod a 32] at h;exact h
theorem jaz (a:Nat):(a:Int)/4294967296=((a/4294967296:Nat):Int):=by omega
theorem jat (a b:Nat):(a:Int)*(b:Int)=((a*b:Nat):Int):=(Int.natCast_mul a b).symm
theorem jay (a b:Nat):(a:Int)+(b:Int)=((a+b:Nat):Int):=(Int.natCast_add a b).symm
theorem ydf (a:Nat) (ha:a<18446744073709551616):IntKind.u64.wrap (a:Int)=(a:Int):=by rw [IntKind.wrap_u64];omega
theorem yu0 (a:Nat):IntKind.u64.wrap (a:Int)=((a%18446744073709551616:Nat):Int):=by rw [IntKind.wrap_u64];omega
theorem yoj (x y:Nat) (hx:x<18446744073709551616) (hy:y<18446744073709551616) (w:World) :
 Calls Tryz.prog 239 #[.int .u64 x,.int .u64 y] w (Ret (.tuple #[.int .u64 ((x*y/18446744073709551616:Nat):Int),.int .u64 ((x*y%18446744073709551616:Nat):Int)]) w):= by
 obtain ⟨bd,bt,bw,hhi⟩:=Lib.mul64_hi x y hx hy;have ba:=Lib.half_mul_le (a:=x/4294967296) (b:=y/4294967296) om om;have bb:=Lib.half_mul_le (a:=x/4294967296) (b:=y%4294967296) om om;have bc:=Lib.half_mul_le (a:=x%4294967296) (b:=y/4294967296) om om;have ba':x/4294967296*(y/4294967296)<18446744073709551616:=by omega
 have bb':x/4294967296*(y%4294967296)<18446744073709551616:=by omega
 have bc':x%4294967296*(y/4294967296)<18446744073709551616:=by omega
 have bh1:x/4294967296*(y/4294967296)+(x/4294967296*(y%4294967296)+x%4294967296*(y%4294967296)/4294967296)/4294967296<18446744073709551616:=by omega
 have bh:x/4294967296*(y/4294967296)+(x/4294967296*(y%4294967296)+x%4294967296*(y%4294967296)/4294967296)/4294967296+((x/4294967296*(y%4294967296)+x%4294967296*(y%4294967296)/4294967296)%4294967296+x%4294967296*(y/4294967296))/4294967296<18446744073709551616:=by omega
 go_enter Tryz.func239,Tryz.ntmps239
 go_wp2
 simp only [yo6 x hx,yo6 y hy,jaz,jat,jay,ydf _ bd,ydf _ bb',ydf _ bt,yo6 _ bt,ydf _ bc',ydf _ bw,ydf _ ba',ydf _ bh1,ydf _ bh,yu0 (x*y)];rw [hhi]
 go_ret2
 exact ⟨rfl,rfl⟩
theorem yu8:Lib.len8tab.size=256:=by decide
theorem yn5 (y:Int) (h:y.toNat<Lib.len8tab.size):((Lib.len8tab[y.toNat]'h).toNat:Int)=Lib.len8 y:= by
 unfold Lib.len8;rw [getElem?_pos Lib.len8tab y.toNat h]
 rfl
theorem yw7 (k a b:Nat) (hk:k<=56) (ha:a<=8) (hb:b=k+a):wrap64 ((k:Int)+wrap64 (a:Int))=(b:Int):= by
 unfold wrap64;omega
theorem ysm (a:Nat) (ha:a<=8):wrap64 (wrap64 (a:Int))=(a:Int):= by
 unfold wrap64;omega
theorem yg0 (x y:Int) (k n:Nat) (h:y.toNat<Lib.len8tab.size) (hy0:0<=y) (hy:y<=255) (hk:k<=56) (hyx:y.toNat=n) (hs:Lib.bitLen x.toNat=k+Lib.bitLen n) :
 wrap64 ((k:Int)+wrap64 ((Lib.len8tab[y.toNat]'h).toNat:Int))=(Lib.bitLen x.toNat:Int):= by
 rw [yn5 y h,Lib.len8_of y hy0 hy];exact yw7 k _ _ hk (Lib.bitLen_le8' y hy0 hy) (by rw [hs,hyx])
theorem yxy (x:Int) (h:x.toNat<Lib.len8tab.size) (h0:0<=x) (hx:x<=255):wrap64 (wrap64 ((Lib.len8tab[x.toNat]'h).toNat:Int))=(Lib.bitLen x.toNat:Int):= by
 rw [yn5 x h,Lib.len8_of x h0 hx];exact ysm _ (Lib.bitLen_le8' x h0 hx)
theorem yuy (x:Int) (w:World) (h0:0<=x) (h1:x<=18446744073709551615) :
 Calls Tryz.prog 248 #[.int .u64 x] w (Ret (iV (Lib.bitLen x.toNat)) w):= by
 go_enter Tryz.func248,Tryz.ntmps248
 go_wp2
 all_goals first
  | (go_ret;refine ⟨congrArg Ending.returned (congrArg (Value.int IntKind.i64) ?_),rfl⟩)
  | (exfalso
     have hs:=yu8;omega)
 all_goals first
  | exact yg0 x (x/4294967296/65536/256) 56 _ _ om om om om (Lib.bitLen_shift56 x.toNat om om)
  | exact yg0 x (x/4294967296/65536) 48 _ _ om om om om (Lib.bitLen_shift48 x.toNat om om)
  | exact yg0 x (x/4294967296/256) 40 _ _ om om om om (Lib.bitLen_shift40 x.toNat om om)
  | exact yg0 x (x/4294967296) 32 _ _ om om om om (Lib.bitLen_shift32 x.toNat om om)
  | exact yg0 x (x/65536/256) 24 _ _ om om om om (Lib.bitLen_shift24 x.toNat om om)
  | exact yg0 x (x/65536) 16 _ _ om om om om (Lib.bitLen_shift16 x.toNat om om)
  | exact yg0 x (x/256) 8 _ _ om om om om (Lib.bitLen_shift8 x.toNat om om)
  | exact yxy x _ h0 om
theorem ytt (y:Nat) (h0:0<y) (h:y<18446744073709551616):Lib.bitLen y<=64/\9223372036854775808<=y*2 ^ (64-Lib.bitLen y)/\y*2 ^ (64-Lib.bitLen y)<18446744073709551616:= by
 have e64:(2:Nat) ^ 64=18446744073709551616:=by decide
 obtain ⟨b1,b2,b3⟩:=Lib.bitLenAux_bounds 64 y (by rw [e64];exact h) om;have b4:=Lib.bitLen_le y 64 om (by rw [e64];exact h);have e:Lib.bitLenAux 64 y=Lib.bitLen y:=rfl;rw [e] at b1 b2 b3;refine ⟨b4,?_,?_⟩
 ·have:=Nat.mul_le_mul_right (2 ^ (64-Lib.bitLen y)) b2
  rwa [<-Nat.pow_add,show Lib.bitLen y-1+(64-Lib.bitLen y)=63 by omega] at this
 ·have:=Nat.mul_lt_mul_of_pos_right b3 (Nat.two_pow_pos (64-Lib.bitLen y))
  rwa [<-Nat.pow_add,show Lib.bitLen y+(64-Lib.bitLen y)=64 by omega] at this
theorem yxl (y s:Nat) (w:World) (h0:0<y) (h1:y<18446744073709551616) (hs:Hid (64-Lib.bitLen y=s)) :
 Calls Tryz.prog 247 #[.int .u64 y] w (Ret (iV s) w):= by
 have l:=(ytt y h0 h1).1;have e8:(64-(Lib.bitLen y:Int)+9223372036854775808)%18446744073709551616-9223372036854775808=64-(Lib.bitLen y:Int):=by omega
 have e9:64-(Lib.bitLen y:Int)=(s:Int):=by have:=hs.out;omega
 clear hs;have e1:((y:Int)).toNat=y:=by omega
 go_enter Tryz.func247,Tryz.ntmps247
 go_wp2_with fail
 refine (yuy (y:Int) _ om om).mono ?_;rintro e w' ⟨rfl,rfl⟩;go_wp2
 go_ret
 refine ⟨ype ?_,rfl⟩
 first | omega | (simp only [IntKind.wrap_i64];omega) | (unfold wrap64;omega)
section
open Go.RowKit DivM
theorem c_or (a b k:Nat) (ha:a*2 ^ k<18446744073709551616) (hb:b<2 ^ k) (hb2:b<18446744073709551616):bits .or .u64 ((a*2 ^ k:Nat):Int) (b:Int)=((a*2 ^ k+b:Nat):Int):= by
 rw [bits_or_u64_nat _ _ ha hb2]
 congr 1
 have h:=Nat.two_pow_add_eq_or_of_lt hb a;rw [Nat.mul_comm a];exact h.symm
theorem yqk (hi lo y s Y y1 y0 U l1 l0 Q1 X Q0:Nat) (hY:y*2 ^ s=Y) (hYe:y1*4294967296+y0=Y) (hN:(U*4294967296+l1)*4294967296+l0=(hi*18446744073709551616+lo)*2 ^ s)
 (hQ:Q1=(U*4294967296+l1)/(y1*4294967296+y0)) (hX:X=(U*4294967296+l1)%Y) (hQ0:Q0=(X*4294967296+l0)/(y1*4294967296+y0)) (h0:0<Y) :
 Q1*4294967296+Q0=(hi*18446744073709551616+lo)/y/\(X*4294967296+l0)%Y/2 ^ s=(hi*18446744073709551616+lo)%y:= by
 rw [hYe] at hQ hQ0;obtain ⟨t1,t2⟩:=two_digits U l1 l0 Y h0;rw [<-hX,hN] at t1 t2;rw [<-hQ,<-hQ0] at t1;obtain ⟨s1,s2⟩:=shifted (hi*18446744073709551616+lo) y s;rw [hY] at s1 s2;exact ⟨t1.trans s1,by rw [t2];exact s2⟩
theorem ymp (T Y Q P Z:Nat) {y1 y0 A:Nat} (_hX:A=A) (hQ:Q=T/(y1*4294967296+y0)) (hYe:y1*4294967296+y0=Y) (hP:Q*Y=P) (hZ:T%Y=Z) (h0:0<Y):P<=T/\T-P=Z/\Z<Y:= by
 rw [hYe] at hQ;have h1:=Nat.div_add_mod' T Y;rw [<-hQ,hP,hZ] at h1;exact ⟨by omega,by omega,by rw [<-hZ];exact Nat.mod_lt _ h0⟩
theorem ypm (lo y:Nat) (hlo:lo<18446744073709551616) (h0:0<y) (qq rr:Nat) (HQQ:Hid (lo/y=qq)) (HRR:Hid (lo%y=rr)) (w:World) :
 Calls Tryz.prog 241 #[.int .u64 0,.int .u64 lo,.int .u64 y] w (RetB (.tuple #[.int .u64 qq,.int .u64 rr]) w):= by
 have d0:((y:Int) == 0)=false:=by rw [beq_eq_false_iff_ne];omega
 have d1:decide ((y:Int)<=0)=false:=by simp;omega
 have hle:lo/y<=lo:=Nat.div_le_self _ _;have e1:IntKind.u64.wrap ((lo:Int)/(y:Int))=(qq:Int):=by rw [<-Int.natCast_ediv,ydf _ (Nat.lt_of_le_of_lt hle hlo),HQQ.out]
 have e2:((lo:Int)%(y:Int))=(rr:Int):=by rw [<-Int.natCast_emod,HRR.out]
 clear hle
 go_enter Tryz.func241,Tryz.ntmps241
 go_wp2
 go_region
 all_goals go_wp2
 all_goals go_ret2
 all_goals refine ⟨?_,bL⟩
 all_goals first | rfl | (simp only [e2];rfl)
theorem yq6 (hi lo y s Y y1 y0 U l1 l0 L:Nat) (hhi:0<hi) (hy:y<18446744073709551616) (hhy:hi<y) (hs:Hid (64-Lib.bitLen y=s))
 (hY:Hid (y*2 ^ s=Y)) (hYe:Hid (y1*4294967296+y0=Y)) (hy1:2147483648<=y1/\y1<4294967296) (hy0:y0<4294967296) (hl1:l1<4294967296) (hl0:l0<4294967296)
 (hL:Hid (IntKind.u64.wrap ((lo:Int)*2 ^ s)=(L:Int))) (hLe:Hid (l1*4294967296+l0=L)) (hU:Hid (bits .or .u64 (IntKind.u64.wrap ((hi:Int)*2 ^ s)) ((lo:Int)/2 ^ (64-s))=(U:Int))) (hu1:U<y1*4294967296+y0)
 (hN:Hid ((U*4294967296+l1)*4294967296+l0=(hi*18446744073709551616+lo)*2 ^ s))
 (qq rr:Nat) (HQQ:Hid ((hi*18446744073709551616+lo)/y=qq)) (HRR:Hid ((hi*18446744073709551616+lo)%y=rr)) (w:World) :
 Calls Tryz.prog 241 #[.int .u64 hi,.int .u64 lo,.int .u64 y] w (RetB (.tuple #[.int .u64 qq,.int .u64 rr]) w):= by
 have d0:((y:Int) == 0)=false:=by rw [beq_eq_false_iff_ne];omega
 have d1:decide ((y:Int)<=(hi:Int))=false:=by simp;omega
 have d2:((hi:Int) == 0)=false:=by rw [beq_eq_false_iff_ne];omega
 have hs64:s<64:=by have:=hs.out;have:=Lib.bitLenAux_bounds 64 y (by simpa using hy) om;have e:Lib.bitLenAux 64 y=Lib.bitLen y:=rfl;omega
 have v1:IntKind.u64.wrap ((y:Int)*2 ^ s)=(Y:Int):= by
  rw [show ((y:Int)*2 ^ s)=((y*2 ^ s:Nat):Int) by push_cast;rfl,hY.out];exact ydf _ (by rw [<-hYe.out];omega)
 have v2:(Y:Int)/4294967296=(y1:Int):=by rw [<-hYe.out];omega
 have v3:bits .and .u64 (Y:Int) 4294967295=(y0:Int):=by rw [yo6 Y (by rw [<-hYe.out];omega),<-hYe.out];omega
 have v4:=hL.out;have v5:(L:Int)/4294967296=(l1:Int):=by rw [<-hLe.out];omega
 have v6:bits .and .u64 (L:Int) 4294967295=(l0:Int):=by rw [yo6 L (by rw [<-hLe.out];omega),<-hLe.out];omega
 have v7:=hU.out;have HU1:=lh hu1
 go_enter Tryz.func241,Tryz.ntmps241
 go_wp2_with fail
 refine (yxl y s _ om hy hs).mono ?_;rintro e w' ⟨rfl,rfl⟩;have HS1:=lh (inv_start U l1 y1 y0 om om);have hql1:=start_le (u:=U) (y1:=y1) (y0:=y0) hu1 om om;have hrl1:U%y1<y1:=Nat.mod_lt _ om;obtain ⟨q1,hq1⟩:∃q,U/y1=q:=⟨_,rfl⟩;obtain ⟨r1,hr1⟩:∃r,U%y1=r:=⟨_,rfl⟩;rw [hq1,hr1] at HS1;rw [hq1] at hql1;rw [hr1] at hrl1;have hqy1:q1*y1+r1=U:=HS1.out.1;have w1a:IntKind.u64.wrap ((U:Int)/(y1:Int))=(q1:Int):=by rw [<-Int.natCast_ediv,hq1];exact ydf _ om
 have w1b:IntKind.u64.wrap ((q1:Int)*(y1:Int))=((q1*y1:Nat):Int):=by rw [<-Int.natCast_mul];exact ydf _ (by generalize q1*y1=A at *;omega)
 have w1c:IntKind.u64.wrap ((U:Int)-((q1*y1:Nat):Int))=(r1:Int):= by
  rw [show ((U:Int)-((q1*y1:Nat):Int))=(r1:Int) by generalize q1*y1=A at *;omega];exact ydf _ om
 have w1d:IntKind.u64.wrap ((U:Int)-(q1:Int)*(y1:Int))=(r1:Int):=by rw [<-Int.natCast_mul];exact w1c
 clear hq1 hr1 hqy1
 go_wp2_with fail
 clear w1a w1b w1c w1d;go_loopg [15,16] q1 (fun g q r wr=>∃R:Nat,q=.int .u64 g/\r=.int .u64 R/\Hid (Inv U l1 y1 y0 g R)/\g<=4294967297/\R<4294967296/\w=wr)
 case atStart=>exact ⟨r1,rfl,rfl,HS1,by omega,by omega,rfl⟩
 case round =>
  obtain ⟨R,rfl,rfl,HI,hg1,hR,rfl⟩:=hrel;have HFB:=lh (And.intro hg1 hR);clear HS1 hrl1 hql1;obtain ⟨A,hA⟩:∃A,gk*y0=A:=⟨_,rfl⟩;have HA:=lh hA
  have HAB:Hid (gk<4294967296->A<18446744073709551616):=fun h=>by
   have:=Nat.mul_le_mul (show gk<=4294967295 by omega) (show y0<=4294967295 by omega);rw [hA] at this;omega
  clear hA;obtain ⟨B,hB⟩:∃B,4294967296*R+l1=B:=⟨_,rfl⟩;have HB:=lh hB;have k1:IntKind.u64.wrap (4294967296*(R:Int))=4294967296*(R:Int):=by rw [yav];omega
  have k3:IntKind.u64.wrap (4294967296*(R:Int)+(l1:Int))=(B:Int):=by rw [yav];omega
  clear hB
  by_cases h1:4294967296<=gk
  ·have HI2:=lh (inv_step (l:=l1) (y0:=y0) HI.out om hu1 (Or.inl h1))
   have t1':(4294967296:Int)<=(gk:Int):=by omega
   clear HAB;exact zq1117f0
  ·have h1':gk<4294967296:=by omega
   have hAl:=HAB.out h1';have k0:IntKind.u64.wrap ((gk:Int)*(y0:Int))=(A:Int):=by rw [<-Int.natCast_mul,HA.out];exact ydf _ hAl
   have t1:¬4294967296<=gk:=h1;have t1':¬(4294967296:Int)<=(gk:Int):=by omega
   clear HAB
   by_cases h2:B<A
   ·have HI2:=lh (inv_step (l:=l1) (y0:=y0) HI.out om hu1 (Or.inr (by rw [HA.out,HB.out];exact h2)))
    have h2':(B:Int)<(A:Int):=by omega
    exact zq1117f0
   ·have HQ:Hid (gk=(U*4294967296+l1)/(y1*4294967296+y0)):=inv_done HI.out om (by rw [HA.out,HB.out];omega)
    have h2':¬(B:Int)<(A:Int):=by omega
    clear HI h1 h2 h1' hAl hg1 hR t1;exact zq11426c
theorem yuu (L:Nat) (h:L<18446744073709551616):L/4294967296*4294967296+L%4294967296=L/\L/4294967296<4294967296/\L%4294967296<4294967296:=by omega
theorem yqo (A B U l1 l0 L:Nat) (h:A+B=U) (hv:l1*4294967296+l0=L):(U*4294967296+l1)*4294967296+l0=A*18446744073709551616+(B*18446744073709551616+L):= by
 have e:(U*4294967296+l1)*4294967296=U*18446744073709551616+l1*4294967296:=by rw [Nat.add_mul,Nat.mul_assoc]
 rw [e,<-hv,<-h,Nat.add_mul];simp only [Nat.add_assoc]
theorem yj7 (hi lo y:Nat) (hlo:lo<18446744073709551616) (hy:y<18446744073709551616) (hhy:hi<y) (qq rr:Nat) (HQQ:Hid ((hi*18446744073709551616+lo)/y=qq)) (HRR:Hid ((hi*18446744073709551616+lo)%y=rr)) (w:World) :
 Calls Tryz.prog 241 #[.int .u64 hi,.int .u64 lo,.int .u64 y] w (RetB (.tuple #[.int .u64 qq,.int .u64 rr]) w):= by
 rcases Nat.eq_zero_or_pos hi with h0 | h0
 ·subst h0
  rw [Nat.zero_mul,Nat.zero_add] at HQQ HRR;exact ypm lo y hlo hhy qq rr HQQ HRR w
 ·obtain ⟨s,hs⟩:∃s,64-Lib.bitLen y=s:=⟨_,rfl⟩
  obtain ⟨z1,z2,z3⟩:=ytt y om hy;have z4:0<Lib.bitLen y:=(Lib.bitLenAux_bounds 64 y (by simpa using hy) om).1;rw [hs] at z2 z3;have hs64:s<64:=by omega
  have p2:(2:Nat) ^ s*2 ^ (64-s)=18446744073709551616:=by rw [<-Nat.pow_add,show s+(64-s)=64 by omega]
  have hp:=Nat.two_pow_pos s;have hp':=Nat.two_pow_pos (64-s);obtain ⟨Y,hY⟩:∃Y,y*2 ^ s=Y:=⟨_,rfl⟩;rw [hY] at z2 z3;obtain ⟨y1,y1e⟩:∃a,Y/4294967296=a:=⟨_,rfl⟩;obtain ⟨y0,y0e⟩:∃a,Y%4294967296=a:=⟨_,rfl⟩;obtain ⟨L,hL⟩:∃L,lo*2 ^ s%18446744073709551616=L:=⟨_,rfl⟩;obtain ⟨l1,l1e⟩:∃a,L/4294967296=a:=⟨_,rfl⟩;obtain ⟨l0,l0e⟩:∃a,L%4294967296=a:=⟨_,rfl⟩;have hLlt:L<18446744073709551616:=by rw [<-hL];exact Nat.mod_lt _ om
  obtain ⟨v1,v2,v3⟩:=yuu Y z3;obtain ⟨v4,v5,v6⟩:=yuu L hLlt;rw [y1e,y0e] at v1;rw [y1e] at v2;rw [y0e] at v3;rw [l1e,l0e] at v4;rw [l1e] at v5;rw [l0e] at v6
  have hdiv:lo*2 ^ s/18446744073709551616=lo/2 ^ (64-s):= by
   rw [<-p2,Nat.mul_comm lo,Nat.mul_div_mul_left _ _ hp]
  have hblt:lo/2 ^ (64-s)<2 ^ s:= by
   rw [Nat.div_lt_iff_lt_mul hp',p2];exact hlo
  have hhs:hi*2 ^ s+lo/2 ^ (64-s)<Y:= by
   have:(hi+1)*2 ^ s<=y*2 ^ s:=Nat.mul_le_mul_right _ hhy;rw [hY,Nat.add_mul,Nat.one_mul] at this;omega
  have hhs2:hi*2 ^ s<18446744073709551616:=by omega
  have hb2:lo/2 ^ (64-s)<18446744073709551616:=Nat.lt_of_le_of_lt (Nat.div_le_self _ _) hlo
  have hU:bits .or .u64 (IntKind.u64.wrap ((hi:Int)*2 ^ s)) ((lo:Int)/2 ^ (64-s))=((hi*2 ^ s+lo/2 ^ (64-s):Nat):Int):= by
   rw [show ((hi:Int)*2 ^ s)=((hi*2 ^ s:Nat):Int) by push_cast;rfl,ydf _ hhs2,show ((2:Int) ^ (64-s))=((2 ^ (64-s):Nat):Int) by push_cast;rfl,<-Int.natCast_ediv];exact c_or hi _ s hhs2 hblt hb2
  have hLw:IntKind.u64.wrap ((lo:Int)*2 ^ s)=(L:Int):= by
   rw [show ((lo:Int)*2 ^ s)=((lo*2 ^ s:Nat):Int) by push_cast;rfl,yu0,hL]
  have hlos:=Nat.div_add_mod' (lo*2 ^ s) 18446744073709551616;rw [hdiv,hL] at hlos;obtain ⟨U,hUe⟩:∃U,hi*2 ^ s+lo/2 ^ (64-s)=U:=⟨_,rfl⟩;rw [hUe] at hU hhs
  have hN:(U*4294967296+l1)*4294967296+l0=(hi*18446744073709551616+lo)*2 ^ s:= by
   have e3:(hi*18446744073709551616+lo)*2 ^ s=hi*2 ^ s*18446744073709551616+lo*2 ^ s:=by rw [Nat.add_mul,Nat.mul_right_comm]
   rw [e3,<-hlos];exact yqo _ _ _ _ _ _ hUe v4
  exact yq6 hi lo y s Y y1 y0 U l1 l0 L h0 hy hhy hs hY v1 om v3 v5 v6 hLw v4 hU om hN qq rr HQQ HRR w
end
end Go.Proofs.YtkongpjpkpfniaaGreat

/- TopBooks, a part. -/
import Derived.Laws.Bits64b
import Derived.Lib.BitFns
import Derived.Lib.ItoaNum
import Derived.Lib.Mul64
import Derived.Lib.Walk
import Derived.Test.YtkongpjpkpfniaaGreatC02
set_option linter.unusedVariables false
set_option linter.unusedSimpArgs false
set_option maxRecDepth 100000
set_option maxHeartbeats 6400000
namespace Go.Proofs.YtkongpjpkpfniaaGreat
open Go.RowKit Go.Proofs.Tryz
variable {D:Bool} {c d f y z:Int} {K:IntKind} {r x:List Int} {C:List Value} {i k m n:Nat} {p q:Prop} {e:TypeId} {V u v:Value} {W w:World}
theorem GA (a:Nat) (b:a<18446744073709551616):bits .and .u64 (a:Int) 4294967295=((a%4294967296:Nat):Int):=by have h:=bits_and_u64_nat a 4294967295 b om;rw[show a &&& 4294967295=a%4294967296 from Nat.and_two_pow_sub_one_eq_mod a 32]at h;exact h
theorem WE (a:Nat):(a:Int)/4294967296=((a/4294967296:Nat):Int):=om
theorem Tg (a b:Nat):(a:Int)*(b:Int)=((a*b:Nat):Int):=(Int.natCast_mul a b).symm
theorem UY (a b:Nat):(a:Int)+(b:Int)=((a+b:Nat):Int):=(Int.natCast_add a b).symm
theorem A6 (a:Nat) (b:a<18446744073709551616):IntKind.u64.wrap (a:Int)=a:=by rw[IntKind.wrap_u64];omega
theorem PH (a:Nat):IntKind.u64.wrap (a:Int)=((a%18446744073709551616:Nat):Int):=by rw[IntKind.wrap_u64];omega
theorem Mt (d c:Nat) (g:d<18446744073709551616) (e:c<18446744073709551616) (w) :
 Calls prog 239 #[.int .u64 d,.int .u64 c] w (h3 (.tuple #[.int .u64 ((d*c/18446744073709551616:Nat):Int),.int .u64 ((d*c%18446744073709551616:Nat):Int)]) w):=by
 obtain⟨i,f,n,o⟩:=Lib.mul64_hi d c g e;have t:=Lib.half_mul_le (a:=d/4294967296) (b:=c/4294967296) om om;have r:=Lib.half_mul_le (a:=d/4294967296) (b:=c%4294967296) om om;have s:=Lib.half_mul_le (a:=d%4294967296) (b:=c/4294967296) om om;have l:d/4294967296*(c/4294967296)<18446744073709551616:=om;have j:d/4294967296*(c%4294967296)<18446744073709551616:=om;have p:d%4294967296*(c/4294967296)<18446744073709551616:=om;have m:d/4294967296*(c/4294967296)+(d/4294967296*(c%4294967296)+d%4294967296*(c%4294967296)/4294967296)/4294967296<18446744073709551616:=om;have k:d/4294967296*(c/4294967296)+(d/4294967296*(c%4294967296)+d%4294967296*(c%4294967296)/4294967296)/4294967296+((d/4294967296*(c%4294967296)+d%4294967296*(c%4294967296)/4294967296)%4294967296+d%4294967296*(c/4294967296))/4294967296<18446744073709551616:=om;go_enter func239,ntmps239;go_wp2;simp only[GA d g,GA c e,WE,Tg,UY,A6 _ i,A6 _ j,A6 _ f,GA _ f,A6 _ p,A6 _ n,A6 _ l,A6 _ m,A6 _ k,PH (d*c)];rw[o];go_ret2;exact⟨rfl,rfl⟩
theorem ZL:Lib.len8tab.size=256:=by decide
theorem Mk (a:Int) (h:a.toNat<Lib.len8tab.size):((Lib.len8tab[a.toNat]' h).toNat:Int)=Lib.len8 a:=by unfold Lib.len8;rw[getElem?_pos Lib.len8tab a.toNat h];rfl
theorem Zv (a b c:Nat) (d:a<=56) (e:b<=8) (f:c=a+b):wrap64 ((a:Int)+wrap64 (b:Int))=(c:Int):=by unfold wrap64;omega
theorem Xa (a:Nat) (b:a<=8):wrap64 (wrap64 (a:Int))=(a:Int):=by unfold wrap64;omega
theorem EZ (c a:Int) (b d:Nat) (h:a.toNat<Lib.len8tab.size) (f:0<=a) (e:a<=255) (g:b<=56) (j:a.toNat=d) (i:Lib.bitLen c.toNat=b+Lib.bitLen d) :
 wrap64 ((b:Int)+wrap64 ((Lib.len8tab[a.toNat]' h).toNat:Int))=(Lib.bitLen c.toNat:Int):=by
 rw[Mk a h,Lib.len8_of a f e];exact Zv b _ _ g (Lib.bitLen_le8' a f e) (by rw[i,j])
theorem Z0 (a:Int) (h:a.toNat<Lib.len8tab.size) (b:0<=a) (c:a<=255):wrap64 (wrap64 ((Lib.len8tab[a.toNat]' h).toNat:Int))=(Lib.bitLen a.toNat:Int):=by rw[Mk a h,Lib.len8_of a b c];exact Xa _ (Lib.bitLen_le8' a b c)
theorem VU (a:Int) (w) (b:0<=a) (c:a<=18446744073709551615) :
 Calls prog 248 #[.int .u64 a] w (h3 (iV (Lib.bitLen a.toNat)) w):=by
 go_enter func248,ntmps248;go_wp2;all_goals first
  | (go_ret;refine⟨congrArg Ending.returned (congrArg (Value.int IntKind.i64) ?_),rfl⟩)
  | (exfalso
     have d:=ZL
     omega)
 all_goals first
  | exact EZ a (a/4294967296/65536/256) 56 _ _ om om om om (Lib.bitLen_shift56 a.toNat om om)
  | exact EZ a (a/4294967296/65536) 48 _ _ om om om om (Lib.bitLen_shift48 a.toNat om om)
  | exact EZ a (a/4294967296/256) 40 _ _ om om om om (Lib.bitLen_shift40 a.toNat om om)
  | exact EZ a (a/4294967296) 32 _ _ om om om om (Lib.bitLen_shift32 a.toNat om om)
  | exact EZ a (a/65536/256) 24 _ _ om om om om (Lib.bitLen_shift24 a.toNat om om)
  | exact EZ a (a/65536) 16 _ _ om om om om (Lib.bitLen_shift16 a.toNat om om)
  | exact EZ a (a/256) 8 _ _ om om om om (Lib.bitLen_shift8 a.toNat om om)
  | exact Z0 a _ b om
theorem Lt (a:Nat) (i:0<a) (h:a<18446744073709551616):Lib.bitLen a<=64/\9223372036854775808<=a*2 ^ (64-Lib.bitLen a)/\a*2 ^ (64-Lib.bitLen a)<18446744073709551616:=by
 have b:(2:Nat) ^ 64=18446744073709551616:=by decide
 obtain⟨e,c,d⟩:=Lib.bitLenAux_bounds 64 a (by rw[b];exact h) om;have f:=Lib.bitLen_le a 64 om (by rw[b];exact h);have g:Lib.bitLenAux 64 a=Lib.bitLen a:=rfl;rw[g]at e c d;refine⟨f,?_,?_⟩;·have:=Nat.mul_le_mul_right (2 ^ (64-Lib.bitLen a)) c;rwa [<-Nat.pow_add,show Lib.bitLen a-1+(64-Lib.bitLen a)=63 by omega]at this
 ·have:=Nat.mul_lt_mul_of_pos_right d (Nat.two_pow_pos (64-Lib.bitLen a));rwa [<-Nat.pow_add,show Lib.bitLen a+(64-Lib.bitLen a)=64 by omega]at this
theorem TO (a b:Nat) (w) (e:0<a) (d:a<18446744073709551616) (c:Hd (64-Lib.bitLen a=b)) :
 Calls prog 247 #[.int .u64 a] w (h3 (iV b) w):=by
 have k:=(Lt a e d).1;have j:64-(Lib.bitLen a:Int)=(b:Int):=oo c.o;clear c;have f:((a:Int)).toNat=a:=om;go_enter func247,ntmps247;go_wp2_with fail;refine(VU (a:Int) _ om om).mono ?_;rintro i g ⟨rfl,rfl⟩;go_wp2;go_ret;refine⟨Fo ?_,rfl⟩;first | omega | (simp only[IntKind.wrap_i64];omega) | (unfold wrap64;omega)
theorem Ip (h:q:=by
 obtain⟨g,hge⟩:∃g,g=gk-1:=⟨_,rfl⟩;have rJ:gk=g+1:=oo lC.1;obtain⟨fn,bS⟩:=xg (fW+bE);have iL:Hd (Inv U gC bE cQ g fn):=by rw[hge,<-bS];exact lC.2
 clear bO lC hge;have xi:IntKind.u64.wrap ((gk:Int)-1)=(g:Int):=by rw[n2];omega
 have xj:IntKind.u64.wrap ((fW:Int)+(bE:Int))=(fn:Int):=by rw[n2];omega
 have cT:=lh (show g<=4294967296 by omega);have rK:=lh (show g<gk by omega);clear bS rJ;by_cases jS:4294967296<=fn
 ·have rL:(4294967296:Int)<=(fn:Int):=om;have dj:Hd (g=(U*4294967296+gC)/(bE*4294967296+cQ)):=inv_break iL.o om om cT.o jS;clear iL;clear jS gN cP;try clear Z
  try clear ag
  obtain⟨gk,rfl⟩:∃k,k=g:=⟨g,rfl⟩;exact Nj
 ·exact Rb):q:=h
theorem Rb (h:q:=by
 have rL:¬(4294967296:Int)<=(fn:Int):=om;have ft:=lh jS;clear jS gN cP;try clear Z
 try clear ag
 go_wp2;go_roundg g;case measure=>exact rK.o
 case rel=>exact⟨fn,rfl,rfl,iL,nt cT.o om,Nat.lt_of_not_le ft.o,rfl⟩):q:=h
theorem Nj (h:q:=by
 obtain⟨fP,rfl⟩:∃zc,zc=gk:=⟨gk,rfl⟩;have rM:=dj;obtain⟨aO,tD⟩:∃aO,aO=(U*4294967296+gC)%cp:=⟨_,rfl⟩;have aV:=lh tD;have zd:aO<cp:=by rw[tD];exact Nat.mod_lt _ (oo j8.o)
 have qr:aO<bE*4294967296+cQ:=by rw[j8.o];exact zd
 have AB:fP<4294967296:=by rw[rM.o];exact digit_lt U gC bE cQ pF rN
 obtain⟨ex,gA⟩:=xg (fP*cp);have ze:=Gq (A:=0) (U*4294967296+gC) cp fP ex aO rfl rM.o j8.o gA tD.symm (oo j8.o);have AC:cp<18446744073709551616:=by rw[<-j8.o];omega
 obtain⟨jY,zf⟩:∃b,b=U*4294967296%18446744073709551616:=⟨_,rfl⟩;obtain⟨pg,zg⟩:∃b,b=(U*4294967296+gC)%18446744073709551616:=⟨_,rfl⟩;obtain⟨dh,zh⟩:∃b,b=ex%18446744073709551616:=⟨_,rfl⟩;clear tD;have wT:IntKind.u64.wrap ((U:Int)*4294967296)=(jY:Int):=by rw[n2];omega
 have wU:IntKind.u64.wrap ((jY:Int)+(gC:Int))=(pg:Int):=by rw[n2];omega
 have AD:IntKind.u64.wrap ((fP:Int)*(cp:Int))=(dh:Int):=by rw[<-Int.natCast_mul,gA,n2];omega
 have AE:IntKind.u64.wrap ((pg:Int)-(dh:Int))=(aO:Int):=by rw[n2];omega
 clear gA ze zf zg zh;have tE:=lh (inv_start aO en bE cQ om om);have xk:=start_le (u:=aO) (y1:=bE) (y0:=cQ) qr om om;have xl:aO%bE<bE:=Nat.mod_lt _ om;obtain⟨cB,nd⟩:=xg (aO/bE);obtain⟨be,vv⟩:=xg (aO%bE);rw[nd,vv]at tE;rw[nd]at xk;rw[vv]at xl;have zi:cB*bE+be=aO:=tE.1;have zj:IntKind.u64.wrap ((aO:Int)/(bE:Int))=(cB:Int):=by rw[<-Int.natCast_ediv,nd];exact A6 _ om
 have zk:IntKind.u64.wrap ((cB:Int)*(bE:Int))=((cB*bE:Nat):Int):=by rw[<-Int.natCast_mul];exact A6 _ (by generalize cB*bE=ab at *;omega)
 have xm:IntKind.u64.wrap ((aO:Int)-((cB*bE:Nat):Int))=(be:Int):=by rw[show((aO:Int)-((cB*bE:Nat):Int))=(be:Int) by generalize cB*bE=ab at *;omega];exact A6 _ om
 have zl:IntKind.u64.wrap ((aO:Int)-(cB:Int)*(bE:Int))=(be:Int):=by rw[<-Int.natCast_mul];exact xm
 clear nd vv zi;go_wp2_with fail;clear zj zk xm zl;go_loopg [18,16] cB (fun g q bu wr=>∃fW:Nat,q=.int .u64 g/\bu=.int .u64 fW/\Hd (Inv aO en bE cQ g fW)/\g<=4294967297/\fW<4294967296/\w=wr);case atStart=>exact⟨be,rfl,rfl,tE,by omega,by omega,rfl⟩
 case round =>
  obtain⟨fW,rfl,rfl,bO,gN,cP,rfl⟩:=hrel;have zm:=lh (An gN cP);clear tE xl xk;obtain⟨ab,eJ⟩:=xg (gk*cQ);have i5:=lh eJ;have bB:Hd (gk<4294967296->ab<18446744073709551616):=fun h=>by have:=Nat.mul_le_mul (show gk<=4294967295 by omega) (show cQ<=4294967295 by omega);rw[eJ]at this;omega
  clear eJ;obtain⟨dI,bx⟩:=xg (4294967296*fW+en);have dc:=lh bx;have ju:IntKind.u64.wrap (4294967296*(fW:Int))=4294967296*(fW:Int):=by rw[n2];omega
  have nI:IntKind.u64.wrap (4294967296*(fW:Int)+(en:Int))=(dI:Int):=by rw[n2];omega
  clear bx;by_cases Z:4294967296<=gk
  ·have lC:=lh (inv_step (l:=en) (y0:=cQ) bO.o om qr (Or.inl Z));have vw:(4294967296:Int)<=(gk:Int):=om;clear bB;obtain⟨g,hge⟩:∃g,g=gk-1:=⟨_,rfl⟩;have rJ:gk=g+1:=oo lC.1;obtain⟨fn,bS⟩:=xg (fW+bE);have iL:Hd (Inv aO en bE cQ g fn):=by rw[hge,<-bS];exact lC.2
   clear bO lC hge;have xi:IntKind.u64.wrap ((gk:Int)-1)=(g:Int):=by rw[n2];omega
   have xj:IntKind.u64.wrap ((fW:Int)+(bE:Int))=(fn:Int):=by rw[n2];omega
   have cT:=lh (show g<=4294967296 by omega);have rK:=lh (show g<gk by omega);clear bS rJ;by_cases jS:4294967296<=fn
   ·have rL:(4294967296:Int)<=(fn:Int):=om;have dj:Hd (g=(aO*4294967296+en)/(bE*4294967296+cQ)):=inv_break iL.o om om cT.o jS;clear iL;clear jS gN cP;try clear Z
    try clear ag
    obtain⟨gk,rfl⟩:∃k,k=g:=⟨g,rfl⟩;have jT:=lh (Kl aA bw aG aw cp bE cQ U gC en fP aO gk tG.o j8.o iK.o rM.o aV.o dj.o om);have rO:gk<4294967296:=by rw[dj.o];exact digit_lt aO en bE cQ vx qr
    obtain⟨ex,gA⟩:=xg (gk*cp);obtain⟨fy,mb⟩:=xg ((aO*4294967296+en)%cp);have oa:=lh (Gq (A:=0) (aO*4294967296+en) cp gk ex fy rfl dj.o j8.o gA mb om);rw[mb]at jT;obtain⟨ob,aH⟩:∃b,b=fP*4294967296:=⟨_,rfl⟩;obtain⟨aN,jp⟩:∃b,b=aO*4294967296%18446744073709551616:=⟨_,rfl⟩;obtain⟨aL,ip⟩:∃b,b=(aO*4294967296+en)%18446744073709551616:=⟨_,rfl⟩;obtain⟨eL,gh⟩:∃b,b=ex%18446744073709551616:=⟨_,rfl⟩;rw[vy.o,gc.o]at jT;have oc:=jT.o;have rP:=oa.o;have jv:IntKind.u64.wrap ((fP:Int)*4294967296)=(ob:Int):=by rw[n2];omega
    have fK:IntKind.u64.wrap ((ob:Int)+(gk:Int))=(rQ:Int):=by rw[n2];omega
    have mf:IntKind.u64.wrap ((aO:Int)*4294967296)=(aN:Int):=by rw[n2];omega
    have xn:IntKind.u64.wrap ((aN:Int)+(en:Int))=(aL:Int):=by rw[n2];omega
    have xo:IntKind.u64.wrap ((gk:Int)*(cp:Int))=(eL:Int):=by rw[<-Int.natCast_mul,gA,n2];omega
    have xp:IntKind.u64.wrap ((aL:Int)-(eL:Int))=(fy:Int):=by rw[n2];omega
    have xq:(fy:Int)/2 ^ aw=(rR:Int):=by rw[show((2:Int) ^ aw)=((2 ^ aw:Nat):Int) by push_cast;rfl,<-Int.natCast_ediv,oc.2]
    clear gA mb aH jp ip gh oc rP jT oa rO;go_wp2;go_ret2;exact⟨rfl,bL⟩
   ·have rL:¬(4294967296:Int)<=(fn:Int):=om;have ft:=lh jS;clear jS gN cP;try clear Z
    try clear ag
    go_wp2;go_roundg g;case measure=>exact rK.o
    case rel=>exact⟨fn,rfl,rfl,iL,nt cT.o om,Nat.lt_of_not_le ft.o,rfl⟩
  ·have rS:gk<4294967296:=om;have rT:=bB.o rS;have zn:IntKind.u64.wrap ((gk:Int)*(cQ:Int))=(ab:Int):=by rw[<-Int.natCast_mul,i5.o];exact A6 _ rT
   have cM:¬4294967296<=gk:=Z;have vw:¬(4294967296:Int)<=(gk:Int):=om;clear bB;by_cases ag:dI<ab
   ·have lC:=lh (inv_step (l:=en) (y0:=cQ) bO.o om qr (Or.inr (by rw[i5.o,dc.o];exact ag)));have vz:(dI:Int)<ab:=om;obtain⟨g,hge⟩:∃g,g=gk-1:=⟨_,rfl⟩;have rJ:gk=g+1:=oo lC.1;obtain⟨fn,bS⟩:=xg (fW+bE);have iL:Hd (Inv aO en bE cQ g fn):=by rw[hge,<-bS];exact lC.2
    clear bO lC hge;have xi:IntKind.u64.wrap ((gk:Int)-1)=(g:Int):=by rw[n2];omega
    have xj:IntKind.u64.wrap ((fW:Int)+(bE:Int))=(fn:Int):=by rw[n2];omega
    have cT:=lh (show g<=4294967296 by omega);have rK:=lh (show g<gk by omega);clear bS rJ;by_cases jS:4294967296<=fn
    ·have rL:(4294967296:Int)<=(fn:Int):=om;have dj:Hd (g=(aO*4294967296+en)/(bE*4294967296+cQ)):=inv_break iL.o om om cT.o jS;clear iL;clear jS gN cP;try clear Z
     try clear ag
     obtain⟨gk,rfl⟩:∃k,k=g:=⟨g,rfl⟩;have jT:=lh (Kl aA bw aG aw cp bE cQ U gC en fP aO gk tG.o j8.o iK.o rM.o aV.o dj.o om);have rO:gk<4294967296:=by rw[dj.o];exact digit_lt aO en bE cQ vx qr
     obtain⟨ex,gA⟩:=xg (gk*cp);obtain⟨fy,mb⟩:=xg ((aO*4294967296+en)%cp);have oa:=lh (Gq (A:=0) (aO*4294967296+en) cp gk ex fy rfl dj.o j8.o gA mb om);rw[mb]at jT;obtain⟨ob,aH⟩:∃b,b=fP*4294967296:=⟨_,rfl⟩;obtain⟨aN,jp⟩:∃b,b=aO*4294967296%18446744073709551616:=⟨_,rfl⟩;obtain⟨aL,ip⟩:∃b,b=(aO*4294967296+en)%18446744073709551616:=⟨_,rfl⟩;obtain⟨eL,gh⟩:∃b,b=ex%18446744073709551616:=⟨_,rfl⟩;rw[vy.o,gc.o]at jT;have oc:=jT.o;have rP:=oa.o;have jv:IntKind.u64.wrap ((fP:Int)*4294967296)=(ob:Int):=by rw[n2];omega
     have fK:IntKind.u64.wrap ((ob:Int)+(gk:Int))=(rQ:Int):=by rw[n2];omega
     have mf:IntKind.u64.wrap ((aO:Int)*4294967296)=(aN:Int):=by rw[n2];omega
     have xn:IntKind.u64.wrap ((aN:Int)+(en:Int))=(aL:Int):=by rw[n2];omega
     have xo:IntKind.u64.wrap ((gk:Int)*(cp:Int))=(eL:Int):=by rw[<-Int.natCast_mul,gA,n2];omega
     have xp:IntKind.u64.wrap ((aL:Int)-(eL:Int))=(fy:Int):=by rw[n2];omega
     have xq:(fy:Int)/2 ^ aw=(rR:Int):=by rw[show((2:Int) ^ aw)=((2 ^ aw:Nat):Int) by push_cast;rfl,<-Int.natCast_ediv,oc.2]
     clear gA mb aH jp ip gh oc rP jT oa rO;go_wp2;go_ret2;exact⟨rfl,bL⟩
    ·have rL:¬(4294967296:Int)<=(fn:Int):=om;have ft:=lh jS;clear jS gN cP;try clear Z
     try clear ag
     go_wp2;go_roundg g;case measure=>exact rK.o
     case rel=>exact⟨fn,rfl,rfl,iL,nt cT.o om,Nat.lt_of_not_le ft.o,rfl⟩
   ·have dj:Hd (gk=(aO*4294967296+en)/(bE*4294967296+cQ)):=inv_done bO.o om (by rw[i5.o,dc.o];omega);have vz:¬(dI:Int)<ab:=om;clear bO Z ag rS rT gN cP cM;have jT:=lh (Kl aA bw aG aw cp bE cQ U gC en fP aO gk tG.o j8.o iK.o rM.o aV.o dj.o om);have rO:gk<4294967296:=by rw[dj.o];exact digit_lt aO en bE cQ vx qr
    obtain⟨ex,gA⟩:=xg (gk*cp);obtain⟨fy,mb⟩:=xg ((aO*4294967296+en)%cp);have oa:=lh (Gq (A:=0) (aO*4294967296+en) cp gk ex fy rfl dj.o j8.o gA mb om);rw[mb]at jT;obtain⟨ob,aH⟩:∃b,b=fP*4294967296:=⟨_,rfl⟩;obtain⟨aN,jp⟩:∃b,b=aO*4294967296%18446744073709551616:=⟨_,rfl⟩;obtain⟨aL,ip⟩:∃b,b=(aO*4294967296+en)%18446744073709551616:=⟨_,rfl⟩;obtain⟨eL,gh⟩:∃b,b=ex%18446744073709551616:=⟨_,rfl⟩;rw[vy.o,gc.o]at jT;have oc:=jT.o;have rP:=oa.o;have jv:IntKind.u64.wrap ((fP:Int)*4294967296)=(ob:Int):=by rw[n2];omega
    have fK:IntKind.u64.wrap ((ob:Int)+(gk:Int))=(rQ:Int):=by rw[n2];omega
    have mf:IntKind.u64.wrap ((aO:Int)*4294967296)=(aN:Int):=by rw[n2];omega
    have xn:IntKind.u64.wrap ((aN:Int)+(en:Int))=(aL:Int):=by rw[n2];omega
    have xo:IntKind.u64.wrap ((gk:Int)*(cp:Int))=(eL:Int):=by rw[<-Int.natCast_mul,gA,n2];omega
    have xp:IntKind.u64.wrap ((aL:Int)-(eL:Int))=(fy:Int):=by rw[n2];omega
    have xq:(fy:Int)/2 ^ aw=(rR:Int):=by rw[show((2:Int) ^ aw)=((2 ^ aw:Nat):Int) by push_cast;rfl,<-Int.natCast_ediv,oc.2]
    clear gA mb aH jp ip gh oc rP jT oa rO;go_wp2;go_ret2;exact⟨rfl,bL⟩):q:=h
section
open Go.RowKit DivM
theorem E3 (a c b:Nat) (d:a*2 ^ b<18446744073709551616) (e:c<2 ^ b) (f:c<18446744073709551616):bits .or .u64 ((a*2 ^ b:Nat):Int) (c:Int)=((a*2 ^ b+c:Nat):Int):=by
 rw[bits_or_u64_nat _ _ d f]
 congr 1
 have h:=Nat.two_pow_add_eq_or_of_lt e a;rw[Nat.mul_comm a];exact h.symm
theorem Kl (d g b e a i l U f c s j t:Nat) (y:b*2 ^ e=a) (x:i*4294967296+l=a) (z:(U*4294967296+f)*4294967296+c=(d*18446744073709551616+g)*2 ^ e)
 (n:s=(U*4294967296+f)/(i*4294967296+l)) (v:j=(U*4294967296+f)%a) (o:t=(j*4294967296+c)/(i*4294967296+l)) (u:0<a) :
 s*4294967296+t=(d*18446744073709551616+g)/b/\(j*4294967296+c)%a/2 ^ e=(d*18446744073709551616+g)%b:=by
 rw[x]at n o;obtain⟨k,m⟩:=two_digits U f c a u;rw[<-v,z]at k m;rw[<-n,<-o]at k;obtain⟨r,p⟩:=shifted (d*18446744073709551616+g) b e;rw[y]at r p;exact⟨k.trans r,by rw[m];exact p⟩
theorem Gq (b a e d c:Nat) {A:Nat} (o:A=A) (f:e=b/(n*4294967296+m)) (j:n*4294967296+m=a) (i:e*a=d) (g:b%a=c) (l:0<a):d<=b/\b-d=c/\c<a:=by rw[j]at f;have k:=Nat.div_add_mod' b a;rw[<-f,i,g]at k;exact⟨by omega,by omega,by rw[<-g];exact Nat.mod_lt _ l⟩
theorem ypm (b a:Nat) (g:b<18446744073709551616) (m:0<a) (c d:Nat) (i:Hd (b/a=c)) (f:Hd (b%a=d)) (w) :
 Calls prog 241 #[.int .u64 0,.int .u64 b,.int .u64 a] w (RetB (.tuple #[.int .u64 c,.int .u64 d]) w):=by
 have k:((a:Int) == 0)=false:=by rw[beq_eq_false_iff_ne];omega
 have e:b/a<=b:=Nat.div_le_self _ _;have l:IntKind.u64.wrap ((b:Int)/(a:Int))=(c:Int):=by rw[<-Int.natCast_ediv,A6 _ (Nat.lt_of_le_of_lt e g),i.o]
 have j:((b:Int)%(a:Int))=(d:Int):=by rw[<-Int.natCast_emod,f.o]
 clear e;go_enter func241,ntmps241;go_wp2
 go_region
 all_goals go_wp2
 all_goals go_ret2
 all_goals refine⟨?_,bL⟩
 all_goals first | rfl | (simp only[j];rfl)
theorem yq6 (aA bw aG aw cp bE cQ U gC en d:Nat) (K:0<aA) (o:aG<18446744073709551616) (R:aA<aG) (p:Hd (64-Lib.bitLen aG=aw))
 (tG:Hd (aG*2 ^ aw=cp)) (j8:Hd (bE*4294967296+cQ=cp)) (D:2147483648<=bE/\bE<4294967296) (Q:cQ<4294967296) (pF:gC<4294967296) (vx:en<4294967296)
 (u:Hd (IntKind.u64.wrap ((bw:Int)*2 ^ aw)=(d:Int))) (j:Hd (gC*4294967296+en=d)) (t:Hd (bits .or .u64 (IntKind.u64.wrap ((aA:Int)*2 ^ aw)) ((bw:Int)/2 ^ (64-aw))=(U:Int))) (rN:U<bE*4294967296+cQ)
 (iK:Hd ((U*4294967296+gC)*4294967296+en=(aA*18446744073709551616+bw)*2 ^ aw))
 (rQ rR:Nat) (vy:Hd ((aA*18446744073709551616+bw)/aG=rQ)) (gc:Hd ((aA*18446744073709551616+bw)%aG=rR)) (w) :
 Calls prog 241 #[.int .u64 aA,.int .u64 bw,.int .u64 aG] w (RetB (.tuple #[.int .u64 rQ,.int .u64 rR]) w):=by
 have L:((aG:Int) == 0)=false:=by rw[beq_eq_false_iff_ne];omega
 have G:decide ((aG:Int)<=aA)=false:=by simp;omega
 have A:((aA:Int) == 0)=false:=by rw[beq_eq_false_iff_ne];omega
 have J:aw<64:=by have:=p.o;have:=Lib.bitLenAux_bounds 64 aG (ss o) om;have z:Lib.bitLenAux 64 aG=Lib.bitLen aG:=rfl;omega
 have H:IntKind.u64.wrap ((aG:Int)*2 ^ aw)=(cp:Int):=by rw[show((aG:Int)*2 ^ aw)=((aG*2 ^ aw:Nat):Int) by push_cast;rfl,tG.o];exact A6 _ (by rw[<-j8.o];omega)
 have M:(cp:Int)/4294967296=(bE:Int):=by rw[<-j8.o];omega
 have C:bits .and .u64 (cp:Int) 4294967295=(cQ:Int):=by rw[GA cp (by rw[<-j8.o];omega),<-j8.o];omega
 have O:=u.o;have F:(d:Int)/4294967296=(gC:Int):=by rw[<-j.o];omega
 have E:bits .and .u64 (d:Int) 4294967295=(en:Int):=by rw[GA d (by rw[<-j.o];omega),<-j.o];omega
 have I:=t.o;have P:=lh rN;go_enter func241,ntmps241;go_wp2_with fail;refine(TO aG aw _ om o p).mono ?_;rintro z B ⟨rfl,rfl⟩;have f:=lh (inv_start U gC bE cQ om om);have r:=start_le (u:=U) (y1:=bE) (y0:=cQ) rN om om;have n:U%bE<bE:=Nat.mod_lt _ om;obtain⟨a,e⟩:=xg (U/bE);obtain⟨c,i⟩:=xg (U%bE);rw[e,i]at f;rw[e]at r;rw[i]at n;have s:a*bE+c=U:=f.1;have x:IntKind.u64.wrap ((U:Int)/(bE:Int))=(a:Int):=by rw[<-Int.natCast_ediv,e];exact A6 _ om
 have v:IntKind.u64.wrap ((a:Int)*(bE:Int))=((a*bE:Nat):Int):=by rw[<-Int.natCast_mul];exact A6 _ (by generalize a*bE=ab at *;omega)
 have m:IntKind.u64.wrap ((U:Int)-((a*bE:Nat):Int))=(c:Int):=by rw[show((U:Int)-((a*bE:Nat):Int))=(c:Int) by generalize a*bE=ab at *;omega];exact A6 _ om
 have y:IntKind.u64.wrap ((U:Int)-(a:Int)*(bE:Int))=(c:Int):=by rw[<-Int.natCast_mul];exact m
 clear e i s;go_wp2_with fail;clear x v m y;go_loopg [15,16] a (fun g q bu wr=>∃fW:Nat,q=.int .u64 g/\bu=.int .u64 fW/\Hd (Inv U gC bE cQ g fW)/\g<=4294967297/\fW<4294967296/\w=wr);case atStart=>exact⟨c,rfl,rfl,f,by omega,by omega,rfl⟩
 case round =>
  obtain⟨fW,rfl,rfl,bO,gN,cP,rfl⟩:=hrel;have zm:=lh (An gN cP);clear f n r;obtain⟨ab,eJ⟩:=xg (gk*cQ);have i5:=lh eJ;have bB:Hd (gk<4294967296->ab<18446744073709551616):=fun h=>by have:=Nat.mul_le_mul (show gk<=4294967295 by omega) (show cQ<=4294967295 by omega);rw[eJ]at this;omega
  clear eJ;obtain⟨dI,bx⟩:=xg (4294967296*fW+gC);have dc:=lh bx;have ju:IntKind.u64.wrap (4294967296*(fW:Int))=4294967296*(fW:Int):=by rw[n2];omega
  have nI:IntKind.u64.wrap (4294967296*(fW:Int)+(gC:Int))=(dI:Int):=by rw[n2];omega
  clear bx;by_cases Z:4294967296<=gk;·have lC:=lh (inv_step (l:=gC) (y0:=cQ) bO.o om rN (Or.inl Z));have vw:(4294967296:Int)<=(gk:Int):=om;clear bB;exact Ip
  ·have rS:gk<4294967296:=om;have rT:=bB.o rS;have zn:IntKind.u64.wrap ((gk:Int)*(cQ:Int))=(ab:Int):=by rw[<-Int.natCast_mul,i5.o];exact A6 _ rT
   have cM:¬4294967296<=gk:=Z;have vw:¬(4294967296:Int)<=(gk:Int):=om;clear bB;by_cases ag:dI<ab;·have lC:=lh (inv_step (l:=gC) (y0:=cQ) bO.o om rN (Or.inr (by rw[i5.o,dc.o];exact ag)));have vz:(dI:Int)<ab:=om;exact Ip
   ·have dj:Hd (gk=(U*4294967296+gC)/(bE*4294967296+cQ)):=inv_done bO.o om (by rw[i5.o,dc.o];omega);have vz:¬(dI:Int)<ab:=om;clear bO Z ag rS rT gN cP cM;exact Nj
theorem LZ (a:Nat) (h:a<18446744073709551616):a/4294967296*4294967296+a%4294967296=a/\a/4294967296<4294967296/\a%4294967296<4294967296:=om
theorem WA (c e U a b d:Nat) (h:c+e=U) (f:a*4294967296+b=d):(U*4294967296+a)*4294967296+b=c*18446744073709551616+(e*18446744073709551616+d):=by
 have g:(U*4294967296+a)*4294967296=U*18446744073709551616+a*4294967296:=by rw[Nat.add_mul,Nat.mul_assoc]
 rw[g,<-f,<-h,Nat.add_mul];simp only[Nat.add_assoc]
theorem K4 (c b d:Nat) (t:b<18446744073709551616) (n:d<18446744073709551616) (u:c<d) (j i:Nat) (s:Hd ((c*18446744073709551616+b)/d=j)) (r:Hd ((c*18446744073709551616+b)%d=i)) (w) :
 Calls prog 241 #[.int .u64 c,.int .u64 b,.int .u64 d] w (RetB (.tuple #[.int .u64 j,.int .u64 i]) w):=by
 rcases Nat.eq_zero_or_pos c with k | k;·subst k;rw[Nat.zero_mul,Nat.zero_add]at s r;exact ypm b d t u j i s r w
 ·obtain⟨a,H⟩:∃a,64-Lib.bitLen d=a:=⟨_,rfl⟩;obtain⟨ad,B,p⟩:=Lt d om n;have ac:0<Lib.bitLen d:=(Lib.bitLenAux_bounds 64 d (ss n) om).1;rw[H]at B p;have ae:a<64:=om;have v:(2:Nat) ^ a*2 ^ (64-a)=18446744073709551616:=by rw[<-Nat.pow_add,show a+(64-a)=64 by omega]
  have T:=Nat.two_pow_pos a;have S:=Nat.two_pow_pos (64-a);obtain⟨f,m⟩:=xg (d*2 ^ a);rw[m]at B p;obtain⟨R,L⟩:=xg (f/4294967296);obtain⟨X,K⟩:=xg (f%4294967296);obtain⟨e,l⟩:=xg (b*2 ^ a%18446744073709551616);obtain⟨J,G⟩:=xg (e/4294967296);obtain⟨E,A⟩:=xg (e%4294967296);have Q:e<18446744073709551616:=by rw[<-l];exact Nat.mod_lt _ om
  obtain⟨C,V,x⟩:=LZ f p;obtain⟨o,z,y⟩:=LZ e Q;rw[L,K]at C;rw[L]at V;rw[K]at x;rw[G,A]at o;rw[G]at z;rw[A]at y;have aa:b*2 ^ a/18446744073709551616=b/2 ^ (64-a):=by rw[<-v,Nat.mul_comm b,Nat.mul_div_mul_left _ _ T]
  have O:b/2 ^ (64-a)<2 ^ a:=by rw[Nat.div_lt_iff_lt_mul S,v];exact t
  have Z:c*2 ^ a+b/2 ^ (64-a)<f:=by have:(c+1)*2 ^ a<=d*2 ^ a:=Nat.mul_le_mul_right _ u;rw[m,Nat.add_mul,Nat.one_mul]at this;omega
  have F:c*2 ^ a<18446744073709551616:=om;have W:b/2 ^ (64-a)<18446744073709551616:=Nat.lt_of_le_of_lt (Nat.div_le_self _ _) t;have D:bits .or .u64 (IntKind.u64.wrap ((c:Int)*2 ^ a)) ((b:Int)/2 ^ (64-a))=((c*2 ^ a+b/2 ^ (64-a):Nat):Int):=by rw[show((c:Int)*2 ^ a)=((c*2 ^ a:Nat):Int) by push_cast;rfl,A6 _ F,show((2:Int) ^ (64-a))=((2 ^ (64-a):Nat):Int) by push_cast;rfl,<-Int.natCast_ediv];exact E3 c _ a F O W
  have P:IntKind.u64.wrap ((b:Int)*2 ^ a)=(e:Int):=by rw[show((b:Int)*2 ^ a)=((b*2 ^ a:Nat):Int) by push_cast;rfl,PH,l]
  have I:=Nat.div_add_mod' (b*2 ^ a) 18446744073709551616;rw[aa,l]at I;obtain⟨U,M⟩:=xg (c*2 ^ a+b/2 ^ (64-a));rw[M]at D Z;have ab:(U*4294967296+J)*4294967296+E=(c*18446744073709551616+b)*2 ^ a:=by
   have Y:(c*18446744073709551616+b)*2 ^ a=c*2 ^ a*18446744073709551616+b*2 ^ a:=by rw[Nat.add_mul,Nat.mul_right_comm]
   rw[Y,<-I];exact WA _ _ _ _ _ _ M o
  exact yq6 c b d a f R X U J E e k n u H m C om x z y P o D om ab j i s r w
end
theorem MG (h:q:=by have:(aA+1)*18446744073709551616<=cR*18446744073709551616:=Nat.mul_le_mul_right _ om;rw[Nat.mul_comm];omega):q:=h
theorem Oz (h:q:=by
 clear v0 tH aj rU;go_wp2;go_roundg g;case measure=>omega
 case rel=>exact⟨fP+1,v3,by go_num,rfl,rfl,by omega,by show _=_;rw[tI.o];exact ph.1,by show _=_;rw[tI.o];exact ph.2.1,rfl⟩):q:=h
theorem LM (h:q:=by
 go_enter func221,ntmps221;go_wp2;refine sq 0 (fun kC fA=>∃(kD jr js jt kE kF kG kH pi kI kJ kK kL kM kN kO kP kQ kR kS kT kU kV kW kX kY kZ k' lc ld le lf lg li lj lk pj pk pm pp pq pr pu:Value),kC={ tmps:=#[kD,jr,js,jt,kE,kF,kG,kH,pi,kI,kJ,kK,kL,kM,kN,kO,kP,kQ,kR,kS,kT,kU,kV,kW,kX,kY,kZ,k',lc,ld,le,lf,lg,li,lj,lk,pj,pk,pm,pp,pq,pr,pu],defers:=[] }/\Hd (q=0/\b=false)/\BW w fA)
  (fun _ _=>0) rfl ?pass ?first
 case pass=>exact RY
 case first=>refine PY ?_;intro fd dM iG;go_wp2_with fail;refine(K4 aA bw cR jq v4 om dJ aR v5 v7 _).mono ?_;rintro I a7 ⟨rfl,aH⟩;go_wp2;simp only[Exit.jump];go_ret2;rw[lJ.o,aJ.2];exact⟨rfl,aH⟩):q:=h
theorem KV (h:q:=by
 go_enter func221,ntmps221;go_wp2;refine sq 0 (fun kC fA=>∃(kD jr js jt kE kF kG kH pi kI kJ kK kL kM kN kO kP kQ kR kS kT kU kV kW kX kY kZ k' lc ld le lf lg li lj lk pj pk pm pp pq pr pu:Value),kC={ tmps:=#[kD,jr,js,jt,kE,kF,kG,kH,pi,kI,kJ,kK,kL,kM,kN,kO,kP,kQ,kR,kS,kT,kU,kV,kW,kX,kY,kZ,k',lc,ld,le,lf,lg,li,lj,lk,pj,pk,pm,pp,pq,pr,pu],defers:=[] }/\Hd (q=0/\b=false)/\BW w fA)
  (fun _ _=>0) rfl ?pass ?first
 case pass=>exact RY
 case first=>refine PY ?_;intro fd dM iG;go_wp2_with fail;refine(K4 aA bw cR jq v4 om dJ aR v5 v7 _).mono ?_;rintro I a7 ⟨rfl,aH⟩;go_wp2;simp only[Exit.jump];go_ret2;rw[aJ.1,aJ.2];exact⟨rfl,aH⟩):q:=h
theorem Wg (h:q:=by
 go_enter func221,ntmps221;go_wp2;refine sq 0 (fun kC fA=>∃(kD jr js jt kE kF kG kH pi kI kJ kK kL kM kN kO kP kQ kR kS kT kU kV kW kX kY kZ k' lc ld le lf lg li lj lk pj pk pm pp pq pr pu:Value),kC={ tmps:=#[kD,jr,js,jt,kE,kF,kG,kH,pi,kI,kJ,kK,kL,kM,kN,kO,kP,kQ,kR,kS,kT,kU,kV,kW,kX,kY,kZ,k',lc,ld,le,lf,lg,li,lj,lk,pj,pk,pm,pp,pq,pr,pu],defers:=[] }/\Hd (q=0/\b=false)/\BW w fA)
  (fun _ _=>0) rfl ?pass ?first
 case pass=>exact RY
 case first=>refine PY ?_;intro fd dM iG;go_wp2_with fail;refine(K4 aA bw cR jq v4 om dJ aR v5 v7 _).mono ?_;rintro I a7 ⟨rfl,aH⟩;go_wp2;go_step3;go_step;go_step;exact iG.o _ _ (hP (hP (hP (hP ⟨_,_,_,rfl,aJ,aH⟩))))):q:=h
section
open Go.RowKit EvM
theorem Qz {q:Int} (h:evQ n m k=(q,D)) (c:k<=n):q=0/\D=false:=by unfold evQ at h;rw[if_pos om]at h;injection h with b a;exact⟨b.symm,a.symm⟩
theorem LX {q:Int} (h:evQ n m k=(q,D)) (e:¬k<=n) (f:n*18446744073709551616+m=i) :
 (evenN i k<18446744073709551616->q=(evenN i k:Int)/\D=true)/\(¬evenN i k<18446744073709551616->q=0/\D=false):=by
 unfold evQ at h;have d:((n:Int)*18446744073709551616+(m:Int))=(i:Int):=om;rw[if_neg om,d,Int.toNat_natCast,Int.toNat_natCast]at h;split at h;·rename_i c;injection h with b a;exact⟨fun _=>⟨b.symm,a.symm⟩,fun h=>absurd c h⟩
 ·rename_i c;injection h with b a;exact⟨fun h=>absurd h c,fun _=>⟨b.symm,a.symm⟩⟩
theorem I9 (aA bw cR:Nat) (q:Int) (b:Bool) (jq:bw<18446744073709551616) (v4:cR<18446744073709551616) (r:Hd (evQ aA bw cR=(q,b))) (w) :
 Calls prog 221 #[.int .u64 aA,.int .u64 bw,.int .u64 cR] w (RetB (.tuple #[.int .u64 q,.bool b]) w):=by
 by_cases D:cR<=aA
 ·have F:=lh (Qz r.o D);clear r;go_enter func221,ntmps221;go_wp2;refine sq 0 (fun kC fA=>∃(kD jr js jt kE kF kG kH pi kI kJ kK kL kM kN kO kP kQ kR kS kT kU kV kW kX kY kZ k' lc ld le lf lg li lj lk pj pk pm pp pq pr pu:Value),kC={ tmps:=#[kD,jr,js,jt,kE,kF,kG,kH,pi,kI,kJ,kK,kL,kM,kN,kO,kP,kQ,kR,kS,kT,kU,kV,kW,kX,kY,kZ,k',lc,ld,le,lf,lg,li,lj,lk,pj,pk,pm,pp,pq,pr,pu],defers:=[] }/\Hd (q=0/\b=false)/\BW w fA)
   (fun _ _=>0) rfl ?pass ?first
  case pass=>exact RY
  case first=>refine PY ?_;intro fd dM iG;go_wp2;go_step3;exact⟨rfl,dM.o _ _ (hP (hP (hP (hP ⟨_,_,_,rfl,F,bR⟩))))⟩
 ·obtain⟨t,v⟩:∃t,aA*18446744073709551616+bw=t:=⟨_,rfl⟩;have e:=lh (LX r.o D v);obtain⟨dJ,i⟩:=xg ((aA*18446744073709551616+bw)/cR);obtain⟨aR,j⟩:=xg ((aA*18446744073709551616+bw)%cR);have v5:=lh i;have v7:=lh j;have G:aR<cR:=by rw[<-j];exact Nat.mod_lt _ om
  have E:dJ<18446744073709551616:=by rw[<-i,Nat.div_lt_iff_lt_mul om];exact MG
  rw[v]at i j;have d:Hd (evenN t cR=if aR<cR-aR\/(aR=cR-aR/\dJ%2=0) then dJ else dJ+1):=by show _=_;unfold evenN;rw[i,j]
  clear r v i j;obtain⟨c,x⟩:=xg (cR-aR);obtain⟨s,y⟩:=xg ((dJ+1)%18446744073709551616);rw[x]at d;have O:IntKind.u64.wrap ((cR:Int)-(aR:Int))=(c:Int):=by rw[n2];omega
  have L:IntKind.u64.wrap ((dJ:Int)+1)=(s:Int):=by rw[n2];omega
  have u:=lh y;have g:=lh E;clear x y G E;by_cases z:aR<c;·have aJ:=lh (e.1 (by rw[d.o,if_pos (Or.inl z)];exact g.o));rw[d.o,if_pos (Or.inl z)]at aJ;clear e d;exact KV
  ·by_cases n:aR=c/\dJ%2=0
   ·have aJ:=lh (e.1 (by rw[d.o,if_pos (Or.inr n)];exact g.o));rw[d.o,if_pos (Or.inr n)]at aJ;obtain⟨a,l⟩:=n;have o:((aR:Int) == (c:Int))=true:=by simp[a]
    have C:((dJ:Int)%2 == 0)=true:=by rw[beq_iff_eq];omega
    clear e d a l;exact KV
   ·have m:Hd (evenN t cR=dJ+1):=by
     show _=_;rw[d.o,if_neg om]
    have B:(aR=c/\¬dJ%2=0)\/(¬aR=c):=om;by_cases A:dJ=18446744073709551615
    ·have aJ:=lh (e.2 (by rw[m.o];omega));have K:decide (0<s)=false:=by have:=u.o;simp;omega
     clear e d m n A;rcases B with⟨a,l⟩ | a
     ·have o:((aR:Int) == (c:Int))=true:=by simp[a]
      have C:((dJ:Int)%2 == 0)=false:=by rw[beq_eq_false_iff_ne];omega
      clear a l;exact Wg
     ·have o:((aR:Int) == (c:Int))=false:=by rw[beq_eq_false_iff_ne];omega
      clear a;exact Wg
    ·have aJ:=lh (e.1 (by have:=g.o;rw[m.o];omega));rw[m.o]at aJ;have lJ:Hd (q=(s:Int)):=by have M:=aJ.1;have H:=u.o;have P:=g.o;show _=_;omega
     have Q:0<s:=o2 u.o g.o;clear e d m n A;rcases B with⟨a,l⟩ | a
     ·have o:((aR:Int) == (c:Int))=true:=by simp[a]
      have C:((dJ:Int)%2 == 0)=false:=by rw[beq_eq_false_iff_ne];omega
      clear a l;exact LM
     ·have o:((aR:Int) == (c:Int))=false:=by rw[beq_eq_false_iff_ne];omega
      clear a;exact LM
end
section
open Go.RowKit EvM
theorem Tx (a:Int) (w):Calls prog 229 #[iV a] w (h3 (.bool (mayM a)) w):=by
 by_cases b:-1000000000000000<=a
 ·by_cases c:a<=1000000000000000;·go_enter func229,ntmps229;go_wp2;go_ret;simp[h3,mayM,b,c]
  ·go_enter func229,ntmps229;go_wp2;go_ret;simp[h3,mayM,b,c]
 ·go_enter func229,ntmps229;go_wp2;go_ret;simp[h3,mayM];omega
theorem LQ (h:mayM c=D) (w):Calls prog 229 #[iV c] w (h3 (.bool D) w):=by rw[<-h];exact Tx c w
theorem QD (b a:Nat) (c:b<18446744073709551616):bits .and .u64 ((b:Int)/2 ^ a) 1=((b/2 ^ a%2:Nat):Int):=by rw[show((2:Int) ^ a)=((2 ^ a:Nat):Int) by push_cast;rfl,<-Int.natCast_ediv];have h:=bits_and_u64_nat (b/2 ^ a) 1 (Nat.lt_of_le_of_lt (Nat.div_le_self _ _) c) om;rw[show b/2 ^ a &&& 1=b/2 ^ a%2 from Nat.and_two_pow_sub_one_eq_mod _ 1]at h;exact h
theorem Ss (a b:Nat) (d:b<=1):bits .or .u64 (IntKind.u64.wrap ((a:Int)*2)) (b:Int)=(((2*a+b)%18446744073709551616:Nat):Int):=by
 have c:IntKind.u64.wrap ((a:Int)*2)=((a%9223372036854775808*2 ^ 1:Nat):Int):=by rw[n2];omega
 rw[c,E3 _ b 1 om om om];omega
theorem Y0 (j a k f b e c g d:Nat) (s:j/18446744073709551616=k) (p:j%18446744073709551616=f) (t:(2*k+f/9223372036854775808)%18446744073709551616=b) (o:f*2%18446744073709551616=e)
 (v:(e+g)%18446744073709551616=c) (i:a=2*j+if d=1 then g else 0) (n:a<18446744073709551616*18446744073709551616) (u:g<18446744073709551616) (r:d<=1) :
 (¬d=1->a/18446744073709551616=b/\a%18446744073709551616=e)/\(d=1->¬c<e->a/18446744073709551616=b/\a%18446744073709551616=c) /\
 (d=1/\c<e->b+1<18446744073709551616/\a/18446744073709551616=b+1/\a%18446744073709551616=c):=by
 have m:18446744073709551616*18446744073709551616=(340282366920938463463374607431768211456:Nat):=by decide
 rw[m]at n;refine⟨fun h=>?_,fun h l=>?_,fun ⟨h,l⟩=>?_⟩;·rw[if_neg h]at i;omega
 ·rw[if_pos h]at i;omega
 ·rw[if_pos h]at i;omega
theorem jhi (b c B D:Nat) (R:b<18446744073709551616) (H:c<18446744073709551616) (P:Hd (b*c/18446744073709551616=B)) (O:Hd (b*c%18446744073709551616=D)) (w) :
 Calls prog 228 #[.int .u64 b,.int .u64 c] w (RetB (.tuple #[.int .u64 B,.int .u64 D]) w):=by
 have K:=lh R;have y:=lh H;clear R H;go_enter func228,ntmps228;go_wp2;go_loopg [6,7,8] 64 (fun a h l t wr=>∃j d:Nat,h=.int .u64 j/\l=.int .u64 d/\t=iV ((a:Int)-1)/\a<=64/\Hd (b*(c/2 ^ a)/18446744073709551616=j)/\Hd (b*(c/2 ^ a)%18446744073709551616=d)/\w=wr);case atStart=>refine⟨0,0,rfl,rfl,rfl,by omega,?_,?_,rfl⟩ <;> (show _=_;rw[mul_top b c y.o])
 case round =>
  obtain⟨j,d,rfl,rfl,rfl,W,s,o,rfl⟩:=hrel;cases gk with
  | zero =>
   obtain rfl:B=j:=by rw[<-P.o,<-s.o,Nat.pow_zero,Nat.div_one]
   obtain rfl:D=d:=by rw[<-O.o,<-o.o,Nat.pow_zero,Nat.div_one]
   clear P O s o;go_wp2;go_ret2;exact⟨rfl,bR⟩
  | succ a =>
   obtain⟨t,J⟩:∃t:Int,((a+1:Nat):Int)-1=t:=⟨_,rfl⟩;have F:t=(a:Int):=om;rw[J];subst F;clear J;have C:=mul_bound b c a K.o y.o;have p:=mul_step b c a;obtain⟨E,S⟩:=xg (b*(c/2 ^ (a+1)));obtain⟨v,x⟩:=xg (b*(c/2 ^ a));have m:=lh x;rw[S]at s o p;rw[x]at p C;have X:=QD c a y.o;obtain⟨k,G⟩:=xg (c/2 ^ a%2);have Z:k<=1:=om;rw[G]at p X;clear S x G;obtain⟨f,A⟩:=xg ((2*j+d/9223372036854775808)%18446744073709551616);obtain⟨e,L⟩:=xg (d*2%18446744073709551616);obtain⟨g,T⟩:=xg ((e+b)%18446744073709551616);have z:=Y0 E v j d f e g b k s.o o.o A L T p C K.o Z;have aa:=lh z;have V:d<18446744073709551616:=by rw[<-o.o];exact Nat.mod_lt _ om
   have ad:bits .or .u64 (IntKind.u64.wrap ((j:Int)*2)) ((d:Int)/9223372036854775808)=(f:Int):=by rw[show(d:Int)/9223372036854775808=((d/9223372036854775808:Nat):Int) by omega,Ss j _ om,A]
   have ag:IntKind.u64.wrap ((d:Int)*2)=(e:Int):=by rw[n2];omega
   have ac:IntKind.u64.wrap ((e:Int)+(b:Int))=(g:Int):=by rw[n2];omega
   have I:IntKind.u64.wrap ((f:Int)+1)=((f+1:Nat):Int)\/¬(k=1/\g<e):=by
    by_cases Q:k=1/\g<e;·exact Or.inl (by have:=z.2.2 Q;rw[n2];omega)
    ·exact Or.inr Q
   have u:=lh I;have F:wrap64 ((a:Int)-1)=(a:Int)-1:=by unfold wrap64;omega
   have ab:a<64:=om;clear p C s o A L T z I V W;by_cases M:k=1
   ·subst M;by_cases n:g<e
    ·have ae:IntKind.u64.wrap ((f:Int)+1)=((f+1:Nat):Int):=u.resolve_right (fun h=>h ⟨rfl,n⟩);have Y:decide (g<e)=true:=by simp[n]
     have i:=lh (aa.2.2 ⟨rfl,n⟩);clear u aa n;go_wp2;go_roundg a;case measure=>omega
     case rel=>exact⟨f+1,g,by go_num,rfl,rfl,by omega,by show _=_;rw[m.o];exact i.2.1,by show _=_;rw[m.o];exact i.2.2,rfl⟩
    ·have Y:decide (g<e)=false:=by simp;omega
     have i:=lh (aa.2.1 rfl n);clear u aa n;go_wp2;go_roundg a;case measure=>omega
     case rel=>exact⟨f,g,rfl,rfl,rfl,by omega,by show _=_;rw[m.o];exact i.1,by show _=_;rw[m.o];exact i.2,rfl⟩
   ·have af:((k:Int) == 1)=false:=by rw[beq_eq_false_iff_ne];omega
    have i:=lh (aa.1 M);clear u aa;go_wp2;go_roundg a;case measure=>omega
    case rel=>exact⟨f,e,rfl,rfl,rfl,by omega,by show _=_;rw[m.o];exact i.1,by show _=_;rw[m.o];exact i.2,rfl⟩
theorem jiq (N n c a b d e p:Nat) (m:0<a) (A:a<18446744073709551616) (t:b<=1) (o:N/a=n) (k:N%a=c) (C:(2*c+b)%18446744073709551616=d) (z:n*2%18446744073709551616=e)
 (B:(d+18446744073709551616-a)%18446744073709551616=p) (u:(2*N+b)/a<18446744073709551616) :
 (9223372036854775808<=c\/a<=d->(2*N+b)/a=e+1/\(2*N+b)%a=p/\e%2=0/\e+1<18446744073709551616)/\(¬9223372036854775808<=c->¬a<=d->(2*N+b)/a=e/\(2*N+b)%a=d):=by
 obtain⟨g,f⟩:=bit_step N b a m t;have v:=Nat.mod_lt N m;rw[o,k]at g;rw[k]at f v;obtain⟨x,j⟩:=xg ((2*N+b)/a);obtain⟨y,l⟩:=xg ((2*N+b)%a);rw[j]at g u;rw[l]at f;rw[j,l];clear j l o k;by_cases h:a<=2*c+b;·rw[if_pos h]at g f;refine⟨fun _=>by omega,fun r s=>by omega⟩
 ·rw[if_neg h]at g f;refine⟨fun r=>by omega,fun r s=>by omega⟩
theorem Vv (q:Nat) (c:q<18446744073709551616) (b:q%2=0):bits .or .u64 (q:Int) 1=((q+1:Nat):Int):=by have a:q=q/2*2 ^ 1:=om;have:=E3 (q/2) 1 1 om om om;rw[<-a]at this;exact this
theorem WD (q:Nat) (a:q<18446744073709551616):bits .and .u64 (q:Int) 1=((q%2:Nat):Int):=by have h:=bits_and_u64_nat q 1 a om;rw[show q &&& 1=q%2 from Nat.and_two_pow_sub_one_eq_mod _ 1]at h;exact h
theorem JI (aA k cR:Nat) (q:Int) (D:Bool) (K:k<18446744073709551616) (ao:cR<18446744073709551616) (F:Hd (evQ aA k cR=(q,D))) (w) :
 Calls prog 206 #[.int .u64 aA,.int .u64 k,.int .u64 cR] w (RetB (.tuple #[.int .u64 q,.bool D]) w):=by
 by_cases s:cR<=aA
 ·obtain⟨rfl,rfl⟩:=Qz F.o s;clear F;by_cases av:cR=0
  ·have Y:((cR:Int) == 0)=true:=by simp[av]
   clear av s;go_enter func206,ntmps206;go_wp2;go_ret2;exact⟨rfl,bR⟩
  ·have Y:((cR:Int) == 0)=false:=by rw[beq_eq_false_iff_ne];omega
   go_enter func206,ntmps206;go_wp2;go_ret2;exact⟨rfl,bR⟩
 ·obtain⟨d,H⟩:∃d,aA*18446744073709551616+k=d:=⟨_,rfl⟩;have p:=lh (LX F.o s H);have a6:=lh H;have a4:=lh K;have al:=lh ao;have a0:d/2 ^ 64=aA:=by rw[<-H];exact top_hi aA k K
  have m:∀g,d/2 ^ g/cR<18446744073709551616:=fun g=>by
   have T:d/2 ^ g/cR<=d/cR:=Nat.div_le_div_right (Nat.div_le_self _ _);have P:d/cR<18446744073709551616:=by rw[Nat.div_lt_iff_lt_mul om];exact MG
   omega
  have az:=lh m;have ay:=lh a0;have Q:0<cR:=om;have ax:=lh s;have Y:((cR:Int) == 0)=false:=by rw[beq_eq_false_iff_ne];omega
  clear F H K ao a0 m s;go_enter func206,ntmps206;go_wp2;go_loopg [8,9,10] 64 (fun g h l u wr=>∃b a:Nat,h=.int .u64 b/\l=.int .u64 a/\u=iV ((g:Int)-1)/\g<=64/\Hd (d/2 ^ g/cR=b)/\Hd (d/2 ^ g%cR=a)/\w=wr);case atStart =>
   refine⟨0,aA,rfl,rfl,rfl,by omega,?_,?_,rfl⟩;·show _=_;rw[ay.o];exact Nat.div_eq_of_lt (Nat.lt_of_not_le ax.o)
   ·show _=_;rw[ay.o];exact Nat.mod_eq_of_lt (Nat.lt_of_not_le ax.o)
  case round =>
   obtain⟨b,a,rfl,rfl,rfl,ab,x,o,rfl⟩:=hrel;cases gk with
   | zero =>
    have S:b<18446744073709551616:=by rw[<-x.o];exact az.o 0
    have M:a<cR:=by rw[<-o.o];exact Nat.mod_lt _ Q
    obtain⟨e,ai⟩:=xg (cR-a);have n:Hd (evenN d cR=if a<e\/(a=e/\b%2=0) then b else b+1):=by have T:=x.o;have P:=o.o;rw[Nat.pow_zero,Nat.div_one]at T P;show _=_;unfold evenN;rw[T,P,ai]
    have z:=al.o;have aI:IntKind.u64.wrap ((cR:Int)-(a:Int))=(e:Int):=by rw[n2];omega
    have I:=lh S;have sa:=WD b S;obtain⟨r,an⟩:=xg (b%2);rw[an]at sa n;have A:r<=1:=om;clear x o S M ai z an ab;have aB:(a<e\/(a=e/\r=0))\/(e<a\/(a=e/\r=1)):=om;rcases aB with j | j
    ·have f:=lh (p.1 (by rw[n.o,if_pos j];exact I.o));rw[n.o,if_pos j]at f;clear p n;rcases j with j | ⟨v,B⟩
     ·have L:decide (e<a)=false:=by simp;omega
      have X:((a:Int) == (e:Int))=false:=by rw[beq_eq_false_iff_ne];omega
      clear j A;go_wp2;go_ret2;rw[f.1,f.2];exact⟨rfl,bR⟩
     ·have L:decide (e<a)=false:=by simp;omega
      have X:((a:Int) == (e:Int))=true:=by simp[v]
      have a3:((r:Int) == 1)=false:=by rw[beq_eq_false_iff_ne];omega
      clear v B A;go_wp2;go_ret2;rw[f.1,f.2];exact⟨rfl,bR⟩
    ·have ag:evenN d cR=b+1:=by rw[n.o,if_neg om]
     have G:=lh ag;clear ag n;obtain⟨fP,y⟩:=xg ((b+1)%18446744073709551616);have aL:IntKind.u64.wrap ((b:Int)+1)=(fP:Int):=by rw[n2];omega
     have Z:=lh y;clear y;have a1:((b:Int) == 18446744073709551615)=true/\Hd (q=0/\D=false)\/((b:Int) == 18446744073709551615)=false/\Hd (q=(fP:Int)/\D=true):=by
      by_cases aD:b=18446744073709551615;·exact Or.inl ⟨by rw[beq_iff_eq];omega,p.2 (by rw[G.o];omega)⟩
      ·have aE:=I.o;have ak:=p.1 (by rw[G.o];omega);rw[G.o]at ak;have aF:=Z.o;refine Or.inr ⟨by rw[beq_eq_false_iff_ne];omega,by omega,ak.2⟩
     clear p G I Z;rcases a1 with⟨a5,f⟩ | ⟨a5,f⟩;all_goals
      rcases j with j | ⟨v,B⟩
      ·have L:decide (e<a)=true:=by simp;omega
       clear j A;go_wp2;go_ret2;rw[f.1,f.2];exact⟨rfl,bR⟩
      ·have L:decide (e<a)=false:=by simp;omega
       have X:((a:Int) == (e:Int))=true:=by simp[v]
       have a3:((r:Int) == 1)=true:=by simp[B]
       clear v B A;go_wp2;go_ret2;rw[f.1,f.2];exact⟨rfl,bR⟩
   | succ g =>
    obtain⟨u,ar⟩:∃u:Int,((g+1:Nat):Int)-1=u:=⟨_,rfl⟩;have aa:u=(g:Int):=om;rw[ar];subst aa;clear ar;have t:=half_step d g;have O:=bit_lo aA k g om;rw[a6.o]at O;have m:=az.o g;have ac:=QD k g a4.o;rw[<-O]at ac;have M:a<cR:=by rw[<-o.o];exact Nat.mod_lt _ Q
    obtain⟨a8,W⟩:=xg (d/2 ^ g%2);have am:a8<=1:=om;obtain⟨aM,E⟩:=xg (d/2 ^ g);have tI:=lh E;obtain⟨a7,J⟩:=xg (d/2 ^ (g+1));rw[W]at t ac;rw[E,J]at t;rw[E]at m;rw[J]at x o;obtain⟨fP,y⟩:=xg (b*2%18446744073709551616);obtain⟨i,V⟩:=xg ((2*a+a8)%18446744073709551616);obtain⟨v3,ah⟩:=xg ((i+18446744073709551616-cR)%18446744073709551616);have z:=al.o;have R:=jiq a7 b a cR a8 i fP v3 Q z am x.o o.o V y ah (by rw[<-t];exact m);rw[<-t]at R;have C:=lh R;have aJ:bits .or .u64 (IntKind.u64.wrap ((a:Int)*2)) (a8:Int)=i:=by rw[Ss a a8 am,V]
    have aN:IntKind.u64.wrap ((b:Int)*2)=(fP:Int):=by rw[n2];omega
    have aG:IntKind.u64.wrap ((i:Int)-(cR:Int))=(v3:Int):=by rw[n2];omega
    have aa:wrap64 ((g:Int)-1)=(g:Int)-1:=by unfold wrap64;omega
    have aH:IntKind.u64.wrap (g:Int)=g:=by rw[n2];omega
    have aC:g<64:=om;have au:a<18446744073709551616:=om;have ae:a<18446744073709551616->9223372036854775808<=a->((a:Int)/9223372036854775808 == 1)=true:=fun _ h=>by rw[beq_iff_eq];omega
    have ad:¬9223372036854775808<=a->((a:Int)/9223372036854775808 == 1)=false:=fun h=>by rw[beq_eq_false_iff_ne];omega
    have v0:=lh ae;have tH:=lh ad;have a2:=lh au;clear t O m W E J y V ah R z ae ad M au ab;by_cases rU:9223372036854775808<=a\/cR<=i
    ·have ph:=lh (C.1 rU);have aK:bits .or .u64 (fP:Int) 1=((fP+1:Nat):Int):=Vv fP (oo ph.2.2.2) ph.2.2.1;clear C;by_cases aj:9223372036854775808<=a;·have aw:=v0.o a2.o aj;exact Oz
     ·have aw:=tH.o aj;have a9:decide (cR<=i)=true:=by simp;omega
      exact Oz
    ·have aj:¬9223372036854775808<=a:=fun h=>rU (Or.inl h);have af:¬cR<=i:=fun h=>rU (Or.inr h);have ph:=lh (C.2 aj af);have aw:=tH.o aj;have a9:decide (cR<=i)=false:=by simp;omega
     clear C v0 tH aj rU af;go_wp2;go_roundg g;case measure=>omega
     case rel=>exact⟨fP,i,rfl,rfl,rfl,by omega,by show _=_;rw[tI.o];exact ph.1,by show _=_;rw[tI.o];exact ph.2,rfl⟩
end
theorem JE (h:q:=by go_enter func175,ntmps175;go_wp2_with fail;refine(EE _ ts ay al an az ar ax _ aJ _ (br.B bm)).mono ?_;rintro _ a7 ⟨rfl,aH⟩;obtain⟨iO,cM,iP,iQ,iR,iS,iT⟩:=pZ.B aH;go_wp2;go_ret2;rw[aV.o];exact⟨rfl,bL⟩):q:=h
theorem MA (h:q:=by
 rintro I bU ⟨rfl,jD⟩;cases b with
 | false=>exact Oa
 | true =>
  obtain⟨rC,ql⟩:=mS.2 rfl;by_cases tz:q<=1000000000000000;·obtain⟨aj,rfl⟩:=ql tz;refine HR ?_;clear mS aj ql;intro aV tv tw bQ cB;go_wp2;go_ret2;refine⟨?_,bL⟩;rw[aV.o,if_pos om];rfl
  ·exact Ef):q:=h
theorem RM (h:q:=by
 rintro I bU ⟨rfl,jD⟩;cases b with
 | false=>exact Oa
 | true =>
  obtain⟨rC,ql⟩:=mS.2 rfl;by_cases tz:q<=1000000000000000;·obtain⟨aj,rfl⟩:=ql tz;refine HR ?_;clear mS aj ql;intro aV tv tw bQ cB;go_wp2;go_ret2;refine⟨?_,bL⟩;rw[aV.o,if_neg om];rfl
  ·exact Ef):q:=h
theorem QA (h:q:=by
 clear h;go_enter func187,ntmps187;go_wp2;refine sq 0 (fun kC fA=>∃(kD jr js jt kE kF kG kH kI kJ kK kL kM kN kO kP kQ kR kS kT kU kV kW kX kY kZ k' lc ld le lf lg li lj lk:Value),kC={ tmps:=#[kD,jr,js,jt,kE,kF,kG,kH,iV 5,kI,kJ,kK,kL,kM,kN,kO,kP,kQ,kR,kS,kT,kU,kV,kW,kX,kY,kZ,k',lc,ld,le,lf,lg,li,lj,lk],defers:=[] }/\Hd (x=0)/\BW w fA)
  (fun _ _=>0) rfl ?pass ?first
 case pass=>exact OA
 case first=>exact Sm):q:=h
section
open Go.RowKit EvM
theorem Lz (b a h c:Nat) (g:b<18446744073709551616) (e:a<18446744073709551616) (f:Hd (b*a/18446744073709551616=h)) (d:Hd (b*a%18446744073709551616=c)) (w) :
 Calls prog 239 #[.int .u64 b,.int .u64 a] w (RetB (.tuple #[.int .u64 h,.int .u64 c]) w):=by
 have:=Mt b a g e w;rw[f.o,d.o]at this;exact this.mono fun _ _ h=>h.b
theorem KX (b a h c:Nat) (g:b<18446744073709551616) (e:a<18446744073709551616) (f:Hd (b*a/18446744073709551616=h)) (d:Hd (b*a%18446744073709551616=c)) (w) :
 Calls prog 228 #[.int .u64 b,.int .u64 a] w (RetB (.tuple #[.int .u64 h,.int .u64 c]) w):=jhi b a h c g e f d w
theorem HK (h:shareR c d f=(y,z)) (e:d<0\/f<=0):0=y/\1=z:=by unfold shareR at h;rw[if_pos e]at h;injection h with b a;exact⟨b,a⟩
theorem NQ (h:shareR c d f=(y,z)) (g:¬d<0) (a:¬f<=0) (b:mayM c=false):0=y/\5=z:=by unfold shareR at h;rw[if_neg om,if_pos b]at h;injection h with a e;exact⟨a,e⟩
theorem Un {q:Int} {A hi lo:Nat} (h:shareR c d f=(y,z)) (s:¬d<0) (e:¬f<=0) (p:mayM c=true) (l:c.natAbs=A) (o:d=(n:Int)) (m:A*n/18446744073709551616=hi) (r:A*n%18446744073709551616=lo)
 (k:evQ (hi:Int) (lo:Int) f=(q,D)):(D=false\/1000000000000000<q->y=0/\z=5)/\(D=true->0<=q/\(q<=1000000000000000->(y=if c<0 then -q else q)/\z=0)):=by
 subst l;subst o;have a:=shQ_ev c n f q D om om (by rw[Int.toNat_natCast,m,r];exact k);unfold shareR at h;rw[if_neg om,if_neg (by rw[p];simp)]at h;split at h;·rename_i j;injection h with e g;refine⟨fun _=>⟨e.symm,g.symm⟩,fun i=>?_⟩;have:=a.1 i;exact⟨by omega,fun b=>by omega⟩
 ·rename_i j;injection h with e g;refine⟨fun b=>?_,fun i=>?_⟩
  ·rcases b with b | b;·exact absurd (a.2 b) j
   ·cases D with
    | false=>exact absurd (a.2 rfl) j
    | true=>have:=a.1 rfl;omega
  ·have:=a.1 i;subst this;exact⟨by omega,fun _=>⟨e.symm,g.symm⟩⟩
theorem ZJ (aB a c x I:Int) (o:-9223372036854775808<=a/\a<9223372036854775808) (i:-9223372036854775808<=c/\c<9223372036854775808) (h:Hd (shareR aB a c=(x,I))) (w) :
 Calls prog 223 #[iV aB,iV a,iV c] w (RetB (.tuple #[iV x,iV I]) w):=by
 by_cases g:a<0;·obtain⟨rfl,rfl⟩:=HK h.o (Or.inl g);clear h;go_enter func223,ntmps223;go_wp2;go_ret2;exact⟨rfl,bR⟩
 ·by_cases f:c<=0;·obtain⟨rfl,rfl⟩:=HK h.o (Or.inr f);clear h;go_enter func223,ntmps223;go_wp2;go_ret2;exact⟨rfl,bR⟩
  ·cases a0:mayM aB with
   | false=>obtain⟨rfl,rfl⟩:=NQ h.o om om a0;have d:=lh a0;clear h a0;go_enter func223,ntmps223;go_wp2_with fail;refine(Db d.o _).mono ?_;rintro I e ⟨rfl,rfl⟩;go_wp2;go_ret2;exact⟨rfl,bR⟩
   | true =>
    have j:=mayM_iff.1 a0;have d:=lh a0;obtain⟨n,rfl⟩:=Int.eq_ofNat_of_zero_le (show 0<=a by omega);obtain⟨aa,rfl⟩:=Int.eq_ofNat_of_zero_le (show 0<=c by omega);refine KF ?_;clear h a0 g f o i j;unhygienic intros
    rcases(show aB=(ab:Int)\/(aB = -(ab:Int)/\0<ab) by omega) with rfl | ⟨rfl,r⟩
    ·refine Jl ?_;clear eJ;unhygienic intros
     go_enter func223,ntmps223;go_wp2_with fail;refine(Db d.o _).mono ?_;rintro I e ⟨rfl,rfl⟩;go_wp2_with fail;refine(Lz ab n aA bw om qZ.o qX kf _).mono ?_;rintro I l ⟨rfl,m⟩;go_wp2_with fail;refine(I9 aA bw aa q b em.o lw.o nG _).mono ?_;exact RM
    ·refine GE ?_;clear eJ;intro nZ rD c' aS;go_enter func223,ntmps223;go_wp2_with fail;refine(Db d.o _).mono ?_;rintro I e ⟨rfl,rfl⟩;go_wp2_with fail;refine(Lz ab n aA bw om qZ.o qX kf _).mono ?_;rintro I l ⟨rfl,m⟩;go_wp2_with fail;refine(I9 aA bw aa q b em.o lw.o nG _).mono ?_;exact MA
theorem UC (aB a c x I:Int) (o:-9223372036854775808<=a/\a<9223372036854775808) (i:-9223372036854775808<=c/\c<9223372036854775808) (h:Hd (shareR aB a c=(x,I))) (w) :
 Calls prog 207 #[iV aB,iV a,iV c] w (RetB (.tuple #[iV x,iV I]) w):=by
 by_cases g:a<0;·obtain⟨rfl,rfl⟩:=HK h.o (Or.inl g);clear h;go_enter func207,ntmps207;go_wp2;go_ret2;exact⟨rfl,bR⟩
 ·by_cases f:c<=0;·obtain⟨rfl,rfl⟩:=HK h.o (Or.inr f);clear h;go_enter func207,ntmps207;go_wp2;go_ret2;exact⟨rfl,bR⟩
  ·cases a0:mayM aB with
   | false=>obtain⟨rfl,rfl⟩:=NQ h.o om om a0;have d:=lh a0;clear h a0;go_enter func207,ntmps207;go_wp2_with fail;refine(LQ d.o _).mono ?_;rintro I e ⟨rfl,rfl⟩;go_wp2;go_ret2;exact⟨rfl,bR⟩
   | true =>
    have j:=mayM_iff.1 a0;have d:=lh a0;obtain⟨n,rfl⟩:=Int.eq_ofNat_of_zero_le (show 0<=a by omega);obtain⟨aa,rfl⟩:=Int.eq_ofNat_of_zero_le (show 0<=c by omega);refine KF ?_;clear h a0 g f o i j;unhygienic intros
    rcases(show aB=(ab:Int)\/(aB = -(ab:Int)/\0<ab) by omega) with rfl | ⟨rfl,r⟩
    ·refine Jl ?_;clear eJ;unhygienic intros
     go_enter func207,ntmps207;go_wp2_with fail;refine(LQ d.o _).mono ?_;rintro I e ⟨rfl,rfl⟩;go_wp2_with fail;refine(KX ab n aA bw om qZ.o qX kf _).mono ?_;rintro I l ⟨rfl,m⟩;go_wp2_with fail;refine(JI aA bw aa q b em.o lw.o nG _).mono ?_;exact RM
    ·refine GE ?_;clear eJ;intro nZ rD c' aS;go_enter func207,ntmps207;go_wp2_with fail;refine(LQ d.o _).mono ?_;rintro I e ⟨rfl,rfl⟩;go_wp2_with fail;refine(KX ab n aA bw om qZ.o qX kf _).mono ?_;rintro I l ⟨rfl,m⟩;go_wp2_with fail;refine(JI aA bw aa q b em.o lw.o nG _).mono ?_;exact MA
end
section
open Go.RowKit EvM
def B2 (d:Bool) (b c a:Int):Int×Int :=
 if d=false then (0,6) else if a<0\/1000000000000000<a then (0,5) else (min a (max b (shareR a c 1000).1),0)
theorem HG (h:B2 false c d f=(y,z)):y=0/\z=6:=by unfold B2 at h;rw[if_pos rfl]at h;injection h with b a;exact⟨b.symm,a.symm⟩
theorem Dy (h:B2 true c d f=(y,z)) (e:f<0\/1000000000000000<f):y=0/\z=5:=by unfold B2 at h;rw[if_neg (by simp),if_pos e]at h;injection h with b a;exact⟨b.symm,a.symm⟩
theorem LB (h:B2 true c d f=(y,z)) (k:¬f<0) (j:¬1000000000000000<f) (i:0<=d/\d<=1000):∃a,shareR f d 1000=(a,0)/\y=min f (max c a)/\z=0:=by obtain⟨a,b,_⟩:=share_neg f d 1000 om om om (mayM_iff.2 om);unfold B2 at h;rw[if_neg (by simp),if_neg om,b]at h;injection h with g e;exact⟨a,b,g.symm,e.symm⟩
theorem Rg {b:List (Int×Bool)} {a:Int} (h:hu c b d f y z a=true):0<=z/\z<=1000:=by simp only[hu,ba]at h;exact B9.1 h.1.2
theorem Tf (j) (ts:List (Int×Bool)) (ay al an az ar ax b x a:Int) (h:Hd (B2 (hu ay ts al an az ar ax) az ar b=(x,a))) (w) (f:h7 w j ts) :
 Calls prog 187 #[.agg #[iV ay,j,iV al,iV an,iV az,iV ar,iV ax],iV b] w (RetB (.tuple #[iV x,iV a]) w):=by
 have br:=lh f;obtain⟨aF,aC,rfl,t,⟨o,_⟩,s⟩:=f;clear s;unfold maxLen at o;refine YH ?_;unhygienic intros
 cases a9:hu ay ts al an az ar ax with
 | false =>
  have aV:Hd (x=0):=(HG hM).1;obtain rfl:6=a:=(HG hM).2.symm;have aJ:Hd ((if hu ay ts al an az ar ax=true then 0 else 6)=(6:Int)):=by show _=_;rw[a9];rfl
  clear h a9;go_enter func187,ntmps187;go_wp2;refine sq 0 (fun kC fA=>∃(kD jr js jt kE kF kG kH kI kJ kK kL kM kN kO kP kQ kR kS kT kU kV kW kX kY kZ k' lc ld le lf lg li lj lk:Value),kC={ tmps:=#[kD,jr,js,jt,kE,kF,kG,kH,iV 6,kI,kJ,kK,kL,kM,kN,kO,kP,kQ,kR,kS,kT,kU,kV,kW,kX,kY,kZ,k',lc,ld,le,lf,lg,li,lj,lk],defers:=[] }/\Hd (x=0)/\BW w fA)
   (fun _ _=>0) rfl ?pass ?first
  case pass=>exact OA
  case first=>exact Sm
 | true =>
  have aJ:Hd ((if hu ay ts al an az ar ax=true then 0 else 6)=(0:Int)):=by show _=_;rw[a9];rfl
  have i:=Rg a9;rw[a9]at h;clear a9;by_cases d:b<0;·have aV:Hd (x=0):=(Dy h.o (Or.inl d)).1;obtain rfl:5=a:=(Dy h.o (Or.inl d)).2.symm;exact QA
  ·by_cases c:1000000000000000<b;·have aV:Hd (x=0):=(Dy h.o (Or.inr c)).1;obtain rfl:5=a:=(Dy h.o (Or.inr c)).2.symm;exact QA
   ·obtain⟨p,e,l,g⟩:=LB h.o d c i;obtain rfl:0=a:=g.symm;have aV:=lh l;have r:=lh e;have n:Hd (-9223372036854775808<=ar/\ar<9223372036854775808):=⟨by omega,by omega⟩;clear h l e g i;go_enter func187,ntmps187;go_wp2;refine sq 0 (fun kC fA=>∃(kD jr js jt kE kF kG kH kI kJ kK kL kM kN kO kP kQ kR kS kT kU kV kW kX kY kZ k' lc ld le lf lg li lj lk:Value),kC={ tmps:=#[kD,jr,js,jt,kE,kF,kG,kH,iZ,kI,kJ,kK,kL,kM,kN,kO,kP,kQ,kR,kS,kT,kU,kV,kW,kX,kY,kZ,k',lc,ld,le,lf,lg,li,lj,lk],defers:=[] }/\Hd (x=0)/\BW w fA)
     (fun _ _=>0) rfl ?pass ?first
    case pass=>exact OA
    case first=>intro fd nA mL;have dM:=lh nA;clear nA mL;go_wp2_with fail;refine Lo ?_;intro a7 aH iO cM iP iQ iR iS iT;go_wp2_with fail;refine(ZJ b ar 1000 p 0 n.o ⟨by decide,by decide⟩ r _).mono ?_;rintro _ u ⟨rfl,m⟩;obtain⟨iO,cM,iP,iQ,iR,iS,iT⟩:=(pZ.B aH).B m;go_wp2;simp only[Exit.jump];go_ret2;rw[aV.o];exact⟨rfl,bL⟩
theorem Tq (l) (ts:List (Int×Bool)) (ay al an az ar ax c b a:Int) (h:Hd (B2 (hu ay ts al an az ar ax) az ar c=(b,a))) (w) (g:h7 w l ts) :
 Calls prog 175 #[.agg #[iV ay,l,iV al,iV an,iV az,iV ar,iV ax],iV c] w (RetB (.tuple #[iV b,iV a]) w):=by
 have br:=lh g;obtain⟨aF,aC,rfl,u,⟨o,_⟩,t⟩:=g;clear t;unfold maxLen at o;refine YH ?_;unhygienic intros
 cases a9:hu ay ts al an az ar ax with
 | false =>
  have aV:Hd (b=0):=(HG hM).1;obtain rfl:6=a:=(HG hM).2.symm;have aJ:Hd ((if hu ay ts al an az ar ax=true then 0 else 6)=(6:Int)):=by show _=_;rw[a9];rfl
  clear h a9;exact JE
 | true =>
  have aJ:Hd ((if hu ay ts al an az ar ax=true then 0 else 6)=(0:Int)):=by show _=_;rw[a9];rfl
  have j:=Rg a9;rw[a9]at h;clear a9;by_cases e:c<0;·have aV:Hd (b=0):=(Dy h.o (Or.inl e)).1;obtain rfl:5=a:=(Dy h.o (Or.inl e)).2.symm;clear h;exact JE
  ·by_cases d:1000000000000000<c;·have aV:Hd (b=0):=(Dy h.o (Or.inr d)).1;obtain rfl:5=a:=(Dy h.o (Or.inr d)).2.symm;clear h;exact JE
   ·obtain⟨p,f,m,i⟩:=LB h.o e d j;obtain rfl:0=a:=i.symm;have aV:=lh m;have s:=lh f;have r:Hd (-9223372036854775808<=ar/\ar<9223372036854775808):=⟨by omega,by omega⟩;clear h m f i j;go_enter func175,ntmps175;go_wp2_with fail;refine(EE _ ts ay al an az ar ax _ aJ _ (br.B bm)).mono ?_;rintro _ a7 ⟨rfl,aH⟩;obtain⟨iO,cM,iP,iQ,iR,iS,iT⟩:=pZ.B aH;go_wp2_with fail;refine(UC c ar 1000 p 0 r.o ⟨by decide,by decide⟩ s _).mono ?_;rintro _ v ⟨rfl,n⟩;obtain⟨iO,cM,iP,iQ,iR,iS,iT⟩:=(pZ.B aH).B n;go_wp2;go_ret2;rw[aV.o];exact⟨rfl,bL⟩
end
theorem OC (h:q:=by have eJ:¬n<1:=om;have bx:¬300<n:=om;have ow:=lh dn;have pD:=lh fc;clear dn fc od;exact JA):q:=h
theorem JA (h:q:=by
 go_wp2_with (first | (go_at_call 185;refine(KS _ _ Oy _).mono ?_;rintro _ _ ⟨rfl,rfl⟩))
 go_step3;exact Cn.mk l8.o l9.o mg.o):q:=h
def hz (w:World) (g:Value) (b:List (Int×Int×Int)):Prop :=
 ∃f d,g=.slice f b.length d/\b.length<=d/\(d<=maxLen/\(f=none->d=0)) /\
  (b≠[]->∃c e,f=some (Ad c e)/\∀a,a<b.length->w.cell? (Ad c (e+a*3))=some (iV (b.getD a (0,0,0)).1)/\w.cell? (Ad c (e+a*3+1))=some (iV (b.getD a (0,0,0)).2.1)/\w.cell? (Ad c (e+a*3+2))=some (iV (b.getD a (0,0,0)).2.2))
theorem hz.nil:hz w (sZ) []:= ⟨none,0,rfl,nr _,⟨by simp[maxLen],fun _=>rfl⟩,fun h=>absurd rfl h⟩
theorem hz.B {e:List (Int×Int×Int)} (h:hz w v e) (d:BW w W):hz W v e:=by obtain⟨k,m,rfl,l,j,n⟩:=h;refine⟨k,m,rfl,l,j,fun r=>?_⟩;obtain⟨b,a,rfl,s⟩:=n r;refine⟨b,a,rfl,fun c o=>?_⟩;obtain⟨f,g,i⟩:=s c o;exact⟨(d.cell (p:=(Ad b (a+c*3))) (ht f)).trans f,(d.cell (p:=(Ad b (a+c*3+1))) (ht g)).trans g,(d.cell (p:=(Ad b (a+c*3+2))) (ht i)).trans i⟩
def EU (g r l d:Int) (i:List (Int×Int×Int)) (tot m p:Int) (k:Bool) (n:List Int) (e f o:Int) (w:World) (j:Ending) (a:World):Prop :=
 ∃c b,j=.returned (.tuple #[.agg #[iV g,iV r,iV l,iV d,c,iV tot,iV m,iV p,.bool k],.agg #[b,iV e,iV f],iV o])/\hz a c i/\Sl .i64 a b n/\(Fr w c/\Fr w b)/\BW w a
def Zu (a:Int):World->Ending->World->Prop:=EU 0 0 0 0 [] 0 0 0 false [] 0 0 a
def pd (a:Int):Bool:=decide (-135140<=a) && decide (a<=2932896)
theorem KS (a:Int) (b:Bool) (d:pd a=b) (w):Calls prog 185 #[iV a] w (h3 (.bool b) w):=by
 subst d;unfold pd;by_cases e:-135140<=a
 ·by_cases c:a<=2932896;·go_enter func185,ntmps185;go_wp2;go_ret;exact⟨by simp[e,c],rfl⟩
  ·have g:decide (a<=2932896)=false:=by simp;omega
   go_enter func185,ntmps185;go_wp2;go_ret;exact⟨by simp,rfl⟩
 ·have f:decide (-135140<=a)=false:=by simp;omega
  go_enter func185,ntmps185;go_wp2;go_ret;exact⟨by simp,rfl⟩
def Cn (w:World) (E:Int) (l:Nat) (aM:Act) (a:World):Prop :=
 l=0/\hA a (w.heap.size+1+1+1) 43 [iZ,iZ,iZ,iZ,sZ,iZ,iZ,iZ,.bool false]/\hA a (w.heap.size+1+1+1+1) 35 [sZ,iZ,iZ]/\BW w a/\∃(bv r bt aQ ag bx y V a' b3 Q bf M a1 t aL G S bs B x a9 k bb be bw al bu a5 b8 au X aO bl av aE az aS aF ad aW aI aR aD p I O an Z f ar bB a2 ax b0 Y b9 am bg aV b2 bF aG a6 br T s b1 K v ah aB g a7 aj m z aN J e b4 H bE ab L ai aK aH bm i aT bd D W aJ aZ j aX a8 bh af aA ay F bi c a0 b aU u aw bD b6 R n bp ak ac o P a3 bq bj aa aP ae A b5 aY b7 C bA bo bz d ao a4 aC bc bC:Value),aM={ tmps:=#[bv,r,bt,aQ,ag,bx,y,V,a',b3,Q,bf,M,a1,pV (w.heap.size+1+1+1),pV (w.heap.size+1+1+1+1),t,aL,iV E,G,S,bs,B,x,a9,k,bb,be,bw,al,bu,a5,b8,au,X,aO,bl,av,aE,az,aS,aF,ad,aW,aI,aR,aD,p,I,O,an,Z,f,ar,bB,a2,ax,b0,Y,b9,am,bg,aV,b2,bF,aG,a6,br,T,s,b1,K,v,ah,aB,g,a7,aj,m,z,aN,J,e,b4,H,bE,ab,L,ai,aK,aH,bm,i,aT,bd,D,W,aJ,aZ,j,aX,a8,bh,af,aA,ay,F,bi,c,a0,b,aU,u,aw,bD,b6,R,n,bp,ak,ac,o,P,a3,bq,bj,aa,aP,ae,A,b5,aY,b7,C,bA,bo,bz,d,ao,a4,aC,bc,bC],defers:=[] }
theorem Cn.mk {aR aj bv z Y bb b1 R bf O a3 s aN H T bs C y aB k bc be bu l bt a7 b6 aw aa aP bl ax aG a1 aT aH ag aX aK aS aF p J P ar ac f av b9 a4 az bx ab b7 ao bg aW b0 bD aI a8 br X r bz L x ak aD g a9 am m A aO K e b2 I bC ae M al aM aJ bm i aU bd E Z aL a' j aY aA bh ai aC a0 G bi b a2 a aV t ay bB b4 S n bp an af o Q a5 bq bj ad aQ ah B b3 aZ b5 D b8 bo bw d au a6 aE F bA:Value} (bG:hA W (w.heap.size+1+1+1) 43 [iZ,iZ,iZ,iZ,sZ,iZ,iZ,iZ,.bool false]) (bF:hA W (w.heap.size+1+1+1+1) 35 [sZ,iZ,iZ]) (bE:BW w W):Cn w c 0 { tmps:=#[v,u,V,aR,aj,bv,z,Y,bb,b1,R,bf,O,a3,pV (w.heap.size+1+1+1),pV (w.heap.size+1+1+1+1),s,aN,iV c,H,T,bs,C,y,aB,k,bc,be,bu,l,bt,a7,b6,aw,aa,aP,bl,ax,aG,a1,aT,aH,ag,aX,aK,aS,aF,p,J,P,ar,ac,f,av,b9,a4,az,bx,ab,b7,ao,bg,aW,b0,bD,aI,a8,br,X,r,bz,L,x,ak,aD,g,a9,am,m,A,aO,K,e,b2,I,bC,ae,M,al,aM,aJ,bm,i,aU,bd,E,Z,aL,a',j,aY,aA,bh,ai,aC,a0,G,bi,b,a2,a,aV,t,ay,bB,b4,S,n,bp,an,af,o,Q,a5,bq,bj,ad,aQ,ah,B,b3,aZ,b5,D,b8,bo,bw,d,au,a6,aE,F,bA],defers:=[] } W:=
 ⟨rfl,bG,bF,bE,v,u,V,aR,aj,bv,z,Y,bb,b1,R,bf,O,a3,s,aN,H,T,bs,C,y,aB,k,bc,be,bu,l,bt,a7,b6,aw,aa,aP,bl,ax,aG,a1,aT,aH,ag,aX,aK,aS,aF,p,J,P,ar,ac,f,av,b9,a4,az,bx,ab,b7,ao,bg,aW,b0,bD,aI,a8,br,X,r,bz,L,x,ak,aD,g,a9,am,m,A,aO,K,e,b2,I,bC,ae,M,al,aM,aJ,bm,i,aU,bd,E,Z,aL,a',j,aY,aA,bh,ai,aC,a0,G,bi,b,a2,a,aV,t,ay,bB,b4,S,n,bp,an,af,o,Q,a5,bq,bj,ad,aQ,ah,B,b3,aZ,b5,D,b8,bo,bw,d,au,a6,aE,F,bA,rfl⟩
theorem Ey (h:BW w W) (a:w.heap.size<=n) (i e g b c d k f j):BW w (((((((((W.setCell (Ad n 0) i).setCell (Ad n 1) e).setCell (Ad n 2) g).setCell (Ad n 3) b).setCell (Ad n 4) c).setCell (Ad n 5) d).setCell (Ad n 6) k).setCell (Ad n 7) f).setCell (Ad n 8) j):=
 ((((((((h.setCell a _).setCell a _).setCell a _).setCell a _).setCell a _).setCell a _).setCell a _).setCell a _).setCell a _
theorem hA.s9 (h:hA w n e C) (a:n≠m) (k f j b c d i g l):hA (((((((((w.setCell (Ad m 0) k).setCell (Ad m 1) f).setCell (Ad m 2) j).setCell (Ad m 3) b).setCell (Ad m 4) c).setCell (Ad m 5) d).setCell (Ad m 6) i).setCell (Ad m 7) g).setCell (Ad m 8) l) n e C:=
 ((((((((h.setOther a _ _).setOther a _ _).setOther a _ _).setOther a _ _).setOther a _ _).setOther a _ _).setOther a _ _).setOther a _ _).setOther a _ _
theorem hR (w:World) (c:List Value) (b:TypeId) (a:Nat) (d:w.heap.size=a):hA (w.alloc (.cells c.toArray b)) a b c:=by subst d;exact heap_alloc_new w _
theorem XM (w:World) (d m k f l e n g j b:Int) (c i):∃a,(((((w.alloc (.cells #[iV d,c,iV m,iV k,iV f,iV l,iV e] 24)).alloc (.cells #[iV n,iV g] 40)).alloc (.cells #[i,iV j,iV b] 35)).alloc (.cells #[iZ,iZ,iZ,iZ,sZ,iZ,iZ,iZ,.bool false] 43)).alloc (.cells #[sZ,iZ,iZ] 35))=a/\Hd (hA a w.heap.size 24 [iV d,c,iV m,iV k,iV f,iV l,iV e])/\Hd (hA a (w.heap.size+1) 40 [iV n,iV g])/\Hd (hA a (w.heap.size+1+1) 35 [i,iV j,iV b])/\Hd (hA a (w.heap.size+1+1+1) 43 [iZ,iZ,iZ,iZ,sZ,iZ,iZ,iZ,.bool false])/\Hd (hA a (w.heap.size+1+1+1+1) 35 [sZ,iZ,iZ])/\Hd (BW w a)/\Hd (a.heap.size=w.heap.size+5):=by exact⟨_,rfl,hA.B (hR w _ _ _ rfl) (hB (hB (hB (hB bR _) _) _) _),hA.B (hR (w.alloc _) _ _ _ Is) (hB (hB (hB bR _) _) _),hA.B (hR ((w.alloc _).alloc _) _ _ _ Is) (hB (hB bR _) _),hA.B (hR (((w.alloc _).alloc _).alloc _) _ _ _ Is) (hB bR _),hR ((((w.alloc _).alloc _).alloc _).alloc _) _ _ _ Is,hB (hB (hB (hB (hB bR _) _) _) _) _,by show _=_;simp⟩
def q1 (a:Int):Bool:=decide (a<0) || decide (10000000<a)
def CQ (c:Nat) (a d b:Int) (f e:Nat):Bool:=decide (1<=a) && decide (a<=300) && pd d && pd b && decide (d<=b) && f == c && e == c
theorem FA:CQ n c d f m k=true↔1<=c/\c<=300/\pd d=true/\pd f=true/\d<=f/\m=n/\k=n:=by simp[CQ,and_assoc]
theorem X4 (h:CQ n c d f m k=false):c<1\/(1<=c/\300<c)\/((1<=c/\c<=300)/\pd d=false)\/((1<=c/\c<=300)/\pd d=true/\pd f=false)\/((1<=c/\c<=300)/\(pd d=true/\pd f=true)/\f<d)\/((1<=c/\c<=300)/\(pd d=true/\pd f=true)/\d<=f/\m≠n)\/((1<=c/\c<=300)/\(pd d=true/\pd f=true)/\d<=f/\m=n/\k≠n):=by
 by_cases a:1<=c
 ·by_cases b:c<=300
  ·cases e:pd d with
   | false=>exact .inr (.inr (.inl ⟨⟨a,b⟩,rfl⟩))
   | true =>
    cases e2:pd f with
    | false=>exact .inr (.inr (.inr (.inl ⟨⟨a,b⟩,rfl,rfl⟩)))
    | true =>
     by_cases i:d<=f
     ·by_cases g:m=n
      ·by_cases j:k=n;·rw[FA.2 ⟨a,b,e,e2,i,g,j⟩]at h;cases h
       ·exact .inr (.inr (.inr (.inr (.inr (.inr ⟨⟨a,b⟩,⟨rfl,rfl⟩,i,g,j⟩)))))
      ·exact .inr (.inr (.inr (.inr (.inr (.inl ⟨⟨a,b⟩,⟨rfl,rfl⟩,i,g⟩)))))
     ·exact .inr (.inr (.inr (.inr (.inl ⟨⟨a,b⟩,⟨rfl,rfl⟩,by omega⟩))))
  ·exact .inr (.inl ⟨a,by omega⟩)
 ·exact .inl om
def NF (b:List (Int×Bool)) (d g j e i k n m l:Int) (f:List Int) (u t:Int) (c p:List Int) (a:Int):Prop :=
 (hu d b g j e i k=false/\6=a)\/(hu d b g j e i k=true/\CQ b.length n m l f.length c.length=false/\1=a) \/
 ((hu d b g j e i k=true/\CQ b.length n m l f.length c.length=true)/\((c.any q1=true/\1=a)\/(c.any q1=false/\a≠0/\∃o r s,s0 f u t p=(o,r,s,a))))
theorem P7 (a:k<r.length) (h:q1 (r.getD k 0)=true):r.any q1=true:=by rw[List.any_eq_true];exact⟨r[k],List.getElem_mem _,by simpa[List.getD,a] using h⟩
theorem Oc (h:r.any q1=false) (b:k<r.length):0<=r.getD k 0/\r.getD k 0<=10000000:=by have a:=List.any_eq_false.1 h (r.getD k 0) (by rw[List.getD,List.getElem?_eq_getElem b];exact List.getElem_mem _);simp[q1]at a;exact a
theorem ysl (h:∀a8,a8<r.length->q1 (r.getD a8 0)=false):r.any q1=false:=by rw[List.any_eq_false];exact Rt
theorem Zr (H) (ts:List (Int×Bool)) (ay al an az ar ax n cb bV:Int) (T) (bs:List Int) (c aa:Int) (R) (a:List Int) (P) (v:List Int) (s:Bool) (a0:ts.length<=1000) (ab:Int) (F:Hd (NF ts ay al an az ar ax n cb bV bs c aa a v ab)) (w) (Z:h7 w H ts) (O:Sl .i64 w T bs) (ad:Sl .i64 w R a) (ae:Sl .i64 w P v) :
 Calls prog 141 #[.agg #[iV ay,H,iV al,iV an,iV az,iV ar,iV ax],iV n,.agg #[iV cb,iV bV],.agg #[T,iV c,iV aa],R,P,.bool s] w (Zu ab w):=by
 have aZ:=lh Z;have aQ:=lh O;have aT:=lh ad;have aG:=lh ae;obtain⟨aF,aC,rfl,b5,⟨a8,o⟩,j⟩:=Z;clear j o;obtain⟨rx,ry,rfl,b7,⟨aP,o⟩,j⟩:=O;clear j o;obtain⟨bf,bl,rfl,b1,⟨a9,o⟩,j⟩:=ad;clear j o;obtain⟨bh,bw,rfl,bc,⟨a7,o⟩,j⟩:=ae;clear j o;unfold maxLen at a8 aP a9 a7;go_enter func141,ntmps141;go_wp2_with fail;refine Cb ?_;unhygienic intros
 clear aW;refine Fu (Cn w ab) ?first ?pass
 case pass =>
  intro l bv b3 d;obtain⟨rfl,eJ,iH,X,d⟩:=d;refine⟨_,rfl,?_⟩;iterate 3 obtain⟨_,d⟩:=d
  obtain⟨aD,d⟩:=d;iterate 136 obtain⟨_,d⟩:=d
  subst d;obtain⟨aJ,a4,am,a5,aI,aX,a6,aR,a1,-⟩:=eJ.cS [0,1,2,3,4,5,6,7,8];obtain⟨aO,aB,av,b8,bi,b0,bt,be,b4,-⟩:=eJ.fs [0,1,2,3,4,5,6,7,8];obtain⟨ao,aM,u,-⟩:=iH.cS [0,1,2];obtain⟨bb,bj,bz,-⟩:=iH.fs [0,1,2];have aV:=lh X;have aw:=iH.lt;clear eJ iH X;go_wp2;simp only[w2];refine bodyPost_ret (v:=.tuple #[.agg #[iZ,iZ,iZ,iZ,sZ,iZ,iZ,iZ,.bool false],.agg #[sZ,iZ,iZ],iV ab]) (by simp[results,results141,go_sem,aJ,a4,am,a5,aI,aX,a6,aR,a1,ao,aM,u]) rfl ⟨sZ,sZ,rfl,hz.nil,Sl.nil,⟨x0,x0⟩,?_⟩;have ah:w.heap.size<=w.heap.size+1+1+1:=om;exact p2 (Ey aV.o ah _ _ _ _ _ _ _ _ _) om _ _ _
 case first =>
  have aU:∃f,W.alloc (.cells #[iZ,iZ,iZ,iZ,sZ,iZ,iZ,iZ,.bool false] 43)=f/\Hd (hA f w.heap.size 24 [iV ay,.slice aF ts.length aC,iV al,iV an,iV az,iV ar,iV ax])/\Hd (hA f (w.heap.size+1) 40 [iV cb,iV bV])/\Hd (hA f (w.heap.size+1+1) 35 [.slice rx bs.length ry,iV c,iV aa])/\Hd (hA f (w.heap.size+1+1+1) 43 [iZ,iZ,iZ,iZ,sZ,iZ,iZ,iZ,.bool false])/\Hd (hA f (w.heap.size+1+1+1+1) 35 [sZ,iZ,iZ])/\Hd (BW w f) :=
   ⟨_,rfl,oM.B (hB bR _),oN.B (hB bR _),oO.B (hB bR _),oP.B (hB bR _),oQ.B (hB bR _),hB gu.o _⟩
  go_upto_region 2 with fail;obtain⟨f,V,qe,tp,tq,r9,rA,A⟩:=aU;with_reducible rw[V]
  clear V oM oN oO oP oQ gu ru;have r8:=lh (aZ.B A.o);obtain⟨ak,cM,aK,aL,aA,a',ai,-⟩:=qe.cS [0,1,2,3,4,5,6];rcases F.o with⟨kw,rfl⟩ | r
  ·have gt:Hd ((if hu ay ts al an az ar ax=true then 0 else 6)=(6:Int)):=by show _=_;rw[kw];rfl
   clear kw F;go_wp2_with fail;refine(Cy _ ts ay al an az ar ax _ gt _ r8.o).mono ?_;rintro _ dm ⟨rfl,bT⟩;have l8:=lh (r9.B bT);have l9:=lh (rA.B bT);have mg:=lh (hJ A.o bT);clear bT;go_wp2_with fail;go_step3;exact Cn.mk l8.o l9.o mg.o
  ·have kw:hu ay ts al an az ar ax=true:=by rcases r with h | h;exact h.1;exact h.1.1
   refine RK ?_;intro gt;have J:=lh r;clear kw F r;go_wp2_with fail;refine O6 ?_;intro dm bT nX nW l5 l8 l9;have mg:=lh (hJ A.o bT);clear bT ak cM aK aL aA a' ai qe tp tq r9 rA A r8 gt;go_upto_region 5 with fail;refine LV ?_;intro c' aS cM dN;rcases J.o with⟨_,od,rfl⟩ | ⟨⟨_,od⟩,r⟩
   ·clear J;rcases X4 od with h | h | h | h | h | h | h;·go_wp2_with fail;go_step3;exact Cn.mk l8.o l9.o mg.o
    ·obtain⟨g,m⟩:=h;have eJ:¬n<1:=om;go_wp2_with fail;go_step3;exact Cn.mk l8.o l9.o mg.o
    ·obtain⟨⟨g,m⟩,dn⟩:=h;have eJ:¬n<1:=om;have bx:¬300<n:=om;have ow:=lh dn;have pD:=ow;clear dn od;exact JA
    ·obtain⟨⟨g,m⟩,dn,fc⟩:=h;exact OC
    ·obtain⟨⟨g,m⟩,⟨dn,fc⟩,aw⟩:=h;exact OC
    ·obtain⟨⟨g,m⟩,⟨dn,fc⟩,aw,C⟩:=h;have eJ:¬n<1:=om;have bx:¬300<n:=om;have iH:¬bV<cb:=om;have aM:((bs.length:Int) != (ts.length:Int))=true:=by simp;omega
     have ow:=lh dn;have pD:=lh fc;clear dn fc od C;exact JA
    ·obtain⟨⟨g,m⟩,⟨dn,fc⟩,aw,z,C⟩:=h;refine Qw ?_;intro eJ bx iH aM;have u:((a.length:Int) != (ts.length:Int))=true:=by simp;omega
     have ow:=lh dn;have pD:=lh fc;clear dn fc od C z;exact JA
   ·obtain⟨g,m,dn,fc,aw,z,Q⟩:=FA.1 od;refine Qw ?_;intro eJ bx iH aM;have u:((a.length:Int) != (ts.length:Int))=false:=by simp;omega
    have ow:=lh dn;have pD:=lh fc;have a2:=lh (An z Q);have G:=lh r;clear dn fc od z Q J r aw g m;go_upto_region 6 with(first | (go_at_call 185;refine(KS _ _ Oy _).mono ?_;rintro _ _ ⟨rfl,rfl⟩))
    clear eJ bx iH aM u c' aS cM dN;have af:=lh (aT.B mg.o);go_wp2_with fail;go_loopg [71] a.length (fun s i wr=>∃k:Nat,k+s=a.length/\i=iV k/\Hd (∀b,b<k->q1 (a.getD b 0)=false)/\dm=wr);case atStart=>exact⟨0,by omega,rfl,fun b D=>absurd D om,rfl⟩
    case round =>
     obtain⟨k,bd,rfl,S,rfl⟩:=hrel;cases gk with
     | succ s =>
      have aw:(k:Int)<a.length:=om;obtain⟨bp,bu,x,rfl,br,L⟩:=af.get (i:=k) om;by_cases au:x<0
      ·have E:1=ab:=by
        rcases G.o with⟨_,h⟩ | ⟨h,_⟩;·exact h
        ·exact absurd h (by rw[P7 (k:=k) om (by rw[L.o];simp[q1,au])];simp)
       subst E;go_wp2_with fail;go_step3;exact Cn.mk l8.o l9.o mg.o
      ·by_cases ag:10000000<x
       ·have E:1=ab:=by
         rcases G.o with⟨_,h⟩ | ⟨h,_⟩;·exact h
         ·exact absurd h (by rw[P7 (k:=k) om (by rw[L.o];simp[q1,ag])];simp)
        subst E;go_wp2_with fail;go_step3;exact Cn.mk l8.o l9.o mg.o
       ·have aE:Hd (∀b,b<k+1->q1 (a.getD b 0)=false):=fun b D=>by
         by_cases e:b=k;·subst e;rw[L.o];simp[q1];omega
         ·exact S.o b om
        go_wp2_with fail;go_roundg s;case measure=>omega
        case rel=>exact⟨k+1,by omega,by go_num,aE,rfl⟩
     | zero =>
      have aw:¬((k:Int)<a.length):=om;have bq:k=a.length:=om;obtain⟨y,b2,B,Y⟩:∃y b2 B,Hd (ab≠0/\s0 bs c aa v=(y,b2,B,ab)):=by
       rcases G.o with⟨h,_⟩ | ⟨_,aN,y,b2,B,h⟩;·exact absurd h (by rw[ysl fun b D=>S.o b om];simp)
       ·exact⟨y,b2,B,aN,h⟩
      have jy:=l5.o;obtain⟨dN,ac,M,-⟩:=jy.cS [0,1,2];have bm:(ab != 0)=true:=by have:=Y.1;simpa using this
      have aY:=lh Y.2;clear jy;go_wp2_with fail;refine(TY _ _ bs v c aa _ aY (o2 a2.o a0) _ (aQ.B mg.o) (aG.B mg.o)).mono ?_;rintro _ bo ⟨aD,rfl,I,t⟩;simp only at I ⊢;obtain⟨b6,bg,rfl⟩:=I.shape;have aH:=lh (l8.B t);have aj:=lh (l9.B t);have a3:=lh (hJ mg.o t);have K:=l5.B t;clear dN ac M;obtain⟨dN,ac,M,-⟩:=K.cS [0,1,2];obtain⟨aO,aB,av,-⟩:=K.fs [0,1,2];clear K I t;go_wp2_with fail;go_step3;exact Cn.mk (((aH.setOther om _ _).setOther om _ _).setOther om _ _) (((aj.setOther om _ _).setOther om _ _).setOther om _ _) (p2 a3.o om _ _ _)
theorem qgy (h:q:=by simp only[Value.slice.injEq,Option.some.injEq,Addr.mk.injEq]at h;have:=h.1.1;have:=eX.o;have:=jg.o;omega):q:=h
def ih (b d c:List Int):List (Int×Int×Int):=(List.range b.length).map fun a=>(b.getD a 0,d.getD a 0,c.getD a 0)
def wY (b:List (Int×Int×Int)):List Value:=b.flatMap fun a=>[iV a.1,iV a.2.1,iV a.2.2]
theorem Rf (a b:List (Int×Int×Int)):wY (a++b)=wY a++wY b:=by simp[wY]
theorem Iy (b:List (Int×Int×Int)) (a:Nat) (aA:a<b.length):(wY b)[a*3]?=some (iV (b.getD a (0,0,0)).1)/\(wY b)[a*3+1]?=some (iV (b.getD a (0,0,0)).2.1)/\(wY b)[a*3+2]?=some (iV (b.getD a (0,0,0)).2.2):=by
 induction b generalizing a with
 | nil=>simp at aA
 | cons c b e =>
  have f:wY (c::b)=iV c.1::iV c.2.1::iV c.2.2::wY b:=rfl;rw[f];cases a with
  | zero=>simp
  | succ a=>have h:=e a MV;have d:(a+1)*3=a*3+1+1+1:=om;rw[d];simpa using h
theorem OH (a:List (Int×Int×Int)):(wY a).length=a.length*3:=by
 induction a with
 | nil=>rfl
 | cons b a d=>have c:wY (b::a)=iV b.1::iV b.2.1::iV b.2.2::wY a:=rfl;rw[c];simp only[List.length_cons,d];omega
theorem hz.of_blk {cur:List Value} {a:List (Int×Int×Int)} (h:hA w n e cur) (s:a.length=k) (j:k<=m) (i:m<=maxLen) (r:cur.take (k*3)=wY a):hz w (sL n 0 k m) a:=by
 subst s;refine⟨_,_,rfl,j,⟨i,fun h=>by cases h⟩,fun _=>⟨n,0,rfl,fun b o=>?_⟩⟩;obtain⟨l,g,p⟩:=Iy a b o;have d:∀c,c<a.length*3->cur[c]?=(wY a)[c]?:=fun c f=>by rw[<-r];simp[f]
 rw[h.cell,h.cell,h.cell];refine⟨?_,?_,?_⟩;·rw[Nat.zero_add,d _ om];exact l
 ·rw[show 0+b*3+1=b*3+1 by omega,d _ om];exact g
 ·rw[show 0+b*3+2=b*3+2 by omega,d _ om];exact p
theorem hz.of_own {a:List (Int×Int×Int)} (h:w.ownsRow n e 3 v m (wY a)) (i:a.length=m):hz w v a:=by
 rcases h.2 with⟨rfl,l⟩ | ⟨j,k,b,rfl,o,g,d,c,p,f⟩;·obtain rfl:a=[]:=List.eq_nil_of_length_eq_zero (oo (OH a));exact hz.nil
 ·exact hz.of_blk (cur:=b.toList) (by simpa[hA] using g) i d c (ss f)
theorem DN {a:Option Nat} (h:hA w n e C) (c:w.grownBy W a) (b:some n≠a):hA W n e C:=(c.block n h.lt b).trans h
theorem Sl.grownC {e:Option Nat} (h:Sl K w v r) (n:w.grownBy W e) (k:∀b c f u,v=sL b c f u->0<f->some b≠e):Sl K W v r:=by obtain⟨o,s,rfl,p,l,t⟩:=h;refine⟨o,s,rfl,p,l,fun g=>?_⟩;obtain⟨b,c,rfl,j⟩:=t g;have m:=k b c _ _ rfl (List.length_pos_iff.2 g);refine⟨b,c,rfl,fun d i=>?_⟩;rw[<-j d i];exact World.cell?_of_block (w:=w) (a:=(Ad b (c+d))) (n.block b (ht (j d i)) m)
theorem hz.shape {c:List (Int×Int×Int)} (h:hz w v c):∃a b,v=.slice a c.length b:=by obtain⟨a,b,rfl,_⟩:=h;exact⟨a,b,rfl⟩
theorem EJ (a c b:List Int):(ih a c b).length=a.length:=by simp[ih]
theorem hz.setCell {g:List (Int×Int×Int)} (h:hz w v g) (l:∀b d j x,v=sL b d j x->0<j->b≠n) (e):hz (w.setCell (Ad n i) e) v g:=by obtain⟨p,s,rfl,r,m,t⟩:=h;refine⟨p,s,rfl,r,m,fun k=>?_⟩;obtain⟨b,d,rfl,z⟩:=t k;have o:=l b d _ _ rfl (List.length_pos_iff.2 k);have f:∀c,(w.setCell (Ad n i) e).cell? (Ad b c)=w.cell? (Ad b c):=fun c=>World.cell?_of_block (w:=w) (a:=(Ad b c)) (heap_setCell_other w (Ad n i) b e (fun y=>o y));refine⟨b,d,rfl,fun c u=>?_⟩;rw[f,f,f];exact z c u
theorem hz.s9 {e:List (Int×Int×Int)} (h:hz w v e) (a:∀b l d c,v=sL b l d c->0<d->b≠n) (k b c f o g j i m):hz (((((((((w.setCell (Ad n 0) k).setCell (Ad n 1) b).setCell (Ad n 2) c).setCell (Ad n 3) f).setCell (Ad n 4) o).setCell (Ad n 5) g).setCell (Ad n 6) j).setCell (Ad n 7) i).setCell (Ad n 8) m) v e:=
 ((((((((h.setCell a _).setCell a _).setCell a _).setCell a _).setCell a _).setCell a _).setCell a _).setCell a _).setCell a _
theorem Sl.s9 (h:Sl K w v r) (a:∀b k d c,v=sL b k d c->0<d->b≠n) (j b c e m f i g l):Sl K (((((((((w.setCell (Ad n 0) j).setCell (Ad n 1) b).setCell (Ad n 2) c).setCell (Ad n 3) e).setCell (Ad n 4) m).setCell (Ad n 5) f).setCell (Ad n 6) i).setCell (Ad n 7) g).setCell (Ad n 8) l) v r:=
 ((((((((h.setCell a _).setCell a _).setCell a _).setCell a _).setCell a _).setCell a _).setCell a _).setCell a _).setCell a _
theorem hz.s3 {e:List (Int×Int×Int)} (h:hz w v e) (b:∀a g d c,v=sL a g d c->0<d->a≠n) (f a c):hz (((w.setCell (Ad n 0) f).setCell (Ad n 1) a).setCell (Ad n 2) c) v e:=((h.setCell b _).setCell b _).setCell b _
theorem Sl.s3 (h:Sl K w v r) (b:∀a f d c,v=sL a f d c->0<d->a≠n) (e a c):Sl K (((w.setCell (Ad n 0) e).setCell (Ad n 1) a).setCell (Ad n 2) c) v r:=((h.setCell b _).setCell b _).setCell b _
theorem Mp (w:World) (c a b) (e:TypeId):∀f d,[c,a,b][f]?=some d->(w.alloc (.cells #[c,a,b] e)).cell? (((Ad w.heap.size 0):Addr).add f)=some d:=by intro f d g;have h:hA (w.alloc (.cells #[c,a,b] e)) w.heap.size e [c,a,b]:=heap_alloc_new w _;rw[Addr.add_lit,h.cell,Nat.zero_add];exact g
theorem O4:(prog.info? 65).map (fun a=>(a.zero,a.size,a.bytes))=some (some (.agg #[iZ,iZ,iZ]),3,24):=by kernel_rfl
theorem SH {a:List Int} (b:n<r.length):(ih r x a).take (n+1)=(ih r x a).take n++[(r.getD n 0,x.getD n 0,a.getD n 0)]:=by
 have c:(ih r x a).length=r.length:=by simp[ih]
 rw[List.take_succ_eq_append_getElem om]
 congr 2
 simp[ih]
theorem YA (v) (ts:List (Int×Bool)) (ay al an az ar ax n cb bV:Int) (bA) (bs:List Int) (c aa:Int) (b1) (f:List Int) (bj) (j:List Int) (o:Bool) (cP:ts.length<=1000) (kw:hu ay ts al an az ar ax=true) (cc:CQ ts.length n cb bV bs.length f.length=true) (tu:f.any q1=false) (L:List Int) (co ib:Int) (dY:Hd (s0 bs c aa j=(L,co,ib,0))) (ck:L.length=bs.length) (ct:j.length=bs.length) (tot:Int) (dE:Hd (AY L co ib=tot)) (aG x:Int) (c4:Hd (B2 (hu ay ts al an az ar ax) az ar tot=(aG,x))) (b2:Int) (rB:bV+an=b2) (c9:-9000000000<=b2/\b2<=9000000000) (w) (ca:h7 w v ts) (u:Sl .i64 w bA bs) (cu:Sl .i64 w b1 f) (cw:Sl .i64 w bj j) :
 Calls prog 141 #[.agg #[iV ay,v,iV al,iV an,iV az,iV ar,iV ax],iV n,.agg #[iV cb,iV bV],.agg #[bA,iV c,iV aa],b1,bj,.bool o] w (EU n cb bV b2 (ih L j f) tot co aG o L co aG 0 w):=by
 have cy:=lh ca;have dM:=lh u;have cq:=lh cu;have bU:=lh cw;obtain⟨aF,aC,rfl,dP,⟨bE,F⟩,D⟩:=ca;clear D F;obtain⟨rx,ry,rfl,eA,⟨dK,F⟩,D⟩:=u;clear D F;obtain⟨ej,eq,rfl,e3,⟨dw,F⟩,D⟩:=cu;clear D F;obtain⟨el,ex,rfl,eg,⟨ds,F⟩,D⟩:=cw;clear D F;unfold maxLen at bE dK dw ds;obtain⟨cz,dU,ci,bC,J,bI,bm⟩:=FA.1 cc;refine Qw ?_;unhygienic intros
 have c1:((f.length:Int) != (ts.length:Int))=false:=by simp;omega
 have ow:=lh ci;have pD:=lh bC;have V:=lh (An bI (An bm (An ck (An ct cP))));refine RK ?_;intro gt;refine Hu ?_;unhygienic intros
 clear ci bC cc bI bm J cz dU kw tu ck ct rB ne nf c9;go_enter func141,ntmps141;go_wp2_with fail;refine Cb ?_;unhygienic intros
 clear aW;refine Fu (fun _ _ _=>False) ?first ?pass
 case pass=>intro l ew e5 cF;exact cF.elim
 case first =>
  have dR:∃C,W.alloc (.cells #[iZ,iZ,iZ,iZ,sZ,iZ,iZ,iZ,.bool false] 43)=C/\Hd (hA C w.heap.size 24 [iV ay,.slice aF ts.length aC,iV al,iV an,iV az,iV ar,iV ax])/\Hd (hA C (w.heap.size+1) 40 [iV cb,iV bV])/\Hd (hA C (w.heap.size+1+1) 35 [.slice rx bs.length ry,iV c,iV aa])/\Hd (hA C (w.heap.size+1+1+1) 43 [iZ,iZ,iZ,iZ,sZ,iZ,iZ,iZ,.bool false])/\Hd (hA C (w.heap.size+1+1+1+1) 35 [sZ,iZ,iZ])/\Hd (hA C W.heap.size 43 [iZ,iZ,iZ,iZ,sZ,iZ,iZ,iZ,.bool false])/\Hd (BW w C) :=
   ⟨_,rfl,oM.B (hB bR _),oN.B (hB bR _),oO.B (hB bR _),oP.B (hB bR _),oQ.B (hB bR _),heap_alloc_new W _,hB gu.o _⟩
  obtain⟨d,aA⟩:=xg W.heap.size;have jg:Hd (d=w.heap.size+5):=by show _=_;rw[<-aA];exact ru.o
  go_upto_region 2 with fail;obtain⟨C,bG,qe,tp,tq,r9,rA,aP,aN⟩:=dR;with_reducible rw[bG]
  rw[aA]at aP;clear bG oM oN oO oP oQ gu ru aA;have r8:=lh (cy.B aN.o);obtain⟨a6,cM,aR,aQ,aH,bc,a3,-⟩:=qe.cS [0,1,2,3,4,5,6];go_wp2_with fail;refine O6 ?_;unhygienic intros
  have aD:=lh (aP.B bT);have R:=lh (hJ aN.o bT);clear bT a6 cM aR aQ aH bc a3 qe tp tq r9 rA aP aN r8 gt;go_upto_region 5 with fail;refine LV ?_;intro c' aS cM dN;go_upto_region 6 with(first | (go_at_call 185;refine(KS _ _ Oy _).mono ?_;rintro _ _ ⟨rfl,rfl⟩))
  clear eJ bx iH aM c1 c' aS cM dN;have bf:=lh (cq.B R.o);go_wp2_with fail;go_loopg [71] f.length (fun o i wr=>∃k:Nat,k+o=f.length/\i=iV k/\dm=wr);case atStart=>exact⟨0,by omega,rfl,rfl⟩
  case round =>
   obtain⟨k,c8,rfl,rfl⟩:=hrel;cases gk with
   | succ o =>
    have J:(k:Int)<f.length:=om;obtain⟨cW,dp,y,rfl,es,ee⟩:=bf.get (i:=k) om;have S:=Oc va.o (k:=k) om;rw[ee.o]at S;obtain⟨e9,ef⟩:=S;have er:¬y<0:=om;have em:¬10000000<y:=om;go_wp2_with fail;go_roundg o;case measure=>omega
    case rel=>exact⟨k+1,by omega,by go_num,rfl⟩
   | zero =>
    have J:¬((k:Int)<f.length):=om;have jy:=l5.o;obtain⟨dN,aV,e4,-⟩:=jy.cS [0,1,2];clear jy;go_wp2_with fail;refine(Qo _ _ bs j c aa _ dY (oo V.o) _ (dM.B R.o) (bU.B R.o)).mono ?_;rintro _ cQ ⟨e0,rfl,⟨aw,be⟩,s⟩;simp only at aw ⊢;obtain⟨dh,bF,rfl⟩:=aw.shape;have bv:=lh aD.lt;have bH:=lh aw;have a8:=lh be;have bu:=lh (nX.B s);have b8:=lh (nW.B s);have ce:=lh (l8.B s);have bh:=lh (l9.B s);have bi:=lh (aD.B s);have bz:=lh (hJ R.o s);have aE:=lh (l5.B s);have aZ:=aE.o;clear dN aV e4;obtain⟨dN,aV,e4,-⟩:=aZ.cS [0,1,2];obtain⟨cm,bN,ag,-⟩:=aZ.fs [0,1,2];clear aZ aw be s nX nW l5 l8 l9 aD R bf J;go_upto_region 13 with fail;have bq:∀a e b q,Value.slice dh L.length bF=sL a e b q->0<b->a≠w.heap.size/\a≠(w.heap.size+1)/\a≠(w.heap.size+1+1)/\a≠(w.heap.size+1+1+1)/\a≠(w.heap.size+1+1+1+1)/\a≠d:=fun a e b q I a0=>by have:=a8.o a e b q I a0;have av:=jg.o;have dc:=bv.o;omega
    have z:=lh bq;have cG:Hd (Fr w (.slice dh L.length bF)):=fun a e b q I a0=>by have:=a8.o a e b q I a0;have av:=jg.o;have dc:=bv.o;omega
    obtain⟨aT,b0,O,ac,Q,b5,cd,aJ,b3,aK⟩:∃aT,(((cQ.setCell (Ad (w.heap.size+1+1) 0) (.slice dh L.length bF)).setCell (Ad (w.heap.size+1+1) 1) (iV co)).setCell (Ad (w.heap.size+1+1) 2) (iV ib))=aT/\Hd (hA aT w.heap.size 24 [iV ay,.slice aF ts.length aC,iV al,iV an,iV az,iV ar,iV ax])/\Hd (hA aT (w.heap.size+1) 40 [iV cb,iV bV])/\Hd (hA aT (w.heap.size+1+1) 35 [.slice dh L.length bF,iV co,iV ib])/\Hd (hA aT (w.heap.size+1+1+1) 43 [iZ,iZ,iZ,iZ,sZ,iZ,iZ,iZ,.bool false])/\Hd (hA aT (w.heap.size+1+1+1+1) 35 [sZ,iZ,iZ])/\Hd (hA aT d 43 [iZ,iZ,iZ,iZ,sZ,iZ,iZ,iZ,.bool false])/\Hd (BW w aT)/\Hd (Sl .i64 aT (.slice dh L.length bF) L):=by have av:=jg.o;exact⟨_,rfl,((bu.setOther om _ _).setOther om _ _).setOther om _ _,((b8.setOther om _ _).setOther om _ _).setOther om _ _,((aE.set 0 _).set 1 _).set 2 _,((ce.setOther om _ _).setOther om _ _).setOther om _ _,((bh.setOther om _ _).setOther om _ _).setOther om _ _,((bi.setOther om _ _).setOther om _ _).setOther om _ _,p2 bz.o om _ _ _,((bH.setCell (fun a e b q I h=>(z.o a e b q I h).2.2.1) _).setCell (fun a e b q I h=>(z.o a e b q I h).2.2.1) _).setCell (fun a e b q I h=>(z.o a e b q I h).2.2.1) _⟩
    with_reducible rw[b0]
    clear b0 bq bu b8 aE ce bh bi bz bH a8 dN aV e4 cm bN ag;refine LD ?_;intro jx kq;have ao:=jx aT O.o ac.o Q.o;have b6:=jx aT.drew O.o ac.o Q.o;clear jx;have aX:w.heap.size≠d:=oo jg.o;have bg:(w.heap.size+1)≠d:=oo jg.o;have M:(w.heap.size+1+1)≠d:=oo jg.o;obtain⟨ne,nf⟩:=uZ.o;go_region_held3 (fun W'=>(Ce W' (w.heap.size+1) 0 (iV cb)/\Ce W' (w.heap.size+1) 1 (iV bV))/\Ce W' w.heap.size 3 (iV an)/\(Ce W' (w.heap.size+1+1) 0 (.slice dh L.length bF)/\Ce W' (w.heap.size+1+1) 1 (iV co)/\Ce W' (w.heap.size+1+1) 2 (iV ib))) (first | with_reducible assumption | with_reducible exact ao | with_reducible exact b6 | with_reducible exact br | with_reducible exact kq.o _ ((O.o.B m.o).s9 aX _ _ _ _ _ _ _ _ _) ((ac.o.B m.o).s9 bg _ _ _ _ _ _ _ _ _) ((Q.o.B m.o).s9 M _ _ _ _ _ _ _ _ _)) (first | (go_at_call 111;refine(Rv _ L co ib tot dE (oo V.o) _ (aK.o.B HS)).mono ?_;rintro _ bb ⟨rfl,ea⟩;have m:Hd (BW aT bb):=MR;have br:=kq.o bb (O.o.B m.o) (ac.o.B m.o) (Q.o.B m.o);have g:=aJ.o.B m.o;have cn:=g.cell 0;have ch:=g.cell 1;have bo:=g.cell 2;have bK:=g.cell 3;have cf:=g.cell 4;have bO:=g.cell 5;have cv:=g.cell 6;have bt:=g.cell 7;have cl:=g.cell 8;simp only[gz,gs]at cn ch bo bK cf bO cv bt cl;have a2:=g.frozen 0;have T:=g.frozen 1;have X:=g.frozen 2;have cx:=g.frozen 3;have aO:=g.frozen 4;have dt:=g.frozen 5;have da:=g.frozen 6;have cU:=g.frozen 7;have dT:=g.frozen 8;clear g ea));obtain⟨A,bd,bW,bD,bQ,cs,a',a5,bB⟩:∃A,(((((((((bb.setCell (Ad d 0) (iV n)).setCell (Ad d 1) (iV cb)).setCell (Ad d 2) (iV bV)).setCell (Ad d 3) (iV b2)).setCell (Ad d 4) (sZ)).setCell (Ad d 5) (iV tot)).setCell (Ad d 6) (iV co)).setCell (Ad d 7) (iZ)).setCell (Ad d 8) (.bool o))=A/\Hd (hA A w.heap.size 24 [iV ay,.slice aF ts.length aC,iV al,iV an,iV az,iV ar,iV ax])/\Hd (hA A (w.heap.size+1+1) 35 [.slice dh L.length bF,iV co,iV ib])/\Hd (hA A (w.heap.size+1+1+1) 43 [iZ,iZ,iZ,iZ,sZ,iZ,iZ,iZ,.bool false])/\Hd (hA A (w.heap.size+1+1+1+1) 35 [sZ,iZ,iZ])/\Hd (hA A d 43 [iV n,iV cb,iV bV,iV b2,sZ,iV tot,iV co,iZ,.bool o])/\Hd (BW w A)/\Hd (Sl .i64 A (.slice dh L.length bF) L):=by have av:=jg.o;have dd:=aK.B m.o;have aU:∀a e b q,Value.slice dh L.length bF=sL a e b q->0<b->a≠d:=fun a e b q I h=>(z.o a e b q I h).2.2.2.2.2;exact⟨_,rfl,(O.B m.o).s9 aX _ _ _ _ _ _ _ _ _,(Q.B m.o).s9 M _ _ _ _ _ _ _ _ _,(b5.B m.o).s9 om _ _ _ _ _ _ _ _ _,(cd.B m.o).s9 om _ _ _ _ _ _ _ _ _,(((((((((aJ.B m.o).set 0 _).set 1 _).set 2 _).set 3 _).set 4 _).set 5 _).set 6 _).set 7 _).set 8 _,Ey (hJ b3.o m.o) om _ _ _ _ _ _ _ _ _,((((((((dd.setCell aU _).setCell aU _).setCell aU _).setCell aU _).setCell aU _).setCell aU _).setCell aU _).setCell aU _).setCell aU _⟩
    with_reducible rw[bd]
    clear bd O ac Q b5 cd aJ b3 aK ao b6 br kq m ne nf aX bg M cn ch bo bK cf bO cv bt cl a2 T X cx aO dt da cU dT;obtain⟨a6,cM,aR,aQ,aH,bc,a3,-⟩:=bW.cS [0,1,2,3,4,5,6];have af:=a'.cell 5;simp only[gz,gs]at af;go_wp2_with fail;refine(Tf _ ts ay al an az ar ax tot aG x c4 _ (cy.B a5.o)).mono ?_;rintro _ c7 ⟨rfl,E⟩;have ah:=lh (bD.B E);have b7:=lh (bQ.B E);have bX:=lh (cs.B E);have aj:=lh (a'.B E);have bw:=lh (hJ a5.o E);have cr:=lh (bB.B E);have ae:=aj.cell 7;have cB:=aj.frozen 7;have e4:=ah.cell 2;have ag:=ah.frozen 2;simp only[gz,gs]at ae e4;clear E bW bD bQ cs a' a5 bB a6 cM aR aQ aH bc a3 af;have M:(w.heap.size+1+1)≠d:=oo jg.o;have dz:¬d=(w.heap.size+1+1):=oo jg.o;go_upto_region 16 with fail;obtain⟨cZ,b',aY,c6,d2,cj,bS,bl⟩:∃cZ,((c7.setCell (Ad d 7) (iV aG)).setCell (Ad (w.heap.size+1+1) 2) (iV aG))=cZ/\Hd (hA cZ (w.heap.size+1+1) 35 [.slice dh L.length bF,iV co,iV aG])/\Hd (hA cZ (w.heap.size+1+1+1) 43 [iZ,iZ,iZ,iZ,sZ,iZ,iZ,iZ,.bool false])/\Hd (hA cZ (w.heap.size+1+1+1+1) 35 [sZ,iZ,iZ])/\Hd (hA cZ d 43 [iV n,iV cb,iV bV,iV b2,sZ,iV tot,iV co,iV aG,.bool o])/\Hd (BW w cZ)/\Hd (Sl .i64 cZ (.slice dh L.length bF) L):=by have av:=jg.o;exact⟨_,rfl,(ah.setOther M _ _).set 2 _,(b7.setOther om _ _).setOther om _ _,(bX.setOther om _ _).setOther om _ _,(aj.set 7 _).setOther om _ _,(bw.setCell (show w.heap.size<=d by omega) _).setCell (show w.heap.size<=(w.heap.size+1+1) by omega) _,(cr.setCell (fun a e b q I h=>(z.o a e b q I h).2.2.2.2.2) _).setCell (fun a e b q I h=>(z.o a e b q I h).2.2.1) _⟩
    with_reducible rw[b']
    clear b' ah b7 bX aj bw cr ae cB e4 ag M dz;have dN:=aY.cell 0;simp only[gz]at dN;obtain⟨d',d7,cV,d9,d4⟩:=info_parts O4;go_wp2_with fail;have cp:=lh (show L.length<=1000 from oo V.o);obtain⟨cT,dH⟩:=xg cZ.heap.size;have eX:Hd (d<cT/\w.heap.size<cT):=by have dP:=cj.lt;have bE:=bS.size;have D:=aY.lt;show _/\_;omega
    have c2:Hd (∀a e b q,Value.slice dh L.length bF=sL a e b q->0<b->a<cT):=by intro a e b q I a0;cases I;obtain⟨cW,dp,T,cN⟩:=bl.at (i:=0) a0;cases T;have:=ht cN;omega
    go_loopg [117] L.length (fun aL i wr=>∃k:Nat,k+aL=L.length/\i=iV k/\(∃t:Value,hA wr d 43 [iV n,iV cb,iV bV,iV b2,t,iV tot,iV co,iV aG,.bool o]/\wr.ownsRow cT 65 3 t k (wY ((ih L j f).take k)))/\Hd (hA wr (w.heap.size+1+1) 35 [.slice dh L.length bF,iV co,iV aG])/\Hd (hA wr (w.heap.size+1+1+1) 43 [iZ,iZ,iZ,iZ,sZ,iZ,iZ,iZ,.bool false])/\Hd (hA wr (w.heap.size+1+1+1+1) 35 [sZ,iZ,iZ])/\cT<=wr.heap.size/\BW w wr/\Hd (Sl .i64 wr (.slice dh L.length bF) L));case atStart=>refine⟨0,by omega,rfl,⟨sZ,cj.o,?_⟩,aY.o,c6.o,d2.o,Nat.le_of_eq dH.symm,bS.o,bl.o⟩;exact World.ownsRow_nil _ _ _ _
    case round =>
     obtain⟨k,c8,rfl,⟨t,iH,cJ⟩,oz,oy,ox,un,u,n7⟩:=hrel;clear dN;cases gk with
     | succ aL =>
      have J:(k:Int)<L.length:=om;obtain⟨e8,eB,dA,a2,et,dr⟩:=n7.get (i:=k) om;have c0:k<j.length:=oo V.o;have c5:k<f.length:=oo V.o;have ep:(k:Int)<j.length:=om;have eh:(k:Int)<f.length:=om;obtain⟨bn,ak,a9,T,ai,dL⟩:=bU.get (i:=k) c0;obtain⟨au,or,aI,X,ad,dv⟩:=cq.get (i:=k) c5;subst a2 T X;have dn:wr.cell? (Ad bn (ak+k))=some (iV a9):=(u.cell (p:=(Ad bn (ak+k))) (ht ai)).trans ai;have dI:wr.cell? (Ad au (or+k))=some (iV aI):=(u.cell (p:=(Ad au (or+k))) (ht ad)).trans ad;have bp:=lh ai;have b9:=lh ad;have aO:wr.cell? (Ad d 4)=some t:=iH.cell 4;have Y:∀q,t.ownBlock=some q->cT<=q:=fun q Z=>(cJ.lt q Z).1;have bP:=lh Y;have dV:Hd (∀q,t.ownBlock=some q->q=d->False):=fun q Z I=>by have:=bP.o q Z;have:=eX.1;omega
      have d3:k+1<=maxLen:=by unfold maxLen;have:=cp.o;omega
      have cD:(k+1)*24<=140737488355328:=oo cp.o;have cA:=lh u;have gQ:=lh iH;have bZ:=lh cJ;clear iH u Y cJ ai ad;have dX:∀a4:Obj,(wr.alloc a4).cell? (Ad d 4)=some t:=fun a4=>(gQ.B (hB bR a4)).cell 4;go_upto_region 19 with fail
      go_region_law
       (refine EF _ rfl (.tmp 123) (.tmp 134) 41 rfl cT 65 d' (.agg #[iZ,iZ,iZ]) 3 24 underlying41 d7 cV d9 d4 rfl Iv t k (wY ((ih L j f).take k)) JF (by first | exact bZ.alloc _ | exact(bZ.alloc _).drew) (some (Ad wr.heap.size 0)) 1 1 [iV dA,iV a9,iV aI] JF rfl (by intro h;cases h) (by intro e1 cK;cases cK;exact Mp wr _ _ _ _) (fun x S=>by simp at S;rcases S with rfl | rfl | rfl <;> rfl) d3 cD IO ?_;intro ek K aB am di;clear di;obtain⟨dy,cE,rfl⟩:=ro aB (Nat.succ_pos k);have ab:=lh am;have a1:=DN Ia am (fun I=>dV.o _ I.symm rfl);have cx:K.cell? (Ad d 4)=some t:=a1.cell 4;have dZ:=a1.frozen 4;have df:=lh a1;have s:BW w K:=Below.grown ME am Rl (fun q Z=>o2 (bP.o q Z) eX.2);have ey:K.cell? (Ad bn (ak+k))=some (iV a9):=(s.cell (p:=(Ad bn (ak+k))) (ht bp.o)).trans bp.o;have eu:K.cell? (Ad au (or+k))=some (iV aI):=(s.cell (p:=(Ad au (or+k))) (ht b9.o)).trans b9.o;have d0:=lh s;clear a1 am s)
      all_goals
       clear dX aO dn dI;have b4:some (w.heap.size+1+1)≠t.ownBlock:=fun I=>o3 (bP.o _ I.symm) eX.o jg.o;have bY:some (w.heap.size+1+1+1)≠t.ownBlock:=fun I=>o3 (bP.o _ I.symm) eX.o jg.o;have cg:some (w.heap.size+1+1+1+1)≠t.ownBlock:=fun I=>o3 (bP.o _ I.symm) eX.o jg.o;have dJ:=lh (DN Rr ab.o b4);have dW:=lh (DN Eg ab.o bY);have d5:=lh (DN HX ab.o cg);have db:=lh (Sl.grownC Id ab.o (fun a e b q I a0 X=>o2 (bP.o _ X.symm) (c2.o a e b q I a0)));have c3:cT<=K.heap.size:=by have h:=ab.size;simp only[wa,wd]at h;omega
       have dk:Hd (K.ownsRow cT 65 3 (sL dy 0 (k+1) cE) (k+1) (wY ((ih L j f).take (k+1)))):=by rw[SH (show k<L.length by omega),Rf,dr.o,dL.o,dv.o];exact aB
       clear aB b4 bY cg;go_wp2_with fail;go_roundg aL;case measure=>omega
       case rel=>have bJ:=jg.o;exact⟨k+1,by omega,by go_num,⟨_,df.set 4 _,ownsRow_setCell_below dk.o eX.1 _⟩,dJ.setOther om _ _,dW.setOther om _ _,d5.setOther om _ _,by rw[World.size_setCell];exact c3,d0.setCell (show w.heap.size<=d by omega) _,db.setCell (fun a e b q I h=>(z.o a e b q I h).2.2.2.2.2) _⟩
     | zero =>
      have cY:k=L.length:=om;subst cY;have J:¬((L.length:Int)<L.length):=om;rw[List.take_of_length_le (by rw[EJ];exact nr _)]at cJ;have a7:=hz.of_own cJ (EJ L j f);obtain⟨P,H,rfl⟩:=a7.shape;have dx:=lh a7;have Y:∀a e b q,Value.slice P (ih L j f).length H=sL a e b q->0<b->a≠(w.heap.size+1+1+1)/\a≠(w.heap.size+1+1+1+1):=fun a e b q I a0=>by exact BH
      have bP:=lh Y;have cH:Hd (Fr w (.slice P (ih L j f).length H)):=fun a e b q I a0=>by exact BH
      have jx:∀W',hA W' d 43 [iV n,iV cb,iV bV,iV b2,.slice P (ih L j f).length H,iV tot,iV co,iV aG,.bool o]->hA W' (w.heap.size+1+1) 35 [.slice dh L.length bF,iV co,iV aG]->(Ce W' d 0 (iV n)/\Ce W' d 1 (iV cb)/\Ce W' d 2 (iV bV)/\Ce W' d 3 (iV b2)/\Ce W' d 4 (.slice P (ih L j f).length H)/\Ce W' d 5 (iV tot)/\Ce W' d 6 (iV co)/\Ce W' d 7 (iV aG)/\Ce W' d 8 (.bool o))/\(Ce W' (w.heap.size+1+1) 0 (.slice dh L.length bF)/\Ce W' (w.heap.size+1+1) 1 (iV co)/\Ce W' (w.heap.size+1+1) 2 (iV aG)):=fun W' q r=>⟨⟨q.cell 0,q.cell 1,q.cell 2,q.cell 3,q.cell 4,q.cell 5,q.cell 6,q.cell 7,q.cell 8⟩,r.cell 0,r.cell 1,r.cell 2⟩;have ao:=jx wr iH oz.o;have bJ:=jg.o;obtain⟨dC,dg,cC,dl,dB,dS,dq,dO,cR,-⟩:=oy.cS [0,1,2,3,4,5,6,7,8];obtain⟨cm,bN,ag,dZ,eo,e2,ev,ei,e6,-⟩:=oy.fs [0,1,2,3,4,5,6,7,8];obtain⟨d8,cX,eb,-⟩:=ox.cS [0,1,2];obtain⟨en,ez,e7,-⟩:=ox.fs [0,1,2];have d1:=lh u;clear cJ a7 Y iH jx u;go_upto_region 21 with fail;obtain⟨⟨dj,d6,dG,du,cI,af,cO,ae,ec⟩,dF,dQ,dD⟩:=ao;clear bJ
      go_region
      clear dj d6 dG du cI af cO ae ec dF dQ dD;go_wp2;simp only[w2];refine bodyPost_ret (v:=.tuple #[.agg #[iV n,iV cb,iV bV,iV b2,.slice P (ih L j f).length H,iV tot,iV co,iV aG,.bool o],.agg #[.slice dh L.length bF,iV co,iV aG],iZ]) (by simp[results,results141,go_sem,dC,dg,cC,dl,dB,dS,dq,dO,cR,d8,cX,eb]) rfl ⟨.slice P (ih L j f).length H,.slice dh L.length bF,rfl,((dx.s9 (fun a e b q I h=>(bP.o a e b q I h).1) _ _ _ _ _ _ _ _ _).s3 (fun a e b q I h=>(bP.o a e b q I h).2) _ _ _).B (hG bR),((n7.s9 (fun a e b q I h=>(z.o a e b q I h).2.2.2.1) _ _ _ _ _ _ _ _ _).s3 (fun a e b q I h=>(z.o a e b q I h).2.2.2.2.1) _ _ _).B (hG bR),⟨cH.o,cG.o⟩,(p2 (Ey d1.o (show w.heap.size<=(w.heap.size+1+1+1) by omega) _ _ _ _ _ _ _ _ _) om _ _ _).drew⟩
end Go.Proofs.YtkongpjpkpfniaaGreat

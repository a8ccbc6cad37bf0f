/- TopBooks, a part. -/
import Derived.Laws.Externs
import Derived.Test.YtkongpjpkpfniaaGreatC04
import Derived.Test.YtkongpjpkpfniaaGreatC07
set_option linter.unusedVariables false
set_option linter.unusedSimpArgs false
set_option maxRecDepth 100000
set_option maxHeartbeats 6400000
namespace Go.Proofs.YtkongpjpkpfniaaGreat
open Go.RowKit Go.Proofs.Tryz
variable {c d:Int} {r x:List Int} {C:List Value} {j k m n:Nat} {p q:Prop} {e:TypeId} {v:Value} {W w:World}
theorem Sc {q:Prop} (h:q:=by clear pw aX;go_enter func140,ntmps140;go_wp2_with fail;refine Gv ?_;intro a7 aH;have cM:=(lr.B aH).cell 1;simp only[gz,gs]at cM;exact NM):q:=h
theorem Tw {q:Prop} (h:q:=by go_enter func184,ntmps184;go_wp2_with fail;refine(Rm ak cU bs a6 aA bw 0 fU _ br.o kA.o).mono ?_;exact SC):q:=h
section
open Go.RowKit EvM
theorem OK (c b a:Int) (d k:Nat) (m:0<=c) (j:0<=b) (f:0<=a/\a<=1) (l:Hd ((c+b+a)%18446744073709551616=(d:Int))) (i:Hd ((c+b+a)/18446744073709551616=(k:Int))) (w) :
 (callFunc 240 #[.int .u64 c,.int .u64 b,.int .u64 a]).run prog w=.ok (.value (.tuple #[.int .u64 d,.int .u64 k])) w:=by
 rw[run_callFunc_extern (e:=add64Entry) func240 kr kr kr kr,run_add64 c b a m j f.1 f.2,l.o,i.o];rfl
theorem ZK (b a h c:Nat) (l:b<18446744073709551616) (e:a<18446744073709551616) (f:Hd (b*a/18446744073709551616=h)) (d:Hd (b*a%18446744073709551616=c)) (w) :
 Calls prog 239 #[.int .u64 b,.int .u64 a] w (fun j i=>j=.returned (.tuple #[.int .u64 h,.int .u64 c])/\i=w):=by
 have:=Mt b a l e w;rw[f.o,d.o]at this;exact this.mono fun _ _ h=>⟨h.1,h.2.symm⟩
theorem Yk (i m) (a b:List Int) (h:wX a b=false) (w) (n:Sl .i64 w i a) (l:Sl .i64 w m b) :
 Calls prog 220 #[i,m] w (RetB (.tuple #[.int .u64 0,.int .u64 0,iV 1]) w):=by
 have o:=lh n;have A:=lh l;have B:=lh h;obtain⟨F,G,rfl,H,⟨s,_⟩,f⟩:=n;clear f;obtain⟨J,D,rfl,I,⟨x,_⟩,f⟩:=l;clear f h;unfold maxLen at s x;go_enter func220,ntmps220;go_wp2;refine sq 0 (fun _ _=>False) (fun _ _=>0) rfl ?pass ?first
 case pass=>intro _ _ y;exact y.elim
 case first =>
 intro E t C;clear t C;by_cases c:a.length=b.length
 ·have u:((a.length:Int) != (b.length:Int))=false:=by simp[c]
  by_cases j:a.length<=40000
  ·have p:decide ((40000:Int)<(a.length:Int))=false:=by simp;omega
   cases e3:a.any (nu 1000000000000000) with
   | true =>
    have e:Hd (a.any (nu 1000000000000000)=!false):=e3;clear c j e3;go_wp2_with fail;refine(GY _ a 1000000000000000 false e _ o.o).mono ?_;rintro _ r ⟨rfl,d⟩;go_wp2;simp only[Exit.jump]
    go_ret3
    exact⟨rfl,d⟩
   | false =>
    have e:Hd (a.any (nu 1000000000000000)=!true):=e3;have v:Hd (b.any (nu 10000000)=!false):=by show _=_;have h:=B.o;unfold wX at h;rw[e3]at h;simpa[c,show b.length<=40000 by omega] using h
    clear c j e3;go_wp2_with fail;refine(GY _ a 1000000000000000 true e _ o.o).mono ?_;rintro _ r ⟨rfl,d⟩;go_wp2_with fail;refine(GY _ b 10000000 false v _ (A.B d)).mono ?_;rintro _ K ⟨rfl,z⟩;go_wp2;simp only[Exit.jump]
    go_ret3
    exact⟨rfl,hJ d z⟩
  ·have p:decide ((40000:Int)<(a.length:Int))=true:=by simp;omega
   clear c;go_wp2;simp only[Exit.jump]
   go_ret3
   exact⟨rfl,bR⟩
 ·have u:((a.length:Int) != (b.length:Int))=true:=by simp;omega
  go_wp2;simp only[Exit.jump]
  go_ret3
  exact⟨rfl,bR⟩
theorem VI (F D) (bs a6:List Int) (h:wX bs a6=true) (r u bB:Nat) (bw:Hd (kb bs a6 bs.length=r)) (ar:Hd (r/18446744073709551616=u)) (aa:Hd (r%18446744073709551616=bB)) (w) (E:Sl .i64 w F bs) (C:Sl .i64 w D a6) :
 Calls prog 220 #[F,D] w (RetB (.tuple #[.int .u64 u,.int .u64 bB,iZ]) w):=by
 have K:=lh E;have I:=lh C;obtain⟨R,bj,rfl,bG,⟨ag,_⟩,m⟩:=E;clear m;obtain⟨bx,ai,rfl,bH,⟨aQ,_⟩,m⟩:=C;clear m;unfold maxLen at ag aQ;obtain⟨bE,B,j,f⟩:=JW h;have an:Hd (bs.any (nu 1000000000000000)=!true):=j;have S:Hd (a6.any (nu 10000000)=!true):=f;have bp:=lh bE;have A:=lh B;have pX:=lh (fun k=>O3 j f k);have aU:=lh (fun k=>FL j om k);have az:=lh (fun k=>FL f om k);clear h bE B j f;go_enter func220,ntmps220;go_wp2;refine sq 0 (fun s bb=>∃(k j3 go:Nat) (bg aM br af aY a3 aV a9 W aJ X ab ah bf Z Y a8 P aW aX bi Q bh a5 bt ax ak aL bc ay aD a2 aR aE ao aT aH aN aA T ac ad av am L aw bz a4 a1 bm al bv au aZ aS bo b0 aF a7 bd:Value),s={ tmps:=#[Value.slice R bs.length bj,Value.slice bx a6.length ai,bg,aM,.int .u64 0,.int .u64 0,iZ,.int .u64 j3,.int .u64 go,br,af,aY,iV k,a3,aV,a9,W,aJ,X,ab,ah,bf,Z,Y,a8,P,aW,aX,bi,Q,bh,a5,bt,ax,ak,aL,bc,ay,aD,a2,aR,aE,ao,aT,aH,aN,aA,T,ac,ad,av,am,L,aw,bz,a4,a1,bm,al,bv,au,aZ,aS,bo,b0,aF,a7,bd],defers:=[] } /\
  k<=bs.length/\Hd (kb bs a6 k/18446744073709551616=j3/\kb bs a6 k%18446744073709551616=go)/\BW w bb)
  (fun s _=>bs.length-(intOf (s.tmps.getD 12 undef)).toNat) rfl ?pass ?first
 case first =>
  intro be _ z;have bl:=lh z;clear z;have b9:((bs.length:Int) != (a6.length:Int))=false:=by have:=bp.o;simp[this]
  have b3:decide ((40000:Int)<(bs.length:Int))=false:=by have:=A.o;simp;omega
  go_wp2_with fail;refine(GY _ bs 1000000000000000 true an _ K.o).mono ?_;rintro _ a' ⟨rfl,J⟩;go_wp2_with fail;refine(GY _ a6 10000000 true S _ (I.B J)).mono ?_;rintro _ bI ⟨rfl,a0⟩;go_wp2_with fail;go_step3;go_step;go_step;exact bl.o _ _ ⟨0,0,0,_,_,_,_,_,_,_,_,_,_,_,_,_,_,_,_,_,_,_,_,_,_,_,_,_,_,_,_,_,_,_,_,_,_,_,_,_,_,_,_,_,_,_,_,_,_,_,_,_,_,_,_,_,_,_,_,_,_,_,_,rfl,Nat.zero_le _,by show _/\_;simp[kb],hJ J a0⟩
 case pass =>
  intro bD a' d be aG;obtain⟨k,j3,go,d⟩:=d;iterate 60 obtain⟨_,d⟩:=d
  obtain⟨aB,b2,e,a⟩:=d;subst aB;by_cases ae:k<bs.length
  ·have V:((k:Int) == (bs.length:Int))=false:=by simp;omega
   obtain⟨b,o,x,rfl,b4,aj⟩:=(K.B a).get (i:=k) ae;obtain⟨b8,bC,y,rfl,bA,bq⟩:=(I.B a).get (i:=k) Fe;have n:=aU.o k;have v:=az.o k;rw[aj.o]at n;rw[bq.o]at v;obtain⟨aO,rfl⟩:=Int.eq_ofNat_of_zero_le n.1;obtain⟨cp,rfl⟩:=Int.eq_ofNat_of_zero_le v.1;refine Gw ?_;intro vd ve h gK;obtain⟨l,t⟩:=xg (aO*cp%18446744073709551616);refine HJ ?_;intro aK lT gO lq c cH ag oJ;obtain⟨H,G,aC,aP⟩:=Qh (kb bs a6 k) (aO*cp) j3 go h l c gO ag e.1 e.2 gK t lq cH oJ (oo A.o);have O:=fun b5=>OK (go:Int) (l:Int) 0 gO c om om om (by show _=_;omega) (by show _=_;omega) b5;have bu:=fun b5=>OK (j3:Int) (h:Int) (c:Int) ag 0 om om om (by show _=_;omega) (by show _=_;omega) b5;have aI:Hd (kb bs a6 (k+1)/18446744073709551616=ag/\kb bs a6 (k+1)%18446744073709551616=gO):=by rw[aK];exact⟨H,G⟩
   have M:=lh (fun b5=>ZK aO cp h l om om gK t b5);have b1:=lh a;have b7:(k:Int)<bs.length:=om;have b6:(k:Int)<a6.length:=oo bp.o;clear n v gK t aK lT lq cH oJ H G aC aP e a;go_wp2_with fail;go_quiet ((go_at_call 239;exact Calls.quiet_of_same (M.o _)))
   go_wp2_with (first | simp only[O] | simp only[bu])
   go_step3;refine⟨rfl,aG _ _ ⟨k+1,ag,gO,_,_,_,_,_,_,_,_,_,_,_,_,_,_,_,_,_,_,_,_,_,_,_,_,_,_,_,_,_,_,_,_,_,_,_,_,_,_,_,_,_,_,_,_,_,_,_,_,_,_,_,_,_,_,_,_,_,_,_,_,rfl,by omega,aI,BU b1.o _⟩ ?_⟩;simp[intOf];omega
  ·obtain rfl:k=bs.length:=om;have V:((bs.length:Int) == (bs.length:Int))=true:=by simp
   have aO:=lh a;have bF:Hd (j3=u/\go=bB):=by have h:=e.o;rw[bw.o,ar.o,aa.o]at h;exact⟨h.1.symm,h.2.symm⟩
   obtain⟨rfl,rfl⟩:=bF.o;clear a e bF;go_wp2;simp only[Exit.jump]
   go_ret3
   exact⟨rfl,aO.o⟩
theorem Rm (e c) (b a:List Int) (f i:Nat) (m:Int) (h:Hd (C3 b a=(f,i,m))) (w) (j:Sl .i64 w e b) (l:Sl .i64 w c a) :
 Calls prog 220 #[e,c] w (RetB (.tuple #[.int .u64 f,.int .u64 i,iV m]) w):=by
 have h:=h.o;unfold C3 at h;cases d:wX b a with
 | false=>rw[d,if_neg (by simp)]at h;simp only[Prod.mk.injEq]at h;obtain⟨rfl,rfl,rfl⟩:=h;exact Yk e c b a d w j l
 | true=>rw[d,if_pos rfl]at h;simp only[Prod.mk.injEq]at h;obtain⟨o,n,rfl⟩:=h;exact VI e c b a d _ f i rfl o n w j l
end
section
open Go.RowKit EvM
theorem jag {d c b q:Int} {a:Bool} (h:evQ d c b=(q,a)):0<=q:=by
 unfold evQ at h;split at h;·simp only[Prod.mk.injEq]at h;omega
 ·split at h <;> simp only[Prod.mk.injEq]at h <;> omega
theorem yzn {a d c:Nat} {q:Int} {b:Bool} (f:a/18446744073709551616=d) (e:a%18446744073709551616=c) (h:evQ (d:Int) (c:Int) 1000000000=(q,b)):EK a=if b=true/\q<=1000000000000000 then (q,0) else (0,5):=by unfold EK;rw[f,e,h]
theorem Ty (ak cU) (bs a6:List Int) (c a:Int) (h:Hd (C0 bs a6=(c,a))) (w) (aQ:Sl .i64 w ak bs) (cE:Sl .i64 w cU a6) :
 Calls prog 184 #[ak,cU] w (RetB (.tuple #[iV c,iV a]) w):=by
 have h:=h.o;unfold C0 at h;cases eD:wX bs a6 with
 | false =>
  rw[eD,if_neg (by simp)]at h;simp only[Prod.mk.injEq]at h;obtain⟨rfl,rfl⟩:=h;have fU:Hd (C3 bs a6=(0,0,1)):=by show _=_;unfold C3;rw[eD,if_neg Is]
  have br:=lh aQ;have kA:=lh cE;clear aQ cE eD;go_enter func184,ntmps184;go_wp2_with fail;refine(Rm ak cU bs a6 0 0 1 fU _ br.o kA.o).mono ?_;rintro _ a7 ⟨rfl,aH⟩;go_wp2;go_ret2;exact⟨rfl,aH⟩
 | true =>
  rw[eD,if_pos rfl]at h;refine N1 ?_;unhygienic intros
  rw[yzn mr jq eC]at h;refine K5 ?_;intro rC fU kf dj br kA;have nG:Hd (∀w,Calls prog 221 #[.int .u64 aA,.int .u64 bw,.int .u64 1000000000] w (RetB (.tuple #[.int .u64 q,.bool b]) w)):=fun w=>I9 aA bw 1000000000 q b kf.o om dj w;clear aQ cE eD mr jq eC;cases b with
  | false=>rw[if_neg (by simp)]at h;simp only[Prod.mk.injEq]at h;obtain⟨rfl,rfl⟩:=h;exact Tw
  | true =>
   by_cases d:q<=1000000000000000;·rw[if_pos ⟨rfl,d⟩]at h;simp only[Prod.mk.injEq]at h;obtain⟨rfl,rfl⟩:=h;refine RW ?_;intro aM a7 dm;exact Tw
   ·rw[if_neg (by intro h;exact d h.2)]at h;simp only[Prod.mk.injEq]at h;obtain⟨rfl,rfl⟩:=h;have aM:decide (1000000000000000<q)=true:=by simp;omega
    exact Tw
end
section
open Go.RowKit EvM
def RwS (w:World) (j:Value) (a:List (List Int)):Prop :=
 ∃c b,j=.slice c a.length b/\a.length<=b/\(b<=maxLen/\(c=none->b=0)) /\
  (a≠[]->∃f i,c=some (Ad f i)/\∀d,d<a.length->∃e,w.cell? (Ad f (i+d))=some e/\Sl .i64 w e (a.getD d []))
theorem RwS.B {w a:World} {b:Value} {f:List (List Int)} (h:RwS w b f) (c:BW w a):RwS a b f:=by obtain⟨m,o,rfl,n,l,s⟩:=h;refine⟨m,o,rfl,n,l,fun u=>?_⟩;obtain⟨i,d,rfl,x⟩:=s u;refine⟨i,d,rfl,fun j t=>?_⟩;obtain⟨v,e,r⟩:=x j t;exact⟨v,(c.cell (p:=(Ad i (d+j))) (ht e)).trans e,r.B c⟩
theorem RwS.get {w:World} {f:Option Addr} {n l:Nat} {d:List (List Int)} (h:RwS w (.slice f n l) d) {i:Nat} (e:i<d.length) :
 ∃b a c,f=some (Ad b a)/\w.cell? (Ad b (a+i))=some c/\Hd (Sl .i64 w c (d.getD i [])):=by
 obtain⟨v,t,p,u,s,o⟩:=h;cases p;obtain⟨b,a,rfl,r⟩:=o (by intro h;rw[h]at e;simp at e);obtain⟨c,j,m⟩:=r i e;exact⟨b,a,c,rfl,j,m⟩
theorem h7.get18 {w:World} {a:Option Addr} {d c:Nat} {ts:List (Int×Bool)} (h:h7 w (.slice a d c) ts) {i:Nat} (aA:i<ts.length) :
 ∃b ae,a=some (Ad b ae)/\w.cell? (Ad b (ae+i*2))=some (iV (ts.getD i (0,false)).1)/\w.cell? (Ad b (ae+i*2+1))=some (.bool (ts.getD i (0,false)).2):=by
 exact B4
def EP (d:List Int) (e:Int) (w:World) (c:Ending) (b:World):Prop:=∃a,c=.returned (.tuple #[a,iV e])/\Sl .i64 b a d/\BW w b
end
section
open Go.RowKit EvM
def hq (bss rss:List (List Int)) (ts:List (Int×Bool)) (g:Bool):Nat->List Int×Int
 | 0=>([],0)
 | k+1=>if (hq bss rss ts g k).2≠0 then hq bss rss ts g k else
  if (g && (ts.getD k (0,false)).2)=true then ((hq bss rss ts g k).1++[0],0) else
  if (C0 (bss.getD k []) (rss.getD k [])).2≠0 then ([],(C0 (bss.getD k []) (rss.getD k [])).2) else ((hq bss rss ts g k).1++[(C0 (bss.getD k []) (rss.getD k [])).1],0)
def rc (a:Bool) (ts:List (Int×Bool)) (bss rss:List (List Int)) (g:Bool):List Int×Int :=
 if a=false then ([],6) else if ¬(bss.length=ts.length/\rss.length=ts.length) then ([],1) else hq bss rss ts g ts.length
section
variable {bss rss:List (List Int)} {ts:List (Int×Bool)} {g:Bool} {k:Nat}
theorem KU (h:(hq bss rss ts g k).2=0):(hq bss rss ts g k).1.length=k:=by
 induction k with
 | zero=>rfl
 | succ k d =>
  unfold hq at h ⊢;by_cases a:(hq bss rss ts g k).2=0
  ·have:=d a;rw[if_neg (ss a)]at h ⊢;by_cases c:(g && (ts.getD k (0,false)).2)=true;·rw[if_pos c];simp[this]
   ·rw[if_neg c]at h ⊢;by_cases b:(C0 (bss.getD k []) (rss.getD k [])).2=0;·rw[if_neg (ss b)];simp[this]
    ·rw[if_pos b]at h;exact absurd h b
  ·rw[if_pos a]at h;exact absurd h a
theorem MN (h:(hq bss rss ts g k).2=0) (a:(g && (ts.getD k (0,false)).2)=true):hq bss rss ts g (k+1)=((hq bss rss ts g k).1++[0],0):=by rw[hq,if_neg Jv,if_pos a]
theorem Qe {a:Int} (h:(hq bss rss ts g k).2=0) (b:(g && (ts.getD k (0,false)).2)=false) (c:C0 (bss.getD k []) (rss.getD k [])=(a,0)):hq bss rss ts g (k+1)=((hq bss rss ts g k).1++[a],0):=by rw[hq,if_neg Jv,if_neg (by rw[b];simp),c,if_neg Is]
theorem R4 {b a:Int} (h:(hq bss rss ts g k).2=0) (e:(g && (ts.getD k (0,false)).2)=false) (d:C0 (bss.getD k []) (rss.getD k [])=(b,a)) (c:a≠0):hq bss rss ts g (k+1)=([],a):=by rw[hq,if_neg Jv,if_neg (by rw[e];simp),d,if_pos c]
theorem MC {a:Nat} {b:List Int×Int} (h:hq bss rss ts g k=b) (d:b.2≠0) (f:k<=a):hq bss rss ts g a=b:=by
 induction a with
 | zero=>obtain rfl:k=0:=om;exact h
 | succ a c =>
  by_cases e:k=a+1;·subst e;exact h
  ·have:=c om;rw[hq,this,if_pos d]
end
def BR (a:List Int) (b:Nat):List Int:=a++List.replicate (b-a.length) 0
theorem Vi {b:List Int} {a:Nat} (h:b.length<=a):(BR b a).length=a:=by simp[BR];omega
theorem Se {xs:List Int} {n:Nat} (h:xs.length<n):(BR xs n).getD xs.length 0=0:=by unfold BR;rw[List.getD_eq_getElem?_getD,List.getElem?_append_right om];simp[show 0<n-xs.length by omega]
theorem Na {xs:List Int} {n:Nat} (h:xs.length<n) (a:Int):(BR xs n).set xs.length a=BR (xs++[a]) n:=by unfold BR;rw[List.set_append_right _ _ om,Nat.sub_self,show n-xs.length=(n-xs.length-1)+1 by omega,List.replicate_succ,List.set_cons_zero];simp[Nat.sub_sub]
theorem Z1 {b:List Int} {a:Nat} (h:b.length<a):BR (b++[0]) a=BR b a:=by
 rw[<-Na h 0];apply List.ext_getElem Is;intro f e d;rw[List.getElem_set];split;·rename_i c;subst c;have:=Se h;simp only[List.getD,List.getElem?_eq_getElem d,Option.getD_some]at this;exact this.symm
 ·rfl
theorem Ue {a:List Int} {b:Nat} (h:a.length=b):BR a b=a:=by simp[BR,h]
theorem Zm (v) (ts:List (Int×Bool)) (ay al an az ar ax:Int) (ai ae) (bss rss:List (List Int)) (g:Bool) (kw:hu ay ts al an az ar ax=true) (pF:bss.length=ts.length) (lq:rss.length=ts.length) (sz:1<=ts.length/\ts.length<=1000) (w) (au:h7 w v ts) (Y:RwS w ai bss) (a4:RwS w ae rss) :
 Calls prog 140 #[.agg #[iV ay,v,iV al,iV an,iV az,iV ar,iV ax],ai,ae,.bool g] w (EP (hq bss rss ts g ts.length).1 (hq bss rss ts g ts.length).2 w):=by
 have br:=lh au;have aZ:=lh Y;have bb:=lh a4;obtain⟨aF,aC,rfl,bu,⟨aR,C⟩,s⟩:=au;clear s C;obtain⟨bh,bj,rfl,bv,⟨aY,C⟩,s⟩:=Y;clear s C;obtain⟨bi,bm,rfl,bt,⟨aS,C⟩,s⟩:=a4;clear s C;unfold maxLen at aR aY aS;refine IC ?_;clear kw pF lq sz;unhygienic intros
 go_enter func140,ntmps140;go_wp2_with fail;refine Gv ?_;intro a7 aH;have K:=lh (lr.B aH);have Q:=lh (hJ gu.o aH);have y:=K.cell 1;simp only[gz,gs]at y;clear aH lr gu gt;go_upto_region 7 with(at_make;refine wpList_make_full _ rfl _ _ 33 rfl a7.heap.size 2 jn (iZ) 1 underlying33 aA iA gU _ _ _ _ ts.length rfl rfl rfl rfl (by rw[er];have:=bp.o;omega) (by unfold maxLen;have:=bp.o;omega) (nr _) ?_;intro a8 Z a3)
 obtain⟨D,aj,_,_,be,ag,_⟩:=B0 Z;have O:D=List.replicate ts.length (iZ):=by rw[<-List.take_of_length_le (show D.length<=ts.length*1 by omega),ag,Nat.mul_one];exact toList_madeCells_one _ _
 have P:BW a7 a8:=D0 a3;have ak:Hd (hY a8 a7.heap.size ts.length (List.replicate ts.length 0)):=⟨D,aj,by rw[O];simp,by rw[O];simp⟩;have ab:Hd ((List.replicate ts.length (0:Int)).length=ts.length):=by show _=_;simp
 have aQ:=lh (hJ Q.o P);have aW:=lh (K.B P);have aI:=Q.size;obtain⟨bq,aa⟩:=xg a7.heap.size;rw[aa]at ak aI ⊢;clear O ag be aj Z a3 P D y K Q aA iA gU er aa aM aP;have y:=aW.cell 1;simp only[gz,gs]at y;go_wp2_with fail;clear y;go_loopg [42] ts.length (fun H i wr=>∃k:Nat,k+H=ts.length/\i=iV k/\Hd (hY wr bq ts.length (BR (hq bss rss ts g k).1 ts.length))/\Hd ((hq bss rss ts g k).2=0)/\BW w wr);case atStart=>exact⟨0,by omega,rfl,ak.o,rfl,aQ.o⟩
 case round =>
  obtain⟨k,bg,rfl,M,m,G⟩:=hrel;cases gk with
  | succ H =>
   have aJ:(k:Int)<ts.length:=om;have a1:k<ts.length:=om;have T:=lh G;obtain⟨b,o,a9,X,L⟩:=(br.B G).get18 a1;subst a9;obtain⟨J,e,S⟩:=xh (ts.getD k (0,false));rw[S]at X L;simp only at X L;have eN:=lh S;have d:=KU m.o;have l:=lh d;clear S d G;cases mu:(g && e) with
   | true =>
    have aL:g=true/\e=true:=ss mu;obtain⟨rfl,rfl⟩:=aL;have ao:=lh (MN m.o (show(true && (ts.getD k (0,false)).2)=true by rw[eN.o];rfl));clear mu;go_wp2_with fail;go_roundg H;case measure=>omega
    case rel =>
     refine⟨k+1,by omega,by go_num,?_,?_,by exact bL⟩;·have B:=(M.B (hB bR (.cells #[iV J,.bool true] 81)));show hY _ _ _ _;rw[ao.o];simp only;rw[Z1 (by rw[l.o];exact a1)];exact B
     ·show _=_;rw[ao.o]
   | false =>
    obtain⟨bf,c,bl,aD,R,a0⟩:=(aZ.B T.o).get (i:=k) Fe;obtain⟨j,or,bo,aU,V,av⟩:=(bb.B T.o).get (i:=k) Fe;subst aD aU;obtain⟨t,x,rfl⟩:=a0.shape;obtain⟨r,u,rfl⟩:=av.shape;refine Qg ?_;unhygienic intros
    have aN:g=false\/(g=true/\e=false):=by cases g <;> simp_all
    have ab:Hd (k<(BR (hq bss rss ts g k).1 ts.length).length):=by show _<_;rw[Vi (by rw[l.o];omega)];exact a1
    have bc:Hd ((BR (hq bss rss ts g k).1 ts.length).getD k 0=0):=by have:=Se (xs:=(hq bss rss ts g k).1) (n:=ts.length) (by rw[l.o];exact a1);rwa [l.o]at this
    have a':Hd (∀aG,(BR (hq bss rss ts g k).1 ts.length).set k aG=BR ((hq bss rss ts g k).1++[aG]) ts.length):=fun aG=>by have aT:=Na (xs:=(hq bss rss ts g k).1) (n:=ts.length) (by rw[l.o];exact a1) aG;rwa [l.o]at aT
    clear th mu;have ah:∃a,wr.alloc (.cells #[iV J,.bool e] 81)=a/\Hd (a.cell? (Ad bf (c+k))=some (.slice t (bss.getD k []).length x)/\a.cell? (Ad j (or+k))=some (.slice r (rss.getD k []).length u))/\Hd (hY a bq ts.length (BR (hq bss rss ts g k).1 ts.length))/\Hd (BW w a)/\Hd (Sl .i64 a (.slice t (bss.getD k []).length x) (bss.getD k []))/\Hd (Sl .i64 a (.slice r (rss.getD k []).length u) (rss.getD k [])) :=
     ⟨_,rfl,⟨((hB (Below.refl wr.heap.size wr) _).cell (p:=(Ad bf (c+k))) (ht R)).trans R,((hB (Below.refl wr.heap.size wr) _).cell (p:=(Ad j (or+k))) (ht V)).trans V⟩,M.B (hB bR _),hB T.o _,a0.B (hB bR _),av.B (hB bR _)⟩
    have a6:=lh ah;clear ah;rcases aN with rfl | ⟨rfl,rfl⟩;all_goals
     go_upto_region 11 with fail;obtain⟨a,a2,f,bd,am,aB,aK⟩:=a6.o;with_reducible rw[a2]
     clear a2 a6 R V X L;have ad:=f.o;have af:a.drew.cell? (Ad bf (c+k))=some (.slice t (bss.getD k []).length x)/\a.drew.cell? (Ad j (or+k))=some (.slice r (rss.getD k []).length u):=f.o;go_region_held3 (fun aw=>Ce aw bf (c+k) (.slice t (bss.getD k []).length x)/\Ce aw j (or+k) (.slice r (rss.getD k []).length u)) (first | with_reducible assumption | with_reducible exact ad | with_reducible exact af | with_reducible exact ac) (first | (go_at_call 184;refine(Ty _ _ (bss.getD k []) (rss.getD k []) aG I oL _ (aB.o.B HS) (aK.o.B HS)).mono ?_;rintro _ W ⟨rfl,ea⟩;have A:Hd (BW a W):=MR;have ac:W.cell? (Ad bf (c+k))=some (.slice t (bss.getD k []).length x)/\W.cell? (Ad j (or+k))=some (.slice r (rss.getD k []).length u):=⟨(A.o.cell (p:=(Ad bf (c+k))) (ht f.o.1)).trans f.o.1,(A.o.cell (p:=(Ad j (or+k))) (ht f.o.2)).trans f.o.2⟩;clear ea));have E:=bd.B A.o;have a5:=E.cell (i:=k) ab.o;rw[bc.o]at a5;have aX:=E.frozen k;have aE:=lh E;clear E ad af ac;by_cases z:I=0
     ·subst z;have F:=lh (Qe m.o rq.o oL.o);go_wp2_with fail;go_roundg H;case measure=>omega
      case rel =>
       refine⟨k+1,by omega,by go_num,?_,?_,(hJ am.o A.o).setCell (show w.heap.size<=bq by omega) _⟩;·show hY _ _ _ _;rw[F.o];simp only;rw[<-a'.o aG];exact aE.set k aG
       ·show _=_;rw[F.o]
     ·have F:=lh (MC (R4 m.o rq.o oL.o z) z (show k+1<=ts.length from a1));have bs:(I != 0)=true:=ss z;have aV:=lh (hJ am.o A.o);clear z a5 aX;go_wp2_with fail;go_ret2;rw[F.o];exact⟨_,rfl,Sl.nil,aV.o⟩
  | zero=>have aJ:¬((k:Int)<ts.length):=om;obtain rfl:k=ts.length:=om;have B:=M.o;have d:=KU m.o;rw[Ue d]at B;have aO:=lh (B.sl d (nr _) (by unfold maxLen;have:=bp.o;omega));clear B d;go_wp2_with fail;go_ret2;rw[m.o];exact⟨_,rfl,aO.o,G⟩
theorem RT (d) (ts:List (Int×Bool)) (ay al an az ar ax:Int) (j e) (bss rss:List (List Int)) (g:Bool) (c:Bool) (f:Hd (hu ay ts al an az ar ax=c)) (l:Hd (c=true->¬(bss.length=ts.length/\rss.length=ts.length))) (w) (i:h7 w d ts) (o:RwS w j bss) (s:RwS w e rss) :
 Calls prog 140 #[.agg #[iV ay,d,iV al,iV an,iV az,iV ar,iV ax],j,e,.bool g] w (EP [] (if c=true then 1 else 6) w):=by
 have br:=lh i;obtain⟨aF,aC,rfl,x,⟨m,b⟩,a⟩:=i;clear a b;obtain⟨u,y,rfl,z,⟨r,b⟩,a⟩:=o;clear a b;obtain⟨v,B,rfl,A,⟨n,b⟩,a⟩:=s;clear a b;unfold maxLen at m r n;refine K8 ?_;intro lr gu;cases c with
 | false =>
  have gt:Hd ((if hu ay ts al an az ar ax=true then 0 else 6)=(6:Int)):=by show _=_;rw[f.o];rfl
  go_enter func140,ntmps140;go_wp2_with fail;refine Gv ?_;intro a7 aH;exact NM
 | true =>
  have gt:Hd ((if hu ay ts al an az ar ax=true then 0 else 6)=(0:Int)):=by show _=_;rw[f.o];rfl
  have pw:=l.o rfl;by_cases aX:bss.length=ts.length
  ·refine OD ?_;intro aM;have t:((rss.length:Int) != (ts.length:Int))=true:=by simp;omega
   exact Sc
  ·have aM:((bss.length:Int) != (ts.length:Int))=true:=by simp;omega
   exact Sc
theorem CT {a:Int} {ts:List (Int×Bool)} {b d c e f:Int} (h:hu a ts b d c e f=true):1<=ts.length/\ts.length<=8:=by unfold hu at h;simp only[ba]at h;have:=B9.1 h.1.1.1.1.1.2;omega
theorem Tn (i) (ts:List (Int×Bool)) (a c d b e f:Int) (j l) (bss rss:List (List Int)) (g:Bool) (n:List Int×Int) (s:Hd (rc (hu a ts c d b e f) ts bss rss g=n)) (w) (o:h7 w i ts) (r:RwS w j bss) (p:RwS w l rss) :
 Calls prog 140 #[.agg #[iV a,i,iV c,iV d,iV b,iV e,iV f],j,l,.bool g] w (EP n.1 n.2 w):=by
 have h:=s.o;subst h;unfold rc;cases m:hu a ts c d b e f with
 | false=>rw[if_pos rfl];exact RT i ts a c d b e f j l bss rss g false m (fun h=>by cases h) w o r p
 | true =>
  rw[if_neg Is];by_cases cx:bss.length=ts.length/\rss.length=ts.length;·rw[if_neg Hw];exact Zm i ts a c d b e f j l bss rss g m cx.1 cx.2 (oo (CT m)) w o r p
  ·rw[if_pos cx];exact RT i ts a c d b e f j l bss rss g true m (fun _=>cx) w o r p
end
theorem jhn {c:Nat} {a d b:Int} {f e:Nat}:CQ c a d b f e=true↔1<=a/\a<=300 /\ -135140<=d/\d<=b/\b<=2932896/\f=c/\e=c:=by rw[FA];simp only[pd,ba,decide_eq_true_eq];omega
section
open Go.RowKit EvM
theorem Xf {a b:List Int} (c:a.length=b.length) (f:a.length<=40000) (e:a.any (nu 1000000000000000)=false) (d:b.any (nu 10000000)=false):wX a b=true:=by unfold wX;rw[e,d];simp[c];omega
end
theorem MD (h:q:=by
 go_enter func205,ntmps205;go_wp2_with fail;go_loopg [7,8] 0 (fun _ aw i wr=>aw=.bool false/\i=iZ/\w=wr);case atStart=>exact⟨rfl,rfl,rfl⟩
 case round =>
  obtain⟨rfl,rfl,rfl⟩:=hrel;go_wp2
  go_ret3
  exact⟨rfl,bR⟩):q:=h
theorem Mi (h:q:=by clear pw aX;go_enter func127,ntmps127;go_wp2_with fail;refine KM ?_;intro a7 aH;have cM:=(lr.B aH).cell 1;simp only[gz,gs]at cM;exact NM):q:=h
theorem Nc (h:q:=by
 go_wp2_with fail;go_roundg g;case measure=>omega
 case rel=>exact⟨k+1,by omega,by go_num,.inr ⟨rfl,tA⟩,rfl⟩):q:=h
theorem LN (h:q:=by go_enter func173,ntmps173;go_wp2_with fail;refine(OS ak cU bs a6 aA bw 0 fU _ br.o kA.o).mono ?_;exact SC):q:=h
section
open Go.RowKit EvM
def FQ (d b:List Int) (c:Nat):Prop:=∀a,a<c->nu 1000000000000000 (d.getD a 0)=false/\nu 10000000 (b.getD a 0)=false
theorem PR (h:∀a8,a8<r.length->nu c (r.getD a8 0)=false):r.any (nu c)=false:=by rw[List.any_eq_false];exact Rt
theorem Xi (c:r.length=x.length) (d:r.length<=40000) (h:FQ r x r.length):wX r x=true:=
 Xf c d (PR fun a b=>(h a b).1) (PR fun a b=>(h a om).2)
theorem U2 (e:j<r.length) (h:nu 1000000000000000 (r.getD j 0)=true\/nu 10000000 (x.getD j 0)=true):wX r x=false:=by
 cases c:wX r x with
 | false=>rfl
 | true =>
  obtain⟨i,g,b,a⟩:=JW c;have d:r.getD j 0=r[j]:=by simp[List.getD,e]
  have f:x.getD j 0=x[j]' om:=by simp[List.getD,show j<x.length by omega]
  rw[List.any_eq_false]at b a;rcases h with h | h;·rw[d]at h;exact absurd h (b _ (List.getElem_mem _))
  ·rw[f]at h;exact absurd h (a _ (List.getElem_mem _))
theorem Zn (h:FQ r x n) (i:r.getD n 0=c) (b:x.getD n 0=d) (f:nu 1000000000000000 c=false) (e:nu 10000000 d=false):FQ r x (n+1):=by
 intro a j;by_cases g:a=n;·subst g;rw[i,b];exact⟨f,e⟩
 ·exact h a om
theorem OS (v u) (bs a6:List Int) (aR r:Nat) (B:Int) (h:Hd (C3 bs a6=(aR,r,B))) (w) (ah:Sl .i64 w v bs) (ad:Sl .i64 w u a6) :
 Calls prog 205 #[v,u] w (RetB (.tuple #[.int .u64 aR,.int .u64 r,iV B]) w):=by
 have ay:=lh ah;have au:=lh ad;obtain⟨aU,aX,rfl,an,⟨ag,_⟩,F⟩:=ah;clear F;obtain⟨bb,aV,rfl,a',⟨aH,_⟩,F⟩:=ad;clear F;unfold maxLen at ag aH;have f:Hd (wX bs a6=false->aR=0/\r=0/\B=1):=by intro b;have h:=h.o;unfold C3 at h;rw[b,if_neg (by simp)]at h;simp only[Prod.mk.injEq]at h;exact⟨h.1.symm,h.2.1.symm,h.2.2.symm⟩
 have y:Hd (wX bs a6=true->kb bs a6 bs.length/18446744073709551616=aR/\kb bs a6 bs.length%18446744073709551616=r/\B=0):=by intro b;have h:=h.o;unfold C3 at h;rw[b,if_pos rfl]at h;simp only[Prod.mk.injEq]at h;exact⟨h.1,h.2.1,h.2.2.symm⟩
 clear h;by_cases af:bs.length=a6.length
 ·by_cases aK:bs.length<=40000
  ·have Y:((bs.length:Int) == (a6.length:Int))=true:=by simp[af]
   have az:decide ((bs.length:Int)<=40000)=true:=by simp;omega
   have bp:=lh af;have bd:=lh aK;clear af aK;go_enter func205,ntmps205;go_wp2_with fail;go_loopg [7,8] bs.length (fun g aw i wr=>∃k:Nat,k+g=bs.length/\i=iV k/\((aw=.bool true/\Hd (FQ bs a6 k))\/(aw=.bool false/\Hd (wX bs a6=false)))/\w=wr);case atStart=>exact⟨0,by omega,rfl,.inl ⟨rfl,fun j a4=>absurd a4 om⟩,rfl⟩
   case round =>
    obtain⟨k,a1,rfl,aA,rfl⟩:=hrel;rcases aA with⟨rfl,al⟩ | ⟨rfl,al⟩
    ·cases gk with
     | succ g =>
      have I:(k:Int)<bs.length:=om;have aP:(k:Int)<a6.length:=oo bp.o;obtain⟨L,D,e,rfl,n,av⟩:=ay.get (i:=k) om;obtain⟨J,M,d,rfl,s,ac⟩:=au.get (i:=k) Fe;have wM:Hd (nu 1000000000000000 e=true\/nu 10000000 d=true->wX bs a6=false):=fun h=>U2 (j:=k) om (by rw[av.o,ac.o];exact h);have a7:Hd (nu 1000000000000000 e=false->nu 10000000 d=false->FQ bs a6 (k+1)):=fun an ag=>Zn al.o av.o ac.o an ag;by_cases W:0<=e
      ·have G:decide (0<=e)=true:=decide_eq_true W;by_cases ai:e<=1000000000000000
       ·have P:decide (e<=1000000000000000)=true:=decide_eq_true ai;by_cases ae:0<=d
        ·have z:decide (0<=d)=true:=decide_eq_true ae;by_cases X:d<=10000000
         ·have x:decide (d<=10000000)=true:=decide_eq_true X;have tA:Hd (FQ bs a6 (k+1)):=a7.o (by simp[nu];omega) (by simp[nu];omega);go_wp2_with fail;go_roundg g;case measure=>omega
          case rel=>exact⟨k+1,by omega,by go_num,.inl ⟨rfl,tA⟩,rfl⟩
         ·have x:decide (d<=10000000)=false:=decide_eq_false X;exact Gu
        ·have z:decide (0<=d)=false:=decide_eq_false ae;exact Gu
       ·have P:decide (e<=1000000000000000)=false:=decide_eq_false ai;exact So
      ·have G:decide (0<=e)=false:=decide_eq_false W;exact So
     | zero =>
      have I:¬((k:Int)<bs.length):=om;have S:k=bs.length:=om;have O:Hd (wX bs a6=true):=Xi bp.o bd.o (by rw[<-S];exact al.o);obtain⟨Z,V,rfl⟩:=y.o O.o;obtain⟨G,P,z,x⟩:=JW O.o;have aQ:=lh Z;have a8:=lh V;have pX:=lh (fun k=>O3 z x k);have aI:=lh (fun k=>FL z om k);have a9:=lh (fun k=>FL x om k);clear S Z V G P z x f y al O;obtain⟨ar,aW⟩:∃ar:World,ar=w:=⟨_,rfl⟩;go_wp2_with fail;go_loopg [9,10,11] bs.length (fun g aw t i wr=>∃(k j3 go:Nat),k+g=bs.length/\i=iV k/\aw=.int .u64 j3/\t=.int .u64 go/\Hd (kb bs a6 k/18446744073709551616=j3/\kb bs a6 k%18446744073709551616=go)/\BW w wr);case atStart=>exact⟨0,0,0,by omega,rfl,rfl,rfl,by show _/\_;simp[kb],bR⟩
      case round =>
       obtain⟨k,j3,go,a1,rfl,rfl,rfl,m,aF⟩:=hrel;cases gk with
       | zero =>
        have I:¬((k:Int)<bs.length):=om;obtain rfl:k=bs.length:=om;have T:Hd (j3=aR/\go=r):=by have h:=m.o;rw[aQ.o,a8.o]at h;exact⟨h.1.symm,h.2.symm⟩
        obtain⟨rfl,rfl⟩:=T.o;have aO:=lh aF;clear aF m T;go_wp2
        go_ret3
        exact⟨rfl,aO.o⟩
       | succ g =>
        have I:(k:Int)<bs.length:=om;have aP:(k:Int)<a6.length:=oo bp.o;obtain⟨L,D,e,rfl,n,aj⟩:=(ay.B aF).get (i:=k) om;obtain⟨J,M,d,rfl,s,bq⟩:=(au.B aF).get (i:=k) Fe;have H:=aI.o k;have Q:=a9.o k;rw[aj.o]at H;rw[bq.o]at Q;obtain⟨aO,rfl⟩:=Int.eq_ofNat_of_zero_le H.1;obtain⟨cp,rfl⟩:=Int.eq_ofNat_of_zero_le Q.1;refine Gw ?_;intro vd ve h gK;obtain⟨l,C⟩:=xg (aO*cp%18446744073709551616);refine HJ ?_;intro aK lT gO lq c cH ag oJ;obtain⟨ao,am,aT,aG⟩:=Qh (kb bs a6 k) (aO*cp) j3 go h l c gO ag m.1 m.2 gK C lq cH oJ Pz;have ab:Hd (kb bs a6 (k+1)/18446744073709551616=ag/\kb bs a6 (k+1)%18446744073709551616=gO):=by rw[aK];exact⟨ao,am⟩
        obtain⟨a,aB⟩:∃a:Nat,j3+h=a:=⟨_,rfl⟩;have E:IntKind.u64.wrap ((go:Int)+l)=(gO:Int):=by rw[IntKind.wrap_u64];omega
        have R:IntKind.u64.wrap ((j3:Int)+h)=(a:Int):=by rw[IntKind.wrap_u64];omega
        have o:IntKind.u64.wrap ((a:Int)+1)=((a+1:Nat):Int)\/c=0:=by
         by_cases aM:c=0;·exact .inr aM
         ·left;rw[IntKind.wrap_u64];omega
        have aS:go<18446744073709551616:=oo m.2;have aN:Hd ((c=0/\a=ag/\¬gO<go)\/(c=1/\a+1=ag/\gO<go)):=by show _\/_;omega
        have a0:Hd (∀A,Calls prog 228 #[.int .u64 aO,.int .u64 cp] A (RetB (.tuple #[.int .u64 h,.int .u64 l]) A)):=fun A=>KX aO cp h l om om gK C A;have aY:=lh aF;have a2:=lh E;have aD:=lh R;have aE:=lh o;clear H Q gK C aK lT lq cH oJ ao am aT aG m aB E R o aS;go_wp2_with fail;go_region_held3 (fun ak=>ak.cell? (Ad L (D+k))=some (iV aO)/\ak.cell? (Ad J (M+k))=some (iV cp)) (first | exact⟨n,s⟩ | (exact⟨(ax.cell (p:=(Ad L (D+k))) (ht n)).trans n,(ax.cell (p:=(Ad J (M+k))) (ht s)).trans s⟩) | (simp[go_sem,n,s]))
         ((go_at_call 228;refine(a0.o _).mono ?_;rintro _ aL ⟨rfl,ax⟩))
        have aa:Hd (BW w aL):=bL;have E:=a2.o;have R:=aD.o;rcases aN.o with⟨aJ,K,a3⟩ | ⟨aJ,K,a3⟩
        ·have a5:decide ((gO:Int)<go)=false:=by simp;omega
         have aC:¬(gO:Int)<go:=om;subst K;go_wp2_with fail;go_roundg g;case measure=>omega
         case rel=>exact⟨k+1,a,gO,by omega,by go_num,rfl,rfl,ab,aa.o⟩
        ·have a5:decide ((gO:Int)<go)=true:=by simp;omega
         have o:IntKind.u64.wrap ((a:Int)+1)=((a+1:Nat):Int):=by
          rcases aE.o with h | h;·exact h
          ·omega
         have aC:(gO:Int)<go:=om;subst K;have aZ:IntKind.u64.wrap ((a:Int)+1)=(a:Int)+1:=by rw[o,Int.natCast_add];rfl
         clear o;go_wp2_with fail;go_roundg g;case measure=>omega
         case rel=>exact⟨k+1,a+1,gO,by omega,by go_num,by go_num,rfl,ab,aa.o⟩
    ·obtain⟨rfl,rfl,rfl⟩:=f.o al.o;clear f y;go_wp2
     go_ret3
     exact⟨rfl,bR⟩
  ·have Y:((bs.length:Int) == (a6.length:Int))=true:=by simp[af]
   have az:decide ((bs.length:Int)<=40000)=false:=by simp;omega
   have b:wX bs a6=false:=by unfold wX;rw[decide_eq_false aK];simp
   obtain⟨rfl,rfl,rfl⟩:=f.o b;clear f y b af;exact MD
 ·have Y:((bs.length:Int) == (a6.length:Int))=false:=by simp;omega
  have b:wX bs a6=false:=by unfold wX;rw[show(bs.length == a6.length)=false by simpa using af];simp
  obtain⟨rfl,rfl,rfl⟩:=f.o b;clear f y b;exact MD
end
section
open Go.RowKit EvM
theorem XH (ak cU) (bs a6:List Int) (c a:Int) (h:Hd (C0 bs a6=(c,a))) (w) (aQ:Sl .i64 w ak bs) (cE:Sl .i64 w cU a6) :
 Calls prog 173 #[ak,cU] w (RetB (.tuple #[iV c,iV a]) w):=by
 have h:=h.o;unfold C0 at h;cases eD:wX bs a6 with
 | false =>
  rw[eD,if_neg (by simp)]at h;simp only[Prod.mk.injEq]at h;obtain⟨rfl,rfl⟩:=h;have fU:Hd (C3 bs a6=(0,0,1)):=by show _=_;unfold C3;rw[eD,if_neg Is]
  have br:=lh aQ;have kA:=lh cE;clear aQ cE eD;go_enter func173,ntmps173;go_wp2_with fail;refine(OS ak cU bs a6 0 0 1 fU _ br.o kA.o).mono ?_;rintro _ a7 ⟨rfl,aH⟩;go_wp2;go_ret2;exact⟨rfl,aH⟩
 | true =>
  rw[eD,if_pos rfl]at h;refine N1 ?_;unhygienic intros
  rw[yzn mr jq eC]at h;refine K5 ?_;intro rC fU kf dj br kA;have nG:Hd (∀w,Calls prog 206 #[.int .u64 aA,.int .u64 bw,.int .u64 1000000000] w (RetB (.tuple #[.int .u64 q,.bool b]) w)):=fun w=>JI aA bw 1000000000 q b kf.o om dj w;clear aQ cE eD mr jq eC;cases b with
  | false=>rw[if_neg (by simp)]at h;simp only[Prod.mk.injEq]at h;obtain⟨rfl,rfl⟩:=h;exact LN
  | true =>
   by_cases d:q<=1000000000000000;·rw[if_pos ⟨rfl,d⟩]at h;simp only[Prod.mk.injEq]at h;obtain⟨rfl,rfl⟩:=h;refine RW ?_;intro aM a7 dm;exact LN
   ·rw[if_neg (by intro h;exact d h.2)]at h;simp only[Prod.mk.injEq]at h;obtain⟨rfl,rfl⟩:=h;have aM:decide (1000000000000000<q)=true:=by simp;omega
    exact LN
end
section
open Go.RowKit EvM
theorem jhp (h:w.ownsRow n e m v k C) (au:BW w W):W.ownsRow n e m v k C:=by exact Qs
theorem Q0 (v) (ts:List (Int×Bool)) (ay al an az ar ax:Int) (ab X) (bss rss:List (List Int)) (g:Bool) (kw:hu ay ts al an az ar ax=true) (pF:bss.length=ts.length) (lq:rss.length=ts.length) (sz:1<=ts.length/\ts.length<=1000) (w) (ad:h7 w v ts) (S:RwS w ab bss) (aj:RwS w X rss) :
 Calls prog 127 #[.agg #[iV ay,v,iV al,iV an,iV az,iV ar,iV ax],ab,X,.bool g] w (EP (hq bss rss ts g ts.length).1 (hq bss rss ts g ts.length).2 w):=by
 have br:=lh ad;have aI:=lh S;have aK:=lh aj;obtain⟨aF,aC,rfl,aZ,⟨a3,t⟩,e⟩:=ad;clear e t;obtain⟨aQ,aS,rfl,a',⟨aD,t⟩,e⟩:=S;clear e t;obtain⟨aR,aU,rfl,aY,⟨a4,t⟩,e⟩:=aj;clear e t;unfold maxLen at a3 aD a4;refine IC ?_;clear kw pF lq sz;unhygienic intros
 go_enter func127,ntmps127;go_wp2_with fail;refine KM ?_;intro a7 aH;have T:=lh (lr.B aH);have a8:=lh (hJ gu.o aH);have D:=T.cell 1;simp only[gz,gs]at D;clear aH lr gu gt;have a9:Hd (a7.ownsRow a7.heap.size 2 1 (sZ) 0 ((hq bss rss ts g 0).1.map (Value.int .i64))):=⟨rfl,.inl ⟨rfl,rfl⟩⟩;go_wp2_with fail;clear D aM aP;go_loopg [10,11] ts.length (fun C aE J wr=>∃k:Nat,k+C=ts.length/\J=iV k/\Hd (wr.ownsRow a7.heap.size 2 1 aE k ((hq bss rss ts g k).1.map (Value.int .i64)))/\Hd ((hq bss rss ts g k).2=0)/\Hd (BW a7 wr));case atStart=>exact⟨0,by omega,rfl,a9,rfl,bR⟩
 case round =>
  obtain⟨k,aO,rfl,z,m,l⟩:=hrel;have D:=(T.B l.o).cell 1;simp only[gz,gs]at D;have r:=lh (hJ a8.o l.o);cases gk with
  | zero=>have au:¬((k:Int)<ts.length):=om;obtain rfl:k=ts.length:=om;have a2:=lh (Sl.of_own z.o (KU m.o));go_wp2_with fail;go_ret2;rw[m.o];exact⟨_,rfl,a2.o,r.o⟩
  | succ C =>
   have au:(k:Int)<ts.length:=om;have R:k<ts.length:=om;obtain⟨b,o,am,ak,Z⟩:=(br.B r.o).get18 R;subst am;obtain⟨af,a,P⟩:=xh (ts.getD k (0,false));rw[P]at ak Z;simp only at ak Z;have eN:=lh P;have aL:=bp.2.2;have s:Hd (a7.heap.size<=wr.heap.size):=l.size;clear P;cases mu:(g && a) with
   | true =>
    have a1:g=true/\a=true:=ss mu;obtain⟨rfl,rfl⟩:=a1;have ac:=lh (MN m.o (show(true && (ts.getD k (0,false)).2)=true by rw[eN.o];rfl));clear mu
    go_wp2_with (at_builtin;refine wpList_append_own _ rfl (.tmp 66) (.tmp 68) 33 rfl a7.heap.size 2 jn (iZ) 1 8 underlying33 aA iA gU er rfl Iv _ _ _ rfl (z.alloc _) (Ad wr.heap.size 0) 1 1 [iZ] rfl rfl (cell_one_new _ _ _) (fun x f=>by simp at f;subst f;rfl) RD om (by simp;exact Nat.le_succ_of_le s.o) ?_;intro aw a0 d j K;clear K;have L:=lh d;have F:=lh j;clear d j)
    go_roundg C;case measure=>omega
    case rel =>
     refine⟨k+1,by omega,by go_num,?_,?_,?_⟩;·show World.ownsRow _ _ _ _ _ _ _;rw[ac.o];simp only[List.map_append,List.map_cons,List.map_nil];exact L.o
     ·show _=_;rw[ac.o]
     ·exact Below.grown (l.alloc s.o _) F.o (by simp;exact Nat.le_succ_of_le s.o) (fun q O=>(z.lt q O).1)
   | false =>
    obtain⟨aB,c,aT,ao,M,ah⟩:=(aI.B r.o).get (i:=k) Fe;obtain⟨i,or,aV,a5,Q,ae⟩:=(aK.B r.o).get (i:=k) Fe;subst ao a5;obtain⟨aW,B,rfl⟩:=ah.shape;obtain⟨aN,y,rfl⟩:=ae.shape;refine Qg ?_;unhygienic intros
    have aa:(g=false/\a=false)\/(g=false/\a=true)\/(g=true/\a=false):=by cases g <;> cases a <;> simp_all
    clear th mu;have G:wr.cell? (Ad aB (c+k))=some (.slice aW (bss.getD k []).length B)/\wr.cell? (Ad i (or+k))=some (.slice aN (rss.getD k []).length y):=⟨M,Q⟩;have Y:wr.drew.cell? (Ad aB (c+k))=some (.slice aW (bss.getD k []).length B)/\wr.drew.cell? (Ad i (or+k))=some (.slice aN (rss.getD k []).length y):=⟨M,Q⟩;have E:=lh G;have av:=lh aa;clear M Q aa;rcases av.o with⟨rfl,rfl⟩ | ⟨rfl,rfl⟩ | ⟨rfl,rfl⟩;all_goals
     go_wp2_with fail;go_region_held3 (fun ag=>Ce ag aB (c+k) (.slice aW (bss.getD k []).length B)/\Ce ag i (or+k) (.slice aN (rss.getD k []).length y)) (first | with_reducible assumption | with_reducible exact G | with_reducible exact Y | with_reducible exact W) (first | (go_at_call 173;refine(XH _ _ (bss.getD k []) (rss.getD k []) aG I oL _ (ah.o.B HS) (ae.o.B HS)).mono ?_;rintro _ u ⟨rfl,ea⟩;have ai:Hd (BW wr u):=MR;have W:u.cell? (Ad aB (c+k))=some (.slice aW (bss.getD k []).length B)/\u.cell? (Ad i (or+k))=some (.slice aN (rss.getD k []).length y):=⟨(ai.o.cell (p:=(Ad aB (c+k))) (ht E.o.1)).trans E.o.1,(ai.o.cell (p:=(Ad i (or+k))) (ht E.o.2)).trans E.o.2⟩;clear ea));clear G Y W;by_cases n:I=0
     ·subst n;have A:=lh (Qe m.o rq.o oL.o);have V:=lh (jhp z.o ai.o);have H:Hd (a7.heap.size<=u.heap.size):=nt s.o ai.size;have aJ:=lh (l.trans (ai.mono s.o))
      go_wp2_with (at_builtin;refine wpList_append_own _ rfl (.tmp 66) (.tmp 68) 33 rfl a7.heap.size 2 jn (iZ) 1 8 underlying33 aA iA gU er rfl Iv _ _ _ rfl (V.alloc _) (Ad u.heap.size 0) 1 1 [iV aG] rfl rfl (cell_one_new _ _ _) (fun x f=>by simp at f;subst f;rfl) RD om (by simp;exact Nat.le_succ_of_le H.o) ?_;intro aw a0 d j K;clear K;have L:=lh d;have F:=lh j;clear d j)
      go_roundg C;case measure=>omega
      case rel =>
       refine⟨k+1,by omega,by go_num,?_,?_,?_⟩;·show World.ownsRow _ _ _ _ _ _ _;rw[A.o];simp only[List.map_append,List.map_cons,List.map_nil];exact L.o
       ·show _=_;rw[A.o]
       ·exact Below.grown (aJ.alloc H.o _) F.o (by simp;exact Nat.le_succ_of_le H.o) (fun q O=>(V.lt q O).1)
     ·have A:=lh (MC (R4 m.o rq.o oL.o n) n (show k+1<=ts.length from R));have aX:(I != 0)=true:=ss n;have a6:=lh (hJ r.o ai.o);clear n;go_wp2_with fail;go_ret2;rw[A.o];exact⟨_,rfl,Sl.nil,a6.o⟩
theorem Ro (e) (ts:List (Int×Bool)) (ay al an az ar ax:Int) (j f) (bss d:List (List Int)) (s:Bool) (c:Bool) (g:Hd (hu ay ts al an az ar ax=c)) (l:Hd (c=true->¬(bss.length=ts.length/\d.length=ts.length))) (w) (i:h7 w e ts) (o:RwS w j bss) (t:RwS w f d) :
 Calls prog 127 #[.agg #[iV ay,e,iV al,iV an,iV az,iV ar,iV ax],j,f,.bool s] w (EP [] (if c=true then 1 else 6) w):=by
 have br:=lh i;obtain⟨aF,aC,rfl,y,⟨m,b⟩,a⟩:=i;clear a b;obtain⟨v,z,rfl,A,⟨r,b⟩,a⟩:=o;clear a b;obtain⟨x,C,rfl,B,⟨n,b⟩,a⟩:=t;clear a b;unfold maxLen at m r n;refine K8 ?_;intro lr gu;cases c with
 | false =>
  have gt:Hd ((if hu ay ts al an az ar ax=true then 0 else 6)=(6:Int)):=by show _=_;rw[g.o];rfl
  go_enter func127,ntmps127;go_wp2_with fail;refine KM ?_;intro a7 aH;exact NM
 | true =>
  have gt:Hd ((if hu ay ts al an az ar ax=true then 0 else 6)=(0:Int)):=by show _=_;rw[g.o];rfl
  have pw:=l.o rfl;by_cases aX:bss.length=ts.length
  ·refine OD ?_;intro aM;have u:((d.length:Int) != (ts.length:Int))=true:=by simp;omega
   exact Mi
  ·have aM:((bss.length:Int) != (ts.length:Int))=true:=by simp;omega
   exact Mi
theorem jgd (k) (a:List (Int×Bool)) (b e i c f j:Int) (n m) (d g:List (List Int)) (l:Bool) (p:List Int×Int) (u:Hd (rc (hu b a e i c f j) a d g l=p)) (w) (t:h7 w k a) (r:RwS w n d) (s:RwS w m g) :
 Calls prog 127 #[.agg #[iV b,k,iV e,iV i,iV c,iV f,iV j],n,m,.bool l] w (EP p.1 p.2 w):=by
 have h:=u.o;subst h;unfold rc;cases o:hu b a e i c f j with
 | false=>rw[if_pos rfl];exact Ro k a b e i c f j n m d g l false o (fun h=>by cases h) w t r s
 | true =>
  rw[if_neg Is];by_cases cx:d.length=a.length/\g.length=a.length;·rw[if_neg Hw];exact Q0 k a b e i c f j n m d g l o cx.1 cx.2 (oo (CT o)) w t r s
  ·rw[if_pos cx];exact Ro k a b e i c f j n m d g l true o (fun _=>cx) w t r s
theorem W2 (m) (a:List (Int×Bool)) (b e j c f k:Int) (p o) (d g:List (List Int)) (n:Bool) (s:List Int) (u:Hd (rc (hu b a e j c f k) a d g n=(s,0))) (w) (x:h7 w m a) (t:RwS w p d) (v:RwS w o g) :
 Calls prog 127 #[.agg #[iV b,m,iV e,iV j,iV c,iV f,iV k],p,o,.bool n] w (EP s 0 w):=by
 have h:=u.o;unfold rc at h;cases l:hu b a e j c f k with
 | false=>rw[if_pos l]at h;injection h with _ h;exact absurd h Iv
 | true =>
  rw[if_neg (by rw[l];simp)]at h;by_cases i:d.length=a.length/\g.length=a.length;·rw[if_neg (ss i)]at h;have r:=Q0 m a b e j c f k p o d g n l i.1 i.2 (oo (CT l)) w x t v;rw[h]at r;exact r
  ·rw[if_pos i]at h;injection h with _ h;exact absurd h Iv
end
theorem Rw (a:Int) (b:0<=a/\a<=20000) (c:Bool) (d:Hd (B7 a=c)) (w):Calls prog 227 #[iV a] w (h3 (.bool c) w):=by
 have e:a.tmod 4=a%4:=Int.tmod_eq_emod_of_nonneg b.1;have g:a.tmod 100=a%100:=Int.tmod_eq_emod_of_nonneg b.1;have f:a.tmod 400=a%400:=Int.tmod_eq_emod_of_nonneg b.1;go_enter func227,ntmps227;go_wp2;all_goals
  go_ret;exact⟨KI (by rw[<-d.o];simp[B7, *]),rfl⟩
theorem QQ (a:Int) (e:0<=a/\a<=20000) (c:Int) (d:Hd (365+(if B7 a=true then 1 else 0)=c)) (w):Calls prog 198 #[iV a] w (h3 (iV c) w):=by
 obtain⟨q,b⟩:=xg (B7 a);have g:=lh b;have h:=d.o;rw[b]at h;have f:=lh h;clear b d h;cases q;all_goals
  go_enter func198,ntmps198
  go_wp2_with (first | (go_at_call 227;refine(Rw a e _ g _).mono ?_;rintro _ _ ⟨rfl,rfl⟩))
  go_ret;exact⟨Fo (by rw[<-f.o];simp),rfl⟩
theorem RX (a g:Int) (e:0<=a/\a<=20000) (c:Int) (f:Hd (h2 a g=c)) (w):Calls prog 199 #[iV a,iV g] w (h3 (iV c) w):=by
 obtain⟨q,d⟩:=xg (B7 a);have b:=lh d;clear d;go_enter func199,ntmps199
 go_wp2_with (first | (go_at_call 227;refine(Rw a e q b _).mono ?_;rintro _ _ ⟨rfl,rfl⟩))
 all_goals
  go_ret;refine⟨Fo ?_,rfl⟩;clear e;rw[<-f.o,h2,b.o];clear f b;simp only[beq_iff_eq,beq_eq_false_iff_ne,ne_eq]at *;first
   | rw[if_pos om]
   | rw[if_neg om,if_pos om]
   | (rw[if_neg om,if_neg om,if_pos om];simp[*])
   | rw[if_neg om,if_neg om,if_neg om]
theorem Mc (ai t B k:Int) (h:Bi ai t B k) (w):Calls prog 163 #[iV ai] w (RetB (.tuple #[.agg #[iV t,iV B,iV k],iZ]) w):=by
 obtain⟨s,l⟩:=Hq h;have aA:¬ai < -135140:=om;have a6:¬2932896<ai:=om;have m:=lh h;obtain⟨q,ab⟩:∃q:Nat,((ai+135140)/146097:Int)=q:=⟨((ai+135140)/146097).toNat,by omega⟩;obtain⟨v,af⟩:∃v:Int,(ai+135140)%146097=v:=⟨_,rfl⟩;have a2:wrap64 (ai - -135140)=ai+135140:=by rw[wi _ ⟨by omega,by omega⟩];omega
 have a5:(ai+135140).tdiv 146097=(q:Int):=by rw[Int.tdiv_eq_ediv_of_nonneg om];exact ab
 have aB:(ai+135140).tmod 146097=v:=by rw[Int.tmod_eq_emod_of_nonneg om];exact af
 obtain⟨g,ae⟩:∃g:Int,1600+400*(q:Int)=g:=⟨_,rfl⟩;have a0:wrap64 (q:Int)=q:=wi _ ⟨by omega,by omega⟩;have a8:wrap64 ((q:Int)*400)=400*(q:Int):=by rw[wi _ ⟨by omega,by omega⟩];omega
 have a3:wrap64 (1600+400*(q:Int))=g:=by rw[wi _ ⟨by omega,by omega⟩];exact ae
 have L:Hd (1600<=g/\g<=t/\0<=v/\he (g-1600)+v=ai):=by
  have ax:he (g-1600)+v=ai:=by unfold he;omega
  refine⟨by omega,?_,by omega,ax⟩;by_cases z:g<=t;·exact z
  ·have a1:=(CZ h).2;have a4:=CD (a:=t-1600+1) (b:=g-1600) om;omega
 have ah:Hd (hA (w.alloc (.cells #[iZ,iZ,iZ] 249)) w.heap.size 249 [iZ,iZ,iZ]):=hR w _ _ _ rfl;clear h ab af ae s l;go_enter func163,ntmps163;go_wp2_with fail;go_loopg [4,5] (t-g).toNat (fun x O am wr=>∃c n:Int,O=iV n/\am=iV c/\Hd (c+(x:Int)=t/\1600<=c/\0<=n/\he (c-1600)+n=ai)/\wr=w.alloc (.cells #[iZ,iZ,iZ] 249));case atStart=>exact⟨g,v,rfl,rfl,⟨oo L.o,L.1,L.2.2.1,L.2.2.2⟩,rfl⟩
 case round =>
  obtain⟨c,n,rfl,rfl,o,rfl⟩:=hrel;obtain⟨f,I⟩:∃f:Int,365+(if B7 c=true then 1 else 0)=f:=⟨_,rfl⟩;have ag:=lh I;have A:Hd (0<=c/\c<=20000):=by have s:=o.o;have l:=m.o.hy;show _/\_;omega
  have S:Hd (he (c-1600+1)=he (c-1600)+f):=by have D:=Ev (c-1600);have e:1600+(c-1600)=c:=om;rw[e]at D;show _=_;rw[<-I];omega
  have aa:365<=f/\f<=366:=by rw[<-I];split <;> omega
  have ar:=lh aa;clear I aa;cases gk with
  | succ x =>
   have z:f<=n:=by have s:=o.o;have l:=(CZ m.o).1;have D:=CD (a:=c-1600+1) (b:=t-1600) om;have E:=S.o;omega
   have P:wrap64 (n-f)=n-f:=by
    have s:=o.o;have l:=m.o;have D:=Hq l;have u:=ar.o;have E:=CD (a:=0) (b:=c-1600) om;have K:he 0 = -135140:=by decide
    exact wi _ ⟨by omega,by omega⟩
   have an:wrap64 (c+1)=c+1:=wi _ ⟨oo A.o,oo A.o⟩
   go_wp2_with (first | (go_at_call 198;refine(QQ c A.o f ag _).mono ?_;rintro _ _ ⟨rfl,rfl⟩))
   go_roundg x;case measure=>omega
   case rel=>have ac:=o.o;have J:=S.o;refine⟨c+1,n-f,by rw[P],by rw[an],⟨by omega,by omega,by omega,?_⟩,rfl⟩;rw[show c+1-1600=c-1600+1 by omega,J];omega
  | zero =>
   have aw:c=t:=oo o.o;subst aw;have z:¬f<=n:=by have s:=o.o;have l:=(CZ m.o).2;have E:=S.o;omega
   go_wp2_with (first | (go_at_call 198;refine(QQ c A.o f ag _).mono ?_;rintro _ _ ⟨rfl,rfl⟩))
   clear z;go_loopg [4,6] (B-1).toNat (fun x O az wr=>∃d p:Int,O=iV p/\az=iV d/\Hd (d+(x:Int)=B/\1<=d/\0<=p/\hk c (d-1).toNat+p=n)/\wr=w.alloc (.cells #[iZ,iZ,iZ] 249));case atStart=>exact⟨1,n,rfl,rfl,⟨oo m.o.hm,by omega,o.2.2.1,by simp[hk]⟩,rfl⟩
   case round =>
    obtain⟨d,p,rfl,rfl,y,rfl⟩:=hrel;obtain⟨r,H⟩:∃r:Int,h2 c d=r:=⟨_,rfl⟩;have F:=lh H;have C:Hd (1<=d/\d<=12):=by have s:=y.o;have l:=m.o.hm;show _/\_;omega
    have M:=Bq c C.o;rw[H]at M;have V:Hd (hk c d.toNat=hk c (d-1).toNat+r):=by have s:=C.o;obtain⟨G,ak⟩:∃G:Nat,(d-1).toNat=G:=⟨_,rfl⟩;have aj:d.toNat=G+1:=om;have av:((G+1:Nat):Int)=d:=om;show _=_;rw[ak,aj,<-H,<-av];rfl
    have Q:=lh M;clear H M;cases gk with
    | succ x =>
     have z:r<=p:=by have s:=y.o;have l:=m.o;have D:=V.o;have E:=l.hn;have u:=l.hd;have K:=D4 c (i:=d.toNat) (j:=(B-1).toNat) om (oo l.hm);have ad:=o.o;omega
     have P:wrap64 (p-r)=p-r:=by
      have s:=y.o;have D:=Q.o;have ad:=o.o;have E:=CD (a:=0) (b:=c-1600) om;have K:he 0 = -135140:=by decide
      have ay:=D4 c (Nat.zero_le (d-1).toNat) (oo C.o);simp only[hk]at ay;exact wi _ ⟨by omega,by omega⟩
     have au:wrap64 (d+1)=d+1:=wi _ ⟨oo C.o,oo C.o⟩
     go_wp2_with (first | (go_at_call 199;refine(RX c d A.o r F _).mono ?_;rintro _ _ ⟨rfl,rfl⟩))
     go_roundg x;case measure=>omega
     case rel=>have ac:=y.o;have J:=V.o;refine⟨d+1,p-r,by rw[P],by rw[au],⟨by omega,by omega,by omega,?_⟩,rfl⟩;rw[show d+1-1=d by omega,J];omega
    | zero =>
     have al:d=B:=oo y.o;subst al;have W:Hd (p=k-1):=by have s:=y.o;have E:=m.o.hn;have ad:=o.o;show _=_;omega
     obtain rfl:p=k-1:=W.o;have z:¬r<=k-1:=by have u:=m.o.hd;rw[F.o]at u;omega
     have a7:wrap64 (k-1+1)=k:=by have u:=m.o.hd;have K:=Q.o;rw[F.o]at u;rw[wi _ ⟨by omega,by omega⟩];omega
     have ao:wrap64 k=k:=by have u:=m.o.hd;have K:=Q.o;rw[F.o]at u;exact wi _ ⟨by omega,by omega⟩
     clear W;have R:=ah.o;obtain⟨a9,ac,J,-⟩:=R.fs [0,1,2];have Z:=((R.set 0 (iV c)).set 1 (iV d)).set 2 (iV k);obtain⟨X,Y,T,-⟩:=Z.cs [0,1,2];simp only[List.set_cons_zero,List.set_cons_succ,gz,gs]at X Y T;clear R Z
     go_wp2_with (first | (go_at_call 199;refine(RX c d A.o r F _).mono ?_;rintro _ _ ⟨rfl,rfl⟩))
     refine bodyPost_ret (v:=.tuple #[.agg #[iV c,iV d,iV k],iZ]) (by simp[results,results163,go_sem,X,Y,T,ao]) rfl ⟨rfl,?_⟩;exact hB bR _
end Go.Proofs.YtkongpjpkpfniaaGreat

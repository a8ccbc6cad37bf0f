/- TopBooks, a part. -/
import Derived.Laws.StructEq
import Derived.Great.BuildSlice
import Derived.Test.YtkongpjpkpfniaaGreatC11
set_option linter.unusedVariables false
set_option linter.unusedSimpArgs false
set_option maxRecDepth 100000
set_option maxHeartbeats 6400000
namespace Go.Proofs.YtkongpjpkpfniaaGreat
open Go.RowKit Go.Proofs.Tryz
variable {a:Act} {D:Bool} {Q:Exit->Act->World->Prop} {c d f y z:Int} {P:List (Int×Int)} {r x:List Int} {F G:List Nat} {l:List R5} {L:List St} {C X:List Value} {i k m n:Nat} {O:Oper} {p q:Prop} {E:R5} {s:RS} {T:St} {e:TypeId} {V u v:Value} {W Y Z i6 w:World}
theorem Lq (h:q:=by show hA _ g 127 [sL q 0 eF.length dP,iV (wrap64 (kB-aO.d))];with_reducible exact((((((ct.setOther mI 0 _).setOther mI 1 _).setOther mI 2 _).setOther mI 3 _).setOther mI 4 _).B (hG bR))):q:=h
theorem SR (h:q:=by simp only[x5];have Z:=t1 (i:=1) nh nd (iV (wrap64 (kB-aO.d)));with_reducible exact ic (t1 (t1 (t1 (t1 (t1 Z eC _) eC _) eC _) eC _) eC _) (hG bR)):q:=h
theorem HY (h:q:=by exact((((((mA.setCell (show base<=g from cT.o) (.inl e7.o.1) _).setCell (show base<=w.heap.size from bY.o) (.inr (nr _)) _).setCell (show base<=w.heap.size from bY.o) (.inr (nr _)) _).setCell (show base<=w.heap.size from bY.o) (.inr (nr _)) _).setCell (show base<=w.heap.size from bY.o) (.inr (nr _)) _).setCell (show base<=w.heap.size from bY.o) (.inr (nr _)) _).drew):q:=h
def R5.withE (a:R5) (b:Int):R5:=⟨a.a,a.b,a.c,a.d,b⟩
theorem Wq (c:List R5) (a:Nat) (f:Int) (aA:a<c.length):(k8 c).set (a*5+4) (iV f)=k8 (c.set a ((c.getD a Sk).withE f)):=by
 induction c generalizing a with
 | nil=>simp at aA
 | cons l c k =>
  have g:∀(b:R5) (e:List R5),k8 (b::e)=iV b.a::iV b.b::iV b.c::iV b.d::iV b.e::k8 e:=fun _ _=>rfl;cases a with
  | zero=>rfl
  | succ a=>have h:=k a MV;obtain⟨d,i⟩:=xg (a*5+4);have j:(a+1)*5+4=d+1+1+1+1+1:=om;rw[i]at h;rw[j,g];simp only[List.set_cons_succ,List.getD_cons_succ];rw[h,g]
theorem K0 {q:Nat} (h:w.ownsRow n e 5 (sL q 0 m k) m (k8 l)) (s:l.length=m) (r:i<l.length) (a:Int) :
 (w.setCell (Ad q (i*5+4)) (iV a)).ownsRow n e 5 (sL q 0 m k) m (k8 (l.set i ((l.getD i Sk).withE a))):=by
 refine⟨by rw[DJ,List.length_set,s],?_⟩;rcases h.2 with⟨g,_⟩ | ⟨y,x,b,t,d,f,j,c,p,o⟩;·cases g
 ·cases t;have v:hA w q e b.toList:=by simpa[hA] using f
  have u:=v.set (i*5+4) (iV a);refine .inr ⟨q,k,(b.toList.set (i*5+4) (iV a)).toArray,rfl,d,u,j,c,by simpa using p,?_⟩;rw[<-Wq l i a r,<-o,List.take_set]
theorem X5 {q:Nat} (h:w.ownsRow n e 5 (sL q 0 m k) m (k8 l)) (f:l.length=m) (b:i<l.length) (a c:Int) :
 ((w.setCell (Ad q (i*5+4)) (iV a)).setCell (Ad q (i*5+4)) (iV c)).ownsRow n e 5 (sL q 0 m k) m (k8 (l.set i ((l.getD i Sk).withE c))):=by
 have d:=K0 (K0 h f b a) (by rw[List.length_set];exact f) (i:=i) (by rw[List.length_set];exact b) c;have g:(l.set i ((l.getD i Sk).withE a)).getD i Sk=(l.getD i Sk).withE a:=by simp[List.getD,b]
 rw[g,List.set_set]at d;exact d
def BQ (b:Bk) (a:Int):Int :=
 if a<1\/(b.ds.length:Int)<a then 12 else if (b.ds.getD (a-1).toNat Sk).e≠1 then 13 else 0
def Dx (a:Bk) (b:Int) (c:Bool):R5:=(a.ds.getD (b-1).toNat Sk).withE (if c then 2 else 3)
def DD (a:Bk) (b:Int) (c:Bool):Bk :=
 if BQ a b=0 then ⟨a.ds.set (b-1).toNat (Dx a b c),wrap64 (a.held-(Dx a b c).d)⟩ else a
def s2 (a:Bk) (b:Int) (c:Bool):R5:=if BQ a b=0 then Dx a b c else Sk
theorem yq2 (base g:Nat) (ab:Value) (s:Bk) (e:Int) (J:Bool) (w:World) (ae:m1 w base g ab s) (ak:s.ds.length<=100000) (ac:base<=w.heap.size) (c:R5) (n:Hd (s2 s e J=c)) (u:Int) (A:Hd (BQ s e=u)) (m:Bk) (r:Hd (DD s e J=m)) (d:List Nat) (e7:Hd (g∈d/\∀q,ab.ownBlock=some q->q∈d)) :
 Calls prog 114 #[pV g,iV e,.bool J] w (fun I aa=>∃ai,I=.returned (.tuple #[.agg #[iV c.a,iV c.b,iV c.c,iV c.d,iV c.e],iV u])/\m1 aa base g ai m/\hx base d w aa):=by
 have af:=lh ae;obtain⟨eF,kB⟩:=s;obtain⟨O,T,z⟩:=ae;simp only at O T z ak;have o:=lh T;have f:=lh z;have cT:=lh O;have al:=lh (h4.of_own z rfl);obtain⟨ay,dP,rfl⟩:=(h4.of_own z rfl).shape;obtain⟨X,j,-⟩:=o.cs [0,1];have G:=o.frozen 1;have ar:=o.lt;simp only[gz,gs]at X j;have bY:=lh ac;clear T z ac O;go_enter func114,ntmps114;by_cases Z:e<1\/(eF.length:Int)<e
 ·have a:BQ ⟨eF,kB⟩ e=12:=by unfold BQ;rw[if_pos Z]
  obtain rfl:12=u:=by rw[<-A.o,a]
  obtain rfl:⟨eF,kB⟩=m:=by rw[<-r.o];unfold DD;rw[a];rfl
  obtain rfl:Sk=c:=by rw[<-n.o];unfold s2;rw[a];rfl
  clear A r n;rcases Z with Z | Z;all_goals
   go_wp2_with fail;refine bodyPost_ret (v:=.tuple #[.agg #[iZ,iZ,iZ,iZ,iZ],iV 12]) (by simp[results,results114,go_sem]) rfl ⟨_,rfl,af.B ?_,(hx.refl base d w).alloc bY.o _⟩;exact bL
 ·obtain⟨k,rfl⟩:∃k:Nat,e=(k:Int)+1:=⟨(e-1).toNat,by omega⟩;have F:k<eF.length:=om;have au:¬(k:Int)+1<1:=om;have am:¬(eF.length:Int)<k+1:=om;have l:((k:Int)+1-1).toNat=k:=om;have an:wrap64 ((k:Int)+1-1)=(k:Int):=by rw[show(k:Int)+1-1=(k:Int) by omega];exact wi _ ⟨by omega,by omega⟩
  obtain⟨q,av,S⟩:=ro f.o om;cases S;obtain⟨ao,aw,aO,S,⟨E,V,R,M,K⟩,b⟩:=al.get F;cases S;simp only[Nat.zero_add]at E V R M K;have az:=ht E;have H:=lh F;obtain⟨ax,Y,_⟩:=B0 f.o;have ad:=Y.frozen (k*5+4);have sY:Hd (g≠q):=fun I=>hh f.o o.o Iv (by rw[I];rfl);clear Y;by_cases ag:aO.e=1
  ·have a:BQ ⟨eF,kB⟩ ((k:Int)+1)=0:=by unfold BQ;rw[if_neg Z,l];simp only;rw[b.o,if_neg om]
   obtain rfl:0=u:=by rw[<-A.o,a]
   clear Z;cases J with
   | false =>
    go_upto_region 11 with fail;obtain⟨W,x,qk,gx,tx,mA⟩:∃W,(w.setCell (Ad q (k*5+4)) (iV 3)).alloc (.cells #[iZ,iZ,iZ,iZ,iZ] 155)=W/\Hd (hA W g 127 [sL q 0 eF.length dP,iV kB])/\Hd (hA W w.heap.size 155 [iZ,iZ,iZ,iZ,iZ])/\Hd (W.ownsRow base 155 5 (sL q 0 eF.length dP) eF.length (k8 (eF.set k ((eF.getD k Sk).withE 3))))/\Hd (hx base d w W) :=
     ⟨_,rfl,(o.setOther sY.o _ _).B (hB bR _),w3 _ _ _ _ (World.size_setCell _ _ _),ic (K0 f.o rfl F 3) (hB bR _),((hx.refl base d w).setCell (BY f.o _ _ _ _ rfl) (.inl (e7.o.2 _ rfl)) _).alloc (by rw[World.size_setCell];exact bY.o) _⟩
    with_reducible rw[x]
    have sW:Hd (W.cell? (Ad q (k*5))=some (iV aO.a)/\W.cell? (Ad q (k*5+1))=some (iV aO.b)/\W.cell? (Ad q (k*5+2))=some (iV aO.c)/\W.cell? (Ad q (k*5+3))=some (iV aO.d)/\W.cell? (Ad q (k*5+4))=some (iV 3)):=by
     obtain⟨aj,ah,L,Q,⟨C,t,D,y,B⟩,P⟩:=(h4.of_own tx.o Is).get (i:=k) (ss H.o);cases Q;have:L=aO.withE 3:=by rw[<-P.o,b.o];simp[List.getD,H.o]
     subst this;simp only[Nat.zero_add]at C t D y B;exact⟨C,t,D,y,B⟩
    have rn:=sW.2.2.2.1;clear x X j G E V R M K ad;have j:=qk.cell 1;have G:=qk.frozen 1;simp only[gz,gs]at j
    go_region
    refine Lk ?_;intro uG uH uI rn uJ jK jL jM uK uL aR bg be ei ej sX mI;go_wp2_with fail;have wI:aO.withE 3=c:=by rw[<-n.o];unfold s2;rw[a,if_pos rfl];unfold Dx;rw[l];simp only;rw[b.o];rfl
    have kh:(⟨eF.set k (aO.withE 3),wrap64 (kB-aO.d)⟩:Bk)=m:=by rw[<-r.o];unfold DD;rw[a,if_pos rfl];unfold Dx;rw[l];simp only;rw[b.o];rfl
    refine F6 ?_;intro sx ct nh;refine bodyPost_ret (v:=.tuple #[.agg #[iV aO.a,iV aO.b,iV aO.c,iV aO.d,iV 3],iZ]) M7 rfl ⟨rfl,⟨sL q 0 eF.length dP,cT.o,?_,?_⟩,?_⟩;·exact Lq
    ·refine Nb ?_;intro eC nd;rw[b.o]at nh;have x5:(eF.set k (aO.withE 3)).length=eF.length:=List.length_set;exact SR
    ·exact HY
   | true =>
    go_upto_region 11 with fail;obtain⟨W,x,qk,gx,tx,mA⟩:∃W,((w.setCell (Ad q (k*5+4)) (iV 3)).setCell (Ad q (k*5+4)) (iV 2)).alloc (.cells #[iZ,iZ,iZ,iZ,iZ] 155)=W/\Hd (hA W g 127 [sL q 0 eF.length dP,iV kB])/\Hd (hA W w.heap.size 155 [iZ,iZ,iZ,iZ,iZ])/\Hd (W.ownsRow base 155 5 (sL q 0 eF.length dP) eF.length (k8 (eF.set k ((eF.getD k Sk).withE 2))))/\Hd (hx base d w W) :=
     ⟨_,rfl,((o.setOther sY.o _ _).setOther sY.o _ _).B (hB bR _),w3 _ _ _ _ (by rw[World.size_setCell,World.size_setCell]),ic (X5 f.o rfl F 3 2) (hB bR _),(((hx.refl base d w).setCell (BY f.o _ _ _ _ rfl) (.inl (e7.o.2 _ rfl)) _).setCell (BY f.o _ _ _ _ rfl) (.inl (e7.o.2 _ rfl)) _).alloc (by rw[World.size_setCell,World.size_setCell];exact bY.o) _⟩
    with_reducible rw[x]
    have sW:Hd (W.cell? (Ad q (k*5))=some (iV aO.a)/\W.cell? (Ad q (k*5+1))=some (iV aO.b)/\W.cell? (Ad q (k*5+2))=some (iV aO.c)/\W.cell? (Ad q (k*5+3))=some (iV aO.d)/\W.cell? (Ad q (k*5+4))=some (iV 2)):=by
     obtain⟨aj,ah,L,Q,⟨C,t,D,y,B⟩,P⟩:=(h4.of_own tx.o Is).get (i:=k) (ss H.o);cases Q;have:L=aO.withE 2:=by rw[<-P.o,b.o];simp[List.getD,H.o]
     subst this;simp only[Nat.zero_add]at C t D y B;exact⟨C,t,D,y,B⟩
    have rn:=sW.2.2.2.1;clear x X j G E V R M K ad;have j:=qk.cell 1;have G:=qk.frozen 1;simp only[gz,gs]at j
    go_region
    refine Lk ?_;intro uG uH uI rn uJ jK jL jM uK uL aR bg be ei ej sX mI;go_wp2_with fail;have wI:aO.withE 2=c:=by rw[<-n.o];unfold s2;rw[a,if_pos rfl];unfold Dx;rw[l];simp only;rw[b.o];rfl
    have kh:(⟨eF.set k (aO.withE 2),wrap64 (kB-aO.d)⟩:Bk)=m:=by rw[<-r.o];unfold DD;rw[a,if_pos rfl];unfold Dx;rw[l];simp only;rw[b.o];rfl
    refine F6 ?_;intro sx ct nh;refine bodyPost_ret (v:=.tuple #[.agg #[iV aO.a,iV aO.b,iV aO.c,iV aO.d,iV 2],iZ]) M7 rfl ⟨rfl,⟨sL q 0 eF.length dP,cT.o,?_,?_⟩,?_⟩;·exact Lq
    ·refine Nb ?_;intro eC nd;rw[b.o]at nh;have x5:(eF.set k (aO.withE 2)).length=eF.length:=List.length_set;exact SR
    ·exact HY
  ·have a:BQ ⟨eF,kB⟩ ((k:Int)+1)=13:=by unfold BQ;rw[if_neg Z,l];simp only;rw[b.o,if_pos ag]
   obtain rfl:13=u:=by rw[<-A.o,a]
   obtain rfl:⟨eF,kB⟩=m:=by rw[<-r.o];unfold DD;rw[a];rfl
   obtain rfl:Sk=c:=by rw[<-n.o];unfold s2;rw[a];rfl
   clear A r n Z;go_wp2_with fail;refine bodyPost_ret (v:=.tuple #[.agg #[iZ,iZ,iZ,iZ,iZ],iV 13]) (by simp[results,results114,go_sem]) rfl ⟨rfl,⟨_,af.B ?_⟩,(hx.refl base d w).alloc bY.o _⟩;exact bL
section
theorem YG (c:BinOp) (d b:Operand) (f e:Array Value) (a):(eqGuard c 175 d b (.agg f) (.agg e)).run prog a=.ok () a:=run_eqGuard_agg a c _ d b f e kr
attribute [local go_sem] YG
theorem H2:(prog.info? 175).map (fun a=>(a.zero,a.size,a.bytes))=some (some (.agg #[iZ,iZ,iZ,iZ,iZ,iZ,iZ,iZ,iZ]),9,72):=by kernel_rfl
theorem PL (w:World) (cs:List Value) (O:TypeId):∀a8 cU,cs[a8]?=some cU->(w.alloc (.cells cs.toArray O)).cell? (((Ad w.heap.size 0):Addr).add a8)=some cU:=by exact J0
theorem Fb (h:∀a∈C,a.oneCell'=true) (c:∀a∈X,a.oneCell'=true):∀a∈C++X,a.oneCell'=true:= fun a d=>by
 rcases ma.1 d with b | b;·exact h a b
 ·exact c a b
def Br (w:World) (f:Nat) (e:Value) (d:Nat):Prop:=∃a b,a<=d/\(∀c∈b,c.oneCell'=true)/\w.ownsRow f 175 9 e a b
theorem UU (aJ:Int) (x T:St) (aU aY) (bi:x.ls.length=T.ls.length) (W:x.ls.length<=1000) (w:World) (bf:hz w aU x.ls) (aG:hz w aY T.ls) :
 Calls prog 161 #[iV aJ,Ds x aU,Ds T aY] w (fun e am=>∃u,e=.returned u/\Br am w.heap.size u (x.ls.length+1)/\BW w am):=by
 have b4:=lh bf;have cV:=lh aG;obtain⟨ag,aA,rfl,-⟩:=bf;obtain⟨a8,ai,rfl,-⟩:=aG;obtain⟨M,aw,au,ae,p,tot,I,O,l⟩:=x;obtain⟨an,aC,a6,ah,ab,J,C,H,j⟩:=T;unfold Ds at *;simp only at *;have t:=lh (An bi W);clear bi W;go_enter func161,ntmps161;go_wp2;obtain⟨g,bm,aO,aP,aH,dx⟩:∃g,(w.alloc (.cells #[iV M,iV aw,iV au,iV ae,.slice ag p.length aA,iV tot,iV I,iV O,.bool l] 43)).alloc (.cells #[iV an,iV aC,iV a6,iV ah,.slice a8 ab.length ai,iV J,iV C,iV H,.bool j] 43)=g/\Hd (hA g w.heap.size 43 [iV M,iV aw,iV au,iV ae,.slice ag p.length aA,iV tot,iV I,iV O,.bool l])/\Hd (hA g (w.heap.size+1) 43 [iV an,iV aC,iV a6,iV ah,.slice a8 ab.length ai,iV J,iV C,iV H,.bool j])/\Hd (BW w g)/\Hd (g.heap.size=w.heap.size+2) :=
  ⟨_,rfl,(hR w _ _ _ rfl).B (hB bR _),hR _ _ _ _ Is,hB (hB bR _) _,by show _=_;simp⟩
 with_reducible rw[bm]
 clear bm;refine sq 0 (fun a4 am=>∃(d f:Nat) (X:Value) (b5 cW c7 bD bU cM bP cp cG cv b8 c4 bA bI bV cU bF bC cu b1 cI cK cZ b0 cX cr dh cl bX c6 cP cm c0 co cA cy cc cE c2 c8 cx b3 bK bT cj ca bw ck dj cq cn c' bZ di ci cN cC dc dm cz cs cR bW b6 db bO bB ce cw bx ct cg b2 bE c5 bN bv dd bJ dl cb bQ cf c3 c1 cO bz cB:Value),a4={ tmps:=#[iV aJ,b5,cW,c7,pV w.heap.size,pV (w.heap.size+1),bD,X,iV (d:Int),pV f,bU,cM,bP,cp,cG,cv,b8,c4,bA,bI,bV,cU,bF,bC,cu,b1,cI,cK,cZ,b0,cX,cr,dh,cl,bX,c6,cP,cm,c0,co,cA,cy,cc,cE,c2,c8,cx,b3,bK,bT,cj,ca,bw,ck,dj,cq,cn,c',bZ,di,ci,cN,cC,dc,dm,cz,cs,cR,bW,b6,db,bO,bB,ce,cw,bx,ct,cg,b2,bE,c5,bN,bv,dd,bJ,dl,cb,bQ,cf,c3,c1,cO,bz,cB],defers:=[] }/\d<=p.length/\Hd (Br am (f+1) X d/\w.heap.size<=f/\f<am.heap.size)/\Hd (hA am w.heap.size 43 [iV M,iV aw,iV au,iV ae,.slice ag p.length aA,iV tot,iV I,iV O,.bool l]/\hA am (w.heap.size+1) 43 [iV an,iV aC,iV a6,iV ah,.slice a8 ab.length ai,iV J,iV C,iV H,.bool j])/\Hd (∃aQ bg aK aZ aR aV bs aS aN,hA am f 175 [iV aQ,iV bg,iV aK,iV aZ,iV aR,iV aV,iV bs,iV aS,iV aN])/\BW w am)
  (fun a4 _=>Ex p.length a4.tmps[8]?) rfl ?pass ?first
 case pass =>
  intro aX b D cT a';obtain⟨d,f,X,D⟩:=D;iterate 88 obtain⟨_,D⟩:=D
  obtain⟨rfl,ar,ay,dn,cd,bb⟩:=D;have bj:=lh a';clear a';have bc:=lh bb;obtain⟨P,R⟩:=dn.o;obtain⟨Q,bq,-⟩:=P.cs [0,4];have aW:=R.cell 4;have dz:=P.lt;have dy:=R.lt;simp only[gz,gs]at Q bq aW;have V:=lh ar;have az:=lh P;have bo:=lh R;obtain⟨aQ,bg,aK,aZ,aR,aV,bs,aS,aN,aM⟩:=cd.o;have a3:=lh aM;clear P R bb aM;obtain⟨a0,a1,dk⟩:∃a0 a1 m,X=.slice a0 m a1:=by
   obtain⟨⟨m,K,_,_,h⟩,_⟩:=ay.o;rcases h.2 with⟨rfl,rfl⟩ | ⟨l,bp,aI,rfl,_⟩;·exact⟨_,_,_,rfl⟩
   ·exact⟨_,_,_,rfl⟩
  obtain⟨o,rfl⟩:=dk;by_cases G:d<p.length
  ·have bY:(d:Int)<p.length:=om;have d8:(d:Int)<ab.length:=oo t.o;have dr:wrap64 ((d:Int)+1)=(d:Int)+1:=wi _ ⟨by omega,oo t.o⟩;obtain⟨d5,d9,n,B,Z,rfl,⟨br,da,bu⟩,dB⟩:=(b4.B bc.o).get G;obtain⟨d2,dq,v,A,S,rfl,⟨bh,cY,cJ⟩,dp⟩:=(cV.B bc.o).get (i:=d) (oo t.o);have d6:=ht br;have ds:=ht bh;clear ar;go_wp2_with fail;have aE:(n=v/\B=A)\/(n≠v\/(n=v/\B≠A)):=om;have c9:=lh aE;clear aE
   go_region
   all_goals
    first
     | (obtain⟨aa,Y,bl,aF,PB⟩:∃aa,((b.alloc (.cells #[iV n,iV B,iV Z] 65)).alloc (.cells #[iV v,iV A,iV S] 65)).drew=aa/\Hd (hA aa (b.heap.size) 65 [iV n,iV B,iV Z])/\Hd (hA aa (b.heap.size+1) 65 [iV v,iV A,iV S])/\Hd (BW b aa):=⟨_,rfl,(hR b _ _ _ rfl).B (hG (hB bR _)),(hR (b.alloc _) _ _ _ Is).B (hG bR),hG (hB (hB bR _) _)⟩;with_reducible rw[Y])
     | (obtain⟨aa,Y,bl,aF,PB⟩:∃aa,((b.alloc (.cells #[iV v,iV A,iV S] 65)).alloc (.cells #[iV n,iV B,iV Z] 65)).drew=aa/\Hd (hA aa (b.heap.size+1) 65 [iV n,iV B,iV Z])/\Hd (hA aa (b.heap.size) 65 [iV v,iV A,iV S])/\Hd (BW b aa):=⟨_,rfl,(hR (b.alloc _) _ _ _ Is).B (hG bR),(hR b _ _ _ rfl).B (hG (hB bR _)),hG (hB (hB bR _) _)⟩;with_reducible rw[Y])
    clear Y Q bq aW br da bu bh cY cJ;obtain⟨cF,aX,-⟩:=bl.cs [0,1];obtain⟨bt,bG,-⟩:=aF.cs [0,1];have Q:=(az.B PB.o).cell 0;simp only[gz,gs]at cF aX Q bt bG;obtain⟨⟨ak,K,W,E,s⟩,aj,cQ⟩:=ay.o;obtain rfl:o=ak:=by
     rcases s.2 with⟨be,a2⟩ | ⟨l,bp,aI,be,_⟩;·cases be;exact a2.symm
     ·cases be;rfl
    have k:=lh (ic s PB.o);clear s;obtain⟨ax,a7,ao,aB,a5⟩:=info_parts H2;rcases c9.o with⟨rfl,rfl⟩ | h | ⟨rfl,h⟩;·go_wp2_with fail;go_step3;exact⟨rfl,bj.o _ _ ⟨d+1,f,_,_,_,_,_,_,_,_,_,_,_,_,_,_,_,_,_,_,_,_,_,_,_,_,_,_,_,_,_,_,_,_,_,_,_,_,_,_,_,_,_,_,_,_,_,_,_,_,_,_,_,_,_,_,_,_,_,_,_,_,_,_,_,_,_,_,_,_,_,_,_,_,_,_,_,_,_,_,_,_,_,_,_,_,_,_,_,_,_,rfl,G,⟨⟨o,K,by omega,E,k.o⟩,aj,oo PB.size⟩,⟨az.B PB.o,bo.B PB.o⟩,⟨_,_,_,_,_,_,_,_,_,a3.B PB.o⟩,hJ bc.o PB.o⟩ (Dh G)⟩
    all_goals
     go_upto_region 8 with fail
     go_wp2_with (at_builtin;refine BS _ rfl (.tmp 65) (.tmp 81) 87 rfl (f+1) 175 ax (.agg #[iZ,iZ,iZ,iZ,iZ,iZ,iZ,iZ,iZ]) 9 72 underlying87 a7 ao aB a5 rfl Iv _ o K rfl (ic k.o (hB bR _)) (Ad aa.heap.size 0) 1 1 _ rfl rfl (PL aa _ _) (fun n F=>by simp at F;rcases F with rfl | rfl | rfl | rfl | rfl | rfl | rfl | rfl | rfl <;> rfl) (by have:=t.o;unfold maxLen;omega) (oo t.o) (by rw[wa];have:=PB.size;omega) ?_;intro cD aD y L af;clear af;obtain⟨d3,b7,rfl⟩:=ro y om;have av:=lh y;have z:=lh L;clear y L)
     go_step3;have bd:∀j ac al,ac≠175->hA b j ac al->hA aD j ac al:=fun j ac al bS h=>by exact p7 (h.B (hB PB.o _)) z.o (hh k.o (h.B PB.o) bS)
     have b9:some f≠Value.ownBlock (.slice a0 o a1):=fun e=>oo ((k.lt f e.symm).1);have bH:BW w aD:=Below.grown (hB (hJ bc.o PB.o) _) z.o (by rw[wa];have:=PB.size;have:=bc.size;omega) (fun q a9=>oo ((k.lt q a9).1));exact⟨rfl,bj.o _ _ ⟨d+1,f,_,_,_,_,_,_,_,_,_,_,_,_,_,_,_,_,_,_,_,_,_,_,_,_,_,_,_,_,_,_,_,_,_,_,_,_,_,_,_,_,_,_,_,_,_,_,_,_,_,_,_,_,_,_,_,_,_,_,_,_,_,_,_,_,_,_,_,_,_,_,_,_,_,_,_,_,_,_,_,_,_,_,_,_,_,_,_,_,_,rfl,G,⟨⟨o+1,_,by omega,Fb E Js,av.o⟩,aj,by have:=PB.size;have:=z.size;simp only[wa]at this;omega⟩,⟨bd _ _ _ Iv az.o,bd _ _ _ Iv bo.o⟩,⟨_,_,_,_,_,_,_,_,_,p7 (a3.B (hB PB.o _)) z.o b9⟩,bH⟩ (Dh G)⟩
  ·have bY:¬(d:Int)<p.length:=om;obtain⟨d1,du,b7,dv,d0,d7,dw,d4,dt,-⟩:=a3.cS [0,1,2,3,4,5,6,7,8];obtain⟨⟨ak,K,W,E,s⟩,aj,cQ⟩:=ay.o;obtain rfl:o=ak:=by
    rcases s.2 with⟨be,a2⟩ | ⟨l,bp,aI,be,_⟩;·cases be;exact a2.symm
    ·cases be;rfl
   have k:=lh s;clear s;obtain⟨ax,a7,ao,aB,a5⟩:=info_parts H2;clear ar;go_upto_region 9 with fail
   go_wp2_with (at_builtin;refine BS _ rfl (.tmp 89) (.tmp 91) 87 rfl (f+1) 175 ax (.agg #[iZ,iZ,iZ,iZ,iZ,iZ,iZ,iZ,iZ]) 9 72 underlying87 a7 ao aB a5 rfl Iv _ o K rfl (ic k.o (hB bR _)) (Ad b.heap.size 0) 1 1 _ rfl rfl (PL b _ _) (fun n F=>by simp at F;rcases F with rfl | rfl | rfl | rfl | rfl | rfl | rfl | rfl | rfl <;> rfl) (by have:=t.o;have:=V.o;unfold maxLen;omega) (o2 t.o V.o) x1 ?_;intro cD aD y L af;clear af;have av:=lh y;have z:=lh L;clear y L)
   all_goals
    simp only[Exit.jump];go_ret;first
     | exact⟨_,rfl,⟨_,_,oo V.o,E,B1 k.o om⟩,bc.o⟩
     | exact⟨_,rfl,⟨o+1,_,oo V.o,Fb E Js,B1 av.o om⟩,Below.grown (hB bc.o _) z.o (by rw[wa];have:=bc.size;omega) (fun q a9=>oo ((k.lt q a9).1))⟩
 case first =>
  intro cT df aL;have dg:=lh aL;clear df aL;go_upto_region 3 with fail;have ad:∀a,BW g a->((Ce a w.heap.size 0 (iV M)/\Ce a w.heap.size 5 (iV tot)/\Ce a w.heap.size 6 (iV I)/\Ce a w.heap.size 7 (iV O)/\Ce a w.heap.size 8 (.bool l))/\(Ce a (w.heap.size+1) 5 (iV J)/\Ce a (w.heap.size+1) 6 (iV C)/\Ce a (w.heap.size+1) 7 (iV H)/\Ce a (w.heap.size+1) 8 (.bool j))):=fun a h =>
   have q:=aO.B h;have r:=aP.B h
   ⟨⟨q.cell 0,q.cell 5,q.cell 6,q.cell 7,q.cell 8⟩,r.cell 5,r.cell 6,r.cell 7,r.cell 8⟩
  have aT:=lh ad;have b':=ad g bR;have ch:=ad g.drew (hG bR);clear ad;go_region_held3 (fun a=>(Ce a w.heap.size 0 (iV M)/\Ce a w.heap.size 5 (iV tot)/\Ce a w.heap.size 6 (iV I)/\Ce a w.heap.size 7 (iV O)/\Ce a w.heap.size 8 (.bool l))/\(Ce a (w.heap.size+1) 5 (iV J)/\Ce a (w.heap.size+1) 6 (iV C)/\Ce a (w.heap.size+1) 7 (iV H)/\Ce a (w.heap.size+1) 8 (.bool j))) (first | with_reducible exact b' | with_reducible exact ch | with_reducible exact aT.o _ (hB (hG bR) _) | with_reducible exact aT.o _ (hG (hB bR _)) | with_reducible assumption) (first | (go_at_call 197;refine(ysk l j _).mono ?_;rintro _ dA ⟨rfl,rfl⟩));all_goals
   go_wp2_with fail;go_step3;go_step;go_step;exact dg.o _ _ ⟨0,_,_,_,_,_,_,_,_,_,_,_,_,_,_,_,_,_,_,_,_,_,_,_,_,_,_,_,_,_,_,_,_,_,_,_,_,_,_,_,_,_,_,_,_,_,_,_,_,_,_,_,_,_,_,_,_,_,_,_,_,_,_,_,_,_,_,_,_,_,_,_,_,_,_,_,_,_,_,_,_,_,_,_,_,_,_,_,_,_,_,rfl,Nat.zero_le _,⟨⟨0,[],nr _,by simp,BT _ _ _ _⟩,aH.size,by show _<(World.drew _).heap.size;simp⟩,⟨aO.B (by exact bL),aP.B (by exact bL)⟩,⟨_,_,_,_,_,_,_,_,_,(hR g _ _ _ rfl).B (by exact bL)⟩,hJ aH.o (by exact bL)⟩
end
def Ct (a b:List St):Bool:=a.length == b.length && (List.range a.length).all fun c=>Dg (a.getD c q2) (b.getD c q2)
def Fy (a c:List St):Bool:=(List.range a.length).all fun b=>DA (a.getD b q2) && DA (c.getD b q2)
def z1 (a b:List St):Int:=if Ct a b=false then 1 else if Fy a b=false then 5 else 0
theorem Br.form (h:Br w n v m):∃c a e b,v=.slice c a e/\a<=m/\b.length=a*9/\(c=none->a=0/\e=0)/\(∀k,c=some k->∀j f,b[j]?=some f->w.cell? (k.add j)=some f)/\(∀e∈b,e.oneCell'=true)/\w.ownsRow n 175 9 v a b:=by obtain⟨a,b,o,i,g⟩:=h;have d:=Fl.of_own g i;obtain⟨c,l,rfl⟩:=d.shape;exact⟨c,a,l,b,rfl,o,d.1,d.len.2.2.2,d.news,i,g⟩
theorem NN {a:List St} (h:Ct L a=true):L.length=a.length:=by unfold Ct at h;simp only[ba,beq_iff_eq]at h;exact h.1
theorem M8 {a:List St} (h:L.length=a.length):(∀b,b<L.length->Dg (L.getD b q2) (a.getD b q2)=true)↔Ct L a=true:=by unfold Ct;simp only[h,beq_self_eq_true,Bool.true_and,List.all_eq_true,List.mem_range]
theorem JG {b:List St}:(∀a,a<L.length->(DA (L.getD a q2) && DA (b.getD a q2))=true)↔Fy L b=true:=by unfold Fy;simp only[List.all_eq_true,List.mem_range]
theorem U7 {b:List St} (h:Ct L b=true) (c:n<L.length):(L.getD n q2).ls.length=(b.getD n q2).ls.length:=by have a:=(M8 (NN h)).2 h n c;unfold Dg at a;simp only[ba,beq_iff_eq]at a;exact a.2
theorem Vl (c e) (b a:List St) (g:b.length≠a.length) (w) (d:w8 w c b) (f:w8 w e a) :
 Calls prog 158 #[c,e,.func (.func 159) #[] #[]] w (RetB (.bool false) w):=by
 obtain⟨i,k,rfl⟩:=d.shape;obtain⟨m,l,rfl⟩:=f.shape;clear d f;have j:((b.length:Int) != (a.length:Int))=true:=by simp;omega
 clear g;go_enter func158,ntmps158;go_wp2_with fail;go_ret;exact⟨rfl,bR⟩
theorem LT (c e) (b a:List St) (g:Bool) (f:Hd (Ct b a=g)) (w) (i:w8 w c b) (j:w8 w e a) :
 Calls prog 158 #[c,e,.func (.func 159) #[] #[]] w (RetB (.bool g) w):=by
 have f:=f.o;subst f;by_cases d:b.length=a.length;·exact Yl c e b a _ d (M8 d) w i j
 ·have k:Ct b a=false:=by unfold Ct;simp[d]
  rw[k];exact Vl c e b a d w i j
def Z5 (c:Int) (d:Nat) (w:World) (e:Ending) (b:World):Prop:=∃a,e=.returned (.tuple #[a,iV c])/\Br b w.heap.size a d/\BW w b
theorem Br.nil (w) (b a:Nat):Br w b (sZ) a:=⟨0,[],Nat.zero_le _,by simp,BT _ _ _ _⟩
theorem Yn (a9:Int) (u v) (j r:List St) (L:Int) (O:Hd (z1 j r=L)) (bz:j.length<=1000) (aP:Hd (∀i,i<j.length->(j.getD i q2).ls.length<=1000)) (w) (ao:w8 w u j) (aa:w8 w v r) :
 Calls prog 116 #[iV a9,u,v] w (Z5 L (j.length*1001) w):=by
 have ad:=lh ao;have az:=lh aa;obtain⟨bw,b7,rfl⟩:=ao.shape;obtain⟨b6,bx,rfl⟩:=aa.shape;clear ao aa;cases m:Ct j r with
 | false =>
  have J:L=1:=by rw[<-O.o];unfold z1;rw[if_pos m]
  subst J;have I:=lh m;clear m O aP;go_enter func116,ntmps116;go_wp2_with fail;refine(LT _ _ j r _ I _ ad.o az.o).mono ?_;rintro _ br ⟨rfl,R⟩;have am:=lh R;clear R;go_wp2_with fail;go_ret2;exact⟨_,rfl,Br.nil _ _ _,am.o⟩
 | true =>
  have I:=lh m;have a6:=NN m;have mm:=lh a6;clear m a6;go_enter func116,ntmps116;go_wp2_with fail;refine(LT _ _ j r _ I _ ad.o az.o).mono ?_;rintro _ br ⟨rfl,R⟩;have am:=lh R;clear R;go_wp2_with fail;go_loopg [8,17] j.length (fun ak bh i wr=>∃k:Nat,k+ak=j.length/\i=iV k/\Hd (∀M,M<k->(DA (j.getD M q2) && DA (r.getD M q2))=true)/\Hd (Br wr w.heap.size bh (k*1001))/\Hd (BW w wr));case atStart=>exact⟨0,by omega,rfl,fun M af=>absurd af om,Br.nil _ _ _,am⟩
  case round =>
   obtain⟨k,ac,rfl,aK,aD,G⟩:=hrel;cases gk with
   | zero =>
    have aW:¬((k:Int)<j.length):=om;have J:L=0:=by rw[<-O.o];unfold z1;rw[if_neg (by rw[I.o];simp),if_neg (by rw[JG.1 (fun i aL=>aK.o i om)];simp)]
    subst J;have aY:k=j.length:=om;subst aY;clear ac;go_wp2_with fail;go_ret2;exact⟨_,rfl,aD.o,G.o⟩
   | succ ak =>
    have aW:(k:Int)<j.length:=om;have b9:(k:Int)<r.length:=oo mm.o;have b2:(0:Int)<=(k:Int):=om;obtain⟨b0,b3,aS,b4,rfl,⟨av,ah,ae,ai,au,Q,aj,a0,ag⟩,aE,X⟩:=(ad.B G.o).get (i:=k) om;obtain⟨b,d,c,b5,rfl,⟨x,A,t,y,B,D,aQ,aN,H⟩,Y,ay⟩:=az.get (i:=k) HH;have aU:=lh (An x (An A (An t (An y (An B (An D (An aQ (An aN H))))))));have Y:=Y.B G.o;have n:∀f l,w.cell? (Ad b f)=some l->wr.cell? (Ad b f)=some l:=fun f l h=>(G.cell (p:=(Ad b f)) (ht h)).trans h;replace x:=n _ _ x;replace A:=n _ _ A;replace t:=n _ _ t;replace y:=n _ _ y;replace B:=n _ _ B;replace D:=n _ _ D;replace aQ:=n _ _ aQ;replace aN:=n _ _ aN;replace H:=n _ _ H;clear n;have aI:=lh aE;have aH:=lh Y;obtain⟨jY,bQ,rfl,-⟩:=aE;obtain⟨ar,ax,rfl,-⟩:=Y;have P:Hd (aS.ls.length=c.ls.length/\aS.ls.length<=1000):=by rw[<-X.o,<-ay.o];exact⟨U7 I.o om,aP.o k om⟩
    have aw:=lh ac;clear ac;go_wp2_with fail;obtain⟨q,m⟩:=xg (DA aS);have T:=lh m;clear m;refine(OM aS _ q T _ (aI.B bL)).mono ?_;rintro _ dm ⟨rfl,bT⟩;refine CI ?_;intro cA jC;clear bT;have e:∀f l,wr.cell? (Ad b f)=some l->dm.cell? (Ad b f)=some l:=fun f l h=>(cA.cell (p:=(Ad b f)) (ht h)).trans h;replace x:=e _ _ x;replace A:=e _ _ A;replace t:=e _ _ t;replace y:=e _ _ y;replace B:=e _ _ B;replace D:=e _ _ D;replace aQ:=e _ _ aQ;replace aN:=e _ _ aN;replace H:=e _ _ H;clear e av ah ae ai au Q aj a0 ag;cases q with
    | false =>
     have J:L=5:=by
      rw[<-O.o];unfold z1;rw[if_neg (by rw[I.o];simp),if_pos ?_];cases K:Fy j r with
      | false=>rfl
      | true=>have:=JG.2 K k (oo aw.o);rw[X.o,T.o]at this;cases this
     subst J;go_wp2_with fail;go_ret2;exact⟨_,rfl,Br.nil _ _ _,hJ G.o cA.o⟩
    | true =>
     go_wp2_with fail;obtain⟨q,m⟩:=xg (DA c);have a1:=lh m;clear m;refine(OM c _ q a1 _ (aH.B cA.o)).mono ?_;rintro _ z ⟨rfl,W⟩;have C:Hd (BW wr z):=hJ cA.o W;have S:=lh (jC.B W);have e:∀f l,dm.cell? (Ad b f)=some l->z.cell? (Ad b f)=some l:=fun f l h=>(W.cell (p:=(Ad b f)) (ht h)).trans h;clear W;replace x:=e _ _ x;replace A:=e _ _ A;replace t:=e _ _ t;replace y:=e _ _ y;replace B:=e _ _ B;replace D:=e _ _ D;replace aQ:=e _ _ aQ;replace aN:=e _ _ aN;replace H:=e _ _ H;clear e;cases q with
     | false =>
      have J:L=5:=by
       rw[<-O.o];unfold z1;rw[if_neg (by rw[I.o];simp),if_pos ?_];cases K:Fy j r with
       | false=>rfl
       | true=>have:=JG.2 K k (oo aw.o);rw[X.o,ay.o,T.o,a1.o]at this;cases this
      subst J;go_wp2_with fail;go_ret2;exact⟨_,rfl,Br.nil _ _ _,hJ G.o C.o⟩
     | true =>
      obtain⟨av,ah,ae,ai,au,Q,aj,a0,ag,-⟩:=S.cS [0,1,2,3,4,5,6,7,8];have a7:Hd (∀a,hA a wr.heap.size 43 [iV aS.n,iV aS.fr,iV aS.til,iV aS.du,.slice jY aS.ls.length bQ,iV aS.tot,iV aS.cr,iV aS.mn,.bool aS.g]->BW w a->(Ce a wr.heap.size 0 (iV aS.n)/\Ce a wr.heap.size 1 (iV aS.fr)/\Ce a wr.heap.size 2 (iV aS.til)/\Ce a wr.heap.size 3 (iV aS.du)/\Ce a wr.heap.size 4 (.slice jY aS.ls.length bQ)/\Ce a wr.heap.size 5 (iV aS.tot)/\Ce a wr.heap.size 6 (iV aS.cr)/\Ce a wr.heap.size 7 (iV aS.mn)/\Ce a wr.heap.size 8 (.bool aS.g))/\(Ce a b (d+k*9) (iV c.n)/\Ce a b (d+k*9+1) (iV c.fr)/\Ce a b (d+k*9+2) (iV c.til)/\Ce a b (d+k*9+3) (iV c.du)/\Ce a b (d+k*9+4) (.slice ar c.ls.length ax)/\Ce a b (d+k*9+5) (iV c.tot)/\Ce a b (d+k*9+6) (iV c.cr)/\Ce a b (d+k*9+7) (iV c.mn)/\Ce a b (d+k*9+8) (.bool c.g))):=fun a q h =>
       have o:∀f l,w.cell? (Ad b f)=some l->Ce a b f l:=fun f l K=>(h.cell (p:=(Ad b f)) (ht K)).trans K;have s:=aU.o
       ⟨⟨q.cell 0,q.cell 1,q.cell 2,q.cell 3,q.cell 4,q.cell 5,q.cell 6,q.cell 7,q.cell 8⟩,o _ _ s.1,o _ _ s.2.1,o _ _ s.2.2.1,o _ _ s.2.2.2.1,o _ _ s.2.2.2.2.1,o _ _ s.2.2.2.2.2.1,o _ _ s.2.2.2.2.2.2.1,o _ _ s.2.2.2.2.2.2.2.1,o _ _ s.2.2.2.2.2.2.2.2⟩
      have a2:Hd (BW w z):=hJ G.o C.o;have Z:∀a,BW z a->(Ce a wr.heap.size 0 (iV aS.n)/\Ce a wr.heap.size 1 (iV aS.fr)/\Ce a wr.heap.size 2 (iV aS.til)/\Ce a wr.heap.size 3 (iV aS.du)/\Ce a wr.heap.size 4 (.slice jY aS.ls.length bQ)/\Ce a wr.heap.size 5 (iV aS.tot)/\Ce a wr.heap.size 6 (iV aS.cr)/\Ce a wr.heap.size 7 (iV aS.mn)/\Ce a wr.heap.size 8 (.bool aS.g))/\(Ce a b (d+k*9) (iV c.n)/\Ce a b (d+k*9+1) (iV c.fr)/\Ce a b (d+k*9+2) (iV c.til)/\Ce a b (d+k*9+3) (iV c.du)/\Ce a b (d+k*9+4) (.slice ar c.ls.length ax)/\Ce a b (d+k*9+5) (iV c.tot)/\Ce a b (d+k*9+6) (iV c.cr)/\Ce a b (d+k*9+7) (iV c.mn)/\Ce a b (d+k*9+8) (.bool c.g)):=fun a h=>a7.o a (S.B h) (hJ a2.o h);have be:=lh Z;have aZ:=Z z bR;have bc:=Z z.drew (hG bR);obtain⟨bj,an,bt,bu,rfl,aG,aT,bf,bp,aO,aM⟩:=aD.form;have V:=lh (An aG aO);have ab:=lh (ic aM C.o);have aJ:Hd (w.heap.size<=z.heap.size):=nt G.size C.size;clear Z aG aT bf bp aO aM av ah ae ai au Q aj a0 ag x A t y B D aQ aN H;obtain⟨a',aL,aX,bs,bm⟩:=info_parts H2;go_upto_region 9 with fail;go_region_held3 (fun g=>(g.cell? (Ad wr.heap.size 0)=some (iV aS.n)/\g.cell? (Ad wr.heap.size 1)=some (iV aS.fr)/\g.cell? (Ad wr.heap.size 2)=some (iV aS.til)/\g.cell? (Ad wr.heap.size 3)=some (iV aS.du)/\g.cell? (Ad wr.heap.size 4)=some (.slice jY aS.ls.length bQ)/\g.cell? (Ad wr.heap.size 5)=some (iV aS.tot)/\g.cell? (Ad wr.heap.size 6)=some (iV aS.cr)/\g.cell? (Ad wr.heap.size 7)=some (iV aS.mn)/\g.cell? (Ad wr.heap.size 8)=some (.bool aS.g))/\(g.cell? (Ad b (d+k*9))=some (iV c.n)/\g.cell? (Ad b (d+k*9+1))=some (iV c.fr)/\g.cell? (Ad b (d+k*9+2))=some (iV c.til)/\g.cell? (Ad b (d+k*9+3))=some (iV c.du)/\g.cell? (Ad b (d+k*9+4))=some (.slice ar c.ls.length ax)/\g.cell? (Ad b (d+k*9+5))=some (iV c.tot)/\g.cell? (Ad b (d+k*9+6))=some (iV c.cr)/\g.cell? (Ad b (d+k*9+7))=some (iV c.mn)/\g.cell? (Ad b (d+k*9+8))=some (.bool c.g))) (first | with_reducible exact aZ | with_reducible exact bc | with_reducible assumption | exact bd.o | exact bb.o)
       (first | (go_at_call 161;refine(UU a9 aS c _ _ P.1 P.2 _ (aI.B (by first | exact C.o | exact hG C.o)) (aH.B (by first | exact C.o | exact hG C.o))).mono ?_;rintro _ bv ⟨b8,rfl,a4,ea⟩;have F:Hd (BW z bv):=MR;have bd:=lh (be.o _ F.o);obtain⟨aV,aA,Q,bq,rfl,aF,aR,a3,aB,a5,bg⟩:=a4.form;have E:=lh (An aF (An aR (An a3 (An aB a5))));clear aF aR a3 aB a5 bg a4 ea) | (refine EF _ rfl (.tmp 33) (.tmp 40) 87 rfl w.heap.size 175 a' (.agg #[iZ,iZ,iZ,iZ,iZ,iZ,iZ,iZ,iZ]) 9 72 underlying87 aL aX bs bm rfl Iv (.slice bj an bt) an bu JF (ic ab.o F.o) aV aA Q bq JF E.2.1 E.2.2.1 E.2.2.2.1 E.2.2.2.2 (by have:=V.1;have:=E.1;have:=P.2;unfold maxLen;omega) (o3 V.1 E.1 P.2) (nt aJ.o F.size) ?_;intro b1 aC a8 al bl;clear bl;have bo:=lh a8;have HB6:Hd (BW w aC):=Below.grown (hJ a2.o F.o) al (nt aJ.o F.size) (fun q m=>(ab.lt q m).1);have bb:=lh (a7.o aC (p7 (S.B F.o) al (hh (ic ab.o F.o) (S.B F.o) Iv)) HB6.o);clear a8 al))
      go_wp2_with fail;go_roundg ak;case measure=>omega
      case rel=>exact⟨k+1,oo aw.o,by go_num,fun M af=>by
       rcases Nat.lt_succ_iff_lt_or_eq.1 af with bi | rfl;·exact aK.o M bi
       ·rw[X.o,ay.o,T.o,a1.o];rfl,⟨an+aA,_,o3 V.1 E.1 P.2,Fb V.2 E.2.2.2.2,bo.o⟩,HB6⟩
structure i0 where
 t:Tm
 today:Int
 seq:Int
 ev:List R5
 bk:Bk
 R:Rn
 iss:List St
variable {A:i0}
structure AV where
 tv:Value
 gl:Nat
 ltv:Value
 lev:Value
 gb:Nat
 dv:Value
 pv:Value
 rv:Value
 nv:Value
 nvs:List Value
 iv:Value
 ivs:List Value
 av:Value
variable {I:AV}
def BI (a:i0) (b:AV):List Value :=
 [iV a.t.lim,b.tv,iV a.t.cyc,iV a.t.dued,iV a.t.minf,iV a.t.minp,iV a.t.start,iV a.today,iV a.seq,pV b.gl,pV b.gb,b.pv,iV a.R.p.c,iV a.R.p.d,b.rv,b.nv,b.iv,b.av]
def EG (b:i0) (a:AV) (c:World):Prop :=
 h7 c a.tv b.t.ts/\qq c a.gl b.t a.ltv a.lev b.ev/\m1 c 0 a.gb a.dv b.bk/\Sl .i64 c a.pv b.R.p.bs/\Sl .i64 c a.rv b.R.rs/\s4 c a.nv b.R.o a.nvs/\h9 c b.iss a.ivs
structure i2 (lo g:Nat) (A:i0) (F:List Nat) (w:World) (V:AV):Prop where
 blk:hA w g 89 (BI A V)
 gF:g∈F
 lt:∀x∈F,lo<=x/\x<w.heap.size
 rd:Rd F w (EG A V)
 iss:w.ownsRow lo 43 9 V.iv A.iss.length (n1 A.iss V.ivs)
 issF:∀q,V.iv.ownBlock=some q->q∈F
 adj:∃n cs,n<=A.seq.toNat*400000/\(∀c∈cs,c.oneCell'=true)/\w.ownsRow lo 175 9 V.av n cs
 adjF:∀q,V.av.ownBlock=some q->q∈F
theorem i2.B (h:i2 n m A F w I) (a:BW w W):i2 n m A F W I:=
 ⟨h.blk.B a,h.gF,fun c b=>⟨(h.lt c b).1,Nat.lt_of_lt_of_le (h.lt c b).2 a.size⟩,h.rd.B a (fun c b=>.inl b),ic h.iss a,h.issF,(by
  obtain⟨d,f,g,e,i⟩:=h.adj
  exact⟨d,f,g,e,ic i a⟩),h.adjF⟩
theorem SX (c b a:Int):0<=(tt c b a).1/\(tt c b a).1<=300:=by
 unfold tt;split;·exact⟨Int.le_refl _,by omega⟩
 ·split;·have:=H6 b a 300 c;exact⟨by omega,by show(((p6 b a 300 c).1.length:Nat):Int)<=300;omega⟩
  ·exact⟨Int.le_refl _,by omega⟩
theorem Jf (u c:Nat) (a:i0) (p:List Nat) (s:AV) (d i:Int) (e:Hd ((tt a.t.start a.t.cyc d).1=i)) (w:World) (h:i2 u c a p w s) :
 Calls prog 40 #[pV c,iV d] w (RetB (iV i) w):=by
 have k:=lh h.blk;obtain⟨q,f⟩:=xg (tt a.t.start a.t.cyc d);have m:=lh f;rw[f]at e;have e:=e.o;subst e;clear h f;have g:Hd (∀b,BW w b->Ce b c 6 (iV a.t.start)/\Ce b c 2 (iV a.t.cyc)):=fun b j=>⟨(k.B j).cell 6,(k.B j).cell 2⟩;have n:=g.o w bR;have o:=g.o w.drew (hG bR);go_enter func40,ntmps40;go_upto_region 1 with fail;go_region_held3 (fun b=>Ce b c 6 (iV a.t.start)/\Ce b c 2 (iV a.t.cyc)) (first | with_reducible exact n | with_reducible exact o | exact r.o) (first | (go_at_call 63;refine(ID a.t.start a.t.cyc d q m _).mono ?_;rintro _ t ⟨rfl,ea⟩;have l:Hd (BW w t):=MR;have r:=lh (g.o _ l.o);clear ea));go_wp2_with fail;go_ret;exact⟨rfl,l.o⟩
def tc (a:i0) (b:Int):Prop:=24<(tt a.t.start a.t.cyc a.today).1-(tt a.t.start a.t.cyc b).1
theorem Mf (o c:Nat) (a:i0) (l:List Nat) (n:AV) (b:Int) (d:Bool) (r:Hd (d=true↔tc a b)) (w:World) (h:i2 o c a l w n) :
 Calls prog 112 #[pV c,iV b] w (RetB (.bool d) w):=by
 have p:=lh h;have B:w.cell? (Ad c 7)=some (iV a.today):=h.blk.cell 7;obtain⟨g,i⟩:=xg ((tt a.t.start a.t.cyc a.today).1);obtain⟨q,e⟩:=xg ((tt a.t.start a.t.cyc b).1);have k:=SX a.t.start a.t.cyc a.today;have j:=SX a.t.start a.t.cyc b;rw[i]at k;rw[e]at j;obtain⟨k,C⟩:=k;obtain⟨j,E⟩:=j;have z:=lh i;have u:=lh e;have t:d=decide (24<g-q):=by
  have f:=r.o;unfold tc at f;rw[i,e]at f;cases d with
  | true=>symm;simpa using f
  | false=>symm;simpa using f
 subst t;clear h i e r;go_enter func112,ntmps112;go_wp2_with fail;refine(Jf o c a l n a.today g z _ p.o).mono ?_;rintro _ A ⟨rfl,m⟩;have x:=lh m;have v:=lh (p.o.B m);clear m;go_wp2_with fail;refine(Jf o c a l n b q u _ v.o).mono ?_;rintro _ D ⟨rfl,s⟩;have y:=lh (hJ x.o s);clear s;go_wp2_with fail;go_ret;exact⟨rfl,y.o⟩
theorem Zj (l d:Nat) (c:i0) (k:List Nat) (j:AV) (b:Int) (a:Bool) (e:Hd (a=true↔1<=b/\b<=(c.t.ts.length:Int))) (w:World) (h:i2 l d c k w j) :
 Calls prog 110 #[pV d,iV b] w (RetB (.bool a) w):=by
 have m:w.cell? (Ad d 1)=some j.tv:=h.blk.cell 1;obtain⟨n,o,f⟩:=h.rd.now.1.shape;rw[f]at m;clear h f;by_cases i:1<=b
 ·by_cases g:b<=(c.t.ts.length:Int);·obtain rfl:a=true:=e.o.2 ⟨i,g⟩;exact O2
  ·obtain rfl:a=false:=by
    cases a with
    | false=>rfl
    | true=>exact absurd (e.o.1 rfl).2 g
   exact O2
 ·obtain rfl:a=false:=by
   cases a with
   | false=>rfl
   | true=>exact absurd (e.o.1 rfl).1 i
  exact O2
def C2 (a:Int):Bool:=decide (1<=a) && decide (a<=8)
theorem PV (a:R5) (w):Calls prog 37 #[.agg #[iV a.a,iV a.b,iV a.c,iV a.d,iV a.e]] w (RetB (.bool (C2 a.a)) w):=by
 obtain⟨b,f,a,e,g⟩:=a;simp only;by_cases d:1<=b
 ·by_cases c:b<=8
  ·have cH:C2 b=true:=by simp[C2,d,c]
   exact JM
  ·have cH:C2 b=false:=by simp[C2,c]
   exact JM
 ·have cH:C2 b=false:=by simp[C2,d]
  exact JM
def t3 (c:Value):Prop:=∃a d b,c=.slice a d b
def Cc (x:Int) (i:Value):Prop:=∃(f g p o:Int) (c:Value) (m e:Int) (a b:Value) (n r j k u:Int) (d:Value) (t s v:Int) (l:Bool),
 i=.agg #[iV x,iV f,iV g,iV p,iV o,c,iV m,iV e,a,b,iV n,iV r,iV j,iV k,iV u,d,iV t,iV s,iV v,.bool l]/\t3 c/\t3 a/\t3 b/\t3 d
def z2 (a:Int):Value:=.agg #[iV a,iZ,iZ,iZ,iZ,sZ,iZ,iZ,sZ,sZ,iZ,iZ,iZ,iZ,iZ,sZ,iZ,iZ,iZ,.bool false]
theorem EX (a:Int):Cc a (z2 a):=⟨0,0,0,0,_,0,0,_,_,0,0,0,0,0,_,0,0,0,false,rfl,⟨_,_,_,rfl⟩,⟨_,_,_,rfl⟩,⟨_,_,_,rfl⟩,⟨_,_,_,rfl⟩⟩
theorem En:(prog.info? 45).map (·.size)=some 20:=by kernel_rfl
def R8 (v c d n m:Int) (j:Value) (k a:Int) (b i:Value) (l o e f s:Int) (u:Value) (r p t:Int) (g:Bool):Array Value :=
 #[iV v,iV c,iV d,iV n,iV m,j,iV k,iV a,b,i,iV l,iV o,iV e,iV f,iV s,u,iV r,iV p,iV t,.bool g]
theorem HC {l b:Int} {m n g i s:Int} {a:Value} {r p t:Int} (k:t3 v) (e:t3 u) (o:t3 V) (j:t3 a):(R8 c d f y z v l b u V m n g i s a r p t D).all (·.oneCell')=true:=by obtain⟨_,_,_,rfl⟩:=k;obtain⟨_,_,_,rfl⟩:=e;obtain⟨_,_,_,rfl⟩:=o;obtain⟨_,_,_,rfl⟩:=j;simp[R8,Value.oneCell']
theorem BD {g:Array Oper} {rest:List Oper} (k:O.guard=none) (e f:Operand) (n:O.op=.store 45 e f)
 (j:O.dst=none) (c:Nat) (b:Array Value) (r:a.eval e=pV c) (o:a.eval f=.agg b) (d:Array Value) (l:w.heap[c]?=some (.cells d 45 (0,0))) (i:b.size=20) (p:d.size=20)
 (m:b.all (·.oneCell')=true) (h:wpList prog g Q rest a (w.setRow c b)):wpList prog g Q (O::rest) a w:=
 wpList_store_rowTo k 45 e f n j c b r o 45 d l (by rw[En,i]) (by rw[i,p]) m h
theorem Sb (w:World) (b a:Nat) (c:Array Value) (h:a≠b):(w.setRow b c).heap[a]?=w.heap[a]?:=by unfold World.setRow;simp only;rw[Array.getElem?_modify,if_neg (fun d=>h d.symm)]
theorem Bd (h:Below n W w) (d:n<=m) (a:Array Value):Below n W (w.setRow m a):=
 h.trans ⟨rfl,rfl,rfl,by rw[size_setRow];exact nr _,fun b c=>Sb w m b a om⟩
theorem EC (a:Option Addr) (c b:Nat):t3 (.slice a c b):=⟨_,_,_,rfl⟩
theorem EY (b:Int) (w:World):Calls prog 34 #[iV b] w (RetB (z2 b) w):=by
 go_enter func34,ntmps34;go_upto_region 1 with fail;obtain⟨a,c,d,e⟩:∃a,w.alloc (.cells zA.toArray 45)=a/\Hd (a.heap[w.heap.size]?=some (.cells zA.toArray 45 (0,0)))/\Hd (BW w a):=⟨_,rfl,heap_alloc_new w _,hB bR _⟩;with_reducible rw[c]
 clear c
 go_wp2_with (with_reducible refine BD rfl (.tmp 2) (.tmp 4) rfl rfl w.heap.size _ rfl rfl _ d.o rfl rfl IA ?_)
 refine bodyPost_ret (v:=z2 b) (results_cell_row (p:=2) (ty:=45) rfl _ _ w.heap.size 45 _ (0,0) _ rfl (setRow_heap _ _ _ _ _ _ d.o) underlying45 rfl RQ) rfl ⟨rfl,Bd e.o (nr _) _⟩
theorem m1.rd {b:Bk} (h:m1 w n m v b) (e:m∉F) (d:∀q,v.ownBlock=some q->q∉F):Rd F w (fun c=>m1 c 0 m v b):= fun c a =>
 ⟨Nat.zero_le _,h.2.1.keep a e,B1 (p1 h.2.2 a d) (Nat.zero_le _)⟩
theorem qq.rd {a:Tm} (h:qq w n a v u l) (d:n∉F) (c:hL F v) (e:hL F u):Rd F w (fun f=>qq f n a v u l):= fun _ b=>h.keep b d c e
theorem VN {g:Obj} {a:Tm} {j:Bk} (i:h7 W v a.ts) (b:qq W n a u (sZ) []) (d:m1 W k m V j) :
 Rd [W.heap.size] (W.alloc g) (fun f=>h7 f v a.ts/\qq f n a u (sZ) []/\m1 f 0 m V j):=by
 have c:BW W (W.alloc g):=hB bR _;have p:=b.1.lt;have r:=d.2.1.lt;refine((h7.rd (F:=[W.heap.size]) (i.B c) (Fl.offNew i.fl om (fun l e=>by simp only[ms]at e;omega))).and
  ((qq.rd (F:=[W.heap.size]) (b.B c) Ic (Fl.offNew b.2.1.fl om (fun l e=>by simp only[ms]at e;omega)) (hL.nil _ _ _)).and
  (m1.rd (F:=[W.heap.size]) (d.B c) Ic (fun q o=>by simp only[ms];have:=(d.2.2.lt q o).2;omega))))
def GO (a:Nat) (b:AV):Prop:=Hi a b.tv/\a<=b.gl/\Hi a b.ltv/\Hi a b.lev/\a<=b.gb/\(∀q,b.dv.ownBlock=some q->a<=q)/\Hi a b.pv/\Hi a b.rv/\Hi a b.nv/\(∀c∈b.nvs,Hi a c)/\∀c∈b.ivs,Hi a c
def WQ (c:Tm) (f:Rn) (w:World) (g:Ending) (b:World):Prop :=
 ∃a e d,g=.returned (.tuple #[pV a,iZ])/\i2 w.heap.size a ⟨c,c.start,0,[],⟨[],0⟩,f,[]⟩ e b d/\GO w.heap.size d/\BW w b
theorem SN (a:Tm) (am) (t:a.right=true) (e:Rn) (bp:Hd (h6 a [] a.start=e)) (aI:Hd (e.e=0)) (w) (s:h7 w am a.ts) :
 Calls prog 8 #[.agg (a.cells am).toArray] w (WQ a e w):=by
 have aA:=lh s;obtain⟨bg,aL,rfl⟩:=s.shape;have aC:Hd (1<=a.ts.length/\a.ts.length<=1000):=by have aE:=CT t;show _/\_;omega
 have aR:Hd ((if hu a.lim a.ts a.cyc a.dued a.minf a.minp a.start=true then 0 else 6)=(0:Int)):=by show _=_;unfold Tm.right at t;rw[if_pos t]
 have bf:=lh t;clear s t;unfold Tm.cells;go_enter func8,ntmps8;go_wp2_with fail;refine(Cy _ a.ts a.lim a.cyc a.dued a.minf a.minp a.start 0 aR _ (aA.B bL)).mono ?_;rintro _ aB ⟨rfl,ak⟩;have af:Hd (BW w aB):=hJ (hB bR _) ak;have K:Hd (hA aB w.heap.size 24 [iV a.lim,.slice bg a.ts.length aL,iV a.cyc,iV a.dued,iV a.minf,iV a.minp,iV a.start]):=(hR w _ _ _ rfl).B ak;clear ak;have o:=K.cell 1;simp only[gz,gs]at o;have x:=K.lt;go_wp2_with fail;refine(Pj _ a.ts _ (aA.B af.o) (oo aC.2)).mono ?_;rintro _ aH ⟨u,rfl,y,ay,ac⟩;obtain⟨m,a7,rfl⟩:=y.shape;have bo:=lh y;have ax:=lh ay;have aY:Hd (BW w aH):=hJ af.o ac;have P:=lh (K.B ac);clear y ay ac o x;have o:=P.cell 1;simp only[gz,gs]at o;have aP:=P.frozen 1;have x:=P.lt;go_upto_region 5 with fail;obtain⟨ab,a8,a2,ad,ae⟩:∃ab,aH.setCell (Ad w.heap.size 1) (.slice m a.ts.length a7)=ab/\Hd (hA ab w.heap.size 24 [iV a.lim,.slice m a.ts.length a7,iV a.cyc,iV a.dued,iV a.minf,iV a.minp,iV a.start])/\Hd (h7 ab (.slice m a.ts.length a7) a.ts)/\Hd (BW w ab):=by refine⟨_,rfl,P.set 1 _,bo.keep (F:=[w.heap.size]) ((hC.refl _ _).sg _) (fun b S n X Z aj aZ=>?_),k1 aY.o (nr _)⟩;have aE:=ax.o b S n X Z aj;have bb:=K.lt;simp only[ms]at aZ;omega
 with_reducible rw[a8]
 clear a8 o aP x;have b2:Hd (∀d,BW ab d->Ce d w.heap.size 0 (iV a.lim)/\Ce d w.heap.size 1 (.slice m a.ts.length a7)/\Ce d w.heap.size 2 (iV a.cyc)/\Ce d w.heap.size 3 (iV a.dued)/\Ce d w.heap.size 4 (iV a.minf)/\Ce d w.heap.size 5 (iV a.minp)/\Ce d w.heap.size 6 (iV a.start)):=fun d aJ=>by have q:=a2.B aJ;exact⟨q.cell 0,q.cell 1,q.cell 2,q.cell 3,q.cell 4,q.cell 5,q.cell 6⟩
 have az:=b2.o ab.drew (hG bR);go_cut [5] (fun bj T=>∃c aD l p r,bj=pV c/\Hd (hA T c 89 [iV a.lim,.slice m a.ts.length a7,iV a.cyc,iV a.dued,iV a.minf,iV a.minp,iV a.start,iV a.start,iZ,pV aD,pV l,sZ,iZ,iZ,sZ,sZ,sZ,sZ])/\Hd (ab.heap.size<=c)/\Hd (Rd [c] T (fun D=>h7 D (.slice m a.ts.length a7) a.ts/\qq D aD a p (sZ) []/\m1 D 0 l r ⟨[],0⟩))/\Hd (ab.heap.size<=aD/\Hi ab.heap.size p)/\Hd (ab.heap.size<=l/\∀q,r.ownBlock=some q->ab.heap.size<=q)/\Hd (BW ab T));case first =>
  go_region_held3 (fun d=>Ce d w.heap.size 0 (iV a.lim)/\Ce d w.heap.size 1 (.slice m a.ts.length a7)/\Ce d w.heap.size 2 (iV a.cyc)/\Ce d w.heap.size 3 (iV a.dued)/\Ce d w.heap.size 4 (iV a.minf)/\Ce d w.heap.size 5 (iV a.minp)/\Ce d w.heap.size 6 (iV a.start)) (first | with_reducible exact az | with_reducible assumption | exact aU | exact bd | (exact b2.o _ (hB z.o _)) | (exact b2.o _ (hB g.o _)))
   (first | (go_at_call 29;refine(TP a _ _ (ad.B (by first | exact hG bR | exact g.o)) (oo aC.2)).mono ?_;rintro _ aw ⟨aD,p,rfl,a6,Y,W,L⟩;have aT:=lh a6;have G:Hd (ab.heap.size<=aD/\Hi ab.heap.size p):=(by first | exact⟨nt g.o.size Y,Hi.of_fr W g.o.size⟩ | exact⟨Y,Hi.of_fr W (nr _)⟩);have bw:=lh L;have z:Hd (BW ab aw):=(by first | exact hJ (hG bR) L | exact hJ g.o L);have aU:=b2.o aw z.o;clear a6 Y W L) | (go_at_call 30;refine(Vx _).mono ?_;rintro _ E ⟨l,r,rfl,B,R⟩;have H:Hd (ab.heap.size<=l/\∀q,r.ownBlock=some q->ab.heap.size<=q):=(by have ar:=B.2.2.lt;first | exact⟨nt z.o.size B.1,fun q ah=>nt z.o.size (ar q ah).1⟩ | exact⟨B.1,fun q ah=>(ar q ah).1⟩);have bc:=lh B;have aO:=lh R;have g:Hd (BW ab E):=(by first | exact hJ (hG bR) R | exact hJ z.o R);have bd:=b2.o E g.o;clear B R))
  ·go_wp2_with fail;go_meet;case rel=>exact⟨E.heap.size,aD,l,p,r,rfl,hR E _ _ _ rfl,g.o.size,VN (ad.B g.o) (aT.B aO.o) bc.o,G,H,hB g.o _⟩
 case rest =>
  clear az;obtain⟨c,aD,l,p,r,rfl,a1,aX,aV,G,H,Q⟩:=hcut;have a9:=lh (a2.B Q.o);obtain⟨bl,o,aN,aW,bi,bm,a',-⟩:=a9.cS [0,1,2,3,4,5,6];have x:=a9.lt;go_wp2_with fail;refine(E5 a _ (sZ) [] a.start ⟨bf.o,by simp,by simp,by simp⟩ (fun i j _ h=>absurd h Is) e bp _ (ad.B Q.o) h4.nil).mono ?_;rintro _ O ⟨b3,bz,b9,aM,rfl,ag,ai,V,⟨a5,an,aG,ao⟩,I⟩;obtain⟨a4,aF,rfl⟩:=ag.shape;obtain⟨av,au,rfl⟩:=ai.shape;obtain⟨a0,al,rfl⟩:=V.2.shape;have br:=lh ag;have bs:=lh ai;have aK:=lh V;have k:=lh (An a5 (An an (An aG ao)));have C:=lh (a1.B I);have be:=lh (aV.B I (fun A f=>.inl f));have a3:Hd (BW w O):=hJ (hJ ae.o Q.o) I;have aQ:Hd (c<wc.heap.size):=a1.lt;clear ag ai V a5 an aG ao I bl o aN aW bi bm a' x;obtain⟨b6,b1,b8,bu,b7,-⟩:=C.cS [11,12,13,14,15];obtain⟨b4,bv,bA,b5,bx,-⟩:=C.fs [11,12,13,14,15];have bt:=C.lt;have bq:=aI.o;rw[bq];go_wp2_with fail;go_ret2;have aa:hC [c] O (((((O.setCell (Ad c 11) (.slice a4 e.p.bs.length aF)).setCell (Ad c 12) (iV e.p.c)).setCell (Ad c 13) (iV e.p.d)).setCell (Ad c 14) (.slice av e.rs.length au)).setCell (Ad c 15) (.slice a0 e.o.length al)):=(((((hC.refl _ _).sg _).sg _).sg _).sg _).sg _;have J:∀A∈[c],A<wc.heap.size:=fun A f=>by simp only[ms]at f;have:=aQ.o;omega
  have aS:hT [c] O [c] _:=⟨aa,fun _ f=>.inl f⟩;have bh:=aS.rd (be.and ((br.rd (k.1.off J)).and ((bs.rd (k.2.1.off J)).and (aK.rd (k.2.2.1.off J) (fun u y=>(k.2.2.2 u y).off J)))));have hge:w.heap.size<=c:=by have aE:=aX.o;have bb:=ae.size;omega
  have b0:=ae.size;have M:w.heap.size<=wc.heap.size:=nt b0 Q.size;refine⟨c,[c],⟨.slice m a.ts.length a7,aD,p,sZ,l,r,.slice a4 e.p.bs.length aF,.slice av e.rs.length au,.slice a0 e.o.length al,aM,sZ,[],sZ⟩,rfl,⟨((((C.set 11 _).set 12 _).set 13 _).set 14 _).set 15 _,ms.2 rfl,fun A f=>?_,bh.imp fun D q=>⟨q.1.1,q.1.2.1,q.1.2.2,q.2.1,q.2.2.1,q.2.2.2,trivial⟩,BT _ _ _ _,(fun q ah=>by cases ah),⟨0,[],Nat.zero_le _,by simp,BT _ _ _ _⟩,(fun q ah=>by cases ah)⟩,⟨Hi.of_fr ax.o af.size,nt b0 G.1,fun b S n X Z aj=>nt b0 (G.2 b S n X Z aj),Hi.nil _ _ _,nt b0 H.1,fun q ah=>nt b0 (H.2 q ah),Hi.of_fr k.1 M,Hi.of_fr k.2.1 M,Hi.of_fr k.2.2.1 M,fun v s=>Hi.of_fr (k.2.2.2 v s) M,fun v s=>by cases s⟩,?_⟩;·simp only[ms]at f;subst f;exact⟨hge,Nat.lt_of_lt_of_le C.lt aa.size⟩
  ·exact a3.trans (aa.to_below a3.size (fun A f=>by simp only[ms]at f;omega))
structure t0 (A:i0):Prop where
 goods:Cl A.t A.ev A.today
 asc:Asc A.ev
 run:h6 A.t A.ev A.today=A.R
 e:A.R.e=0
 issl:A.iss.length=A.R.o.length
 issb:∀i,i<A.iss.length->(A.iss.getD i q2).ls.length<=1000
 outl:A.R.o.length<=300
 outb:∀i,i<A.R.o.length->(A.R.o.getD i q2).ls.length<=1000
 bs:A.R.p.bs.length=A.t.ts.length
 rs:A.R.rs.length=A.t.ts.length
 seq:0<=A.seq
 bkd:∀d∈A.bk.ds,d.c<=A.today
 bkl:A.bk.ds.length<=2000
def s1 (a:i0) (b:R5):List R5:=n4 a.ev (BX b.b a.ev a.ev.length) b
noncomputable def xc (a:i0) (b:R5):i0×Int :=
 if a.t.rightE b≠0 then (a,a.t.rightE b)
 else if 2000<=a.ev.length then (a,14)
 else if (h6 a.t (s1 a b) a.today).e≠0 then (a,(h6 a.t (s1 a b) a.today).e)
 else if z1 a.R.o (h6 a.t (s1 a b) a.today).o≠0 then (a,z1 a.R.o (h6 a.t (s1 a b) a.today).o)
 else ({ a with ev:=s1 a b,R:=h6 a.t (s1 a b) a.today,seq:=a.seq+1 },0)
theorem Jz (b:Int) (c:List R5) (a:Nat):BX b c a<=a:=by
 induction a with
 | zero=>exact nr _
 | succ e d =>
  unfold BX;split;·omega
  ·exact nr _
theorem XG (b:Int) (e:List R5) (c:Nat):(∀a,BX b e c<=a->a<c->b<(e.getD a Sk).b)/\(0<BX b e c->(e.getD (BX b e c-1) Sk).b<=b):=by
 induction c with
 | zero=>exact⟨fun a f d=>absurd d om,fun h=>absurd h (by simp[BX])⟩
 | succ j g =>
  unfold BX;split
  ·rename_i h;refine⟨fun a f d=>?_,g.2⟩;rcases Nat.lt_succ_iff_lt_or_eq.1 d with i | rfl;·exact g.1 a f i
   ·exact h
  ·rename_i h;exact⟨fun a f d=>absurd d om,fun _=>by simpa using Int.not_lt.1 h⟩
theorem PW (d:List R5) (a b:Nat) (g:R5) (f:a<=d.length):(n4 d a g).getD b Sk=if b<a then d.getD b Sk else if b=a then g else d.getD (b-1) Sk:=by
 unfold n4;simp only[List.getD];by_cases e:b<a;·rw[if_pos e,List.append_assoc,List.getElem?_append_left (by rw[List.length_take];omega),List.getElem?_take_of_lt e]
 ·rw[if_neg e];by_cases i:b=a;·subst i;rw[if_pos rfl,List.append_assoc,List.getElem?_append_right (by rw[List.length_take];omega),List.length_take,Nat.min_eq_left f,Nat.sub_self];simp
  ·rw[if_neg i,List.append_assoc,List.getElem?_append_right (by rw[List.length_take];omega),List.length_take,Nat.min_eq_left f];obtain⟨c,rfl⟩:∃c,b=a+1+c:=⟨b-a-1,by omega⟩;have j:a+1+c-a=c+1:=om;have k:a+1+c-1=a+c:=om;rw[j,k];simp
theorem Sj (h:Asc l) (c:R5):Asc (n4 l (BX c.b l l.length) c):=by
 have e:=Jz c.b l l.length;obtain⟨o,j⟩:=XG c.b l l.length;generalize BX c.b l l.length=p at *;have n:∀a,a<p->(l.getD a Sk).b<=c.b:=fun a r=>Int.le_trans (h a (p-1) om om) (j om);intro a b m k;rw[FS _ _ _ e]at k;rw[PW _ _ _ _ e,PW _ _ _ _ e];by_cases f:a<p
 ·rw[if_pos f];by_cases g:b<p;·rw[if_pos g];exact h a b m om
  ·rw[if_neg g];by_cases d:b=p;·rw[if_pos d];exact n a f
   ·rw[if_neg d];exact h a (b-1) om om
 ·rw[if_neg f,if_neg (show ¬b<p by omega)];by_cases i:a=p
  ·rw[if_pos i];by_cases d:b=p;·rw[if_pos d];exact Int.le_refl _
   ·rw[if_neg d];exact Int.le_of_lt (o (b-1) om om)
  ·rw[if_neg i,if_neg (show ¬b=p by omega)];exact h (a-1) (b-1) om om
theorem PF {a:R5} (h:a∈n4 l n E):a=E\/a∈l:=by
 unfold n4 at h;simp only[ma,ms]at h;rcases h with(h | h) | h;·exact .inr (List.mem_of_mem_take h)
 ·exact .inl h
 ·exact .inr (List.mem_of_mem_drop h)
theorem O5 (h:t0 A) (e:A.t.rightE E=0) (d:E.b<=A.today) (f:A.ev.length<2000):Cl A.t (s1 A E) A.today:=
 ⟨h.goods.terms,fun a b=>(PF b).elim (fun c=>c▸e) (h.goods.events a),fun a b=>(PF b).elim (fun c=>c▸d) (h.goods.late a),by
  unfold s1;rw[FS _ _ _ (Jz _ _ _)];omega⟩
section
variable {P:Program} {w:World}
theorem Lf {o:Oper} {n:Act} {C:Act->World->Prop} {G:Exit->Act->World->Prop} (z y:Operand) (l:TypeId)
 (eD:o.op=.call { callee:=.builtin .append,args:=#[z,y],argTypes:=#[l,l] })
 (i:Nat) (g:TypeId) (f:TypeInfo) (v:Value) (a B:Nat) (D:P.underlying l=some (.slice g)) (F:P.info? g=some f) (M:f.zero=some v)
 (H:f.size=a) (Q:f.bytes=B) (T:v.cells.size=a) (O:0<a)
 (b) (d:Nat) (s:List Value) (ck:n.eval z=b) (u:w.ownsRow i g a b d s)
 (r:Option Addr) (c A:Nat) (e:List Value) (aj:n.eval y=.slice r c A) (cx:e.length=c*a) (I:r=none->c=0/\A=0) (R:∀j,r=some j->∀E t,e[E]?=some t->w.cell? (j.add E)=some t) (K:∀t∈e,t.oneCell'=true)
 (L:d+c<=maxLen) (S:(d+c)*B<=140737488355328) (J:i<=w.heap.size)
 (h:∀m x,x.ownsRow i g a m (d+c) (s++e)->w.grownBy x b.ownBlock->(m.ownBlock=b.ownBlock\/m.ownBlock=some w.heap.size)->C (n.put o.dst m) x):o.wp P n w C G:=by
 cases r with
 | some j=>exact LI w z y l eD i g f v a B D F M H Q T O b d s ck u j c A e aj cx (R j rfl) K L S J h
 | none=>obtain⟨rfl,rfl⟩:=I rfl;obtain rfl:e=[]:=List.eq_nil_of_length_eq_zero Hw;have a9:=run_append_owned_none (P:=P) w i l o.type g f a D F b d s u;refine Lx ?_;show _;exact h b w (ss u) (World.grownBy.refl _ _) (.inl rfl)
theorem RC {B:Array Oper} {rest:List Oper} {l:Oper} {k:Act} {y:Exit->Act->World->Prop} (C:l.guard=none) (u s:Operand) (p:TypeId)
 (R:l.op=.call { callee:=.builtin .append,args:=#[u,s],argTypes:=#[p,p] })
 (m:Nat) (j:TypeId) (i:TypeInfo) (r:Value) (a x:Nat) (G:P.underlying p=some (.slice j)) (Z:P.info? j=some i) (O:i.zero=some r)
 (E:i.size=a) (S:i.bytes=x) (ab:r.cells.size=a) (Q:0<a)
 (e) (f:Nat) (t:List Value) (Y:k.eval u=e) (D:w.ownsRow m j a e f t)
 (n:Option Addr) (b v:Nat) (g:List Value) (aa:k.eval s=.slice n b v) (T:g.length=b*a) (H:n=none->b=0/\v=0) (V:∀A,n=some A->∀z o,g[z]?=some o->w.cell? (A.add z)=some o) (K:∀o∈g,o.oneCell'=true)
 (M:f+b<=maxLen) (W:(f+b)*x<=140737488355328) (I:m<=w.heap.size)
 (h:∀c d,d.ownsRow m j a c (f+b) (t++g)->w.grownBy d e.ownBlock->(c.ownBlock=e.ownBlock\/c.ownBlock=some w.heap.size)->wpList P B y rest (k.put l.dst c) d):wpList P B y (l::rest) k w :=
 wpList_plain C fun _ L=>Lf u s p R m j i r a x G Z O E S ab Q e f t Y D n b v g aa T H V K M W I fun c d F X J=>L _ _ (h c d F X J)
theorem Cp {l3:Array Oper} {ae:Oper} {aB:Act} {y:Act->World->Prop} {C:Exit->Act->World->Prop} {Q:Prop} (nN:ae.guard=none) (u s:Operand) (n:TypeId)
 (L:ae.op=.call { callee:=.builtin .append,args:=#[u,s],argTypes:=#[n,n] })
 (j:Nat) (g:TypeId) (f:TypeInfo) (o:Value) (a x:Nat) (E:P.underlying n=some (.slice g)) (V:P.info? g=some f) (J:f.zero=some o)
 (D:f.size=a) (M:f.bytes=x) (X:o.cells.size=a) (K:0<a)
 (c) (d:Nat) (t:List Value) (T:aB.eval u=c) (B:w.ownsRow j g a c d t)
 (l:Option Addr) (b v:Nat) (e:List Value) (W:aB.eval s=.slice l b v) (R:e.length=b*a) (F:l=none->b=0/\v=0) (O:∀A,l=some A->∀z m,e[z]?=some m->w.cell? (A.add z)=some m) (H:∀m∈e,m.oneCell'=true)
 (I:d+b<=maxLen) (S:(d+b)*x<=140737488355328) (G:j<=w.heap.size)
 (h:∀i r,r.ownsRow j g a i (d+b) (t++e)->w.grownBy r c.ownBlock->(i.ownBlock=c.ownBlock\/i.ownBlock=some w.heap.size)->y (aB.put ae.dst i) r) :
 if Region.wanted ae (yielded l3 aB.tmps)=true then Oper.wp P ae aB w y C else Q:=by
 refine Og ?_;intro lO;exact Lf u s n L j g f o a x E V J D M X K c d t T B l b v e W R F O H I S G h
end
def q0 (w d:World):Prop:=∀(b:Nat) (a:TypeId) (c:List Value),hA w b a c->a≠89->a≠43->a≠175->hA d b a c
theorem q0.refl (w):q0 w w:=fun _ _ _ h _ _ _=>h
theorem q0.trans {g c f:World} (h:q0 g c) (k:q0 c f):q0 g f:=fun a j d l e b i=>k a j d (h a j d l e b i) e b i
theorem q0.B {c a b:World} (h:q0 c a) (f:BW a b):q0 c b:=fun d l g k i e j=>(h d l g k i e j).B f
theorem q0.of_below {a b:World} (c:BW a b):q0 a b:=(q0.refl a).B c
def Fs (i g:Nat) (e:i0) (c:List Nat) (w b:World):Prop:=∃a f,i2 i g e a b f/\hT c w a b/\(∀d∈c,d∈a)/\q0 w b
theorem WU {p d gl':Nat} {l:i0} {a:List Nat} {g:AV} {e i6 o i:World} (H:i2 p d l a e g) (k:Rn) (z:List R5) {G A E L f:Value} {K:List Value} {n:Nat} {m:List Value} {s:Int}
 (O:Rd a e (fun j=>qq j gl' l.t g.ltv G z/\Sl .i64 j A k.p.bs/\Sl .i64 j E k.rs/\s4 j L k.o K))
 (y:hC [d] e i6) (M:o.ownsRow p 175 9 f n m) (S:n<=s.toNat*400000) (Q:∀X∈m,X.oneCell'=true)
 (B:i6.grownBy o g.av.ownBlock) (J:f.ownBlock=g.av.ownBlock\/f.ownBlock=some i6.heap.size)
 (u:hC [d] o i)
 (Y:hA i d 89 (BI { l with ev:=z,R:=k,seq:=s } { g with gl:=gl',lev:=G,pv:=A,rv:=E,nv:=L,nvs:=K,av:=f })) :
 Fs p d { l with ev:=z,R:=k,seq:=s } a e i:=by
 obtain⟨aa,ae,_,_,r⟩:=H.adj;have ac:e.heap.size<=i6.heap.size:=y.size;have F:∀x∈[d],x∈a:=fun x aj=>by simp only[ms]at aj;exact aj▸H.gF
 have I:∀x∈f.ownBlock.toList++a,x∈a\/e.heap.size<=x:=fun x aj=>by
  rcases ma.1 aj with ag | ag
  ·have bK:=tl.1 ag;rcases J with dX | dX;·exact .inl (H.adjF x (dX▸bK))
   ·exact R2
  ·exact .inl ag
 have W:hC a e o:=(y.mono F).grown B (fun D v=>.inl (H.adjF D v));have lU:hT a e (f.ownBlock.toList++a) i:=⟨W.trans u (fun x aj=>.inl (F x aj)),I⟩;have C:hC (d::g.av.ownBlock.toList) e i:=by refine((y.mono (F':=d::g.av.ownBlock.toList) (fun x aj=>by simp only[ms]at aj;exact aj▸me ..)).grown B (fun D v=>.inl (mo _ (tl.2 v)))).trans u (fun x aj=>.inl ?_);simp only[ms]at aj;exact aj▸me ..
 have t9:i.ownsRow p 175 9 f n m:=p1 M u (fun q c af=>by
  simp only[ms]at af;subst af;rcases J with dX | dX;·exact hh r H.blk Iv (dX▸c).symm
  ·have fH:some i6.heap.size=some q:=dX▸c;simp only[Option.some.injEq]at fH;have:=H.blk.lt
   omega)
 refine⟨f.ownBlock.toList++a,_,⟨Y,List.mem_append_right _ H.gF,fun x aj=>⟨?_,?_⟩,?_,?_,fun q c=>List.mem_append_right _ (H.issF q c),⟨n,m,S,Q,t9⟩,fun q c=>List.mem_append_left _ (tl.2 c)⟩,lU,fun x aj=>List.mem_append_right _ aj,fun b Z ad t T ab V=>t.keep C (fun af=>?_)⟩
 ·rcases I x aj with ag | ag;·exact(H.lt x ag).1
  ·have:=(H.lt d H.gF);omega
 ·exact N9
 ·exact lU.rd ((H.rd.and O).imp fun j q=>⟨q.1.1,q.2.1,q.1.2.2.1,q.2.2.1,q.2.2.2.1,q.2.2.2.2,q.1.2.2.2.2.2.2⟩)
 ·exact p1 H.iss C (fun q c af=>by
   rcases mc.1 af with rfl | af;·exact hh H.iss H.blk Iv c.symm
   ·exact DZ H.iss r Iv c (tl.1 af))
 ·rcases mc.1 af with rfl | af;·exact n3 t H.blk T rfl
  ·exact hh r t V (tl.1 af).symm
theorem Hm (h:q:=by go_wp2_with fail;go_ret;exact⟨rfl,aZ,_,H.o.B jH.o,hT.B (hT.refl _ _) jH.o,fun _ h=>h,q0.of_below jH.o⟩):q:=h
theorem h9.blt {w:World}:∀{L:List St} {C:List Value},h9 w L C->∀{v:Value},v∈C->∀{n m k i:Nat},v=sL n m k i->0<k->n<w.heap.size
 | [],[],_,v,a,_,_,_,_,_,_=>by cases a
 | f::L,e::C,h,v,a,n,m,k,i,c,d=>by
  rcases mc.1 a with rfl | a;·have b:=h.1;rw[c]at b;exact b.blt d
  ·exact h.2.blt a c d
 | [],_::_,h,_,_,_,_,_,_,_,_=>h.elim
 | _::_,[],h,_,_,_,_,_,_,_,_=>h.elim
def VX (i:Value) (k g:Nat) (e:i0) (c:List Nat) (w:World) (j:Ending) (b:World):Prop:=j=.returned i/\∃a f,i2 k g e a b f/\hT c w a b/\(∀d∈c,d∈a)/\q0 w b
theorem yim (P e:Nat) (a:i0) (a6:t0 a) (b4:a.seq<=100000) (aZ:List Nat) (V:AV) (f:R5) (b0:f.b<=a.today) (bX:i0) (E:Int) (eq:Hd (xc a f=(bX,E))) (w:World) (h:i2 P e a aZ w V) :
 Calls prog 67 #[pV e,.agg #[iV f.a,iV f.b,iV f.c,iV f.d,iV f.e]] w (VX (iV E) P e bX aZ w):=by
 obtain⟨ce,bb,z,c4,cv,d3,an,am,ay,a8,cq,dq,c3⟩:=V;obtain⟨aB,ax,rfl⟩:∃cg db,ce=.slice cg a.t.ts.length db:=h.rd.now.1.shape;have H:=lh h;have L:=lh a6;have a':=lh (An b4 b0);have aF:w.cell? (Ad e 9)=some (pV bb):=h.blk.cell 9;have dm:=h.blk.lt;have mm:Hd (a.ev.length<=2000):=a6.goods.len;have bd:Hd (a.t.ts.length<=1000):=by have Z:=CT a6.goods.terms;show _<=_;omega
 clear h a6 b4 b0;go_enter func67,ntmps67;go_wp2_with fail;refine(PP bb a.t z c4 a.ev _ ((H.o.rd.now.2.1).B (hB bR _)) HH).mono ?_;rintro _ cb ⟨i,u,rfl,aA,aP,bh,aO⟩;have cA:Hd (BW w cb):=hJ (hB bR _) aO;have mJ:Hd (hA cb w.heap.size 150 [iV f.a,iV f.b,iV f.c,iV f.d,iV f.e]):=(hR w _ _ _ rfl).B aO;have aS:=lh aA;have al:=lh aP;have X:Hd (w.heap.size+1<=i):=by rw[wa]at bh;exact bh
 have aL:Hd (some i≠u.ownBlock):=hh aP aA.1 Iv;obtain⟨d6,dn,rfl⟩:=aA.2.2.shape;clear aA aP bh aO aF;obtain⟨cT,cz,cl,c1,cQ,-⟩:=mJ.cS [0,1,2,3,4];have c8:=mJ.lt;go_wp2_with fail;obtain⟨cP,G⟩:=xg (a.t.rightE f);have bo:=lh G;by_cases ao:cP=0
 ·subst ao;by_cases au:2000<=a.ev.length
  ·refine(We i a.t z _ a.ev f (w.heap.size+1) bo au _ aS.o (B1 al.o x1) GP X.o bd.o aL.o).mono ?_;rintro _ a4 ⟨rfl,y⟩;have aj:xc a f=(a,14):=by unfold xc;rw[if_neg (by rw[G];simp),if_pos au]
   have t:=eq.o;rw[aj]at t;simp only[Prod.mk.injEq]at t;obtain⟨rfl,rfl⟩:=t;have jH:=lh (hJ cA.o y);clear y au G aj;exact Hm
  ·have bi:=Jz f.b a.ev a.ev.length;have b3:(s1 a f).length=a.ev.length+1:=FS _ _ _ bi;refine(Yy i a.t z _ a.ev f (w.heap.size+1) bo om _ rfl bi ?hoff _ aS.o (B1 al.o x1) GP X.o bd.o aL.o).mono ?_;case hoff =>
    have Z:=(H.o.rd.now.2.1).2.1;exact Fl.offNew Z.fl om (fun M x=>by
     rcases mc.1 x with rfl | x;·have:=X.o;omega
     ·have:=(al.lt M (tl.1 x)).1;rw[wa]at this
      omega)
   rintro _ a4 ⟨rfl,ab,aN,bP,bK⟩;have y:BW w a4:=cA.trans (bK.to_below (oo cA.size) (fun M x=>by
    rcases mc.1 x with rfl | x;·have:=X.o;omega
    ·have:=(al.lt M (tl.1 x)).1;rw[wa]at this
     omega))
   obtain⟨bj,cF⟩:∃bj,bj=a4:=⟨_,rfl⟩;subst cF;have jH:=lh y;have W:=lh (H.o.B y);have cU:=lh aN;have df:=lh bP;have bu:=lh b3;have bq:=lh (O5 L.o G a'.2 om);have aJ:Hd (Asc (s1 a f)):=Sj L.asc f;obtain⟨a5,aI⟩:=xg (h6 a.t (s1 a f) a.today);have aH:=lh aI;have aV:Hd (xc a f=if a5.e≠0 then (a,a5.e) else if z1 a.R.o a5.o≠0 then (a,z1 a.R.o a5.o) else ({ a with ev:=s1 a f,R:=a5,seq:=a.seq+1 },0)):=by show _=_;unfold xc;rw[if_neg (by rw[G];simp),if_neg au,aI]
   have Q:Hd (∀d,BW bj d->qq d i a.t z ab (s1 a f)/\h7 d (.slice aB a.t.ts.length ax) a.t.ts):=fun d C=>⟨cU.B C,W.rd.now.1.B C⟩;have jo:Hd (∀d,BW bj d->Ce d e 0 (iV a.t.lim)/\Ce d e 1 (.slice aB a.t.ts.length ax)/\Ce d e 2 (iV a.t.cyc)/\Ce d e 3 (iV a.t.dued)/\Ce d e 4 (iV a.t.minf)/\Ce d e 5 (iV a.t.minp)/\Ce d e 6 (iV a.t.start)/\Ce d e 7 (iV a.today)):=fun d C=>by have q:=W.blk.B C;exact⟨q.cell 0,q.cell 1,q.cell 2,q.cell 3,q.cell 4,q.cell 5,q.cell 6,q.cell 7⟩
   have o:=jo.o bj.drew (hG bR);have cK:Hd (i<bj.heap.size/\w.heap.size<=i):=⟨aN.1.lt,oo X.o⟩;clear aN bP bK y au bi b3 G aI cT cz cl c1 cQ c8;go_upto_region 5 with fail;go_cut [7,8,9,10] (fun cx cV cw cm ah=>∃g an am ay a8,cx=pV g/\cV=am/\cw=ay/\cm=iV a5.e/\Hd (hA ah g 35 [an,iV a5.p.c,iV a5.p.d]/\Sl .i64 ah an a5.p.bs/\Sl .i64 ah am a5.rs/\s4 ah ay a5.o a8)/\Hd (bj.heap.size<=g/\Fr bj an/\Fr bj am/\Fr bj ay/\∀ak∈a8,Fr bj ak)/\Hd (BW bj ah));case first =>
    refine se (fun d=>Ce d e 0 (iV a.t.lim)/\Ce d e 1 (.slice aB a.t.ts.length ax)/\Ce d e 2 (iV a.t.cyc)/\Ce d e 3 (iV a.t.dued)/\Ce d e 4 (iV a.t.minf)/\Ce d e 5 (iV a.t.minp)/\Ce d e 6 (iV a.t.start)/\Ce d e 7 (iV a.today)) 17 kr ?_;refine Ck ?_;show _;refine tK 6 rfl ?_;refine tK 7 rfl ?_;refine tK 8 rfl ?_;refine tK 9 rfl ?_;refine BZ (rs:=[5,16]) kr Is ?_;refine(k0.cons (o:=⟨_,_,_,_,_,_⟩) rfl (fun l ac=>?_) (k0.cons (o:=⟨_,_,_,_,_,_⟩) rfl (fun l ac=>?_) k0.nil))
    ·go_simp;refine(F2 i a.t z ab (s1 a f) _ ((Q.o _ Ff).1) (o2 bu.o mm.o)).mono ?_;rintro _ aY ⟨co,rfl,jw,bZ⟩;obtain⟨cJ,ci,rfl⟩:=(h4.of_own jw rfl).shape;refine QS ?_;clear jw bZ;unhygienic intros
     refine Ma ?_;clear ac l;show _;refine BZ (rs:=[10,16]) kr Is ?_;refine(k0.cons (o:=⟨_,_,_,_,_,_⟩) rfl (fun l ac=>?_) (k0.cons (o:=⟨_,_,_,_,_,_⟩) rfl (fun l ac=>?_) k0.nil))
     ·go_simp;refine(E5 a.t _ _ (s1 a f) a.today bq aJ a5 aH _ ((Q.o _ bM).2) (jk.B I6)).mono ?_;refine GV ?_;clear ac l;unhygienic intros
      refine Hc ?_;show _;refine wo 16 kr rfl fun l ac=>?_;go_simp;refine ac.out _ _ (fun hun=>jo.o _ QF) ?_;clear ac l;try simp only[ap,aq,sa,sb,sc]
      obtain⟨U,fx,fS,fC,j7⟩:∃U,bG.alloc (.cells #[sZ,iZ,iZ] 35)=U/\Hd (hA U bG.heap.size 35 [sZ,iZ,iZ])/\Hd (Sl .i64 U (.slice gY a5.p.bs.length gZ) a5.p.bs/\Sl .i64 U (.slice h8 a5.rs.length hD) a5.rs/\s4 U (.slice hF a5.o.length hH) a5.o fY)/\Hd (BW bj U) :=
       ⟨_,rfl,hR bG [sZ,iZ,iZ] _ _ rfl,⟨cN.1.B (hB bR _),cN.2.1.B (hB bR _),cN.2.2.B (hB bR _)⟩,hB dS.o _⟩
      have iM:Hd (bj.heap.size<=bG.heap.size):=by have cG:=HB6.size;have bU:=dS.size;show _<=_;omega
      refine Gd ?_;intro j4;have fD:Hd (hL [bG.heap.size] (.slice gY a5.p.bs.length gZ)/\hL [bG.heap.size] (.slice h8 a5.rs.length hD)/\hL [bG.heap.size] (.slice hF a5.o.length hH)/\∀ak∈fY,hL [bG.heap.size] ak):=by exact NK
      refine CH ?_;clear fx;unhygienic intros
      refine wS 17 rfl ?_;refine wS 18 rfl ?_;refine wS 19 rfl ?_;refine wS 20 rfl ?_;exact Qj
     ·go_simp;refine ac.out _ _ (fun hun=>jo.o _ QF) ?_;clear ac l;try simp only[ap,aq,sa,sb,sc]
      refine wo 10 kr rfl fun l ac=>?_;go_simp;refine(E5 a.t _ _ (s1 a f) a.today bq aJ a5 aH _ ((Q.o _ bM).2) (jk.B I6)).mono ?_;rintro _ bG ⟨qE,qF,qG,fY,rfl,iU,iW,iX,⟨cC,dr,gX,fQ⟩,fF⟩;obtain⟨gY,gZ,rfl⟩:=iU.shape;obtain⟨h8,hD,rfl⟩:=iW.shape;obtain⟨hF,hH,rfl⟩:=iX.2.shape;refine Nk ?_;clear iU iW iX cC dr gX fQ fF ac l;intro cN gF lG dS fZ;refine Hc ?_;show _;obtain⟨U,fx,fS,fC,j7⟩:∃U,bG=U/\Hd (hA U aY.heap.size 35 [sZ,iZ,iZ])/\Hd (Sl .i64 U (.slice gY a5.p.bs.length gZ) a5.p.bs/\Sl .i64 U (.slice h8 a5.rs.length hD) a5.rs/\s4 U (.slice hF a5.o.length hH) a5.o fY)/\Hd (BW bj U) :=
       ⟨_,rfl,hA.B (hR aY [sZ,iZ,iZ] _ _ rfl) lG.o,⟨cN.1.B bR,cN.2.1.B bR,cN.2.2.B bR⟩,dS.o⟩
      have iM:Hd (bj.heap.size<=aY.heap.size):=by have cG:=HB6.size;have bU:=dS.size;show _<=_;omega
      refine Gd ?_;intro j4;have fD:Hd (hL [aY.heap.size] (.slice gY a5.p.bs.length gZ)/\hL [aY.heap.size] (.slice h8 a5.rs.length hD)/\hL [aY.heap.size] (.slice hF a5.o.length hH)/\∀ak∈fY,hL [aY.heap.size] ak):=by exact NK
      refine CH ?_;clear fx;intro jK jL jM nK nL nM;refine wS 17 rfl ?_;refine wS 18 rfl ?_;refine wS 19 rfl ?_;refine wS 20 rfl ?_;exact P4
    ·go_simp;refine ac.out _ _ (fun hun=>jo.o _ QF) ?_;clear ac l;try simp only[ap,aq,sa,sb,sc]
     refine wo 5 kr rfl fun l ac=>?_;go_simp;refine(F2 i a.t z ab (s1 a f) _ ((Q.o _ Ff).1) (o2 bu.o mm.o)).mono ?_;rintro _ aY ⟨co,rfl,jw,bZ⟩;obtain⟨cJ,ci,rfl⟩:=(h4.of_own jw rfl).shape;refine QS ?_;clear jw bZ;intro jk eI HB6 dK;refine Ma ?_;clear ac l;show _;refine wo 10 kr rfl fun l ac=>?_;go_simp;refine(E5 a.t _ _ (s1 a f) a.today bq aJ a5 aH _ ((Q.o _ bM).2) (jk.B I6)).mono ?_;rintro _ bG ⟨qE,qF,qG,fY,rfl,iU,iW,iX,⟨cC,dr,gX,fQ⟩,fF⟩;obtain⟨gY,gZ,rfl⟩:=iU.shape;obtain⟨h8,hD,rfl⟩:=iW.shape;obtain⟨hF,hH,rfl⟩:=iX.2.shape;refine Nk ?_;clear iU iW iX cC dr gX fQ fF ac l;intro cN gF lG dS fZ;refine Hc ?_;show _;obtain⟨U,fx,fS,fC,j7⟩:∃U,bG=U/\Hd (hA U bj.heap.size 35 [sZ,iZ,iZ])/\Hd (Sl .i64 U (.slice gY a5.p.bs.length gZ) a5.p.bs/\Sl .i64 U (.slice h8 a5.rs.length hD) a5.rs/\s4 U (.slice hF a5.o.length hH) a5.o fY)/\Hd (BW bj U) :=
      ⟨_,rfl,hA.B (hA.B (hA.B (hR bj [sZ,iZ,iZ] _ _ rfl) (hG bR)) eI.o) lG.o,⟨cN.1.B bR,cN.2.1.B bR,cN.2.2.B bR⟩,dS.o⟩
     have iM:Hd (bj.heap.size<=bj.heap.size):=by have cG:=HB6.size;have bU:=dS.size;show _<=_;omega
     refine Gd ?_;intro j4;have fD:Hd (hL [bj.heap.size] (.slice gY a5.p.bs.length gZ)/\hL [bj.heap.size] (.slice h8 a5.rs.length hD)/\hL [bj.heap.size] (.slice hF a5.o.length hH)/\∀ak∈fY,hL [bj.heap.size] ak):=by exact NK
     refine CH ?_;clear fx;intro jK jL jM nK nL nM;refine wS 17 rfl ?_;refine wS 18 rfl ?_;refine wS 19 rfl ?_;refine wS 20 rfl ?_;exact Su
   case rest =>
    clear o;obtain⟨g,dl,dy,dv,bD,rfl,rfl,rfl,rfl,cN,ai,aC⟩:=hcut;obtain⟨A,B,rfl⟩:=cN.2.1.shape;obtain⟨a3,a1,rfl⟩:=cN.2.2.1.shape;obtain⟨a7,a9,rfl⟩:=cN.2.2.2.2.shape;have T:=lh (W.B aC.o);have aa:Hd (BW w wc):=jH.trans (aC.mono jH.size);by_cases av:a5.e=0
    ·have i':=aV.o;rw[if_neg (ss av)]at i';have aR:=lh i';have cf:(a5.e != 0)=false:=ss av;clear i' aV;obtain⟨af,t⟩:=xg (z1 a.R.o a5.o);have dg:=lh t;rw[t]at aR;clear t;obtain⟨bF,bY,bs⟩:=T.rd.now.2.2.2.2.2.1.2.shape;simp only at bs;subst bs;have be:Hd (∀d,BW wc d->Ce d e 8 (iV a.seq)/\Ce d e 15 (.slice bF a.R.o.length bY)):=fun d C=>by
      have q:=T.blk.B C;exact⟨q.cell 8,q.cell 15⟩
     have b6:=be.o wc bR;have bQ:=be.o wc.drew (hG bR);have b7:=L.seq;have bA:=a'.1;have bV:IntKind.i64.wrap (a.seq+1)=a.seq+1:=IntWalk.i64_in _ ⟨by omega,by omega⟩;go_upto_region 8 with fail;go_region_held3 (fun d=>Ce d e 8 (iV a.seq)/\Ce d e 15 (.slice bF a.R.o.length bY)) (first | with_reducible exact b6 | with_reducible exact bQ | exact c9.o) (first | (go_at_call 116;refine(Yn (a.seq+1) _ _ a.R.o a5.o af dg (oo L.o.outl) (lh L.o.outb) _ ⟨a8,(T.o.rd.now.2.2.2.2.2.1).B HS⟩ ⟨bD,(cN.o.2.2.2).B HS⟩).mono ?_;rintro _ j ⟨dt,rfl,b2,az⟩;have dd:=lh b2;have r:Hd (BW wc j):=(by first | exact az | exact hJ (hG bR) az);have dA:=lh az;have c9:=lh (be.o _ r.o);clear az b2));clear b6 bQ bV;by_cases aD:af=0
     ·subst aD;have i':=aR.o;rw[if_neg (by simp)]at i';have vg:=eq.o;rw[i']at vg;simp only[Prod.mk.injEq]at vg;obtain⟨rfl,rfl⟩:=vg;have m:=lh (T.B r.o);have aw:=lh (cN.1.B r.o);have bp:g≠e:=by
       have Z:=ai.1;have ag:=(W.lt e W.gF).2;omega
      have aF:j.cell? (Ad e 9)=some (pV bb):=m.blk.cell 9;have cZ:j.cell? (Ad e 11)=some an:=m.blk.cell 11;have c6:j.cell? (Ad e 12)=some (iV a.R.p.c):=m.blk.cell 12;have dh:j.cell? (Ad e 13)=some (iV a.R.p.d):=m.blk.cell 13;have cd:j.cell? (Ad e 14)=some am:=m.blk.cell 14;obtain⟨c5,cn,ck,dk,cB,cy,-⟩:=m.blk.fs [9,11,12,13,14,15];have Y:Hd (∀(d:World) (ca:Nat) (ak:Value),(Ce d g 0 (.slice A a5.p.bs.length B)/\Ce d g 1 (iV a5.p.c)/\Ce d g 2 (iV a5.p.d))->((d.setCell (Ad e ca) ak).cell? (Ad g 0)=some (.slice A a5.p.bs.length B)/\(d.setCell (Ad e ca) ak).cell? (Ad g 1)=some (iV a5.p.c)/\(d.setCell (Ad e ca) ak).cell? (Ad g 2)=some (iV a5.p.d))):=fun d ca ak h=>⟨Dq h.1 bp,Dq h.2.1 bp,Dq h.2.2 bp⟩;have bm:j.cell? (Ad g 0)=some (.slice A a5.p.bs.length B)/\j.cell? (Ad g 1)=some (iV a5.p.c)/\j.cell? (Ad g 2)=some (iV a5.p.d):=⟨aw.cell 0,aw.cell 1,aw.cell 2⟩;have bc:=Y.o _ 9 (pV i) bm;have aU:=Y.o _ 13 (iV a5.p.d) (Y.o _ 12 (iV a5.p.c) (Y.o _ 11 (.slice A a5.p.bs.length B) bc));have aG:=Y.o _ 14 (.slice a3 a5.rs.length a1) aU;have bz:=Y.o _ 15 (.slice a7 a5.o.length a9) aG;have cp:=lh bm;have bl:=lh bc;have du:=lh aU;have dx:=lh aG;have dz:=lh bz;clear bm bc aU aG bz i';go_upto_region 11 with fail;have cD:Hd (∀d,BW j d->Ce d g 0 (.slice A a5.p.bs.length B)/\Ce d g 1 (iV a5.p.c)/\Ce d g 2 (iV a5.p.d)):=fun d C=>by have q:=aw.B C;exact⟨q.cell 0,q.cell 1,q.cell 2⟩
      have o:=cD.o j.drew (hG bR);have cO:=cp.o;refine se (fun d=>Ce d g 0 (.slice A a5.p.bs.length B)/\Ce d g 1 (iV a5.p.c)/\Ce d g 2 (iV a5.p.d)) 13 kr ?_;refine tF 0 rfl ?_ (hS:=o);refine tF 1 rfl ?_ (hS:=o);refine tF 2 rfl ?_ (hS:=o);refine tF 3 rfl ?_ (hS:=o);refine tF 4 rfl ?_ (hS:=o);refine tK 5 rfl ?_;refine tF 6 rfl ?_ (hS:=o);refine tF 7 rfl ?_ (hS:=o);refine tF 8 rfl ?_ (hS:=o);refine tF 9 rfl ?_ (hS:=o);refine wo 10 kr rfl fun l ac=>?_;go_simp;refine ac.out _ _ (fun hun=>bl.o) ?_;clear ac l;try simp only[ap,aq,sa,sb,sc]
      refine tF 11 rfl ?_ (hS:=bl.o);refine tF 12 rfl ?_ (hS:=bl.o);refine wS 13 rfl ?_;refine GM (i:=14) (oi:=⟨_,_,_,_,_,_⟩) (v:=?_) rfl kr kr kr Iv (fun _ _ _ h=>h) (Or.inl ⟨by rfl,?_⟩) (fun h=>absurd h Iv) ?_;rotate_left;·(intro w hSw;(try dsimp only at hSw);go_simp;try with_reducible rfl)
      simp only[ap,aq,sa,sb,sc];refine GM (i:=15) (oi:=⟨_,_,_,_,_,_⟩) (v:=?_) rfl kr kr kr Iv (fun _ _ _ h=>h) (Or.inl ⟨by rfl,?_⟩) (fun h=>absurd h Iv) ?_;rotate_left;·(intro w hSw;(try dsimp only at hSw);go_simp;try with_reducible rfl)
      simp only[ap,aq,sa,sb,sc];refine wS 16 rfl ?_;refine GM (i:=17) (oi:=⟨_,_,_,_,_,_⟩) (v:=?_) rfl kr kr kr Iv (fun _ _ _ h=>h) (Or.inl ⟨by rfl,?_⟩) (fun h=>absurd h Iv) ?_;rotate_left;·(intro w hSw;(try dsimp only at hSw);go_simp;try with_reducible rfl)
      simp only[ap,aq,sa,sb,sc];refine GM (i:=18) (oi:=⟨_,_,_,_,_,_⟩) (v:=?_) rfl kr kr kr Iv (fun _ _ _ h=>h) (Or.inl ⟨by rfl,?_⟩) (fun h=>absurd h Iv) ?_;rotate_left;·(intro w hSw;(try dsimp only at hSw);go_simp;try with_reducible rfl)
      simp only[ap,aq,sa,sb,sc];refine wS 19 rfl ?_;refine r4 kr ?_ _;obtain⟨O,b9,ad,bv,cW,bE,cc,cs,dj,b5,b'⟩:=Br.form (show Br j P c3 (a.seq.toNat*400000) from m.adj);subst cW;have aE:=lh (An bE b5);have aW:=lh b';obtain⟨br,ar,bT,bB,rfl,bt,b1,bI,cj,bW,b8⟩:=dd.form;have K:=lh (An bt (An b1 (An bI bW)));have bx:=lh b8;clear bE cc cs dj b5 b' bt b1 bI cj bW b8;obtain⟨F,bJ,v,aT⟩:∃F,((((((j.setCell (Ad e 9) (pV i)).setCell (Ad e 11) (.slice A a5.p.bs.length B)).setCell (Ad e 12) (iV a5.p.c)).setCell (Ad e 13) (iV a5.p.d)).setCell (Ad e 14) (.slice a3 a5.rs.length a1)).setCell (Ad e 15) (.slice a7 a5.o.length a9)).drew=F/\Hd (hA F e 89 [iV a.t.lim,.slice aB a.t.ts.length ax,iV a.t.cyc,iV a.t.dued,iV a.t.minf,iV a.t.minp,iV a.t.start,iV a.today,iV a.seq,pV i,pV cv,.slice A a5.p.bs.length B,iV a5.p.c,iV a5.p.d,.slice a3 a5.rs.length a1,.slice a7 a5.o.length a9,cq,.slice O b9 ad])/\Hd (hC [e] j F) :=
       ⟨_,rfl,((((((m.blk.set 9 _).set 11 _).set 12 _).set 13 _).set 14 _).set 15 _).B (hG bR),(((((((hC.refl _ _).sg _).sg _).sg _).sg _).sg _).sg _).drew⟩
      with_reducible rw[bJ]
      clear bJ cO o aF cZ c6 dh cd c5 cn ck dk cB cy;have di:Hd (F.ownsRow P 175 9 (.slice O b9 ad) b9 bv):=p1 aW.o aT.o (fun q bg a0=>by
       simp only[ms]at a0;subst a0
       exact hh aW.o m.blk Iv bg.symm)
      have c':Hd (F.ownsRow wc.drew.heap.size 175 9 (.slice br ar bT) ar bB):=p1 bx.o aT.o (fun q bg a0=>by
       simp only[ms]at a0;subst a0
       exact hh bx.o m.blk Iv bg.symm)
      have S:Hd (some e≠(Value.slice O b9 ad).ownBlock):=hh aW.o m.blk Iv;have d2:F.cell? (Ad e 17)=some (.slice O b9 ad):=v.cell 17;have d7:=v.lt;have b7:=L.seq;have bA:=a'.1;have bV:IntKind.i64.wrap (a.seq+1)=a.seq+1:=IntWalk.i64_in _ ⟨by omega,by omega⟩;obtain⟨c0,cM,cu,dc,cH⟩:=info_parts H2;have aX:Hd (b9+ar<=(a.seq+1).toNat*400000/\b9+ar<=100000000000):=by have Z:=aE.1;have ag:=K.1;have bw:=L.outl;exact⟨by omega,by omega⟩
      have c2:Hd (P<=F.heap.size):=by have Z:=(m.lt e m.gF).1;have ag:=v.lt;show _<=_;omega
      clear b7 bA
      go_wp2_with (at_builtin;refine RC rfl (.tmp 79) (.tmp 80) 87 rfl P 175 c0 (.agg #[iZ,iZ,iZ,iZ,iZ,iZ,iZ,iZ,iZ]) 9 72 underlying87 cM cu dc cH rfl Iv (.slice O b9 ad) b9 bv rfl di.o br ar bT bB rfl K.2.1 K.2.2.1 (Fl.of_own c'.o K.2.2.2).news K.2.2.2 (by have:=aX.o;unfold maxLen;omega) (oo aX.o) c2.o ?_;intro d4 bN aM J bC;have ct:=lh aM;have bH:=lh J;have ch:=lh bC;obtain⟨d1,d0,rfl⟩:=(Fl.of_own aM (Fb aE.2 K.2.2.2)).shape;have dB:bN.cell? (Ad e 17)=some (.slice O b9 ad):=(p7 v.o J S.o).cell 17;have d9:bN.cell? (Ad e 8)=some (iV a.seq):=(p7 v.o J S.o).cell 8;have ds:=(p7 v.o J S.o).frozen 17;have d8:=(p7 v.o J S.o).frozen 8;have d5:=(p7 v.o J S.o).lt;clear aM J bC)
      go_ret;have cY:BW bj j:=aC.trans (r.mono aC.size);have a2:∀M∈aZ,M<bj.heap.size:=fun M x=>(W.lt M x).2;have bO:=(Q.o _ cY).1;have cr:i∉aZ:=fun a0=>by have Z:=(H.o.lt _ a0).2;have ag:=cK.2;omega
      have c7:hL aZ ab:=fun b ae n c I aK a0=>by have Z:=(df.lt b (by rw[I];rfl)).1;have ag:=(H.o.lt b a0).2;omega
      have cR:Rd aZ j (fun D=>qq D i a.t z ab (s1 a f)/\Sl .i64 D (.slice A a5.p.bs.length B) a5.p.bs/\Sl .i64 D (.slice a3 a5.rs.length a1) a5.rs/\s4 D (.slice a7 a5.o.length a9) a5.o bD):=by have ju:Rd aZ j (fun D=>qq D i a.t z ab (s1 a f)):=fun D bf=>⟨bO.1.keep bf cr,(m.rd D bf).2.1.2.1,bO.2.2.keep bf c7⟩;exact ju.and (((cN.2.1.B r.o).rd (ai.2.1.off a2)).and (((cN.2.2.1.B r.o).rd (ai.2.2.1.off a2)).and ((cN.2.2.2.B r.o).rd (ai.2.2.2.1.off a2) (fun ak aQ=>(ai.2.2.2.2 ak aQ).off a2))))
      obtain⟨cX,cI,Z,ag,bw,cE⟩:=WU (gl':=i) (s:=a.seq+1) m.o a5 (s1 a f) cR aT.o ct.o aX.1 (Fb aE.2 K.2.2.2) bH.o ch.o (((hC.refl _ _).sg _).sg _) (((p7 v.o bH.o S.o).set 17 _).set 8 _);exact⟨rfl,cX,cI,Z,(hT.B (hT.B (hT.refl _ _) aa.o) r.o).trans ag,bw,((q0.of_below aa.o).B r.o).trans cE⟩
     ·have i':=aR.o;rw[if_pos aD]at i';have vg:=eq.o;rw[i']at vg;simp only[Prod.mk.injEq]at vg;obtain⟨rfl,rfl⟩:=vg;have dp:(af != 0)=true:=ss aD;clear aD i';go_wp2_with fail;go_ret;exact⟨rfl,aZ,_,T.B r.o,hT.B (hT.B (hT.refl _ _) aa.o) r.o,fun _ h=>h,(q0.of_below aa.o).B r.o⟩
    ·have i':=aV.o;rw[if_pos av]at i';have vg:=eq.o;rw[i']at vg;simp only[Prod.mk.injEq]at vg;obtain⟨rfl,rfl⟩:=vg;have cf:(a5.e != 0)=true:=ss av;clear av i';go_wp2_with fail;go_ret;exact⟨rfl,aZ,_,T.o,hT.B (hT.refl _ _) aa.o,fun _ h=>h,q0.of_below aa.o⟩
 ·refine(V9 i a.t z _ a.ev f (w.heap.size+1) cP bo ao _ aS.o (B1 al.o x1) GP X.o bd.o aL.o).mono ?_;rintro _ a4 ⟨rfl,y⟩;have aj:xc a f=(a,cP):=by unfold xc;rw[G,if_pos ao]
  have t:=eq.o;rw[aj]at t;simp only[Prod.mk.injEq]at t;obtain⟨rfl,rfl⟩:=t;have dw:(cP != 0)=true:=ss ao;have jH:=lh (hJ cA.o y);clear y ao G aj;exact Hm
theorem Kj (h:q:=by
 have bK:=tl.1 ag;rcases jd with dX | dX;·exact .inl (H.issF x (dX▸bK))
 ·exact R2):q:=h
noncomputable instance (b:i0) (a:Int):Decidable (tc b a):=by unfold tc;infer_instance
noncomputable def Fa (c:i0) (b:Bk) (a:R5):R5 :=
 if BQ b a.e≠0 then Sk else if a.a=6 then Sk else if tc c (s2 b a.e (a.a == 5)).c then Sk else ⟨5,(s2 b a.e (a.a == 5)).c,(s2 b a.e (a.a == 5)).b,(s2 b a.e (a.a == 5)).d,(s2 b a.e (a.a == 5)).a⟩
noncomputable def GF (c:i0) (b:Bk) (a:R5):Int :=
 if BQ b a.e≠0 then BQ b a.e else if a.a=6 then 0 else if tc c (s2 b a.e (a.a == 5)).c then 11 else 0
def GD (a:R5) (f:Int) (c i:Nat) (e:Bk) (g:List Nat) (w:World) (j:Ending) (b:World):Prop :=
 ∃d,j=.returned (.tuple #[.agg #[iV a.a,iV a.b,iV a.c,iV a.d,iV a.e],iV f])/\m1 b c i d e/\hx c g w b
theorem Cr {f:Bk} (a:hC [w.heap.size+1] W Y) (c:m1 W n m v f) (d:hx n F w W) (k:hA W (w.heap.size+1) 150 C) (g:n<=w.heap.size) (l:m<w.heap.size):m1 Y n m v f/\hx n F w Y:=
 ⟨⟨c.1,c.2.1.keep a (fun b=>by simp only[ms]at b;omega),p1 c.2.2 a (fun q j b=>by
  simp only[ms]at b;subst b
  exact hh c.2.2 k Iv j.symm)⟩,
  d.B.trans (a.to_below (nt g d.keep.size) (fun i e=>by simp only[ms]at e;omega)),
  d.keep.trans a (fun i e=>by simp only[ms]at e;exact .inr om)⟩
theorem YY (ag a2 i ab:Nat) (f:i0) (F:List Nat) (V:AV) (Y:Value) (e:Bk) (c:R5) (j:R5) (I:Hd (Fa f e c=j)) (n:Int) (aj:Hd (GF f e c=n)) (Z:Bk) (av:Hd (DD e c.e (c.a == 5)=Z)) (a4:e.ds.length<=100000) (o:List Nat) (z:Hd (ab∈o/\∀q,Y.ownBlock=some q->q∈o)) (w:World) (r:Hd (∀y∈o,y<w.heap.size)) (aa:i<=w.heap.size) (am:m1 w i ab Y e) (h:Hd (∀W,Below i w W->i2 ag a2 f F W V)) :
 Calls prog 66 #[pV a2,.agg #[iV c.a,iV c.b,iV c.c,iV c.d,iV c.e],pV ab] w (GD j n i ab Z o w):=by
 have a5:=lh am;have bY:=lh aa;obtain⟨a,G⟩:=xg (s2 e c.e (c.a == 5));obtain⟨g,af⟩:=xg (BQ e c.e);have ak:=lh G;have ax:=lh af;have E:=I.o;have L:=aj.o;unfold Fa at E;unfold GF at L;rw[G,af]at E;rw[G,af]at L;have B:=lh E;have C:=lh L;clear am aa G af E L I aj;go_enter func66,ntmps66;go_wp2_with fail;refine(yq2 i ab Y e c.e (c.a == 5) _ (a5.B I6) a4 (by simp only[wa];have:=bY.o;omega) a ak g ax Z av o z).mono ?_;rintro _ s ⟨K,rfl,al,u⟩;have Q:=lh al;have ao:Hd (hA s w.heap.size 48 [iV c.a,iV c.b,iV c.c,iV c.d,iV c.e]):=((hR w _ _ _ rfl).B (hB bR _)).keep u.keep (fun X=>oo (r.o _ X));have d:Hd (hA s (w.heap.size+1) 150 [iZ,iZ,iZ,iZ,iZ]):=(w3 _ _ _ _ (wa _ _)).keep u.keep (fun X=>oo (r.o _ X));have m:Hd (hx i o w s):=⟨(((Below.refl i w).alloc bY.o _).alloc Gh _).trans u.B,(((hC.refl _ _).alloc _).alloc _).trans u.keep (fun j I=>.inl I)⟩;clear al u;have ar:=ao.cell 0;simp only[gz,gs]at ar;obtain⟨H,S,aw,P,T,-⟩:=d.cS [0,1,2,3,4];obtain⟨ae,ac,ad,au,an,-⟩:=d.fs [0,1,2,3,4];have a1:=ao.lt;have ke:=d.lt;by_cases A:g=0
 ·subst A;have t:¬((0:Int)≠0):=by simp
  by_cases l:c.a=6
  ·obtain rfl:(⟨0,0,0,0,0⟩:R5)=j:=by
    have b:=B.o;rw[if_neg t,if_pos l]at b;exact b
   obtain rfl:0=n:=by have b:=C.o;rw[if_neg t,if_pos l]at b;exact b
   have a3:(c.a == 6)=true:=ss l;clear l t ax C B ak av;go_wp2_with fail;have db:=(((((d.set 0 (iZ)).set 1 (iZ)).set 2 (iZ)).set 3 (iZ)).set 4 (iZ)).B (hB bR (.cells #[iV a.a,iV a.b,iV a.c,iV a.d,iV a.e] 155));refine Kz ?_;unhygienic intros
   refine bodyPost_ret (v:=.tuple #[.agg #[iZ,iZ,iZ,iZ,iZ],iZ]) (by simp[results,results66,go_sem,dJ,bQ,cB,bF,ez]) rfl ⟨K,rfl,Cr E4 Q.o m.o d.o bY.o (r.o _ z.o.1)⟩
  ·have a3:(c.a == 6)=false:=ss l;obtain⟨x,ay⟩:=xg (decide (tc f a.c));have R:Hd (x=true↔tc f a.c):=by
    show _↔_;rw[<-ay];exact decide_eq_true_iff
   clear ay;have D:=lh l;have J:=lh t;clear l t;go_wp2_with fail;refine(Mf ag a2 f F V a.c x R _ (h.o _ (m.B.alloc (nt bY.o m.keep.size) _))).mono ?_;rintro _ ai ⟨rfl,M⟩;have az:Hd (hA ai s.heap.size 155 [iV a.a,iV a.b,iV a.c,iV a.d,iV a.e]):=(hR s _ _ _ rfl).B M;have O:=(d.B (hB bR _)).B M;have yg:Hd (hC [w.heap.size+1] s ai):=((hC.refl _ _).alloc _).B M;clear M H S aw P T ae ac ad au an ar a1 ke;obtain⟨a7,a9,a6,a8,-⟩:=az.cS [0,1,2,3];obtain⟨H,S,aw,P,T,-⟩:=O.cS [0,1,2,3,4];obtain⟨ae,ac,ad,au,an,-⟩:=O.fs [0,1,2,3,4];have ke:=O.lt;clear O;cases x with
   | true =>
    obtain rfl:(⟨0,0,0,0,0⟩:R5)=j:=by have b:=B.o;rw[if_neg J.o,if_neg D.o,if_pos (R.1 rfl)]at b;exact b
    obtain rfl:11=n:=by have b:=C.o;rw[if_neg J.o,if_neg D.o,if_pos (R.1 rfl)]at b;exact b
    go_wp2_with fail;refine bodyPost_ret (v:=.tuple #[.agg #[iZ,iZ,iZ,iZ,iZ],iV 11]) (by simp[results,results66,go_sem,H,S,aw,P,T]) rfl ⟨K,rfl,Cr E4 Q.o m.o d.o bY.o (r.o _ z.o.1)⟩
   | false =>
    have ah:¬tc f a.c:=fun a0=>by have:=R.2 a0;cases this
    obtain rfl:(⟨5,a.c,a.b,a.d,a.a⟩:R5)=j:=by have b:=B.o;rw[if_neg J.o,if_neg D.o,if_neg ah]at b;exact b
    obtain rfl:0=n:=by have b:=C.o;rw[if_neg J.o,if_neg D.o,if_neg ah]at b;exact b
    go_wp2_with fail;refine bodyPost_ret (v:=.tuple #[.agg #[iV 5,iV a.c,iV a.b,iV a.d,iV a.a],iZ]) (by simp[results,results66,go_sem,H,S,aw,P,T]) rfl ⟨K,rfl,Cr E4 Q.o m.o d.o bY.o (r.o _ z.o.1)⟩
 ·obtain rfl:(⟨0,0,0,0,0⟩:R5)=j:=by
   have b:=B.o;rw[if_pos A]at b;exact b
  obtain rfl:g=n:=by have b:=C.o;rw[if_pos A]at b;exact b
  have aA:(g != 0)=true:=ss A;clear A;go_wp2_with fail;have db:=(((((d.set 0 (iZ)).set 1 (iZ)).set 2 (iZ)).set 3 (iZ)).set 4 (iZ)).B (hB bR (.cells #[iV a.a,iV a.b,iV a.c,iV a.d,iV a.e] 155));refine Kz ?_;intro dJ bQ cB bF ez;refine bodyPost_ret (v:=.tuple #[.agg #[iZ,iZ,iZ,iZ,iZ],iV g]) (by simp[results,results66,go_sem,dJ,bQ,cB,bF,ez]) rfl ⟨K,rfl,Cr E4 Q.o m.o d.o bY.o (r.o _ z.o.1)⟩
theorem yj0 (m:d<=f) (b:Nat):∀a:Int,(p6 c d b a).1 <+: (p6 c f b a).1:=by
 induction b with
 | zero=>intro a;exact List.prefix_refl _
 | succ b l =>
  intro a;by_cases k:(nc a c).2=0
  ·obtain⟨i,e⟩:∃i,nc a c=(i,0):=⟨_,Prod.ext rfl k⟩;by_cases g:i<d/\b≠0;·rw[FU e g.1 g.2,FU e (oo g.1) g.2];exact List.cons_prefix_cons.2 ⟨rfl,l _⟩
   ·rw[Fj e g];by_cases j:i<f/\b≠0;·rw[FU e j.1 j.2];exact List.cons_prefix_cons.2 ⟨rfl,List.nil_prefix⟩
    ·rw[Fj e j];exact List.prefix_refl _
  ·rw[Hp k];exact List.nil_prefix
theorem PQ {cyc day day':Int} (c:day<=day') (b:Nat) (a:Int):(p6 cyc day b a).1.length<=(p6 cyc day' b a).1.length:=(yj0 c b a).length_le
theorem ynb {a:Tm} (d:Bv a c=0):∃e,p6 a.cyc c 300 a.start=(e,true)/\C6 a.start c e/\e.length<=300/\a.start<=c/\c<=2932896/\(tt a.start a.cyc c).2=0:=by
 unfold Bv at d;split at d;·cases d
 ·split at d;·cases d
  ·rename_i k g;have b:(tt a.start a.cyc c).2=0:=ss g;have j:=b;unfold tt at b;split at b;·rename_i i;exact absurd b i
   ·split at b;·rename_i f;refine⟨_,Prod.ext rfl f,KC 300 (Prod.ext rfl f),H6 _ _ _ _,by omega,by omega,j⟩
    ·cases b
theorem yv0 {e:Tm} {a q:Ps} (h:v1 e c d f a r x D=(some T,q,y)):T.ls.length=a.bs.length:=by
 have b:=IG h;unfold v1 at h;split at h;·cases h
 split at h;·cases h
 split at h;·cases h
 split at h;·cases h
 ·cases h;rw[<-b];exact EJ _ _ _
theorem TJ {b:Tm} (a:T∈(BK b l c d s).1.o):T∈s.o\/T.ls.length=s.p.bs.length:=by
 unfold BK at a;split at a;·exact .inl a
 ·split at a;·exact .inl a
  ·cases e:v1 b ((s.o.length:Int)+1) c d s.p s.rs (rc b.right b.ts s.X s.Y (BB l s.o c).1).1 (BB l s.o c).1 with
   | mk g f =>
    obtain⟨q,j⟩:=f;rw[e]at a;cases g with
    | none=>exact .inl a
    | some i =>
     simp only[ma,ms]at a;rcases a with a | rfl;·exact .inl a
     ·exact .inr (yv0 e)
theorem Ux {b:Tm} (h:kg b l P d s) (o:C6 c f P) (m:d<f) (j:∀a∈s.o,a.ls.length<=b.ts.length) (g:(q6 b l P d s).2=0) :
 kg b l P (d+1) (q6 b l P d s).1/\∀a∈(q6 b l P d s).1.o,a.ls.length<=b.ts.length:=by
 unfold q6 at g ⊢;split
 ·rename_i k;rw[if_pos k]at g;refine⟨h.endShut o m k _ g,fun a i=>?_⟩;rcases TJ i with e | e;·exact j a e
  ·rw[e];exact Nat.le_of_eq h.bs
 ·rename_i n;exact⟨h.endOn n,fun a i=>j a i⟩
theorem Vz {f:Tm} (u:C6 c d P) (i:Nat):∀(a:Int) (e:RS),kg f l P a e->a+(i:Int)=d->(∀g∈e.o,g.ls.length<=f.ts.length)->(uc f l P i a e).2=0 ->
 kg f l P d (uc f l P i a e).1/\∀g∈(uc f l P i a e).1.o,g.ls.length<=f.ts.length:=by
 induction i with
 | zero=>intro a e h o m b;obtain rfl:a=d:=ss o;exact⟨h.ev,fun g n=>m g n⟩
 | succ i t =>
  intro a e h o m b;unfold uc at b ⊢;split;·rename_i k;rw[if_pos k]at b;exact absurd b k
  ·rename_i k;rw[if_neg k]at b;split;·rename_i j;rw[if_pos j]at b;exact absurd b j
   ·rename_i j;rw[if_neg j]at b;have s:(q6 f l P a (m2 l a e).1).2=0:=ss j;obtain⟨p,r⟩:=Ux h.ev u om (fun g n=>m g n) s;exact t _ _ p om r b
theorem Qu (a:Int):(Ca a).e=a:=rfl
theorem YN {a:Tm} (h:(h6 a l c).e=0):D8 a l c=0/\(vo a l c).2=0/\h6 a l c=⟨(vo a l c).1.p,(vo a l c).1.rs,(vo a l c).1.o,0⟩:=by
 by_cases b:D8 a l c=0
 ·by_cases d:(vo a l c).2=0;·refine⟨b,d,?_⟩;unfold h6;rw[if_neg (by rw[b];simp),if_neg (by rw[d];simp)]
  ·unfold h6 at h;rw[if_neg (by rw[b];simp),if_pos d,Qu]at h;exact absurd h d
 ·unfold h6 at h;rw[if_pos b,Qu]at h;exact absurd h b
structure Cu (t:Tm) (l:List R5) (today:Int) (ps:List (Int×Int)):Prop where
 go:(vo t l today).2=0
 eq:h6 t l today=⟨(vo t l today).1.p,(vo t l today).1.rs,(vo t l today).1.o,0⟩
 sp:p6 t.cyc today 300 t.start=(ps,true)
 ch:C6 t.start today ps
 len:ps.length<=300
 lo:t.start<=today
 hi:today<=2932896
 of':(tt t.start t.cyc today).2=0
 inv:kg t l ps today (vo t l today).1
 ls:∀x∈(vo t l today).1.o,x.ls.length<=t.ts.length
theorem Dn {a:Tm} (r:Cl a l c) (h:(h6 a l c).e=0):∃b,Cu a l c b:=by
 obtain⟨j,i,o⟩:=YN h;rw[LP r]at j;obtain⟨b,g,d,p,n,s,t⟩:=ynb j;have m:vo a l c=uc a l b (c-a.start).toNat a.start (r1 a):=by unfold vo;rw[g]
 have e:=i;rw[m]at e;obtain⟨f,k⟩:=Vz d (c-a.start).toNat a.start (r1 a) (kg.first d) om (by simp[r1]) e;rw[<-m]at f k;exact⟨b,i,o,g,d,p,n,s,t,f,k⟩
theorem Cu.o {a:Tm} (h:Cu a l c P):(h6 a l c).o.length+1=P.length:=by
 rw[h.eq];have e:=h.inv.o;have d:=h.inv.hi;rcases Nat.lt_or_ge ((vo a l c).1.o.length+1) P.length with b | b;·have:=h.ch.early _ b;omega
 ·show(vo a l c).1.o.length+1=P.length;omega
theorem Cu.bs {a:Tm} (h:Cu a l c P):(h6 a l c).p.bs.length=a.ts.length/\(h6 a l c).rs.length=a.ts.length:=by rw[h.eq];exact⟨h.inv.bs,h.inv.rs⟩
theorem Cu.outb {a:Tm} (h:Cu a l c P):∀b∈(h6 a l c).o,b.ls.length<=a.ts.length:=by rw[h.eq];exact h.ls
theorem HW (h:n<L.length):L.getD n q2∈L:=by exact Rh
noncomputable def CJ (b:i0) (c:Bk) (a:R5):Int :=
 if a.a≠2/\¬(1<=a.c/\a.c<=(b.t.ts.length:Int)) then 7
 else if (a.a=7/\(a.d<0\/10000000<a.d))\/(a.a≠7/\(a.d<1\/1000000000000000<a.d)) then 8
 else if a.a=1 then (if b.t.lim<wrap64 (wrap64 (AY b.R.p.bs b.R.p.c b.R.p.d-b.R.p.c)+a.d) then 9 else 0)
 else if a.a=3 then (if a.b<b.t.start\/b.today<a.b then 10 else if tc b a.b then 11 else 0)
 else if a.a=4 then (if b.R.p.bs.getD (a.c-1).toNat 0<a.d then 9 else CO c a.c a.d)
 else 0
noncomputable def r3 (b:i0) (c:Bk) (a:R5):R5 :=
 if CJ b c a≠0 then Sk
 else if a.a=1 then ⟨1,b.today,a.c,a.d,0⟩
 else if a.a=2 then ⟨2,b.today,0,a.d,0⟩
 else if a.a=3 then ⟨3,a.b,a.c,a.d,0⟩
 else if a.a=4 then ⟨4,b.today,a.c,a.d,Eo c a.c a.d⟩
 else ⟨6,b.today,a.c,a.d,0⟩
noncomputable def us (c:i0) (b:Bk) (a:R5):Bk:=if CJ c b a=0/\a.a=4 then CS b a.c c.today a.d else b
noncomputable def l0 (a:i0) (b:R5):R5×Int×Bk :=
 if b.a=5\/b.a=6 then (Fa a a.bk b,GF a a.bk b,DD a.bk b.e (b.a == 5)) else (r3 a a.bk b,CJ a a.bk b,us a a.bk b)
noncomputable def Bm (a:i0) (b:R5):i0×Int :=
 if (l0 a b).2.1≠0 then (a,(l0 a b).2.1)
 else if b.a=6 then ({ a with seq:=a.seq+1,bk:=(l0 a b).2.2 },0)
 else if (xc a (l0 a b).1).2≠0 then (a,(xc a (l0 a b).1).2)
 else ({ (xc a (l0 a b).1).1 with bk:=(l0 a b).2.2 },0)
noncomputable def Bu (a:i0) (b:Int):i0×Int :=
 if b<1\/400<b then (a,1)
 else if (tt a.t.start a.t.cyc (a.today+b)).2≠0 then (a,10)
 else if (h6 a.t a.ev (a.today+b)).e≠0 then (a,(h6 a.t a.ev (a.today+b)).e)
 else ({ a with today:=a.today+b,R:=h6 a.t a.ev (a.today+b),seq:=a.seq+1,iss:=a.iss++(h6 a.t a.ev (a.today+b)).o.drop a.R.o.length },0)
noncomputable def A3 (b:i0) (a:R5):i0×Int :=
 if a.a=8 then Bu b a.b
 else if a.a=9 then (b,0)
 else if a.a=10 then (b,if a.e<1\/(b.iss.length:Int)<a.e then 12 else 0)
 else if a.a=11 then (b,if a.e<1\/(b.R.o.length:Int)<a.e then 12 else 0)
 else if C2 a.a=false then (b,1)
 else Bm b a
theorem RU {α:Type} {a:α×Int} (h:a.2=0):a=(a.1,0):=by rw[<-h]
theorem Ml (a:i0) (b:R5):(∃i,i≠0/\xc a b=(a,i))\/(a.t.rightE b=0/\a.ev.length<2000/\(h6 a.t (s1 a b) a.today).e=0/\xc a b=({ a with ev:=s1 a b,R:=h6 a.t (s1 a b) a.today,seq:=a.seq+1 },0)):=by
 unfold xc;generalize a.t.rightE b=j;generalize h6 a.t (s1 a b) a.today=f;generalize z1 a.R.o f.o=k;by_cases c:j≠0;·rw[if_pos c];exact .inl ⟨_,c,rfl⟩
 ·rw[if_neg c];by_cases g:2000<=a.ev.length;·rw[if_pos g];exact .inl ⟨_,by decide,rfl⟩
  ·rw[if_neg g];by_cases d:f.e≠0;·rw[if_pos d];exact .inl ⟨_,d,rfl⟩
   ·rw[if_neg d];by_cases e:k≠0;·rw[if_pos e];exact .inl ⟨_,e,rfl⟩
    ·rw[if_neg e];exact .inr ⟨by simpa using c,by omega,by simpa using d,rfl⟩
theorem T6 {A':i0} (a:t0 A) (r:E.b<=A.today) (h:xc A E=(A',0)) :
 A'={ A with ev:=s1 A E,R:=h6 A.t (s1 A E) A.today,seq:=A.seq+1 }/\t0 A'/\A.t.rightE E=0/\A.ev.length<2000:=by
 rcases Ml A E with⟨x,m,b⟩ | ⟨i,g,j,b⟩;·rw[h]at b;simp only[Prod.mk.injEq]at b;exact absurd b.2.symm m
 rw[h]at b;simp only[Prod.mk.injEq,and_true]at b;subst b;have e:=O5 a i r g;obtain⟨l,c⟩:=Dn e j;obtain⟨o,f⟩:=Dn a.goods (by rw[a.run];exact a.e);have t:=CT a.goods.terms;have u:=c.o;have n:=f.o;have d:=c.sp;have v:=c.len;rw[f.sp]at d;obtain rfl:o=l:=by simp only[Prod.mk.injEq,and_true]at d;exact d
 have k:=a.run;rw[k]at n;refine⟨rfl,⟨e,Sj a.asc E,rfl,j,?_,a.issb,?_,?_,c.bs.1,c.bs.2,?_,a.bkd,a.bkl⟩,i,g⟩;·show A.iss.length=(h6 A.t (s1 A E) A.today).o.length;rw[a.issl];omega
 ·show(h6 A.t (s1 A E) A.today).o.length<=300;omega
 ·intro s p;have:=c.outb _ (HW p);show((h6 A.t (s1 A E) A.today).o.getD s q2).ls.length<=1000;omega
 ·show 0<=A.seq+1;have:=a.seq;omega
theorem t0.book (h:t0 A) {a:Bk} (b:∀c∈a.ds,c.c<=A.today) (d:a.ds.length<=2000):t0 { A with bk:=a }:=
 ⟨h.goods,h.asc,h.run,h.e,h.issl,h.issb,h.outl,h.outb,h.bs,h.rs,h.seq,b,d⟩
theorem t0.more (h:t0 A):t0 { A with seq:=A.seq+1 }:=
 ⟨h.goods,h.asc,h.run,h.e,h.issl,h.issb,h.outl,h.outb,h.bs,h.rs,(show 0<=A.seq+1 from oo h.seq),h.bkd,h.bkl⟩
theorem YR {e:Bk} (g:∀b∈e.ds,b.c<=y) (k:e.ds.length<=2000) (h:d<=y):(∀b∈(CS e c d f).ds,b.c<=y)/\(CS e c d f).ds.length<=2000:=by
 unfold CS;split
 ·rename_i a;refine⟨fun b i=>?_,?_⟩
  ·simp only[ma,ms]at i;rcases i with j | rfl;·exact g b j
   ·exact h
  ·have j:¬2000<=e.ds.length:=by
    unfold CO at a;split at a;·cases a
    split at a;·cases a
    split at a;·cases a
    split at a;·cases a
    ·assumption
   simp only[la,List.length_singleton];omega
 ·exact⟨g,k⟩
theorem Mb (a:Bk) (b:Int) (c:Bool):(Dx a b c).c=(a.ds.getD (b-1).toNat Sk).c:=rfl
theorem Sa {a:Bk} (h:BQ a c=0):(c-1).toNat<a.ds.length:=by
 unfold BQ at h;split at h;·cases h
 ·omega
theorem ON (h:n<l.length):l.getD n Sk∈l:=by exact Rh
theorem T9 {b:Bk} (e:∀a∈b.ds,a.c<=d) (f:b.ds.length<=2000):(∀a∈(DD b c D).ds,a.c<=d)/\(DD b c D).ds.length<=2000:=by
 unfold DD;split
 ·rename_i j;refine⟨fun a g=>?_,by simpa using f⟩;rcases List.mem_or_eq_of_mem_set g with i | rfl;·exact e a i
  ·rw[Mb];exact e _ (ON (Sa j))
 ·exact⟨e,f⟩
theorem Us (a:t0 A) (b:R5):(∀c∈(l0 A b).2.2.ds,c.c<=A.today)/\(l0 A b).2.2.ds.length<=2000:=by
 unfold l0;split;·exact T9 a.bkd a.bkl
 ·show(∀c∈(us A A.bk b).ds,c.c<=A.today)/\(us A A.bk b).ds.length<=2000;unfold us;split;·exact YR a.bkd a.bkl (Int.le_refl _)
  ·exact⟨a.bkd,a.bkl⟩
theorem T1 (f:t0 A) (a:GF A A.bk E=0) (e:E.a≠6):(Fa A A.bk E).b<=A.today:=by
 unfold GF at a;unfold Fa;by_cases b:BQ A.bk E.e≠0;·rw[if_pos b]at a;exact absurd a b
 ·rw[if_neg b,if_neg e]at a ⊢;by_cases c:tc A (s2 A.bk E.e (E.a == 5)).c;·rw[if_pos c]at a;cases a
  ·rw[if_neg c];have d:BQ A.bk E.e=0:=ss b;show(s2 A.bk E.e (E.a == 5)).c<=_;unfold s2;rw[if_pos d,Mb];exact f.bkd _ (ON (Sa d))
theorem TM {e:Bk} (a:CJ A e E=0) (f:E.a=3):E.b<=A.today:=by
 unfold CJ at a;by_cases b:E.a≠2/\¬(1<=E.c/\E.c<=(A.t.ts.length:Int));·rw[if_pos b]at a;cases a
 rw[if_neg b]at a;by_cases c:(E.a=7/\(E.d<0\/10000000<E.d))\/(E.a≠7/\(E.d<1\/1000000000000000<E.d));·rw[if_pos c]at a;cases a
 rw[if_neg c,if_neg om,if_pos f]at a;by_cases d:E.b<A.t.start\/A.today<E.b;·rw[if_pos d]at a;cases a
 ·omega
theorem X7 {d:Bk} (f:CJ A d E=0):(r3 A d E).b<=A.today:=by
 unfold r3;rw[if_neg (by rw[f];simp)];by_cases e:E.a=1;·rw[if_pos e];exact Int.le_refl _
 rw[if_neg e];by_cases b:E.a=2;·rw[if_pos b];exact Int.le_refl _
 rw[if_neg b];by_cases a:E.a=3;·rw[if_pos a];show E.b<=A.today;exact TM f a
 rw[if_neg a];by_cases c:E.a=4;·rw[if_pos c];exact Int.le_refl _
 ·rw[if_neg c];exact Int.le_refl _
theorem NR (e:t0 A) {c:R5} (a:(l0 A c).2.1=0) (d:c.a≠6):(l0 A c).1.b<=A.today:=by
 unfold l0 at a ⊢;split;·rename_i b;rw[if_pos b]at a;exact T1 e a d
 ·rename_i b;rw[if_neg b]at a;exact X7 a
theorem UT (b:t0 A) (a:R5):t0 (Bm A a).1/\(Bm A a).1.t=A.t/\(Bm A a).1.today=A.today/\(Bm A a).1.seq<=A.seq+1/\(Bm A a).1.iss=A.iss:=by
 have d:=Us b a;have e:A.seq<=A.seq+1:=om;unfold Bm;split;·exact⟨b,rfl,rfl,e,rfl⟩
 rename_i i;have l:(l0 A a).2.1=0:=ss i;split;·exact⟨b.more.book d.1 d.2,rfl,rfl,Int.le_refl _,rfl⟩
 rename_i g;split;·exact⟨b,rfl,rfl,e,rfl⟩
 rename_i n;have m:(xc A (l0 A a).1).2=0:=ss n;obtain⟨c,o,r,s⟩:=T6 b (NR b l g) (A':=(xc A (l0 A a).1).1) (RU m);have p:(xc A (l0 A a).1).1.t=A.t:=by rw[c]
 have f:(xc A (l0 A a).1).1.today=A.today:=by rw[c]
 have k:(xc A (l0 A a).1).1.seq=A.seq+1:=by rw[c]
 have j:(xc A (l0 A a).1).1.iss=A.iss:=by rw[c]
 exact⟨o.book (by rw[f];exact d.1) d.2,p,f,Int.le_of_eq k,j⟩
theorem Uf (a:t0 A) (b:Int):t0 (Bu A b).1/\(Bu A b).1.t=A.t/\(Bu A b).1.seq<=A.seq+1:=by
 have e:A.seq<=A.seq+1:=om;unfold Bu;split;·exact⟨a,rfl,e⟩
 rename_i v;split;·exact⟨a,rfl,e⟩
 split;·exact⟨a,rfl,e⟩
 rename_i x t;have k:(h6 A.t A.ev (A.today+b)).e=0:=ss t;have i:Cl A.t A.ev (A.today+b):=⟨a.goods.terms,a.goods.events,fun d g=>oo (a.goods.late d g),a.goods.len⟩;obtain⟨o,c⟩:=Dn i k;obtain⟨r,j⟩:=Dn a.goods (by rw[a.run];exact a.e);have y:=CT a.goods.terms;have z:=c.o;have p:=j.o;have B:=c.len;have C:r.length<=o.length:=by have h:=PQ (cyc:=A.t.cyc) (day:=A.today) (day':=A.today+b) om 300 A.t.start;rw[c.sp,j.sp]at h;exact h
 rw[a.run]at p;refine⟨⟨i,a.asc,rfl,k,?_,?_,?_,?_,c.bs.1,c.bs.2,?_,fun d g=>?_,a.bkl⟩,rfl,Int.le_refl _⟩;·show(A.iss++(h6 A.t A.ev (A.today+b)).o.drop A.R.o.length).length=_;rw[la,List.length_drop,a.issl];show _=(h6 A.t A.ev (A.today+b)).o.length;omega
 ·intro m f;have u:=HW f;rcases ma.1 u with h | h;·obtain⟨n,l,s⟩:=List.getElem_of_mem h;have:=a.issb n l;simp only[List.getD,List.getElem?_eq_getElem l,Option.getD_some,s]at this;exact this
  ·have:=c.outb _ (List.mem_of_mem_drop h);omega
 ·show(h6 A.t A.ev (A.today+b)).o.length<=300;omega
 ·intro m f;have:=c.outb _ (HW f);show((h6 A.t A.ev (A.today+b)).o.getD m q2).ls.length<=1000;omega
 ·show 0<=A.seq+1;have:=a.seq;omega
 ·show d.c<=A.today+b;have:=a.bkd d g;omega
theorem YS (a:t0 A) (c:R5):t0 (A3 A c).1/\(A3 A c).1.t=A.t/\(A3 A c).1.seq<=A.seq+1:=by
 have b:A.seq<=A.seq+1:=om;unfold A3;split;·exact Uf a _
 split;·exact⟨a,rfl,b⟩
 split;·exact⟨a,rfl,b⟩
 split;·exact⟨a,rfl,b⟩
 split;·exact⟨a,rfl,b⟩
 ·have h:=UT a c;exact⟨h.1,h.2.1,h.2.2.2.1⟩
theorem Fl.reslice {a:Option Addr} (h:Fl n m w (.slice a m k) C) (f:i<=m) :
 Fl n (m-i) w (.slice (if k=i then a else a.map (fun g=>g.add (i*n))) (m-i) (k-i)) (C.drop (i*n)):=by
 obtain⟨o,l,D,x,b,z,d,r⟩:=h;cases b;refine⟨by rw[List.length_drop,o,Nat.sub_mul],fun t c=>l t (List.mem_of_mem_drop c),_,_,rfl,by omega,⟨by omega,fun b=>?_⟩,fun B=>?_⟩
 ·by_cases u:k=i;·omega
  ·rw[if_neg u]at b;cases a with
   | none=>have:=d.2 rfl;omega
   | some v=>simp at b
 ·obtain⟨p,e,rfl,c⟩:=r om;rw[if_neg om];refine⟨p,e+i*n,by simp[Addr.add_lit],fun s A=>?_⟩;have j:i*n+s<m*n:=by
   have:=Nat.sub_mul m i n;have y:i*n<=m*n:=Nat.mul_le_mul_right _ f;omega
  rw[Nat.add_assoc,c _ j,List.getElem?_drop]
theorem s4.reslice {a:Option Addr} (h:s4 w (.slice a n m) L C) (d:L.length=n) (b:k<=n) :
 s4 w (.slice (if m=k then a else a.map (fun c=>c.add (k*9))) (n-k) (m-k)) (L.drop k) (C.drop k):=by
 subst d;refine⟨h.1.drop k,?_⟩;rw[List.length_drop,<-VD h.1.length];exact h.2.reslice b
theorem i2.more (h:i2 n m A F w I) (e:BW w W) (hge:w.heap.size<=k) (f:k<W.heap.size):i2 n m A (k::F) W I:=by
 have b:=h.B e;have g:=(h.lt m h.gF);refine⟨b.blk,mo _ h.gF,fun d a=>?_,h.rd.B e (fun d a=>?_),b.iss,fun q c=>mo _ (h.issF q c),b.adj,fun q c=>mo _ (h.adjF q c)⟩
 ·rcases mc.1 a with rfl | a;·exact⟨by omega,f⟩
  ·exact b.lt d a
 ·rcases mc.1 a with rfl | a;·exact .inr hge
  ·exact .inl a
theorem i2.put (h:i2 n m A F w I) (c:hC [k] w W) (o:k∈F) (g:hA w k e C) (p:e≠89) (l:e≠43) (t:e≠175):i2 n m A F W I:=by
 refine⟨h.blk.keep c (fun a=>?_),h.gF,fun d b=>⟨(h.lt d b).1,Nat.lt_of_lt_of_le (h.lt d b).2 c.size⟩,h.rd.step c (fun d b=>.inl (by simp only[ms]at b;exact b▸o)) (fun d b=>.inl b),p1 h.iss c (fun q f a=>?_),h.issF,?_,h.adjF⟩;·simp only[ms]at a;exact n3 h.blk g (Ne.symm p) a
 ·simp only[ms]at a;subst a;exact hh h.iss g l f.symm
 ·obtain⟨s,r,j,u,i⟩:=h.adj;refine⟨s,r,j,u,p1 i c (fun q f a=>?_)⟩;simp only[ms]at a;subst a;exact hh i g t f.symm
theorem XB (H:i2 n m A F W I) (ai:Rn) (B s:Int) (c:List St) {pv' rv' nv':Value} {nvs' ivs':List Value}
 (af:A.seq<=s) (G:Rd F W (fun d=>Sl .i64 d pv' ai.p.bs/\Sl .i64 d rv' ai.rs/\s4 d nv' ai.o nvs')) (E:Rd F i6 (fun d=>h9 d c ivs'))
 (l:BW W i6) (D:Y.ownsRow n 43 9 v k C) (P:k=c.length) (O:C=n1 c ivs')
 (o:i6.grownBy Y I.iv.ownBlock) (jd:v.ownBlock=I.iv.ownBlock\/v.ownBlock=some i6.heap.size)
 (f:hC [m] Y Z)
 (X:hA Z m 89 (BI { A with today:=B,R:=ai,seq:=s,iss:=c } { I with pv:=pv',rv:=rv',nv:=nv',nvs:=nvs',iv:=v,ivs:=ivs' })) :
 Fs n m { A with today:=B,R:=ai,seq:=s,iss:=c } F W Z:=by
 subst P;subst O;obtain⟨u,M,S,K,g⟩:=H.adj;have ac:W.heap.size<=i6.heap.size:=l.size;have y:∀x∈[m],x∈F:=fun x aj=>by simp only[ms]at aj;exact aj▸H.gF
 have z:∀x∈v.ownBlock.toList++F,x∈F\/W.heap.size<=x:=fun x aj=>by
  rcases ma.1 aj with ag | ag;·exact Kj
  ·exact .inl ag
 have T:∀x∈v.ownBlock.toList++F,x∈F\/i6.heap.size<=x:=fun x aj=>by
  rcases ma.1 aj with ag | ag;·exact Kj
  ·exact .inl ag
 have J:hC F W i6:=hC.of_below l;have r:hC F i6 Y:=(hC.refl _ _).grown o (fun t j=>.inl (H.issF t j));have V:hC F W Y:=J.trans r (fun x aj=>.inl aj);have lU:hT F W (v.ownBlock.toList++F) Z:=⟨V.trans f (fun x aj=>.inl (y x aj)),z⟩;have aa:hT F i6 (v.ownBlock.toList++F) Z:=⟨r.trans f (fun x aj=>.inl (y x aj)),T⟩;have p:hC (m::I.iv.ownBlock.toList) W Z:=by refine(((hC.of_below l:hC (m::I.iv.ownBlock.toList) W i6)).grown o (fun t j=>.inl (mo _ (tl.2 j)))).trans f (fun x aj=>.inl ?_);simp only[ms]at aj;exact aj▸me ..
 have ab:m<W.heap.size:=H.blk.lt;have t9:Z.ownsRow n 43 9 v c.length (n1 c ivs'):=p1 D f (fun q ae a=>by
  simp only[ms]at a;subst a;rcases jd with dX | dX;·exact hh H.iss H.blk Iv (dX▸ae).symm
  ·have fH:some i6.heap.size=some q:=dX▸ae;simp only[Option.some.injEq]at fH
   omega)
 refine⟨v.ownBlock.toList++F,_,⟨X,List.mem_append_right _ H.gF,fun x aj=>⟨?_,?_⟩,?_,t9,fun q ae=>List.mem_append_left _ (tl.2 ae),⟨u,M,?_,K,?_⟩,fun q ae=>List.mem_append_right _ (H.adjF q ae)⟩,lU,fun x aj=>List.mem_append_right _ aj,fun b e ad i Q L ah=>i.keep p (fun a=>?_)⟩
 ·rcases z x aj with ag | ag;·exact(H.lt x ag).1
  ·have:=(H.lt m H.gF);omega
 ·exact N9
 ·exact((lU.rd (H.rd.and G)).and (aa.rd E)).imp fun d q=>⟨q.1.1.1,q.1.1.2.1,q.1.1.2.2.1,q.1.2.1,q.1.2.2.1,q.1.2.2.2,q.2⟩
 ·show u<=s.toNat*400000;have:A.seq.toNat<=s.toNat:=om;exact nt S (Nat.mul_le_mul_right _ this)
 ·exact p1 g p (fun q ae a=>by
   rcases mc.1 a with rfl | a;·exact hh g H.blk Iv ae.symm
   ·exact DZ g H.iss Iv ae (tl.1 a))
 ·rcases mc.1 a with rfl | a;·exact n3 i H.blk Q rfl
  ·exact hh H.iss i L (tl.1 a).symm
theorem hC.setRow (h:hC F W Y) (g:n∈F\/W.heap.size<=n) (b:Array Value):hC F W (Y.setRow n b):=
 ⟨h.os,h.tape,h.output,by rw[size_setRow];exact h.size,fun a f d=>(Sb Y n a b (fun e=>by
  subst e;rcases g with c | c;·exact d c
  ·omega)).trans (h.block a f d)⟩
theorem CN (j:i2 n m A G W I) (c:hT F w G W) (r:∀b∈F,b∈G) (d:k∈G) (s:hA W k 45 C) (g:q0 w W) (u:w.heap.size<=k) (a:Array Value):Fs n m A F w (W.setRow k a):=
 ⟨G,I,j.put ((hC.refl _ _).setRow (.inl (me ..)) a) d s Iv Iv Iv,⟨c.keep.setRow (c.new k d) a,c.new⟩,r,fun b t f e o i p=>(g b t f e o i p).keep ((hC.refl [k] W).setRow (.inl (me ..)) a) (fun l=>by
  simp only[ms]at l;have:=e.lt
  omega)⟩
def KG (e:Int) (i c:Nat) (b:i0) (f:List Nat) (w:World) (g:Ending) (d:World):Prop:=∃a,g=.returned a/\Cc e a/\Fs i c b f w d
end Go.Proofs.YtkongpjpkpfniaaGreat

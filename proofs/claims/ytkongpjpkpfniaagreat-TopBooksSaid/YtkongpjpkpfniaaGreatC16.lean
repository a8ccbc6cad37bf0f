/- TopBooks, a part. -/
import Derived.Test.YtkongpjpkpfniaaGreatC15
set_option linter.unusedVariables false
set_option linter.unusedSimpArgs false
set_option maxRecDepth 100000
set_option maxHeartbeats 6400000
namespace Go.Proofs.YtkongpjpkpfniaaGreat
open Go.RowKit Go.Proofs.Tryz
variable {a:Act} {Q:Exit->Act->World->Prop} {c d f y z:Int} {r x:List Int} {F G:List Nat} {L:List St} {C X:List Value} {M g i j k m n:Nat} {O:Oper} {p q:Prop} {e:TypeId} {V u v:Value} {W Y w:World}
theorem Lp (h:q:=by
 have bz:Hd (1<=k/\k<=8):=by show _/\_;omega
 have vl:(k:Int)≠0:=om;obtain⟨g0,p8,qY,Ar,As,At,Au,-⟩:=cT.cS [0,1,2,3,4,5,6];have ew:=cT.lt;have bI:Hd (wr.heap[w.heap.size+1]?=some (.cells #[iZ,sZ,iZ,iZ,iZ,iZ,iZ] 24 (0,0))):=sn.B mF.o
 go_wp2_with (with_reducible refine Hk rfl (.tmp 2) (.tmp 85) rfl rfl (w.heap.size+1) #[iV bQ,.slice gq k fE,iV fK,iV mf,iV ez,iV mG,iV c'] rfl rfl _ bI.o rfl rfl IA ?_)
 refine bodyPost_ret (v:=.agg #[iV bQ,.slice gq k fE,iV fK,iV mf,iV ez,iV mG,iV c']) (results_cell_row (p:=2) (ty:=24) rfl _ _ (w.heap.size+1) 24 _ (0,0) _ rfl (setRow_heap _ _ _ _ _ _ bI.o) underlying24 rfl (by rw[H5];rfl)) rfl ?_;exact SK (h7.of_fl (Fl.of_own (by rw[bp.1];exact lY.o) (F3 g9))) (fun b ae ah c I _ a0=>by
  have:=(lY.lt b (by rw[I];rfl)).1;have:=p9.o;simp only[ms]at a0
  omega) (hJ qC.o mF.o) (o2 bp.1 bz.o) bp.2 dj.1 dj.2.1 dj.2.2.1 dj.2.2.2.1 dj.2.2.2.2 wf.o _):q:=h
theorem Yb:(prog.info? 48).map (fun a=>(a.zero,a.size,a.bytes))=some (some (.agg #[iZ,iZ,iZ,iZ,iZ]),5,40):=by kernel_rfl
def VQ (d:Nat) (w:World) (e:Ending) (b:World):Prop:=∃a c,e=.returned a/\h4 b a c/\c.length<=d/\BW w b
theorem KD (h:w.ownsRow n e m v k C):∃a b,v=.slice a k b:=by
 obtain⟨_,⟨rfl,rfl⟩ | ⟨_,_,_,rfl,_⟩⟩:=h;·exact⟨_,_,rfl⟩
 ·exact⟨_,_,rfl⟩
theorem VH (T) (ar:List R5) (m:Nat) (al:m<=1000) (w:World) (aQ:h4 w T ar):Calls prog 7 #[T,iV (m:Int)] w (VQ m w):=by
 have am:=lh aQ;obtain⟨av,ay,rfl⟩:=aQ.shape;refine S1 ?_;intro gv ik il;have ab:=lh al;clear aQ;obtain⟨L,O,F,H,J⟩:=info_parts Yb;go_enter func7,ntmps7;go_wp2_with fail;go_loopg [5,6,7] ar.length (fun g y d G wr=>∃(k a:Nat) (g9:List R5) (n:Int),k+g=ar.length/\G=iV (k:Int)/\d=iV n/\a=g9.length/\a<=m/\Hd (wr.ownsRow w.heap.size 48 5 y a (k8 g9))/\Hd (BW w wr));case atStart=>exact⟨0,0,[],0,by omega,rfl,rfl,rfl,Nat.zero_le _,World.ownsRow_nil _ _ _ _,bR⟩
 case round =>
  obtain⟨k,a,g9,n,e,rfl,rfl,ac,a0,lY,dc⟩:=hrel;obtain⟨af,ae,rfl⟩:=KD lY.o;have eN:=lh (An ac a0);clear ac a0;cases gk with
  | zero=>have ad:¬((k:Int)<ar.length):=om;exact RR
  | succ E =>
   have ad:(k:Int)<ar.length:=om;by_cases a0:a<m
   ·have aj:(a:Int)<m:=om;obtain⟨b,o,G,rfl,⟨Q,I,K,M,P⟩,ao⟩:=(am.B dc.o).get (show k<ar.length by omega);refine Pp ?_;intro dO;have t:=lh a0;have D:=lh e;obtain⟨r,l,v,s,x⟩:=G;simp only at Q I K M P;clear ao a0 e;obtain⟨f,S,an,i,ak⟩:∃C,wr.alloc (.cells #[iV r,iV l,iV v,iV s,iV x] 48)=C/\Hd (hA C wr.heap.size 48 [iV r,iV l,iV v,iV s,iV x])/\Hd (BW w C)/\Hd (BW wr C):=⟨_,rfl,hR wr _ _ _ rfl,hB dc.o _,hB bR _⟩;go_upto_region 7 with fail;try with_reducible rw[S]
    clear S Q I K M P;obtain⟨Q,I,K,M,P,-⟩:=an.cS [0,1,2,3,4];have j:Hd (f.ownsRow w.heap.size 48 5 (.slice af a ae) a (k8 g9)):=ic lY.o ak.o;have Y:a+1<=maxLen:=by have:=t.o;have:=ab.o;unfold maxLen;omega
    have W:(a+1)*40<=140737488355328:=by have:=t.o;have:=ab.o;omega
    have aa:w.heap.size<=f.heap.size+1:=nt i.size (Nat.le_succ _);have c:=lh (An Y (An W aa));clear Y W aa;obtain⟨q,au⟩:=xg (wrap64 (n+l));by_cases Z:r=8
    ·subst Z;by_cases ax:0<l
     ·by_cases aw:400<q
      ·go_wp2_with fail;go_roundg E;case measure=>omega
       case rel=>exact⟨k+1,a,g9,n,oo D.o,by go_num,rfl,eN.1,eN.2,j.o,i.o⟩
      ·go_wp2_with (at_builtin;refine BS _ rfl (.tmp 42) (.tmp 44) 25 rfl w.heap.size 48 L (.agg #[iZ,iZ,iZ,iZ,iZ]) 5 40 underlying25 O F H J rfl (by decide) _ _ _ rfl (j.alloc _) (Ad f.heap.size 0) 1 1 [_,_,_,_,_] rfl rfl (fun V z ag=>by rw[Addr.add_lit,(hR f _ _ _ rfl).cell,Nat.zero_add];exact ag) (fun z ag=>by simp only[mc,nn,or_false]at ag;rcases ag with rfl | rfl | rfl | rfl | rfl <;> rfl) c.1 c.2.1 (by rw[wa];exact c.2.2) ?_;intro X R ai ah u;have A:=lh ai;have B:=lh ah;clear ai ah u)
       go_roundg E;case measure=>omega
       case rel=>exact⟨k+1,a+1,g9++[⟨8,l,v,s,x⟩],q,oo D.o,by go_num,rfl,by rw[la,<-eN.1];rfl,t.o,(show World.ownsRow _ _ _ _ _ _ _ from by rw[Cq];exact A.o),(hB i.o _).grown B.o (hB i.o _).size (fun k e=>(j.lt k e).1)⟩
     ·go_wp2_with (at_builtin;refine BS _ rfl (.tmp 42) (.tmp 44) 25 rfl w.heap.size 48 L (.agg #[iZ,iZ,iZ,iZ,iZ]) 5 40 underlying25 O F H J rfl (by decide) _ _ _ rfl (j.alloc _) (Ad f.heap.size 0) 1 1 [_,_,_,_,_] rfl rfl (fun V z ag=>by rw[Addr.add_lit,(hR f _ _ _ rfl).cell,Nat.zero_add];exact ag) (fun z ag=>by simp only[mc,nn,or_false]at ag;rcases ag with rfl | rfl | rfl | rfl | rfl <;> rfl) c.1 c.2.1 (by rw[wa];exact c.2.2) ?_;intro X R ai ah u;have A:=lh ai;have B:=lh ah;clear ai ah u)
      go_roundg E;case measure=>omega
      case rel=>exact⟨k+1,a+1,g9++[⟨8,l,v,s,x⟩],n,oo D.o,by go_num,rfl,by rw[la,<-eN.1];rfl,t.o,(show World.ownsRow _ _ _ _ _ _ _ from by rw[Cq];exact A.o),(hB i.o _).grown B.o (hB i.o _).size (fun k e=>(j.lt k e).1)⟩
    ·have az:(r == 8)=false:=ss Z
     go_wp2_with (at_builtin;refine BS _ rfl (.tmp 42) (.tmp 44) 25 rfl w.heap.size 48 L (.agg #[iZ,iZ,iZ,iZ,iZ]) 5 40 underlying25 O F H J rfl (by decide) _ _ _ rfl (j.alloc _) (Ad f.heap.size 0) 1 1 [_,_,_,_,_] rfl rfl (fun V z ag=>by rw[Addr.add_lit,(hR f _ _ _ rfl).cell,Nat.zero_add];exact ag) (fun z ag=>by simp only[mc,nn,or_false]at ag;rcases ag with rfl | rfl | rfl | rfl | rfl <;> rfl) c.1 c.2.1 (by rw[wa];exact c.2.2) ?_;intro X R ai ah u;have A:=lh ai;have B:=lh ah;clear ai ah u)
     go_roundg E;case measure=>omega
     case rel=>exact⟨k+1,a+1,g9++[⟨r,l,v,s,x⟩],n,oo D.o,by go_num,rfl,by rw[la,<-eN.1];rfl,t.o,(show World.ownsRow _ _ _ _ _ _ _ from by rw[Cq];exact A.o),(hB i.o _).grown B.o (hB i.o _).size (fun k e=>(j.lt k e).1)⟩
   ·have aj:¬(a:Int)<m:=om;exact RR
def MK (w:World) (d:Ending) (c:World):Prop:=∃(a:Tm) (b:Value),d=.returned (.agg (a.cells b).toArray)/\a.right=true/\(10957<=a.start/\a.start<=11400)/\h7 c b a.ts/\BW w c
theorem EN (c:Int) (a:Nat) (g:0<a) (i:a<=1000000000):∃b:Int,(IntKind.u64.wrap c).tmod (a:Int)=b/\0<=b/\b<(a:Int)/\wrap64 b=b:=by
 have f:0<=IntKind.u64.wrap c:=by rw[IntKind.wrap_u64];omega
 have e:=Int.emod_nonneg (IntKind.u64.wrap c) (show(a:Int)≠0 by omega);have d:=Int.emod_lt_of_pos (IntKind.u64.wrap c) (show(0:Int)<a by omega);rw[<-Int.tmod_eq_emod_of_nonneg f]at e d;exact⟨_,rfl,e,d,wi _ ⟨by omega,by omega⟩⟩
theorem yxh:(prog.info? 81).map (fun a=>(a.zero,a.size,a.bytes))=some (some (.agg #[iZ,.bool false]),2,16):=by kernel_rfl
theorem H5:(prog.info? 24).map (·.size)=some 7:=by kernel_rfl
theorem Hk {g:Array Oper} {rest:List Oper} (k:O.guard=none) (e f:Operand) (n:O.op=.store 24 e f)
 (j:O.dst=none) (c:Nat) (b:Array Value) (r:a.eval e=pV c) (o:a.eval f=.agg b) (d:Array Value) (l:w.heap[c]?=some (.cells d 24 (0,0))) (i:b.size=7) (p:d.size=7)
 (m:b.all (·.oneCell')=true) (h:wpList prog g Q rest a (w.setRow c b)):wpList prog g Q (O::rest) a w:=
 wpList_store_rowTo k 24 e f n j c b r o 24 d l (by rw[H5,i]) (by rw[i,p]) m h
theorem SK {a:Int} {l:List (Int×Bool)} (j:h7 W v l) (e:hL [w.heap.size+1] v) (b:BW w W) (s:1<=l.length/\l.length<=8) (g:BV l=true)
 (o:0<=c/\c<100000) (m:1<=d/\d<=28) (r:1<=f/\f<=25) (n:0<=y/\y<100) (p:0<=z/\z<101) (i:10957<=a/\a<=11400) (k:Array Value) :
 MK w (.returned (.agg #[iV c,v,iV d,iV f,iV y,iV z,iV a])) (W.setRow (w.heap.size+1) k):=by
 refine⟨⟨c,l,d,f,y,z,a⟩,v,rfl,?_,i,j.keep (F:=[w.heap.size+1]) ((hC.refl _ _).setRow (.inl (me ..)) _) e,Bd b om _⟩;unfold Tm.right hu;simp only[g,ba,B9,and_true];omega
theorem Z6 (h:hA W n 81 [iV 500000,.bool false]):h7 W (sL n 0 1 1) [(500000,false)]:=by refine h7.of_fl (l:=[(500000,false)]) ⟨rfl,F3 _,_,_,rfl,nr _,⟨by simp[maxLen],fun a=>by cases a⟩,fun _=>⟨n,0,rfl,fun b c=>?_⟩⟩;rw[h.cell,Nat.zero_add];rfl
theorem Z2 (t:Tm) (a4) (w:World) (ar:h7 w a4 t.ts):Calls prog 6 #[.agg (t.cells a4).toArray] w (MK w):=by
 have C:=lh ar;obtain⟨z,s,rfl⟩:=ar.shape;obtain⟨f,d,m,av,al,i,O⟩:=t;simp only at *;unfold Tm.cells;simp only;clear ar;obtain⟨bS,aM,ad,bl,bo⟩:∃a,((w.alloc (.cells #[iV f,.slice z d.length s,iV m,iV av,iV al,iV i,iV O] 24)).alloc (.cells #[iZ,sZ,iZ,iZ,iZ,iZ,iZ] 24))=a/\Hd (hA a w.heap.size 24 [iV f,.slice z d.length s,iV m,iV av,iV al,iV i,iV O])/\Hd (hA a (w.heap.size+1) 24 [iZ,sZ,iZ,iZ,iZ,iZ,iZ])/\Hd (BW w a) :=
  ⟨_,rfl,(hR w _ _ _ rfl).B (hB bR _),hR _ _ _ _ (wa _ _),hB (hB bR _) _⟩
 go_enter func6,ntmps6;go_upto_region 1 with fail;try with_reducible rw[aM]
 clear aM;have x:=ad.cell 6;simp only[gz,gs]at x;have bJ:=ad.frozen 6;go_upto_region 2 with fail;obtain⟨W,a2,bH,bj,aZ⟩:=EN O 400 Iv Iv;have V:wrap64 (10957+W)=10957+W:=wi _ ⟨by omega,by omega⟩;have aP:(IntKind.u64.wrap O).tmod 400=W:=a2;rw[aP,aZ,V];obtain⟨c',aE,wf⟩:∃c',10957+W=c'/\Hd (10957<=c'/\c'<=11400):=⟨_,rfl,by show _/\_;omega⟩;rw[aE];obtain⟨cg,aK,af,a5,T⟩:∃a,bS.setCell (Ad w.heap.size 6) (iV c')=a/\Hd (hA a w.heap.size 24 [iV f,.slice z d.length s,iV m,iV av,iV al,iV i,iV c'])/\Hd (hA a (w.heap.size+1) 24 [iZ,sZ,iZ,iZ,iZ,iZ,iZ])/\Hd (BW w a):=⟨_,rfl,ad.set 6 _,bl.setOther om _ _,k1 bo.o (nr _)⟩;with_reducible rw[aK]
 clear aK a2 aP bH bj aZ V aE x bJ;obtain⟨J,v,D,G,H,L,x,-⟩:=af.cS [0,1,2,3,4,5,6];cases M:hu f d m av al i c' with
 | true =>
  have Y:Hd ((if hu f d m av al i c'=true then (0:Int) else 6)=0):=by rw[M];rfl
  have bw:=lh M;clear M;go_wp2_with fail;refine(EE _ d f m av al i c' 0 Y _ (C.B T.o)).mono ?_;rintro _ n ⟨rfl,b1⟩;have cc:=lh (af.B b1);have sn:=lh (a5.B b1);have qC:Hd (BW w n):=hJ T.o b1;clear J v D G H L x b1;obtain⟨J,v,D,G,H,L,x,-⟩:=cc.cS [0,1,2,3,4,5,6];have bI:Hd (n.heap[w.heap.size+1]?=some (.cells #[iZ,sZ,iZ,iZ,iZ,iZ,iZ] 24 (0,0))):=sn.o
  go_wp2_with (with_reducible refine Hk rfl (.tmp 2) (.tmp 15) rfl rfl (w.heap.size+1) #[iV f,.slice z d.length s,iV m,iV av,iV al,iV i,iV c'] rfl rfl _ bI.o rfl rfl IA ?_)
  refine bodyPost_ret (v:=.agg #[iV f,.slice z d.length s,iV m,iV av,iV al,iV i,iV c']) (results_cell_row (p:=2) (ty:=24) rfl _ _ (w.heap.size+1) 24 _ (0,0) _ rfl (setRow_heap _ _ _ _ _ _ bI.o) underlying24 rfl (by rw[H5];rfl)) rfl ⟨⟨f,d,m,av,al,i,c'⟩,.slice z d.length s,rfl,bw.o,wf.o,?_,?_⟩;·exact(C.B qC.o).keep (F:=[w.heap.size+1]) ((hC.refl _ _).setRow (.inl (me ..)) _) (Fl.offNew C.fl Iv (fun bG ab=>by simp only[ms]at ab;omega))
  ·exact Bd qC.o om _
 | false =>
  have Y:Hd ((if hu f d m av al i c'=true then (0:Int) else 6)=6):=by rw[M];rfl
  clear M;go_wp2_with fail;refine(EE _ d f m av al i c' 6 Y _ (C.B T.o)).mono ?_;rintro _ n ⟨rfl,b1⟩;have cc:=lh (af.B b1);have sn:=lh (a5.B b1);have qC:Hd (BW w n):=hJ T.o b1;clear J v D G H L x b1;obtain⟨J,v,D,G,H,L,x,-⟩:=cc.cS [0,1,2,3,4,5,6];obtain⟨bQ,a8,aJ,aA,V⟩:=EN f 100000 Iv Iv;obtain⟨au,aT,bN,bU,bV⟩:=EN m 28 Iv Iv;obtain⟨Z,bc,bP,bi,bg⟩:=EN av 25 Iv Iv;obtain⟨ez,aV,aU,a',bA⟩:=EN al 100 Iv Iv;obtain⟨mG,aL,aS,aB,bW⟩:=EN i 101 Iv Iv;obtain⟨fK,bf,a7⟩:∃p,wrap64 (1+au)=p/\1<=p/\p<=28:=⟨1+au,wi _ ⟨by omega,by omega⟩,by omega⟩;obtain⟨mf,bt,bd⟩:∃p,wrap64 (1+Z)=p/\1<=p/\p<=25:=⟨1+Z,wi _ ⟨by omega,by omega⟩,by omega⟩;have bX:(IntKind.u64.wrap f).tmod 100000=bQ:=a8;have be:(IntKind.u64.wrap m).tmod 28=au:=aT;have bs:(IntKind.u64.wrap av).tmod 25=Z:=bc;have br:(IntKind.u64.wrap al).tmod 100=ez:=aV;have bB:(IntKind.u64.wrap i).tmod 101=mG:=aL;have dj:=lh (An (An aJ aA) (An a7 (An bd (An (An aU a') (An aS aB)))));clear a8 aT bc aV aL aJ bN bP aU aS aA bU bi a' aB a7 bd;obtain⟨e,P,p9⟩:∃e,n.heap.size=e/\Hd (w.heap.size+1<e):=⟨_,rfl,by show _<_;have:=sn.lt;exact this⟩;obtain⟨cb,aG,bx,b8⟩:∃a,n.alloc (.cells #[iV bQ,sZ,iV fK,iV mf,iV ez,iV mG,iV c'] 24)=a/\Hd (hA a e 24 [iV bQ,sZ,iV fK,iV mf,iV ez,iV mG,iV c'])/\Hd (BW n a):=⟨_,rfl,hR n _ _ _ P,hB bR _⟩;obtain⟨b4,bF,bu,bO,bD⟩:=info_parts yxh;go_upto_region 5 with fail;try with_reducible rw[aG]
  clear aG J v D G H L x V bV bg bA bW bf bt bX be bs br bB;try with_reducible rw[P]
  have aH:Hd (n.heap.size=e):=P;clear P;go_wp2_with fail;go_loopg [4] d.length (fun g bG wr=>∃(k:Nat) (g9:List (Int×Bool)) (ak:Value),k+g=d.length/\k<=8/\bG=iV (k:Int)/\Hd (g9.length=k/\BV g9=true)/\Hd (hA wr e 24 [iV bQ,ak,iV fK,iV mf,iV ez,iV mG,iV c'])/\Hd (wr.ownsRow (e+1) 81 2 ak k (BP g9))/\Hd (BW n wr));case atStart=>exact⟨0,[],_,by omega,by omega,rfl,⟨rfl,rfl⟩,bx.o,BT _ _ _ _,b8.o⟩
  case round =>
   obtain⟨k,g9,ak,a3,aQ,rfl,bp,cT,lY,mF⟩:=hrel;obtain⟨gq,fE,rfl⟩:=KD lY.o;have bm:=lh (cc.B mF.o);have v:=bm.cell 1;simp only[gz,gs]at v;by_cases b':k<d.length
   ·have a9:(k:Int)<d.length:=om;by_cases bZ:k<8
    ·have az:(k:Int)<8:=om;obtain⟨an,rfl⟩:∃an,gk=an+1:=⟨gk-1,by omega⟩;obtain⟨b,ae,bG,o,rfl,aa,ao,bY⟩:=(C.B (hJ qC.o mF.o)).get (show k<d.length by omega);obtain⟨q,aF,bb,aD,bv⟩:=EN bG 3000000 Iv Iv;have bE:(IntKind.u64.wrap bG).tmod 3000000=q:=aF;have aY:Hd (0<=q/\q<3000000):=⟨bb,aD⟩;have aW:Hd (b<w.heap.size):=C.fl.blt Iv rfl om;refine Pp ?_;intro dO;have aj:=lh (An a3 aQ);have ag:Hd (∀a1,BW wr a1->Ce a1 e 1 (.slice gq k fE)/\Ce a1 w.heap.size 1 (sL b ae d.length s)/\Ce a1 b (ae+k*2) (iV bG)/\Ce a1 b (ae+k*2+1) (.bool o)):=fun a1 X=>⟨(cT.B X).cell 1,((cc.B mF.o).B X).cell 1,(X.cell (ht aa)).trans aa,(X.cell (ht ao)).trans ao⟩;have b5:=ag.o wr.drew (hG bR);clear aF bb aD bY aa ao a3 aQ;go_upto_region 8 with fail;refine se (fun a1=>Ce a1 e 1 (.slice gq k fE)/\Ce a1 w.heap.size 1 (sL b ae d.length s)/\Ce a1 b (ae+k*2) (iV bG)/\Ce a1 b (ae+k*2+1) (.bool o)) 20 kr ?_;refine Kn ?_;show _;refine NT ?_;show _;have bC:IntKind.i64.wrap q=q:=by rw[IntKind.wrap_i64];have:=aY.o;omega
     try simp only[bE,bv,bC]
     obtain⟨b6,aO,b2,B,bh⟩:∃a,(wr.alloc (.cells #[iV q,.bool o] 81)).drew=a/\Hd (hA a wr.heap.size 81 [iV q,.bool o])/\Hd (BW wr a)/\Hd (a.heap.size=wr.heap.size+1):=⟨_,rfl,(hR wr _ _ _ rfl).B (hG bR),hG (hB bR _),by show(World.drew _).heap.size=_;rw[wd,wa]⟩;refine wo 18 kr rfl fun K ac=>?_;go_simp;refine ac.out _ _ (fun hun=>ag.o _ B.o) ?_;clear ac K;try simp only[ap,aq,sa,sb,sc]
     try with_reducible rw[aO]
     clear aO;refine wo 19 kr rfl fun K ac=>?_;refine Cp rfl (.tmp 58) (.tmp 75) 22 rfl (e+1) 81 b4 (.agg #[iZ,.bool false]) 2 16 underlying22 bF bu bO bD rfl (by decide) (.slice gq k fE) k (BP g9) (by rfl) (ic lY.o B.o) (some (Ad wr.heap.size 0)) 1 1 [iV q,.bool o] (by rfl) rfl (fun I=>by cases I) (fun ce I j u S=>by cases I;rw[Addr.add_lit,b2.cell,Nat.zero_add];exact S) (fun u S=>by simp only[mc,nn,or_false]at S;rcases S with rfl | rfl <;> rfl) (by have:=aj.2;unfold maxLen;omega) (oo aj.2) (o2 cT.lt bh.o) ?_;intro cf y a6 A _;have ax:=lh a6;have ai:some e≠(Value.slice gq k fE).ownBlock:=fun I=>oo ((lY.lt e I.symm).1);have am:=lh (p7 (cT.B B.o) A ai);have Q:∀R,R<e->some R≠(Value.slice gq k fE).ownBlock:=fun R ca I=>oo ((lY.lt R I.symm).1);have E:=ag.o b6 B.o;have dK:y.cell? (Ad e 1)=some (.slice gq k fE)/\y.cell? (Ad w.heap.size 1)=some (sL b ae d.length s)/\y.cell? (Ad b (ae+k*2))=some (iV bG)/\y.cell? (Ad b (ae+k*2+1))=some (.bool o):=⟨A.cell E.1 ai,A.cell E.2.1 (Q w.heap.size (oo p9.o)),A.cell E.2.2.1 (Q b (o2 p9.o aW.o)),A.cell E.2.2.2 (Q b (o2 p9.o aW.o))⟩;clear a6 ai Q E;refine Ma ?_;clear ac K;show _;obtain⟨aI,aC,rfl⟩:=KD ax.o;refine wS 20 rfl ?_;have p8:=am.cell 1;have aw:=am.frozen 1;refine wS 21 rfl ?_;refine r4 kr ?_ _;clear p8 aw dK b5;go_wp2_with fail;have b7:(y.setCell (Ad e 1) (.slice aI (k+1) aC)).ownsRow (e+1) 81 2 (.slice aI (k+1) aC) (k+1) (BP (g9++[(q,o)])):=p1 (F:=[e]) (by rw[show BP (g9++[(q,o)])=BP g9++[iV q,.bool o] from by simp[BP]];exact ax.o) ((hC.refl _ _).sg _) (fun r ay a0=>by
      simp only[ms]at a0;have:=(ax.lt r ay).1
      omega)
     have aN:BW n y:=(mF.trans (B.mono mF.size)).grown A (nt mF.size B.size) (fun r ay=>o2 ((lY.lt r ay).1) aH.o);have bq:BV (g9++[(q,o)])=true:=by unfold BV;rw[List.all_append];simp only[ba,List.all_cons,List.all_nil,and_true,B9];exact⟨bp.2,oo aY.o⟩
     go_roundg an;case measure=>omega
     case rel=>exact⟨k+1,g9++[(q,o)],_,oo aj.1,oo az,by go_num,⟨by rw[la,bp.1];rfl,bq⟩,am.set 1 _,b7,aN.trans ((hC.setCell (F:=[e]) (hC.refl _ _) (.inl (me ..)) _:hC [e] y _).to_below aN.size (fun bG ab=>by simp only[ms]at ab;have:=aH.o;omega))⟩
    ·have az:¬(k:Int)<8:=om;have b0:decide ((k:Int)<8)=false:=decide_eq_false az;exact Lp
   ·have a9:¬(k:Int)<d.length:=om;have b0:decide ((k:Int)<d.length)=false:=decide_eq_false a9;by_cases cd:k=0
    ·obtain rfl:k=0:=om;have p8:=cT.cell 1;have aw:=cT.frozen 1;have ew:=cT.lt;obtain⟨bT,aR,b9,aX,b3,bK⟩:∃a,(wr.alloc (.cells #[iV 500000,.bool false] 81)).setCell (Ad e 1) (sL wr.heap.size 0 1 1)=a/\Hd (hA a wr.heap.size 81 [iV 500000,.bool false])/\Hd (hA a e 24 [iV bQ,sL wr.heap.size 0 1 1,iV fK,iV mf,iV ez,iV mG,iV c'])/\Hd (BW w a)/\Hd (hA a (w.heap.size+1) 24 [iZ,sZ,iZ,iZ,iZ,iZ,iZ]) :=
      ⟨_,rfl,(hR wr _ _ _ rfl).setOther om _ _,(cT.B (hB bR _)).set 1 _,k1 (hB (hJ qC.o mF.o) _) (oo p9.o),((sn.B mF.o).B (hB bR _)).setOther (oo p9.o) _ _⟩
     go_upto_region 11 with fail;try with_reducible rw[aR]
     clear aR p8 aw ew v;obtain⟨g0,p8,qY,Ar,As,At,Au,-⟩:=aX.cS [0,1,2,3,4,5,6];have ew:=aX.lt;have bI:Hd (bT.heap[w.heap.size+1]?=some (.cells #[iZ,sZ,iZ,iZ,iZ,iZ,iZ] 24 (0,0))):=bK.o
     go_wp2_with (with_reducible refine Hk rfl (.tmp 2) (.tmp 85) rfl rfl (w.heap.size+1) #[iV bQ,sL wr.heap.size 0 1 1,iV fK,iV mf,iV ez,iV mG,iV c'] rfl rfl _ bI.o rfl rfl IA ?_)
     refine bodyPost_ret (v:=.agg #[iV bQ,sL wr.heap.size 0 1 1,iV fK,iV mf,iV ez,iV mG,iV c']) (results_cell_row (p:=2) (ty:=24) rfl _ _ (w.heap.size+1) 24 _ (0,0) _ rfl (setRow_heap _ _ _ _ _ _ bI.o) underlying24 rfl (by rw[H5];rfl)) rfl ?_;exact SK (l:=[(500000,false)]) (Z6 b9.o) (fun b ae ah c I _ a0=>by
      cases I;have:=p9.o;have:=cT.lt;simp only[ms]at a0
      omega) b3.o Iv Iv dj.1 dj.2.1 dj.2.2.1 dj.2.2.2.1 dj.2.2.2.2 wf.o _
    ·exact Lp
structure It where
 e:TypeId
 m:Nat
 v:Value
 n:Nat
 cs:List Value
structure Be (lo:Nat) (F:List Nat) (W:World) (it:Nat->It):Prop where
 own:∀i,W.ownsRow lo (it i).e (it i).m (it i).v (it i).n (it i).cs
 ap:∀i j,i≠j->∀q,(it i).v.ownBlock=some q->(it j).v.ownBlock≠some q
 inF:∀i q,(it i).v.ownBlock=some q->q∈F
theorem Be.off {b:Nat->It} (h:Be n F W b) (c:hC G W Y) (d:∀a q,(b a).v.ownBlock=some q->q∉G):Be n F Y b:=
 ⟨fun a=>p1 (h.own a) c (d a),h.ap,h.inF⟩
theorem Be.B {a:Nat->It} (h:Be n F W a) (c:BW W Y):Be n F Y a:=
 ⟨fun b=>ic (h.own b) c,h.ap,h.inF⟩
theorem Be.upd {F':List Nat} {W':World} {k:Nat->It} (h:Be n F W k) (f:Nat) (d:It) (t:hC (k f).v.ownBlock.toList W W') (u:W'.ownsRow n d.e d.m d.v d.n d.cs)
 (b:d.v.ownBlock=(k f).v.ownBlock\/∃q,d.v.ownBlock=some q/\W.heap.size<=q) (v:∀q∈F,q∈F') (z:∀q,d.v.ownBlock=some q->q∈F') (r:Nat->It) (l:∀a,r a=if a=f then d else k a):Be n F' W' r:=by
 refine⟨fun a=>?_,fun a m j q e c=>?_,fun a q g=>?_⟩
 ·rw[l];by_cases o:a=f;·rw[if_pos o];exact u
  ·rw[if_neg o];exact p1 (h.own a) t (fun q g A=>h.ap a f o q g (tl.1 A))
 ·rw[l]at e c;split at e
  ·rename_i p;rw[if_neg (fun i=>j (p.trans i.symm))]at c;rcases b with b | ⟨s,b,x⟩;·exact h.ap f m (fun i=>j (p.trans i)) q (b▸e) c
   ·have:=(h.own m).lt q c;rw[b]at e;cases e;omega
  ·split at c
   ·rename_i y;rcases b with b | ⟨s,b,x⟩;·exact h.ap a f (fun i=>j (i.trans y.symm)) q e (b▸c)
    ·have:=(h.own a).lt q e;rw[b]at c;cases c;omega
   ·exact h.ap a m j q e c
 ·rw[l]at g;split at g;·exact z q g
  ·exact v q (h.inF a q g)
theorem Be.drop {i b:Nat->It} (h:Be n F W i) (l:∀a,b a=i a\/((b a).v=sZ/\(b a).n=0/\(b a).cs=[])):Be n F W b:=by
 have g:∀a q,(b a).v.ownBlock=some q->b a=i a:=fun a q c=>(l a).elim id (fun p=>by rw[p.1]at c;cases c);refine⟨fun a=>?_,fun a m o q e d=>?_,fun a q c=>?_⟩
 ·rcases l a with k | ⟨j,f,r⟩;·rw[k];exact h.own a
  ·rw[j,f,r];exact BT _ _ _ _
 ·have j:=g a q e;have f:=g m q d;rw[j]at e;rw[f]at d;exact h.ap a m o q e d
 ·have k:=g a q c;rw[k]at c;exact h.inF a q c
theorem V8 {q:Nat} (h:w.ownsRow n e 1 (sL q 0 m k) m C) (b:Nat) (a) :
 (w.setCell (Ad q b) a).ownsRow n e 1 (sL q 0 m k) m (C.set b a):=by
 refine⟨by rw[List.length_set];exact h.1,?_⟩;rcases h.2 with⟨c,_⟩ | ⟨t,s,d,p,c,f,l,g,j,o⟩;·cases c
 cases p;have r:hA w q e d.toList:=by unfold hA;rw[f]
 have i:=r.set b a;exact .inr ⟨q,k,(d.toList.set b a).toArray,rfl,c,i,l,g,by simpa using j,by rw[List.take_set,o]⟩
def i1 (d:List St) (bk:List (Int×Nat×Nat)) (c:Nat->List (List Int)) (e:List Value) (b:Nat->Value) (a:Nat):It :=
 if a=0 then ⟨43,9,b a,d.length,n1 d e⟩
 else if a=1 then ⟨170,2,b a,bk.length,q7 bk⟩
 else if a<5 then ⟨33,1,b a,(c (a-2)).length,(List.range (c (a-2)).length).map fun f=>b (5+3*f+(a-2))⟩
 else ⟨2,1,b a,((c ((a-5)%3)).getD ((a-5)/3) []).length,((c ((a-5)%3)).getD ((a-5)/3) []).map (Value.int .i64)⟩
theorem jdn (c:List St) (bk:List (Int×Nat×Nat)) (e:Nat->List (List Int)) (d:List Value) (a:Nat->Value) (b:Nat):(i1 c bk e d a b).v=a b:=by
 unfold i1;split;·rfl
 split;·rfl
 split <;> rfl
theorem HA (b:List St) (bk:List (Int×Nat×Nat)) (e:Nat->List (List Int)) (c:List Value) (a:Nat->Value) (d:Nat):(i1 b bk e c a d).e≠109:=by
 unfold i1;split;·exact(by decide:43≠109)
 split;·exact(by decide:170≠109)
 split;·exact(by decide:33≠109)
 ·exact(by decide:2≠109)
theorem SS (d:List St) (bk:List (Int×Nat×Nat)) (b:Nat->List (List Int)) (e:List Value) (c:Nat->Value) (f:n<3) (a:Nat):i1 d bk b e c (5+3*a+n)=⟨2,1,c (5+3*a+n),((b n).getD a []).length,((b n).getD a []).map (Value.int .i64)⟩:=by unfold i1;rw[if_neg om,if_neg om,if_neg om,show(5+3*a+n-5)%3=n by omega,show(5+3*a+n-5)/3=a by omega]
theorem FD (c:List St) (bk:List (Int×Nat×Nat)) (b:Nat->List (List Int)) (d:List Value) (a:Nat->Value) (f:n<3):i1 c bk b d a (2+n)=⟨33,1,a (2+n),(b n).length,(List.range (b n).length).map fun e=>a (5+3*e+n)⟩:=by unfold i1;rw[if_neg om,if_neg om,if_pos om,show 2+n-2=n by omega]
def pt (b:Ps) (d c:Value) (a:Nat->Value):List Value:=[d,iV b.c,iV b.d,c,a 0,a 4,a 1,a 2,a 3]
structure hf (lo g:Nat) (p:Ps) (rs:List Int) (out:List St) (bk:List (Int×Nat×Nat)) (T:Nat->List (List Int)) (F:List Nat) (W:World) (vs:List Value) (vf:Nat->Value) (pv rv:Value):Prop where
 blk:hA W g 109 (pt p pv rv vf)
 gF:g∈F
 lt:∀x∈F,lo<=x/\x<W.heap.size
 rd:Rd F W (fun W=>Sl .i64 W pv p.bs/\Sl .i64 W rv rs/\h9 W out vs)
 its:Be lo F W (i1 out bk T vs vf)
theorem hf.own {e:Ps} {bk:List (Int×Nat×Nat)} {b:Nat->List (List Int)} {c:Nat->Value} (h:hf n m e r L bk b F W C c v u) (d:k<3) (a:Nat) :
 W.ownsRow n 2 1 (c (5+3*a+k)) ((b k).getD a []).length (((b k).getD a []).map (Value.int .i64)):=by
 have:=h.its.own (5+3*a+k);rw[SS _ _ _ _ _ d]at this;exact this
theorem hf.tab {e:Ps} {bk:List (Int×Nat×Nat)} {b:Nat->List (List Int)} {a:Nat->Value} (h:hf n m e r L bk b F W C a v u) (c:j<3) :
 W.ownsRow n 33 1 (a (2+j)) (b j).length ((List.range (b j).length).map fun d=>a (5+3*d+j)):=by
 have:=h.its.own (2+j);rw[FD _ _ _ _ _ c]at this;exact this
theorem hf.gOff {d:Ps} {bk:List (Int×Nat×Nat)} {c:Nat->List (List Int)} {a:Nat->Value} (h:hf n m d r L bk c F W C a v u) (b:Nat):some m≠(a b).ownBlock:=by have:=hh (h.its.own b) h.blk (HA _ _ _ _ _ _).symm;rwa [jdn]at this
theorem hf.B {f:Ps} {bk:List (Int×Nat×Nat)} {e:Nat->List (List Int)} {d:Nat->Value} (h:hf n m f r L bk e F W C d v u) (a:BW W Y):hf n m f r L bk e F Y C d v u:=
 ⟨h.blk.B a,h.gF,fun c b=>⟨(h.lt c b).1,Nat.lt_of_lt_of_le (h.lt c b).2 a.size⟩,h.rd.B a (fun c b=>.inl b),h.its.B a⟩
structure Ob (lo g:Nat) (cs:List Value) (F:List Nat) (W:World) (it:Nat->It):Prop where
 blk:hA W g 109 cs
 gF:g∈F
 lt:∀x∈F,lo<=x/\x<W.heap.size
 its:Be lo F W it
 ty:∀i,(it i).e≠109
theorem Ob.gOff {b:Nat->It} (h:Ob n m C F W b) (a:Nat):some m≠(b a).v.ownBlock:=hh (h.its.own a) h.blk (h.ty a).symm
theorem Ob.turn {W':World} {r it':Nat->It} (h:Ob n m C F W r) (a:Nat) (t:hC (m::(r a).v.ownBlock.toList) W W') (J:hA W' m 109 X)
 (u:W'.ownsRow n (it' a).e (it' a).m (it' a).v (it' a).n (it' a).cs) (e:(it' a).v.ownBlock=(r a).v.ownBlock\/∃q,(it' a).v.ownBlock=some q/\W.heap.size<=q) (j:∀b,b≠a->it' b=r b) (H:(it' a).e≠109) :
 Ob n m X ((it' a).v.ownBlock.toList++F) W' it'/\hT F W ((it' a).v.ownBlock.toList++F) W':=by
 have G:hT F W ((it' a).v.ownBlock.toList++F) W':=⟨t.mono (fun f c=>by
  rcases mc.1 c with rfl | c;·exact h.gF
  ·exact h.its.inF a f (tl.1 c)),fun f c=>by
  rcases ma.1 c with c | c
  ·have s:=tl.1 c;rcases e with e | ⟨E,e,B⟩;·exact .inl (h.its.inF a f (by rw[<-e];exact s))
   ·rw[e]at s;cases s;exact .inr B
  ·exact .inl c⟩
 have D:∀l q,l≠a->(r l).v.ownBlock=some q->(it' a).v.ownBlock=some q->False:=fun l q I z x=>by
  rcases e with e | ⟨E,e,B⟩;·exact h.its.ap l a I q z (by rw[<-e];exact x)
  ·have:=(h.its.own l).lt q z;rw[e]at x;cases x;omega
 refine⟨⟨J,ma.2 (.inr h.gF),fun f c=>?_,⟨fun b=>?_,fun b k A q o i=>?_,fun b q g=>?_⟩,fun b=>?_⟩,G⟩
 ·rcases ma.1 c with c | c;·exact⟨(u.lt f (tl.1 c)).1,(u.lt f (tl.1 c)).2⟩
  ·exact⟨(h.lt f c).1,Nat.lt_of_lt_of_le (h.lt f c).2 t.size⟩
 ·by_cases d:b=a;·subst d;exact u
  ·rw[j b d];refine p1 (h.its.own b) t (fun q g v=>?_);rcases mc.1 v with y | v;·subst y;exact h.gOff b g.symm
   ·exact h.its.ap b a d q g (tl.1 v)
 ·by_cases d:b=a;·have p:k≠a:=fun y=>A (d.trans y.symm);rw[j k p]at i;rw[d]at o;exact D k q p i o
  ·rw[j b d]at o;by_cases p:k=a;·rw[p]at i;exact D b q d o i
   ·rw[j k p]at i;exact h.its.ap b k A q o i
 ·by_cases d:b=a;·rw[d]at g;exact ma.2 (.inl (tl.2 g))
  ·rw[j b d]at g;exact ma.2 (.inr (h.its.inF b q g))
 ·by_cases d:b=a;·rw[d];exact H
  ·rw[j b d];exact h.ty b
theorem hf.turn {i p':Ps} {rs':List Int} {out':List St} {bk bk':List (Int×Nat×Nat)} {e T':Nat->List (List Int)} {W':World} {vs':List Value} {d vf':Nat->Value} {pv' rv':Value} (h:hf n m i r L bk e F W C d v u)
 (a:Nat) (g:hC (m::(d a).ownBlock.toList) W W') (o:hA W' m 109 (pt p' pv' rv' vf'))
 (j:W'.ownsRow n (i1 out' bk' T' vs' vf' a).e (i1 out' bk' T' vs' vf' a).m (vf' a) (i1 out' bk' T' vs' vf' a).n (i1 out' bk' T' vs' vf' a).cs)
 (l:(vf' a).ownBlock=(d a).ownBlock\/∃q,(vf' a).ownBlock=some q/\W.heap.size<=q) (f:∀c,c≠a->i1 out' bk' T' vs' vf' c=i1 L bk e C d c)
 (k:Rd F W (fun W=>Sl .i64 W pv' p'.bs/\Sl .i64 W rv' rs'/\h9 W out' vs')):hf n m p' rs' out' bk' T' ((vf' a).ownBlock.toList++F) W' vs' vf' pv' rv'/\hT F W ((vf' a).ownBlock.toList++F) W':=by
 have b:=Ob.turn (it':=i1 out' bk' T' vs' vf') ⟨h.blk,h.gF,h.lt,h.its,fun c=>HA _ _ _ _ _ c⟩ a (by rw[jdn];exact g) o (by rw[jdn];exact j) (by rw[jdn,jdn];exact l) f (HA _ _ _ _ _ _);rw[jdn]at b;exact⟨⟨b.1.blk,b.1.gF,b.1.lt,b.2.rd k,b.1.its⟩,b.2⟩
def z4 (d:Nat->List (List Int)) (b:Nat) (c:List (List Int)) (a:Nat):List (List Int):=if a=b then c else d a
def v6 (b:Nat->Value) (c:Nat) (d:Value) (a:Nat):Value:=if a=c then d else b a
theorem GI (c:Nat->List (List Int)) (a:Nat) (b:List (List Int)):z4 c a b a=b:=if_pos rfl
theorem Bt (a:Nat->List (List Int)) (b:List (List Int)) (h:n≠m):z4 a m b n=a n:=if_neg h
theorem E1 (c:Nat->Value) (a:Nat) (b):v6 c a b a=b:=if_pos rfl
theorem B5 (a:Nat->Value) (b) (h:m≠n):v6 a n b m=a m:=if_neg h
theorem YT {bk:List (Int×Nat×Nat)} {b:Nat->List (List Int)} {d:Nat->Value} (p:n<3) (r:m<(b n).length) (i) (k:List Int) (a:Nat) :
 i1 L bk (z4 b n ((b n).set m k)) C (v6 d (5+3*m+n) i) a=if a=2+n then ⟨33,1,d (2+n),(b n).length,((List.range (b n).length).map fun m=>d (5+3*m+n)).set m i⟩
  else if a=5+3*m+n then ⟨2,1,i,k.length,k.map (Value.int .i64)⟩ else i1 L bk b C d a:=by
 by_cases o:a=2+n
 ·subst o;rw[if_pos rfl,FD _ _ _ _ _ p,GI,B5 _ _ om,List.length_set]
  congr 1
  refine List.ext_getElem Is fun l t s=>?_;rw[List.getElem_set];simp only[List.getElem_map,List.getElem_range];by_cases c:m=l;·subst c;rw[if_pos rfl,E1]
  ·rw[if_neg c,B5 _ _ om]
 rw[if_neg o];by_cases j:a=5+3*m+n;·subst j;rw[if_pos rfl,SS _ _ _ _ _ p,GI,E1,GZ,if_pos ⟨rfl,r⟩]
 rw[if_neg j];unfold i1;rw[B5 _ _ j];by_cases e:a=0;·rw[if_pos e,if_pos e]
 rw[if_neg e,if_neg e];by_cases f:a=1;·rw[if_pos f,if_pos f]
 rw[if_neg f,if_neg f];by_cases g:a<5
 ·rw[if_pos g,if_pos g,Bt _ _ om]
  congr 1
  exact List.map_congr_left fun l _=>B5 _ _ om
 ·rw[if_neg g,if_neg g];by_cases c:(a-5)%3=n;·rw[c,GI,GZ,if_neg om]
  ·rw[Bt _ _ c]
theorem hf.row {i:Ps} {bk:List (Int×Nat×Nat)} {d:Nat->List (List Int)} {b:Nat->Value} (h:hf n m i r L bk d F W C b u V) (z:j<3) (K:k<(d j).length)
 {tb cap:Nat} (o:b (2+j)=sL tb 0 (d j).length cap) {y:List Int} (D:hC (b (5+3*k+j)).ownBlock.toList W Y) (E:Y.ownsRow n 2 1 v y.length (y.map (Value.int .i64)))
 (f:v.ownBlock=(b (5+3*k+j)).ownBlock\/∃q,v.ownBlock=some q/\W.heap.size<=q) :
 hf n m i r L bk (z4 d j ((d j).set k y)) (v.ownBlock.toList++F) (Y.setCell (Ad tb k) v) C (v6 b (5+3*k+j) v) u V/\hT F W (v.ownBlock.toList++F) (Y.setCell (Ad tb k) v):=by
 have g:(b (2+j)).ownBlock=some tb:=by rw[o];rfl
 have R:=(h.tab z).lt tb g;have A:tb∈F:=h.its.inF (2+j) tb (by rw[jdn];exact g);have p:hC (tb::(b (5+3*k+j)).ownBlock.toList) W (Y.setCell (Ad tb k) v):=(D.mono (fun c a=>mo _ a)).sg _;have P:∀c∈(tb::(b (5+3*k+j)).ownBlock.toList),c∈F:=fun c a=>by
  rcases mc.1 a with rfl | a;·exact A
  ·exact h.its.inF _ c (by rw[jdn];exact tl.1 a)
 have B:hT F W (v.ownBlock.toList++F) (Y.setCell (Ad tb k) v):=⟨p.mono P,fun c a=>by
  rcases ma.1 a with a | a
  ·have l:=tl.1 a;rcases f with f | ⟨S,f,M⟩;·exact .inl (h.its.inF _ c (by rw[jdn,<-f];exact l))
   ·rw[f]at l;cases l;exact .inr M
  ·exact .inl a⟩
 have G:=h.its.upd (5+3*k+j) ⟨2,1,v,y.length,y.map (Value.int .i64)⟩ (by rw[jdn];exact D) E (by rw[jdn];exact f) (F':=v.ownBlock.toList++F) (fun q e=>ma.2 (.inr e)) (fun q e=>ma.2 (.inl (tl.2 e))) _ (fun _=>rfl);have s:(if 2+j=5+3*k+j then (⟨2,1,v,y.length,y.map (Value.int .i64)⟩:It) else i1 L bk d C b (2+j))=i1 L bk d C b (2+j):=if_neg om;have t:=G.own (2+j);rw[s,FD _ _ _ _ _ z]at t;simp only[o]at t;have I:=G.upd (W':=Y.setCell (Ad tb k) v) (2+j) ⟨33,1,b (2+j),(d j).length,((List.range (d j).length).map fun k=>b (5+3*k+j)).set k v⟩
  (by rw[s,jdn,g];exact(hC.refl _ _).setCell (.inl (by simp)) _) (by simp only[o];exact V8 t k v) (.inl (by rw[s,jdn])) (F':=v.ownBlock.toList++F) (fun q e=>e) (fun q e=>ma.2 (.inr (by simp only[g]at e;cases e;exact A))) _ (fun O=>YT z K v y O)
 refine⟨⟨?_,ma.2 (.inr h.gF),fun c a=>?_,B.rd h.rd,I⟩,B⟩
 ·have J:=h.blk.keep p (fun x=>by
   rcases mc.1 x with Q | x;·exact h.gOff (2+j) (by rw[g,Q])
   ·exact h.gOff _ (tl.1 x).symm)
  have H:pt i u V (v6 b (5+3*k+j) v)=pt i u V b:=by unfold pt;rw[B5 _ _ om,B5 _ _ om,B5 _ _ om,B5 _ _ om,B5 _ _ om]
  rw[H];exact J
 ·rcases ma.1 a with a | a;·have:=E.lt c (tl.1 a);exact⟨this.1,Nat.lt_of_lt_of_le this.2 (by rw[World.size_setCell];exact nr _)⟩
  ·exact⟨(h.lt c a).1,Nat.lt_of_lt_of_le (h.lt c a).2 p.size⟩
theorem hf.look {A:Ps} {bk:List (Int×Nat×Nat)} {a:Nat->List (List Int)} {g:Nat->Value} (h:hf m i A r L bk a F W C g v u) (t:j<3) (z:(a j).length=n) (x:k<n) :
 ∃e o c d b,g (2+j)=sL e 0 n o/\g (5+3*k+j)=.slice c ((a j).getD k []).length d/\hA W e 33 b/\b[k]?=some (.slice c ((a j).getD k []).length d)/\W.ownsRow m 2 1 (.slice c ((a j).getD k []).length d) ((a j).getD k []).length (((a j).getD k []).map (Value.int .i64)):=by
 subst z;have f:=h.tab t;obtain⟨e,o,p⟩:=ro f om;rw[p]at f;obtain⟨b,D,G,E,I,y,H⟩:=B0 f;have s:=h.own t k;obtain⟨c,d,l⟩:=(Sl.of_own s rfl).shape;refine⟨e,o,c,d,b,p,l,D,?_,l▸s⟩;have B:(b.take ((a j).length*1))[k]?=b[k]?:=List.getElem?_take_of_lt om;rw[<-B,y,<-l,List.getElem?_map,List.getElem?_range x];rfl
theorem Sl.atW (h:Sl .i64 w v r) (j:r.length=n) (e:k<n):∃q a c b,v=sL q a n c/\w.cell? (Ad q (a+k))=some (iV b)/\r.getD k 0=b:=by subst j;obtain⟨m,c,d⟩:=h.shape;rw[d]at h;obtain⟨q,a,b,f,l,g⟩:=h.get (i:=k) e;exact⟨q,a,c,b,by rw[d,f],l,g⟩
def w7 (a:Nat->List (List Int)) (d e:List Int) (c b:Nat):List (List Int):=if b=0 then io (a 0) d c else if b=1 then io (a 1) e c else if b=2 then io (a 2) d c else a b
theorem YO (a:Nat->List (List Int)) (c b:List Int):w7 a c b 0=a:=by
 funext i
 unfold w7;split;·subst i;exact FY _ _
 split;·subst i;exact FY _ _
 split;·subst i;exact FY _ _
 ·rfl
theorem Tt (b:Nat->List (List Int)) (e c:List Int) (d a:Nat):(w7 b e c d a).length=(b a).length:=by
 unfold w7;split;·subst a;exact CP _ _ _
 split;·subst a;exact CP _ _ _
 split;·subst a;exact CP _ _ _
 ·rfl
theorem ZE (c:Nat->List (List Int)) (f e:List Int) (b a:Nat) (d:b<(c a).length):(w7 c f e b a).getD b []=(c a).getD b []:=by
 unfold w7;split;·subst a;rw[Cj _ _ _ _ d,if_neg om]
 split;·subst a;rw[Cj _ _ _ _ d,if_neg om]
 split;·subst a;rw[Cj _ _ _ _ d,if_neg om]
 ·rfl
def JS (j:Value) (n f:Nat) (l:Ps) (d:List Int) (e:List St) (bk:List (Int×Nat×Nat)) (k:Nat->List (List Int)) (i:List Nat) (w:World) (m:Ending) (b:World):Prop:=m=.returned j/\∃a g c p o,hf n f l d e bk k a b g c p o/\hT i w a b
theorem YD (l b:Nat) (p:Ps) (s:List Int) (ar:List St) (bk:List (Int×Nat×Nat)) (o:Nat->List (List Int)) (F:List Nat) (jR:List Value) (cW:Nat->Value) (ci cD) (n:Nat) (cG:∀j,j<3->(o j).length=n) (cQ:p.bs.length=n) (bN:s.length=n) (bW:Hd (∀j,j<3->∀k,k<n->((o j).getD k []).length<=10000000)) (cm:n<=1000) (w) (h:hf l b p s ar bk o F w jR cW ci cD) :
 Calls prog 75 #[pV b] w (JS (.tuple #[]) l b p s ar bk (w7 o p.bs s n) F w):=by
 have d6:=lh h;have H:=lh (An cG (An cQ (An bN cm)));have cH:Hd (∃d1 cap,cD=.slice d1 n cap):=by have:=(h.rd.now.2.1).shape;rw[bN]at this;exact this
 obtain⟨dE,d9,ct⟩:=cH.o;clear h cG cQ bN cH;obtain⟨bI,b',bD,cg,bY⟩:=info_parts Ch;go_enter func75,ntmps75;have dH:=lh ct;clear ct;go_wp2_with fail;go_loopg [2] n (fun bZ i wr=>∃k:Nat,k+bZ=n/\i=iV k/\∃lA vf',Hd (hf l b p s ar bk (w7 o p.bs s k) lA wr jR vf' ci cD)/\Hd (hT F w lA wr));case atStart=>exact⟨0,by omega,rfl,F,cW,by rw[YO];exact d6,hT.refl _ _⟩
 case round =>
  obtain⟨k,qm,rfl,lA,vf',aV,fp⟩:=hrel;have dG:=lh qm;have cm:=H.2.2.2;have dB:wr.cell? (Ad b 3)=some (.slice dE n d9):=by have c:=aV.blk.cell 3;simp only[pt,gz,gs]at c;rw[c,dH.o]
  have dy:=aV.blk.lt;cases gk with
  | zero=>exact NV
  | succ bZ =>
   have ch:(k:Int)<n:=om;have dO:(0:Int)<=(k:Int):=om;have g:Hd (k<n):=by show k<n;omega
   obtain⟨J,aA⟩:=xg (w7 o p.bs s k);rw[aA]at aV;have d5:=lh aA;have bT:Hd (∀j,j<3->(J j).length=n):=fun j X=>by rw[<-aA,Tt];exact H.1 j X
   have cp:Hd (∀j,j<3->(J j).getD k []=(o j).getD k []):=fun j X=>by rw[<-aA];exact ZE _ _ _ _ _ (by rw[H.1 j X];exact g.o)
   have bC:Hd ((J 0).length=n):=bT.o 0 Iv;have dC:Hd ((J 0).getD k []=(o 0).getD k []):=cp.o 0 Iv;have cw:Hd (hT lA wr lA wr):=hT.refl _ _;clear aA qm cm;obtain⟨ag,bx⟩:∃ag,ag=lA:=⟨_,rfl⟩;obtain⟨m,aD⟩:∃m,m=wr:=⟨_,rfl⟩;rw[<-bx,<-aD]at aV;rw[<-bx,<-aD]at cw;rw[<-aD]at dB dy ⊢;have di:=lh (An bx aD);clear bx aD;obtain⟨a7,dh⟩:∃a7,a7=vf':=⟨_,rfl⟩;rw[<-dh]at aV;clear dh;obtain⟨D,aK,al,am,dN,W,r,cO,bi,bf⟩:=aV.look (n:=n) (k:=k) (j:=0) Iv bC.o g.o;obtain⟨S,L,aE,ad,aa,dd,df⟩:=Sl.atW (n:=n) (k:=k) (aV.rd.now.1) H.2.1 g.o;obtain⟨a3,aR⟩:=xg ((J 0).getD k []);rw[aR]at r bi bf;obtain⟨t,bj⟩:=xg a3.length;rw[bj]at r bi bf;have cq:=lh (An aR bj);have b4:Hd (t<=10000000):=by have c:=bW.o 0 Iv k g.o;rw[<-dC.o,aR,bj]at c;exact c
   have ai:=lh (An W r);have bp:=lh cO;have b0:=lh bi;have bU:=lh bf;have bX:=lh dd;have cP:=lh df;have aT:Hd (pt p ci cD a7=pt p ci cD a7/\ci=sL S L n aE):=⟨rfl,aa⟩;have ul:Hd (l<=m.heap.size):=by have c:=aV.lt b aV.gF;show l<=_;omega
   have cb:∀a,BW m a->(a.cell? (Ad b 7)=some (sL D 0 n aK))/\(a.cell? (Ad b 0)=some (sL S L n aE)):=fun a d=>by obtain⟨c,f,-⟩:=(aV.blk.B d).cs [7,0];simp only[pt,gz,gs]at c f;rw[c,f];exact⟨by rw[<-ai.1],by rw[<-aT.2]⟩
   have b8:∀a,BW m a->((a.cell? (Ad b 7)=some (sL D 0 n aK))/\(a.cell? (Ad D k)=some (.slice al t am))/\(a.cell? (Ad b 0)=some (sL S L n aE))/\(a.cell? (Ad S (L+k))=some (iV ad))):=fun a d =>
    ⟨(cb a d).1,by rw[(bp.B d).cell];exact b0.o,(cb a d).2,(d.cell (p:=(Ad S (L+k))) (ht bX.o)).trans bX.o⟩
   have d3:=b8 m.drew (hG bR);have cM:=b8 (m.alloc (.cells #[iV ad] 2)).drew (hG (hB bR _));have cf:=bp.frozen k;clear b8 cb aR bj W r aa cO bi bf dd df cf;go_upto_region 3 with fail;refine se (fun a=>(a.cell? (Ad b 7)=some (sL D 0 n aK))/\(a.cell? (Ad D k)=some (.slice al t am))/\(a.cell? (Ad b 0)=some (sL S L n aE))/\(a.cell? (Ad S (L+k))=some (iV ad))) 22 kr ?_;refine O7 ?_;show _;refine wo 20 kr rfl fun a4 ac=>?_;go_simp;refine ac.out _ _ (fun hun=>cM) ?_;clear ac a4;try simp only[ap,aq,sa,sb,sc]
   refine wo 21 kr rfl fun a4 ac=>?_;refine DS rfl (.tmp 23) (.tmp 32) 33 rfl l 2 bI (iZ) 1 8 underlying33 b' bD cg bY rfl Iv (.slice al t am) t (a3.map (Value.int .i64)) JF (ic bU.o (hG (hB bR _))) (Ad m.heap.size 0) 1 1 [iV ad] JF rfl (D3 m _ _) L2 (by have:=b4.o;unfold maxLen;omega) (oo b4.o) E9 ?_;intro dP V bB aY cs;obtain⟨bq,bz,rfl⟩:=ro bB om;have cF:=lh bB;have dp:=lh aY;have cB:=lh cs;have bV:Hd (∀z e A,hA m z e A->e≠2->hA V z e A):=fun z e A d aB=>p7 (d.B (hG (hB bR _))) aY (hh bU.o d aB);have b2:=lh (bV.o _ _ _ bp.o Iv);have da:V.cell? (Ad D k)=some (.slice al t am):=by rw[b2.cell];exact b0.o
   have cf:=b2.frozen k;have c4:(V.cell? (Ad b 7)=some (sL D 0 n aK))/\(V.cell? (Ad D k)=some (.slice al t am))/\(V.cell? (Ad b 0)=some (sL S L n aE))/\(V.cell? (Ad S (L+k))=some (iV ad)):=by have a6:hC ag m V:=hC.grown (hC.drew ((hC.refl _ _).alloc _)) aY (fun x az=>.inl (aV.its.inF (5+3*k+0) x (by rw[jdn,ai.2];exact az)));have Y:=(aV.rd _ a6).1;rw[aT.2]at Y;obtain⟨c7,db,cC,aJ,Z,aN⟩:=Y.get (i:=k) (by rw[show p.bs.length=n from H.2.1];exact g.o);cases aJ;rw[aN.symm.trans cP.o]at Z;obtain⟨c,f,-⟩:=(bV.o _ _ _ aV.blk Iv).cs [7,0];simp only[pt,gz,gs]at c f;exact⟨by rw[c,<-ai.1],da,by rw[f,<-aT.2],Z⟩
   clear bB aY cs;refine ac.out _ _ (fun hun=>c4) ?_;clear ac a4;refine Mx ?_;intro a4 ac;clear ac a4 c4;refine MW ?_;intro a4 ac;clear ac a4 da cf d3 cM;try simp only[ap,aq,sa,sb,sc]
   refine r4 kr ?_ _;obtain⟨aZ,c1⟩:=xg ((Value.slice (some (Ad bq 0)) (t+1) bz).ownBlock.toList++ag);obtain⟨bc,cx⟩:=xg (v6 a7 (5+3*k+0) (sL bq 0 (t+1) bz));obtain⟨au,bQ⟩:=xg (z4 J 0 ((J 0).set k (a3++[ad])));obtain⟨E,c5,R,d8⟩:∃B,V.setCell (Ad D k) (sL bq 0 (t+1) bz)=B/\Hd (hf l b p s ar bk au aZ B jR bc ci cD)/\Hd (hT ag m aZ B):=by
    have ay:(a3++[ad]).length=t+1:=by rw[la,cq.2];rfl
    have a2:hC (Value.slice al t am).ownBlock.toList m V:=hC.grown (hC.drew ((hC.refl _ _).alloc _)) dp.o (fun q aG=>.inl (tl.2 aG));have h:=aV.row (j:=0) (k:=k) Iv (by rw[bC.o];exact g.o) (tb:=D) (cap:=aK) (by rw[bC.o];exact ai.1) (v:=sL bq 0 (t+1) bz) (y:=a3++[ad]) (by rw[ai.2];exact a2) (by rw[ay,List.map_append];exact cF.o) (by
     rw[ai.2];rcases cB.o with e | e;·exact .inl e
     ·refine .inr ⟨_,e,?_⟩;rw[wd,wa]
      exact Nat.le_succ _)
    rw[c1,cx,bQ]at h;exact⟨_,rfl,h.1,cw.trans h.2⟩
   with_reducible rw[c5]
   have aj:=lh bQ;clear c5 c1 cx bQ cF dp cB bV b2 bU ai bp b0 bX aT ul b4;have ca:Hd ((au 1).length=n):=by rw[<-aj.o,Bt _ _ Iv];exact bT.o 1 Iv
   have d7:Hd ((au 1).getD k []=(o 1).getD k []):=by rw[<-aj.o,Bt _ _ Iv];exact cp.o 1 Iv
   obtain⟨aX,aI,an,av,dL,W,r,dv,bw,bm⟩:=R.look (n:=n) (k:=k) (j:=1) Iv ca.o g.o;obtain⟨T,I,aC,ae,aa,dg,cy⟩:=Sl.atW (n:=n) (k:=k) (R.rd.now.2.1) H.2.2.1 g.o;obtain⟨a8,bu⟩:=xg ((au 1).getD k []);rw[bu]at r bw bm;obtain⟨u,a'⟩:=xg a8.length;rw[a']at r bw bm;have cV:=lh (An bu a');have bH:Hd (u<=10000000):=by have c:=bW.o 1 Iv k g.o;rw[<-d7.o,bu,a']at c;exact c
   have ah:=lh (An W r);have aQ:=lh dv;have co:=lh bw;have bE:=lh bm;have ck:=lh dg;have c0:=lh cy;have br:Hd (pt p ci cD bc=pt p ci cD bc/\cD=sL T I n aC):=⟨rfl,aa⟩;have sy:Hd (l<=E.heap.size):=by have c:=R.lt b R.gF;show l<=_;omega
   have ce:∀a,BW E a->(a.cell? (Ad b 8)=some (sL aX 0 n aI))/\(a.cell? (Ad b 3)=some (sL T I n aC)):=fun a d=>by obtain⟨c,f,-⟩:=(R.blk.B d).cs [8,3];simp only[pt,gz,gs]at c f;rw[c,f];exact⟨by rw[<-ah.1],by rw[<-br.2]⟩
   have b6:∀a,BW E a->((a.cell? (Ad b 8)=some (sL aX 0 n aI))/\(a.cell? (Ad aX k)=some (.slice an u av))/\(a.cell? (Ad b 3)=some (sL T I n aC))/\(a.cell? (Ad T (I+k))=some (iV ae))):=fun a d =>
    ⟨(ce a d).1,by rw[(aQ.B d).cell];exact co.o,(ce a d).2,(d.cell (p:=(Ad T (I+k))) (ht ck.o)).trans ck.o⟩
   have dK:=b6 E.drew (hG bR);have cz:=b6 (E.alloc (.cells #[iV ae] 2)).drew (hG (hB bR _));have b7:=aQ.frozen k;clear b6 ce bu a' W r aa dv bw bm dg cy b7;go_upto_region 4 with fail;refine se (fun a=>(a.cell? (Ad b 8)=some (sL aX 0 n aI))/\(a.cell? (Ad aX k)=some (.slice an u av))/\(a.cell? (Ad b 3)=some (sL T I n aC))/\(a.cell? (Ad T (I+k))=some (iV ae))) 21 kr ?_;refine Kn ?_;show _;refine NT ?_;show _;refine tK 18 rfl ?_;refine wo 19 kr rfl fun a4 ac=>?_;go_simp;refine ac.out _ _ (fun hun=>cz) ?_;clear ac a4;try simp only[ap,aq,sa,sb,sc]
   refine wo 20 kr rfl fun a4 ac=>?_;refine DS rfl (.tmp 46) (.tmp 54) 33 rfl l 2 bI (iZ) 1 8 underlying33 b' bD cg bY rfl Iv (.slice an u av) u (a8.map (Value.int .i64)) JF (ic bE.o (hG (hB bR _))) (Ad E.heap.size 0) 1 1 [iV ae] JF rfl (D3 E _ _) L2 (by have:=bH.o;unfold maxLen;omega) (oo bH.o) Hj ?_;intro dS P cl aS dm;obtain⟨aU,bh,rfl⟩:=ro cl om;have cr:=lh cl;have cu:=lh aS;have cR:=lh dm;have cn:Hd (∀z e A,hA E z e A->e≠2->hA P z e A):=fun z e A d aB=>p7 (d.B (hG (hB bR _))) aS (hh bE.o d aB);have cd:=lh (cn.o _ _ _ aQ.o Iv);have c2:P.cell? (Ad aX k)=some (.slice an u av):=by rw[cd.cell];exact co.o
   have b7:=cd.frozen k;have cK:(P.cell? (Ad b 8)=some (sL aX 0 n aI))/\(P.cell? (Ad aX k)=some (.slice an u av))/\(P.cell? (Ad b 3)=some (sL T I n aC))/\(P.cell? (Ad T (I+k))=some (iV ae)):=by have a6:hC aZ E P:=hC.grown (hC.drew ((hC.refl _ _).alloc _)) aS (fun x az=>.inl (R.its.inF (5+3*k+1) x (by rw[jdn,ah.2];exact az)));have Y:=(R.rd _ a6).2.1;rw[br.2]at Y;obtain⟨c7,db,cC,aJ,Z,aN⟩:=Y.get (i:=k) (by rw[show s.length=n from H.2.2.1];exact g.o);cases aJ;rw[aN.symm.trans c0.o]at Z;obtain⟨c,f,-⟩:=(cn.o _ _ _ R.blk Iv).cs [8,3];simp only[pt,gz,gs]at c f;exact⟨by rw[c,<-ah.1],c2,by rw[f,<-br.2],Z⟩
   clear cl aS dm;refine ac.out _ _ (fun hun=>cK) ?_;clear ac a4;try simp only[ap,aq,sa,sb,sc]
   refine wo 21 kr rfl fun a4 ac=>?_;go_simp;refine ac.out _ _ kd ?_;clear ac a4 cK;refine Mx ?_;intro a4 ac;clear ac a4 c2 b7 dK cz;try simp only[ap,aq,sa,sb,sc]
   refine r4 kr ?_ _;obtain⟨aO,cv⟩:=xg ((Value.slice (some (Ad aU 0)) (u+1) bh).ownBlock.toList++aZ);obtain⟨bg,cI⟩:=xg (v6 bc (5+3*k+1) (sL aU 0 (u+1) bh));obtain⟨ao,bG⟩:=xg (z4 au 1 ((au 1).set k (a8++[ae])));obtain⟨G,dx,K,dF⟩:∃B,P.setCell (Ad aX k) (sL aU 0 (u+1) bh)=B/\Hd (hf l b p s ar bk ao aO B jR bg ci cD)/\Hd (hT ag m aO B):=by
    have ay:(a8++[ae]).length=u+1:=by rw[la,cV.2];rfl
    have a2:hC (Value.slice an u av).ownBlock.toList E P:=hC.grown (hC.drew ((hC.refl _ _).alloc _)) cu.o (fun q aG=>.inl (tl.2 aG));have h:=R.row (j:=1) (k:=k) Iv (by rw[ca.o];exact g.o) (tb:=aX) (cap:=aI) (by rw[ca.o];exact ah.1) (v:=sL aU 0 (u+1) bh) (y:=a8++[ae]) (by rw[ah.2];exact a2) (by rw[ay,List.map_append];exact cr.o) (by
     rw[ah.2];rcases cR.o with e | e;·exact .inl e
     ·refine .inr ⟨_,e,?_⟩;rw[wd,wa]
      exact Nat.le_succ _)
    rw[cv,cI,bG]at h;exact⟨_,rfl,h.1,d8.trans h.2⟩
   with_reducible rw[dx]
   have bl:=lh bG;clear dx cv cI bG cr cu cR cn cd bE ah aQ co ck br sy bH;have bJ:Hd ((ao 2).length=n):=by rw[<-bl.o,Bt _ _ Iv,<-aj.o,Bt _ _ Iv];exact bT.o 2 Iv
   have dJ:Hd ((ao 2).getD k []=(o 2).getD k []):=by rw[<-bl.o,Bt _ _ Iv,<-aj.o,Bt _ _ Iv];exact cp.o 2 Iv
   obtain⟨C,a0,ak,aw,dR,W,r,cJ,bv,aW⟩:=K.look (n:=n) (k:=k) (j:=2) Iv bJ.o g.o;obtain⟨Q,M,a5,ab,aa,du,dl⟩:=Sl.atW (n:=n) (k:=k) (K.rd.now.1) H.2.1 g.o;obtain⟨aL,aP⟩:=xg ((ao 2).getD k []);rw[aP]at r bv aW;obtain⟨aF,bs⟩:=xg aL.length;rw[bs]at r bv aW;have dn:=lh (An aP bs);have bF:Hd (aF<=10000000):=by have c:=bW.o 2 Iv k g.o;rw[<-dJ.o,aP,bs]at c;exact c
   have af:=lh (An W r);have bo:=lh cJ;have b9:=lh bv;have bK:=lh aW;have cc:=lh du;have dt:=lh dl;have bb:Hd (pt p ci cD bg=pt p ci cD bg/\ci=sL Q M n a5):=⟨rfl,aa⟩;have cZ:Hd (l<=G.heap.size):=by have c:=K.lt b K.gF;show l<=_;omega
   have cj:∀a,BW G a->(a.cell? (Ad b 5)=some (sL C 0 n a0))/\(a.cell? (Ad b 0)=some (sL Q M n a5)):=fun a d=>by obtain⟨c,f,-⟩:=(K.blk.B d).cs [5,0];simp only[pt,gz,gs]at c f;rw[c,f];exact⟨by rw[<-af.1],by rw[<-bb.2]⟩
   have b5:∀a,BW G a->((a.cell? (Ad b 5)=some (sL C 0 n a0))/\(a.cell? (Ad C k)=some (.slice ak aF aw))/\(a.cell? (Ad b 0)=some (sL Q M n a5))/\(a.cell? (Ad Q (M+k))=some (iV ab))):=fun a d =>
    ⟨(cj a d).1,by rw[(bo.B d).cell];exact b9.o,(cj a d).2,(d.cell (p:=(Ad Q (M+k))) (ht cc.o)).trans cc.o⟩
   have dI:=b5 G.drew (hG bR);have c6:=b5 (G.alloc (.cells #[iV ab] 2)).drew (hG (hB bR _));have bA:=bo.frozen k;clear b5 cj aP bs W r aa cJ bv aW du dl bA;go_upto_region 5 with fail;refine se (fun a=>(a.cell? (Ad b 5)=some (sL C 0 n a0))/\(a.cell? (Ad C k)=some (.slice ak aF aw))/\(a.cell? (Ad b 0)=some (sL Q M n a5))/\(a.cell? (Ad Q (M+k))=some (iV ab))) 22 kr ?_;refine O7 ?_;show _;refine wo 20 kr rfl fun a4 ac=>?_;go_simp;refine ac.out _ _ (fun hun=>c6) ?_;clear ac a4;try simp only[ap,aq,sa,sb,sc]
   refine wo 21 kr rfl fun a4 ac=>?_;refine DS rfl (.tmp 68) (.tmp 77) 33 rfl l 2 bI (iZ) 1 8 underlying33 b' bD cg bY rfl Iv (.slice ak aF aw) aF (aL.map (Value.int .i64)) JF (ic bK.o (hG (hB bR _))) (Ad G.heap.size 0) 1 1 [iV ab] JF rfl (D3 G _ _) L2 (by have:=bF.o;unfold maxLen;omega) (oo bF.o) (by rw[wd,wa];exact Nat.le_succ_of_le cZ.o) ?_;intro dM O b3 bd dq;obtain⟨be,bt,rfl⟩:=ro b3 om;have cX:=lh b3;have dr:=lh bd;have dk:=lh dq;have bS:Hd (∀z e A,hA G z e A->e≠2->hA O z e A):=fun z e A d aB=>p7 (d.B (hG (hB bR _))) bd (hh bK.o d aB);have bP:=lh (bS.o _ _ _ bo.o Iv);have cT:O.cell? (Ad C k)=some (.slice ak aF aw):=by rw[bP.cell];exact b9.o
   have bA:=bP.frozen k;have c':(O.cell? (Ad b 5)=some (sL C 0 n a0))/\(O.cell? (Ad C k)=some (.slice ak aF aw))/\(O.cell? (Ad b 0)=some (sL Q M n a5))/\(O.cell? (Ad Q (M+k))=some (iV ab)):=by have a6:hC aO G O:=hC.grown (hC.drew ((hC.refl _ _).alloc _)) bd (fun x az=>.inl (K.its.inF (5+3*k+2) x (by rw[jdn,af.2];exact az)));have Y:=(K.rd _ a6).1;rw[bb.2]at Y;obtain⟨c7,db,cC,aJ,Z,aN⟩:=Y.get (i:=k) (by rw[show p.bs.length=n from H.2.1];exact g.o);cases aJ;rw[aN.symm.trans dt.o]at Z;obtain⟨c,f,-⟩:=(bS.o _ _ _ K.blk Iv).cs [5,0];simp only[pt,gz,gs]at c f;exact⟨by rw[c,<-af.1],cT,by rw[f,<-bb.2],Z⟩
   clear b3 bd dq;refine ac.out _ _ (fun hun=>c') ?_;clear ac a4;refine Mx ?_;intro a4 ac;clear ac a4 c';refine MW ?_;intro a4 ac;clear ac a4 cT bA dI c6;try simp only[ap,aq,sa,sb,sc]
   refine r4 kr ?_ _;obtain⟨bO,c3⟩:=xg ((Value.slice (some (Ad be 0)) (aF+1) bt).ownBlock.toList++aO);obtain⟨cA,dw⟩:=xg (v6 bg (5+3*k+2) (sL be 0 (aF+1) bt));obtain⟨cY,b1⟩:=xg (z4 ao 2 ((ao 2).set k (aL++[ab])));obtain⟨dQ,c9,dz,dA⟩:∃B,O.setCell (Ad C k) (sL be 0 (aF+1) bt)=B/\Hd (hf l b p s ar bk cY bO B jR cA ci cD)/\Hd (hT ag m bO B):=by
    have ay:(aL++[ab]).length=aF+1:=by rw[la,dn.2];rfl
    have a2:hC (Value.slice ak aF aw).ownBlock.toList G O:=hC.grown (hC.drew ((hC.refl _ _).alloc _)) dr.o (fun q aG=>.inl (tl.2 aG));have h:=K.row (j:=2) (k:=k) Iv (by rw[bJ.o];exact g.o) (tb:=C) (cap:=a0) (by rw[bJ.o];exact af.1) (v:=sL be 0 (aF+1) bt) (y:=aL++[ab]) (by rw[af.2];exact a2) (by rw[ay,List.map_append];exact cX.o) (by
     rw[af.2];rcases dk.o with e | e;·exact .inl e
     ·refine .inr ⟨_,e,?_⟩;rw[wd,wa]
      exact Nat.le_succ _)
    rw[c3,dw,b1]at h;exact⟨_,rfl,h.1,dF.trans h.2⟩
   with_reducible rw[c9]
   have dD:=lh b1;clear c9 c3 dw b1 cX dr dk bS bP bK af bo b9 cc bb cZ bF;go_wp2_with fail;go_roundg bZ;case measure=>omega
   case rel =>
    have e:cY=w7 o p.bs s (k+1):=by
     rw[<-dD.o,<-bl.o,<-aj.o];have d0:=g.o;have d2:=cq.1;have dj:=cV.1;have ds:=dn.1;rw[<-aj.o,Bt _ _ (by decide)]at dj;rw[<-bl.o,Bt _ _ (by decide),<-aj.o,Bt _ _ (by decide)]at ds;rw[<-d2,<-dj,<-ds,<-cP.o,<-c0.o,<-dt.o]
     funext i
     unfold z4;rw[<-d5.o];unfold w7;have c8:∀j,j<3->k<(o j).length:=fun j X=>by rw[H.1 j X];exact d0
     have ke:∀j (v:List Int),j<3->(io (o j) v k).set k ((io (o j) v k).getD k []++[v.getD k 0])=io (o j) v (k+1):=fun j v X=>by rw[Cj _ _ _ _ (c8 j X),if_neg om];exact Jn _ _ _ (c8 j X)
     rcases Nat.lt_or_ge i 3 with d4 | d4
     ·obtain rfl | rfl | rfl:i=0\/i=1\/i=2:=om;·simpa using ke 0 p.bs Iv
      ·simpa using ke 1 s Iv
      ·simpa using ke 2 p.bs Iv
     ·rw[if_neg om,if_neg om,if_neg om,if_neg om,if_neg om,if_neg om,if_neg om,if_neg om,if_neg om]
    have dc:=dz.o;rw[e]at dc;have cN:=dA.o;rw[di.1,di.2]at cN;exact⟨k+1,oo dG.o,by go_num,bO,cA,dc,fp.trans cN⟩
def po (b:Nat->List (List Int)) (c a:Nat):List (List Int):=if a=0\/a=1 then List.replicate c [] else b a
def Ed (b:Nat->Value) (a:Nat):Value:=if a=2\/a=3\/(5<=a/\(a-5)%3<2) then sZ else b a
theorem hf.clr {l:Ps} {bk:List (Int×Nat×Nat)} {b:Nat->List (List Int)} {W':World} {d:Nat->Value} (h:hf n m l r L bk b F W C d v u)
 (k:hC [m] W W') (A:hA W' m 109 (pt l v u (Ed d))):hf n m l r L bk (po b 0) F W' C (Ed d) v u/\hT F W F W':=by
 have s:hT F W F W':=⟨k.mono (fun j c=>by simp only[ms]at c;exact c▸h.gF),fun _ c=>.inl c⟩;have p:Be n F W (i1 L bk (po b 0) C (Ed d)):=h.its.drop fun a=>by
  by_cases x:a=2\/a=3\/(5<=a/\(a-5)%3<2)
  ·refine .inr ⟨by rw[jdn];exact if_pos x,?_⟩;unfold i1;rw[if_neg om,if_neg om];by_cases i:a<5;·rw[if_pos i];have o:po b 0 (a-2)=[]:=if_pos om;simp only[o];exact⟨rfl,rfl⟩
   ·rw[if_neg i];have o:po b 0 ((a-5)%3)=[]:=if_pos om;simp only[o];exact⟨rfl,rfl⟩
  ·left;unfold i1;rw[show Ed d a=d a from if_neg x];by_cases e:a=0;·rw[if_pos e,if_pos e]
   rw[if_neg e,if_neg e];by_cases f:a=1;·rw[if_pos f,if_pos f]
   rw[if_neg f,if_neg f];by_cases g:a<5
   ·obtain rfl:a=4:=om;rw[if_pos g,if_pos g,show po b 0 (4-2)=b (4-2) from if_neg om]
    congr 1
    exact List.map_congr_left fun i _=>if_neg om
   ·rw[if_neg g,if_neg g,show po b 0 ((a-5)%3)=b ((a-5)%3) from if_neg om]
 refine⟨⟨A,h.gF,fun j c=>⟨(h.lt j c).1,Nat.lt_of_lt_of_le (h.lt j c).2 k.size⟩,s.rd h.rd,p.off k fun a q y t=>?_⟩,s⟩;rw[ms]at t;subst t;have z:=hh (p.own a) h.blk (HA _ _ _ _ _ _).symm;exact z y.symm
theorem Os (g c:Nat) (m:Ps) (z:List Int) (A:List St) (bk:List (Int×Nat×Nat)) (G:Nat->List (List Int)) (p:List Nat) (jR:List Value) (a1:Nat->Value) (ci cD) (n:Nat) (a8:n<=1000) (w) (h:hf g c m z A bk G p w jR a1 ci cD) :
 Calls prog 71 #[pV c,iV (n:Int)] w (JS (.tuple #[]) g c m z A bk (po G n) p w):=by
 have am:=lh h;have S:=lh a8;obtain⟨bd,aK,-⟩:=h.blk.cs [7,8];obtain⟨bm,b2,-⟩:=h.blk.fs [7,8];simp only[pt,gz,gs]at bd aK;clear h a8;obtain⟨aO,i,aL,be,aW⟩:=info_parts KN;go_enter func71,ntmps71;go_wp2_with fail;obtain⟨ae,aU,bs,bi⟩:∃ae,(w.setCell (Ad c 7) (sZ)).setCell (Ad c 8) (sZ)=ae/\Hd (hf g c m z A bk (po G 0) p ae jR (Ed a1) ci cD)/\Hd (hT p w p ae):=by have av:=am.clr (W':=(w.setCell (Ad c 7) (sZ)).setCell (Ad c 8) (sZ)) (((hC.refl _ _).setCell (.inl Is) _).setCell (.inl Is) _) ((am.blk.set 7 _).set 8 _);exact⟨_,rfl,av.1,av.2⟩
 with_reducible rw[aU]
 clear aU bd aK bm b2 am;go_loopg [4] n (fun a3 a wr=>∃k:Nat,k+a3=n/\a=iV k/\∃lA vf',Hd (hf g c m z A bk (po G k) lA wr jR vf' ci cD)/\Hd (∀a,5<=a->(a-5)%3<2->vf' a=sZ)/\Hd (hT p w lA wr));case atStart=>exact⟨0,by omega,rfl,p,Ed a1,bs,fun a av O=>if_pos (.inr (.inr ⟨av,O⟩)),bi⟩
 case round =>
  obtain⟨k,qm,rfl,lA,vf',aV,bg,fp⟩:=hrel;have b0:=lh qm;have a8:=S.o;cases gk with
  | zero=>exact NV
  | succ a3 =>
   have ch:(k:Int)<n:=om;have af:Hd (k<n):=by show k<n;omega
   clear qm;obtain⟨b3,Q⟩:=xg (po G k);rw[Q]at aV;have aQ:Hd (b3 0=List.replicate k []):=by rw[<-Q];exact if_pos (.inl rfl)
   have bw:Hd (b3 1=List.replicate k []):=by rw[<-Q];exact if_pos (.inr rfl)
   have aa:=lh Q;obtain⟨C,bz⟩:∃C,C=wr:=⟨_,rfl⟩;subst bz;obtain⟨au,b7⟩:∃au,au=lA:=⟨_,rfl⟩;subst b7;obtain⟨M,b6⟩:∃aZ,aZ=vf':=⟨_,rfl⟩;subst b6;have Y:=bg;have bj:=fp;clear Q bg fp;have aa:Hd (∃J,M 2=J/\C.ownsRow g 33 1 J k ((List.range k).map fun _=>sZ)):=by have av:=aV.tab (j:=0) Iv;refine⟨_,rfl,?_⟩;rw[show(b3 0).length=k by rw[aQ.o];simp]at av;rw[show((List.range k).map fun _=>sZ)=(List.range k).map fun d=>M (5+3*d+0) from List.map_congr_left fun d _=>(Y.o _ om om).symm];exact av
   obtain⟨aC,a2,aE⟩:=aa.o;have aR:=lh aE;have ac:=lh a2;have b5:C.cell? (Ad c 7)=some aC:=by have av:=aV.blk.cell 7;simp only[pt,gz,gs]at av;rw[av,a2]
   have bo:=aV.blk.lt;have aT:Hd (g<=C.heap.size):=by have av:=aV.lt c aV.gF;show g<=_;omega
   clear a2 aE aa;go_upto_region 5 with(at_builtin;refine BS _ rfl (.tmp 20) (.tmp 21) 107 rfl g 33 aO (sZ) 1 24 underlying107 i aL be aW rfl (by decide) aC k ((List.range k).map fun _=>sZ) (by rfl) (ic aR.o (hB bR _)) (Ad C.heap.size 0) 1 1 [sZ] (by rfl) rfl (Ee C _ _) (by intro u R;simp at R;subst R;rfl) (by have:=af.o;have:=S.o;unfold maxLen;omega) (o2 af.o S.o) (by rw[wa];exact Nat.le_succ_of_le aT.o) ?_;intro aZ a4 ao al a9;obtain⟨F,H,rfl⟩:=ro ao om;have ar:=lh ao;have bb:=lh al;have aJ:=lh a9;have T:Hd (hA a4 c 109 (pt m ci cD M)):=p7 (aV.blk.B (hB bR _)) al (by rw[<-ac.o];exact aV.gOff 2);have bc:=T.cell 7;have bt:=T.frozen 7;simp only[pt,gz,gs]at bc;clear ao al a9 b5)
   obtain⟨an,aD⟩:=xg ((Value.slice (some (Ad F 0)) (k+1) H).ownBlock.toList++au);obtain⟨l,W⟩:=xg (v6 M 2 (sL F 0 (k+1) H));obtain⟨v,ad⟩:=xg (z4 b3 0 (List.replicate (k+1) []));obtain⟨L,aG,s,bp⟩:∃B,a4.setCell (Ad c 7) (sL F 0 (k+1) H)=B/\Hd (hf g c m z A bk v an B jR l ci cD)/\Hd (hT p w an B):=by
    have e:∀a,a≠2->l a=M a:=fun a i=>by rw[<-W];exact B5 _ _ i
    have o:l 2=sL F 0 (k+1) H:=by rw[<-W];exact E1 _ _ _
    have V:v 0=List.replicate (k+1) []:=by rw[<-ad];exact GI _ _ _
    have K:∀a,a≠0->v a=b3 a:=fun a i=>by rw[<-ad];exact Bt _ _ i
    have a0:b3 0=List.replicate k []:=aQ.o;have h:=aV.turn (p':=m) (rs':=z) (out':=A) (bk':=bk) (T':=v) (vs':=jR) (vf':=l) (pv':=ci) (rv':=cD) 2 (W':=a4.setCell (Ad c 7) (sL F 0 (k+1) H))
     (by rw[ac.o];exact((hC.grown ((hC.refl _ _).alloc _) bb.o (fun q a5=>.inl (tl.2 a5))).mono (fun x aj=>mo _ aj)).sg _)
     (by
      have av:=T.set 7 (sL F 0 (k+1) H);unfold pt at av ⊢;rw[e 0 Iv,e 4 Iv,e 1 Iv,o,e 3 Iv]
      exact av)
     (by
      rw[show(2:Nat)=2+0 from rfl,FD _ _ _ _ _ Iv,V];simp only[List.length_replicate,List.range_succ,List.map_append,List.map_cons,List.map_nil];rw[show l (2+0)=_ from o,e (5+3*k+0) om,Y.o (5+3*k+0) om om,show((List.range k).map fun d=>l (5+3*d+0))=(List.range k).map fun _=>sZ from List.map_congr_left fun d _=>by rw[e _ om,Y.o _ om om]]
      exact t1 ar.o (hh ar.o T.o Iv) _)
     (by
      rw[o,ac.o];rcases aJ.o with f | f;·exact .inl f
      ·refine .inr ⟨_,f,?_⟩;rw[wa]
       exact Nat.le_succ _)
     (fun a i=>by
      unfold i1;rw[e a i];by_cases t:a=0;·rw[if_pos t,if_pos t]
      rw[if_neg t,if_neg t];by_cases r:a=1;·rw[if_pos r,if_pos r]
      rw[if_neg r,if_neg r];by_cases bu:a<5
      ·rw[if_pos bu,if_pos bu,K _ om]
       congr 1
       exact List.map_congr_left fun d _=>e _ om
      ·rw[if_neg bu,if_neg bu];by_cases f:(a-5)%3=0;·rw[f,V,a0,Ec,Ec]
       ·rw[K _ f])
     aV.rd
    rw[o,aD]at h;exact⟨_,rfl,h.1,bj.trans h.2⟩
   with_reducible rw[aG]
   have Z:Hd (∀a,5<=a->(a-5)%3<2->l a=sZ):=fun a av O=>by rw[<-W,B5 _ _ om];exact Y.o a av O
   have bh:=lh ad;clear aG aD W ad ar bb aJ T bc bt aR ac aT bo;have aH:Hd (v 1=List.replicate k []):=by rw[<-bh.o,Bt _ _ Iv];exact bw.o
   have aY:Hd (∃J,l 3=J/\L.ownsRow g 33 1 J k ((List.range k).map fun _=>sZ)):=by have av:=s.tab (j:=1) Iv;refine⟨_,rfl,?_⟩;rw[show(v 1).length=k by rw[aH.o];simp]at av;rw[show((List.range k).map fun _=>sZ)=(List.range k).map fun d=>l (5+3*d+1) from List.map_congr_left fun d _=>(Z.o _ om om).symm];exact av
   obtain⟨aB,ay,aP⟩:=aY.o;have aM:=lh aP;have ab:=lh ay;have b4:L.cell? (Ad c 8)=some aB:=by have av:=s.blk.cell 8;simp only[pt,gz,gs]at av;rw[av,ay]
   have b1:=s.blk.lt;have bf:Hd (g<=L.heap.size):=by have av:=s.lt c s.gF;show g<=_;omega
   clear ay aP aY
   go_wp2_with (at_builtin;refine BS _ rfl (.tmp 29) (.tmp 30) 107 rfl g 33 aO (sZ) 1 24 underlying107 i aL be aW rfl (by decide) aB k ((List.range k).map fun _=>sZ) (by rfl) (ic aM.o (hB bR _)) (Ad L.heap.size 0) 1 1 [sZ] (by rfl) rfl (Ee L _ _) (by intro u R;simp at R;subst R;rfl) (by have:=af.o;have:=S.o;unfold maxLen;omega) (o2 af.o S.o) (by rw[wa];exact Nat.le_succ_of_le bf.o) ?_;intro b9 ax a7 ai a';obtain⟨D,E,rfl⟩:=ro a7 om;have ah:=lh a7;have aA:=lh ai;have aS:=lh a';have I:Hd (hA ax c 109 (pt m ci cD l)):=p7 (s.blk.B (hB bR _)) ai (by rw[<-ab.o];exact s.gOff 3);have aN:=I.cell 8;have br:=I.frozen 8;simp only[pt,gz,gs]at aN;clear a7 ai a' b4)
   obtain⟨aw,aF⟩:=xg ((Value.slice (some (Ad D 0)) (k+1) E).ownBlock.toList++an);obtain⟨y,ag⟩:=xg (v6 l 3 (sL D 0 (k+1) E));obtain⟨P,X⟩:=xg (z4 v 1 (List.replicate (k+1) []));obtain⟨b8,aI,bl,bq⟩:∃B,ax.setCell (Ad c 8) (sL D 0 (k+1) E)=B/\Hd (hf g c m z A bk P aw B jR y ci cD)/\Hd (hT p w aw B):=by
    have e:∀a,a≠3->y a=l a:=fun a i=>by rw[<-ag];exact B5 _ _ i
    have o:y 3=sL D 0 (k+1) E:=by rw[<-ag];exact E1 _ _ _
    have V:P 1=List.replicate (k+1) []:=by rw[<-X];exact GI _ _ _
    have K:∀a,a≠1->P a=v a:=fun a i=>by rw[<-X];exact Bt _ _ i
    have a0:v 1=List.replicate k []:=aH.o;have h:=s.turn (p':=m) (rs':=z) (out':=A) (bk':=bk) (T':=P) (vs':=jR) (vf':=y) (pv':=ci) (rv':=cD) 3 (W':=ax.setCell (Ad c 8) (sL D 0 (k+1) E))
     (by rw[ab.o];exact((hC.grown ((hC.refl _ _).alloc _) aA.o (fun q a5=>.inl (tl.2 a5))).mono (fun x aj=>mo _ aj)).sg _)
     (by
      have av:=I.set 8 (sL D 0 (k+1) E);unfold pt at av ⊢;rw[e 0 Iv,e 4 Iv,e 1 Iv,e 2 Iv,o]
      exact av)
     (by
      rw[show(3:Nat)=2+1 from rfl,FD _ _ _ _ _ Iv,V];simp only[List.length_replicate,List.range_succ,List.map_append,List.map_cons,List.map_nil];rw[show y (2+1)=_ from o,e (5+3*k+1) om,Z.o (5+3*k+1) om om,show((List.range k).map fun d=>y (5+3*d+1))=(List.range k).map fun _=>sZ from List.map_congr_left fun d _=>by rw[e _ om,Z.o _ om om]]
      exact t1 ah.o (hh ah.o I.o Iv) _)
     (by
      rw[o,ab.o];rcases aS.o with f | f;·exact .inl f
      ·refine .inr ⟨_,f,?_⟩;rw[wa]
       exact Nat.le_succ _)
     (fun a i=>by
      unfold i1;rw[e a i];by_cases t:a=0;·rw[if_pos t,if_pos t]
      rw[if_neg t,if_neg t];by_cases r:a=1;·rw[if_pos r,if_pos r]
      rw[if_neg r,if_neg r];by_cases bu:a<5
      ·rw[if_pos bu,if_pos bu,K _ om]
       congr 1
       exact List.map_congr_left fun d _=>e _ om
      ·rw[if_neg bu,if_neg bu];by_cases f:(a-5)%3=1;·rw[f,V,a0,Ec,Ec]
       ·rw[K _ f])
     s.rd
    rw[o,aF]at h;exact⟨_,rfl,h.1,bp.trans h.2⟩
   with_reducible rw[aI]
   have bx:Hd (∀a,5<=a->(a-5)%3<2->y a=sZ):=fun a av O=>by rw[<-ag,B5 _ _ om];exact Z.o a av O
   have bv:=lh X;clear aI aF ag X ah aA aS I aN br aM ab bf b1;go_wp2_with fail;go_roundg a3;case measure=>omega
   case rel =>
    have f:P=po G (k+1):=by
     rw[<-bv.o,<-bh.o,<-aa.o]
     funext a
     unfold z4 po;by_cases d:a=1;·rw[if_pos d,if_pos (.inr d)]
     rw[if_neg d];by_cases b:a=0;·rw[if_pos b,if_pos (.inl b)]
     ·rw[if_neg b,if_neg om,if_neg om]
    have aX:=bl.o;rw[f]at aX;exact⟨k+1,oo b0.o,by go_num,aw,y,aX,bx,bq.o⟩
theorem MU (h:q:=by intro b ae ah q I a0;cases I;obtain⟨Av,v8,aX,cH⟩:=qD.at (i:=0) a0;cases aX;have:=ht cH;omega):q:=h
theorem TE (h:q:=by
 go_wp2_with fail;go_roundg eg;case measure=>omega
 case rel=>exact⟨k+1,aw,rfl,by go_num,⟨oo bO.o,oo bO.o,oo bO.o⟩,n'.o,ou.o⟩):q:=h
theorem UX {b:Nat} {c:Value} (h:w.cell? (Ad n m)=some v/\w.cell? (Ad k i)=some u/\w.cell? (Ad j g)=some V/\w.cell? (Ad M b)=some c) (a:BW w W):W.cell? (Ad n m)=some v/\W.cell? (Ad k i)=some u/\W.cell? (Ad j g)=some V/\W.cell? (Ad M b)=some c:=
 ⟨(a.cell (p:=(Ad n m)) (ht h.1)).trans h.1,(a.cell (p:=(Ad k i)) (ht h.2.1)).trans h.2.1,(a.cell (p:=(Ad j g)) (ht h.2.2.1)).trans h.2.2.1,(a.cell (p:=(Ad M b)) (ht h.2.2.2)).trans h.2.2.2⟩
theorem HD {b:Option Nat} (c:w.cell? (Ad n m)=some v) (e:w.grownBy W b) (d:some n≠b):W.cell? (Ad n m)=some v:=
 (World.cell?_of_block (w:=w) (a:=(Ad n m)) (e.block n (ht c) d)).trans c
theorem HL (e:w.cell? (Ad k i)=some v) (c:k≠n) (b):(w.setCell (Ad n m) b).cell? (Ad k i)=some v:=
 (World.cell?_of_block (w:=w) (a:=(Ad k i)) (heap_setCell_other w (Ad n m) k b (fun d=>c d))).trans e
theorem U8 {a:Option Nat} {d:Nat} {c:Value} (h:w.cell? (Ad n m)=some v/\w.cell? (Ad k i)=some u/\w.cell? (Ad j g)=some V/\w.cell? (Ad M d)=some c) (b:w.grownBy W a) (l:some n≠a) (o:some k≠a) (e:some j≠a) (f:some M≠a):W.cell? (Ad n m)=some v/\W.cell? (Ad k i)=some u/\W.cell? (Ad j g)=some V/\W.cell? (Ad M d)=some c:=
 ⟨HD h.1 b l,HD h.2.1 b o,HD h.2.2.1 b e,HD h.2.2.2 b f⟩
theorem jjp {d b e:Nat} {c:Value} (h:w.cell? (Ad n m)=some v/\w.cell? (Ad k j)=some u/\w.cell? (Ad M d)=some V/\w.cell? (Ad b e)=some c) (o:n≠g) (p:k≠g) (f:M≠g) (l:b≠g) (a):(w.setCell (Ad g i) a).cell? (Ad n m)=some v/\(w.setCell (Ad g i) a).cell? (Ad k j)=some u/\(w.setCell (Ad g i) a).cell? (Ad M d)=some V/\(w.setCell (Ad g i) a).cell? (Ad b e)=some c:=
 ⟨HL h.1 o a,HL h.2.1 p a,HL h.2.2.1 f a,HL h.2.2.2 l a⟩
theorem jjw (h:Below W.drew.heap.size W.drew Y):BW W Y:=hJ (hG bR) h
theorem Xv {a:Obj} (h:Below (W.alloc a).drew.heap.size (W.alloc a).drew Y):BW W Y:=hJ (hG (hB bR _)) h
theorem ZB {cs:List Value} (h:Below (W.alloc (.cells cs.toArray e)).drew.heap.size (W.alloc (.cells cs.toArray e)).drew Y):hA Y W.heap.size e cs:=hA.B (w:=(W.alloc (.cells cs.toArray e)).drew) (heap_alloc_new W _) h
theorem V0 {b:List Int} (h:s0 r c d x=(b,f,y,0)):hW r c d=true:=by
 cases a:hW r c d with
 | true=>rfl
 | false=>unfold s0 at h;rw[if_pos a]at h;injection h with _ h;injection h with _ h;injection h with _ h;exact absurd h Iv
theorem jfo (v) (ts:List (Int×Bool)) (ay al an az ar ax dH cb bV:Int) (cm) (bs:List Int) (c aa:Int) (bE) (d:List Int) (cf) (l:List Int) (t:Bool) (eq:ts.length<=1000) (kw:hu ay ts al an az ar ax=true) (b8:CQ ts.length dH cb bV bs.length d.length=true) (tu:d.any q1=false) (L:List Int) (co ib:Int) (cN:Hd (s0 bs c aa l=(L,co,ib,0))) (bX:L.length=bs.length) (cx:l.length=bs.length) (tot:Int) (ex:Hd (AY L co ib=tot)) (bq x:Int) (cR:Hd (B2 (hu ay ts al an az ar ax) az ar tot=(bq,x))) (b2:Int) (rB:bV+an=b2) (d7:-9000000000<=b2/\b2<=9000000000) (w) (b7:h7 w v ts) (A:Sl .i64 w cm bs) (cy:Sl .i64 w bE d) (cK:Sl .i64 w cf l) :
 Calls prog 128 #[.agg #[iV ay,v,iV al,iV an,iV az,iV ar,iV ax],iV dH,.agg #[iV cb,iV bV],.agg #[cm,iV c,iV aa],bE,cf,.bool t] w (EU dH cb bV b2 (ih L l d) tot co bq t L co bq 0 w):=by
 have c0:=lh b7;have e0:=lh A;have bZ:=lh cy;have bO:=lh cK;obtain⟨aF,aC,rfl,a2,⟨aN,J⟩,er⟩:=b7;clear er J;obtain⟨rx,ry,rfl,eP,⟨dz,J⟩,er⟩:=A;clear er J;obtain⟨e7,eB,rfl,eX,⟨dp,J⟩,er⟩:=cy;clear er J;obtain⟨e9,eE,rfl,eM,⟨dI,J⟩,er⟩:=cK;clear er J;unfold maxLen at aN dz dp dI;obtain⟨cO,e4,da,cU,cV,cp,ci⟩:=jhn.1 b8;have dc:((bs.length:Int) == (ts.length:Int))=true:=by simp;omega
 have cQ:((d.length:Int) == (ts.length:Int))=true:=by simp;omega
 have V:=lh (An cp (An ci (An bX (An cx eq))));refine RK ?_;intro gt;refine Hu ?_;unhygienic intros
 clear b8 kw tu bX cx rB ne nf d7 cp ci;go_enter func128,ntmps128;go_wp2_with fail;refine Cb ?_;unhygienic intros
 clear aW ru;have bD:=lh (c0.B gu.o);refine(EE _ ts ay al an az ar ax _ gt _ bD.o).mono ?_;rintro _ dS ⟨rfl,eW⟩;have nX:=lh (oM.B eW);have nW:=lh (oN.B eW);have l5:=lh (oO.B eW);have cn:=lh (oP.B eW);have aZ:=lh (oQ.B eW);have af:=lh (hJ gu.o eW);clear eW oM oN oO oP oQ gu bD gt;go_upto_region 3 with fail;refine LV ?_;unhygienic intros
 go_wp2_with fail;clear c' aS cM dN dc cQ cO e4 da cU cV;have bB:=lh (bZ.B af.o);go_loopg [17,18] d.length (fun t s i wr=>∃(k:Nat),k+t=d.length/\s=.bool true/\i=iV k/\dS=wr);case atStart=>exact⟨0,by omega,rfl,rfl,rfl⟩
 case round =>
  obtain⟨k,c4,rfl,rfl,rfl⟩:=hrel;cases gk with
  | succ eg=>have aE:(k:Int)<d.length:=om;obtain⟨Av,v8,y,rfl,eC,en⟩:=bB.get (i:=k) om;have ak:=Oc va.o (k:=k) om;rw[en.o]at ak;obtain⟨eG,eR⟩:=ak;exact FW
  | zero =>
   have aE:¬((k:Int)<d.length):=om;have jy:=l5.o;obtain⟨dN,bx,ac,-⟩:=jy.cS [0,1,2];clear jy;go_wp2_with fail;refine(VB _ _ bs l c aa (lh (V0 cN.o)) V.2.2.2.1 _ cN (oo V.o) _ (e0.B af.o) (bO.B af.o)).mono ?_;rintro _ db ⟨eV,rfl,⟨aB,c1⟩,bp⟩;simp only at aB ⊢;obtain⟨dh,bF,rfl⟩:=aB.shape;have c7:=lh aZ.lt;have b4:=lh aB;have aV:=lh c1;have b0:=lh (nX.B bp);have cB:=lh (nW.B bp);have bS:=lh (cn.B bp);have c2:=lh (aZ.B bp);have ck:=lh (hJ af.o bp);have bb:=lh (l5.B bp);have aU:=bb.o;clear dN bx ac;obtain⟨dN,bx,ac,-⟩:=aU.cS [0,1,2];obtain⟨cG,cq,aK,-⟩:=aU.fs [0,1,2];clear aU aB c1 bp nX nW l5 cn aZ af bB aE;go_upto_region 13 with fail;have X:Hd (∀b ae ah q,Value.slice dh L.length bF=sL b ae ah q->0<ah->b≠w.heap.size/\b≠(w.heap.size+1)/\b≠(w.heap.size+1+1)/\b≠(w.heap.size+1+1+1)/\b≠(w.heap.size+1+1+1+1)):=fun b ae ah q I a0=>by have:=aV.o b ae ah q I a0;have dZ:=c7.o;omega
   have ep:Hd (Fr w (.slice dh L.length bF)):=fun b ae ah q I a0=>by have:=aV.o b ae ah q I a0;have dZ:=c7.o;omega
   obtain⟨a,cl,F,Z,D,a5,ad,aM,qD⟩:∃a,(((db.setCell (Ad (w.heap.size+1+1) 0) (.slice dh L.length bF)).setCell (Ad (w.heap.size+1+1) 1) (iV co)).setCell (Ad (w.heap.size+1+1) 2) (iV ib))=a/\Hd (hA a w.heap.size 24 [iV ay,.slice aF ts.length aC,iV al,iV an,iV az,iV ar,iV ax])/\Hd (hA a (w.heap.size+1) 40 [iV cb,iV bV])/\Hd (hA a (w.heap.size+1+1) 35 [.slice dh L.length bF,iV co,iV ib])/\Hd (hA a (w.heap.size+1+1+1) 43 [iZ,iZ,iZ,iZ,sZ,iZ,iZ,iZ,.bool false])/\Hd (hA a (w.heap.size+1+1+1+1) 35 [sZ,iZ,iZ])/\Hd (BW w a)/\Hd (Sl .i64 a (.slice dh L.length bF) L) :=
    ⟨_,rfl,((b0.setOther om _ _).setOther om _ _).setOther om _ _,((cB.setOther om _ _).setOther om _ _).setOther om _ _,((bb.set 0 _).set 1 _).set 2 _,((bS.setOther om _ _).setOther om _ _).setOther om _ _,((c2.setOther om _ _).setOther om _ _).setOther om _ _,p2 ck.o om _ _ _,((b4.setCell (fun b ae ah q I h=>(X.o b ae ah q I h).2.2.1) _).setCell (fun b ae ah q I h=>(X.o b ae ah q I h).2.2.1) _).setCell (fun b ae ah q I h=>(X.o b ae ah q I h).2.2.1) _⟩
   with_reducible rw[cl]
   clear cl b0 cB bb bS c2 ck b4 aV dN bx ac cG cq aK;refine LD ?_;intro jx kq;have P:=lh (fun W' (aw:BW a W')=>jx W' (F.B aw) (Z.B aw) (D.B aw));have bd:=lh (fun o (aw:BW a o) (bg bu bw bG c5 bz ca c6 bI:Value)=>(show BW a (((((((((o.setCell (Ad a.heap.size 0) bg).setCell (Ad a.heap.size 1) bu).setCell (Ad a.heap.size 2) bw).setCell (Ad a.heap.size 3) bG).setCell (Ad a.heap.size 4) c5).setCell (Ad a.heap.size 5) bz).setCell (Ad a.heap.size 6) ca).setCell (Ad a.heap.size 7) c6).setCell (Ad a.heap.size 8) bI) from Ey aw (nr _) _ _ _ _ _ _ _ _ _) |> fun h=>jx (((((((((o.setCell (Ad a.heap.size 0) bg).setCell (Ad a.heap.size 1) bu).setCell (Ad a.heap.size 2) bw).setCell (Ad a.heap.size 3) bG).setCell (Ad a.heap.size 4) c5).setCell (Ad a.heap.size 5) bz).setCell (Ad a.heap.size 6) ca).setCell (Ad a.heap.size 7) c6).setCell (Ad a.heap.size 8) bI) (F.B h) (Z.B h) (D.B h));have aY:=jx a F.o Z.o D.o;have a':=jx a.drew F.o Z.o D.o;clear jx;obtain⟨ne,nf⟩:=uZ.o;go_region_held3 (fun W'=>(Ce W' (w.heap.size+1) 0 (iV cb)/\Ce W' (w.heap.size+1) 1 (iV bV))/\Ce W' w.heap.size 3 (iV an)/\(Ce W' (w.heap.size+1+1) 0 (.slice dh L.length bF)/\Ce W' (w.heap.size+1+1) 1 (iV co)/\Ce W' (w.heap.size+1+1) 2 (iV ib))) (first | with_reducible exact bd.o _ m.o _ _ _ _ _ _ _ _ _ | with_reducible exact aY | with_reducible exact a' | with_reducible exact bh | with_reducible exact P.o _ (hB bR _) | with_reducible exact P.o _ (hG (hB bR _)) | with_reducible exact P.o _ (hB (hG bR) _) | with_reducible exact P.o _ (hB m.o _) | with_reducible assumption) (first | (go_at_call 17;refine(ygv _ L co ib tot ex _ (qD.o.B bL)).mono ?_;rintro _ o ⟨rfl,ai⟩;have bj:BW a o:=(by first | with_reducible exact ai | with_reducible exact jjw ai | with_reducible exact Xv ai);have m:=lh bj;have bh:=P.o o bj;clear bj;try (have g:hA o a.heap.size 43 [iZ,iZ,iZ,iZ,sZ,iZ,iZ,iZ,.bool false]:=ZB (cs:=[iZ,iZ,iZ,iZ,sZ,iZ,iZ,iZ,.bool false]) (by with_reducible exact ai);have cI:=g.cell 0;have bU:=g.cell 1;have bC:=g.cell 2;have b5:=g.cell 3;have bT:=g.cell 4;have cu:=g.cell 5;have cc:=g.cell 6;have cj:=g.cell 7;have b9:=g.cell 8;simp only[gz,gs]at cI bU bC b5 bT cu cc cj b9;have dd:=g.frozen 0;have dk:=g.frozen 1;have dg:=g.frozen 2;have ew:=g.frozen 3;have ea:=g.frozen 4;have cZ:=g.frozen 5;have dj:=g.frozen 6;have dA:=g.frozen 7;have dm:=g.frozen 8;have bH:=lh g;clear g);clear ai));all_goals (first
    | (
    obtain⟨f,aj,bo,a7,bm,aT,ab,bt,aR⟩:∃f,(o.alloc (.cells #[iV dH,iV cb,iV bV,iV b2,sZ,iV tot,iV co,iZ,.bool t] 43))=f/\Hd (hA f w.heap.size 24 [iV ay,.slice aF ts.length aC,iV al,iV an,iV az,iV ar,iV ax])/\Hd (hA f (w.heap.size+1+1) 35 [.slice dh L.length bF,iV co,iV ib])/\Hd (hA f (w.heap.size+1+1+1) 43 [iZ,iZ,iZ,iZ,sZ,iZ,iZ,iZ,.bool false])/\Hd (hA f (w.heap.size+1+1+1+1) 35 [sZ,iZ,iZ])/\Hd (hA f o.heap.size 43 [iV dH,iV cb,iV bV,iV b2,sZ,iV tot,iV co,iZ,.bool t])/\Hd (BW w f)/\Hd (Sl .i64 f (.slice dh L.length bF) L) :=
     ⟨_,rfl,(F.B m.o).B (hB bR _),(D.B m.o).B (hB bR _),(a5.B m.o).B (hB bR _),(ad.B m.o).B (hB bR _),heap_alloc_new o _,hB (hJ aM.o m.o) _,(qD.B m.o).B (hB bR _)⟩
    with_reducible rw[aj]
    have hge:a.heap.size<=o.heap.size:=m.size;have ao:=ad.lt;have E:Hd (∀b ae ah q,Value.slice dh L.length bF=sL b ae ah q->0<ah->b<o.heap.size):=by exact MU
    obtain⟨e,O⟩:=xg o.heap.size;with_reducible rw[O]
    rw[O]at ab hge E;have r:Hd (w.heap.size+1+1+1+1<e):=by show _<_;omega
    clear O hge ao aj F Z D a5 ad aM qD aY a' bh kq P bd m ne nf)
    | (
    have ao:=ad.lt;have E:Hd (∀b ae ah q,Value.slice dh L.length bF=sL b ae ah q->0<ah->b<a.heap.size):=by exact MU
    obtain⟨f,aj,bo,a7,bm,aT,ab,bt,aR⟩:∃f,(((((((((o.setCell (Ad a.heap.size 0) (iV dH)).setCell (Ad a.heap.size 1) (iV cb)).setCell (Ad a.heap.size 2) (iV bV)).setCell (Ad a.heap.size 3) (iV b2)).setCell (Ad a.heap.size 4) (sZ)).setCell (Ad a.heap.size 5) (iV tot)).setCell (Ad a.heap.size 6) (iV co)).setCell (Ad a.heap.size 7) (iZ)).setCell (Ad a.heap.size 8) (.bool t))=f/\Hd (hA f w.heap.size 24 [iV ay,.slice aF ts.length aC,iV al,iV an,iV az,iV ar,iV ax])/\Hd (hA f (w.heap.size+1+1) 35 [.slice dh L.length bF,iV co,iV ib])/\Hd (hA f (w.heap.size+1+1+1) 43 [iZ,iZ,iZ,iZ,sZ,iZ,iZ,iZ,.bool false])/\Hd (hA f (w.heap.size+1+1+1+1) 35 [sZ,iZ,iZ])/\Hd (hA f a.heap.size 43 [iV dH,iV cb,iV bV,iV b2,sZ,iV tot,iV co,iZ,.bool t])/\Hd (BW w f)/\Hd (Sl .i64 f (.slice dh L.length bF) L) :=
     ⟨_,rfl,(F.B m.o).s9 om _ _ _ _ _ _ _ _ _,(D.B m.o).s9 om _ _ _ _ _ _ _ _ _,(a5.B m.o).s9 om _ _ _ _ _ _ _ _ _,(ad.B m.o).s9 om _ _ _ _ _ _ _ _ _,(((((((((bH.set 0 _).set 1 _).set 2 _).set 3 _).set 4 _).set 5 _).set 6 _).set 7 _).set 8 _),Ey (hJ aM.o m.o) om _ _ _ _ _ _ _ _ _,(qD.B m.o).s9 (fun b ae ah q I h=>oo (E.o b ae ah q I h)) _ _ _ _ _ _ _ _ _⟩
    with_reducible rw[aj]
    obtain⟨e,O⟩:=xg a.heap.size;with_reducible rw[O]
    rw[O]at ab E ao;have r:Hd (w.heap.size+1+1+1+1<e):=ao;clear cI dd bU dk bC dg b5 ew bT ea cu cZ cc dj cj dA b9 dm bH
    clear O ao aj F Z D a5 ad aM qD aY a' bh kq P bd m ne nf))
   all_goals (
    obtain⟨d1,du,es,dv,ed⟩:=info_parts O4;have cJ:=lh (show L.length<=1000 from oo V.o);obtain⟨u,bW⟩:=xg f.heap.size;have aQ:Hd (e<u/\w.heap.size<u):=by have a2:=ab.lt;have er:=a7.lt;show _/\_;omega
    have cd:Hd (∀b ae ah q,Value.slice dh L.length bF=sL b ae ah q->0<ah->b<u):=by intro b ae ah q I a0;have:=E.o b ae ah q I a0;have:=aQ.o;omega
    go_wp2_with fail;go_loopg [21] d.length (fun eg i wr=>∃k:Nat,k+eg=d.length/\i=iV k/\(∃j:Value,hA wr e 43 [iV dH,iV cb,iV bV,iV b2,j,iV tot,iV co,iZ,.bool t]/\wr.ownsRow u 65 3 j k (wY ((ih L l d).take k)))/\Hd (hA wr w.heap.size 24 [iV ay,.slice aF ts.length aC,iV al,iV an,iV az,iV ar,iV ax])/\Hd (hA wr (w.heap.size+1+1) 35 [.slice dh L.length bF,iV co,iV ib])/\Hd (hA wr (w.heap.size+1+1+1) 43 [iZ,iZ,iZ,iZ,sZ,iZ,iZ,iZ,.bool false])/\Hd (hA wr (w.heap.size+1+1+1+1) 35 [sZ,iZ,iZ])/\u<=wr.heap.size/\BW w wr/\Hd (Sl .i64 wr (.slice dh L.length bF) L));case atStart=>refine⟨0,by omega,rfl,⟨sZ,ab.o,?_⟩,bo.o,a7.o,bm.o,aT.o,Nat.le_of_eq bW.symm,bt.o,aR.o⟩;exact World.ownsRow_nil _ _ _ _
    case round =>
     clear bo a7 bm aT ab bt aR bW c4;obtain⟨k,c4,rfl,⟨j,a1,H⟩,aP,oz,oy,ox,un,A,n7⟩:=hrel;cases gk with
     | succ eg =>
      have aE:(k:Int)<d.length:=om;have dC:k<L.length:=oo V.o;have e6:(k:Int)<L.length:=om;obtain⟨br,Q,bc,cP,bA,dl⟩:=n7.get (i:=k) dC;have d4:k<l.length:=oo V.o;have be:k<d.length:=om;have eT:(k:Int)<l.length:=om;obtain⟨bn,a4,a3,aX,aD,dP⟩:=bO.get (i:=k) d4;obtain⟨M,or,aO,bl,a8,dn⟩:=bZ.get (i:=k) be;subst cP aX bl;have dN:=oz.cell 0;simp only[gz]at dN;have c9:wr.cell? (Ad bn (a4+k))=some (iV a3):=(A.cell (p:=(Ad bn (a4+k))) (ht aD)).trans aD;have bY:wr.cell? (Ad M (or+k))=some (iV aO):=(A.cell (p:=(Ad M (or+k))) (ht a8)).trans a8;have bQ:wr.cell? (Ad e 4)=some j:=a1.cell 4;have am:∀q,j.ownBlock=some q->u<=q:=fun q au=>(H.lt q au).1;have n:=lh am;have ek:Hd (∀q,j.ownBlock=some q->q=e->False):=fun q au I=>by have:=n.o q au;have:=aQ.1;omega
      have ev:k+1<=maxLen:=by unfold maxLen;have:=cJ.o;omega
      have cX:(k+1)*24<=140737488355328:=oo cJ.o;have cA:=lh A;have gQ:=lh a1;have cv:=lh H;have cz:=lh (An (ht aD) (ht a8));clear a1 A am H;go_upto_region 17 with fail;have bK:wr.cell? (Ad (w.heap.size+1+1) 0)=some (sL br Q L.length bF)/\wr.cell? (Ad br (Q+k))=some (iV bc)/\wr.cell? (Ad bn (a4+k))=some (iV a3)/\wr.cell? (Ad M (or+k))=some (iV aO):=⟨dN,bA,c9,bY⟩;have S:=lh (fun W' (h:BW wr W')=>UX bK h);have cg:=S.o wr.drew (hG bR);have bN:Hd (bn<w.heap.size/\M<w.heap.size):=An cz.1 cz.2;have c3:Hd (br<u/\br≠e):=by have a2:=cd.o br Q _ _ rfl om;have aN:=E.o br Q _ _ rfl om;exact An a2 om
      have aL:Hd ((some (w.heap.size+1+1)≠j.ownBlock)/\(some br≠j.ownBlock)/\(some bn≠j.ownBlock)/\(some M≠j.ownBlock)):=by have a2:=bN.o;have aN:=c3.o;have er:=aQ.o;have ct:=r.o;refine⟨fun I=>?_,fun I=>?_,fun I=>?_,fun I=>?_⟩ <;> (have:=n.o _ I.symm;omega)
      have aH:Hd ((w.heap.size+1+1)≠e/\br≠e/\bn≠e/\M≠e):=by have a2:=bN.o;have aN:=c3.o;have ct:=r.o;show _/\_;omega
      clear aD a8;have e2:wr.drew.cell? (Ad e 4)=some j:=bQ;have eQ:=An cg e2;refine se (fun W'=>(Ce W' (w.heap.size+1+1) 0 (sL br Q L.length bF)/\Ce W' br (Q+k) (iV bc)/\Ce W' bn (a4+k) (iV a3)/\Ce W' M (or+k) (iV aO))/\Ce W' e 4 j) 18 kr ?_;refine tK 0 rfl ?_;refine tK 1 rfl ?_;refine tK 2 rfl ?_;refine tK 3 rfl ?_;refine tK 4 rfl ?_;refine tK 5 rfl ?_;refine tK 6 rfl ?_;refine tK 7 rfl ?_;refine tK 8 rfl ?_;refine tK 9 rfl ?_;refine tK 10 rfl ?_;refine tK 11 rfl ?_;refine tK 12 rfl ?_;refine tK 13 rfl ?_;refine tK 14 rfl ?_;refine tK 15 rfl ?_;refine wo 16 kr rfl fun K ag=>?_;go_simp;refine ag.out _ _ (fun hun=>An (S.o _ (hB (hG bR) _)) (((gQ.B (hB (hG bR) _)).cell 4))) ?_;clear ag K;try simp only[ap,aq,sa,sb,sc]
      refine wo 17 kr rfl fun K ag=>?_;refine EF _ rfl (.tmp 123) (.tmp 138) 41 rfl u 65 d1 (.agg #[iZ,iZ,iZ]) 3 24 underlying41 du es dv ed rfl Iv j k (wY ((ih L l d).take k)) JF (by first | exact cv.alloc _ | exact(cv.alloc _).drew) (some (Ad wr.heap.size 0)) 1 1 [iV bc,iV a3,iV aO] JF rfl (by intro h;cases h) (by intro eJ cY;cases cY;exact Mp wr _ _ _ _) (fun x ak=>by simp at ak;rcases ak with rfl | rfl | rfl <;> rfl) ev cX IO ?_;intro e8 a6 bi av dF;clear dF;obtain⟨dU,d9,rfl⟩:=ro bi (Nat.succ_pos k);have T:=lh av;have aI:=DN Ia av (fun I=>ek.o _ I.symm rfl);have em:a6.cell? (Ad e 4)=some j:=aI.cell 4;have d0:=aI.frozen 4;have d':=lh aI;have bp:BW w a6:=Below.grown ME av Rl (fun q au=>o2 (n.o q au) aQ.2);have eu:=lh bp;have bv:=U8 (by first | exact S.o _ (hB bR _) | exact S.o _ (hB (hG bR) _) | exact S.o _ (hG (hB bR _))) av aL.1 aL.2.1 aL.2.2.1 aL.2.2.2;have e3:=lh (fun z:Value=>jjp (g:=e) (i:=4) bv aH.1 aH.2.1 aH.2.2.1 aH.2.2.2 z);clear aI av bp;refine ag.out _ _ (fun hun=>An bv em) ?_;clear ag K;try simp only[ap,aq,sa,sb,sc]
      refine wS 18 rfl ?_;refine wS 19 rfl ?_;refine r4 kr ?_ _;all_goals
       clear bQ c9 bY dN bA bK cg S bv e3;have cC:some w.heap.size≠j.ownBlock:=fun I=>o3 (n.o _ I.symm) aQ.o r.o;have b3:some (w.heap.size+1+1)≠j.ownBlock:=fun I=>o3 (n.o _ I.symm) aQ.o r.o;have b6:some (w.heap.size+1+1+1)≠j.ownBlock:=fun I=>o3 (n.o _ I.symm) aQ.o r.o;have cF:some (w.heap.size+1+1+1+1)≠j.ownBlock:=fun I=>o3 (n.o _ I.symm) aQ.o r.o;have ds:=lh (DN (by first | exact aP.B (hB bR _) | exact aP.B (hB (hG bR) _) | exact aP.B (hG (hB bR _))) T.o cC);have dy:=lh (DN Rr T.o b3);have el:=lh (DN Eg T.o b6);have ee:=lh (DN HX T.o cF);have dE:=lh (Sl.grownC Id T.o (fun b ae ah q I a0 bl=>o2 (n.o _ bl.symm) (cd.o b ae ah q I a0)));have d5:u<=a6.heap.size:=by have h:=T.size;simp only[wa,wd]at h;omega
       have dT:Hd (a6.ownsRow u 65 3 (sL dU 0 (k+1) d9) (k+1) (wY ((ih L l d).take (k+1)))):=by rw[SH (show k<L.length by omega),Rf,dl.o,dP.o,dn.o];exact bi
       clear bi cC b3 b6 cF;go_wp2_with fail;go_roundg eg;case measure=>omega
       case rel=>have cD:=r.o;exact⟨k+1,by omega,by go_num,⟨_,d'.set 4 _,ownsRow_setCell_below dT.o aQ.1 _⟩,ds.setOther om _ _,dy.setOther om _ _,el.setOther om _ _,ee.setOther om _ _,by rw[World.size_setCell];exact d5,eu.setCell (show w.heap.size<=e by omega) _,dE.setCell (fun b ae ah q I h=>oo (E.o b ae ah q I h)) _⟩
     | zero =>
      have eF:d.length=L.length:=oo V.o;have be:k=L.length:=om;subst be;have aE:¬((L.length:Int)<d.length):=om;rw[List.take_of_length_le (by rw[EJ];exact nr _)]at H;have bf:=hz.of_own H (EJ L l d);obtain⟨Y,R,rfl⟩:=bf.shape;have dK:=lh bf;have am:∀b ae ah q,Value.slice Y (ih L l d).length R=sL b ae ah q->0<ah->u<=b:=fun b ae ah q I a0=>by
       cases I;rw[EJ]at a0;rcases H.2 with⟨h,_⟩ | ⟨eA,eN,eU,h,eI,_⟩;·simp only[Value.slice.injEq]at h;cases h.1
       ·simp only[Value.slice.injEq,Option.some.injEq,Addr.mk.injEq]at h;have:=h.1.1;omega
      have n:=lh am;have dW:Hd (Fr w (.slice Y (ih L l d).length R)):=fun b ae ah q I a0=>by have:=n.o b ae ah q I a0;have:=aQ.o;omega
      have gQ:=lh a1;have cr:=lh A;clear H bf am a1 A;obtain⟨eo,cM,ey,dw,dq,e5,d6,-⟩:=aP.cS [0,1,2,3,4,5,6];have a9:=gQ.cell 5;simp only[gz,gs]at a9;go_wp2_with fail;refine(Tq _ ts ay al an az ar ax tot bq x cR _ (c0.B cr.o)).mono ?_;rintro _ cT ⟨rfl,et⟩;have aA:=lh (oz.B et);have c8:=lh (oy.B et);have bP:=lh (ox.B et);have aG:=lh (gQ.B et);have b1:=lh (hJ cr.o et);have b':=lh (n7.B et);have ch:=lh (dK.B et);have aJ:=aG.cell 7;have dV:=aG.frozen 7;have ac:=aA.cell 2;have aK:=aA.frozen 2;simp only[gz,gs]at aJ ac;clear et eo cM ey dw dq e5 d6 a9;have cE:(w.heap.size+1+1)≠e:=oo r.o;have dr:¬e=(w.heap.size+1+1):=oo r.o;go_upto_region 20 with fail;obtain⟨C,cw,dR,ce,bJ,dx,dt,d8,ec⟩:∃C,((cT.setCell (Ad e 7) (iV bq)).setCell (Ad (w.heap.size+1+1) 2) (iV bq))=C/\Hd (hA C (w.heap.size+1+1) 35 [.slice dh L.length bF,iV co,iV bq])/\Hd (hA C (w.heap.size+1+1+1) 43 [iZ,iZ,iZ,iZ,sZ,iZ,iZ,iZ,.bool false])/\Hd (hA C (w.heap.size+1+1+1+1) 35 [sZ,iZ,iZ])/\Hd (hA C e 43 [iV dH,iV cb,iV bV,iV b2,.slice Y (ih L l d).length R,iV tot,iV co,iV bq,.bool t])/\Hd (BW w C)/\Hd (Sl .i64 C (.slice dh L.length bF) L)/\Hd (hz C (.slice Y (ih L l d).length R) (ih L l d)):=by have ct:=r.o;have eK:=aQ.o;exact⟨_,rfl,(aA.setOther cE _ _).set 2 _,(c8.setOther om _ _).setOther om _ _,(bP.setOther om _ _).setOther om _ _,(aG.set 7 _).setOther om _ _,(b1.setCell (show w.heap.size<=e by omega) _).setCell (show w.heap.size<=(w.heap.size+1+1) by omega) _,(b'.setCell (fun b ae ah q I h=>oo (E.o b ae ah q I h)) _).setCell (fun b ae ah q I h=>(X.o b ae ah q I h).2.2.1) _,(ch.setCell (fun b ae ah q I h=>oo (n.o b ae ah q I h)) _).setCell (fun b ae ah q I h=>oo (n.o b ae ah q I h)) _⟩
      with_reducible rw[cw]
      clear cw aA c8 bP aG b1 b' ch aJ dV ac aK cE dr;obtain⟨dG,ef,ez,dJ,dX,a9,dB,aJ,d3,-⟩:=dx.cS [0,1,2,3,4,5,6,7,8];obtain⟨ei,e1,dO,-⟩:=dR.cS [0,1,2];obtain⟨dM,df,cW,di,eh,ej,eb,dQ,dD,-⟩:=ce.cS [0,1,2,3,4,5,6,7,8];obtain⟨cG,cq,aK,d0,eS,eO,eD,eH,eL,-⟩:=ce.fs [0,1,2,3,4,5,6,7,8];obtain⟨dL,dY,d2,-⟩:=bJ.cS [0,1,2];obtain⟨bg,bu,bw,-⟩:=bJ.fs [0,1,2];have cD:=r.o;clear cD
      go_region
      clear dG ef ez dJ dX a9 dB aJ d3 ei e1 dO;go_wp2
      refine bodyPost_ret (v:=.tuple #[.agg #[iV dH,iV cb,iV bV,iV b2,.slice Y (ih L l d).length R,iV tot,iV co,iV bq,.bool t],.agg #[.slice dh L.length bF,iV co,iV bq],iZ]) (by simp[results,results128,go_sem,dM,df,cW,di,eh,ej,eb,dQ,dD,dL,dY,d2]) rfl ⟨.slice Y (ih L l d).length R,.slice dh L.length bF,rfl,((ec.s9 (fun b ae ah q I h=>o3 (n.o b ae ah q I h) aQ.o r.o) _ _ _ _ _ _ _ _ _).s3 (fun b ae ah q I h=>o3 (n.o b ae ah q I h) aQ.o r.o) _ _ _).B (hG bR),((d8.s9 (fun b ae ah q I h=>(X.o b ae ah q I h).2.2.2.1) _ _ _ _ _ _ _ _ _).s3 (fun b ae ah q I h=>(X.o b ae ah q I h).2.2.2.2) _ _ _).B (hG bR),⟨dW.o,ep.o⟩,(p2 (Ey dt.o (show w.heap.size<=(w.heap.size+1+1+1) by omega) _ _ _ _ _ _ _ _ _) om _ _ _).drew⟩)
theorem XX (first ad:Int) (v) (l:List R5) (d:Int) (M:Hd (yej first ad l 0=(d,0))) (w) (aQ:h4 w v l) :
 Calls prog 172 #[iV first,iV ad,v] w (RetB (.tuple #[iV d,iZ]) w):=by
 have T:=lh aQ;obtain⟨Y,Z,rfl⟩:=aQ.shape;refine S1 ?_;intro gv ik il;refine My ?_;intro n gW bp;rw[gW]at gv ⊢;clear aQ gW;go_enter func172,ntmps172;go_wp2_with fail;go_loopg [8,9] n (fun eg S R wr=>∃(k:Nat) (aw:Int),S=iV aw/\R=iV (k:Int)/\Hd (k+eg=n/\0<=aw/\aw<=1000000000000000)/\Hd (yej first ad (l.drop k) aw=(d,0))/\Hd (BW w wr));case atStart=>exact⟨0,0,rfl,rfl,⟨by omega,by omega,by omega⟩,M.o,bR⟩
 case round =>
  obtain⟨k,aw,rfl,rfl,bO,F,o⟩:=hrel;cases gk with
  | zero =>
   have H:¬(k:Int)<n:=oo bO.o;have Q:Hd (aw=d):=by have h:=F.o;rw[List.drop_of_length_le (o2 bp.o bO.o)]at h;injection h
   go_wp2_with fail;go_ret2;have O:=Q.o;subst O;exact⟨rfl,o.o⟩
  | succ eg =>
   have H:(k:Int)<n:=oo bO.o;have D:Hd (k<l.length):=by have:=bO.o;have:=bp.o;show _<_;omega
   refine Pp ?_;intro dO;obtain⟨b,X,e,rfl,⟨t,r,B,s,E⟩,G⟩:=(T.B o.o).get D.o;have f:Hd ((if e.a=2/\first<=e.b/\e.b<=ad then (if e.d<0\/1000000000000000<e.d then ((0:Int),(5:Int)) else yej first ad (l.drop (k+1)) (min (aw+e.d) 1000000000000000)) else yej first ad (l.drop (k+1)) aw)=(d,0)):=by have h:=F.o;rw[NB D.o G.o]at h;exact h
   obtain⟨g,c,A,a,C⟩:=e;simp only at t r B s E f;obtain⟨ag,u,V,ou⟩:∃m,wr.alloc (.cells #[iV g,iV c,iV A,iV a,iV C] 150)=m/\Hd (hA m wr.heap.size 150 [iV g,iV c,iV A,iV a,iV C])/\Hd (BW w m):=⟨_,rfl,hR wr _ _ _ rfl,hB o.o _⟩;go_upto_region 6 with fail;try with_reducible rw[u]
   clear u t r B s E G;obtain⟨t,r,s,-⟩:=V.cS [0,1,3];by_cases j:g=2/\first<=c/\c<=ad
   ·have y:¬(a<0\/1000000000000000<a):=by
     intro K;have h:=f.o;rw[if_pos j,if_pos K]at h;cases h
    have n':Hd (yej first ad (l.drop (k+1)) (min (aw+a) 1000000000000000)=(d,0)):=by have h:=f.o;rw[if_pos j,if_neg y]at h;exact h
    obtain⟨rfl,I,P⟩:=j;have ab:¬c<first:=om
    have ae:¬ad<c:=om;have aa:¬a<0:=om;have ai:¬1000000000000000<a:=om;have ac:wrap64 (aw+a)=aw+a:=wi _ ⟨oo bO.o,oo bO.o⟩;obtain⟨q,J⟩:=xg (min (aw+a) 1000000000000000);have x:=lh J;have L:Hd (0<=a/\a<=1000000000000000):=by show _/\_;omega
    clear y f;by_cases ah:aw+a<=1000000000000000
    ·have i:min (aw+a) 1000000000000000=aw+a:=om;have af:¬1000000000000000<aw+a:=om;go_wp2_with fail;go_roundg eg;case measure=>omega
     case rel=>exact⟨k+1,aw+a,by rw[<-i,x.o],by go_num,⟨oo bO.o,o2 bO.o L.o,by omega⟩,by rw[<-i];exact n'.o,ou.o⟩
    ·have i:min (aw+a) 1000000000000000=1000000000000000:=om;go_wp2_with fail;go_roundg eg;case measure=>omega
     case rel=>exact⟨k+1,1000000000000000,by rw[<-i,x.o],by go_num,⟨oo bO.o,by omega,by omega⟩,by rw[<-i];exact n'.o,ou.o⟩
   ·have n':Hd (yej first ad (l.drop (k+1)) aw=(d,0)):=by
     have h:=f.o;rw[if_neg j]at h;exact h
    clear f;by_cases z:g=2
    ·subst z;by_cases I:c<first
     ·exact TE
     ·have P:ad<c:=om;exact TE
    ·have W:(g != 2)=true:=ss z;exact TE
theorem XT (a first c:Int) (e) (d:List R5) (f:Bool) (g:Hd (CA a first c d=(f,0))) (w) (k:h4 w e d) :
 Calls prog 126 #[iV a,iV first,iV c,e] w (RetB (.tuple #[.bool f,iZ]) w):=by
 obtain⟨b,i⟩:∃b,yej first c d 0=(b,0):=by have h:=g.o;unfold CA at h;injection h with n j;exact⟨_,Prod.ext rfl j⟩
 have o:=lh i;have m:Hd ((decide (a<=0) || decide (a<=b))=f):=by have h:=g.o;unfold CA at h;rw[i]at h;injection h with n j
 clear i g;go_enter func126,ntmps126;go_wp2_with fail;refine(XX first c e d b o _ k).mono ?_;rintro _ s ⟨rfl,l⟩;have r:=lh l;clear l k;go_wp2;all_goals
  go_ret2;have p:=m.o;subst p;exact⟨by simp[*],r.o⟩
theorem No {q:Prop} (h:q:=by
 split at ix;·rename_i Z;exact absurd ix Z
 exact JR):q:=h
theorem jhe {t:Tm} {m i d:Int} {a q:Ps} {g b:List Int} {x:Bool} {v:St} (h:v1 t m i d a g b x=(some v,q,0)) :
 t.right=true/\CQ t.ts.length m i d a.bs.length g.length=true/\g.any q1=false/\(-9000000000<=d+t.dued/\d+t.dued<=9000000000)/\b.length=a.bs.length/\q.bs.length=a.bs.length/\s0 a.bs a.c a.d b=(q.bs,q.c,(s0 a.bs a.c a.d b).2.2.1,0) /\
  (∃F,B2 t.right t.minf t.minp (AY q.bs q.c (s0 a.bs a.c a.d b).2.2.1)=(q.d,F))/\v=⟨m,i,d,d+t.dued,ih q.bs b g,AY q.bs q.c (s0 a.bs a.c a.d b).2.2.1,q.c,q.d,x⟩:=by
 have J:=h;unfold v1 at h;split at h;·cases h
 rename_i G;split at h;·cases h
 rename_i H;split at h;·cases h
 rename_i E;split at h;·cases h
 rename_i o;simp only[DF]at h;injection h with f e;injection e with e _;have C:CQ t.ts.length m i d a.bs.length g.length=true:=ss H;have r:t.right=true:=ss G;obtain⟨n,u,A,p,iB⟩:∃n u A p,s0 a.bs a.c a.d b=(n,u,A,p):=⟨_,_,_,_,rfl⟩;rw[iB]at o f e;simp only at o f e;have D:p=0:=ss o;subst D;have B:n.length=a.bs.length/\b.length=a.bs.length:=by exact Ot
 have I:-9000000000<=d+t.dued/\d+t.dued<=9000000000:=by obtain⟨_,_,_,y,_⟩:=FA.1 C;have z:=r;unfold Tm.right hu at z;simp only[ba,B9]at z;unfold pd at y;simp at y;omega
 subst e;rw[iB];injection f with f;exact⟨r,C,by simpa using E,I,B.2,B.1,rfl,⟨_,rfl⟩,f.symm⟩
theorem Ti (t:Tm) (f) (r n i:Int) (b:Ps) (e m o) (p d:List Int) (g:Bool) (E:t.ts.length<=1000) (a:St) (q:Ps) (J:Hd (v1 t r n i b p d g=(some a,q,0))) (w) (G:h7 w f t.ts) (v:Sl .i64 w e b.bs) (B:Sl .i64 w m p) (D:Sl .i64 w o d) :
 Calls prog 128 #[.agg #[iV t.lim,f,iV t.cyc,iV t.dued,iV t.minf,iV t.minp,iV t.start],iV r,.agg #[iV n,iV i],.agg #[e,iV b.c,iV b.d],m,o,.bool g] w
  (EU a.n a.fr a.til a.du a.ls a.tot a.cr a.mn a.g q.bs q.c q.d 0 w):=by
 obtain⟨F,H,x,I,z,u,C,⟨A,y⟩,rfl⟩:=jhe J.o;exact jfo f t.ts t.lim t.cyc t.dued t.minf t.minp t.start r n i e b.bs b.c b.d m p o d g E F H x q.bs q.c _ C u z _ rfl q.d A y _ rfl I w G v B D
theorem hf.rws {u x:Nat} {A:Ps} {C:List Int} {v:List St} {bk:List (Int×Nat×Nat)} {g:Nat->List (List Int)} {D:List Nat} {d:World} {y:List Value} {e:Nat->Value} {r B:Value} (h:hf u x A C v bk g D d y e r B) {j:Nat} (m:j<3):RwS d (e (2+j)) (g j):=by
 have o:=h.tab m;rcases o.2 with⟨a,n⟩ | ⟨i,z,f,a,K,p,G,H,L,F⟩;·rw[a,List.eq_nil_of_length_eq_zero n];exact⟨none,0,rfl,nr _,⟨by unfold maxLen;omega,fun _=>rfl⟩,fun h=>absurd rfl h⟩
 ·rw[a];refine⟨_,z,rfl,G,⟨H,fun a=>by cases a⟩,fun _=>⟨i,0,rfl,fun b E=>⟨e (5+3*b+j),?_,Sl.of_own (h.own m b) rfl⟩⟩⟩;have J:hA d i 33 f.toList:=by unfold hA;rw[p]
  rw[J.cell,Nat.zero_add];have I:(f.toList.take ((g j).length*1))[b]?=f.toList[b]?:=List.getElem?_take_of_lt om;rw[<-I,F,List.getElem?_map,List.getElem?_range E];rfl
theorem hf.sts {o g:Nat} {n:Ps} {e:List Int} {b:List St} {bk:List (Int×Nat×Nat)} {f:Nat->List (List Int)} {m:List Nat} {d:World} {i:List Value} {a:Nat->Value} {r p:Value} (h:hf o g n e b bk f m d i a r p):w8 d (a 0) b:=w8.of_own (h.its.own 0) h.rd.now.2.2
theorem r2.form {w:World} {b:Value} {ps:List (Int×Nat×Nat)} (h:r2 w b ps):∃a c,b=.slice a ps.length c/\(a=Option.none->ps.length=0/\c=0):=by obtain⟨a,e,rfl,g,⟨_,d⟩,_⟩:=h;exact⟨a,e,rfl,fun f=>oo (d f)⟩
def z9C:List Value:=[iZ,iZ,iZ,iZ,sZ,iZ,iZ,iZ,.bool false]
def MF:List Value:=[sZ,iZ,iZ]
structure RG (N:Nat) (w5:World) (o8 o9:Option Nat) (c:Option (Value×Value)) (ls:List (Int×Int×Int)) (bs:List Int) (w:World):Prop where
 hN:w5.heap.size=N
 bel:BW w5 w
 b8:∀b,o8=some b->hA w b 43 z9C/\N<=b
 b9:∀b,o9=some b->hA w b 35 MF/\N<=b
 c:∀u,c=some u->hz w u.1 ls/\Sl .i64 w u.2 bs/\(∀a,o8=some a\/o9=some a->hL [a] u.1/\hL [a] u.2)/\Fr w5 u.1/\Fr w5 u.2
theorem RG.start {N:Nat} {w5:World} (a:w5.heap.size=N) (ls:List (Int×Int×Int)) (bs:List Int):RG N w5 none none none ls bs w5.drew :=
 ⟨a,hG bR,fun _ h=>(by cases h),fun _ h=>(by cases h),fun _ h=>(by cases h)⟩
variable {N:Nat} {w5 w w':World} {o8 o9:Option Nat} {c:Option (Value×Value)} {ls:List (Int×Int×Int)} {bs:List Int}
theorem RG.c' (h:RG N w5 o8 o9 c ls bs w) (o:BW w w') {n:Nat} (z:w.heap.size<=n):∀a,c=some a->hz w' a.1 ls/\Sl .i64 w' a.2 bs/\(∀b,b=n\/o8=some b\/o9=some b->hL [b] a.1/\hL [b] a.2)/\Fr w5 a.1/\Fr w5 a.2:=fun a v=>by
 obtain⟨g,f,x,u⟩:=h.c a v;refine⟨g.B o,f.B o,fun b e=>?_,u⟩;rcases e with rfl | e
 ·refine⟨fun p y r c i m d=>?_,fun p y r c i m d=>?_⟩;·rw[ms]at d;rw[i]at g;have:=g.blt m;omega
  ·rw[ms]at d;rw[i]at f;have:=f.blt m;omega
 ·exact x b e
theorem RG.al8 (h:RG N w5 none o9 c ls bs w) {b:Nat} (u:w.heap.size=b) (e:w.alloc (.cells #[iZ,iZ,iZ,iZ,sZ,iZ,iZ,iZ,.bool false] 43)=w'):RG N w5 (some b) o9 c ls bs w':=by
 subst u e;have d:BW w (w.alloc (.cells #[iZ,iZ,iZ,iZ,sZ,iZ,iZ,iZ,.bool false] 43)):=hB bR _;have g:=h.c' d (nr _);refine⟨h.hN,hB h.bel _,fun b a=>?_,fun b a=>⟨(h.b9 b a).1.B d,(h.b9 b a).2⟩,fun f p=>?_⟩;·cases a;exact⟨hR w _ _ _ rfl,by rw[<-h.hN];exact h.bel.size⟩
 ·obtain⟨o,m,v,n⟩:=g f p;exact⟨o,m,fun r i=>v r (i.elim (fun a=>.inl (by cases a;rfl)) (fun a=>.inr (.inr a))),n⟩
theorem RG.al9 (h:RG N w5 o8 none c ls bs w) {b:Nat} (u:w.heap.size=b) (e:w.alloc (.cells #[sZ,iZ,iZ] 35)=w'):RG N w5 o8 (some b) c ls bs w':=by
 subst u e;have d:BW w (w.alloc (.cells #[sZ,iZ,iZ] 35)):=hB bR _;have g:=h.c' d (nr _);refine⟨h.hN,hB h.bel _,fun b a=>⟨(h.b8 b a).1.B d,(h.b8 b a).2⟩,fun b a=>?_,fun f p=>?_⟩;·cases a;exact⟨hR w _ _ _ rfl,by rw[<-h.hN];exact h.bel.size⟩
 ·obtain⟨o,m,v,n⟩:=g f p;exact⟨o,m,fun r i=>v r (i.elim (fun a=>.inr (.inl a)) (fun a=>.inl (by cases a;rfl))),n⟩
theorem RG.call (h:RG N w5 o8 o9 none ls bs w) {p r:Value} (y:hz w' p ls) (v:Sl .i64 w' r bs) (f:Fr w p/\Fr w r) (i:BW w w'):RG N w5 o8 o9 (some (p,r)) ls bs w':=by
 refine⟨h.hN,hJ h.bel i,fun d a=>⟨(h.b8 d a).1.B i,(h.b8 d a).2⟩,fun d a=>⟨(h.b9 d a).1.B i,(h.b9 d a).2⟩,fun A z=>?_⟩;cases z;have u:∀b,o8=some b\/o9=some b->b<w.heap.size:=fun b g=>g.elim (fun a=>(h.b8 b a).1.lt) (fun a=>(h.b9 b a).1.lt);refine⟨y,v,fun b g=>⟨f.1.off fun x e=>?_,f.2.off fun x e=>?_⟩,fun d m n c a o=>nt h.bel.size (f.1 d m n c a o),fun d m n c a o=>nt h.bel.size (f.2 d m n c a o)⟩;·rw[ms]at e;exact e▸u b g
 ·rw[ms]at e;exact e▸u b g
theorem hL.cons {g f:Nat} {b:Value} (h:hL [g] b) (k:hL [f] b):hL [g,f] b:=fun d i e c m n a=>by
 rcases mc.1 a with rfl | a;·exact h d i e c m n Is
 ·exact k d i e c m n a
def Bl (w:World) (a:Nat) (s:St) (b:Value):World :=
 ((((((((w.setCell (Ad a 0) (iV s.n)).setCell (Ad a 1) (iV s.fr)).setCell (Ad a 2) (iV s.til)).setCell (Ad a 3) (iV s.du)).setCell (Ad a 4) b).setCell (Ad a 5) (iV s.tot)).setCell (Ad a 6) (iV s.cr)).setCell (Ad a 7) (iV s.mn)).setCell (Ad a 8) (.bool s.g)
def uo (w:World) (a:Nat) (q:Ps) (b:Value):World:=((w.setCell (Ad a 0) b).setCell (Ad a 1) (iV q.c)).setCell (Ad a 2) (iV q.d)
theorem RG.fin {b a:Nat} {d e:Value} {f:St} {q:Ps} (h:RG N w5 (some b) (some a) (some (d,e)) f.ls q.bs w) :
 (hA (uo (Bl w b f d) a q e) b 43 (ycb f d)/\hA (uo (Bl w b f d) a q e) a 35 [e,iV q.c,iV q.d]/\hz (uo (Bl w b f d) a q e) d f.ls/\Sl .i64 (uo (Bl w b f d) a q e) e q.bs) /\
  (b≠a/\N<=b/\N<=a/\Fr w5 d/\Fr w5 e)/\BW w5 (uo (Bl w b f d) a q e):=by
 obtain⟨p,u⟩:=h.b8 _ rfl;obtain⟨v,o⟩:=h.b9 _ rfl;obtain⟨z,x,m,y,A⟩:=h.c _ rfl;have i:b≠a:=n3 p v Iv;have n:hC [b,a] w (uo (Bl w b f d) a q e):=by
  unfold uo Bl;repeat (refine hC.setCell ?_ (.inl Is) _)
  exact hC.refl _ _
 have D:=(m b (.inl rfl)).1.cons (m a (.inr rfl)).1;have C:=(m b (.inl rfl)).2.cons (m a (.inr rfl)).2;refine⟨⟨?_,?_,z.keep n D,x.keep n C⟩,⟨i,u,o,y,A⟩,h.bel.trans ((n.to_below (B:=w5.heap.size) h.bel.size (fun E r=>?_)))⟩;·exact((((((((((((p.set 0 _).set 1 _).set 2 _).set 3 _).set 4 _).set 5 _).set 6 _).set 7 _).set 8 _).setOther i 0 _).setOther i 1 _).setOther i 2 _)
 ·have g:=Ne.symm i;exact((((((((((((v.setOther g 0 _).setOther g 1 _).setOther g 2 _).setOther g 3 _).setOther g 4 _).setOther g 5 _).setOther g 6 _).setOther g 7 _).setOther g 8 _).set 0 _).set 1 _).set 2 _)
 ·rw[h.hN];simp only[mc,nn,or_false]at r;rcases r with rfl | rfl;·exact u
  ·exact o
section
variable {t:Tm} {l:List R5} {ps qs:List (Int×Int)} {day:Int} {s:RS} {j k:Nat}
end
section
open Go.RowKit EvM
structure EH (s:RS):Prop where
 p:hW s.p.bs s.p.c s.p.d=true
 rs:s.rs.any q1=false
 X:∀row∈s.X,row.any (nu 1000000000000000)=false
 Y:∀row∈s.Y,row.any (nu 10000000)=false
theorem Zz {bs:List Int} {c a k b:Int} (ix:(Bf bs c a k b).2.2.2=0):hW (Bf bs c a k b).1 (Bf bs c a k b).2.1 (Bf bs c a k b).2.2.1=true:=by unfold Bf at ix ⊢;exact No
theorem jcg {bs b:List Int} {c a d:Int} (ix:(q3 bs c a b d).2.2.2=0):hW (q3 bs c a b d).1 (q3 bs c a b d).2.1 (q3 bs c a b d).2.2.1=true:=by
 unfold q3 at ix ⊢;split at ix;·rename_i Z;exact absurd ix Z
 rename_i Z;rw[if_neg Z];exact No
theorem Wm {bs b:List Int} {c a k d:Int} (ix:(CB bs c a b k d).2.2.2=0):hW (CB bs c a b k d).1 (CB bs c a b k d).2.1 (CB bs c a b k d).2.2.1=true:=by
 unfold CB at ix ⊢;split at ix;·rename_i Z;exact absurd ix Z
 rename_i Z;rw[if_neg Z];split at ix;·cases ix
 exact JR
theorem Mv {p:Ps} {rs:List Int} {x:R5} (d:(pc p rs x).2.2=0):hW (pc p rs x).1.bs (pc p rs x).1.c (pc p rs x).1.d=true/\(pc p rs x).2.1.any q1=false:=by
 unfold pc at d ⊢;split at d;·cases d
 rename_i n;rw[if_neg n];split at d;·rename_i e;exact absurd d e
 rename_i e;rw[if_neg e];have b:w4 p rs x=true:=ss n;have a:(p0 p rs x).2.2.2=0:=ss e;unfold w4 at b;simp only[ba,Bool.not_eq_true']at b;constructor
 ·show hW (p0 p rs x).1 (p0 p rs x).2.1 (p0 p rs x).2.2.1=true;unfold p0 at a ⊢;split at a;·rename_i f;rw[if_pos f];exact Zz a
  rename_i f;rw[if_neg f];split at a;·rename_i g;rw[if_pos g];exact jcg a
  rename_i g;rw[if_neg g];split at a;·rename_i i;rw[if_pos i];exact Wm a
  ·rename_i i;rw[if_neg i];exact b.1.1.1.1.1
 ·show(CK rs x).any q1=false;unfold CK;split
  ·rename_i u;have m:=b.2;rw[u]at m;simp only[bne_self_eq_false,Bool.false_or,ba,decide_eq_true_eq]at m;rw[List.any_eq_false];intro o r;rcases List.mem_or_eq_of_mem_set r with v | rfl;·exact List.any_eq_false.1 b.1.1.1.2 o v
   ·simp[q1];omega
  ·exact b.1.1.1.2
theorem ZQ {bs:List Int} {c a:Int} (h:hW bs c a=true):0<=AY bs c a/\AY bs c a<=1000000000000000:=by have e:=Ht h;have b:=JO (Int.le_refl 0) e;have d:=RJ h;unfold AY;rw[if_pos h];exact⟨b.2.1,b.2.2 (fun f=>by rw[f]at d;simp at d)⟩
theorem U6 {bs:List Int} {c b a:Int} (h:hW bs c b=true) (d:0<=a/\a<=1000000000000000):hW bs c a=true:=by rw[Ei]at h ⊢;exact⟨h.1,h.2.1,d,h.2.2.2⟩
theorem TL {t:Tm} {tot:Int} (b:t.right=true) (h:0<=tot/\tot<=1000000000000000):0<=(B2 t.right t.minf t.minp tot).1/\(B2 t.right t.minf t.minp tot).1<=1000000000000000:=by
 have a:=b;unfold Tm.right hu at a;simp only[ba,B9]at a;rw[b];cases e:B2 true t.minf t.minp tot with
 | mk f g=>obtain⟨d,_,rfl,_⟩:=LB e om om om;show 0<=min tot (max t.minf d)/\min tot (max t.minf d)<=_;omega
theorem EH.first {t:Tm} (o:t.right=true):EH (r1 t):=by
 have d:=o;unfold Tm.right hu at d;simp only[ba,B9]at d;have a:=d.1.1.1.1.2;refine⟨?_,?_,fun n a=>by rw[List.eq_of_mem_replicate a];rfl,fun n a=>by rw[List.eq_of_mem_replicate a];rfl⟩
 ·rw[Ei];have r:∀b,h1 (List.replicate t.ts.length 0) b=0:=fun b=>by
   induction b with
   | zero=>rfl
   | succ b g =>
    rw[h1,g];by_cases e:b<t.ts.length;·simp[List.getD,e]
    ·simp[List.getD,Nat.le_of_not_lt e]
  show(1<=(List.replicate t.ts.length (0:Int)).length/\(List.replicate t.ts.length (0:Int)).length<=8)/\(0<=(0:Int)/\(0:Int)<=1000000000000000)/\(0<=(0:Int)/\(0:Int)<=1000000000000000)/\(∀j,j<(List.replicate t.ts.length (0:Int)).length->0<=(List.replicate t.ts.length (0:Int)).getD j 0/\(List.replicate t.ts.length (0:Int)).getD j 0<=1000000000000000)/\(0<=h1 (List.replicate t.ts.length (0:Int)) (List.replicate t.ts.length (0:Int)).length/\h1 (List.replicate t.ts.length (0:Int)) (List.replicate t.ts.length (0:Int)).length<=1000000000000000)/\((0:Int)=0\/h1 (List.replicate t.ts.length (0:Int)) (List.replicate t.ts.length (0:Int)).length=0);rw[r,List.length_replicate];refine⟨by omega,by omega,by omega,fun j i=>?_,by omega,.inl rfl⟩;simp[List.getD,i]
 ·show(t.ts.map (·.1)).any q1=false;rw[List.any_eq_false];intro u p;obtain⟨f,m,rfl⟩:=List.mem_map.1 p;unfold BV at a;have:=List.all_eq_true.1 a f m;rw[B9]at this;simp[q1];omega
end
end Go.Proofs.YtkongpjpkpfniaaGreat

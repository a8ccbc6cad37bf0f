/- TopBooks, a part. -/
import Derived.Test.YtkongpjpkpfniaaGreatC14
set_option linter.unusedVariables false
set_option linter.unusedSimpArgs false
set_option maxRecDepth 100000
set_option maxHeartbeats 6400000
namespace Go.Proofs.YtkongpjpkpfniaaGreat
open Go.RowKit Go.Proofs.Tryz
variable {a aB:Act} {J:Act->World->Prop} {Q:Exit->Act->World->Prop} {c:Int} {r:List Int} {F:List Nat} {C:List Value} {M b5 bX g i iz j k m n:Nat} {p q:Prop} {e:TypeId} {je u v:Value} {W Y Z w:World}
theorem QN (h:q:=by
 clear bv iJ;refine ac.out _ _ (fun hun=>wb) ?_;clear ac a4;try simp only[ap,aq,sa,sb,sc]
 refine wS 7 rfl ?_;refine r4 kr ?_ _;clear wb lD;have cO:=jN.cell 0;have eu:=jN.frozen 0;have AN:=jN.lt;have AO:wrap64 ((q:Int)+1)=(q:Int)+1:=Hz (oo dj.o)
 gi_wp2
 exact UB qB.o os.o ot.o ud.o we.o eV.o l6.o m3.o qb.o jN.o x):q:=h
section
open Go.RowKit Go.Shelf
attribute [local go_sem] Oper.semAt_some
theorem Hz (h:0<=c/\c<=100000):wrap64 c=c:=wi _ ⟨by omega,by omega⟩
theorem TR {N:Nat} (e:1<=n/\n<=20000) (f:N=(n+40)/41) (o:m+N<=k) (l:k<=20000) (d:j=(n-1)/41) (g:i=m+j) :
 wrap64 ((n:Int)-1)=(n:Int)-1/\((n:Int)-1).tdiv 41=(j:Int)/\wrap64 (j:Int)=j/\wrap64 ((m:Int)+(j:Int))=(i:Int)/\¬(k:Int)<=i:=by
 have c:j+1=N:=om;have b:((n:Int)-1).tdiv 41=(j:Int):=by rw[Int.tdiv_eq_ediv_of_nonneg om];omega
 refine⟨Hz om,b,Hz om,?_,by omega⟩;have a:(m:Int)+(j:Int)=i:=om;rw[a];exact Hz om
def Gf (c:Act) (b d:Nat) (a:Value):Act:={ tmps:=(c.tmps.setIfInBounds b a).setIfInBounds d a,defers:=[] }
theorem yum {α:Type} {n:Nat} {k:Program} {x:Operand} {m d:Nat} {v u:Code} {Q:Exit->Act->World->Prop} {a:Act} {w:World}
 (E:1<=n) {gf:Nat} {lb:Array Value} (A:a.eval x=.func (.func gf) #[] lb) (H:∀p w,(callFunc gf p).run k w=.ok (.enter gf p) w)
 {j:α->Value} {f:World->World->Prop} {t Sp:List α->Prop} {N:Nat} (y:SeqStopsK Fence.wide (n-1) k gf lb (fun c=>#[j c]) f t Sp N w)
 (G:∀{W Y Z:World},f W Y->f Y Z->f W Z) (P:∀(b:World) (e:Nat) (r M:Obj),w.heap.size<=e->b.heap[e]?=some r->r.isCells=false->r.isWalk=false->f b (b.putObj e M))
 (g:List α->World->Prop) (J:OwnFrom w.heap.size g) (z:g [] w)
 (K:∀(e:Nat) (c:α) (b:World) (l:Act->World->Prop),l (Gf a m d (j c)) b ->
  v.wpIn (Fence.wide.inRound e) (n-1-1) k (Exit.then l (fun _ _ _=>False)) { tmps:=a.tmps.setIfInBounds m (j c),defers:=[] } b)
 (S:∀(e:Nat) (s:List α) (c:α) (b:World),g s b->s.length<N->u.wpIn (Fence.wide.inRound e) (n-1-1) k (ownPostG w.heap.size f g (fun _ _ _=>False) (s++[c]) b) (Gf a m d (j c)) b)
 (I:∀(i:Nat) (o:List α) (b:World),w.heap.size<=i->t o->g o b->b.heap[i]?=some (.deferred (some []))->Q .normal { a with defers:={ target:=.collected i,args:=#[] }::a.defers } b) :
 (Code.rangeFunc x #[m] v u).wp k Q a w :=
 (wpIn_wide (n:=n)).1 (wpIn_rangeFunc_ownG rfl E A trivial H y (fun h D=>G h D) P bR (fun _=>rfl) g (fun _ _ _=>False) J (fun _ _ _ _ _ L _ _=>L) z (fun c=>Gf a m d (j c)) (fun e c b l F=>by have:=K e c b l F;simpa using this) S (fun i o b B R O C=>I i o b B R O C) (fun _ _ _ _ _ _ h _=>h.elim))
def Bz (l g c b f k i bn m:Nat) (w:World) (j:Nat) (a:World):Prop:=∃(q:Nat) (d:Nat->Int),q=k+j/\hA a bn 3 [iV (q:Int)]/\hA a m 3 [iV (i:Int)]/\hA a w.heap.size 117 [pV g]/\hA a (w.heap.size+1) 29 [iZ]/\k5 l c b f d a/\(∀e,q<=e->d e=0)/\hC [b,c] w a
theorem FO {b:Option Nat} (h:hA W n e C) (f:W.grownBy Y b) (d:∀a,b=some a->∃c:Obj,W.heap[a]?=some c/\c.isCells=false):hA Y n e C:=(grownBy_keeps_cells f d h rfl).trans h
theorem Bz.grown {bn l p:Nat} {e:Option Nat} (h:Bz n m k i j g M bn l w p W) (b:W.grownBy Y e) (o:∀a,e=some a->w.heap.size<=a/\∃d:Obj,W.heap[a]?=some d/\d.isCells=false):Bz n m k i j g M bn l w p Y:=by obtain⟨q,E,z,t,F,v,B,⟨y,C,u,r,s⟩,A,D⟩:=h;have c:∀a,e=some a->∃d:Obj,W.heap[a]?=some d/\d.isCells=false:=fun a f=>(o a f).2;exact⟨q,E,z,FO t b c,FO F b c,FO v b c,FO B b c,⟨y,C,FO u b c,FO r b c,s⟩,A,D.grown b (fun x f=>.inr (o x f).1)⟩
theorem Ri {l3:Array Oper} {ae:Oper} {m:Prop} (nN:ae.guard=none) (e f:Operand) (g:ae.op=.store 189 e f)
 (d:ae.dst=none) (b:Nat) (a:Array Value) (r:aB.eval e=pV b) (n:aB.eval f=.agg a) (c:Array Value) (j:w.heap[b]?=some (.cells c 189 (0,0))) (i:a.size=48) (o:c.size=48)
 (l:a.all (·.oneCell')=true) (h:J aB (w.setRow b a)):if Region.wanted ae (yielded l3 aB.tmps)=true then Oper.wp prog ae aB w J Q else m:=by
 refine Og ?_;intro lO;obtain⟨v,s,u,x,y,t⟩:=ae;simp only at g d nN;subst g;subst d;unfold Oper.wp execOp;simp only[r,n,Instr.storeAt,Instr.sureAddr,Sem.run_bind,Sem.run_pure,Result.andThen_ok,run_storeVar_row w b 189 189 c a j (by rw[Dp,i]) (by rw[i,o]) l];exact h
theorem Ys (h:∀b,b<r.length->w.cell? (Ad n (m+b))=some (.int .u8 (r.getD b 0))) (a:Nat):Sl .u8 w (EL n m r.length a) ((r.drop (41*a)).take 41):=by
 have c:((r.drop (41*a)).take 41).length=min 41 (r.length-41*a):=by simp
 refine⟨_,min 41 (r.length-41*a),by rw[c];rfl,by rw[c];exact nr _,⟨by unfold maxLen;omega,fun e=>by cases e⟩,fun _=>⟨n,m+41*a,rfl,fun b d=>?_⟩⟩;rw[c]at d;rw[show m+41*a+b=m+(41*a+b) by omega,h (41*a+b) om];simp only[List.getD_eq_getElem?_getD];rw[List.getElem?_take_of_lt om,List.getElem?_drop]
theorem Gm (h:w.ownsRow n e m v k C) (b:v.ownBlock=some i):∃a,hA w i e a:=by
 obtain⟨_,⟨rfl,_⟩ | ⟨d,f,a,rfl,_,c,_⟩⟩:=h;·cases b
 ·cases b;exact⟨a.toList,by simpa[hA] using c⟩
theorem UA:(prog.info? 135).map (fun a=>(a.zero,a.size,a.bytes))=some (some (sZ),1,24):=by kernel_rfl
theorem Xq (w:World) (a) (d:TypeId) (b:Nat) (c) (e:[a][b]?=some c):(w.alloc (.cells #[a] d)).cell? (((Ad w.heap.size 0):Addr).add b)=some c:=by
 cases b with
 | zero=>have:a=c:=ss e;subst this;have h:=(hR w [a] d _ rfl).cell 0;simp only[Addr.add];exact h
 | succ b=>simp at e
def hv (a:Value):List Nat:=match a.ownBlock with | some b=>[b] | none=>[]
def Lu (o lp e a c l m:Nat) (i:Value) (k:Nat) (w:World) (n:Ending) (b:World):Prop:=n=.returned (iZ)/\∃j f,wz o e a j (m+1) k b/\k5 lp a c l f b/\(∀g,k<=g->f g=0)/\hC (e::c::a::hv i) w b/\∀d∈hv j,d∈hv i\/w.heap.size<=d
theorem Mq {D:Nat} (h:hC F w W) (g:D∈F\/w.heap.size<=D) (e:Obj):hC F w (W.putObj D e):=
 ⟨h.os,h.tape,h.output,by rw[World.putObj_size];exact h.size,fun d c b=>(World.putObj_heap_other (fun f=>by
  subst f;rcases g with a | a;·exact b a
  ·omega)).trans (h.block d c b)⟩
theorem FM (h:v.ownBlock=some n):n∈hv v:=by unfold hv;rw[h];exact ms.2 rfl
theorem Dv (h:n∈hv v):v.ownBlock=some n:=by
 unfold hv at h;split at h;·rename_i b a;simp only[ms]at h;rw[a,h]
 ·cases h
theorem X3 {lp N q d:Nat} {o:Nat->Int} {e:World} (y:hC [i,k] w W) (B:BW W Y) (D:Y.grownBy Z v.ownBlock) (A:hC [m] Z e)
 (J:hA e m 186 [pV k,iZ,u,iV (q:Int)]) (I:Z.ownsRow n 135 1 u (g+1) C) (F:∀O∈C,O.oneCell'=true)
 (s:∀a,u.ownBlock=some a->v.ownBlock=some a\/W.heap.size<=a) (P:w.heap.size+1<d/\d<W.heap.size) (t:∀a,v.ownBlock=some a->a<w.heap.size/\a≠m/\a≠i/\a≠k) (L:n<=m/\m<w.heap.size/\m≠i/\m≠k) (R:i<w.heap.size/\k<w.heap.size)
 (H:k5 lp k i j (w9 o j) W) (G:∀l,q<=l->o l=0) (E:q=M+N) :
 Lu n lp m k i j g v (M+N) w (.returned (iZ)) ((e.setCell (Ad (w.heap.size+1) 0) (iZ)).putObj d (.deferred none)):=by
 have p:hC [w.heap.size+1,d] e ((e.setCell (Ad (w.heap.size+1) 0) (iZ)).putObj d (.deferred none)):=Mq ((hC.refl _ _).sg _) (.inl Is) _;have K:hC (hv v) W Z:=(hC.of_below B).grown D (fun a c=>.inl (FM c));have r:hC [m,w.heap.size+1,d] Z ((e.setCell (Ad (w.heap.size+1) 0) (iZ)).putObj d (.deferred none)):=(A.mono (fun a b=>by simp only[ms]at b;simp[b])).trans p (fun a b=>.inl (mo _ b));have z:hC (m::(w.heap.size+1)::d::hv v) W ((e.setCell (Ad (w.heap.size+1) 0) (iZ)).putObj d (.deferred none)):=(K.mono (fun a b=>by simp[b])).trans r (fun a b=>.inl (by simp only[mc,nn,or_false]at b ⊢;omega));have x:∀a,(a=i\/a=k)->a∉m::(w.heap.size+1)::d::hv v:=fun a b f=>by
  simp only[mc]at f;rcases f with c | c | c | c;·omega
  ·omega
  ·omega
  ·have:=t a (Dv c);omega
 refine⟨rfl,u,w9 o j,⟨L.1,?_,C,p1 I r (fun a c f=>?_),F⟩,H.keep z (x _ (.inr rfl)) (x _ (.inl rfl)),fun l Q=>?_,(y.mono (fun a b=>by simp only[mc,nn,or_false]at b ⊢;omega)).trans z (fun a b=>?_),fun a b=>(s a (Dv b)).imp FM (fun h=>oo y.size)⟩;·have:=J.keep p Pf;rw[E]at this;exact this
 ·simp only[mc,nn,or_false]at f;rcases s a c with h | h;·have:=t a h;omega
  ·omega
 ·unfold w9;rw[G l om,if_neg Is]
 ·simp only[mc]at b ⊢;rcases b with c | c | c | c;·exact .inl (.inl c)
  ·exact .inr om
  ·exact .inr om
  ·exact .inl (.inr (.inr (.inr c)))
theorem UB {α:Type} {bn d l A q:Nat} {s:Nat->Int} {u:List α} (af:i<w.heap.size/\k<w.heap.size) (aa:w.heap.size+1<d) (T:d<bn) (ac:bn<l) (E:q=g+u.length)
 (F:hA W bn 3 [iV (q:Int)]/\hA W d 3 [iV (M:Int)]/\hA W w.heap.size 117 [pV m]/\hA W (w.heap.size+1) 29 [iZ]/\k5 n k i j s W/\(∀o,q<=o->s o=0)/\hC [i,k] w W)
 (O:BW W Y) (C:hC [i,k] Y.drew Z) (J:k5 n k i j (fun t=>if t=q then 1 else s t) Z) (P:hA Z bn 3 [iV (q:Int)]) (D:α) :
 KeepsFrom A W (Z.setCell (Ad bn 0) (iV ((q:Int)+1)))/\C9 l W (Z.setCell (Ad bn 0) (iV ((q:Int)+1)))/\Bz n m k i j g M bn d w (u++[D]).length (Z.setCell (Ad bn 0) (iV ((q:Int)+1))):=by
 obtain⟨x,R,G,I,H,Q,B⟩:=F;have b:hC [i,k] W Z:=(hC.of_below (hG O):hC [i,k] W Y.drew).trans C (fun _ h=>.inl h);have c:hC [i,k,bn] W (Z.setCell (Ad bn 0) (iV ((q:Int)+1))):=(b.mono (fun K r=>by simp only[mc,nn,or_false]at r ⊢;omega)).setCell (.inl Is) _;have e:hC [bn] Z (Z.setCell (Ad bn 0) (iV ((q:Int)+1))):=(hC.refl _ _).setCell (.inl Is) _;have ae:=x.lt;obtain⟨X,ab,z,y,S⟩:=H;refine⟨⟨c.size,fun f V _ a p=>(c.block f (Array.getElem?_eq_some_iff.1 a).1 (fun v=>?_)).trans a⟩,⟨c.size,fun L=>⟨c.block l om Pf,c.block (l+1) L Pf⟩⟩,q+1,_,by rw[la,E];simp[Nat.add_assoc],?_,?_,?_,?_,J.keep e ?_ ?_,fun o ad=>?_,?_⟩
 ·simp only[mc,nn,or_false]at v;rcases v with rfl | rfl | rfl;·rw[show W.heap[f]?=_ from y]at a;cases a;cases p
  ·rw[show W.heap[f]?=_ from z]at a;cases a;cases p
  ·rw[show W.heap[f]?=_ from x]at a;cases a;cases p
 ·have:=P.set 0 (iV ((q:Int)+1));simpa using this
 ·exact(R.keep b Pf).keep e Ic
 ·exact(G.keep b Pf).keep e Ic
 ·exact(I.keep b Pf).keep e Ic
 ·simp only[ms];omega
 ·simp only[ms];omega
 ·rw[if_neg om];exact Q o om
 ·exact(B.trans b (fun K r=>.inl r)).setCell (.inr om) _
theorem Nf {lp N:Nat} {bt:Nat->Int} (bY) (aw:List Int) (b1:1<=i/\i<=20000) (aG:wz n b5 bX je k iz w) (aT:k5 lp bX m i bt w) (bI:∀f,iz<=f->bt f=0) (E:Sl .u8 w bY aw) (cf:hL [m,bX] bY) (az:1<=aw.length/\aw.length<=20000) (b4:N=(aw.length+40)/41) (bf:iz+N<=i) (aI:k<=1000) :
 Calls prog 58 #[pV b5,bY] w (Lu n lp b5 bX m i k je (iz+N) w):=by
 have cz:=lh E;have bC:=lh cf;clear cf;have qB:Hd (m<w.heap.size/\bX<w.heap.size):=by obtain⟨aY,_,J,L,_⟩:=aT;exact⟨L.lt,J.lt⟩
 have pY:Hd (b5∉[m,bX]):=by
  obtain⟨aY,_,J,L,_⟩:=aT;have cQ:b5≠m:=n3 aG.2.1 L Iv;have cR:b5≠bX:=n3 aG.2.1 J Iv;have cW:b5∉[m,bX]:=by simp[cQ,cR]
  exact cW
 have d1:=lh aG;have aO:=lh aT;have c3:=lh bI;have I:=lh (An b1 (An az (An b4 (An bf aI))));obtain⟨ds,af,rfl,K,⟨ad,cE⟩,Z⟩:=E;obtain⟨H,G,rfl,ax⟩:=Z (by intro aJ;rw[aJ]at az;simp at az);have di:=lh (An K ax);obtain⟨d,cm⟩:∃d:Nat,d=(aw.length-1)/41:=⟨_,rfl⟩;obtain⟨D,cd⟩:∃D:Nat,D=iz+d:=⟨_,rfl⟩;obtain⟨aa,dB,cj,bW,bK⟩:=TR az b4 bf b1.2 cm cd;have d3:¬(aw.length:Int)=0:=om;clear K ad cE Z ax aG aT bI cm cd b4 bf aI b1 az;refine(callsIn_wide (n:=3)).1 ?_;refine callsIn_of_wp_marks func58 rfl trivial ?_ rfl;simp only[ntmps58,List.size_toArray,List.length_cons,List.length_nil,Nat.reduceAdd,Nat.reduceSub,Array.replicate_succ,Array.replicate_zero,List.push_toArray,List.append_toArray,List.nil_append,List.cons_append];refine wpIn_wide.2 ?_;go_wp2_with fail;obtain⟨d9,bZ,bD,bB,aF⟩:∃a,((w.alloc (.cells #[pV b5] 117)).alloc (.cells #[iZ] 29))=a/\Hd (hA a w.heap.size 117 [pV b5])/\Hd (hA a (w.heap.size+1) 29 [iZ])/\Hd (BW w a) :=
  ⟨_,rfl,(hR w [_] _ _ rfl).B (hB bR _),w3 _ [_] _ _ (wa _ _),hB (hB bR _) _⟩
 rw[bZ];clear bZ;refine(OR (d1.B aF.o) (aO.B aF.o)).mono ?_;rintro _ a9 ⟨rfl,aM⟩;have br:=lh (bD.B aM);have aV:=lh (bB.B aM);have bw:Hd (BW w a9):=hJ aF.o aM;clear aM;have a8:=br.cell 0;have bi:=(d1.2.1.B bw.o).cell 3;go_wp2_with fail;obtain⟨aE,ci,aB,aQ,bh,bF⟩:∃a,a9.alloc (.cells #[iV (D:Int)] 3)=a/\Hd (hA a a9.heap.size 3 [iV (D:Int)])/\Hd (BW w a)/\Hd (hA a w.heap.size 117 [pV b5])/\Hd (hA a (w.heap.size+1) 29 [iZ]) :=
  ⟨_,rfl,hR a9 [_] _ _ rfl,hB bw.o _,br.B (hB bR _),aV.B (hB bR _)⟩
 rw[ci];clear ci a8 bi;obtain⟨dv,bV⟩:=xg a9.heap.size;simp only[bV]at aB ⊢;have os:Hd (w.heap.size+1<dv):=by have:=aV.lt;show _<_;omega
 clear bV br aV bw bD bB aF;have dd:Hd (∀b,BW aE b->Ce b dv 0 (iV (D:Int))/\Ce b w.heap.size 0 (pV b5)/\Ce b b5 0 (pV bX)):=fun b e=>⟨(aB.B e).cell 0,(bh.B e).cell 0,((d1.2.1.B aQ.o).B e).cell 0⟩;have bJ:=dd.o aE bR;have bc:=dd.o aE.drew (hG bR);go_region_held3 (fun b=>Ce b dv 0 (iV (D:Int))/\Ce b w.heap.size 0 (pV b5)/\Ce b b5 0 (pV bX)) (first | with_reducible exact bJ | with_reducible exact bc | with_reducible exact cc | with_reducible assumption)
  (first
   | (go_at_call 98;refine(Q5 ((aO.B aQ.o).B (hG bR))).mono ?_;rintro _ W ⟨rfl,cw⟩;have ae:Hd (BW aE W):=hJ (hG bR) cw;have cc:=dd.o W ae.o;clear cw))
 have bp:Hd (BW w W):=hJ aQ.o ae.o;have aW:=lh (aB.B ae.o);have bq:=lh (bh.B ae.o);have cy:=lh (bF.B ae.o);clear bJ bc cc dd aB aQ bh bF;have a8:=bq.cell 0;have bi:=(d1.2.1.B bp.o).cell 3;go_wp2_with fail;obtain⟨P,cb,aP,b',b2,c1,R5⟩:∃a,W.alloc (.cells #[iV (iz:Int)] 3)=a/\Hd (hA a W.heap.size 3 [iV (iz:Int)])/\Hd (hA a dv 3 [iV (D:Int)])/\Hd (BW w a)/\Hd (hA a w.heap.size 117 [pV b5])/\Hd (hA a (w.heap.size+1) 29 [iZ]) :=
  ⟨_,rfl,hR W [_] _ _ rfl,aW.B (hB bR _),hB bp.o _,bq.B (hB bR _),cy.B (hB bR _)⟩
 rw[cb];clear cb a8 bi;obtain⟨bn,cx⟩:=xg W.heap.size;simp only[cx]at aP ⊢;have ot:Hd (dv<bn):=by have:=aW.lt;show _<_;omega
 clear cx aW bp bq cy ae;refine(VL _ _ _ _).mono ?_;rintro _ dx ⟨rfl,rfl⟩;go_wp2_with fail;obtain⟨cU,bT,ct,bS,ay,cY⟩:∃a,((P.alloc (.cells #[sL H G aw.length af] 135)).alloc (.cells #[iV 41] 3))=a/\Hd (hA a P.heap.size 135 [sL H G aw.length af])/\Hd (hA a (P.heap.size+1) 3 [iV 41])/\Hd (P.heap.size+1<a.heap.size)/\Hd (Bz lp b5 bX m i iz D bn dv w 0 a) :=
  have v:BW P ((P.alloc (.cells #[sL H G aw.length af] 135)).alloc (.cells #[iV 41] 3)):=hB (hB bR _) _
  ⟨_,rfl,(hR P [_] _ _ rfl).B (hB bR _),w3 _ [_] _ _ (wa _ _),by show _<_;simp only[wa];omega,
   iz,bt,rfl,aP.B v,b'.B v,c1.B v,R5.B v,aO.B (hJ b2.o v),c3.o,hC.of_below (hJ b2.o v)⟩
 rw[bT];clear bT;obtain⟨ag,b6⟩:=xg P.heap.size;have ud:Hd (bn<ag):=by have:=aP.lt;show _<_;omega
 simp only[b6]at ct bS ay ⊢;clear b6 aP b' b2 c1 R5;refine yum (n:=3) Iv (gf:=148) (lb:=#[pV ag,pV (ag+1)]) rfl (enters_of func148 kr rfl) (Vm 2 ag H G aw.length af N di.1 I.2.1.2 I.2.2.1 cU ct.o bS.o) (fun h k=>C9.t h k) (C9.b ay.o) (fun bN a=>Bz lp b5 bX m i iz D bn dv w bN.length a) (d:=8) ?own cY.o ?assign ?body ?done;case own=>intro s A dA du cN be cu;refine cN.grown be (fun r aJ=>⟨?_,(cu r aJ).2⟩);have K:=(cu r aJ).1;have ad:=ay.o;have Z:=ud.o;have ax:=ot.o;have cD:=os.o;omega
 case assign =>
  intro l x a a4 ac;simp only[List.setIfInBounds_toArray,List.set_cons_succ,List.set_cons_zero]
  gi_wp2
  exact ac
 case body =>
  rintro l bN x a ⟨q,cK,a7,av,a6,ab,au,a5,al,R⟩ bG;have dj:Hd (q+1<=i/\q<=20000):=by have K:=I.o;show _/\_;omega
  have we:=lh a7;have bO:Hd (1<=((aw.drop (41*x.1)).take 41).length/\((aw.drop (41*x.1)).take 41).length<=41):=by have K:=I.2.2.1;have ad:=x.2;show _/\_;simp only[List.length_take,List.length_drop];omega
  have c7:Hd (Sl .u8 a (sL H G aw.length af) aw):=cz.keep R bC.o;have co:Hd (Sl .u8 a (EL H G aw.length x.1) ((aw.drop (41*x.1)).take 41)):=by obtain⟨dC,bH,aa,_,_,cj⟩:=c7.o;obtain⟨dw,d0,bW,bK⟩:=cj (by intro aJ;have:=I.2.1.1;rw[aJ]at this;simp at this);subst bW;injection aa with aa;injection aa with aa;injection aa with cC dn;subst cC;subst dn;exact Ys bK x.1
  have oK:Hd (hA a b5 186 [pV bX,iZ,je,iV (iz:Int)]):=d1.2.1.keep R pY.o;have eV:=lh (An av (An a6 (An ab (An au (An a5 (An al R))))));have dd:Hd (∀b,BW a b->Ce b bn 0 (iV (q:Int))/\Ce b w.heap.size 0 (pV b5)/\Ce b b5 3 (iV (iz:Int))/\Ce b dv 0 (iV (D:Int))):=fun b e=>⟨(eV.1.B e).cell 0,(eV.2.2.1.B e).cell 0,(oK.B e).cell 3,(eV.2.1.B e).cell 0⟩;have bc:=dd.o a.drew (hG bR);clear a7 av a6 ab au a5 al R;simp only[Gf,List.setIfInBounds_toArray,List.set_cons_succ,List.set_cons_zero]
  gi_wp2
  refine KP (fun b=>Ce b bn 0 (iV (q:Int))/\Ce b w.heap.size 0 (pV b5)/\Ce b b5 3 (iV (iz:Int))/\Ce b dv 0 (iV (D:Int))) 16 kr kr ?_;refine Kn ?_;show _;refine tK 9 rfl ?_;refine tK 10 rfl ?_;refine BZ (rs:=[11,15]) kr Is ?_;refine(k0.cons (o:=⟨_,_,_,_,_,_⟩) rfl (fun a4 ac=>?_) (k0.cons (o:=⟨_,_,_,_,_,_⟩) rfl (fun a4 ac=>?_) k0.nil))
  ·go_simp;refine(RP q dj.2 _ _ (EL H G aw.length x.1) ((aw.drop (41*x.1)).take 41) bO.o _ (co.B (hG bR))).mono ?_;rintro _ g ⟨cs,c4,rfl,ao,a1,V⟩;have lx:=lh (An ao a1);have cv:=lh V;have Q:Hd (BW a g):=hJ (hG bR) V;have jf:=dd.o g Q.o;clear ao a1 V;refine Dr ?_;clear ac a4;show _;refine tF 12 rfl ?_ (hS:=jf);refine tF 13 rfl ?_ (hS:=jf);refine tF 14 rfl ?_ (hS:=jf);refine wo 15 kr rfl fun a4 ac=>?_;go_simp;refine ac.out _ _ (fun hun=>dd.o _ (hB Q.o _)) ?_;clear ac a4;try simp only[ap,aq,sa,sb,sc]
   obtain⟨U,an,am,bo,ak⟩:∃U,g.alloc (.cells k3.toArray 189)=U/\Hd (hA U g.heap.size 189 k3)/\Hd (BW a U)/\Hd (a.heap.size<=g.heap.size):=⟨_,rfl,hR g k3 _ _ rfl,hB Q.o _,by first | exact nr _ | exact Q.size⟩;change rr _ _ _ _ _ _ _ _ _ (g.alloc (.cells k3.toArray 189));with_reducible rw[an]
   clear an jf bc;refine wo 16 kr rfl fun a4 ac=>?_;refine Ri rfl (.tmp 9) (.tmp 57) rfl rfl g.heap.size cs.toArray rfl rfl k3.toArray am.o (by rw[List.size_toArray];exact lx.1) (by simp[k3]) (all_oneCell_toArray lx.2.one) ?_;refine ac.out _ _ kd ?_;clear ac a4;try simp only[ap,aq,sa,sb,sc]
   refine wS 17 rfl ?_;refine r4 kr ?_ _;obtain⟨z,ah,ai,l6⟩:∃z,U.setRow g.heap.size cs.toArray=z/\Hd (hA z g.heap.size 189 cs)/\Hd (BW a z):=⟨_,rfl,D5 am.o cs,Bd bo.o ak.o _⟩;try with_reducible rw[ah]
   clear ah
   gi_wp2
   have bx:Hd (∀b,BW z b->Ce b w.heap.size 0 (pV b5)/\Ce b b5 0 (pV bX)/\Ce b bn 0 (iV (q:Int))/\b.rangeAt g.heap.size 0 cs):=fun b e=>⟨((eV.2.2.1.B l6.o).B e).cell 0,((oK.B l6.o).B e).cell 0,((eV.1.B l6.o).B e).cell 0,fun j bY E=>by rw[Nat.zero_add,(ai.B e).cell];exact E⟩;have lD:=bx.o z.drew (hG bR);refine KP (fun b=>Ce b w.heap.size 0 (pV b5)/\Ce b b5 0 (pV bX)/\Ce b bn 0 (iV (q:Int))/\b.rangeAt g.heap.size 0 cs) 7 kr kr ?_;refine Ck ?_;show _;refine Fm (i:=5) (oi:=⟨_,_,_,_,_,_⟩) (v:=.agg cs.toArray) rfl kr kr kr kr kr (fun _ _ _ h=>h) (yieldsIf_load_mid JF 189 (.tmp 9) rfl g.heap.size 0 JF cs _ (fun df bd=>bd.2.2.2) underlying189 rfl (by rw[lx.1];exact Dp)) (by assumption) ?_;refine Mw ?_;intro a4 ac eA bv iJ qb m3;have lV:Hd (w.heap.size∉[m,bX]/\bn∉[m,bX]/\g.heap.size∉[m,bX]/\dv∉[m,bX]/\w.heap.size+1∉[m,bX]):=by
    have bA:=qB.o;have cr:=ot.o;have ce:=os.o;have cH:=ak.o;have dk:=eV.2.2.2.2.2.2.size;have aj:w.heap.size∉[m,bX]/\bn∉[m,bX]/\g.heap.size∉[m,bX]/\dv∉[m,bX]/\w.heap.size+1∉[m,bX]:=by simp only[mc,nn,or_false];omega
    exact aj
   refine M1 ?_;intro m0 m4 jN;have aZ:Hd (hA eA g.heap.size 189 cs):=(ai.B (hG bR)).keep m3.o lV.2.2.1;have wb:eA.cell? (Ad w.heap.size 0)=some (pV b5)/\eA.cell? (Ad b5 0)=some (pV bX)/\eA.cell? (Ad bn 0)=some (iV (q:Int))/\eA.rangeAt g.heap.size 0 cs:=⟨m0.cell 0,m4.cell 0,jN.cell 0,fun j bY E=>by rw[Nat.zero_add,aZ.cell];exact E⟩;exact QN
  ·go_simp;refine ac.out _ _ (fun hun=>dd.o _ (hB (hG bR) _)) ?_;clear ac a4;try simp only[ap,aq,sa,sb,sc]
   refine wo 11 kr rfl fun a4 ac=>?_;go_simp;refine(RP q dj.2 _ _ (EL H G aw.length x.1) ((aw.drop (41*x.1)).take 41) bO.o _ (co.B (hB (hG bR) _))).mono ?_;rintro _ g ⟨cs,c4,rfl,ao,a1,V⟩;have lx:=lh (An ao a1);have cv:=lh V;have Q:Hd (BW a g):=hJ (hB (hG bR) _) V;have jf:=dd.o g Q.o;clear ao a1 V;refine Dr ?_;clear ac a4;show _;refine tF 12 rfl ?_ (hS:=jf);refine tF 13 rfl ?_ (hS:=jf);refine tF 14 rfl ?_ (hS:=jf);obtain⟨U,an,am,bo,ak⟩:∃U,g=U/\Hd (hA U a.heap.size 189 k3)/\Hd (BW a U)/\Hd (a.heap.size<=a.heap.size):=⟨_,rfl,hA.B (hR a.drew k3 _ _ rfl) cv.o,Q.o,by first | exact nr _ | exact Q.size⟩;with_reducible rw[an]
   clear an jf bc;refine wo 16 kr rfl fun a4 ac=>?_;refine Ri rfl (.tmp 9) (.tmp 57) rfl rfl a.heap.size cs.toArray rfl rfl k3.toArray am.o (by rw[List.size_toArray];exact lx.1) (by simp[k3]) (all_oneCell_toArray lx.2.one) ?_;refine ac.out _ _ kd ?_;clear ac a4;try simp only[ap,aq,sa,sb,sc]
   refine wS 17 rfl ?_;refine r4 kr ?_ _;obtain⟨z,ah,ai,l6⟩:∃z,U.setRow a.heap.size cs.toArray=z/\Hd (hA z a.heap.size 189 cs)/\Hd (BW a z):=⟨_,rfl,D5 am.o cs,Bd bo.o ak.o _⟩;try with_reducible rw[ah]
   clear ah
   gi_wp2
   have bx:Hd (∀b,BW z b->Ce b w.heap.size 0 (pV b5)/\Ce b b5 0 (pV bX)/\Ce b bn 0 (iV (q:Int))/\b.rangeAt a.heap.size 0 cs):=fun b e=>⟨((eV.2.2.1.B l6.o).B e).cell 0,((oK.B l6.o).B e).cell 0,((eV.1.B l6.o).B e).cell 0,fun j bY E=>by rw[Nat.zero_add,(ai.B e).cell];exact E⟩;have lD:=bx.o z.drew (hG bR);refine KP (fun b=>Ce b w.heap.size 0 (pV b5)/\Ce b b5 0 (pV bX)/\Ce b bn 0 (iV (q:Int))/\b.rangeAt a.heap.size 0 cs) 7 kr kr ?_;refine Ck ?_;show _;refine Fm (i:=5) (oi:=⟨_,_,_,_,_,_⟩) (v:=.agg cs.toArray) rfl kr kr kr kr kr (fun _ _ _ h=>h) (yieldsIf_load_mid JF 189 (.tmp 9) rfl a.heap.size 0 JF cs _ (fun df bd=>bd.2.2.2) underlying189 rfl (by rw[lx.1];exact Dp)) (by assumption) ?_;refine Mw ?_;intro a4 ac eA bv iJ qb m3;have lV:Hd (w.heap.size∉[m,bX]/\bn∉[m,bX]/\a.heap.size∉[m,bX]/\dv∉[m,bX]/\w.heap.size+1∉[m,bX]):=by
    have bA:=qB.o;have cr:=ot.o;have ce:=os.o;have cH:=ak.o;have dk:=eV.2.2.2.2.2.2.size;have aj:w.heap.size∉[m,bX]/\bn∉[m,bX]/\a.heap.size∉[m,bX]/\dv∉[m,bX]/\w.heap.size+1∉[m,bX]:=by simp only[mc,nn,or_false];omega
    exact aj
   refine M1 ?_;intro m0 m4 jN;have aZ:Hd (hA eA a.heap.size 189 cs):=(ai.B (hG bR)).keep m3.o lV.2.2.1;have wb:eA.cell? (Ad w.heap.size 0)=some (pV b5)/\eA.cell? (Ad b5 0)=some (pV bX)/\eA.cell? (Ad bn 0)=some (iV (q:Int))/\eA.rangeAt a.heap.size 0 cs:=⟨m0.cell 0,m4.cell 0,jN.cell 0,fun j bY E=>by rw[Nat.zero_add,aZ.cell];exact E⟩;exact QN
 case done =>
  rintro ch dz a M cq ⟨q,cK,a7,av,a6,ab,au,a5,al,R⟩ ac;have we:=lh a7;have eV:=lh (An av (An a6 (An ab (An au (An a5 (An al R))))));have cA:=lh cq;have bj:=lh ac;have bU:=lh M;have oK:Hd (hA a b5 186 [pV bX,iZ,je,iV (iz:Int)]):=d1.2.1.keep R pY.o;have a8:=ab.cell 0;have dc:=oK.cell 0;clear a7 av a6 ab au a5 al R cq ac M;go_wp2_with fail;refine(M9 I.1.2 eV.2.2.2.2.1).mono ?_;rintro _ eA ⟨rfl,bv,iJ⟩;have qb:=lh bv;have m3:Hd (hC [m,bX] a eA):=iJ;have aC:Hd (hC [m,bX] w eA):=eV.2.2.2.2.2.2.trans iJ (fun _ h=>.inl h);have lV:Hd (w.heap.size∉[m,bX]/\bn∉[m,bX]/\w.heap.size+1∉[m,bX]):=by
   have bA:=qB.o;have cr:=ot.o;have ce:=os.o;have aj:w.heap.size∉[m,bX]/\bn∉[m,bX]/\w.heap.size+1∉[m,bX]:=by simp only[mc,nn,or_false];omega
   exact aj
  have m0:Hd (hA eA w.heap.size 117 [pV b5]):=eV.2.2.1.keep iJ lV.1;have cg:Hd (hA eA (w.heap.size+1) 29 [iZ]):=eV.2.2.2.1.keep iJ lV.2.2;have jN:Hd (hA eA bn 3 [iV (q:Int)]):=eV.1.keep iJ lV.2.1;have m4:Hd (hA eA b5 186 [pV bX,iZ,je,iV (iz:Int)]):=oK.keep iJ pY.o;have dp:Hd (Sl .u8 eA (sL H G aw.length af) aw):=cz.keep aC.o bC.o;have bl:Hd (eA.heap[ch]?=some (.deferred (some []))):=by
   have bG:=(Array.getElem?_eq_some_iff.1 bj.o).1;refine(iJ.block ch bG (fun ar=>?_)).trans bj.o;obtain⟨aY,_,J,L,_⟩:=eV.2.2.2.2.1;have aL:=bj.o;simp only[mc,nn,or_false]at ar;rcases ar with rfl | rfl;·rw[show a.heap[ch]?=_ from L]at aL;cases aL
   ·rw[show a.heap[ch]?=_ from J]at aL;cases aL
  have dq:Hd (∃cs,eA.ownsRow n 135 1 je k cs/\(∀c∈cs,c.oneCell'=true)/\(∀x,je.ownBlock=some x->x<w.heap.size/\x≠b5/\x≠m/\x≠bX)):=by
   obtain⟨_,cT,cs,b7,c5⟩:=d1.o;obtain⟨aY,_,J,L,_⟩:=aO.o;have C:∀x,je.ownBlock=some x->x<w.heap.size/\x≠b5/\x≠m/\x≠bX:=fun x C=>by obtain⟨X,v⟩:=Gm b7 C;exact⟨v.lt,n3 v cT Iv,n3 v L Iv,n3 v J Iv⟩
   exact⟨cs,p1 b7 aC.o (fun x aJ=>by have:=C x aJ;simp only[mc,nn,or_false];omega),c5,C⟩
  clear bv iJ a8 dc;go_wp2_with fail;have dd:Hd (∀b,BW eA b->Ce b w.heap.size 0 (pV b5)/\Ce b b5 2 je/\Ce b bn 0 (iV (q:Int))):=fun b e=>⟨(m0.B e).cell 0,(m4.B e).cell 2,(jN.B e).cell 0⟩;have bc:=dd.o eA.drew (hG bR);have lD:=An bc.1 bc.2.2;obtain⟨c6,bE,ca,bQ⟩:=dq.o;have cP:=lh bE;have cX:=lh ca;have cn:=lh bQ;clear bE ca bQ;obtain⟨cI,db,cB,dh,c'⟩:=info_parts UA;refine XE (fun b=>Ce b w.heap.size 0 (pV b5)/\Ce b b5 2 je/\Ce b bn 0 (iV (q:Int))) (fun b=>Ce b w.heap.size 0 (pV b5)/\Ce b bn 0 (iV (q:Int))) 11 kr ?_;refine DG (i:=0) (oi:=⟨_,_,_,_,_,_⟩) (v:=?_) rfl kr kr kr kr kr (fun _ _ _ h=>h) (Or.inl ⟨by rfl,?_⟩) bc lD ?_;rotate_left;·(intro w hSw;(try dsimp only at hSw);go_simp;try with_reducible rfl)
  simp only[ap,aq,sa,sb,sc];refine FJ (i:=1) (oi:=⟨_,_,_,_,_,_⟩) (v:=?_) rfl kr kr kr Iv (fun _ _ _ h=>h) (Or.inl ⟨by rfl,?_⟩) (fun _=>bc) lD ?_;rotate_left;·(intro w hSw;(try dsimp only at hSw);go_simp;try with_reducible rfl)
  simp only[ap,aq,sa,sb,sc];refine DG (i:=2) (oi:=⟨_,_,_,_,_,_⟩) (v:=?_) rfl kr kr kr kr kr (fun _ _ _ h=>h) (Or.inl ⟨by rfl,?_⟩) bc lD ?_;rotate_left;·(intro w hSw;(try dsimp only at hSw);go_simp;try with_reducible rfl)
  simp only[ap,aq,sa,sb,sc];refine DG (i:=3) (oi:=⟨_,_,_,_,_,_⟩) (v:=?_) rfl kr kr kr kr kr (fun _ _ _ h=>h) (Or.inl ⟨by rfl,?_⟩) bc lD ?_;rotate_left;·(intro w hSw;(try dsimp only at hSw);go_simp;try with_reducible rfl)
  simp only[ap,aq,sa,sb,sc];refine DG (i:=4) (oi:=⟨_,_,_,_,_,_⟩) (v:=?_) rfl kr kr kr kr kr (fun _ _ _ h=>h) (Or.inl ⟨by rfl,?_⟩) bc lD ?_;rotate_left;·(intro w hSw;(try dsimp only at hSw);go_simp;try with_reducible rfl)
  simp only[ap,aq,sa,sb,sc];refine DG (i:=5) (oi:=⟨_,_,_,_,_,_⟩) (v:=?_) rfl kr kr kr kr kr (fun _ _ _ h=>h) (Or.inl ⟨by rfl,?_⟩) bc lD ?_;rotate_left;·(intro w hSw;(try dsimp only at hSw);go_simp;try with_reducible rfl)
  simp only[ap,aq,sa,sb,sc];refine DG (i:=6) (oi:=⟨_,_,_,_,_,_⟩) (v:=?_) rfl kr kr kr kr kr (fun _ _ _ h=>h) (Or.inl ⟨by rfl,?_⟩) bc lD ?_;rotate_left;·(intro w hSw;(try dsimp only at hSw);go_simp;try with_reducible rfl)
  simp only[ap,aq,sa,sb,sc];refine FJ (i:=10) (oi:=⟨_,_,_,_,_,_⟩) (v:=?_) rfl kr kr kr Iv (fun _ _ _ h=>h) (Or.inl ⟨by rfl,?_⟩) (fun _=>bc) lD ?_;rotate_left;·(intro w hSw;(try dsimp only at hSw);go_simp;try with_reducible rfl)
  simp only[ap,aq,sa,sb,sc];refine BJ (i:=7) (o:=⟨_,_,_,_,_,_⟩) kr rfl (fun a4 ac=>?_);go_simp;refine(V2 _ aw _ (dp.B (hG bR)) I.2.1.2).mono ?_;rintro _ a2 ⟨dm,rfl,c0,cl⟩;have B:Hd (BW eA a2):=hJ (hG bR) cl;have aD:=dd.o a2 B.o;obtain⟨bs,aU,rfl⟩:∃bs aU,dm=.slice bs aw.length aU:=by
   obtain⟨_,⟨rfl,aJ⟩ | ⟨y,bH,X,rfl,_⟩⟩:=c0;·exact⟨none,0,by rw[aJ]⟩
   ·exact⟨_,_,rfl⟩
  clear c0 cl;refine ac.out _ _ (fun hun=>aD) ⟨aD.1,aD.2.2⟩ ?_;clear ac a4;try simp only[ap,aq,sa,sb,sc]
  refine BJ (i:=8) (o:=⟨_,_,_,_,_,_⟩) kr rfl (fun a4 ac=>?_);go_simp;refine ac.out _ _ (fun hun=>dd.o _ (hB B.o _)) ⟨(dd.o _ (hB B.o _)).1,(dd.o _ (hB B.o _)).2.2⟩ ?_;clear ac a4;try simp only[ap,aq,sa,sb,sc]
  refine BJ (i:=9) (o:=⟨_,_,_,_,_,_⟩) kr rfl (fun a4 ac=>?_);refine Cp rfl (.tmp 84) (.tmp 87) 134 rfl n 135 cI (sZ) 1 24 underlying134 db cB dh c' rfl Iv je k c6 JF (ic cP.o (hB B.o _)) (some (Ad a2.heap.size 0)) 1 1 [.slice bs aw.length aU] JF rfl (fun aJ=>by cases aJ) (fun d4 aJ j u aR=>by cases aJ;exact Xq a2 _ _ j u aR) (by intro u aR;simp only[ms]at aR;subst aR;rfl) (by have:=I.2.2.2.2;unfold maxLen;omega) (oo I.2.2.2.2) (by have K:=d1.1;have ad:=d1.2.1.lt;have Z:=aC.size;have ax:=B.size;rw[wa];omega) ?_;intro da t aX aS bP;obtain⟨O,T,rfl⟩:∃O T,da=sL O 0 (k+1) T:=by
   obtain⟨_,⟨_,aJ⟩ | ⟨y,bH,X,rfl,_⟩⟩:=aX;·omega
   ·exact⟨_,_,rfl⟩
  have dg:=lh aX;have cZ:=lh aS;have cM:Hd (∀x,(Value.slice (some (Ad O 0)) (k+1) T).ownBlock=some x->(je.ownBlock=some x)\/x=a2.heap.size+1):=fun x C=>by
   rcases bP with h | h;·exact .inl (h▸C)
   ·rw[C]at h;cases h;exact .inr (wa _ _)
  have aA:∀x,(x=w.heap.size\/x=b5\/x=bn\/x=w.heap.size+1\/x=m\/x=bX\/x=ch)->some x≠je.ownBlock:=fun x C aJ=>by have K:=m0.lt;have ad:=jN.lt;have Z:=m4.lt;have ax:=cg.lt;have cD:=B.size;have d6:=qB.o;have bv:=os.o;have dy:=ot.o;have d8:=bU.o;have d2:=ay.o;have dr:=ud.o;have:=cn.o x aJ.symm;omega
  have d5:=lh aA;have a3:∀y aJ X,(y=w.heap.size\/y=b5\/y=bn\/y=w.heap.size+1\/y=m\/y=bX\/y=ch)->hA eA y aJ X->hA t y aJ X:=fun y aJ X be v=>p7 (v.B (hB B.o _)) aS (aA y be);have aN:=lh a3;have bg:=(Array.getElem?_eq_some_iff.1 bl.o).1;have cV:Hd (t.heap[ch]?=some (.deferred (some []))):=(aS.block ch (Nat.lt_of_lt_of_le bg (hB B.o _).size) (aA ch Is)).trans (((hB B.o _).block ch bg).trans bl.o);clear bg;have S:t.cell? (Ad w.heap.size 0)=some (pV b5)/\t.cell? (Ad b5 2)=some je/\t.cell? (Ad bn 0)=some (iV (q:Int)):=⟨(a3 _ _ _ Is m0.o).cell 0,(a3 _ _ _ Is m4.o).cell 2,(a3 _ _ _ Is jN.o).cell 0⟩;clear aX aS bP aA a3;refine ac.out _ _ (fun hun=>S) ⟨S.1,S.2.2⟩ ?_;clear ac a4;try simp only[ap,aq,sa,sb,sc]
  refine BJ (i:=11) (o:=⟨_,_,_,_,_,_⟩) kr rfl (fun a4 ac=>?_);go_simp;refine ac.out _ _ kd ⟨S.1,S.2.2⟩ ?_;clear ac a4;try simp only[ap,aq,sa,sb,sc]
  refine BJ (i:=12) (o:=⟨_,_,_,_,_,_⟩) kr rfl (fun a4 ac=>?_);go_simp;refine ac.out _ _ kd ⟨S.1,S.2.2⟩ ?_;clear ac a4;try simp only[ap,aq,sa,sb,sc]
  have b8:Hd (hA t w.heap.size 117 [pV b5]):=aN.o _ _ _ Is m0.o;have cp:Hd (hA t bn 3 [iV (q:Int)]):=aN.o _ _ _ Is jN.o;have aH:Hd (hA t b5 186 [pV bX,iZ,je,iV (iz:Int)]):=aN.o _ _ _ Is m4.o;have J:=aH.cell 2;have c2:=aH.frozen 2;have Y:w.heap.size≠b5/\bn≠b5:=by have K:=d1.2.1.lt;have ad:=os.o;have Z:=ot.o;omega
  have a0:(t.setCell (Ad b5 2) (sL O 0 (k+1) T)).cell? (Ad w.heap.size 0)=some (pV b5)/\(t.setCell (Ad b5 2) (sL O 0 (k+1) T)).cell? (Ad bn 0)=some (iV (q:Int)):=⟨(b8.setOther Y.1 2 _).cell 0,(cp.setOther Y.2 2 _).cell 0⟩;refine BJ (i:=13) (o:=⟨_,_,_,_,_,_⟩) kr rfl (fun a4 ac=>?_);go_simp;refine ac.out _ _ kd a0 ?_;clear ac a4;try simp only[ap,aq,sa,sb,sc]
  obtain⟨bz,bm,b0,b3⟩:∃a,t.setCell (Ad b5 2) (sL O 0 (k+1) T)=a/\Hd (hA a b5 186 [pV bX,iZ,sL O 0 (k+1) T,iV (iz:Int)])/\Hd (hC [b5] t a):=⟨_,rfl,aH.set 2 _,(hC.refl _ _).setCell (.inl Is) _⟩;with_reducible rw[bm]
  rw[bm]at a0;clear bm J c2;have L:=b0.cell 3;have c9:=b0.frozen 3;refine BJ (i:=14) (o:=⟨_,_,_,_,_,_⟩) kr rfl (fun a4 ac=>?_);go_simp;refine ac.out _ _ kd a0 ?_;clear ac a4;try simp only[ap,aq,sa,sb,sc]
  refine BJ (i:=15) (o:=⟨_,_,_,_,_,_⟩) kr rfl (fun a4 ac=>?_);go_simp;refine ac.out _ _ kd a0 ?_;clear ac a4;try simp only[ap,aq,sa,sb,sc]
  have b9:(bz.setCell (Ad b5 3) (iV (q:Int))).cell? (Ad w.heap.size 0)=some (pV b5)/\(bz.setCell (Ad b5 3) (iV (q:Int))).cell? (Ad bn 0)=some (iV (q:Int)):=⟨((b8.keep b3.o (by simp only[ms];exact Y.1)).setOther Y.1 3 _).cell 0,((cp.keep b3.o (by simp only[ms];exact Y.2)).setOther Y.2 3 _).cell 0⟩;refine BJ (i:=16) (o:=⟨_,_,_,_,_,_⟩) kr rfl (fun a4 ac=>?_);go_simp;refine ac.out _ _ kd b9 ?_;clear ac a4;try simp only[ap,aq,sa,sb,sc]
  refine Ph kr ?_ _;have bb:Hd (hA t (w.heap.size+1) 29 [iZ]):=aN.o _ _ _ Is cg.o;obtain⟨aK,ck,cF,a'⟩:∃a,bz.setCell (Ad b5 3) (iV (q:Int))=a/\Hd (hA a b5 186 [pV bX,iZ,sL O 0 (k+1) T,iV (q:Int)])/\Hd (hC [b5] t a):=⟨_,rfl,b0.set 3 _,b3.setCell (.inl Is) _⟩;have dl:w.heap.size+1≠b5:=by have K:=d1.2.1.lt;omega
  have bu:Hd (hA aK (w.heap.size+1) 29 [iZ]):=bb.keep a'.o (by simp only[ms];exact dl);clear a0 b9 L c9 S aD bc lD;with_reducible rw[ck]
  clear ck;have dt:=bu.cell 0;have d7:=bu.frozen 0;go_wp2_with fail;have aI:hC [b5,w.heap.size+1] t (aK.setCell (Ad (w.heap.size+1) 0) (iZ)):=(a'.mono (fun x C=>by simp only[ms]at C;simp[C])).setCell (.inl Is) _;have M:t.heap[ch]?=some (.deferred (some [])):=cV.o;have cG:(aK.setCell (Ad (w.heap.size+1) 0) (iZ)).heap[ch]?=some (.deferred (some [])):=(aI.block ch (Array.getElem?_eq_some_iff.1 M).1 (fun ar=>by
   simp only[mc,nn,or_false]at ar;rcases ar with rfl | rfl;·have:=M.symm.trans aH.o;cases this
   ·have:=M.symm.trans bb.o;cases this)).trans M
  refine⟨by simp,.inl ⟨_,_,rfl,run_takeDeferred cG,iZ,?_,?_⟩⟩
  ·have cJ:((aK.setCell (Ad (w.heap.size+1) 0) (iZ)).putObj ch (.deferred none)).cell? (Ad (w.heap.size+1) 0)=some (iZ):=by
    have:=((bu.set 0 (iZ)).keep (Mq (F:=[ch]) (D:=ch) (hC.refl _ _) (.inl Is) (.deferred none)) (by
     simp only[ms];rintro rfl;have:=M.symm.trans bb.o
     cases this)).cell 0
    simpa using this
   simp[results,results58,go_sem,cJ]
  ·exact X3 aC.o (hB B.o _) cZ.o a'.o cF.o dg.o (fun c c8=>by
    rcases ma.1 c8 with h | h;·exact cX.o c h
    ·simp only[ms]at h;subst h
     rfl) (fun x aJ=>(cM.o x aJ).imp id (fun h=>oo B.size)) ⟨by have:=bU.o;have:=ay.o;have:=ud.o;have:=ot.o;have:=os.o;omega,(Array.getElem?_eq_some_iff.1 bl.o).1⟩ cn.o ⟨d1.1,d1.2.1.lt,by have:=pY.o;simp only[mc,nn,or_false]at this;omega,by have:=pY.o;simp only[mc,nn,or_false]at this;omega⟩ qB.o qb.o eV.2.2.2.2.2.1 (by rw[we.o,cA.o])
end
theorem Ew {a b c:Int} (h:nc a b=(c,0)):1<=b/\b<=28 /\ -135140<=a/\a<=2932896/\c=Bs a b/\c<=2932896:=by
 have j:(nc a b).2=0:=by rw[h]
 obtain⟨_,i,e,l,f⟩:=Iq j;have d:=LA a b;rw[h]at d;unfold nc at h;rw[if_neg om,if_neg om]at h;split at h;·cases h
 ·simp only[Prod.mk.injEq,and_true]at h;exact⟨l,f,i,e,h.symm,d⟩
theorem GC {a i b:Int} (h:nc a i=(b,0)):a<=b/\b<=a+30:=by obtain⟨o,l,f,d,e,_⟩:=Ew h;have c:=Dm (n:=a) ⟨f,d⟩;have j:=Bq (AU a).1 c.hm;have m:=c.hd;subst e;unfold Bs;split <;> omega
theorem yt3 {e b i:Int} (h:nc e b=(i,0)) (S:i+1<=2932896):(AU (i+1)).2.2=b:=by
 obtain⟨Q,M,G,C,f,_⟩:=Ew h;have c:=Dm (n:=e) ⟨G,C⟩;obtain⟨a,ah,l,v⟩:∃a ah l,AU e=(a,ah,l):=⟨_,_,_,rfl⟩;unfold Bs at f;rw[v]at c f;simp only at c f;have T:=Bq a c.hm;have r:=c.hy;have J:=c.hm;have I:=c.hn;have j:∀m s,Bi (i+1) m s b->(AU (i+1)).2.2=b:=fun m s k=>by rw[KK k]
 by_cases o:e-l+b-1<e
 ·rw[if_pos o]at f;refine Pn ?_;intro k b4 eB;have t:hk a (k+1)=hk a k+h2 a ah:=by
   show hk a k+h2 a _=_;rw[eB]
  rw[b4]at I;by_cases P:ah=12
  ·have x:k=11:=om;subst x;have H:=GL a;have O:hk a 12=hk a 11+h2 a ah:=t;have d:=Ev (a-1600);have E:1600+(a-1600)=a:=om;rw[E]at d;obtain⟨q,B⟩:∃q:Int,(if B7 a=true then (1:Int) else 0)=q:=⟨_,rfl⟩;rw[B]at H d;have K:a-1600+1=(a+1)-1600:=om;rw[K]at d;have z:he (8400:Int)=2932897:=by decide
   have R:a<9999:=by
    by_cases h:a<9999;·exact h
    ·have u:a+1-1600=8400:=om;rw[u,z]at d;omega
   have D:=Bq (a+1) (m:=1) om;refine j (a+1) 1 ⟨by omega,by omega,by omega,?_⟩;rw[d];show _=_+hk (a+1) 0+b-1;have y:hk (a+1) 0=0:=rfl;rw[y];omega
  ·have D:=Bq a (m:=ah+1) om;refine j a (ah+1) ⟨r,by omega,by omega,?_⟩;have L:(ah+1-1).toNat=k+1:=om;rw[L,t];omega
 ·rw[if_neg o]at f;exact j a ah ⟨r,J,by omega,by omega⟩
theorem Yp {a:Tm} (h:a.right=true):a.dued<=25/\1<=a.dued/\0<=a.lim/\1<=a.cyc/\a.cyc<=28:=by unfold Tm.right hu at h;simp only[ba,B9]at h;omega
theorem TQ {a:Tm} (e:a.right=true) (o:10957<=a.start/\a.start<=11400):(tt a.start a.cyc a.start).2=0:=by
 obtain⟨_,_,_,m,j⟩:=Yp e;have c:=Dm (n:=a.start) om;have i:=Bq (AU a.start).1 c.hm;have l:=c.hd;have d:a.start<=Bs a.start a.cyc/\Bs a.start a.cyc<=a.start+60:=by unfold Bs;split <;> omega
 have b:nc a.start a.cyc=(Bs a.start a.cyc,0):=by unfold nc;rw[if_neg om,if_neg om,if_neg om]
 have f:p6 a.cyc a.start 300 a.start=([(a.start,Bs a.start a.cyc)],true):=by rw[p6,b,if_neg Is,if_neg (by simp only;omega)];simp[d.1]
 unfold tt;rw[b,if_neg Is,f];rfl
theorem Zc (a:Tm) (b:List R5):vo a b a.start=m2 b a.start (r1 a):=by unfold vo;rw[Int.sub_self];rfl
theorem OP {t:Tm} {l:List R5} (b:t.right=true) (i:10957<=t.start/\t.start<=11400) (d:∀a∈l,t.rightE a=0) (m:l.length<=2000) (c:∀a∈l,a.b<=t.start) (f:(m2 l t.start (r1 t)).2=0) :
 h6 t l t.start=⟨(m2 l t.start (r1 t)).1.p,(m2 l t.start (r1 t)).1.rs,[],0⟩:=by
 have e:D8 t l t.start=0:=by unfold D8;rw[if_neg (by simp[b]),if_neg (by rw[P2 d];simp),if_neg om,if_neg om,if_neg (by rw[TQ b i];simp),if_neg];simp only[List.any_eq_true,decide_eq_true_eq,not_exists,not_and];intro a j;have:=c a j;omega
 unfold h6;rw[if_neg (by rw[e];simp),Zc,if_neg (by rw[f];simp)];rfl
def EB (a:Tm):Rn:=⟨⟨List.replicate a.ts.length 0,0,0⟩,a.ts.map (·.1),[],0⟩
def v2 (a:Tm):i0:=⟨a,a.start,0,[],⟨[],0⟩,EB a,[]⟩
theorem Ig {a:Tm} (c:a.right=true) (b:10957<=a.start/\a.start<=11400):h6 a [] a.start=EB a :=
 OP c b (fun _ h=>by cases h) Is (fun _ h=>by cases h) rfl
theorem TC {a:Tm} (b:a.right=true) (c:10957<=a.start/\a.start<=11400):t0 (v2 a) where
 goods:=⟨b,fun _ h=>(by cases h),fun _ h=>(by cases h),by simp[v2]⟩
 asc:=fun _ _ _ h=>by simp[v2]at h
 run:=Ig b c
 e:=rfl
 issl:=rfl
 issb:=fun _ h=>by simp[v2]at h
 outl:=by simp[v2,EB]
 outb:=fun _ h=>by simp[v2,EB]at h
 bs:=by simp[v2,EB]
 rs:=by simp[v2,EB]
 seq:=Int.le_refl _
 bkd:=fun _ h=>by simp[v2]at h
 bkl:=by simp[v2]
def B6:Tm:=⟨1000,[(5,false)],1,1,0,0,10957⟩
theorem Kh:B6.right=true:=by decide
theorem Xr:(A3 (v2 B6) ⟨1,0,1,5,0⟩).2=0:=by
 have a:CJ (v2 B6) (v2 B6).bk ⟨1,0,1,5,0⟩=0:=by unfold CJ;rw[if_neg Iv,if_neg Iv,if_pos rfl,if_neg];show ¬(1000:Int)<wrap64 (wrap64 (AY [0] 0 0-0)+5);rw[show AY [0] 0 0=0 from by decide];unfold wrap64;omega
 have d:r3 (v2 B6) (v2 B6).bk ⟨1,0,1,5,0⟩=⟨1,10957,1,5,0⟩:=by unfold r3;rw[if_neg (by rw[a];simp),if_pos rfl];rfl
 have e:l0 (v2 B6) ⟨1,0,1,5,0⟩=(⟨1,10957,1,5,0⟩,0,us (v2 B6) (v2 B6).bk ⟨1,0,1,5,0⟩):=by unfold l0;rw[if_neg Iv,a,d]
 have f:h6 B6 [⟨1,10957,1,5,0⟩] 10957=⟨⟨[5],0,0⟩,[5],[],0⟩:=by
  refine(OP (t:=B6) (l:=[⟨1,10957,1,5,0⟩]) Kh Iv ?_ Iv ?_ Iv).trans kr;·intro c h;simp only[ms]at h;subst h;decide
  ·intro c h;simp only[ms]at h;subst h;decide
 have b:s1 (v2 B6) ⟨1,10957,1,5,0⟩=[⟨1,10957,1,5,0⟩]:=rfl;have i:(xc (v2 B6) ⟨1,10957,1,5,0⟩).2=0:=by unfold xc;rw[if_neg Iv,if_neg Iv,b];rw[show h6 (v2 B6).t [⟨1,10957,1,5,0⟩] (v2 B6).today=_ from f];rw[if_neg Iv,if_neg Iv]
 unfold A3;rw[if_neg Iv,if_neg Iv,if_neg Iv,if_neg Iv,if_neg Iv];unfold Bm;rw[e,if_neg Is,if_neg Iv,if_neg (by rw[i];simp)]
theorem Rd.withL {F L:List Nat} {c:World} {φ:World->Prop} (h:Rd F c φ) (ck:∀f fR,hC L f fR->φ f->φ fR):Rd (L++F) c φ:=fun fR a=>by
 let cg:World:={ fR with heap:=fR.heap.mapIdx fun k b=>if k∈L then (c.heap[k]?).getD b else b }
 have cF:∀k,cg.heap[k]?=(fR.heap[k]?).map fun b=>if k∈L then (c.heap[k]?).getD b else b:=fun k=>by show(Array.mapIdx _ _)[k]?=_;rw[Array.getElem?_mapIdx]
 have bK:hC F c cg:=⟨a.os,a.tape,a.output,by show _<=(Array.mapIdx _ _).size;simpa using a.size,fun k d eB=>by
  rw[cF];by_cases e:k∈L;·rw[Array.getElem?_eq_getElem (Nat.lt_of_lt_of_le d a.size),Array.getElem?_eq_getElem d];simp[e]
  ·rw[a.block k d (by simp[e,eB])]
   simp[e]⟩
 exact Kq
theorem Tp {A:i0} {V:AV} {dI:Nat} {L:List Nat} (aA:GO dI V) (e7:∀x∈L,x<dI) (a d) (k:hC L a d) (q:EG A V a):EG A V d:=by
 refine HM ?_;clear aA;unhygienic intros
 exact⟨q.1.keep k (dT _ gG),q.2.1.keep k (iK _ gH) (dT _ gI) (dT _ gJ),⟨Nat.zero_le _,q.2.2.1.2.1.keep k (iK _ uS),p1 q.2.2.1.2.2 k (fun f e=>iK _ (uT f e))⟩,q.2.2.2.1.keep k (dT _ uU),q.2.2.2.2.1.keep k (dT _ uV),⟨q.2.2.2.2.2.1.1.keep k (fun ak aQ=>dT ak (uX ak aQ)),Fl.keep q.2.2.2.2.2.1.2 k (dT _ uW)⟩,q.2.2.2.2.2.2.keep k (fun ak aQ=>dT ak (uY ak aQ))⟩
theorem i2.withL {lo lo' g i:Nat} {A:i0} {F L:List Nat} {w:World} {V:AV} (h:i2 lo g A F w V) (p:GO i V) (e:∀a∈L,lo'<=a/\a<i/\a<w.heap.size) (d:lo'<=lo):i2 lo' g A (L++F) w V:=by
 obtain⟨n,o,j,l,m⟩:=h.adj;refine⟨h.blk,List.mem_append_right _ h.gF,fun a f=>?_,h.rd.withL (Tp p (fun a f=>(e a f).2.1)),B1 h.iss d,fun q c=>List.mem_append_right _ (h.issF q c),⟨n,o,j,l,B1 m d⟩,fun q c=>List.mem_append_right _ (h.adjF q c)⟩;rcases ma.1 f with b | b;·exact⟨(e a b).1,(e a b).2.2⟩
 ·exact⟨nt d (h.lt a b).1,(h.lt a b).2⟩
theorem i2.step {lo g:Nat} {A:i0} {F d L:List Nat} {w w':World} {V:AV} (h:i2 lo g A F w V) (b:hC L w w') (r:∀a∈L,a∈F\/w.heap.size<=a) (j:∀a∈d,a∈F\/(w.heap.size<=a/\a<w'.heap.size)) (f:∀a∈F,a∈d)
 (m:g∉L) (s:∀q,V.iv.ownBlock=some q->q∉L) (u:∀q,V.av.ownBlock=some q->q∉L):i2 lo g A d w' V:=by
 obtain⟨n,p,l,t,o⟩:=h.adj;have v:=h.lt g h.gF;refine⟨h.blk.keep b m,f _ h.gF,fun a i=>?_,h.rd.step b r (fun a i=>(j a i).imp_right And.left),p1 h.iss b s,fun q e=>f _ (h.issF q e),⟨n,p,l,t,p1 o b u⟩,fun q e=>f _ (h.adjF q e)⟩;rcases j a i with c | c;·exact⟨(h.lt a c).1,Nat.lt_of_lt_of_le (h.lt a c).2 b.size⟩
 ·exact⟨by omega,c.2⟩
structure l1 (lo gsx gj ga gp g n N k:Nat) (lv:Value) (st:Nat->Int) (A:i0) (F:List Nat) (w:World) (V:AV):Prop where
 s:hA w gsx 119 [pV gp,pV gj,pV g]
 j:wz lo gj gp lv k N w
 k:k<=N
 p:k5 lo gp ga n st w
 z:∀i,N<=i->st i=0
 a:i2 lo g A F w V
 sF:∀x∈gsx::gj::ga::gp::hv lv,x∈F
def GU (lo gsx:Nat) (A:i0) (n N:Nat) (F:List Nat) (w:World):Prop:=∃gj ga gp g k lv st V,l1 lo gsx gj ga gp g n N k lv st A F w V
section
variable {lo gsx gj ga gp g n N k:Nat} {lv:Value} {st:Nat->Int} {A A':i0} {F:List Nat} {w w':World} {V:AV}
theorem l1.B (h:l1 lo gsx gj ga gp g n N k lv st A F w V) (a:BW w w'):l1 lo gsx gj ga gp g n N k lv st A F w' V :=
 ⟨h.s.B a,h.j.B a,h.k,h.p.B a,h.z,h.a.B a,h.sF⟩
theorem GU.low (h:GU lo gsx A n N F w):∀a∈F,lo<=a/\a<w.heap.size:=by obtain⟨gj,ga,gp,g,k,lv,st,V,h⟩:=h;exact h.a.lt
theorem l1.kinds (h:l1 lo gsx gj ga gp g n N k lv st A F w V):∀c∈gsx::gj::ga::gp::hv lv,∃b d,hA w c b d/\b≠89/\b≠43/\b≠175/\b≠45:=by
 obtain⟨o,_,e,i,_⟩:=h.p;obtain⟨_,f,d,j,_⟩:=h.j;intro c a;rcases mc.1 a with rfl | a;·exact⟨_,_,h.s,by decide,by decide,by decide,by decide⟩
 rcases mc.1 a with rfl | a;·exact⟨_,_,f,by decide,by decide,by decide,by decide⟩
 rcases mc.1 a with rfl | a;·exact⟨_,_,i,by decide,by decide,by decide,by decide⟩
 rcases mc.1 a with rfl | a;·exact⟨_,_,e,by decide,by decide,by decide,by decide⟩
 ·obtain⟨m,l⟩:=Gm j (Dv a);exact⟨_,_,l,by decide,by decide,by decide,by decide⟩
theorem hC.less {F L:List Nat} {w w':World} (h:hC F w w') (e:∀a∈L,a<w.heap.size->w'.heap[a]?=w.heap[a]?):hC (F.filter (fun a=>decide (a∉L))) w w' :=
 ⟨h.os,h.tape,h.output,h.size,fun k b f=>by
  by_cases c:k∈L;·exact e k c b
  ·exact h.block k b (fun d=>f (by simp[d,c]))⟩
theorem q0.same {b:Nat} {a:TypeId} {c:List Value} (j:q0 w w') (d:hA w b a c) (f:a≠89) (e:a≠43) (i:a≠175):w'.heap[b]?=w.heap[b]?:=Eq.trans (j b a c d f e i) (Eq.symm d)
theorem l1.acc (h:l1 lo gsx gj ga gp g n N k lv st A F w V) {e:List Nat} (m:hC e w w') (o:q0 w w') :
 hA w' gsx 119 [pV gp,pV gj,pV g]/\wz lo gj gp lv k N w'/\k5 lo gp ga n st w':=by
 have c:=m.less (L:=gsx::gj::ga::gp::hv lv) (fun a d _=>by
  obtain⟨t,s,p,j,r,l,_⟩:=h.kinds a d
  exact o.same p j r l)
 have b:∀a∈gsx::gj::ga::gp::hv lv,a∉e.filter (fun a=>decide (a∉gsx::gj::ga::gp::hv lv)):=fun a d f=>by have:=(List.mem_filter.1 f).2;simp only[decide_eq_true_eq]at this;exact this d
 exact⟨h.s.keep c (b _ Is),h.j.off c (b _ Is) (fun q i=>b _ (by simp[FM i])),h.p.keep c (b _ Is) (b _ Is)⟩
end
def KT (lo gp ga n:Nat) (b:Tm) (w:World) (a:Ending) (w':World):Prop :=
 ∃gsx N F,a=.returned (.tuple #[pV gsx,iZ])/\GU lo gsx (v2 b) n N F w'/\N<=4/\hC [ga,gp] w w'
theorem wz.lower {lo a gj gp k c:Nat} {lv:Value} {w:World} (h:wz lo gj gp lv k c w) (b:a<=lo):wz a gj gp lv k c w:=by obtain⟨j,e,f,i,d⟩:=h;exact⟨nt b j,e,f,B1 i b,d⟩
theorem Zk {lo gp ga n gsx gj g N:Nat} {r:Tm} {lv:Value} {st:Nat->Int} {w c d i:World} {F:List Nat} {V:AV}
 (x:hA d gsx 119 [pV gp,pV gj,pV g]) (p:wz w.heap.size gj gp lv 1 N i) (t:1<=N/\N<=4) (o:k5 lo gp ga n st i) (C:∀s,N<=s->st s=0)
 (f:i2 c.heap.size g (v2 r) F d V) (E:GO c.heap.size V) (z:∀b∈F,c.heap.size<=b) (O:ga<w.heap.size/\gp<w.heap.size) (K:w.heap.size<=gsx/\gsx<gj/\gj<c.heap.size) (G:hC [ga,gp] w d) (l:hC [gj,ga,gp] d i)
 (J:lo<=w.heap.size) (M:c.heap.size<=d.heap.size) (u:∀b∈hv lv,d.heap.size<=b) :
 KT lo gp ga n r w (.returned (.tuple #[pV gsx,iZ])) i:=by
 have P:lo<=gp/\lo<=ga:=o.choose_spec.1;have y:=p.2.2.choose_spec.1;have B:∀b,b∈[gj,ga,gp]->b<c.heap.size:=fun b a=>by simp only[mc,nn,or_false]at a;omega
 have j:∀b∈F,b∉[gj,ga,gp]:=fun b a H=>by have e:=z b a;have Q:=B b H;omega
 have D:=f.withL (L:=[gsx,gj,ga,gp]) (lo':=lo) E (fun b a=>by
  simp only[mc,nn,or_false]at a
  omega) om
 have v:∀b,b∈[gj,ga,gp]->b∈[gsx,gj,ga,gp]++F:=fun b a=>List.mem_append_left _ (mo _ a);refine⟨gsx,N,hv lv++([gsx,gj,ga,gp]++F),rfl,⟨gj,ga,gp,g,1,lv,st,V,x.keep l Pf,p.lower J,t.1,o,C,D.step l (fun b a=>.inl ?_) (fun b a=>?_) (fun b a=>List.mem_append_right _ a) (j g f.gF) (fun q m=>j q (f.issF q m)) (fun q m=>j q (f.adjF q m)),fun b a=>?_⟩,t.2,G.trans l (fun b a=>by
  simp only[mc,nn,or_false]at a ⊢
  omega)⟩
 ·exact v b a
 ·rcases ma.1 a with e | e;·exact .inr ⟨u b e,(y.lt _ (Dv e)).2⟩
  ·exact .inl e
 ·rcases mc.1 a with I | a;·exact List.mem_append_right _ (List.mem_append_left _ QV)
  rcases mc.1 a with I | a;·exact List.mem_append_right _ (List.mem_append_left _ QV)
  rcases mc.1 a with I | a;·exact List.mem_append_right _ (List.mem_append_left _ QV)
  rcases mc.1 a with I | a;·exact List.mem_append_right _ (List.mem_append_left _ QV)
  ·exact List.mem_append_left _ a
theorem YP (lo gp ga n:Nat) (O:Tm) (P) (J:O.right=true) (a1:10957<=O.start/\O.start<=11400) (aH:10<=n/\n<=20000) (w:World) (ag:k5 lo gp ga n (fun _=>0) w) (aa:h7 w P O.ts) (a9:hL [ga,gp] P) (an:lo<=w.heap.size) :
 Calls prog 32 #[pV gp,.agg (O.cells P).toArray] w (KT lo gp ga n O w):=by
 have bf:=lh ag;have ak:=lh aa;have aQ:=lh a9;have aY:=lh an;have ae:=lh (An J a1);have bd:=lh aH;have cT:Hd (ga<w.heap.size/\gp<w.heap.size):=by obtain⟨b2,_,bq,b1,_⟩:=ag;exact⟨b1.lt,bq.lt⟩
 obtain⟨d,al,mH⟩:∃d,EW O.lim O.ts O.cyc O.dued O.minf O.minp O.start=(d,0)/\Hd (1<=d.length/\d.length<=128):=by
  have I:=CT J;refine⟨FK O.lim O.ts O.cyc O.dued O.minf O.minp O.start,?_,?_⟩;·unfold EW;exact if_pos J
  ·have Z:=JC O.lim O.ts O.cyc O.dued O.minf O.minp O.start (nr O.ts.length);have am:BC O.lim O.ts O.cyc O.dued O.minf O.minp O.start O.ts.length=FK O.lim O.ts O.cyc O.dued O.minf O.minp O.start:=by
    unfold BC FK;rw[List.take_length]
   rw[am]at Z;show _/\_;omega
 obtain⟨bH,bC,rfl⟩:=aa.shape;clear ag aa a9 J a1 aH an;unfold Tm.cells;refine G3 ?_;unhygienic intros
 go_enter func32,ntmps32;go_upto_region 1 with fail;try with_reducible rw[eH]
 clear eH;refine Fu (fun _ _ _=>False) ?first ?pass
 case pass=>exact fun _ _ _ h=>h.elim
 obtain⟨ad,S,Q,T,ac,ai,Y,-⟩:=lN.cS [0,1,2,3,4,5,6];go_wp2_with fail;have ah:=Uc _ O.ts O.lim O.cyc O.dued O.minf O.minp O.start _ (ak.B jJ.o);rw[al]at ah;refine ah.mono ?_;clear ah al ad S Q T ac ai Y;rintro _ b ⟨u,rfl,C,a6,X⟩;replace C:Sl .u8 b u d:=C;obtain⟨H,E,rfl⟩:=C.shape;have bv:=lh C;have ay:Hd (hL [ga,gp] (.slice H d.length E)):=fun i m l r t v a=>by have I:=a6 i m l r t v;have Z:=cT.o;have am:=jJ.size;simp only[mc,nn,or_false]at a;omega
 have ax:Hd (∀i m l r,Value.slice H d.length E=sL i m l r->0<l->i<b.heap.size):=fun i m l r t v=>Sl.blt (t▸C) v;have ao:=lh (lN.B X);have M:Hd (BW w b):=hJ jJ.o X;clear C a6 X;go_wp2_with fail;obtain⟨z,aC,a3,G⟩:∃W,b.alloc (.cells #[pV gp,.pointer none,.pointer none] 119)=W/\Hd (hA W b.heap.size 119 [pV gp,.pointer none,.pointer none])/\Hd (BW b W):=⟨_,rfl,hR b _ _ _ rfl,hB bR _⟩;try with_reducible rw[aC]
 clear aC;refine(Zf Pz ((bf.B M.o).B G.o)).mono ?_;rintro _ j ⟨gj,rfl,K,ar,y⟩;have ce:Hd (w.heap.size<=b.heap.size/\b.heap.size<z.heap.size/\z.heap.size<=j.heap.size/\z.heap.size<=gj/\gj<j.heap.size):=⟨M.size,a3.lt,y.size,K.1,K.2.1.lt⟩;have a2:b.heap.size∉[ga,gp]:=by have I:=cT.o;have Z:=ce.o;simp only[mc,nn,or_false];omega
 have bh:=lh K;have aS:=lh ar;have aj:=lh (a3.keep y a2);have aO:Hd (hA j w.heap.size 24 [iV O.lim,.slice bH O.ts.length bC,iV O.cyc,iV O.dued,iV O.minf,iV O.minp,iV O.start]):=(ao.B G.o).keep y (by
  have I:=cT.o;simp only[mc,nn,or_false]
  omega)
 have bz:Hd (Sl .u8 j (.slice H d.length E) d):=(bv.B G.o).keep y ay.o;have bi:Hd (h7 j (.slice bH O.ts.length bC) O.ts):=((ak.B M.o).B G.o).keep y aQ.o;have aM:Hd (hC [ga,gp] w j):=(hC.of_below (hJ M.o G.o):hC [ga,gp] w z).trans y (fun c a=>.inl a);clear K ar y a2;have D:=aj.cell 1;simp only[gz,gs]at D;have bo:=aj.frozen 1;go_upto_region 7 with fail;obtain⟨e,a7,aR,s⟩:∃W,j.setCell (Ad b.heap.size 1) (pV gj)=W/\Hd (hA W b.heap.size 119 [pV gp,pV gj,.pointer none])/\hC [b.heap.size] j W:=⟨_,rfl,aj.set 1 _,(hC.refl _ _).sg _⟩;try with_reducible rw[a7]
 clear a7 D bo;have f:∀c,c≠b.heap.size->c∉[b.heap.size]:=fun c a=>by simpa using a
 have b0:Hd (wz z.heap.size gj gp (sZ) 0 0 e):=bh.off s (f _ (oo ce.o)) (fun q af=>by cases af);have bp:Hd (k5 lo gp ga n (fun _=>0) e):=aS.keep s (f _ DE) (f _ DE);have bw:Hd (hA e w.heap.size 24 [iV O.lim,.slice bH O.ts.length bC,iV O.cyc,iV O.dued,iV O.minf,iV O.minp,iV O.start]):=aO.keep s (f _ (o2 lN.lt ao.lt));have bs:Hd (Sl .u8 e (.slice H d.length E) d):=bz.keep s (fun i m l r t v a=>by
  have I:=ax.o i m l r t v;simp only[ms]at a
  omega)
 have aT:Hd (h7 e (.slice bH O.ts.length bC) O.ts):=bi.keep s (Fl.offNew ak.fl Iv (fun c a=>by
  simp only[ms]at a;have:=ce.o
  omega))
 have br:Hd (hC [ga,gp] w e):=aM.trans s (fun c a=>by
  simp only[ms]at a;have:=ce.o
  exact .inr om)
 have aF:Hd (j.heap.size<=e.heap.size):=s.size;clear s f;obtain⟨ad,S,Q,T,ac,ai,Y,-⟩:=bw.cS [0,1,2,3,4,5,6];go_wp2_with fail;refine(SN O (.slice bH O.ts.length bC) ae.1 (EB O) (Ig ae.1 ae.2) rfl _ aT.o).mono ?_;clear ad S Q T ac ai Y;rintro _ L ⟨g,F,V,rfl,ab,a8,x⟩;have bu:=lh ab;have a4:=lh a8;have R:=lh (aR.B x);have bc:=lh (b0.B x);have bj:=lh (bp.B x);have aL:=lh (bs.B x);have au:Hd (∀c∈F,e.heap.size<=c):=fun c a=>(ab.lt c a).1;have be:Hd (hC [ga,gp] w L):=br.B x;have bx:Hd (e.heap.size<=L.heap.size):=x.size;clear ab a8 x;have aE:=R.cell 2;simp only[gz,gs]at aE;have bb:=R.frozen 2;go_upto_region 9 with fail;obtain⟨B,a0,aI,bl⟩:∃W,L.setCell (Ad b.heap.size 2) (pV g)=W/\Hd (hA W b.heap.size 119 [pV gp,pV gj,pV g])/\hC [b.heap.size] L W:=⟨_,rfl,R.set 2 _,(hC.refl _ _).sg _⟩;try with_reducible rw[a0]
 clear a0 aE bb;have f:∀c,c≠b.heap.size->c∉[b.heap.size]:=fun c a=>by simpa using a
 have aw:Hd (wz z.heap.size gj gp (sZ) 0 0 B):=bc.off bl (f _ (oo ce.o)) (fun q af=>by cases af);have aP:Hd (k5 lo gp ga n (fun _=>0) B):=bj.keep bl (f _ DE) (f _ DE);have aJ:Hd (Sl .u8 B (.slice H d.length E) d):=aL.keep bl (fun i m l r t v a=>by
  have I:=ax.o i m l r t v;simp only[ms]at a
  omega)
 have aU:Hd (i2 e.heap.size g (v2 O) F B V):=bu.off a4.o au.o (fun c a=>by
  simp only[ms]at a;have:=ce.o;have:=aF.o
  omega) bl
 have bm:Hd (e.heap.size<=B.heap.size):=nt bx.o bl.size;have aW:Hd (hC [ga,gp] w B):=be.trans bl (fun c a=>by
  simp only[ms]at a;have:=ce.o
  exact .inr om)
 clear bl f;have D:=aI.cell 1;go_wp2_with fail;refine(Yw aw.o).mono ?_;rintro _ aA ⟨rfl,o⟩;have aG:=lh (aI.B o);have aN:=lh (aw.B o);have aV:=lh (aP.B o);have bt:=lh (aJ.B o);have aX:=lh (aU.B o);have aK:Hd (e.heap.size<=aA.heap.size):=nt bm.o o.size;have bg:Hd (hC [ga,gp] w aA):=aW.B o;clear D o;have D:=aG.cell 1;go_wp2_with fail;refine(Nf (N:=(d.length+40)/41) _ d Pz aN.o aV.o (fun _ _=>rfl) bt.o ay.o DX rfl (o2 mH.o bd.o) Iv).mono ?_;rintro _ aZ ⟨rfl,lv,st,az,aB,av,aD,a5⟩;have a':Hd (KT lo gp ga n O w (.returned (.tuple #[pV b.heap.size,iZ])) aZ):=Zk aG.o (az.lower (oo ce.o)) DX aB av aX.o a4.o au.o cT.o (o2 ce.o aF.o) bg.o aD aY.o aK.o (fun c a=>(a5 c a).resolve_left (fun h=>by cases h));clear D az aB av aD a5;go_wp2_with fail;go_ret2;exact a'.o
theorem S9 {ga gp gsx gj b c:Nat} {lv:Value} (h:ga<b/\gp<b/\gsx<b/\gj<b/\∀q,lv.ownBlock=some q->q<b) (a:c∈gj::ga::gp::hv lv):c<b:=by
 rcases mc.1 a with d | a;·omega
 rcases mc.1 a with d | a;·omega
 rcases mc.1 a with d | a;·omega
 ·unfold hv at a;split at a;·rename_i e f;simp only[ms]at a;exact a▸h.2.2.2.2 e f
  ·cases a
theorem VV {a ga gp i n:Nat} {l:TypeId} {b:Value} {f:List Value} {j:World} (h:j.ownsRow a l i b n f) (r:ga<a/\gp<a):hL [ga,gp] b:=fun e p k o d _ c=>by have m:=(h.lt e (by rw[d];rfl)).1;simp only[mc,nn,or_false]at c;omega
theorem ZW {ga gp gsx gj a g:Nat} {lv:Value} {e c:World} {b:R5} (h:ga<a/\gp<a/\gsx<a/\gj<a/\∀q,lv.ownBlock=some q->q<a) (l:hA e gsx 119 [pV gp,pV gj,pV g]) (o:hA e a 48 [iV b.a,iV b.b,iV b.c,iV b.d,iV b.e]) (m:gsx∉gj::ga::gp::hv lv) (f:hC (gj::ga::gp::hv lv) e c) :
 c.cell? (Ad gsx 1)=some (pV gj)/\c.cell? (Ad a 0)=some (iV b.a)/\c.cell? (Ad a 1)=some (iV b.b)/\c.cell? (Ad a 2)=some (iV b.c)/\c.cell? (Ad a 3)=some (iV b.d)/\c.cell? (Ad a 4)=some (iV b.e):=by
 have j:=l.keep f m;have d:=o.keep f (fun i=>Nat.lt_irrefl _ (S9 h i));exact⟨j.cell 1,d.cell 0,d.cell 1,d.cell 2,d.cell 3,d.cell 4⟩
section
variable {lo gsx gj ga gp g n N k:Nat} {lv:Value} {st:Nat->Int} {A A':i0} {F:List Nat} {w w':World} {V:AV}
theorem l1.more (h:l1 lo gsx gj ga gp g n N k lv st A F w V) (i:BW w w') {f:List Nat} (e:∀b∈f,w.heap.size<=b/\b<w'.heap.size):l1 lo gsx gj ga gp g n N k lv st A (f++F) w' V:=by
 have c:=h.B i;refine⟨c.s,c.j,c.k,c.p,c.z,h.a.step (L:=[]) (hC.of_below i) (fun b e=>by cases e) (fun b a=>?_) (fun b a=>List.mem_append_right _ a) (fun a=>by cases a) (fun _ _ a=>by cases a) (fun _ _ a=>by cases a),fun b a=>List.mem_append_right _ (h.sF b a)⟩;rcases ma.1 a with d | d;·exact .inr (e b d)
 ·exact .inl d
theorem l1.putL (h:l1 lo gsx gj ga gp g n N k lv st A F w V) {m o:List Nat} (l:hC m w w') (f:∀p∈m,p∈F/\∃e,hA w p 45 e) (v:∀a∈o,a∈F\/(w.heap.size<=a/\a<w'.heap.size)) (r:∀a∈F,a∈o):l1 lo gsx gj ga gp g n N k lv st A o w' V:=by
 have j:∀a∈gsx::gj::ga::gp::hv lv,a∉m:=fun a i b=>by obtain⟨B,y,t,_,_,_,u⟩:=h.kinds a i;obtain⟨e,c⟩:=(f a b).2;exact n3 t c u rfl
 obtain⟨x,z,_,_,s⟩:=h.a.adj;refine⟨h.s.keep l (j _ Is),h.j.off l (j _ Is) (fun q d=>j _ (by simp[FM d])),h.k,h.p.keep l (j _ Is) (j _ Is),h.z,h.a.step l (fun a i=>.inl (f a i).1) v r (fun b=>?_) (fun q d b=>?_) (fun q d b=>?_),fun a i=>r a (h.sF a i)⟩;·obtain⟨e,c⟩:=(f _ b).2;exact n3 h.a.blk c Iv rfl
 ·obtain⟨e,c⟩:=(f _ b).2;exact hh h.a.iss c Iv d.symm
 ·obtain⟨e,c⟩:=(f _ b).2;exact hh s c Iv d.symm
theorem l1.put (h:l1 lo gsx gj ga gp g n N k lv st A F w V) {b:Nat} {d:List Value} (c:hC [b] w w') (f:b∈F) (e:hA w b 45 d):l1 lo gsx gj ga gp g n N k lv st A F w' V :=
 h.putL c (fun i a=>by simp only[ms]at a;subst a;exact⟨f,_,e⟩) (fun _ a=>.inl a) (fun _ a=>a)
theorem l1.did (h:l1 lo gsx gj ga gp g n N k lv st A F w V) {b:List Nat} {c:AV} (i:i2 lo g A' b w' c) (d:hT F w b w') (m:∀a∈F,a∈b) (e:q0 w w'):l1 lo gsx gj ga gp g n N k lv st A' b w' c:=by obtain⟨l,f,j⟩:=h.acc d.keep e;exact⟨l,f,h.k,j,h.z,i,fun a o=>m a (h.sF a o)⟩
theorem l1.low (h:l1 lo gsx gj ga gp g n N k lv st A F w V):∀a∈gsx::gj::ga::gp::hv lv,lo<=a/\a<w.heap.size:=fun a b=>h.a.lt a (h.sF a b)
theorem l1.next (h:l1 lo gsx gj ga gp g n N k lv st A F w V) {C:Nat} {B:List Nat} {K:AV} {j m u:World} {o:Value} {D:Nat->Int} (af:i2 lo C A' B w K) (i:∀a∈gsx::gj::ga::gp::hv lv,a∈B) (e:BW w j) (G:hC (gj::ga::gp::hv lv) j m)
 (E:wz lo gj gp o (k+1) (N+1) m) (J:k5 lo gp ga n D m) (ac:∀L,N+1<=L->D L=0) (Y:∀a∈hv o,a∈hv lv\/j.heap.size<=a) (t:hC [gsx] m u) (R:hA u gsx 119 [pV gp,pV gj,pV C]) :
 l1 lo gsx gj ga gp C n (N+1) (k+1) o D A' (hv o++B) u K:=by
 have r:=af.B e;have d:=h.B e;have T:hC (gsx::gj::ga::gp::hv lv) j u:=(G.mono (fun a b=>mo _ b)).trans t (fun a b=>.inl (by simp only[ms]at b;exact b▸me ..));have H:=E.2.2.choose_spec.1;have y:∀{x:TypeId} {a:Nat} {S:List Value},hA j a x S->(x=89\/x=43\/x=175)->a∉gsx::gj::ga::gp::hv lv:=fun b P c=>by
  obtain⟨I,ai,f,ad,X,ae,_⟩:=d.kinds _ c;refine n3 b f (fun M=>?_) rfl;subst M;rcases P with p | p | p;·exact ad p
  ·exact X p
  ·exact ae p
 have s:∀a∈gj::ga::gp::hv o,a∉[gsx]:=fun a b c=>by
  simp only[ms]at c;subst c;obtain⟨Z,aj,aa,O,_⟩:=J;have v:hA m a 119 _:=d.s.keep G (fun c=>by
   obtain⟨ak,_,W,ag,_⟩:=d.p;rcases mc.1 c with I | c;·exact n3 d.s d.j.2.1 Iv I
   rcases mc.1 c with I | c;·exact n3 d.s ag Iv I
   rcases mc.1 c with I | c;·exact n3 d.s W Iv I
   ·exact hh d.j.2.2.choose_spec.1 d.s Iv (Dv c).symm)
  rcases mc.1 b with I | c;·exact n3 v E.2.1 Iv I
  rcases mc.1 c with I | c;·exact n3 v O Iv I
  rcases mc.1 c with I | c;·exact n3 v aa Iv I
  ·exact hh H v Iv (Dv c).symm
 obtain⟨ah,Z,_,_,Q⟩:=r.adj;refine⟨R,E.off t (s _ Is) (fun q l=>s _ (by simp[FM l])),Nat.succ_le_succ h.k,J.keep t (s _ Is) (s _ Is),ac,r.step T (fun a b=>.inl (i a b)) (fun a b=>?_) (fun a b=>List.mem_append_right _ b) (y r.blk (.inl rfl)) (fun q l=>?_) (fun q l=>?_),fun a b=>?_⟩
 ·rcases ma.1 b with f | f
  ·rcases Y a f with z | z;·exact .inl (i a (by simp[z]))
   ·exact .inr ⟨z,Nat.lt_of_lt_of_le (H.lt _ (Dv f)).2 t.size⟩
  ·exact .inl f
 ·obtain⟨ab,e⟩:=Gm r.iss l;exact y e (.inr (.inl rfl))
 ·obtain⟨ab,e⟩:=Gm Q l;exact y e (.inr (.inr rfl))
 ·rcases mc.1 b with I | b;·exact List.mem_append_right _ (i a QV)
  rcases mc.1 b with I | b;·exact List.mem_append_right _ (i a QV)
  rcases mc.1 b with I | b;·exact List.mem_append_right _ (i a QV)
  rcases mc.1 b with I | b;·exact List.mem_append_right _ (i a QV)
  ·exact List.mem_append_left _ b
theorem i2.add {f:Nat} {e:List Nat} (h:i2 f g A F w V) (m:Rd (e++F) w (EG A V)) (d:lo<=f) (p:∀a∈e,lo<=a/\a<w.heap.size):i2 lo g A (e++F) w V:=by
 obtain⟨n,o,i,j,l⟩:=h.adj;refine⟨h.blk,List.mem_append_right _ h.gF,fun a r=>?_,m,B1 h.iss d,fun q c=>List.mem_append_right _ (h.issF q c),⟨n,o,i,j,B1 l d⟩,fun q c=>List.mem_append_right _ (h.adjF q c)⟩;rcases ma.1 r with b | b;·exact p a b
 ·exact⟨nt d (h.lt a b).1,(h.lt a b).2⟩
theorem Wt {L m p:List Nat} {f d j:World} (r:∀a∈L,∃c o,hA d a c o/\c≠89/\c≠43/\c≠175) (l:BW f d) (v:hT (L++m) d p j) (t:q0 d j) (s:∀a∈m,f.heap.size<=a):BW f j :=
 l.trans ((v.keep.less (L:=L) (fun a i _=>by
  obtain⟨c,o,b,x,u,y⟩:=r a i
  exact t.same b x u y)).to_below l.size (fun a i=>by
  have b:=List.mem_filter.1 i;simp only[decide_eq_true_eq]at b;rcases ma.1 b.1 with e | e;·exact absurd e b.2
  ·exact s a e))
end
theorem YI {A:i0} {a:Int} (h:(Bu A a).2≠0):(Bu A a).1=A:=by
 unfold Bu at h ⊢;split;·rfl
 rename_i b;rw[if_neg b]at h;split;·rfl
 exact Sg
theorem ZH {A:i0} {a:R5} (h:(Bm A a).2≠0):(Bm A a).1=A:=by
 unfold Bm at h ⊢;split;·rfl
 rename_i b;rw[if_neg b]at h;split;·rename_i ag;rw[if_pos ag]at h;exact absurd rfl h
 exact Sg
theorem Z4 {A A':i0} {c:R5} {d:Int} (h:A3 A c=(A',d)) (j:d≠0):A'=A:=by
 have f:A'=(A3 A c).1:=by rw[h]
 have a:(A3 A c).2≠0:=by rw[h];exact j
 rw[f];unfold A3 at a ⊢;split;·rename_i b;rw[if_pos b]at a;exact YI a
 rename_i b;rw[if_neg b]at a;split;·rfl
 rename_i e;rw[if_neg e]at a;split;·rfl
 rename_i i;rw[if_neg i]at a;split;·rfl
 rename_i m;rw[if_neg m]at a;split;·rfl
 ·rename_i l;rw[if_neg l]at a;exact ZH a
def Xh (lo gsx:Nat) (A:i0) (n N:Nat) (F i:List Nat) (j:Int) (w:World) (l:Ending) (w':World):Prop:=∃e b a,l=.returned e/\Cc j e/\GU lo gsx A n b a w'/\b<=N+1/\hT F w a w'/\(∀f∈i,f∈a)/\∀c d,hA w c 45 d->hA w' c 45 d
theorem W1 {lo gsx n N:Nat} {A A':i0} {bt:Int} {w:World} (b:R5) (bc:t0 A) (a4:A.seq<=1000) (aF:Hd (A3 A b=(A',bt))) (ag:n<=20000) (b7:N+1<=n) (a':N<=999) (F:List Nat) (bN:GU lo gsx A n N F w) (X:List Nat) (aV:∀a∈X,a∈F/\∃e,hA w a 45 e) :
 Calls prog 33 #[pV gsx,.agg #[iV b.a,iV b.b,iV b.c,iV b.d,iV b.e]] w (Xh lo gsx A' n N F X bt w):=by
 obtain⟨gj,ga,gp,g,k,lv,st,V,h⟩:=bN;have aj:=lh h;have aH:=lh bc;have a9:=lh a4;have cc:=lh aV;have bd:=lh (An ag (An b7 a'));have bg:Hd (lo<=w.heap.size):=by have:=h.a.lt _ h.a.gF;show _<=_;omega
 have aa:Hd (ga<w.heap.size/\gp<w.heap.size/\gsx<w.heap.size/\gj<w.heap.size/\∀q,lv.ownBlock=some q->q<w.heap.size):=⟨(h.low _ Is).2,(h.low _ Is).2,(h.low _ Is).2,(h.low _ Is).2,fun q a4=>(h.low _ (by simp[FM a4])).2⟩;have bp:Hd (gsx∉gj::ga::gp::hv lv):=by
  obtain⟨co,_,ci,bU,_⟩:=h.p;obtain⟨_,bS,e,b9,_⟩:=h.j;intro r;rcases mc.1 r with x | r;·exact n3 h.s bS Iv x
  rcases mc.1 r with x | r;·exact n3 h.s bU Iv x
  rcases mc.1 r with x | r;·exact n3 h.s ci Iv x
  ·exact hh b9 h.s Iv (Dv r).symm
 clear h bc a4 ag b7 a' aV;obtain⟨bz,bj,aQ,aZ,b5,aB⟩:∃ab,(((w.alloc (.cells #[iV b.a,iV b.b,iV b.c,iV b.d,iV b.e] 48)).alloc (.cells zA.toArray 45)).alloc (.cells zA.toArray 45))=ab/\Hd (hA ab w.heap.size 48 [iV b.a,iV b.b,iV b.c,iV b.d,iV b.e])/\Hd (hA ab (w.heap.size+1) 45 zA)/\Hd (hA ab (w.heap.size+1+1) 45 zA)/\Hd (BW w ab) :=
  ⟨_,rfl,((hR w _ _ _ rfl).B (hB bR _)).B (hB bR _),(w3 _ _ _ _ (wa _ _)).B (hB bR _),w3 _ _ _ _ (by simp only[wa]),hB (hB (hB bR _) _) _⟩
 have bb:Hd (l1 lo gsx gj ga gp g n N k lv st A ([w.heap.size+1,w.heap.size+1+1]++F) bz V):=aj.more aB.o (fun a c=>by
  have:=b5.lt;simp only[mc,nn,or_false]at c
  omega)
 go_enter func33,ntmps33;go_upto_region 1 with fail;refine Fu (fun _ _ _=>False) ?first ?pass
 case pass=>exact fun _ _ _ h=>h.elim
 go_upto_region 4 with fail;try with_reducible rw[bj]
 clear bj;obtain⟨a1,ar,W,aw,a0,-⟩:=aQ.cS [0,1,2,3,4];go_wp2_with fail;have J:=PV b bz;cases am:C2 b.a with
 | false =>
  rw[am]at J;refine J.mono ?_;clear J am a1 ar W aw a0;rintro _ v ⟨rfl,m⟩;have ae:Hd (BW w v):=hJ aB.o m;have B:=lh (bb.B m);have aA:=lh (aZ.B m);have C:=lh (aQ.B m);clear m;go_upto_region 6 with fail;have av:v.drew.cell? (Ad gsx 2)=some (pV g)/\v.drew.cell? (Ad w.heap.size 0)=some (iV b.a)/\v.drew.cell? (Ad w.heap.size 1)=some (iV b.b)/\v.drew.cell? (Ad w.heap.size 2)=some (iV b.c)/\v.drew.cell? (Ad w.heap.size 3)=some (iV b.d)/\v.drew.cell? (Ad w.heap.size 4)=some (iV b.e):=⟨(B.s.B (hG bR)).cell 2,(C.B (hG bR)).cell 0,(C.B (hG bR)).cell 1,(C.B (hG bR)).cell 2,(C.B (hG bR)).cell 3,(C.B (hG bR)).cell 4⟩;refine se (fun d=>Ce d gsx 2 (pV g)/\Ce d w.heap.size 0 (iV b.a)/\Ce d w.heap.size 1 (iV b.b)/\Ce d w.heap.size 2 (iV b.c)/\Ce d w.heap.size 3 (iV b.d)/\Ce d w.heap.size 4 (iV b.e)) 6 kr ?_;refine Ck ?_;show _;clear av;refine wo 5 kr rfl fun K af=>?_;go_simp;refine(KE lo g A aH.o (oo a9.o) _ V b A' bt aF _ (B.a.B (hG bR))).mono ?_;rintro _ f ⟨ak,rfl,a8,aL,cr,bx,az,a6,cs⟩;have bV:=lh ((B.B (hG bR)).did bx az a6 cs);have Y:Hd (hA f (w.heap.size+1) 45 zA):=cs _ _ _ (aA.B (hG bR)) Iv Iv Iv;have D:Hd (hT F w aL f):=⟨(hC.of_below (hG ae.o):hC F w v.drew).trans az.keep (fun a c=>by
   rcases ma.1 c with Z | Z;·exact Cf
   ·exact .inl Z),fun a c=>by
   rcases az.new a c with Z | Z
   ·rcases ma.1 Z with Z | Z;·exact Cf
    ·exact .inl Z
   ·have:=ae.size;simp only[wd]at Z
    exact .inr om⟩
  have y:hA f w.heap.size 48 [iV b.a,iV b.b,iV b.c,iV b.d,iV b.e]:=cs _ _ _ (C.B (hG bR)) Iv Iv Iv;have aT:f.cell? (Ad gsx 2)=some (pV g)/\f.cell? (Ad w.heap.size 0)=some (iV b.a)/\f.cell? (Ad w.heap.size 1)=some (iV b.b)/\f.cell? (Ad w.heap.size 2)=some (iV b.c)/\f.cell? (Ad w.heap.size 3)=some (iV b.d)/\f.cell? (Ad w.heap.size 4)=some (iV b.e):=⟨bV.s.cell 2,y.cell 0,y.cell 1,y.cell 2,y.cell 3,y.cell 4⟩;have bH:Hd (∀i e,hA w i 45 e->hA f i 45 e):=fun i e au=>cs i _ e (au.B (hG ae.o)) Iv Iv Iv;have b8:Hd (∀a∈[w.heap.size+1,w.heap.size+1+1]++F,a∈aL):=a6;have bY:Hd (w.heap.size+1∈aL):=a6 _ Is;clear bx az a6 cs;obtain⟨bu,cd,dw,cO,ai,dd,b2,dx,dy,dz,dA,dB,dC,dD,dE,dF,bl,dG,aE,rfl,gG,gH,gI,gJ⟩:=a8;refine I5 ?_;intro bO gy;refine Sr ?_;intro iw;clear gG gH gI gJ;have bI:Hd (f.heap[w.heap.size+1]?=some (.cells zA.toArray 45 (0,0))):=Y.o;refine af.out _ _ (fun hun=>aT) ?_;clear af K;clear aT y;try simp only[ap,aq,sa,sb,sc]
  refine wo 6 kr rfl fun K af=>?_;refine Eq.mpr (if_pos ?_) ?_;·kernel_rfl
  refine wp_store_row 45 (.tmp 4) (.tmp 18) rfl (w.heap.size+1) #[iV bt,iV bu,iV cd,iV dw,iV cO,ai,iV dd,iV b2,dx,dy,iV dz,iV dA,iV dB,iV dC,iV dD,dE,iV dF,iV bl,iV dG,.bool aE] rfl rfl 45 _ bI.o RQ rfl gy.o ?_;refine af.out _ _ kd ?_;clear af K;try simp only[ap,aq,sa,sb,sc]
  refine r4 kr ?_ _;go_wp2_with fail;refine Jo ?_;show _;have o:hC [w.heap.size+1] f (f.setRow (w.heap.size+1) #[iV bt,iV bu,iV cd,iV dw,iV cO,ai,iV dd,iV b2,dx,dy,iV dz,iV dA,iV dB,iV dC,iV dD,dE,iV dF,iV bl,iV dG,.bool aE]):=(hC.refl _ _).setRow (.inl (me ..)) _;exact⟨_,N,_,rfl,iw.o,⟨_,_,_,_,_,_,_,_,bV.put o bY.o Y.o⟩,Nat.le_succ _,⟨D.keep.trans o (fun a c=>.inr (by simp only[ms]at c;omega)),D.new⟩,fun a c=>b8.o a (List.mem_append_right _ (cc.o a c).1),fun i e au=>(bH.o i e au).keep o Rq⟩
 | true =>
  rw[am]at J;refine J.mono ?_;clear J am a1 ar W aw a0;rintro _ v ⟨rfl,m⟩;have ae:Hd (BW w v):=hJ aB.o m;have C:=lh (aQ.B m);have aA:=lh (aZ.B m);have cl:=lh (b5.B m);have B:=lh (bb.B m);clear m;have cb:=B.s.cell 1;go_wp2_with fail;refine(OR B.j B.p).mono ?_;clear cb;rintro _ f ⟨rfl,H⟩;have D:Hd (BW w f):=hJ ae.o H;have y:=lh (C.B H);have Y:=lh (aA.B H);have aO:=lh (cl.B H);have bV:=lh (B.B H);clear H;have a5:=bV.s.cell 2;go_wp2_with fail;refine(XZ lo g A aH.o a9.o _ V _ bV.a).mono ?_;clear a5;rintro _ bT ⟨ad,aW,bv,rfl,aJ,bw,R⟩;have cj:Hd (i2 lo ad A ((([w.heap.size+1,w.heap.size+1+1]++X)++(gsx::gj::ga::gp::hv lv))++aW) bT bv):=aJ.add (bw _ (fun a c=>by
   rcases ma.1 c with Z | Z
   ·rcases ma.1 Z with Z | Z;·exact List.mem_append_left _ Z
    ·exact List.mem_append_right _ (cc.o a Z).1
   ·exact bV.sF a Z)) (o2 bg.o D.size) (fun a c=>by
   rcases ma.1 c with Z | Z
   ·rcases ma.1 Z with Z | Z;·have s:=bg.o;have cp:=aO.lt;have bm:=R.size;simp only[mc,nn,or_false]at Z;omega
    ·have s:=bV.a.lt a (List.mem_append_right _ (cc.o a Z).1);have bm:=R.size;omega
   ·have s:=bV.low a Z;have bm:=R.size
    omega)
  have aX:Hd (∀a∈aW,f.heap.size<=a):=fun a c=>(aJ.lt a c).1;have E:=lh R;have bA:=lh (y.B R);clear aJ bw R;obtain⟨a1,ar,W,aw,a0,-⟩:=bA.cS [0,1,2,3,4];go_wp2_with fail;refine(KE lo ad A aH.o (oo a9.o) _ bv b A' bt aF _ cj.o).mono ?_;clear a1 ar W aw a0;rintro _ ah ⟨ak,rfl,a8,a3,bD,ao,a7,bq,aY⟩;have S:Hd (BW f ah):=Wt (L:=([w.heap.size+1,w.heap.size+1+1]++X)++(gsx::gj::ga::gp::hv lv)) (fun a c=>by
   rcases ma.1 c with Z | Z
   ·rcases ma.1 Z with Z | Z
    ·simp only[mc,nn,or_false]at Z;rcases Z with rfl | rfl;·exact⟨_,_,Y.B E.o,by decide,by decide,by decide⟩
     ·exact⟨_,_,aO.B E.o,by decide,by decide,by decide⟩
    ·obtain⟨e,bQ⟩:=(cc.o a Z).2;exact⟨_,_,bQ.B (hJ D.o E.o),by decide,by decide,by decide⟩
   ·obtain⟨x,e,ch,bF,bZ,cg,_⟩:=(bV.B E.o).kinds a Z
    exact⟨x,e,ch,bF,bZ,cg⟩) E.o a7 aY aX.o
  have b4:Hd (BW w ah):=hJ D.o S.o;have bE:=lh (y.B S.o);have R5:=lh (Y.B S.o);have ax:=lh (aO.B S.o);have cm:=lh (bV.B S.o);have bJ:=lh ao;have ca:Hd (∀a∈a3,a∈F\/w.heap.size<=a):=fun a c=>by
   rcases a7.new a c with Z | Z
   ·rcases ma.1 Z with Z | Z
    ·rcases ma.1 Z with Z | Z
     ·rcases ma.1 Z with Z | Z;·exact Cf
      ·exact .inl (cc.o a Z).1
     ·rcases ma.1 (bV.sF a Z) with s | s;·simp only[mc,nn,or_false]at s;exact .inr om
      ·exact .inl s
    ·have s:=aX.o a Z;have:=D.size;exact .inr om
   ·have s:=E.size;have:=D.size;exact .inr om
  have an:Hd (∀a∈([w.heap.size+1,w.heap.size+1+1]++X)++(gsx::gj::ga::gp::hv lv),a∈a3):=fun a c=>bq a (List.mem_append_left _ c);clear ao a7 bq aY;obtain⟨bu,cd,dw,cO,ai,dd,b2,dx,dy,dz,dA,dB,dC,dD,dE,dF,bl,dG,aE,rfl,gG,gH,gI,gJ⟩:=a8;refine I5 ?_;intro bO gy;refine Sr ?_;intro iw;clear gG gH gI gJ;have bI:Hd (ah.heap[w.heap.size+1+1]?=some (.cells zA.toArray 45 (0,0))):=ax.o;go_upto_region 11 with(with_reducible refine BD rfl (.tmp 6) (.tmp 33) rfl rfl (w.heap.size+1+1) #[iV bt,iV bu,iV cd,iV dw,iV cO,ai,iV dd,iV b2,dx,dy,iV dz,iV dA,iV dB,iV dC,iV dD,dE,iV dF,iV bl,iV dG,.bool aE] rfl rfl _ bI.o rfl rfl gy.o ?_)
  obtain⟨aN,aS,aI,Q⟩:∃ab,ah.setRow (w.heap.size+1+1) #[iV bt,iV bu,iV cd,iV dw,iV cO,ai,iV dd,iV b2,dx,dy,iV dz,iV dA,iV dB,iV dC,iV dD,dE,iV dF,iV bl,iV dG,.bool aE]=ab/\Hd (hA ab (w.heap.size+1+1) 45 [iV bt,iV bu,iV cd,iV dw,iV cO,ai,iV dd,iV b2,dx,dy,iV dz,iV dA,iV dB,iV dC,iV dD,dE,iV dF,iV bl,iV dG,.bool aE])/\hC [w.heap.size+1+1] ah ab:=⟨_,rfl,D5 ax.o [iV bt,iV bu,iV cd,iV dw,iV cO,ai,iV dd,iV b2,dx,dy,iV dz,iV dA,iV dB,iV dC,iV dD,dE,iV dF,iV bl,iV dG,.bool aE],(hC.refl _ _).setRow (.inl (me ..)) _⟩;try with_reducible rw[aS]
  clear aS bI;have z:=lh (cm.put Q Is ax.o);have ck:Hd (i2 lo ad A' a3 aN bD):=bJ.put Q (an.o _ Is) ax.o Iv Iv Iv;have G:=lh (bE.keep Q Ic);have aG:=lh (R5.keep Q Ic);have I:Hd (BW w aN):=b4.trans (Q.to_below b4.size (fun a c=>by simp only[ms]at c;omega));clear Q;have b3:=aI.cell 0;by_cases aC:bt=0
  ·subst aC;go_upto_region 13 with fail;clear b3;have bh:Hd (∀d,BW aN d->Ce d gsx 1 (pV gj)/\Ce d w.heap.size 0 (iV b.a)/\Ce d w.heap.size 1 (iV b.b)/\Ce d w.heap.size 2 (iV b.c)/\Ce d w.heap.size 3 (iV b.d)/\Ce d w.heap.size 4 (iV b.e)):=fun d O=>⟨(z.s.B O).cell 1,(G.B O).cell 0,(G.B O).cell 1,(G.B O).cell 2,(G.B O).cell 3,(G.B O).cell 4⟩;have av:=bh.o aN.drew (hG bR);go_region_held3 (fun d=>Ce d gsx 1 (pV gj)/\Ce d w.heap.size 0 (iV b.a)/\Ce d w.heap.size 1 (iV b.b)/\Ce d w.heap.size 2 (iV b.c)/\Ce d w.heap.size 3 (iV b.d)/\Ce d w.heap.size 4 (iV b.e)) (first | with_reducible exact av | with_reducible exact cf | with_reducible exact bK | with_reducible assumption)
    (first
     | (go_at_call 62;refine(VZ b _).mono ?_;rintro _ al ⟨u,rfl,br,b1⟩;have aU:Hd (al.ownsRow aN.heap.size 5 1 u _ _):=br;have l:Hd (BW aN al):=hJ (hG bR) b1;have cf:=bh.o al l.o;clear br b1)
     | (go_at_call 58;refine(Nf (N:=1) _ _ Pz (z.j.B l.o) (z.p.B l.o) z.z (Sl.of_own aU.o rfl) (VV aU.o (o2 aa.o I.size)) (by rw[K3 _ _ (nr 5)];decide) (by rw[K3 _ _ (nr 5)];decide) bd.2.1 (o2 bd.o z.k)).mono ?_;rintro _ bs ⟨rfl,bP,cq,b6,be,bi,a2,b0⟩;have T:=lh (An b6 (An be (An bi b0)));have ac:=lh a2;have aP:=lh ((z.s.B l.o).keep a2 bp.o);have bK:=ZW aa.o (z.s.B l.o) (G.B l.o) bp.o a2;clear b6 be bi a2 b0))
   clear av;have aD:∀a,w.heap.size<=a->a∉gj::ga::gp::hv lv:=fun a c r=>by have Z:=S9 aa.o r;omega
   have b':=lh ((aI.B l.o).keep ac.o (aD _ om));have bW:=lh ((aG.B l.o).keep ac.o (aD _ om));clear aD;have a5:=aP.cell 2;simp only[gz,gs]at a5;have bX:=aP.frozen 2;go_upto_region 16 with fail;obtain⟨P,bo,ce,M⟩:∃ab,bs.setCell (Ad gsx 2) (pV ad)=ab/\Hd (hA ab gsx 119 [pV gp,pV gj,pV ad])/\hC [gsx] bs ab:=⟨_,rfl,aP.set 2 _,(hC.refl _ _).sg _⟩;try with_reducible rw[bo]
   clear bo a5 bX;have aR:=lh (b'.keep M (by simp only[ms];have:=aa.o;omega));have ay:=lh (bW.keep M (by simp only[ms];have:=aa.o;omega));have bG:=lh (z.next ck.o (fun a c=>an.o a (List.mem_append_right _ c)) l.o ac.o T.1 T.2.1 T.2.2.1 T.2.2.2 M ce.o);have bf:Hd (hT F w (hv bP++a3) P):=⟨((hC.of_below (hJ I.o l.o):hC F w al).trans ac.o (fun a c=>.inl (aj.sF a (mo _ c)))).trans M (fun a c=>.inl (by
    simp only[ms]at c
    exact c▸aj.sF gsx Is)),fun a c=>by
    rcases ma.1 c with Z | Z
    ·rcases T.2.2.2 a Z with s | s;·exact .inl (aj.sF a (by simp[s]))
     ·have:=I.size;have:=l.size;exact .inr om
    ·exact ca.o a Z⟩
   have bC:Hd (∀i e,hA w i 45 e->hA P i 45 e):=fun i e au=>by
    have ag:∀a∈gsx::gj::ga::gp::hv lv,i≠a:=fun a c x=>by obtain⟨t,W,Z,_,_,_,ao⟩:=aj.kinds a c;exact n3 Z au ao x.symm
    exact((au.B (hJ I.o l.o)).keep ac.o (fun r=>ag _ (mo _ r) rfl)).keep M (by simp only[ms];exact ag gsx Is)
   clear M;have aM:Hd (P.rangeAt (w.heap.size+1+1) 0 [iZ,iV bu,iV cd,iV dw,iV cO,ai,iV dd,iV b2,dx,dy,iV dz,iV dA,iV dB,iV dC,iV dD,dE,iV dF,iV bl,iV dG,.bool aE]):=fun j ak aK=>by rw[Nat.zero_add,aR.cell];exact aK
   have bI:Hd (P.heap[w.heap.size+1]?=some (.cells zA.toArray 45 (0,0))):=ay.o
   go_wp2_with (first | (with_reducible refine wpList_load_mid rfl 45 (.tmp 6) rfl (w.heap.size+1+1) 0 rfl [iZ,iV bu,iV cd,iV dw,iV cO,ai,iV dd,iV b2,dx,dy,iV dz,iV dA,iV dB,iV dC,iV dD,dE,iV dF,iV bl,iV dG,.bool aE] _ aM.o underlying45 rfl (En.trans rfl) ?_) | (with_reducible refine BD rfl (.tmp 4) (.tmp 51) rfl rfl (w.heap.size+1) #[iZ,iV bu,iV cd,iV dw,iV cO,ai,iV dd,iV b2,dx,dy,iV dz,iV dA,iV dB,iV dC,iV dD,dE,iV dF,iV bl,iV dG,.bool aE] rfl rfl _ bI.o rfl rfl gy.o ?_))
   refine bodyPost_ret (v:=.agg #[iZ,iV bu,iV cd,iV dw,iV cO,ai,iV dd,iV b2,dx,dy,iV dz,iV dA,iV dB,iV dC,iV dD,dE,iV dF,iV bl,iV dG,.bool aE]) (results_cell_row (p:=4) (ty:=45) rfl _ _ (w.heap.size+1) 45 _ (0,0) _ rfl (setRow_heap _ _ _ _ _ _ bI.o) underlying45 rfl RQ) rfl ?_;have o:hC [w.heap.size+1] P (P.setRow (w.heap.size+1) #[iZ,iV bu,iV cd,iV dw,iV cO,ai,iV dd,iV b2,dx,dy,iV dz,iV dA,iV dB,iV dC,iV dD,dE,iV dF,iV bl,iV dG,.bool aE]):=(hC.refl _ _).setRow (.inl (me ..)) _;exact⟨_,N+1,_,rfl,iw.o,⟨_,_,_,_,_,_,_,_,bG.put o (List.mem_append_right _ (an.o _ Is)) ay.o⟩,nr _,⟨bf.keep.trans o (fun a c=>.inr (by simp only[ms]at c;omega)),bf.new⟩,fun a c=>List.mem_append_right _ (an.o a (List.mem_append_left _ (List.mem_append_right _ c))),fun i e au=>(bC.o i e au).keep o Rq⟩
  ·have cn:(bt != 0)=true:=ss aC;have bB:Hd (A'=A):=Z4 aF.o aC;have aR:=aI;have ay:=aG;go_upto_region 12 with fail;clear b3;have aM:Hd (aN.rangeAt (w.heap.size+1+1) 0 [iV bt,iV bu,iV cd,iV dw,iV cO,ai,iV dd,iV b2,dx,dy,iV dz,iV dA,iV dB,iV dC,iV dD,dE,iV dF,iV bl,iV dG,.bool aE]):=fun j ak aK=>by rw[Nat.zero_add,aR.cell];exact aK
   have bI:Hd (aN.heap[w.heap.size+1]?=some (.cells zA.toArray 45 (0,0))):=ay.o
   go_wp2_with (first | (with_reducible refine wpList_load_mid rfl 45 (.tmp 6) rfl (w.heap.size+1+1) 0 rfl [iV bt,iV bu,iV cd,iV dw,iV cO,ai,iV dd,iV b2,dx,dy,iV dz,iV dA,iV dB,iV dC,iV dD,dE,iV dF,iV bl,iV dG,.bool aE] _ aM.o underlying45 rfl (En.trans rfl) ?_) | (with_reducible refine BD rfl (.tmp 4) (.tmp 37) rfl rfl (w.heap.size+1) #[iV bt,iV bu,iV cd,iV dw,iV cO,ai,iV dd,iV b2,dx,dy,iV dz,iV dA,iV dB,iV dC,iV dD,dE,iV dF,iV bl,iV dG,.bool aE] rfl rfl _ bI.o rfl rfl gy.o ?_))
   refine Jo ?_;show _;have o:hC [w.heap.size+1] aN (aN.setRow (w.heap.size+1) #[iV bt,iV bu,iV cd,iV dw,iV cO,ai,iV dd,iV b2,dx,dy,iV dz,iV dA,iV dB,iV dC,iV dD,dE,iV dF,iV bl,iV dG,.bool aE]):=(hC.refl _ _).setRow (.inl (me ..)) _;rw[bB.o];exact⟨_,N,_,rfl,iw.o,⟨_,_,_,_,_,_,_,_,z.put o Is aG.o⟩,Nat.le_succ _,⟨(hC.of_below I.o:hC F w aN).trans o (fun a c=>.inr (by simp only[ms]at c;omega)),fun a c=>by
    rcases ma.1 c with Z | Z;·exact Cf
    ·exact .inl Z⟩,fun a c=>List.mem_append_right _ (cc.o a c).1,fun i e au=>(au.B I.o).keep o Rq⟩
section
theorem XI {w:World} {a d e r p:Int} {l:Value} {m b:Int} {c j:Value} {o s f i v:Int} {y:Value} {u t x:Int} {g:Bool}:(Instr.field 45 (.agg #[iV a,iV d,iV e,iV r,iV p,l,iV m,iV b,c,j,iV o,iV s,iV f,iV i,iV v,y,iV u,iV t,iV x,.bool g]) 0).run prog w=.ok (iV a) w:=by kernel_rfl
attribute [local go_sem] XI
theorem Ut {a:World} {g:Nat} (h:hA a g 81 [iV 5,.bool false]):h7 a (sL g 0 1 1) [(5,false)]:=by refine h7.of_fl (l:=[(5,false)]) ⟨rfl,F3 _,_,_,rfl,nr _,⟨by simp[maxLen],fun b=>by cases b⟩,fun _=>⟨g,0,rfl,fun c _=>?_⟩⟩;rw[h.cell,Nat.zero_add];rfl
theorem WJ {w b c a:World} {ga gp:Nat} (h:hA b (w.heap.size+1) 24 [iV 1000,sL w.heap.size 0 1 1,iV 1,iV 1,iZ,iZ,iV 10957]) (e:BW b c) (d:hC [ga,gp] c a) (i:b.heap.size<=ga/\b.heap.size<=gp) (f:w.heap.size+1<b.heap.size) :
 a.cell? (Ad (w.heap.size+1) 0)=some (iV 1000)/\a.cell? (Ad (w.heap.size+1) 1)=some (sL w.heap.size 0 1 1)/\a.cell? (Ad (w.heap.size+1) 2)=some (iV 1)/\a.cell? (Ad (w.heap.size+1) 3)=some (iV 1)/\a.cell? (Ad (w.heap.size+1) 4)=some (iZ)/\a.cell? (Ad (w.heap.size+1) 5)=some (iZ)/\a.cell? (Ad (w.heap.size+1) 6)=some (iV 10957):=by
 have q:=(h.B e).keep d Pf;exact⟨q.cell 0,q.cell 1,q.cell 2,q.cell 3,q.cell 4,q.cell 5,q.cell 6⟩
theorem Wn (w:World):Calls prog 9 #[] w (RetB (.bool true) w):=by
 obtain⟨f,t,T,aa,R⟩:∃j,((w.alloc (.cells #[iV 5,.bool false] 81)).alloc (.cells #[iV 1000,sL w.heap.size 0 1 1,iV 1,iV 1,iZ,iZ,iV 10957] 24))=j/\Hd (hA j w.heap.size 81 [iV 5,.bool false])/\Hd (hA j (w.heap.size+1) 24 [iV 1000,sL w.heap.size 0 1 1,iV 1,iV 1,iZ,iZ,iV 10957])/\Hd (BW w j) :=
  ⟨_,rfl,(hR w _ _ _ rfl).B (hB bR _),w3 _ _ _ _ (wa _ _),hB (hB bR _) _⟩
 go_enter func9,ntmps9;go_upto_region 2 with fail;try with_reducible rw[t]
 clear t;have C:Hd (∀a,BW f a->Ce a (w.heap.size+1) 0 (iV 1000)/\Ce a (w.heap.size+1) 1 (sL w.heap.size 0 1 1)/\Ce a (w.heap.size+1) 2 (iV 1)/\Ce a (w.heap.size+1) 3 (iV 1)/\Ce a (w.heap.size+1) 4 (iZ)/\Ce a (w.heap.size+1) 5 (iZ)/\Ce a (w.heap.size+1) 6 (iV 10957)):=fun a ac=>⟨(aa.B ac).cell 0,(aa.B ac).cell 1,(aa.B ac).cell 2,(aa.B ac).cell 3,(aa.B ac).cell 4,(aa.B ac).cell 5,(aa.B ac).cell 6⟩;have B:=C.o f.drew (hG bR);have e:Hd (w.heap.size+1<f.heap.size):=aa.lt;go_region_held3 (fun a=>Ce a (w.heap.size+1) 0 (iV 1000)/\Ce a (w.heap.size+1) 1 (sL w.heap.size 0 1 1)/\Ce a (w.heap.size+1) 2 (iV 1)/\Ce a (w.heap.size+1) 3 (iV 1)/\Ce a (w.heap.size+1) 4 (iZ)/\Ce a (w.heap.size+1) 5 (iZ)/\Ce a (w.heap.size+1) 6 (iV 10957)) (first | with_reducible exact B | with_reducible exact I | with_reducible exact M | with_reducible assumption)
  (first
   | (go_at_call 20;refine(UM 100 Iv _).mono ?_;rintro _ l ⟨gp,ga,rfl,r,x⟩;have L:=lh r;have d:Hd (BW f l):=hJ (hG bR) x;have I:=C.o l d.o;have s:Hd (f.heap.size<=ga/\f.heap.size<=gp):=(by obtain⟨_,q,_⟩:=r;exact⟨q.2,q.1⟩);clear r x)
   | (go_at_call 32;refine(YP _ gp ga 100 B6 (.slice (some ⟨w.heap.size,0,none⟩) 1 1) Kh Iv Iv _ L.o (Ut (T.B d.o)) (fun b o n c S av P=>by cases S;have an:=s.o;have az:=e.o;simp only[mc,nn,or_false]at P;omega) (by have:=d.size;simp only[wd];exact this)).mono ?_;rintro _ H ⟨gsx,N,F,rfl,u,y,p⟩;have E:=lh u;have G:=lh y;have O:=lh p;have M:=WJ aa.o d.o p s.o e.o;clear u y p))
 clear B;go_wp2_with fail;refine(W1 ⟨1,0,1,5,0⟩ (TC Kh Iv) Iv (RU Xr) Iv (oo G.o) (oo G.o) F E.o [] (fun m i=>by cases i)).mono ?_;rintro _ Q ⟨v,aj,ae,rfl,J,_,_,z,_,_⟩;obtain⟨Y,Z,al,ak,ag,ah,W,X,af,ai,am,ab,ad,au,ay,ao,ar,aw,ax,rfl,⟨_,_,_,rfl⟩,⟨_,_,_,rfl⟩,⟨_,_,_,rfl⟩,⟨_,_,_,rfl⟩⟩:=J;have K:Hd (BW w Q):=by
  have D:Below w.heap.size l H:=O.to_below (o2 d.size e.o) (fun m i=>by
   have an:=s.o;have az:=e.o;simp only[mc,nn,or_false]at i
   omega)
  exact((hJ R.o d.o).trans D).trans (z.keep.to_below (o3 D.size d.size e.o) (fun m i=>by have an:=(E.low m i).1;have az:=e.o;simp only[wd]at an;omega))
 clear z;go_wp2_with fail;go_ret;exact⟨rfl,K.o⟩
end
end Go.Proofs.YtkongpjpkpfniaaGreat

/- TopBooks, a part. -/
import Derived.Test.YtkongpjpkpfniaaGreatC10
set_option linter.unusedVariables false
set_option linter.unusedSimpArgs false
set_option maxRecDepth 100000
set_option maxHeartbeats 6400000
namespace Go.Proofs.YtkongpjpkpfniaaGreat
open Go.RowKit Go.Proofs.Tryz
variable {aB:Act} {D:Bool} {Q:Exit->Act->World->Prop} {aU c d f y:Int} {P ji:List (Int×Int)} {r x:List Int} {F:List Nat} {l:List R5} {L:List St} {C:List Value} {M g i j k m n:Nat} {p q:Prop} {aw s:RS} {T:St} {u v:Value} {W Y w:World}
theorem PN (h:q:=by show((((List.replicate O.ts.length ([]:List Int)).getD k []).length:Nat):Int)=O.start-(ji.getD 0 (0,0)).1;rw[Z];simp[List.getD,b4]):q:=h
theorem Nx (h:q:=by show((((List.replicate O.ts.length ([]:List Int)).getD k []).length:Nat):Int)=aU+1-(ji.getD (aw.o++[x]).length (0,0)).1;rw[aX,aK,fo];simp[List.getD,b4]):q:=h
theorem QI (h:q:=by have ju:=jk.o;have da:=ij.o;have cC:=lF.o;have dr:=gE.o;have eO:=HB6.size;exact OT):q:=h
theorem Yr {e:List Int×Int×Int×Int} (h:Bf r c d f y=e) (a:e.2.2.2=0):e.1.length=r.length:=by
 subst h;unfold Bf at a ⊢;split;·rename_i b;rw[if_pos b]at a;exact absurd a b
 ·rename_i b;rw[if_neg b]at a;split;·simp
  ·rename_i g;rw[if_neg g]at a;simp at a
theorem MT (h:x.length=r.length):(hU r x).length=r.length:=by unfold hU;rw[List.length_zipWith];omega
theorem XR {e:List Int×Int×Int×Int} (h:CB r c d x f y=e) (a:e.2.2.2=0):e.1.length=r.length:=by
 subst h;unfold CB at a ⊢;split;·rename_i b;rw[if_pos b]at a;exact absurd a b
 ·rename_i b;rw[if_neg b]at a;split;·rename_i g;rw[if_pos g]at a;simp at a
  ·rename_i g;rw[if_neg g]at a;split;·exact MT (Cv _ _ _)
   ·rename_i i;rw[if_neg i]at a;simp at a
theorem ywz {g:List Int×Int×Int×Int} (h:q3 r c d x f=g) (a:g.2.2.2=0):g.1.length=r.length:=by
 subst h;unfold q3 at a ⊢;split;·rename_i e;rw[if_pos e]at a;exact absurd a e
 ·rename_i e;rw[if_neg e]at a;split;·rename_i b;rw[if_pos b]at a;exact absurd a b
  ·rename_i b;rw[if_neg b]at a;split
   ·refine MT ?_;unfold k9;split;·unfold l2 k4 k7;rw[List.length_zipWith,Cv,Cv,Hv];omega
    ·rename_i i;unfold k9 at b;rw[if_neg i]at b;simp at b
   ·rename_i i;rw[if_neg i]at a;simp at a
theorem GJ {p:Ps} {rs:List Int} {x:R5} {d:Ps×List Int×Int} (h:pc p rs x=d) (b:d.2.2=0):d.1.bs.length=p.bs.length/\d.2.1.length=rs.length:=by
 subst h;unfold pc at b ⊢;split;·rename_i f;rw[if_pos f]at b;simp at b
 ·rename_i f;rw[if_neg f]at b;split;·rename_i c;rw[if_pos c]at b;exact absurd b c
  ·rename_i c;have a:(p0 p rs x).2.2.2=0:=ss c;refine⟨?_,?_⟩
   ·show(p0 p rs x).1.length=_;unfold p0 at a ⊢;split;·rename_i e;rw[if_pos e]at a;exact Yr rfl a
    ·rename_i e;rw[if_neg e]at a;split;·rename_i g;rw[if_pos g]at a;exact ywz rfl a
     ·rename_i g;rw[if_neg g]at a;split;·rename_i i;rw[if_pos i]at a;exact XR rfl a
      ·rfl
   ·show(CK rs x).length=_;unfold CK;split <;> simp
section
theorem Wf (w):(binOp BinOp.neq 129 Value.nilFunc Value.nilFunc).run prog w=.ok (.bool false) w:=by kernel_rfl
attribute [local go_sem] Wf
def ja2 (m e:Nat) (g:Tm) (n:List R5) (c:Int) (a:RS) (i:Nat) (k:Ps) (b:List Int) (l:Int) (j:List Nat) (w:World) (d:Ending) (f:World):Prop:=Ki (iV l) m e g n c (⟨i,k,b,a.X,a.Y,a.o⟩:RS) j w d f
theorem ZF (S d:Nat) (t:Tm) (m:List R5) (s:Int) (o:RS) (z:List Nat) (V:RV) (a8:m.length<=10000) (be:o.at'<=m.length) (aU:o.p.bs.length<=1000) (aQ:o.rs.length<=1000) (a2:Nat) (a4:Ps) (aA:List Int) (aw:Int) (b6:Hd (w1 m s (m.length-o.at') o.at' o.p o.rs=(a2,a4,aA,aw))) (w) (h:p4 S d t m s o z w V) :
 Calls prog 90 #[pV d] w (ja2 S d t m s o a2 a4 aA aw z w):=by
 have br:=lh h;have a9:=lh (An a8 (An be (An aU aQ)));clear h a8 be aU aQ;go_enter func90,ntmps90;go_wp2_with fail;go_loopg [] (m.length-o.at') (fun ak wr=>∃(k:Nat) (p:Ps) (rs:List Int) (au:List Nat) (a6:RV),k+ak=m.length/\Hd (p4 S d t m s (⟨k,p,rs,o.X,o.Y,o.o⟩:RS) au wr a6)/\Hd (hT z w au wr)/\Hd (w1 m s ak k p rs=(a2,a4,aA,aw))/\Hd (p.bs.length<=1000/\rs.length<=1000));case atStart=>exact⟨o.at',o.p,o.rs,z,V,oo a9.2.1,br,hT.refl _ _,b6,a9.2.2⟩
 case round =>
  obtain⟨k,p,rs,au,a6,ax,x,aC,O,Q⟩:=hrel;have b2:=lh ax;have a8:=a9.1;obtain⟨r,b1⟩:∃r,r=wr:=⟨_,rfl⟩;subst b1;obtain⟨aF,bx,pv,rv,aW,aX,bi,aD,aZ,aR,bj,aH⟩:=a6;obtain⟨bw,C,rfl⟩:=x.rd.now.2.1.shape;obtain⟨D,G,rfl⟩:=x.rd.now.2.2.1.shape;obtain⟨bl,R,rfl⟩:=x.rd.now.2.2.2.1.shape;cases gk with
  | zero =>
   have af:¬((k:Int)<m.length):=om;have aM:Hd (∀a,BW r a->Ce a d 8 (iV (k:Int))/\Ce a d 7 (.slice bw m.length C)/\Ce a d 9 (iV s)):=fun a al=>by have q:=x.blk.B al;exact⟨q.cell 8,q.cell 7,q.cell 9⟩
   have bt:=aM.o r bR;have ai:=aM.o r.drew (hG bR);unfold w1 at O;have j:=O.o;simp only[Prod.mk.injEq]at j;obtain⟨rfl,rfl,rfl,rfl⟩:=j;clear ax;obtain⟨bH,bE,b7⟩:=bt;go_upto_region 1 with fail;go_quiet (fail);go_wp2_with fail;go_ret;exact⟨rfl,au,_,x.B (BU bR _),aC.B (BU bR _)⟩
  | succ ak =>
   have af:(k:Int)<m.length:=om;have bB:(0:Int)<=(k:Int):=om;obtain⟨f,g,e,bp,⟨az,a1,av,aO,aS⟩,b4⟩:=x.rd.now.2.1.get (i:=k) om;subst bp;have aB:∀a,BW r a->Ce a f (g+k*5) (iV e.a)/\Ce a f (g+k*5+1) (iV e.b)/\Ce a f (g+k*5+2) (iV e.c)/\Ce a f (g+k*5+3) (iV e.d)/\Ce a f (g+k*5+4) (iV e.e):=fun a al=>by have T:∀ae y,r.cell? (Ad f ae)=some y->Ce a f ae y:=fun ae y A=>(al.cell (p:=(Ad f ae)) (ht A)).trans A;exact⟨T _ _ az,T _ _ a1,T _ _ av,T _ _ aO,T _ _ aS⟩
   have bv:=lh aB;have aG:Hd (∀a,BW r a->Ce a d 8 (iV (k:Int))/\Ce a d 7 (sL f g m.length C)/\Ce a d 9 (iV s)/\Ce a f (g+k*5+1) (iV e.b)):=fun a al=>by have q:=x.blk.B al;exact⟨q.cell 8,q.cell 7,q.cell 9,(aB a al).2.1⟩
   have a7:=aG.o r bR;have ai:=aG.o r.drew (hG bR);clear az a1 av aO aS aB ax;unfold w1 at O;have j:=O.o;rw[b4.o]at j;by_cases L:e.b=s
   ·have bs:(e.b == s)=true:=ss L;rw[if_pos L]at j;have bm:=lh j;clear j O L;go_upto_region 1 with fail;go_region_held3 (fun a=>Ce a d 8 (iV (k:Int))/\Ce a d 7 (sL f g m.length C)/\Ce a d 9 (iV s)/\Ce a f (g+k*5+1) (iV e.b)) (first | with_reducible exact a7 | with_reducible exact ai) (fail);obtain⟨cg,bd,K,bg⟩:∃cg,(r.alloc (.cells #[.slice D p.bs.length G,iV p.c,iV p.d] 35)).drew=cg/\Hd (p4 S d t m s (⟨k,p,rs,o.X,o.Y,o.o⟩:RS) au cg { tv:=aF,lv:=sL f g m.length C,pv:=.slice D p.bs.length G,rv:=.slice bl rs.length R,xv:=aW,yv:=aX,ov:=bi,bx:=aD,bz:=aZ,xs:=aR,ys:=bj,vs:=aH })/\Hd (BW r cg) :=
     ⟨_,rfl,x.B (hG (hB bR _)),hG (hB bR _)⟩
    have aJ:r.cell? (Ad d 10)=some (.slice D p.bs.length G):=x.blk.cell 10;have bf:r.cell? (Ad d 11)=some (iV p.c):=x.blk.cell 11;have aT:r.cell? (Ad d 12)=some (iV p.d):=x.blk.cell 12;obtain⟨l,bb⟩:=xg (pc p rs e);have P:=lh bb;clear bb;have b0:=lh bd;clear bd;go_upto_region 3 with fail;with_reducible rw[b0.o]
    clear aJ bf aT ai a7;have ah:Hd (∀a,BW cg a->Sl .i64 a (.slice D p.bs.length G) p.bs/\Sl .i64 a (.slice bl rs.length R) rs):=fun a al=>by have k:=K.rd.now;exact⟨k.2.2.1.B al,k.2.2.2.1.B al⟩
    have jm:Hd (∀a,BW cg a->(Ce a d 10 (.slice D p.bs.length G)/\Ce a d 11 (iV p.c)/\Ce a d 12 (iV p.d))/\Ce a d 13 (.slice bl rs.length R)/\Ce a d 7 (sL f g m.length C)/\Ce a d 8 (iV (k:Int))/\Ce a f (g+k*5) (iV e.a)/\Ce a f (g+k*5+1) (iV e.b)/\Ce a f (g+k*5+2) (iV e.c)/\Ce a f (g+k*5+3) (iV e.d)/\Ce a f (g+k*5+4) (iV e.e)):=fun a al=>by have q:=K.blk.B al;exact⟨⟨q.cell 10,q.cell 11,q.cell 12⟩,q.cell 13,q.cell 7,q.cell 8,bv.o a (hJ bg.o al)⟩
    have bo:=jm.o cg.drew (hG bR);go_cut [4,5,6] (fun bz b3 bq ab=>∃ao u v,bz=pV ao/\b3=v/\bq=iV l.2.2/\Hd (hA ab ao 35 [u,iV l.1.c,iV l.1.d]/\Sl .i64 ab u l.1.bs/\Sl .i64 ab v l.2.1)/\Hd (cg.heap.size<=ao/\Fr cg u/\Fr cg v)/\Hd (BW cg ab));case first =>
     refine se (fun a=>(Ce a d 10 (.slice D p.bs.length G)/\Ce a d 11 (iV p.c)/\Ce a d 12 (iV p.d))/\Ce a d 13 (.slice bl rs.length R)/\Ce a d 7 (sL f g m.length C)/\Ce a d 8 (iV (k:Int))/\Ce a f (g+k*5) (iV e.a)/\Ce a f (g+k*5+1) (iV e.b)/\Ce a f (g+k*5+2) (iV e.c)/\Ce a f (g+k*5+3) (iV e.d)/\Ce a f (g+k*5+4) (iV e.e)) 24 kr ?_;refine Kn ?_;show _;refine NT ?_;show _;refine BZ (rs:=[18,23]) kr Is ?_;refine(k0.cons (o:=⟨_,_,_,_,_,_⟩) rfl (fun E ac=>?_) (k0.cons (o:=⟨_,_,_,_,_,_⟩) rfl (fun E ac=>?_) k0.nil))
     ·go_simp;refine(QO p _ _ rs e l P Q.1 Q.2 _ (ah.o _ bM).1 (ah.o _ bM).2).mono ?_;rintro _ aY ⟨b5,F,rfl,⟨jl,fX⟩,⟨jX,gT⟩,bZ⟩;obtain⟨an,H,rfl⟩:=jl.shape;refine IX ?_;clear jl jX fX gT bZ ac E;unhygienic intros
      refine wo 23 kr rfl fun E ac=>?_;go_simp;refine ac.out _ _ (fun hun=>jm.o _ bM) ?_;clear ac E;try simp only[ap,aq,sa,sb,sc]
      obtain⟨U,fx,fS,W,a3⟩:∃U,aY.alloc (.cells #[sZ,iZ,iZ] 35)=U/\Hd (hA U aY.heap.size 35 [sZ,iZ,iZ])/\Hd (Sl .i64 U (.slice an l.1.bs.length H) l.1.bs/\Sl .i64 U F l.2.1)/\Hd (BW cg U) :=
       ⟨_,rfl,hR aY [sZ,iZ,iZ] _ _ rfl,⟨jk.B (hB bR _),ij.B (hB bR _)⟩,hB HB6.o _⟩
      have X:Hd (hL [aY.heap.size] (.slice an l.1.bs.length H)/\hL [aY.heap.size] F):=by exact QI
      have Y:Hd (Fr cg (.slice an l.1.bs.length H)/\Fr cg F):=by exact JL
      have B:Hd (cg.heap.size<=aY.heap.size):=by have eO:=HB6.size;show _<=_;omega
      refine Pq ?_;clear fx;show _;go_wp2_with fail;go_meet;case rel=>exact⟨aY.heap.size,_,_,rfl,rfl,rfl,⟨(((fS.set 0 _).set 1 _).set 2 _),Sl.keep (F:=[aY.heap.size]) W.1 (((((hC.refl _ _).sg _).sg _).sg _)) X.1,Sl.keep (F:=[aY.heap.size]) W.2 (((((hC.refl _ _).sg _).sg _).sg _)) X.2⟩,⟨B.o,Y.1,Y.2⟩,(((a3.setCell B.o _).setCell B.o _).setCell B.o _)⟩
     ·go_simp;refine ac.out _ _ (fun hun=>jm.o _ bM) ?_;clear ac E;try simp only[ap,aq,sa,sb,sc]
      refine wo 18 kr rfl fun E ac=>?_;go_simp;refine(QO p _ _ rs e l P Q.1 Q.2 _ (ah.o _ bM).1 (ah.o _ bM).2).mono ?_;rintro _ aY ⟨b5,F,rfl,⟨jl,fX⟩,⟨jX,gT⟩,bZ⟩;obtain⟨an,H,rfl⟩:=jl.shape;refine IX ?_;clear jl jX fX gT bZ ac E;intro jk ij lF gE eI HB6 dK;obtain⟨U,fx,fS,W,a3⟩:∃U,aY=U/\Hd (hA U cg.heap.size 35 [sZ,iZ,iZ])/\Hd (Sl .i64 U (.slice an l.1.bs.length H) l.1.bs/\Sl .i64 U F l.2.1)/\Hd (BW cg U) :=
       ⟨_,rfl,hA.B (hA.B (hR cg [sZ,iZ,iZ] _ _ rfl) (hG bR)) eI.o,⟨jk.B bR,ij.B bR⟩,HB6.o⟩
      have X:Hd (hL [cg.heap.size] (.slice an l.1.bs.length H)/\hL [cg.heap.size] F):=by exact QI
      have Y:Hd (Fr cg (.slice an l.1.bs.length H)/\Fr cg F):=by exact JL
      have B:Hd (cg.heap.size<=cg.heap.size):=by have eO:=HB6.size;show _<=_;omega
      refine Pq ?_;clear fx;show _;go_wp2_with fail;go_meet;case rel=>exact⟨cg.heap.size,_,_,rfl,rfl,rfl,⟨(((fS.set 0 _).set 1 _).set 2 _),Sl.keep (F:=[cg.heap.size]) W.1 (((((hC.refl _ _).sg _).sg _).sg _)) X.1,Sl.keep (F:=[cg.heap.size]) W.2 (((((hC.refl _ _).sg _).sg _).sg _)) X.2⟩,⟨B.o,Y.1,Y.2⟩,(((a3.setCell B.o _).setCell B.o _).setCell B.o _)⟩
    case rest =>
     clear bo;obtain⟨ao,u,v,rfl,rfl,rfl,M,aj,bh⟩:=hcut;obtain⟨q,J,aE⟩:=l;simp only at M;obtain⟨an,aa,rfl⟩:=M.2.1.shape;obtain⟨ad,ar,rfl⟩:=M.2.2.shape;have a5:=lh (K.B bh.o);have bc:Hd (hT z w au wc):=(aC.B bg.o).B bh.o;by_cases am:aE=0
     ·subst am;have ay:=GJ P.o rfl;simp only at ay;have aV:=lh ay;clear ay;obtain⟨az,a1,av,-⟩:=M.1.cS [0,1,2];have bA:wc.cell? (Ad d 8)=some (iV (k:Int)):=a5.blk.cell 8;have aJ:wc.cell? (Ad d 10)=some (.slice D p.bs.length G):=a5.blk.cell 10;have bf:wc.cell? (Ad d 11)=some (iV p.c):=a5.blk.cell 11;have aT:wc.cell? (Ad d 12)=some (iV p.d):=a5.blk.cell 12;have bI:wc.cell? (Ad d 13)=some (.slice bl rs.length R):=a5.blk.cell 13;have bC:wc.cell? (Ad d 17)=some .nilFunc:=a5.blk.cell 17;obtain⟨bF,bG,b9,b8,bJ,-⟩:=a5.blk.fs [8,10,11,12,13];go_wp2_with fail;go_roundg ak;case measure=>omega
      case rel =>
       have j:=bm.o;rw[P.o]at j;simp only at j;rw[if_neg (by simp)]at j;have aP:hC [d] wc (((((wc.setCell (Ad d 10) (.slice an q.bs.length aa)).setCell (Ad d 11) (iV q.c)).setCell (Ad d 12) (iV q.d)).setCell (Ad d 13) (.slice ad J.length ar)).setCell (Ad d 8) (iV (↑k+1))):=(((((hC.refl _ _).sg _).sg _).sg _).sg _).sg _;have af:∀e∈au,e<cg.heap.size:=fun e A=>(K.lt e A).2;have a':S<=cg.heap.size:=by have Z:=K.lt d K.gF;omega
       have h:=a5.store aP (k:=k+1) (p:=q) (rs:=J) (pv:=.slice an q.bs.length aa) (rv:=.slice ad J.length ar) (by
        have Z:=((((a5.blk.set 10 (.slice an q.bs.length aa)).set 11 (iV q.c)).set 12 (iV q.d)).set 13 (.slice ad J.length ar)).set 8 (iV ((k:Int)+1))
        exact Z) ((M.2.1.rd (aj.2.1.off af)).and (M.2.2.rd (aj.2.2.off af))) ⟨Hi.of_fr aj.2.1 a',Hi.of_fr aj.2.2 a'⟩
       have bu:hT au wc au (((((wc.setCell (Ad d 10) (.slice an q.bs.length aa)).setCell (Ad d 11) (iV q.c)).setCell (Ad d 12) (iV q.d)).setCell (Ad d 13) (.slice ad J.length ar)).setCell (Ad d 8) (iV (↑k+1))):=⟨aP.mono (fun e A=>by simp only[ms]at A;exact A▸a5.gF),fun _ A=>.inl A⟩;exact⟨k+1,q,J,au,_,oo b2.o,h,bc.trans bu,j,by rw[aV.1,aV.2];exact Q.o⟩
     ·have bD:(aE != 0)=true:=ss am;have j:=bm.o;rw[P.o]at j;simp only at j;rw[if_pos am]at j;simp only[Prod.mk.injEq]at j;obtain⟨rfl,rfl,rfl,rfl⟩:=j;clear am;go_wp2_with fail;go_ret;exact⟨rfl,au,_,a5.o,bc.o⟩
   ·have bs:(e.b == s)=false:=ss L;rw[if_neg L]at j;simp only[Prod.mk.injEq]at j;obtain⟨rfl,rfl,rfl,rfl⟩:=j;clear O L;go_upto_region 1 with fail;go_region_held3 (fun a=>Ce a d 8 (iV (k:Int))/\Ce a d 7 (sL f g m.length C)/\Ce a d 9 (iV s)/\Ce a f (g+k*5+1) (iV e.b)) (first | with_reducible exact a7 | with_reducible exact ai) (fail);go_wp2_with fail;go_ret;exact⟨rfl,au,_,x.B (hG bR),aC.B (hG bR)⟩
end
structure C6 (f day:Int) (ps:List (Int×Int)):Prop where
 pos:0<ps.length
 first:(ps.getD 0 (0,0)).1=f
 le:∀i,i<ps.length->(ps.getD i (0,0)).1<=(ps.getD i (0,0)).2
 next:∀i,i+1<ps.length->(ps.getD (i+1) (0,0)).1=(ps.getD i (0,0)).2+1
 early:∀i,i+1<ps.length->(ps.getD i (0,0)).2<day
 last:(ps.getD (ps.length-1) (0,0)).1<=day/\day<=(ps.getD (ps.length-1) (0,0)).2
 range:∀i,i<ps.length -> -135140<=(ps.getD i (0,0)).1/\(ps.getD i (0,0)).2<=2932896
theorem KC {cyc c:Int} (d:Nat):∀{f:Int} {P:List (Int×Int)},p6 cyc c d f=(P,true)->C6 f c P:=by
 induction d with
 | zero=>intro f P h;simp[p6]at h
 | succ d s =>
  intro f P h;by_cases k:(nc f cyc).2=0
  ·have hge:=Iq k;have i:=LA f cyc;obtain⟨j,e⟩:∃j,nc f cyc=(j,0):=⟨(nc f cyc).1,by rw[<-k]⟩;by_cases g:j<c/\d≠0
   ·rw[FU e g.1 g.2]at h;cases n:p6 cyc c d (j+1) with
    | mk l u =>
     rw[n]at h;simp only[Prod.mk.injEq]at h;obtain⟨rfl,rfl⟩:=h;have b:=s n;have t:=b.pos;refine⟨by simp,rfl,fun a aA=>?_,fun a aA=>?_,fun a aA=>?_,?_,fun a aA=>?_⟩
     ·cases a with
      | zero=>simp only[List.getD_cons_zero];rw[e]at hge;exact hge.1
      | succ a=>simp only[List.getD_cons_succ];exact b.le a MV
     ·cases a with
      | zero=>simp only[List.getD_cons_succ,List.getD_cons_zero];exact b.first
      | succ a=>simp only[List.getD_cons_succ];exact b.next a MV
     ·cases a with
      | zero=>exact g.1
      | succ a=>simp only[List.getD_cons_succ];exact b.early a MV
     ·simp only[List.length_cons,Nat.add_sub_cancel];obtain⟨m,o⟩:∃m,l.length=m+1:=⟨l.length-1,by omega⟩;rw[o];simp only[List.getD_cons_succ];have:=b.last;rw[o]at this;exact this
     ·cases a with
      | zero=>simp only[List.getD_cons_zero];rw[e]at hge i;exact⟨hge.2.1,i⟩
      | succ a=>simp only[List.getD_cons_succ];exact b.range a MV
   ·rw[Fj e g]at h;simp only[Prod.mk.injEq,ba,decide_eq_true_eq]at h;obtain⟨rfl,p,r⟩:=h;rw[e]at hge i;refine⟨by simp,rfl,fun a aA=>?_,fun a aA=>?_,fun a aA=>?_,⟨p,r⟩,fun a aA=>?_⟩;·obtain rfl:a=0:=ss aA;exact hge.1
    ·simp at aA
    ·simp at aA
    ·obtain rfl:a=0:=ss aA;exact⟨hge.2.1,i⟩
  ·rw[Hp k]at h;cases h
theorem Y6 {b:List Int×Int×Int×Int} (h:s0 r c d x=b) (a:b.2.2.2=0):b.1.length=r.length:=by
 subst h;unfold s0 at a ⊢;split;·rename_i f;rw[if_pos f]at a;simp at a
 ·rename_i f;rw[if_neg f]at a;split;·rename_i e;rw[if_pos e]at a;simp at a
  ·rename_i e;rw[if_neg e]at a;split;·rename_i g;rw[if_pos g]at a;simp at a
   ·rename_i g;rw[if_neg g]at a;split;·exact Cz _ _ _ _
    ·rename_i i;rw[if_neg i]at a;simp at a
theorem IG {b:Tm} {a q:Ps} (h:v1 b c d f a r x D=(some T,q,y)):q.bs.length=a.bs.length:=by
 unfold v1 at h;split at h;·cases h
 split at h;·cases h
 split at h;·cases h
 split at h;·cases h
 ·rename_i e;cases h;exact Y6 rfl (ss e)
structure kg (t:Tm) (l:List R5) (ps:List (Int×Int)) (day:Int) (s:RS):Prop where
 X:s.X.length=t.ts.length
 Y:s.Y.length=t.ts.length
 bs:s.p.bs.length=t.ts.length
 rs:s.rs.length=t.ts.length
 at':s.at'<=l.length
 o:s.o.length<ps.length
 lo:(ps.getD s.o.length (0,0)).1<=day
 hi:day<=(ps.getD s.o.length (0,0)).2
 rowX:∀k,k<t.ts.length->((s.X.getD k []).length:Int)=day-(ps.getD s.o.length (0,0)).1
 rowY:∀k,k<t.ts.length->((s.Y.getD k []).length:Int)=day-(ps.getD s.o.length (0,0)).1
theorem M6 (e:List R5) (f:Int):∀(d a:Nat) (c:Ps) (b:List Int),a<=(w1 e f d a c b).1/\(w1 e f d a c b).1<=a+d
 | 0,a,c,b=>⟨nr _,nr _⟩
 | d+1,a,c,b=>by
  unfold w1;split
  ·split;·exact⟨nr _,by omega⟩
   ·have:=M6 e f d (a+1) (pc c b (e.getD a Sk)).1 (pc c b (e.getD a Sk)).2.1;omega
  ·exact⟨nr _,by omega⟩
theorem KR (d:List R5) (f:Int):∀(e c:Nat) (b:Ps) (a:List Int),(w1 d f e c b a).2.1.bs.length=b.bs.length/\(w1 d f e c b a).2.2.1.length=a.length
 | 0,c,b,a=>⟨rfl,rfl⟩
 | e+1,c,b,a=>by
  unfold w1;split
  ·split;·exact⟨rfl,rfl⟩
   ·rename_i h;have g:=GJ (p:=b) (rs:=a) (x:=d.getD c Sk) rfl Jv;have:=KR d f e (c+1) (pc b a (d.getD c Sk)).1 (pc b a (d.getD c Sk)).2.1;rw[this.1,this.2,g.1,g.2];exact⟨rfl,rfl⟩
  ·exact⟨rfl,rfl⟩
theorem kg.ev {b:Tm} (h:kg b l P c s):kg b l P c (m2 l c s).1:=by have d:=M6 l c (l.length-s.at') s.at' s.p s.rs;have a:=KR l c (l.length-s.at') s.at' s.p s.rs;refine⟨h.X,h.Y,a.1.trans h.bs,a.2.trans h.rs,?_,h.o,h.lo,h.hi,h.rowX,h.rowY⟩;show(w1 l c (l.length-s.at') s.at' s.p s.rs).1<=_;have:=h.at';omega
theorem IN (a:List (List Int)) (b:List Int):(Bp a b).length=a.length:=by simp[Bp]
theorem RB {a:List (List Int)} (h:n<a.length):(Bp a r).getD n []=a.getD n []++[r.getD n 0]:=by simp[Bp,List.getD,h]
theorem kg.endOn {d:Tm} (h:kg d l P c s) (e:(P.getD s.o.length (0,0)).2≠c):kg d l P (c+1) (BF s):=by
 have g:=h.lo;have f:=h.hi;refine⟨(IN _ _).trans h.X,(IN _ _).trans h.Y,h.bs,h.rs,h.at',h.o,(show(P.getD s.o.length (0,0)).1<=c+1 by omega),(show c+1<=(P.getD s.o.length (0,0)).2 by omega),fun b a=>?_,fun b a=>?_⟩;·show((((Bp s.X s.p.bs).getD b []).length:Nat):Int)=_;rw[RB (by rw[h.X];exact a),la];have:=h.rowX b a;simp only[List.length_singleton,BF];omega
 ·show((((Bp s.Y s.rs).getD b []).length:Nat):Int)=_;rw[RB (by rw[h.Y];exact a),la];have:=h.rowY b a;simp only[List.length_singleton,BF];omega
theorem YJ {a:Tm} (h:(BK a l c d s).2=0):∃f q,(BK a l c d s).1={ s with p:=q,X:=List.replicate a.ts.length [],Y:=List.replicate a.ts.length [],o:=s.o++[f] }/\q.bs.length=s.p.bs.length:=by
 unfold BK at h ⊢;split;·rename_i e;rw[if_pos e]at h;exact absurd h e
 ·rename_i e;rw[if_neg e]at h;split;·rename_i b;rw[if_pos b]at h;exact absurd h b
  ·rename_i b;rw[if_neg b]at h;cases g:v1 a ((s.o.length:Int)+1) c d s.p s.rs (rc a.right a.ts s.X s.Y (BB l s.o c).1).1 (BB l s.o c).1 with
   | mk j i =>
    obtain⟨q,m⟩:=i;rw[g]at h;cases j with
    | none=>have k:=IB g;simp only at h;subst h;simp at k
    | some f=>exact⟨f,q,rfl,IG g⟩
theorem kg.endShut {O:Tm} (h:kg O l ji aU aw) (a:C6 c d ji) (p:aU<d) (fo:(ji.getD aw.o.length (0,0)).2=aU) (g:Int) (m:(BK O l g aU (BF aw)).2=0):kg O l ji (aU+1) (BK O l g aU (BF aw)).1:=by
 obtain⟨x,q,n,j⟩:=YJ m;rw[n];have i:=a.last;have b:aw.o.length+1<ji.length:=by
  rcases Nat.lt_or_ge (aw.o.length+1) ji.length with f | f;·exact f
  ·have r:=h.o;have o:ji.length-1=aw.o.length:=om;rw[o,fo]at i;omega
 have aK:=a.next aw.o.length b
 have e:=a.le (aw.o.length+1) b;have aX:(aw.o++[x]).length=aw.o.length+1:=by simp
 refine⟨by simp,by simp,j.trans h.bs,h.rs,h.at',?_,?_,?_,fun k b4=>?_,fun k b4=>?_⟩;·show(aw.o++[x]).length<_;omega
 ·show(ji.getD (aw.o++[x]).length (0,0)).1<=_;rw[aX,aK,fo];omega
 ·show _<=(ji.getD (aw.o++[x]).length (0,0)).2;rw[aX];rw[aK,fo]at e;exact e
 ·exact Nx
 ·exact Nx
theorem kg.rows {e:Tm} (h:kg e l P d s) (g:C6 c f P):∀a,a<e.ts.length->(s.X.getD a []).length<=4000000/\(s.Y.getD a []).length<=4000000:= fun a b=>by have k:=h.rowX a b;have i:=h.rowY a b;have m:=g.range _ h.o;have j:=h.hi;omega
theorem kg.first {O:Tm} (a:C6 O.start c ji):kg O l ji O.start (r1 O):=by
 have Z:=a.first
 have b:=a.le 0 a.pos;refine⟨by simp[r1],by simp[r1],by simp[r1],by simp[r1],Nat.zero_le _,a.pos,?_,?_,fun k b4=>?_,fun k b4=>?_⟩;·show(ji.getD 0 (0,0)).1<=_;omega
 ·show _<=(ji.getD 0 (0,0)).2;omega
 ·exact PN
 ·exact PN
theorem Ny {f:Program} {k n i:Code} (d e:Nat) (fO:d≠e) (g j:Act->World->Prop) (μ1:Act->World->Nat)
 (wL:findLabel k d=some (Code.seq .skip n)) (fX:findLabel k e=some (Code.seq .skip i))
 (s:∀aB w,g aB w->∀a:Nat->Act->World->Prop,n.wp f (w2 a Q) aB w)
 (p:∀aB w,j aB w->∀a:Nat->Act->World->Prop,(∀c b,g c b->a d c b)->(∀c b,j c b->μ1 c b<μ1 aB w->a e c b)->i.wp f (w2 a Q) aB w)
 (first:∀a:Nat->Act->World->Prop,(∀aB w,g aB w->a d aB w)->(∀aB w,j aB w->i.wp f (w2 a Q) aB w)->k.wp f (w2 a Q) aB w):(Code.scope k).wp f Q aB w:=by
 refine NJ (fun l aB w=>(l=d/\g aB w)\/(l=e/\j aB w)) (fun l aB w=>if l=d then 0 else μ1 aB w+1) (fun l=>if l=d then n else i) ?_ ?_ ?_;·exact OW
 ·intro l aB w J a o u;rcases J with⟨rfl,J⟩ | ⟨rfl,J⟩;·rw[if_pos rfl];exact s aB w J a
  ·rw[if_neg (Ne.symm fO)];exact p aB w J a (fun c b m=>o _ c b (.inl ⟨rfl,m⟩) (by rw[if_pos rfl,if_neg (Ne.symm fO)];exact Nat.succ_pos _)) (fun c b m r=>o _ c b (.inr ⟨rfl,m⟩) (by rw[if_neg (Ne.symm fO),if_neg (Ne.symm fO)];exact Nat.succ_lt_succ r))
 ·intro a J t;refine first a (fun aB w h=>J _ aB w (.inl ⟨rfl,h⟩)) (fun aB w h=>?_)
  have:=t e aB w (.inr ⟨rfl,h⟩);rwa [if_neg (Ne.symm fO)]at this
theorem yqi (a:List (Int×Int)) (i:Nat) (aA:i<a.length):(t5 a)[i*2]?=some (iV (a.getD i (0,0)).1)/\(t5 a)[i*2+1]?=some (iV (a.getD i (0,0)).2):=by
 induction a generalizing i with
 | nil=>simp at aA
 | cons b a ni=>have I:t5 (b::a)=iV b.1::iV b.2::t5 a:=rfl;exact OI
theorem L1 {e:Option Addr} (h:Fl 2 P.length w (.slice e n m) (t5 P)) (l:i<P.length) :
 ∃a b d c,e=some (Ad a b)/\(w.cell? (Ad a (b+i*2))=some (iV d)/\w.cell? (Ad a (b+i*2+1))=some (iV c))/\P.getD i (0,0)=(d,c):=by
 obtain⟨rfl,_⟩:=h.len;obtain⟨a,b,rfl,k⟩:=h.at (i:=i*2) om;obtain⟨_,_,g,j⟩:=h.at (i:=i*2+1) om;cases g;obtain⟨g0,f⟩:=yqi P i l;exact⟨a,b,_,_,rfl,⟨k.trans g0,by rw[Nat.add_assoc];exact j.trans f⟩,rfl⟩
theorem Dq (h:W.cell? (Ad n k)=some v) (a:n≠m):(W.setCell (Ad m i) u).cell? (Ad n k)=some v:=
 (World.cell?_of_block (w:=W) (a:=(Ad n k)) (heap_setCell_other W (Ad m i) n u (fun b=>a b))).trans h
theorem Rd.off {φ:World->Prop} (h:Rd F W φ) (o:∀k a,hC [n] k a->φ k->φ a) (b:hC [n] W Y) (g:n<W.heap.size):Rd F Y φ:= fun a d=>by
 have l:W.heap[n]?=some (W.heap[n]' g):=Array.getElem?_eq_getElem g;have p:W.heap.size<=a.heap.size:=nt b.size d.size
 let W3:World:={ a with heap:=a.heap.setIfInBounds n (W.heap[n]' g) }
 have m:hC F W W3:=⟨d.os.trans b.os,d.tape.trans b.tape,d.output.trans b.output,by show _<=(a.heap.setIfInBounds n _).size;simpa using p,fun c j e=>by
  show(a.heap.setIfInBounds n _)[c]?=_;by_cases i:n=c;·subst i;rw[Array.getElem?_setIfInBounds,if_pos rfl,if_pos om,l]
  ·rw[Array.getElem?_setIfInBounds,if_neg i,d.block c (Nat.lt_of_lt_of_le j b.size) e,b.block c j (by simp only[ms];exact fun f=>i f.symm)]⟩
 refine o W3 a ⟨rfl,rfl,rfl,by show(a.heap.setIfInBounds n _).size<=_;simp,fun c _ e=>?_⟩ (h W3 m);show _=(a.heap.setIfInBounds n _)[c]?;rw[Array.getElem?_setIfInBounds,if_neg (by simp only[ms]at e;exact fun f=>e f.symm)]
theorem BG.off {b:List (List Int)} (h:BG F W n v b k C) (c:∀f∈F,n<=f) (d:hC [m] W Y) (i:m<n):BG F Y n v b k C:=
 ⟨h.val,h.blk.keep d (by simp only[ms];have:=c k h.bF;omega),h.len,fun e a=>p1 (h.rows e a) d (fun q g=>by simp only[ms];have:=c q (h.inF e a q g);omega),h.bF,h.inF⟩
theorem p4.off {t:Tm} {u:RV} (h:p4 n m t l c s F W u) (H:k+1=n) (b:hC [k] W Y):p4 n m t l c s F Y u:=by
 have i:∀d∈F,n<=d:=fun d g=>(h.lt d g).1;have I:=h.lt m h.gF;have A:n-1=k:=om;have y:k<W.heap.size:=om;have j:∀a,Hi n a->hL [k] a:=fun a o v x B E G C D=>by have J:=o v x B E G C;simp only[ms]at D;omega
 have p:=h.hi.2.2.2.1;have r:=h.hi.2.2.2.2;rw[A]at p r;refine⟨h.blk.keep b Ic,h.gF,fun d g=>⟨(h.lt d g).1,Nat.lt_of_lt_of_le (h.lt d g).2 b.size⟩,h.rd.off (fun K L e f=>⟨f.1.keep e p,f.2.1.keep e r,f.2.2.1.keep e (j _ h.hi.1),f.2.2.2.1.keep e (j _ h.hi.2.1),f.2.2.2.2.keep e (fun a o=>j a (h.hi.2.2.1 a o))⟩) b y,
  h.X.off i b om,h.Y.off i b om,h.ne,h.dx,h.dy,h.dxy,p1 h.o b (fun q z=>by simp only[ms];have:=i q (h.outF q z);omega),h.outF,h.hi⟩
theorem Y3 (a:Nat) (g:a<=1000) (w:World):(Instr.makeSlice 33 (iV (a:Int)) (iV (a:Int))).run prog w=.ok (sL w.heap.size 0 a a) (w.alloc (.cells (Array.replicate a (iZ)) 2)):=by
 obtain⟨b,e,c,d,er⟩:=info_parts Ch;have h:=run_make (P:=prog) w 33 2 b (iZ) underlying33 e c .i64 .i64 a a om (Int.le_refl _) BE om;rw[h];have f:madeCells (iZ).cells ((a:Int).toNat*b.size)=Array.replicate a (iZ):=by rw[d,Nat.mul_one,Int.toNat_natCast];exact Array.ext' (by rw[show(iZ).cells=#[iZ] from rfl,toList_madeCells_one];simp)
 rw[f];simp
theorem Fl.blt (h:Fl n m w v C) (c:0<n) (e:v=sL k j g M) (d:0<g):k<w.heap.size:=by subst e;obtain⟨rfl,_⟩:=h.len;have a:=Nat.mul_pos d c;obtain⟨o,l,f,b⟩:=h.at (i:=0) a;cases f;rw[List.getElem?_eq_getElem (by rw[h.1];exact a)]at b;exact ht b
theorem h7.keepW {a:List (Int×Bool)} (h:h7 w v a) (c:BW w W) (b:hC [n] W Y) (f:w.heap.size<=n):h7 Y v a:=
 (h.B c).keep b (Fl.offNew h.fl om (fun e d=>by simp only[ms]at d;omega))
def LW (a:Rn) (w:World) (i:Ending) (b:World):Prop :=
 ∃e d c f,i=.returned (.tuple #[.agg #[e,iV a.p.c,iV a.p.d],d,c,iV a.e])/\Sl .i64 b e a.p.bs/\Sl .i64 b d a.rs/\s4 b c a.o f/\(Fr w e/\Fr w d/\Fr w c/\∀g∈f,Fr w g)/\BW w b
def Uh (a:Act) (w:World):Option Value:=match (a.tmps[14]?:Option Value) with
 | some (Value.pointer (some p))=>w.cell? ⟨p.block,9,none⟩
 | _=>none
def Fq (a:Int):Option Value->Nat
 | some (.int _ d)=>(a-d).toNat
 | _=>0
def C1 (a:RS×Int):Rn:=if a.2≠0 then Ca a.2 else ⟨a.1.p,a.1.rs,a.1.o,0⟩
theorem ywi {a:Tm} (h:(m2 l c s).2≠0):uc a l P n c s=m2 l c s:=by
 cases n with
 | zero=>rfl
 | succ n=>unfold uc;rw[if_pos h]
theorem XN {a:Tm} (b:(m2 l c s).2=0) (h:(q6 a l P c (m2 l c s).1).2≠0):uc a l P (n+1) c s=q6 a l P c (m2 l c s).1:=by rw[uc,if_neg (by rw[b];simp),if_pos h]
theorem Vh {a:Tm} (b:(m2 l c s).2=0) (h:(q6 a l P c (m2 l c s).1).2=0):uc a l P (n+1) c s=uc a l P n (c+1) (q6 a l P c (m2 l c s).1).1:=by rw[uc,if_neg (by rw[b];simp),if_neg (by rw[h];simp)]
theorem ND (h:q:=by have bf:a7.cell? (Ad g 9)=some (iV aU):=aV.blk.cell 9;rw[aX,bf];show(dW-(aU+1)).toNat<(dW-aU).toNat;have:=lw.1;omega):q:=h
theorem Kb (h:q:=by have Z:=tO.o;rw[tP.1,Vh (by rw[mB.o]) (by rw[mB.o];simp only;rw[qv.o]),mB.o]at Z;simp only at Z;rw[qv.o]at Z;exact Z):q:=h
theorem Qx (h:q:=by have dX:=fN.o;have fH:=jh.size;refine⟨_,rfl,hR aT _ _ _ rfl,(jI.B jh.o).B (hB bR _),(eX.B jh.o).B (hB bR _),(tQ.B jh.o).B (hB bR _),?_,hB (hJ eb.o jh.o) _,by show _<=_;omega,by show _=_;simp⟩;exact ic (E0 px.o (by first | (rw[wd];omega) | omega)) (hB bR _)):q:=h
theorem Re (h:q:=by obtain⟨rfl,fU,dc,cX⟩:=J;have eq:=fU.o;subst eq;obtain⟨aI,aN,aL,-⟩:=dc.cS [0,1,2];obtain⟨qf,qg,qh,-⟩:=dc.fs [0,1,2];have tR:=dc.lt;go_wp2_with fail;refine bodyPost_ret (v:=.tuple #[.agg #[sZ,iZ,iZ],sZ,sZ,iV I]) (by simp[results,results54,go_sem,aI,aN,aL]) rfl ⟨_,_,_,[],rfl,Sl.nil,Sl.nil,⟨trivial,Fl.nil⟩,⟨x0,x0,x0,by simp⟩,k1 (k1 (k1 cX.o om) om) om⟩):q:=h
theorem Ui (O:Tm) (H d4) (l:List R5) (dW:Int) (a4:Hd (Cl O l dW)) (eV:Hd (Asc l)) (a:List (Int×Int)) (dB:Hd ((p6 O.cyc dW 300 O.start).1=a)) (ai:RS×Int) (fa:Hd (vo O l dW=ai)) (e8:Rn) (dv:Hd (h6 O l dW=e8)) (w) (e1:h7 w H O.ts) (eD:h4 w d4 l) :
 Calls prog 54 #[.agg (O.cells H).toArray,d4,iV dW,.agg #[.nilFunc,.nilFunc,.nilFunc]] w (LW e8 w):=by
 have dd:=lh e1;have dN:=lh eD;obtain⟨bH,bC,rfl⟩:=e1.shape;obtain⟨gX,gO,rfl⟩:=eD.shape;clear e1 eD;have ay:Hd (1<=O.ts.length/\O.ts.length<=1000):=by have Z:=CT a4.terms;show _/\_;omega
 unfold Tm.cells;go_enter func54,ntmps54;go_wp2_with fail;by_cases s:Bv O dW=0
 ·have rz:Hd (C6 O.start dW a):=by
   unfold Bv at s;split at s;·cases s
   ·split at s;·cases s
    ·rename_i Z ag;have ab:(tt O.start O.cyc dW).2=0:=ss ag;unfold tt at ab;split at ab;·rename_i dX;exact absurd ab dX
     ·split at ab;·rename_i fH;refine KC 300 (f:=O.start) (cyc:=O.cyc) ?_;rw[<-dB.o];exact Prod.ext rfl fH
      ·cases ab
  have gf:Hd (a.length<=300):=by rw[<-dB.o];exact H6 _ _ _ _
  have e0:Hd (C1 ai=e8):=by rw[<-dv.o];unfold h6 C1;rw[LP a4.o,s,fa.o];rfl
  refine Ny 0 1 Iv (fun cd G=>∃(I:Int) (bj bs ef c4 cu cD bO bT cH cr bh d9 dJ dO aB a' aD aF bz bD aE bK c0 cm be c7 bl aA cj aR cK cw ct ce cA aQ c3 cz b8 aW aH c5 ca cf b' br cp bx aP b1 bG bX cO bY cy cF bU cN aO c8 bA cG cQ aY aS cC cs bt bE bS bJ b2 c2 bp b6 aK cn co b7 bw bo ck bv cP bV cq aJ cc aZ ci bI b9 bg bu b0 cb bd cl bB bZ c9 bW c1 b4 bP ch bF b5 a9 bb aC cx bm cJ aG bq bi aM:Value),cd={ tmps:=#[bj,bs,ef,c4,cu,cD,bO,bT,pV (w.heap.size+1+1),cH,cr,bh,d9,dJ,dO,iV I,aB,a',aD,aF,bz,bD,aE,bK,c0,cm,be,c7,bl,aA,cj,aR,cK,cw,ct,ce,cA,aQ,c3,cz,b8,aW,aH,c5,ca,cf,b',br,cp,bx,aP,b1,bG,bX,cO,bY,cy,cF,bU,cN,aO,c8,bA,cG,cQ,aY,aS,cC,cs,bt,bE,bS,bJ,b2,c2,bp,b6,aK,cn,co,b7,bw,bo,ck,bv,cP,bV,cq,aJ,cc,aZ,ci,bI,b9,bg,bu,b0,cb,bd,cl,bB,bZ,c9,bW,c1,b4,bP,ch,bF,b5,a9,bb,aC,cx,bm,cJ,aG,bq,bi,aM],defers:=[] }/\Hd (e8=Ca I)/\Hd (hA G (w.heap.size+1+1) 35 [sZ,iZ,iZ])/\Hd (BW w G)) (fun cd G=>∃(u g:Nat) (aU:Int) (d:RS) (dg:List Nat) (V:RV) (d3:Value) (j:Nat) (bj bs c4 cu cD bO bT cH cr bh gv aB a' aD aF bz bD aE bK c0 cm be c7 bl aA cj aR cK cw ct ce cA aQ c3 cz b8 aW aH c5 ca cf b' br cp bx aP b1 bG bX cO bY cy cF bU cN aO c8 bA cG cQ aY aS cC cs bt bE bS bJ b2 c2 bp b6 aK cn co b7 bw bo ck bv cP bV cq aJ cc aZ ci bI b9 bg bu b0 cb bd cl bB bZ c9 bW c1 b4 bP ch bF b5 a9 bb aC cx bm cJ aG bq bi aM:Value),cd={ tmps:=#[bj,bs,iV dW,c4,cu,cD,bO,bT,pV (w.heap.size+1+1),cH,cr,bh,d3,pV j,pV g,gv,aB,a',aD,aF,bz,bD,aE,bK,c0,cm,be,c7,bl,aA,cj,aR,cK,cw,ct,ce,cA,aQ,c3,cz,b8,aW,aH,c5,ca,cf,b',br,cp,bx,aP,b1,bG,bX,cO,bY,cy,cF,bU,cN,aO,c8,bA,cG,cQ,aY,aS,cC,cs,bt,bE,bS,bJ,b2,c2,bp,b6,aK,cn,co,b7,bw,bo,ck,bv,cP,bV,cq,aJ,cc,aZ,ci,bI,b9,bg,bu,b0,cb,bd,cl,bB,bZ,c9,bW,c1,b4,bP,ch,bF,b5,a9,bb,aC,cx,bm,cJ,aG,bq,bi,aM],defers:=[] }/\Hd (p4 u g O l aU d dg G V)/\Hd (kg O l a aU d)/\(O.start<=aU/\aU<=dW)/\Hd (uc O l a (dW-aU).toNat aU d=ai)/\Hd (Rd dg G (fun W=>Fl 2 a.length W d3 (t5 a)))/\Hd (hA G (w.heap.size+1+1) 35 [sZ,iZ,iZ]/\(w.heap.size+1+1)∉dg)/\Hd (∃e y,hA G j 40 [iV e,iV y])/\Hd (j∉dg/\w.heap.size<=j/\w.heap.size+1+1<u/\j+1=u/\hL [j] d3)/\Hd (BW w G)) (fun cd G=>Fq dW (Uh cd G)) rfl rfl ?pass0 ?pass1 ?first
  case pass0=>intro dI a7 J d';obtain⟨I,J⟩:=J;obtain⟨bj,J⟩:=J;obtain⟨bs,J⟩:=J;obtain⟨ef,J⟩:=J;obtain⟨c4,J⟩:=J;obtain⟨cu,J⟩:=J;obtain⟨cD,J⟩:=J;obtain⟨bO,J⟩:=J;obtain⟨bT,J⟩:=J;obtain⟨cH,J⟩:=J;obtain⟨cr,J⟩:=J;obtain⟨bh,J⟩:=J;obtain⟨d9,J⟩:=J;obtain⟨dJ,J⟩:=J;obtain⟨dO,J⟩:=J;obtain⟨aB,J⟩:=J;obtain⟨a',J⟩:=J;obtain⟨aD,J⟩:=J;obtain⟨aF,J⟩:=J;obtain⟨bz,J⟩:=J;obtain⟨bD,J⟩:=J;obtain⟨aE,J⟩:=J;obtain⟨bK,J⟩:=J;obtain⟨c0,J⟩:=J;obtain⟨cm,J⟩:=J;obtain⟨be,J⟩:=J;obtain⟨c7,J⟩:=J;obtain⟨bl,J⟩:=J;obtain⟨aA,J⟩:=J;obtain⟨cj,J⟩:=J;obtain⟨aR,J⟩:=J;obtain⟨cK,J⟩:=J;obtain⟨cw,J⟩:=J;obtain⟨ct,J⟩:=J;obtain⟨ce,J⟩:=J;obtain⟨cA,J⟩:=J;obtain⟨aQ,J⟩:=J;obtain⟨c3,J⟩:=J;obtain⟨cz,J⟩:=J;obtain⟨b8,J⟩:=J;obtain⟨aW,J⟩:=J;obtain⟨aH,J⟩:=J;obtain⟨c5,J⟩:=J;obtain⟨ca,J⟩:=J;obtain⟨cf,J⟩:=J;obtain⟨b',J⟩:=J;obtain⟨br,J⟩:=J;obtain⟨cp,J⟩:=J;obtain⟨bx,J⟩:=J;obtain⟨aP,J⟩:=J;obtain⟨b1,J⟩:=J;obtain⟨bG,J⟩:=J;obtain⟨bX,J⟩:=J;obtain⟨cO,J⟩:=J;obtain⟨bY,J⟩:=J;obtain⟨cy,J⟩:=J;obtain⟨cF,J⟩:=J;obtain⟨bU,J⟩:=J;obtain⟨cN,J⟩:=J;obtain⟨aO,J⟩:=J;obtain⟨c8,J⟩:=J;obtain⟨bA,J⟩:=J;obtain⟨cG,J⟩:=J;obtain⟨cQ,J⟩:=J;obtain⟨aY,J⟩:=J;obtain⟨aS,J⟩:=J;obtain⟨cC,J⟩:=J;obtain⟨cs,J⟩:=J;obtain⟨bt,J⟩:=J;obtain⟨bE,J⟩:=J;obtain⟨bS,J⟩:=J;obtain⟨bJ,J⟩:=J;obtain⟨b2,J⟩:=J;obtain⟨c2,J⟩:=J;obtain⟨bp,J⟩:=J;obtain⟨b6,J⟩:=J;obtain⟨aK,J⟩:=J;obtain⟨cn,J⟩:=J;obtain⟨co,J⟩:=J;obtain⟨b7,J⟩:=J;obtain⟨bw,J⟩:=J;obtain⟨bo,J⟩:=J;obtain⟨ck,J⟩:=J;obtain⟨bv,J⟩:=J;obtain⟨cP,J⟩:=J;obtain⟨bV,J⟩:=J;obtain⟨cq,J⟩:=J;obtain⟨aJ,J⟩:=J;obtain⟨cc,J⟩:=J;obtain⟨aZ,J⟩:=J;obtain⟨ci,J⟩:=J;obtain⟨bI,J⟩:=J;obtain⟨b9,J⟩:=J;obtain⟨bg,J⟩:=J;obtain⟨bu,J⟩:=J;obtain⟨b0,J⟩:=J;obtain⟨cb,J⟩:=J;obtain⟨bd,J⟩:=J;obtain⟨cl,J⟩:=J;obtain⟨bB,J⟩:=J;obtain⟨bZ,J⟩:=J;obtain⟨c9,J⟩:=J;obtain⟨bW,J⟩:=J;obtain⟨c1,J⟩:=J;obtain⟨b4,J⟩:=J;obtain⟨bP,J⟩:=J;obtain⟨ch,J⟩:=J;obtain⟨bF,J⟩:=J;obtain⟨b5,J⟩:=J;obtain⟨a9,J⟩:=J;obtain⟨bb,J⟩:=J;obtain⟨aC,J⟩:=J;obtain⟨cx,J⟩:=J;obtain⟨bm,J⟩:=J;obtain⟨cJ,J⟩:=J;obtain⟨aG,J⟩:=J;obtain⟨bq,J⟩:=J;obtain⟨bi,J⟩:=J;obtain⟨aM,J⟩:=J;exact Re
  case pass1 =>
   intro dI a7 J d' a3 fy;obtain⟨u,g,aU,d,dg,V,d3,j,J⟩:=J;obtain⟨bj,J⟩:=J;obtain⟨bs,J⟩:=J;obtain⟨c4,J⟩:=J;obtain⟨cu,J⟩:=J;obtain⟨cD,J⟩:=J;obtain⟨bO,J⟩:=J;obtain⟨bT,J⟩:=J;obtain⟨cH,J⟩:=J;obtain⟨cr,J⟩:=J;obtain⟨bh,J⟩:=J;obtain⟨_,J⟩:=J;obtain⟨aB,J⟩:=J;obtain⟨a',J⟩:=J;obtain⟨aD,J⟩:=J;obtain⟨aF,J⟩:=J;obtain⟨bz,J⟩:=J;obtain⟨bD,J⟩:=J;obtain⟨aE,J⟩:=J;obtain⟨bK,J⟩:=J;obtain⟨c0,J⟩:=J;obtain⟨cm,J⟩:=J;obtain⟨be,J⟩:=J;obtain⟨c7,J⟩:=J;obtain⟨bl,J⟩:=J;obtain⟨aA,J⟩:=J;obtain⟨cj,J⟩:=J;obtain⟨aR,J⟩:=J;obtain⟨cK,J⟩:=J;obtain⟨cw,J⟩:=J;obtain⟨ct,J⟩:=J;obtain⟨ce,J⟩:=J;obtain⟨cA,J⟩:=J;obtain⟨aQ,J⟩:=J;obtain⟨c3,J⟩:=J;obtain⟨cz,J⟩:=J;obtain⟨b8,J⟩:=J;obtain⟨aW,J⟩:=J;obtain⟨aH,J⟩:=J;obtain⟨c5,J⟩:=J;obtain⟨ca,J⟩:=J;obtain⟨cf,J⟩:=J;obtain⟨b',J⟩:=J;obtain⟨br,J⟩:=J;obtain⟨cp,J⟩:=J;obtain⟨bx,J⟩:=J;obtain⟨aP,J⟩:=J;obtain⟨b1,J⟩:=J;obtain⟨bG,J⟩:=J;obtain⟨bX,J⟩:=J;obtain⟨cO,J⟩:=J;obtain⟨bY,J⟩:=J;obtain⟨cy,J⟩:=J;obtain⟨cF,J⟩:=J;obtain⟨bU,J⟩:=J;obtain⟨cN,J⟩:=J;obtain⟨aO,J⟩:=J;obtain⟨c8,J⟩:=J;obtain⟨bA,J⟩:=J;obtain⟨cG,J⟩:=J;obtain⟨cQ,J⟩:=J;obtain⟨aY,J⟩:=J;obtain⟨aS,J⟩:=J;obtain⟨cC,J⟩:=J;obtain⟨cs,J⟩:=J;obtain⟨bt,J⟩:=J;obtain⟨bE,J⟩:=J;obtain⟨bS,J⟩:=J;obtain⟨bJ,J⟩:=J;obtain⟨b2,J⟩:=J;obtain⟨c2,J⟩:=J;obtain⟨bp,J⟩:=J;obtain⟨b6,J⟩:=J;obtain⟨aK,J⟩:=J;obtain⟨cn,J⟩:=J;obtain⟨co,J⟩:=J;obtain⟨b7,J⟩:=J;obtain⟨bw,J⟩:=J;obtain⟨bo,J⟩:=J;obtain⟨ck,J⟩:=J;obtain⟨bv,J⟩:=J;obtain⟨cP,J⟩:=J;obtain⟨bV,J⟩:=J;obtain⟨cq,J⟩:=J;obtain⟨aJ,J⟩:=J;obtain⟨cc,J⟩:=J;obtain⟨aZ,J⟩:=J;obtain⟨ci,J⟩:=J;obtain⟨bI,J⟩:=J;obtain⟨b9,J⟩:=J;obtain⟨bg,J⟩:=J;obtain⟨bu,J⟩:=J;obtain⟨b0,J⟩:=J;obtain⟨cb,J⟩:=J;obtain⟨bd,J⟩:=J;obtain⟨cl,J⟩:=J;obtain⟨bB,J⟩:=J;obtain⟨bZ,J⟩:=J;obtain⟨c9,J⟩:=J;obtain⟨bW,J⟩:=J;obtain⟨c1,J⟩:=J;obtain⟨b4,J⟩:=J;obtain⟨bP,J⟩:=J;obtain⟨ch,J⟩:=J;obtain⟨bF,J⟩:=J;obtain⟨b5,J⟩:=J;obtain⟨a9,J⟩:=J;obtain⟨bb,J⟩:=J;obtain⟨aC,J⟩:=J;obtain⟨cx,J⟩:=J;obtain⟨bm,J⟩:=J;obtain⟨cJ,J⟩:=J;obtain⟨aG,J⟩:=J;obtain⟨bq,J⟩:=J;obtain⟨bi,J⟩:=J;obtain⟨aM,J⟩:=J;obtain⟨rfl,aV,dC,dP,tO,fK,eX,tQ,D,cX⟩:=J;have d0:=lh a3;have f9:=lh fy;clear a3 fy;obtain⟨kk,b,A,a2,fE⟩:∃kk b A a2,w1 l aU (l.length-d.at') d.at' d.p d.rs=(kk,b,A,a2):=⟨_,_,_,_,rfl⟩;have el:=lh fE;clear fE;go_wp2_with fail;refine(ZF u g O l aU d dg V (oo a4.len) dC.at' (by rw[dC.bs];exact ay.2) (by rw[dC.rs];exact ay.2) kk b A a2 el _ aV.o).mono ?_;rintro _ an ⟨rfl,fr,eU,Z,eO⟩;have o:=lh Z;have dV:=lh eO;have cT:=lh (dV.blk eX.1 eX.2);have gq:=lh (dV.rd fK.o);have gl:Hd ((∃e y,hA an j 40 [iV e,iV y])/\j∉fr):=by obtain⟨e,y,au⟩:=tQ.o;have:=dV.blk au D.1;exact⟨⟨e,y,this.1⟩,this.2⟩
   have eb:Hd (BW w an):=cX.trans (dV.keep.to_below cX.size (fun e c=>by have Z:=(aV.lt e c).1;have ag:=D.2.2.1;omega));have iI:Hd (kg O l a aU (⟨kk,b,A,d.X,d.Y,d.o⟩:RS)):=by have h:=dC.ev;unfold m2 at h;rw[el.o]at h;exact h
   have mB:Hd (m2 l aU d=((⟨kk,b,A,d.X,d.Y,d.o⟩:RS),a2)):=by show _=_;unfold m2;rw[el.o]
   clear Z eO;by_cases ds:a2=0
   ·subst ds;by_cases cY:aU=dW
    ·have g7:(aU == dW)=true:=ss cY;have f3:ai=((⟨kk,b,A,d.X,d.Y,d.o⟩:RS),0):=by
      rw[<-tO.o,cY,Int.sub_self];show m2 l dW d=_;rw[<-cY];exact mB.o
     have gd:=lh f3;clear cY f3 dP;obtain⟨H,d4,ad,aj,am,ae,cI,ah,af,M,aw,T⟩:=eU;obtain⟨a0,a1,rfl⟩:=o.rd.now.2.2.1.shape;obtain⟨cv,B,rfl⟩:=o.rd.now.2.2.2.1.shape;obtain⟨R,P,rfl⟩:=o.sts.shape;have dx:an.cell? (Ad g 9)=some (iV aU):=o.blk.cell 9;have ax:=o.blk.lt;have dw:g≠w.heap.size+1+1:=fun I=>cT.2 (I▸o.gF);have eJ:Hd (∀W',BW an W'->(Ce W' g 10 (.slice a0 b.bs.length a1)/\Ce W' g 11 (iV b.c)/\Ce W' g 12 (iV b.d))/\Ce W' g 13 (.slice cv A.length B)/\Ce W' g 16 (.slice R d.o.length P)):=fun W' au=>by have q:=o.blk.B au;exact⟨⟨q.cell 10,q.cell 11,q.cell 12⟩,q.cell 13,q.cell 16⟩
     have fm:=eJ.o an.drew (hG bR);obtain⟨fJ,g4,g5,-⟩:=cT.1.cS [0,1,2];obtain⟨gK,gU,gG,-⟩:=cT.1.fs [0,1,2];have ew:Hd (∀(W':World) (i:Nat) (ak:Value),((Ce W' g 10 (.slice a0 b.bs.length a1)/\Ce W' g 11 (iV b.c)/\Ce W' g 12 (iV b.d))/\Ce W' g 13 (.slice cv A.length B)/\Ce W' g 16 (.slice R d.o.length P))->(((W'.setCell (Ad (w.heap.size+1+1) i) ak).cell? (Ad g 10)=some (.slice a0 b.bs.length a1)/\(W'.setCell (Ad (w.heap.size+1+1) i) ak).cell? (Ad g 11)=some (iV b.c)/\(W'.setCell (Ad (w.heap.size+1+1) i) ak).cell? (Ad g 12)=some (iV b.d))/\(W'.setCell (Ad (w.heap.size+1+1) i) ak).cell? (Ad g 13)=some (.slice cv A.length B)/\(W'.setCell (Ad (w.heap.size+1+1) i) ak).cell? (Ad g 16)=some (.slice R d.o.length P))):=fun W' i ak h =>
      ⟨⟨Dq h.1.1 dw,Dq h.1.2.1 dw,Dq h.1.2.2 dw⟩,Dq h.2.1 dw,Dq h.2.2 dw⟩
     have dl:=ew.o _ 0 (.slice a0 b.bs.length a1) (eJ.o an bR);have f6:=ew.o _ 1 (iV b.c) dl;have ei:=ew.o _ 2 (iV b.d) f6;have f7:(fun (W':World)=>(Ce W' g 10 (.slice a0 b.bs.length a1)/\Ce W' g 11 (iV b.c)/\Ce W' g 12 (iV b.d))/\Ce W' g 13 (.slice cv A.length B)/\Ce W' g 16 (.slice R d.o.length P)) (((an.setCell (Ad (w.heap.size+1+1) 0) (.slice a0 b.bs.length a1)).setCell (Ad (w.heap.size+1+1) 1) (iV b.c)).setCell (Ad (w.heap.size+1+1) 2) (iV b.d)).drew:=ei;have jm:=lh ei;have fM:=lh f7;clear dl f6 ei f7;go_upto_region 17 with fail;clear dx;go_region_held3 (fun W'=>(Ce W' g 10 (.slice a0 b.bs.length a1)/\Ce W' g 11 (iV b.c)/\Ce W' g 12 (iV b.d))/\Ce W' g 13 (.slice cv A.length B)/\Ce W' g 16 (.slice R d.o.length P)) (first | with_reducible exact fm | exact jm.o | exact fM.o) (fail);go_wp2_with fail;simp only[w2];have gA:e8=⟨b,A,d.o,0⟩:=by rw[<-e0.o];unfold C1;rw[gd.o];simp
     subst gA;have d8:∀ak,Hi u ak->hL [w.heap.size+1+1] ak:=fun ak bc z x v a6 I dh dT=>by have Z:=bc z x v a6 I dh;have ag:=D.2.2.1;simp only[ms]at dT;omega
     have dF:∀ak,Hi u ak->Fr w ak:=fun ak bc z x v a6 I dh=>by have Z:=bc z x v a6 I dh;have ag:=D.2.2.1;omega
     have fj:Hi u (.slice R d.o.length P):=fun z x v a6 I _=>BY o.o.o z x v a6 I;have az:hC [w.heap.size+1+1] an (((an.setCell (Ad (w.heap.size+1+1) 0) (.slice a0 b.bs.length a1)).setCell (Ad (w.heap.size+1+1) 1) (iV b.c)).setCell (Ad (w.heap.size+1+1) 2) (iV b.d)).drew:=hC.drew ((((hC.refl _ _).sg _).sg _).sg _);have c6:=o.rd.now;refine bodyPost_ret (v:=.tuple #[.agg #[.slice a0 b.bs.length a1,iV b.c,iV b.d],.slice cv A.length B,.slice R d.o.length P,iZ]) (by simp[results,results54,go_sem,fJ,g4,g5]) rfl ⟨_,_,_,T,rfl,c6.2.2.1.keep az (d8 _ o.hi.1),c6.2.2.2.1.keep az (d8 _ o.hi.2.1),⟨c6.2.2.2.2.keep az (fun ak bc=>d8 ak (o.hi.2.2.1 ak bc)),(Fl.of_own o.o.o c6.2.2.2.2.one).keep az (d8 _ fj)⟩,⟨dF _ o.hi.1,dF _ o.hi.2.1,dF _ fj,fun ak bc=>dF ak (o.hi.2.2.1 ak bc)⟩,hG (k1 (k1 (k1 eb.o om) om) om)⟩
    ·have g7:(aU == dW)=false:=ss cY;have fF:aU<dW:=om;obtain⟨di,fB⟩:∃di:Nat,(dW-aU).toNat=di+1:=⟨(dW-aU).toNat-1,by omega⟩;have eT:(dW-(aU+1)).toNat=di:=om;have tP:=lh (An fB eT);have lw:=lh (An fF dP);obtain⟨n,dl⟩:∃n:RS,(⟨kk,b,A,d.X,d.Y,d.o⟩:RS)=n:=⟨_,rfl⟩;rw[dl]at o iI mB;have dx:an.cell? (Ad g 9)=some (iV aU):=o.blk.cell 9;have ax:=o.blk.lt;clear dl cY fB eT fF dP;go_wp2_with fail;have eu:=iI.rows rz.o;refine(yym u g O l aU n fr eU O.ts.length iI.X iI.Y iI.bs iI.rs ay.2 (fun k az=>oo ((eu k az).1)) (fun k az=>oo ((eu k az).2)) _ o.o).mono ?_;rintro _ dj ⟨rfl,L,gw,ag,eR⟩;have du:=lh ag;have dY:=lh eR;have dD:=lh (dY.blk cT.1 cT.2);have ep:=lh (dY.rd gq.o);obtain⟨⟨gL,gH,fG⟩,f1⟩:=gl.o;have e3:=dY.blk fG f1;have db:=lh e3.1;have eS:=lh e3.2;have gm:Hd (BW w dj):=eb.trans (dY.keep.to_below eb.size (fun e c=>by have Z:=(o.lt e c).1;have ag:=D.2.2.1;omega));clear ag eR eu fG f1 e3 dx ax;obtain⟨gQ,b3,rfl⟩:=ep.now.shape;obtain⟨sb,e4,a8,Q,rfl,⟨g3,bQ⟩,eI⟩:=L1 ep.now (i:=n.o.length) iI.o.o;have dK:=lh eI;have fk:(n.o.length:Int)<a.length:=oo iI.o.o;have fw:(0:Int)<=(n.o.length:Int):=om;obtain⟨H,d4,ad,aj,am,ae,cI,ah,af,M,aw,T⟩:=gw;have fn:=du.sts.shape;simp only[BF]at fn;obtain⟨R,P,rfl⟩:=fn;have fO:dj.cell? (Ad g 16)=some (.slice R n.o.length P):=du.blk.cell 16;have ax:=du.blk.lt;obtain⟨dp,dk,-⟩:=db.cS [0,1];obtain⟨gj,gE,-⟩:=db.fs [0,1];have tR:=db.lt;clear eI;go_upto_region 20 with fail;obtain⟨ac,fo,ek,fC,f0,et,f5⟩:∃ac,(dj.setCell (Ad j 0) (iV a8)).setCell (Ad j 1) (iV Q)=ac/\Hd (p4 u g O l aU (BF n) L ac { tv:=H,lv:=d4,pv:=ad,rv:=aj,xv:=am,yv:=ae,ov:=.slice R n.o.length P,bx:=ah,bz:=af,xs:=M,ys:=aw,vs:=T })/\Hd (hA ac (w.heap.size+1+1) 35 [sZ,iZ,iZ])/\Hd (Rd L ac (fun W=>Fl 2 a.length W (sL sb e4 a.length b3) (t5 a)))/\Hd (hA ac j 40 [iV a8,iV Q])/\Hd (BW w ac):=by
      have az:hC [j] dj ((dj.setCell (Ad j 0) (iV a8)).setCell (Ad j 1) (iV Q)):=((hC.refl _ _).sg _).sg _;refine⟨_,rfl,du.off D.2.2.2.1 az,dD.1.keep az (by simp only[ms];exact n3 dD.1 db.o Iv),ep.off (fun bN gR Z ag=>ag.keep Z D.2.2.2.2) az db.lt,(db.set 0 _).set 1 _,k1 (k1 gm.o D.2.1) D.2.1⟩
     with_reducible rw[fo]
     clear fo dp dk gj gE fO g3 bQ;have g2:Hd (∀W',BW ac W'->Ce W' j 1 (iV Q)/\Ce W' g 9 (iV aU)):=fun W' au=>⟨(et.B au).cell 1,(ek.blk.B au).cell 9⟩;have fm:=g2.o ac.drew (hG bR);clear ax tR;by_cases c':Q=aU
     ·have gr:(Q == aU)=true:=ss c';obtain⟨cV,fe⟩:=xg (BK O l a8 aU (BF n));have dQ:=lh fe;have da:=lh c';clear fe c';go_region_held3 (fun W'=>Ce W' j 1 (iV Q)/\Ce W' g 9 (iV aU)) (first | with_reducible exact fm) (fail);obtain⟨m,dz,C,dL,er,dr,eg⟩:∃m,ac.drew=m/\Hd (p4 u g O l aU (BF n) L m { tv:=H,lv:=d4,pv:=ad,rv:=aj,xv:=am,yv:=ae,ov:=.slice R n.o.length P,bx:=ah,bz:=af,xs:=M,ys:=aw,vs:=T })/\Hd (hA m (w.heap.size+1+1) 35 [sZ,iZ,iZ])/\Hd (Rd L m (fun W=>Fl 2 a.length W (sL sb e4 a.length b3) (t5 a)))/\Hd (hA m j 40 [iV a8,iV Q])/\Hd (BW w m) :=
       ⟨_,rfl,ek.B (hG bR),fC.B (hG bR),f0.B (hG bR) (fun e c=>.inl c),et.B (hG bR),hG f5.o⟩
      with_reducible rw[dz]
      clear dz;obtain⟨dp,dk,-⟩:=dr.cS [0,1];go_wp2_with fail;refine(Yf u g O l aU (BF n) L _ a8 Q O.ts.length rfl ay.2 ((IN _ _).trans iI.X) ((IN _ _).trans iI.Y) (by have Z:=iI.o.o;have ag:=gf.o;show n.o.length<=1000;omega) cV (by show _=_;rw[da.o];exact dQ.o) _ C.o).mono ?_;rintro _ Y ⟨rfl,e7,gY,fI,eM⟩;have aa:=lh fI;have ec:=lh eM;have e5:=lh (ec.blk dL.o dD.2);have f8:=lh (ec.blk dr.o eS.o);have gB:=lh (ec.rd er.o);have dE:Hd (BW w Y):=eg.trans (ec.keep.to_below eg.size (fun e c=>by have Z:=(du.lt e c).1;have ag:=D.2.2.1;omega));have qv:Hd (q6 O l a aU n=cV):=by show q6 O l a aU n=cV;unfold q6;rw[dK.o];simp only;rw[if_pos da.o];exact dQ.o
      clear fI eM dp dk fk fw;obtain⟨S,df⟩:=cV;by_cases d1:df=0
      ·subst d1;have eC:Hd (kg O l a (aU+1) S):=by
        have Z:=iI.endShut rz.o lw.1 (by rw[dK.o];exact da.o) a8 (by rw[dQ.o]);rw[dQ.o]at Z;exact Z
       have e9:Hd (uc O l a di (aU+1) S=ai):=by exact Kb
       refine OJ ?_;intro uP fc uQ;have dx:Y.cell? (Ad g 9)=some (iV aU):=aa.blk.cell 9;have g9:=aa.blk.frozen 9;have ax:=aa.blk.lt;go_wp2_with fail;go_step3;have az:hC [g] Y (Y.setCell (Ad g 9) (iV (aU+1))):=(hC.refl _ _).sg _;have ar:hT e7 Y e7 (Y.setCell (Ad g 9) (iV (aU+1))):=⟨az.mono (fun e c=>by simp only[ms]at c;exact c▸aa.gF),fun _ c=>.inl c⟩;have d5:=aa.store az (day':=aU+1) (aa.blk.set 9 (iV (aU+1))) aa.rdSl ⟨aa.hi.1,aa.hi.2.1⟩;have cZ:=ar.blk e5.1 e5.2;have a5:=ar.blk f8.1 f8.2;refine f9.o _ _ ⟨u,g,aU+1,S,e7,_,_,j,_,_,_,_,_,_,_,_,_,_,_,_,_,_,_,_,_,_,_,_,_,_,_,_,_,_,_,_,_,_,_,_,_,_,_,_,_,_,_,_,_,_,_,_,_,_,_,_,_,_,_,_,_,_,_,_,_,_,_,_,_,_,_,_,_,_,_,_,_,_,_,_,_,_,_,_,_,_,_,_,_,_,_,_,_,_,_,_,_,_,_,_,_,_,_,_,_,_,_,_,_,_,_,_,_,_,_,_,_,_,_,_,_,_,_,rfl,d5,eC,⟨oo lw.2,oo lw.1⟩,?_,ar.rd gB.o,cZ,⟨_,_,a5.1⟩,⟨a5.2,D.2⟩,?_⟩ ?_;·show uc O l a (dW-(aU+1)).toNat (aU+1) S=ai;rw[tP.2];exact e9.o
       ·exact dE.setCell (show w.heap.size<=g by have Z:=(aa.lt g aa.gF).1;have ag:=D.2.2.1;omega) _
       ·show Fq dW ((Y.setCell (Ad g 9) (iV (aU+1))).cell? (Ad g 9))<Fq dW (a7.cell? (Ad g 9));have aX:(Y.setCell (Ad g 9) (iV (aU+1))).cell? (Ad g 9)=some (iV (aU+1)):=d5.blk.cell 9;exact ND
      ·have gT:(df != 0)=true:=ss d1;have d2:Hd (e8=Ca df):=by
        have Z:ai=(S,df):=by rw[<-tO.o,tP.1,XN (by rw[mB.o]) (by rw[mB.o];simp only;rw[qv.o];exact d1),mB.o];exact qv.o
        show e8=Ca df;rw[<-e0.o];unfold C1;rw[Z];simp only;rw[if_pos d1]
       clear d1;go_wp2_with fail;go_step3;exact d0.o _ _ ⟨df,_,_,_,_,_,_,_,_,_,_,_,_,_,_,_,_,_,_,_,_,_,_,_,_,_,_,_,_,_,_,_,_,_,_,_,_,_,_,_,_,_,_,_,_,_,_,_,_,_,_,_,_,_,_,_,_,_,_,_,_,_,_,_,_,_,_,_,_,_,_,_,_,_,_,_,_,_,_,_,_,_,_,_,_,_,_,_,_,_,_,_,_,_,_,_,_,_,_,_,_,_,_,_,_,_,_,_,_,_,_,_,_,_,_,_,_,_,_,rfl,d2,e5.1,dE⟩
     ·have gr:(Q == aU)=false:=ss c';have da:=lh c';clear c';go_region_held3 (fun W'=>Ce W' j 1 (iV Q)/\Ce W' g 9 (iV aU)) (first | with_reducible exact fm) (fail);obtain⟨m,dz,C,dL,er,dr,eg⟩:∃m,ac.drew=m/\Hd (p4 u g O l aU (BF n) L m { tv:=H,lv:=d4,pv:=ad,rv:=aj,xv:=am,yv:=ae,ov:=.slice R n.o.length P,bx:=ah,bz:=af,xs:=M,ys:=aw,vs:=T })/\Hd (hA m (w.heap.size+1+1) 35 [sZ,iZ,iZ]/\(w.heap.size+1+1)∉L)/\Hd (Rd L m (fun W=>Fl 2 a.length W (sL sb e4 a.length b3) (t5 a)))/\Hd (hA m j 40 [iV a8,iV Q]/\j∉L)/\Hd (BW w m) :=
       ⟨_,rfl,ek.B (hG bR),⟨fC.B (hG bR),dD.2⟩,f0.B (hG bR) (fun e c=>.inl c),⟨et.B (hG bR),eS.o⟩,hG f5.o⟩
      with_reducible rw[dz]
      have qv:Hd (q6 O l a aU n=(BF n,0)):=by show q6 O l a aU n=_;unfold q6;rw[dK.o];simp only;rw[if_neg da.o]
      obtain⟨S,eo⟩:=xg (BF n);have eC:Hd (kg O l a (aU+1) S):=by rw[<-eo];exact iI.endOn (by rw[dK.o];exact da.o)
      rw[eo]at C qv;have e9:Hd (uc O l a di (aU+1) S=ai):=by exact Kb
      clear eo dz fk fw;refine OJ ?_;intro uP fc uQ;have dx:m.cell? (Ad g 9)=some (iV aU):=C.blk.cell 9;have g9:=C.blk.frozen 9;have ax:=C.blk.lt;go_wp2_with fail;go_step3;have az:hC [g] m (m.setCell (Ad g 9) (iV (aU+1))):=(hC.refl _ _).sg _;have ar:hT L m L (m.setCell (Ad g 9) (iV (aU+1))):=⟨az.mono (fun e c=>by simp only[ms]at c;exact c▸C.gF),fun _ c=>.inl c⟩;have d5:=C.store az (day':=aU+1) (C.blk.set 9 (iV (aU+1))) C.rdSl ⟨C.hi.1,C.hi.2.1⟩;have cZ:=ar.blk dL.1 dL.2;have a5:=ar.blk dr.1 dr.2;refine f9.o _ _ ⟨u,g,aU+1,S,L,_,_,j,_,_,_,_,_,_,_,_,_,_,_,_,_,_,_,_,_,_,_,_,_,_,_,_,_,_,_,_,_,_,_,_,_,_,_,_,_,_,_,_,_,_,_,_,_,_,_,_,_,_,_,_,_,_,_,_,_,_,_,_,_,_,_,_,_,_,_,_,_,_,_,_,_,_,_,_,_,_,_,_,_,_,_,_,_,_,_,_,_,_,_,_,_,_,_,_,_,_,_,_,_,_,_,_,_,_,_,_,_,_,_,_,_,_,_,rfl,d5,eC,⟨oo lw.2,oo lw.1⟩,?_,ar.rd er.o,cZ,⟨_,_,a5.1⟩,⟨a5.2,D.2⟩,?_⟩ ?_;·show uc O l a (dW-(aU+1)).toNat (aU+1) S=ai;rw[tP.2];exact e9.o
      ·exact eg.setCell (show w.heap.size<=g by have Z:=(C.lt g C.gF).1;have ag:=D.2.2.1;omega) _
      ·show Fq dW ((m.setCell (Ad g 9) (iV (aU+1))).cell? (Ad g 9))<Fq dW (a7.cell? (Ad g 9));have aX:(m.setCell (Ad g 9) (iV (aU+1))).cell? (Ad g 9)=some (iV (aU+1)):=d5.blk.cell 9;exact ND
   ·have gN:(a2 != 0)=true:=ss ds;have dv:e8=Ca a2:=by
     rw[<-e0.o];have Z:ai=((⟨kk,b,A,d.X,d.Y,d.o⟩:RS),a2):=by rw[<-tO.o,ywi (by rw[mB.o];exact ds)];exact mB.o
     unfold C1;rw[Z];simp only;rw[if_pos ds]
    have d2:=lh dv;clear ds dv dP;go_wp2_with fail;go_step3;exact d0.o _ _ ⟨a2,_,_,_,_,_,_,_,_,_,_,_,_,_,_,_,_,_,_,_,_,_,_,_,_,_,_,_,_,_,_,_,_,_,_,_,_,_,_,_,_,_,_,_,_,_,_,_,_,_,_,_,_,_,_,_,_,_,_,_,_,_,_,_,_,_,_,_,_,_,_,_,_,_,_,_,_,_,_,_,_,_,_,_,_,_,_,_,_,_,_,_,_,_,_,_,_,_,_,_,_,_,_,_,_,_,_,_,_,_,_,_,_,_,_,_,_,_,_,rfl,d2,cT.1,eb⟩
  case first =>
   intro d' a3 dU;have d0:=lh a3;have fZ:=lh dU;clear a3 dU;have ej:=lh s;obtain⟨bN,eH,jI,dS,eX,tQ,eb,fN⟩:∃bN,(((w.alloc (.cells #[iV O.lim,.slice bH O.ts.length bC,iV O.cyc,iV O.dued,iV O.minf,iV O.minp,iV O.start] 24)).alloc (.cells #[.nilFunc,.nilFunc,.nilFunc] 133)).alloc (.cells #[sZ,iZ,iZ] 35)).alloc (.cells #[iZ,iZ] 40)=bN/\Hd (hA bN w.heap.size 24 [iV O.lim,.slice bH O.ts.length bC,iV O.cyc,iV O.dued,iV O.minf,iV O.minp,iV O.start])/\Hd (hA bN (w.heap.size+1) 133 [.nilFunc,.nilFunc,.nilFunc])/\Hd (hA bN (w.heap.size+1+1) 35 [sZ,iZ,iZ])/\Hd (hA bN (w.heap.size+1+1+1) 40 [iZ,iZ])/\Hd (BW w bN)/\Hd (bN.heap.size=w.heap.size+1+1+1+1) :=
    ⟨_,rfl,hA.B (hR w _ _ _ rfl) (hB (hB (hB bR _) _) _),hA.B (hR (w.alloc _) _ _ _ Is) (hB (hB bR _) _),hA.B (hR ((w.alloc _).alloc _) _ _ _ Is) (hB bR _),hR (((w.alloc _).alloc _).alloc _) _ _ _ Is,hB (hB (hB (hB bR _) _) _) _,by show _=_;simp⟩
   refine Ns ?_;clear eH;intro jm rj fm;go_upto_region 3 with fail;with_reducible rw[rj.o]
   go_region_held3 (fun W'=>Ce W' w.heap.size 0 (iV O.lim)/\Ce W' w.heap.size 1 (.slice bH O.ts.length bC)/\Ce W' w.heap.size 2 (iV O.cyc)/\Ce W' w.heap.size 3 (iV O.dued)/\Ce W' w.heap.size 4 (iV O.minf)/\Ce W' w.heap.size 5 (iV O.minp)/\Ce W' w.heap.size 6 (iV O.start)/\W'.cell? (Ad (w.heap.size+1) 0)=some .nilFunc/\W'.cell? (Ad (w.heap.size+1) 1)=some .nilFunc/\W'.cell? (Ad (w.heap.size+1) 2)=some .nilFunc) (first | with_reducible exact fm | exact e2.o | exact jm.o _ (hB jh.o _)) (first | (go_at_call 86;refine(Lg _ l eV (oo a4.o.len) _ (dN.o.B (by first | exact eb.o | exact hG eb.o))).mono ?_;rintro _ aT ⟨cU,rfl,av,ea⟩;obtain⟨fu,fv,rfl⟩:=(h4.of_own av rfl).shape;have px:=lh av;have jh:Hd (BW bN aT):=MR;have e2:=lh (jm.o _ jh.o);clear av ea));refine Qt ?_;unhygienic intros
   go_wp2_with fail;refine(Ok O _ _ l dW a4 0 ej _ (dd.B nF.o) (dN.B nF.o)).mono ?_;rintro _ Y ⟨rfl,dt⟩;have HB6:=lh dt;clear dt iO cM iP iQ iR iS iT fm;have f4:=lh (oC.B HB6.o);have gn:=lh (mR.B HB6.o);have dE:Hd (BW w Y):=hJ nF.o HB6.o;obtain⟨iO,cM,iP,iQ,iR,iS,iT,-⟩:=f4.cS [0,1,2,3,4,5,6];have gb:Hd (p6 O.cyc dW 300 O.start=(a,true)):=by
    have ag:(p6 O.cyc dW 300 O.start).2=true:=by
     unfold Bv at s;split at s;·cases s
     ·split at s;·cases s
      ·rename_i Z ag;have ab:(tt O.start O.cyc dW).2=0:=ss ag;unfold tt at ab;split at ab;·rename_i dX;exact absurd ab dX
       ·split at ab;·rename_i fH;exact fH
        ·cases ab
    exact Prod.ext dB.o ag
   go_wp2_with fail;refine(UJ O.start O.cyc dW a gb _).mono ?_;rintro _ r ⟨d3,rfl,eE,eh⟩;have dH:=lh eh;have eK:=lh eE;have eL:=lh (f4.B eh);have ed:=lh (gn.B eh);obtain⟨eB,b3,rfl⟩:=(Fl.of_own eE (Hh a)).shape;clear eE eh iO cM iP iQ iR iS iT;have cM:=eL.cell 1;simp only[gz,gs]at cM;have eW:=ed.cell 10;simp only[gz,gs]at eW;have fT:=ed.frozen 10;have ax:=ed.lt;have fR:=Y3 O.ts.length ay.2;have gJ:=ay.2;go_upto_region 8 with fail;obtain⟨t,fz,fX,gp,f',fV,gy,dG,dR,dq,mj⟩:∃t,(r.setCell (Ad dZ 10) (sL r.heap.size 0 O.ts.length O.ts.length)).alloc (.cells (Array.replicate O.ts.length (iZ)) 2)=t/\Hd (hA t dZ 181 [iV O.lim,.slice bH O.ts.length bC,iV O.cyc,iV O.dued,iV O.minf,iV O.minp,iV O.start,.slice fu l.length fv,iZ,iV O.start,sL r.heap.size 0 O.ts.length O.ts.length,iZ,iZ,sZ,sZ,sZ,sZ,.nilFunc,.nilFunc,.nilFunc])/\Hd (Sl .i64 t (sL r.heap.size 0 O.ts.length O.ts.length) (List.replicate O.ts.length 0))/\Hd (hA t w.heap.size 24 [iV O.lim,.slice bH O.ts.length bC,iV O.cyc,iV O.dued,iV O.minf,iV O.minp,iV O.start])/\Hd (hA t (w.heap.size+1+1) 35 [sZ,iZ,iZ])/\Hd (hA t (w.heap.size+1+1+1) 40 [iZ,iZ])/\Hd (Fl 2 a.length t (.slice eB a.length b3) (t5 a)/\hL [dZ,w.heap.size+1+1+1] (.slice eB a.length b3))/\Hd (h4 t (.slice fu l.length fv) l/\hL [dZ,w.heap.size+1+1+1] (.slice fu l.length fv))/\Hd (BW w t)/\Hd (dZ<r.heap.size/\r.heap.size<t.heap.size/\w.heap.size+1+1+1+1<=dZ):=by
    have gS:=sG.o;have gM:=HB6.size;have gV:=sH.o;have az:hC [dZ] r ((r.setCell (Ad dZ 10) (sL r.heap.size 0 O.ts.length O.ts.length)).alloc (.cells (Array.replicate O.ts.length (iZ)) 2)):=((hC.refl _ _).sg _).alloc _;have eG:∀e,e<w.heap.size+1+1+1+1->e∉[dZ]:=fun e c dT=>by simp only[ms]at dT;omega
    have gh:=hJ dE.o dH.o;have go:=ic (ic sF.o HB6.o) dH.o;have av:hL [dZ,w.heap.size+1+1+1] (.slice fu l.length fv):=fun z x v a6 I dh dT=>by have Z:=BY sF.o z x v a6 I;have ag:=(Fl.blt (show Fl 5 l.length aT (.slice fu l.length fv) (k8 l) from h4.of_own px.o rfl) om I dh);simp only[mc,nn,or_false]at dT;rw[sI]at ag;omega
    have fs:hL [dZ,w.heap.size+1+1+1] (.slice eB a.length b3):=fun z x v a6 I dh dT=>by have Z:=BY eK.o z x v a6 I;simp only[mc,nn,or_false]at dT;omega
    refine⟨_,rfl,(ed.set 10 _).B (hB bR _),?_,eL.keep az (eG _ om),((sE.B HB6.o).B dH.o).keep az (eG _ om),((ux.B HB6.o).B dH.o).keep az (eG _ om),⟨(Fl.of_own eK.o (Hh a)).keep az (fs.mono Is),fs⟩,⟨(h4.of_own go rfl).keep az (av.mono Is),av⟩,hB (k1 gh om) _,⟨by omega,by rw[wa,World.size_setCell];omega,by omega⟩⟩;have au:=hR (r.setCell (Ad dZ 10) (sL r.heap.size 0 O.ts.length O.ts.length)) (List.replicate O.ts.length (iZ)) 2 r.heap.size (by rw[World.size_setCell]);exact Sl.of_blk au Is (nr _) RD Is
   with_reducible rw[fz]
   clear fz fR cM eW fT ax;have cM:=f'.cell 1;simp only[gz,gs]at cM;go_wp2_with fail;clear cM;obtain⟨fP,fW,g8,gi,gx⟩:=info_parts Ch;go_loopg [49] O.ts.length (fun e6 i wr=>∃(k:Nat) (ao:Value),k+e6=O.ts.length/\i=iV k/\Hd (hA wr dZ 181 [iV O.lim,.slice bH O.ts.length bC,iV O.cyc,iV O.dued,iV O.minf,iV O.minp,iV O.start,.slice fu l.length fv,iZ,iV O.start,sL r.heap.size 0 O.ts.length O.ts.length,iZ,iZ,ao,sZ,sZ,sZ,.nilFunc,.nilFunc,.nilFunc])/\Hd (wr.ownsRow t.heap.size 2 1 ao k (((O.ts.take k).map (·.1)).map (Value.int .i64)))/\Hd (hC [dZ] t wr));case atStart=>exact⟨0,_,by omega,rfl,fX,BT _ _ _ _,hC.refl _ _⟩
   case round =>
    obtain⟨k,ao,eA,rfl,dm,cR,al⟩:=hrel;have gD:=lh eA;have ax:=dm.lt;cases gk with
    | zero =>
     have gt:¬((k:Int)<O.ts.length):=om;obtain rfl:k=O.ts.length:=om;clear eA;have e':=lh (dd.keepW dq.o al.o (by have Z:=mj.2.2;omega));have ff:Hd (hA wr dZ 181 (C4 O (.slice bH O.ts.length bC) (.slice fu l.length fv) (r1 O).at' O.start (sL r.heap.size 0 O.ts.length O.ts.length) (r1 O).p ao (sZ) (sZ) (sZ))):=dm.o;have ex:Hd (Sl .i64 wr ao (r1 O).rs/\hL [dZ] ao/\Hi (w.heap.size+1+1+1+1) ao):=by
      have Z:=mj.o;refine⟨?_,fun z x v a6 I _ dT=>?_,fun z x v a6 I _=>?_⟩;·have:=cR.o;rw[List.take_of_length_le (nr _)]at this;exact Sl.of_own (xs:=O.ts.map (·.1)) this Is
      ·have:=BY cR.o z x v a6 I;simp only[ms]at dT;omega
      ·have:=BY cR.o z x v a6 I;omega
     go_wp2_with fail;refine(Lh dZ O _ _ (r1 O).at' O.start _ (r1 O).p _ _ _ _ O.ts.length rfl ay.2 _ ff.o e'.o).mono ?_;rintro _ fS ⟨rfl,gW,gP,fh,eY,eP,fg,fx,fi,fl⟩;have en:hL [dZ] (sL r.heap.size 0 O.ts.length O.ts.length):=fun z x v a6 I _ dT=>by cases I;have Z:=mj.o;simp only[ms]at dT;omega
     have c6:Rd [dZ] wr (Kp O l (r1 O) { tv:=.slice bH O.ts.length bC,lv:=.slice fu l.length fv,pv:=sL r.heap.size 0 O.ts.length O.ts.length,rv:=ao,xv:=sZ,yv:=sZ,ov:=sZ,bx:=0,bz:=0,xs:=[],ys:=[],vs:=[] }):=by have dI:hL [dZ] (.slice bH O.ts.length bC):=Fl.offNew dd.fl om (fun e c=>by simp only[ms]at c;have:=mj.2.2;omega);have g1:=((dR.1.keep al.o (dR.2.mono Is)).rd (F:=[dZ]) (dR.2.mono Is));exact((e'.rd dI).and (g1.and (((gp.keep al.o en).rd en).and (ex.1.rd ex.2.1)))).imp fun W q=>⟨q.1,q.2.1,q.2.2.1,q.2.2.2,trivial⟩
     have fp:IY (w.heap.size+1+1+1+1) { tv:=.slice bH O.ts.length bC,lv:=.slice fu l.length fv,pv:=sL r.heap.size 0 O.ts.length O.ts.length,rv:=ao,xv:=sZ,yv:=sZ,ov:=sZ,bx:=0,bz:=0,xs:=[],ys:=[],vs:=[] }:=by
      refine⟨fun z x v a6 I _=>?_,ex.2.2,by simp,?_,?_⟩;·cases I;have Z:=mj.o;omega
      ·exact Fl.offNew dd.fl om (fun e c=>by simp only[ms]at c;omega)
      ·exact dR.2.mono Is
     have cW:=SD (lo:=w.heap.size+1+1+1+1) (n:=O.ts.length) (F:=[dZ]) (s:=r1 O) (V:={ tv:=.slice bH O.ts.length bC,lv:=.slice fu l.length fv,pv:=sL r.heap.size 0 O.ts.length O.ts.length,rv:=ao,xv:=sZ,yv:=sZ,ov:=sZ,bx:=0,bz:=0,xs:=[],ys:=[],vs:=[] }) (ms.2 rfl) (fun e c=>by simp only[ms]at c;subst c;exact⟨mj.2.2,dm.lt⟩) c6 ff.o (BT _ _ _ _) (fun q ey=>by cases ey) fh eY eP fg fx fi fl fp;have gC:=lh cW;have cZ:=cW.2.blk (fV.keep al.o NE) NE;have a5:=cW.2.blk (gy.keep al.o NE) NE;have fA:=cW.2.rd ((dG.1.keep al.o (dG.2.mono Is)).rd (F:=[dZ]) (dG.2.mono Is));have eN:BW w fS:=(dq.trans (al.to_below dq.size (fun e c=>by simp only[ms]at c;subst c;have:=mj.2.2;omega))).trans (cW.2.keep.to_below (by have Z:=dq.size;have ag:=al.size;omega) (fun e c=>by simp only[ms]at c;subst c;have:=mj.2.2;omega));have d6:=lh (An cZ (An a5 (An fA eN)));clear cZ a5 fA eN cW c6 fp en fh eY eP fg fx fi fl;have ar:O.start<=dW:=by
      unfold Bv at s;split at s;·cases s
      ·rename_i Z;omega
     have gu:=lh ar;clear ar;go_wp2_with fail;go_step3;go_step;go_step;exact fZ.o _ _ ⟨w.heap.size+1+1+1+1,dZ,O.start,r1 O,_,_,_,w.heap.size+1+1+1,_,_,_,_,_,_,_,_,_,_,_,_,_,_,_,_,_,_,_,_,_,_,_,_,_,_,_,_,_,_,_,_,_,_,_,_,_,_,_,_,_,_,_,_,_,_,_,_,_,_,_,_,_,_,_,_,_,_,_,_,_,_,_,_,_,_,_,_,_,_,_,_,_,_,_,_,_,_,_,_,_,_,_,_,_,_,_,_,_,_,_,_,_,_,_,_,_,_,_,_,_,_,_,_,_,_,_,_,_,_,_,_,_,_,_,rfl,gC.1,kg.first rz.o,⟨Int.le_refl _,gu.o⟩,by have Z:=fa.o;unfold vo at Z;rw[dB.o]at Z;exact Z,d6.2.2.1,d6.1,⟨0,0,d6.2.1.1⟩,⟨d6.2.1.2,by omega,by omega,rfl,dG.2.mono (by simp)⟩,d6.2.2.2⟩
    | succ e6 =>
     have gt:(k:Int)<O.ts.length:=om;have em:k<O.ts.length:=om;obtain⟨fq,f2,e,ev,rfl,dp,dk,gc⟩:=(dd.keepW dq.o al.o (by have Z:=mj.2.2;omega)).get em;have dy:=lh em;clear eA em;obtain⟨cv,B,rfl⟩:=(Sl.of_own (xs:=(O.ts.take k).map (·.1)) cR.o (by rw[List.length_map,List.length_take];have:=dy.o;omega)).shape;rw[show((O.ts.take k).map (·.1)).length=k by rw[List.length_map,List.length_take];have:=dy.o;omega]at cR dm;go_wp2_with fail;obtain⟨X,eZ,ez,es,dA,fd⟩:∃X,wr.alloc (.cells #[iV e,.bool ev] 81)=X/\Hd (hA X wr.heap.size 81 [iV e,.bool ev])/\Hd (hA X dZ 181 [iV O.lim,sL fq f2 O.ts.length bC,iV O.cyc,iV O.dued,iV O.minf,iV O.minp,iV O.start,.slice fu l.length fv,iZ,iV O.start,sL r.heap.size 0 O.ts.length O.ts.length,iZ,iZ,.slice cv k B,sZ,sZ,sZ,.nilFunc,.nilFunc,.nilFunc])/\Hd (X.ownsRow t.heap.size 2 1 (.slice cv k B) k (((O.ts.take k).map (·.1)).map (Value.int .i64)))/\Hd (hC [dZ] t X) :=
      ⟨_,rfl,hR wr _ _ _ rfl,dm.B (hB bR _),ic cR.o (hB bR _),al.alloc _⟩
     with_reducible rw[eZ]
     clear eZ dp dk;have fD:Hd (∀W',BW X W'->Ce W' dZ 13 (.slice cv k B)/\Ce W' wr.heap.size 0 (iV e)):=fun W' au=>⟨(es.B au).cell 13,(ez.B au).cell 0⟩;have fm:=fD.o X.drew (hG bR);have eQ:=fD.o (X.alloc (.cells #[iV e] 2)).drew (hG (hB bR _));refine se (fun W'=>Ce W' dZ 13 (.slice cv k B)/\Ce W' wr.heap.size 0 (iV e)) 9 kr ?_;refine Ck ?_;show _;refine tK 5 rfl ?_;refine tK 6 rfl ?_;refine wo 7 kr rfl fun K dn=>?_;go_simp;refine dn.out _ _ (fun hun=>eQ) ?_;clear dn K;try simp only[ap,aq,sa,sb,sc]
     refine wo 8 kr rfl fun K dn=>?_;refine DS rfl (.tmp 57) (.tmp 60) 33 rfl t.heap.size 2 fP (iZ) 1 8 underlying33 fW g8 gi gx rfl Iv (.slice cv k B) k (((O.ts.take k).map (·.1)).map (Value.int .i64)) JF (ic dA.o (hG (hB bR _))) (Ad X.heap.size 0) 1 1 [iV e] JF rfl (D3 X _ _) L2 (by have:=dy.o;have:=ay.2;unfold maxLen;omega) (o2 dy.o ay.2) (by rw[wd,wa];exact Nat.le_succ_of_le fd.size) ?_;intro gF ee eF d7 fQ;obtain⟨g6,ge,rfl⟩:=ro eF om;have gg:=lh eF;have dM:Hd (hA ee dZ 181 [iV O.lim,sL fq f2 O.ts.length bC,iV O.cyc,iV O.dued,iV O.minf,iV O.minp,iV O.start,.slice fu l.length fv,iZ,iV O.start,sL r.heap.size 0 O.ts.length O.ts.length,iZ,iZ,.slice cv k B,sZ,sZ,sZ,.nilFunc,.nilFunc,.nilFunc]):=p7 (es.B (hG (hB bR _))) d7 (hh dA.o es.o Iv);have ga:Hd (hC [dZ] t ee):=hC.grown (hC.drew (fd.alloc _)) d7 (fun q ey=>.inr (dA.lt q ey).1);have ft:ee.cell? (Ad dZ 13)=some (.slice cv k B)/\ee.cell? (Ad wr.heap.size 0)=some (iV e):=⟨dM.cell 13,(p7 (ez.B (hG (hB bR _))) d7 (hh dA.o ez.o Iv)).cell 0⟩;clear eF d7 fQ;refine dn.out _ _ (fun hun=>ft) ?_;clear dn K;try simp only[ap,aq,sa,sb,sc]
     refine wS 9 rfl ?_;refine wS 10 rfl ?_;have fY:=dM.frozen 13;refine wS 11 rfl ?_;clear fY ft fm eQ;refine r4 kr ?_ _;go_wp2_with fail;go_roundg e6;case measure=>omega
     case rel =>
      have c:(O.ts.take k).map (·.1)++[e]=(O.ts.take (k+1)).map (·.1):=by
       have Z:=gc.o;have ag:=dy.o;rw[List.take_succ_eq_append_getElem ag,List.map_append]
       congr 1
       simp only[List.map_cons,List.map_nil];have:O.ts[k]=(e,ev):=by simpa[List.getD,ag] using Z
       rw[this]
      refine⟨k+1,sL g6 0 (k+1) ge,oo gD.o,by go_num,dM.set 13 _,?_,ga.sg _⟩;have Z:=gg.o;have bf:((O.ts.take k).map (·.1)).map (Value.int .i64)++[iV e]=((O.ts.take (k+1)).map (·.1)).map (Value.int .i64):=by rw[<-c,List.map_append];rfl
      rw[bf]at Z;exact t1 Z (hh Z dM.o Iv) _
 ·obtain⟨E,eq⟩:∃E,Bv O dW=E:=⟨_,rfl⟩;have ej:=lh eq;have gI:(E != 0)=true:=by rw[<-eq];simpa using s
  have d2:Hd (e8=Ca E):=by show e8=Ca E;rw[<-dv.o];unfold h6;rw[LP a4.o,if_pos s,eq]
  clear s eq;refine Ny 0 1 Iv (fun cd G=>∃(I:Int) (bj bs ef c4 cu cD bO bT cH cr bh d9 dJ dO aB a' aD aF bz bD aE bK c0 cm be c7 bl aA cj aR cK cw ct ce cA aQ c3 cz b8 aW aH c5 ca cf b' br cp bx aP b1 bG bX cO bY cy cF bU cN aO c8 bA cG cQ aY aS cC cs bt bE bS bJ b2 c2 bp b6 aK cn co b7 bw bo ck bv cP bV cq aJ cc aZ ci bI b9 bg bu b0 cb bd cl bB bZ c9 bW c1 b4 bP ch bF b5 a9 bb aC cx bm cJ aG bq bi aM:Value),cd={ tmps:=#[bj,bs,ef,c4,cu,cD,bO,bT,pV (w.heap.size+1+1),cH,cr,bh,d9,dJ,dO,iV I,aB,a',aD,aF,bz,bD,aE,bK,c0,cm,be,c7,bl,aA,cj,aR,cK,cw,ct,ce,cA,aQ,c3,cz,b8,aW,aH,c5,ca,cf,b',br,cp,bx,aP,b1,bG,bX,cO,bY,cy,cF,bU,cN,aO,c8,bA,cG,cQ,aY,aS,cC,cs,bt,bE,bS,bJ,b2,c2,bp,b6,aK,cn,co,b7,bw,bo,ck,bv,cP,bV,cq,aJ,cc,aZ,ci,bI,b9,bg,bu,b0,cb,bd,cl,bB,bZ,c9,bW,c1,b4,bP,ch,bF,b5,a9,bb,aC,cx,bm,cJ,aG,bq,bi,aM],defers:=[] }/\Hd (e8=Ca I)/\Hd (hA G (w.heap.size+1+1) 35 [sZ,iZ,iZ])/\Hd (BW w G)) (fun _ _=>False) (fun _ _=>0) rfl rfl ?pass0 ?pass1 ?first
  case pass0 =>
   intro dI a7 J d';obtain⟨I,J⟩:=J;iterate 118 obtain⟨_,J⟩:=J
   exact Re
  case pass1=>exact fun _ _ h=>h.elim
  case first =>
   intro d' a3 dU;have d0:=lh a3;clear a3 dU;obtain⟨bN,eH,jI,dS,eX,tQ,eb,fN⟩:∃bN,(((w.alloc (.cells #[iV O.lim,.slice bH O.ts.length bC,iV O.cyc,iV O.dued,iV O.minf,iV O.minp,iV O.start] 24)).alloc (.cells #[.nilFunc,.nilFunc,.nilFunc] 133)).alloc (.cells #[sZ,iZ,iZ] 35)).alloc (.cells #[iZ,iZ] 40)=bN/\Hd (hA bN w.heap.size 24 [iV O.lim,.slice bH O.ts.length bC,iV O.cyc,iV O.dued,iV O.minf,iV O.minp,iV O.start])/\Hd (hA bN (w.heap.size+1) 133 [.nilFunc,.nilFunc,.nilFunc])/\Hd (hA bN (w.heap.size+1+1) 35 [sZ,iZ,iZ])/\Hd (hA bN (w.heap.size+1+1+1) 40 [iZ,iZ])/\Hd (BW w bN)/\Hd (bN.heap.size=w.heap.size+1+1+1+1) :=
    ⟨_,rfl,hA.B (hR w _ _ _ rfl) (hB (hB (hB bR _) _) _),hA.B (hR (w.alloc _) _ _ _ Is) (hB (hB bR _) _),hA.B (hR ((w.alloc _).alloc _) _ _ _ Is) (hB bR _),hR (((w.alloc _).alloc _).alloc _) _ _ _ Is,hB (hB (hB (hB bR _) _) _) _,by show _=_;simp⟩
   refine Ns ?_;clear eH;intro jm rj fm;go_upto_region 3 with fail;with_reducible rw[rj.o]
   go_region_held3 (fun W'=>Ce W' w.heap.size 0 (iV O.lim)/\Ce W' w.heap.size 1 (.slice bH O.ts.length bC)/\Ce W' w.heap.size 2 (iV O.cyc)/\Ce W' w.heap.size 3 (iV O.dued)/\Ce W' w.heap.size 4 (iV O.minf)/\Ce W' w.heap.size 5 (iV O.minp)/\Ce W' w.heap.size 6 (iV O.start)/\W'.cell? (Ad (w.heap.size+1) 0)=some .nilFunc/\W'.cell? (Ad (w.heap.size+1) 1)=some .nilFunc/\W'.cell? (Ad (w.heap.size+1) 2)=some .nilFunc) (first | with_reducible exact fm | exact e2.o | exact jm.o _ (hB jh.o _)) (first | (go_at_call 86;refine(Lg _ l eV (oo a4.o.len) _ (dN.o.B (by first | exact eb.o | exact hG eb.o))).mono ?_;rintro _ aT ⟨cU,rfl,av,ea⟩;obtain⟨fu,fv,rfl⟩:=(h4.of_own av rfl).shape;have px:=lh av;have jh:Hd (BW bN aT):=MR;have e2:=lh (jm.o _ jh.o);clear av ea));refine Qt ?_;intro cg oC sE ux sF nF dZ sI mR sG sH iO cM iP iQ iR iS iT;go_wp2_with fail;refine(Ok O _ _ l dW a4 E ej _ (dd.B nF.o) (dN.B nF.o)).mono ?_;rintro _ Y ⟨rfl,dt⟩;have HB6:=lh dt;clear dt iO cM iP iQ iR iS iT fm;go_wp2_with fail;go_step3;exact d0.o _ _ ⟨E,_,_,_,_,_,_,_,_,_,_,_,_,_,_,_,_,_,_,_,_,_,_,_,_,_,_,_,_,_,_,_,_,_,_,_,_,_,_,_,_,_,_,_,_,_,_,_,_,_,_,_,_,_,_,_,_,_,_,_,_,_,_,_,_,_,_,_,_,_,_,_,_,_,_,_,_,_,_,_,_,_,_,_,_,_,_,_,_,_,_,_,_,_,_,_,_,_,_,_,_,_,_,_,_,_,_,_,_,_,_,_,_,_,_,_,_,_,_,rfl,d2,sE.B HB6.o,hJ nF.o HB6.o⟩
theorem Dd (h:q:=by go_wp2_with fail;go_step3;exact⟨rfl,dM.o _ _ (hP (hP (hP (hP (hP (hP ⟨_,_,_,_,_,_,_,rfl,⟨_,br.o⟩,hx.refl _ _ _⟩))))))⟩):q:=h
theorem Ox (h:q:=by
 have I:n0 x=true:=by simp[n0,hO];omega
 rw[I];go_enter func226,ntmps226;go_wp2_with fail;go_ret;exact h3.mk _ _):q:=h
theorem E5 (b:Tm) (A J) (g:List R5) (j:Int) (O:Hd (Cl b g j)) (R:Hd (Asc g)) (a:Rn) (ac:Hd (h6 b g j=a)) (w) (l:h7 w A b.ts) (s:h4 w J g) :
 Calls prog 31 #[.agg (b.cells A).toArray,J,iV j] w (LW a w):=by
 have ae:=lh l;have X:=lh s;obtain⟨Z,M,rfl⟩:=l.shape;obtain⟨al,af,rfl⟩:=s.shape;clear l s;unfold Tm.cells;go_enter func31,ntmps31;go_wp2_with fail;refine(Ui b _ _ g j O R _ rfl _ rfl a ac _ (ae.B bL) (X.B bL)).mono ?_;rintro _ i ⟨ag,ai,aj,P,rfl,o,u,r,⟨C,F,I,H⟩,x⟩;have Y:Hd (BW w i):=hJ (hB (hB bR _) _) x;have G:Hd (hA i (w.heap.size+1) 35 [sZ,iZ,iZ]):=(hR (w.alloc _) [sZ,iZ,iZ] 35 _ Is).B x;obtain⟨B,E,rfl⟩:=o.shape;obtain⟨K,ad,rfl⟩:=u.shape;obtain⟨aa,L,rfl⟩:=r.2.shape;have Q:=lh o;have T:=lh u;have D:=lh r;have d:=lh (An C (An F (An I H)));clear o u r C F I H x;obtain⟨S,V,W,-⟩:=G.cS [0,1,2];obtain⟨ah,am,ak,-⟩:=G.fs [0,1,2];go_wp2_with fail;have e:∀c,Fr ((w.alloc (.cells #[iV b.lim,.slice Z b.ts.length M,iV b.cyc,iV b.dued,iV b.minf,iV b.minp,iV b.start] 24)).alloc (.cells #[sZ,iZ,iZ] 35)) c->hL [w.heap.size+1] c/\Fr w c:=fun c f=>by
  refine⟨fun t m p y z v ab=>?_,fun t m p y z v=>?_⟩;·have n:=f t m p y z v;simp only[wa]at n;simp only[ms]at ab;omega
  ·have n:=f t m p y z v;simp only[wa]at n;omega
 have k:hC [w.heap.size+1] i (((i.setCell (Ad (w.heap.size+1) 0) (.slice B a.p.bs.length E)).setCell (Ad (w.heap.size+1) 1) (iV a.p.c)).setCell (Ad (w.heap.size+1) 2) (iV a.p.d)):=(((hC.refl _ _).sg _).sg _).sg _;refine bodyPost_ret (v:=.tuple #[.agg #[.slice B a.p.bs.length E,iV a.p.c,iV a.p.d],.slice K a.rs.length ad,.slice aa a.o.length L,iV a.e]) (by simp[results,results31,go_sem,S,V,W]) rfl ⟨_,_,_,P,rfl,Q.keep k (e _ d.1).1,T.keep k (e _ d.2.1).1,⟨D.1.keep k (fun c f=>(e c (d.2.2.2 c f)).1),D.2.keep k (e _ d.2.2.1).1⟩,⟨(e _ d.1).2,(e _ d.2.1).2,(e _ d.2.2.1).2,fun c f=>(e c (d.2.2.2 c f)).2⟩,k1 (k1 (k1 Y.o om) om) om⟩
def Ym (c:List St) (w:World) (f:Ending) (b:World):Prop :=
 ∃d a,f=.returned d/\b.ownsRow w.heap.size 43 9 d c.length (n1 c a)/\h9 b c a/\(∀e∈a,Fr w e)/\BW w b
theorem Oq (h:n<L.length):L.take (n+1)=L.take n++[L.getD n q2]:=by rw[List.take_succ_eq_append_getElem h];simp[List.getD,h]
theorem Ni (n) (a:List St) (Y:List Value) (aD:a.length<=1000) (aA:Hd (∀v,v<a.length->(a.getD v q2).ls.length<=1000)) (w:World) (i:s4 w n a Y) :
 Calls prog 47 #[n] w (Ym a w):=by
 have aF:Hd (w8 w n a):=⟨Y,i⟩;obtain⟨aH,aN,rfl⟩:=i.2.shape;clear i;have a6:=lh aD;obtain⟨a1,a7,ay,aB,a4⟩:=info_parts GX;go_enter func47,ntmps47;go_wp2_with fail;go_loopg [3,8] a.length (fun W an v wr=>∃(k:Nat) (c:List Value) (F:List Nat),k+W=a.length/\v=iV k/\Hd (wr.ownsRow w.heap.size 43 9 an k (n1 (a.take k) c))/\Hd (∀q,an.ownBlock=some q->q∈F)/\Hd (∀j∈F,w.heap.size<=j/\j<wr.heap.size)/\Hd (Rd F wr (fun m=>h9 m (a.take k) c))/\Hd (∀n∈c,Fr w n)/\Hd (BW w wr));case atStart=>exact⟨0,[],[],by omega,rfl,BT _ _ _ _,(fun q o=>by cases o),(fun j b=>by cases b),(fun _ _=>trivial),(fun n i=>by cases i),bR⟩
 case round =>
  obtain⟨k,c,F,L,rfl,ag,M,P,ae,ac,A⟩:=hrel;have a9:=lh L;cases gk with
  | zero=>have ax:¬((k:Int)<a.length):=om;obtain rfl:k=a.length:=om;clear L;go_wp2_with fail;go_ret;have d:=ag.o;have x:=ae.now;rw[List.take_of_length_le (nr _)]at d x;exact⟨_,c,rfl,d,x,ac.o,A.o⟩
  | succ W =>
   have ax:(k:Int)<a.length:=om;have y:Hd (k<a.length):=by show k<a.length;omega
   obtain⟨aK,aL,aS,aM,rfl,⟨I,D,B,E,H,K,G,J,C⟩,ai,S⟩:=(aF.B A.o).get (i:=k) y.o;have mm:Hd (aS.ls.length<=1000):=by rw[<-S.o];exact aA.o k y.o
   have a3:=lh ai;obtain⟨jY,bQ,rfl,-⟩:=ai;clear L;go_wp2_with fail;refine(Uu _ aS.ls _ (a3.B (hB bR _)) HH).mono ?_;rintro _ dm ⟨cU,rfl,cE,af,bT⟩;obtain⟨e,f,rfl⟩:=cE.shape;have aC:=lh cE;have O:=lh af;refine CI ?_;intro cA jC;clear cE af bT I D B E H K G J C;obtain⟨I,D,B,E,H,K,G,J,C,-⟩:=jC.cS [0,1,2,3,4,5,6,7,8];have aE:=jC.frozen 4;have ak:=jC.lt;go_upto_region 6 with fail;obtain⟨g,X,HB6,a5,au,Z,ao⟩:∃g,dm.setCell (Ad wr.heap.size 4) (.slice e aS.ls.length f)=g/\Hd (BW wr g)/\Hd (g.ownsRow w.heap.size 43 9 u3 k (n1 (a.take k) c))/\Hd (hz g (.slice e aS.ls.length f) aS.ls)/\Hd (hA g wr.heap.size 43 [iV aS.n,iV aS.fr,iV aS.til,iV aS.du,.slice e aS.ls.length f,iV aS.tot,iV aS.cr,iV aS.mn,.bool aS.g])/\Hd (Rd F g (fun m=>h9 m (a.take k) c)):=by have V:BW wr (dm.setCell (Ad wr.heap.size 4) (.slice e aS.ls.length f)):=k1 cA.o (nr _);refine⟨_,rfl,V,ic ag.o V,aC.keep (F:=[wr.heap.size]) ((hC.refl _ _).sg _) (fun r s z t l u Q=>?_),jC.set 4 _,ae.B V (fun j b=>.inl b)⟩;have d:=O.o r s z t l u;simp only[wa]at d;simp only[ms]at Q;omega
   with_reducible rw[X]
   clear X I D B E H K G J C aE ak;obtain⟨I,D,B,E,H,K,G,J,C,-⟩:=Z.cS [0,1,2,3,4,5,6,7,8];have ak:=Z.lt;have ah:Hd (w.heap.size<=g.heap.size):=nt A.size HB6.size;have aJ:k<=1000:=o2 y.o a6.o
   go_wp2_with (at_builtin;refine BS _ rfl (.tmp 16) (.tmp 18) 61 rfl w.heap.size 43 a1 (.agg #[iZ,iZ,iZ,iZ,sZ,iZ,iZ,iZ,.bool false]) 9 88 underlying61 a7 ay aB a4 rfl Iv u3 k (n1 (a.take k) c) rfl (ic a5.o (hB bR _)) (Ad g.heap.size 0) 1 1 [iV aS.n,iV aS.fr,iV aS.til,iV aS.du,.slice e aS.ls.length f,iV aS.tot,iV aS.cr,iV aS.mn,.bool aS.g] rfl rfl (Ee g _ _) G8 RD om (by rw[wa];exact Nat.le_succ_of_le ah.o) ?_;intro aj R ab ar ad;have aa:=lh ab;have al:=lh ar;have az:=lh ad;clear ab ar ad)
   go_roundg W;case measure=>omega
   case rel =>
    have am:hC F g R:=hC.grown ((hC.refl _ _).alloc _) al.o (fun q o=>.inl (M.o q o));have a0:BW w R:=Below.grown (hB (hJ A.o HB6.o) _) al.o (by rw[wa];exact Nat.le_succ_of_le ah.o) (fun q o=>(P.o q (M.o q o)).1);have a2:Fr w (.slice e aS.ls.length f):=fun r s z t l u=>by have d:=O.o r s z t l u;have x:=A.size;simp only[wa]at d;omega
    have av:hL F (.slice e aS.ls.length f):=fun r s z t l u Q=>by have d:=O.o r s z t l u;have x:=(P.o r Q).2;simp only[wa]at d;omega
    have aG:n1 (a.take k) c++[iV aS.n,iV aS.fr,iV aS.til,iV aS.du,.slice e aS.ls.length f,iV aS.tot,iV aS.cr,iV aS.mn,.bool aS.g]=n1 (a.take (k+1)) (c++[.slice e aS.ls.length f]):=by rw[Oq y.o,S.o,Fk ao.now.length];simp[n1,ycb]
    have a8:Rd F g (fun m=>h9 m (a.take (k+1)) (c++[.slice e aS.ls.length f])):=((ao.o).and (au.rd av)).imp fun m q=>by rw[Oq y.o,S.o];exact q.1.append ⟨q.2,trivial⟩
    have aw:Rd (aj.ownBlock.toList++F) R (fun m=>h9 m (a.take (k+1)) (c++[.slice e aS.ls.length f])):=a8.step am (fun j b=>.inl b) (fun j b=>by
     rcases ma.1 b with b | b
     ·have T:=tl.1 b;rcases az.o with l | l;·exact .inl (M.o j (l▸T))
      ·rw[l]at T;cases T;exact .inr ln
     ·exact .inl b)
    refine⟨k+1,c++[Value.slice e aS.ls.length f],aj.ownBlock.toList++F,oo a9.o,by go_num,?_,fun q o=>ma.2 (.inl (tl.2 o)),fun j b=>?_,aw,fun n i=>?_,a0⟩;·have d:=aa.o;rw[aG]at d;exact d
    ·rcases ma.1 b with b | b;·have:=aa.lt j (tl.1 b);exact⟨this.1,this.2⟩
     ·have d:=P.o j b;have x:=HB6.size;have aI:=am.size;exact⟨d.1,by omega⟩
    ·rcases ma.1 i with i | i;·exact ac.o n i
     ·rw[ms]at i;subst i;exact a2
theorem Yj (x:Int) (w):Calls prog 226 #[iV x] w (h3 (.bool (n0 x)) w):=by
 by_cases a:x<0;·exact Ox
 ·by_cases b:1000000000000000<x;·exact Ox
  ·have I:n0 x=false:=by simp[n0,hO];omega
   rw[I];go_enter func226,ntmps226;go_wp2_with fail;go_ret;exact h3.mk _ _
theorem Ws:∀a w,(callFunc 226 a).run prog w=.ok (.enter 226 a) w:=P3 func226 kr kr
theorem P8 (d) (b:List Int) (a:Bool) (e:Hd (b.any n0=!a)) (w) (c:Sl .i64 w d b) :
 Calls prog 196 #[d] w (h3 (.bool a) w):=by
 cases a;all_goals
  have f:=lh c;obtain⟨i,j,rfl,_⟩:=c;go_enter func196,ntmps196;go_wp2_with fail;refine(JB _ n0 Ws Yj _ b _ e _ f.o).mono ?_;rintro _ g ⟨rfl,rfl⟩;go_wp2_with fail;go_ret;exact h3.mk _ _
def Dg (a b:St):Bool:=a.n == b.n && (a.fr == b.fr && a.til == b.til) && a.ls.length == b.ls.length
def Ds (a:St) (b:Value):Value:=.agg #[iV a.n,iV a.fr,iV a.til,iV a.du,b,iV a.tot,iV a.cr,iV a.mn,.bool a.g]
theorem ZZ (c f:St) (r p) (b:Bool) (o:Hd (Dg c f=b)) (w) (v:hz w r c.ls) (t:hz w p f.ls) :
 Calls prog 159 #[Ds c r,Ds f p] w (RetB (.bool b) w):=by
 obtain⟨B,E,rfl,_⟩:=v;obtain⟨K,I,rfl,_⟩:=t;obtain⟨u,e,j,y,m,tot,G,J,C⟩:=c;obtain⟨s,g,k,F,l,A,z,D,H⟩:=f;unfold Ds Dg at *;simp only at *;have h:=o.o;clear o;by_cases n:u=s
 ·subst n;by_cases i:e=g/\j=k
  ·obtain⟨rfl,rfl⟩:=i;by_cases a:m.length=l.length
   ·obtain rfl:true=b:=by rw[<-h];simp[a]
    rw[a];clear h a;exact Np
   ·obtain rfl:false=b:=by rw[<-h];simp[a]
    have d:((m.length:Int) == (l.length:Int))=false:=by simp;omega
    clear h a;exact Np
  ·obtain rfl:false=b:=by
    rw[<-h];by_cases a:e=g;·have:¬j=k:=fun x=>i ⟨a,x⟩;simp[this]
    ·simp[a]
   have d:e≠g\/(e=g/\j≠k):=om;clear h i;rcases d with d | ⟨rfl,d⟩;all_goals
    go_enter func159,ntmps159;go_wp2_with fail;go_ret;exact⟨rfl,bL⟩
 ·obtain rfl:false=b:=by rw[<-h];simp[n]
  clear h;exact Np
def yzv (a b:Bool):Int:=if b && !a then 1 else if a && !b then -1 else 0
theorem ysk (a b:Bool) (w):Calls prog 197 #[.bool a,.bool b] w (h3 (iV (yzv a b)) w):=by
 cases a <;> cases b;all_goals
  go_enter func197,ntmps197;go_wp2_with fail;go_ret;exact h3.mk _ _
def GH (a:Int×Int×Int):Bool:=hO a.1 && hO a.2.1
def DA (a:St):Bool:=a.ls.all GH && (hO a.tot && hO a.cr && hO a.mn)
theorem hz.get {g:Option Addr} {c:List (Int×Int×Int)} (h:hz w (.slice g n m) c) (k:i<c.length) :
 ∃b a f j e,g=some (Ad b a)/\(w.cell? (Ad b (a+i*3))=some (iV f)/\w.cell? (Ad b (a+i*3+1))=some (iV j)/\w.cell? (Ad b (a+i*3+2))=some (iV e))/\Hd (c.getD i (0,0,0)=(f,j,e)):=by
 obtain⟨t,r,d,s,p,l⟩:=h;cases d;obtain⟨b,a,rfl,o⟩:=l (by intro d;subst d;simp at k);exact⟨b,a,_,_,_,rfl,o i k,rfl⟩
theorem IW (b a:Int):[b,a].any n0=!(hO b && hO a):=by simp[n0]
theorem LE (b a c:Int):[b,a,c].any n0=!(hO b && hO a && hO c):=by simp[n0];cases hO b <;> cases hO a <;> cases hO c <;> rfl
theorem OM (m:St) (G) (j:Bool) (C:Hd (DA m=j)) (w:World) (B:hz w G m.ls) :
 Calls prog 160 #[Ds m G] w (RetB (.bool j) w):=by
 obtain⟨v,u,p,n,a,tot,f,g,r⟩:=m;unfold Ds DA at *;simp only at *;have P:=lh B;obtain⟨s,t,rfl,aa,⟨K,_⟩,_⟩:=B;unfold maxLen at K;go_enter func160,ntmps160;go_wp2_with fail;have F:Hd (hA (w.alloc (.cells #[iV v,iV u,iV p,iV n,.slice s a.length t,iV tot,iV f,iV g,.bool r] 43)) w.heap.size 43 [iV v,iV u,iV p,iV n,.slice s a.length t,iV tot,iV f,iV g,.bool r]):=hR w _ _ _ rfl;go_loopg [8] a.length (fun x R wr=>∃ab:Nat,ab+x=a.length/\R=iV ab/\Hd (∀c,c<ab->GH (a.getD c (0,0,0))=true)/\Hd (hA wr w.heap.size 43 [iV v,iV u,iV p,iV n,.slice s a.length t,iV tot,iV f,iV g,.bool r])/\BW w wr);case atStart=>exact⟨0,by omega,rfl,fun c i=>absurd i om,F.o,hB bR _⟩
 case round =>
  obtain⟨ab,X,rfl,D,A,d⟩:=hrel;clear F;cases gk with
  | succ x =>
   have I:(ab:Int)<a.length:=om;have y:ab<a.length:=om;obtain⟨b,W,e,k,J,rfl,⟨ad,Y,Z⟩,H⟩:=(P.B d).get y;have l:=lh d;clear d;go_wp2_with fail;obtain⟨q,o⟩:=xg ((hO e && hO k));refine(P8 _ [e,k] q (by show _=_;rw[IW,o]) _ ?hs).mono ?_;case hs=>exact Sl.litAt _ _ [e,k] 2 _ rfl _ rfl (by simp[maxLen]) Is
   rintro _ S ⟨rfl,rfl⟩;have z:=lh o;clear o;cases q with
   | true =>
    go_wp2_with fail;go_roundg x;case measure=>omega
    case rel=>exact⟨ab+1,by omega,by go_num,fun c i=>by
     rcases Nat.lt_succ_iff_lt_or_eq.1 i with L | rfl;·exact D.o c L
     ·rw[H.o];exact z.o,A.B (hB (hB bR _) _),hB (hB l.o _) _⟩
   | false =>
    have O:false=j:=by
     rw[<-C.o];have:a.all GH=false:=by rw[List.all_eq_false];refine⟨(e,k,J),?_,by simp[GH,z.o]⟩;rw[<-H.o];simp[List.getD,y]
     rw[this];rfl
    subst O;go_wp2_with fail;go_ret;exact⟨rfl,hB (hB l.o _) _⟩
  | zero =>
   have I:¬((ab:Int)<a.length):=om;obtain⟨ac,T,V,-⟩:=A.cS [5,6,7];have l:=lh d;have E:a.all GH=true:=by rw[List.all_eq_true];intro e Q;obtain⟨c,i,rfl⟩:=List.getElem_of_mem Q;have:=D.o c om;simpa[List.getD,i] using this
   have M:=lh E;clear d E;go_wp2_with fail;refine(P8 _ [tot,f,g] j (by show _=_;rw[LE,<-C.o,M.o];simp[Bool.and_assoc]) _ (Sl.litAt _ _ [tot,f,g] 3 _ rfl _ rfl (by simp[maxLen]) Is)).mono ?_;rintro _ S ⟨rfl,rfl⟩;go_wp2_with fail;go_ret;exact⟨rfl,hB l.o _⟩
theorem Yl (y z) (b d:List St) (f:Bool) (u:b.length=d.length) (E:Hd ((∀c,c<b.length->Dg (b.getD c q2) (d.getD c q2)=true)↔f=true)) (w) (i:w8 w y b) (j:w8 w z d) :
 Calls prog 158 #[y,z,.func (.func 159) #[] #[]] w (RetB (.bool f) w):=by
 have G:=lh i;have O:=lh j;obtain⟨T,a1,rfl⟩:=i.shape;obtain⟨au,X,rfl⟩:=j.shape;have n:=i.choose_spec.2.len.2;unfold maxLen at n;obtain⟨ah,al,_⟩:=n;clear i j;have F:((b.length:Int) != (d.length:Int))=false:=by simp;omega
 go_enter func158,ntmps158;have A:=lh u;clear u;go_wp2_with fail;clear F;go_loopg [17] b.length (fun m c wr=>∃a:Nat,a+m=b.length/\c=iV a/\Hd (∀e,e<a->Dg (b.getD e q2) (d.getD e q2)=true)/\BW w wr);case atStart=>exact⟨0,by omega,rfl,fun e l=>absurd l om,bR⟩
 case round =>
  obtain⟨a,S,rfl,v,g⟩:=hrel;cases gk with
  | succ m =>
   have I:(a:Int)<b.length:=om;have a6:(a:Int)<d.length:=oo A.o;obtain⟨Z,af,x,am,rfl,⟨ay,ae,Y,ag,ax,a3,ak,a0,ab⟩,r,s⟩:=(G.B g).get (i:=a) om;obtain⟨a4,ad,D,an,rfl,⟨H,ac,R,aa,ai,ao,W,V,a5⟩,t,B⟩:=(O.B g).get (i:=a) (oo A.o);have aw:=ht H;have M:=lh r;have K:=lh t;have P:=lh g;obtain⟨aj,a2,rfl,_⟩:=r;obtain⟨av,az,rfl,_⟩:=t;clear g;go_wp2_with fail;obtain⟨q,C⟩:=xg (Dg x D);have k:=lh C;clear C;refine(ZZ x D _ _ q k _ (M.B (hB (hB bR _) _)) (K.B (hB (hB bR _) _))).mono ?_;rintro _ Q ⟨rfl,p⟩;have o:Hd (BW w Q):=hJ (hB (hB P.o _) _) p;clear p;cases q with
   | true =>
    go_wp2_with fail;go_roundg m;case measure=>omega
    case rel=>exact⟨a+1,by omega,by go_num,fun e l=>by
     rcases Nat.lt_succ_iff_lt_or_eq.1 l with L | rfl;·exact v.o e L
     ·rw[s.o,B.o];exact k.o,o.o⟩
   | false =>
    have J:false=f:=by
     cases f with
     | false=>rfl
     | true=>have:=E.o.2 rfl a om;rw[s.o,B.o,k.o]at this;exact this
    subst J;go_wp2_with fail;go_ret;exact⟨rfl,o.o⟩
  | zero=>have I:¬((a:Int)<b.length):=om;obtain rfl:f=true:=E.o.1 fun c ar=>v.o c om;go_wp2_with fail;go_ret;exact⟨rfl,g⟩
def CO (c:Bk) (b a:Int):Int :=
 if b<1\/8<b then 7 else if a<1\/1000000000000000<a then 8 else if wrap64 (1000000000000000-c.held)<a then 5 else if 2000<=c.ds.length then 14 else 0
def CS (a:Bk) (c d b:Int):Bk :=
 if CO a c b=0 then ⟨a.ds++[⟨(a.ds.length:Int)+1,c,d,b,1⟩],wrap64 (a.held+b)⟩ else a
def Eo (a:Bk) (c b:Int):Int:=if CO a c b=0 then (a.ds.length:Int)+1 else 0
theorem yvj (w:World) (d b c a e) (g:TypeId):∀i f,[d,b,c,a,e][i]?=some f->(w.alloc (.cells #[d,b,c,a,e] g)).cell? (((Ad w.heap.size 0):Addr).add i)=some f:=by intro i f j;have h:hA (w.alloc (.cells #[d,b,c,a,e] g)) w.heap.size g [d,b,c,a,e]:=heap_alloc_new w _;rw[Addr.add_lit,h.cell,Nat.zero_add];exact j
theorem W4:(prog.info? 155).map (fun a=>(a.zero,a.size,a.bytes))=some (some (.agg #[iZ,iZ,iZ,iZ,iZ]),5,40):=by kernel_rfl
structure hx (base:Nat) (L:List Nat) (w w':World):Prop where
 B:Below base w w'
 keep:hC L w w'
theorem hx.refl (b:Nat) (a:List Nat) (w):hx b a w w:=⟨bR,hC.refl _ _⟩
theorem hx.setCell (h:hx n F w W) (b:n<=m) (c:m∈F\/w.heap.size<=m) (a):hx n F w (W.setCell (Ad m i) a):= ⟨h.B.setCell b _,h.keep.setCell c _⟩
theorem hx.alloc (h:hx n F w W) (b:n<=W.heap.size) (a:Obj):hx n F w (W.alloc a):= ⟨h.B.alloc b _,h.keep.alloc _⟩
theorem hx.drew (h:hx n F w W):hx n F w W.drew:= ⟨h.B.drew,h.keep.drew⟩
theorem Zh (f l:Nat) (ai:Value) (d:Bk) (b o a:Int) (w:World) (ak:m1 w f l ai d) (D:f<=w.heap.size) (t:List Nat) (J:Hd (l∈t/\∀q,ai.ownBlock=some q->q∈t)) :
 Calls prog 113 #[pV l,iV b,iV o,iV a] w (fun e z=>∃x,e=.returned (.tuple #[iV (Eo d b a),iV (CO d b a)])/\m1 z f l x (CS d b o a)/\hx f t w z):=by
 obtain⟨g,j⟩:=xg (CO d b a);obtain⟨y,n⟩:=xg (Eo d b a);obtain⟨A,m⟩:=xg (CS d b o a);rw[j,n,m];have B:Hd (g≠0->y=0/\A=d):=fun h=>by unfold Eo at n;unfold CS at m;rw[j,if_neg h]at n m;exact⟨n.symm,m.symm⟩
 have bs:Hd (g=0->y=(d.ds.length:Int)+1/\A=⟨d.ds++[⟨(d.ds.length:Int)+1,b,o,a,1⟩],wrap64 (d.held+a)⟩):=fun h=>by unfold Eo at n;unfold CS at m;rw[j,if_pos h]at n m;exact⟨n.symm,m.symm⟩
 have C:=lh j;clear j n m;have br:=lh ak;obtain⟨s,ae⟩:=d;obtain⟨R,T,u⟩:=ak;simp only at R T u;have r:=lh T;have G:=lh u;have V:=lh R;have ah:=lh (h4.of_own u rfl);obtain⟨az,aE,rfl⟩:=(h4.of_own u rfl).shape;obtain⟨X,F,-⟩:=r.cs [0,1];obtain⟨aj,-⟩:=r.fs [1];simp only[gz,gs]at X F;have ac:=lh D;have af:=Fl.len ah.o;have a':=lh af;clear T u D af R;go_enter func113,ntmps113;go_wp2;refine sq 0 (fun bh z=>∃(b8 ax b6 bl aK bB a3 aD bz bE a9 aT bx aY ay bg a1 a6 aB b5 a4 a2 aX au b0 b1 b9 av b7 aV bF aP aG bi b3 aQ bb aS bq bc aJ bv bf bo aZ aw a7 aA aN aI ao aO bH aU aR bC aH bG aM b2 bt bD bI bd aW b4 aC:Value),bh={ tmps:=#[b8,ax,b6,bl,aK,bB,a3,aD,bz,bE,iV g,iV y,a9,aT,bx,aY,ay,bg,a1,a6,aB,b5,a4,a2,aX,au,b0,b1,b9,av,b7,aV,bF,aP,aG,bi,b3,aQ,bb,aS,bq,bc,aJ,bv,bf,bo,aZ,aw,a7,aA,aN,aI,ao,aO,bH,aU,aR,bC,aH,bG,aM,b2,bt,bD,bI,bd,aW,b4,aC],defers:=[] }/\Hd (∃x,m1 z f l x A)/\hx f t w z)
  (fun _ _=>0) rfl ?pass ?first
 case pass =>
  intro bK bP P fd be;clear be;iterate 67 obtain⟨_,P⟩:=P
  obtain⟨rfl,bp,D⟩:=P;go_wp2;simp only[Exit.jump];go_ret2;obtain⟨x,h⟩:=bp.o;exact⟨x,rfl,h,D⟩
 case first =>
  refine PY ?_;intro fd dM iG;by_cases a8:b<1\/8<b
  ·obtain rfl:7=g:=by have:=C.o;unfold CO at this;rw[if_pos a8]at this;exact this
   obtain⟨rfl,rfl⟩:=B.o Iv;rcases a8 with a8 | a8;all_goals
    go_wp2_with fail;go_step3;exact⟨rfl,dM.o _ _ (hP (hP (hP (hP (hP (hP ⟨_,_,_,_,_,_,_,rfl,⟨_,br.o⟩,hx.refl _ _ _⟩))))))⟩
  ·have bQ:¬b<1:=om;have bO:¬8<b:=om;by_cases i:a<1\/1000000000000000<a
   ·obtain rfl:8=g:=by have:=C.o;unfold CO at this;rw[if_neg a8,if_pos i]at this;exact this
    obtain⟨rfl,rfl⟩:=B.o Iv;clear a8;rcases i with i | i;all_goals
     go_wp2_with fail;go_step3;exact⟨rfl,dM.o _ _ (hP (hP (hP (hP (hP (hP ⟨_,_,_,_,_,_,_,rfl,⟨_,br.o⟩,hx.refl _ _ _⟩))))))⟩
   ·have bS:¬a<1:=om;have bJ:¬1000000000000000<a:=om;by_cases Q:wrap64 (1000000000000000-ae)<a
    ·obtain rfl:5=g:=by have:=C.o;unfold CO at this;rw[if_neg a8,if_neg i,if_pos Q]at this;exact this
     obtain⟨rfl,rfl⟩:=B.o Iv;clear a8 i;exact Dd
    ·by_cases W:2000<=s.length
     ·obtain rfl:14=g:=by have:=C.o;unfold CO at this;rw[if_neg a8,if_neg i,if_neg Q,if_pos W]at this;exact this
      obtain⟨rfl,rfl⟩:=B.o Iv;clear a8 i;have an:(2000:Int)<=(s.length:Int):=om;exact Dd
     ·obtain rfl:0=g:=by have:=C.o;unfold CO at this;rw[if_neg a8,if_neg i,if_neg Q,if_neg W]at this;exact this
      obtain⟨rfl,rfl⟩:=bs.o rfl;clear a8 i;have an:¬(2000:Int)<=(s.length:Int):=om;obtain⟨c,ab⟩:=xg s.length;rw[ab]at J br r G ah X a' W an B dM iG;have bu:=lh ab;clear ab;obtain⟨aL,bw,aF,bA,bm⟩:=info_parts W4;have E:wrap64 ((c:Int)+1)=(c:Int)+1:=wi _ ⟨by omega,by omega⟩;go_wp2_with fail;go_quiet (fail);try simp only[E]
      clear E;have O:=lh (hh G.o r.o Iv);go_upto_region 14 with(at_builtin;refine BS _ rfl (.tmp 49) (.tmp 55) 36 rfl f 155 aL (.agg #[iZ,iZ,iZ,iZ,iZ]) 5 40 underlying36 bw aF bA bm rfl Iv _ c (k8 s) rfl (ic G.o (hB (BU bR nq) _)) (Ad w.heap.size 0) 1 1 [iV ((c:Int)+1),iV b,iV o,iV a,iV 1] rfl rfl (yvj (w.drewN nq) _ _ _ _ _ _) (fun g j=>by simp at j;rcases j with rfl | rfl | rfl | rfl | rfl <;> rfl) RD om (nt ac.o (hB (BU (Below.refl _ w) nq) _).size) ?_;intro bN ad L K ar;clear ar;obtain⟨Y,M,rfl⟩:=ro L om;have aa:=lh L;have I:=lh K;have bj:ad.cell? (Ad l 0)=some (.slice az c aE):=(p7 (r.B (hB (BU bR nq) _)) K O.o).cell 0;have a5:=(p7 (r.B (hB (BU bR nq) _)) K O.o).frozen 0;clear L K)
      have S:=lh (p7 (r.B (hB (BU bR nq) _)) I.o O.o);have am:Hd (hx f t w ad):=⟨Below.grown (((Below.refl f w).trans (below_drewN bR nq)).alloc ac.o _) I.o (nt ac.o (hB (BU (Below.refl _ w) nq) _).size) (fun q Z=>(G.lt q Z).1),((((hC.refl _ _).B (below_drewN bR nq)).alloc _).grown I.o (fun q Z=>.inl (J.o.2 q Z)))⟩;obtain⟨v,al,H,ag,a0⟩:∃v,ad.setCell (Ad l 0) (sL Y 0 (c+1) M)=v/\Hd (hA v l 127 [sL Y 0 (c+1) M,iV ae])/\Hd (v.ownsRow f 155 5 (sL Y 0 (c+1) M) (c+1) (k8 (s++[⟨(c:Int)+1,b,o,a,1⟩])))/\Hd (hx f t w v) :=
       ⟨_,rfl,S.set 0 _,by
        rw[Cq]
        exact t1 aa.o (hh aa.o S.o Iv) _,am.setCell V.o (.inl J.o.1) _⟩
      with_reducible rw[al]
      clear al I aa bj a5 S am X F aj;have F:=H.cell 1;have aj:=H.frozen 1;simp only[gz,gs]at F;go_wp2_with fail;go_step3;go_step;go_step;refine iG.o _ _ (hP (hP (hP (hP (hP (hP ⟨_,_,_,_,_,_,_,rfl,⟨_,V.o,H.set 1 _,?_⟩,a0.setCell V.o (.inl J.o.1) _⟩))))));have E:(s++[(⟨(c:Int)+1,b,o,a,1⟩:R5)]).length=c+1:=by rw[la,bu.o];rfl
      simp only;rw[E];exact t1 ag.o (hh ag.o H.o Iv) _
end Go.Proofs.YtkongpjpkpfniaaGreat

/- TopBooks, a part. -/
import Derived.Test.YtkongpjpkpfniaaGreatC17
set_option linter.unusedVariables false
set_option linter.unusedSimpArgs false
set_option maxRecDepth 100000
set_option maxHeartbeats 6400000
namespace Go.Proofs.YtkongpjpkpfniaaGreat
open Go.RowKit Go.Proofs.Tryz
variable {I:AV} {A:i0} {c d f y z:Int} {P:List (Int×Int)} {H:List (Int×Nat×Nat)} {r x:List Int} {F:List Nat} {l:List R5} {k m n:Nat} {p q:Prop} {E:R5} {s:RS} {V u v:Value} {W Y w:World}
theorem M2 (h:q:=by have i9:Hd (hA dL fB 35 [sZ,iZ,iZ]):=(aJ.b _ rfl).1;obtain⟨b6,aM,aP,-⟩:=i9.cS [0,1,2];obtain⟨rV,rW,rX,-⟩:=i9.fs [0,1,2];have x4:=i9.lt;refine wS 18 rfl ?_;refine wS 19 rfl ?_;refine wS 20 rfl ?_;clear b6 aM aP rV rW rX;refine r4 kr ?_ _;go_wp2_with fail;go_meet;case rel=>exact⟨fB,_,_,rfl,rfl,rfl,aJ.fin⟩):q:=h
def tr (b c d:Nat) (g:List Int) (e f i:Value) (a:Nat):It :=
 if a=0 then ⟨2,1,e,b,List.replicate b (iZ)⟩
 else if a=1 then ⟨2,1,f,c,(g.take c).map (Value.int .i64)⟩
 else if a=2 then ⟨33,1,i,d,List.replicate d (sZ)⟩
 else ⟨2,1,sZ,0,[]⟩
theorem YM (i b c k:Nat) (f:List Int) (j e g l) (a:Nat) (d:a≠0):tr k b c f l e g a=tr i b c f j e g a:=by unfold tr;rw[if_neg d,if_neg d]
theorem Tc (b i c j:Nat) (f:List Int) (e k g l) (a:Nat) (d:a≠1):tr b j c f e l g a=tr b i c f e k g a:=by unfold tr;rw[if_neg d,if_neg d]
theorem XD (b c i j:Nat) (g:List Int) (e f l k) (a:Nat) (d:a≠2):tr b c j g e f k a=tr b c i g e f l a:=by unfold tr;rw[if_neg d,if_neg d]
theorem W8 {a:List (Int×Bool)} (h:n<m/\a.length=m):((a.map (·.1)).take (n+1)).map (Value.int .i64)=((a.map (·.1)).take n).map (Value.int .i64)++[iV (a.getD n (0,false)).1]:=by
 have b:n<(a.map (·.1)).length:=by rw[List.length_map];omega
 rw[List.take_succ_eq_append_getElem b];simp[List.getD,show n<a.length by omega]
theorem Ob.wk {c:List (Int×Bool)} (h:Ob n m [v,iZ,iZ,u,sZ,V,sZ,sZ,sZ] F W (tr k k k (c.map (·.1)) v u V)) (E:c.length=k) :
 hf n m ⟨List.replicate k 0,0,0⟩ (c.map (·.1)) [] [] (T0 k) (m::V.ownBlock.toList) W [] (KY V) v u/\∀b∈m::V.ownBlock.toList,b∈F:=by
 have x:∀b∈m::V.ownBlock.toList,b∈F:=fun b j=>by
  rcases mc.1 j with rfl | j;·exact h.gF
  ·exact h.its.inF 2 b (tl.1 j)
 have G:W.ownsRow n 2 1 v k ((List.replicate k (0:Int)).map (Value.int .i64)):=by rw[List.map_replicate];exact h.its.own 0
 have D:W.ownsRow n 2 1 u k ((c.map (·.1)).map (Value.int .i64)):=by have i:=h.its.own 1;have e:(c.map (·.1)).take k=c.map (·.1):=List.take_of_length_le (by rw[List.length_map];omega);have f:W.ownsRow n 2 1 u k (((c.map (·.1)).take k).map (Value.int .i64)):=i;rwa [e]at f
 have y:∀a o,a≠2->(tr k k k (c.map (·.1)) v u V a).v=o->hL (m::V.ownBlock.toList) o:=fun a o r H z I p d e _ s=>by
  have g:(tr k k k (c.map (·.1)) v u V a).v.ownBlock=some z:=by rw[H,e];rfl
  rcases mc.1 s with t | s;·exact h.gOff a (by rw[g,t])
  ·exact h.its.ap a 2 r z g (tl.1 s)
 refine⟨⟨h.blk,me ..,fun b j=>h.lt b (x b j),((Sl.of_own G Is).rd (y 0 _ Iv rfl)).and (((Sl.of_own D (by simp[E])).rd (y 1 _ Iv rfl)).and (fun _ _=>trivial)),?_⟩,x⟩;have l:∀a,a≠4->KY V a=sZ:=fun a r=>if_neg r;refine⟨fun a=>?_,fun a A B q i f=>?_,fun a q g=>?_⟩
 ·by_cases d:a=4
  ·subst d;have i:=h.its.own 2;have f:W.ownsRow n 33 1 V k (List.replicate k (sZ)):=i;rw[show(4:Nat)=2+2 from rfl,FD _ _ _ _ _ Iv];have t:(T0 k 2).length=k:=List.length_replicate;simp only[t];have C:((List.range k).map fun p=>KY V (5+3*p+2))=List.replicate k (sZ):=by
    refine List.eq_replicate_iff.2 ⟨by simp,fun b j=>?_⟩;obtain⟨p,_,rfl⟩:=List.mem_map.1 j;exact l _ om
   rw[C];exact f
  ·unfold i1;rw[l a d];split;·exact BT _ _ _ _
   split;·exact BT _ _ _ _
   split;·have e:T0 k (a-2)=[]:=if_neg om;simp only[e];exact BT _ _ _ _
   ·have e:(T0 k ((a-5)%3)).getD ((a-5)/3) []=[]:=by
     unfold T0;split;·exact Ec _ _
     ·rfl
    simp only[e];exact BT _ _ _ _
 ·rw[jdn]at i f;by_cases d:a=4;·rw[l A (fun e=>B (d.trans e.symm))]at f;cases f
  ·rw[l a d]at i;cases i
 ·rw[jdn]at g;by_cases d:a=4;·subst d;exact mo _ (tl.2 g)
  ·rw[l a d]at g;cases g
def Za (a:RS) (f:List (Int×Nat×Nat)) (w:World) (j:Ending) (c:World):Prop:=∃b g i e d l k,j=.returned (.tuple #[pV b,iZ])/\hf w.heap.size b a.p a.rs a.o f i g c e d l k/\BW w c
theorem YE (R:Tm) (eO eZ) (e:List R5) (ad:Int) (n:List (Int×Int)) (S:RS) (aN:List (Int×Nat×Nat)) (g:Nat) (c6:R.ts.length=g) (fi:g<=1000) (ey:R.right=true) (B:Hd (∀x∈e,R.rightE x=0)) (e0:e.length<=2000) (f2:Hd (Asc e)) (gF:Hd (∀l,l<e.length->(e.getD l Sk).b<=ad)) (bt:Hd (DK R.start R.cyc ad n)) (ag:ad<=2932896)
 (fF:Hd (uc R e n (ad-R.start).toNat R.start (r1 R)=(S,0))) (fJ:Hd (Co R e n (ad-R.start).toNat R.start (r1 R)=aN)) (dF:aN.length<=1000000) (w) (b0:h7 w eO R.ts) (d3:h4 w eZ e) :
 Calls prog 42 #[.agg (R.cells eO).toArray,eZ,iV ad] w (Za S aN w):=by
 obtain⟨ah,d,t,aK,A,v,i⟩:=R;have du:=lh b0;have ee:=lh d3;have gi:=lh ey;simp only at c6;have ab:Hd (d.length=g/\g<=1000):=⟨c6,fi⟩;have bg:=lh (An e0 (An ag dF));obtain⟨ai,M,rfl⟩:=b0.shape;obtain⟨dU,eV,rfl⟩:=d3.shape;obtain⟨E,cH⟩:=xg w.heap.size;obtain⟨aa,dE⟩:=xg w.heap.size;have fv:=lh (An dE cH);obtain⟨ck,gd,fa,d1⟩:∃ck,w.alloc (.cells #[iV ah,.slice ai d.length M,iV t,iV aK,iV A,iV v,iV i] 24)=ck/\Hd (hA ck E 24 [iV ah,.slice ai d.length M,iV t,iV aK,iV A,iV v,iV i])/\Hd (BW w ck):=⟨_,rfl,hR w _ _ _ cH,hB bR _⟩;clear b0 d3 c6 fi ey e0 ag dF dE;unfold Tm.cells;go_enter func42,ntmps42;go_upto_region 1 with fail;clear gd cH;obtain⟨bU,aA,aZ,bG,ca,dr,bo,-⟩:=fa.cS [0,1,2,3,4,5,6];go_wp2_with fail;refine(Vd ⟨ah,d,t,aK,A,v,i⟩ (.slice ai d.length M) (.slice dU e.length eV) e ad n gi.o B bg.1 bt gF bg.2.1 _ (du.B d1.o) (ee.B d1.o)).mono ?_;rintro _ gG ⟨rfl,d8⟩;have el:Hd (BW w gG):=hJ d1.o d8;have fA:=lh (fa.B d8);clear d8 bU aA aZ bG ca dr bo;go_wp2_with fail;refine(Wj (.slice dU e.length eV) e bg.1 f2 _ (ee.B el.o)).mono ?_;rintro _ bl ⟨g7,rfl,ez,di⟩;have cr:Hd (BW w bl):=hJ el.o di;have eD:=lh (fA.B di);have dm:Hd (h4 bl g7 e):=Fl.of_own ez (DU e);obtain⟨b7,aS,rfl⟩:=dm.shape;clear di ez;go_upto_region 6 with fail;obtain⟨ax,a,en,cA,et,ce⟩:∃ax a,bl.alloc (.cells #[sZ,iZ,iZ,sZ,sZ,sZ,sZ,sZ,sZ] 109)=ax/\bl.heap.size=a/\Hd (hA ax a 109 [sZ,iZ,iZ,sZ,sZ,sZ,sZ,sZ,sZ])/\Hd (BW bl ax):=⟨_,_,rfl,rfl,hR bl _ _ _ rfl,hB bR _⟩;with_reducible rw[en,cA]
 have f9:=lh cA;have gB:Hd (BW w ax):=hJ cr.o ce.o;have aQ:Hd (w.heap.size=aa/\aa<=E/\E<a/\a<ax.heap.size):=by have Z:=eD.lt;have ag:=et.lt;have eS:=fv.o;exact⟨eS.1,by omega,by omega,ag⟩
 have b9:Hd (hA ax E 24 [iV ah,.slice ai d.length M,iV t,iV aK,iV A,iV v,iV i]/\E∉[a]):=⟨eD.B ce.o,by simp only[ms];have:=aQ.o;omega⟩;have d2:Hd (Rd [a] ax (fun W=>h4 W (.slice b7 e.length aS) e/\h7 W (.slice ai d.length M) d)):=by
  have hge:∀x∈[a],bl.heap.size<=x:=fun x B=>by rw[ms]at B;rw[B,f9.o];exact nr _
  exact(h4.rd (dm.B ce.o) (Fl.offNew dm.o Iv hge)).and (h7.rd ((du.B cr.o).B ce.o) (Fl.offNew (du.B cr.o).fl Iv hge))
 have g3:Hd (Ob aa a [sZ,iZ,iZ,sZ,sZ,sZ,sZ,sZ,sZ] [a] ax (tr 0 0 0 (d.map (·.1)) (sZ) (sZ) (sZ))):=by
  have bN:∀l,((tr 0 0 0 (d.map (·.1)) (sZ) (sZ) (sZ)) l).v=sZ/\((tr 0 0 0 (d.map (·.1)) (sZ) (sZ) (sZ)) l).n=0/\((tr 0 0 0 (d.map (·.1)) (sZ) (sZ) (sZ)) l).cs=[]:=fun l=>by
   unfold tr;split;·exact⟨rfl,rfl,rfl⟩
   split;·exact⟨rfl,rfl,rfl⟩
   split <;> exact⟨rfl,rfl,rfl⟩
  refine⟨et.o,by simp,fun x B=>?_,⟨fun l=>?_,fun l j _ q h=>?_,fun l q h=>?_⟩,fun l=>?_⟩;·rw[ms]at B;have:=aQ.o;omega
  ·rw[(bN l).1,(bN l).2.1,(bN l).2.2];exact BT _ _ _ _
  ·rw[(bN l).1]at h;cases h
  ·rw[(bN l).1]at h;cases h
  ·unfold tr;split;·exact(by decide:2≠109)
   split;·exact(by decide:2≠109)
   split;·exact(by decide:33≠109)
   ·exact(by decide:2≠109)
 clear en cA;obtain⟨dN,bz,eW,ep,e9⟩:=info_parts Ch;obtain⟨f4,aH,fW,fC,f5⟩:=info_parts KN;have gS:(d.length:Int)=g:=by rw[ab.1]
 have gX:=ab.2;go_wp2_with fail;go_loopg [10] g (fun O l wr=>∃k:Nat,k+O=g/\l=iV k/\∃cp aL V J,Hd (Ob aa a [aL,iZ,iZ,V,sZ,J,sZ,sZ,sZ] cp wr (tr k k k (d.map (·.1)) aL V J))/\Hd (hT [a] ax cp wr));case atStart=>exact⟨0,by omega,rfl,[a],_,_,_,g3,hT.refl _ _⟩
 case round =>
  obtain⟨k,dw,rfl,cp,aL,V,J,bv,b2⟩:=hrel;have aB:=lh (b2.blk b9.1 b9.2);have cy:=lh (b2.rd d2.o);have aA:wr.cell? (Ad E 1)=some (.slice ai d.length M):=aB.1.cell 1;have aI:=aB.1.lt;cases gk with
  | succ O =>
   have db:(k:Int)<g:=om;have gx:(0:Int)<=(k:Int):=om;have gE:=lh dw;have aF:Hd (k<g/\d.length=g):=⟨by omega,ab.1⟩;obtain⟨aw,gD⟩:∃aw,aw=wr:=⟨_,rfl⟩;subst gD;obtain⟨a4,gm⟩:∃a4,a4=cp:=⟨_,rfl⟩;subst gm;have gp:Hd (hT a4 aw a4 aw):=hT.refl _ _;clear dw;have gH:aw.cell? (Ad a 0)=some aL:=bv.blk.cell 0;have fO:=bv.blk.lt;have g4:Hd (aa<=aw.heap.size):=by have Z:=bv.lt a bv.gF;show aa<=_;omega
   go_upto_region 10 with(at_builtin;refine BS _ rfl (.tmp 41) (.tmp 42) 33 rfl aa 2 dN (iZ) 1 8 underlying33 bz eW ep e9 rfl (by decide) aL k (List.replicate k (iZ)) (by rfl) (ic (bv.its.own 0) (hB bR _)) (Ad aw.heap.size 0) 1 1 [iZ] (by rfl) rfl (Ee aw _ _) (by intro cU cE;simp at cE;subst cE;rfl) (by have:=aF.o;have:=ab.2;unfold maxLen;omega) (o2 aF.o ab.2) (by rw[wa];exact Nat.le_succ_of_le g4.o) ?_;intro D cg df cJ ex;obtain⟨gt,gn,rfl⟩:=ro df om;have dg:=lh df;have dd:=lh ex;have bB:Hd (hA cg a 109 [aL,iZ,iZ,V,sZ,J,sZ,sZ,sZ]):=p7 (bv.blk.B (hB bR _)) cJ (bv.gOff 0);have e3:Hd (hC aL.ownBlock.toList aw cg):=hC.grown (hC.of_below (hB bR _)) cJ (fun q bj=>.inl (tl.2 bj));have bI:=bB.cell 0;have fb:=bB.frozen 0;have d4:=bB.lt;simp only[gz]at bI;clear df cJ ex gH)
   clear fO bI fb d4;obtain⟨D,eq⟩:∃Y,Y=sL gt 0 (k+1) gn:=⟨_,rfl⟩;rw[<-eq]at dg dd ⊢;have eq:D=Value.slice (some (Ad gt 0)) (k+1) gn:=eq;try rw[<-eq]
   clear eq;obtain⟨b8,c2⟩:=xg (D.ownBlock.toList++a4);obtain⟨bb,e2,ay,c3⟩:∃bC,cg.setCell (Ad a 0) D=bC/\Hd (Ob aa a [D,iZ,iZ,V,sZ,J,sZ,sZ,sZ] b8 bC (tr (k+1) k k (d.map (·.1)) D V J))/\Hd (hT a4 aw b8 bC):=by
    have h:=bv.turn (it':=(tr (k+1) k k (d.map (·.1)) D V J)) 0 (W':=cg.setCell (Ad a 0) D)
     ((e3.mono (fun x B=>mo _ B)).sg _) (bB.set 0 _)
     (by
      have Z:=dg.o;show(cg.setCell (Ad a 0) D).ownsRow aa 2 1 D (k+1) (List.replicate (k+1) (iZ));rw[List.replicate_succ']
      exact t1 Z (hh Z bB.o Iv) _)
     (by
      rcases dd.o with s | s;·exact .inl s
      ·exact .inr ⟨_,s,ln⟩)
     (fun j aH=>YM _ _ _ _ _ _ _ _ _ j aH) (by show 2≠109;decide)
    change _/\hT _ _ (D.ownBlock.toList++a4) _ at h;have s:(((tr (k+1) k k (d.map (·.1)) D V J) 0).v.ownBlock.toList++a4)=b8:=c2;rw[s]at h;rw[c2]at h;exact⟨_,rfl,h.1,gp.trans h.2⟩
   with_reducible rw[e2]
   clear e2 c2 dg dd bB e3;have sy:Hd (aa<=bb.heap.size):=by have Z:=ay.lt a ay.gF;show aa<=_;omega
   have cG:=lh (c3.blk aB.1 aB.2);have eh:=lh (c3.rd cy.o);obtain⟨bm,bp,eJ,dx,fx⟩:=(eh.now.2).get18 (i:=k) (o2 aF.o ab.1);have dy:=lh eJ;obtain⟨z,cQ⟩:=xg ((d.getD k (0,false)).1);rw[cQ]at dx;have eC:=lh cQ;have ei:=lh dx;clear dx fx cQ eJ;have eN:Hd (∀W',BW bb W'->W'.cell? (Ad a 3)=some V/\W'.cell? (Ad E 1)=some (.slice (some (Ad bm bp)) d.length M)/\W'.cell? (Ad bm (bp+k*2))=some (iV z)):=fun W' au=>by have Z:=ay.blk.B au;have ag:=cG.1.B au;exact⟨Z.cell 3,by rw[ag.cell,<-dy.o];rfl,(au.cell (p:=(Ad bm (bp+k*2))) (ht ei.o)).trans ei.o⟩
   have bP:=eN.o bb.drew (hG bR);have dS:=eN.o (bb.alloc (.cells #[iV z] 2)).drew (hG (hB bR _));refine se (fun W'=>W'.cell? (Ad a 3)=some V/\W'.cell? (Ad E 1)=some (.slice (some (Ad bm bp)) d.length M)/\W'.cell? (Ad bm (bp+k*2))=some (iV z)) 13 kr ?_;refine Kn ?_;show _;refine tK 9 rfl ?_;refine tK 10 rfl ?_;refine wo 11 kr rfl fun X ac=>?_;go_simp;refine ac.out _ _ (fun hun=>dS) ?_;clear ac X;try simp only[ap,aq,sa,sb,sc]
   refine wo 12 kr rfl fun X ac=>?_;refine DS rfl (.tmp 51) (.tmp 58) 33 rfl aa 2 dN (iZ) 1 8 underlying33 bz eW ep e9 rfl Iv V k (((d.map (·.1)).take k).map (Value.int .i64)) JF (ic (ay.its.own 1) (hG (hB bR _))) (Ad bb.heap.size 0) 1 1 [iV z] JF rfl (D3 bb _ _) L2 (by have:=aF.o;have:=ab.2;unfold maxLen;omega) (o2 aF.o ab.2) Hj ?_;intro L aX dq cF eG;obtain⟨fp,g6,rfl⟩:=ro dq om;have cB:=lh dq;have c5:=lh eG;have bQ:Hd (hA aX a 109 [D,iZ,iZ,V,sZ,J,sZ,sZ,sZ]):=p7 (ay.blk.B (hG (hB bR _))) cF (ay.gOff 1);have cl:Hd (hC V.ownBlock.toList bb aX):=hC.grown (hC.of_below (hG (hB bR _))) cF (fun q bj=>.inl (tl.2 bj));have dB:aX.cell? (Ad a 3)=some V/\aX.cell? (Ad E 1)=some (.slice (some (Ad bm bp)) d.length M)/\aX.cell? (Ad bm (bp+k*2))=some (iV z):=by have Z:=bQ.o;have ag:=cG.1.keep cl.o (fun a0=>cG.2 (ay.its.inF 1 E (tl.1 a0)));refine⟨Z.cell 3,by rw[ag.cell,<-dy.o];rfl,?_⟩;obtain⟨g',gV,eF,eX,_⟩:=((eh.o _ (cl.mono (fun x B=>ay.its.inF 1 x (tl.1 B)))).2).get18 (i:=k) (o2 aF.o ab.1);rw[dy.o]at eF;cases eF;rw[eC.o]at eX;exact eX
   clear dq cF eG;refine ac.out _ _ (fun hun=>dB) ?_;clear ac X;try simp only[ap,aq,sa,sb,sc]
   have fP:=bQ.frozen 3;refine wS 13 rfl ?_;refine wS 14 rfl ?_;refine wS 15 rfl ?_;refine r4 kr ?_ _;clear bP dS dB fP;obtain⟨L,e1⟩:∃Y,Y=sL fp 0 (k+1) g6:=⟨_,rfl⟩;rw[<-e1]at cB c5 ⊢;have e1:L=Value.slice (some (Ad fp 0)) (k+1) g6:=e1;try rw[<-e1]
   clear e1;obtain⟨b4,c'⟩:=xg (L.ownBlock.toList++b8);obtain⟨cf,fm,aO,f3⟩:∃bC,aX.setCell (Ad a 3) L=bC/\Hd (Ob aa a [D,iZ,iZ,L,sZ,J,sZ,sZ,sZ] b4 bC (tr (k+1) (k+1) k (d.map (·.1)) D L J))/\Hd (hT a4 aw b4 bC):=by
    have h:=ay.turn (it':=(tr (k+1) (k+1) k (d.map (·.1)) D L J)) 1 (W':=aX.setCell (Ad a 3) L)
     ((cl.mono (fun x B=>mo _ B)).sg _) (bQ.set 3 _)
     (by
      have Z:=cB.o;show(aX.setCell (Ad a 3) L).ownsRow aa 2 1 L (k+1) (((d.map (·.1)).take (k+1)).map (Value.int .i64));rw[W8 aF.o,eC.o]
      exact t1 Z (hh Z bQ.o Iv) _)
     (by
      rcases c5.o with s | s;·exact .inl s
      ·exact .inr ⟨_,s,(by rw[wd,wa];exact Nat.le_succ _)⟩)
     (fun j aH=>Tc _ _ _ _ _ _ _ _ _ j aH) (by show 2≠109;decide)
    change _/\hT _ _ (L.ownBlock.toList++b8) _ at h;have s:(((tr (k+1) (k+1) k (d.map (·.1)) D L J) 1).v.ownBlock.toList++b8)=b4:=c';rw[s]at h;rw[c']at h;exact⟨_,rfl,h.1,c3.trans h.2⟩
   with_reducible rw[fm]
   clear fm c' cB c5 bQ cl;have g9:cf.cell? (Ad a 5)=some J:=aO.blk.cell 5;have fV:=aO.blk.lt;have fz:Hd (aa<=cf.heap.size):=by have Z:=aO.lt a aO.gF;show aa<=_;omega
   go_wp2_with (at_builtin;refine BS _ rfl (.tmp 66) (.tmp 67) 107 rfl aa 33 f4 (sZ) 1 24 underlying107 aH fW fC f5 rfl (by decide) J k (List.replicate k (sZ)) (by rfl) (ic (aO.its.own 2) (hB bR _)) (Ad cf.heap.size 0) 1 1 [sZ] (by rfl) rfl (Ee cf _ _) (by intro cU cE;simp at cE;subst cE;rfl) (by have:=aF.o;have:=ab.2;unfold maxLen;omega) (o2 aF.o ab.2) (by rw[wa];exact Nat.le_succ_of_le fz.o) ?_;intro an b' cI cM er;obtain⟨gr,gI,rfl⟩:=ro cI om;have dn:=lh cI;have d5:=lh er;have b5:Hd (hA b' a 109 [D,iZ,iZ,L,sZ,J,sZ,sZ,sZ]):=p7 (aO.blk.B (hB bR _)) cM (aO.gOff 2);have ek:Hd (hC J.ownBlock.toList cf b'):=hC.grown (hC.of_below (hB bR _)) cM (fun q bj=>.inl (tl.2 bj));have bI:=b5.cell 5;have fb:=b5.frozen 5;have d4:=b5.lt;simp only[gz,gs]at bI;clear cI cM er g9)
   clear fV bI fb d4;obtain⟨an,eb⟩:∃Y,Y=sL gr 0 (k+1) gI:=⟨_,rfl⟩;rw[<-eb]at dn d5 ⊢;have eb:an=Value.slice (some (Ad gr 0)) (k+1) gI:=eb;try rw[<-eb]
   clear eb;obtain⟨cs,da⟩:=xg (an.ownBlock.toList++b4);obtain⟨gR,eU,gq,f'⟩:∃bC,b'.setCell (Ad a 5) an=bC/\Hd (Ob aa a [D,iZ,iZ,L,sZ,an,sZ,sZ,sZ] cs bC (tr (k+1) (k+1) (k+1) (d.map (·.1)) D L an))/\Hd (hT a4 aw cs bC):=by
    have h:=aO.turn (it':=(tr (k+1) (k+1) (k+1) (d.map (·.1)) D L an)) 2 (W':=b'.setCell (Ad a 5) an)
     ((ek.mono (fun x B=>mo _ B)).sg _) (b5.set 5 _)
     (by
      have Z:=dn.o;show(b'.setCell (Ad a 5) an).ownsRow aa 33 1 an (k+1) (List.replicate (k+1) (sZ));rw[List.replicate_succ']
      exact t1 Z (hh Z b5.o Iv) _)
     (by
      rcases d5.o with s | s;·exact .inl s
      ·exact .inr ⟨_,s,ln⟩)
     (fun j aH=>XD _ _ _ _ _ _ _ _ _ j aH) (by show 33≠109;decide)
    change _/\hT _ _ (an.ownBlock.toList++b4) _ at h;have s:(((tr (k+1) (k+1) (k+1) (d.map (·.1)) D L an) 2).v.ownBlock.toList++b4)=cs:=da;rw[s]at h;rw[da]at h;exact⟨_,rfl,h.1,f3.trans h.2⟩
   with_reducible rw[eU]
   clear eU da dn d5 b5 ek;go_wp2_with fail;go_roundg O;case measure=>omega
   case rel=>exact⟨k+1,oo gE.o,by go_num,cs,D,L,an,gq.o,b2.trans f'.o⟩
  | zero =>
   have db:¬((k:Int)<g):=om;have f6:k=g:=om;subst f6;obtain⟨g,fK⟩:∃m,m=k:=⟨_,rfl⟩;subst fK;clear dw;obtain⟨e7,dD⟩:=bv.wk ab.1;have aW:Hd (hT [a] ax (a::J.ownBlock.toList) wr):=⟨b2.keep,fun x B=>b2.new x (dD x B)⟩;have a1:=lh e7;clear e7 dD aA aI aB cy bv b2;have aB:=lh (aW.blk b9.1 b9.2);have cy:=lh (aW.rd d2.o);have aA:wr.cell? (Ad E 1)=some (.slice ai d.length M):=aB.1.cell 1;have aI:=aB.1.lt;go_wp2_with fail;refine(Os aa a _ _ [] [] (T0 g) _ [] _ aL V g ab.2 _ a1.o).mono ?_;rintro _ ew ⟨rfl,c8,dH,eQ,eI,eL,e5,fl⟩;have bK:=lh e5;have ch:=lh (aW.trans fl);have bD:=lh (ch.blk b9.1 b9.2);clear e5 fl aA aI aB cy;have aZ:ew.cell? (Ad E 2)=some (iV t):=bD.1.cell 2;have bo:ew.cell? (Ad E 6)=some (iV i):=bD.1.cell 6;have aI:=bD.1.lt;obtain⟨d',eR⟩:=xg n.length;have aG:Hd (DK i t ad n/\n.length=d'):=⟨bt.o,eR⟩;clear eR;go_wp2_with fail;refine(ZR i t ad n d' aG _).mono ?_;rintro _ cK ⟨bq,rfl,cC,bZ⟩;have cY:Hd (t2 aa a E ⟨ah,d,t,aK,A,v,i⟩ (.slice ai d.length M) (.slice b7 e.length aS) bq e n w ⟨List.replicate g 0,0,0⟩ (d.map (·.1)) [] [] (po (T0 g) g) c8 cK dH eQ eI eL):=by have gA:Rd c8 cK (fun W=>Fl 2 n.length W bq (t5 n)):=Fl.rd (Fl.of_own cC (Hh _)) ((Gc cC).off fun x B=>(bK.lt x B).2);exact⟨bK.B bZ,(((ch.rd d2.o).B bZ (fun x B=>.inl B)).and gA).imp fun W k=>⟨k.1.1,k.1.2,k.2⟩,⟨bD.1.B bZ,bD.2⟩,hJ ((hJ cr.o ce.o).trans (ch.keep.to_below gB.size (fun x B=>by rw[ms]at B;have:=aQ.o;omega))) bZ⟩
   clear cC bZ aZ bo aI bK ch bD a1 aW;have bo:cK.cell? (Ad E 6)=some (iV i):=cY.bt.1.cell 6;have aI:=cY.bt.1.lt;go_wp2_with fail;go_loopg [12,13] ((ad-i).toNat+1) (fun O bW f0 wr=>∃(f:Int) (c:RS) (bk:List (Int×Nat×Nat)) (H:Nat->List (List Int)) (F:List Nat) (a2:List Value) (G:Nat->Value) (ci cD:Value),bW=iV (c.at':Int)/\f0=iV f/\Hd (f+(O:Int)=ad+1/\f<=ad/\i<=f)/\Hd (t2 aa a E ⟨ah,d,t,aK,A,v,i⟩ (.slice ai d.length M) (.slice b7 e.length aS) bq e n w c.p c.rs c.o bk H F wr a2 G ci cD)/\Hd (kg ⟨ah,d,t,aK,A,v,i⟩ e n f c)/\Hd (H 0=c.X/\H 1=c.Y/\(H 2).length=g/\∀k,k<g->(((H 2).getD k []).length:Int)=f-i)/\Hd (uc ⟨ah,d,t,aK,A,v,i⟩ e n (ad-f).toNat f c=(S,0))/\Hd (bk++Co ⟨ah,d,t,aK,A,v,i⟩ e n (ad-f).toNat f c=aN));case atStart =>
    have Z:=aG.1.lo;exact⟨i,r1 ⟨ah,d,t,aK,A,v,i⟩,[],po (T0 g) g,c8,dH,eQ,eI,eL,rfl,rfl,⟨by omega,Z,Int.le_refl _⟩,by
     have s:List.replicate g (0:Int)=List.replicate d.length 0:=by rw[ab.1]
     have h:=cY.o;rw[s]at h;exact h,kg.first aG.1.ch,by
     refine⟨?_,?_,?_,fun k aT=>?_⟩;·show List.replicate g []=List.replicate d.length [];rw[ab.1]
     ·show List.replicate g []=List.replicate d.length [];rw[ab.1]
     ·show(List.replicate g ([]:List Int)).length=g;exact List.length_replicate
     ·show(((List.replicate g ([]:List Int)).getD k []).length:Int)=i-i
      rw[Ec];simp,fF,fJ⟩
   case round =>
    obtain⟨f,c,bk,H,F,a2,G,ci,cD,rfl,rfl,a',cT,a8,d0,cm,bT⟩:=hrel;clear bo aI;cases gk with
    | zero=>exfalso;have:=a'.o;omega
    | succ O =>
     have gU:=a'.2.1;have eo:(m2 e f c).2=0:=by
      cases am:(ad-f).toNat with
      | zero=>have h:=cm.o;rw[am]at h;have c0:m2 e f c=(S,0):=h;rw[c0]
      | succ m=>have h:=cm.o;rw[am]at h;exact(JV h).1
     obtain⟨P,u,C,a9⟩:∃P u C,w1 e f (e.length-c.at') c.at' c.p c.rs=(P,u,C,0):=⟨_,_,_,Prod.ext rfl (Prod.ext rfl (Prod.ext rfl eo))⟩;have c9:=lh a9;have bO:Hd (m2 e f c=((⟨P,u,C,c.X,c.Y,c.o⟩:RS),0)):=by show _=_;unfold m2;rw[a9]
     obtain⟨bh,eM⟩:∃bh,Co ⟨ah,d,t,aK,A,v,i⟩ e n (ad-f).toNat f c=CC e f (e.length-c.at') c.at' c.p c.rs++bh/\(f=ad->bh=[])/\(f<ad->bh=Dw ⟨ah,d,t,aK,A,v,i⟩ e n f (m2 e f c).1++Co ⟨ah,d,t,aK,A,v,i⟩ e n (ad-(f+1)).toNat (f+1) (q6 ⟨ah,d,t,aK,A,v,i⟩ e n f (m2 e f c).1).1):=by
      cases am:(ad-f).toNat with
      | zero=>exact⟨[],by rw[List.append_nil];rfl,fun _=>rfl,fun h=>by omega⟩
      | succ m=>exact⟨_,rfl,fun h=>by omega,fun _=>by rw[show(ad-(f+1)).toNat=m by omega]⟩
     have ds:=lh eM;have ed:Hd (u.bs.length=g/\C.length=g):=by have h:=KR e f (e.length-c.at') c.at' c.p c.rs;rw[a9]at h;exact⟨h.1.trans (a8.bs.trans ab.1),h.2.trans (a8.rs.trans ab.1)⟩
     clear eo a9 eM
     go_upto_block 4 with fail
     go_cut [12] (fun bW a5=>∃aC ae aU cu cz,bW=iV (P:Int)/\Hd (aC++bh=aN)/\Hd (t2 aa a E ⟨ah,d,t,aK,A,v,i⟩ (.slice ai d.length M) (.slice b7 e.length aS) bq e n w u C c.o aC H ae a5 a2 aU cu cz));case first =>
      go_wp2_with fail;go_loopg [12] (e.length-c.at') (fun O bW wr=>∃(k:Nat) (p:Ps) (a6:List Int) (bk:List (Int×Nat×Nat)) (F:List Nat) (G:Nat->Value) (ci cD:Value),bW=iV k/\Hd (k+O=e.length)/\Hd (p.bs.length=g/\a6.length=g)/\Hd (w1 e f O k p a6=(P,u,C,0))/\Hd (bk++(CC e f O k p a6++bh)=aN)/\Hd (t2 aa a E ⟨ah,d,t,aK,A,v,i⟩ (.slice ai d.length M) (.slice b7 e.length aS) bq e n w p a6 c.o bk H F wr a2 G ci cD));case atStart=>have Z:=a8.at';exact⟨c.at',c.p,c.rs,bk,F,G,ci,cD,rfl,by show _=_;omega,⟨a8.bs.trans ab.1,a8.rs.trans ab.1⟩,c9,by have h:=bT.o;rw[ds.1]at h;exact h,cT⟩
      case round =>
       obtain⟨k,p,a6,bk,F,G,ci,cD,rfl,cj,cP,dp,bT,cT⟩:=hrel;have gx:(0:Int)<=(k:Int):=om;have hc:=bg.1;cases gk with
       | zero=>have db:¬((k:Int)<e.length):=oo cj.o;obtain⟨a3,af⟩:=Hy (r:=(P,u,C)) dp.o (.inl rfl);cases a3;have Q:=bT.o;rw[af,List.nil_append]at Q;have aE:=lh Q;clear Q af;go_wp2_with fail;go_meet;case rel=>exact⟨bk,F,G,ci,cD,rfl,aE,cT⟩
       | succ O =>
        have db:(k:Int)<e.length:=oo cj.o;have ff:Hd (k<e.length):=by have:=cj.o;show _<_;omega
        have fU:Hd (k+1+O=e.length):=by have h:=cj.o;show k+1+O=e.length;omega
        refine Pp ?_;intro dO;obtain⟨T,av,x,rfl,⟨b6,aM,aP,bY,bH⟩,bv⟩:=cT.rd.now.1.get ff.o;by_cases bi:x.b=f
        ·rw[bi]at aM;have b3:(e.getD k Sk).b=f:=by rw[bv.o];exact bi
         obtain⟨d7,a9⟩:=Pu (r:=(P,u,C)) dp.o b3;have Q:=bT.o;rw[S8 b3,bv.o]at Q;rw[bv.o]at d7 a9;obtain⟨q,rs',ct⟩:∃q rs',pc p a6 x=(q,rs',0):=⟨_,_,Prod.ext rfl (Prod.ext rfl d7)⟩;rw[ct]at a9 Q;simp only at a9 Q;have c9:=lh a9;have vb:=lh ct;have aE:=lh Q;have go:=lh bi;have wH:Hd (p.bs.length<=1000/\a6.length<=1000):=by have Z:=cP.o;have ag:=ab.2;show _/\_;omega
         have fr:Hd (q.bs.length=g/\rs'.length=g):=by have Z:=GJ (p:=p) (rs:=a6) (x:=x) ct rfl;exact⟨Z.1.trans cP.1,Z.2.trans cP.2⟩
         clear d7 a9 Q ct b3;go_upto_region 19 with fail;have tj:Hd (∀W',BW wr W'->(W'.cell? (Ad a 0)=some ci/\W'.cell? (Ad a 1)=some (iV p.c)/\W'.cell? (Ad a 2)=some (iV p.d))/\W'.cell? (Ad a 3)=some cD/\W'.cell? (Ad T (av+k*5))=some (iV x.a)/\W'.cell? (Ad T (av+k*5+1))=some (iV x.b)/\W'.cell? (Ad T (av+k*5+2))=some (iV x.c)/\W'.cell? (Ad T (av+k*5+3))=some (iV x.d)/\W'.cell? (Ad T (av+k*5+4))=some (iV x.e)):=fun W' au=>by have Z:=cT.wk.blk.B au;have am:∀o Y,wr.cell? (Ad T o)=some Y->W'.cell? (Ad T o)=some Y:=fun o Y b0=>(au.cell (p:=(Ad T o)) (ht b0)).trans b0;rw[<-go.o]at aM;exact⟨⟨Z.cell 0,Z.cell 1,Z.cell 2⟩,Z.cell 3,am _ _ b6,am _ _ aM,am _ _ aP,am _ _ bY,am _ _ bH⟩
         clear b6 aM aP bY bH bi;have bP:=tj.o wr.drew (hG bR);go_cut [14,15,16] (fun fw gh f8 a5=>∃fB cU Y,fw=pV fB/\gh=Y/\f8=iZ/\(hA a5 fB 35 [cU,iV q.c,iV q.d]/\Sl .i64 a5 cU q.bs/\Sl .i64 a5 Y rs')/\(wr.heap.size<=fB/\Fr wr cU/\Fr wr Y)/\BW wr a5);case first =>
          refine se (fun W'=>(W'.cell? (Ad a 0)=some ci/\W'.cell? (Ad a 1)=some (iV p.c)/\W'.cell? (Ad a 2)=some (iV p.d))/\W'.cell? (Ad a 3)=some cD/\W'.cell? (Ad T (av+k*5))=some (iV x.a)/\W'.cell? (Ad T (av+k*5+1))=some (iV x.b)/\W'.cell? (Ad T (av+k*5+2))=some (iV x.c)/\W'.cell? (Ad T (av+k*5+3))=some (iV x.d)/\W'.cell? (Ad T (av+k*5+4))=some (iV x.e)) 18 kr ?_;refine Kn ?_;show _;refine tK 9 rfl ?_;refine tK 10 rfl ?_;refine tK 11 rfl ?_;have aJ:Hd (RA wr none none q.bs rs' wr.drew):=RA.start _ _ _;obtain⟨dL,eY⟩:=xg wr.drew;rw[eY]at aJ;with_reducible rw[eY]
          clear eY;refine BZ (rs:=[12,17]) kr Is ?_;refine(k0.cons (o:=⟨_,_,_,_,_,_⟩) rfl (fun X ac=>?_) (k0.cons (o:=⟨_,_,_,_,_,_⟩) rfl (fun X ac=>?_) k0.nil));·refine JX ?_;intro dL lm qW jl jX bZ aJ;obtain⟨aj,ak,rfl⟩:=jl.1.shape;obtain⟨aR,aV,rfl⟩:=jX.1.shape;clear jl jX bZ;have dK:=tj.o dL aJ.bel;refine Ma ?_;clear ac X;show _;refine tF 13 rfl ?_ (hS:=dK);refine HQ ?_;show _;clear dK;refine wo 17 kr rfl fun X ac=>?_;refine Ie ?_;clear ac X;intro fB au iY eK aJ;refine Pt ?_;clear au eK;intro dL eY;subst eY;exact M2
          ·refine Ie ?_;clear ac X;intro fB au iY eK aJ;refine Pt ?_;clear au eK;intro dL eY;subst eY;refine wo 12 kr rfl fun X ac=>?_;refine JX ?_;intro dL lm qW jl jX bZ aJ;obtain⟨aj,ak,rfl⟩:=jl.1.shape;obtain⟨aR,aV,rfl⟩:=jX.1.shape;clear jl jX bZ;have dK:=tj.o dL aJ.bel;refine Ma ?_;clear ac X;show _;refine tF 13 rfl ?_ (hS:=dK);refine HQ ?_;show _;clear dK;exact M2
         case rest =>
          clear bP;obtain⟨fB,lm,qW,rfl,fT,rfl,b1,aD,e6⟩:=hcut;obtain⟨aj,ak,rfl⟩:=b1.2.1.shape;obtain⟨aR,aV,rfl⟩:=b1.2.2.shape;subst fT;have bV:=lh b1;have al:=lh (cT.B e6);have cq:∀y∈F,y<wr.heap.size:=fun y fZ=>(cT.wk.lt y fZ).2;have e':Hd (fB∉F):=fun a0=>o2 (cq fB a0) aD.1;have fu:Hd (∀l,fB∉(G l).ownBlock.toList):=fun l a0=>e'.o (al.wk.its.inF l fB QR);have dM:Hd (Rd F wc (fun W=>Sl .i64 W (.slice aj q.bs.length ak) q.bs/\Sl .i64 W (.slice aR rs'.length aV) rs')):=(b1.2.1.rd (aD.2.1.off cq)).and (b1.2.2.rd (aD.2.2.off cq));have fI:Hd (aa<=wc.heap.size):=by have Z:=al.wk.lt a al.wk.gF;show aa<=_;omega
          obtain⟨_,_,y,gl,⟨b6,aM,aP,bY,bH⟩,ay⟩:=al.rd.now.1.get ff.o;cases gl;obtain rfl:y=x:=ay.symm.trans bv.o;clear b1 aD e6 cq aM aP bY bH
          go_upto_if 127 with fail
          go_cut [12] (fun fH a5=>fH=iV k/\∃ae aU,Hd (t2 aa a E ⟨ah,d,t,aK,A,v,i⟩ (.slice ai d.length M) (sL T av e.length aS) bq e n w p a6 c.o (bk++CW p a6 y) H ae a5 a2 aU ci cD)/\Hd (hA a5 fB 35 [.slice aj q.bs.length ak,iV q.c,iV q.d])/\Hd (Rd ae a5 (fun W=>Sl .i64 W (.slice aj q.bs.length ak) q.bs/\Sl .i64 W (.slice aR rs'.length aV) rs')));case first =>
           by_cases bE:y.a=6
           ·have az:CW p a6 y=[]:=by unfold CW;rw[if_pos bE]
            have cZ:=lh az;have eA:(y.a != 6)=false:=ss bE;clear bE az;go_wp2_with fail;go_meet;case rel=>exact⟨rfl,F,G,by show t2 _ _ _ _ _ _ _ _ _ _ _ _ _ _ _ _ _ _ _ _ _;rw[cZ.o,List.append_nil];exact al.o,bV.1,dM⟩
           ·obtain⟨I,bc⟩:∃I,Bb p.bs p.c p.d q.bs q.c q.d 0=I:=⟨_,rfl⟩;have az:CW p a6 y=I:=by unfold CW;rw[if_neg bE,vb.o];exact bc
            have co:=lh bc;have mH:Hd (bk.length<=1000000/\I.length<=1000000):=by have Z:=congrArg List.length aE.o;rw[az]at Z;simp only[la]at Z;have ag:=bg.2.2;show _/\_;omega
            have cZ:=lh az;have eA:(y.a != 6)=true:=ss bE;clear bE az bc;go_upto_region 23 with fail;clear b6 eA;have fc:Hd (∀W',BW wc W'->W'.cell? (Ad a 6)=some (G 1)/\(W'.cell? (Ad a 0)=some ci/\W'.cell? (Ad a 1)=some (iV p.c)/\W'.cell? (Ad a 2)=some (iV p.d))/\W'.cell? (Ad fB 0)=some (.slice aj q.bs.length ak)/\W'.cell? (Ad fB 1)=some (iV q.c)/\W'.cell? (Ad fB 2)=some (iV q.d)):=fun W' au=>by have Z:=al.wk.blk.B au;have ag:=bV.1.B au;exact Gg
            have bP:=fc.o wc.drew (hG bR);obtain⟨ev,es,eu,dV,fe⟩:=info_parts Jk;go_upto_region 23 with fail;refine se (fun W'=>W'.cell? (Ad a 6)=some (G 1)/\(W'.cell? (Ad a 0)=some ci/\W'.cell? (Ad a 1)=some (iV p.c)/\W'.cell? (Ad a 2)=some (iV p.d))/\W'.cell? (Ad fB 0)=some (.slice aj q.bs.length ak)/\W'.cell? (Ad fB 1)=some (iV q.c)/\W'.cell? (Ad fB 2)=some (iV q.d)) 12 kr ?_;refine Kn ?_;show _;refine tK 9 rfl ?_;refine wo 10 kr rfl fun X ac=>?_;go_simp;refine(NH ci (.slice aj q.bs.length ak) p.bs q.bs p.c p.d q.c q.d 0 I co (lh (ZO vb.o)) _ (al.wk.rd.now.1.B (hG bR)) (bV.2.1.B (hG bR))).mono ?_;rintro _ aY ⟨cU,rfl,cE,fj⟩;have gN:=lh cE;obtain⟨f1,fS,rfl,dZ⟩:=cE.form;have f7:=lh dZ;have bA:Hd (BW wc aY):=hJ (hG bR) fj;have eE:=fc.o aY bA.o;clear cE dZ fj;refine ac.out _ _ (fun hun=>eE) ?_;clear ac X;try simp only[ap,aq,sa,sb,sc]
            refine wo 11 kr rfl fun X ac=>?_;refine Cp rfl (.tmp 132) (.tmp 138) 50 rfl aa 170 ev (.agg #[iZ,.complex .f64 0 0]) 2 24 underlying50 es eu dV fe rfl Iv (G 1) bk.length (q7 bk) JF (ic (al.wk.its.own 1) bA.o) f1 I.length fS (q7 I) JF (FC I) f7.o gN.news (GT I) (by have:=mH.o;unfold maxLen;omega) DX (nt fI.o bA.size) ?_;intro br ar c7 cX dP;obtain⟨g5,g8,fD,rfl⟩:=Nr c7;have cv:=lh c7;have dc:=lh dP;have bw:Hd (hA ar a 109 (pt p ci cD G)):=p7 (al.wk.blk.B bA.o) cX (al.wk.gOff 1);have g1:ar.cell? (Ad a 6)=some (G 1):=bw.cell 6;have fM:=bw.frozen 6;have cN:Hd (hC (G 1).ownBlock.toList wc ar):=hC.grown (hC.of_below bA.o) cX (fun q bj=>.inl (tl.2 bj));have jf:ar.cell? (Ad a 6)=some (G 1)/\(ar.cell? (Ad a 0)=some ci/\ar.cell? (Ad a 1)=some (iV p.c)/\ar.cell? (Ad a 2)=some (iV p.d))/\ar.cell? (Ad fB 0)=some (.slice aj q.bs.length ak)/\ar.cell? (Ad fB 1)=some (iV q.c)/\ar.cell? (Ad fB 2)=some (iV q.d):=by have Z:=bw.o;have ag:=bV.1.keep cN.o (fu.o 1);exact Gg
            clear c7 cX dP;refine Dr ?_;clear ac X;show _;refine wS 12 rfl ?_;refine wS 13 rfl ?_;refine wS 14 rfl ?_;refine r4 kr ?_ _;clear eE jf bP g1 fM es eu dV fe ev;obtain⟨br,dT⟩:∃Y,Y=Value.slice g5 g8 fD:=⟨_,rfl⟩;rw[<-dT]at cv dc ⊢;clear dT;obtain⟨aU,dv⟩:=xg (v6 G 1 br);obtain⟨ae,fd⟩:=xg (br.ownBlock.toList++F);obtain⟨hb,eg,a1,aW⟩:∃bC,ar.setCell (Ad a 6) br=bC/\Hd (hf aa a p a6 c.o (bk++I) H ae bC a2 aU ci cD)/\Hd (hT F wc ae bC):=by
             have bt:aU 1=br:=by rw[<-dv];exact E1 _ _ _
             have bX:∀l,l≠1->aU l=G l:=fun l bz=>by rw[<-dv];exact B5 _ _ bz
             have h:=al.wk.turn (p':=p) (rs':=a6) (out':=c.o) (bk':=bk++I) (T':=H) (vs':=a2) (vf':=aU) (pv':=ci) (rv':=cD) 1 (W':=ar.setCell (Ad a 6) br)
              ((cN.mono (fun x B=>mo _ B)).sg _)
              (by
               have Z:=bw.set 6 br;unfold pt at Z ⊢;rw[bX 0 Iv,bX 4 Iv,bt,bX 2 Iv,bX 3 Iv]
               exact Z)
              (by
               unfold i1;rw[if_neg Iv,if_pos rfl,bt];simp only[la,Em]
               exact t1 cv.o (hh cv.o bw.o Iv) _)
              (by
               rw[bt];rcases dc.o with s | s;·exact .inl s
               ·exact .inr ⟨_,s,bA.size⟩)
              (fun l bz=>Qc bX l bz)
              al.wk.rd
             rw[bt,fd]at h;exact⟨_,rfl,h.1,h.2⟩
            with_reducible rw[eg]
            clear eg dv fd cv dc bw cN;go_wp2_with fail;go_meet;case rel=>exact⟨rfl,ae,aU,by show t2 _ _ _ _ _ _ _ _ _ _ _ _ _ _ _ _ _ _ _ _ _;rw[cZ.o];exact al.step a1.o aW.o aQ.1,bV.1.keep aW.keep e'.o,aW.rd dM.o⟩
          case rest =>
           obtain⟨rfl,ae,aU,a1,em,gv⟩:=hcut;clear b6;obtain⟨b6,aM,aP,-⟩:=em.cS [0,1,2];have dt:Hd (hA wc a 109 [ci,iV p.c,iV p.d,cD,aU 0,aU 4,aU 1,aU 2,aU 3]):=a1.wk.blk;obtain⟨bU,aA,aZ,bG,-⟩:=dt.o.cS [0,1,2,3];obtain⟨fo,fs,fG,ge,-⟩:=dt.o.fs [0,1,2,3];have cd:Hd ((bk++CW p a6 y)++(CC e f O (k+1) q rs'++bh)=aN):=by show _=_;rw[<-aE.o,List.append_assoc,List.append_assoc]
           have gf:¬fB=a:=fun s=>n3 em.o a1.wk.blk Iv s;go_upto_region 25 with fail;obtain⟨c4,e8,bK⟩:∃c4,(((wc.setCell (Ad a 0) (.slice aj q.bs.length ak)).setCell (Ad a 1) (iV q.c)).setCell (Ad a 2) (iV q.d)).setCell (Ad a 3) (.slice aR rs'.length aV)=c4/\Hd (t2 aa a E ⟨ah,d,t,aK,A,v,i⟩ (.slice ai d.length M) (sL T av e.length aS) bq e n w q rs' c.o (bk++CW p a6 y) H ae c4 a2 aU (.slice aj q.bs.length ak) (.slice aR rs'.length aV)):=by
            have h:=a1.wk.put (W':=(((wc.setCell (Ad a 0) (.slice aj q.bs.length ak)).setCell (Ad a 1) (iV q.c)).setCell (Ad a 2) (iV q.d)).setCell (Ad a 3) (.slice aR rs'.length aV)) (p':=q) (rs':=rs') (pv':=.slice aj q.bs.length ak) (rv':=.slice aR rs'.length aV)
             (((((hC.refl _ _).setCell (.inl Is) _).setCell (.inl Is) _).setCell (.inl Is) _).setCell (.inl Is) _) ((((a1.wk.blk.set 0 _).set 1 _).set 2 _).set 3 _) gv.o
            exact⟨_,rfl,a1.step h.1 h.2 aQ.1⟩
           with_reducible rw[e8]
           clear e8 bU aA aZ bG fo fs fG ge b6 aM aP gf dt;go_wp2_with fail;go_roundg O;case measure=>omega
           case rel=>exact⟨k+1,q,rs',bk++CW p a6 y,ae,aU,_,_,by go_num,fU,fr,c9,cd,bK⟩
        ·clear dO;have b3:(e.getD k Sk).b≠f:=by rw[bv.o];exact bi
         obtain⟨a3,af⟩:=Hy (r:=(P,u,C)) dp.o (.inr b3);cases a3;have Q:=bT.o;rw[af,List.nil_append]at Q;have aE:=lh Q;have eT:(x.b == f)=false:=ss bi;clear Q af b6 aP bY bH bi b3;go_wp2_with fail;go_meet;case rel=>exact⟨bk,F,G,ci,cD,rfl,aE,cT⟩
     case rest =>
      obtain⟨aC,ae,aU,cu,cz,rfl,fh,cx⟩:=hcut;by_cases bf:f=ad
      ·have eT:(f == ad)=true:=ss bf;have bS:S=(⟨P,u,C,c.X,c.Y,c.o⟩:RS):=by
        have h:=cm.o;rw[bf,Int.sub_self]at h;have c0:m2 e ad c=(S,0):=h;rw[<-bf,bO.o]at c0;exact(congrArg Prod.fst c0).symm
       have Q:aC=aN:=by have h:=fh.o;rw[ds.2.1 bf,List.append_nil]at h;exact h
       have fg:=lh (An bS Q);clear bf bS Q;go_wp2_with fail;go_ret2;refine⟨a,ae,H,a2,aU,cu,cz,rfl,?_,cx.bw⟩;rw[fg.1,<-fg.2,aQ.1];exact cx.wk
      ·have eT:(f == ad)=false:=ss bf;have bx:Hd (f<ad):=by show _<_;omega
       clear bf;obtain⟨m,a0⟩:∃m,(ad-f).toNat=m+1:=⟨(ad-f).toNat-1,oo bx.o⟩;have dI:(ad-(f+1)).toNat=m:=om;have dl:=cm.o;rw[a0]at dl;obtain⟨_,dh,cW⟩:=JV dl;rw[bO.o,<-dI]at cW;rw[bO.o]at dh;have dX:=lh cW;have gu:=lh dh;have cO:=fh.o;rw[ds.2.2 bx.o,bO.o]at cO;have aE:=lh cO;have bu:=lh (a8.ev);rw[bO.o]at bu;have ej:=bu.rows aG.1.ch;have dY:=lh ej;have gY:=a'.2.2;have d9:Hd (-135140<=i):=by
        have Z:=aG.1.ch.first
        have ag:=(aG.1.ch.range 0 aG.1.ch.pos).1;show _<=_;omega
       have dz:Hd (-135140<=f/\f+1<=2932896):=by have Z:=d9.o;have ag:=bg.2.1;have eS:=bx.o;show _/\_;omega
       clear a0 dI dl dh cW cO ej;go_wp2_with fail;refine(YD aa a u C c.o aC H ae a2 aU cu cz g (fun j aH=>by
        have h:=d0.o;obtain rfl | rfl | rfl:j=0\/j=1\/j=2:=om;·rw[h.1];exact a8.X.trans ab.1
        ·rw[h.2.1];exact a8.Y.trans ab.1
        ·exact h.2.2.1) ed.1 ed.2 (lh (fun j aH k aT=>by
        have h:=d0.o;obtain rfl | rfl | rfl:j=0\/j=1\/j=2:=om;·rw[h.1];have:=(dY.o k (by rw[ab.1];exact aT)).1;omega
        ·rw[h.2.1];have:=(dY.o k (by rw[ab.1];exact aT)).2;omega
        ·have:=h.2.2.2 k aT;have:=dz.o;have:=d9.o;omega)) ab.2 _ cx.wk).mono ?_
       rintro _ aY ⟨rfl,dQ,eH,dR,dC,ea,d6,dG⟩;obtain⟨K,bJ⟩:=xg (w7 H u.bs C g);rw[bJ]at d6;have bF:=lh (cx.step d6 dG aQ.1);have cb:Hd (K 0=Bp c.X u.bs/\K 1=Bp c.Y C/\(K 2).length=g/\∀k,k<g->(((K 2).getD k []).length:Int)=f+1-i):=by
        have h:=d0.o;have fn:K 0=io (H 0) u.bs g:=by rw[<-bJ];rfl
        have a3:K 1=io (H 1) C g:=by rw[<-bJ];rfl
        have af:K 2=io (H 2) u.bs g:=by rw[<-bJ];rfl
        have fR:c.X.length=g:=a8.X.trans ab.1;have gy:c.Y.length=g:=a8.Y.trans ab.1;refine⟨?_,?_,by rw[af,CP];exact h.2.2.1,fun k aT=>?_⟩;·rw[fn,h.1,<-fR];exact H3 _ _
        ·rw[a3,h.2.1,<-gy];exact H3 _ _
        ·rw[af,Cj _ _ _ _ (by rw[h.2.2.1];exact aT),if_pos aT,la];have:=h.2.2.2 k aT;simp only[List.length_singleton];omega
       clear d6 dG bJ;obtain⟨ga,fQ,e4⟩:=bF.wk.sts.shape;obtain⟨gP,gT,ft⟩:=bF.rd.now.2.2.shape;subst ft;obtain⟨sb,gZ,cc,ao,rfl,⟨gj,gK⟩,dA⟩:=L1 bF.rd.now.2.2 (i:=c.o.length) bu.o.o;have cn:=lh dA;have ca:aY.cell? (Ad a 4)=some (.slice ga c.o.length fQ):=by have Z:=bF.wk.blk.cell 4;simp only[pt,gz,gs]at Z;rw[Z,e4]
       have fY:(c.o.length:Int)<n.length:=by have:=bu.o.o;simp only at this;omega
       have gb:(0:Int)<=(c.o.length:Int):=om;clear dA e4;go_upto_region 29 with fail;obtain⟨ha,dj,eB,ef,gM,gc⟩:∃W dj,aY.alloc (.cells #[iV cc,iV ao] 40)=W/\aY.heap.size=dj/\Hd (hA W dj 40 [iV cc,iV ao])/\Hd (BW aY W):=⟨_,_,rfl,rfl,hR _ _ _ _ rfl,hB bR _⟩;with_reducible rw[eB,ef]
       have bs:=lh (bF.B gc.o);clear eB ef ca gj gK fY gb;obtain⟨b6,aM,-⟩:=gM.cS [0,1];have gW:wrap64 (f+1)=f+1:=wi _ ⟨oo dz.o,oo dz.o⟩;by_cases cR:ao=f
       ·subst cR;have fX:(ao == ao)=true:=beq_self_eq_true _;have a3:q6 ⟨ah,d,t,aK,A,v,i⟩ e n ao (⟨P,u,C,c.X,c.Y,c.o⟩:RS)=BK ⟨ah,d,t,aK,A,v,i⟩ e cc ao (BF (⟨P,u,C,c.X,c.Y,c.o⟩:RS)):=by unfold q6;rw[cn.o];exact if_pos rfl
        have cw:=gu.o;rw[a3]at cw;have dk:=bu.endShut aG.1.ch bx.o (by rw[cn.o]) cc cw;obtain⟨fb,dW,x,q,ec,eP,am,az⟩:=Om cw;rw[az]at dk;have bd:=dX.o;have a7:=aE.o;rw[a3,az]at bd a7;obtain⟨I,bc⟩:=xg (Bb u.bs u.c u.d q.bs q.c q.d (-2));have af:Dw ⟨ah,d,t,aK,A,v,i⟩ e n ao (⟨P,u,C,c.X,c.Y,c.o⟩:RS)=I:=by unfold Dw;rw[cn.o,if_pos rfl,a3,az];exact bc
        rw[af,<-List.append_assoc]at a7;have gw:=lh ec;have fy:Hd (rc (hu ah d t aK A v i) d (K 0) (K 1) fb=(dW,0)):=by rw[cb.1,cb.2.1];exact eP
        have gL:=lh am;have co:=lh bc;have cV:=lh bd;have cd:=lh a7;have c1:=lh dk;have mH:Hd (aC.length<=1000000/\I.length<=1000000):=by have Z:=congrArg List.length a7;simp only[la]at Z;have ag:=bg.2.2;show _/\_;omega
        clear a3 af cw dk ec eP am az bd a7 bc;obtain⟨bU,aA,aZ,bG,ca,dr,bo,-⟩:=bs.bt.1.cS [0,1,2,3,4,5,6];have aI:=bs.bt.1.lt;go_wp2_with fail;refine(ZG aa a ⟨ah,d,t,aK,A,v,i⟩ (.slice ai d.length M) (.slice b7 e.length aS) e u q C c.o aC K dQ eH dR dC ea cc ao g ab.1 ab.2 (by have Z:=bu.o.o;have ag:=aG.1.len;simp only at Z;omega) DX fb dW x I (lh (by rw[co.o];have:=mH.o;omega)) gw fy gL co _ bs.rd.now.2.1 bs.rd.now.1 bs.wk).mono ?_;rintro _ gQ ⟨rfl,gg,fN,fE,fq,gC,fk,dJ⟩;have gJ:=lh (bs.step fk dJ aQ.1);have gO:Hd (po K g 0=List.replicate d.length []/\po K g 1=List.replicate d.length []/\(po K g 2).length=g/\∀k,k<g->(((po K g 2).getD k []).length:Int)=ao+1-i):=by rw[ab.1];exact⟨rfl,rfl,cb.2.2.1,cb.2.2.2⟩
        clear fk dJ bU aA aZ bG ca dr bo aI b6 aM;go_wp2_with fail;go_roundg O;case measure=>omega
        case rel=>exact⟨ao+1,_,aC++I,po K g,gg,fN,fE,fq,gC,rfl,by go_num,⟨oo a'.o,oo bx.o,oo a'.o⟩,gJ,c1,gO,cV,cd⟩
       ·have fX:(f == ao)=false:=by simp;omega
        have aD:(n.getD c.o.length (0,0)).2≠f:=by rw[cn.o];exact cR
        have bd:=dX.o;have a7:=aE.o;have s:q6 ⟨ah,d,t,aK,A,v,i⟩ e n f (⟨P,u,C,c.X,c.Y,c.o⟩:RS)=(BF (⟨P,u,C,c.X,c.Y,c.o⟩:RS),0):=by unfold q6;rw[if_neg aD]
        rw[s]at bd a7;have af:Dw ⟨ah,d,t,aK,A,v,i⟩ e n f (⟨P,u,C,c.X,c.Y,c.o⟩:RS)=[]:=by unfold Dw;rw[if_neg aD]
        rw[af,List.nil_append]at a7;have cV:=lh bd;have cd:=lh a7;have c1:=lh (bu.endOn aD);clear cR aD bd a7 s af;go_wp2_with fail;go_roundg O;case measure=>omega
        case rel=>exact⟨f+1,BF (⟨P,u,C,c.X,c.Y,c.o⟩:RS),aC,K,dQ,eH,dR,dC,ea,rfl,by go_num,⟨oo a'.o,oo bx.o,oo a'.o⟩,bs,c1,cb,cV,cd⟩
def jjo (f:List (Int×Nat×Nat)) (c:Int) (w:World) (g:Ending) (b:World):Prop:=∃e a d,g=.returned (.tuple #[.slice e a d,iV c])/\(c=0->r2 b (.slice e a d) (vc f))/\BW w b
theorem Um (O:Tm) (i n) (b:List R5) (c:Int) (j:List (Int×Int)) (r:RS) (a:List (Int×Nat×Nat)) (d:Int) (x:Nat) (S:O.ts.length=x) (R:x<=1000) (C:O.right=true) (Q:Hd (∀E∈b,O.rightE E=0)) (G:b.length<=2000) (au:Hd (Asc b)) (al:Hd (∀V,V<b.length->(b.getD V Sk).b<=c)) (L:Hd (DK O.start O.cyc c j)) (z:c<=2932896)
 (K:Hd (uc O b j (c-O.start).toNat O.start (r1 O)=(r,0))) (I:Hd (Co O b j (c-O.start).toNat O.start (r1 O)=vc a)) (ah:Hd (Bn a)) (H:a.length<=1000000) (u:Hd ((s7 a->d=0)/\(¬s7 a->d=5))) (w) (f:h7 w i O.ts) (e:h4 w n b) :
 Calls prog 12 #[.agg (O.cells i).toArray,n,iV c] w (jjo a d w):=by
 have ai:=lh f;have af:=lh e;have ar:=fun (w:World) (f:h7 w i O.ts) (e:h4 w n b)=>YE O i n b c j r (vc a) x S R C Q G au al L z K I (by simpa[vc] using H) w f e;have A:=lh ar;have ae:d=0\/d=5:=by
  by_cases h:s7 a;·exact .inl (u.o.1 h)
  ·exact .inr (u.o.2 h)
 obtain⟨bH,bC,rfl⟩:=f.shape;obtain⟨am,aj,rfl⟩:=e.shape;refine G3 ?_;unhygienic intros
 clear f e ar S R C G z K I Q au al L;unfold Tm.cells at A ⊢;go_enter func12,ntmps12;go_upto_region 1 with fail;refine Q9 ?_;clear eH;unhygienic intros
 go_wp2_with fail;refine(A.o _ (ai.B jJ.o) (af.B jJ.o)).mono ?_;clear aI aN aL eL dU fT g8;rintro _ o ⟨l,F,T,ak,t,aa,ad,rfl,v,P⟩;have m:r2 o (t 1) (vc a):=r2.of_own (v.its.own 1) rfl;have X:Hd (BW w o):=hJ jJ.o P;obtain⟨ac,s⟩:=xg (t 1);have D:Hd (hA o l 109 (pt r.p aa ad t)):=v.blk;have g8:o.cell? (Ad l 6)=some ac:=by rw[<-s];exact D.cell 6
 rw[s]at m;have M:=lh m;obtain⟨ab,ag,rfl,_⟩:=m.form;clear m v P s;go_wp2_with fail;refine(Uw _ a d ah H u _ M.o).mono ?_;rintro _ B ⟨⟨E,y,rfl⟩,g⟩;have Y:=lh (M.B g);have ao:=lh (D.B g);have J:Hd (BW w B):=X.trans (g.mono X.size);have an:B.cell? (Ad l 6)=some (.slice ab (vc a).length ag):=(g.cell (p:=(Ad l 6)) (ht g8)).trans g8;clear g8 g;rcases ae with rfl | rfl;·go_wp2_with fail;go_ret2;exact⟨_,_,_,rfl,fun _=>Y.o,J.o⟩
 ·go_wp2_with fail;go_ret2;exact⟨_,_,_,rfl,fun h=>absurd h Iv,J.o⟩
section
open Go.RowKit FlM EvM
def t6 (b:Int) (c:List (Int×Nat×Nat)):Int:=sD (fun a=>false || a == b) c-sC (fun a=>false || a == b) c
theorem FT (b:Int) (a c:List (Int×Nat×Nat)):t6 b (a++c)=t6 b a+t6 b c:=by unfold t6;have h:=FE (fun a=>false || a == b) a c;omega
theorem Hg (c a b:Int):t6 c (pQ a b)=if a=c then b else 0:=by unfold t6;have h:=F1 (fun a=>false || a == c) a b;rw[h.1,h.2];simp only[Bool.false_or,beq_iff_eq];split <;> omega
def DP (a:List (Int×Nat×Nat)):Prop:=1000000000000000<sD (fun _=>true) a\/1000000000000000<sC (fun _=>true) a\/sD (fun _=>true) a=sC (fun _=>true) a
theorem DP.append {a:List (Int×Nat×Nat)} (d:DP H) (b:DP a):DP (H++a):=by unfold DP at *;have h:=FE (fun _=>true) H a;have c:=GN (fun _=>true) H;have e:=GN (fun _=>true) a;omega
theorem WK (c b:List Int) (a:Nat):sD (fun _=>true) (xd c b a)-sC (fun _=>true) (xd c b a)=CL c b a:=by
 induction a with
 | zero=>rfl
 | succ a f=>have e:=FE (fun _=>true) (xd c b a) (pQ ((a:Int)+1) (b.getD a 0-c.getD a 0));have d:=F1 (fun _=>true) ((a:Int)+1) (b.getD a 0-c.getD a 0);simp only[if_true]at d;rw[xd,CL,e.1,e.2,d.1,d.2];omega
theorem jhh (G:r.length=n) (E:x.length=n) (i:hW r c d=true) (j:hW x f y=true) (K:z=0\/z = -2) :
 ∃e,Bb r c d x f y z=vc e/\Bn e/\e.length<=10/\DP e/\(∀a,a<n->t6 ((a:Int)+1) e=x.getD a 0-r.getD a 0)/\t6 (-1) e=c-f:=by
 have p:r.length=x.length:=om;have L:=(MS i).2;have g:-1000000000000000<=c-f/\c-f<=1000000000000000:=by have F:=(A1 i).1;have O:=(A1 j).1;omega
 obtain⟨t,l⟩:=Y5 (bs:=r) (cs:=x) n fun H P=>Sn i j p om;have M:=WK r x n;have v:=fun C=>YB (bs:=r) (cs:=x) C n;have R:=GN (fun _=>true) (xd r x n++pQ (-1) (c-f));have ap:=FE (fun _=>true) (xd r x n) (pQ (-1) (c-f));have D:=F1 (fun _=>true) (-1) (c-f);simp only[if_true]at D;have Q:=X9 r x n;have S:=LK (-1) (c-f);have k:∀a,a<n->t6 ((a:Int)+1) (xd r x n++pQ (-1) (c-f))=x.getD a 0-r.getD a 0:=fun a o=>by have h:=v ((a:Int)+1);rw[if_pos om,show((a:Int)+1-1).toNat=a by omega]at h;rw[FT,Hg,if_neg om,Int.add_zero];exact h
 have m:t6 (-1) (xd r x n++pQ (-1) (c-f))=c-f:=by have h:=v (-1);rw[if_neg om]at h;rw[FT,Hg,if_pos rfl];show sD _ _-sC _ _+_=_;rw[h,Int.zero_add]
 obtain⟨b,B⟩:=xg (CL r x n+(c-f));unfold Bb;rw[if_neg (by rw[i,j];simp[p]),E,B];by_cases u:1000000000000000 < -b \/ -b < -1000000000000000;·rw[if_pos u];refine⟨xd r x n++pQ (-1) (c-f),by rw[F9,t,IH _ _ g],Fz l (He _ _ g),by rw[la];omega,?_,k,m⟩;unfold DP;omega
 ·rw[if_neg u];have s:-1000000000000000 <= -b /\ -b<=1000000000000000:=om;have J:=LK z (-b);refine⟨xd r x n++pQ (-1) (c-f)++pQ z (-b),by rw[F9,F9,t,IH _ _ g,IH _ _ s],Fz (Fz l (He _ _ g)) (He _ _ s),by simp only[la];omega,?_,fun a o=>?_,?_⟩;·have I:=FE (fun _=>true) (xd r x n++pQ (-1) (c-f)) (pQ z (-b));have A:=F1 (fun _=>true) z (-b);simp only[if_true]at A;refine .inr (.inr ?_);omega
  ·rw[FT,k a o,Hg,if_neg om,Int.add_zero]
  ·rw[FT,m,Hg,if_neg om,Int.add_zero]
structure k6 (n k:Nat) (p:Ps) (L:List (Int×Nat×Nat)):Prop where
 right:hW p.bs p.c p.d=true
 bs:p.bs.length=n
 qs:∃qs,L=vc qs/\Bn qs/\qs.length<=10*k/\DP qs/\(∀j,j<n->t6 ((j:Int)+1) qs=p.bs.getD j 0)/\t6 (-1) qs = -p.c
theorem k6.mono {a:Ps} (h:k6 n m a H) (i:m<=k):k6 n k a H:=by obtain⟨f,d,c,g,e,j,b⟩:=h;exact⟨f,d,c,g,e,by omega,b⟩
theorem k6.step {a q:Ps} {L:List (Int×Nat×Nat)} (h:k6 n m a L) (d:hW q.bs q.c q.d=true) (e:q.bs.length=n) (s:c=0\/c = -2):k6 n (m+1) q (L++Bb a.bs a.c a.d q.bs q.c q.d c):=by
 obtain⟨l,j,t,rfl,y,A,p,o,x⟩:=h;obtain⟨r,g,u,z,v,i,k⟩:=jhh j e l d s;refine⟨d,e,t++r,by rw[F9,g],Fz y u,by rw[la];omega,p.append v,fun b f=>?_,?_⟩;·rw[FT,o b f,i b f];omega
 ·rw[FT,x,k];omega
theorem Xe {b q:Ps} {rs':List Int} (h:pc b r E=(q,rs',0)) (d:E.a=6):q=b:=by have a:=(JT h).2.1;unfold p0 at a;rw[if_neg om,if_neg om,if_neg om]at a;obtain⟨e,i,c⟩:=q;obtain⟨j,f,g⟩:=b;simp only[Prod.mk.injEq]at a;obtain⟨rfl,rfl,rfl,_⟩:=a;rfl
theorem k6.ev {a:Ps} (h:k6 n m a H) (b:(pc a r E).2.2=0):k6 n (m+1) (pc a r E).1 (H++CW a r E):=by
 unfold CW;split;·rename_i c;rw[List.append_nil,Xe (q:=(pc a r E).1) (rs':=(pc a r E).2.1) (by rw[<-b]) c];exact h.mono (Nat.le_succ _)
 ·exact h.step (Mv b).1 ((GJ rfl b).1.trans h.bs) (.inl rfl)
theorem k6.evs {a:Nat} {r:Nat×Ps×List Int}:∀(g b:Nat) (d:Ps) (e:List Int) (f:List (Int×Nat×Nat)),w1 l c g b d e=(r.1,r.2.1,r.2.2,0)->k6 n (a+b) d f->k6 n (a+r.1) r.2.1 (f++CC l c g b d e)
 | 0,b,d,e,f,h,i=>by obtain⟨rfl,k⟩:=Hy h (.inl rfl);rw[k,List.append_nil];exact i
 | g+1,b,d,e,f,h,i=>by
  by_cases j:(l.getD b Sk).b=c;·obtain⟨m,o⟩:=Pu h j;rw[S8 j,<-List.append_assoc];exact k6.evs g (b+1) _ _ _ o (i.ev m)
  ·obtain⟨rfl,k⟩:=Hy h (.inr j);rw[k,List.append_nil];exact i
theorem k6.shut {a:Tm} (j:a.right=true) (h:k6 n (s.at'+s.o.length) s.p H) (d:(q6 a l P c s).2=0):k6 n ((q6 a l P c s).1.at'+(q6 a l P c s).1.o.length) (q6 a l P c s).1.p (H++Dw a l P c s):=by
 unfold Dw;by_cases b:(P.getD s.o.length (0,0)).2=c;·rw[if_pos b];unfold q6 at d ⊢;rw[if_pos b]at d ⊢;obtain⟨fb,i,f,q,_,_,e,g⟩:=Om d;rw[g];show k6 n (s.at'+(s.o++[f]).length) q _;rw[la];exact h.step (Qk e).2.1 ((IG e).trans h.bs) (.inr rfl)
 ·rw[if_neg b,List.append_nil];unfold q6;rw[if_neg b];exact h
theorem k6.days {j:Tm} (m:j.right=true):∀(f:Nat) (b:Int) (a:RS) (d:List (Int×Nat×Nat)),uc j l P f b a=(s,0)->k6 n (a.at'+a.o.length) a.p d->k6 n (s.at'+s.o.length) s.p (d++Co j l P f b a)
 | 0,b,a,d,h,g=>by
  have e:m2 l b a=(s,0):=h;have i:w1 l b (l.length-a.at') a.at' a.p a.rs=(s.at',s.p,s.rs,0):=by unfold m2 at e;obtain⟨⟨k,A,B,z⟩,v⟩:∃c,w1 l b (l.length-a.at') a.at' a.p a.rs=c:=⟨_,rfl⟩;rw[v]at e ⊢;cases e;rfl
  have u:s.o=a.o:=(congrArg (fun c=>c.1.o) e).symm;have:=k6.evs (r:=(s.at',s.p,s.rs)) (a:=a.o.length) _ _ _ _ _ i (by rw[Nat.add_comm];exact g);rw[u,Nat.add_comm];exact this
 | f+1,b,a,d,h,g=>by
  obtain⟨t,p,y⟩:=JV h;have i:w1 l b (l.length-a.at') a.at' a.p a.rs=((m2 l b a).1.at',(m2 l b a).1.p,(m2 l b a).1.rs,0):=by rw[<-t];rfl
  have o:=k6.evs (r:=((m2 l b a).1.at',(m2 l b a).1.p,(m2 l b a).1.rs)) (a:=a.o.length) _ _ _ _ _ i (by rw[Nat.add_comm];exact g);have x:k6 n ((m2 l b a).1.at'+(m2 l b a).1.o.length) (m2 l b a).1.p (d++CC l b (l.length-a.at') a.at' a.p a.rs):=by rw[Nat.add_comm];exact o
  have r:=k6.days m f _ _ _ y (x.shut m p);unfold Co;rw[<-List.append_assoc,<-List.append_assoc];exact r
theorem RH (g:C6 c f P) (b:∀a,a<P.length->nc (P.getD a (0,0)).1 d=((P.getD a (0,0)).2,0)):∀a,a<P.length->(P.getD a (0,0)).2<=c+31*(a:Int)+30
 | 0,h=>by have e:=(GC (b 0 h)).2;rw[g.first]at e;omega
 | a+1,h=>by have e:=(GC (b (a+1) h)).2;have i:=RH g b a om;rw[g.next a h]at e;omega
theorem jil (h:p6 d f 300 c=(P,true)) (k:c<=2922896) (e:c<=f):DK c d f P:=by
 have b:=KC 300 h;have a:=XU 300 h;have i:P.length<=300:=by have:=H6 d f 300 c;rw[h]at this;exact this
 refine⟨b,a,fun g j=>?_,i,e⟩;have:=RH b a g j;omega
theorem Cu.days {a:Tm} (h:Cu a l c P):uc a l P (c-a.start).toNat a.start (r1 a)=((vo a l c).1,0):=by have b:=h.go;unfold vo at b ⊢;rw[h.sp]at b ⊢;exact Prod.ext rfl b
theorem Ka {a:Tm} (h:a.right=true):a.start<=2922896/\a.ts.length<=8:=by unfold Tm.right hu at h;simp only[ba,B9]at h;omega
theorem Vk {a:Tm} (h:Cu a l c P) (d:a.right=true) (i:l.length<=2000) :
 k6 a.ts.length 2300 (h6 a l c).p (Co a l P (c-a.start).toNat a.start (r1 a)):=by
 have g:k6 a.ts.length ((r1 a).at'+(r1 a).o.length) (r1 a).p []:=by refine⟨(EH.first d).p,List.length_replicate,[],rfl,(fun _ h=>by cases h),Nat.zero_le _,.inr (.inr rfl),fun f e=>?_,rfl⟩;show 0=(List.replicate a.ts.length (0:Int)).getD f 0;simp[List.getD,e]
 have b:=k6.days d _ _ _ _ h.days g;rw[List.nil_append]at b;rw[h.eq];have j:=h.inv.at';have m:=h.inv.o;have k:=h.len;exact b.mono om
end
section
open Go.RowKit FlM
theorem Yd {m:List (Int×Bool)} {g:Int} (h:h7 W v m) (j:t3 u) (o:hA W n 24 [iV c,u,iV d,iV f,iV y,iV z,iV g]):hL [n] v:= fun p e A C l k b=>by
 simp only[ms]at b;subst b l;obtain⟨rfl,_⟩:=h.fl.len;obtain⟨B,x,r,s,i,_,a,_⟩:=h.get k;cases i;rw[o.cell]at a;obtain⟨_,_,_,rfl⟩:=j;simp only[Nat.zero_mul,Nat.add_zero]at a
 match e,a with
 | 0,a=>simp at a
 | 1,a=>simp at a
 | 2,a=>simp at a
 | 3,a=>simp at a
 | 4,a=>simp at a
 | 5,a=>simp at a
 | t+6,a=>simp at a
def LO (g b:Nat) (c:Tm) (d:World) (a:i0) (w:World):Prop:=a.t=c/\t0 a/\BW d w/\∃e f,i2 g b a e w f
theorem Vb {g:Tm} {a:i0} (p:t0 A) (j:A.t=g) (x:i2 n m A F w I) (v:W.heap.size<=n) (d:BW W w) (r:A3 A E=(a,c)) (k:Fs n m a F w Y):LO n m g W a Y/\a.seq<=A.seq+1:=by obtain⟨e,b,f⟩:=YS p E;rw[r]at e b f;obtain⟨o,s,i,u,_,_⟩:=k;exact⟨⟨b.trans j,e,d.trans (u.keep.to_below d.size (fun l t=>nt v (x.lt l t).1)),o,s,i⟩,f⟩
theorem UR (h:n<l.length):l.getD n Sk∈l:=by exact Rh
structure YW (t:Tm) (A:i0) (ps:List (Int×Int)) (S:RS) (qs:List (Int×Nat×Nat)):Prop where
 sp:DK t.start t.cyc A.today ps
 hi:A.today<=2932896
 days:uc t A.ev ps (A.today-t.start).toNat t.start (r1 t)=(S,0)
 bk:Co t A.ev ps (A.today-t.start).toNat t.start (r1 t)=vc qs
 ok:Bn qs
 len:qs.length<=23000
 even:DP qs
 net:∀j,j<A.R.p.bs.length->t6 ((j:Int)+1) qs=A.R.p.bs.getD j 0
 cr:t6 (-1) qs = -A.R.p.c
 right:hW A.R.p.bs A.R.p.c A.R.p.d=true
theorem VM (h:t0 A):∃b f c,YW A.t A b f c:=by obtain⟨b,a⟩:=Dn h.goods (by rw[h.run];exact h.e);have d:=Vk a h.goods.terms h.goods.len;rw[h.run]at d;obtain⟨j,p,c,m,i,l,e,k,g⟩:=d;exact⟨b,_,c,jil a.sp (Ka h.goods.terms).1 a.lo,a.hi,a.days,m,i,l,e,fun n o=>k n om,g,j⟩
theorem books_law (O:Tm) (aD am) (l:List R5) (w) (a1:h7 w aD O.ts) (bo:h4 w am l):Calls prog 3 #[.agg (O.cells aD).toArray,am] w (RetB (.bool true) w):=by
 have co:=lh a1;have b':=lh bo;obtain⟨bH,bC,rfl⟩:=a1.shape;clear a1 bo;unfold Tm.cells;refine G3 ?_;unhygienic intros
 go_enter func3,ntmps3;go_upto_region 1 with fail;refine Q9 ?_;clear eH;unhygienic intros
 go_wp2_with fail;refine(Z2 O (.slice bH O.ts.length bC) _ (co.B jJ.o)).mono ?_;clear aI aN aL eL dU fT g8;rintro _ M ⟨a,c1,rfl,b3,aS,Q,al⟩;obtain⟨m,n,rfl⟩:=Q.shape;have s:=lh (An b3 aS);have ae:=lh (lN.B al);have cc:Hd (BW w M):=hJ jJ.o al;have cd:=lh Q;have bT:=lh (Yd Q (EC _ _ _) ae.o);clear b3 aS Q al;rw[show(a.cells (.slice m a.ts.length n)).toArray=#[iV a.lim,.slice m a.ts.length n,iV a.cyc,iV a.dued,iV a.minf,iV a.minp,iV a.start] from rfl];have R:Hd (M.heap[w.heap.size]?=some (.cells #[iV O.lim,.slice bH O.ts.length bC,iV O.cyc,iV O.dued,iV O.minf,iV O.minp,iV O.start] 24 (0,0))):=ae.o;go_upto_region 2 with(with_reducible refine Hk rfl (.tmp 2) (.tmp 17) rfl rfl w.heap.size #[iV a.lim,.slice m a.ts.length n,iV a.cyc,iV a.dued,iV a.minf,iV a.minp,iV a.start] rfl rfl _ R.o rfl rfl IA ?_)
 obtain⟨cu,br,cl,b7,ax⟩:∃W,M.setRow w.heap.size #[iV a.lim,.slice m a.ts.length n,iV a.cyc,iV a.dued,iV a.minf,iV a.minp,iV a.start]=W/\Hd (hA W w.heap.size 24 [iV a.lim,.slice m a.ts.length n,iV a.cyc,iV a.dued,iV a.minf,iV a.minp,iV a.start])/\Hd (h7 W (.slice m a.ts.length n) a.ts)/\Hd (BW w W) :=
  ⟨_,rfl,D5 ae.o [iV a.lim,.slice m a.ts.length n,iV a.cyc,iV a.dued,iV a.minf,iV a.minp,iV a.start],cd.keep (F:=[w.heap.size]) ((hC.refl _ _).setRow (.inl (me ..)) _) bT.o,Bd cc.o (nr _) _⟩
 try with_reducible rw[br]
 clear br R;go_wp2_with fail;refine(VH am l 30 Iv _ (b'.B ax.o)).mono ?_;rintro _ g ⟨u,D,rfl,a5,aG,ab⟩;obtain⟨c8,cs,rfl⟩:=a5.shape;have b5:=lh a5;have bt:=lh aG;have aJ:=lh (cl.B ab);have bl:=lh (b7.B ab);have cC:Hd (BW w g):=ax.trans (ab.mono ax.size);clear a5 aG ab;obtain⟨aI,aN,aL,eL,dU,fT,g8,-⟩:=aJ.cS [0,1,2,3,4,5,6];go_wp2_with fail;refine(SN a (.slice m a.ts.length n) s.1 (EB a) (Ig s.1 s.2) rfl _ bl.o).mono ?_;clear aI aN aL eL dU fT g8;rintro _ cE ⟨bY,F,V,rfl,bs,_,b0⟩;have bQ:=lh bs;have A:=lh b0;clear bs b0;go_wp2_with fail;refine(Wn _).mono ?_;rintro _ bO ⟨rfl,ar⟩;have ck:Hd (LO g.heap.size bY a g (v2 a) bO):=⟨rfl,TC s.1 s.2,hJ A.o ar,F,V,bQ.B ar⟩;clear ar;go_wp2_with fail;go_loopg [7] D.length (fun au Z wr=>∃(k:Nat) (E:i0),k+au=D.length/\Z=iV (k:Int)/\Hd (E.seq<=(k:Int))/\Hd (LO g.heap.size bY a g E wr));case atStart=>exact⟨0,v2 a,by omega,rfl,Int.le_refl _,ck.o⟩
 case round =>
  obtain⟨k,E,ai,rfl,aC,aE⟩:=hrel;cases gk with
  | zero=>have bI:¬(k:Int)<D.length:=om;have ah:Hd (BW w wr):=cC.trans (aE.2.2.1.mono cC.size);clear ai;go_wp2_with fail;go_ret;exact⟨rfl,ah.o⟩
  | succ au =>
   have bI:(k:Int)<D.length:=om;obtain⟨j,cr,cp,bV,ca,I⟩:=aE.o;have aU:=lh I;have b8:=lh cp;have ao:=lh (An j cr);obtain⟨b,o,Z,rfl,⟨aI,aN,aL,eL,dU⟩,cq⟩:=(b5.B cp).get (show k<D.length by omega);have cB:wrap64 ((k:Int)+1)=(k:Int)+1:=wi _ ⟨by omega,oo bt.o⟩;have bb:=lh ai;obtain⟨bi,ct,aX⟩:=xh (A3 E Z);have bg:=lh aX;clear aX j cr cp I cq ai;go_wp2_with fail;refine(KE g.heap.size bY E ao.2 (o3 aC.o bb.o bt.o) bV ca Z bi ct bg _ aU.o).mono ?_;rintro _ c9 ⟨v,rfl,_,aR⟩;have aV:=lh (Vb ao.2 ao.1 aU.o (nr _) b8.o bg.o aR);clear aR aI aN aL eL dU;obtain⟨j,cr,cp,ay,a0,I⟩:=aV.1;have a':=lh I;have bd:=lh cp;have r:=lh (An j cr);have af:Hd (Cl a bi.ev bi.today):=by rw[<-j];exact cr.goods
   clear j cr cp I;obtain⟨b6,S,d,G⟩:=VM r.2;rw[r.1]at G;have bF:=lh G;clear G;go_wp2_with fail;refine(Lv g.heap.size bY bi r.2 ay a0 _ a'.o).mono ?_;rintro _ H ⟨aB,c2,cz,c4,rfl,X,aA,bZ,_,ak⟩;obtain⟨bJ,a7⟩:=xg bi.R.p.bs.length;obtain⟨Y,P,rfl⟩:=X.shape;rw[a7]at X ⊢;obtain⟨aO,aM,rfl⟩:=aA.shape;obtain⟨bq,aY,bj,rfl⟩:=bZ;have bG:=lh X;have aw:=lh a7;have bS:=lh (a'.B ak);have aW:Hd (BW g H):=bd.trans (ak.mono bd.size);clear X aA ak a7;go_upto_region 11 with fail;obtain⟨J,K,aT,bc,bf,aj⟩:∃J W,H.alloc (.cells #[iV bi.today,iV aB,.slice Y bJ P,iV bi.R.p.c,iV bi.R.p.d,.slice aO bi.R.rs.length aM,.slice bq aY bj,iV bi.seq] 38)=W/\H.heap.size=J/\Hd (hA W J 38 [iV bi.today,iV aB,.slice Y bJ P,iV bi.R.p.c,iV bi.R.p.d,.slice aO bi.R.rs.length aM,.slice bq aY bj,iV bi.seq])/\Hd (BW H W):=⟨_,_,rfl,rfl,hR H _ _ _ rfl,hB bR _⟩;with_reducible rw[aT,bc]
   clear aT bc;have cA:Hd (BW g K):=aW.trans (aj.mono aW.size);have be:=lh (bS.B aj.o);have cg:=lh (aJ.B cA.o);have cn:=lh (bl.B cA.o);obtain⟨bB,a9⟩:∃ct:Int,(s7 d->ct=0)/\(¬s7 d->ct=5):=by
    by_cases h:s7 d;·exact⟨0,fun _=>rfl,fun bY=>absurd h bY⟩
    ·exact⟨5,fun bY=>absurd bY h,fun _=>rfl⟩
   have av:=lh a9;have T:Hd (∀bu,BW K bu->(Ce bu w.heap.size 0 (iV a.lim)/\Ce bu w.heap.size 1 (.slice m a.ts.length n)/\Ce bu w.heap.size 2 (iV a.cyc)/\Ce bu w.heap.size 3 (iV a.dued)/\Ce bu w.heap.size 4 (iV a.minf)/\Ce bu w.heap.size 5 (iV a.minp)/\Ce bu w.heap.size 6 (iV a.start))/\Ce bu J 0 (iV bi.today)):=fun bu bx=>by have q:=cg.B bx;exact⟨⟨q.cell 0,q.cell 1,q.cell 2,q.cell 3,q.cell 4,q.cell 5,q.cell 6⟩,(bf.B bx).cell 0⟩
   have aZ:=T.o K.drew (hG bR);clear a9;go_region_held3 (fun bu=>(Ce bu w.heap.size 0 (iV a.lim)/\Ce bu w.heap.size 1 (.slice m a.ts.length n)/\Ce bu w.heap.size 2 (iV a.cyc)/\Ce bu w.heap.size 3 (iV a.dued)/\Ce bu w.heap.size 4 (iV a.minf)/\Ce bu w.heap.size 5 (iV a.minp)/\Ce bu w.heap.size 6 (iV a.start))/\Ce bu J 0 (iV bi.today)) (first | with_reducible exact aZ | with_reducible exact aP | with_reducible exact aH | with_reducible assumption)
    (first
     | (go_at_call 13;refine(XV g.heap.size bY bi r.2 ay a0 _ (be.B (hG bR))).mono ?_;rintro _ an ⟨bX,rfl,bw,C⟩;have b2:Hd (h4 an bX bi.ev):=Fl.of_own bw (DU _);obtain⟨b9,bK,rfl⟩:=b2.shape;have A:Hd (BW K an):=hJ (hG bR) C;have aP:=T.o an A.o;clear bw C)
     | (go_at_call 12;refine(Um a (.slice m a.ts.length n) (.slice b9 bi.ev.length bK) bi.ev bi.today b6 S d bB a.ts.length rfl (oo ((Ka s.1).2)) s.1 af.events af.len r.2.asc (fun i cb=>af.late _ (UR cb)) bF.sp bF.hi bF.days bF.bk bF.ok (oo bF.len) av _ (cn.B A.o) b2.o).mono ?_;rintro _ L ⟨c6,cv,cD,rfl,bh,C⟩;have bA:=lh bh;have HB6:Hd (BW K L):=A.trans (C.mono A.size);have aH:=T.o L HB6.o;clear bh C))
   clear aZ aP aH T;have a8:Hd (BW g L):=cA.trans (HB6.mono cA.size);have a4:=lh (bf.B HB6.o);have cf:=lh (be.B HB6.o);have aF:Hd (Sl .i64 L (.slice Y bJ P) bi.R.p.bs):=(bG.B aj.o).B HB6.o;by_cases c0:s7 d
   ·obtain rfl:=av.1 c0;have a6:=lh c0;have ag:=bA.o rfl;obtain⟨c5,cy,e,_⟩:=ag.form;cases e;have aK:=lh ag;have bP:Hd (sD (fun _=>true) d=sC (fun _=>true) d):=by
     have j:sD (fun _=>true) d<=1000000000000000/\sC (fun _=>true) d<=1000000000000000:=c0;rcases bF.even with h | h | h;·omega
     ·omega
     ·exact h
    have ac:Hd (d.length<=1000000):=by have:=bF.len;show _<=_;omega
    have a2:=lh bF.ok;have aQ:=lh bF.right;obtain⟨bz,az,bW,-⟩:=a4.cS [2,3,4];have bv:=a4.lt;clear c0 ag;go_wp2_with fail;refine(VT _ d a2 ac.o a6 bP _ aK.o).mono ?_;rintro _ _ ⟨rfl,rfl⟩;go_wp2_with fail;refine(By (.slice Y bJ P) bi.R.p.bs bi.R.p.c bi.R.p.d true aQ _ aF.o).mono ?_;rintro _ bp ⟨rfl,B⟩;have bm:=lh (a4.B B);have ci:=lh (cf.B B);have ch:=lh (aF.B B);have b1:=lh (aK.B B);have bD:Hd (BW g bp):=a8.trans (B.mono a8.size);have bU:Hd (bJ<=1000):=by have j:=r.2.bs;have cr:=(Ka s.1).2;have cp:=aw.o;rw[r.1]at j;show bJ<=1000;omega
    clear bz az bW bv B;obtain⟨bz,az,-⟩:=bm.cS [2,3];have bv:=bm.lt;go_wp2_with fail;go_loopg [11] bJ (fun a3 y M=>∃bE:Nat,bE+a3=bJ/\y=iV (bE:Int)/\M=bp);case atStart=>exact⟨0,by omega,rfl,rfl⟩
    case round =>
     obtain⟨bE,ad,rfl,rfl⟩:=hrel;cases gk with
     | zero =>
      have cm:¬(bE:Int)<bJ:=om;obtain⟨x,aa⟩:=xg bi.R.p.c;have cj:Hd (sD (fun t=>false || t == -1) d-sC (fun t=>false || t == -1) d = -x):=by rw[<-aa];exact bF.cr
      have c3:0<=x/\x<=1000000000000000:=by rw[<-aa];exact(A1 aQ.o).1
      rw[aa]at az;have cx:wrap64 (-x) = -x:=wi _ ⟨by omega,by omega⟩;clear ad aa;go_wp2_with fail;refine(Qv _ d (-1) (-x) a2 ac.o a6 cj _ b1.o).mono ?_;rintro _ _ ⟨rfl,rfl⟩;go_wp2_with fail;go_roundg au;case measure=>omega
      case rel=>exact⟨k+1,bi,oo bb.o,by go_num,by have:=aC.o;have:=aV.2;show bi.seq<=((k+1:Nat):Int);omega,r.1,r.2,bD.o,ay,a0,ci.o⟩
     | succ a3 =>
      have cm:(bE:Int)<bJ:=om;obtain⟨q,f,z,G,c7,b4⟩:=ch.get (i:=bE) (by rw[aw.o];omega);cases G;have cw:wrap64 ((bE:Int)+1)=(bE:Int)+1:=wi _ ⟨by omega,oo bU.o⟩;have ce:=lh ad;have R:Hd (sD (fun t=>false || t == (bE:Int)+1) d-sC (fun t=>false || t == (bE:Int)+1) d=z):=by have j:=bF.net bE (by rw[aw.o];omega);rw[b4.o]at j;exact j
      clear ad;go_wp2_with fail;refine(Qv _ d ((bE:Int)+1) z a2 ac.o a6 R _ b1.o).mono ?_;rintro _ _ ⟨rfl,rfl⟩;go_wp2_with fail;go_roundg a3;case measure=>omega
      case rel=>exact⟨bE+1,oo ce.o,by go_num,rfl⟩
   ·obtain rfl:=av.2 c0;have ah:Hd (BW w L):=cC.trans (a8.mono cC.size);clear c0;go_wp2_with fail;go_ret;exact⟨rfl,ah.o⟩
end
end Go.Proofs.YtkongpjpkpfniaaGreat

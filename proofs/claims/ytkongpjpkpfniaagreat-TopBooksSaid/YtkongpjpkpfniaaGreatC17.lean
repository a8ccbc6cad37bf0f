/- TopBooks, a part. -/
import Derived.Test.YtkongpjpkpfniaaGreatC16
set_option linter.unusedVariables false
set_option linter.unusedSimpArgs false
set_option maxRecDepth 100000
set_option maxHeartbeats 6400000
namespace Go.Proofs.YtkongpjpkpfniaaGreat
open Go.RowKit Go.Proofs.Tryz
variable {D:Bool} {ah c d dV f y:Int} {P:List (Int×Int)} {H:List (Int×Nat×Nat)} {r x:List Int} {F G:List Nat} {l:List R5} {L:List St} {C X:List Value} {k m n:Nat} {p q:Prop} {E:R5} {s:RS} {T:St} {e:TypeId} {V u v:Value} {W Y w:World}
theorem Sq (h:q:=by have ce:=lh ck;rw[h]at bh;clear ck cG h ue uf dO sp;go_wp2_with fail;refine(UP _ p.bs p.c p.d x.c x.d q.bs q.c q.d ce mU _ (cK.B jI.o)).mono ?_;exact Fc):q:=h
theorem JJ (h:q:=by have ce:=lh ck;rw[h]at bh;clear ck cG h ue uf dO sp;go_wp2_with fail;refine(Zd _ _ p.bs a6 p.c p.d x.c x.d q.bs q.c q.d ce mU _ (cK.B jI.o) sr.1).mono ?_;exact Fc):q:=h
theorem Fc (h:q:=by
 rintro _ aT ⟨AP,rfl,⟨ug,ya⟩,ea⟩;simp only at ug;obtain⟨jV,ll,rfl⟩:=ug.shape;have jh:=lh ea;have bd:=lh (An ug ya);have uh:=lh (ui.B ea);have Ay:=lh (pA.B ea);clear ug ya ea bh bf cF jW mD mE;obtain⟨aI,aN,aL,-⟩:=uh.cS [0,1,2];obtain⟨g0,p8,qY,-⟩:=uh.fs [0,1,2];have Az:=uh.lt;go_upto_region 23 with fail;obtain⟨jE,su,wg,pB,pS,pT,cX⟩:∃W,((aT.setCell (Ad j9 0) (.slice jV q.bs.length ll)).setCell (Ad j9 1) (iV q.c)).setCell (Ad j9 2) (iV q.d)=W/\Hd (hA W j9 35 [.slice jV q.bs.length ll,iV q.c,iV q.d])/\Hd (hA W (w.heap.size+1+1) 35 [sZ,iZ,iZ])/\Hd (Sl .i64 W (.slice jV q.bs.length ll) q.bs/\Fr oH (.slice jV q.bs.length ll))/\Hd (Sl .i64 W (.slice gq a6.length fE) a6/\Fr oH (.slice gq a6.length fE))/\Hd (BW w W):=by have AQ:=ui.lt;have AR:=uj.o;have bK:=HB6.o;have wh:∀b ae n c,(.slice jV q.bs.length ll:Value)=sL b ae n c->0<n->b≠j9:=fun b ae n c I aK=>oo (bd.2 b ae n c I aK);have wj:∀b ae n c,(.slice gq a6.length fE:Value)=sL b ae n c->0<n->b≠j9:=fun b ae n c I aK=>oo (sr.2.2 b ae n c I aK);refine⟨_,rfl,((uh.set 0 _).set 1 _).set 2 _,((Ay.setOther om _ _).setOther om _ _).setOther om _ _,⟨((bd.1.setCell wh _).setCell wh _).setCell wh _,fun b ae n c I aK=>o2 (bd.2 b ae n c I aK) uj.o⟩,⟨(((sr.1.B jh.o).setCell wj _).setCell wj _).setCell wj _,fun b ae n c I aK=>(sr.2.1 b ae n c I aK)⟩,p2 (hJ jI.o jh.o) om _ _ _⟩
 with_reducible rw[su]
 clear su aI aN aL g0 p8 qY Az;obtain⟨cQ,bE,wk,-⟩:=wg.cs [0,1,2];obtain⟨aR,bg,be,-⟩:=pB.cs [0,1,2];simp only[gz,gs]at cQ bE wk aR bg be;obtain⟨gm,cC,dr,-⟩:=pB.fs [0,1,2];have A0:=pB.lt;go_wp2_with fail;refine bodyPost_ret (v:=.tuple #[.agg #[.slice jV q.bs.length ll,iV q.c,iV q.d],.slice gq a6.length fE,iZ]) (by simp[results,results73,go_sem,aR,bg,be]) rfl ⟨_,_,rfl,?_⟩;exact SE):q:=h
theorem JT {a q:Ps} (h:pc a r E=(q,x,0)):w4 a r E=true/\p0 a r E=(q.bs,q.c,q.d,0)/\CK r E=x:=by
 unfold pc at h;split at h;·cases h
 rename_i c;split at h;·rename_i b;injection h with _ h;injection h with _ h;exact absurd h b
 ·rename_i b;injection h with e h;injection h with d _;subst e d;exact⟨by simpa using c,by
   have f:(p0 a r E).2.2.2=0:=ss b
   exact Prod.ext rfl (Prod.ext rfl (Prod.ext rfl f)),rfl⟩
theorem Mn {a:Ps} (h:w4 a r E=true):hW a.bs a.c a.d=true/\r.length=a.bs.length/\r.any q1=false/\(1<=E.a/\E.a<=6)/\(E.a≠2->1<=E.c/\E.c<=(a.bs.length:Int))/\(E.a=6->0<=E.d/\E.d<=10000000):=by unfold w4 at h;simp only[ba,beq_iff_eq,Bool.not_eq_true',Bool.or_eq_true,decide_eq_true_eq,bne_iff_ne,ne_eq]at h;obtain⟨⟨⟨⟨⟨g,d⟩,j⟩,f⟩,i⟩,e⟩:=h;exact⟨g,d,j,f,fun c=>i.elim (fun b=>absurd b c) (fun b=>by rw[<-d];exact b),fun c=>e.elim (fun b=>absurd c b) id⟩
theorem VS (h:r.any q1=false) (b:k<r.length):0<=r.getD k 0/\r.getD k 0<=10000000:=by rw[List.any_eq_false]at h;have a:=h (r.getD k 0) (by simp[List.getD,b]);simp only[q1,Bool.or_eq_true,decide_eq_true_eq,not_or]at a;omega
theorem ZC (p:Ps) (an af) (a6:List Int) (x:R5) (q:Ps) (B:List Int) (a7:Hd (pc p a6 x=(q,B,0))) (mU:p.bs.length<=1000) (b8:a6.length<=1000) (w) (M:Sl .i64 w an p.bs) (J:Sl .i64 w af a6) :
 Calls prog 73 #[.agg #[an,iV p.c,iV p.d],af,.agg #[iV x.a,iV x.b,iV x.c,iV x.d,iV x.e]] w (SV (q,B,0) w):=by
 have cK:=lh M;have L:=lh J;obtain⟨a0,d,aF⟩:=JT a7.o;obtain⟨a4,E,S,⟨dO,sp⟩,T,ab⟩:=Mn a0;have aJ:=lh a4;have br:=lh S;have au:=lh T;have bb:=lh ab;have am:=lh d;have aa:=lh aF;have bj:=lh E;obtain⟨G,Q,rfl⟩:=M.shape;obtain⟨Y,X,rfl⟩:=J.shape;have aD:Hd (Y=none->a6.length=0/\X=0):=L.none_cap;have bv:((a6.length:Int) == (p.bs.length:Int))=true:=by rw[E];exact beq_self_eq_true _
 clear M J a0 d aF a4 S T ab a7 E;obtain⟨aH,aV,aC,bm,aS⟩:=info_parts Ch;go_enter func73,ntmps73;go_wp2_with fail;refine(By _ p.bs p.c p.d true aJ _ (cK.B bL)).mono ?_;rintro _ a ⟨rfl,u⟩;have H:Hd (BW w a):=hJ (hB (hB (hB bR _) _) _) u;have a3:Hd (hA a w.heap.size 35 [.slice G p.bs.length Q,iV p.c,iV p.d]):=((hR w [.slice G p.bs.length Q,iV p.c,iV p.d] 35 _ rfl).B (hB (hB bR _) _)).B u;have P:Hd (hA a (w.heap.size+1) 150 [iV x.a,iV x.b,iV x.c,iV x.d,iV x.e]):=((hR (w.alloc _) [iV x.a,iV x.b,iV x.c,iV x.d,iV x.e] 150 _ Is).B (hB bR _)).B u;have O:Hd (hA a (w.heap.size+1+1) 35 [sZ,iZ,iZ]):=(hR ((w.alloc _).alloc _) [sZ,iZ,iZ] 35 _ Is).B u;have bh:=P.cell 0;have jW:=a3.cell 0;simp only[gz,gs]at bh jW;have ue:(1:Int)<=x.a:=dO;have uf:x.a<=(6:Int):=sp;clear u;go_upto_region 3 with fail;clear bv;go_loopg [9,10] a6.length (fun g r i wr=>∃k:Nat,k+g=a6.length/\r=.bool true/\i=iV k/\a=wr);case atStart=>exact⟨0,by omega,rfl,rfl,rfl⟩
 case round =>
  obtain⟨k,a8,rfl,rfl,rfl⟩:=hrel;cases gk with
  | succ eg=>have aB:(k:Int)<a6.length:=om;have aG:(0:Int)<=(k:Int):=om;obtain⟨b5,b9,z,rfl,b1,aZ⟩:=(L.B H.o).get (i:=k) om;have V:=VS br.o (k:=k) om;rw[aZ]at V;obtain⟨bG,b7⟩:=V;clear bh jW;exact FW
  | zero =>
   have aB:¬((k:Int)<a6.length):=om;obtain rfl:k=a6.length:=om;clear a8;obtain⟨bf,cF,-⟩:=P.cS [2,3];go_upto_region 6 with fail;go_cut [9] (fun r A=>r=.bool true/\a=A);case first =>
    by_cases y:x.a=2;·rw[y]at bh;clear y;go_wp2_with fail;go_meet;case rel=>exact⟨rfl,rfl⟩
    ·obtain⟨ar,aw⟩:=au.o y;exact QE
   case rest =>
    obtain⟨rfl,rfl⟩:=hcut;go_upto_region 7 with fail;go_cut [89] (fun r A=>r=.bool false/\a=A);case first =>
     by_cases cG:x.a=6;·obtain⟨bF,b3⟩:=bb.o cG;have bw:¬x.d<(0:Int):=om;have bC:¬(10000000:Int)<x.d:=om;rw[cG]at bh;clear cG;exact QE
     ·exact QE
    case rest =>
     obtain⟨rfl,rfl⟩:=hcut;clear bh bf cF jW;go_upto_region 11 with(at_builtin;refine Ba _ rfl (.const (sZ)) (.tmp 91) 33 rfl a.heap.size 2 aH (iZ) 1 8 underlying33 aV aC bm aS rfl Iv (sZ) 0 [] rfl (World.ownsRow_nil _ _ _ _) Y a6.length X (a6.map (Value.int .i64)) rfl Is aD.o (L.B H.o).news (ints_oneCell _ _) RD om (nr _) ?_;intro av aj ay a2 bp;clear bp;have ac:=lh ay;have ao:=lh a2;clear ay a2)
     have s:Hd (BW a aj):=D0 ao.o;obtain⟨bz,aP⟩:∃ak,ak=av:=⟨_,rfl⟩;have o:Hd (aj.ownsRow a.heap.size 2 1 av a6.length (a6.map (Value.int .i64))):=by have h:=ac.o;rw[Nat.zero_add,List.nil_append]at h;exact h
     obtain⟨gq,fE,rfl⟩:=(Sl.of_own o.o rfl).shape;have ah:Hd (BW w aj):=hJ H.o s.o;have ag:=lh (a3.B s.o);have a9:=lh (P.B s.o);have aY:=lh (O.B s.o);obtain⟨jW,mD,mE,-⟩:=ag.cS [0,1,2];clear aP ac ao;go_wp2_with fail;refine(HB _ p.bs p.c p.d mU _ (cK.B ah.o)).mono ?_;rintro _ v ⟨b0,rfl,t,al⟩;obtain⟨f,e,rfl⟩:=(Sl.of_own t rfl).shape;clear jW mD mE;have aA:=lh (Sl.of_own t rfl);have aQ:Hd (∀b ae n c,(.slice f p.bs.length e:Value)=sL b ae n c->aj.heap.size+2<=b/\(0<n->b<v.heap.size)):=fun b ae n c I=>⟨BY t b ae n c I,fun aK=>by have h:=Sl.of_own t rfl;rw[I]at h;exact Sl.blt h aK⟩;have m:Hd (BW aj v):=al;clear t al;go_upto_region 12 with fail;obtain⟨D,j9,ad,F,ui,aU,bs,pA,jI,bo,bA⟩:∃W j9,v.alloc (.cells #[.slice f p.bs.length e,iV p.c,iV p.d] 35)=W/\v.heap.size=j9/\Hd (hA W j9 35 [.slice f p.bs.length e,iV p.c,iV p.d])/\Hd (hA W w.heap.size 35 [.slice G p.bs.length Q,iV p.c,iV p.d])/\Hd (hA W (w.heap.size+1) 150 [iV x.a,iV x.b,iV x.c,iV x.d,iV x.e])/\Hd (hA W (w.heap.size+1+1) 35 [sZ,iZ,iZ])/\Hd (BW w W)/\Hd (Sl .i64 W (.slice f p.bs.length e) p.bs)/\Hd (W.ownsRow a.heap.size 2 1 (.slice gq a6.length fE) a6.length (a6.map (Value.int .i64))) :=
      ⟨_,_,rfl,rfl,hR _ _ _ _ rfl,(ag.B m.o).B bL,(a9.B m.o).B bL,(aY.B m.o).B bL,hB (hJ ah.o m.o) _,aA.B bL,ic (ic o.o m.o) bL⟩
     with_reducible rw[ad,F]
     have uj:Hd (w.heap.size+1+1<a.heap.size/\a.heap.size<=aj.heap.size/\aj.heap.size<=j9/\j9<D.heap.size):=⟨O.lt,s.size,by rw[<-F];exact m.size,ui.lt⟩;have K:Hd (∀b ae n c,(.slice gq a6.length fE:Value)=sL b ae n c->a.heap.size<=b/\b<j9):=fun b ae n c I=>by have bl:=BY o.o b ae n c I;have y:b<aj.heap.size:=(o.lt b (by rw[I];rfl)).2;have bK:=uj.o;omega
     have Z:Hd (∀b ae n c,(.slice f p.bs.length e:Value)=sL b ae n c->0<n->aj.heap.size+2<=b/\b<j9):=fun b ae n c I aK=>by have:=aQ.o b ae n c I;have bl:=this.2 aK;omega
     obtain⟨oH,aM⟩:∃x,x=a:=⟨_,rfl⟩;subst aM;have HB6:Hd (w.heap.size+1+1<oH.heap.size):=O.lt;clear ad F;obtain⟨bh,bf,cF,-⟩:=bs.cs [0,2,3];obtain⟨jW,mD,mE,-⟩:=aU.cs [0,1,2];simp only[gz,gs]at bh bf cF jW mD mE;have R:x.a=1\/x.a=5\/x.a=2\/x.a=3\/x.a=4\/x.a=6:=om;by_cases cG:x.a=6
     ·obtain⟨ar,aw⟩:=au.o om;have d:=am.o;unfold p0 at d;rw[if_neg om,if_neg om,if_neg om]at d;obtain⟨b6,bD,bx⟩:=q;injection d with ai d;injection d with ax d;injection d with a1 _;simp only at ai ax a1;subst ai ax a1;obtain⟨k,b4⟩:∃k:Nat,x.c=(k:Int)+1:=⟨(x.c-1).toNat,by omega⟩;have a':k<a6.length:=by
       have:=bj.o;omega
      have aF:=aa.o;unfold CK at aF;rw[if_pos cG,show(x.c-1).toNat=k by omega]at aF;subst aF;have a5:(a6.set k x.d).length=a6.length:=List.length_set;obtain⟨l,bI,aW⟩:=ro bA.o om;cases aW;obtain⟨b2,az,bu,aE,bi,bt,aX⟩:=B0 bA.o;obtain⟨bJ,bc⟩:=az.some (j:=k) om;have aO:=az.frozen k;refine Jb ?_;clear bh bf;unhygienic intros
      have aG:(0:Int)<=(k:Int):=om;clear bu aE bi bt aX a' cG R ue uf dO sp b4 ar aw;go_upto_region 23 with fail;obtain⟨jE,su,wg,pB,pS,pT,cX⟩:∃W,D.setCell (Ad l k) (iV x.d)=W/\Hd (hA W j9 35 [.slice f p.bs.length e,iV p.c,iV p.d])/\Hd (hA W (w.heap.size+1+1) 35 [sZ,iZ,iZ])/\Hd (Sl .i64 W (.slice f p.bs.length e) p.bs/\Fr oH (.slice f p.bs.length e))/\Hd (Sl .i64 W (sL l 0 (a6.set k x.d).length fE) (a6.set k x.d)/\Fr oH (sL l 0 (a6.set k x.d).length fE))/\Hd (BW w W):=by have bH:=K.o l 0 _ _ rfl;have bK:=HB6.o;have aK:=uj.o;have bB:=(o.lt l rfl).2;refine⟨_,rfl,ui.setOther om _ _,pA.setOther om _ _,⟨bo.setCell (fun b ae n c I C=>oo (Z.o b ae n c I C)) _,fun b ae n c I C=>oo (Z.o b ae n c I C)⟩,⟨?_,fun b ae n c I _=>by cases I;omega⟩,k1 jI.o om⟩;rw[a5];exact Sl.of_own (Sx bA.o k x.d) Is
      with_reducible rw[su]
      clear su bc aO bh bf cF wG;rw[<-a5];obtain⟨cQ,bE,wk,-⟩:=wg.cs [0,1,2];obtain⟨aR,bg,be,-⟩:=pB.cs [0,1,2];simp only[gz,gs]at cQ bE wk aR bg be;obtain⟨gm,cC,dr,-⟩:=pB.fs [0,1,2];have A0:=pB.lt;go_wp2_with fail;refine bodyPost_ret (v:=.tuple #[.agg #[.slice f p.bs.length e,iV p.c,iV p.d],sL l 0 (a6.set k x.d).length fE,iZ]) (by simp[results,results73,go_sem,aR,bg,be]) rfl ⟨_,_,rfl,?_⟩;exact SE
     ·have bq:a6=B:=by rw[<-aa.o];unfold CK;rw[if_neg cG]
      subst bq;have sr:Hd (Sl .i64 D (.slice gq a6.length fE) a6/\Fr oH (.slice gq a6.length fE)/\∀b ae n c,(.slice gq a6.length fE:Value)=sL b ae n c->0<n->b<j9):=⟨Sl.of_own bA.o rfl,fun b ae n c I _=>(K.o b ae n c I).1,fun b ae n c I _=>(K.o b ae n c I).2⟩;have ck:=am.o;unfold p0 at ck;rcases R with h | h | h | h | h | h;·rw[if_pos (.inl h)]at ck;exact Sq
      ·rw[if_pos (.inr h)]at ck;exact Sq
      ·rw[if_neg om,if_pos h]at ck;have ce:=lh ck;rw[h]at bh;clear ck cG h ue uf dO sp;go_wp2_with fail;refine(Zx _ _ p.bs a6 p.c p.d x.d q.bs q.c q.d ce mU _ (cK.B jI.o) sr.1).mono ?_;exact Fc
      ·rw[if_neg om,if_neg om,if_pos (.inl h)]at ck;exact JJ
      ·rw[if_neg om,if_neg om,if_pos (.inr h)]at ck;exact JJ
      ·exact absurd h cG
section
open Go.RowKit EvM
theorem NH (j g) (b a:List Int) (f c d e i:Int) (l:List (Int×Nat×Nat)) (o:Hd (Bb b f c a d e i=l)) (k:Hd (hW b f c=true/\hW a d e=true/\b.length=a.length)) (w) (m:Sl .i64 w j b) (n:Sl .i64 w g a) :
 Calls prog 74 #[.agg #[j,iV f,iV c],.agg #[g,iV d,iV e],iV i] w (Kv l w):=by
 have h:=T7 j g b a f c d e i k.1 k.2.1 k.2.2 w m n;rw[o.o]at h;exact h
theorem Qk {o:Tm} {a q:Ps} (h:v1 o c d f a r x D=(some T,q,0)):hW a.bs a.c a.d=true/\hW q.bs q.c q.d=true/\a.bs.length=q.bs.length:=by
 have m:=IG h;unfold v1 at h;split at h;·cases h
 rename_i j;split at h;·cases h
 split at h;·cases h
 split at h;·cases h
 ·rename_i l;cases h;have b:(s0 a.bs a.c a.d x).2.2.2=0:=ss l;have e:hW a.bs a.c a.d=true/\hW (s0 a.bs a.c a.d x).1 (s0 a.bs a.c a.d x).2.1 (s0 a.bs a.c a.d x).2.2.1=true:=by
   unfold s0 at b ⊢;split at b;·cases b
   rename_i g;rw[if_neg g];split at b;·cases b
   rename_i n;rw[if_neg n];split at b;·cases b
   rename_i k;rw[if_neg k];split at b;·rename_i i;rw[if_pos i];exact⟨by simpa using g,i⟩
   ·cases b
  exact⟨e.1,U6 e.2 (TL (ss j) (ZQ e.2)),m.symm⟩
theorem ZO {a q:Ps} (h:pc a r E=(q,x,0)):hW a.bs a.c a.d=true/\hW q.bs q.c q.d=true/\a.bs.length=q.bs.length:=by have c:=(Mn (JT h).1).1;have b:=(Mv (p:=a) (rs:=r) (x:=E) (by rw[h])).1;have d:=(GJ h rfl).1;rw[h]at b;exact⟨c,b,d.symm⟩
end
theorem Ji (h:q:=by refine wo 19 kr rfl fun a4 ac=>?_;refine DY ?_;clear ac a4;intro dH au iY eK aJ;refine Pt ?_;clear au eK;intro dL eY;subst eY;exact Qm):q:=h
theorem I3 (h:q:=by refine wo 18 kr rfl fun a4 ac=>?_;refine QP ?_;clear ac a4;intro b8 au iY eK aJ;refine Pt ?_;clear au eK;intro dL eY;subst eY;exact Qm):q:=h
theorem Sh (h:q:=by refine Pt ?_;clear au eK;intro dL eY;subst eY;refine wo 13 kr rfl fun a4 ac=>?_;refine Ow ?_;intro dL lv' ge et ed db bZ aJ;obtain⟨cY,cZ,rfl⟩:=et.shape;obtain⟨dQ,dR,rfl⟩:=ed.shape;refine Ik ?_;clear et ed db bZ ac a4;show _;exact Qm):q:=h
theorem OO (h:q:=by
 by_cases pg:i<5
 ·rw[if_pos pg,if_pos pg]
  congr 1
  exact List.map_congr_left fun aB _=>eD _ om
 ·rw[if_neg pg,if_neg pg]):q:=h
theorem Qm (h:q:=by have jU:Hd (hA dL b8 43 [iZ,iZ,iZ,iZ,sZ,iZ,iZ,iZ,.bool false]):=(aJ.b8 _ rfl).1;have i9:Hd (hA dL dH 35 [sZ,iZ,iZ]):=(aJ.b9 _ rfl).1;obtain⟨aI,aN,aL,eL,dU,fT,g8,f9,kx,-⟩:=jU.cS [0,1,2,3,4,5,6,7,8];obtain⟨qf,qg,qh,vD,vE,vF,vG,vH,vI,-⟩:=jU.fs [0,1,2,3,4,5,6,7,8];obtain⟨b6,aM,aP,-⟩:=i9.cS [0,1,2];obtain⟨rV,rW,rX,-⟩:=i9.fs [0,1,2];have zs:=jU.lt;have x4:=i9.lt;have fO:b8≠dH:=n3 jU.o i9.o Iv;have vJ:=fO.symm;refine wS 20 rfl ?_;refine wS 21 rfl ?_;refine wS 22 rfl ?_;clear aI aN aL eL dU fT g8 f9 kx qf qg qh vD vE vF vG vH vI b6 aM aP rV rW rX fO vJ;refine r4 kr ?_ _;go_wp2_with fail;go_meet;case rel=>exact⟨b8,dH,_,_,rfl,rfl,rfl,aJ.fin⟩):q:=h
theorem Nr (h:w.ownsRow n e m v k C):∃b c a,v=.slice b c a:=by rcases h.2 with⟨rfl,_⟩ | ⟨_,_,_,rfl,_⟩ <;> exact⟨_,_,_,rfl⟩
theorem Qc {bk:List (Int×Nat×Nat)} {e:Nat->List (List Int)} {c d:Nat->Value} (eD:∀i,i≠1->d i=c i) (i:Nat) (b:i≠1):i1 L H e C d i=i1 L bk e C c i:=by
 unfold i1;rw[eD i b];by_cases a:i=0;·rw[if_pos a,if_pos a]
 rw[if_neg a,if_neg a,if_neg b,if_neg b];exact OO
theorem Z9 {f:List St} {bk:List (Int×Nat×Nat)} {e:Nat->List (List Int)} {c d:Nat->Value} (eD:∀i,i≠0->d i=c i) (i:Nat) (b:i≠0):i1 f bk e X d i=i1 L bk e C c i:=by
 unfold i1;rw[eD i b,if_neg b,if_neg b];by_cases a:i=1;·rw[if_pos a,if_pos a]
 rw[if_neg a,if_neg a];exact OO
theorem ZG (E a:Nat) (cG:Tm) (bq aU) (l:List R5) (p q:Ps) (a6:List Int) (d:List St) (bk:List (Int×Nat×Nat)) (B:Nat->List (List Int)) (t:List Nat) (I:List Value) (av:Nat->Value) (u A) (cb bV:Int) (n:Nat) (bH:cG.ts.length=n) (bU:n<=1000) (aO:d.length<=1000) (a7:bk.length<=1000000000) (fb:Bool) (lu:List Int) (x:St) (r:List (Int×Nat×Nat)) (c1:Hd ((Bb p.bs p.c p.d q.bs q.c q.d (-2)).length<=2000000))
 (bz:Hd (BB l d cb=(fb,0))) (c6:Hd (rc cG.right cG.ts (B 0) (B 1) fb=(lu,0))) (kc:Hd (v1 cG ((d.length:Int)+1) cb bV p a6 lu fb=(some x,q,0))) (bG:Hd (Bb p.bs p.c p.d q.bs q.c q.d (-2)=r)) (w) (aD:h7 w bq cG.ts) (bF:h4 w aU l) (h:hf E a p a6 d bk B t w I av u A) :
 Calls prog 76 #[pV a,.agg (cG.cells bq).toArray,aU,.agg #[iV cb,iV bV]] w (JS (iZ) E a q a6 (d++[x]) (bk++r) (po B n) t w):=by
 have em:=lh (An bH (An bU (An aO a7)));obtain⟨ay,ts,al,an,az,ar,ax⟩:=cG;obtain⟨T,P,rfl⟩:=aD.shape;have bO:=lh aD;have cX:=lh bF;have bx:=lh h;obtain⟨c3,cd,aR⟩:=h.sts.shape;obtain⟨K,c,J,cC,br,bo,cN,bi,aY⟩:∃K c J,(w.alloc (.cells #[iV ay,.slice T ts.length P,iV al,iV an,iV az,iV ar,iV ax] 24)).alloc (.cells #[iV cb,iV bV] 40)=K/\w.heap.size=c/\c+1=J/\Hd (hA K c 24 [iV ay,.slice T ts.length P,iV al,iV an,iV az,iV ar,iV ax])/\Hd (hA K J 40 [iV cb,iV bV])/\Hd (BW w K) :=
  ⟨_,_,_,rfl,rfl,rfl,(hA.B (hR w _ _ _ rfl) (hB bR _)),hR _ _ _ _ Is,hB (hB bR _) _⟩
 have cT:Hd (w.heap.size=c/\c+1=J):=⟨br,bo⟩;clear h aD bF bH bU aO a7;unfold Tm.cells;go_enter func76,ntmps76;go_upto_region 1 with fail;clear cC br bo;have aF:=lh (bx.B aY.o);have cm:=lh aR;have dU:K.cell? (Ad a 4)=some (.slice c3 d.length cd):=by have Z:=aF.blk.cell 4;simp only[pt,gz,gs]at Z;rw[Z,aR]
 have aO:=em.2.2.1;clear aR
 go_upto_if 25 with fail
 go_cut [9,10] (fun aQ co Q=>aQ=iV ((d.length:Int)+1)/\co=.bool fb/\Hd (BW K Q));case first =>
  cases a0:d.length with
  | zero=>have cJ:d=[]:=List.eq_nil_of_length_eq_zero a0;have bc:=bz.o;unfold BB at bc;rw[cJ]at bc;simp only[List.getLast?_nil]at bc;injection bc with bc _;subst bc;rw[a0]at dU;go_wp2_with fail;go_meet;case rel=>exact⟨by rw[a0];rfl,rfl,bR⟩
  | succ m=>have bc:=bz.o;unfold BB at bc;rw[NS a0]at bc;simp only at bc;have aS:=aF.sts;rw[cm.o]at aS;obtain⟨df,dh,D,dl,cq,⟨b6,aM,aP,dg,di,dm,dd,dc,dp⟩,cw,c'⟩:=aS.get (i:=m) om;rw[c'.o]at bc;have aJ:=lh bc;subst cq;obtain⟨dj,dn,rfl,-⟩:=cw;rw[a0]at dU;have ca:=bi.cell 0;have ke:=bi.lt;simp only[gz]at ca;clear bc aS;go_wp2_with fail;refine(XT D.tot cb D.du aU l fb aJ _ (cX.B (hB aY.o _))).mono ?_;rintro _ e ⟨rfl,ea⟩;have O:Hd (BW K e):=hJ (hB bR _) ea;clear ea;go_wp2_with fail;go_meet;case rel=>exact⟨by rw[a0];rfl,rfl,O.o⟩
 case rest =>
  obtain⟨rfl,rfl,aw⟩:=hcut;clear dU;obtain⟨X,cf⟩:∃x,x=wc:=⟨_,rfl⟩;subst cf;have aB:=lh (aF.B aw.o);have a5:Hd (BW w X):=hJ aY.o aw.o;have bJ:=lh (cN.B aw.o);have cy:=lh (bi.B aw.o);have bh:Hd (∀W',BW X W'->Ce W' c 0 (iV ay)/\Ce W' c 1 (.slice T ts.length P)/\Ce W' c 2 (iV al)/\Ce W' c 3 (iV an)/\Ce W' c 4 (iV az)/\Ce W' c 5 (iV ar)/\Ce W' c 6 (iV ax)/\Ce W' a 7 (av 2)/\Ce W' a 8 (av 3)):=fun W' au=>by have Z:=bJ.B au;have ag:=aB.blk.B au;exact⟨Z.cell 0,Z.cell 1,Z.cell 2,Z.cell 3,Z.cell 4,Z.cell 5,Z.cell 6,ag.cell 7,ag.cell 8⟩
  have bt:=bh.o X bR;have g:=bh.o X.drew (hG bR);go_upto_region 9 with fail;go_region_held3 (fun W'=>Ce W' c 0 (iV ay)/\Ce W' c 1 (.slice T ts.length P)/\Ce W' c 2 (iV al)/\Ce W' c 3 (iV an)/\Ce W' c 4 (iV az)/\Ce W' c 5 (iV ar)/\Ce W' c 6 (iV ax)/\Ce W' a 7 (av 2)/\Ce W' a 8 (av 3)) (first | with_reducible exact bt | with_reducible exact g | exact c2.o) (first | (go_at_call 127;refine(W2 _ ts ay al an az ar ax _ _ (B 0) (B 1) fb lu c6 _ (bO.o.B (by first | exact a5.o | exact hG a5.o)) (aB.o.rws (j:=0) Iv |>.B HS) (aB.o.rws (j:=1) Iv |>.B HS)).mono ?_;rintro _ e ⟨qV,rfl,bT,ea⟩;have O:Hd (BW X e):=MR;have cA:=lh bT;have c2:=lh (bh.o _ O.o);clear bT ea));clear bt g;have bA:Hd (BW w e):=hJ a5.o O.o;have a':=lh (aB.B O.o);have b0:=lh (bJ.B O.o);have cx:=lh (cy.B O.o);have mK:Hd (∀W',BW e W'->Ce W' c 0 (iV ay)/\Ce W' c 1 (.slice T ts.length P)/\Ce W' c 2 (iV al)/\Ce W' c 3 (iV an)/\Ce W' c 4 (iV az)/\Ce W' c 5 (iV ar)/\Ce W' c 6 (iV ax)/\(Ce W' a 0 u/\Ce W' a 1 (iV p.c)/\Ce W' a 2 (iV p.d))/\Ce W' a 3 A/\Ce W' J 0 (iV cb)/\Ce W' J 1 (iV bV)):=fun W' au=>by have Z:=b0.B au;have ag:=a'.blk.B au;have bK:=cx.B au;exact⟨Z.cell 0,Z.cell 1,Z.cell 2,Z.cell 3,Z.cell 4,Z.cell 5,Z.cell 6,⟨ag.cell 0,ag.cell 1,ag.cell 2⟩,ag.cell 3,bK.cell 0,bK.cell 1⟩
  have mQ:Hd (∀W',BW e W'->h7 W' (.slice T ts.length P) ts/\Sl .i64 W' u p.bs/\Sl .i64 W' A a6/\Sl .i64 W' qV lu):=fun W' au=>by have k:=a'.rd.now;exact⟨(bO.B bA.o).B au,k.1.B au,k.2.1.B au,cA.B au⟩
  go_upto_region 12 with fail;have g:=mK.o e.drew (hG bR);have ct:=mK.o e bR;go_cut [15,16,17] (fun cu cO aQ Q=>∃b8 dH lv' ge,cu=iZ/\cO=pV b8/\aQ=pV dH/\(hA Q b8 43 (ycb x lv')/\hA Q dH 35 [ge,iV q.c,iV q.d]/\hz Q lv' x.ls/\Sl .i64 Q ge q.bs)/\(b8≠dH/\e.heap.size<=b8/\e.heap.size<=dH/\Fr e lv'/\Fr e ge)/\BW e Q);case first =>
   refine se (fun W'=>Ce W' c 0 (iV ay)/\Ce W' c 1 (.slice T ts.length P)/\Ce W' c 2 (iV al)/\Ce W' c 3 (iV an)/\Ce W' c 4 (iV az)/\Ce W' c 5 (iV ar)/\Ce W' c 6 (iV ax)/\(Ce W' a 0 u/\Ce W' a 1 (iV p.c)/\Ce W' a 2 (iV p.d))/\Ce W' a 3 A/\Ce W' J 0 (iV cb)/\Ce W' J 1 (iV bV)) 20 kr ?_;refine Kn ?_;show _;refine tK 9 rfl ?_;refine tK 10 rfl ?_;refine tK 11 rfl ?_;refine tK 12 rfl ?_;have aJ:Hd (RG e.heap.size e none none none x.ls q.bs e.drew):=RG.start rfl _ _;obtain⟨dL,eY⟩:=xg e.drew;rw[eY]at aJ;with_reducible rw[eY]
   clear eY;refine BZ (rs:=[13,18,19]) kr Is ?_;refine(k0.cons (o:=⟨_,_,_,_,_,_⟩) rfl (fun a4 ac=>?_) (k0.cons (o:=⟨_,_,_,_,_,_⟩) rfl (fun a4 ac=>?_) (k0.cons (o:=⟨_,_,_,_,_,_⟩) rfl (fun a4 ac=>?_) k0.nil)))
   ·refine Ow ?_;intro dL lv' ge et ed db bZ aJ;obtain⟨cY,cZ,rfl⟩:=et.shape;obtain⟨dQ,dR,rfl⟩:=ed.shape;refine Ik ?_;clear et ed db bZ ac a4;show _;refine BZ (rs:=[18,19]) kr Is ?_;refine(k0.cons (o:=⟨_,_,_,_,_,_⟩) rfl (fun a4 ac=>?_) (k0.cons (o:=⟨_,_,_,_,_,_⟩) rfl (fun a4 ac=>?_) k0.nil));·refine QP ?_;clear ac a4;intro b8 au iY eK aJ;refine Pt ?_;clear au eK;intro dL eY;subst eY;exact Ji
    ·refine DY ?_;clear ac a4;intro dH au iY eK aJ;refine Pt ?_;clear au eK;intro dL eY;subst eY;exact I3
   ·refine QP ?_;clear ac a4;intro b8 au iY eK aJ;refine Pt ?_;clear au eK;intro dL eY;subst eY;refine BZ (rs:=[13,19]) kr Is ?_;refine(k0.cons (o:=⟨_,_,_,_,_,_⟩) rfl (fun a4 ac=>?_) (k0.cons (o:=⟨_,_,_,_,_,_⟩) rfl (fun a4 ac=>?_) k0.nil));·refine Ow ?_;intro dL lv' ge et ed db bZ aJ;obtain⟨cY,cZ,rfl⟩:=et.shape;obtain⟨dQ,dR,rfl⟩:=ed.shape;refine Ik ?_;clear et ed db bZ ac a4;show _;exact Ji
    ·refine DY ?_;clear ac a4;intro dH au iY eK aJ;exact Sh
   ·refine DY ?_;clear ac a4;intro dH au iY eK aJ;refine Pt ?_;clear au eK;intro dL eY;subst eY;refine BZ (rs:=[13,18]) kr Is ?_;refine(k0.cons (o:=⟨_,_,_,_,_,_⟩) rfl (fun a4 ac=>?_) (k0.cons (o:=⟨_,_,_,_,_,_⟩) rfl (fun a4 ac=>?_) k0.nil));·refine Ow ?_;intro dL lv' ge et ed db bZ aJ;obtain⟨cY,cZ,rfl⟩:=et.shape;obtain⟨dQ,dR,rfl⟩:=ed.shape;refine Ik ?_;clear et ed db bZ ac a4;show _;exact I3
    ·refine QP ?_;clear ac a4;intro b8 au iY eK aJ;exact Sh
  case rest =>
   clear ct g;obtain⟨b8,dH,lv',ge,rfl,rfl,rfl,aa,fO,a9⟩:=hcut;obtain⟨cY,cZ,rfl⟩:=aa.2.2.1.shape;obtain⟨dQ,dR,rfl⟩:=aa.2.2.2.shape;have V:=lh aa;have cV:Hd (BW X wc):=hJ O.o a9;have c5:Hd (BW w X):=a5.o;have C:=lh (a'.B a9);have cj:=lh (b0.B a9);have a2:∀D∈t,D<w.heap.size:=fun D aT=>(bx.lt D aT).2;have cv:=bA.size;have aG:∀b,e.heap.size<=b->b∉t:=fun b au a0=>oo (a2 b a0);have b2:Hd (b8∉t):=aG b8 fO.2.1;have aW:Hd (dH∉t):=aG dH fO.2.2.1;have cz:Hd (∀i,dH∉(av i).ownBlock.toList):=fun i a0=>aW.o (C.its.inF i dH QR);have cl:Hd (c∉t):=fun a0=>o2 (a2 c a0) cT.1;have bb:∀D∈t,D<e.heap.size:=fun D aT=>oo (a2 D aT);have c8:Hd (Rd t wc (fun W=>hz W (.slice cY x.ls.length cZ) x.ls/\Sl .i64 W (.slice dQ q.bs.length dR) q.bs)):=(aa.2.2.1.rd (fO.2.2.2.1.off bb)).and (aa.2.2.2.rd (fO.2.2.2.2.off bb));have c7:Hd (E<=wc.heap.size):=by have Z:=C.lt a C.gF;show E<=_;omega
   clear aa fO a9 a2 bb aG cv;have bW:Hd (∀W',BW wc W'->Ce W' a 6 (av 1)/\(Ce W' a 0 u/\Ce W' a 1 (iV p.c)/\Ce W' a 2 (iV p.d))/\Ce W' dH 0 (.slice dQ q.bs.length dR)/\Ce W' dH 1 (iV q.c)/\Ce W' dH 2 (iV q.d)):=fun W' au=>by have Z:=C.blk.B au;have ag:=V.2.1.B au;exact Gg
   have g:=bW.o wc.drew (hG bR);obtain⟨aj,s,ai,ao,am⟩:=info_parts Jk;go_upto_region 15 with fail;refine se (fun W'=>Ce W' a 6 (av 1)/\(Ce W' a 0 u/\Ce W' a 1 (iV p.c)/\Ce W' a 2 (iV p.d))/\Ce W' dH 0 (.slice dQ q.bs.length dR)/\Ce W' dH 1 (iV q.c)/\Ce W' dH 2 (iV q.d)) 12 kr ?_;refine Kn ?_;show _;refine tK 9 rfl ?_;refine wo 10 kr rfl fun a4 ac=>?_;go_simp;refine(NH u (.slice dQ q.bs.length dR) p.bs q.bs p.c p.d q.c q.d (-2) r bG (lh (Qk kc.o)) _ (C.rd.now.1.B (hG bR)) (V.2.2.2.B (hG bR))).mono ?_;rintro _ bp ⟨cU,rfl,cE,bX⟩;have cW:=lh cE;obtain⟨cH,ch,rfl,bs⟩:=cE.form;have ce:=lh bs;have ah:Hd (BW wc bp):=hJ (hG bR) bX;have bN:=bW.o bp ah.o;clear cE bs bX;refine ac.out _ _ (fun hun=>bN) ?_;clear ac a4;try simp only[ap,aq,sa,sb,sc]
   refine wo 11 kr rfl fun a4 ac=>?_;have a7:r.length<=2000000:=by have Z:=bG.o;have ag:=c1.o;rw[<-Z];exact ag
   refine Cp rfl (.tmp 91) (.tmp 97) 50 rfl E 170 aj (.agg #[iZ,.complex .f64 0 0]) 2 24 underlying50 s ai ao am rfl Iv (av 1) bk.length (q7 bk) JF (ic (C.its.own 1) ah.o) cH r.length ch (q7 r) JF (FC r) ce.o cW.news (GT r) (by have:=em.2.2.2;unfold maxLen;omega) (oo em.2.2.2) (nt c7.o ah.size) ?_;intro R v bd bl b3;obtain⟨cD,cI,kx,rfl⟩:=Nr bd;have aA:=lh bd;have aK:=lh b3;have ae:Hd (hA v a 109 (pt p u A av)):=p7 (C.blk.B ah.o) bl (C.gOff 1);have c4:v.cell? (Ad a 6)=some (av 1):=ae.cell 6;have cP:=ae.frozen 6;have aX:Hd (hC (av 1).ownBlock.toList wc v):=hC.grown (hC.of_below ah.o) bl (fun q be=>.inl (tl.2 be));have jf:v.cell? (Ad a 6)=some (av 1)/\(v.cell? (Ad a 0)=some u/\v.cell? (Ad a 1)=some (iV p.c)/\v.cell? (Ad a 2)=some (iV p.d))/\v.cell? (Ad dH 0)=some (.slice dQ q.bs.length dR)/\v.cell? (Ad dH 1)=some (iV q.c)/\v.cell? (Ad dH 2)=some (iV q.d):=by have Z:=ae.o;have ag:=V.2.1.keep aX.o (cz.o 1);exact Gg
   clear bd bl b3 a7;refine Dr ?_;clear ac a4;show _;refine wS 12 rfl ?_;refine wS 13 rfl ?_;refine wS 14 rfl ?_;refine r4 kr ?_ _;clear bN jf g c4 cP s ai ao am aj;obtain⟨R,bB⟩:∃M,M=Value.slice cD cI kx:=⟨_,rfl⟩;rw[<-bB]at aA aK ⊢;clear bB;obtain⟨aE,bm⟩:=xg (v6 av 1 R);obtain⟨a3,bC⟩:=xg (R.ownBlock.toList++t);obtain⟨H,b7,y,Y⟩:∃G,v.setCell (Ad a 6) R=G/\Hd (hf E a p a6 d (bk++r) B a3 G I aE u A)/\Hd (hT t wc a3 G):=by
    have F:aE 1=R:=by rw[<-bm];exact E1 _ _ _
    have z:∀i,i≠1->aE i=av i:=fun i s=>by rw[<-bm];exact B5 _ _ s
    have h:=C.turn (p':=p) (rs':=a6) (out':=d) (bk':=bk++r) (T':=B) (vs':=I) (vf':=aE) (pv':=u) (rv':=A) 1 (W':=v.setCell (Ad a 6) R)
     ((aX.mono (fun x aH=>mo _ aH)).sg _)
     (by
      have Z:=ae.set 6 R;unfold pt at Z ⊢;rw[z 0 Iv,z 4 Iv,F,z 2 Iv,z 3 Iv]
      exact Z)
     (by
      unfold i1;rw[if_neg Iv,if_pos rfl,F];simp only[la,Em]
      exact t1 aA.o (hh aA.o ae.o Iv) _)
     (by
      rw[F];rcases aK.o with S | S;·exact .inl S
      ·exact .inr ⟨_,S,ah.size⟩)
     (fun i s=>Qc z i s)
     C.rd
    rw[F,bC]at h;exact⟨_,rfl,h.1,h.2⟩
   with_reducible rw[b7]
   clear b7 bm bC aA aK ae aX;have cF:Hd (∀i,b8∉(aE i).ownBlock.toList):=fun i a0=>(Y.blk V.1 b2.o).2 (y.its.inF i b8 QR);have c9:Hd (∀i,dH∉(aE i).ownBlock.toList):=fun i a0=>(Y.blk V.2.1 aW.o).2 (y.its.inF i dH QR);have bI:Hd (hA H b8 43 [iV x.n,iV x.fr,iV x.til,iV x.du,.slice cY x.ls.length cZ,iV x.tot,iV x.cr,iV x.mn,.bool x.g]):=V.1.keep Y.keep b2.o;have bE:Hd (hA H dH 35 [.slice dQ q.bs.length dR,iV q.c,iV q.d]):=V.2.1.keep Y.keep aW.o;have bu:Hd (∀W',BW H W'->Ce W' a 4 (aE 0)/\Ce W' dH 0 (.slice dQ q.bs.length dR)/\Ce W' dH 1 (iV q.c)/\Ce W' dH 2 (iV q.d)/\Ce W' b8 0 (iV x.n)/\Ce W' b8 1 (iV x.fr)/\Ce W' b8 2 (iV x.til)/\Ce W' b8 3 (iV x.du)/\Ce W' b8 4 (.slice cY x.ls.length cZ)/\Ce W' b8 5 (iV x.tot)/\Ce W' b8 6 (iV x.cr)/\Ce W' b8 7 (iV x.mn)/\Ce W' b8 8 (.bool x.g)):=fun W' au=>by have Z:=y.blk.B au;have ag:=bE.B au;have bK:=bI.B au;exact Ja
   have g:=bu.o H.drew (hG bR);have b9:=bu.o (H.alloc (.cells #[iV x.n,iV x.fr,iV x.til,iV x.du,.slice cY x.ls.length cZ,iV x.tot,iV x.cr,iV x.mn,.bool x.g] 43)).drew (hG (hB bR _));have L:True:=trivial;obtain⟨aj,s,ai,ao,am⟩:=info_parts GX;go_upto_region 16 with fail;refine Nd (fun W'=>Ce W' a 4 (aE 0)/\Ce W' dH 0 (.slice dQ q.bs.length dR)/\Ce W' dH 1 (iV q.c)/\Ce W' dH 2 (iV q.d)/\Ce W' b8 0 (iV x.n)/\Ce W' b8 1 (iV x.fr)/\Ce W' b8 2 (iV x.til)/\Ce W' b8 3 (iV x.du)/\Ce W' b8 4 (.slice cY x.ls.length cZ)/\Ce W' b8 5 (iV x.tot)/\Ce W' b8 6 (iV x.cr)/\Ce W' b8 7 (iV x.mn)/\Ce W' b8 8 (.bool x.g)) (fun _=>True) 10 kr ?_;refine DG (i:=0) (oi:=⟨_,_,_,_,_,_⟩) (v:=?_) rfl kr kr kr kr kr (fun _ _ _ h=>h) (Or.inl ⟨by rfl,?_⟩) g L ?_;rotate_left;·(intro w hSw;(try dsimp only at hSw);go_simp;try with_reducible rfl)
   simp only[ap,aq,sa,sb,sc];refine FJ (i:=1) (oi:=⟨_,_,_,_,_,_⟩) (v:=?_) rfl kr kr kr Iv (fun _ _ _ h=>h) (Or.inl ⟨by rfl,?_⟩) (fun _=>g) L ?_;rotate_left;·(intro w hSw;(try dsimp only at hSw);go_simp;try with_reducible rfl)
   simp only[ap,aq,sa,sb,sc];refine DG (i:=2) (oi:=⟨_,_,_,_,_,_⟩) (v:=?_) rfl kr kr kr kr kr (fun _ _ _ h=>h) (Or.inl ⟨by rfl,?_⟩) g L ?_;rotate_left;·(intro w hSw;(try dsimp only at hSw);go_simp;try with_reducible rfl)
   simp only[ap,aq,sa,sb,sc];refine FJ (i:=3) (oi:=⟨_,_,_,_,_,_⟩) (v:=?_) rfl kr kr kr Iv (fun _ _ _ h=>h) (Or.inl ⟨by rfl,?_⟩) (fun _=>g) L ?_;rotate_left;·(intro w hSw;(try dsimp only at hSw);go_simp;try with_reducible rfl)
   simp only[ap,aq,sa,sb,sc];refine FJ (i:=4) (oi:=⟨_,_,_,_,_,_⟩) (v:=?_) rfl kr kr kr Iv (fun _ _ _ h=>h) (Or.inl ⟨by rfl,?_⟩) (fun _=>g) L ?_;rotate_left;·(intro w hSw;(try dsimp only at hSw);go_simp;try with_reducible rfl)
   simp only[ap,aq,sa,sb,sc];refine FJ (i:=5) (oi:=⟨_,_,_,_,_,_⟩) (v:=?_) rfl kr kr kr Iv (fun _ _ _ h=>h) (Or.inl ⟨by rfl,?_⟩) (fun _=>g) L ?_;rotate_left;·(intro w hSw;(try dsimp only at hSw);go_simp;try with_reducible rfl)
   simp only[ap,aq,sa,sb,sc];refine DG (i:=6) (oi:=⟨_,_,_,_,_,_⟩) (v:=?_) rfl kr kr kr kr kr (fun _ _ _ h=>h) (Or.inl ⟨by rfl,?_⟩) g L ?_;rotate_left;·(intro w hSw;(try dsimp only at hSw);go_simp;try with_reducible rfl)
   simp only[ap,aq,sa,sb,sc];refine BJ (i:=7) (o:=⟨_,_,_,_,_,_⟩) kr rfl (fun a4 ac=>?_);go_simp;refine ac.out _ _ (fun hun=>g) trivial ?_;clear ac a4;try simp only[ap,aq,sa,sb,sc]
   refine BJ (i:=8) (o:=⟨_,_,_,_,_,_⟩) kr rfl (fun a4 ac=>?_);go_simp;refine ac.out _ _ (fun hun=>b9) trivial ?_;clear ac a4;try simp only[ap,aq,sa,sb,sc]
   refine BJ (i:=9) (o:=⟨_,_,_,_,_,_⟩) kr rfl (fun a4 ac=>?_);refine DS rfl (.tmp 107) (.tmp 109) 61 rfl E 43 aj (.agg #[iZ,iZ,iZ,iZ,sZ,iZ,iZ,iZ,.bool false]) 9 88 underlying61 s ai ao am rfl Iv (aE 0) d.length (n1 d I) JF (ic (y.its.own 0) (hG (hB bR _))) (Ad H.heap.size 0) 1 1 [iV x.n,iV x.fr,iV x.til,iV x.du,.slice cY x.ls.length cZ,iV x.tot,iV x.cr,iV x.mn,.bool x.g] JF rfl (D3 H _ _) G8 (by have:=em.2.2.1;unfold maxLen;omega) (oo em.2.2.1) (by rw[wd,wa];have Z:=y.lt a y.gF;omega) ?_;intro da f bf aC b1;obtain⟨ab,ad,rfl⟩:=ro bf om;have b4:=lh bf;have bP:=lh b1;have af:Hd (hA f a 109 (pt p u A aE)):=p7 (y.blk.B (hG (hB bR _))) aC (y.gOff 0);have a1:Hd (hC (aE 0).ownBlock.toList H f):=hC.grown (hC.drew ((hC.refl _ _).alloc _)) aC (fun q be=>.inl (tl.2 be));have aV:f.cell? (Ad a 4)=some (aE 0)/\f.cell? (Ad dH 0)=some (.slice dQ q.bs.length dR)/\f.cell? (Ad dH 1)=some (iV q.c)/\f.cell? (Ad dH 2)=some (iV q.d)/\f.cell? (Ad b8 0)=some (iV x.n)/\f.cell? (Ad b8 1)=some (iV x.fr)/\f.cell? (Ad b8 2)=some (iV x.til)/\f.cell? (Ad b8 3)=some (iV x.du)/\f.cell? (Ad b8 4)=some (.slice cY x.ls.length cZ)/\f.cell? (Ad b8 5)=some (iV x.tot)/\f.cell? (Ad b8 6)=some (iV x.cr)/\f.cell? (Ad b8 7)=some (iV x.mn)/\f.cell? (Ad b8 8)=some (.bool x.g):=by have Z:=af.o;have ag:=bE.keep a1.o (c9.o 0);have bK:=bI.keep a1.o (cF.o 0);exact Ja
   clear bf aC b1;refine ac.out _ _ (fun hun=>aV) trivial ?_;clear ac a4;try simp only[ap,aq,sa,sb,sc]
   obtain⟨aI,aN,aL,-⟩:=af.cs [0,1,2];have dU:=aV.1;obtain⟨cR,cB,cp,cr,-⟩:=af.fs [0,1,2,4];simp only[pt,gz,gs]at aI aN aL;refine BJ (i:=10) (o:=⟨_,_,_,_,_,_⟩) kr rfl (fun a4 ac=>?_);refine SL ?_;clear ac a4;show _;refine BJ (i:=11) (o:=⟨_,_,_,_,_,_⟩) kr rfl (fun a4 ac=>?_);refine SL ?_;clear ac a4;show _;refine BJ (i:=12) (o:=⟨_,_,_,_,_,_⟩) kr rfl (fun a4 ac=>?_);refine SL ?_;clear ac a4;show _;refine BJ (i:=13) (o:=⟨_,_,_,_,_,_⟩) kr rfl (fun a4 ac=>?_);refine SL ?_;clear ac a4;show _;refine BJ (i:=14) (o:=⟨_,_,_,_,_,_⟩) kr rfl (fun a4 ac=>?_);refine SL ?_;clear ac a4;show _;refine BJ (i:=15) (o:=⟨_,_,_,_,_,_⟩) kr rfl (fun a4 ac=>?_);refine SL ?_;clear ac a4;show _;refine Ph kr ?_ _;clear g b9 aV L s ai ao am aj aI aN aL dU cR cB cp cr;have bv:n1 d I++[iV x.n,iV x.fr,iV x.til,iV x.du,.slice cY x.ls.length cZ,iV x.tot,iV x.cr,iV x.mn,.bool x.g]=n1 (d++[x]) (I++[.slice cY x.ls.length cZ]):=by rw[Fk y.rd.now.2.2.length];simp[n1,ycb]
   obtain⟨ak,bj⟩:=xg (v6 aE 0 (sL ab 0 (d.length+1) ad));obtain⟨a8,bY⟩:=xg ((Value.slice (some (Ad ab 0)) (d.length+1) ad).ownBlock.toList++a3);obtain⟨G,b5,cg,ck⟩:∃G,(((f.setCell (Ad a 0) (.slice dQ q.bs.length dR)).setCell (Ad a 1) (iV q.c)).setCell (Ad a 2) (iV q.d)).setCell (Ad a 4) (sL ab 0 (d.length+1) ad)=G/\Hd (hf E a q a6 (d++[x]) (bk++r) B a8 G (I++[.slice cY x.ls.length cZ]) ak (.slice dQ q.bs.length dR) A)/\Hd (hT a3 H a8 G):=by
    have F:ak 0=sL ab 0 (d.length+1) ad:=by rw[<-bj];exact E1 _ _ _
    have z:∀i,i≠0->ak i=aE i:=fun i s=>by rw[<-bj];exact B5 _ _ s
    have h:=y.turn (p':=q) (rs':=a6) (out':=d++[x]) (bk':=bk++r) (T':=B) (vs':=I++[.slice cY x.ls.length cZ]) (vf':=ak) (pv':=(.slice dQ q.bs.length dR)) (rv':=A) 0 (W':=(((f.setCell (Ad a 0) (.slice dQ q.bs.length dR)).setCell (Ad a 1) (iV q.c)).setCell (Ad a 2) (iV q.d)).setCell (Ad a 4) (sL ab 0 (d.length+1) ad))
     ((((((a1.mono (fun x aH=>mo _ aH)).sg _).sg _).sg _).sg _))
     (by
      have Z:=(((af.set 0 (.slice dQ q.bs.length dR)).set 1 (iV q.c)).set 2 (iV q.d)).set 4 (sL ab 0 (d.length+1) ad);unfold pt at Z ⊢;rw[z 4 Iv,z 1 Iv,F,z 2 Iv,z 3 Iv]
      exact Z)
     (by
      unfold i1;rw[if_pos rfl,F];have Z:=b4.o;rw[bv]at Z;simp only[la,List.length_singleton];have ag:=hh Z af.o Iv
      exact t1 (t1 (t1 (t1 Z ag _) ag _) ag _) ag _)
     (by
      rw[F];rcases bP.o with S | S;·exact .inl S
      ·refine .inr ⟨_,S,?_⟩;rw[wd,wa]
       exact Nat.le_succ _)
     (fun i s=>Z9 z i s)
     (((Y.rd (c8.o)).and y.rd).imp fun W k=>⟨k.1.2,k.2.2.1,k.2.2.2.append ⟨k.1.1,trivial⟩⟩)
    rw[F,bY]at h;exact⟨_,rfl,h.1,h.2⟩
   with_reducible rw[b5]
   clear b5 bj bY b4 bP af a1 bv;have bQ:Hd (hT t wc a8 G):=Y.trans ck.o;have cn:=lh (bQ.blk cj.o cl.o);have bD:=cn.1.cell 1;simp only[gz,gs]at bD;have ci:(ts.length:Int)=n:=by rw[<-em.1]
   go_wp2_with fail;refine(Os E a q a6 (d++[x]) (bk++r) B a8 _ ak (.slice dQ q.bs.length dR) A n em.2.1 _ cg.o).mono ?_;rintro _ dk ⟨rfl,cM,cQ,c0,cs,cK,bK,bw⟩;have b':=lh bK;have cc:=lh bw;clear bK bw bD ci;go_wp2_with fail;go_ret;exact⟨rfl,cM,cQ,c0,cs,cK,b'.o,(hT.B (hT.B (hT.refl _ _) c5.o) cV.o).trans (bQ.trans cc.o)⟩
theorem Pa (h:q:=by obtain rfl:pC=0:=ex.o.2.2.2.2.2 Iv;refine PU ?_;intro bQ cB;refine NO ?_;intro bF ez;go_wp2_with fail;go_ret;exact⟨rfl,ou.o⟩):q:=h
theorem Ll (h:q:=by refine PU ?_;intro bQ cB;refine NO ?_;intro bF ez;have mG:¬pC<1:=oo (ex.o.2.2.2.2.1 Iv);have AS:¬2000<pC:=oo (ex.o.2.2.2.2.1 Iv);go_wp2_with fail;go_ret;exact⟨rfl,ou.o⟩):q:=h
theorem UQ {c:Tm} (j:c.right=true) (h:c.rightE E=0):(1<=E.a/\E.a<=6)/\(E.a=2->E.c=0)/\(E.a≠2->1<=E.c/\E.c<=(c.ts.length:Int))/\(E.a=6->0<=E.d/\E.d<=10000000)/\(E.a≠6->1<=E.d/\E.d<=1000000000000000) /\
 (c.start<=E.b/\E.b<=2932896)/\(E.a=4\/E.a=5->1<=E.e/\E.e<=2000)/\(¬(E.a=4\/E.a=5)->E.e=0):=by
 unfold Tm.rightE Cg at h;unfold Tm.right at j;rw[j]at h;rw[if_neg (by simp)]at h;have i:¬(decide (E.a<1) || decide (6<E.a))=true:=fun b=>by rw[if_pos b]at h;cases h
 rw[if_neg i]at h;have d:¬(if E.a == 2 then E.c != 0 else decide (E.c<1) || decide ((c.ts.length:Int)<E.c))=true:=fun b=>by rw[if_pos b]at h;cases h
 rw[if_neg d]at h;have e:¬(if E.a == 6 then decide (E.d<0) || decide (10000000<E.d) else decide (E.d<1) || decide (1000000000000000<E.d))=true:=fun b=>by rw[if_pos b]at h;cases h
 rw[if_neg e]at h;have g:¬(decide (E.b<c.start) || decide (2932896<E.b))=true:=fun b=>by rw[if_pos b]at h;cases h
 rw[if_neg g]at h;have f:¬(if rt E.a then decide (E.e<1) || decide (2000<E.e) else E.e != 0)=true:=fun b=>by rw[if_pos b]at h;cases h
 clear h;simp only[Bool.or_eq_true,decide_eq_true_eq,not_or]at i g;refine⟨by omega,fun a=>?_,fun a=>?_,fun a=>?_,fun a=>?_,by omega,fun a=>?_,fun a=>?_⟩;·rw[a]at d;simpa using d
 ·have:(E.a == 2)=false:=ss a;rw[this]at d;simp at d;omega
 ·rw[a]at e;simp at e;omega
 ·have:(E.a == 6)=false:=ss a;rw[this]at e;simp at e;omega
 ·have:rt E.a=true:=by unfold rt;simpa using a
  rw[this]at f;simp at f;omega
 ·have:rt E.a=false:=by unfold rt;simpa using a
  rw[this]at f;simpa using f
theorem Y7 (h:1<=c/\c<=6):c=1\/c=2\/c=3\/c=4\/c=5\/c=6:=om
theorem jhs (O:Tm) (r) (a:R5) (i:O.right=true) (t:O.rightE a=0) (w:World) (m:h7 w r O.ts) :
 Calls prog 162 #[.agg (O.cells r).toArray,.agg #[iV a.a,iV a.b,iV a.c,iV a.d,iV a.e]] w (RetB (iZ) w):=by
 obtain⟨s,g,d,f,e,o,j,l⟩:=UQ i t;have br:=lh m;have qd:=lh i;obtain⟨bH,bC,rfl⟩:=m.shape;obtain⟨n,c,r6,qc,pC⟩:=a;simp only at s g d f e o j l;clear m i t;unfold Tm.cells;have A:¬c<O.start:=om;have x:¬2932896<c:=om;have ex:=lh (An g (An d (An f (An e (An j l)))));obtain⟨B,eH,lN,v,jJ⟩:∃b,((w.alloc (.cells #[iV O.lim,.slice bH O.ts.length bC,iV O.cyc,iV O.dued,iV O.minf,iV O.minp,iV O.start] 24)).alloc (.cells #[iV n,iV c,iV r6,iV qc,iV pC] 150))=b/\Hd (hA b w.heap.size 24 [iV O.lim,.slice bH O.ts.length bC,iV O.cyc,iV O.dued,iV O.minf,iV O.minp,iV O.start])/\Hd (hA b (w.heap.size+1) 150 [iV n,iV c,iV r6,iV qc,iV pC])/\Hd (BW w b):=⟨_,rfl,(hR w _ _ _ rfl).B (hB bR _),w3 _ _ _ _ (wa _ _),hB (hB bR _) _⟩;clear g d f e o j l;go_enter func162,ntmps162;go_upto_region 1 with fail;refine Q9 ?_;clear eH;unhygienic intros
 go_wp2_with fail;refine Qy ?_;clear aI aN aL eL dU fT g8;intro dm bT r7;have u:=lh (v.B bT);have ou:Hd (BW w dm):=hJ jJ.o bT;clear bT;obtain⟨aN,g8,-⟩:=r7.cS [1,6];obtain⟨D,y,E,z,C,-⟩:=u.cS [0,1,2,3,4];rcases Y7 s with rfl | rfl | rfl | rfl | rfl | rfl;·exact Pa
 ·obtain rfl:pC=0:=ex.o.2.2.2.2.2 Iv;obtain rfl:r6=0:=ex.o.1 rfl;refine NO ?_;intro bF ez;go_wp2_with fail;go_ret;exact⟨rfl,ou.o⟩
 ·exact Pa
 ·exact Ll
 ·exact Ll
 ·obtain rfl:pC=0:=ex.o.2.2.2.2.2 Iv;refine PU ?_;intro bQ cB;have bF:¬qc<0:=oo (ex.o.2.2.1 Iv);have ez:¬10000000<qc:=oo (ex.o.2.2.1 Iv);go_wp2_with fail;go_ret;exact⟨rfl,ou.o⟩
theorem V4 (O:Tm) (z e) (l:List R5) (y:O.right=true) (L:Hd (∀b∈l,O.rightE b=0)) (M:l.length<=2000) (w:World) (f:h7 w z O.ts) (j:h4 w e l) :
 Calls prog 117 #[.agg (O.cells z).toArray,e] w (RetB (iZ) w):=by
 have br:=lh f;have R:=lh j;have qd:=lh y;obtain⟨bH,bC,rfl⟩:=f.shape;obtain⟨V,X,rfl⟩:=j.shape;have D:=(Fl.len j).2;unfold maxLen at D;obtain⟨Q,T,_⟩:=D;refine My ?_;intro n gW bp;rw[gW]at Q M ⊢;clear f j gW y;unfold Tm.cells;obtain⟨Y,eH,lN,jJ⟩:∃o,(w.alloc (.cells #[iV O.lim,.slice bH O.ts.length bC,iV O.cyc,iV O.dued,iV O.minf,iV O.minp,iV O.start] 24))=o/\Hd (hA o w.heap.size 24 [iV O.lim,.slice bH O.ts.length bC,iV O.cyc,iV O.dued,iV O.minf,iV O.minp,iV O.start])/\Hd (BW w o):=⟨_,rfl,hR w _ _ _ rfl,hB bR _⟩;go_enter func117,ntmps117;go_upto_region 1 with fail;refine Q9 ?_;clear eH;unhygienic intros
 go_wp2_with fail;refine Qy ?_;clear aI aN aL eL dU fT g8;intro dm bT r7;have s:Hd (BW w dm):=hJ jJ.o bT;clear bT;go_wp2_with fail;go_loopg [5] n (fun r P wr=>∃k:Nat,P=iV (k:Int)/\Hd (k+r=n)/\Hd (BW dm wr));case atStart=>exact⟨0,rfl,by show _=_;omega,bR⟩
 case round =>
  obtain⟨k,rfl,bz,g⟩:=hrel;cases gk with
  | zero=>have J:¬(k:Int)<n:=oo bz.o;go_wp2_with fail;go_ret;exact⟨rfl,hJ s.o g.o⟩
  | succ r =>
   have J:(k:Int)<n:=oo bz.o;have W:(0:Int)<=(k:Int):=om;refine Gn ?_;intro jB dO;obtain⟨c,d,b,rfl,⟨E,C,t,u,H⟩,S⟩:=(R.B (hJ s.o g.o)).get jB.o;have K:Hd (O.rightE b=0):=by rw[<-S.o];refine L.o _ ?_;simp only[List.getD,List.getElem?_eq_getElem jB.o,Option.getD_some];exact List.getElem_mem _
   have G:Hd (∀a,BW wr a->Ce a w.heap.size 0 (iV O.lim)/\Ce a w.heap.size 1 (.slice bH O.ts.length bC)/\Ce a w.heap.size 2 (iV O.cyc)/\Ce a w.heap.size 3 (iV O.dued)/\Ce a w.heap.size 4 (iV O.minf)/\Ce a w.heap.size 5 (iV O.minp)/\Ce a w.heap.size 6 (iV O.start)/\Ce a c (d+k*5) (iV b.a)/\Ce a c (d+k*5+1) (iV b.b)/\Ce a c (d+k*5+2) (iV b.c)/\Ce a c (d+k*5+3) (iV b.d)/\Ce a c (d+k*5+4) (iV b.e)):=fun a A=>by have q:=(r7.B g.o).B A;have i:∀m e,wr.cell? (Ad c m)=some e->Ce a c m e:=fun m e f=>(A.cell (p:=(Ad c m)) (ht f)).trans f;exact⟨q.cell 0,q.cell 1,q.cell 2,q.cell 3,q.cell 4,q.cell 5,q.cell 6,i _ _ E,i _ _ C,i _ _ t,i _ _ u,i _ _ H⟩
   clear E C t u H;go_upto_region 6 with fail;have F:=G.o wr.drew (hG bR);go_region_held3 (fun a=>Ce a w.heap.size 0 (iV O.lim)/\Ce a w.heap.size 1 (.slice bH O.ts.length bC)/\Ce a w.heap.size 2 (iV O.cyc)/\Ce a w.heap.size 3 (iV O.dued)/\Ce a w.heap.size 4 (iV O.minf)/\Ce a w.heap.size 5 (iV O.minp)/\Ce a w.heap.size 6 (iV O.start)/\Ce a c (d+k*5) (iV b.a)/\Ce a c (d+k*5+1) (iV b.b)/\Ce a c (d+k*5+2) (iV b.c)/\Ce a c (d+k*5+3) (iV b.d)/\Ce a c (d+k*5+4) (iV b.e)) (first | with_reducible exact F | with_reducible exact v | with_reducible assumption)
    (first | (go_at_call 162;refine(jhs O (.slice bH O.ts.length bC) b qd.o K.o _ (br.B (hG (hJ s.o g.o)))).mono ?_;rintro _ x ⟨rfl,I⟩;have B:Hd (BW wr x):=hJ (hG bR) I;have v:=G.o x B.o;clear I))
   clear F;clear v;go_wp2_with fail;go_roundg r;case measure=>omega
   case rel=>exact⟨k+1,by go_num,by have:=bz.o;show _=_;omega,hJ g.o B.o⟩
theorem Ju {k:Int} (h:Bi c d f y) (b:0<=k) (a:y+k<=h2 d f):Bi (c+k) d f (y+k):= ⟨h.hy,h.hm,⟨oo h.hd,a⟩,oo h.hn⟩
theorem W9 (h:Bi c d ah f) (x:c-f+h2 d ah+1<=2932896):∃i m,Bi (c-f+h2 d ah+1) i m 1:=by
 obtain⟨l,y,r,n⟩:=h;refine Pn ?_;intro k b4 eB;have e:hk d (k+1)=hk d k+h2 d ah:=by show hk d k+h2 d _=_;rw[eB]
 rw[b4]at n;by_cases t:ah=12
 ·obtain rfl:k=11:=om;have v:=GL d;have s:hk d 12=hk d 11+h2 d ah:=e;have g:=Ev (d-1600);have j:1600+(d-1600)=d:=om;rw[j]at g;have A:d+1<=9999:=by
   by_cases o:d+1<=9999;·exact o
   ·have u:=CD (a:=8400) (b:=d-1600+1) om;have z:he 8400=2932897:=by decide
    omega
  refine⟨d+1,1,⟨by omega,by omega,⟨by omega,oo (Bq (d+1) (m:=1) om)⟩,?_⟩⟩;rw[show d+1-1600=d-1600+1 by omega,show((1:Int)-1).toNat=0 by rfl];simp only[hk];omega
 ·refine⟨d,ah+1,⟨l,by omega,⟨by omega,oo (Bq d (m:=ah+1) om)⟩,?_⟩⟩;rw[show(ah+1-1).toNat=k+1 by omega,e];omega
theorem YQ {al n:Int} (h:nc dV al=(c,0)) (v:c+1<=2932896) (t:dV<=n) (s:n<c):(AU (n+1)).2.2≠al:=by
 obtain⟨r,z,j,o,e,_⟩:=Ew h;have b:=Dm (n:=dV) ⟨j,o⟩;obtain⟨a,d,aa,i⟩:∃a d aa,AU dV=(a,d,aa):=⟨_,_,_,rfl⟩;unfold Bs at e;rw[i]at b e;simp only at b e;have p:=b.hd;have y:=Bq a b.hm;by_cases f:dV-aa+al-1<dV
 ·rw[if_pos f]at e;by_cases m:aa+(n+1-dV)<=h2 a d;·have eq:=Ju b (k:=n+1-dV) om m;exact JN
  ·obtain⟨l,x,g⟩:=W9 b om;have u:=Bq l g.hm;have eq:=Ju g (k:=n+1-(dV-aa+h2 a d+1)) om om;rw[show dV-aa+h2 a d+1+(n+1-(dV-aa+h2 a d+1))=n+1 by omega]at eq;rw[KK eq];show 1+(n+1-(dV-aa+h2 a d+1))≠al;omega
 ·rw[if_neg f]at e;have eq:=Ju b (k:=n+1-dV) om om;exact JN
theorem SU (c e b:Int) (h:Hd (nc c e=(b,0))) (m:b+1<=2932896) (w):Calls prog 120 #[iV c,iV e] w (RetB (.tuple #[iV b,iZ]) w):=by
 obtain⟨y,G,r,K,-,-⟩:=Ew h.o;have u:=(GC h.o).1;have z:Hd (∀a,c<=a->a<b->(AU (a+1)).2.2≠e):=fun a=>YQ h.o m;have E:Hd ((AU (b+1)).2.2=e):=yt3 h.o m;have B:¬e<1:=om;have D:¬28<e:=om;have A:¬c < -135140:=om;have F:¬2932896<c:=om;have g:Hd (-135140<=c/\c<=b/\b+1<=2932896):=⟨r,u,m⟩;clear y G r K u m h;go_enter func120,ntmps120;go_wp2_with fail;clear B D A F;go_loopg [6] (b-c).toNat (fun o I wr=>∃a:Int,I=iV a/\Hd (a+(o:Int)=b/\c<=a)/\Hd (BW w wr));case atStart=>exact⟨c,rfl,⟨oo g.o,by omega⟩,bR⟩
 case round =>
  obtain⟨a,rfl,d,s⟩:=hrel;have P:a<=2932896:=o2 d.o g.o;have L:¬2932896<a+1:=o2 d.o g.o;have H:wrap64 (a+1)=a+1:=wi _ ⟨o2 d.o g.o,by omega⟩;obtain⟨j,k,f,n⟩:∃j k f,AU (a+1)=(j,k,f):=⟨_,_,_,rfl⟩;have v:=lh n;have x:Hd (Bi (a+1) j k f):=by have:=Dm (n:=a+1) ⟨o2 d.o g.o,by omega⟩;rw[n]at this;exact this
  clear n;cases gk with
  | succ o =>
   have M:(f == e)=false:=by have i:=z.o a d.2 (oo d.o);rw[v.o]at i;simpa using i
   go_wp2_with fail;refine(Mc (a+1) j k f x.o _).mono ?_;rintro _ J ⟨rfl,l⟩;have p:=lh (hJ s.o l);clear l;go_wp2_with fail;go_roundg o;case measure=>omega
   case rel=>exact⟨a+1,by rw[H],⟨oo d.o,oo d.o⟩,hB p.o _⟩
  | zero =>
   have t:Hd (a=b):=by have:=d.o;show a=b;omega
   have O:(f == e)=true:=by have i:=E.o;rw[<-t.o,v.o]at i;simpa using i
   go_wp2_with fail;refine(Mc (a+1) j k f x.o _).mono ?_;rintro _ J ⟨rfl,l⟩;have p:=lh (hJ s.o l);clear l;go_wp2_with fail;go_ret2;have C:=t.o;subst C;exact⟨rfl,hB p.o _⟩
theorem XU {c d:Int} (e:Nat):∀{f:Int} {P:List (Int×Int)} {D:Bool},p6 c d e f=(P,D)->∀a,a<P.length->nc (P.getD a (0,0)).1 c=((P.getD a (0,0)).2,0):=by
 induction e with
 | zero=>intro f P D h a aA;simp only[p6,Prod.mk.injEq]at h;rw[<-h.1]at aA;cases aA
 | succ e k =>
  intro f P D h a aA;by_cases j:(nc f c).2=0
  ·obtain⟨i,b⟩:∃i,nc f c=(i,0):=⟨(nc f c).1,by rw[<-j]⟩;by_cases g:i<d/\e≠0
   ·rw[FU b g.1 g.2]at h;simp only[Prod.mk.injEq]at h;rw[<-h.1]at aA ⊢;cases a with
    | zero=>simp only[List.getD_cons_zero];exact b
    | succ a=>simp only[List.getD_cons_succ];exact k (Prod.ext rfl rfl) a MV
   ·rw[Fj b g]at h;simp only[Prod.mk.injEq]at h;rw[<-h.1]at aA ⊢;obtain rfl:a=0:=ss aA;exact b
  ·rw[Hp j]at h;simp only[Prod.mk.injEq]at h;rw[<-h.1]at aA;cases aA
structure DK (start cyc day:Int) (ps:List (Int×Int)):Prop where
 ch:C6 start day ps
 ls:∀i,i<ps.length->nc (ps.getD i (0,0)).1 cyc=((ps.getD i (0,0)).2,0)
 hi:∀i,i<ps.length->(ps.getD i (0,0)).2+1<=2932896
 len:ps.length<=300
 lo:start<=day
theorem S5 (o m i:Int) (f:List (Int×Int)) (e:Nat) (h:Hd (DK o m i f/\f.length=e)) (w):Calls prog 118 #[iV o,iV m,iV i] w (RetB (.tuple #[iV (e:Int),iZ]) w):=by
 have M:¬i<o:=oo h.o.1.lo;have z:=h.o.1.ch.pos;have E:Hd (0<e/\e<=300):=⟨h.o.2▸z,h.o.2▸h.o.1.len⟩;clear z;go_enter func118,ntmps118;go_wp2_with fail;go_loopg [8,9] e (fun g J I wr=>∃(a:Nat) (j:Int),J=iV j/\I=iV (a:Int)/\Hd (a+g=e+1/\1<=a/\a<=e/\j=(f.getD (a-1) (0,0)).1)/\Hd (BW w wr));case atStart=>exact⟨1,o,rfl,rfl,⟨by omega,by omega,oo E.o,by simpa using h.o.1.ch.first.symm⟩,bR⟩
 case round =>
  obtain⟨a,j,rfl,rfl,d,G⟩:=hrel;have B:Hd (a-1<f.length):=by have c:=d.o;have p:=h.o.2;show _<_;omega
  obtain⟨b,n⟩:=xg ((f.getD (a-1) (0,0)).2);have u:=lh n;have t:Hd (nc j m=(b,0)):=by have c:=h.o.1.ls _ B.o;rw[n,<-d.2.2.2]at c;exact c
  have A:b+1<=2932896:=by rw[<-n];exact h.o.1.hi _ B.o
  have y:-135140<=b:=by have c:=(Ew t.o).2.2.1;have p:=(GC t.o).1;omega
  have O:(a:Int)<=300:=o2 d.o E.o;have s:Hd (-135140<=b/\b+1<=2932896):=⟨y,A⟩;clear n y A;go_wp2_with fail;refine(SU j m b t s.2 _).mono ?_;rintro _ P ⟨rfl,D⟩;have l:=lh (hJ G.o D);clear D;by_cases v:a=e
  ·have F:i<=b:=by
    have c:=h.o.1.ch.last;have p:=d.o;have L:=h.o.2;rw[show f.length-1=a-1 by omega,u.o]at c;exact c.2
   subst v;by_cases r:a=1;·subst r;go_wp2_with fail;go_ret2;exact⟨rfl,l.o⟩
   ·have H:((a:Int) == 1)=false:=by simp;omega
    go_wp2_with fail;go_ret2;exact⟨rfl,l.o⟩
  ·have k:Hd (a<e):=by have:=d.o;show _<_;omega
   have F:¬i<=b:=by have c:=h.o.1.ch.early (a-1) (o3 k.o h.o.2 d.o);rw[u.o]at c;omega
   have K:wrap64 ((a:Int)+1)=(a:Int)+1:=wi _ ⟨by omega,by omega⟩;have C:wrap64 (b+1)=b+1:=wi _ ⟨oo s.o,oo s.o⟩;have x:Hd (b+1=(f.getD (a+1-1) (0,0)).1):=by
    have c:=h.o.1.ch.next (a-1) (o3 k.o h.o.2 d.o)
    have p:=d.o;rw[u.o,show a-1+1=a by omega]at c;show _=_;rw[show a+1-1=a by omega,c]
   obtain⟨g,rfl⟩:∃g,gk=g+1:=⟨gk-1,o2 d.o k.o⟩;clear v;by_cases r:a=1
   ·subst r;go_wp2_with fail;go_roundg g;case measure=>omega
    case rel=>exact⟨1+1,b+1,by rw[C],by go_num,⟨oo d.o,by omega,oo k.o,x.o⟩,l.o⟩
   ·have H:((a:Int) == 1)=false:=by simp;omega
    go_wp2_with fail;go_roundg g;case measure=>omega
    case rel=>exact⟨a+1,b+1,by rw[C],by go_num,⟨oo d.o,by omega,oo k.o,x.o⟩,l.o⟩
def jj1 (b:List (Int×Int)) (w:World) (d:Ending) (c:World):Prop:=∃a,d=.returned a/\c.ownsRow w.heap.size 40 2 a b.length (t5 b)/\BW w c
theorem UD (h:n<P.length):t5 (P.take (n+1))=t5 (P.take n)++[iV (P.getD n (0,0)).1,iV (P.getD n (0,0)).2]:=by rw[List.take_succ_eq_append_getElem h,NU];simp[t5,List.getD,h]
theorem ZR (l i p:Int) (d:List (Int×Int)) (b:Nat) (h:Hd (DK l i p d/\d.length=b)) (w:World):Calls prog 72 #[iV l,iV i,iV p] w (jj1 d w):=by
 have y:Hd (0<b/\b<=300):=⟨h.o.2▸h.o.1.ch.pos,h.o.2▸h.o.1.len⟩;obtain⟨S,aa,M,Q,T⟩:=info_parts N8;go_enter func72,ntmps72;go_wp2_with fail;refine(S5 l i p d b h _).mono ?_;rintro _ ac ⟨rfl,H⟩;have W:=lh H;clear H;go_wp2_with fail;go_loopg [9,10,11] b (fun r Z hP K wr=>∃(a:Nat) (g:Int),hP=iV g/\K=iV (a:Int)/\Hd (a+r=b/\(a<b->g=(d.getD a (0,0)).1))/\Hd (wr.ownsRow w.heap.size 40 2 Z a (t5 (d.take a)))/\Hd (BW w wr));case atStart=>exact⟨0,l,rfl,rfl,⟨by omega,fun _=>h.o.1.ch.first.symm⟩,World.ownsRow_nil _ _ _ _,W.o⟩
 case round =>
  obtain⟨a,g,rfl,rfl,m,E,C⟩:=hrel;cases gk with
  | zero=>have z:a=b:=oo m.1;have J:¬(a:Int)<b:=om;have f:=lh z;clear z;go_wp2_with fail;go_ret;have e:=E.o;have n:=f.o;rw[<-h.o.2]at n;rw[n,List.take_of_length_le (nr _)]at e;exact⟨_,rfl,e,C.o⟩
  | succ r =>
   have f:Hd (a<b):=by have:=m.1;show _<_;omega
   have J:(a:Int)<b:=oo f.o;have s:Hd (a<d.length):=by have:=f.o;have:=h.o.2;show _<_;omega
   obtain⟨c,ab⟩:=xg ((d.getD a (0,0)).2);have I:=lh ab;have B:Hd ((d.getD a (0,0)).1=g):=(m.2 f.o).symm;have x:Hd (nc g i=(c,0)):=by have e:=h.o.1.ls _ s.o;rw[ab,B.o]at e;exact e
   have t:Hd (-135140<=c/\c+1<=2932896):=by have e:=(Ew x.o).2.2.1;have n:=(GC x.o).1;have F:=h.o.1.hi _ s.o;rw[ab]at F;exact⟨by omega,F⟩
   have ad:wrap64 ((a:Int)+1)=(a:Int)+1:=wi _ ⟨by omega,o2 f.o y.o⟩;have X:wrap64 (c+1)=c+1:=wi _ ⟨oo t.o,oo t.o⟩;have L:Hd (a+1<b->c+1=(d.getD (a+1) (0,0)).1):=fun ag=>by
    have e:=h.o.1.ch.next a (oo h.o.2)
    rw[I.o]at e;exact e.symm
   clear ab;go_wp2_with fail;refine(SU g i c x t.2 _).mono ?_;rintro _ v ⟨rfl,af⟩;have o:=lh (hJ C.o af);have D:=lh (ic E.o af);have Y:Hd (w.heap.size<=v.heap.size):=o.size;clear af
   go_wp2_with (at_builtin;refine BS _ rfl (.tmp 35) (.tmp 39) 159 rfl w.heap.size 40 S (.agg #[iZ,iZ]) 2 16 underlying159 aa M Q T rfl (by decide) _ _ _ rfl (D.alloc _) (Ad v.heap.size 0) 1 1 [_,_] rfl rfl (fun j u k=>by rw[Addr.add_lit,(hR v _ _ _ rfl).cell,Nat.zero_add];exact k) (fun u k=>by simp only[mc,nn,or_false]at k;rcases k with rfl | rfl <;> rfl) (by have:=f.o;have:=y.o;unfold maxLen;omega) (o2 f.o y.o) (by rw[wa];exact Nat.le_succ_of_le Y.o) ?_;intro ae ah A G R;have V:=lh A;have P:=lh G;clear A G R)
   go_roundg r;case measure=>omega
   case rel=>refine⟨a+1,c+1,by rw[X],by go_num,⟨oo m.1,L.o⟩,?_,(hB o.o _).grown P.o (hB o.o _).size (fun q O=>(D.lt q O).1)⟩;rw[UD s.o,B.o,I.o];exact V.o
theorem Vd (a:Tm) (x v) (l:List R5) (ag:Int) (c:List (Int×Int)) (u:a.right=true) (V:Hd (∀g∈l,a.rightE g=0)) (D:l.length<=2000) (C:Hd (DK a.start a.cyc ag c)) (H:Hd (∀E,E<l.length->(l.getD E Sk).b<=ag)) (ae:ag<=2932896) (w) (r:h7 w x a.ts) (d:h4 w v l) :
 Calls prog 69 #[.agg (a.cells x).toArray,v,iV ag] w (RetB (iZ) w):=by
 have aa:=lh r;have F:=lh d;have ad:=lh u;obtain⟨m,f,rfl⟩:=r.shape;obtain⟨M,P,rfl⟩:=d.shape;have y:=(Fl.len d).2;unfold maxLen at y;obtain⟨X,af,_⟩:=y;refine My ?_;intro n gW bp;have S:=lh D;rw[gW]at X D;have am:¬ag<a.start:=oo C.o.lo;obtain⟨A,z⟩:=xg c.length;have T:Hd (DK a.start a.cyc ag c/\c.length=A):=⟨C.o,z⟩;clear r d gW u z;unfold Tm.cells;obtain⟨aj,eH,lN,j⟩:∃e,(w.alloc (.cells #[iV a.lim,.slice m a.ts.length f,iV a.cyc,iV a.dued,iV a.minf,iV a.minp,iV a.start] 24))=e/\Hd (hA e w.heap.size 24 [iV a.lim,.slice m a.ts.length f,iV a.cyc,iV a.dued,iV a.minf,iV a.minp,iV a.start])/\Hd (BW w e) :=
  ⟨_,rfl,hR w _ _ _ rfl,hB bR _⟩
 go_enter func69,ntmps69;go_upto_region 1 with fail;refine Q9 ?_;clear eH;unhygienic intros
 go_wp2_with fail;refine(V4 a (.slice m a.ts.length f) (.slice M l.length P) l ad.o V S.o _ (aa.B j.o) (F.B j.o)).mono ?_;clear aI aN aL eL dU fT g8;rintro _ ab ⟨rfl,ak⟩;have G:=lh (lN.B ak);have ac:Hd (BW w ab):=hJ j.o ak;clear ak;obtain⟨aL,g8,-⟩:=G.cS [2,6];rw[bp.o];go_wp2_with fail;refine(S5 a.start a.cyc ag c A T _).mono ?_;clear aL g8;rintro _ t ⟨rfl,s⟩;have R:=lh (G.B s);have B:Hd (BW w t):=hJ ac.o s;clear s;have g8:=R.cell 6;simp only[gz,gs]at g8;go_wp2_with fail;go_loopg [8] n (fun i W wr=>∃k:Nat,W=iV (k:Int)/\Hd (k+i=n)/\t=wr);case atStart=>exact⟨0,rfl,by show _=_;omega,rfl⟩
 case round =>
  obtain⟨k,rfl,bz,rfl⟩:=hrel;cases gk with
  | zero=>have L:¬(k:Int)<n:=oo bz.o;go_wp2_with fail;go_ret;exact⟨rfl,B.o⟩
  | succ i =>
   have L:(k:Int)<n:=oo bz.o;have ah:(0:Int)<=(k:Int):=om;refine Gn ?_;intro jB dO;obtain⟨b,o,g,rfl,⟨Q,ai,I,J,Y⟩,Z⟩:=(F.B B.o).get jB.o;have al:¬ag<g.b:=by have O:=H.o k jB.o;rw[Z.o]at O;omega
   clear Q I J Y;go_wp2_with fail;go_roundg i;case measure=>omega
   case rel=>exact⟨k+1,by go_num,by have:=bz.o;show _=_;omega,rfl⟩
theorem Px (h:q:=by go_wp2_with fail;refine wp_loop_rounds 1 ?_;rw[rounds_succ];go_wp2_with fail;go_quiet (fail);go_wp2_with fail;go_meet;exact⟨rfl,BU bR _⟩):q:=h
theorem Le (h:q:=by
 intro A4 aY jw yb _;have yc:=lh jw;have pA:Hd (BW wc aY):=Below.grown sv.o yb sv.size (fun k b4=>(uk.lt k b4).1);clear jw yb;refine ac.out _ _ (fun hun=>ce.o _ pA.o) ?_;clear ac a4;try simp only[ap,aq,sa,sb,sc]
 refine wo 10 kr rfl fun a4 ac=>?_;refine Cp rfl (.tmp 29) (.tmp 32) 53 rfl wc.heap.size 150 jn (.agg #[iZ,iZ,iZ,iZ,iZ]) 5 40 underlying53 aA iA gU er rfl Iv A4 (n+1) (k8 l++[iV x.a,iV x.b,iV x.c,iV x.d,iV x.e]) JF yc.o _ 0 _ [] JF rfl A5.o (fun _ _ a8 cU cE=>by simp at cE) (fun cU cE=>by cases cE) RD om pA.size ?_;intro A7 yd wl ye _;have A8:Hd (yd.ownsRow wc.heap.size 150 5 A7 (n+1) (k8 l++[iV x.a,iV x.b,iV x.c,iV x.d,iV x.e])):=by rw[List.append_nil]at wl;exact wl
 have yf:Hd (BW wc yd):=Below.grown pA.o ye pA.size (fun k b4=>(yc.lt k b4).1);clear wl ye;refine ac.out _ _ (fun hun=>ce.o _ yf.o) ?_;clear ac a4;try simp only[ap,aq,sa,sb,sc]
 refine wS 11 rfl ?_;refine r4 kr ?_ _;go_wp2_with fail;all_goals
  go_ret;refine⟨_,rfl,?_,cX.trans (yf.mono cX.size)⟩;rw[la,Cq,bp.o];exact B1 A8.o cX.size):q:=h
def Pr (c:List R5) (w:World) (d:Ending) (b:World):Prop:=∃a,d=.returned a/\b.ownsRow w.heap.size 150 5 a c.length (k8 c)/\BW w b
theorem VW (A) (l:List R5) (x:R5) (ae:l.length<=2000) (ad:Hd (∀u,u<l.length->(l.getD u Sk).b<=x.b)) (w:World) (o:h4 w A l) :
 Calls prog 119 #[A,.agg #[iV x.a,iV x.b,iV x.c,iV x.d,iV x.e]] w (Pr (l++[x]) w):=by
 have J:=lh o;obtain⟨g,e,rfl⟩:=o.shape;have F:=(Fl.len o).2;unfold maxLen at F;obtain⟨af,al,I⟩:=F;refine My ?_;intro n gW bp;rw[gW]at af ae ⊢;obtain⟨V,z,K,G⟩:∃d,w.alloc (.cells #[iV x.a,iV x.b,iV x.c,iV x.d,iV x.e] 150)=d/\Hd (hA d w.heap.size 150 [iV x.a,iV x.b,iV x.c,iV x.d,iV x.e])/\Hd (BW w d):=⟨_,rfl,hR w _ _ _ rfl,hB bR _⟩;have t:=lh I;clear o gW I;go_enter func119,ntmps119;go_upto_region 1 with fail;try with_reducible rw[z]
 clear z;have W:=K.cell 1
 go_upto_block 0 with fail
 go_cut [5] (fun ai T=>ai=iV (n:Int)/\Hd (BW V T));case first =>
  by_cases an:0<n
  ·have P:(0:Int)<(n:Int):=om;have aj:((n-1:Nat):Int)<(n:Int):=om;obtain⟨b,B,Y,rfl,⟨Z,ao,L,M,ag⟩,ab⟩:=(J.B G.o).get (i:=n-1) (by rw[bp.o];omega);have ak:¬x.b<Y.b:=by
    have:=ad.o (n-1) (by rw[bp.o];omega);rw[ab.o]at this;omega
   clear Z L M ag;exact Px
  ·have P:¬(0:Int)<(n:Int):=om;exact Px
 case rest =>
  obtain⟨rfl,C⟩:=hcut;clear W;have cX:Hd (BW w wc):=hJ G.o C.o;have ah:=lh (K.B C.o);have R:=lh (J.B cX.o);have ar:(n:Int)<=e:=om;have aw:(0:Int)<=(n:Int):=om;have ce:Hd (∀am,BW wc am->Ce am w.heap.size 0 (iV x.a)/\Ce am w.heap.size 1 (iV x.b)/\Ce am w.heap.size 2 (iV x.c)/\Ce am w.heap.size 3 (iV x.d)/\Ce am w.heap.size 4 (iV x.e)):=fun am Q=>by have q:=ah.B Q;exact⟨q.cell 0,q.cell 1,q.cell 2,q.cell 3,q.cell 4⟩
  obtain⟨jn,aA,iA,gU,er⟩:=info_parts GQ;have aa:=ce.o wc.drew (hG bR);go_upto_region 4 with fail;refine se (fun am=>Ce am w.heap.size 0 (iV x.a)/\Ce am w.heap.size 1 (iV x.b)/\Ce am w.heap.size 2 (iV x.c)/\Ce am w.heap.size 3 (iV x.d)/\Ce am w.heap.size 4 (iV x.e)) 11 kr ?_;refine tK 4 rfl ?_;refine tF 0 rfl ?_;refine tF 1 rfl ?_;refine tF 2 rfl ?_;refine tF 7 rfl ?_;refine tF 8 rfl ?_;refine tF 9 rfl ?_;clear aa;have y:Hd (Fl 5 n wc (.slice g n e) (k8 l)):=by have E:Fl 5 l.length wc (.slice g l.length e) (k8 l):=R.o;rw[bp.o]at E;exact E
  have H:Hd ((k8 l).length=n*5):=by rw[<-bp.o];exact DJ l
  have A5:Hd ((if e=n then g else Option.map (fun x=>x.add (n*5)) g)=none->(0:Nat)=0/\e-n=0):=by
   intro c;by_cases O:e=n;·omega
   ·rw[if_neg O]at c;cases g with
    | none=>have:=t.o rfl;omega
    | some a=>simp at c
  refine BZ (rs:=[3,5]) kr Is ?_;refine k0.cons (o:=⟨_,_,_,_,_,_⟩) rfl (fun a4 ac=>?_) (k0.cons (o:=⟨_,_,_,_,_,_⟩) rfl (fun a4 ac=>?_) k0.nil)
  ·refine Cp rfl (.const (sZ)) (.tmp 25) 53 rfl wc.heap.size 150 jn (.agg #[iZ,iZ,iZ,iZ,iZ]) 5 40 underlying53 aA iA gU er rfl (by decide) (sZ) 0 [] (by rfl) (World.ownsRow_nil _ _ _ _) g n e (k8 l) (by rfl) H.o (fun c=>by have:=t.o c;rw[bp.o]at this;exact this) ((y.B (hG bR)).news) (DU _) (by unfold maxLen;omega) om ((hG bR):BW wc _).size ?_;intro i au f j _;have r:Hd (au.ownsRow wc.heap.size 150 5 i n (k8 l)):=by rw[List.nil_append,Nat.zero_add]at f;exact f
   have m:Hd (BW wc au):=Below.grown (hG bR) j ((hG bR):BW wc _).size (fun k b4=>by cases b4);clear f j;refine ac.out _ _ (fun hun=>ce.o _ m.o) ?_;clear ac a4;try simp only[ap,aq,sa,sb,sc]
   refine wo 5 kr rfl fun a4 ac=>?_;go_simp;refine ac.out _ _ (fun hun=>ce.o _ (hB m.o _)) ?_;clear ac a4;try simp only[ap,aq,sa,sb,sc]
   obtain⟨av,D,s,uk,sv⟩:∃d,au.alloc (.cells #[iV x.a,iV x.b,iV x.c,iV x.d,iV x.e] 150)=d/\Hd (hA d au.heap.size 150 [iV x.a,iV x.b,iV x.c,iV x.d,iV x.e])/\Hd (d.ownsRow wc.heap.size 150 5 i n (k8 l))/\Hd (BW wc d):=⟨_,rfl,hR au _ _ _ rfl,ic r.o (hB bR _),hB m.o _⟩;with_reducible rw[D]
   clear D;refine wo 6 kr rfl fun a4 ac=>?_;refine Cp rfl (.tmp 26) (.tmp 28) 53 rfl wc.heap.size 150 jn (.agg #[iZ,iZ,iZ,iZ,iZ]) 5 40 underlying53 aA iA gU er rfl (by decide) i n (k8 l) (by rfl) uk.o (some (Ad au.heap.size 0)) 1 1 [iV x.a,iV x.b,iV x.c,iV x.d,iV x.e] (by rfl) rfl (fun c=>by cases c) (fun X v a8 cU cE=>by cases v;rw[Addr.add_lit,s.cell,Nat.zero_add];exact cE) (fun cU cE=>by simp only[mc,nn,or_false]at cE;rcases cE with rfl | rfl | rfl | rfl | rfl <;> rfl) (by unfold maxLen;omega) om sv.size ?_;exact Le
  ·go_simp;refine ac.out _ _ (fun hun=>ce.o _ (hG (hB bR _))) ?_;clear ac a4;try simp only[ap,aq,sa,sb,sc]
   have S:Hd (hA (wc.alloc (.cells #[iV x.a,iV x.b,iV x.c,iV x.d,iV x.e] 150)).drew wc.heap.size 150 [iV x.a,iV x.b,iV x.c,iV x.d,iV x.e]):=(hR wc _ _ _ rfl).B (hG bR);refine wo 3 kr rfl fun a4 ac=>?_;refine Cp rfl (.const (sZ)) (.tmp 25) 53 rfl wc.heap.size 150 jn (.agg #[iZ,iZ,iZ,iZ,iZ]) 5 40 underlying53 aA iA gU er rfl (by decide) (sZ) 0 [] (by rfl) (World.ownsRow_nil _ _ _ _) g n e (k8 l) (by rfl) H.o (fun c=>by have:=t.o c;rw[bp.o]at this;exact this) ((y.B (hG (hB bR _))).news) (DU _) (by unfold maxLen;omega) om ((hG (hB bR _)):BW wc _).size ?_;intro i au f j _;have r:Hd (au.ownsRow wc.heap.size 150 5 i n (k8 l)):=by rw[List.nil_append,Nat.zero_add]at f;exact f
   have m:Hd (BW wc au):=Below.grown (hG (hB bR _)) j ((hG (hB bR _)):BW wc _).size (fun k b4=>by cases b4);have s:Hd (hA au wc.heap.size 150 [iV x.a,iV x.b,iV x.c,iV x.d,iV x.e]):=p7 S.o j (by simp[Value.ownBlock]);clear f j;refine ac.out _ _ (fun hun=>ce.o _ m.o) ?_;clear ac a4;try simp only[ap,aq,sa,sb,sc]
   have uk:=r;have sv:=m;refine wo 6 kr rfl fun a4 ac=>?_;refine Cp rfl (.tmp 26) (.tmp 28) 53 rfl wc.heap.size 150 jn (.agg #[iZ,iZ,iZ,iZ,iZ]) 5 40 underlying53 aA iA gU er rfl (by decide) i n (k8 l) (by rfl) uk.o (some (Ad wc.heap.size 0)) 1 1 [iV x.a,iV x.b,iV x.c,iV x.d,iV x.e] (by rfl) rfl (fun c=>by cases c) (fun X v a8 cU cE=>by cases v;rw[Addr.add_lit,s.cell,Nat.zero_add];exact cE) (fun cU cE=>by simp only[mc,nn,or_false]at cE;rcases cE with rfl | rfl | rfl | rfl | rfl <;> rfl) (by unfold maxLen;omega) om sv.size ?_;exact Le
theorem Wj (g) (l:List R5) (E:l.length<=2000) (G:Hd (Asc l)) (w:World) (aQ:h4 w g l):Calls prog 70 #[g] w (Pr l w):=by
 have H:=lh aQ;obtain⟨M,O,rfl⟩:=aQ.shape;refine S1 ?_;intro gv ik il;refine My ?_;intro n gW bp;rw[gW]at gv E ⊢;clear aQ gW;go_enter func70,ntmps70;go_wp2_with fail;go_loopg [3,4] n (fun e y x wr=>∃k:Nat,x=iV (k:Int)/\Hd (k+e=n)/\Hd (wr.ownsRow w.heap.size 150 5 y k (k8 (l.take k)))/\Hd (BW w wr));case atStart=>exact⟨0,rfl,by show _=_;omega,World.ownsRow_nil _ _ _ _,bR⟩
 case round =>
  obtain⟨k,rfl,bz,m,b⟩:=hrel;cases gk with
  | zero=>have u:¬(k:Int)<n:=oo bz.o;go_wp2_with fail;go_ret;have c:=m.o;have a:k=l.length:=o2 bz.o bp.o;rw[a,List.take_of_length_le (nr _)]at c;exact⟨_,rfl,c,b.o⟩
  | succ e =>
   have u:(k:Int)<n:=oo bz.o;refine Gn ?_;intro jB dO;obtain⟨P,L,j,rfl,⟨K,A,B,C,J⟩,r⟩:=(H.B b.o).get jB.o;have f:Hd ((l.take k).length=k):=by show _=_;rw[List.length_take];have:=jB.o;omega
   have v:=lh (h4.of_own m.o f.o);go_wp2_with fail;refine(VW _ (l.take k) j (o2 f.o bz.o) (fun s Q=>?_) _ v.o).mono ?_;·have c:s<k:=oo f.o;have a:=G.o s k om jB.o;rw[r.o]at a;simp only[List.getD]at a ⊢;rw[List.getElem?_take_of_lt c];exact a
   clear K A B C J;rintro _ t ⟨F,rfl,d,i⟩;have I:Hd (l.take k++[j]=l.take (k+1)):=by show _=_;rw[List.take_succ_eq_append_getElem jB.o,<-r.o];simp[List.getD,jB.o]
   have z:Hd (t.ownsRow w.heap.size 150 5 F (k+1) (k8 (l.take (k+1)))):=by rw[I.o]at d;have o:=B1 d b.size;rw[show(l.take (k+1)).length=k+1 by rw[List.length_take];have:=jB.o;omega]at o;exact o
   have D:Hd (BW w t):=hJ b.o i;clear d i;go_wp2_with fail;go_roundg e;case measure=>omega
   case rel=>exact⟨k+1,by go_num,by have:=bz.o;show _=_;omega,z.o,D.o⟩
def CW (a:Ps) (c:List Int) (b:R5):List (Int×Nat×Nat):=if b.a=6 then [] else Bb a.bs a.c a.d (pc a c b).1.bs (pc a c b).1.c (pc a c b).1.d 0
def CC (b:List R5) (e:Int):Nat->Nat->Ps->List Int->List (Int×Nat×Nat)
 | 0,_,_,_=>[]
 | f+1,a,d,c=>if (b.getD a Sk).b=e then CW d c (b.getD a Sk)++CC b e f (a+1) (pc d c (b.getD a Sk)).1 (pc d c (b.getD a Sk)).2.1 else []
def Dw (d:Tm) (e:List R5) (c:List (Int×Int)) (b:Int) (a:RS):List (Int×Nat×Nat) :=
 if (c.getD a.o.length (0,0)).2=b then Bb a.p.bs a.p.c a.p.d (q6 d e c b a).1.p.bs (q6 d e c b a).1.p.c (q6 d e c b a).1.p.d (-2) else []
def Co (e:Tm) (b:List R5) (d:List (Int×Int)):Nat->Int->RS->List (Int×Nat×Nat)
 | 0,c,a=>CC b c (b.length-a.at') a.at' a.p a.rs
 | f+1,c,a=>CC b c (b.length-a.at') a.at' a.p a.rs++(Dw e b d c (m2 b c a).1++Co e b d f (c+1) (q6 e b d c (m2 b c a).1).1)
theorem JV {b:Tm} {e:RS} (h:uc b l P (n+1) c s=(e,0)):(m2 l c s).2=0/\(q6 b l P c (m2 l c s).1).2=0/\uc b l P n (c+1) (q6 b l P c (m2 l c s).1).1=(e,0):=by
 unfold uc at h;split at h;·rename_i d;rw[h]at d;exact absurd rfl d
 ·rename_i d;split at h;·rename_i a;rw[h]at a;exact absurd rfl a
  ·rename_i a;exact⟨by simpa using d,by simpa using a,h⟩
theorem Pu {a:Ps} {r:Nat×Ps×List Int} (h:w1 l c (n+1) m a x=(r.1,r.2.1,r.2.2,0)) (d:(l.getD m Sk).b=c) :
 (pc a x (l.getD m Sk)).2.2=0/\w1 l c n (m+1) (pc a x (l.getD m Sk)).1 (pc a x (l.getD m Sk)).2.1=(r.1,r.2.1,r.2.2,0):=by
 unfold w1 at h;rw[if_pos d]at h;split at h;·rename_i b;injection h with _ h;injection h with _ h;injection h with _ h;exact absurd h b
 ·rename_i b;exact⟨by simpa using b,h⟩
theorem Hy {f:Ps} {r:Nat×Ps×List Int} (h:w1 l c n m f x=(r.1,r.2.1,r.2.2,0)) (a:n=0\/(l.getD m Sk).b≠c):(m,f,x)=r/\CC l c n m f x=[]:=by
 cases n with
 | zero=>unfold w1 at h;injection h with d h;injection h with b h;injection h with e _;subst d b e;exact⟨rfl,rfl⟩
 | succ n =>
  rcases a with a | a;·cases a
  ·unfold w1 at h;rw[if_neg a]at h;injection h with d h;injection h with b h;injection h with e _;subst d b e;exact⟨rfl,by unfold CC;rw[if_neg a]⟩
theorem S8 {a:Ps} (b:(l.getD m Sk).b=c):CC l c (n+1) m a r=CW a r (l.getD m Sk)++CC l c n (m+1) (pc a r (l.getD m Sk)).1 (pc a r (l.getD m Sk)).2.1:=by rw[CC,if_pos b]
theorem Om {a:Tm} (h:(BK a l c d s).2=0):∃fb b f q,BB l s.o c=(fb,0)/\rc a.right a.ts s.X s.Y fb=(b,0)/\v1 a ((s.o.length:Int)+1) c d s.p s.rs b fb=(some f,q,0)/\(BK a l c d s).1={ s with p:=q,X:=List.replicate a.ts.length [],Y:=List.replicate a.ts.length [],o:=s.o++[f] }:=by
 unfold BK at h ⊢;obtain⟨fb,m,v⟩:=xh (BB l s.o c);rw[v]at h ⊢;simp only at h ⊢;split at h;·rename_i g;exact absurd h g
 rename_i g;rw[if_neg g];obtain⟨b,k,r⟩:=xh (rc a.right a.ts s.X s.Y fb);rw[r]at h ⊢;simp only at h ⊢;split at h;·rename_i e;exact absurd h e
 rename_i e;rw[if_neg e];have x:m=0:=ss g;have u:k=0:=ss e;subst x u;obtain⟨j,q,t,n⟩:∃j q t,v1 a ((s.o.length:Int)+1) c d s.p s.rs b fb=(j,q,t):=⟨_,_,_,rfl⟩;rw[n]at h ⊢;have i:=IB n;cases j with
 | none=>simp only at h;subst h;simp at i
 | some f=>simp at i;subst i;exact⟨fb,b,f,q,rfl,r,n,rfl⟩
def T0 (a:Nat) (b:Nat):List (List Int):=if b=2 then List.replicate a [] else []
def KY (a:Value) (b:Nat):Value:=if b=4 then a else sZ
structure t2 (lo gb bt:Nat) (t:Tm) (tv lv sv:Value) (l:List R5) (ps:List (Int×Int)) (w:World) (p:Ps) (rs:List Int) (out:List St) (bk:List (Int×Nat×Nat)) (T:Nat->List (List Int)) (F:List Nat) (wr:World) (vs:List Value) (vf:Nat->Value) (pv rv:Value):Prop where
 wk:hf lo gb p rs out bk T F wr vs vf pv rv
 rd:Rd F wr (fun W=>h4 W lv l/\h7 W tv t.ts/\Fl 2 ps.length W sv (t5 ps))
 bt:hA wr bt 24 [iV t.lim,tv,iV t.cyc,iV t.dued,iV t.minf,iV t.minp,iV t.start]/\bt∉F
 bw:BW w wr
theorem t2.step {g:Tm} {s i:Ps} {d:List St} {bk:List (Int×Nat×Nat)} {z f:Nat->List (List Int)} {wr:World} {o e:Nat->Value} {j t b c:Value}
 (h:t2 n m k g v u V l P w s r L bk z F wr C o j t) (y:hf n m i x d H f G W X e b c) (a:hT F wr G W) (B:w.heap.size=n):t2 n m k g v u V l P w i x d H f G W X e b c:=
 ⟨y,a.rd h.rd,a.blk h.bt.1 h.bt.2,h.bw.trans (a.keep.to_below h.bw.size (fun p A=>by rw[B];exact(h.wk.lt p A).1))⟩
theorem t2.B {g:Tm} {d:Ps} {bk:List (Int×Nat×Nat)} {f:Nat->List (List Int)} {wr:World} {c:Nat->Value} {b e:Value}
 (h:t2 n m k g v u V l P w d r L bk f F wr C c b e) (a:BW wr W):t2 n m k g v u V l P w d r L bk f F W C c b e:=
 ⟨h.wk.B a,h.rd.B a (fun j i=>.inl i),⟨h.bt.1.B a,h.bt.2⟩,hJ h.bw a⟩
theorem hf.put {k p':Ps} {rs':List Int} {bk:List (Int×Nat×Nat)} {i:Nat->List (List Int)} {W':World} {b:Nat->Value} {pv' rv':Value} (h:hf n m k r L bk i F W C b v u)
 (f:hC [m] W W') (p:hA W' m 109 (pt p' pv' rv' b)) (l:Rd F W (fun W=>Sl .i64 W pv' p'.bs/\Sl .i64 W rv' rs')):hf n m p' rs' L bk i F W' C b pv' rv'/\hT F W F W':=by
 have c:hT F W F W':=⟨f.mono (fun d a=>by simp only[ms]at a;exact a▸h.gF),fun _ a=>.inl a⟩;refine⟨⟨p,h.gF,fun d a=>⟨(h.lt d a).1,Nat.lt_of_lt_of_le (h.lt d a).2 f.size⟩,((c.rd l).and (c.rd h.rd)).imp fun W e=>⟨e.1.1,e.1.2,e.2.2.2⟩,h.its.off f fun o q g j=>?_⟩,c⟩;rw[ms]at j;rw[jdn]at g;exact h.gOff o (by rw[g,j])
structure RA (w5:World) (o:Option Nat) (c:Option (Value×Value)) (bs rs:List Int) (w:World):Prop where
 bel:BW w5 w
 b:∀b,o=some b->hA w b 35 MF/\w5.heap.size<=b
 c:∀u,c=some u->Sl .i64 w u.1 bs/\Sl .i64 w u.2 rs/\(∀a,o=some a->hL [a] u.1/\hL [a] u.2)/\Fr w5 u.1/\Fr w5 u.2
theorem RA.start (a:World) (c b:List Int):RA a none none c b a.drew:=⟨hG bR,fun _ h=>(by cases h),fun _ h=>(by cases h)⟩
theorem Sl.offAt (h:Sl .i64 w v r) (c:w.heap.size<=n):hL [n] v:=h.offNew fun b a=>by rw[ms]at a;omega
theorem RA.al {d:Option (Value×Value)} (h:RA W none d r x w) (k:w.heap.size=n) (f:w.alloc (.cells #[sZ,iZ,iZ] 35)=Y):RA W (some n) d r x Y:=by
 subst k f;have e:BW w (w.alloc (.cells #[sZ,iZ,iZ] 35)):=hB bR _;refine⟨hB h.bel _,fun n a=>?_,fun g j=>?_⟩;·cases a;exact⟨hR w _ _ _ rfl,h.bel.size⟩
 ·obtain⟨c,b,_,i⟩:=h.c g j;exact⟨c.B e,b.B e,fun l a=>by cases a;exact⟨c.offAt (nr _),b.offAt (nr _)⟩,i⟩
theorem RA.call {c:Option Nat} (h:RA W c none r x w) (f:Sl .i64 Y v r/\Fr w v) (e:Sl .i64 Y u x/\Fr w u) (l:BW w Y):RA W c (some (v,u)) r x Y:=by
 refine⟨hJ h.bel l,fun d a=>⟨(h.b d a).1.B l,(h.b d a).2⟩,fun m b=>?_⟩;cases b;refine⟨f.1,e.1,fun k a=>⟨f.2.off fun m b=>?_,e.2.off fun m b=>?_⟩,fun d c g j a i=>nt h.bel.size (f.2 d c g j a i),fun d c g j a i=>nt h.bel.size (e.2 d c g j a i)⟩;·rw[ms]at b;exact b▸(h.b k a).1.lt
 ·rw[ms]at b;exact b▸(h.b k a).1.lt
theorem RA.fin {q:Ps} (h:RA W (some n) (some (v,u)) q.bs r w) :
 (hA (uo w n q v) n 35 [v,iV q.c,iV q.d]/\Sl .i64 (uo w n q v) v q.bs/\Sl .i64 (uo w n q v) u r)/\(W.heap.size<=n/\Fr W v/\Fr W u)/\BW W (uo w n q v):=by
 obtain⟨e,d⟩:=h.b _ rfl;obtain⟨i,f,c,g,j⟩:=h.c _ rfl;have a:hC [n] w (uo w n q v):=by
  unfold uo;repeat (refine hC.setCell ?_ (.inl Is) _)
  exact hC.refl _ _
 exact⟨⟨((e.set 0 _).set 1 _).set 2 _,i.keep a (c n rfl).1,f.keep a (c n rfl).2⟩,⟨d,g,j⟩,h.bel.trans (a.to_below h.bel.size (fun k b=>by rw[ms]at b;exact b▸d))⟩
end Go.Proofs.YtkongpjpkpfniaaGreat

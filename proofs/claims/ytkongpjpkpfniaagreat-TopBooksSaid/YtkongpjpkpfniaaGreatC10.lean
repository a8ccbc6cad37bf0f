/- TopBooks, a part. -/
import Derived.Test.YtkongpjpkpfniaaGreatC09
set_option linter.unusedVariables false
set_option linter.unusedSimpArgs false
set_option maxRecDepth 100000
set_option maxHeartbeats 6400000
namespace Go.Proofs.YtkongpjpkpfniaaGreat
open Go.RowKit Go.Proofs.Tryz
variable {aB:Act} {J:Act->World->Prop} {D:Bool} {Q:Exit->Act->World->Prop} {c d f y z:Int} {K:IntKind} {r x:List Int} {F G:List Nat} {l:List R5} {L:List St} {C X:List Value} {g i j k m n:Nat} {p q:Prop} {E:R5} {s:RS} {e:TypeId} {V u v:Value} {W Y Z w:World}
theorem Oe (h:q:=by
 have I:q1 x=true:=by simp[q1];omega
 rw[I];go_enter func211,ntmps211;go_wp2_with fail;go_ret;exact h3.mk _ _):q:=h
theorem R7 (h:q:=by have AH:(m9 != 0)=true:=ss qs;rw[if_neg qs]at gc;have np:=gc.o;subst np;clear qs;go_wp2_with fail;refine bodyPost_ret (v:=.tuple #[.agg #[sZ,iZ,iZ],sZ,iV m9]) AW rfl ⟨_,_,rfl,⟨Sl.nil,x0⟩,⟨Sl.nil,x0⟩,k1 (k1 (k1 (k1 (k1 (k1 tN.o om) om) om) om) om) om⟩):q:=h
theorem Qa (h:q:=by subst qs;rw[if_pos rfl]at gc;have np:=gc.o;subst np;go_wp2_with fail;have kr:w.heap.size+1+1<W.heap.size:=mA.lt;refine bodyPost_ret (v:=.tuple #[.agg #[.slice fu sb.length fv,iV sc,iV qt],.slice vB a6.length qu,iZ]) AW rfl ⟨_,_,rfl,⟨kA.set33 (fun b ae n c I aK=>oo (gF.o b ae n c I aK)),fun b ae n c I aK=>oo (gF.o b ae n c I aK)⟩,⟨(Sl.of_own nB.o rfl).set33 (fun b ae n c I aK=>oo (vC.o b ae n c I aK)),fun b ae n c I aK=>oo (vC.o b ae n c I aK)⟩,k1 (k1 (k1 (k1 (k1 (k1 tN.o om) om) om) om) om) om⟩):q:=h
theorem P3 {f : Program} {a : FuncId} {c : Func} (g : f.funcs[a]? = some c) (e : (c.name == "runtime.NumGoroutine") = false) (d : c.body.isNone = false) : ∀ b w, (callFunc a b).run f w = .ok (.enter a b) w := by intro b w;simp [callFunc, go_sem, g];simp at e;simp [e];intro h;rw [h] at d;cases d
theorem WZ (b:Nat) (a:Int->Bool) (o:∀f w,(callFunc b f).run prog w=.ok (.enter b f) w) (m:∀x w,Calls prog b #[iV x] w (h3 (.bool (a x)) w)) (j) (aD:List Int) (l:Bool) (iD:Hd (aD.any a=l)) (w) (n:Sl .i64 w j aD) :
 Calls prog 231 #[j,.func (.func b) #[] #[]] w (fun z e=>∃d:Int,z=.returned (iV d)/\decide (0<=d)=l/\w=e):=by
 have y:=lh n;obtain⟨C,E,rfl,D,⟨t,_⟩,u⟩:=n;clear u;unfold maxLen at t;have r:=lh m;have s:=lh o;clear o;clear m;go_enter func231,ntmps231;go_wp2;go_loopg [8] aD.length (fun g i wr=>∃k:Nat,k+g=aD.length/\i=iV k/\w=wr/\Hd (∀a8,a8<k->a (aD.getD a8 0)=false));case atStart=>exact⟨0,by omega,rfl,rfl,fun a8 di=>absurd di om⟩
 case round =>
  obtain⟨k,B,rfl,rfl,bd⟩:=hrel;cases gk with
  | zero=>exact Ra
  | succ g =>
   refine NG ?_;intro ch bP;obtain⟨G,A,x,rfl,F,aj⟩:=y.get (i:=k) bP;go_wp2_with fail;rw[s.o,Oper.upon_enter];refine(r.o x w).mono ?_;rintro _ e ⟨rfl,rfl⟩;cases c:a x with
   | true =>
    have cK:=lh c;clear c;go_wp2_with fail;go_ret;refine⟨k,rfl,?_,rfl⟩;rw[<-iD.o];have v:aD.any a=true:=by exact Si
    rw[v];simp
   | false=>have cK:=lh c;clear c;go_wp2_with fail;exact Dc
theorem JB (a:Nat) (b:Int->Bool) (k:∀g w,(callFunc a g).run prog w=.ok (.enter a g) w) (l:∀f w,Calls prog a #[iV f] w (h3 (.bool (b f)) w)) (e) (d:List Int) (c:Bool) (i:Hd (d.any b=c)) (w) (j:Sl .i64 w e d) :
 Calls prog 210 #[e,.func (.func a) #[] #[]] w (h3 (.bool c) w):=by
 cases c;all_goals
  go_enter func210,ntmps210;go_wp2_with fail;refine(WZ a b k l e d _ i _ j).mono ?_;rintro p n ⟨m,rfl,o,rfl⟩;go_wp2_with fail;go_ret;exact h3.mk _ _
theorem M4 (x:Int) (w):Calls prog 211 #[iV x] w (h3 (.bool (q1 x)) w):=by
 by_cases a:x<0;·exact Oe
 ·by_cases b:10000000<x;·exact Oe
  ·have I:q1 x=false:=by simp[q1];omega
   rw[I];go_enter func211,ntmps211;go_wp2_with fail;go_ret;exact h3.mk _ _
theorem PK:∀a w,(callFunc 211 a).run prog w=.ok (.enter 211 a) w:=P3 func211 kr kr
theorem Pd {a s:Int} (h:w4 ⟨r,c,d⟩ x ⟨f,y,z,a,s⟩=D) :
 (hW r c d=false/\D=false)\/(hW r c d=true/\x.length≠r.length/\D=false)\/(hW r c d=true/\x.length=r.length/\x.any q1=true/\D=false) \/
 (hW r c d=true/\x.length=r.length/\x.any q1=false/\((f<1/\D=false)\/(6<f/\D=false)\/(f=2/\D=true)\/(1<=f/\f<=6/\f≠2/\z<1/\D=false)\/(1<=f/\f<=6/\f≠2/\1<=z/\(x.length:Int)<z/\D=false) \/
  (1<=f/\f<=5/\f≠2/\1<=z/\z<=(x.length:Int)/\D=true)\/(f=6/\1<=z/\z<=(x.length:Int)/\a<0/\D=false)\/(f=6/\1<=z/\z<=(x.length:Int)/\10000000<a/\D=false)\/(f=6/\1<=z/\z<=(x.length:Int)/\0<=a/\a<=10000000/\D=true))):=by
 unfold w4 at h;simp only at h;cases i:hW r c d with
 | false=>rw[i]at h;exact .inl ⟨rfl,by rw[<-h];rfl⟩
 | true =>
  refine .inr ?_;by_cases b:x.length=r.length
  ·refine .inr ?_;cases j:x.any q1 with
   | true=>exact .inl ⟨rfl,b,rfl,by rw[<-h,j];simp⟩
   | false =>
    refine .inr ⟨rfl,b,rfl,?_⟩;rw[i,j]at h;simp only[b,beq_self_eq_true,Bool.true_and,Bool.not_false]at h ⊢;by_cases k:f<1;·exact .inl ⟨k,by rw[<-h];simp;omega⟩
    ·by_cases o:6<f;·exact .inr (.inl ⟨o,by rw[<-h];simp;omega⟩)
     ·by_cases e:f=2;·exact .inr (.inr (.inl ⟨e,by rw[<-h,e];simp⟩))
      ·by_cases p:z<1;·exact .inr (.inr (.inr (.inl ⟨by omega,by omega,e,p,by rw[<-h];simp;omega⟩)))
       ·by_cases n:(r.length:Int)<z;·exact .inr (.inr (.inr (.inr (.inl ⟨by omega,by omega,e,by omega,n,by rw[<-h];simp;omega⟩))))
        ·by_cases g:f=6
         ·by_cases m:a<0;·exact .inr (.inr (.inr (.inr (.inr (.inr (.inl ⟨g,by omega,by omega,m,by rw[<-h];simp;omega⟩))))))
          ·by_cases l:10000000<a;·exact .inr (.inr (.inr (.inr (.inr (.inr (.inr (.inl ⟨g,by omega,by omega,l,by rw[<-h];simp;omega⟩)))))))
           ·exact .inr (.inr (.inr (.inr (.inr (.inr (.inr (.inr ⟨g,by omega,by omega,by omega,by omega,by rw[<-h];simp;omega⟩)))))))
         ·exact .inr (.inr (.inr (.inr (.inr (.inl ⟨by omega,by omega,e,by omega,by omega,by rw[<-h];simp;omega⟩)))))
  ·exact .inl ⟨rfl,b,by rw[<-h];simp[b]⟩
theorem UL (p:Ps) (u v) (c:List Int) (b:R5) (s:Bool) (r:Hd (w4 p c b=s)) (F:p.bs.length<=1000) (w) (o:Sl .i64 w u p.bs) (B:Sl .i64 w v c) :
 Calls prog 179 #[.agg #[u,iV p.c,iV p.d],v,.agg #[iV b.a,iV b.b,iV b.c,iV b.d,iV b.e]] w (RetB (.bool s) w):=by
 obtain⟨bs,dd,b2⟩:=p;obtain⟨i,y,C,n,D⟩:=b;simp only at r F o ⊢;have H:=Pd r.o;clear r;have cK:=lh o;have x:=lh B;obtain⟨m',bl,rfl,_⟩:=o;obtain⟨L,V,rfl,O,⟨E,_⟩,_⟩:=B;unfold maxLen at E;rcases H with⟨a,rfl⟩ | ⟨a,d,rfl⟩ | ⟨a,d,e,rfl⟩ | ⟨a,d,e,G⟩;·have e8:=lh a;clear a;go_enter func179,ntmps179;go_wp2_with fail;refine(Df _ bs dd b2 _ e8 om _ (cK.B bL)).mono ?_;rintro _ a7 ⟨rfl,aH⟩;have dc:=lh (hJ (hB (hB bR _) _) aH);clear aH;go_wp2_with fail;go_ret;exact⟨rfl,dc.o⟩
 ·have e8:=lh a;have t:((c.length:Int) != (bs.length:Int))=true:=by simp;omega
  clear a d;go_enter func179,ntmps179;go_wp2_with fail;refine Wc ?_;intro a7 aH dc mx;clear aH;go_wp2_with fail;go_ret;exact⟨rfl,dc.o⟩
 ·have e8:=lh a;have l:=lh e;have t:((c.length:Int) != (bs.length:Int))=false:=by simp;omega
  clear a d e;go_enter func179,ntmps179;go_wp2_with fail;refine Wc ?_;intro a7 aH dc mx;clear aH;go_wp2_with fail;refine(JB _ q1 PK M4 _ c _ l _ (x.B dc.o)).mono ?_;rintro _ J ⟨rfl,rfl⟩;go_wp2_with fail;go_ret;exact⟨rfl,dc.o⟩
 ·have e8:=lh a;have l:=lh e;have t:((c.length:Int) != (bs.length:Int))=false:=by simp;omega
  clear a d e;go_enter func179,ntmps179;go_wp2_with fail;refine Wc ?_;intro a7 aH dc mx;have I:Hd (hA a7 (w.heap.size+1) 150 [iV i,iV y,iV C,iV n,iV D]):=(hR (w.alloc _) [iV i,iV y,iV C,iV n,iV D] 150 _ Is).B aH;clear aH;go_wp2_with fail;refine(JB _ q1 PK M4 _ c _ l _ (x.B dc.o)).mono ?_;rintro _ J ⟨rfl,rfl⟩;obtain⟨K,R,T,-⟩:=I.cS [0,2,3];rcases G with⟨g,rfl⟩ | ⟨g,rfl⟩ | ⟨rfl,rfl⟩ | ⟨g,A,m,f,rfl⟩ | ⟨g,A,m,f,j,rfl⟩ | ⟨g,A,m,f,j,rfl⟩ | ⟨rfl,f,j,z,rfl⟩ | ⟨rfl,f,j,z,rfl⟩ | ⟨rfl,f,j,z,M,rfl⟩;all_goals
   try have Q:decide (n<=10000000)=false:=GK
   try have S:(i != 2)=true:=(ss m)
   try have P:(i != 6)=true:=GK
   go_wp2_with fail;go_ret;exact⟨rfl,dc.o⟩
def SV (a:Ps×List Int×Int) (w:World) (e:Ending) (c:World):Prop :=
 ∃b d,e=.returned (.tuple #[.agg #[b,iV a.1.c,iV a.1.d],d,iV a.2.2])/\(Sl .i64 c b a.1.bs/\Fr w b)/\(Sl .i64 c d a.2.1/\Fr w d)/\BW w c
theorem Sx {q:Nat} (h:w.ownsRow n e 1 (sL q 0 m k) m (r.map (Value.int .i64))) (a:Nat) (b:Int) :
 (w.setCell (Ad q a) (iV b)).ownsRow n e 1 (sL q 0 m k) m ((r.set a b).map (Value.int .i64)):=by
 obtain⟨l,c,g,d,j,f,i⟩:=B0 h;refine D7 (c.set a (iV b)) i g d (by rw[List.length_set];exact j) ?_;rw[List.take_set,f,List.map_set]
theorem Sl.set33 {l o k p:Value} (h:Sl .i64 w v r) (j:∀a c b d,v=sL a c b d->0<b->n<a/\m<a) :
 Sl .i64 ((((((w.setCell (Ad n 0) u).setCell (Ad n 1) V).setCell (Ad n 2) l).setCell (Ad m 0) o).setCell (Ad m 1) k).setCell (Ad m 2) p) v r:=by
 have e:∀a c b d,v=sL a c b d->0<b->a≠n:=fun a c b d i f=>oo (j a c b d i f);have g:∀a c b d,v=sL a c b d->0<b->a≠m:=fun a c b d i f=>oo (j a c b d i f);exact(((((h.setCell e _).setCell e _).setCell e _).setCell g _).setCell g _).setCell g _
theorem WB {e:Ps} (h:w4 e r E=true):r.length=e.bs.length/\r.any q1=false/\(E.a=1\/E.a=5\/E.a=2\/E.a=3\/E.a=4\/(E.a=6/\1<=E.c/\E.c<=(r.length:Int))):=by
 rcases Pd h with⟨_,a⟩ | ⟨_,_,a⟩ | ⟨_,_,_,a⟩ | ⟨_,g,i,f⟩;·cases a
 ·cases a
 ·cases a
 refine⟨g,i,?_⟩;rcases f with⟨_,a⟩ | ⟨_,a⟩ | ⟨d,_⟩ | ⟨_,_,_,_,a⟩ | ⟨_,_,_,_,_,a⟩ | ⟨j,b,c,_⟩ | ⟨_,_,_,_,a⟩ | ⟨_,_,_,_,a⟩ | ⟨d,b,c,_⟩;all_goals first | (cases a;done) | (right;right;right;right;right;exact⟨d,b,c⟩) | omega
theorem ZX {b:Ps} (h:w4 b r E=true) {sb:List Int} {sc:Int} (e:p0 b r E=(sb,sc,c,d)) :
 pc b r E=if d=0 then (⟨sb,sc,c⟩,CK r E,0) else (DC,[],d):=by
 unfold pc;rw[if_neg (by rw[h];simp),e];by_cases a:d=0;·rw[if_neg (ss a),if_pos a];rfl
 ·rw[if_pos a,if_neg a]
theorem QO (p:Ps) (az ax) (a6:List Int) (a:R5) (R:Ps×List Int×Int) (au:Hd (pc p a6 a=R)) (A:p.bs.length<=1000) (aD:a6.length<=1000) (w) (ar:Sl .i64 w az p.bs) (am:Sl .i64 w ax a6) :
 Calls prog 138 #[.agg #[az,iV p.c,iV p.d],ax,.agg #[iV a.a,iV a.b,iV a.c,iV a.d,iV a.e]] w (SV R w):=by
 have a7:=lh ar;have a4:=lh am;obtain⟨V,ay⟩:=xg (w4 p a6 a);have K:=lh ay;clear ay;obtain⟨a0,a5,rfl⟩:=ar.shape;obtain⟨aW,aV,rfl⟩:=am.shape;clear ar am;go_enter func138,ntmps138;go_wp2_with fail;refine(UL p _ _ a6 a V K A _ (a7.B bL) (a4.B bL)).mono ?_;rintro _ Y ⟨rfl,H⟩;have X:Hd (BW w Y):=hJ (hB (hB (hB bR _) _) _) H;have aj:Hd (hA Y w.heap.size 35 [.slice a0 p.bs.length a5,iV p.c,iV p.d]):=((hR w [.slice a0 p.bs.length a5,iV p.c,iV p.d] 35 _ rfl).B (hB (hB bR _) _)).B H;have aL:Hd (hA Y (w.heap.size+1) 150 [iV a.a,iV a.b,iV a.c,iV a.d,iV a.e]):=((hR (w.alloc _) [iV a.a,iV a.b,iV a.c,iV a.d,iV a.e] 150 _ Is).B (hB bR _)).B H;have m:Hd (hA Y (w.heap.size+1+1) 35 [sZ,iZ,iZ]):=(hR ((w.alloc _).alloc _) [sZ,iZ,iZ] 35 _ Is).B H;clear H;cases V with
 | false =>
  have I:R=(DC,[],1):=by rw[<-au.o];unfold pc;rw[if_pos K.o]
  subst I;have aR:=m.cell 0;have O:=m.frozen 0;have bg:=m.cell 1;have L:=m.frozen 1;have be:=m.cell 2;have M:=m.frozen 2;simp only[gz,gs]at aR bg be;go_wp2_with fail;refine bodyPost_ret (v:=.tuple #[.agg #[sZ,iZ,iZ],sZ,iV 1]) AW rfl ⟨_,_,rfl,⟨Sl.nil,x0⟩,⟨Sl.nil,x0⟩,k1 (k1 (k1 X.o om) om) om⟩
 | true =>
  have e:=aj.cell 0;have v:=aj.frozen 0;have l:=aj.cell 1;have F:=aj.frozen 1;have i:=aj.cell 2;have E:=aj.frozen 2;simp only[gz,gs]at e l i;go_wp2_with fail;refine(Eu _ a6 _ (a4.B X.o) aD).mono ?_;rintro _ bl ⟨aT,rfl,al,af⟩;obtain⟨vB,qu,rfl⟩:=(Sl.of_own al rfl).shape;have B:=lh al;have D:=lh af;have ah:=lh (aj.B af);clear al af e l i v F E;have e:=ah.cell 0;simp only[gz,gs]at e;go_wp2_with fail;refine(Eu _ p.bs _ (a7.B (hJ X.o D.o)) A).mono ?_;rintro _ aB ⟨a',rfl,ag,S⟩;obtain⟨y,x,rfl⟩:=(Sl.of_own ag rfl).shape;have P:=lh ag;have ai:=lh S;have aa:=lh (ah.B S);have aw:=lh ((aL.B D.o).B S);clear ag S e;have e:=aa.cell 0;have v:=aa.frozen 0;simp only[gz,gs]at e;have bh:=aw.cell 0;simp only[gz,gs]at bh;go_upto_region 5 with fail;obtain⟨W,a2,z,aO,mA,o,Q,Z,vC⟩:∃W,aB.setCell (Ad w.heap.size 0) (.slice y p.bs.length x)=W/\Hd (hA W w.heap.size 35 [.slice y p.bs.length x,iV p.c,iV p.d])/\Hd (hA W (w.heap.size+1) 150 [iV a.a,iV a.b,iV a.c,iV a.d,iV a.e])/\Hd (hA W (w.heap.size+1+1) 35 [sZ,iZ,iZ])/\Hd (W.ownsRow (w.heap.size+1+1) 2 1 (.slice vB a6.length qu) a6.length (a6.map (Value.int .i64)))/\Hd (Sl .i64 W (.slice y p.bs.length x) p.bs)/\Hd (BW w W)/\Hd (∀b ae n c,(.slice vB a6.length qu:Value)=sL b ae n c->0<n->w.heap.size+1+1<b):=by
   refine⟨_,rfl,aa.set 0 _,aw.setOther om _ _,((m.B D.o).B ai.o).setOther om _ _,?_,?_,k1 (hJ (hJ X.o D.o) ai.o) (nr _),fun b ae n c I _=>o2 (BY B.o b ae n c I) m.lt⟩;·have k:=m.lt;refine t1 (ic (E0 B.o om) ai.o) ?_ _;intro I;have:=(B.lt _ I.symm).1;omega
   ·refine(Sl.of_own P.o rfl).setCell ?_ _;intro b ae n c I _ aS;have:=BY P.o b ae n c I;have:=aa.lt;have:=ah.lt;omega
  with_reducible rw[a2]
  clear a2 e v bh;obtain⟨bh,bf,ab,-⟩:=aO.cs [0,2,3];obtain⟨e,l,i,-⟩:=z.cs [0,1,2];simp only[gz,gs]at bh bf ab e l i;obtain⟨aE,a8,ac⟩:=WB K.o;clear a8 aE;obtain⟨sb,sc,qt,m9,d⟩:∃sb sc qt m9,p0 p a6 a=(sb,sc,qt,m9):=⟨_,_,_,_,rfl⟩;have np:=au.o;rw[ZX K.o d]at np;have gc:=lh np;clear np au;by_cases cG:a.a=6
  ·have av:p0 p a6 a=(p.bs,p.c,p.d,0):=by
    unfold p0;rw[if_neg om,if_neg om,if_neg om]
   rw[d]at av;cases av;have G:CK a6 a=a6.set (a.c-1).toNat a.d:=by unfold CK;rw[if_pos cG]
   rw[G,if_pos rfl]at gc;obtain⟨ad,a1⟩:=xg (a6.set (a.c-1).toNat a.d);rw[a1]at gc;have np:=gc.o;subst np;obtain⟨k,b4⟩:∃k:Nat,a.c=(k:Int)+1:=⟨(a.c-1).toNat,by omega⟩;have aJ:k<a6.length:=om;obtain⟨q,bi,aH⟩:=ro o.o om;cases aH;have a3:(a.c-1).toNat=k:=om;rw[a3]at a1;have aF:=lh a1;obtain⟨aU,an,aA,aC,aM,aQ,aI⟩:=B0 o.o;obtain⟨bj,bc⟩:=an.some (j:=k) om;have aY:=an.frozen k;have bb:w.heap.size+1+1<q:=vC.o q 0 _ _ rfl om;refine Jb ?_;clear bh bf;unhygienic intros
   obtain⟨v,F,E,-⟩:=z.fs [0,1,2];obtain⟨aR,bg,be,-⟩:=mA.cs [0,1,2];obtain⟨O,L,M,-⟩:=mA.fs [0,1,2];simp only[gz,gs]at aR bg be;have kr:w.heap.size+1+1<W.heap.size:=mA.lt;clear a1 b4 cG ac d G a3 an aA aC aM aQ aI aJ;have aG:¬q=w.heap.size+1+1:=om;go_wp2_with fail;have aN:Sl .i64 ((((W.setCell (Ad q k) (iV a.d)).setCell (Ad (w.heap.size+1+1) 0) (.slice y p.bs.length x)).setCell (Ad (w.heap.size+1+1) 1) (iV p.c)).setCell (Ad (w.heap.size+1+1) 2) (iV p.d)) (sL q 0 a6.length qu) ad:=by
    rw[<-aF.o];have ao:∀b ae n c,(sL q 0 a6.length qu:Value)=sL b ae n c->0<n->b≠w.heap.size+1+1:=fun b ae n c I _=>by cases I;exact aG
    exact(((Sl.of_own (Sx o.o k a.d) Is).setCell ao _).setCell ao _).setCell ao _
   have T:∀b ae n c,(.slice y p.bs.length x:Value)=sL b ae n c->0<n->b≠w.heap.size+1+1/\b≠q:=fun b ae n c I _=>by have bd:=BY P.o b ae n c I;have a9:=m.B D.o;have aZ:=a9.lt;have aX:=(B.lt q rfl).2;omega
   refine bodyPost_ret (v:=.tuple #[.agg #[.slice y p.bs.length x,iV p.c,iV p.d],sL q 0 a6.length qu,iZ]) AW rfl ⟨_,_,rfl,⟨(((Q.setCell (fun b ae n c I aK=>(T b ae n c I aK).2) _).setCell (fun b ae n c I aK=>(T b ae n c I aK).1) _).setCell (fun b ae n c I aK=>(T b ae n c I aK).1) _).setCell (fun b ae n c I aK=>(T b ae n c I aK).1) _,fun b ae n c I aK=>o2 (BY P.o b ae n c I) ((B.lt q rfl).2)⟩,⟨aN,fun b ae n c I aK=>by cases I;omega⟩,k1 (k1 (k1 (k1 Z.o om) om) om) om⟩
  ·have aP:(a.a=1\/a.a=5)/\Bf p.bs p.c p.d a.c a.d=(sb,sc,qt,m9)\/a.a=2/\q3 p.bs p.c p.d a6 a.d=(sb,sc,qt,m9)\/(a.a=3\/a.a=4)/\CB p.bs p.c p.d a6 a.c a.d=(sb,sc,qt,m9):=by
    unfold p0 at d;rcases ac with h | h | h | h | h | h;·rw[if_pos (.inl h)]at d;exact .inl ⟨.inl h,d⟩
    ·rw[if_pos (.inr h)]at d;exact .inl ⟨.inr h,d⟩
    ·rw[if_neg om,if_pos h]at d;exact .inr (.inl ⟨h,d⟩)
    ·rw[if_neg om,if_neg om,if_pos (.inl h)]at d;exact .inr (.inr ⟨.inl h,d⟩)
    ·rw[if_neg om,if_neg om,if_pos (.inr h)]at d;exact .inr (.inr ⟨.inr h,d⟩)
    ·exact absurd h.1 cG
   have G:CK a6 a=a6:=by unfold CK;rw[if_neg cG]
   rw[G]at gc;clear d G cG ac;rcases aP with⟨b4,d⟩ | ⟨b4,d⟩ | ⟨b4,d⟩
   ·have C:=lh d;clear d;rcases b4 with b4 | b4;all_goals
     rw[b4]at bh;clear b4;go_wp2_with fail;refine(ykm _ p.bs p.c p.d a.c a.d _ C A _ Q.o).mono ?_;rintro _ J ⟨u,rfl,⟨g,s⟩,f⟩;simp only at g;obtain⟨fu,fv,rfl⟩:=g.shape;have kA:=lh g;have gF:=lh s;have r:=lh (z.B f);have t:=lh (mA.B f);have nB:=lh (ic o.o f);have tN:Hd (BW w J):=hJ Z.o f;clear g s f bh bf ab e l i;obtain⟨e,l,i,-⟩:=r.cs [0,1,2];obtain⟨v,F,E,-⟩:=r.fs [0,1,2];obtain⟨aR,bg,be,-⟩:=t.cs [0,1,2];obtain⟨O,L,M,-⟩:=t.fs [0,1,2];simp only[gz,gs]at e l i aR bg be;by_cases qs:m9=0;·exact Qa
     ·exact R7
   ·have C:=lh d;clear d;all_goals
     rw[b4]at bh;clear b4;go_wp2_with fail;refine(WR _ _ p.bs a6 p.c p.d a.d _ C A _ Q.o (Sl.of_own o.o rfl)).mono ?_;rintro _ J ⟨u,rfl,⟨g,s⟩,f⟩;simp only at g;obtain⟨fu,fv,rfl⟩:=g.shape;have kA:=lh g;have gF:=lh s;have r:=lh (z.B f);have t:=lh (mA.B f);have nB:=lh (ic o.o f);have tN:Hd (BW w J):=hJ Z.o f;clear g s f bh bf ab e l i;obtain⟨e,l,i,-⟩:=r.cs [0,1,2];obtain⟨v,F,E,-⟩:=r.fs [0,1,2];obtain⟨aR,bg,be,-⟩:=t.cs [0,1,2];obtain⟨O,L,M,-⟩:=t.fs [0,1,2];simp only[gz,gs]at e l i aR bg be;by_cases qs:m9=0;·exact Qa
     ·exact R7
   ·have C:=lh d;clear d;rcases b4 with b4 | b4;all_goals
     rw[b4]at bh;clear b4;go_wp2_with fail;refine(TN _ _ p.bs a6 p.c p.d a.c a.d _ C A _ Q.o (Sl.of_own o.o rfl)).mono ?_;rintro _ J ⟨u,rfl,⟨g,s⟩,f⟩;simp only at g;obtain⟨fu,fv,rfl⟩:=g.shape;have kA:=lh g;have gF:=lh s;have r:=lh (z.B f);have t:=lh (mA.B f);have nB:=lh (ic o.o f);have tN:Hd (BW w J):=hJ Z.o f;clear g s f bh bf ab e l i;obtain⟨e,l,i,-⟩:=r.cs [0,1,2];obtain⟨v,F,E,-⟩:=r.fs [0,1,2];obtain⟨aR,bg,be,-⟩:=t.cs [0,1,2];obtain⟨O,L,M,-⟩:=t.fs [0,1,2];simp only[gz,gs]at e l i aR bg be;by_cases qs:m9=0;·exact Qa
     ·exact R7
def LG (a:Nat):Value:=.func (.func 137) #[] #[pV a]
theorem Xb (d:Nat) (a i b g e j:Int) (k:b<=a) (w) (c:hA w d 3 [iV a]):Calls prog 137 #[.agg #[iV i,iV b,iV g,iV e,iV j],pV d] w (RetB (.bool false) w):=by
 have f:=c.cell 0;have m:=c.lt;simp only[gz]at f;have l:decide (a<b)=false:=by simp;omega
 clear c;go_enter func137,ntmps137;go_wp2_with fail;go_ret;exact⟨rfl,hB bR _⟩
theorem WT (d) (l:List R5) (c:Nat) (b:Int) (n:Hd (∀a∈l,a.b<=b)) (w) (aQ:h4 w d l) (e:hA w c 3 [iV b]) :
 Calls prog 176 #[d,LG c] w (RetB (iV (-1)) w):=by
 have m:=lh aQ;have i:=lh e;obtain⟨t,u,rfl⟩:=aQ.shape;refine S1 ?_;intro gv ik il;clear aQ e;unfold LG;go_enter func176,ntmps176;go_wp2_with fail;go_loopg [8] l.length (fun g f wr=>∃k:Nat,k+g=l.length/\f=iV k/\BW w wr);case atStart=>exact⟨0,by omega,rfl,bR⟩
 case round =>
  obtain⟨k,s,rfl,eW⟩:=hrel;cases gk with
  | zero=>exact SA
  | succ g =>
   have ch:(k:Int)<l.length:=om;obtain⟨y,r,a,rfl,⟨B,v,x,z,A⟩,o⟩:=(m.B eW).get (i:=k) om;have j:Hd (a.b<=b):=by rw[<-o.o];exact n.o _ (by simp[List.getD,show k<l.length by omega])
   have cX:=lh eW;clear eW;go_wp2_with fail;refine(Xb c b a.a a.b a.c a.d a.e j.o _ (i.B cX.o)).mono ?_;exact LF
theorem Xm (e) (d:List R5) (b:Nat) (a:Int) (l:Hd (∀g∈d,g.b<=a)) (w) (c:h4 w e d) (f:hA w b 3 [iV a]) :
 Calls prog 136 #[e,LG b] w (RetB (.bool false) w):=by
 have k:=lh c;have i:=lh f;obtain⟨n,o,rfl⟩:=c.shape;clear c f;go_enter func136,ntmps136;go_wp2_with fail;refine(WT _ d b a l _ k.o i.o).mono ?_;rintro _ m ⟨rfl,j⟩;go_wp2;go_ret;exact⟨rfl,j⟩
noncomputable def Bv (b:Tm) (a:Int):Int:=if a<b.start\/2932896<a then 10 else if (tt b.start b.cyc a).2≠0 then 10 else 0
structure Cl (t:Tm) (l:List R5) (today:Int):Prop where
 terms:t.right=true
 events:∀x∈l,t.rightE x=0
 late:∀x∈l,x.b<=today
 len:l.length<=2000
theorem P2 {b:Tm} (h:∀a∈l,b.rightE a=0):Fg b l=0:=by
 induction l with
 | nil=>rfl
 | cons a l d=>rw[Fg,if_neg (by rw[h a (me ..)];simp)];exact d fun c e=>h c (mo _ e)
theorem LP {a:Tm} (h:Cl a l c):D8 a l c=Bv a c:=by
 unfold D8 Bv;rw[if_neg (by rw[h.terms];simp),if_neg (by rw[P2 h.events];simp),if_neg (oo h.len)];by_cases d:c<a.start\/2932896<c;·rw[if_pos d,if_pos d]
 ·rw[if_neg d,if_neg d];by_cases b:(tt a.start a.cyc c).2≠0;·rw[if_pos b,if_pos b]
  ·rw[if_neg b,if_neg b,if_neg];have:=h.late;simp only[List.any_eq_true,decide_eq_true_eq,not_exists,not_and];intro e f;have:=h.late e f;omega
theorem Ok (n:Tm) (M P) (c:List R5) (a:Int) (v:Hd (Cl n c a)) (j:Int) (A:Hd (Bv n a=j)) (w) (C:h7 w M n.ts) (J:h4 w P c) :
 Calls prog 87 #[.agg (n.cells M).toArray,P,iV a] w (RetB (iV j) w):=by
 have K:=lh C;have Q:=lh J;obtain⟨af,T,rfl⟩:=C.shape;obtain⟨aw,a2,rfl⟩:=J.shape;clear C J;obtain⟨az,t,i,s,p,r,ar⟩:=n;unfold Tm.cells at *;simp only at K A ⊢;go_enter func87,ntmps87;go_wp2_with fail;refine(Cy _ t az i s p r ar 0 (by have:=v.terms;unfold Tm.right at this;simp only at this;show _=_;rw[if_pos this]) _ (K.B bL)).mono ?_;rintro _ k ⟨rfl,B⟩;have ae:Hd (BW w k):=hJ (hB (hB bR _) _) B;have ag:Hd (hA k w.heap.size 24 [iV az,.slice af t.length T,iV i,iV s,iV p,iV r,iV ar]):=((hR w _ _ _ rfl).B (hB bR _)).B B;have aa:Hd (hA k (w.heap.size+1) 3 [iV a]):=(hR (w.alloc _) [iV a] _ _ Is).B B;clear B;have H:Hd (c.length<=2000):=v.len;have E:=H.o;go_wp2_with fail;clear E;go_loopg [20] c.length (fun I O wr=>∃e:Nat,e+I=c.length/\O=iV e/\Hd (BW k wr));case atStart=>exact⟨0,by omega,rfl,bR⟩
 case round =>
  obtain⟨e,V,rfl,z⟩:=hrel;have F:=lh (ag.B z.o);have D:=lh (aa.B z.o);have l:=lh (hJ ae.o z.o);have ah:=lh V;have a1:=F.lt;have ax:=D.lt;cases gk with
  | succ I =>
   have Y:(e:Int)<c.length:=om;have E:=H.o;obtain⟨b,o,d,rfl,⟨a5,ay,au,a0,a4⟩,ao⟩:=(Q.B l.o).get (i:=e) om;have ab:Hd (Cg az t i s p r ar d.a d.b d.c d.d d.e=0):=by have:=v.events _ (show d∈c by rw[<-ao.o];simp[List.getD,show e<c.length by omega]);exact this
   obtain⟨W,ad,aj,ak,ac,an,S,-⟩:=F.cS [0,1,2,3,4,5,6];go_wp2_with fail;refine(HF _ t az i s p r ar d.a d.b d.c d.d d.e 0 ab _ (K.B (hB l.o _))).mono ?_;rintro _ G ⟨rfl,f⟩;have x:Hd (BW k G):=hJ (hB z.o _) f;clear f;go_wp2_with fail;go_roundg I;case measure=>omega
   case rel=>exact⟨e+1,oo ah.o,by go_num,x.o⟩
  | zero =>
   have Y:¬((e:Int)<c.length):=om;have E:¬(2000:Int)<(c.length:Int):=oo H.o;obtain⟨W,ad,aj,ak,ac,an,S,-⟩:=F.cS [0,1,2,3,4,5,6];have X:=D.cell 0;simp only[gz,gs]at X;by_cases g:a<ar\/2932896<a
   ·obtain rfl:10=j:=by rw[<-A.o];unfold Bv;rw[if_pos g]
    have al:a<ar\/(¬a<ar/\2932896<a):=om;clear g;rcases al with g | ⟨g,ai⟩;all_goals
     go_wp2_with fail;go_ret;exact⟨rfl,l.o⟩
   ·have a6:¬a<ar:=om;have ai:¬2932896<a:=om;obtain⟨R,y,m⟩:=xh (tt ar i a);have L:=lh m;by_cases u:y=0
    ·subst u;obtain rfl:0=j:=by rw[<-A.o];unfold Bv;simp only;rw[if_neg g,m];rfl
     clear m g;go_wp2_with fail;refine(ID ar i a _ L _).mono ?_;rintro _ G ⟨rfl,f⟩;have x:=lh (hJ l.o f);have Z:=lh (D.B f);clear f;go_wp2_with fail;refine(Xm _ c (w.heap.size+1) a (lh v.late) _ (Q.B x.o) Z.o).mono ?_;rintro _ a3 ⟨rfl,am⟩;go_wp2_with fail;go_ret;exact⟨rfl,hJ x.o am⟩
    ·obtain rfl:10=j:=by rw[<-A.o];unfold Bv;simp only;rw[if_neg g,m,if_pos u]
     have av:(y != 0)=true:=ss u;clear m g u;go_wp2_with fail;refine(ID ar i a _ L _).mono ?_;rintro _ G ⟨rfl,f⟩;go_wp2_with fail;go_ret;exact⟨rfl,hJ l.o f⟩
theorem JP (h:q:=by
 simp only[List.getD,List.getElem?_set];by_cases I:i=a8
 ·subst I;by_cases h:i<l.length;·simp[h]
  ·simp[h]
 ·simp[I]):q:=h
theorem n3 {b:TypeId} (h:hA W n e C) (a:hA W m b X) (c:e≠b):n≠m:=by rintro rfl;unfold hA at h a;rw[h]at a;simp only[Option.some.injEq,Obj.cells.injEq]at a;exact c a.2.1
structure BG (F:List Nat) (W:World) (lo:Nat) (v:Value) (X:List (List Int)) (b:Nat) (xs:List Value):Prop where
 val:v=sL b 0 X.length X.length
 blk:hA W b 33 xs
 len:xs.length=X.length
 rows:∀k,k<X.length->W.ownsRow lo 2 1 (xs.getD k (sZ)) (X.getD k []).length ((X.getD k []).map (Value.int .i64))
 bF:b∈F
 inF:∀k,k<X.length->∀q,(xs.getD k (sZ)).ownBlock=some q->q∈F
theorem BG.B {a:List (List Int)} (h:BG F W n v a m C) (b:BW W Y):BG F Y n v a m C:=
 ⟨h.val,h.blk.B b,h.len,fun d c=>ic (h.rows d c) b,h.bF,h.inF⟩
theorem BG.keep {f:List (List Int)} (h:BG F W n v f k C) (b:hC [m] W Y) (a:hA W m e X) (l:e≠33) (i:e≠2):BG F Y n v f k C:=
 ⟨h.val,h.blk.keep b (by simp only[ms];exact fun e=>n3 a h.blk l e.symm),h.len,fun d c=>p1 (h.rows d c) b (fun q j g=>by
  simp only[ms]at g;subst g
  exact hh (h.rows d c) a i j.symm),h.bF,h.inF⟩
def Wa (c a:List Value):Prop:=∀b d,∀q,(c.getD b (sZ)).ownBlock=some q->(a.getD d (sZ)).ownBlock≠some q
def QY (b:List Value):Prop:=∀c a,c≠a->∀q,(b.getD c (sZ)).ownBlock=some q->(b.getD a (sZ)).ownBlock≠some q
structure RV where
 tv:Value
 lv:Value
 pv:Value
 rv:Value
 xv:Value
 yv:Value
 ov:Value
 bx:Nat
 bz:Nat
 xs:List Value
 ys:List Value
 vs:List Value
def C4 (a:Tm) (d g:Value) (f:Nat) (c:Int) (l:Value) (b:Ps) (j k e i:Value):List Value :=
 [iV a.lim,d,iV a.cyc,iV a.dued,iV a.minf,iV a.minp,iV a.start,g,iV (f:Int),iV c,l,iV b.c,iV b.d,j,k,e,i,.nilFunc,.nilFunc,.nilFunc]
def Hi (f:Nat) (d:Value):Prop:=∀b e a c,d=sL b e a c->0<a->f<=b
theorem Hi.of_fr (h:Fr w v) (b:n<=w.heap.size):Hi n v:= fun c e a d f g=>nt b (h c e a d f g)
theorem Hi.nil (d b:Nat) (a:Option Addr):Hi d (.slice a 0 b):=fun f i e g c j=>by cases c;omega
def IY (a:Nat) (b:RV):Prop:=Hi a b.pv/\Hi a b.rv/\(∀c∈b.vs,Hi a c)/\hL [a-1] b.tv/\hL [a-1] b.lv
def Kp (d:Tm) (e:List R5) (c:RS) (a:RV) (b:World):Prop:=h7 b a.tv d.ts/\h4 b a.lv e/\Sl .i64 b a.pv c.p.bs/\Sl .i64 b a.rv c.rs/\h9 b c.o a.vs
structure p4 (lo g:Nat) (t:Tm) (l:List R5) (day:Int) (s:RS) (F:List Nat) (W:World) (V:RV):Prop where
 blk:hA W g 181 (C4 t V.tv V.lv s.at' day V.pv s.p V.rv V.xv V.yv V.ov)
 gF:g∈F
 lt:∀x∈F,lo<=x/\x<W.heap.size
 rd:Rd F W (Kp t l s V)
 X:BG F W lo V.xv s.X V.bx V.xs
 Y:BG F W lo V.yv s.Y V.bz V.ys
 ne:V.bx≠V.bz
 dx:QY V.xs
 dy:QY V.ys
 dxy:Wa V.xs V.ys
 o:W.ownsRow lo 43 9 V.ov s.o.length (n1 s.o V.vs)
 outF:∀q,V.ov.ownBlock=some q->q∈F
 hi:IY lo V
structure hT (F:List Nat) (W:World) (F':List Nat) (W':World):Prop where
 keep:hC F W W'
 new:∀x∈F',x∈F\/W.heap.size<=x
theorem hT.refl (a:List Nat) (b):hT a b a b:=⟨hC.refl _ _,fun _ h=>.inl h⟩
theorem hT.trans {F':List Nat} (h:hT F W F' Y) (c:hT F' Y G Z):hT F W G Z:=
 ⟨h.keep.trans c.keep h.new,fun b d=>by
  rcases c.new b d with a | a;·exact h.new b a
  ·exact .inr (nt h.keep.size a)⟩
theorem hT.B (h:hT F W G Y) (a:BW Y Z):hT F W G Z:=h.trans ⟨hC.of_below a,fun _ b=>.inl b⟩
theorem hT.rd {φ:World->Prop} (h:hT F W G Y) (a:Rd F W φ):Rd G Y φ:=a.step h.keep (fun _ b=>.inl b) h.new
theorem hT.blk (h:hT F W G Y) (a:hA W n e C) (c:n∉F):hA Y n e C/\n∉G:=
 ⟨a.keep h.keep c,fun d=>by
  rcases h.new n d with b | b;·exact c b
  ·have:=a.lt
   omega⟩
theorem p4.B {e:Tm} {f:RV} (h:p4 n m e l c s F W f) (a:BW W Y):p4 n m e l c s F Y f:=
 ⟨h.blk.B a,h.gF,fun d b=>⟨(h.lt d b).1,Nat.lt_of_lt_of_le (h.lt d b).2 a.size⟩,h.rd.B a (fun d b=>.inl b),h.X.B a,h.Y.B a,h.ne,h.dx,h.dy,h.dxy,ic h.o a,h.outF,h.hi⟩
theorem p4.store {f:Tm} {day':Int} {b:RV} (h:p4 n m f l c s F W b) (d:hC [m] W Y) {p:Ps} {rs:List Int} {pv rv:Value}
 (o:hA Y m 181 (C4 f b.tv b.lv k day' pv p rv b.xv b.yv b.ov)) (t:Rd F W (fun W=>Sl .i64 W pv p.bs/\Sl .i64 W rv rs)) (i:Hi n pv/\Hi n rv):p4 n m f l day' { s with at':=k,p:=p,rs:=rs } F Y { b with pv:=pv,rv:=rv }:=by
 have g:hT F W F Y:=⟨d.mono (fun e a=>by simp only[ms]at a;exact a▸h.gF),fun _ a=>.inl a⟩;refine⟨o,h.gF,fun e a=>⟨(h.lt e a).1,Nat.lt_of_lt_of_le (h.lt e a).2 d.size⟩,?_,h.X.keep d h.blk Iv Iv,h.Y.keep d h.blk Iv Iv,h.ne,h.dx,h.dy,h.dxy,?_,h.outF,⟨i.1,i.2,h.hi.2.2⟩⟩;·exact((g.rd h.rd).and (g.rd t)).imp fun W k=>⟨k.1.1,k.1.2.1,k.2.1,k.2.2,k.1.2.2.2.2⟩
 ·refine p1 h.o d (fun q r j=>?_);simp only[ms]at j;subst j;exact hh h.o h.blk Iv r.symm
theorem p4.rdSl {d:Tm} {a:RV} (h:p4 n m d l c s F W a):Rd F W (fun W=>Sl .i64 W a.pv s.p.bs/\Sl .i64 W a.rv s.rs):=h.rd.imp fun _ b=>⟨b.2.2.1,b.2.2.2.1⟩
theorem KN:(prog.info? 33).map (fun a=>(a.zero,a.size,a.bytes))=some (some (sZ),1,24):=by kernel_rfl
theorem Vs (a:Nat) (g:a<=1000) (w:World):(Instr.makeSlice 107 (iV (a:Int)) (iV (a:Int))).run prog w=.ok (sL w.heap.size 0 a a) (w.alloc (.cells (List.replicate a (sZ)).toArray 33)):=by
 obtain⟨b,e,c,d,er⟩:=info_parts KN;have h:=run_make (P:=prog) w 107 33 b (sZ) underlying107 e c .i64 .i64 a a om (Int.le_refl _) BE om;rw[h];have f:madeCells (sZ).cells ((a:Int).toNat*b.size)=(List.replicate a (sZ)).toArray:=by rw[d,Nat.mul_one,Int.toNat_natCast];exact Array.ext' (by rw[show(sZ).cells=#[sZ] from rfl,toList_madeCells_one])
 rw[f];simp
theorem Lh (b:Nat) (e:Tm) (k v) (o:Nat) (n:Int) (m) (p:Ps) (s x y t) (a:Nat) (u:e.ts.length=a) (z:a<=1000) (w:World) (l:hA w b 181 (C4 e k v o n m p s x y t)) (i:h7 w k e.ts) :
 Calls prog 89 #[pV b] w (fun A g=>A=.returned (.tuple #[])/\∃f j,hA g b 181 (C4 e k v o n m p s (sL f 0 a a) (sL j 0 a a) t)/\hA g f 33 (List.replicate a (sZ))/\hA g j 33 (List.replicate a (sZ))/\f≠j/\w.heap.size<=f/\w.heap.size<=j/\hC [b] w g):=by
 obtain⟨B,d,G,P,C,J,R⟩:=e;simp only at u i;subst u;obtain⟨Q,I,rfl⟩:=i.shape;have c:=lh l;unfold C4 at c;have D:=c.lt;obtain⟨L,H,K,-⟩:=c.cS [1,14,15];obtain⟨M,F,-⟩:=c.fs [14,15];have r:=i.fl.len.2;unfold maxLen at r;obtain⟨S,E,_⟩:=r;have O:=Vs d.length z;clear l i;go_enter func89,ntmps89;go_upto_region 1 with fail
 go_region
 all_goals
  go_wp2
  go_end0
  first
   | refine⟨rfl,w.heap.size,w.heap.size+1,((c.set 14 _).set 15 _).B (hG (hB (hB bR _) _)),hA.B (hR _ (List.replicate d.length (sZ)) _ _ (by simp only[World.size_setCell])) (hG (hB bR _)),hA.B (hR _ (List.replicate d.length (sZ)) _ _ (by simp only[wa,World.size_setCell])) (hG bR),by omega,nr _,by omega,?_⟩;exact((((((hC.refl [b] w).setCell (.inl Is) _).setCell (.inl Is) _).alloc _).alloc _).drew)
   | refine⟨rfl,w.heap.size+1,w.heap.size,((c.set 14 _).set 15 _).B (hG (hB (hB bR _) _)),hA.B (hR _ (List.replicate d.length (sZ)) _ _ (by simp only[wa,World.size_setCell])) (hG bR),hA.B (hR _ (List.replicate d.length (sZ)) _ _ (by simp only[World.size_setCell])) (hG (hB bR _)),by omega,by omega,nr _,?_⟩;exact((((((hC.refl [b] w).setCell (.inl Is) _).setCell (.inl Is) _).alloc _).alloc _).drew)
theorem Da (l:List Value) (i a8:Nat) (b a):(l.set i b).getD a8 a=if i=a8/\a8<l.length then b else l.getD a8 a:=by exact JP
theorem GZ (l:List (List Int)) (i a8:Nat) (a:List Int):(l.set i a).getD a8 []=if i=a8/\a8<l.length then a else l.getD a8 []:=by exact JP
theorem DZ {d:TypeId} (h:W.ownsRow n e k v j C) (l:W.ownsRow m d i u g X) (f:e≠d) {q:Nat} (c:v.ownBlock=some q) (b:u.ownBlock=some q):False:=by
 rcases h.2 with⟨rfl,_⟩ | ⟨r,s,p,rfl,_,o,_⟩;·cases c
 rcases l.2 with⟨rfl,_⟩ | ⟨x,t,y,rfl,_,a,_⟩;·cases b
 cases c;cases b;rw[o]at a;simp only[Option.some.injEq,Obj.cells.injEq]at a;exact f a.2.1
theorem BG.own_lt {b:List (List Int)} (h:BG F W n v b m C) {q:Nat} (a:(C.getD k (sZ)).ownBlock=some q):q<W.heap.size:=by
 by_cases c:k<b.length;·exact((h.rows k c).lt q a).2
 ·rw[show C.getD k (sZ)=sZ by simp[List.getD,show ¬k<C.length by rw[h.len];exact c]]at a;cases a
theorem p4.rowX {D:Tm} {j:RV} (h:p4 n m D l c s F W j) (r:k<s.X.length) {v':Value} {y:List Int}
 (ac:hC (j.bx::(j.xs.getD k (sZ)).ownBlock.toList) W Y) (I:hA Y j.bx 33 (j.xs.set k v')) (dT:Y.ownsRow n 2 1 v' y.length (y.map (Value.int .i64)))
 (b:v'.ownBlock=(j.xs.getD k (sZ)).ownBlock\/∃q,v'.ownBlock=some q/\W.heap.size<=q) :
 p4 n m D l c { s with X:=s.X.set k y } (v'.ownBlock.toList++F) Y { j with xs:=j.xs.set k v' }/\hT F W (v'.ownBlock.toList++F) Y:=by
 have J:∀x∈(j.bx::(j.xs.getD k (sZ)).ownBlock.toList),x∈F:=fun x aj=>by
  rcases mc.1 aj with rfl | aj;·exact h.X.bF
  ·exact h.X.inF k r x (tl.1 aj)
 have A:hT F W (v'.ownBlock.toList++F) Y:=⟨ac.mono J,fun x aj=>by
  rcases ma.1 aj with aj | aj
  ·have jP:=tl.1 aj;rcases b with b | ⟨z,b,u⟩;·exact .inl (h.X.inF k r x (b▸jP))
   ·rw[b]at jP;cases jP;exact .inr u
  ·exact .inl aj⟩
 have E:m∉(j.bx::(j.xs.getD k (sZ)).ownBlock.toList):=fun a=>by
  rcases mc.1 a with f | a;·exact n3 h.blk h.X.blk Iv f
  ·exact hh (h.X.rows k r) h.blk Iv (tl.1 a).symm
 refine⟨⟨h.blk.keep ac E,ma.2 (.inr h.gF),fun x aj=>?_,A.rd h.rd,?_,?_,h.ne,?_,?_,?_,?_,fun q d=>ma.2 (.inr (h.outF q d)),h.hi⟩,A⟩;·exact NI
 ·refine⟨by rw[List.length_set];exact h.X.val,I,by rw[List.length_set,List.length_set];exact h.X.len,fun e i=>?_,ma.2 (.inr h.X.bF),fun e i q d=>?_⟩
  ·rw[List.length_set]at i;rw[Da,GZ,h.X.len];by_cases f:k=e;·rw[if_pos ⟨f,i⟩,if_pos ⟨f,i⟩];exact dT
   ·rw[if_neg (fun p=>f p.1),if_neg (fun p=>f p.1)];refine p1 (h.X.rows e i) ac (fun q d a=>?_);rcases mc.1 a with G | a;·subst G;exact hh (h.X.rows e i) h.X.blk Iv d.symm
    ·exact h.dx e k (fun p=>f p.symm) q d (tl.1 a)
  ·rw[List.length_set]at i;rw[Da,h.X.len]at d;split at d;·exact ma.2 (.inl (tl.2 d))
   ·exact ma.2 (.inr (h.X.inF e i q d))
 ·refine⟨h.Y.val,h.Y.blk.keep ac (fun a=>?_),h.Y.len,fun e i=>p1 (h.Y.rows e i) ac (fun q d a=>?_),ma.2 (.inr h.Y.bF),fun e i q d=>ma.2 (.inr (h.Y.inF e i q d))⟩
  ·rcases mc.1 a with f | a;·exact h.ne f.symm
   ·exact hh (h.X.rows k r) h.Y.blk Iv (tl.1 a).symm
  ·rcases mc.1 a with f | a;·subst f;exact hh (h.Y.rows e i) h.X.blk Iv d.symm
   ·exact(fun q d a=>h.dxy k _ q a d) q d (tl.1 a)
 ·intro v e t q g o;rw[Da]at g o;split at g
  ·rename_i B;rw[if_neg (fun p=>t (B.1.symm.trans p.1))]at o;rcases b with b | ⟨z,b,u⟩;·exact h.dx k e (fun f=>t (B.1.symm.trans f)) q (b▸g) o
   ·have C:=h.X.own_lt o;rw[b]at g;cases g;omega
  ·split at o
   ·rename_i H;rcases b with b | ⟨z,b,u⟩;·exact h.dx v k (fun f=>t (f.trans H.1)) q g (b▸o)
    ·have C:=h.X.own_lt g;rw[b]at o;cases o;omega
   ·exact h.dx v e t q g o
 ·exact h.dy
 ·exact fun v e q g=>by
   rw[Da]at g;split at g
   ·rcases b with b | ⟨z,b,u⟩;·exact h.dxy k e q (b▸g)
    ·intro o;have C:=h.Y.own_lt o;rw[b]at g;cases g;omega
   ·exact h.dxy v e q g
 ·refine p1 h.o ac (fun q d a=>?_);rcases mc.1 a with f | a;·subst f;exact hh h.o h.X.blk Iv d.symm
  ·exact DZ h.o (h.X.rows k r) Iv d (tl.1 a)
theorem p4.rowY {D:Tm} {o:RV} (h:p4 n m D l c s F W o) (r:k<s.Y.length) {v':Value} {y:List Int}
 (ac:hC (o.bz::(o.ys.getD k (sZ)).ownBlock.toList) W Z) (I:hA Z o.bz 33 (o.ys.set k v')) (dT:Z.ownsRow n 2 1 v' y.length (y.map (Value.int .i64)))
 (b:v'.ownBlock=(o.ys.getD k (sZ)).ownBlock\/∃q,v'.ownBlock=some q/\W.heap.size<=q) :
 p4 n m D l c { s with Y:=s.Y.set k y } (v'.ownBlock.toList++F) Z { o with ys:=o.ys.set k v' }/\hT F W (v'.ownBlock.toList++F) Z:=by
 have J:∀x∈(o.bz::(o.ys.getD k (sZ)).ownBlock.toList),x∈F:=fun x aj=>by
  rcases mc.1 aj with rfl | aj;·exact h.Y.bF
  ·exact h.Y.inF k r x (tl.1 aj)
 have A:hT F W (v'.ownBlock.toList++F) Z:=⟨ac.mono J,fun x aj=>by
  rcases ma.1 aj with aj | aj
  ·have jP:=tl.1 aj;rcases b with b | ⟨z,b,v⟩;·exact .inl (h.Y.inF k r x (b▸jP))
   ·rw[b]at jP;cases jP;exact .inr v
  ·exact .inl aj⟩
 have E:m∉(o.bz::(o.ys.getD k (sZ)).ownBlock.toList):=fun a=>by
  rcases mc.1 a with e | a;·exact n3 h.blk h.Y.blk Iv e
  ·exact hh (h.Y.rows k r) h.blk Iv (tl.1 a).symm
 refine⟨⟨h.blk.keep ac E,ma.2 (.inr h.gF),fun x aj=>?_,A.rd h.rd,?_,?_,h.ne,?_,?_,?_,?_,fun q d=>ma.2 (.inr (h.outF q d)),h.hi⟩,A⟩;·exact NI
 ·refine⟨h.X.val,h.X.blk.keep ac (fun a=>?_),h.X.len,fun g i=>p1 (h.X.rows g i) ac (fun q d a=>?_),ma.2 (.inr h.X.bF),fun g i q d=>ma.2 (.inr (h.X.inF g i q d))⟩
  ·rcases mc.1 a with e | a;·exact h.ne e
   ·exact hh (h.Y.rows k r) h.X.blk Iv (tl.1 a).symm
  ·rcases mc.1 a with e | a;·subst e;exact hh (h.X.rows g i) h.Y.blk Iv d.symm
   ·exact(fun q d a=>h.dxy _ k q d a) q d (tl.1 a)
 ·refine⟨by rw[List.length_set];exact h.Y.val,I,by rw[List.length_set,List.length_set];exact h.Y.len,fun g i=>?_,ma.2 (.inr h.Y.bF),fun g i q d=>?_⟩
  ·rw[List.length_set]at i;rw[Da,GZ,h.Y.len];by_cases e:k=g;·rw[if_pos ⟨e,i⟩,if_pos ⟨e,i⟩];exact dT
   ·rw[if_neg (fun p=>e p.1),if_neg (fun p=>e p.1)];refine p1 (h.Y.rows g i) ac (fun q d a=>?_);rcases mc.1 a with G | a;·subst G;exact hh (h.Y.rows g i) h.Y.blk Iv d.symm
    ·exact h.dy g k (fun p=>e p.symm) q d (tl.1 a)
  ·rw[List.length_set]at i;rw[Da,h.Y.len]at d;split at d;·exact ma.2 (.inl (tl.2 d))
   ·exact ma.2 (.inr (h.Y.inF g i q d))
 ·exact h.dx
 ·intro t g u q j f;rw[Da]at j f;split at j
  ·rename_i B;rw[if_neg (fun p=>u (B.1.symm.trans p.1))]at f;rcases b with b | ⟨z,b,v⟩;·exact h.dy k g (fun e=>u (B.1.symm.trans e)) q (b▸j) f
   ·have C:=h.Y.own_lt f;rw[b]at j;cases j;omega
  ·split at f
   ·rename_i H;rcases b with b | ⟨z,b,v⟩;·exact h.dy t k (fun e=>u (e.trans H.1)) q j (b▸f)
    ·have C:=h.Y.own_lt j;rw[b]at f;cases f;omega
   ·exact h.dy t g u q j f
 ·exact fun t g q j f=>by
   rw[Da]at f;split at f
   ·rcases b with b | ⟨z,b,v⟩;·exact h.dxy t k q j (b▸f)
    ·have C:=h.X.own_lt j;rw[b]at f;cases f;omega
   ·exact h.dxy t g q j f
 ·refine p1 h.o ac (fun q d a=>?_);rcases mc.1 a with e | a;·subst e;exact hh h.o h.Y.blk Iv d.symm
  ·exact DZ h.o (h.Y.rows k r) Iv d (tl.1 a)
def io (b:List (List Int)) (d:List Int) (c:Nat):List (List Int):=(List.range b.length).map fun a=>if a<c then b.getD a []++[d.getD a 0] else b.getD a []
theorem CP (a:List (List Int)) (b:List Int) (c:Nat):(io a b c).length=a.length:=by simp[io]
theorem Cj (b:List (List Int)) (d:List Int) (c a:Nat) (e:a<b.length):(io b d c).getD a []=if a<c then b.getD a []++[d.getD a 0] else b.getD a []:=by simp[io,List.getD,e]
theorem Pk {b c:List (List Int)} (h:b.length=c.length) (f:∀a,a<b.length->b.getD a []=c.getD a []):b=c:=by refine List.ext_getElem h fun a d e=>?_;have:=f a d;simpa[List.getD,d,e] using this
theorem FY (b:List (List Int)) (c:List Int):io b c 0=b:=Pk (CP _ _ _) (fun d a=>by rw[Cj _ _ _ _ (by rw[CP]at a;exact a),if_neg om])
theorem H3 (a:List (List Int)) (b:List Int):io a b a.length=Bp a b:=by unfold io Bp;refine List.map_congr_left fun d c=>?_;rw[if_pos (List.mem_range.1 c)]
theorem Jn (b:List (List Int)) (d:List Int) (a:Nat) (i:a<b.length):(io b d a).set a (b.getD a []++[d.getD a 0])=io b d (a+1):=by
 refine Pk (by rw[List.length_set,CP,CP]) (fun e c=>?_);rw[List.length_set,CP]at c;rw[GZ,CP,Cj _ _ _ _ c,Cj _ _ _ _ c];by_cases f:a=e;·subst f;rw[if_pos ⟨rfl,c⟩,if_pos om]
 ·rw[if_neg (fun g=>f g.1)];by_cases h:e<a;·rw[if_pos h,if_pos om]
  ·rw[if_neg h,if_neg om]
section
theorem WM (w):(binOp BinOp.neq 130 Value.nilFunc Value.nilFunc).run prog w=.ok (.bool false) w:=by kernel_rfl
attribute [local go_sem] WM
theorem DS {x:Program} {l3:Array Oper} {ae:Oper} {M:Prop} (nN:ae.guard=none) (u r:Operand) (m:TypeId)
 (I:ae.op=.call { callee:=.builtin .append,args:=#[u,r],argTypes:=#[m,m] })
 (j:Nat) (g:TypeId) (f:TypeInfo) (n:Value) (a v:Nat) (C:x.underlying m=some (.slice g)) (S:x.info? g=some f) (H:f.zero=some n)
 (B:f.size=a) (K:f.bytes=v) (V:n.cells.size=a) (G:0<a)
 (c) (d:Nat) (t:List Value) (R:aB.eval u=c) (A:w.ownsRow j g a c d t)
 (s:Addr) (b z:Nat) (e:List Value) (T:aB.eval r=.slice (some s) b z) (O:e.length=b*a) (L:∀y l,e[y]?=some l->w.cell? (s.add y)=some l) (E:∀l∈e,l.oneCell'=true)
 (F:d+b<=maxLen) (P:(d+b)*v<=140737488355328) (D:j<=w.heap.size)
 (h:∀i o,o.ownsRow j g a i (d+b) (t++e)->w.grownBy o c.ownBlock->(i.ownBlock=c.ownBlock\/i.ownBlock=some w.heap.size)->J (aB.put ae.dst i) o) :
 if Region.wanted ae (yielded l3 aB.tmps)=true then Oper.wp x ae aB w J Q else M:=by
 refine Og ?_;intro lO;exact LI w u r m I j g f n a v C S H B K V G c d t R A s b z e T O L E F P D h
theorem Ee (w:World) (cs:List Value) (O:TypeId):∀a8 cU,cs[a8]?=some cU->(w.alloc (.cells cs.toArray O)).cell? (((Ad w.heap.size 0):Addr).add a8)=some cU:=by exact J0
theorem D3 (w:World) (a:List Value) (c:TypeId):∀d b,a[d]?=some b->(w.alloc (.cells a.toArray c)).drew.cell? (((Ad w.heap.size 0):Addr).add d)=some b:=Ee w a c
theorem p4.lookX {A:Tm} {a:RV} (h:p4 m j A l c s F W a) (x:s.X.length=n) (v:s.p.bs.length=n) (p:k<n) :
 ∃b d g q f e,a.xv=sL a.bx 0 n n/\a.pv=sL q f n g/\a.xs.getD k (sZ)=.slice b (s.X.getD k []).length d/\W.cell? (Ad a.bx k)=some (.slice b (s.X.getD k []).length d)/\W.frozen? (Ad a.bx k)=false/\W.cell? (Ad q (f+k))=some (iV e)/\s.p.bs.getD k 0=e/\W.ownsRow m 2 1 (.slice b (s.X.getD k []).length d) (s.X.getD k []).length ((s.X.getD k []).map (Value.int .i64)):=by
 subst x;have t:=h.X.rows k p;obtain⟨b,d,o⟩:=(Sl.of_own t rfl).shape;obtain⟨C,g,r⟩:=(h.rd.now.2.2.1).shape;have u:=h.rd.now.2.2.1;rw[r]at u;obtain⟨q,f,e,y,z,B⟩:=u.get (i:=k) om;refine⟨b,d,g,q,f,e,h.X.val,by rw[r,y,v],o,?_,h.X.blk.frozen k,z,B,o▸t⟩;rw[h.X.blk.cell,<-o];simp[List.getD,show k<a.xs.length by rw[h.X.len];exact p]
theorem p4.lookY {A:Tm} {a:RV} (h:p4 m j A l c s F W a) (x:s.Y.length=n) (v:s.rs.length=n) (p:k<n) :
 ∃b d g q f e,a.yv=sL a.bz 0 n n/\a.rv=sL q f n g/\a.ys.getD k (sZ)=.slice b (s.Y.getD k []).length d/\W.cell? (Ad a.bz k)=some (.slice b (s.Y.getD k []).length d)/\W.frozen? (Ad a.bz k)=false/\W.cell? (Ad q (f+k))=some (iV e)/\s.rs.getD k 0=e/\W.ownsRow m 2 1 (.slice b (s.Y.getD k []).length d) (s.Y.getD k []).length ((s.Y.getD k []).map (Value.int .i64)):=by
 subst x;have t:=h.Y.rows k p;obtain⟨b,d,o⟩:=(Sl.of_own t rfl).shape;obtain⟨C,g,r⟩:=(h.rd.now.2.2.2.1).shape;have u:=h.rd.now.2.2.2.1;rw[r]at u;obtain⟨q,f,e,y,z,B⟩:=u.get (i:=k) om;refine⟨b,d,g,q,f,e,h.Y.val,by rw[r,y,v],o,?_,h.Y.blk.frozen k,z,B,o▸t⟩;rw[h.Y.blk.cell,<-o];simp[List.getD,show k<a.ys.length by rw[h.Y.len];exact p]
def Ki (j:Value) (l f:Nat) (g:Tm) (m:List R5) (c:Int) (d:RS) (i:List Nat) (w:World) (k:Ending) (b:World):Prop:=k=.returned j/\∃a e,p4 l f g m c d a b e/\hT i w a b
theorem yym (s d:Nat) (t:Tm) (l:List R5) (aw:Int) (a:RS) (F:List Nat) (V:RV) (n:Nat) (bI:a.X.length=n) (b6:a.Y.length=n) (bS:a.p.bs.length=n) (bf:a.rs.length=n) (cf:n<=1000) (cx:Hd (∀k,k<n->(a.X.getD k []).length<=10000000)) (cq:Hd (∀k,k<n->(a.Y.getD k []).length<=10000000)) (w:World) (h:p4 s d t l aw a F w V) :
 Calls prog 91 #[pV d] w (Ki (.tuple #[]) s d t l aw (BF a) F w):=by
 have cs:=lh h;have u:=lh (An bI (An b6 (An bS (An bf cf))));have cb:w.cell? (Ad d 13)=some V.rv:=h.blk.cell 13;obtain⟨cK,cI,b5⟩:∃ck c9,V.rv=.slice ck n c9:=by have:=(h.rd.now.2.2.2.1).shape;rw[bf]at this;exact this
 rw[b5]at cb;clear h bI b6 bS bf b5;obtain⟨bK,bZ,bH,cd,bX⟩:=info_parts Ch;go_enter func91,ntmps91;go_wp2_with fail;clear cb;go_loopg [8] n (fun bm i wr=>∃k:Nat,k+bm=n/\i=iV k/\∃ay aH,Hd (p4 s d t l aw { a with X:=io a.X a.p.bs k,Y:=io a.Y a.rs k } ay wr aH)/\Hd (hT F w ay wr));case atStart=>exact⟨0,by omega,rfl,F,V,by rw[FY,FY];exact cs,hT.refl _ _⟩
 case round =>
  obtain⟨k,aT,rfl,ay,aH,j,cg⟩:=hrel;have c5:=lh aT;have cf:=u.2.2.2.2;cases gk with
  | zero =>
   have cr:¬((k:Int)<n):=om;obtain rfl:k=n:=om;have c4:=j.blk.cell 18;simp only[C4,gz,gs]at c4;clear aT;go_wp2_with fail
   go_end0
   refine⟨rfl,ay,aH,?_,cg.o⟩;have c:=j.o;rw[show io a.X a.p.bs k=Bp a.X a.p.bs by rw[<-u.1];exact H3 _ _,show io a.Y a.rs k=Bp a.Y a.rs by rw[<-u.2.1];exact H3 _ _]at c;exact c
  | succ bm =>
   have cr:(k:Int)<n:=om;have cH:(0:Int)<=(k:Int):=om;have o:Hd (k<n):=by show k<n;omega
   obtain⟨a5,aE,bU,be,bV,bl,aM,e,f,bg,aO,a6⟩:=aH;obtain⟨z,D⟩:∃z:RS,{ a with X:=io a.X a.p.bs k,Y:=io a.Y a.rs k }=z:=⟨_,rfl⟩;have ad:=lh D;rw[D]at j;have bj:Hd (z.X.length=n):=by rw[<-D];show(io _ _ _).length=n;rw[CP];exact u.1
   have cw:Hd (z.Y.length=n):=by rw[<-D];show(io _ _ _).length=n;rw[CP];exact u.2.1
   have b2:Hd (z.p.bs.length=n):=by rw[<-D];exact u.2.2.1
   have cA:Hd (z.rs.length=n):=by rw[<-D];exact u.2.2.2.1
   have am:Hd (z.X.getD k []=a.X.getD k []):=by rw[<-D];show(io _ _ _).getD k []=_;rw[Cj _ _ _ _ (by rw[u.1];exact o.o),if_neg om]
   have aB:Hd (z.Y.getD k []=a.Y.getD k []):=by rw[<-D];show(io _ _ _).getD k []=_;rw[Cj _ _ _ _ (by rw[u.2.1];exact o.o),if_neg om]
   clear D aT;have aC:Hd ((a.X.getD k []).length<=10000000):=cx.o k o.o;obtain⟨Q,S,av,I,B,J,ae,al,G,A,ce,aG,aD,a8⟩:=j.lookX (n:=n) (k:=k) bj.o b2.o o.o;simp only at ae al G A ce a8;subst ae al;rw[am.o]at G A a8;obtain⟨af,aS⟩:=xg (a.X.getD k []);rw[aS]at G A a8 aC am;obtain⟨ar,bo⟩:=xg af.length;rw[bo]at G A a8 aC;have ch:=lh aS;have c6:=lh bo;have A:=lh A;have aG:=lh aG;have G:=lh G;have a8:=lh a8;have aD:=lh aD;have ul:Hd (s<=wr.heap.size):=by have c8:=j.lt d j.gF;show s<=_;omega
   clear ce aS bo;obtain⟨ai,cB⟩:∃ai,ai=ay:=⟨_,rfl⟩;subst cB;obtain⟨r,aK⟩:∃r,r=wr:=⟨_,rfl⟩;subst aK;have a9:∀b,BW r b->((Ce b d 14 (sL e 0 n n))/\(Ce b e k (.slice Q ar S))/\(Ce b d 10 (sL I B n av))/\(Ce b I (B+k) (iV J))):=fun b g =>
    ⟨(j.blk.B g).cell 14,(g.cell (p:=(Ad e k)) (ht A.o)).trans A.o,(j.blk.B g).cell 10,(g.cell (p:=(Ad I (B+k))) (ht aG.o)).trans aG.o⟩
   have ad:=lh a9;have cl:=a9 r.drew (hG bR);have bO:=a9 (r.alloc (.cells #[iV J] 2)).drew (hG (hB bR _));clear a9;go_upto_region 3 with fail;refine se (fun b=>(Ce b d 14 (sL e 0 n n))/\(Ce b e k (.slice Q ar S))/\(Ce b d 10 (sL I B n av))/\(Ce b I (B+k) (iV J))) 24 kr ?_;refine O7 ?_;show _;refine tK 20 rfl ?_;refine tK 21 rfl ?_;refine wo 22 kr rfl fun a4 ac=>?_;go_simp;refine ac.out _ _ (fun hun=>bO) ?_;clear ac a4;try simp only[ap,aq,sa,sb,sc]
   refine wo 23 kr rfl fun a4 ac=>?_;refine DS rfl (.tmp 24) (.tmp 33) 33 rfl s 2 bK (iZ) 1 8 underlying33 bZ bH cd bX rfl Iv (.slice Q ar S) ar (af.map (Value.int .i64)) JF (ic a8.o (hG (hB bR _))) (Ad r.heap.size 0) 1 1 [iV J] JF rfl (D3 r _ _) L2 (by have:=aC.o;unfold maxLen;omega) (oo aC.o) E9 ?_;intro cM a1 aZ aA b4;obtain⟨au,a0,rfl⟩:=ro aZ om;have bc:=lh aZ;have am:=lh aA;have bG:=lh b4;have aF:Hd (∀R c T,hA r R c T->c≠2->hA a1 R c T):=fun R c T g bp=>p7 (g.B (hG (hB bR _))) aA (hh a8.o g bp);have ab:=lh (aF.o _ _ _ j.X.blk Iv);have bW:a1.cell? (Ad e k)=some (.slice Q ar S):=by rw[ab.cell,<-j.X.blk.cell];exact A.o
   have c7:=ab.frozen k;have bA:(a1.cell? (Ad d 14)=some (sL e 0 n n))/\(a1.cell? (Ad e k)=some (.slice Q ar S))/\(a1.cell? (Ad d 10)=some (sL I B n av))/\(a1.cell? (Ad I (B+k))=some (iV J)):=by have bb:hC ai r a1:=hC.grown (hC.drew ((hC.refl _ _).alloc _)) aA (fun x P=>.inl (j.X.inF k (by rw[bj.o];exact o.o) x (by rw[G.o];exact P)));have bd:=((j.rd _ bb).2.2.1);obtain⟨cp,c3,ct,bu,ak,b1⟩:=bd.get (i:=k) (by rw[b2.o];exact o.o);cases bu;rw[b1.symm.trans aD.o]at ak;exact⟨(aF.o _ _ _ j.blk Iv).cell 14,bW,(aF.o _ _ _ j.blk Iv).cell 10,ak⟩
   clear aZ aA b4;refine ac.out _ _ (fun hun=>bA) ?_;clear ac a4;try simp only[ap,aq,sa,sb,sc]
   refine wo 24 kr rfl fun a4 ac=>?_;go_simp;refine ac.out _ _ kd ?_;clear ac a4 bA;try simp only[ap,aq,sa,sb,sc]
   refine wo 25 kr rfl fun a4 ac=>?_;go_simp;refine ac.out _ _ kd ?_;clear ac a4 bW c7 cl bO;try simp only[ap,aq,sa,sb,sc]
   refine r4 kr ?_ _;obtain⟨aW,bD⟩:=xg ((Value.slice (some (Ad au 0)) (ar+1) a0).ownBlock.toList++ai);obtain⟨b',bQ⟩:=xg (bg.set k (sL au 0 (ar+1) a0));obtain⟨ah,bh⟩:∃bx:RS,{ z with X:=z.X.set k (af++[J]) }=bx:=⟨_,rfl⟩;obtain⟨ax,aK,a2,ci⟩:∃aQ,a1.setCell (Ad e k) (sL au 0 (ar+1) a0)=aQ/\Hd (p4 s d t l aw ah aW aQ { tv:=a5,lv:=aE,pv:=sL I B n av,rv:=be,xv:=sL e 0 n n,yv:=bl,ov:=aM,bx:=e,bz:=f,xs:=b',ys:=aO,vs:=a6 })/\Hd (hT ai r aW aQ):=by
    have aV:(af++[J]).length=ar+1:=by rw[la,c6.o];rfl
    have aY:hC (Value.slice Q ar S).ownBlock.toList r a1:=hC.grown (hC.drew ((hC.refl _ _).alloc _)) am.o (fun q br=>.inl (tl.2 br));have bv:hC (e::(Value.slice Q ar S).ownBlock.toList) r (a1.setCell (Ad e k) (sL au 0 (ar+1) a0)):=(aY.mono (fun x P=>mo _ P)).sg _;have h:=j.rowX (k:=k) (v':=sL au 0 (ar+1) a0) (y:=af++[J]) (by rw[bj.o];exact o.o) (by simp only[G.o];exact bv) (ab.set k _) (by rw[aV,List.map_append];exact t1 bc.o (hh bc.o ab.o Iv) _) (by
     simp only[G.o];rcases bG.o with c | c;·exact .inl c
     ·refine .inr ⟨_,c,?_⟩;rw[wd,wa]
      exact Nat.le_succ _)
    rw[bD,bh]at h;simp only[bQ]at h;exact⟨_,rfl,h.1,h.2⟩
   with_reducible rw[aK]
   have an:=lh bh;clear aK bD bQ bh bc am bG aF ab ad a8;have ca:Hd (ah.Y.length=n):=by rw[<-an.o];exact cw.o
   have bC:Hd (ah.rs.length=n):=by rw[<-an.o];exact cA.o
   have bF:Hd (ah.Y.getD k []=a.Y.getD k []):=by rw[<-an.o];exact aB.o
   have aN:Hd ((a.Y.getD k []).length<=10000000):=cq.o k o.o;obtain⟨W,Z,aI,O,M,K,ae,al,E,L,b8,aL,a7,C⟩:=a2.lookY (n:=n) (k:=k) ca.o bC.o o.o;simp only at ae al E L b8 C;subst ae al;rw[bF.o]at E L C;obtain⟨aj,bt⟩:=xg (a.Y.getD k []);rw[bt]at E L C aN bF;obtain⟨m,a'⟩:=xg aj.length;rw[a']at E L C aN;have cy:=lh bt;have cG:=lh a';have L:=lh L;have aL:=lh aL;have E:=lh E;have C:=lh C;have a7:=lh a7;have sy:Hd (s<=ax.heap.size):=by have c8:=a2.lt d a2.gF;show s<=_;omega
   have bP:=ca;have cn:=bC;obtain⟨ag,cm⟩:∃ag,ag=aW:=⟨_,rfl⟩;subst cm;obtain⟨aJ,cj⟩:∃aJ,aJ=ah:=⟨_,rfl⟩;subst cj;have H:=a2;clear b8 bt a';have aX:∀b,BW ax b->((Ce b d 15 (sL f 0 n n))/\(Ce b f k (.slice W m Z))/\(Ce b d 13 (sL O M n aI))/\(Ce b O (M+k) (iV K))):=fun b g =>
    ⟨(H.blk.B g).cell 15,(g.cell (p:=(Ad f k)) (ht L.o)).trans L.o,(H.blk.B g).cell 13,(g.cell (p:=(Ad O (M+k))) (ht aL.o)).trans aL.o⟩
   have cF:=aX ax.drew (hG bR);have b7:=aX (ax.alloc (.cells #[iV K] 2)).drew (hG (hB bR _));clear aX;go_upto_region 4 with fail;refine se (fun b=>(Ce b d 15 (sL f 0 n n))/\(Ce b f k (.slice W m Z))/\(Ce b d 13 (sL O M n aI))/\(Ce b O (M+k) (iV K))) 23 kr ?_;refine O7 ?_;show _;refine tK 20 rfl ?_;refine wo 21 kr rfl fun a4 ac=>?_;go_simp;refine ac.out _ _ (fun hun=>b7) ?_;clear ac a4;try simp only[ap,aq,sa,sb,sc]
   refine wo 22 kr rfl fun a4 ac=>?_;refine DS rfl (.tmp 49) (.tmp 57) 33 rfl s 2 bK (iZ) 1 8 underlying33 bZ bH cd bX rfl Iv (.slice W m Z) m (aj.map (Value.int .i64)) JF (ic C.o (hG (hB bR _))) (Ad ax.heap.size 0) 1 1 [iV K] JF rfl (D3 ax _ _) L2 (by have:=aN.o;unfold maxLen;omega) (oo aN.o) Hj ?_;intro cN v bw a3 cc;obtain⟨aa,az,rfl⟩:=ro bw om;have aR:=lh bw;have aB:=lh a3;have bT:=lh cc;have aP:Hd (∀R c T,hA ax R c T->c≠2->hA v R c T):=fun R c T g bp=>p7 (g.B (hG (hB bR _))) a3 (hh C.o g bp);have ao:=lh (aP.o _ _ _ H.Y.blk Iv);have b9:v.cell? (Ad f k)=some (.slice W m Z):=by rw[ao.cell,<-H.Y.blk.cell];exact L.o
   have co:=ao.frozen k;have bN:(v.cell? (Ad d 15)=some (sL f 0 n n))/\(v.cell? (Ad f k)=some (.slice W m Z))/\(v.cell? (Ad d 13)=some (sL O M n aI))/\(v.cell? (Ad O (M+k))=some (iV K)):=by have bb:hC ag ax v:=hC.grown (hC.drew ((hC.refl _ _).alloc _)) a3 (fun x P=>.inl (H.Y.inF k (by rw[bP.o];exact o.o) x (by rw[E.o];exact P)));have bd:=((H.rd _ bb).2.2.2.1);obtain⟨cp,c3,ct,bu,ak,b1⟩:=bd.get (i:=k) (by rw[cn.o];exact o.o);cases bu;rw[b1.symm.trans a7.o]at ak;exact⟨(aP.o _ _ _ H.blk Iv).cell 15,b9,(aP.o _ _ _ H.blk Iv).cell 13,ak⟩
   clear bw a3 cc;refine ac.out _ _ (fun hun=>bN) ?_;clear ac a4;refine MW ?_;intro a4 ac;clear ac a4 bN;try simp only[ap,aq,sa,sb,sc]
   refine wo 24 kr rfl fun a4 ac=>?_;go_simp;refine ac.out _ _ kd ?_;clear ac a4 b9 co cF b7;try simp only[ap,aq,sa,sb,sc]
   refine r4 kr ?_ _;obtain⟨bz,b3⟩:=xg ((Value.slice (some (Ad aa 0)) (m+1) az).ownBlock.toList++ag);obtain⟨cC,bE⟩:=xg (aO.set k (sL aa 0 (m+1) az));obtain⟨bJ,bi⟩:∃bx:RS,{ aJ with Y:=aJ.Y.set k (aj++[K]) }=bx:=⟨_,rfl⟩;obtain⟨cJ,bB,cz,cu⟩:∃aQ,v.setCell (Ad f k) (sL aa 0 (m+1) az)=aQ/\Hd (p4 s d t l aw bJ bz aQ { tv:=a5,lv:=aE,pv:=sL I B n av,rv:=sL O M n aI,xv:=sL e 0 n n,yv:=sL f 0 n n,ov:=aM,bx:=e,bz:=f,xs:=b',ys:=cC,vs:=a6 })/\Hd (hT ag ax bz aQ):=by
    have aV:(aj++[K]).length=m+1:=by rw[la,cG.o];rfl
    have aY:hC (Value.slice W m Z).ownBlock.toList ax v:=hC.grown (hC.drew ((hC.refl _ _).alloc _)) aB.o (fun q br=>.inl (tl.2 br));have bv:hC (f::(Value.slice W m Z).ownBlock.toList) ax (v.setCell (Ad f k) (sL aa 0 (m+1) az)):=(aY.mono (fun x P=>mo _ P)).sg _;have h:=H.rowY (k:=k) (v':=sL aa 0 (m+1) az) (y:=aj++[K]) (by rw[bP.o];exact o.o) (by simp only[E.o];exact bv) (ao.set k _) (by rw[aV,List.map_append];exact t1 aR.o (hh aR.o ao.o Iv) _) (by
     simp only[E.o];rcases bT.o with c | c;·exact .inl c
     ·refine .inr ⟨_,c,?_⟩;rw[wd,wa]
      exact Nat.le_succ _)
    rw[b3,bi]at h;simp only[bE]at h;exact⟨_,rfl,h.1,h.2⟩
   with_reducible rw[bB]
   have c1:=lh bi;clear bB b3 bE bi aR aB bT aP ao C;go_wp2_with fail;go_roundg bm;case measure=>omega
   case rel =>
    have c:bJ={ a with X:=io a.X a.p.bs (k+1),Y:=io a.Y a.rs (k+1) }:=by
     rw[<-c1.o,<-an.o];have cD:=Jn a.X a.p.bs k (by rw[u.1];exact o.o);have c2:=Jn a.Y a.rs k (by rw[u.2.1];exact o.o);have cv:a.p.bs.getD k 0=J:=by rw[<-aD.o,<-ad.o]
     have c0:a.rs.getD k 0=K:=by rw[<-a7.o,<-an.o,<-ad.o]
     rw[<-cD,<-c2,ch.o,cy.o,cv,c0,<-ad.o]
    have bY:=cz.o;rw[c]at bY;exact⟨k+1,oo c5.o,by go_num,bz,_,bY,cg.trans (ci.trans cu.o)⟩
end
theorem p4.sts {b:Tm} {a:RV} (h:p4 n m b l c s F W a):w8 W a.ov s.o:=w8.of_own h.o h.rd.now.2.2.2.2
theorem NS (h:L.length=n+1):L.getLast?=some (L.getD n q2):=by rw[List.getLast?_eq_getElem?,h];simp[List.getD,h]
theorem UW (ag x:Nat) (t:Tm) (r:List R5) (ao:Int) (n:RS) (F:List Nat) (V:RV) (f k:Int) (S:Bool) (R:Int) (B:Hd (BB r n.o f=(S,R))) (aJ:n.o.length<=1000) (w) (h:p4 ag x t r ao n F w V) :
 Calls prog 139 #[pV x,.agg #[iV f,iV k]] w (RetB (.tuple #[.bool S,iV R]) w):=by
 have I:=lh h;obtain⟨a3,aA,aC,a6,aB,aD,aI,a0,aE,a8,aK,a4⟩:=V;have v:=h.sts;have z:=h.rd.now.2.1;simp only at v z;obtain⟨a9,a2,rfl⟩:=v.shape;obtain⟨T,W,rfl⟩:=z.shape;have y:=lh v;have ak:=lh z;have g:=h.blk;unfold C4 at g;simp only at g;have A:=lh g;have ab:=h.blk.lt;clear v z g h;cases m:n.o.length with
 | zero=>have Y:n.o=[]:=List.eq_nil_of_length_eq_zero m;have d:=B.o;unfold BB at d;rw[Y]at d;simp only[List.getLast?_nil]at d;cases d;rw[m]at A y I;have ad:=A.cell 16;simp only[gz,gs]at ad;clear B Y m;go_enter func139,ntmps139;go_wp2_with fail;go_ret2;exact⟨rfl,hB bR _⟩
 | succ o =>
  have d:=B.o;unfold BB at d;rw[NS m]at d;simp only at d;obtain⟨H,a7,a,aF,af,⟨l,L,C,G,O,P,E,D,Q⟩,ah,az⟩:=y.get (i:=o) om;rw[az.o]at d;have av:=lh d;subst af;obtain⟨ax,s,rfl,-⟩:=ah;rw[m]at A y I;clear B d y I;have al:Hd (hA (w.alloc (.cells #[iV f,iV k] 40)) w.heap.size 40 [iV f,iV k]):=hR w _ _ _ rfl;have am:=ht l;obtain⟨b,ar,aa,aw,aH⟩:∃b,w.alloc (.cells #[iV f,iV k] 40)=b/\Hd (BW w b)/\Hd (hA b w.heap.size 40 [iV f,iV k])/\Hd (b.heap.size=w.heap.size+1):=⟨_,rfl,hB bR _,al.o,by show _=_;simp⟩;go_enter func139,ntmps139;go_upto_region 1 with fail;clear ar;have J:=lh (A.B aa.o);have e:∀u a,w.cell? (Ad H u)=some a->b.cell? (Ad H u)=some a:=fun u a h=>(aa.cell (p:=(Ad H u)) (ht h)).trans h;replace l:=e _ _ l;replace L:=e _ _ L;replace C:=e _ _ C;replace G:=e _ _ G;replace O:=e _ _ O;replace P:=e _ _ P;replace E:=e _ _ E;replace D:=e _ _ D;replace Q:=e _ _ Q;have ab:=J.lt;have am:=ht l;clear e;obtain⟨au,ad,-⟩:=J.cS [7,16];have a5:(o:Int)<o+1:=om;have aG:(0:Int)<=(o:Int):=om;have a1:(((o:Int)+1) == 0)=false:=by simp;omega
  go_upto_region 3 with fail
  go_region
  obtain⟨j,X,M,K⟩:∃j,(b.alloc (.cells #[iV a.n,iV a.fr,iV a.til,iV a.du,.slice ax a.ls.length s,iV a.tot,iV a.cr,iV a.mn,.bool a.g] 43)).drew=j/\Hd (BW b j)/\Hd (∀c,BW j c->Ce c b.heap.size 5 (iV a.tot)/\Ce c b.heap.size 3 (iV a.du)/\Ce c w.heap.size 0 (iV f)/\Ce c x 7 (.slice T r.length W)):=by refine⟨_,rfl,hG (hB bR _),fun c g=>?_⟩;have s:hA c b.heap.size 43 [iV a.n,iV a.fr,iV a.til,iV a.du,.slice ax a.ls.length s,iV a.tot,iV a.cr,iV a.mn,.bool a.g]:=hA.B (hA.B (hR b _ _ _ rfl) (hG bR)) g;have an:hA c w.heap.size 40 [iV f,iV k]:=hA.B (hA.B aw.o (hG (hB bR _))) g;have ac:=hA.B (hA.B J.o (hG (hB bR _))) g;exact⟨s.cell 5,s.cell 3,an.cell 0,ac.cell 7⟩
  with_reducible rw[X]
  clear X l L C G O P E D Q au ad;have ae:=K.o j bR;have ai:=K.o j.drew (hG bR);go_upto_region 4 with fail;go_region_held3 (fun c=>Ce c b.heap.size 5 (iV a.tot)/\Ce c b.heap.size 3 (iV a.du)/\Ce c w.heap.size 0 (iV f)/\Ce c x 7 (.slice T r.length W)) (first | with_reducible exact ae | with_reducible exact ai | exact aj.o) (first | (go_at_call 183;refine(WH a.tot f a.du _ r _ av _ (ak.o.B (by first | exact hJ aa.o (hG M.o) | exact hJ aa.o M.o))).mono ?_;rintro _ ay ⟨rfl,ea⟩;have Z:Hd (BW j ay):=MR;have aj:=lh (K.o _ Z.o);clear ea));go_wp2_with fail;go_ret2;exact⟨rfl,hJ aa.o (hJ M.o Z.o)⟩
def pl (a:Option St):St:=a.getD q2
theorem V5 (j:Tm) (E) (i f b:Int) (F:Ps) (D G H) (g e:List Int) (t:Bool) (P:j.ts.length<=1000) (a:Option St) (q:Ps) (R:Int) (y:Hd (v1 j i f b F g e t=(a,q,R))) (w) (Q:h7 w E j.ts) (L:Sl .i64 w D F.bs) (W:Sl .i64 w G g) (Y:Sl .i64 w H e) :
 Calls prog 141 #[.agg #[iV j.lim,E,iV j.cyc,iV j.dued,iV j.minf,iV j.minp,iV j.start],iV i,.agg #[iV f,iV b],.agg #[D,iV F.c,iV F.d],G,H,.bool t] w
  (EU (pl a).n (pl a).fr (pl a).til (pl a).du (pl a).ls (pl a).tot (pl a).cr (pl a).mn (pl a).g q.bs q.c q.d R w):=by
 obtain⟨p,x,r,c,k,n,v⟩:=j;obtain⟨m,A,z⟩:=F;simp only at P Q L ⊢;have K:∀u,NF x p r c k n v i f b m A z g e u->v1 ⟨p,x,r,c,k,n,v⟩ i f b ⟨m,A,z⟩ g e t=(none,DC,u)->Calls prog 141 #[.agg #[iV p,E,iV r,iV c,iV k,iV n,iV v],iV i,.agg #[iV f,iV b],.agg #[D,iV A,iV z],G,H,.bool t] w
  (EU (pl a).n (pl a).fr (pl a).til (pl a).du (pl a).ls (pl a).tot (pl a).cr (pl a).mn (pl a).g q.bs q.c q.d R w):=fun u I O=>by
  have y:=y.o;rw[O]at y;cases y;exact Zr E x p r c k n v i f b D m A z G g H e t P _ I w Q L W Y
 cases d:hu p x r c k n v with
 | false=>exact K 6 (.inl ⟨d,rfl⟩) (by unfold v1 Tm.right;rw[if_pos d])
 | true =>
  cases o:CQ x.length i f b m.length g.length with
  | false=>exact K 1 (.inr (.inl ⟨d,o,rfl⟩)) (by unfold v1 Tm.right;simp only;rw[if_neg (by rw[d];simp),if_pos o])
  | true =>
   cases B:g.any q1 with
   | true=>exact K 1 (.inr (.inr ⟨⟨d,o⟩,.inl ⟨B,rfl⟩⟩)) (by unfold v1 Tm.right;simp only;rw[if_neg (by rw[d];simp),if_neg (by rw[o];simp),if_pos B])
   | false =>
    obtain⟨l,s,C,u,iB⟩:∃l s C u,s0 m A z e=(l,s,C,u):=⟨_,_,_,_,rfl⟩;by_cases I:u=0
    ·subst I;have V:l.length=m.length/\e.length=m.length:=by exact Ot
     obtain⟨J,M,X⟩:=xh (B2 (hu p x r c k n v) k n (AY l s C));have Z:-9000000000<=b+c/\b+c<=9000000000:=by obtain⟨_,_,_,S,_⟩:=FA.1 o;have T:=d;unfold hu at T;simp only[ba,B9]at T;unfold pd at S;simp at S;omega
     have O:v1 ⟨p,x,r,c,k,n,v⟩ i f b ⟨m,A,z⟩ g e t=(some ⟨i,f,b,b+c,ih l e g,AY l s C,s,J,t⟩,⟨l,s,J⟩,0):=by unfold v1 Tm.right;simp only;rw[if_neg (by rw[d];simp),if_neg (by rw[o];simp),if_neg (by rw[B];simp),iB,if_neg Is];simp only[DF,X]
     have y:=y.o;rw[O]at y;cases y;exact YA E x p r c k n v i f b D m A z G g H e t P d o B l s C iB V.1 V.2 _ rfl J M X _ rfl Z w Q L W Y
    ·exact K u (.inr (.inr ⟨⟨d,o⟩,.inr ⟨B,I,l,s,C,iB⟩⟩)) (by unfold v1 Tm.right;simp only;rw[if_neg (by rw[d];simp),if_neg (by rw[o];simp),if_neg (by rw[B];simp),iB,if_pos I])
theorem hz.blt {f:List (Int×Int×Int)} (h:hz w (sL n m k i) f) (a:0<k):n<w.heap.size:=by obtain⟨g,j,d,_,_,b⟩:=h;cases d;obtain⟨l,o,c,e⟩:=b (List.length_pos_iff.1 a);cases c;exact ht (e 0 a).1
theorem Sl.blt (h:Sl K w (sL n m k i) r) (a:0<k):n<w.heap.size:=by obtain⟨f,g,d,_,_,b⟩:=h;cases d;obtain⟨j,l,c,e⟩:=b (List.length_pos_iff.1 a);cases c;exact ht (e 0 a)
theorem Xd (b:Tm) (g) (o l j:Int) (c:Ps) (f k m) (n e:List Int) (i:Bool) (v:b.ts.length<=1000) (d:Option St) (q:Ps) (p:Int) (y:Hd (v1 b o l j c n e i=(d,q,p))) (a:St) (t:Hd (pl d=a)) (w) (x:h7 w g b.ts) (r:Sl .i64 w f c.bs) (s:Sl .i64 w k n) (u:Sl .i64 w m e) :
 Calls prog 141 #[.agg #[iV b.lim,g,iV b.cyc,iV b.dued,iV b.minf,iV b.minp,iV b.start],iV o,.agg #[iV l,iV j],.agg #[f,iV c.c,iV c.d],k,m,.bool i] w
  (EU a.n a.fr a.til a.du a.ls a.tot a.cr a.mn a.g q.bs q.c q.d p w):=by
 have h:=t.o;subst h;exact V5 b g o l j c f k m n e i v d q p y w x r s u
theorem BG.rows' {a:List (List Int)} (h:BG F W n v a m C) (e:a.length<=1000):RwS W v a:=by rw[h.val];refine⟨_,_,rfl,nr _,⟨by unfold maxLen;omega,fun d=>by cases d⟩,fun _=>⟨m,0,rfl,fun b c=>?_⟩⟩;refine⟨C.getD b (sZ),?_,Sl.of_own (h.rows b c) rfl⟩;rw[h.blk.cell];simp[List.getD,show b<C.length by rw[h.len];exact c]
theorem IB {b:Tm} {g q:Ps} {a:Option St} (h:v1 b c d f g r x D=(a,q,y)):a.isSome=decide (y=0):=by
 unfold v1 at h;split at h;·cases h;rfl
 split at h;·cases h;rfl
 split at h;·cases h;rfl
 split at h
 ·rename_i e;cases h
  symm
  simpa using e
 ·cases h;rfl
structure Bk where
 ds:List R5
 held:Int
def m1 (w:World) (d b:Nat) (c:Value) (a:Bk):Prop :=
 d<=b/\hA w b 127 [c,iV a.held]/\w.ownsRow d 155 5 c a.ds.length (k8 a.ds)
theorem m1.B {a:Bk} (h:m1 w n m v a) (b:BW w W):m1 W n m v a:=
 ⟨h.1,h.2.1.B b,ic h.2.2 b⟩
theorem B1 (h:w.ownsRow n e k v i C) (j:m<=n):w.ownsRow m e k v i C:=by
 refine⟨h.1,?_⟩;rcases h.2 with f | ⟨c,g,a,d,l,b⟩;·exact .inl f
 ·exact .inr ⟨c,g,a,d,nt j l,b⟩
theorem BT (w:World) (c:Nat) (a:TypeId) (b:Nat):w.ownsRow c a b (sZ) 0 []:=⟨by simp,.inl ⟨rfl,rfl⟩⟩
theorem Vx (w:World) :
 Calls prog 30 #[] w (fun d b=>∃a c,d=.returned (pV a)/\m1 b w.heap.size a c ⟨[],0⟩/\BW w b):=by
 go_enter func30,ntmps30;go_wp2;go_ret;exact⟨_,_,rfl,⟨nr _,hR _ _ _ _ rfl,BT _ _ _ _⟩,bL⟩
theorem yqh (l e:Nat) (k) (a:Bk) (w:World) (s:m1 w l e k a) (g:a.ds.length<=100000) :
 Calls prog 41 #[pV e] w (fun t d=>∃c,t=.returned c/\d.ownsRow w.heap.size 155 5 c a.ds.length (k8 a.ds)/\BW w d):=by
 obtain⟨n,x⟩:=a;obtain⟨y,j,b⟩:=s;simp only at *;have u:=lh (h4.of_own b rfl);obtain⟨z,A,rfl⟩:=(h4.of_own b rfl).shape;have m:=j.cell 0;simp only[gz]at m;have p:=lh g;clear j b g;go_enter func41,ntmps41;go_wp2_with fail;refine(Qn _ n _ u.o p.o).mono ?_;rintro _ v ⟨c,rfl,f,i⟩;have o:=lh f;have r:=lh i;clear f i;go_wp2;go_ret;exact⟨_,rfl,o.o,r.o⟩
theorem PA (x b:Nat) (v) (e:Bk) (w:World) (H:m1 w x b v e) (G:e.ds.length<=100000) :
 Calls prog 64 #[pV b] w (fun J j=>∃o s,J=.returned (pV o)/\m1 j w.heap.size o s e/\BW w j):=by
 obtain⟨d,l⟩:=e;obtain⟨K,t,g⟩:=H;simp only at *;have m:=lh t;have I:=lh (h4.of_own g rfl);obtain⟨p,k,rfl⟩:=(h4.of_own g rfl).shape;obtain⟨B,C,-⟩:=m.cS [0,1];clear t g;have f:∀a,BW w a->(Ce a b 0 (.slice p d.length k)/\Ce a b 1 (iV l)):=fun a h =>
  have q:=m.B h
  ⟨q.cell 0,q.cell 1⟩
 have r:=lh f;have z:=f w bR;have D:=f w.drew (hG bR);clear f;go_enter func64,ntmps64;go_upto_region 3 with fail;clear B C;go_region_held3 (fun a=>(Ce a b 0 (.slice p d.length k)/\Ce a b 1 (iV l))) (first | with_reducible exact z | with_reducible exact D | with_reducible exact y | with_reducible exact r.o _ (hB c.o _) | with_reducible assumption) (first | (go_at_call 68;refine(Qn _ d _ (I.o.B (hG bR)) G).mono ?_;rintro _ u ⟨s,rfl,i,n⟩;obtain⟨F,A,rfl⟩:=(h4.of_own i rfl).shape;have E:=lh i;have c:Hd (BW w u):=hJ (hG bR) n;have y:=r.o u c.o;clear i n));all_goals
  go_wp2;go_ret;refine⟨_,.slice F d.length A,rfl,⟨c.size,hR _ _ _ _ rfl,ic E.o (hB bR _)⟩,hB c.o _⟩
theorem p4.grow {u:Tm} {b:RV} (h:p4 n m u l c s F W b) {v' lv':Value} {x:St}
 (ac:hC (m::b.ov.ownBlock.toList) W Y) (C:hA Y m 181 (C4 u b.tv b.lv s.at' c b.pv s.p b.rv b.xv b.yv v')) (dT:Y.ownsRow n 43 9 v' (s.o.length+1) (n1 (s.o++[x]) (b.vs++[lv'])))
 (e:v'.ownBlock=b.ov.ownBlock\/∃q,v'.ownBlock=some q/\W.heap.size<=q) (A:Rd F W (fun W=>hz W lv' x.ls)) (B:Hi n lv') :
 p4 n m u l c { s with o:=s.o++[x] } (v'.ownBlock.toList++F) Y { b with ov:=v',vs:=b.vs++[lv'] }/\hT F W (v'.ownBlock.toList++F) Y:=by
 have D:∀x∈(m::b.ov.ownBlock.toList),x∈F:=fun x aj=>by
  rcases mc.1 aj with rfl | aj;·exact h.gF
  ·exact h.outF x (tl.1 aj)
 have k:hT F W (v'.ownBlock.toList++F) Y:=⟨ac.mono D,fun x aj=>by
  rcases ma.1 aj with aj | aj
  ·have jP:=tl.1 aj;rcases e with e | ⟨E,e,z⟩;·exact .inl (h.outF x (e▸jP))
   ·rw[e]at jP;cases jP;exact .inr z
  ·exact .inl aj⟩
 have y:∀{g:Value} {p:List (List Int)} {r:Nat} {t:List Value},BG F W n g p r t->BG (v'.ownBlock.toList++F) Y n g p r t:=fun {g p r t} a=>by
  refine⟨a.val,a.blk.keep ac (fun d=>?_),a.len,fun i j=>p1 (a.rows i j) ac (fun q f d=>?_),ma.2 (.inr a.bF),fun i j q f=>ma.2 (.inr (a.inF i j q f))⟩
  ·rcases mc.1 d with v | d;·exact n3 h.blk a.blk Iv v.symm
   ·exact hh h.o a.blk Iv (tl.1 d).symm
  ·rcases mc.1 d with v | d;·subst v;exact hh (a.rows i j) h.blk Iv f.symm
   ·exact DZ (a.rows i j) h.o Iv f (tl.1 d)
 refine⟨⟨C,ma.2 (.inr h.gF),fun x aj=>?_,?_,y h.X,y h.Y,h.ne,h.dx,h.dy,h.dxy,by rw[la];exact dT,fun q f=>ma.2 (.inl (tl.2 f)),⟨h.hi.1,h.hi.2.1,fun g e=>(ma.1 e).elim (h.hi.2.2.1 g) (fun a=>by rw[ms]at a;subst a;exact B),h.hi.2.2.2⟩⟩,k⟩;·exact NI
 ·exact((k.rd h.rd).and (k.rd A)).imp fun W a=>⟨a.1.1,a.1.2.1,a.1.2.2.1,a.1.2.2.2.1,a.1.2.2.2.2.append ⟨a.2,trivial⟩⟩
theorem Fd (a b:Nat):(List.replicate a (sZ)).getD b (sZ)=sZ:=by simp only[List.getD,List.getElem?_replicate];split <;> rfl
theorem Ec (a b:Nat):(List.replicate a ([]:List Int)).getD b []=[]:=by simp only[List.getD,List.getElem?_replicate];split <;> rfl
theorem SD {lo:Nat} {j:Tm} {V:RV} (r:m∈F) (o:∀d∈F,lo<=d/\d<W.heap.size) (I:Rd F W (Kp j l s V))
 (G:hA W m 181 (C4 j V.tv V.lv s.at' c V.pv s.p V.rv V.xv V.yv V.ov)) (z:W.ownsRow lo 43 9 V.ov s.o.length (n1 s.o V.vs)) (H:∀q,V.ov.ownBlock=some q->q∈F)
 (p:hA Z m 181 (C4 j V.tv V.lv s.at' c V.pv s.p V.rv (sL k 0 n n) (sL i 0 n n) V.ov))
 (b:hA Z k 33 (List.replicate n (sZ))) (u:hA Z i 33 (List.replicate n (sZ))) (B:k≠i) (g:W.heap.size<=k) (E:W.heap.size<=i) (t:hC [m] W Z) (D:IY lo V) :
 p4 lo m j l c { s with X:=List.replicate n [],Y:=List.replicate n [] } (k::i::F) Z { V with xv:=sL k 0 n n,yv:=sL i 0 n n,bx:=k,bz:=i,xs:=List.replicate n (sZ),ys:=List.replicate n (sZ) }/\hT F W (k::i::F) Z:=by
 have x:hT F W (k::i::F) Z:=⟨t.mono (fun d g=>by simp only[ms]at g;exact g▸r),fun d a=>by
  rcases mc.1 a with rfl | a;·exact .inr g
  rcases mc.1 a with rfl | a;·exact .inr E
  exact .inl a⟩
 have y:∀{f:Nat},hA Z f 33 (List.replicate n (sZ))->f∈k::i::F->BG (k::i::F) Z lo (sL f 0 n n) (List.replicate n []) f (List.replicate n (sZ)):=fun {f} p a=>by
  refine⟨by simp,p,by simp,fun C _=>?_,a,fun C _ q e=>?_⟩;·rw[Fd,Ec];exact BT _ _ _ _
  ·rw[Fd]at e;cases e
 have J:lo<=W.heap.size:=oo (o m r);refine⟨⟨p,mo _ (mo _ r),fun d a=>?_,x.rd I,y b (me ..),y u (mo _ (me ..)),B,?_,?_,?_,?_,fun q e=>mo _ (mo _ (H q e)),D⟩,x⟩
 ·rcases mc.1 a with rfl | a;·exact⟨by omega,b.lt⟩
  rcases mc.1 a with rfl | a;·exact⟨by omega,u.lt⟩
  exact⟨(o d a).1,Nat.lt_of_lt_of_le (o d a).2 t.size⟩
 ·intro A v _ q b;simp only[Fd]at b;cases b
 ·intro A v _ q b;simp only[Fd]at b;cases b
 ·intro A v q b;simp only[Fd]at b;cases b
 ·refine p1 z t (fun q e a=>?_);simp only[ms]at a;subst a;exact hh z G Iv e.symm
theorem Ko (h:q:=by have ju:=ls.o;have da:=ij.o;have cC:=lF.o;have dr:=gE.o;exact OT):q:=h
theorem Lb (h:q:=by
 have j4:Hd (Fr aT (.slice cY x.ls.length cZ)/\Fr aT (.slice dQ q.bs.length dR)):=by exact JL
 with_reducible rw[fx]
 clear fx;obtain⟨aI,aN,aL,eL,dU,fT,g8,f9,kx,-⟩:=jU.cS [0,1,2,3,4,5,6,7,8];obtain⟨qf,qg,qh,vD,vE,vF,vG,vH,vI,-⟩:=jU.fs [0,1,2,3,4,5,6,7,8];obtain⟨b6,aM,aP,-⟩:=i9.cS [0,1,2];obtain⟨rV,rW,rX,-⟩:=i9.fs [0,1,2];have zs:=jU.lt;have x4:=i9.lt;have fO:=ep.1;have vJ:=fO.symm;refine wS 28 rfl ?_;refine wS 29 rfl ?_;refine wS 30 rfl ?_;clear aI aN aL eL dU fT g8 f9 kx qf qg qh vD vE vF vG vH vI b6 aM aP rV rW rX fO vJ;refine r4 kr ?_ _;go_wp2_with fail;go_meet;case rel=>exact⟨_,_,_,_,rfl,rfl,rfl,⟨((((((((((((jU.set 0 _).set 1 _).set 2 _).set 3 _).set 4 _).set 5 _).set 6 _).set 7 _).set 8 _).setOther ep.1 0 _).setOther ep.1 1 _).setOther ep.1 2 _),((((((((((((i9.setOther (Ne.symm ep.1) 0 _).setOther (Ne.symm ep.1) 1 _).setOther (Ne.symm ep.1) 2 _).setOther (Ne.symm ep.1) 3 _).setOther (Ne.symm ep.1) 4 _).setOther (Ne.symm ep.1) 5 _).setOther (Ne.symm ep.1) 6 _).setOther (Ne.symm ep.1) 7 _).setOther (Ne.symm ep.1) 8 _).set 0 _).set 1 _).set 2 _),hz.keep (F:=[_,_]) fC.1 ((((((((((((((hC.refl _ _).sg _).sg _).sg _).sg _).sg _).sg _).sg _).sg _).sg _).setCell (.inl (mo _ (me ..))) _).setCell (.inl (mo _ (me ..))) _).setCell (.inl (mo _ (me ..))) _)) fD.1,Sl.keep (F:=[_,_]) fC.2 ((((((((((((((hC.refl _ _).sg _).sg _).sg _).sg _).sg _).sg _).sg _).sg _).sg _).setCell (.inl (mo _ (me ..))) _).setCell (.inl (mo _ (me ..))) _).setCell (.inl (mo _ (me ..))) _)) fD.2⟩,⟨ep.1,ep.2.1,ep.2.2,j4.1,j4.2⟩,(k1 (k1 (k1 (k1 (k1 (k1 (k1 (k1 (k1 (k1 (k1 (k1 j7.o ep.2.1) ep.2.1) ep.2.1) ep.2.1) ep.2.1) ep.2.1) ep.2.1) ep.2.1) ep.2.1) ep.2.2) ep.2.2) ep.2.2)⟩):q:=h
section
theorem Wi (w):(binOp BinOp.neq 131 Value.nilFunc Value.nilFunc).run prog w=.ok (.bool false) w:=by kernel_rfl
attribute [local go_sem] Wi
theorem Yf (A e:Nat) (H:Tm) (Q:List R5) (G:Int) (aw:RS) (aZ:List Nat) (V:RV) (cb bV:Int) (n:Nat) (b7:H.ts.length=n) (aK:n<=1000) (bm:aw.X.length=n) (bc:aw.Y.length=n) (ai:aw.o.length<=1000) (O:RS×Int) (a1:Hd (BK H Q cb bV aw=O)) (w:World) (h:p4 A e H Q G aw aZ w V) :
 Calls prog 92 #[pV e,.agg #[iV cb,iV bV]] w (Ki (iV O.2) A e H Q G O.1 aZ w):=by
 have bj:=lh h;obtain⟨fb,bG,br⟩:=xh (BB Q aw.o cb);have aj:=lh br;have em:=lh (An b7 (An aK (An bm (An bc ai))));have bF:Hd (hA (w.alloc (.cells #[iV cb,iV bV] 40)) w.heap.size 40 [iV cb,iV bV]):=hR w _ _ _ rfl;clear h br b7 aK bm bc;go_enter func92,ntmps92;go_wp2_with fail;refine(UW A e H Q G aw aZ V cb bV fb bG aj ai _ (bj.B (hB bR _))).mono ?_;rintro _ R ⟨rfl,aR⟩;have am:Hd (BW w R):=hJ (hB bR _) aR;have bX:=lh (bF.B aR);have i:=lh (bj.B am.o);clear aR ai bF;by_cases aD:bG=0
 ·subst aD;obtain⟨lu,T,au⟩:=xh (rc H.right H.ts aw.X aw.Y fb);have a6:=lh au;clear au;obtain⟨bd,M,pv,rv,aU,aW,bD,u,y,a5,aC,J⟩:=V;obtain⟨ay,ts,al,an,az,ar,ax⟩:=H;obtain⟨cl,cc⟩:aU=sL u 0 n n/\aW=sL y 0 n n:=by
   have Z:=i.X.val;have ag:=i.Y.val;simp only at Z ag;rw[em.2.2.1]at Z;rw[em.2.2.2.1]at ag;exact⟨Z,ag⟩
  subst cl cc;obtain⟨D,z,rfl⟩:=i.rd.now.1.shape;obtain⟨a7,aB,rfl⟩:=i.rd.now.2.2.1.shape;obtain⟨F,E,rfl⟩:=i.rd.now.2.2.2.1.shape;obtain⟨t,aE,rfl⟩:=i.sts.shape;have a9:Hd (hA R e 181 [iV ay,.slice D ts.length z,iV al,iV an,iV az,iV ar,iV ax,M,iV (aw.at':Int),iV G,.slice a7 aw.p.bs.length aB,iV aw.p.c,iV aw.p.d,.slice F aw.rs.length E,sL u 0 n n,sL y 0 n n,.slice t aw.o.length aE,.nilFunc,.nilFunc,.nilFunc]):=i.blk;have bb:=a9.lt;have aS:Hd (∀a,BW R a->Ce a e 0 (iV ay)/\Ce a e 1 (.slice D ts.length z)/\Ce a e 2 (iV al)/\Ce a e 3 (iV an)/\Ce a e 4 (iV az)/\Ce a e 5 (iV ar)/\Ce a e 6 (iV ax)/\Ce a e 14 (sL u 0 n n)/\Ce a e 15 (sL y 0 n n)):=fun a s=>by have q:=a9.B s;exact⟨q.cell 0,q.cell 1,q.cell 2,q.cell 3,q.cell 4,q.cell 5,q.cell 6,q.cell 14,q.cell 15⟩
  have bg:=aS.o R bR;have S:=aS.o R.drew (hG bR);go_upto_region 4 with fail;go_region_held3 (fun a=>Ce a e 0 (iV ay)/\Ce a e 1 (.slice D ts.length z)/\Ce a e 2 (iV al)/\Ce a e 3 (iV an)/\Ce a e 4 (iV az)/\Ce a e 5 (iV ar)/\Ce a e 6 (iV ax)/\Ce a e 14 (sL u 0 n n)/\Ce a e 15 (sL y 0 n n)) (first | with_reducible exact bg | with_reducible exact S | exact ca.o) (first | (go_at_call 140;refine(Tn _ ts ay al an az ar ax _ _ aw.X aw.Y fb (lu,T) a6 _ (i.o.rd.now.1.B HS) ((i.o.X.rows' (by rw[em.o.2.2.1];exact em.o.2.1)).B HS) ((i.o.Y.rows' (by rw[em.o.2.2.2.1];exact em.o.2.1)).B HS)).mono ?_;rintro _ aT ⟨qV,rfl,bE,ea⟩;have ch:=lh bE;have o:Hd (BW R aT):=MR;have ca:=lh (aS.o _ o.o);clear ea bE));by_cases a2:T=0
  ·subst a2;obtain⟨nE,q,I,bi⟩:∃nE q I,v1 ⟨ay,ts,al,an,az,ar,ax⟩ ((aw.o.length:Int)+1) cb bV aw.p aw.rs lu fb=(nE,q,I):=⟨_,_,_,rfl⟩;have kc:=lh bi;obtain⟨x,v⟩:=xg (pl nE);have aV:=lh v;clear bi v;have cd:=lh (a9.B o.o);have bT:=lh (bX.B o.o);have ai:=em.2.2.2.2;have uw:Hd (∀a,BW aT a->Ce a e 0 (iV ay)/\Ce a e 1 (.slice D ts.length z)/\Ce a e 2 (iV al)/\Ce a e 3 (iV an)/\Ce a e 4 (iV az)/\Ce a e 5 (iV ar)/\Ce a e 6 (iV ax)/\Ce a e 16 (.slice t aw.o.length aE)/\(Ce a e 10 (.slice a7 aw.p.bs.length aB)/\Ce a e 11 (iV aw.p.c)/\Ce a e 12 (iV aw.p.d))/\Ce a e 13 (.slice F aw.rs.length E)/\Ce a w.heap.size 0 (iV cb)/\Ce a w.heap.size 1 (iV bV)):=fun a s=>by
    have q:=cd.B s;have r:=bT.B s;exact⟨q.cell 0,q.cell 1,q.cell 2,q.cell 3,q.cell 4,q.cell 5,q.cell 6,q.cell 16,⟨q.cell 10,q.cell 11,q.cell 12⟩,q.cell 13,r.cell 0,r.cell 1⟩
   clear bg S;go_upto_region 7 with fail;have S:=uw.o aT.drew (hG bR);have bN:IntKind.i64.wrap ((aw.o.length:Int)+1)=(aw.o.length:Int)+1:=IntWalk.i64_in _ ⟨by omega,by omega⟩;go_cut [6,8,9] (fun bY cn bU ab=>∃f ad lv' ge,bY=iV I/\cn=pV f/\bU=pV ad/\Hd (hA ab f 43 (ycb x lv')/\hA ab ad 35 [ge,iV q.c,iV q.d]/\hz ab lv' x.ls/\Sl .i64 ab ge q.bs)/\Hd (f≠ad/\aT.heap.size<=f/\aT.heap.size<=ad/\Fr aT lv'/\Fr aT ge)/\Hd (BW aT ab));case first =>
    have mQ:Hd (∀a,BW aT a->h7 a (.slice D ts.length z) ts/\Sl .i64 a (.slice a7 aw.p.bs.length aB) aw.p.bs/\Sl .i64 a (.slice F aw.rs.length E) aw.rs/\Sl .i64 a qV lu):=fun a s=>by have k:=(i.B o.o).rd.now;exact⟨k.1.B s,k.2.2.1.B s,k.2.2.2.1.B s,ch.B s⟩
    refine se (fun a=>Ce a e 0 (iV ay)/\Ce a e 1 (.slice D ts.length z)/\Ce a e 2 (iV al)/\Ce a e 3 (iV an)/\Ce a e 4 (iV az)/\Ce a e 5 (iV ar)/\Ce a e 6 (iV ax)/\Ce a e 16 (.slice t aw.o.length aE)/\(Ce a e 10 (.slice a7 aw.p.bs.length aB)/\Ce a e 11 (iV aw.p.c)/\Ce a e 12 (iV aw.p.d))/\Ce a e 13 (.slice F aw.rs.length E)/\Ce a w.heap.size 0 (iV cb)/\Ce a w.heap.size 1 (iV bV)) 28 kr ?_;refine O7 ?_;show _;refine tK 20 rfl ?_;refine BZ (rs:=[21,26,27]) kr Is ?_;refine(k0.cons (o:=⟨_,_,_,_,_,_⟩) rfl (fun g ac=>?_) (k0.cons (o:=⟨_,_,_,_,_,_⟩) rfl (fun g ac=>?_) (k0.cons (o:=⟨_,_,_,_,_,_⟩) rfl (fun g ac=>?_) k0.nil)))
    ·refine SJ ?_;intro aY lv' ge et ed fX gT bZ;obtain⟨cY,cZ,rfl⟩:=et.shape;obtain⟨dQ,dR,rfl⟩:=ed.shape;refine OV ?_;clear et ed fX gT bZ ac g;unhygienic intros
     refine BZ (rs:=[26,27]) kr Is ?_;refine(k0.cons (o:=⟨_,_,_,_,_,_⟩) rfl (fun g ac=>?_) (k0.cons (o:=⟨_,_,_,_,_,_⟩) rfl (fun g ac=>?_) k0.nil))
     ·refine PS ?_;clear ac g;show _;refine wo 27 kr rfl fun g ac=>?_;refine PS ?_;clear ac g;show _;obtain⟨U,fx,jU,i9,ep,fC,j7⟩:∃U,((aY.alloc (.cells #[iZ,iZ,iZ,iZ,sZ,iZ,iZ,iZ,.bool false] 43)).alloc (.cells #[sZ,iZ,iZ] 35))=U/\Hd (hA U (aY.heap.size) 43 [iZ,iZ,iZ,iZ,sZ,iZ,iZ,iZ,.bool false])/\Hd (hA U (aY.heap.size+1) 35 [sZ,iZ,iZ])/\Hd ((aY.heap.size)≠(aY.heap.size+1)/\aT.heap.size<=(aY.heap.size)/\aT.heap.size<=(aY.heap.size+1))/\Hd (hz U (.slice cY x.ls.length cZ) x.ls/\Sl .i64 U (.slice dQ q.bs.length dR) q.bs)/\Hd (BW aT U) :=
       ⟨_,rfl,(hA.B (hR aY _ _ _ rfl) (hB bR _)),(hR (aY.alloc _) _ _ _ Is),⟨by have:=HB6.size;have:=eI.size;simp only[wd,wa]at this;omega,oo HB6.size,oo HB6.size⟩,⟨ls.B ((hB ((hB bR _)) _)),ij.B ((hB ((hB bR _)) _))⟩,(hB (hB HB6.o _) _)⟩
      have fD:Hd (hL [(aY.heap.size),(aY.heap.size+1)] (.slice cY x.ls.length cZ)/\hL [(aY.heap.size),(aY.heap.size+1)] (.slice dQ q.bs.length dR)):=by exact Ko
      exact Lb
     ·refine PS ?_;clear ac g;show _;refine wo 26 kr rfl fun g ac=>?_;refine PS ?_;clear ac g;show _;obtain⟨U,fx,jU,i9,ep,fC,j7⟩:∃U,((aY.alloc (.cells #[sZ,iZ,iZ] 35)).alloc (.cells #[iZ,iZ,iZ,iZ,sZ,iZ,iZ,iZ,.bool false] 43))=U/\Hd (hA U (aY.heap.size+1) 43 [iZ,iZ,iZ,iZ,sZ,iZ,iZ,iZ,.bool false])/\Hd (hA U (aY.heap.size) 35 [sZ,iZ,iZ])/\Hd ((aY.heap.size+1)≠(aY.heap.size)/\aT.heap.size<=(aY.heap.size+1)/\aT.heap.size<=(aY.heap.size))/\Hd (hz U (.slice cY x.ls.length cZ) x.ls/\Sl .i64 U (.slice dQ q.bs.length dR) q.bs)/\Hd (BW aT U) :=
       ⟨_,rfl,(hR (aY.alloc _) _ _ _ Is),(hA.B (hR aY _ _ _ rfl) (hB bR _)),⟨by have:=HB6.size;have:=eI.size;simp only[wd,wa]at this;omega,oo HB6.size,oo HB6.size⟩,⟨ls.B ((hB ((hB bR _)) _)),ij.B ((hB ((hB bR _)) _))⟩,(hB (hB HB6.o _) _)⟩
      have fD:Hd (hL [(aY.heap.size+1),(aY.heap.size)] (.slice cY x.ls.length cZ)/\hL [(aY.heap.size+1),(aY.heap.size)] (.slice dQ q.bs.length dR)):=by exact Ko
      exact Lb
    ·refine PS ?_;clear ac g;show _;refine BZ (rs:=[21,27]) kr Is ?_;refine(k0.cons (o:=⟨_,_,_,_,_,_⟩) rfl (fun g ac=>?_) (k0.cons (o:=⟨_,_,_,_,_,_⟩) rfl (fun g ac=>?_) k0.nil))
     ·refine SJ ?_;intro aY lv' ge et ed fX gT bZ;obtain⟨cY,cZ,rfl⟩:=et.shape;obtain⟨dQ,dR,rfl⟩:=ed.shape;refine OV ?_;clear et ed fX gT bZ ac g;intro ls ij lF gE eI HB6 dK;refine wo 27 kr rfl fun g ac=>?_;refine PS ?_;clear ac g;show _;obtain⟨U,fx,jU,i9,ep,fC,j7⟩:∃U,(aY.alloc (.cells #[sZ,iZ,iZ] 35))=U/\Hd (hA U (aT.heap.size) 43 [iZ,iZ,iZ,iZ,sZ,iZ,iZ,iZ,.bool false])/\Hd (hA U (aY.heap.size) 35 [sZ,iZ,iZ])/\Hd ((aT.heap.size)≠(aY.heap.size)/\aT.heap.size<=(aT.heap.size)/\aT.heap.size<=(aY.heap.size))/\Hd (hz U (.slice cY x.ls.length cZ) x.ls/\Sl .i64 U (.slice dQ q.bs.length dR) q.bs)/\Hd (BW aT U) :=
       ⟨_,rfl,(hA.B (hA.B (hA.B (hR aT _ _ _ rfl) (hG bR)) eI.o) (hB bR _)),(hR aY _ _ _ rfl),⟨by have:=HB6.size;have:=eI.size;simp only[wd,wa]at this;omega,oo HB6.size,oo HB6.size⟩,⟨ls.B ((hB bR _)),ij.B ((hB bR _))⟩,(hB HB6.o _)⟩
      have fD:Hd (hL [(aT.heap.size),(aY.heap.size)] (.slice cY x.ls.length cZ)/\hL [(aT.heap.size),(aY.heap.size)] (.slice dQ q.bs.length dR)):=by exact Ko
      exact Lb
     ·refine PS ?_;clear ac g;show _;refine wo 21 kr rfl fun g ac=>?_;refine SJ ?_;intro aY lv' ge et ed fX gT bZ;obtain⟨cY,cZ,rfl⟩:=et.shape;obtain⟨dQ,dR,rfl⟩:=ed.shape;refine OV ?_;clear et ed fX gT bZ ac g;intro ls ij lF gE eI HB6 dK;obtain⟨U,fx,jU,i9,ep,fC,j7⟩:∃U,aY=U/\Hd (hA U (aT.heap.size) 43 [iZ,iZ,iZ,iZ,sZ,iZ,iZ,iZ,.bool false])/\Hd (hA U (aT.heap.size+1) 35 [sZ,iZ,iZ])/\Hd ((aT.heap.size)≠(aT.heap.size+1)/\aT.heap.size<=(aT.heap.size)/\aT.heap.size<=(aT.heap.size+1))/\Hd (hz U (.slice cY x.ls.length cZ) x.ls/\Sl .i64 U (.slice dQ q.bs.length dR) q.bs)/\Hd (BW aT U) :=
       ⟨_,rfl,(hA.B (hA.B (hA.B (hR aT _ _ _ rfl) (hB bR _)) (hG bR)) eI.o),(hA.B (hA.B (hR (aT.alloc _) _ _ _ Is) (hG bR)) eI.o),⟨by have:=HB6.size;have:=eI.size;simp only[wd,wa]at this;omega,oo HB6.size,oo HB6.size⟩,⟨ls.B bR,ij.B bR⟩,HB6.o⟩
      have fD:Hd (hL [(aT.heap.size),(aT.heap.size+1)] (.slice cY x.ls.length cZ)/\hL [(aT.heap.size),(aT.heap.size+1)] (.slice dQ q.bs.length dR)):=by exact Ko
      exact Lb
    ·refine PS ?_;clear ac g;show _;refine BZ (rs:=[21,26]) kr Is ?_;refine(k0.cons (o:=⟨_,_,_,_,_,_⟩) rfl (fun g ac=>?_) (k0.cons (o:=⟨_,_,_,_,_,_⟩) rfl (fun g ac=>?_) k0.nil))
     ·refine SJ ?_;intro aY lv' ge et ed fX gT bZ;obtain⟨cY,cZ,rfl⟩:=et.shape;obtain⟨dQ,dR,rfl⟩:=ed.shape;refine OV ?_;clear et ed fX gT bZ ac g;intro ls ij lF gE eI HB6 dK;refine wo 26 kr rfl fun g ac=>?_;refine PS ?_;clear ac g;show _;obtain⟨U,fx,jU,i9,ep,fC,j7⟩:∃U,(aY.alloc (.cells #[iZ,iZ,iZ,iZ,sZ,iZ,iZ,iZ,.bool false] 43))=U/\Hd (hA U (aY.heap.size) 43 [iZ,iZ,iZ,iZ,sZ,iZ,iZ,iZ,.bool false])/\Hd (hA U (aT.heap.size) 35 [sZ,iZ,iZ])/\Hd ((aY.heap.size)≠(aT.heap.size)/\aT.heap.size<=(aY.heap.size)/\aT.heap.size<=(aT.heap.size))/\Hd (hz U (.slice cY x.ls.length cZ) x.ls/\Sl .i64 U (.slice dQ q.bs.length dR) q.bs)/\Hd (BW aT U) :=
       ⟨_,rfl,(hR aY _ _ _ rfl),(hA.B (hA.B (hA.B (hR aT _ _ _ rfl) (hG bR)) eI.o) (hB bR _)),⟨by have:=HB6.size;have:=eI.size;simp only[wd,wa]at this;omega,oo HB6.size,oo HB6.size⟩,⟨ls.B ((hB bR _)),ij.B ((hB bR _))⟩,(hB HB6.o _)⟩
      have fD:Hd (hL [(aY.heap.size),(aT.heap.size)] (.slice cY x.ls.length cZ)/\hL [(aY.heap.size),(aT.heap.size)] (.slice dQ q.bs.length dR)):=by exact Ko
      exact Lb
     ·refine PS ?_;clear ac g;show _;refine wo 21 kr rfl fun g ac=>?_;refine SJ ?_;intro aY lv' ge et ed fX gT bZ;obtain⟨cY,cZ,rfl⟩:=et.shape;obtain⟨dQ,dR,rfl⟩:=ed.shape;refine OV ?_;clear et ed fX gT bZ ac g;intro ls ij lF gE eI HB6 dK;obtain⟨U,fx,jU,i9,ep,fC,j7⟩:∃U,aY=U/\Hd (hA U (aT.heap.size+1) 43 [iZ,iZ,iZ,iZ,sZ,iZ,iZ,iZ,.bool false])/\Hd (hA U (aT.heap.size) 35 [sZ,iZ,iZ])/\Hd ((aT.heap.size+1)≠(aT.heap.size)/\aT.heap.size<=(aT.heap.size+1)/\aT.heap.size<=(aT.heap.size))/\Hd (hz U (.slice cY x.ls.length cZ) x.ls/\Sl .i64 U (.slice dQ q.bs.length dR) q.bs)/\Hd (BW aT U) :=
       ⟨_,rfl,(hA.B (hA.B (hR (aT.alloc _) _ _ _ Is) (hG bR)) eI.o),(hA.B (hA.B (hA.B (hR aT _ _ _ rfl) (hB bR _)) (hG bR)) eI.o),⟨by have:=HB6.size;have:=eI.size;simp only[wd,wa]at this;omega,oo HB6.size,oo HB6.size⟩,⟨ls.B bR,ij.B bR⟩,HB6.o⟩
      have fD:Hd (hL [(aT.heap.size+1),(aT.heap.size)] (.slice cY x.ls.length cZ)/\hL [(aT.heap.size+1),(aT.heap.size)] (.slice dQ q.bs.length dR)):=by exact Ko
      exact Lb
   case rest =>
    clear S bN ai;obtain⟨f,ad,lv',ge,rfl,rfl,rfl,aa,bv,aA⟩:=hcut;by_cases a8:I=0
    ·subst a8;have av:=IB kc.o;obtain⟨d,rfl⟩:∃d,nE=some d:=by
      cases nE with
      | none=>simp at av
      | some d=>exact⟨d,rfl⟩
     have bO:d=x:=aV.o;subst bO;have L:O=({ aw with p:=q,X:=List.replicate n [],Y:=List.replicate n [],o:=aw.o++[d] },0):=by rw[<-a1.o];unfold BK;simp only;rw[aj.o];simp only;rw[if_neg Is];rw[a6.o];simp only;rw[if_neg Is];rw[kc.o];simp only;rw[em.1]
     subst L;clear av a1;have bf:Hd (BW R wc):=hJ o.o aA.o;have aF:=lh (i.B bf.o);have af:=lh (a9.B bf.o);obtain⟨P,K,rfl⟩:=aa.2.2.2.shape;obtain⟨cY,cZ,rfl⟩:=aa.2.2.1.shape;have b3:=af.cell 19;simp only[gz,gs]at b3;obtain⟨b6,aM,aP,-⟩:=aa.2.1.cS [0,1,2];obtain⟨ce,cg,bJ,-⟩:=af.fs [10,11,12];obtain⟨bK,cp,cf,-⟩:=af.cS [10,11,12];have bb:=af.lt;go_upto_region 13 with fail;obtain⟨l,bw,B,bx,ci,cm⟩:∃l,((wc.setCell (Ad e 10) (.slice P q.bs.length K)).setCell (Ad e 11) (iV q.c)).setCell (Ad e 12) (iV q.d)=l/\Hd (p4 A e ⟨ay,ts,al,an,az,ar,ax⟩ Q G (⟨aw.at',q,aw.rs,aw.X,aw.Y,aw.o⟩:RS) aZ l { tv:=.slice D ts.length z,lv:=M,pv:=.slice P q.bs.length K,rv:=.slice F aw.rs.length E,xv:=sL u 0 n n,yv:=sL y 0 n n,ov:=.slice t aw.o.length aE,bx:=u,bz:=y,xs:=a5,ys:=aC,vs:=J })/\Hd (hA l f 43 [iV d.n,iV d.fr,iV d.til,iV d.du,.slice cY d.ls.length cZ,iV d.tot,iV d.cr,iV d.mn,.bool d.g])/\Hd (Rd aZ l (fun W=>hz W (.slice cY d.ls.length cZ) d.ls))/\Hd (hT aZ w aZ l):=by
      have bp:hC [e] wc (((wc.setCell (Ad e 10) (.slice P q.bs.length K)).setCell (Ad e 11) (iV q.c)).setCell (Ad e 12) (iV q.d)):=(((hC.refl _ _).sg _).sg _).sg _;have aQ:∀x∈aZ,x<aT.heap.size:=fun x v=>Nat.lt_of_lt_of_le (i.lt x v).2 o.size;have cj:A<=aT.heap.size:=by have Z:=i.lt e i.gF;have ag:=o.size;omega
      have a':e≠f:=by have Z:=aQ e i.gF;have ag:=bv.2.1;omega
      have bW:hT aZ w aZ wc:=hT.B (hT.B (hT.B (hT.refl _ _) am.o) o.o) aA.o;have bq:hT aZ wc aZ (((wc.setCell (Ad e 10) (.slice P q.bs.length K)).setCell (Ad e 11) (iV q.c)).setCell (Ad e 12) (iV q.d)):=⟨bp.mono (fun x v=>by simp only[ms]at v;exact v▸i.gF),fun _ v=>.inl v⟩;exact⟨_,rfl,aF.store bp (k:=aw.at') (p:=q) (rs:=aw.rs) (pv:=.slice P q.bs.length K) (rv:=.slice F aw.rs.length E) (((af.set 10 _).set 11 _).set 12 _) ((aa.2.2.2.rd (bv.2.2.2.2.off aQ)).and (aF.rdSl.imp fun _ k=>k.2)) ⟨Hi.of_fr bv.2.2.2.2 cj,aF.hi.2.1⟩,((aa.1.setOther a'.symm _ _).setOther a'.symm _ _).setOther a'.symm _ _,bq.rd (aa.2.2.1.rd (bv.2.2.2.1.off aQ)),bW.trans bq⟩
     with_reducible rw[bw]
     clear bw bK cp cf ce cg bJ b3 b6 aM aP bb;have aO:Hd (∀a,BW l a->Ce a e 16 (.slice t aw.o.length aE)/\Ce a f 0 (iV d.n)/\Ce a f 1 (iV d.fr)/\Ce a f 2 (iV d.til)/\Ce a f 3 (iV d.du)/\Ce a f 4 (.slice cY d.ls.length cZ)/\Ce a f 5 (iV d.tot)/\Ce a f 6 (iV d.cr)/\Ce a f 7 (iV d.mn)/\Ce a f 8 (.bool d.g)):=fun a s=>by have cq:=B.blk.B s;have j:=bx.B s;exact⟨cq.cell 16,j.cell 0,j.cell 1,j.cell 2,j.cell 3,j.cell 4,j.cell 5,j.cell 6,j.cell 7,j.cell 8⟩
     have S:=aO.o l.drew (hG bR);have b0:=aO.o (l.alloc (.cells #[iV d.n,iV d.fr,iV d.til,iV d.du,.slice cY d.ls.length cZ,iV d.tot,iV d.cr,iV d.mn,.bool d.g] 43)).drew (hG (hB bR _));have aH:=lh B.o.o;have bP:Hd (A<=l.heap.size):=by have Z:=B.lt e B.gF;show A<=_;omega
     obtain⟨b',au,bl,bB,b2⟩:=info_parts GX;refine se (fun a=>Ce a e 16 (.slice t aw.o.length aE)/\Ce a f 0 (iV d.n)/\Ce a f 1 (iV d.fr)/\Ce a f 2 (iV d.til)/\Ce a f 3 (iV d.du)/\Ce a f 4 (.slice cY d.ls.length cZ)/\Ce a f 5 (iV d.tot)/\Ce a f 6 (iV d.cr)/\Ce a f 7 (iV d.mn)/\Ce a f 8 (.bool d.g)) 8 kr ?_;refine Ck ?_;show _;refine tK 5 rfl ?_;refine wo 6 kr rfl fun g ac=>?_;go_simp;refine ac.out _ _ (fun hun=>b0) ?_;clear ac g;try simp only[ap,aq,sa,sb,sc]
     refine wo 7 kr rfl fun g ac=>?_;refine DS rfl (.tmp 107) (.tmp 109) 61 rfl A 43 b' (.agg #[iZ,iZ,iZ,iZ,sZ,iZ,iZ,iZ,.bool false]) 9 88 underlying61 au bl bB b2 rfl Iv (.slice t aw.o.length aE) aw.o.length (n1 aw.o J) JF (ic aH.o (hG (hB bR _))) (Ad l.heap.size 0) 1 1 [iV d.n,iV d.fr,iV d.til,iV d.du,.slice cY d.ls.length cZ,iV d.tot,iV d.cr,iV d.mn,.bool d.g] JF rfl (D3 l _ _) G8 (by have:=em.2.2.2.2;unfold maxLen;omega) (oo em.2.2.2.2) (by rw[wd,wa];exact Nat.le_succ_of_le bP.o) ?_;intro cs m aX aG bs;obtain⟨ah,ak,rfl⟩:=ro aX om;have bu:=lh aX;have bA:=lh bs;have ao:Hd (hA m e 181 [iV ay,.slice D ts.length z,iV al,iV an,iV az,iV ar,iV ax,M,iV (aw.at':Int),iV G,.slice P q.bs.length K,iV q.c,iV q.d,.slice F aw.rs.length E,sL u 0 n n,sL y 0 n n,.slice t aw.o.length aE,.nilFunc,.nilFunc,.nilFunc]):=p7 (B.blk.B (hG (hB bR _))) aG (hh aH.o B.blk Iv);have aJ:Hd (hC (Value.slice t aw.o.length aE).ownBlock.toList l m):=hC.grown (hC.drew ((hC.refl _ _).alloc _)) aG (fun q co=>.inl (tl.2 co));have be:f∉(Value.slice t aw.o.length aE).ownBlock.toList:=fun a0=>by have Z:=B.outF f (tl.1 a0);have ag:=(i.lt f Z).2;have cv:=bv.2.1;have cy:=o.size;omega
     have bt:m.cell? (Ad e 16)=some (.slice t aw.o.length aE)/\m.cell? (Ad f 0)=some (iV d.n)/\m.cell? (Ad f 1)=some (iV d.fr)/\m.cell? (Ad f 2)=some (iV d.til)/\m.cell? (Ad f 3)=some (iV d.du)/\m.cell? (Ad f 4)=some (.slice cY d.ls.length cZ)/\m.cell? (Ad f 5)=some (iV d.tot)/\m.cell? (Ad f 6)=some (iV d.cr)/\m.cell? (Ad f 7)=some (iV d.mn)/\m.cell? (Ad f 8)=some (.bool d.g):=by have j:=bx.keep aJ.o be;exact⟨ao.cell 16,j.cell 0,j.cell 1,j.cell 2,j.cell 3,j.cell 4,j.cell 5,j.cell 6,j.cell 7,j.cell 8⟩
     clear aX aG bs be;refine ac.out _ _ (fun hun=>bt) ?_;clear ac g;try simp only[ap,aq,sa,sb,sc]
     refine wS 8 rfl ?_;refine wS 9 rfl ?_;have bI:=ao.frozen 16;refine wS 10 rfl ?_;clear bI bt S b0 au bl bB b2;refine r4 kr ?_ _;have bh:n1 aw.o J++[iV d.n,iV d.fr,iV d.til,iV d.du,.slice cY d.ls.length cZ,iV d.tot,iV d.cr,iV d.mn,.bool d.g]=n1 (aw.o++[d]) (J++[.slice cY d.ls.length cZ]):=by rw[Fk B.rd.now.2.2.2.2.length];simp[n1,ycb]
     obtain⟨a3,bQ⟩:=xg ((Value.slice (some (Ad ah 0)) (aw.o.length+1) ak).ownBlock.toList++aZ);obtain⟨a4,b8,C,bH⟩:∃a4,m.setCell (Ad e 16) (sL ah 0 (aw.o.length+1) ak)=a4/\Hd (p4 A e ⟨ay,ts,al,an,az,ar,ax⟩ Q G (⟨aw.at',q,aw.rs,aw.X,aw.Y,aw.o++[d]⟩:RS) a3 a4 { tv:=.slice D ts.length z,lv:=M,pv:=.slice P q.bs.length K,rv:=.slice F aw.rs.length E,xv:=sL u 0 n n,yv:=sL y 0 n n,ov:=sL ah 0 (aw.o.length+1) ak,bx:=u,bz:=y,xs:=a5,ys:=aC,vs:=J++[.slice cY d.ls.length cZ] })/\Hd (hT aZ l a3 a4):=by
      have cr:hC (e::(Value.slice t aw.o.length aE).ownBlock.toList) l (m.setCell (Ad e 16) (sL ah 0 (aw.o.length+1) ak)):=(aJ.mono (fun x v=>mo _ v)).sg _;have h:=B.grow (v':=sL ah 0 (aw.o.length+1) ak) (lv':=.slice cY d.ls.length cZ) (x:=d) cr (ao.set 16 _) (by have Z:=bu.o;rw[bh]at Z;exact t1 Z (hh Z ao.o (by decide)) _) (by
       rcases bA.o with I | I;·exact .inl I
       ·refine .inr ⟨_,I,?_⟩;rw[wd,wa];exact Nat.le_succ _) ci.o (Hi.of_fr bv.2.2.2.1 (by
         have Z:=i.lt e i.gF;have ag:=o.size
         omega))
      rw[bQ]at h;exact⟨_,rfl,h.1,h.2⟩
     with_reducible rw[b8]
     clear b8 bh ao aJ bA bu aH aO;go_wp2_with fail;refine(Lh e ⟨ay,ts,al,an,az,ar,ax⟩ _ M aw.at' G _ q _ _ _ _ n em.1 em.2.1 _ C.blk C.rd.now.1).mono ?_;rintro _ cx ⟨rfl,cu,cz,ju,da,bz,b9,b1,bC,bo⟩;have b5:=SD (n:=n) C.gF C.lt C.rd C.blk C.o.o C.outF ju da bz b9 b1 bC bo C.hi;have b4:=lh b5;clear b5 ju da bz b9 b1 bC bo;go_wp2_with fail;go_ret;exact⟨rfl,_,_,b4.1,cm.trans (bH.trans b4.2)⟩
    ·have L:O=(aw,I):=by
      have av:=IB kc.o;rw[decide_eq_false a8]at av;have ck:nE=none:=by cases nE with
       | none=>rfl
       | some d=>simp at av
      subst ck;rw[<-a1.o];unfold BK;simp only;rw[aj.o];simp only;rw[if_neg Is];rw[a6.o];simp only;rw[if_neg Is];rw[kc.o]
     subst L;have ct:(I != 0)=true:=ss a8;clear a8;go_wp2_with fail;go_ret;exact⟨rfl,aZ,_,(i.B o.o).B aA.o,hT.B (hT.B (hT.B (hT.refl _ _) am.o) o.o) aA.o⟩
  ·have L:O=(aw,T):=by rw[<-a1.o];unfold BK;simp only;rw[aj.o];simp only;rw[if_neg Is];rw[a6.o];simp only;rw[if_pos a2]
   subst L;have cw:(T != 0)=true:=ss a2;clear a2;go_wp2_with fail;go_ret;exact⟨rfl,aZ,_,i.B o.o,hT.B (hT.B (hT.refl _ _) am.o) o.o⟩
 ·have L:O=(aw,bG):=by rw[<-a1.o];unfold BK;rw[aj.o,if_pos aD]
  subst L;have c0:(bG != 0)=true:=ss aD;clear aD;go_wp2_with fail;go_ret;exact⟨rfl,aZ,V,i.o,hT.B (hT.refl _ _) am.o⟩
end
end Go.Proofs.YtkongpjpkpfniaaGreat

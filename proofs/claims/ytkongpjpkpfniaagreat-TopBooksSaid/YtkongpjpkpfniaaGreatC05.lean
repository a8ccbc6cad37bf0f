/- TopBooks, a part. -/
import Derived.ChangeArms
import Derived.Deep.Fields
import Derived.Deep.Slices
import Derived.Lib.SmallJoins
import Derived.OpenShut
import Derived.WideShapes
import Derived.Test.YtkongpjpkpfniaaGreatC04
set_option linter.unusedVariables false
set_option linter.unusedSimpArgs false
set_option maxRecDepth 100000
set_option maxHeartbeats 6400000
namespace Go.Proofs.YtkongpjpkpfniaaGreat
open Go.RowKit Go.Proofs.Tryz
variable {c d f:Int} {jQ r x:List Int} {n:Nat} {p q:Prop}
theorem Im (h:q:=by
 go_wp2_with (go_at_call 200;refine a0.mono ?_;rintro I fA ⟨rfl,rfl⟩)
 go_ret3
 exact⟨_,rfl,World.ownsRow_nil _ _ _ _,au⟩):q:=h
theorem Ho (h:q:=by go_wp2_with fail;go_quiet (fail);go_wp2_with fail;go_meet;case rel=>exact⟨by rw[y'.o (by simp[h5] ;have:=kc.o;omega)];go_num,DW lZ _⟩):q:=h
theorem JU (h:q:=by
 have kc:=lh cH;go_wp2_with fail;go_quiet (fail);go_wp2_with fail;go_roundg k;case measure=>omega
 case rel=>exact⟨k,nr _,by omega,rfl,za.o (by simp[h5,kc.o]),DW lZ _⟩):q:=h
theorem CR (x:Int) (aR:Bool) (iD:Hd (hj x=!aR)) (w):Calls prog 200 #[iV x] w (h3 (.bool aR) w):=by
 have h:=iD.o;by_cases a:0<=x
 ·by_cases b:x<=1000000000000000
  ·have I:aR=true:=by
    have au:hj x=false:=by simp[hj];omega
    rw[au]at h;revert h;cases aR <;> decide
   subst I;clear h iD;go_enter func200,ntmps200;go_wp2;go_ret;exact h3.mk _ _
  ·exact Cs
 ·exact Cs
theorem Jc (v X) (ai ab:List Int) (c:Int) (f:List Int×Int×Int) (D:Hd (x3 ai ab c=f)) (w) (Y:Sl .i64 w v ai) (V:Sl .i64 w X ab) (aW:ai.length<=1000) (aL:ab.length<=1000) :
 Calls prog 168 #[v,X,iV c] w (Ru f w):=by
 have ad:=lh Y;have L:=lh V;obtain⟨aH,aU,rfl,aT,⟨a2,_⟩,an⟩:=Y;obtain⟨aY,Q,rfl,aV,⟨a4,_⟩,a7⟩:=V;clear an a7;unfold maxLen at a2 a4;have a5:Hd (z3 ab ai.length=false->f=([],0,1)):=fun h=>by rw[<-D.o];simp only[x3,h];simp
 have ak:Hd (ai.any hj=true->f=([],0,1)):=fun h=>by rw[<-D.o];simp only[x3,h];simp
 have al:Hd (hj c=true->f=([],0,1)):=fun h=>by rw[<-D.o];simp only[x3,h];simp
 obtain⟨az,a8,ar,aC,er⟩:=info_parts Kr;go_enter func168,ntmps168;go_wp2_with fail;go_loopg [9] ab.length (fun g e wr=>∃k:Nat,k+g=ab.length/\e=iV k/\BW w wr/\Hd (o1 ab ai.length k=true));case atStart=>exact⟨0,by omega,rfl,bR,rfl⟩
 case round =>
  obtain⟨k,M,rfl,au,K⟩:=hrel;cases gk with
  | succ g =>
   have ch:(k:Int)<ab.length:=om;have bP:k<ab.length:=om;obtain⟨B,z,aG,rfl,R,bq⟩:=(L.B au).get (i:=k) bP;have H:Hd (o1 ab ai.length (k+1)=false->f=([],0,1)):=fun h=>a5.o (by
    cases I:z3 ab ai.length with
    | false=>rfl
    | true =>
     have:=Ke I (show k+1<=ab.length from bP);rw[h]at this
     cases this)
   have ax:k=0->wr.cell? (Ad B z)=some (iV aG):=fun I=>by subst I;exact R
   clear ax;by_cases S:aG<1;·obtain rfl:f=([],0,1):=H.o FX;have ao:decide (aG<1)=true:=ss S;go_wp2_with fail;go_quiet (fail);exact Ou
   ·have ao:decide (aG<1)=false:=ss S;by_cases aa:(ai.length:Int)<aG;·obtain rfl:f=([],0,1):=H.o (by simp only[o1,bq.o,show decide (aG<=(ai.length:Int))=false by simp;omega];simp);have ag:decide ((ai.length:Int)<aG)=true:=ss aa;go_wp2_with fail;go_quiet (fail);exact Ou
    ·have ag:decide ((ai.length:Int)<aG)=false:=ss aa;have aM:k<=Q:=om;have x:∀A,BW w A->Calls prog 202 #[sL B z k Q,iV aG] A (h3 (.bool ((ab.take k).contains aG)) A):=fun A aA =>
      Yo _ _ _ _ (lh rfl) _ ((L.B aA).lo om)
     cases s:(ab.take k).contains aG with
     | true=>rw[s]at x;have J:=lh x;obtain rfl:f=([],0,1):=H.o (by simp only[o1,bq.o,s];simp);clear x s;go_wp2_with fail;go_quiet ((go_at_call 202;exact Calls.quiet_of_same ((J.o _ (DW au _)).mono fun _ _ h=>⟨h.1,h.2.symm⟩)));exact Ou
     | false =>
      rw[s]at x;have J:=lh x;have y:=lh s;clear x s;go_wp2_with fail;go_quiet ((go_at_call 202;exact Calls.quiet_of_same ((J.o _ (DW au _)).mono fun _ _ h=>⟨h.1,h.2.symm⟩)));go_wp2_with fail;go_roundg g;case measure=>omega
      case rel=>exact⟨k+1,by omega,by go_num,DW au _,by show _=_;simp only[o1,bq.o,y.o,K.o];simp;omega⟩
  | zero =>
   have ch:¬((k:Int)<ab.length):=om;obtain rfl:k=ab.length:=om;obtain⟨l,am⟩:∃l:World,l=wr:=⟨_,rfl⟩;subst am;go_wp2_with fail;go_loopg [10] ai.length (fun g e wr=>∃k:Nat,k+g=ai.length/\e=iV k/\l=wr/\Hd (∀j,j<k->hj (ai.getD j 0)=false));case atStart=>exact⟨0,by omega,rfl,rfl,fun j r=>absurd r om⟩
   case round =>
    obtain⟨k,M,rfl,rfl,W⟩:=hrel;cases gk with
    | succ g =>
     refine QW ?_;intro ch bP;obtain⟨B,z,b,rfl,R,aj⟩:=(ad.B au).get (i:=k) bP;cases t:hj b with
     | true=>have a0:=CR b false (lh t) l;obtain rfl:f=([],0,1):=ak.o (by rw[List.any_eq_true];exact⟨b,by rw[<-aj.o];simp[List.getD,bP],t⟩);clear t;exact Im
     | false =>
      have a0:=CR b true (lh t) l;have aB:=lh t;clear t
      go_wp2_with (go_at_call 200;refine a0.mono ?_;rintro I fA ⟨rfl,rfl⟩)
      go_roundg g;case measure=>omega
      case rel=>exact⟨k+1,by omega,by go_num,rfl,fun j r=>by
       rcases Nat.lt_succ_iff_lt_or_eq.1 r with a3 | rfl;·exact W.o j a3
       ·rw[aj.o];exact aB.o⟩
    | zero =>
     have ch:¬((k:Int)<ai.length):=om;obtain rfl:k=ai.length:=om;have F:Hd (ai.any hj=false):=by show _=_;rw[List.any_eq_false];intro aG bq;obtain⟨j,r,rfl⟩:=List.getElem_of_mem bq;have:=W.o j r;simpa[List.getD,r] using this
     cases n:hj c with
     | true=>have a0:=CR c false (lh n) l;obtain rfl:f=([],0,1):=al.o n;clear n;exact Im
     | false =>
      have a0:=CR c true (lh n) l;have aw:Hd (f=((k2 ai ab c).1,(k2 ai ab c).2,0)):=by show _=_;rw[<-D.o];have aX:z3 ab ai.length=true:=K.o;simp only[x3,aX,F.o,n];simp
      have ay:=Dk n;clear n
      go_wp2_with (first
       | (go_at_call 200;refine a0.mono ?_;rintro I fA ⟨rfl,rfl⟩)
       | (at_make;refine wpList_make_full _ rfl _ _ 33 rfl w.heap.size 2 az (iZ) 1 underlying33 a8 ar aC _ _ _ _ ai.length rfl rfl rfl rfl BE RD au.size ?_;intro aE O ac))
      obtain⟨t7,a6,_,_,aD,t8,_⟩:=B0 O;refine Qp ?_;intro pa;have a1:BW w aE:=hJ au (D0 ac);have aP:=au.size;subst pa;clear O ac aD t8;have av:Hd (∀e,0<=(hg ai ab c e).2/\(hg ai ab c e).2<=c):=fun e=>DI ay.1 (fun b aj=>(DQ F.o b aj).1) e;go_loopg [2,12] ab.length (fun g a e wr=>∃(k:Nat) (o:List Value) (d:Int) (i:List Int),k+g=ab.length/\a=iV d/\e=iV k/\Hd (hg ai ab c k=(i,d))/\hA wr l.heap.size 2 o/\Hd (o=i.map (Value.int .i64))/\BW w wr);case atStart=>exact⟨0,_,c,List.replicate ai.length 0,by omega,rfl,rfl,rfl,a6,by show _=_;simp,a1⟩
      case round =>
       obtain⟨k,o,d,i,M,rfl,rfl,m8,u,y,af⟩:=hrel;have Z:=av.o k;rw[m8.o]at Z;simp only at Z;have G:Hd (o.length=ai.length):=by show _=_;rw[y.o];have:=Cd ai ab c k;rw[m8.o]at this;simpa using this
       cases gk with
       | succ g =>
        have ch:(k:Int)<ab.length:=om;have bP:k<ab.length:=om;obtain⟨aK,aQ,aG,rfl,aO,bq⟩:=(L.B af).get (i:=k) bP;have P:=NC K.o bP;rw[bq.o]at P;obtain⟨ah,rfl⟩:∃ah:Nat,aG=(ah:Int)+1:=⟨(aG-1).toNat,by omega⟩;have C:ah<ai.length:=om;obtain⟨B,z,b,rfl,aF,aj⟩:=(ad.B af).get (i:=ah) C;have aI:0<=b/\b<=1000000000000000:=by rw[<-aj.o];have:=DQ F.o ai[ah] (List.getElem_mem C);simpa[List.getD,C] using this
        obtain⟨aJ,aR⟩:=u.some (j:=ah) (by rw[G.o];exact C);have aS:=u.frozen ah;have ae:Hd (hg ai ab c (k+1)=(i.set ah (min d b),d-min d b)):=by exact IM
        have m:=lh (An u af);clear u af P;by_cases aN:d<=b
        ·have E:=lh (show min d b=d by omega);go_wp2_with fail;go_roundg g;case measure=>omega
         case rel=>exact⟨k+1,o.set ah (iV d),0,i.set ah d,by omega,rfl,by go_num,by show _=_;rw[ae.o,E.o,Int.sub_self],m.o.1.set ah _,by show _=_;rw[y.o];simp[List.map_set],m.o.2.setCell om _⟩
        ·have E:=lh (show min d b=b by omega);go_wp2_with fail;go_roundg g;case measure=>omega
         case rel=>exact⟨k+1,o.set ah (iV b),d-b,i.set ah b,by omega,rfl,by go_num,by show _=_;rw[ae.o,E.o],m.o.1.set ah _,by show _=_;rw[y.o];simp[List.map_set],m.o.2.setCell om _⟩
       | zero =>
        have ch:¬((k:Int)<ab.length):=om;obtain rfl:k=ab.length:=om;have T:k2 ai ab c=(i,d):=m8.o;obtain rfl:f=(i,d,0):=by rw[aw.o,T]
        have m:=lh (An u af);clear u af T;go_wp2_with fail
        go_ret3
        have a9:i.length=ai.length:=by have:=Cd ai ab c ab.length;rwa [m8.o]at this
        refine⟨_,rfl,?_,m.o.2⟩;simp only;rw[a9];refine D7 m.o.1 au.size (nr _) RD (by rw[G.o,Nat.mul_one]) ?_;rw[List.take_of_length_le (by rw[G.o,Nat.mul_one];exact nr _),y.o]
theorem Yx:(prog.info? 3).map (fun a=>(a.zero,a.size,a.bytes))=some (some (iZ),1,8):=by kernel_rfl
def h5 (c:Bool) (b a:Int):Bool:=if c then decide (a<b) else decide (b<a)
theorem S6 (a:Bool) (v) (aD:List Int) (w:World) (aj:Sl .i64 w v aD) (bf:aD.length<=1000) :
 Calls prog 203 #[v,.bool a] w (ET .i64 (hX (h5 a) aD aD.length) w):=by
 have S:=lh aj;obtain⟨aL,bd,rfl,bc,⟨a5,_⟩,X⟩:=aj;clear X;unfold maxLen at a5;obtain⟨aU,z,t,A,y⟩:=info_parts Yx;go_enter func203,ntmps203;go_wp2;go_loopg [5,6] aD.length (fun m l p wr=>∃n:Nat,n+m=aD.length/\p=iV n/\wr.ownsRow w.heap.size 3 1 l n ((hX (h5 a) aD n).map (Value.int .i64))/\BW w wr);case atStart=>exact⟨0,by omega,rfl,World.ownsRow_nil _ _ _ _,bR⟩
 case round =>
  obtain⟨n,aI,rfl,cJ,au⟩:=hrel;cases gk with
  | zero=>exact Rs
  | succ m =>
   have ch:((n:Int)<aD.length):=om;obtain⟨b,o,c,rfl,aT,ar⟩:=(S.B au).get (i:=n) om;have V:=au.size;have aa:Sl .i64 wr u5 (hX (h5 a) aD n):=Sl.of_own cJ (A2 _ _ _);have O:=lh aa;obtain⟨e,f,am,aE,⟨aA,_⟩,_⟩:=aa;rw[A2]at am aE;subst am;unfold maxLen at aA;have ab:=lh (An cJ au);have an:=lh V;obtain⟨wo,aC⟩:∃wo:World,wo=wr:=⟨_,rfl⟩;subst aC;clear cJ au V
   go_upto_block 2 with fail
   go_cut [7] (fun K E=>K=iV (bk (fun al=>h5 a c (aD.getD (al-1).toNat 0)) (hX (h5 a) aD n) n)/\BW wo E);case first =>
    go_wp2_with fail;go_loopg [7] n (fun m K E=>∃k:Nat,k<=m/\k<=n/\K=iV k/\Hd (bk (fun al=>h5 a c (aD.getD (al-1).toNat 0)) (hX (h5 a) aD n) k=bk (fun al=>h5 a c (aD.getD (al-1).toNat 0)) (hX (h5 a) aD n) n)/\BW wo E);case atStart=>exact⟨n,nr _,nr _,rfl,rfl,bR⟩
    case round =>
     obtain⟨k,be,u,rfl,Q,lZ⟩:=hrel;cases k with
     | zero=>go_wp2_with fail;go_quiet (fail);go_wp2_with fail;go_meet;case rel=>exact⟨by rw[<-Q.o];rfl,DW lZ _⟩
     | succ k =>
      have M:=A2 (h5 a) aD n;obtain⟨al,x⟩:=xg ((hX (h5 a) aD n).getD k 0);have aN:1<=al/\al<=n:=by rw[<-x];exact Fx om
      obtain⟨i,rfl⟩:∃i:Nat,al=(i:Int)+1:=⟨(al-1).toNat,by omega⟩;have d:BW w wr:=ab.2.trans (lZ.mono an.o);obtain⟨aR,aW,aB,av,aO,ay⟩:=(S.B d).get (i:=i) om;cases av;obtain⟨aP,aM,a7,a4,aS,aF⟩:=(O.B lZ).get (i:=k) om;subst a4;obtain rfl:(i:Int)+1=a7:=x.symm.trans aF.o;obtain⟨aQ,aY,aH,a0,aJ,a6⟩:=(S.B d).get (i:=n) om;cases a0;obtain rfl:c=aH:=ar.symm.trans a6.o;have aX:i<aD.length:=om;have s:((i:Int)+1-1).toNat=i:=om;have I:bk (fun al=>h5 a c (aD.getD (al-1).toNat 0)) (hX (h5 a) aD n) (k+1)=if h5 a c aB then bk (fun al=>h5 a c (aD.getD (al-1).toNat 0)) (hX (h5 a) aD n) k else k+1:=by simp only[bk,x,s,ay.o]
      have za:Hd (h5 a c aB=true->bk (fun al=>h5 a c (aD.getD (al-1).toNat 0)) (hX (h5 a) aD n) k=bk (fun al=>h5 a c (aD.getD (al-1).toNat 0)) (hX (h5 a) aD n) n):=fun h=>by rw[<-Q.o,I,h];rfl
      have y':Hd (h5 a c aB=false->bk (fun al=>h5 a c (aD.getD (al-1).toNat 0)) (hX (h5 a) aD n) n=k+1):=fun h=>by rw[<-Q.o,I,h];rfl
      clear I s M x;cases a
      ·by_cases cH:c<aB;·exact JU
       ·have kc:=lh cH;exact Ho
      ·by_cases cH:aB<c;·exact JU
       ·have kc:=lh cH;have bb:decide (aB<c)=false:=ss cH;clear cH;exact Ho
   case rest =>
    obtain⟨a2,lZ⟩:=hcut;subst a2;have D:=UG (fun al=>h5 a c (aD.getD (al-1).toNat 0)) (hX (h5 a) aD n) n;obtain⟨k,u⟩:=xg (bk (fun al=>h5 a c (aD.getD (al-1).toNat 0)) (hX (h5 a) aD n) n);rw[u]at D ⊢;have a3:=lh u;clear u;go_upto_region 8 with fail;have X:k<=f:=om;have ax:BW w wo:=ab.2;have ag:=an.o;have a':wo.heap.size<=wc.heap.size:=lZ.size;have ac:Hd (∀g,BW wo g->Sl .i64 g (.slice e k f) ((hX (h5 a) aD n).take k)):=fun g P=>(O.B P).lo D;have af:Hd (∀g,BW wo g->Sl .i64 g (.slice (if f=k then e else Option.map (fun c=>c.add k) e) (n-k) (f-k)) ((hX (h5 a) aD n).drop k)):=fun g P=>(O.B P).hi D;have L:=lh (A2 (h5 a) aD n)
    go_region_law (first
     | (refine EF _ rfl (.const (sZ)) (.tmp 61) 266 rfl wo.heap.size 3 aU (iZ) 1 8 underlying266 z t A y rfl Iv (sZ) 0 [] rfl (World.ownsRow_nil _ _ _ _) e k f (((hX (h5 a) aD n).take k).map (Value.int .i64)) ?_ ?_ (ac.o wo bR).none_cap ?_ (ints_oneCell _ _) ?_ ?_ ?_ ?_
        ·simp[Act.eval,Act.put]
        ·have:=L.o;simp;omega
        ·exact(ac.o _ (by first | exact lZ.drew | exact(lZ.drew).alloc GK _)).news
        ·unfold maxLen;omega
        ·omega
        ·first | (simp;omega) | omega
        intro W ak aK J aw;clear aw;have C:BW wo ak:=Below.grown (by first | exact lZ.drew | exact(lZ.drew).alloc GK _) J (by first | (simp;omega) | omega) (by intro q j;cases j)
        have aV:=C.size)
     | (refine EF _ rfl (.tmp 62) (.tmp 65) 266 rfl wo.heap.size 3 aU (iZ) 1 8 underlying266 z t A y rfl Iv W (0+k) ([]++((hX (h5 a) aD n).take k).map (Value.int .i64)) ?_ (aK.alloc _) (some (Ad ak.heap.size 0)) 1 1 [iV (IntKind.i64.wrap ((n:Int)+1))] ?_ rfl (by intro h;cases h) ?_ L2 ?_ ?_ ?_ ?_
        ·simp[Act.eval]
        ·simp[Act.eval]
        ·intro a9 F;cases F;exact cell_one_new _ _ _
        ·unfold maxLen;omega
        ·omega
        ·first | (simp;omega) | omega
        intro ah T r B R;clear R;have d:BW wo T:=Below.grown (C.alloc om _) B (by first | (simp;omega) | omega) (fun q j=>oo ((aK.lt q j).1))
        have ad:=d.size)
     | (refine EF _ rfl (.tmp 62) (.tmp 65) 266 rfl wo.heap.size 3 aU (iZ) 1 8 underlying266 z t A y rfl Iv W (0+k) ([]++((hX (h5 a) aD n).take k).map (Value.int .i64)) ?_ aK (some (Ad wc.heap.size 0)) 1 1 [iV (IntKind.i64.wrap ((n:Int)+1))] ?_ rfl (by intro h;cases h) ?_ L2 ?_ ?_ ?_ ?_
        ·simp[Act.eval]
        ·simp[Act.eval]
        ·intro a9 F;cases F;exact Uo J rfl
        ·unfold maxLen;omega
        ·omega
        ·first | (simp;omega) | omega
        intro ah T r B R;clear R;have d:BW wo T:=Below.grown C B (by first | (simp;omega) | omega) (fun q j=>oo ((aK.lt q j).1))
        have ad:=d.size)
     | (refine EF _ rfl (.tmp 66) (.tmp 69) 266 rfl wo.heap.size 3 aU (iZ) 1 8 underlying266 z t A y rfl Iv ah (0+k+1) ([]++((hX (h5 a) aD n).take k).map (Value.int .i64)++[iV (IntKind.i64.wrap ((n:Int)+1))]) ?_ r (if f=k then e else Option.map (fun c=>c.add k) e) (n-k) (f-k) (((hX (h5 a) aD n).drop k).map (Value.int .i64)) ?_ ?_ (af.o _ d).none_cap (af.o _ d).news (ints_oneCell _ _) ?_ ?_ ?_ ?_
        ·simp[Act.eval]
        ·simp[Act.eval]
        ·have:=L.o;simp;omega
        ·unfold maxLen;omega
        ·omega
        ·omega
        intro az G H Z a1;clear a1
        have ae:BW wo G:=d.grown Z ad (fun q j=>(r.lt q j).1)))
    all_goals
     have ao:BW w G:=ax.trans (ae.mono ag);have ai:G.ownsRow w.heap.size 3 1 az (n+1) ((hX (h5 a) aD (n+1)).map (Value.int .i64)):=by
      have s:IntKind.i64.wrap ((n:Int)+1)=(n:Int)+1:=IntWalk.i64_in _ om;have a8:0+k+1+(n-k)=n+1:=om;rw[a8]at H;have M:=L.o;have aG:hX (h5 a) aD (n+1)=(hX (h5 a) aD n).take k++[(n:Int)+1]++(hX (h5 a) aD n).drop k:=by simp only[hX,FZ,M,ar.o];rw[a3.o];simp[i3]
      rw[aG];refine E0 ?_ ag;simpa[s] using H
     have Y:=lh (An ai ao);clear ai aK r H J B Z C d ae ao;generalize (if f=k then e else Option.map (fun c=>c.add k) e)=aZ;go_wp2;go_roundg m;case measure=>omega
     case rel=>exact⟨n+1,by omega,by go_num,Y.1,Y.2⟩
theorem Vq (b) (a:List Int) (w) (d:Sl .i64 w b a) (g:a.length<=1000):Calls prog 201 #[b] w (ET .i64 (hX (h5 false) a a.length) w):=by
 go_enter func201,ntmps201
 go_wp2_with (go_at_call 203;refine(S6 false _ a _ d g).mono ?_;rintro j i ⟨c,rfl,f,e⟩)
 go_ret;exact⟨c,rfl,f,e⟩
theorem SY (b) (a:List Int) (w) (d:Sl .i64 w b a) (g:a.length<=1000):Calls prog 169 #[b] w (ET .i64 (hX (h5 true) a a.length) w):=by
 go_enter func169,ntmps169
 go_wp2_with (go_at_call 203;refine(S6 true _ a _ d g).mono ?_;rintro j i ⟨c,rfl,f,e⟩)
 go_ret;exact⟨c,rfl,f,e⟩
theorem Ix (h:q:=by clear Z ag bK;go_wp2_with fail;refine xb.mono ?_;rintro I fA ⟨rfl,rfl⟩;go_wp2_with fail;refine zb.mono ?_;exact J8):q:=h
theorem J8 (h:q:=by rintro I fA ⟨rfl,rfl⟩;go_wp2_with fail;refine a0.mono ?_;rintro I fA ⟨rfl,rfl⟩;go_wp2_with fail;go_meet;case rel=>exact⟨by rw[bz.o],rfl⟩):q:=h
theorem TK:h5 false=td:=by funext x y;simp[h5,td]
theorem Sz:h5 true=i4:=by funext x y;simp[h5,i4]
theorem X1 (h:∀i,i<jQ.length->1<=jQ.getD i 0/\jQ.getD i 0<=n) (dn:jQ.Nodup) (i:Nat) (a:i<=jQ.length):o1 jQ n i=true:=by exact PD
theorem Mh (b:Int->Int->Bool) (a:List Int) (c:a.length=n):z3 (hX b a a.length) n=true:=
 X1 (I2 b a c) (KO _ _ _) _ (nr _)
theorem Lj (e:z3 x r.length=true) (d:∀a∈r,0<=a/\a<=1000000000000000) (i:0<=c/\c<=1000000000000000):x3 r x c=((k2 r x c).1,(k2 r x c).2,0):=by
 have b:r.any hj=false:=by rw[List.any_eq_false];intro a g;have:=d a g;simp[hj];omega
 have f:hj c=false:=by simp[hj];omega
 simp only[x3,e,b,f];rfl
def BN (d:List Int) (c a:Int) (e:List Int) (b:Int):Bool:=e.length == d.length && !hj c && !hj a && !hj b
theorem Ql:k9 r c d x f=if (BN r c d x f && !r.any hj)=true then (l2 (k7 r x (min f d)).1 (k4 r x d f).1,min f d,(k4 r x d f).2,0) else ([],0,0,1):=by
 unfold k9 BN
 congr 1
 cases (x.length == r.length) <;> cases r.any hj <;> cases hj c <;> cases hj d <;> cases hj f <;> rfl
theorem Y4 (v u) (ai b3:List Int) (a cc ca:Int) (B:List Int×Int×Int×Int) (aJ:Hd (k9 ai a cc b3 ca=B)) (w:World) (aG:Sl .i64 w v ai) (a9:Sl .i64 w u b3) (af:ai.length<=1000) :
 Calls prog 166 #[.agg #[v,iV a,iV cc],u,iV ca] w (Gp B w):=by
 have ae:=lh aG;have aK:=lh a9;obtain⟨e,f,rfl,bF,⟨be,_⟩,_⟩:=aG;obtain⟨bI,b7,rfl,bH,⟨bg,_⟩,_⟩:=a9;unfold maxLen at bg be;obtain⟨aZ,bi,aU,bq,er⟩:=info_parts Kr;have L:(w.alloc (.cells #[.slice e ai.length f,iV a,iV cc] 35)).cell? (Ad w.heap.size 0)=some (.slice e ai.length f):=by simp[go_sem]
 have a4:(w.alloc (.cells #[.slice e ai.length f,iV a,iV cc] 35)).cell? (Ad w.heap.size 1)=some (iV a):=by simp[go_sem]
 have ar:(w.alloc (.cells #[.slice e ai.length f,iV a,iV cc] 35)).cell? (Ad w.heap.size 2)=some (iV cc):=by simp[go_sem]
 have C:BW w (w.alloc (.cells #[.slice e ai.length f,iV a,iV cc] 35)):=bL;have D:w.heap.size<(w.alloc (.cells #[.slice e ai.length f,iV a,iV cc] 35)).heap.size:=by simp only[wa];omega
 go_enter func166,ntmps166;go_upto_region 1 with fail;generalize (w.alloc (.cells #[.slice e ai.length f,iV a,iV cc] 35))=W0 at L a4 ar C D ⊢;go_cut [10] (fun V wr=>V=.bool (BN ai a cc b3 ca)/\W0=wr);case first =>
  by_cases l:b3.length=ai.length
  ·have aW:((b3.length:Int) == (ai.length:Int))=true:=by simp[l]
   have aB:=lh l;clear l;cases Z:hj a with
   | true =>
    have bz:Hd (BN ai a cc b3 ca=false):=by show _=_;simp only[BN,Z];simp
    have a0:=CR a false (lh Z) W0;clear Z
    go_wp2_with (go_at_call 200;refine a0.mono ?_;rintro I fA ⟨rfl,rfl⟩)
    go_meet;case rel=>exact⟨by rw[bz.o],rfl⟩
   | false =>
    have xb:=CR a true (lh Z) W0;cases ag:hj cc with
    | true =>
     have bz:Hd (BN ai a cc b3 ca=false):=by show _=_;simp only[BN,ag];simp
     have a0:=CR cc false (lh ag) W0;clear Z ag;go_wp2_with fail;refine xb.mono ?_;exact J8
    | false =>
     have zb:=CR cc true (lh ag) W0;cases bK:hj ca with
     | true =>
      have bz:Hd (BN ai a cc b3 ca=false):=by show _=_;simp only[BN,bK];simp
      have a0:=CR ca false (lh bK) W0;exact Ix
     | false =>
      have bz:Hd (BN ai a cc b3 ca=true):=by show _=_;have:=aB.o;simp only[BN,Z,ag,bK,this];simp
      have a0:=CR ca true (lh bK) W0;exact Ix
  ·have aW:((b3.length:Int) == (ai.length:Int))=false:=by simp;omega
   have bz:Hd (BN ai a cc b3 ca=false):=by show _=_;simp only[BN,show(b3.length == ai.length)=false by simpa using l];simp
   clear l;go_wp2_with fail;go_meet;case rel=>exact⟨by rw[bz.o],rfl⟩
 case rest =>
  obtain⟨a',bj⟩:=hcut;subst a';subst bj;go_wp2_with fail;go_loopg [10,11] ai.length (fun d V i wr=>∃k:Nat,k+d=ai.length/\i=iV k/\(∃t,V=.bool t/\Hd (t=(BN ai a cc b3 ca && !(ai.take k).any hj)))/\W0=wr);case atStart=>exact⟨0,by omega,rfl,⟨_,rfl,by show _=_;simp⟩,rfl⟩
  case round =>
   obtain⟨k,ah,rfl,⟨t,rfl,bz⟩,rfl⟩:=hrel;cases gk with
   | succ d =>
    refine QW ?_;intro ch bP;have az:ai.take (k+1)=ai.take k++[ai.getD k 0]:=by rw[List.take_succ_eq_append_getElem bP];simp[List.getD,bP]
    have ab:=lh az;clear az;cases t with
    | false =>
     go_wp2_with fail;go_roundg d;case measure=>omega
     case rel=>exact⟨k+1,by omega,by go_num,⟨false,rfl,by
      show _=_;have h:=bz.o;rw[ab.o,List.any_append];revert h
      cases BN ai a cc b3 ca <;> cases (ai.take k).any hj <;> simp⟩,rfl⟩
    | true =>
     obtain⟨b,o,x,rfl,b8,aj⟩:=(ae.B C).get (i:=k) bP;cases s:hj x with
     | true =>
      have a0:=CR x false (lh s) W0;have X:=lh s;clear s
      go_wp2_with (go_at_call 200;refine a0.mono ?_;rintro I fA ⟨rfl,rfl⟩)
      go_roundg d;case measure=>omega
      case rel=>exact⟨k+1,by omega,by go_num,⟨false,rfl,by
       show _=_;rw[ab.o,List.any_append,aj.o]
       simp[X.o]⟩,rfl⟩
     | false =>
      have a0:=CR x true (lh s) W0;have X:=lh s;clear s
      go_wp2_with (go_at_call 200;refine a0.mono ?_;rintro I fA ⟨rfl,rfl⟩)
      go_roundg d;case measure=>omega
      case rel=>exact⟨k+1,by omega,by go_num,⟨true,rfl,by
       show _=_;rw[ab.o,List.any_append,aj.o,bz.o]
       simp[X.o]⟩,rfl⟩
   | zero =>
    have ch:¬((k:Int)<ai.length):=om;obtain rfl:k=ai.length:=om;have r:=bz.o;rw[List.take_length]at r;cases t with
    | false =>
     obtain rfl:B=([],0,0,1):=by rw[<-aJ.o,Ql,<-r];rfl
     clear r;go_wp2_with fail;refine bodyPost_ret (IT rfl _ _ _) rfl ?_;exact⟨_,rfl,⟨PG _ _,x0⟩,C⟩
    | true =>
     have aI:Hd (B=(l2 (k7 ai b3 (min ca cc)).1 (k4 ai b3 cc ca).1,min ca cc,(k4 ai b3 cc ca).2,0)):=by show _=_;rw[<-aJ.o,Ql,<-r];rfl
     have b2:BN ai a cc b3 ca=true/\ai.any hj=false:=by revert r;cases BN ai a cc b3 ca <;> cases ai.any hj <;> decide
     have aE:=b2.2;have b2:=b2.1;simp only[BN,ba,beq_iff_eq,Bool.not_eq_true']at b2;obtain⟨⟨⟨l,bt⟩,aO⟩,aw⟩:=b2;have aB:=lh l;have b4:=Dk aO;have aw:=Dk aw;obtain⟨aa,dn⟩:=xg (min ca cc);have nD:0<=aa/\aa<=1000000000000000/\aa<=ca:=om;have bb:=lh dn;have ft:Hd (∀x∈ai,0<=x/\x<=1000000000000000):=DQ aE;refine HZ ?_;unhygienic intros
     have aX:Hd (B=(l2 cv fI,aa,nC,0)):=by show _=_;rw[aI.o,dn,dT,oB,qR]
     have cw:=lh (An qS (An qT pJ));have aS:Hd (x3 ai (hX td b3 b3.length) aa=(cv,im,0)):=by show _=_;rw[Lj (Mh _ _ l) ft.o ⟨nD.1,nD.2.1⟩,hI.o]
     have bc:Hd (x3 (hU ai cv) (hX i4 b3 b3.length) (ca-aa+im)=(fI,nC,0)):=by show _=_;rw[Lj (Mh _ _ (by rw[pJ];exact l)) gc.o om,qU.o]
     have aV:Hd (b3.length<=1000):=by show b3.length<=1000;omega
     refine DB ?_;intro ig rE;clear dT oA oB qR dn qS qT pJ r l bt aO aE hI qU aI;go_upto_region 9 with fail;have aC:(if cc<ca then cc else ca)=aa:=by rw[<-bb.o];split <;> omega
     rw[aC];clear aC;go_region_held3 (fun fA=>fA.cell? (Ad w.heap.size 0)=some (.slice e ai.length f)) (first | assumption | (simp[go_sem,L]))
      (first
       | (go_at_call 201;refine(Vq _ b3 _ (aK.B bL) aV.o).mono ?_;rintro I G ⟨bC,rfl,O,H⟩;rw[TK]at O;have a2:G.cell? (Ad w.heap.size 0)=some (.slice e ai.length f):=(H.cell (p:=(Ad w.heap.size 0)) D).trans L)
       | (go_at_call 168;refine(Jc _ _ ai (hX td b3 b3.length) aa _ aS _ (ae.B bL) O af ig.o).mono ?_;rintro I c ⟨aY,rfl,E,ad⟩;have a1:c.cell? (Ad w.heap.size 0)=some (.slice e ai.length f):=(ad.cell (p:=(Ad w.heap.size 0)) (by have:=H.size;exact Nat.lt_of_lt_of_le D this)).trans a2))
     rw[cw.1]at E;have ao:BW w c:=bL;have Q:=H.size;have a6:Sl .i64 c aY cv:=Sl.of_own E cw.1;obtain⟨A,n,rfl,wJ,vf,ay⟩:=C7 E;have wK:Hd (A=none->ai.length=0/\n=0):=a6.none_cap;have aF:Hd (0<ai.length->∃g,A=some (Ad g 0)/\w.heap.size<g/\g<c.heap.size/\hY c g n cv):=fun h=>by obtain⟨g,Z,ag,cV,fH,cG,mv⟩:=ay h;have m:hY c g n cv:=⟨cV,fH,cG,by rw[cw.1];exact mv⟩;exact⟨g,Z,by have:G.heap.size<=g:=ag;have:W0.heap.size<=G.heap.size:=Q;omega,m.lt,m⟩
     obtain⟨j,ak⟩:=DR aF.o;have al:=lh ak;have bo:w.heap.size<c.heap.size:=by have Z:W0.heap.size<=G.heap.size:=Q;have ag:=ad.size;omega
     clear ay E O H ad a2 Q C L a4 ar D a6 aF ak
     go_wp2_with (at_make;refine wpList_make_full _ rfl _ _ 33 rfl c.heap.size 2 aZ (iZ) 1 underlying33 bi aU bq _ _ _ _ ai.length rfl rfl rfl rfl BE RD (nr _) ?_;intro bw a7 aN)
     have aM:=D0 aN;obtain⟨t7,aA,_,_,bv,t8,_⟩:=B0 a7;refine Qp ?_;intro pa;have an:hY bw c.heap.size ai.length (List.replicate ai.length 0):=⟨t7,aA,by rw[pa];simp,by rw[pa];simp⟩;clear a7 aN aA bv t8 pa;have R:=lh (show(List.replicate ai.length (0:Int)).length=ai.length from by simp);have bx:Hd (∀P,BW c P->P.cell? (Ad w.heap.size 0)=some (.slice e ai.length f)):=fun P bp=>(bp.cell (p:=(Ad w.heap.size 0)) bo).trans a1;clear a1;go_loopg [17] ai.length (fun d i wr=>∃k:Nat,k+d=ai.length/\i=iV k/\hY wr c.heap.size ai.length (pn (hU ai cv) (List.replicate ai.length 0) k)/\BW c wr);case atStart=>exact⟨0,by omega,rfl,by rw[Dz];exact an,aM⟩
     case round =>
      obtain⟨k,ah,rfl,m,aE⟩:=hrel;cases gk with
      | succ d =>
       refine QW ?_;intro ch bP;have es:0<ai.length:=om;have a3:=hJ ao aE;have b0:=bx.o _ aE;obtain⟨rfl,bm,bh,av⟩:=al.o es;have aL:=av.B aE;obtain⟨b5,b9,x,rfl,b1,aj⟩:=(ae.B a3).get (i:=k) bP;have dU:=aL.cell (i:=k) (oo cw.1);have j2:=Ez (k:=k) cw.2.2 R.o (Nat.le_of_lt bP);have br:=m.cell (i:=k) om;have bE:=m.frozen k;have jd:=sB.o k bP;have K:=EM bP (show k<cv.length from oo cw.1);have F:=ft.o ai[k] (List.getElem_mem bP);have bA:ai[k]=ai.getD k 0:=by simp[List.getD,bP]
       rw[bA,aj.o]at F;rw[aj.o]at jd K;clear bA;generalize cv.getD k 0=y at dU K jd;generalize (pn (hU ai cv) (List.replicate ai.length 0) k).getD k 0=y5 at br;have T:=lh K;have S:=lh m;clear K m av aL j2 a3;go_wp2_with fail
       go_region
       go_wp2_with fail;go_roundg d;case measure=>omega
       case rel=>refine⟨k+1,by omega,by go_num,?_,(aE.setCell (nr _) _).drew⟩;have I:=Dl cw.2.2 R.o bP;rw[T.o]at I;rw[<-I];exact S.o.set k (x-y)
      | zero =>
       have ch:¬((k:Int)<ai.length):=om;obtain rfl:k=ai.length:=om;obtain⟨aH,aP⟩:∃aH:World,aH=wr:=⟨_,rfl⟩;subst aP;have W:=hJ ao aE;have aQ:Hd (Sl .i64 aH (sL c.heap.size 0 ai.length ai.length) (hU ai cv)):=by have h:=m;rw[EO cw.2.2 R.o]at h;exact h.sl cw.2.2 (nr _) RD
       have bf:Hd (0<ai.length->A=some (Ad j 0)/\w.heap.size<j/\j<aH.heap.size/\hY aH j n cv):=fun h=>by obtain⟨Z,ag,bK,J⟩:=al.o h;exact⟨Z,ag,(J.B aE).lt,J.B aE⟩
       clear m;go_wp2_with fail;refine(SY _ b3 _ (aK.B W) aV.o).mono ?_;rintro I bG ⟨b6,rfl,Y,M⟩;rw[Sz]at Y;have a5:im+ca-aa=ca-aa+im:=om;have aT:0<=im+ca-aa/\im+ca-aa<=1000000000000000:=om;have bu:=lh a5;clear a5;go_wp2_with fail;rw[bu.o];refine(Jc _ _ (hU ai cv) (hX i4 b3 b3.length) (ca-aa+im) _ bc _ (aQ.B M) Y (by rw[cw.2.2];exact af) rE.o).mono ?_;rintro I kz ⟨bl,rfl,aD,au⟩;have am:kz.ownsRow bG.heap.size 2 1 bl ai.length (fI.map (Value.int .i64)):=by have:=aD;simp only at this;rwa [cw.2.1]at this
       have ac:BW aH kz:=hJ M au;have bs:BW w kz:=hJ W ac;obtain⟨wy,tm,rfl,bB,bJ,tn⟩:=C7 am;refine Io ?_;unhygienic intros
       have m7:Hd (0<ai.length->A=some (Ad j 0)/\w.heap.size<=j/\j<bG.heap.size/\hY kz j n cv):=fun h=>by obtain⟨Z,ag,bK,J⟩:=bf.o h;exact⟨Z,Nat.le_of_lt ag,Nat.lt_of_lt_of_le bK M.size,J.B ac⟩
       have ax:(l2 cv fI).length=ai.length:=by unfold l2;rw[List.length_zipWith];have:=cw.o;omega
       have nO:=lh ax;clear lQ tn aD am eX M au ac aE Y ax W aT aM an;go_wp2_with fail;go_loopg [20] ai.length (fun d i wr=>∃k:Nat,k+d=ai.length/\i=iV k/\Hd (0<ai.length->hY wr j n (pn (l2 cv fI) cv k)/\hY wr uR tm fI)/\BW w wr);case atStart=>exact⟨0,by omega,rfl,fun h=>⟨by rw[Dz];exact(m7.o h).2.2.2,(r5.o h).2.2⟩,bs⟩
       case round =>
        obtain⟨k,ah,rfl,bd,aE⟩:=hrel;cases gk with
        | succ d =>
         refine QW ?_;intro ch bP;have es:0<ai.length:=om;obtain⟨rfl,bm,bh,_⟩:=m7.o es;obtain⟨rfl,bD,_⟩:=r5.o es;refine Rk ?_;intro ie l4 j2 dU kx fQ lP jd my;have F:=ft.o ai[k] (List.getElem_mem bP);have bA:ai[k]=ai.getD k 0:=by simp[List.getD,bP]
         rw[bA]at F;clear bA;generalize ai.getD k 0=x at jd F my;generalize cv.getD k 0=y at dU lP jd my;generalize fI.getD k 0=z at kx lP my;have T:=lh lP;have S:=lh (An ie l4);clear lP ie l4 j2;go_wp2_with fail
         go_region
         go_wp2_with fail;go_roundg d;case measure=>omega
         case rel=>obtain⟨ie,l4⟩:=S.o;refine⟨k+1,by omega,by go_num,fun h=>⟨?_,l4.setOther om _ _⟩,(aE.setCell (show w.heap.size<=j by omega) _).drew⟩;have I:=Dl nO.o cw.1 bP;rw[T.o]at I;rw[<-I];exact ie.set k (y+z)
        | zero =>
         have ch:¬((k:Int)<ai.length):=om;obtain rfl:k=ai.length:=om;have aR:Hd (Sl .i64 wr (.slice A ai.length n) (l2 cv fI)):=by exact F0
         clear bd;go_wp2_with fail;refine bodyPost_ret (IT rfl _ _ _) rfl ?_;rw[aX.o];exact⟨_,rfl,⟨aR.o,DV fun h=>⟨(m7.o h).1,(m7.o h).2.1⟩⟩,aE⟩
theorem TU (z O) (bs l:List Int) (c aa J a:Int) (H:l.length=bs.length) (ax:Hd (∀g,g<bs.length->0<=l.getD g 0/\l.getD g 0<=bs.getD g 0/\bs.getD g 0<=1000000000000000)) (t:c+J=a) (s:wrap64 a=a) (af:Hd (hW (hU bs l) a aa=true)) (Q:1<=bs.length) (K:bs.length<=1000) (w) (P:Sl .i64 w z bs) (M:Sl .i64 w O l) :
 Calls prog 167 #[.agg #[z,iV c,iV aa],O,iV J] w (t4 (hU bs l,a,aa,0) w):=by
 have R:=lh P;have ar:=lh M;obtain⟨aF,aC,rfl,a4,⟨W,_⟩,E⟩:=P;clear E;obtain⟨aJ,a0,rfl,aD,⟨am,_⟩,E⟩:=M;clear E;unfold maxLen at W am;refine FB ?_;unhygienic intros
 refine SW ?_;intro fN;have T:=lh (An Q K);have ac:=lh H;have ay:=lh (An t s);clear ct Q K H t s;go_enter func167,ntmps167;go_wp2_with fail;refine(HB _ bs c aa T.2 _ (R.B bi.o)).mono ?_;rintro _ bU ⟨a5,rfl,y,u⟩;rw[fN.o]at y;obtain⟨aA,bD,rfl,D,I,au⟩:=C7 y;obtain⟨aE,ai,aj,cV,nP,nQ,nR⟩:=au (oo T.1);subst ai;refine NZ ?_;unhygienic intros
 have a8:w.heap.size+2<=aE:=om;have ig:Hd (l.length=n):=ac.trans aK;rw[aK]at D ⊢;have v:=cj.B u;obtain⟨ab,A,av,-⟩:=v.fs [0,1,2];obtain⟨aI,m,j,-⟩:=v.cS [0,1,2];have ad:=lh v;have ag:=lh (bJ.B u);have ah:=lh (hJ bi.o u);clear v y u aK nP nQ nR aj cV bJ cj bi fN R;go_wp2_with fail;go_loopg [8] n (fun B i wr=>∃(k:Nat),k+B=n/\i=iV k/\Hd (hA wr w.heap.size 35 [sL aE 0 n bD,iV c,iV aa]/\hY wr aE bD (pn (hU bs l) bs k)/\hA wr (w.heap.size+1) 35 [sZ,iZ,iZ]/\BW w wr));case atStart=>refine⟨0,by omega,rfl,?_⟩;refine⟨((ad.set 0 _).set 1 _).set 2 _,?_,((ag.setOther om 0 _).setOther om 1 _).setOther om 2 _,p2 ah.o (nr _) _ _ _⟩;rw[Dz];exact((nb.setOther om 0 _).setOther om 1 _).setOther om 2 _
 case round =>
  obtain⟨k,a3,rfl,r⟩:=hrel;clear aI m j ab A av;have fa:Hd ((hU bs l).length=n):=by show _=_;unfold hU;rw[List.length_zipWith];have:=bd.o;have:=ig.o;omega
  cases gk with
  | succ B =>
   have V:(k:Int)<l.length:=oo ig.o;have bP:k<n:=om;have a2:(k:Int)<n:=om;obtain⟨fV,gP,e,d⟩:=r.o;obtain⟨a1,aG,C,rfl,a7,an⟩:=(ar.B d).get (i:=k) PX;refine JD ?_;intro j2 fT lI aI lW;have L:=ax.o k Pz;rw[an.o]at L lW;generalize bs.getD k 0=x at fT lW L;have ao:=lh lW;have f:=lh (An fV (An gP (An e d)));have a9:IntKind.i64.wrap (x-C)=x-C:=IntWalk.i64_in _ ⟨by omega,by omega⟩;clear lW gP fV e d j2 r;go_wp2_with fail
   go_region
   go_wp2_with fail;go_roundg B;case measure=>omega
   case rel=>refine⟨k+1,by omega,by go_num,?_⟩;obtain⟨fV,gP,e,d⟩:=f.o;refine⟨fV.setOther om _ _,?_,e.setOther om _ _,(d.setCell (show w.heap.size<=aE by omega) _).drew⟩;have S:=Dl fa.o bd.o bP;rw[ao.o]at S;rw[<-S];exact gP.set k (x-C)
  | zero =>
   obtain rfl:k=n:=om;have V:¬((k:Int)<l.length):=oo ig.o;obtain⟨fV,gP,e,d⟩:=r.o;rw[EO fa.o bd.o]at gP;obtain⟨aI,m,j,-⟩:=fV.cS [0,1,2];have A:=fV.frozen 1;obtain⟨t,s⟩:=ay.o;have aL:=fV.lt;have f:=lh (An fV (An gP (An e d)));clear fV gP e d r;go_wp2_with fail;refine(By _ (hU bs l) a aa _ af _ ?sl).mono ?_;case sl=>exact(f.2.1.setOther om 1 _).sl fa.o D I
   rintro _ Z ⟨rfl,o⟩;have F:=(f.2.2.1.setOther om 1 (iV a)).B o;obtain⟨ak,X,aw,-⟩:=F.cS [0,1,2];obtain⟨az,aH,a6,-⟩:=F.fs [0,1,2];have G:=(f.1.set 1 (iV a)).B o;clear aI m j A;obtain⟨aI,m,j,-⟩:=G.cs [0,1,2];simp only[List.set_cons_succ,List.set_cons_zero,gz,gs]at aI m j;have al:BW w Z:=(f.2.2.2.setCell (p:=(Ad w.heap.size 1)) (nr _) (iV a)).trans (o.mono GK);have Y:=lh ((f.2.1.setOther om 1 (iV a)).B o);have ae:=fa;clear F o G t s;go_wp2;refine bodyPost_ret (v:=.tuple #[.agg #[sL aE 0 k bD,iV a,iV aa],iZ]) (by simp[results,results167,go_sem,ak,X,aw]) rfl ⟨sL aE 0 k bD,rfl,⟨(((Y.setOther om 0 _).setOther om 1 _).setOther om 2 _).sl ae.o D I,DV fun _=>⟨rfl,by omega⟩⟩,p2 al om _ _ _⟩
def ES (d e:List Int) (c a b:Int):List Int×Int×Int×Int:=if hW (hU d e) (c+b) a=true then (hU d e,c+b,a,0) else ([],0,0,5)
theorem Nt (i k) (a d:List Int) (c f b:Int) (l:List Int×Int×Int×Int) (j:Hd (ES a d c f b=l)) (g:l.2.2.2=0) (n:d.length=a.length) (s:Hd (∀e,e<a.length->0<=d.getD e 0/\d.getD e 0<=a.getD e 0/\a.getD e 0<=1000000000000000)) (v:0<=c+b/\c+b<=9000000000000000) (u:1<=a.length) (o:a.length<=1000) (w) (t:Sl .i64 w i a) (p:Sl .i64 w k d) :
 Calls prog 167 #[.agg #[i,iV c,iV f],k,iV b] w (t4 l w):=by
 have j:=j.o;subst j;have r:wrap64 (c+b)=c+b:=wi _ ⟨by omega,by omega⟩;unfold ES at g ⊢;cases m:hW (hU a d) (c+b) f with
 | true=>rw[if_pos rfl];exact TU i k a d c f b _ n s rfl r m u o w t p
 | false=>rw[m]at g;simp at g
theorem VF (R u) (bs H:List Int) (c aa t:Int) (S:Hd (hW bs c aa=true)) (X:Hd (hO t=true)) (g:List Int) (W s j:Int) (au:Hd (k9 bs c aa H t=(g,W,s,0))) (v:aa-W=j) (m:List Int) (I V y:Int) (a5:Hd (ES bs g c j s=(m,I,V,y))) (aH:Hd (y=0)) (Z:bs.length<=1000) (w) (al:Sl .i64 w R bs) (aj:Sl .i64 w u H) :
 Calls prog 123 #[.agg #[R,iV c,iV aa],u,iV t] w (t4 (m,I,V,y) w):=by
 have T:=lh al;have aI:=lh aj;obtain⟨aF,aC,rfl,aQ,⟨a8,_⟩,G⟩:=al;clear G;obtain⟨aU,aL,rfl,aT,⟨aB,_⟩,G⟩:=aj;clear G;unfold maxLen at a8 aB;refine FB ?_;unhygienic intros
 clear ct;obtain⟨⟨aA,a7⟩,av,ac⟩:=Il S.o;obtain⟨⟨a3,a4⟩,ag⟩:=A1 S.o;have a0:=AZ.1 X.o;obtain⟨am,J,⟨aE,ax⟩,aJ⟩:=P5 au.o;have a6:Hd (∀e,e<bs.length->0<=g.getD e 0/\g.getD e 0<=bs.getD e 0/\bs.getD e 0<=1000000000000000):=fun e K=>⟨(J e K).1,(J e K).2,(ag e K).2⟩;have n:=lh (An ac (An Z (An am (An (show 0<=c+s by omega) (show c+s<=9000000000000000 by omega)))));have z:wrap64 j=j:=wi _ ⟨by omega,by omega⟩;have az:=lh (An v z);clear aA a7 av ac a3 a4 ag a0 am J aE ax aJ v z Z;go_enter func123,ntmps123;go_wp2_with fail;refine(By _ bs c aa true S _ (T.B bi.o)).mono ?_;rintro _ aP ⟨rfl,D⟩;have l:=hJ bi.o D;go_wp2_with fail;refine(CF X.o _).mono ?_;rintro _ ar ⟨rfl,rfl⟩;have f:=cj.B D;obtain⟨P,L,F,-⟩:=f.cS [0,1,2];have aD:=lh f;have ae:=lh (bJ.B D);clear f D;go_wp2_with fail;refine(Y4 _ _ bs H c aa t _ au _ (T.B l) (aI.B l) n.2.1).mono ?_;rintro _ ar ⟨q,rfl,⟨A,ah⟩,x⟩;simp only at A ⊢;have Y:=lh A;obtain⟨aq,ao,rfl⟩:=A.shape;have aS:=ae.lt;have a2:Hd (∀a d b k,(Value.slice aq g.length ao)=sL a d b k->0<b->a≠w.heap.size):=fun a d b k o r=>by have:=ah a d b k o r;omega
 clear P L F;have f:=aD.B x;obtain⟨P,L,F,-⟩:=f.cS [0,1,2];have aG:=f.frozen 2;have af:=lh f;have ad:=lh (ae.B x);have Q:=lh (hJ l x);obtain⟨v,z⟩:=az.o;clear f x l A ah;go_wp2_with fail;clear v z;obtain⟨i,an,aN,ai,ab,aw,ay⟩:∃i,(ar.setCell (Ad w.heap.size 2) (iV j))=i/\Hd (hA i w.heap.size 35 [.slice aF bs.length aC,iV c,iV j])/\Hd (hA i (w.heap.size+1) 35 [sZ,iZ,iZ])/\Hd (BW w i)/\Hd (Sl .i64 i (.slice aF bs.length aC) bs)/\Hd (Sl .i64 i (.slice aq g.length ao) g):=by refine⟨_,rfl,af.set 2 _,ad.setOther om _ _,Q.setCell (nr _) _,?_,Y.setCell a2.o _⟩;exact T.B (Q.setCell (nr _) _)
 with_reducible rw[an]
 clear an af ad Q P L F aG Y;refine(Nt _ _ bs g c j s _ a5 aH.o n.2.2.1 a6 ⟨n.2.2.2.1,n.2.2.2.2⟩ n.1 n.2.1 _ aw.o ay.o).mono ?_;rintro _ aK ⟨aO,rfl,⟨C,E⟩,M⟩;simp only at C ⊢;have a9:=lh C;obtain⟨B,ak,rfl⟩:=C.shape;have aM:=ai.o.lt;have a1:Hd (Fr w (.slice B m.length ak)):=fun a d b q o r=>nt ab.o.size (E a d b q o r);have O:Hd (∀a d b q,(Value.slice B m.length ak)=sL a d b q->0<b->a≠w.heap.size+1):=fun a d b q o r=>by have:=E a d b q o r;omega
 have l:=hJ ab.o M;have cP:=ai.o.B M;refine MZ ?_;unhygienic intros
 clear cP;clear M C E;go_wp2;refine bodyPost_ret (v:=.tuple #[.agg #[.slice B m.length ak,iV I,iV V],iV y]) (by simp[results,results123,go_sem,aR,bg,be]) rfl ⟨.slice B m.length ak,rfl,⟨((a9.setCell O.o _).setCell O.o _).setCell O.o _,a1.o⟩,p2 l om _ _ _⟩
theorem Zx (m p) (a f:List Int) (c b d:Int) (v:List Int) (s r:Int) (t:Hd (q3 a c b f d=(v,s,r,0))) (z:a.length<=1000) (w) (B:Sl .i64 w m a) (A:Sl .i64 w p f) :
 Calls prog 123 #[.agg #[m,iV c,iV b],p,iV d] w (t4 (v,s,r,0) w):=by
 have n:∀{e:Int},q3 a c b f d=([],0,0,e)->e≠0->False:=fun y x=>by have h:=t.o;rw[y]at h;injection h with _ h;injection h with _ h;injection h with _ h;exact x h
 cases k:hW a c b with
 | false=>exact(n (e:=1) (by unfold q3;rw[show pf a c b d []=1 by unfold pf;rw[if_pos k]];rfl) Iv).elim
 | true =>
  cases o:hO d with
  | false=>exact(n (e:=8) (by unfold q3;rw[show pf a c b d []=8 by unfold pf;rw[k,o];rfl];rfl) Iv).elim
  | true =>
   have u:pf a c b d []=0:=by unfold pf;rw[k,o];rfl
   obtain⟨l,g,i,e,j⟩:∃l g i e,k9 a c b f d=(l,g,i,e):=⟨_,_,_,_,rfl⟩;rcases KZ j with⟨rfl,_⟩ | ⟨rfl,rfl,rfl,rfl⟩
   ·have e:q3 a c b f d=ES a l c (b-g) i:=by
     unfold q3 ES;rw[u,j];simp only[ne_eq,not_true_eq_false,if_false]
    exact VF m p a f c b d k o l g i _ j rfl _ _ _ _ (e.symm.trans t.o) (lh rfl) z w B A
   ·exact(n (e:=1) (by unfold q3;rw[u,j];rfl) Iv).elim
theorem VO {q:Prop} (h:q:=by
 go_wp2_with fail;refine(HV x aG i7 i8 0 cK _).mono ?_;rintro _ _ ⟨rfl,rfl⟩;go_wp2_with fail
 go_ret3
 rw[vu.1,vu.2.1,vu.2.2];exact⟨rfl,rfl⟩):q:=h
theorem TG {q:Prop} (h:q:=by
 clear a0;go_wp2_with fail;refine(HV x aG i7 i8 0 cK _).mono ?_;rintro _ _ ⟨rfl,rfl⟩;go_wp2;go_roundg g;case measure=>omega
 case rel=>exact⟨k+1,ab+i7,dI+i8,aO+i7,cp+i8,by omega,by go_num,rfl,rfl,rfl,rfl,nh.o,cA.o,by omega,by omega,xf,mJ,rfl⟩):q:=h
theorem XK (e b:List Int) (c d:Int) (a:Nat) (i:a<=b.length):hg e (b++[c]) d a=hg e b d a:=by
 induction a with
 | zero=>rfl
 | succ a f =>
  have g:(b++[c]).getD a 0=b.getD a 0:=by simp[List.getD,List.getElem?_append_left (show a<b.length by omega)]
  simp only[hg,f om,g]
theorem jgv (c a:List Int) (b d:Int):k2 c (a++[b]) d=((k2 c a d).1.set (b-1).toNat (min (k2 c a d).2 (c.getD (b-1).toNat 0)),(k2 c a d).2-min (k2 c a d).2 (c.getD (b-1).toNat 0)):=by
 have e:(a++[b]).length=a.length+1:=by simp
 have f:(a++[b]).getD a.length 0=b:=by simp[List.getD]
 unfold k2;rw[e];simp only[hg,XK _ _ _ _ _ (nr _),f]
def g0 (bs:List Int) (a:Nat) (b:Int):List Int:=(List.replicate bs.length 0).set a (min b (bs.getD a 0))
def r0 (bs:List Int) (a:Nat) (b:Int):List Int:=bs.set a (bs.getD a 0-min b (bs.getD a 0))
theorem Dj {c:List Int} {b a:Nat} {d:Int} (e:b<c.length):(c.set b d).getD a 0=if b=a then d else c.getD a 0:=by
 simp only[List.getD_eq_getElem?_getD,List.getElem?_set];by_cases h:b=a;·simp[h,show a<c.length by omega]
 ·simp[h]
theorem Xl {bs d:List Int} {a:Nat} {b:Int} (k:a<bs.length) (hb:∀e∈bs,0<=e) (G:∀e∈d,1<=e/\e<=bs.length) (c:Nat) (K:c<=d.length) :
 (k2 bs (((a:Int)+1)::(d.take c).filter (fun e=>e != (a:Int)+1)) b).2=(hg (r0 bs a b) d (b-min b (bs.getD a 0)) c).2 /\
 (∀g,g<bs.length->(k2 bs (((a:Int)+1)::(d.take c).filter (fun e=>e != (a:Int)+1)) b).1.getD g 0=(g0 bs a b).getD g 0+(hg (r0 bs a b) d (b-min b (bs.getD a 0)) c).1.getD g 0) /\
 (hg (r0 bs a b) d (b-min b (bs.getD a 0)) c).1.getD a 0=0:=by
 have o:(r0 bs a b).length=bs.length:=by simp[r0]
 have u:∀e∈r0 bs a b,0<=e:=by
  intro e s;unfold r0 at s;rcases List.mem_or_eq_of_mem_set s with h | h;·exact hb e h
  ·subst h;omega
 have D:0<=b-min b (bs.getD a 0):=om;induction c with
 | zero =>
  have i:k2 bs [((a:Int)+1)] b=((List.replicate bs.length 0).set a (min b (bs.getD a 0)),b-min b (bs.getD a 0)):=by simp[k2,hg]
  simp only[List.take_zero,List.filter_nil,i,hg];refine⟨trivial,fun g j=>?_,by simp[List.getD,o,k]⟩;simp[g0,List.getD,o,j]
 | succ c F =>
  obtain⟨t,l,p⟩:=F om;have J:=DI (amount:=b-min b (bs.getD a 0)) D u (ks:=d) c;have I:=Cd (r0 bs a b) d (b-min b (bs.getD a 0)) c;obtain⟨f,r⟩:=xg (d.getD c 0);have m:d[c]' om=f:=by rw[<-r];simp[List.getD,show c<d.length by omega]
  have H:=G f (by rw[<-m];exact List.getElem_mem _);have z:(hg (r0 bs a b) d (b-min b (bs.getD a 0)) (c+1))=((hg (r0 bs a b) d (b-min b (bs.getD a 0)) c).1.set (f-1).toNat (min (hg (r0 bs a b) d (b-min b (bs.getD a 0)) c).2 ((r0 bs a b).getD (f-1).toNat 0)),(hg (r0 bs a b) d (b-min b (bs.getD a 0)) c).2-min (hg (r0 bs a b) d (b-min b (bs.getD a 0)) c).2 ((r0 bs a b).getD (f-1).toNat 0)):=by simp only[hg,r]
  have y:(d.take (c+1)).filter (fun e=>e != (a:Int)+1)=if (f != (a:Int)+1)=true then (d.take c).filter (fun e=>e != (a:Int)+1)++[f] else (d.take c).filter (fun e=>e != (a:Int)+1):=by
   rw[List.take_succ_eq_append_getElem om,m,List.filter_append];by_cases h:(f != (a:Int)+1)=true;·rw[if_pos h];simp[h]
   ·rw[if_neg h];simp[h]
  rw[z,y];have B:(r0 bs a b).getD a 0=bs.getD a 0-min b (bs.getD a 0):=by unfold r0;rw[Dj k,if_pos rfl]
  by_cases h:(f != (a:Int)+1)=true
  ·rw[if_pos h,<-List.cons_append,jgv];have v:(f-1).toNat≠a:=by simp at h;omega
   have x:(r0 bs a b).getD (f-1).toNat 0=bs.getD (f-1).toNat 0:=by unfold r0;rw[Dj k,if_neg om]
   rw[x,t];have C:(k2 bs (((a:Int)+1)::(d.take c).filter (fun e=>e != (a:Int)+1)) b).1.length=bs.length:=Cd _ _ _ _;refine⟨rfl,fun g j=>?_,?_⟩
   ·rw[Dj (by rw[C];omega),Dj om];by_cases i:(f-1).toNat=g
    ·rw[if_pos i,if_pos i];have:(g0 bs a b).getD g 0=0:=by
      unfold g0;rw[Dj (by simp;exact k),if_neg om];simp[List.getD,j]
     omega
    ·rw[if_neg i,if_neg i];exact l g j
   ·rw[Dj om,if_neg v];exact p
  ·rw[if_neg h];have E:(f-1).toNat=a:=by simp at h;omega
   have A:min (hg (r0 bs a b) d (b-min b (bs.getD a 0)) c).2 (bs.getD a 0-min b (bs.getD a 0))=0:=om;rw[E,B,A];refine⟨by rw[t];omega,fun g j=>?_,?_⟩
   ·rw[l g j,Dj om];by_cases i:a=g;·subst i;rw[if_pos rfl,p]
    ·rw[if_neg i]
   ·rw[Dj om,if_pos rfl]
theorem W6 {bs a:List Int} {b:Nat} {am:Int} (k:b<bs.length) (x:a.length=bs.length) (hb:∀d∈bs,0<=d) :
 (k2 bs (p5 a ((b:Int)+1)) am).2=(k2 (r0 bs b am) (hX i4 a a.length) (am-min am (bs.getD b 0))).2 /\
 (k2 bs (p5 a ((b:Int)+1)) am).1=l2 (g0 bs b am) (k2 (r0 bs b am) (hX i4 a a.length) (am-min am (bs.getD b 0))).1:=by
 have s:∀d∈hX i4 a a.length,1<=d/\d<=bs.length:=fun d p=>oo (HP p);have v:(hX i4 a a.length).length=a.length:=A2 _ _ _;obtain⟨g,f,_⟩:=Xl k hb s (hX i4 a a.length).length (nr _);rw[List.take_length]at g f;refine⟨g,?_⟩;have m:(k2 bs (p5 a ((b:Int)+1)) am).1.length=bs.length:=Cd _ _ _ _;have i:(k2 (r0 bs b am) (hX i4 a a.length) (am-min am (bs.getD b 0))).1.length=bs.length:=by have:=Cd (r0 bs b am) (hX i4 a a.length) (am-min am (bs.getD b 0)) (hX i4 a a.length).length;rw[show(r0 bs b am).length=bs.length by simp[r0]]at this;exact this
 have t:(g0 bs b am).length=bs.length:=by simp[g0]
 refine List.ext_getElem (by rw[m];unfold l2;rw[List.length_zipWith,t,i];exact(Nat.min_self _).symm) fun c o _=>?_;have j:c<bs.length:=om;have u:=f c j;have r:(k2 bs (p5 a ((b:Int)+1)) am).1.getD c 0=(k2 bs (p5 a ((b:Int)+1)) am).1[c]:=by simp[List.getD,o]
 rw[<-r];have l:∀(e:List Int) (h:c<e.length),e[c]=e.getD c 0:=fun e h=>by simp[List.getD,h]
 rw[l,Hs om om];exact u
theorem jfy (v u) (bs a4:List Int) (c aa f:Int) (b:Nat) (c2:Hd (pf bs c aa f [(b:Int)+1]=0)) (b9:a4.length=bs.length) (af:b<bs.length) (l d ae m ab:Int) (s:List Int) (A:List Int)
 (bq:Hd (bs.getD b 0=l)) (cb:min f l=d) (aG:f-d=ae) (ay:l-d=m) (hb:(0<=l/\l<=1000000000000000)/\(0<=f/\f<=1000000000000000)) (c3:Hd (x3 (bs.set b m) (hX i4 a4 a4.length) ae=(s,ab,0)))
 (B:Hd (s.length=bs.length/\l2 ((List.replicate bs.length 0).set b d) s=A/\∀Z,Z<bs.length->0<=A.getD Z 0/\A.getD Z 0<=bs.getD Z 0/\bs.getD Z 0<=1000000000000000)) (c1:Hd (0<=c+ab/\c+ab<=9000000000000000)) (J:List Int) (a1 aO al:Int) (cz:Hd (ES bs A c aa ab=(J,a1,aO,al))) (cG:Hd (al=0)) (W:bs.length<=1000) (w) (bF:Sl .i64 w v bs) (bB:Sl .i64 w u a4) :
 Calls prog 124 #[.agg #[v,iV c,iV aa],u,iV ((b:Int)+1),iV f] w (t4 (J,a1,aO,al) w):=by
 have D:=lh bF;have cH:=lh bB;obtain⟨aF,aC,rfl,dk,⟨c5,aK⟩,a0⟩:=bF;clear a0 aK;obtain⟨dq,cW,rfl,dn,⟨c8,aK⟩,a0⟩:=bB;clear a0 aK;unfold maxLen at c5 c8;refine On ?_;intro bJ;refine PC ?_;intro ct cj bi;clear ct;have cM:((a4.length:Int) != (bs.length:Int))=false:=by simp;omega
 have au:(if l<f then l else f)=d:=by split <;> omega
 have cK:=lh au;have H:wrap64 (l-d)=m:=by rw[ay];exact wi _ ⟨by omega,by omega⟩
 have K:IntKind.i64.wrap (l-d)=m:=by rw[ay];exact IntWalk.i64_in _ ⟨by omega,by omega⟩
 have Q:wrap64 (f-d)=ae:=by rw[aG];exact wi _ ⟨by omega,by omega⟩
 have T:IntKind.i64.wrap (f-d)=ae:=by rw[aG];exact IntWalk.i64_in _ ⟨by omega,by omega⟩
 have bT:0<=d/\d<=l:=om;have b7:=lh (An H (An K (An Q T)));have ca:=lh (An b9 (An af (An W (An hb bT))));obtain⟨bm,bD,aY,bO,b8⟩:=info_parts Ch;clear au H K Q T cb aG ay hb bT b9;go_enter func124,ntmps124;go_wp2_with fail;refine(S4 _ bs c aa _ f _ c2 _ (D.B bi.o)).mono ?_;refine Q1 ?_;unhygienic intros
 have cN:=lX.size;have cl:Hd (aF=none->bs.length=0/\aC=0):=D.none_cap;go_upto_region 8 with(at_make;refine wpList_make_full _ rfl _ _ 33 rfl a7.heap.size 2 bm (iZ) 1 underlying33 bD aY bO _ _ _ _ bs.length rfl rfl rfl rfl (by rw[b8];omega) (by unfold maxLen;omega) (nr _) ?_;intro aM aU bN;obtain⟨ah,b4,_,_,cJ,bp,_⟩:=B0 aU;have a8:ah=List.replicate bs.length (iZ):=(by rw[<-List.take_of_length_le (show ah.length<=bs.length*1 by omega),bp,Nat.mul_one];exact toList_madeCells_one _ _);have Y:BW a7 aM:=D0 bN;have aB:hY aM a7.heap.size bs.length (List.replicate bs.length 0):=⟨ah,b4,by rw[a8];simp,by rw[a8];simp⟩;have ak:=lh aB;have aD:=lh (hJ lX.o Y);have a5:=lh (eZ.B Y);have bj:=lh (f6.B Y);have b6:=lh (D.B (hJ lX.o Y));have di:=f6.lt;have cY:=aB.lt;obtain⟨C,z,cD,a'⟩:=b6.at (i:=b) af;subst cD;rw[bq.o]at a';have dj:=lh (show ∀e,BW w e->Sl .i64 e (sL C z bs.length aC) bs from fun e h=>D.B h);obtain⟨cn,cv,aP,aW⟩:=D.at (i:=b) af;obtain⟨rfl,rfl⟩:C=cn/\z=cv:=(ss aP);have cT:=ht aW;clear aP aW;have bx:=a5.o;clear aI aN aL;have aI:=bx.cell 0;have aN:=bx.cell 1;have aL:=bx.cell 2;simp only[gz,gs]at aI aN aL;clear bx a8 bp cJ b4 aB aU bN Y ah;have gk:=ak.cell (i:=b) (by simp;exact af);have cx:=ak.frozen b;have df:(b:Int)<bs.length:=om;have au:=cK.o)
 clear au;go_upto_region 9 with fail;obtain⟨e,bI,P,I,ad,F,aT⟩:∃e,(aM.setCell (Ad a7.heap.size b) (iV d))=e/\Hd (hY e a7.heap.size bs.length ((List.replicate bs.length 0).set b d))/\Hd (hA e w.heap.size 35 [sL C z bs.length aC,iV c,iV aa])/\Hd (hA e (w.heap.size+1) 35 [sZ,iZ,iZ])/\Hd (BW w e)/\Hd (Sl .i64 e (sL C z bs.length aC) bs) :=
  ⟨_,rfl,ak.set b d,a5.setOther om _ _,bj.setOther om _ _,aD.setCell om _,D.B (aD.setCell om _)⟩
 with_reducible rw[bI]
 clear bI aI aN aL gk cx a' ak a5 bj aD b6;have bx:=I.o;obtain⟨aI,aN,aL,-⟩:=bx.cS [0,1,2];clear bx;have dp:=P.o.lt;go_upto_region 10 with(at_builtin;refine Ba _ rfl (.const (sZ)) (.tmp 51) 33 rfl e.heap.size 2 bm (iZ) 1 8 underlying33 bD aY bO b8 rfl Iv (sZ) 0 [] rfl (World.ownsRow_nil _ _ _ _) (some (Ad C z)) bs.length aC (bs.map (Value.int .i64)) rfl Is cl.o aT.o.news (ints_oneCell _ _) RD om (nr _) ?_;intro ch a3 aZ bd cu;clear cu;have bU:=lh bd;have bS:=lh aZ;clear bd aZ)
 have X:=D0 bU.o;have bH:a3.ownsRow e.heap.size 2 1 ch bs.length (bs.map (Value.int .i64)):=by have h:=bS.o;rw[Nat.zero_add,List.nil_append]at h;exact h
 obtain⟨cR,b3,rfl,bA,b2,bX⟩:=C7 bH;obtain⟨am,c7,db,aV,bv,bP,bZ⟩:=bX om;subst c7;have ai:Hd (hY a3 am b3 bs):=⟨aV,bv,bP,bZ⟩;have bC:=lh (P.o.B X);have bQ:=lh (I.o.B X);have bY:=lh (ad.o.B X);have bW:=lh (hJ F.o X);have b':=ai.cell (i:=b) af;rw[bq.o]at b';have tf:=ai.frozen b;obtain⟨H,K,Q,T⟩:=b7.o;clear bX bv bP bZ aV bH bS bU X P I ad F aT aI aN aL K Q T;go_upto_region 11 with fail;clear H;obtain⟨y,bl,br,P,I,ad,F⟩:∃y,(a3.setCell (Ad am b) (iV m))=y/\Hd (hY y am b3 (bs.set b m))/\Hd (hY y a7.heap.size bs.length ((List.replicate bs.length 0).set b d))/\Hd (hA y w.heap.size 35 [sL C z bs.length aC,iV c,iV aa])/\Hd (hA y (w.heap.size+1) 35 [sZ,iZ,iZ])/\Hd (BW w y) :=
  ⟨_,rfl,ai.set b m,bC.setOther om _ _,bQ.setOther om _ _,bY.setOther om _ _,bW.setCell (show w.heap.size<=am by omega) _⟩
 with_reducible rw[bl]
 clear bl b' tf ai bC bQ bY bW;have bb:=lh (An bA b2);have bG:Hd ((bs.set b m).length=bs.length):=by show _=_;simp
 have cm:Hd ((hX i4 a4 a4.length).length<=1000):=by show _<=1000;rw[A2,ca.1];exact W
 clear bA b2;go_wp2_with fail;refine(SY _ a4 _ (cH.B F.o) (by rw[ca.1];exact W)).mono ?_;rintro _ ds ⟨dm,rfl,ao,S⟩;rw[Sz]at ao;obtain⟨dc,dd,rfl⟩:=ao.shape;have ce:=lh ao;have bK:=lh (br.o.B S);have ax:=lh (P.o.B S);have bt:=lh (I.o.B S);have aQ:=lh (ad.o.B S);have bo:=lh (hJ F.o S);obtain⟨H,K,Q,T⟩:=b7.o;clear ao S br P I ad F H K T;go_wp2_with fail;clear Q;have bu:=bK.o.sl bG.o bb.1 bb.2;refine(Jc _ _ (bs.set b m) (hX i4 a4 a4.length) ae _ c3 _ bu ce.o (by rw[bG.o];exact W) cm.o).mono ?_;rintro _ ck ⟨cU,rfl,az,ac⟩;simp only at az ⊢;obtain⟨dl,aw,rfl,b5,b0,bw⟩:=C7 az;obtain⟨a2,cI,c',bh,aX,bc,aS⟩:=bw (by rw[B.o.1];omega);subst cI;have cc:Hd (hY ck a2 aw s):=⟨bh,aX,bc,aS⟩;have cA:=lh (ax.o.B ac);have c0:=lh (bt.o.B ac);have c4:=lh (aQ.o.B ac);have c9:=lh (hJ bo.o ac);have cZ:=ax.o.lt;have cw:=lh (An b5 b0);clear bw aX bc aS bh az ac bu bK ax bt aQ bo b5 b0;have L:Hd (((List.replicate bs.length (0:Int)).set b d).length=bs.length):=by show _=_;simp
 have R:Hd (A.length=bs.length):=by show _=_;rw[<-B.o.2.1];unfold l2;rw[List.length_zipWith,L.o,B.o.1];exact Nat.min_self _
 have cr:a2≠a7.heap.size:=om;have a9:=B.o.1;have bz:=lh a9;have da:bs.length<=aw:=oo cw.1;rw[a9];clear a9;go_wp2_with fail;go_loopg [17] bs.length (fun g i wr=>∃k:Nat,k+g=bs.length/\i=iV k/\Hd (hY wr a7.heap.size bs.length (pn A ((List.replicate bs.length 0).set b d) k)/\hY wr a2 aw s/\hA wr w.heap.size 35 [sL C z bs.length aC,iV c,iV aa]/\hA wr (w.heap.size+1) 35 [sZ,iZ,iZ]/\BW w wr));case atStart=>exact⟨0,by omega,rfl,by rw[Dz];exact cA.o,cc.o,c0.o,c4.o,c9.o⟩
 case round =>
  obtain⟨k,cQ,rfl,aj⟩:=hrel;cases gk with
  | succ g =>
   have cg:(k:Int)<bs.length:=om;have r:k<bs.length:=om;obtain⟨j,E,aE,t,o⟩:=aj.o;have cy:=Ez (k:=k) R.o L.o (Nat.le_of_lt r);have bV:=j.cell (i:=k) om;rw[G4 R.o L.o r]at bV;have dh:=j.frozen k;have ci:=E.cell (i:=k) (by rw[bz.o];exact r);have M:=Hs (a:=(List.replicate bs.length 0).set b d) (b:=s) (i:=k) (by rw[L.o];exact r) (by rw[bz.o];exact r);rw[B.o.2.1]at M;have cF:=B.o.2.2 k r;generalize ((List.replicate bs.length 0).set b d).getD k 0=x at bV M;generalize s.getD k 0=y9 at ci M;rw[M]at cF;have cp:=lh M;have cd:=lh (An j (An E (An aE (An t o))));have dg:IntKind.i64.wrap (x+y9)=x+y9:=IntWalk.i64_in _ ⟨by omega,by omega⟩;clear M j E aE t o cy aj;go_wp2_with fail
   go_region
   go_wp2_with fail;go_roundg g;case measure=>omega
   case rel=>obtain⟨j,E,aE,t,o⟩:=cd.o;refine⟨k+1,by omega,by go_num,?_,E.setOther cr _ _,aE.setOther om _ _,t.setOther om _ _,(o.setCell (show w.heap.size<=a7.heap.size by omega) _).drew⟩;have G:=Dl R.o L.o r;rw[cp.o]at G;rw[<-G];exact j.set k (x+y9)
  | zero =>
   obtain rfl:k=bs.length:=om;have cg:¬((bs.length:Int)<bs.length):=om;obtain⟨j,E,aE,t,o⟩:=aj.o;rw[EO R.o L.o]at j;obtain⟨aI,aN,aL,-⟩:=aE.cS [0,1,2];have cB:=lh (D.B o);have cE:=lh (j.sl R.o (nr _) RD);have bf:=lh t;have b1:=lh o;have cq:1<=bs.length:=om;clear j E aE t o aj;go_wp2_with fail;refine(Nt _ _ bs A c aa ab _ cz cG.o R.o B.o.2.2 c1.o cq W _ cB.o cE.o).mono ?_;rintro _ cO ⟨cV,rfl,⟨ar,av⟩,aJ⟩;simp only at ar ⊢;have c6:=lh ar;obtain⟨an,ag,rfl⟩:=ar.shape;have cX:=bf.lt;have co:Hd (Fr w (.slice an J.length ag)):=fun bE V O q G a6=>nt b1.size (av bE V O q G a6);have aA:Hd (∀bE V O q,(Value.slice an J.length ag)=sL bE V O q->0<O->bE≠w.heap.size+1):=fun bE V O q G a6=>by have:=av bE V O q G a6;omega
   have cf:=hJ b1.o aJ;have cP:=bf.B aJ;refine MZ ?_;unhygienic intros
   clear cP aJ ar av;go_wp2;refine bodyPost_ret (v:=.tuple #[.agg #[.slice an J.length ag,iV a1,iV aO],iV al]) (by simp[results,results124,go_sem,aR,bg,be]) rfl ⟨.slice an J.length ag,rfl,⟨((c6.setCell aA.o _).setCell aA.o _).setCell aA.o _,co.o⟩,p2 cf om _ _ _⟩
theorem Zd (m s) (bs a:List Int) (g f i b:Int) (C:List Int) (x t:Int) (d:Hd (CB bs g f a i b=(C,x,t,0))) (K:bs.length<=1000) (w) (Q:Sl .i64 w m bs) (O:Sl .i64 w s a) :
 Calls prog 124 #[.agg #[m,iV g,iV f],s,iV i,iV b] w (t4 (C,x,t,0) w):=by
 have d:=d.o;unfold CB at d;by_cases j:pf bs g f b [i]=0
 ·rw[if_neg (by simp[j])]at d;by_cases k:a.length=bs.length
  ·rw[if_neg (by simp[k])]at d;obtain⟨y,V,T,r,I⟩:=Fp j;obtain⟨⟨Y,W⟩,E⟩:=A1 y;have A:=Ol (Ht y);have p:∀e∈bs,0<=e:=fun e l=>(DQ A e l).1;obtain⟨c,rfl⟩:∃c:Nat,i=(c:Int)+1:=⟨(i-1).toNat,by omega⟩;have o:c<bs.length:=om;have J:=E c o;obtain⟨P,L⟩:=W6 (am:=b) o k p;have X:=DI (bal:=bs) (ks:=p5 a ((c:Int)+1)) r p (p5 a ((c:Int)+1)).length;have v:(r0 bs c b).length=bs.length:=by simp[r0]
   have H:(k2 (r0 bs c b) (hX i4 a a.length) (b-min b (bs.getD c 0))).1.length=bs.length:=by have:=Cd (r0 bs c b) (hX i4 a a.length) (b-min b (bs.getD c 0)) (hX i4 a a.length).length;rw[v]at this;exact this
   have M:x3 (r0 bs c b) (hX i4 a a.length) (b-min b (bs.getD c 0))=((k2 (r0 bs c b) (hX i4 a a.length) (b-min b (bs.getD c 0))).1,(k2 (r0 bs c b) (hX i4 a a.length) (b-min b (bs.getD c 0))).2,0):=by
    refine SO ?_ ?_ om
    ·rw[v];refine TF (fun D z=>?_) (KO _ _ _) _ (nr _);have F:(hX i4 a a.length).getD D 0=(hX i4 a a.length)[D]:=by simp[List.getD,z]
     rw[F];have:=HP (List.getElem_mem z);omega
    ·rw[List.any_eq_false];intro e l;unfold r0 at l;have S:0<=e/\e<=1000000000000000:=by
      rcases List.mem_or_eq_of_mem_set l with h | h;·exact DQ A e h
      ·subst h;omega
     simp[hj];omega
   have R:(if hW (hU bs (k2 bs (p5 a ((c:Int)+1)) b).1) (g+(k2 bs (p5 a ((c:Int)+1)) b).2) f=true then
    (hU bs (k2 bs (p5 a ((c:Int)+1)) b).1,g+(k2 bs (p5 a ((c:Int)+1)) b).2,f,(0:Int)) else ([],0,0,5))=ES bs (k2 bs (p5 a ((c:Int)+1)) b).1 g f (k2 bs (p5 a ((c:Int)+1)) b).2:=rfl
   have G:=R.symm.trans d;refine jfy m s bs a g f b c j k o _ _ _ _ (k2 bs (p5 a ((c:Int)+1)) b).2 _ _ rfl rfl rfl rfl ⟨J,r,I⟩ (by rw[P];exact M) (lh ⟨H,L.symm,fun u B=>?_⟩) (lh ?_) _ _ _ _ G (lh rfl) K w Q O;·have:=ER (ks:=p5 a ((c:Int)+1)) r p (p5 a ((c:Int)+1)).length u B;exact⟨this.1,this.2,(E u B).2⟩
   ·have F:(k2 bs (p5 a ((c:Int)+1)) b).2=(hg bs (p5 a ((c:Int)+1)) b (p5 a ((c:Int)+1)).length).2:=rfl;omega
  ·rw[if_pos (by simp[k])]at d;injection d with _ h;injection h with _ h;injection h with _ h;cases h
 ·rw[if_pos j]at d;injection d with _ h;injection h with _ h;injection h with _ h;exact absurd h j
section
open Go.RowKit FlM
def sD (a:Int->Bool):List (Int×Nat×Nat)->Int
 | []=>0
 | p::l=>(if a p.1 then (p.2.1:Int) else 0)+sD a l
def sC (a:Int->Bool):List (Int×Nat×Nat)->Int
 | []=>0
 | p::l=>(if a p.1 then (p.2.2:Int) else 0)+sC a l
theorem GN (b:Int->Bool) (a:List (Int×Nat×Nat)):0<=sD b a/\0<=sC b a:=by
 induction a with
 | nil=>simp[sD,sC]
 | cons c a d=>simp only[sD,sC];constructor <;> (split <;> omega)
theorem jjv (b:Int->Bool) (a:List (Int×Nat×Nat)):sD b a<=sD (fun _=>true) a/\sC b a<=sC (fun _=>true) a:=by
 induction a with
 | nil=>simp[sD,sC]
 | cons c a d=>simp only[sD,sC,if_true];constructor <;> (split <;> omega)
theorem Ng {f:Int->Bool} {a:List (Int×Nat×Nat)} {b:Nat} {c:Int} {d e:Nat} (h:a.getD b (0,0,0)=(c,d,e)) (g:b<a.length) :
 sD f (a.drop b)=(if f c then (d:Int) else 0)+sD f (a.drop (b+1))/\sC f (a.drop b)=(if f c then (e:Int) else 0)+sC f (a.drop (b+1)):=by
 rw[List.drop_eq_getElem_cons g];have i:a[b]=(c,d,e):=by rw[<-h];simp[List.getD,g]
 rw[i];exact⟨rfl,rfl⟩
theorem OF {b a:Nat} (j:b<=1000000000000000) (e:a<=1000000000000000):DL (FlM.N b) (FlM.N a)=((b:Int),(a:Int),0):=by obtain⟨c,d⟩:=xg (DL (FlM.N b) (FlM.N a));obtain⟨k,m,l⟩:=c;obtain⟨g,f,i⟩:=L8 d (part_N _ j) (part_N _ e);rw[d,<-g,<-f,<-i]
def s7 (a:List (Int×Nat×Nat)):Prop:=sD (fun _=>true) a<=1000000000000000/\sC (fun _=>true) a<=1000000000000000
def D2 (a:List (Int×Nat×Nat)) (f:Int) (c:Bool) (e g d:Int):Prop:=(s7 a->sD (fun b=>c || b == f) a=e/\sC (fun b=>c || b == f) a=g/\d=0)/\(¬s7 a->e=0/\g=0/\d=5)
theorem Kx (W) (b:List (Int×Nat×Nat)) (c:Int) (d:Bool) (L J P:Int) (ac:Hd (Bn b)) (ag:b.length<=1000000)
 (X:Hd (D2 b c d L J P)) (w) (ad:r2 w W (vc b)) :
 Calls prog 45 #[W,iV c,.bool d] w (h3 (.tuple #[iV L,iV J,iV P]) w):=by
 have T:=lh ad;obtain⟨av,aw,rfl,t,⟨r,_⟩,B⟩:=ad;clear B;unfold maxLen at r;have O:(vc b).length=b.length:=by simp[vc]
 obtain⟨n,R⟩:=xg ((vc b).length);rw[R]at t O T ⊢;have bd:=lh R;have bp:=lh O;have a1:n<=1000000:=om;clear R O ag;go_enter func45,ntmps45;go_wp2_with fail;go_loopg [9] n (fun g D wr=>∃k:Nat,k+g=n/\D=iV k/\w=wr);case atStart=>exact⟨0,by omega,rfl,rfl⟩
 case round =>
  obtain⟨k,af,rfl,rfl⟩:=hrel;cases gk with
  | zero =>
   have H:¬((k:Int)<n):=om;go_wp2_with fail;go_loopg [13,14,15,16,17] n (fun g a Q x aG D wr=>∃(k:Nat) (ab dI aO cp:Int),k+g=n/\D=iV k/\a=iV ab/\Q=iV dI/\x=iV aO/\aG=iV cp/\(0<=ab/\ab<=1000000000000000)/\(0<=dI/\dI<=1000000000000000)/\(0<=aO/\aO<=ab)/\(0<=cp/\cp<=dI)/\Hd (ab+sD (fun _=>true) (b.drop k)=sD (fun _=>true) b/\dI+sC (fun _=>true) (b.drop k)=sC (fun _=>true) b)/\Hd (aO+sD (fun a=>d || a == c) (b.drop k)=sD (fun a=>d || a == c) b/\cp+sC (fun a=>d || a == c) (b.drop k)=sC (fun a=>d || a == c) b)/\w=wr);case atStart=>exact⟨0,0,0,0,0,by omega,rfl,rfl,rfl,rfl,rfl,by omega,by omega,by omega,by omega,⟨by rw[List.drop_zero,Int.zero_add],by rw[List.drop_zero,Int.zero_add]⟩,⟨by rw[List.drop_zero,Int.zero_add],by rw[List.drop_zero,Int.zero_add]⟩,rfl⟩
   case round =>
    obtain⟨k,ab,dI,aO,cp,af,rfl,rfl,rfl,rfl,rfl,z,E,I,M,v,u,rfl⟩:=hrel;cases gk with
    | zero =>
     have H:¬((k:Int)<n):=om;have V:Hd (aO=L/\cp=J/\P=0):=by have t:=u.o;have r:=v.o;rw[List.drop_of_length_le (oo bp.o)]at t r;simp only[sD,sC,Int.add_zero]at t r;have B:=X.o.1 ⟨by rw[<-r.1];exact z.2,by rw[<-r.2];exact E.2⟩;exact⟨t.1.trans B.1,t.2.trans B.2.1,B.2.2⟩
     clear v u z E I M;go_wp2_with fail
     go_ret3
     rw[V.1,V.2.1,V.2.2];exact⟨rfl,rfl⟩
    | succ g =>
     have H:(k:Int)<n:=om;obtain⟨Q,o,a,x,aG,rfl,ak,ai,K⟩:=(T.o).get (i:=k) Pz;obtain⟨F,G,l,m,A,ae⟩:=Ld (K.o) Fe ac.o;have cK:Hd (DL x aG=((F:Int),(G:Int),0)):=by show _=_;rw[<-l,<-m];exact OF A.1 A.2
     obtain⟨i7,i⟩:∃j:Int,(F:Int)=j:=⟨_,rfl⟩;obtain⟨i8,p⟩:∃j:Int,(G:Int)=j:=⟨_,rfl⟩;have s:=Ng (f:=fun _=>true) ae Fe;have C:=Ng (f:=fun a=>d || a == c) ae Fe;simp only[if_true]at s;have S:=GN (fun _=>true) (b.drop (k+1));have y:=v.o;have e:=u.o;rw[s.1,s.2]at y;rw[C.1,C.2]at e;have aa:0<=i7/\0<=i8:=om;rw[i,p]at y e cK;by_cases aj:1000000000000000<ab+i7\/1000000000000000<dI+i8
     ·have vu:=lh (X.o.2 (fun h=>o2 h.1 h.2));have a2:wrap64 (ab+i7)=ab+i7:=wi _ ⟨by omega,by omega⟩;have a3:wrap64 (dI+i8)=dI+i8:=wi _ ⟨by omega,by omega⟩;clear l m ae s C S y e i p v u z E I M aa;by_cases a4:1000000000000000<ab+i7;·exact VO
      ·have a5:1000000000000000<dI+i8:=om;clear aj;exact VO
     have xf:Hd (ab+i7+sD (fun _=>true) (b.drop (k+1))=sD (fun _=>true) b/\dI+i8+sC (fun _=>true) (b.drop (k+1))=sC (fun _=>true) b):=by refine⟨?_,?_⟩ <;> omega
     have Z:0<=ab+i7/\ab+i7<=1000000000000000:=om;have Y:0<=dI+i8/\dI+i8<=1000000000000000:=om;have nh:=lh Z;have cA:=lh Y;obtain⟨ar,ax⟩:=Z;obtain⟨an,a6⟩:=Y;obtain⟨az,am⟩:=I;obtain⟨ao,au⟩:=M;obtain⟨al,ay⟩:=aa;cases a0:(d || a == c) with
     | true =>
      have mJ:Hd (aO+i7+sD (fun a=>d || a == c) (b.drop (k+1))=sD (fun a=>d || a == c) b/\cp+i8+sC (fun a=>d || a == c) (b.drop (k+1))=sC (fun a=>d || a == c) b):=by rw[a0]at e;simp only[if_true]at e;refine⟨?_,?_⟩ <;> omega
      clear l m ae s C S y e i p v u z E;cases d with
      | true=>exact TG
      | false=>have ah:(a == c)=true:=ss a0;exact TG
     | false =>
      obtain rfl:d=false:=by
       cases d with
       | false=>rfl
       | true=>exact absurd a0 Is
      have ah:(a == c)=false:=ss a0;have mJ:Hd (aO+sD (fun a=>false || a == c) (b.drop (k+1))=sD (fun a=>false || a == c) b/\cp+sC (fun a=>false || a == c) (b.drop (k+1))=sC (fun a=>false || a == c) b):=by rw[a0]at e;simp only[Bool.false_eq_true,if_false]at e;refine⟨?_,?_⟩ <;> omega
      clear l m ae s C S y e i p v u z E a0;go_wp2_with fail;refine(HV x aG i7 i8 0 cK _).mono ?_;rintro _ _ ⟨rfl,rfl⟩;go_wp2;go_roundg g;case measure=>omega
      case rel=>exact⟨k+1,ab+i7,dI+i8,aO,cp,by omega,by go_num,rfl,rfl,rfl,rfl,nh.o,cA.o,by omega,by omega,xf,mJ,rfl⟩
  | succ g =>
   have H:(k:Int)<n:=om;obtain⟨Q,o,a,x,aG,rfl,ak,ai,K⟩:=(T.o).get (i:=k) Pz;obtain⟨F,G,l,m,A,ae⟩:=Ld (K.o) Fe ac.o;obtain⟨i7,i⟩:∃j:Int,(F:Int)=j:=⟨_,rfl⟩;obtain⟨i8,p⟩:∃j:Int,(G:Int)=j:=⟨_,rfl⟩;have cK:Hd (DL x aG=(i7,i8,0)):=by show _=_;rw[<-l,<-m,<-i,<-p];exact OF A.1 A.2
   clear l m ae i p;go_wp2_with fail;refine(HV x aG i7 i8 0 cK _).mono ?_;rintro _ _ ⟨rfl,rfl⟩;go_wp2;go_roundg g;case measure=>omega
   case rel=>exact⟨k+1,by omega,by go_num,rfl⟩
theorem Qv (k) (a:List (Int×Nat×Nat)) (c l:Int) (v:Hd (Bn a)) (t:a.length<=1000000) (m:Hd (s7 a))
 (p:Hd (sD (fun b=>false || b == c) a-sC (fun b=>false || b == c) a=l)) (w) (r:r2 w k (vc a)) :
 Calls prog 16 #[k,iV c] w (h3 (.tuple #[iV l,iZ]) w):=by
 obtain⟨e,i⟩:=xg (sD (fun b=>false || b == c) a);obtain⟨d,g⟩:=xg (sC (fun b=>false || b == c) a);have j:=GN (fun b=>false || b == c) a;have o:=jjv (fun b=>false || b == c) a;have s:sD (fun _=>true) a<=1000000000000000/\sC (fun _=>true) a<=1000000000000000:=m.o;have f:=p.o;rw[i,g]at j o f;obtain⟨E,F⟩:(0<=e/\e<=1000000000000000)/\(0<=d/\d<=1000000000000000):=om;have y:Hd (D2 a c false e d 0):=⟨fun _=>⟨i,g,rfl⟩,fun h=>absurd m.o h⟩;have x:=lh r;have z:=lh f;obtain⟨B,D,rfl,C,⟨A,_⟩,u⟩:=r;clear u i g j o s f p;go_enter func16,ntmps16;go_wp2_with fail;refine(Kx _ a c false e d 0 v t y _ x.o).mono ?_;rintro _ _ ⟨rfl,rfl⟩;go_wp2;go_ret2;rw[z.o];exact⟨rfl,rfl⟩
theorem VT (e) (a:List (Int×Nat×Nat)) (g:Hd (Bn a)) (m:a.length<=1000000) (j:Hd (s7 a))
 (f:Hd (sD (fun _=>true) a=sC (fun _=>true) a)) (w) (d:r2 w e (vc a)) :
 Calls prog 14 #[e] w (h3 (.bool true) w):=by
 obtain⟨b,c⟩:=xg (sD (fun _=>true) a);have i:Hd (D2 a 0 true b b 0):=⟨fun _=>⟨c,by rw[<-c];exact f.o.symm,rfl⟩,fun h=>absurd j.o h⟩;have k:=lh d;obtain⟨o,s,rfl,r,⟨p,_⟩,l⟩:=d;clear l c f;go_enter func14,ntmps14;go_wp2_with fail;refine(Kx _ a 0 true b b 0 g m i _ k.o).mono ?_;rintro _ _ ⟨rfl,rfl⟩;go_wp2;go_ret;exact⟨rfl,rfl⟩
def Ww (d:Int) (w:World) (e:Ending) (c:World):Prop:=(∃b a,e=.returned (.tuple #[.complex .f64 b a,iV d]))/\BW w c
theorem Uw (g) (a:List (Int×Nat×Nat)) (b:Int) (m:Hd (Bn a)) (j:a.length<=1000000) (c:Hd ((s7 a->b=0)/\(¬s7 a->b=5))) (w) (i:r2 w g (vc a)) :
 Calls prog 43 #[g] w (Ww b w):=by
 obtain⟨f,d,p⟩:∃f d,Hd (D2 a 0 true f d b):=by
  by_cases h:s7 a;·exact⟨_,_,fun h=>⟨rfl,rfl,c.o.1 h⟩,fun e=>absurd h e⟩
  ·exact⟨0,0,fun e=>absurd e h,fun h=>⟨rfl,rfl,c.o.2 h⟩⟩
 have k:b=0\/b=5:=by
  by_cases h:s7 a;·exact .inl (c.o.1 h)
  ·exact .inr (c.o.2 h)
 have o:=lh i;obtain⟨s,u,rfl,t,⟨r,_⟩,l⟩:=i;clear l c;go_enter func43,ntmps43;go_wp2_with fail;refine(Kx _ a 0 true f d b m j p _ o.o).mono ?_;rintro _ _ ⟨rfl,rfl⟩;rcases k with rfl | rfl;·go_wp2_with fail;go_ret2;exact⟨⟨_,_,rfl⟩,bR⟩
 ·go_wp2_with fail;go_ret2;exact⟨⟨_,_,rfl⟩,bR⟩
end
section
open Go.RowKit FlM
def pQ (b a:Int):List (Int×Nat×Nat):=if 0<a then [(b,a.toNat,0)] else if a<0 then [(b,0,(-a).toNat)] else []
def xd (bs cs:List Int):Nat->List (Int×Nat×Nat)
 | 0=>[]
 | a+1=>xd bs cs a++pQ ((a:Int)+1) (cs.getD a 0-bs.getD a 0)
theorem Rp {a:Int} (h:0<a) (b:a<=1000000000000000):CY a=FlM.N a.toNat:=by unfold CY;rw[if_neg om]
theorem IH (d a:Int) (h:-1000000000000000<=a/\a<=1000000000000000):vc (pQ d a)=BL d a:=by
 unfold pQ BL;by_cases b:0<a;·rw[if_pos b,if_pos b,Rp b h.2];simp[vc,N_zero]
 ·rw[if_neg b,if_neg b];by_cases c:a<0;·rw[if_pos c,if_pos c,Rp om om];simp[vc,N_zero]
  ·rw[if_neg c,if_neg c];rfl
theorem F9 (a b:List (Int×Nat×Nat)):vc (a++b)=vc a++vc b:=by simp[vc]
theorem Fz {b a:List (Int×Nat×Nat)} (f:Bn b) (e:Bn a):Bn (b++a):=by
 intro c d;rcases ma.1 d with h | h;·exact f c h
 ·exact e c h
theorem He (c b:Int) (h:-1000000000000000<=b/\b<=1000000000000000):Bn (pQ c b):=by
 unfold pQ;intro d a;split at a;·simp at a;subst a;exact⟨by show b.toNat<=_;omega,by show 0<=_;omega⟩
 ·split at a;·simp at a;subst a;exact⟨by show 0<=_;omega,by show(-b).toNat<=_;omega⟩
  ·simp at a
theorem LK (a b:Int):(pQ a b).length<=1:=by
 unfold pQ;split;·simp
 ·split <;> simp
theorem X9 (bs cs:List Int) (a:Nat):(xd bs cs a).length<=a:=by
 induction a with
 | zero=>simp[xd]
 | succ a b=>have:=LK ((a:Int)+1) (cs.getD a 0-bs.getD a 0);simp only[xd,la];omega
theorem FE (a:Int->Bool) (b c:List (Int×Nat×Nat)):sD a (b++c)=sD a b+sD a c/\sC a (b++c)=sC a b+sC a c:=by
 induction b with
 | nil=>simp[sD,sC]
 | cons e f d=>simp only[List.cons_append,sD,sC,d.1,d.2];omega
theorem F1 (a:Int->Bool) (b c:Int):sD a (pQ b c)=(if a b then max c 0 else 0)/\sC a (pQ b c)=(if a b then max (-c) 0 else 0):=by
 unfold pQ;by_cases e:0<c;·rw[if_pos e];simp only[sD,sC];cases a b <;> simp <;> omega
 ·rw[if_neg e];by_cases d:c<0;·rw[if_pos d];simp only[sD,sC];cases a b <;> simp <;> omega
  ·rw[if_neg d];simp only[sD,sC];cases a b <;> simp <;> omega
section
variable {bs cs:List Int} {n:Nat} (hb:bs.length=n) (hc:cs.length=n)
theorem Y5 (a:Nat) (h:∀b,b<a -> -1000000000000000<=cs.getD b 0-bs.getD b 0/\cs.getD b 0-bs.getD b 0<=1000000000000000):vc (xd bs cs a)=trP bs cs a/\Bn (xd bs cs a):=by
 induction a with
 | zero=>exact⟨rfl,fun j e=>by simp[xd]at e⟩
 | succ a f=>obtain⟨d,g⟩:=f fun b i=>h b om;have c:=h a om;exact⟨by rw[xd,trP,F9,d,IH _ _ c],Fz g (He _ _ c)⟩
theorem YB (c:Int) (a:Nat):sD (fun b=>false || b == c) (xd bs cs a)-sC (fun b=>false || b == c) (xd bs cs a)=if 1<=c/\c<=a then cs.getD (c-1).toNat 0-bs.getD (c-1).toNat 0 else 0:=by
 induction a with
 | zero=>rw[if_neg om];rfl
 | succ a d =>
  have b:=FE (fun b=>false || b == c) (xd bs cs a) (pQ ((a:Int)+1) (cs.getD a 0-bs.getD a 0));have e:=F1 (fun b=>false || b == c) ((a:Int)+1) (cs.getD a 0-bs.getD a 0);simp only[Bool.false_or,beq_iff_eq]at b e d ⊢;rw[xd,b.1,b.2,e.1,e.2];by_cases f:(a:Int)+1=c;·subst f;rw[if_neg om]at d;rw[if_pos rfl,if_pos rfl,if_pos om,show((a:Int)+1-1).toNat=a by omega];omega
  ·rw[if_neg f,if_neg f];by_cases g:1<=c/\c<=a;·rw[if_pos g]at d;rw[if_pos om];omega
   ·rw[if_neg g]at d;rw[if_neg om];omega
end
end
section
open Go.RowKit Go.ChangeShapes Go.WideShapes Go.Deep
def Bh (a:Int):Prop:=-9223372036854775808<=a/\a<=9223372036854775807
theorem CM {a:Int} (h:(Lit.int .i64 a).wf=true):Bh a:=by simp[Lit.wf,IntKind.min,IntKind.max,IntKind.signed,IntKind.bits]at h;exact h
section
variable {H:Type} {enc:TypeId×Value->H} {P:Program} {w:World} {base:Nat} {spare:Nat->Bool} {held:Bool}
theorem VP {o:Reach} {s:Nat} {e:TypeId} {c:Array Field} {f:Value} {v:DataW H} {t:List MemPlace} (k:P.underlying e=some (.struct c)) (A:oneCellFields P c=true) (n:P.cellsOf e=c.size)
 (B:Value.okWide P w o s e f) (h:DataW.Trod enc P w base spare held e f v t) :
 ∃b:Array Value,f=.agg b/\b.size=c.size/\∀(a:Nat) (d:Field),c[a]?=some d->∃(m:Value) (i:Nat) (x:DataW H×List MemPlace),b[a]?=some m/\DataW.trod enc P w base spare held i d.type [m]=some x:=by
 obtain⟨b,rfl,u⟩:=okWide_struct k B;obtain⟨G,y⟩:=h;obtain⟨F,i,_,_,_,E,p⟩:=DataW.trod_struct k y;refine⟨b,rfl,u.trans n,fun a d j=>?_⟩;obtain⟨z,r⟩:=hone_of A a d j;have D:a<c.size:=(Array.getElem?_eq_some_iff.1 j).1;have l:a<b.size:=om;have g:=p a d j;rw[z,r]at g;have C:((Value.agg b).cells.toList.drop a).take 1=[b[a]]:=by show(b.toList.drop a).take 1=_;rw[List.drop_eq_getElem_cons (ss l)];simp
 rw[C,List.getElem?_eq_getElem om]at g;exact⟨b[a],i,_,by simp[l],g⟩
theorem CU {b:IntKind} {c:TypeId} {g:Nat} {d:Value} {f:DataW H×List MemPlace} (i:P.underlying c=some (.int b)) (h:DataW.trod enc P w base spare held g c [d]=some f):∃a,d=.int b a/\(Lit.int b a).wf=true:=by obtain⟨a,j,_,e⟩:=DataW.trod_int i h;exact⟨a,by simpa using j,e⟩
end
theorem L9 {w:World} {a:Addr} {c:Value} (h:w.cell? a=some c):a.spot=none:=by
 unfold World.cell? at h;split at h
 ·split at h;·cases h
  ·rename_i b;simpa using b
 ·cases h
section
variable {H:Type} {enc:TypeId×Value->H} {w:World} {base:Nat} {spare:Nat->Bool} {held:Bool}
theorem YK {X:Nat} {n:Value} {C:DataW H×List MemPlace} (h:DataW.trod enc prog w base spare held X 22 [n]=some C):∃J:List (Int×Bool),h7 w n J/\∀b∈J,Bh b.1:=by
 rcases open_slice underlying22 h with⟨o,_⟩ | ⟨c,i,A,Z,ad,D,aj,aa,_,E,ab,Q,_,e⟩;·refine⟨[],?_,by simp⟩;obtain rfl:n=sZ:=ss o;exact Sy
 ·obtain rfl:n=.slice (some c) i A:=ss aa;have ai:i<=Z:=by
   rw[Q];split;·exact E
   ·exact nr _
  have u:prog.cellsOf 81=2:=by kernel_rfl
  have r:∀a,a<i->∃(b:Int) (g:Bool),w.cell? (c.add (a*2))=some (iV b)/\w.cell? (c.add (a*2+1))=some (.bool g)/\Bh b:=by
   intro a ae;obtain⟨F,K,R⟩:=e a om;rw[u]at K;obtain⟨k,l,_,_,W,M,ah⟩:=DataW.trod_struct underlying81 R;obtain⟨_,ak,v⟩:=World.cells?_some K;have V:F.length=2:=by rw[W,u]
   match F,V with
   | [p,m],_ =>
    have x:DataW.trod enc prog w base spare held l 2 (([p,m].drop 0).take (prog.cellsOf 2))=k[0]?:=ah 0 _ rfl;have y:DataW.trod enc prog w base spare held l 4 (([p,m].drop 1).take (prog.cellsOf 4))=k[1]?:=ah 1 _ rfl;have T:prog.cellsOf 2=1:=by kernel_rfl
    have ac:prog.cellsOf 4=1:=by kernel_rfl
    rw[T]at x;rw[ac]at y;have ag:k.length=2:=M;have g0:DataW.trod enc prog w base spare held l 2 [p]=some (k[0]' om):=by rw[<-List.getElem?_eq_getElem om];exact x
    have Y:DataW.trod enc prog w base spare held l 4 [m]=some (k[1]' om):=by rw[<-List.getElem?_eq_getElem om];exact y
    obtain⟨b,rfl,s⟩:=CU underlying2 g0;obtain⟨d,S,_⟩:=DataW.trod_bool underlying4 Y;obtain rfl:m=.bool d:=ss S;refine⟨b,d,?_,?_,CM s⟩;·have:=v 0 om;rw[Go.Deep.add_add]at this;simpa using this
    ·have:=v 1 om;rw[Go.Deep.add_add]at this;simpa using this
  refine⟨(List.range i).map fun a=>((match w.cell? (c.add (a*2)) with | some (.int _ b)=>b | _=>0),(match w.cell? (c.add (a*2+1)) with | some (.bool g)=>g | _=>false)),?_,?_⟩
  ·refine⟨some c,A,by simp,by simpa using E,⟨ab,fun t=>by cases t⟩,fun O=>?_⟩;have o:0<i:=by
    rcases Nat.eq_zero_or_pos i with h | h;·subst h;simp at O
    ·exact h
   obtain⟨b,g,f,_,_⟩:=r 0 o;have I:c.spot=none:=by
    have t:c.add (0*2)=c:=by simp[Addr.add]
    rw[t]at f;exact L9 f
   obtain⟨d,j,af⟩:=c;simp only at I;subst I;refine⟨d,j,rfl,fun a e=>?_⟩;simp only[List.length_map,List.length_range]at e;obtain⟨b,g,f,B,_⟩:=r a e;have z:((Ad d j):Addr).add (a*2)=(Ad d (j+a*2)):=Addr.add_lit _ _ _;have L:((Ad d j):Addr).add (a*2+1)=(Ad d (j+a*2+1)):=Addr.add_lit _ _ _;rw[z]at f;rw[L]at B;simp[List.getD,e,z,L,f,B]
  ·intro C G;simp only[List.mem_map,List.mem_range]at G;obtain⟨a,e,rfl⟩:=G;obtain⟨b,g,f,_,s⟩:=r a e;simpa[f] using s
theorem open_terms {r:Reach} {C:Nat} {e:Value} {L:DataW H} {G:List MemPlace} (Y:Value.okWide prog w r C 24 e) (h:DataW.Trod enc prog w base spare held 24 e L G) :
 ∃(g:Int) (k:Value) (c:List (Int×Bool)) (n f i m l:Int),e=.agg #[iV g,k,iV n,iV f,iV i,iV m,iV l]/\h7 w k c/\(∀A∈c,Bh A.1)/\Bh g/\Bh n/\Bh f/\Bh i/\Bh m/\Bh l:=by
 obtain⟨ab,rfl,K,b⟩:=VP underlying24 kr kr Y h;obtain⟨ai,_,_,g0,u⟩:=b 0 _ rfl;obtain⟨J,_,_,O,j⟩:=b 1 _ rfl;obtain⟨ac,_,_,B,d⟩:=b 2 _ rfl;obtain⟨ad,_,_,aa,R⟩:=b 3 _ rfl;obtain⟨ah,_,_,M,D⟩:=b 4 _ rfl;obtain⟨ae,_,_,X,F⟩:=b 5 _ rfl;obtain⟨ag,_,_,p,W⟩:=b 6 _ rfl;obtain⟨o,rfl,E⟩:=CU underlying2 u;obtain⟨c,v,Q⟩:=YK j;obtain⟨S,rfl,V⟩:=CU underlying3 d;obtain⟨x,rfl,s⟩:=CU underlying3 R;obtain⟨t,rfl,z⟩:=CU underlying2 D;obtain⟨T,rfl,I⟩:=CU underlying2 F;obtain⟨Z,rfl,y⟩:=CU underlying3 W;refine⟨o,J,c,S,x,t,T,Z,?_,v,Q,CM E,CM V,CM s,CM z,CM I,CM y⟩
 congr 1
 apply Array.ext;·simpa using K
 ·intro a j d;have af:a<7:=ss d;have:a=0\/a=1\/a=2\/a=3\/a=4\/a=5\/a=6:=om;rcases this with rfl | rfl | rfl | rfl | rfl | rfl | rfl;·simpa using (Array.getElem?_eq_some_iff.1 g0).2
  ·simpa using (Array.getElem?_eq_some_iff.1 O).2
  ·simpa using (Array.getElem?_eq_some_iff.1 B).2
  ·simpa using (Array.getElem?_eq_some_iff.1 aa).2
  ·simpa using (Array.getElem?_eq_some_iff.1 M).2
  ·simpa using (Array.getElem?_eq_some_iff.1 X).2
  ·simpa using (Array.getElem?_eq_some_iff.1 p).2
end
end
end Go.Proofs.YtkongpjpkpfniaaGreat

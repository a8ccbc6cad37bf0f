/- TopBooks, a part. -/
import Derived.IntWalk
import Derived.Lib.SliceRun
import Derived.Deep.RegionHeld3
import Derived.Deep.CutBlock
import Derived.Deep.DeepCutAuto
import Derived.Test.YtkongpjpkpfniaaGreatC01
set_option linter.unusedVariables false
set_option linter.unusedSimpArgs false
set_option maxRecDepth 100000
set_option maxHeartbeats 6400000
namespace Go.Proofs.YtkongpjpkpfniaaGreat
open Go.RowKit Go.Proofs.Tryz
variable {D:Bool} {ah c d f y z:Int} {K:IntKind} {r:List Int} {C:List Value} {i j k m n:Nat} {p q:Prop} {e:TypeId} {u v:Value} {W Y Z w:World}
theorem J2 (h:q:=by rintro I a7 ⟨rfl,rfl⟩;go_wp2;go_step3;go_step;go_step;exact iG.o _ _ (hP (hP (hP (hP (hP (hP ⟨_,_,_,_,_,_,_,_,_,rfl,cG,au⟩))))))):q:=h
theorem Qq (h:q:=by go_wp2_with fail;refine(CV lS.o _).mono ?_;rintro _ a7 ⟨rfl,rfl⟩;go_wp2_with fail;refine(CV vh.o _).mono ?_;rintro _ a7 ⟨rfl,rfl⟩;go_wp2;go_ret;exact⟨rfl,bm⟩):q:=h
theorem JQ (h:q:=by go_wp2;go_step3;exact⟨rfl,dM.o _ _ (hP (hP (hP (hP (hP (hP ⟨_,_,_,_,_,_,_,_,_,rfl,cG,bm⟩))))))⟩):q:=h
def BV (a:List (Int×Bool)):Bool:=a.all (fun b=>h0 b.1 0 10000000)
def hu (b:Int) (a:List (Int×Bool)) (c e d f g:Int):Bool :=
 h0 b 0 1000000000000000 && h0 a.length 1 8 && BV a && (h0 c 1 28 && h0 e 1 25) &&
  h0 d 0 1000000000000000 && h0 f 0 1000 && h0 g (-135140) 2922896
theorem B9:h0 c d f=true↔d<=c/\c<=f:=by simp[h0]
theorem MY:h0 c d f=false↔c<d\/f<c:=by rw[<-Bool.not_eq_true,B9];omega
theorem UE {a:List (Int×Bool)} (b:n<a.length) (d:a.getD n (0,false)=(c,D)) (h:h0 c 0 10000000=false):BV a=false:=by unfold BV;rw[List.all_eq_false];refine⟨(c,D),?_,by simp[h]⟩;rw[<-d];simp[List.getD,b]
theorem Y8 {a:List (Int×Bool)} (h:∀a8,a8<a.length->h0 (a.getD a8 (0,false)).1 0 10000000=true):BV a=true:=by unfold BV;rw[List.all_eq_true];exact Rt
def TB (w:World) (a:Nat) (c:Int) (e:Value) (i f d g b:Int):Prop :=
 w.cell? (Ad a 0)=some (iV c)/\w.cell? (Ad a 1)=some e/\w.cell? (Ad a 2)=some (iV i)/\w.cell? (Ad a 3)=some (iV f) /\
  w.cell? (Ad a 4)=some (iV d)/\w.cell? (Ad a 5)=some (iV g)/\w.cell? (Ad a 6)=some (iV b)
theorem TB.B {e:Int} (h:TB w n c v d f y z e) (k:BW w W):TB W n c v d f y z e:=by obtain⟨j,m,i,r,l,o,s⟩:=h;have q:∀a b,w.cell? (Ad n a)=some b->W.cell? (Ad n a)=some b:=fun a b g=>(k.cell (p:=(Ad n a)) (ht g)).trans g;exact⟨q _ _ j,q _ _ m,q _ _ i,q _ _ r,q _ _ l,q _ _ o,q _ _ s⟩
theorem TB.new (w:World) (i:TypeId) (b:Int) (d) (f e c g a:Int) :
 TB (w.alloc (.cells #[iV b,d,iV f,iV e,iV c,iV g,iV a] i)) w.heap.size b d f e c g a:=by
 have h:hA (w.alloc (.cells #[iV b,d,iV f,iV e,iV c,iV g,iV a] i)) w.heap.size i [iV b,d,iV f,iV e,iV c,iV g,iV a]:=heap_alloc_new w _;refine⟨?_,?_,?_,?_,?_,?_,?_⟩ <;> (rw[h.cell];rfl)
theorem Cy (H) (ts:List (Int×Bool)) (ay al an az ar ax:Int) (t:Int) (A:Hd ((if hu ay ts al an az ar ax=true then 0 else 6)=t)) (w) (F:h7 w H ts) :
 Calls prog 27 #[.agg #[iV ay,H,iV al,iV an,iV az,iV ar,iV ax]] w (RetB (iV t) w):=by
 have b4:=lh F;obtain⟨aF,aC,rfl,bD,⟨aH,_⟩,X⟩:=F;clear X;unfold maxLen at aH;have bo:Hd (hu ay ts al an az ar ax=false->t=6):=fun h=>by rw[<-A.o,h];rfl
 have L:Hd (hu ay ts al an az ar ax=true->t=0):=fun h=>by rw[<-A.o,h];rfl
 clear A;refine EV ?_;intro g7 bm;go_enter func27,ntmps27;go_wp2;refine sq 0 (fun aR bh=>∃(bt S br aT aw bv Z aj a' b0 ag bd ad a9 aZ aG V aQ W ab ah bp aa Y aE O bb bc bu P bs aB b1 a3 ak aS bj a4 aK a8 aV aL av aY aO aU aI Q ac ae a1 ao K a2 b3 aA a5 bx am b2 a0 be aX bz b6 aM aD bl ai:Value),aR={ tmps:=#[bt,S,br,aT,aw,bv,Z,aj,a',b0,ag,bd,ad,a9,aZ,aG,V,aQ,W,ab,ah,bp,aa,Y,aE,O,bb,bc,bu,P,bs,aB,b1,a3,ak,aS,bj,a4,aK,a8,aV,aL,av,aY,aO,aU,aI,Q,ac,ae,a1,ao,K,a2,b3,aA,a5,bx,am,b2,a0,be,aX,bz,b6,aM,aD,bl,ai],defers:=[] }/\Hd (t=6)/\BW w bh)
  (fun _ _=>0) rfl ?pass ?first
 case pass =>
  intro bB a7 b9 fd aN;clear aN;iterate 69 obtain⟨_,b9⟩:=b9
  obtain⟨rfl,cG,au⟩:=b9;go_wp2;simp only[Exit.jump];go_ret;rw[cG.o];exact⟨rfl,au⟩
 case first =>
  refine PY ?_;intro fd dM iG;cases b7:h0 ay 0 1000000000000000 with
  | false=>have cG:=lh (bo.o (by simp[hu,b7]));have m:=lh b7;clear b7;go_wp2_with fail;refine(CX m.o _).mono ?_;rintro I a7 ⟨rfl,rfl⟩;exact JQ
  | true =>
   have m:=lh b7;clear b7;cases d:h0 ts.length 1 8 with
   | false =>
    have cG:=lh (bo.o (by simp[hu,d]));rw[MY]at d;go_wp2_with fail;refine(CX m.o _).mono ?_;rintro I a7 ⟨rfl,rfl⟩;by_cases u:(ts.length:Int)<1;·have c:decide ((ts.length:Int)<1)=true:=ss u;clear d u;exact JQ
    ·have c:decide ((ts.length:Int)<1)=false:=ss u;have l:decide ((8:Int)<(ts.length:Int))=true:=by simp;omega
     clear d u;exact JQ
   | true =>
    have bq:=lh d;rw[B9]at d;have c:decide ((ts.length:Int)<1)=false:=by simp;omega
    have l:decide ((8:Int)<(ts.length:Int))=false:=by simp;omega
    clear d;go_wp2_with fail;refine(CX m.o _).mono ?_;rintro I a7 ⟨rfl,rfl⟩;go_wp2_with fail;go_loopg [24] ts.length (fun y C wr=>∃k:Nat,k+y=ts.length/\C=iV k/\Hd (∀e,e<k->h0 (ts.getD e (0,false)).1 0 10000000=true)/\Below (w.alloc (.cells #[iV ay,.slice aF ts.length aC,iV al,iV an,iV az,iV ar,iV ax] 24)).heap.size (w.alloc (.cells #[iV ay,.slice aF ts.length aC,iV al,iV an,iV az,iV ar,iV ax] 24)) wr);case atStart=>exact⟨0,by omega,rfl,fun e v=>absurd v om,bR⟩
    case round =>
     obtain⟨k,b8,rfl,D,z⟩:=hrel;have au:BW w wr:=hJ bm z;have G:=g7.B z;cases gk with
     | zero =>
      have af:¬((k:Int)<ts.length):=om;have bw:=lh (Y8 fun e v=>D.o e om);obtain⟨T,aW,bf,bg,aJ,b5,M⟩:=G;clear g7 bm z;cases a:(h0 al 1 28 && h0 an 1 25) with
      | false =>
       have cG:=lh (bo.o (by simp only[hu,a];simp));have f:decide (al<1)=true\/(decide (al<1)=false/\decide (28<al)=true)\/(decide (al<1)=false/\decide (28<al)=false/\decide (an<1)=true)\/(decide (al<1)=false/\decide (28<al)=false/\decide (an<1)=false/\decide (25<an)=true):=by simp only[h0,Bool.and_eq_false_iff,decide_eq_false_iff_not,decide_eq_true_eq]at a ⊢;omega
       clear a;rcases f with c | ⟨c,l⟩ | ⟨c,l,B⟩ | ⟨c,l,B,a6⟩;all_goals
        go_wp2;go_step3;exact⟨rfl,dM.o _ _ (hP (hP (hP (hP (hP (hP ⟨_,_,_,_,_,_,_,_,_,rfl,cG,au⟩))))))⟩
      | true =>
       have j:=lh a;have f:decide (al<1)=false/\decide (28<al)=false/\decide (an<1)=false/\decide (25<an)=false:=by simp only[h0,ba,decide_eq_true_eq,decide_eq_false_iff_not]at a ⊢;omega
       obtain⟨c,l,B,a6⟩:=f;clear a;cases s:h0 az 0 1000000000000000 with
       | false=>have cG:=lh (bo.o (by simp only[hu,s];simp));have i:=lh s;clear s;go_wp2_with fail;refine(CX i.o _).mono ?_;exact J2
       | true =>
        have i:=lh s;clear s;cases r:h0 ar 0 1000 with
        | false=>have cG:=lh (bo.o (by simp only[hu,r];simp));have n:=lh r;clear r;go_wp2_with fail;refine(CX i.o _).mono ?_;rintro I a7 ⟨rfl,rfl⟩;go_wp2_with fail;refine(CX n.o _).mono ?_;exact J2
        | true =>
         have n:=lh r;clear r;cases g:h0 ax (-135140) 2922896 with
         | false =>
          have cG:=lh (bo.o (by simp only[hu,g];simp));have f:decide (-135140<=ax)=false\/(decide (-135140<=ax)=true/\decide (ax<=2922896)=false):=by simp only[h0,Bool.and_eq_false_iff,decide_eq_false_iff_not,decide_eq_true_eq]at g ⊢;omega
          clear g;rcases f with E | ⟨E,R⟩;all_goals
           go_wp2_with fail;refine(CX i.o _).mono ?_;rintro I a7 ⟨rfl,rfl⟩;go_wp2_with fail;refine(CX n.o _).mono ?_;rintro I a7 ⟨rfl,rfl⟩;go_wp2;go_step3;go_step;go_step;exact iG.o _ _ (hP (hP (hP (hP (hP (hP ⟨_,_,_,_,_,_,_,_,_,rfl,cG,au⟩))))))
         | true =>
          have bi:=lh (L.o (by simp only[hu,m.o,bq.o,bw.o,j.o,i.o,n.o,g];rfl));have f:decide (-135140<=ax)=true/\decide (ax<=2922896)=true:=by simp only[h0,ba,decide_eq_true_eq]at g ⊢;omega
          obtain⟨E,R⟩:=f;clear g;go_wp2_with fail;refine(CX i.o _).mono ?_;rintro I a7 ⟨rfl,rfl⟩;go_wp2_with fail;refine(CX n.o _).mono ?_;rintro I a7 ⟨rfl,rfl⟩;go_wp2;simp only[Exit.jump];go_ret;rw[bi.o];exact⟨rfl,au⟩
     | succ y =>
      have af:(k:Int)<ts.length:=om;obtain⟨b,o,x,bC,rfl,bE,bA,J⟩:=(b4.B au).get (i:=k) om;obtain⟨T,aW,bf,bg,aJ,b5,M⟩:=G;clear g7 bm;cases a:h0 x 0 10000000 with
      | false=>have cG:=lh (bo.o (by simp only[hu,UE om J.o a];simp));have j:=lh a;clear a;go_wp2_with fail;refine(CX j.o _).mono ?_;rintro I a7 ⟨rfl,rfl⟩;go_wp2;go_step3;exact⟨rfl,dM.o _ _ (hP (hP (hP (hP (hP (hP ⟨_,_,_,_,_,_,_,_,_,rfl,cG,bL⟩))))))⟩
      | true =>
       have j:=lh a;clear a;go_wp2_with fail;refine(CX j.o _).mono ?_;rintro I a7 ⟨rfl,rfl⟩;go_wp2;go_roundg y;case measure=>omega
       case rel=>exact⟨k+1,by omega,by go_num,fun e v=>by
        rcases Nat.lt_succ_iff_lt_or_eq.1 v with aP | rfl;·exact D.o e aP
        ·rw[J.o];exact j.o,bL⟩
def hO (a:Int):Bool:=decide (0<=a) && decide (a<=1000000000000000)
theorem AZ:hO c=true↔0<=c/\c<=1000000000000000:=by simp[hO]
theorem ZP (a:Int) (w):Calls prog 192 #[iV a] w (h3 (.bool (hO a)) w):=by
 by_cases c:0<=a
 ·by_cases b:a<=1000000000000000;·go_enter func192,ntmps192;go_wp2;go_ret;simp[h3,hO,c,b]
  ·go_enter func192,ntmps192;go_wp2;go_ret;simp[h3,hO,b]
 ·go_enter func192,ntmps192;go_wp2;go_ret;simp[h3,hO];omega
theorem CV (h:hO c=D) (w):Calls prog 192 #[iV c] w (h3 (.bool D) w):=by rw[<-h];exact ZP c w
def q5 (a:Int):List Int->Option Int
 | []=>some a
 | v::l=>if hO v=true/\hO (a+v)=true then q5 (a+v) l else none
theorem QZ {all:Int} {xs:List Int} (a:k<xs.length):q5 all (xs.drop k)=if hO (xs.getD k 0)=true/\hO (all+xs.getD k 0)=true then q5 (all+xs.getD k 0) (xs.drop (k+1)) else none:=by rw[List.drop_eq_getElem_cons a];simp[q5,List.getD,a]
def hW (a:List Int) (b c:Int):Bool :=
 match q5 0 a with
 | none=>false
 | some d=>decide (1<=a.length) && decide (a.length<=8) && hO b && hO c && (b == 0 || d == 0)
def PB (w:World) (a:Nat) (d:Value) (c b:Int):Prop:=w.cell? (Ad a 0)=some d/\w.cell? (Ad a 1)=some (iV c)/\w.cell? (Ad a 2)=some (iV b)
theorem PB.B (h:PB w n v c d) (j:BW w W):PB W n v c d:=by obtain⟨i,g,f⟩:=h;have q:∀a b,w.cell? (Ad n a)=some b->W.cell? (Ad n a)=some b:=fun a b e=>(j.cell (p:=(Ad n a)) (ht e)).trans e;exact⟨q _ _ i,q _ _ g,q _ _ f⟩
theorem PB.new (w:World) (d:TypeId) (c) (b a:Int):PB (w.alloc (.cells #[c,iV b,iV a] d)) w.heap.size c b a:=by have h:hA (w.alloc (.cells #[c,iV b,iV a] d)) w.heap.size d [c,iV b,iV a]:=heap_alloc_new w _;refine⟨?_,?_,?_⟩ <;> (rw[h.cell];rfl)
theorem Df (C) (bs:List Int) (c aa:Int) (a:Bool) (A:Hd (hW bs c aa=a)) (ah:bs.length<=1000000) (w:World) (H:Sl .i64 w C bs) :
 Calls prog 154 #[.agg #[C,iV c,iV aa]] w (RetB (.bool a) w):=by
 have K:=lh H;obtain⟨aF,aC,rfl,ag,⟨P,_⟩,W⟩:=H;clear W;unfold maxLen at P;refine OQ ?_;unhygienic intros
 have u:=lh (K.B bm);clear cK K;go_enter func154,ntmps154;go_wp2_with fail;obtain⟨e,D,ad,al,ak,M,V⟩:∃e,(w.alloc (.cells #[.slice aF bs.length aC,iV c,iV aa] 35))=e/\e.cell? (Ad w.heap.size 0)=some (.slice aF bs.length aC)/\e.cell? (Ad w.heap.size 1)=some (iV c)/\e.cell? (Ad w.heap.size 2)=some (iV aa)/\BW w e/\Hd (Sl .i64 e (.slice aF bs.length aC) bs):=⟨_,rfl,dN,jv,fK,bm,u⟩;with_reducible rw[D]
 clear D dN jv fK bm u;have bm:=M;have u:=V;go_loopg [3,9] bs.length (fun y Q i wr=>∃(k:Nat) (d:Int),k+y=bs.length/\i=iV k/\Q=iV d/\Hd (q5 d (bs.drop k)=q5 0 bs)/\Hd (0<=d/\d<=1000000000000000)/\e=wr);case atStart=>exact⟨0,0,by omega,rfl,rfl,rfl,lh om,rfl⟩
 case round =>
  obtain⟨k,d,af,rfl,rfl,t,Z,rfl⟩:=hrel;cases gk with
  | zero =>
   have O:¬((k:Int)<bs.length):=om;have f:q5 0 bs=some d:=by rw[<-t.o,List.drop_of_length_le om];rfl
   have aj:=A.o;unfold hW at aj;rw[f]at aj;have ae:=lh aj;clear aj f t A;by_cases I:1<=bs.length
   ·have T:decide ((1:Int)<=(bs.length:Int))=true:=by simp;omega
    by_cases J:bs.length<=8
    ·have L:decide ((bs.length:Int)<=8)=true:=by simp;omega
     cases mc:hO c with
     | false =>
      obtain rfl:false=a:=by rw[<-ae.o,mc];simp
      have lS:=lh mc;clear mc ae;go_wp2_with fail;refine(CV lS.o _).mono ?_;rintro _ a7 ⟨rfl,rfl⟩;go_wp2;go_ret;exact⟨rfl,bm⟩
     | true =>
      have lS:=lh mc;cases md:hO aa with
      | false =>
       obtain rfl:false=a:=by rw[<-ae.o,md];simp
       have vh:=lh md;clear mc md ae;exact Qq
      | true =>
       have vh:=lh md;have s:Hd ((c == 0 || d == 0)=a):=by show _=_;rw[<-ae.o,mc,md];simp[I,J]
       clear mc md ae;rcases(show(c == 0)=true\/((c == 0)=false) by cases c == 0 <;> simp) with e0 | e0
       ·obtain rfl:true=a:=by rw[<-s.o,e0];rfl
        clear s;exact Qq
       ·have X:(d == 0)=a:=by rw[<-s.o,e0];rfl
        clear s;go_wp2_with fail;refine(CV lS.o _).mono ?_;rintro _ a7 ⟨rfl,rfl⟩;go_wp2_with fail;refine(CV vh.o _).mono ?_;rintro _ a7 ⟨rfl,rfl⟩;go_wp2;go_ret;first | exact⟨rfl,bm⟩ | (refine⟨?_,bm⟩;rw[<-X];rfl)
    ·have L:decide ((bs.length:Int)<=8)=false:=by simp;omega
     obtain rfl:false=a:=by rw[<-ae.o];simp[J]
     clear ae;go_wp2;go_ret;exact⟨rfl,bm⟩
   ·have T:decide ((1:Int)<=(bs.length:Int))=false:=by simp;omega
    obtain rfl:false=a:=by rw[<-ae.o];simp[I]
    clear ae;go_wp2;go_ret;exact⟨rfl,bm⟩
  | succ y =>
   have O:(k:Int)<bs.length:=om;obtain⟨b,o,z,rfl,ai,ac⟩:=u.get (i:=k) om;have x:=QZ (all:=d) (xs:=bs) (k:=k) om;rw[ac.o,t.o]at x;have m:=lh x;clear t x;have B:q5 0 bs=none->false=a:=fun h=>by rw[<-A.o];unfold hW;rw[h]
   have n:=lh B;clear B;cases g:hO z with
   | false=>obtain rfl:false=a:=n.o (by rw[m.o,g];simp);have r:=lh g;clear g m n;go_wp2_with fail;refine(CV r.o _).mono ?_;rintro _ a7 ⟨rfl,rfl⟩;go_wp2;go_ret;exact⟨rfl,bm⟩
   | true =>
    have E:=AZ.1 g;have G:=Z.o;obtain⟨j,f⟩:=xg (d+z);have ab:wrap64 j=j:=by rw[<-f];unfold wrap64;omega
    have Y:wrap64 (d+z)=j:=by rw[f];exact ab
    have S:=lh Y;rw[f]at m;have r:=lh g;cases l:hO j with
    | false=>obtain rfl:false=a:=n.o (by rw[m.o,l];simp);have v:=lh l;clear g l m n E G f;go_wp2_with fail;refine(CV r.o _).mono ?_;rintro _ a7 ⟨rfl,rfl⟩;go_wp2_with fail;refine(CV v.o _).mono ?_;rintro _ a7 ⟨rfl,rfl⟩;go_wp2;go_ret;exact⟨rfl,bm⟩
    | true =>
     have ae:Hd (q5 j (bs.drop (k+1))=q5 0 bs):=by have:=m.o;rw[if_pos ⟨g,l⟩]at this;exact this.symm
     have F:=AZ.1 l;have v:=lh l;have R:=lh F;clear g l m n E G f F;go_wp2_with fail;refine(CV r.o _).mono ?_;rintro _ a7 ⟨rfl,rfl⟩;go_wp2_with fail;refine(CV v.o _).mono ?_;rintro _ a7 ⟨rfl,rfl⟩;go_wp2;go_roundg y;case measure=>omega
     case rel=>exact⟨k+1,j,by omega,by go_num,by first | rfl | exact congrArg (Value.int .i64) S.o,ae,R,rfl⟩
namespace EvM
def evenN (b a:Nat):Nat:=if b%a<a-b%a\/(b%a=a-b%a/\b/a%2=0) then b/a else b/a+1
theorem even_ge (b a:Nat):b/a<=evenN b a:=by unfold evenN;split <;> omega
theorem even_le (b a:Nat):evenN b a<=b/a+1:=by unfold evenN;split <;> omega
theorem even_mul (q a:Nat) (b:0<a):evenN (q*a) a=q:=by unfold evenN;rw[Nat.mul_mod_left,Nat.mul_div_cancel _ b,if_pos om]
theorem even_mono {d:Nat} (f:0<d) (h:n<=m):evenN n d<=evenN m d:=by
 have p:n/d<=m/d:=Nat.div_le_div_right h;by_cases k:n/d=m/d;·have g:=Nat.div_add_mod' n d;have j:=Nat.div_add_mod' m d;have l:=Nat.mod_lt n f;have i:=Nat.mod_lt m f;unfold evenN;rw[k]at g ⊢;obtain⟨q,b⟩:=xg (m/d);obtain⟨a,c⟩:=xg (m%d);obtain⟨o,e⟩:=xg (n%d);rw[b,c]at j;rw[b,e]at g;rw[e]at l;rw[c]at i;rw[b,c,e];generalize q*d=A at *;split <;> split <;> omega
 ·have:=even_le n d;have:=even_ge m d;omega
theorem bit_step (N b a:Nat) (d:0<a) (o:b<=1) :
 (2*N+b)/a=2*(N/a)+(if a<=2*(N%a)+b then 1 else 0)/\(2*N+b)%a=2*(N%a)+b-(if a<=2*(N%a)+b then a else 0):=by
 have i:=Nat.div_add_mod N a;have l:=Nat.mod_lt N d;obtain⟨q,f⟩:=xg (N/a);obtain⟨c,e⟩:=xg (N%a);rw[f,e]at i;rw[e]at l;rw[f,e];have n:2*N+b=(2*c+b)+a*(2*q):=by rw[<-i,Nat.mul_left_comm];omega
 rw[n,Nat.add_mul_div_left _ _ d,Nat.add_mul_mod_self_left];by_cases h:a<=2*c+b
 ·rw[if_pos h,if_pos h];have j:(2*c+b)=(2*c+b-a)+a*1:=om;have g:2*c+b-a<a:=om;have m:(2*c+b)/a=1:=by rw[j,Nat.add_mul_div_left _ _ d,Nat.div_eq_of_lt g]
  have k:(2*c+b)%a=2*c+b-a:=by rw[j,Nat.add_mul_mod_self_left,Nat.mod_eq_of_lt g];omega
  rw[m,k];omega
 ·rw[if_neg h,if_neg h,Nat.div_eq_of_lt om,Nat.mod_eq_of_lt om];omega
theorem half_step (b a:Nat):b/2 ^ a=2*(b/2 ^ (a+1))+b/2 ^ a%2:=by rw[Nat.pow_succ,<-Nat.div_div_eq_div_mul];omega
theorem bit_lo (b c a:Nat) (e:a<64):(b*18446744073709551616+c)/2 ^ a%2=c/2 ^ a%2:=by
 have d:18446744073709551616=2 ^ a*(2*2 ^ (63-a)):=by
  rw[show(18446744073709551616:Nat)=2 ^ 64 from rfl,<-Nat.pow_succ',<-Nat.pow_add]
  congr 1;omega
 rw[d,<-Nat.mul_assoc,<-Nat.mul_assoc,Nat.mul_comm b,Nat.mul_assoc,Nat.mul_assoc,Nat.add_comm,Nat.add_mul_div_left _ _ (Nat.two_pow_pos a),<-Nat.mul_assoc,Nat.mul_comm b,Nat.mul_assoc];omega
theorem top_hi (b a:Nat) (h:a<18446744073709551616):(b*18446744073709551616+a)/2 ^ 64=b:=by
 have c:(2:Nat) ^ 64=18446744073709551616:=by decide
 rw[c];omega
theorem mul_step (d b a:Nat):d*(b/2 ^ a)=2*(d*(b/2 ^ (a+1)))+(if b/2 ^ a%2=1 then d else 0):=by
 have h:=half_step b a;rcases Nat.mod_two_eq_zero_or_one (b/2 ^ a) with c | c;·rw[if_neg om];rw[c]at h;rw[h,Nat.add_zero,Nat.mul_left_comm];rfl
 ·rw[if_pos c];rw[c]at h;rw[h,Nat.mul_add,Nat.mul_left_comm,Nat.mul_one]
theorem mul_top (c a:Nat) (h:a<18446744073709551616):c*(a/2 ^ 64)=0:=by
 have b:(2:Nat) ^ 64=18446744073709551616:=by decide
 rw[b,Nat.div_eq_of_lt h,Nat.mul_zero]
theorem mul_bound (b a c:Nat) (d:b<18446744073709551616) (g:a<18446744073709551616):b*(a/2 ^ c)<18446744073709551616*18446744073709551616:=by have f:a/2 ^ c<=a:=Nat.div_le_self _ _;have e:=Nat.mul_le_mul (show b<=18446744073709551615 by omega) (show a/2 ^ c<=18446744073709551615 by omega);omega
end EvM
namespace EvM
def evQ (a c b:Int):Int×Bool :=
 if b<=a then (0,false) else
 if evenN (a*18446744073709551616+c).toNat b.toNat<18446744073709551616 then ((evenN (a*18446744073709551616+c).toNat b.toNat:Int),true) else (0,false)
def mayM (a:Int):Bool:=decide (-1000000000000000<=a) && decide (a<=1000000000000000)
def shQ (b a c:Int):Nat:=evenN (b.natAbs*a.toNat) c.toNat
def shareR (a b c:Int):Int×Int :=
 if b<0\/c<=0 then (0,1) else if mayM a=false then (0,5) else if 1000000000000000<shQ a b c then (0,5) else (if a<0 then -(shQ a b c:Int) else (shQ a b c:Int),0)
theorem mayM_iff:mayM c=true ↔ -1000000000000000<=c/\c<=1000000000000000:=by simp[mayM]
theorem shQ_ev (e b d q:Int) (g:Bool) (p:0<=b) (o:0<d) (h:evQ ((e.natAbs*b.toNat/18446744073709551616:Nat):Int) ((e.natAbs*b.toNat%18446744073709551616:Nat):Int) d=(q,g)) :
 (g=true->q=(shQ e b d:Int))/\(g=false->1000000000000000<shQ e b d):=by
 unfold shQ;obtain⟨a,k⟩:=xg (e.natAbs*b.toNat);rw[k]at h ⊢;obtain⟨f,rfl⟩:=Int.eq_ofNat_of_zero_le (show 0<=d by omega);rw[Int.toNat_natCast];unfold evQ at h;split at h;·rename_i j;injection h with i c;subst c;refine⟨fun h=>by simp at h,fun _=>?_⟩;have s:=even_ge a f;have l:a/18446744073709551616*18446744073709551616<=a:=Nat.div_mul_le_self _ _;have m:f*18446744073709551616<=a:=nt (Nat.mul_le_mul_right _ (Int.ofNat_le.1 j)) l;have r:18446744073709551616<=a/f:=(Nat.le_div_iff_mul_le om).2 (by rw[Nat.mul_comm];with_reducible exact m);omega
 ·rename_i j;have n:((a/18446744073709551616:Nat):Int)*18446744073709551616+((a%18446744073709551616:Nat):Int)=(a:Int):=om;rw[n,Int.toNat_natCast,Int.toNat_natCast]at h;split at h;·injection h with i c;subst c;subst i;exact⟨fun _=>rfl,fun h=>by simp at h⟩
  ·injection h with i c;subst c;refine⟨fun h=>by simp at h,fun _=>by omega⟩
theorem share_ok (a b c:Int) (g:0<=b) (e:0<c) (d:mayM a=true) (f:shQ a b c<=1000000000000000):shareR a b c=(if a<0 then -(shQ a b c:Int) else (shQ a b c:Int),0):=by unfold shareR;rw[if_neg om,if_neg (by rw[d];simp),if_neg om]
theorem shQ_le (c b a:Int) (i:0<=b) (g:0<a) (h:b<=a):shQ c b a<=c.natAbs:=by unfold shQ;have f:c.natAbs*b.toNat<=c.natAbs*a.toNat:=Nat.mul_le_mul_left _ om;have e:=even_mono (d:=a.toNat) om f;rwa [even_mul _ _ om]at e
theorem share_neg (a c b:Int) (f:0<=c) (e:0<b) (h:c<=b) (g:mayM a=true):∃d:Int,shareR a c b=(d,0)/\shareR (-a) c b=(-d,0) /\ -1000000000000000<=d/\d<=1000000000000000:=by
 have o:=mayM_iff.1 g;have j:shQ (-a) c b=shQ a c b:=by unfold shQ;rw[Int.natAbs_neg]
 have l:=shQ_le a c b f e h;have m:mayM (-a)=true:=mayM_iff.2 om;refine⟨_,share_ok a c b f e g om,?_,?_⟩
 ·rw[share_ok (-a) c b f e m (by rw[j];omega),j];have n:a=0->shQ a c b=0:=fun h=>by subst h;simp at l;omega
  congr 1
  by_cases k:a=0;·have:=n k;rw[this];simp
  ·by_cases i:a<0;·rw[if_pos i,if_neg om];omega
   ·rw[if_neg i,if_pos om]
 ·constructor <;> split <;> omega
end EvM
section
open Go.RowKit EvM
theorem yyv (a:Int) (w):Calls prog 193 #[iV a] w (h3 (.bool (mayM a)) w):=by
 by_cases b:-1000000000000000<=a
 ·by_cases c:a<=1000000000000000;·go_enter func193,ntmps193;go_wp2;go_ret;simp[h3,mayM,b,c]
  ·go_enter func193,ntmps193;go_wp2;go_ret;simp[h3,mayM,b,c]
 ·go_enter func193,ntmps193;go_wp2;go_ret;simp[h3,mayM];omega
theorem Db (h:mayM c=D) (w):Calls prog 193 #[iV c] w (h3 (.bool D) w):=by rw[<-h];exact yyv c w
def y2 (a:Int):List Int->Int×Int
 | []=>(a,0)
 | v::l=>if mayM v=true/\mayM (a+v)=true then y2 (a+v) l else (0,5)
theorem Wy {all:Int} {xs:List Int} (a:k<xs.length):y2 all (xs.drop k)=if mayM (xs.getD k 0)=true/\mayM (all+xs.getD k 0)=true then y2 (all+xs.getD k 0) (xs.drop (k+1)) else (0,5):=by rw[List.drop_eq_getElem_cons a];simp[y2,List.getD,a]
theorem Tv (t) (c:List Int) (d I:Int) (ah:Hd (y2 0 c=(d,I))) (a3:c.length<=1000000) (w) (z:Sl .i64 w t c) :
 Calls prog 155 #[t] w (RetB (.tuple #[iV d,iV I]) w):=by
 have ar:=lh z;obtain⟨a0,a2,rfl,a1,⟨H,_⟩,ae⟩:=z;clear ae;unfold maxLen at H;go_enter func155,ntmps155;go_wp2;refine sq 0 (fun S F=>∃(V Y T X W Z ai K ao ad E C aw am ak ag ab Q ac an G R aj af:Value),S={ tmps:=#[V,Y,T,X,W,Z,ai,K,ao,ad,E,C,aw,am,ak,ag,ab,Q,ac,an,G,R,aj,af],defers:=[] }/\Hd (d=0/\I=5)/\BW w F)
  (fun _ _=>0) rfl ?pass ?first
 case pass =>
  intro a6 a7 J O M;clear M;iterate 24 obtain⟨_,J⟩:=J
  exact Sw
 case first =>
  intro O x al;have dM:=lh x;clear x al;go_wp2_with fail;go_loopg [4,9] c.length (fun r L i wr=>∃(ay:Nat) (a:Int),ay+r=c.length/\i=iV ay/\L=iV a/\Hd (y2 a (c.drop ay)=(d,I))/\Hd (-1000000000000000<=a/\a<=1000000000000000)/\w=wr);case atStart=>exact⟨0,0,by omega,rfl,rfl,ah,lh om,rfl⟩
  case round =>
   obtain⟨ay,a,az,rfl,rfl,n,A,rfl⟩:=hrel;cases gk with
   | zero =>
    have D:¬((ay:Int)<c.length):=om;have aJ:Hd (a=d/\0=I):=by have:=n.o;rw[List.drop_of_length_le om]at this;unfold y2 at this;injection this with aa B;exact⟨aa,B⟩
    clear n A;go_wp2;simp only[Exit.jump];go_ret2;rw[<-aJ.1,<-aJ.2];exact⟨rfl,bR⟩
   | succ r =>
    have D:(ay:Int)<c.length:=om;obtain⟨b,o,l,rfl,a4,ax⟩:=ar.get (i:=ay) om;have p:=Wy (all:=a) (xs:=c) (k:=ay) om;rw[ax.o,n.o]at p;have g:=lh p;clear n p;cases e:mayM l with
    | false =>
     have aJ:Hd (d=0/\I=5):=by have:=g.o;rw[e]at this;simp at this;exact this
     have m:=lh e;clear e g;go_wp2_with fail;refine(Db m.o _).mono ?_;exact IR
    | true =>
     have u:=mayM_iff.1 e;have y:=A.o;have s:wrap64 (a+l)=a+l:=by unfold wrap64;omega
     obtain⟨f,k⟩:=xg (a+l);rw[k]at s;have av:wrap64 f=f:=by rw[<-k];unfold wrap64;omega
     have a8:wrap64 (a+l)=f:=by rw[k];exact av
     rw[k]at g;have m:=lh e;cases j:mayM f with
     | false =>
      have aJ:Hd (d=0/\I=5):=by have:=g.o;rw[j]at this;simp at this;exact this
      have a5:=lh j;clear e j g u y k s;go_wp2_with fail;refine(Db m.o _).mono ?_;rintro I a7 ⟨rfl,rfl⟩;go_wp2_with fail;refine(Db a5.o _).mono ?_;exact IR
     | true =>
      have aJ:Hd (y2 f (c.drop (ay+1))=(d,I)):=by have:=g.o;rw[if_pos ⟨e,j⟩]at this;exact this.symm
      have v:=mayM_iff.1 j;have a5:=lh j;have P:=lh v;clear e j g u y k s v;go_wp2_with fail;refine(Db m.o _).mono ?_;rintro I a7 ⟨rfl,rfl⟩;go_wp2_with fail;refine(Db a5.o _).mono ?_;rintro I a7 ⟨rfl,rfl⟩;go_wp2;go_roundg r;case measure=>omega
      case rel=>exact⟨ay+1,f,by omega,by go_num,rfl,aJ,P,rfl⟩
end
section
open Go.RowKit EvM
theorem JO (l:0<=c) (h:q5 c r=some d):y2 c r=(d,0)/\0<=d/\(r≠[]->d<=1000000000000000):=by
 induction r generalizing c with
 | nil=>simp only[q5,Option.some.injEq]at h;subst h;exact⟨rfl,l,fun h=>absurd rfl h⟩
 | cons a e k =>
  unfold q5 at h;by_cases b:hO a=true/\hO (c+a)=true
  ·rw[if_pos b]at h;have p:=AZ.1 b.1;have j:=AZ.1 b.2;obtain⟨f,n,g⟩:=k j.1 h;have m:mayM a=true:=mayM_iff.2 om;have i:mayM (c+a)=true:=mayM_iff.2 om;refine⟨?_,n,fun _=>?_⟩;·unfold y2;rw[if_pos ⟨m,i⟩];exact f
   ·cases e with
    | nil=>simp only[q5,Option.some.injEq]at h;omega
    | cons o e=>exact g Is
  ·rw[if_neg b]at h;cases h
def AY (a:List Int) (c b:Int):Int:=if hW a c b=true then a.sum else 0
theorem Py (h:q5 c r=some d):d=c+r.sum:=by
 induction r generalizing c with
 | nil=>simp only[q5,Option.some.injEq]at h;simp[h]
 | cons a f e =>
  unfold q5 at h;by_cases b:hO a=true/\hO (c+a)=true;·rw[if_pos b]at h;rw[e h,List.sum_cons];omega
  ·rw[if_neg b]at h;cases h
theorem Ht (h:hW r c d=true):q5 0 r=some r.sum:=by
 unfold hW at h;cases a:q5 0 r with
 | none=>rw[a]at h;simp at h
 | some b=>rw[Py a,Int.zero_add]
theorem Rv (i) (bs:List Int) (c aa b:Int) (d:Hd (AY bs c aa=b)) (f:bs.length<=1000000) (w) (m:Sl .i64 w i bs) :
 Calls prog 111 #[.agg #[i,iV c,iV aa]] w (RetB (iV b) w):=by
 have g:=lh m;obtain⟨aF,aC,rfl,v,⟨n,_⟩,o⟩:=m;clear o;unfold maxLen at n;obtain⟨e,a⟩:=xg (hW bs c aa);have j:=lh a;refine OQ ?_;unhygienic intros
 cases e with
 | false =>
  obtain rfl:0=b:=by rw[<-d.o];unfold AY;rw[a];rfl
  clear d a;go_enter func111,ntmps111;go_wp2_with fail;refine(Df _ bs c aa _ j f _ (g.B bm)).mono ?_;exact ED
 | true =>
  have s:Hd (y2 0 bs=(b,0)):=by have h:=(JO om (Ht a)).1;show _=_;rw[h,<-d.o];unfold AY;rw[if_pos a]
  clear d a;go_enter func111,ntmps111;go_wp2_with fail;refine(Df _ bs c aa _ j f _ (g.B bm)).mono ?_;rintro _ a7 ⟨rfl,aH⟩;obtain⟨t,u,y⟩:=cK.B aH;have l:=hJ bm aH;clear dN jv fK bm aH;go_wp2_with fail;refine(Tv _ bs b 0 s f _ (g.B l)).mono ?_;rintro _ x ⟨rfl,r⟩;go_wp2;go_ret;exact⟨rfl,hJ l r⟩
theorem p2 (h:BW w W) (a:w.heap.size<=n) (c b d):BW w (((W.setCell (Ad n 0) c).setCell (Ad n 1) b).setCell (Ad n 2) d):=
 ((h.setCell a _).setCell a _).setCell a _
def z0 (c:Value) (d:List Int) (b a:Int):Value:=if hW d b a=true then .tuple #[.agg #[c,iV b,iV a],iZ] else .tuple #[.agg #[sZ,iZ,iZ],iV 5]
theorem Ci (b) (bs:List Int) (c aa:Int) (d) (e:Hd (z0 b bs c aa=d)) (mU:bs.length<=1000000) (w:World) (g:Sl .i64 w b bs) :
 Calls prog 215 #[.agg #[b,iV c,iV aa]] w (RetB d w):=by
 have br:=lh g;obtain⟨aF,aC,rfl,l,⟨i,_⟩,j⟩:=g;clear j;unfold maxLen at i;obtain⟨q,a⟩:=xg (hW bs c aa);have dj:=lh a;refine On ?_;intro bJ;have yD:=lh ((PB.new w 35 (.slice aF bs.length aC) c aa).B (hB bR (.cells #[sZ,iZ,iZ] 35)));have bi:Hd (BW w ((w.alloc (.cells #[.slice aF bs.length aC,iV c,iV aa] 35)).alloc (.cells #[sZ,iZ,iZ] 35))):=hB (hB bR _) _;cases q with
 | false =>
  have f:d=.tuple #[.agg #[sZ,iZ,iZ],iV 5]:=by rw[<-e.o];unfold z0;rw[a];rfl
  subst f;clear e a;go_enter func215,ntmps215;go_wp2_with fail;refine Nh ?_;unhygienic intros
  go_wp2;refine bodyPost_ret (v:=.tuple #[.agg #[sZ,iZ,iZ],iV 5]) (by simp[results,results215,go_sem,aI,aN,aL]) rfl ⟨rfl,p2 dl om _ _ _⟩
 | true =>
  have f:d=.tuple #[.agg #[.slice aF bs.length aC,iV c,iV aa],iZ]:=by rw[<-e.o];unfold z0;rw[a];rfl
  subst f;clear e a;go_enter func215,ntmps215;go_wp2_with fail;refine Nh ?_;intro a7 dJ bQ cB aI aN aL gm cC dr dl;go_wp2;refine bodyPost_ret (v:=.tuple #[.agg #[.slice aF bs.length aC,iV c,iV aa],iZ]) (by simp[results,results215,go_sem,aI,aN,aL]) rfl ⟨rfl,p2 dl om _ _ _⟩
end
theorem Ch:(prog.info? 2).map (fun a=>(a.zero,a.size,a.bytes))=some (some (iZ),1,8):=by kernel_rfl
def Xo (c:List Int) (w:World) (d:Ending) (b:World):Prop :=
 ∃a,d=.returned a/\b.ownsRow w.heap.size 2 1 a c.length (c.map (Value.int .i64))/\BW w b
theorem Eu (i) (b:List Int) (w) (j:Sl .i64 w i b) (C:b.length<=1000) :
 Calls prog 39 #[i] w (Xo b w):=by
 have c:=lh j;obtain⟨o,p,rfl,B,⟨l,_⟩,v⟩:=j;clear v;unfold maxLen at l;have A:∀(w:World) (a:Option Addr) (f g d e:Nat),(binOp .eql 33 (.slice a f g) (.slice none d e)).run prog w=.ok (.bool a.isNone) w:=fun w a f g d e=>Lib.run_eql_slice_nil w _ _ a f g d e underlying33;obtain⟨t,x,m,r,u⟩:=info_parts Ch;cases o with
 | none=>obtain rfl:=c.none_len rfl;obtain⟨_,rfl⟩:=c.none_cap rfl;go_enter func39,ntmps39;go_wp2;go_ret;exact⟨_,rfl,World.ownsRow_nil _ _ _ _,bR⟩
 | some a =>
  have s:=c.news;clear s;go_enter func39,ntmps39
  go_wp2_with (at_builtin;refine Ba _ rfl (.tmp 5) (.tmp 6) 33 rfl w.heap.size 2 t (iZ) 1 8 underlying33 x m r u rfl Iv _ 0 [] rfl (D9 w _) (some a) b.length p (b.map (Value.int .i64)) rfl Is (fun h=>by cases h) (c.alloc _).news (ints_oneCell _ _) RD om x1 ?_;intro z y lL gN n;clear n)
  exact MP
theorem Kg (h:q:=by rw[es];have H:=lh h;clear h es;go_enter func222,ntmps222;go_wp2_with fail;refine(CV H.o _).mono ?_;rintro _ a7 ⟨rfl,rfl⟩;go_wp2;go_ret;exact h3.mk _ _):q:=h
theorem SQ (h:q:=by have cP:=f6.o;refine MZ ?_;intro aR bg be gm cC dr;have ch:=cP.lt;clear cP;go_wp2;refine bodyPost_ret (v:=.tuple #[.agg #[sZ,iZ,iZ],iV 1]) Dt rfl ⟨sZ,rfl,⟨Sl.nil,x0⟩,p2 dl om _ _ _⟩):q:=h
theorem RL (h:q:=by
 have ii:=lh vi;clear vi n' bq cH aj;go_wp2_with fail;refine(ii.o _ iL.1 iL.2.1).mono ?_;rintro _ bU ⟨rfl,j',fs,ur,mN,mO⟩;have yN:Hd (hA bU w.heap.size 35 [sL aE 0 n bD,iV (hp bo bs c (k+1)).2,iV aa]/\bU.ownsRow base 2 1 (sL aE 0 n bD) n ((hp bo bs c (k+1)).1.map (Value.int .i64))/\hA bU (w.heap.size+1) 35 [sZ,iZ,iZ]/\BW w bU):=by rw[wN.o];exact⟨j',fs,(mO (w.heap.size+1) om om).trans iL.2.2.1,iL.2.2.2.trans (mN w.heap.size (nr _) om)⟩
 clear j' fs ur mN mO ii iL mx yO;go_wp2;go_roundg g;case measure=>omega
 case rel=>exact⟨k+1,by omega,by go_num,yN⟩):q:=h
theorem yau (h:w.ownsRow n e i v j C) (r:m<n):(w.setCell (Ad m k) u).ownsRow n e i v j C:=by
 obtain⟨g,a⟩:=h;refine⟨g,?_⟩;rcases a with a | ⟨b,l,o,p,d,f,c⟩;·exact Or.inl a
 ·exact Or.inr ⟨b,l,o,p,d,(heap_setCell_other w (Ad m k) b u (by intro h;simp at h;omega)).trans f,c⟩
def F5 (c:List Int) (e d:Int) (w:World) (f:Ending) (b:World):Prop :=
 ∃a,f=.returned (.agg #[a,iV e,iV d])/\b.ownsRow (w.heap.size+2) 2 1 a c.length (c.map (Value.int .i64))/\BW w b
theorem H9 (d) (bs:List Int) (c aa:Int) (r:bs.length<=1000) (w) (l:Sl .i64 w d bs) :
 Calls prog 213 #[.agg #[d,iV c,iV aa]] w (F5 bs c aa w):=by
 have z:=lh l;obtain⟨aF,aC,rfl,G,⟨m,_⟩,v⟩:=l;clear v;unfold maxLen at m;refine p3 ?_;intro bJ;refine PC ?_;intro ct cj bi;refine SW ?_;intro fN;clear ct;go_enter func213,ntmps213;go_wp2_with fail;refine(Eu _ bs _ (z.B bi.o) r).mono ?_;rintro _ B ⟨y,rfl,a,b⟩;rw[fN.o]at a;have f:=cj.B b;obtain⟨A,s,t,-⟩:=f.cs [0,1,2];have D:=f.frozen 0;have e:=bJ.B b;obtain⟨i,g,j,-⟩:=e.cs [0,1,2];obtain⟨g0,I,E,-⟩:=e.fs [0,1,2];simp only[gz,gs]at A s t i g j;have dl:=hJ bi.o b;have n:=lh a;obtain⟨x,bn,o,rfl⟩:∃aF u aC,y=.slice aF u aC:=by
  rcases a.2 with⟨h,_⟩ | ⟨F,C,H,h,_⟩;·exact⟨_,_,_,h⟩
  ·exact⟨_,_,_,h⟩
 clear a f e b;go_wp2;refine bodyPost_ret (v:=.agg #[.slice x bn o,iV c,iV aa]) (by simp[results,results213,go_sem,i,g,j]) rfl ⟨_,rfl,?_,?_⟩;·exact yau (yau (yau (yau n.o om) om) om) om
 ·exact Q3
def Ms (k e b d g:Nat) (l:List Int) (j i:Int) (w:World) (m:Ending) (a:World):Prop :=
 m=.returned (.tuple #[])/\hA a e 35 [sL b 0 d g,iV j,iV i]/\a.ownsRow k 2 1 (sL b 0 d g) d (l.map (Value.int .i64))/\a.heap.size=w.heap.size/\(∀f,f<=e->f<=b->Below f w a)/\∀c,c≠e->c≠b->a.heap[c]?=w.heap[c]?
theorem L3 (e g aE a f i:Nat) (b:List Int) (l m j c d:Int) (r:Hd (b.length=a)) (B:i<a) (A:a<=1000) (p:Hd (b.getD i 0=c)) (C:j<=l) (y:l-j=d) (x:wrap64 d=d) (D:wrap64 c=c) (s:g<e) (w:World)
 (bx:hA w g 35 [sL aE 0 a f,iV l,iV m]) (cJ:w.ownsRow e 2 1 (sL aE 0 a f) a (b.map (Value.int .i64))) :
 Calls prog 214 #[pV g,iV ((i:Int)+1),iV j] w (Ms e g aE a f (b.set i c) d m w):=by
 have z:e<=aE:=(cJ.lt aE rfl).1;obtain⟨t,n,-⟩:=bx.cs [0,1];have v:=bx.frozen 1;have o:=cJ.cellAt i om;have te:(b.map (Value.int .i64))[i]?=some (iV c):=by rw[<-p.o];simp[List.getD,show i<b.length by have:=r.o;omega]
 rw[te]at o;have u:=cJ.frozenAt i;simp only[gz,gs]at t n;have ta:(w.setCell (Ad g 1) (iV d)).ownsRow e 2 1 (sL aE 0 a f) a (b.map (Value.int .i64)):=yau cJ s;obtain⟨lU,_⟩:=ta.stored i (iV c);have fp:=lh lU;have cA:=lh ((bx.set 1 (iV d)).setOther (show g≠aE by omega) i (iV c));exact NY
theorem QT (d g aE a e i:Nat) (b:List Int) (m n j l f c:Int) (s:Hd (b.length=a)) (C:i<a) (B:a<=1000) (r:Hd (b.getD i 0=l)) (F:¬j<=m) (E:j-m=f) (y:l+f=c) (D:wrap64 f=f) (z:wrap64 c=c) (t:g<d) (w:World)
 (bx:hA w g 35 [sL aE 0 a e,iV m,iV n]) (cJ:w.ownsRow d 2 1 (sL aE 0 a e) a (b.map (Value.int .i64))) :
 Calls prog 214 #[pV g,iV ((i:Int)+1),iV j] w (Ms d g aE a e (b.set i c) 0 n w):=by
 have A:d<=aE:=(cJ.lt aE rfl).1;obtain⟨u,o,-⟩:=bx.cs [0,1];have x:=bx.frozen 1;have p:=cJ.cellAt i om;have te:(b.map (Value.int .i64))[i]?=some (iV l):=by rw[<-r.o];simp[List.getD,show i<b.length by have:=s.o;omega]
 rw[te]at p;have v:=cJ.frozenAt i;simp only[gz,gs]at u o;have ta:(w.setCell (Ad g 1) (iZ)).ownsRow d 2 1 (sL aE 0 a e) a (b.map (Value.int .i64)):=yau cJ t;obtain⟨lU,_⟩:=ta.stored i (iV c);have fp:=lh lU;have cA:=lh ((bx.set 1 (iZ)).setOther (show g≠aE by omega) i (iV c));exact NY
def Yu (a:List Int×Int×Int×Int) (w:World) (d:Ending) (c:World):Prop :=
 ∃b,d=.returned (.tuple #[.agg #[b,iV a.2.1,iV a.2.2.1],iV a.2.2.2])/\Sl .i64 c b a.1/\BW w c
theorem Sl.nil:Sl .i64 w (sZ) []:= ⟨none,0,rfl,nr _,⟨by simp[maxLen],fun _=>rfl⟩,fun h=>absurd rfl h⟩
theorem Ih (h:q5 c r=some d) (a:Nat) (aA:a<r.length):0<=r.getD a 0/\r.getD a 0<=1000000000000000:=by
 induction r generalizing c a with
 | nil=>simp at aA
 | cons e i f =>
  unfold q5 at h;by_cases b:hO e=true/\hO (c+e)=true
  ·rw[if_pos b]at h;cases a with
   | zero=>simpa using AZ.1 b.1
   | succ g=>simpa using f h g MV
  ·rw[if_neg b]at h;exact absurd h (by simp)
theorem A1 (h:hW r c d=true):(0<=c/\c<=1000000000000000)/\∀a,a<r.length->0<=r.getD a 0/\r.getD a 0<=1000000000000000:=by
 unfold hW at h;cases b:q5 0 r with
 | none=>rw[b]at h;exact absurd h (by simp)
 | some f=>rw[b]at h;simp only[ba]at h;exact⟨AZ.1 h.1.1.2,fun a e=>Ih b a e⟩
theorem Sl.shape (h:Sl K w v r):∃a b,v=.slice a r.length b:=by obtain⟨a,b,rfl,_⟩:=h;exact⟨a,b,rfl⟩
def Fr (w:World) (d:Value):Prop:=∀b e a c,d=sL b e a c->0<a->w.heap.size<=b
theorem DV {b:Option Addr} (h:0<n->b=some (Ad k 0)/\w.heap.size<=k):Fr w (.slice b n m):=by intro l p o i f c;injection f with a g j;subst g;obtain⟨e,d⟩:=h c;rw[e]at a;cases a;exact d
theorem x0:Fr w (sZ):= fun _ _ _ _ h=>by cases h
def t4 (a:List Int×Int×Int×Int) (w:World) (d:Ending) (c:World):Prop :=
 ∃b,d=.returned (.tuple #[.agg #[b,iV a.2.1,iV a.2.2.1],iV a.2.2.2])/\(Sl .i64 c b a.1/\Fr w b)/\BW w c
theorem Sl.setCell (h:Sl K w v r) (g:∀a b e u,v=sL a b e u->0<e->a≠n) (d):Sl K (w.setCell (Ad n i) d) v r:=by obtain⟨m,p,rfl,o,j,s⟩:=h;refine⟨m,p,rfl,o,j,fun f=>?_⟩;obtain⟨a,b,rfl,x⟩:=s f;have k:=g a b _ _ rfl (List.length_pos_iff.2 f);refine⟨a,b,rfl,fun l t=>?_⟩;rw[<-x l t];have c:=heap_setCell_other w (Ad n i) a d (fun c=>k c);unfold World.cell?;simp only[c]
def n0 (a:Int):Bool:=!hO a
theorem Xt (a:Int) (w):Calls prog 222 #[iV a] w (h3 (.bool (n0 a)) w):=by
 cases h:hO a with
 | true =>
  have es:n0 a=false:=by simp[n0,h]
  exact Kg
 | false =>
  have es:n0 a=true:=by simp[n0,h]
  exact Kg
def ytc (c:Bool) (w:World) (d:Ending) (b:World):Prop:=∃a:Int,d=.returned (iV a)/\decide (0<=a)=c/\w=b
theorem Qb (d) (aD:List Int) (e:Bool) (iD:Hd (aD.any (n0)=e)) (w) (f:Sl .i64 w d aD) :
 Calls prog 231 #[d,.func (.func 222) #[] #[]] w (ytc e w):=by
 have o:=lh f;obtain⟨u,y,rfl,v,⟨l,_⟩,m⟩:=f;clear m;unfold maxLen at l;go_enter func231,ntmps231;go_wp2;go_loopg [8] aD.length (fun g i wr=>∃k:Nat,k+g=aD.length/\i=iV k/\w=wr/\Hd (∀a8,a8<k->(n0) (aD.getD a8 0)=false));case atStart=>exact⟨0,by omega,rfl,rfl,fun a8 di=>absurd di om⟩
 case round =>
  obtain⟨k,t,rfl,rfl,bd⟩:=hrel;cases gk with
  | zero=>exact Ra
  | succ g =>
   refine NG ?_;intro ch bP;obtain⟨A,s,x,rfl,z,aj⟩:=o.get (i:=k) bP;have b:=Xt x w;cases a:(n0) x with
   | true =>
    have c:Calls prog 222 #[iV x] w (h3 (.bool true) w):=by rw[<-a];exact b
    have cK:=lh a;clear a b
    go_wp2_with (go_at_call 222;refine c.mono ?_;rintro r j ⟨rfl,rfl⟩)
    go_ret;refine⟨k,rfl,?_,rfl⟩;rw[<-iD.o];have n:aD.any (n0)=true:=by exact Si
    rw[n];simp
   | false =>
    have c:Calls prog 222 #[iV x] w (h3 (.bool false) w):=by rw[<-a];exact b
    have cK:=lh a;clear a b
    go_wp2_with (go_at_call 222;refine c.mono ?_;rintro r j ⟨rfl,rfl⟩)
    exact Dc
theorem N2 (b) (a:List Int) (c:Bool) (d:Hd (a.any (n0)=c)) (w) (e:Sl .i64 w b a) :
 Calls prog 210 #[b,.func (.func 222) #[] #[]] w (h3 (.bool c) w):=by
 cases c with
 | true=>go_enter func210,ntmps210;go_wp2_with fail;refine(Qb b a true d _ e).mono ?_;exact R1
 | false=>go_enter func210,ntmps210;go_wp2_with fail;refine(Qb b a false d _ e).mono ?_;exact R1
def hp (a c:List Int) (b:Int):Nat->List Int×Int
 | 0=>(c,b)
 | k+1=>((hp a c b k).1.set k ((hp a c b k).1.getD k 0+(a.getD k 0-min (a.getD k 0) (hp a c b k).2)),(hp a c b k).2-min (a.getD k 0) (hp a c b k).2)
def s0 (a:List Int) (c d:Int) (b:List Int):List Int×Int×Int×Int :=
 if hW a c d=false then ([],0,0,1) else
 if (b.length == a.length)=false then ([],0,0,1) else
 if b.any n0=true then ([],0,0,1) else
 if hW (hp b a c a.length).1 (hp b a c a.length).2 d=true then ((hp b a c a.length).1,(hp b a c a.length).2,d,0) else ([],0,0,5)
theorem Cz (e b:List Int) (d:Int) (a:Nat):(hp e b d a).1.length=b.length:=by
 induction a with
 | zero=>rfl
 | succ a c=>simp[hp,c]
theorem UH (f c:List Int) (e:Int) (a b:Nat) (h:a<=b):(hp f c e a).1.getD b 0=c.getD b 0:=by
 induction a with
 | zero=>rfl
 | succ a d=>have:=d om;simp only[hp];rw[<-this];simp[List.getD,show a≠b by omega]
theorem HI (h:r.any n0=false) (a:Nat):0<=r.getD a 0/\r.getD a 0<=1000000000000000:=by
 by_cases b:a<r.length
 ·rw[List.any_eq_false]at h;have:=h r[a] (List.getElem_mem b);have c:r.getD a 0=r[a]:=by simp[List.getD,b]
  rw[c];exact AZ.1 (by simpa[n0] using this)
 ·have c:r.getD a 0=0:=by simp[List.getD,Nat.le_of_not_lt b]
  rw[c];omega
theorem ZY {bs:List Int} (h:r.any n0=false) (b:0<=c/\c<=1000000000000000) (a:Nat):0<=(hp r bs c a).2/\(hp r bs c a).2<=1000000000000000:=by
 induction a with
 | zero=>exact b
 | succ a d=>have:=HI h a;simp only[hp];omega
theorem RJ (h:hW r c d=true):1<=r.length:=by
 unfold hW at h;cases a:q5 0 r with
 | none=>rw[a]at h;simp at h
 | some b=>rw[a]at h;simp only[ba,decide_eq_true_eq]at h;exact h.1.1.1.1
theorem Jr (ak j) (bs a:List Int) (c aa:Int) (h:Hd (hW bs c aa=false\/(a.length == bs.length)=false\/a.any n0=true)) (z:bs.length<=1000) (w) (l:Sl .i64 w ak bs) (i:Sl .i64 w j a) :
 Calls prog 186 #[.agg #[ak,iV c,iV aa],j] w (t4 ([],0,0,1) w):=by
 have br:=lh l;have t:=lh i;obtain⟨aF,aC,rfl,y,⟨m,_⟩,g⟩:=l;clear g;obtain⟨B,x,rfl,A,⟨s,_⟩,g⟩:=i;clear g;unfold maxLen at m s;refine p3 ?_;intro bJ;refine PC ?_;intro ct cj bi;clear ct;cases d:hW bs c aa with
 | false =>
  have dj:=lh d;clear d;go_enter func186,ntmps186;go_wp2_with fail;refine Ga ?_;show _;unhygienic intros
  clear aH;exact SQ
 | true =>
  have dj:=lh d;by_cases f:a.length=bs.length
  ·have n:((a.length:Int) != (bs.length:Int))=false:=by simp[f]
   have u:Hd (a.any n0=true):=by
    rcases h.o with b | b | b;·rw[d]at b;exact absurd b (by simp)
    ·simp[f]at b
    ·exact b
   clear d f;go_enter func186,ntmps186;go_wp2_with fail;refine Ga ?_;show _;intro a7 aH f6 eZ dl;clear aH;have e:=eZ.o;obtain⟨v,o,r,-⟩:=e.cS [0,1,2];clear e;go_wp2_with fail;refine(N2 _ a true u _ (t.B dl)).mono ?_;rintro _ C ⟨rfl,rfl⟩;exact SQ
  ·have n:((a.length:Int) != (bs.length:Int))=true:=by simp;omega
   clear d f;go_enter func186,ntmps186;go_wp2_with fail;refine Ga ?_;show _;intro a7 aH f6 eZ dl;clear aH;have e:=eZ.o;obtain⟨v,o,r,-⟩:=e.cS [0,1,2];clear e;exact SQ
theorem Zo (E u) (bs bo:List Int) (c aa:Int) (ae:Hd (hW bs c aa=true)) (V:bo.length=bs.length) (Q:Hd (bo.any n0=false)) (a:List Int) (d:Int) (a9:Hd (hp bo bs c bs.length=(a,d))) (W:Bool) (aO:Hd (hW a d aa=W)) (A:List Int×Int×Int×Int) (al:Hd ((if W=true then (a,d,aa,0) else ([],0,0,5))=A)) (a2:bs.length<=1000) (w) (av:Sl .i64 w E bs) (ar:Sl .i64 w u bo) :
 Calls prog 186 #[.agg #[E,iV c,iV aa],u] w (t4 A w):=by
 have br:=lh av;have ax:=lh ar;obtain⟨aF,aC,rfl,aZ,⟨aD,_⟩,J⟩:=av;clear J;obtain⟨bj,aT,rfl,bc,⟨aK,_⟩,J⟩:=ar;clear J;unfold maxLen at aD aK;refine p3 ?_;intro bJ;refine PC ?_;intro ct cj bi;clear ct;have dj:=ae;have aA:((bo.length:Int) != (bs.length:Int))=false:=by simp[V]
 have aM:=lh V;have S:=A1 ae.o;have aB:1<=bs.length:=RJ ae.o;have ad:=lh (fun k=>ZY (bs:=bs) Q.o S.1 k);have H:=lh (fun k=>HI Q.o k);have I:=lh S.2;have ey:=lh (An aB a2);clear V S;go_enter func186,ntmps186;go_wp2_with fail;refine Ga ?_;show _;unhygienic intros
 clear aH;have ah:=eZ.o;obtain⟨r,l,j,-⟩:=ah.cS [0,1,2];clear ah;go_wp2_with fail;refine(N2 _ bo false Q _ (ax.B dl)).mono ?_;rintro _ aP ⟨rfl,rfl⟩;have a':=dl.size;go_wp2_with fail;refine(H9 _ bs c aa ey.2 _ (br.B dl)).mono ?_;rintro _ aP ⟨q,rfl,s,t⟩;obtain⟨aE,bD,rfl⟩:=ro s BO;obtain⟨n,am⟩:=xg bs.length;have bd:=lh am;obtain⟨base,M⟩:=xg (a7.heap.size+2);rw[am]at s ⊢;rw[M]at s;have au:w.heap.size<base:=oo f6.lt;have aY:w.heap.size+1<base:=oo f6.lt;have z:=eZ.B t;obtain⟨aN,aJ,a4,-⟩:=z.fs [0,1,2];clear r l j;obtain⟨r,l,j,-⟩:=z.cS [0,1,2];have P:=lh z;have T:=lh s;have bb:=(s.lt aE rfl).1;have aW:=t.size;have Z:=lh (hJ dl t);have O:=lh (f6.B t);have aQ:=lh M;have ag:bo.length=n:=aM.trans bd.o;have G:=lh ag;clear z s t am M aA ag;go_wp2_with fail;go_loopg [28] n (fun g i wr=>∃(k:Nat),k+g=n/\i=iV k/\Hd (hA wr w.heap.size 35 [sL aE 0 n bD,iV (hp bo bs c k).2,iV aa]/\wr.ownsRow base 2 1 (sL aE 0 n bD) n ((hp bo bs c k).1.map (Value.int .i64))/\hA wr (w.heap.size+1) 35 [sZ,iZ,iZ]/\BW w wr));case atStart=>refine⟨0,by omega,rfl,?_⟩;exact⟨((P.set 0 _).set 1 _).set 2 _,yau (yau (yau T.o au) au) au,((O.setOther om 0 _).setOther om 1 _).setOther om 2 _,p2 Z.o om _ _ _⟩
 case round =>
  obtain⟨k,aS,rfl,m⟩:=hrel;clear r l j aN aJ a4;cases gk with
  | succ g =>
   have a6:(k:Int)<bo.length:=oo G.o;obtain⟨aU,aV,e,rfl,mx,a0⟩:=(ax.B m.2.2.2).get (i:=k) (oo G.o);have aj:=H.o k;rw[a0.o]at aj;have bq:=I.o k Pz;have cH:=ad.o k;have b:=Cz bo bs c k;have K:=UH bo bs c k k (nr _);have o:hp bo bs c (k+1)=((hp bo bs c k).1.set k ((hp bo bs c k).1.getD k 0+(bo.getD k 0-min (bo.getD k 0) (hp bo bs c k).2)),(hp bo bs c k).2-min (bo.getD k 0) (hp bo bs c k).2):=rfl;rw[a0.o,K]at o;have f:=m.o;have x:(hp bo bs c k).1.getD k 0=bs.getD k 0:=K;generalize (hp bo bs c k).2=C at f cH o;generalize (hp bo bs c k).1=L at f b o x;generalize bs.getD k 0=y at bq o x;have n':=lh o;have iL:=lh f;have ao:=lh x;have ai:Hd (L.length=n):=b.trans bd.o;have ay:n<=1000:=o2 bd.o ey.2;have yO:=f.2.2.2;clear o f x b K m;by_cases R:e<=C
   ·have vi:=fun (X:World)=>L3 base w.heap.size aE n bD k L C aa e y (C-e) ai om ay ao R rfl (wi _ ⟨by omega,by omega⟩) (wi _ ⟨by omega,by omega⟩) au X;have wN:Hd (hp bo bs c (k+1)=(L.set k y,C-e)):=by
     show _=_;rw[n'.o,Int.min_eq_left R,show y+(e-e)=y by omega]
    exact RL
   ·have vi:=fun (X:World)=>QT base w.heap.size aE n bD k L C aa e y (e-C) (y+(e-C)) ai om ay ao R rfl rfl (wi _ ⟨by omega,by omega⟩) (wi _ ⟨by omega,by omega⟩) au X;have wN:Hd (hp bo bs c (k+1)=(L.set k (y+(e-C)),0)):=by
     show _=_;rw[n'.o,Int.min_eq_right om,show C-C=0 by omega]
    exact RL
  | zero =>
   obtain rfl:k=n:=om;have a6:¬((k:Int)<bo.length):=oo G.o;have b:=Cz bo bs c bs.length;have D:=aO.o;have am:=bd.o;have f:=m.o;have ak:=a9.o;rw[am]at b ak;rw[ak]at f b;simp only at f b;obtain⟨j',fs,v,a8⟩:=f;obtain⟨r,l,j,-⟩:=j'.cS [0,1,2];obtain⟨a3,F,aL,aG,az,ab,_⟩:=B0 fs;have a1:Hd (a3.take k=a.map (Value.int .i64)):=by show _=_;simpa using ab
   have aI:=lh b;have aw:=lh (Sl.of_own fs b);cases W with
   | true =>
    obtain rfl:(a,d,aa,0)=A:=al.o;have Y:Hd (z0 (sL aE 0 k bD) a d aa=.tuple #[.agg #[sL aE 0 k bD,iV d,iV aa],iZ]):=by show _=_;unfold z0;rw[D];rfl
    have pP:=lh v;have af:=lh F;have jH:=lh a8;have ac:Hd (a.length<=1000000):=by show _<=_;have:=ey.2;omega
    clear j' fs a8 v F az ab Z O P T b D am m ey ad H I;go_wp2_with fail;refine(Ci _ a d aa _ Y ac.o _ aw.o).mono ?_;refine QU ?_;intro lz hZ iE aR bg be bh aX bf dl;have an:=lh (af.B hZ);have a5:=iE.lt;clear iE hZ r l j;go_wp2;refine bodyPost_ret (v:=.tuple #[.agg #[sL aE 0 k bD,iV d,iV aa],iZ]) Dt rfl ⟨sL aE 0 k bD,rfl,⟨Sl.of_blk (((an.setOther om 0 _).setOther om 1 _).setOther om 2 _) aI.o aL aG a1.o,DV fun _=>⟨rfl,by omega⟩⟩,p2 dl om _ _ _⟩
   | false =>
    obtain rfl:([],0,0,5)=A:=al.o;have Y:Hd (z0 (sL aE 0 k bD) a d aa=.tuple #[.agg #[sZ,iZ,iZ],iV 5]):=by show _=_;unfold z0;rw[D];rfl
    have pP:=lh v;have af:=lh F;have jH:=lh a8;have ac:Hd (a.length<=1000000):=by show _<=_;have:=ey.2;omega
    clear j' fs a8 v F az ab Z O P T b D am m ey ad H I;go_wp2_with fail;refine(Ci _ a d aa _ Y ac.o _ aw.o).mono ?_;refine QU ?_;intro lz hZ iE aR bg be bh aX bf dl;have an:=lh (af.B hZ);have a5:=iE.lt;clear iE hZ r l j;go_wp2;refine bodyPost_ret (v:=.tuple #[.agg #[sZ,iZ,iZ],iV 5]) Dt rfl ⟨sZ,rfl,⟨Sl.nil,x0⟩,p2 dl om _ _ _⟩
theorem Qo (f e) (a b:List Int) (d c:Int) (l:List Int×Int×Int×Int) (k:Hd (s0 a d c b=l)) (j:a.length<=1000) (w) (g:Sl .i64 w f a) (i:Sl .i64 w e b) :
 Calls prog 186 #[.agg #[f,iV d,iV c],e] w (t4 l w):=by
 have k:=k.o;subst k;unfold s0;cases n:hW a d c with
 | false=>rw[if_pos rfl];exact Jr f e a b d c (.inl n) j w g i
 | true =>
  rw[if_neg Is];cases cx:(b.length == a.length) with
  | false=>rw[if_pos rfl];exact Jr f e a b d c (.inr (.inl cx)) j w g i
  | true =>
   rw[if_neg Is];cases m:b.any n0 with
   | true=>rw[if_pos rfl];exact Jr f e a b d c (.inr (.inr m)) j w g i
   | false=>rw[if_neg Is];exact Zo f e a b d c n Hw m _ _ rfl _ rfl _ rfl j w g i
theorem TY (g a) (b f:List Int) (e c:Int) (d:List Int×Int×Int×Int) (n:Hd (s0 b e c f=d)) (o:b.length<=1000) (w) (i:Sl .i64 w g b) (l:Sl .i64 w a f) :
 Calls prog 186 #[.agg #[g,iV e,iV c],a] w (Yu d w) :=
 (Qo g a b f e c d n o w i l).mono fun _ _ ⟨a,k,⟨j,_⟩,m⟩=>⟨a,k,j,m⟩
namespace DivM
def Inv (a e b c q d:Nat):Prop:=q*b+d=a/\(a*4294967296+e)/(b*4294967296+c)<=q
theorem inv_start (b c a d:Nat) (e:c<4294967296) (f:0<a):Inv b c a d (b/a) (b%a):=by
 refine⟨Nat.div_add_mod' b a,?_⟩;have h:(b*4294967296+c)/(a*4294967296)=b/a:=by
  rw[Nat.mul_comm a,<-Nat.div_div_eq_div_mul]
  congr 1;omega
 rw[<-h];exact Nat.div_le_div_left om om
theorem digit_lt (c e b a:Nat) (i:e<4294967296) (f:c<b*4294967296+a):(c*4294967296+e)/(b*4294967296+a)<4294967296:=by obtain⟨d,g⟩:=xg (b*4294967296+a);rw[g]at f ⊢;rw[Nat.div_lt_iff_lt_mul om];omega
theorem le_digit {q:Nat} (h:q*k+j=n) (a:0<k*4294967296+i) (b:q*i<=4294967296*j+m):q<=(n*4294967296+m)/(k*4294967296+i):=by rw[Nat.le_div_iff_mul_le a,Nat.mul_add,<-Nat.mul_assoc];generalize q*k=A at *;generalize q*i=B at *;omega
theorem digit_lt_of {q:Nat} (h:q*k+j=n) (a:0<k*4294967296+i) (b:4294967296*j+m<q*i):(n*4294967296+m)/(k*4294967296+i)<q:=by rw[Nat.div_lt_iff_lt_mul a,Nat.mul_add,<-Nat.mul_assoc];generalize q*k=A at *;generalize q*i=B at *;omega
theorem inv_done {q:Nat} (h:Inv n m k i q j) (b:0<k*4294967296+i) (a:q*i<=4294967296*j+m):q=(n*4294967296+m)/(k*4294967296+i):=
 Nat.le_antisymm (le_digit h.1 b a) h.2
theorem inv_step {l y0 q:Nat} (h:Inv n l m y0 q k) (g:l<4294967296) (c:n<m*4294967296+y0) (a:4294967296<=q\/4294967296*k+l<q*y0):1<=q/\Inv n l m y0 (q-1) (k+m):=by
 have f:(n*4294967296+l)/(m*4294967296+y0)<q:=by
  rcases a with a | a;·have:=digit_lt n l m y0 g c;omega
  ·exact digit_lt_of h.1 om a
 have i:=h.1;clear h;obtain⟨d,e⟩:=xg ((n*4294967296+l)/(m*4294967296+y0));unfold Inv;rw[e]at f ⊢;clear e a c;refine⟨by omega,?_,by omega⟩;obtain⟨b,rfl⟩:∃b,q=b+1:=⟨q-1,by omega⟩;rw[Nat.add_sub_cancel];rw[Nat.add_mul,Nat.one_mul]at i;omega
theorem inv_break {q:Nat} (h:Inv n m k i q j) (b:0<k*4294967296+i) (d:i<4294967296) (a:q<=4294967296) (c:4294967296<=j):q=(n*4294967296+m)/(k*4294967296+i):=by refine inv_done h b ?_;have:q*i<=4294967296*4294967295:=Nat.mul_le_mul a om;omega
theorem start_le {u y1 y0:Nat} (b:u<y1*4294967296+y0) (c:y0<4294967296) (a:2147483648<=y1):u/y1<=4294967297:=by
 have:u/y1<4294967298:=by rw[Nat.div_lt_iff_lt_mul om];omega
 omega
theorem two_digits (c e d a:Nat) (o:0<a) :
 (c*4294967296+e)/a*4294967296+((c*4294967296+e)%a*4294967296+d)/a=((c*4294967296+e)*4294967296+d)/a /\
 ((c*4294967296+e)%a*4294967296+d)%a=((c*4294967296+e)*4294967296+d)%a:=by
 obtain⟨b,n⟩:=xg (c*4294967296+e);rw[n];obtain⟨f,l⟩:=xg (b*4294967296+d);rw[l];obtain⟨i,k⟩:=xg (b%a*4294967296+d);rw[k];obtain⟨g,j⟩:=xg (b/a*4294967296);rw[j];have m:f=i+a*g:=by have:=Nat.div_add_mod b a;rw[<-j,<-Nat.mul_assoc];generalize a*(b/a)=f at *;omega
 rw[m];constructor;·rw[Nat.add_mul_div_left _ _ o];omega
 ·rw[Nat.add_mul_mod_self_left]
theorem shifted (c b a:Nat):c*2 ^ a/(b*2 ^ a)=c/b/\c*2 ^ a%(b*2 ^ a)/2 ^ a=c%b:=by have d:0<2 ^ a:=Nat.two_pow_pos a;refine⟨Nat.mul_div_mul_right _ _ d,?_⟩;rw[Nat.mul_mod_mul_right,Nat.mul_div_cancel _ d]
end DivM
theorem F8 (h:q:=by rw[aj]at ce;have mJ:=lh aj;clear aj;go_wp2_with fail;refine(BM mJ.o _).mono ?_;rintro I a7 ⟨rfl,rfl⟩;exact Fi):q:=h
theorem FH (h:q:=by rw[j6,lB,nj,qn,vj]at a9;have nk:=lh j6;have pb:=lh lB;have rG:=lh nj;have vk:=lh qn;have yP:=lh vj;clear j6 lB nj qn vj;go_wp2_with fail;refine(BM nk.o _).mono ?_;rintro I a7 ⟨rfl,rfl⟩;go_wp2_with fail;refine(BM pb.o _).mono ?_;rintro I a7 ⟨rfl,rfl⟩;go_wp2_with fail;refine(BM rG.o _).mono ?_;rintro I a7 ⟨rfl,rfl⟩;go_wp2_with fail;refine(BM vk.o _).mono ?_;rintro I a7 ⟨rfl,rfl⟩;go_wp2_with fail;refine(BM yP.o _).mono ?_;exact Nz):q:=h
theorem VA (ak aB b:Int) (w):Calls prog 52 #[iV ak,iV aB,iV b] w (h3 (.bool (h0 ak aB b)) w):=by go_enter func52,ntmps52;exact Qr
theorem BM (h:h0 c d f=D) (w):Calls prog 52 #[iV c,iV d,iV f] w (h3 (.bool D) w):=by rw[<-h];exact VA c d f w
theorem TS {a:List (Int×Bool)} (h:n<a.length) (b:a.getD n (0,false)=(c,D)):BV (a.take (n+1))=(BV (a.take n) && h0 c 0 10000000):=by
 unfold BV;rw[List.take_succ_eq_append_getElem h,List.all_append];have:a[n]=(c,D):=by rw[<-b];simp[List.getD,h]
 simp[this]
theorem Td (c) (ts:List (Int×Bool)) (ay al an az ar ax:Int) (d:(h0 ay 0 1000000000000000 && h0 ts.length 1 8)=false) (w) (e:h7 w c ts) :
 Calls prog 26 #[.agg #[iV ay,c,iV al,iV an,iV az,iV ar,iV ax]] w (RetB (iV 6) w):=by
 have E:=lh e;obtain⟨aF,aC,rfl,B,⟨g,_⟩,m⟩:=e;clear m;unfold maxLen at g;refine EV ?_;intro g7 bm;have j:h0 ay 0 1000000000000000=false\/(h0 ay 0 1000000000000000=true/\decide (1<=(ts.length:Int))=false)\/(h0 ay 0 1000000000000000=true/\decide (1<=(ts.length:Int))=true/\decide ((ts.length:Int)<=8)=false):=by
  cases h:h0 ay 0 1000000000000000 with
  | false=>exact .inl rfl
  | true=>rw[h,Bool.true_and,MY]at d;simp only[true_and,decide_eq_false_iff_not,decide_eq_true_eq];omega
 clear d;have r:=lh g7;clear g7;rcases j with a | ⟨a,i⟩ | ⟨a,i,s⟩;all_goals
  have n:=lh a;clear a;go_enter func26,ntmps26;go_wp2_with fail;refine(BM n.o _).mono ?_;rintro A t ⟨rfl,rfl⟩;go_wp2_with fail;go_loopg [3,4] ts.length (fun b l o wr=>∃k:Nat,k+b=ts.length/\o=iV k/\l=.bool false/\wr=(w.alloc (.cells #[iV ay,.slice aF ts.length aC,iV al,iV an,iV az,iV ar,iV ax] 24)));case atStart=>exact⟨0,by omega,rfl,rfl,rfl⟩
  case round =>
   obtain⟨k,z,rfl,rfl,rfl⟩:=hrel;obtain⟨C,D,u,v,x,F,y⟩:=r.o;cases gk with
   | zero=>have f:¬((k:Int)<ts.length):=om;go_wp2;go_ret;exact⟨rfl,bm⟩
   | succ b =>
    have f:(k:Int)<ts.length:=om;go_wp2;go_roundg b;case measure=>omega
    case rel=>exact⟨k+1,by omega,by go_num,rfl,rfl⟩
theorem Zg (e) (ts:List (Int×Bool)) (ay al an az ar ax:Int) (a:(h0 ay 0 1000000000000000 && h0 ts.length 1 8)=true) (d:Int) (a9:Hd ((if (BV ts && (h0 al 1 28 && h0 an 1 25) && h0 az 0 1000000000000000 && h0 ar 0 1000 && h0 ax (-135140) 2922896)=true then 0 else 6)=d)) (w) (f:h7 w e ts) :
 Calls prog 26 #[.agg #[iV ay,e,iV al,iV an,iV az,iV ar,iV ax]] w (RetB (iV d) w):=by
 have u:=lh f;obtain⟨aF,aC,rfl,F,⟨m,_⟩,r⟩:=f;clear r;unfold maxLen at m;refine EV ?_;intro g7 bm;rw[ba]at a;obtain⟨a,j⟩:=a;rw[B9]at j;have s:=lh a;have E:decide (1<=(ts.length:Int))=true:=by simp;omega
 have x:decide ((ts.length:Int)<=8)=true:=by simp;omega
 clear a j;have v:=lh g7;clear g7;go_enter func26,ntmps26;go_wp2_with fail;refine(BM s.o _).mono ?_;rintro I a7 ⟨rfl,rfl⟩;go_wp2_with fail;go_loopg [3,4] ts.length (fun g o i wr=>∃k:Nat,k+g=ts.length/\i=iV k/\o=.bool (BV (ts.take k))/\wr=(w.alloc (.cells #[iV ay,.slice aF ts.length aC,iV al,iV an,iV az,iV ar,iV ax] 24)));case atStart=>exact⟨0,by omega,rfl,rfl,rfl⟩
 case round =>
  obtain⟨k,D,rfl,rfl,rfl⟩:=hrel;obtain⟨G,H,z,y,A,M,C⟩:=v.o;cases gk with
  | zero =>
   have l:¬((k:Int)<ts.length):=om;obtain rfl:k=ts.length:=om;rw[List.take_length];cases b:BV ts with
   | false=>rw[b]at a9;clear b;go_wp2;go_ret;rw[<-a9.o];exact⟨rfl,bm⟩
   | true =>
    rw[b]at a9;clear b;cases j6:h0 al 1 28 with
    | false=>rw[j6]at a9;have nk:=lh j6;clear j6;go_wp2_with fail;refine(BM nk.o _).mono ?_;exact Nz
    | true =>
     cases lB:h0 an 1 25 with
     | false=>rw[j6,lB]at a9;have nk:=lh j6;have pb:=lh lB;clear j6 lB;go_wp2_with fail;refine(BM nk.o _).mono ?_;rintro I a7 ⟨rfl,rfl⟩;go_wp2_with fail;refine(BM pb.o _).mono ?_;exact Nz
     | true =>
      cases nj:h0 az 0 1000000000000000 with
      | false=>rw[j6,lB,nj]at a9;have nk:=lh j6;have pb:=lh lB;have rG:=lh nj;clear j6 lB nj;go_wp2_with fail;refine(BM nk.o _).mono ?_;rintro I a7 ⟨rfl,rfl⟩;go_wp2_with fail;refine(BM pb.o _).mono ?_;rintro I a7 ⟨rfl,rfl⟩;go_wp2_with fail;refine(BM rG.o _).mono ?_;exact Nz
      | true =>
       cases qn:h0 ar 0 1000 with
       | false=>rw[j6,lB,nj,qn]at a9;have nk:=lh j6;have pb:=lh lB;have rG:=lh nj;have vk:=lh qn;clear j6 lB nj qn;go_wp2_with fail;refine(BM nk.o _).mono ?_;rintro I a7 ⟨rfl,rfl⟩;go_wp2_with fail;refine(BM pb.o _).mono ?_;rintro I a7 ⟨rfl,rfl⟩;go_wp2_with fail;refine(BM rG.o _).mono ?_;rintro I a7 ⟨rfl,rfl⟩;go_wp2_with fail;refine(BM vk.o _).mono ?_;exact Nz
       | true =>
        cases vj:h0 ax (-135140) 2922896 with
        | false=>exact FH
        | true=>exact FH
  | succ g =>
   have l:(k:Int)<ts.length:=om;obtain⟨J,B,n,L,rfl,O,K,t⟩:=(u.B bm).get (i:=k) om;have ce:=lh (TS om t.o);cases c:BV (ts.take k) with
   | false=>rw[c]at ce;clear c;exact Fi
   | true =>
    rw[c]at ce;clear c;cases aj:h0 n 0 10000000 with
    | false=>exact F8
    | true=>exact F8
theorem EE (f) (b:List (Int×Bool)) (a j g e k c:Int) (d:Int) (m:Hd ((if hu a b j g e k c=true then 0 else 6)=d)) (w) (l:h7 w f b) :
 Calls prog 26 #[.agg #[iV a,f,iV j,iV g,iV e,iV k,iV c]] w (RetB (iV d) w):=by
 cases i:(h0 a 0 1000000000000000 && h0 b.length 1 8) with
 | false =>
  have n:d=6:=by rw[<-m.o];simp[hu,i]
  rw[n];exact Td f b a j g e k c i w l
 | true=>refine Zg f b a j g e k c i d ?_ w l;have:=m.o;simp only[hu,i,Bool.true_and]at this;exact this
def B7 (a:Int):Bool:=(a%4 == 0) && ((a%100 != 0) || (a%400 == 0))
theorem Zy (a:Int) (b:0<=a/\a<=20000) (c:Bool) (d:Hd (B7 a=c)) (w):Calls prog 191 #[iV a] w (h3 (.bool c) w):=by
 have e:a.tmod 4=a%4:=Int.tmod_eq_emod_of_nonneg b.1;have g:a.tmod 100=a%100:=Int.tmod_eq_emod_of_nonneg b.1;have f:a.tmod 400=a%400:=Int.tmod_eq_emod_of_nonneg b.1;go_enter func191,ntmps191;go_wp2;all_goals
  go_ret;exact⟨KI (by rw[<-d.o];simp[B7, *]),rfl⟩
def h2 (b a:Int):Int :=
 if a=1\/a=3\/a=5\/a=7\/a=8\/a=10\/a=12 then 31 else if a=4\/a=6\/a=9\/a=11 then 30 else if a=2 then (if B7 b=true then 29 else 28) else 0
theorem IP (a g:Int) (e:0<=a/\a<=20000) (c:Int) (f:Hd (h2 a g=c)) (w):Calls prog 151 #[iV a,iV g] w (h3 (iV c) w):=by
 obtain⟨q,d⟩:=xg (B7 a);have b:=lh d;clear d;go_enter func151,ntmps151
 go_wp2_with (first | (go_at_call 191;refine(Zy a e q b _).mono ?_;rintro _ _ ⟨rfl,rfl⟩))
 all_goals
  go_ret;refine⟨Fo ?_,rfl⟩;clear e;rw[<-f.o,h2,b.o];clear f b;simp only[beq_iff_eq,beq_eq_false_iff_ne,ne_eq]at *;first
   | rw[if_pos om]
   | rw[if_neg om,if_pos om]
   | (rw[if_neg om,if_neg om,if_pos om];simp[*])
   | rw[if_neg om,if_neg om,if_neg om]
def he (a:Int):Int:=-135140+365*a+(a+3)/4-(a+99)/100+(a+399)/400
theorem ZN (a:Int) (d:0<=a/\a<=10000) (b:Int) (c:Hd (he a=b)) (w):Calls prog 190 #[iV (1600+a)] w (h3 (iV b) w):=by
 have e:wrap64 (1600+a-1600)=a:=by rw[wi _ ⟨by omega,by omega⟩];omega
 go_enter func190,ntmps190;go_wp2;go_ret;exact⟨Fo (by rw[<-c.o];unfold he;omega),rfl⟩
theorem In (c a:Int) (f:c=1600+a) (d:0<=a/\a<=10000) (b:Int) (e:Hd (he a=b)) (w):Calls prog 190 #[iV c] w (h3 (iV b) w):=by subst f;exact ZN a d b e w
def hk (a:Int):Nat->Int
 | 0=>0
 | k+1=>hk a k+h2 a (k+1:Nat)
theorem Ev (a:Int):he (a+1)=he a+365+(if B7 (1600+a)=true then 1 else 0):=by
 unfold he B7;split;·exact Lm
 ·exact Lm
theorem Uv (a:Int):he a+365<=he (a+1)/\he (a+1)<=he a+366:=by rw[Ev a];split <;> omega
theorem WO (b:Int) (a:Nat):he b+365*(a:Int)<=he (b+a):=by
 induction a with
 | zero=>simp
 | succ a d=>have:=(Uv (b+a)).1;have c:b+((a+1:Nat):Int)=b+a+1:=om;rw[c];omega
theorem CD {a b:Int} (h:a<=b):he a<=he b:=by obtain⟨c,rfl⟩:=Int.le.dest h;have:=WO a c;omega
theorem Bq (a:Int) {m:Int} (b:1<=m/\m<=12):28<=h2 a m/\h2 a m<=31:=by
 unfold h2;split;·omega
 ·split;·omega
  ·split;·split <;> omega
   ·omega
theorem GL (a:Int):hk a 12=365+(if B7 a=true then 1 else 0):=by
 have e:h2 a 1=31:=rfl;have f:h2 a 2=if B7 a=true then 29 else 28:=rfl
 have k:h2 a 3=31:=rfl;have b:h2 a 4=30:=rfl;have m:h2 a 5=31:=rfl;have n:h2 a 6=30:=rfl;have g:h2 a 7=31:=rfl;have c:h2 a 8=31:=rfl;have i:h2 a 9=30:=rfl;have l:h2 a 10=31:=rfl;have d:h2 a 11=30:=rfl;have j:h2 a 12=31:=rfl;show 0+h2 a 1+h2 a 2+h2 a 3+h2 a 4+h2 a 5+h2 a 6+h2 a 7+h2 a 8+h2 a 9+h2 a 10+h2 a 11+h2 a 12=_;rw[e,f,k,b,m,n,g,c,i,l,d,j];split <;> rfl
theorem D4 (a:Int) (h:i<=j) (d:j<=12):hk a i<=hk a j:=by
 induction h with
 | refl=>exact Int.le_refl _
 | step h c=>rename_i b;have f:=c om;have e:=Bq a (m:=((b+1:Nat):Int)) om;show _<=hk a b+h2 a _;omega
structure Bi (n y m d:Int):Prop where
 hy:1600<=y/\y<=9999
 hm:1<=m/\m<=12
 hd:1<=d/\d<=h2 y m
 hn:n=he (y-1600)+hk y (m-1).toNat+d-1
theorem CZ (h:Bi c d ah f):he (d-1600)<=c/\c<he (d-1600+1):=by
 obtain⟨r,o,n,m⟩:=h;have a:=Ev (d-1600);have l:1600+(d-1600)=d:=om;rw[l]at a;have e:=GL d;obtain⟨q,b⟩:∃q:Int,(if B7 d=true then (1:Int) else 0)=q:=⟨_,rfl⟩;rw[b]at a e;refine Pn ?_;intro k b4 eB;have s:=D4 d (i:=k+1) (j:=12) om (nr _);have g:=D4 d (Nat.zero_le k) om;rw[b4]at m;simp only[hk]at g;have t:hk d (k+1)=hk d k+h2 d ah:=by show hk d k+h2 d _=_;rw[eB]
 constructor;·omega
 ·rw[a];omega
theorem Hx (y:-135140<=c) (x:c<=2932896):∃o r n,Bi c o r n:=by
 have p:∀b:Nat,b<=8400->c<he (b:Int)->∃a:Nat,a<b/\he (a:Int)<=c/\c<he ((a:Int)+1):=by
  intro b;induction b with
  | zero =>
   intro _ h;have:he ((0:Nat):Int) = -135140:=by decide
   omega
  | succ b g =>
   intro j h;by_cases i:c<he (b:Int);·obtain⟨a,s,f⟩:=g om i;exact⟨a,by omega,f⟩
   ·exact⟨b,by omega,by omega,by simpa using h⟩
 obtain⟨a,A,s,f⟩:=p 8400 (nr _) (by
  have:he ((8400:Nat):Int)=2932897:=by decide
  omega)
 have k:=GL (1600+a);rw[Ev (a:Int)]at f;have t:∀b:Nat,b<=12->c-he a+1<=hk (1600+a) b->∃d:Nat,d<b/\hk (1600+a) d<c-he a+1/\c-he a+1<=hk (1600+a) (d+1):=by
  intro b;induction b with
  | zero=>intro _ h;simp only[hk]at h;omega
  | succ b g =>
   intro j h;by_cases i:c-he a+1<=hk (1600+a) b;·obtain⟨d,l,e⟩:=g om i;exact⟨d,by omega,e⟩
   ·exact⟨b,by omega,by omega,h⟩
 obtain⟨d,z,l,e⟩:=t 12 (nr _) (by rw[k];omega);refine⟨1600+a,d+1,c-he a+1-hk (1600+a) d,⟨by omega,by omega,?_,?_⟩⟩;·simp only[hk]at e;have v:((d+1:Nat):Int)=(d:Int)+1:=om;rw[v]at e;omega
 ·have u:(1600+(a:Int))-1600=a:=om;have m:((d:Int)+1-1).toNat=d:=om;rw[u,m];omega
theorem VJ {a n:Int} (h:Bi c d f y) (g:Bi c z a n):d=z/\f=a/\y=n:=by
 have l:=CZ h;have u:=CZ g;have p:d=z:=by
  rcases Int.lt_trichotomy d z with b | b | b;·have:=CD (a:=d-1600+1) (b:=z-1600) om;omega
  ·exact b
  ·have:=CD (a:=z-1600+1) (b:=d-1600) om;omega
 subst p;have m:=h.hn;have t:=g.hn;have r:=h.hd;have x:=g.hd;have v:=h.hm;have s:=g.hm;have o:f=a:=by
  rcases Int.lt_trichotomy f a with b | b | b;·have e:=D4 d (i:=(f-1).toNat+1) (j:=(a-1).toNat) om om;simp only[hk]at e;have k:(((f-1).toNat+1:Nat):Int)=f:=om;rw[k]at e;omega
  ·exact b
  ·have e:=D4 d (i:=(a-1).toNat+1) (j:=(f-1).toNat) om om;simp only[hk]at e;have k:(((a-1).toNat+1:Nat):Int)=a:=om;rw[k]at e;omega
 subst o;exact⟨rfl,rfl,by omega⟩
theorem Wx (a:Int) (h:a < -135140\/(-135140<=a/\2932896<a)) (w):Calls prog 150 #[iV a] w (RetB (.tuple #[.agg #[iZ,iZ,iZ],iV 10]) w):=by
 rcases h with h | ⟨h,e⟩;all_goals
  go_enter func150,ntmps150;go_wp2_with fail;refine Fu (fun _ _ _=>False) ?first ?pass
  case pass=>intro f d c b;exact b.elim
  case first=>go_wp2_with fail;simp only[w2];refine bodyPost_ret (v:=.tuple #[.agg #[iZ,iZ,iZ],iV 10]) (by simp[results,results150,go_sem]) rfl ⟨rfl,?_⟩;exact bL
theorem w3 (w:World) (c:List Value) (b:TypeId) (a:Nat) (d:w.heap.size=a):hA (w.alloc (.cells c.toArray b)) a b c:=by subst d;exact heap_alloc_new w _
theorem Je (h:c<d) (a:0<d):c.toNat<d.toNat:=om
def S0 (a:Int):Option Value->Nat
 | some (.int _ x)=>(a+20-x).toNat
 | _=>0
def TA:Option Value->Nat
 | some (.int _ x)=>(13-x).toNat
 | _=>0
theorem I8 (a b:Int) (c:IntKind):S0 a (some (.int c b))=(a+20-b).toNat:=rfl
theorem J3 (a:Int) (b:IntKind):TA (some (.int b a))=(13-a).toNat:=rfl
theorem Hq (h:Bi c d f y):-135140<=c/\c<=2932896:=by
 have k:=CZ h;have g:=h.hy;have l:=CD (a:=0) (b:=d-1600) om;have i:=CD (a:=d-1600+1) (b:=8400) om;have e:he 0 = -135140:=by decide
 have j:he 8400=2932897:=by decide
 omega
theorem Gt (g d n B:Int) (h:Bi g d n B) (w):Calls prog 150 #[iV g] w (RetB (.tuple #[.agg #[iV d,iV n,iV B],iZ]) w):=by
 have aY:=Hq h;obtain⟨bF,b8⟩:=aY;obtain⟨q,aH⟩:=xg ((g+135140)/366);have ay:(g+135140).tdiv 366=q:=by rw[<-aH];exact Int.tdiv_eq_ediv_of_nonneg om
 have T:wrap64 q=q:=wi _ ⟨by omega,by omega⟩;have X:wrap64 (1600+q)=1600+q:=wi _ ⟨by omega,by omega⟩;have k:=lh h;have aQ:=lh aH;clear h aH;have bp:Hd ((g-he (d-1600))+1=hk d (n-1).toNat+B):=by have:=k.o.hn;show _=_;omega
 go_enter func150,ntmps150;go_wp2_with fail;refine WV 0 1 Iv (fun a5 o=>∃(c:Nat) (M aK R ad aB aL ab aE Y au aA az O a4 P V ac aG S Q ax J aC aD aJ K aI aw aM am af a6 aF an a1 ar a8 a2 aj a9 a3 a7 a0 L W Z ak ah I al aN av:Value),a5={ tmps:=#[iV g,M,pV w.heap.size,iZ,pV (w.heap.size+1),aK,R,ad,aB,aL,ab,aE,Y,au,aA,az,O,a4,P,V,ac,aG,S,Q,ax,J,aC,aD,aJ,K,aI,aw,aM,am,af,a6,aF,an,a1,ar,a8,a2,aj,a9,a3,a7,a0,L,W,Z,ak,ah,I,al,aN,av],defers:=[] }/\1600+(c:Int)<=d/\Hd (hA o w.heap.size 249 [iZ,iZ,iZ])/\Hd (hA o (w.heap.size+1) 249 [iV (1600+(c:Int)),iV 1,iV 1])/\Hd (BW w o))
  (fun a5 o=>∃(c:Nat) (e:Int) (M aK R ad aB aL ab aE Y au aA az O a4 P V ac aG S Q ax J aC aD aJ K aI aw aM am af a6 aF an a1 ar a8 a2 aj a9 a3 a7 a0 L W Z ak ah I al aN av:Value),a5={ tmps:=#[iV g,M,pV w.heap.size,iZ,pV (w.heap.size+1),aK,R,ad,aB,aL,ab,aE,Y,au,aA,az,O,a4,P,V,ac,aG,S,Q,ax,J,aC,aD,aJ,K,aI,aw,aM,am,af,a6,aF,an,a1,ar,a8,a2,aj,a9,a3,a7,a0,L,W,Z,ak,ah,I,al,aN,av],defers:=[] }/\((c:Int)+1<=n/\hk d c+e=hk d (n-1).toNat+B)/\Hd (hA o w.heap.size 249 [iZ,iZ,iZ])/\Hd (hA o (w.heap.size+1) 249 [iV d,iV ((c:Int)+1),iV e])/\Hd (BW w o))
  (fun _ o=>S0 d (o.cell? (Ad (w.heap.size+1) 0))) (fun _ o=>TA (o.cell? (Ad (w.heap.size+1) 1))) rfl rfl ?pass0 ?pass1 ?first
 case pass0 =>
  clear ay T X;intro b1 bf m bi C aR;obtain⟨c,m⟩:=m;iterate 52 obtain⟨_,m⟩:=m
  obtain⟨rfl,bw,z,l,E⟩:=m;have aa:=lh C;have bq:=lh aR;clear C aR;have aW:=k.o.hy;have bg:wrap64 (1600+(c:Int)+1)=1600+(c:Int)+1:=wi _ ⟨by omega,by omega⟩;have D:=l.cell 0;have bE:=l.frozen 0;have G:=l.cell 2;have aT:=l.frozen 2;simp only[gz,gs]at D G;obtain⟨f,p⟩:=xg (he ((c:Int)+1));have bb:=lh p;by_cases s:1600+(c:Int)<d
  ·have bm:f<=g:=by
    have ai:=CD (a:=(c:Int)+1) (b:=d-1600) om;have x:=(CZ k.o).1;omega
   have y:=lh s;clear p s aW G aT
   go_wp2_with (first | (go_at_call 190;refine(In _ ((c:Int)+1) om (o2 y.o k.o.hy) f bb _).mono ?_;rintro _ _ ⟨rfl,rfl⟩))
   go_step3;clear bg;have t:=(l.set 0 (iV (1600+(c:Int)+1)));have u:=t.cell 0;simp only[List.set_cons_zero,gz]at u;refine aa.o _ _ ⟨c+1,_,_,_,_,_,_,_,_,_,_,_,_,_,_,_,_,_,_,_,_,_,_,_,_,_,_,_,_,_,_,_,_,_,_,_,_,_,_,_,_,_,_,_,_,_,_,_,_,_,_,_,_,rfl,oo y.o,z.setOther om _ _,?_,E.setCell (show w.heap.size<=w.heap.size+1 by omega) _⟩ ?_;·have e:(1600+((c+1:Nat):Int))=1600+(c:Int)+1:=om;rw[e];exact t
   ·rw[u,D,I8,I8];have:=y.o;exact Je om om
  ·have aP:d=1600+(c:Int):=om;have bm:¬f<=g:=by
    have x:=(CZ k.o).2;have e:d-1600+1=(c:Int)+1:=om;rw[e,p]at x;omega
   obtain⟨r,F⟩:=xg (he (c:Int));have bh:=lh F;have bd:wrap64 (g-r)=g-r:=by
    have x:=(CZ k.o).1;have e:d-1600=(c:Int):=om;rw[e,F]at x;have bj:=CD (a:=0) (b:=(c:Int)) om;have b6:he 0 = -135140:=by decide
    exact wi _ ⟨by omega,by omega⟩
   have a':wrap64 (1+(g-r))=g-r+1:=by
    have x:=(CZ k.o).1;have e:d-1600=(c:Int):=om;rw[e,F]at x;have bj:=CD (a:=0) (b:=(c:Int)) om;have b6:he 0 = -135140:=by decide
    rw[wi _ ⟨by omega,by omega⟩];omega
   have A:=lh aP;have aZ:=lh (An bd a');clear p F s aW aP
   go_wp2_with (first | (go_at_call 190;refine(In _ ((c:Int)+1) om (o2 A.o k.o.hy) f bb _).mono ?_;rintro _ _ ⟨rfl,rfl⟩))
   go_region_with (first | (go_at_call 190;refine(In _ (c:Int) om (o2 A.o k.o.hy) r bh _).mono ?_;rintro _ _ ⟨rfl,rfl⟩))
   all_goals
    rw[(IntWalk.i64_left (g-r)).trans aZ.1,(IntWalk.i64_left (1+(g-r))).trans aZ.2];clear bg bd a';go_wp2_with fail;go_step3;go_step;go_step;have t:=(l.set 2 (iV (g-r+1)));have u:=t.cell 1;simp only[List.set_cons_zero,List.set_cons_succ,gz,gs]at u;refine bq.o _ _ ⟨0,g-r+1,_,_,_,_,_,_,_,_,_,_,_,_,_,_,_,_,_,_,_,_,_,_,_,_,_,_,_,_,_,_,_,_,_,_,_,_,_,_,_,_,_,_,_,_,_,_,_,_,_,_,_,_,rfl,⟨oo k.o.hm,?_⟩,(z.setOther om _ _).B (hG bR),?_,(E.setCell (show w.heap.size<=w.heap.size+1 by omega) _).drew⟩ ?_;·have ai:=bp.o;have e:d-1600=(c:Int):=oo A.o;rw[e,bh.o]at ai;show 0+_=_;omega
    ·have e:d=1600+(c:Int):=A.o;rw[e];exact t.B (hG bR)
    ·have bs:(bf.setCell (Ad (w.heap.size+1) 2) (iV (g-r+1))).drew.cell? (Ad (w.heap.size+1) 1)=some (iV 1):=u;rw[bs,D,I8,J3];have:=A.o;exact Je om om
 case pass1 =>
  clear ay T X;intro b1 bf m bi C;obtain⟨c,e,m⟩:=m;iterate 52 obtain⟨_,m⟩:=m
  obtain⟨rfl,⟨bw,aX⟩,z,l,E⟩:=m;have aa:=lh C;have H:=lh aX;clear C aX;obtain⟨D,aV,-⟩:=l.cs [0,1];have b9:=l.frozen 1;have G:=l.cell 2;have aT:=l.frozen 2;simp only[gz,gs]at D aV G;obtain⟨f,p⟩:=xg (h2 d ((c:Int)+1));have bc:=lh p;have ao:=k.o.hm;have be:=k.o.hd;have ag:=Bq d (m:=(c:Int)+1) om;rw[p]at ag;by_cases s:(c:Int)+1<n
  ·have b3:=D4 d (i:=c+1) (j:=(n-1).toNat) om om;have aS:hk d (c+1)=hk d c+f:=by rw[<-p];rfl
   have bv:f<e:=oo H.o;have b4:wrap64 (e-f)=e-f:=by have:=H.o;have bD:=D4 d (Nat.zero_le c) om;have aY:=D4 d (i:=(n-1).toNat) (j:=12) om (nr _);have bl:=GL d;have b7:=Bq d ao;have aO:hk d 0=0:=rfl;exact wi _ ⟨by omega,by split at bl <;> omega⟩
   have b0:wrap64 ((c:Int)+1+1)=(c:Int)+1+1:=wi _ ⟨by omega,by omega⟩;have bx:=lh aS;have y:=lh s;clear p s ao be ag b3 aS
   go_wp2_with (first | (go_at_call 151;refine(IP _ _ (oo k.o.hy) f bc _).mono ?_;rintro _ _ ⟨rfl,rfl⟩))
   go_step3;clear b4 b0;have t:=((l.set 2 (iV (e-f))).set 1 (iV ((c:Int)+1+1)));have u:=t.cell 1;simp only[List.set_cons_zero,List.set_cons_succ,gz,gs]at u;refine aa.o _ _ ⟨c+1,e-f,_,_,_,_,_,_,_,_,_,_,_,_,_,_,_,_,_,_,_,_,_,_,_,_,_,_,_,_,_,_,_,_,_,_,_,_,_,_,_,_,_,_,_,_,_,_,_,_,_,_,_,_,rfl,⟨oo y.o,o2 H.o bx.o⟩,(z.setOther om _ _).setOther om _ _,?_,(E.setCell (show w.heap.size<=w.heap.size+1 by omega) _).setCell (show w.heap.size<=w.heap.size+1 by omega) _⟩ ?_;·exact t
   ·rw[u,aV,J3,J3];have:=y.o;have:=k.o.hm;exact Je om om
  ·have ae:n=(c:Int)+1:=om;have bu:e=B:=by
    have:=H.o;have aO:(n-1).toNat=c:=om;rw[aO]at this;omega
   subst bu;have bv:¬f<e:=by rw[<-p,<-ae];omega
   obtain⟨br,bz,bo,-⟩:=z.cS [0,1,2];obtain⟨bC,bG,bB,-⟩:=z.fs [0,1,2];have bt:=lh ae;clear p s ao be ag ae
   go_wp2_with (first | (go_at_call 151;refine(IP _ _ (oo k.o.hy) f bc _).mono ?_;rintro _ _ ⟨rfl,rfl⟩))
   simp only[w2];refine bodyPost_ret (v:=.tuple #[.agg #[iV d,iV ((c:Int)+1),iV e],iZ]) (by simp[results,results150,go_sem,br,bz,bo]) rfl ⟨by rw[bt.o],?_⟩;exact((E.setCell (show w.heap.size<=w.heap.size by omega) _).setCell (show w.heap.size<=w.heap.size by omega) _).setCell (show w.heap.size<=w.heap.size by omega) _
 case first =>
  intro bi aU;have b5:=lh aU;clear aU;obtain⟨c,rfl⟩:∃c:Nat,q=(c:Int):=⟨q.toNat,oo aQ.o⟩;go_wp2_with fail;go_step3;go_step;go_step;clear ay T X;have b2:1600+(c:Int)<=d:=by
   have ai:=(CZ k.o).2;have x:=aQ.o;by_cases s:1600+(c:Int)<=d;·exact s
   ·have bj:=CD (a:=d-1600+1) (b:=(c:Int)) om;have bA:he (c:Int) <= -135140+366*(c:Int):=by unfold he;omega
    omega
  refine b5.o _ _ ⟨c,_,_,_,_,_,_,_,_,_,_,_,_,_,_,_,_,_,_,_,_,_,_,_,_,_,_,_,_,_,_,_,_,_,_,_,_,_,_,_,_,_,_,_,_,_,_,_,_,_,_,_,_,rfl,b2,hA.B (w3 w _ _ _ rfl) (hB bR _),w3 (w.alloc _) _ _ _ Is,hB (hB bR _) _⟩
noncomputable def AU (a:Int):Int×Int×Int:=by
 classical
 exact if h:-135140<=a/\a<=2932896 then ((Hx h.1 h.2).choose,(Hx h.1 h.2).choose_spec.choose,(Hx h.1 h.2).choose_spec.choose_spec.choose) else (0,0,0)
theorem Dm {n:Int} (h:-135140<=n/\n<=2932896):Bi n (AU n).1 (AU n).2.1 (AU n).2.2:=by unfold AU;rw[dif_pos h];exact(Hx h.1 h.2).choose_spec.choose_spec.choose_spec
theorem KK (h:Bi c d f y):AU c=(d,f,y):=by obtain⟨b,a,e⟩:=VJ (Dm (Hq h)) h;rw[<-b,<-a,<-e]
noncomputable def Bs (a b:Int):Int :=
 if a-(AU a).2.2+b-1<a then a-(AU a).2.2+b-1+h2 (AU a).1 (AU a).2.1 else a-(AU a).2.2+b-1
noncomputable def nc (b a:Int):Int×Int :=
 if a<1\/28<a then (0,1) else if b < -135140\/2932896<b then (0,10) else if 2932896<Bs b a then (0,10) else (Bs b a,0)
theorem GW (a d:Int) (g:Int×Int) (s:Hd (nc a d=g)) (w):Calls prog 108 #[iV a,iV d] w (RetB (.tuple #[iV g.1,iV g.2]) w):=by
 by_cases k:d<1\/28<d
 ·have e:g=(0,1):=by rw[<-s.o];unfold nc;rw[if_pos k]
  subst e;rcases k with k | k;·go_enter func108,ntmps108;go_wp2;go_ret2;exact⟨rfl,bR⟩
  ·have G:¬d<1:=om;go_enter func108,ntmps108;go_wp2;go_ret2;exact⟨rfl,bR⟩
 ·have J:¬d<1:=om;have G:¬28<d:=om;by_cases u:a < -135140\/2932896<a
  ·have e:g=(0,10):=by rw[<-s.o];unfold nc;rw[if_neg k,if_pos u]
   subst e;have E:Hd (a < -135140\/(-135140<=a/\2932896<a)):=by show _\/_;omega
   clear k u s;go_enter func108,ntmps108;go_wp2_with fail;refine(Wx _ E.o _).mono ?_;rintro _ v ⟨rfl,j⟩;go_wp2;go_ret2;exact⟨rfl,hB j _⟩
  ·have o:=Dm (n:=a) om;obtain⟨l,m,c,y⟩:∃l m c,AU a=(l,m,c):=⟨_,_,_,rfl⟩;rw[y]at o;simp only at o;have p:=lh o;have A:=Bq l o.hm;have F:=o.hd;obtain⟨b,x⟩:=xg (a-c+d-1);obtain⟨f,t⟩:=xg (h2 l m);have z:=lh t;rw[t]at A;have i:Hd ((if 2932896<(if b<a then b+f else b) then ((0:Int),(10:Int)) else ((if b<a then b+f else b),0))=g):=by
    show _=_;rw[<-s.o];unfold nc Bs;rw[if_neg k,if_neg u,y];simp only;rw[x,t]
   have H:wrap64 (a-c)=a-c:=wi _ ⟨by omega,by omega⟩;have I:wrap64 (a-c+d)=a-c+d:=wi _ ⟨by omega,by omega⟩;have D:wrap64 (a-c+d-1)=b:=by rw[x];exact wi _ ⟨by omega,by omega⟩
   have C:wrap64 (b+f)=b+f:=wi _ ⟨by omega,by omega⟩;clear k u s o y A F x t;by_cases B:b<a
   ·rw[if_pos B]at i;by_cases r:2932896<b+f
    ·have e:g=(0,10):=by rw[<-i.o,if_pos r]
     subst e;clear i;go_enter func108,ntmps108;go_wp2_with fail;refine(Gt _ l m c p.o _).mono ?_;rintro _ v ⟨rfl,j⟩
     go_wp2_with (first | (go_at_call 151;refine(IP _ _ (oo p.hy) f z _).mono ?_;rintro _ _ ⟨rfl,rfl⟩))
     go_ret2;exact⟨rfl,hB j _⟩
    ·have e:g=(b+f,0):=by rw[<-i.o,if_neg r]
     subst e;clear i;go_enter func108,ntmps108;go_wp2_with fail;refine(Gt _ l m c p.o _).mono ?_;rintro _ v ⟨rfl,j⟩
     go_wp2_with (first | (go_at_call 151;refine(IP _ _ (oo p.hy) f z _).mono ?_;rintro _ _ ⟨rfl,rfl⟩))
     go_ret2;refine⟨?_,hB j _⟩;show Ending.returned (.tuple #[iV (wrap64 (b+f)),iZ])=_;rw[C]
   ·rw[if_neg B]at i;by_cases r:2932896<b
    ·have e:g=(0,10):=by rw[<-i.o,if_pos r]
     subst e;clear i;go_enter func108,ntmps108;go_wp2_with fail;refine(Gt _ l m c p.o _).mono ?_;rintro _ v ⟨rfl,j⟩;go_wp2;go_ret2;exact⟨rfl,hB j _⟩
    ·have e:g=(b,0):=by rw[<-i.o,if_neg r]
     subst e;clear i;go_enter func108,ntmps108;go_wp2_with fail;refine(Gt _ l m c p.o _).mono ?_;rintro _ v ⟨rfl,j⟩;go_wp2;go_ret2;refine⟨?_,hB j _⟩;show Ending.returned (.tuple #[iV (wrap64 (a-c+d-1)),iZ])=_;rw[D]
theorem Ye (c:BW W Y):(∀a b,a<W.heap.size->Y.cell? (Ad a b)=W.cell? (Ad a b))/\(∀a b,a<W.heap.size->Y.frozen? (Ad a b)=W.frozen? (Ad a b)):=
 ⟨fun a b h=>c.cell (p:=(Ad a b)) h,fun a b h=>c.frozen (p:=(Ad a b)) h⟩
theorem k1 (h:BW W Y) (a:W.heap.size<=n):BW W (Y.setCell (Ad n m) v):=h.setCell (p:=(Ad n m)) a v
theorem U9 (h:BW W Y) (b:Y.grownBy Z (some n)) (hge:W.heap.size<=n):BW W Z:=h.grown b h.size (fun c a=>by cases a;exact hge)
def C5 (a:Int) (b:Nat):Int:=a/2 ^ b%256
def B3 (a:Int):List Int:=[C5 a 56,C5 a 48,C5 a 40,C5 a 32,C5 a 24,C5 a 16,C5 a 8,C5 a 0]
theorem Pb (a:Int):(B3 a).length=8:=rfl
theorem n2 (a:Int):IntKind.u64.wrap a=a%18446744073709551616:=by simp[IntKind.wrap,IntKind.bits,IntKind.signed]
theorem US (a:Int) (b:n<8):(B3 a)[n]?=some (C5 a (56-8*n)):=by have:n=0\/n=1\/n=2\/n=3\/n=4\/n=5\/n=6\/n=7:=om;rcases this with rfl | rfl | rfl | rfl | rfl | rfl | rfl | rfl <;> rfl
theorem XS (a:Int) (b:n<8):(B3 a).take (n+1)=(B3 a).take n++[C5 a (56-8*n)]:=by rw[List.take_add_one,US a b];rfl
theorem Et (h:q:=by have aJ:=a9;clear a9;go_wp2_with fail;refine(G2 cw.o _).mono ?_;rintro I dm ⟨rfl,rfl⟩;exact E7):q:=h
theorem Ek (h:q:=by
 go_upto_region 10 with fail;cases d7:decide (aU<ax) with
 | true=>exact LY
 | false =>
  cases d8:decide (2932896<aU) with
  | true=>simp[aM,aP,bA,fJ,d5,d6,d7,d8]at a9;have aJ:=a9;clear a9;exact E7
  | false =>
   go_upto_region 12 with fail;cases d9:iu != 0 with
   | true=>simp[aM,aP,bA,fJ,d5,d6,d7,d8,d9]at a9;exact Te
   | false=>simp[aM,aP,bA,fJ,d5,d6,d7,d8,d9]at a9;exact SI):q:=h
theorem MH (h:q:=by
 intro jY a7 J fd lH;clear lH;iterate 106 obtain⟨_,J⟩:=J
 obtain⟨rfl,au⟩:=J;go_wp2;simp only[Exit.jump];go_ret;exact⟨rfl,au⟩):q:=h
theorem SI (h:q:=by have aJ:=a9;clear a9;go_wp2_with fail;refine(G2 cw.o _).mono ?_;rintro I dm ⟨rfl,rfl⟩;go_wp2_with fail;refine(G2 cw.o _).mono ?_;rintro I dm ⟨rfl,rfl⟩;go_wp2;go_step3;go_step;go_step;exact iG.o _ _ (hP (hP (hP (hP (hP (hP (hP (hP (hP (hP ⟨_,_,_,_,_,_,by rw[<-aJ.o],au⟩))))))))))):q:=h
theorem E7 (h:q:=by go_wp2;go_step3;exact⟨rfl,dM.o _ _ (hP (hP (hP (hP (hP (hP (hP (hP (hP (hP ⟨_,_,_,_,_,_,by rw[<-aJ.o],au⟩))))))))))⟩):q:=h
def rt (a:Int):Bool:=a == 4 || a == 5
def Cg (i:Int) (g:List (Int×Bool)) (m k j l f a e c b d:Int):Int :=
 if hu i g m k j l f=false then 6
 else if (decide (a<1) || decide (6<a))=true then 1
 else if (if a == 2 then c != 0 else decide (c<1) || decide ((g.length:Int)<c))=true then 7
 else if (if a == 6 then decide (b<0) || decide (10000000<b) else decide (b<1) || decide (1000000000000000<b))=true then 8
 else if (decide (e<f) || decide (2932896<e))=true then 10
 else if (if rt a then decide (d<1) || decide (2000<d) else d != 0)=true then 1
 else 0
theorem Zi (a:Int) (w):Calls prog 178 #[iV a] w (h3 (.bool (rt a)) w):=by
 cases b:a == 4 with
 | true=>go_enter func178,ntmps178;go_wp2;go_ret;simp[h3,rt,b]
 | false=>go_enter func178,ntmps178;go_wp2;go_ret;simp[h3,rt,b]
theorem G2 (h:rt c=D) (w):Calls prog 178 #[iV c] w (h3 (.bool D) w):=by rw[<-h];exact Zi c w
theorem Xg (c) (ts:List (Int×Bool)) (ay al an az ar ax dk aU el bW iu a:Int) (g:Hd (hu ay ts al an az ar ax=false)) (aJ:Hd (6=a)) (w) (b:h7 w c ts) :
 Calls prog 135 #[.agg #[iV ay,c,iV al,iV an,iV az,iV ar,iV ax],.agg #[iV dk,iV aU,iV el,iV bW,iV iu]] w (RetB (iV a) w):=by
 have b3:=lh b;obtain⟨aF,aC,rfl,b7,⟨aA,_⟩,y⟩:=b;clear y;unfold maxLen at aA;refine Oj ?_;intro bm;go_enter func135,ntmps135;go_wp2;refine sq 0 (fun aN bh=>∃(br s bp aQ ac A T a' bw Q be O aw aY a8 u aM v G R bo C z a5 m bb bd bs n bq a1 bz aj W aP bi ak aD av aS aE aa aW aI aR aB r I P ah Y f ai b2 a0 am bt X b0 ag bf aV bv b5 aG a2 bl S t bu L x ad a9 i a3 af o B aO K b6 bx H b4 Z M ae aL aH bj j aT bc D V aK aZ l aX a4 bg ab a6 ao F:Value),aN={ tmps:=#[br,s,bp,aQ,ac,iV a,A,T,a',bw,Q,be,O,aw,aY,a8,u,aM,v,G,R,bo,C,z,a5,m,bb,bd,bs,n,bq,a1,bz,aj,W,aP,bi,ak,aD,av,aS,aE,aa,aW,aI,aR,aB,r,I,P,ah,Y,f,ai,b2,a0,am,bt,X,b0,ag,bf,aV,bv,b5,aG,a2,bl,S,t,bu,L,x,ad,a9,i,a3,af,o,B,aO,K,b6,bx,H,b4,Z,M,ae,aL,aH,bj,j,aT,bc,D,V,aK,aZ,l,aX,a4,bg,ab,a6,ao,F],defers:=[] }/\BW w bh)
  (fun _ _=>0) rfl ?pass ?first
 case pass=>exact MH
 case first=>intro fd d E;have dM:=lh d;clear d E;go_wp2_with fail;refine(Cy _ ts ay al an az ar ax 6 (lh (by rw[g.o];rfl)) _ (b3.B bm)).mono ?_;rintro e a7 ⟨rfl,b1⟩;have au:BW w a7:=hJ bm b1;exact E7
theorem Yc (c) (ts:List (Int×Bool)) (ay al an az ar ax dk aU el bW iu a:Int) (a9:Hd (Cg ay ts al an az ar ax dk aU el bW iu=a)) (ri:Hd (hu ay ts al an az ar ax=true)) (bf:(dk == 2)=true) (b8:(dk != 2)=false) (sS:(dk == 6)=false) (b9:(dk != 6)=true) (cw:Hd (rt dk=false)) (w) (b:h7 w c ts) :
 Calls prog 135 #[.agg #[iV ay,c,iV al,iV an,iV az,iV ar,iV ax],.agg #[iV dk,iV aU,iV el,iV bW,iV iu]] w (RetB (iV a) w):=by
 have br:=lh b;obtain⟨aF,aC,rfl,bB,⟨a8,_⟩,v⟩:=b;clear v;unfold maxLen at a8;refine Oj ?_;intro bm;go_enter func135,ntmps135;go_wp2;refine sq 0 (fun aO bl=>∃(bv o bt aS aa y R bc b1 O bh L ao a' a5 s aN t D P bs A x a3 j bd bg bw l bu aw b3 ah T aR bo ai aB am aV aD Y aY aI aT aA n F M af W e ag b5 av aj bx V b4 ae bi aX b0 b7 aE a0 bq Q r bz H u ab a6 f a1 ad m z aQ G d b2 E b6 X K ac aL aG bp g aW be B S aK bb i aZ a2 bj Z a4 ak C:Value),aO={ tmps:=#[bv,o,bt,aS,aa,iV a,y,R,bc,b1,O,bh,L,ao,a',a5,s,aN,t,D,P,bs,A,x,a3,j,bd,bg,bw,l,bu,aw,b3,ah,T,aR,bo,ai,aB,am,aV,aD,Y,aY,aI,aT,aA,n,F,M,af,W,e,ag,b5,av,aj,bx,V,b4,ae,bi,aX,b0,b7,aE,a0,bq,Q,r,bz,H,u,ab,a6,f,a1,ad,m,z,aQ,G,d,b2,E,b6,X,K,ac,aL,aG,bp,g,aW,be,B,S,aK,bb,i,aZ,a2,bj,Z,a4,ak,C],defers:=[] }/\BW w bl)
  (fun _ _=>0) rfl ?pass ?first
 case pass=>exact MH
 case first =>
  refine PY ?_;intro fd dM iG;go_wp2_with fail;refine NP ?_;clear bm a9;unhygienic intros
  go_upto_region 4 with fail;cases aM:decide (dk<1) with
  | true=>simp[aM]at a9;have aJ:=a9;clear a9;exact E7
  | false =>
   cases aP:decide (6<dk) with
   | true=>simp[aM,aP]at a9;have aJ:=a9;clear a9;exact E7
   | false =>
    go_upto_region 6 with fail;cases bA:el != 0 with
    | true=>simp[aM,aP,bA]at a9;have aJ:=a9;clear a9;exact E7
    | false =>
     go_upto_region 8 with fail;cases fJ:decide (bW<1) with
     | true=>simp[aM,aP,bA,fJ]at a9;have aJ:=a9;clear a9;exact E7
     | false =>
      cases d5:decide (1000000000000000<bW) with
      | true=>exact Ib
      | false =>
       go_upto_region 10 with fail;cases d6:decide (aU<ax) with
       | true=>exact KJ
       | false =>
        cases d7:decide (2932896<aU) with
        | true=>exact LY
        | false =>
         go_upto_region 12 with fail;cases d8:iu != 0 with
         | true=>simp[aM,aP,bA,fJ,d5,d6,d7,d8]at a9;exact Te
         | false=>simp[aM,aP,bA,fJ,d5,d6,d7,d8]at a9;exact SI
theorem T5 (c) (ts:List (Int×Bool)) (ay al an az ar ax dk aU el bW iu a:Int) (a9:Hd (Cg ay ts al an az ar ax dk aU el bW iu=a)) (ri:Hd (hu ay ts al an az ar ax=true)) (bf:(dk == 2)=false) (b8:(dk != 2)=true) (sS:(dk == 6)=true) (b9:(dk != 6)=false) (cw:Hd (rt dk=false)) (w) (b:h7 w c ts) :
 Calls prog 135 #[.agg #[iV ay,c,iV al,iV an,iV az,iV ar,iV ax],.agg #[iV dk,iV aU,iV el,iV bW,iV iu]] w (RetB (iV a) w):=by
 have br:=lh b;obtain⟨aF,aC,rfl,bB,⟨a8,_⟩,v⟩:=b;clear v;unfold maxLen at a8;refine Oj ?_;intro bm;go_enter func135,ntmps135;go_wp2;refine sq 0 (fun aO bl=>∃(bv o bt aS aa y R bc b1 O bh L ao a' a5 s aN t D P bs A x a3 j bd bg bw l bu aw b3 ah T aR bo ai aB am aV aD Y aY aI aT aA n F M af W e ag b5 av aj bx V b4 ae bi aX b0 b7 aE a0 bq Q r bz H u ab a6 f a1 ad m z aQ G d b2 E b6 X K ac aL aG bp g aW be B S aK bb i aZ a2 bj Z a4 ak C:Value),aO={ tmps:=#[bv,o,bt,aS,aa,iV a,y,R,bc,b1,O,bh,L,ao,a',a5,s,aN,t,D,P,bs,A,x,a3,j,bd,bg,bw,l,bu,aw,b3,ah,T,aR,bo,ai,aB,am,aV,aD,Y,aY,aI,aT,aA,n,F,M,af,W,e,ag,b5,av,aj,bx,V,b4,ae,bi,aX,b0,b7,aE,a0,bq,Q,r,bz,H,u,ab,a6,f,a1,ad,m,z,aQ,G,d,b2,E,b6,X,K,ac,aL,aG,bp,g,aW,be,B,S,aK,bb,i,aZ,a2,bj,Z,a4,ak,C],defers:=[] }/\BW w bl)
  (fun _ _=>0) rfl ?pass ?first
 case pass=>exact MH
 case first =>
  refine PY ?_;intro fd dM iG;go_wp2_with fail;refine NP ?_;clear bm a9;unhygienic intros
  go_upto_region 4 with fail;cases aM:decide (dk<1) with
  | true=>simp[aM]at a9;have aJ:=a9;clear a9;exact E7
  | false =>
   cases aP:decide (6<dk) with
   | true=>simp[aM,aP]at a9;have aJ:=a9;clear a9;exact E7
   | false =>
    go_upto_region 6 with fail;cases bA:decide (el<1) with
    | true=>simp[aM,aP,bA]at a9;have aJ:=a9;clear a9;exact E7
    | false =>
     cases fJ:decide ((ts.length:Int)<el) with
     | true=>simp[aM,aP,bA,fJ]at a9;have aJ:=a9;clear a9;exact E7
     | false =>
      go_upto_region 8 with fail;cases d5:decide (bW<0) with
      | true=>exact Ib
      | false =>
       cases d6:decide (10000000<bW) with
       | true=>exact KJ
       | false=>exact Ek
theorem yo4 (c) (ts:List (Int×Bool)) (ay al an az ar ax dk aU el bW iu a:Int) (a9:Hd (Cg ay ts al an az ar ax dk aU el bW iu=a)) (ri:Hd (hu ay ts al an az ar ax=true)) (bf:(dk == 2)=false) (b8:(dk != 2)=true) (sS:(dk == 6)=false) (b9:(dk != 6)=true) (cw:Hd (rt dk=true)) (w) (b:h7 w c ts) :
 Calls prog 135 #[.agg #[iV ay,c,iV al,iV an,iV az,iV ar,iV ax],.agg #[iV dk,iV aU,iV el,iV bW,iV iu]] w (RetB (iV a) w):=by
 have br:=lh b;obtain⟨aF,aC,rfl,bB,⟨a8,_⟩,v⟩:=b;clear v;unfold maxLen at a8;refine Oj ?_;intro bm;go_enter func135,ntmps135;go_wp2;refine sq 0 (fun aO bl=>∃(bv o bt aS aa y R bc b1 O bh L ao a' a5 s aN t D P bs A x a3 j bd bg bw l bu aw b3 ah T aR bo ai aB am aV aD Y aY aI aT aA n F M af W e ag b5 av aj bx V b4 ae bi aX b0 b7 aE a0 bq Q r bz H u ab a6 f a1 ad m z aQ G d b2 E b6 X K ac aL aG bp g aW be B S aK bb i aZ a2 bj Z a4 ak C:Value),aO={ tmps:=#[bv,o,bt,aS,aa,iV a,y,R,bc,b1,O,bh,L,ao,a',a5,s,aN,t,D,P,bs,A,x,a3,j,bd,bg,bw,l,bu,aw,b3,ah,T,aR,bo,ai,aB,am,aV,aD,Y,aY,aI,aT,aA,n,F,M,af,W,e,ag,b5,av,aj,bx,V,b4,ae,bi,aX,b0,b7,aE,a0,bq,Q,r,bz,H,u,ab,a6,f,a1,ad,m,z,aQ,G,d,b2,E,b6,X,K,ac,aL,aG,bp,g,aW,be,B,S,aK,bb,i,aZ,a2,bj,Z,a4,ak,C],defers:=[] }/\BW w bl)
  (fun _ _=>0) rfl ?pass ?first
 case pass=>exact MH
 case first =>
  refine PY ?_;intro fd dM iG;go_wp2_with fail;refine NP ?_;clear bm a9;unhygienic intros
  go_upto_region 4 with fail;cases aM:decide (dk<1) with
  | true=>simp[aM]at a9;have aJ:=a9;clear a9;exact E7
  | false =>
   cases aP:decide (6<dk) with
   | true=>simp[aM,aP]at a9;have aJ:=a9;clear a9;exact E7
   | false =>
    go_upto_region 6 with fail;cases bA:decide (el<1) with
    | true=>simp[aM,aP,bA]at a9;have aJ:=a9;clear a9;exact E7
    | false =>
     cases fJ:decide ((ts.length:Int)<el) with
     | true=>simp[aM,aP,bA,fJ]at a9;have aJ:=a9;clear a9;exact E7
     | false =>
      go_upto_region 8 with fail;cases d5:decide (bW<1) with
      | true=>exact Ib
      | false =>
       cases d6:decide (1000000000000000<bW) with
       | true=>exact KJ
       | false =>
        go_upto_region 10 with fail;cases d7:decide (aU<ax) with
        | true=>exact LY
        | false =>
         cases d8:decide (2932896<aU) with
         | true=>simp[aM,aP,bA,fJ,d5,d6,d7,d8]at a9;have aJ:=a9;clear a9;exact E7
         | false =>
          go_upto_region 12 with fail;cases d9:decide (iu<1) with
          | true=>simp[aM,aP,bA,fJ,d5,d6,d7,d8,d9]at a9;exact Et
          | false =>
           cases d10:decide (2000<iu) with
           | true=>simp[aM,aP,bA,fJ,d5,d6,d7,d8,d9,d10]at a9;exact Et
           | false=>simp[aM,aP,bA,fJ,d5,d6,d7,d8,d9,d10]at a9;exact SI
theorem TI (c) (ts:List (Int×Bool)) (ay al an az ar ax dk aU el bW iu a:Int) (a9:Hd (Cg ay ts al an az ar ax dk aU el bW iu=a)) (ri:Hd (hu ay ts al an az ar ax=true)) (bf:(dk == 2)=false) (b8:(dk != 2)=true) (sS:(dk == 6)=false) (b9:(dk != 6)=true) (cw:Hd (rt dk=false)) (w) (b:h7 w c ts) :
 Calls prog 135 #[.agg #[iV ay,c,iV al,iV an,iV az,iV ar,iV ax],.agg #[iV dk,iV aU,iV el,iV bW,iV iu]] w (RetB (iV a) w):=by
 have br:=lh b;obtain⟨aF,aC,rfl,bB,⟨a8,_⟩,v⟩:=b;clear v;unfold maxLen at a8;refine Oj ?_;intro bm;go_enter func135,ntmps135;go_wp2;refine sq 0 (fun aO bl=>∃(bv o bt aS aa y R bc b1 O bh L ao a' a5 s aN t D P bs A x a3 j bd bg bw l bu aw b3 ah T aR bo ai aB am aV aD Y aY aI aT aA n F M af W e ag b5 av aj bx V b4 ae bi aX b0 b7 aE a0 bq Q r bz H u ab a6 f a1 ad m z aQ G d b2 E b6 X K ac aL aG bp g aW be B S aK bb i aZ a2 bj Z a4 ak C:Value),aO={ tmps:=#[bv,o,bt,aS,aa,iV a,y,R,bc,b1,O,bh,L,ao,a',a5,s,aN,t,D,P,bs,A,x,a3,j,bd,bg,bw,l,bu,aw,b3,ah,T,aR,bo,ai,aB,am,aV,aD,Y,aY,aI,aT,aA,n,F,M,af,W,e,ag,b5,av,aj,bx,V,b4,ae,bi,aX,b0,b7,aE,a0,bq,Q,r,bz,H,u,ab,a6,f,a1,ad,m,z,aQ,G,d,b2,E,b6,X,K,ac,aL,aG,bp,g,aW,be,B,S,aK,bb,i,aZ,a2,bj,Z,a4,ak,C],defers:=[] }/\BW w bl)
  (fun _ _=>0) rfl ?pass ?first
 case pass=>exact MH
 case first =>
  refine PY ?_;intro fd dM iG;go_wp2_with fail;refine NP ?_;clear bm a9;unhygienic intros
  go_upto_region 4 with fail;cases aM:decide (dk<1) with
  | true=>simp[aM]at a9;have aJ:=a9;clear a9;exact E7
  | false =>
   cases aP:decide (6<dk) with
   | true=>simp[aM,aP]at a9;have aJ:=a9;clear a9;exact E7
   | false =>
    go_upto_region 6 with fail;cases bA:decide (el<1) with
    | true=>simp[aM,aP,bA]at a9;have aJ:=a9;clear a9;exact E7
    | false =>
     cases fJ:decide ((ts.length:Int)<el) with
     | true=>simp[aM,aP,bA,fJ]at a9;have aJ:=a9;clear a9;exact E7
     | false =>
      go_upto_region 8 with fail;cases d5:decide (bW<1) with
      | true=>exact Ib
      | false =>
       cases d6:decide (1000000000000000<bW) with
       | true=>exact KJ
       | false=>exact Ek
theorem HF (l) (i:List (Int×Bool)) (b d f c e g a m n j o k:Int) (r:Hd (Cg b i d f c e g a m n j o=k)) (w) (s:h7 w l i) :
 Calls prog 135 #[.agg #[iV b,l,iV d,iV f,iV c,iV e,iV g],.agg #[iV a,iV m,iV n,iV j,iV o]] w (RetB (iV k) w):=by
 cases p:hu b i d f c e g with
 | false=>exact Xg l i b d f c e g a m n j o k (lh p) (by have:=r.o;rw[Cg,p]at this;exact this) w s
 | true =>
  by_cases t:a=2;·subst t;exact Yc l i b d f c e g 2 m n j o k r (lh p) rfl rfl rfl rfl (lh rfl) w s
  ·have y:(a == 2)=false:=ss t;have v:(a != 2)=true:=ss t;by_cases u:a=6;·subst u;exact T5 l i b d f c e g 6 m n j o k r (lh p) rfl rfl rfl rfl (lh rfl) w s
   ·have x:(a == 6)=false:=ss u;have A:(a != 6)=true:=ss u;cases z:rt a with
    | true=>exact yo4 l i b d f c e g a m n j o k r (lh p) y v x A (lh z) w s
    | false=>exact TI l i b d f c e g a m n j o k r (lh p) y v x A (lh z) w s
def o1 (a:List Int) (b:Nat):Nat->Bool
 | 0=>true
 | i+1=>o1 a b i && (decide (1<=a.getD i 0) && decide (a.getD i 0<=b) && !(a.take i).contains (a.getD i 0))
def z3 (a:List Int) (b:Nat):Bool:=o1 a b a.length
def hg (a b:List Int) (c:Int):Nat->List Int×Int
 | 0=>(List.replicate a.length 0,c)
 | i+1=>((hg a b c i).1.set (b.getD i 0-1).toNat (min (hg a b c i).2 (a.getD (b.getD i 0-1).toNat 0)),(hg a b c i).2-min (hg a b c i).2 (a.getD (b.getD i 0-1).toNat 0))
def k2 (b a:List Int) (c:Int):List Int×Int:=hg b a c a.length
theorem Ke (h:o1 r n k=true) (c:m<=k):o1 r n m=true:=by
 induction k with
 | zero=>obtain rfl:m=0:=om;rfl
 | succ k a =>
  by_cases b:m=k+1;·subst b;exact h
  ·simp only[o1,ba]at h;exact a h.1 om
theorem NC (h:o1 r n k=true) (b:m<k):1<=r.getD m 0/\r.getD m 0<=n/\(r.take m).contains (r.getD m 0)=false:=by have a:=Ke h (show m+1<=k from b);simp only[o1,ba,decide_eq_true_eq,Bool.not_eq_true']at a;exact⟨a.2.1.1,a.2.1.2,a.2.2⟩
theorem Cd (b e:List Int) (d:Int) (a:Nat):(hg b e d a).1.length=b.length:=by
 induction a with
 | zero=>simp[hg]
 | succ a c=>simp[hg,c]
theorem DI {bal ks:List Int} {amount:Int} (e:0<=amount) (c:∀b∈bal,0<=b) (a:Nat):0<=(hg bal ks amount a).2/\(hg bal ks amount a).2<=amount:=by
 induction a with
 | zero=>simp[hg];omega
 | succ a d =>
  simp only[hg];have f:0<=bal.getD (ks.getD a 0-1).toNat 0:=by
   by_cases h:(ks.getD a 0-1).toNat<bal.length;·have:=c bal[(ks.getD a 0-1).toNat] (List.getElem_mem h);rw[List.getD,List.getElem?_eq_getElem h];exact this
   ·rw[List.getD,List.getElem?_eq_none om];exact Int.le_refl _
  omega
def hj (a:Int):Bool:=decide (a<0) || decide (1000000000000000<a)
theorem Z7 (a:Int) (w):Calls prog 244 #[iV a] w (h3 (.bool (hj a)) w):=by
 have b:hj a=(decide (a<0) || decide (1000000000000000<a)):=rfl;rw[b];clear b;by_cases d:a<0;·have e:decide (a<0)=true:=ss d;go_enter func244,ntmps244;go_wp2;go_ret;simp only[e];exact h3.mk _ _
 ·have e:decide (a<0)=false:=ss d;by_cases c:1000000000000000<a;·have f:decide (1000000000000000<a)=true:=ss c;go_enter func244,ntmps244;go_wp2;go_ret;exact h3.mk _ _
  ·have f:decide (1000000000000000<a)=false:=ss c;go_enter func244,ntmps244;go_wp2;go_ret;exact h3.mk _ _
def Tr (c:Bool) (w:World) (d:Ending) (b:World):Prop:=∃a:Int,d=.returned (iV a)/\decide (0<=a)=c/\w=b
theorem RE (d) (aD:List Int) (e:Bool) (iD:Hd (aD.any (hj)=e)) (w) (f:Sl .i64 w d aD) :
 Calls prog 231 #[d,.func (.func 244) #[] #[]] w (Tr e w):=by
 have o:=lh f;obtain⟨u,y,rfl,v,⟨l,_⟩,m⟩:=f;clear m;unfold maxLen at l;go_enter func231,ntmps231;go_wp2;go_loopg [8] aD.length (fun g i wr=>∃k:Nat,k+g=aD.length/\i=iV k/\w=wr/\Hd (∀a8,a8<k->(hj) (aD.getD a8 0)=false));case atStart=>exact⟨0,by omega,rfl,rfl,fun a8 di=>absurd di om⟩
 case round =>
  obtain⟨k,t,rfl,rfl,bd⟩:=hrel;cases gk with
  | zero=>exact Ra
  | succ g =>
   refine NG ?_;intro ch bP;obtain⟨A,s,x,rfl,z,aj⟩:=o.get (i:=k) bP;have b:=Z7 x w;cases a:(hj) x with
   | true =>
    have c:Calls prog 244 #[iV x] w (h3 (.bool true) w):=by rw[<-a];exact b
    have cK:=lh a;clear a b
    go_wp2_with (go_at_call 244;refine c.mono ?_;rintro r j ⟨rfl,rfl⟩)
    go_ret;refine⟨k,rfl,?_,rfl⟩;rw[<-iD.o];have n:aD.any (hj)=true:=by exact Si
    rw[n];simp
   | false =>
    have c:Calls prog 244 #[iV x] w (h3 (.bool false) w):=by rw[<-a];exact b
    have cK:=lh a;clear a b
    go_wp2_with (go_at_call 244;refine c.mono ?_;rintro r j ⟨rfl,rfl⟩)
    exact Dc
theorem Lw (b) (a:List Int) (c:Bool) (d:Hd (a.any (hj)=c)) (w) (e:Sl .i64 w b a) :
 Calls prog 210 #[b,.func (.func 244) #[] #[]] w (h3 (.bool c) w):=by
 cases c with
 | true=>go_enter func210,ntmps210;go_wp2_with fail;refine(RE b a true d _ e).mono ?_;exact R1
 | false=>go_enter func210,ntmps210;go_wp2_with fail;refine(RE b a false d _ e).mono ?_;exact R1
end Go.Proofs.YtkongpjpkpfniaaGreat

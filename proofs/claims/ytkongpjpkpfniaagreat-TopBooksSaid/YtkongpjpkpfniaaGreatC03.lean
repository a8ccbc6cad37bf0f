/- TopBooks, a part. -/
import Derived.BigRegion
import Derived.Test.YtkongpjpkpfniaaGreatC02
set_option linter.unusedVariables false
set_option linter.unusedSimpArgs false
set_option maxRecDepth 100000
set_option maxHeartbeats 6400000
namespace Go.Proofs.YtkongpjpkpfniaaGreat
open Go.RowKit Go.Proofs.Tryz
variable {c d f y z:Int} {K:IntKind} {jQ r x:List Int} {C:List Value} {g i j k m n:Nat} {p q:Prop} {e:TypeId} {v:Value} {W w:World}
theorem E6 (h:q:=by have aO:=lh (An cu (An bx (An gh (An gi (An eW cx)))));clear cu bx gh gi cx;have vl:¬((0:Int)<((0:Nat):Int)):=om;exact I4):q:=h
theorem DM (b) (a:List Int) (c:Bool) (d:Hd (a.any hj=!c)) (w) (e:Sl .i64 w b a) :
 Calls prog 232 #[b] w (h3 (.bool c) w):=by
 cases c with
 | true=>go_enter func232,ntmps232;go_wp2_with fail;refine(Lw b a false d _ e).mono ?_;rintro g f ⟨rfl,rfl⟩;go_wp2_with fail;go_ret;exact h3.mk _ _
 | false=>go_enter func232,ntmps232;go_wp2_with fail;refine(Lw b a true d _ e).mono ?_;rintro g f ⟨rfl,rfl⟩;go_wp2_with fail;go_ret;exact h3.mk _ _
theorem ZT:(prog.info? 4).map (fun a=>(a.zero,a.size,a.bytes))=some (some (.bool false),1,1):=by kernel_rfl
theorem Kr:(prog.info? 2).map (fun a=>(a.zero,a.size,a.bytes))=some (some (iZ),1,8):=by kernel_rfl
theorem Ha (v) (a:List Int) (c:Nat) (j:Bool) (A:Hd (z3 a c=j)) (w:World) (D:Sl .i64 w v a) (af:c<=1000) (X:a.length<=1000) :
 Calls prog 237 #[v,iV c] w (RetB (.bool j) w):=by
 have R:=lh D;obtain⟨Y,aa,rfl,Z,⟨I,_⟩,P⟩:=D;clear P;unfold maxLen at I;obtain⟨L,Q,J,K,er⟩:=info_parts ZT;go_enter func237,ntmps237
 go_wp2_with (at_make;refine wpList_make_full _ rfl _ _ 306 rfl w.heap.size 4 L (.bool false) 1 underlying306 Q J K _ _ _ _ c rfl rfl rfl rfl BE RD (nr _) ?_;intro S C x)
 obtain⟨f,e,_,_,m,o,_⟩:=B0 C;have p:=D0 x;have B:=lh (An e (An m (An o p)));clear e m o p C x;go_loopg [12] a.length (fun s E wr=>∃ae:Nat,ae+s=a.length/\E=iV ae/\BW w wr/\Hd (o1 a c ae=true)/\∃f,hA wr w.heap.size 4 f/\Hd (f.length=c)/\Hd (∀g,g<c->f[g]?=some (.bool ((a.take ae).contains ((g:Int)+1)))));case atStart =>
  obtain⟨e,m,o,p⟩:=B.o;refine⟨0,by omega,rfl,p,rfl,f,e,by show _=_;omega,fun g t=>?_⟩;have:f=List.replicate c (.bool false):=by rw[<-List.take_of_length_le (show f.length<=c*1 by omega),o];rw[Nat.mul_one];exact toList_madeCells_one _ _
  rw[this];simp[t]
 case round =>
  obtain⟨ae,W,rfl,l,y,f,e,m,z⟩:=hrel;clear B;cases gk with
  | zero =>
   have H:¬((ae:Int)<a.length):=om;obtain rfl:ae=a.length:=om;obtain rfl:true=j:=by rw[<-A.o];exact y.o.symm
   go_wp2;go_ret;exact⟨rfl,l⟩
  | succ s =>
   have H:(ae:Int)<a.length:=om;have n:ae<a.length:=om;obtain⟨b,V,aG,rfl,ab,bq⟩:=(R.B l).get (i:=ae) n;have r:Hd (o1 a c (ae+1)=false->j=false):=fun h=>by
    rw[<-A.o];cases u:z3 a c with
    | false=>rfl
    | true=>have:=Ke u (show ae+1<=a.length from n);rw[h]at this;cases this
   by_cases ad:aG<1;·obtain rfl:j=false:=r.o FX;go_wp2;go_ret;exact⟨rfl,l⟩
   ·by_cases T:(c:Int)<aG;·obtain rfl:j=false:=r.o (by simp only[o1,bq.o,show decide (aG<=c)=false by simp;omega];simp);go_wp2;go_ret;exact⟨rfl,l⟩
    ·obtain⟨d,rfl⟩:∃d:Nat,aG=(d:Int)+1:=⟨(aG-1).toNat,by omega⟩;have O:d<c:=om;have k:=z.o d O;cases i:(a.take ae).contains ((d:Int)+1) with
     | true =>
      obtain rfl:j=false:=r.o (by simp only[o1,bq.o,i];simp);have G:wr.cell? (Ad w.heap.size d)=some (.bool true):=by rw[e.cell,k,i]
      clear k i;go_wp2;go_ret;exact⟨rfl,l⟩
     | false =>
      have G:wr.cell? (Ad w.heap.size d)=some (.bool false):=by rw[e.cell,k,i]
      have ac:=e.frozen d;have M:=lh (An e (An k i));clear e k i;go_wp2;go_roundg s;case measure=>omega
      case rel =>
       obtain⟨e,k,i⟩:=M.o;refine⟨ae+1,by omega,by go_num,l.setCell (nr _) _,?_,f.set d (.bool true),e.set d _,by show _=_;rw[List.length_set];exact m.o,fun g t=>?_⟩;·show _=_;simp only[o1,bq.o,i,y.o];simp;omega
       ·have u:a.take (ae+1)=a.take ae++[(d:Int)+1]:=by
         rw[List.take_succ_eq_append_getElem n]
         congr 2
         rw[<-bq.o];simp[List.getD,n]
        rw[u,List.getElem?_set];by_cases F:d=g;·subst F;have:=m.o;simp[show d<f.length by omega]
        ·rw[if_neg F,z.o g t]
         congr 2
         have:¬((g:Int)+1=(d:Int)+1):=om;simp[this]
def Up (c:List Int) (d:Int) (w:World) (e:Ending) (b:World):Prop:=∃a,e=.returned (.tuple #[a,iV d])/\b.ownsRow w.heap.size 2 1 a c.length (c.map (Value.int .i64))/\BW w b
theorem Kf (G C) (a c:List Int) (f:Int) (w) (D:Sl .i64 w G a) (B:Sl .i64 w C c) (be:a.length<=1000) (aS:c.length<=1000)
 (a2:0<=f/\f<=1000000000000000) (u:Hd (∀d∈a,0<=d/\d<=1000000000000000)) (M:Hd (∀aO,aO<c.length->1<=c.getD aO 0/\c.getD aO 0<=a.length)) :
 Calls prog 233 #[G,C,iV f] w (Up (k2 a c f).1 (k2 a c f).2 w):=by
 have aL:=lh D;have aH:=lh B;obtain⟨K,aD,rfl,bb,⟨ao,_⟩,Q⟩:=D;obtain⟨aJ,Z,rfl,bd,⟨ax,_⟩,az⟩:=B;clear Q az;unfold maxLen at ao ax;have ab:Hd (∀aO,0<=(hg a c f aO).2/\(hg a c f aO).2<=f):=fun aO=>DI a2.1 (fun d aj=>(u.o d aj).1) aO;obtain⟨ad,a0,Y,aE,er⟩:=info_parts Kr;go_enter func233,ntmps233;go_wp2;refine sq 0 (fun t F=>∃(aO:Nat) (g:List Value) (e:Int) (k:List Int) (W a5 V ak a1 an O av P T X aA S R am I a3 a4 aC J aB al aI af aa aw a8 ag ar ai ay au:Value),t={ tmps:=#[Value.slice K a.length aD,Value.slice aJ c.length Z,iV e,undef,undef,undef,sZ,iZ,sL w.heap.size 0 a.length a.length,iV aO,W,a5,V,ak,a1,an,O,av,P,T,X,aA,S,R,am,I,a3,a4,aC,J,aB,al,aI,af,aa,aw,a8,ag,ar,ai,ay,au],defers:=[] } /\
  aO<=c.length/\Hd (hg a c f aO=(k,e))/\hA F w.heap.size 2 g/\Hd (g=k.map (Value.int .i64))/\BW w F)
  (fun t _=>c.length-(intOf (t.tmps.getD 9 undef)).toNat) rfl ?pass ?first
 case first =>
  intro a9 _ v;have aG:=lh v;clear v
  go_wp2_with (at_make;refine wpList_make_full _ rfl _ _ 33 rfl w.heap.size 2 ad (iZ) 1 underlying33 a0 Y aE _ _ _ _ a.length rfl rfl rfl rfl BE RD (nr _) ?_;intro a6 ae ac)
  obtain⟨g,i,_,_,bf,aF,_⟩:=B0 ae;have aK:=D0 ac;go_step3;go_step;go_step;refine aG.o _ _ ⟨0,g,f,List.replicate a.length 0,_,_,_,_,_,_,_,_,_,_,_,_,_,_,_,_,_,_,_,_,_,_,_,_,_,_,_,_,_,_,_,_,rfl,Nat.zero_le _,rfl,i,?_,aK⟩;show _=_;have:g=List.replicate a.length (iZ):=by rw[<-List.take_of_length_le (show g.length<=a.length*1 by omega),aF];rw[Nat.mul_one];exact toList_madeCells_one _ _
  rw[this];simp
 case pass =>
  intro aY a6 n a9 y;obtain⟨aO,g,e,k,n⟩:=n;iterate 32 obtain⟨_,n⟩:=n
  obtain⟨aM,bc,m8,i,p,m⟩:=n;subst aM;have E:=ab.o aO;rw[m8.o]at E;simp only at E;have s:Hd (g.length=a.length):=by show _=_;rw[p.o];have:=Cd a c f aO;rw[m8.o]at this;simpa using this
  by_cases x:aO<c.length
  ·obtain⟨aR,aW,z,rfl,aU,bq⟩:=(aH.B m).get (i:=aO) x;have L:=M.o aO x;rw[bq.o]at L;obtain⟨ah,rfl⟩:∃ah:Nat,z=(ah:Int)+1:=⟨(z-1).toNat,by omega⟩;have aV:ah<a.length:=om;obtain⟨b,o,d,rfl,aN,aj⟩:=(aL.B m).get (i:=ah) aV;have aP:0<=d/\d<=1000000000000000:=by
    rw[<-aj.o];have:=u.o a[ah] (List.getElem_mem aV);simpa[List.getD,aV] using this
   obtain⟨aQ,aZ⟩:=i.some (j:=ah) (by rw[s.o];exact aV);have a':=i.frozen ah;have H:Hd (hg a c f (aO+1)=(k.set ah (min e d),e-min e d)):=by exact IM
   have l:=lh (An i m);clear i m;by_cases aT:e<=d;·have r:=lh (show min e d=e by omega);go_wp2;go_step3;refine⟨rfl,y _ _ ⟨aO+1,g.set ah (iV e),0,k.set ah e,_,_,_,_,_,_,_,_,_,_,_,_,_,_,_,_,_,_,_,_,_,_,_,_,_,_,_,_,_,_,_,_,rfl,by omega,by show _=_;rw[H.o,r.o,Int.sub_self],l.o.1.set ah _,by show _=_;rw[p.o];simp[List.map_set],l.o.2.setCell (nr _) _⟩ ?_⟩;simp[intOf];omega
   ·have r:=lh (show min e d=d by omega);go_wp2;go_step3;refine⟨rfl,y _ _ ⟨aO+1,g.set ah (iV d),e-d,k.set ah d,_,_,_,_,_,_,_,_,_,_,_,_,_,_,_,_,_,_,_,_,_,_,_,_,_,_,_,_,_,_,_,_,rfl,by omega,by show _=_;rw[H.o,r.o],l.o.1.set ah _,by show _=_;rw[p.o];simp[List.map_set],l.o.2.setCell (nr _) _⟩ ?_⟩;simp[intOf];omega
  ·obtain rfl:aO=c.length:=om;have A:k2 a c f=(k,e):=m8.o;rw[A];have l:=lh (An i m);clear i m A;go_wp2;simp only[Exit.jump];go_ret2;have a7:k.length=a.length:=by
    have:=Cd a c f c.length;rwa [m8.o]at this
   refine⟨_,rfl,?_,l.o.2⟩;rw[a7];refine D7 l.o.1 (nr _) (nr _) RD (by rw[s.o,Nat.mul_one]) ?_;rw[List.take_of_length_le (by rw[s.o,Nat.mul_one];exact nr _),p.o]
def x3 (a b:List Int) (c:Int):List Int×Int×Int :=
 if (z3 b a.length && !a.any hj && !hj c)=true then ((k2 a b c).1,(k2 a b c).2,0) else ([],0,1)
def Ru (a:List Int×Int×Int) (w:World) (d:Ending) (c:World):Prop:=∃b,d=.returned (.tuple #[b,iV a.2.1,iV a.2.2])/\c.ownsRow w.heap.size 2 1 b a.1.length (a.1.map (Value.int .i64))/\BW w c
theorem PG (a:IntKind) (w):Sl a w (sZ) []:=⟨none,0,rfl,nr _,⟨by simp[maxLen],fun _=>rfl⟩,fun h=>absurd rfl h⟩
theorem DQ (h:r.any hj=false):∀a∈r,0<=a/\a<=1000000000000000:=by intro a b;have:=List.any_eq_false.1 h a b;simp[hj]at this;omega
theorem Dk (h:hj c=false):0<=c/\c<=1000000000000000:=by simp[hj]at h;omega
theorem yi9 (v z) (a b:List Int) (c:Int) (w) (A:Sl .i64 w v a) (D:Sl .i64 w z b) (p:a.length<=1000) (n:b.length<=1000) :
 Calls prog 218 #[v,z,iV c] w (Ru (x3 a b c) w):=by
 have t:=lh A;have o:=lh D;obtain⟨H,J,rfl,I,⟨C,_⟩,E⟩:=A;clear E;unfold maxLen at C;have y:∀s:World,Calls prog 232 #[sL s.heap.size 0 1 1] (s.alloc (.cells #[iV c] 2)) (h3 (.bool (!hj c)) (s.alloc (.cells #[iV c] 2))):=fun s =>
  DM _ [c] _ (lh Is) _ (Sl.lit _ _ [c] 1 rfl _ rfl Iv)
 have x:=lh y;clear y;cases f:z3 b a.length with
 | false =>
  have e:x3 a b c=([],0,1):=by simp[x3,f]
  rw[e];clear e;have j:=lh f;clear f;go_enter func218,ntmps218;go_wp2_with fail;refine(Ha _ b a.length false j.o _ o.o p n).mono ?_;rintro g m ⟨rfl,d⟩;go_wp2_with fail
  go_ret3
  exact⟨_,rfl,World.ownsRow_nil _ _ _ _,d⟩
 | true =>
  cases i:a.any hj with
  | true =>
   have e:x3 a b c=([],0,1):=by simp only[x3,i];simp
   rw[e];clear e;have j:=lh f;have k:=lh i;clear f i;go_enter func218,ntmps218;go_wp2_with fail;refine(Ha _ b a.length true j.o _ o.o p n).mono ?_;rintro g m ⟨rfl,d⟩;go_wp2_with fail;refine(DM _ a false k.o _ (t.B d)).mono ?_;rintro g u ⟨rfl,rfl⟩;go_wp2_with fail
   go_ret3
   exact⟨_,rfl,World.ownsRow_nil _ _ _ _,d⟩
  | false =>
   cases l:hj c with
   | true =>
    have e:x3 a b c=([],0,1):=by simp only[x3,l];simp
    rw[e];clear e;have j:=lh f;have k:=lh i;have r:=lh l;clear f i l;go_enter func218,ntmps218;go_wp2_with fail;refine(Ha _ b a.length true j.o _ o.o p n).mono ?_;rintro g m ⟨rfl,d⟩;go_wp2_with fail;refine(DM _ a true k.o _ (t.B d)).mono ?_;rintro g u ⟨rfl,rfl⟩;go_wp2_with fail;have h:=x.o m;rw[r.o]at h;refine h.mono ?_;clear h;rintro g u ⟨rfl,rfl⟩;go_wp2_with fail
    go_ret3
    exact⟨_,rfl,World.ownsRow_nil _ _ _ _,hB d _⟩
   | false =>
    have e:x3 a b c=((k2 a b c).1,(k2 a b c).2,0):=by simp only[x3,f,i,l];simp
    rw[e];clear e;have j:=lh f;have k:=lh i;have r:=lh l;clear f i l;go_enter func218,ntmps218;go_wp2_with fail;refine(Ha _ b a.length true j.o _ o.o p n).mono ?_;rintro g m ⟨rfl,d⟩;go_wp2_with fail;refine(DM _ a true k.o _ (t.B d)).mono ?_;rintro g u ⟨rfl,rfl⟩;go_wp2_with fail;have h:=x.o m;rw[r.o]at h;refine h.mono ?_;clear h;rintro g u ⟨rfl,rfl⟩;go_wp2_with fail;refine(Kf _ _ a b c _ ((t.B d).alloc _) ((o.B d).alloc _) p n (Dk r.o) (lh (DQ k.o)) (lh fun L F=>by have:=NC j.o F;exact⟨this.1,this.2.1⟩)).mono ?_;rintro g G ⟨K,rfl,B,M⟩;go_wp2_with fail
    go_ret3
    exact⟨_,rfl,E0 B (by have:=d.size;rw[wa];omega),bL⟩
def pn (b c:List Int) (a:Nat):List Int:=b.take a++c.drop a
theorem Dz (b a:List Int):pn b a 0=a:=by simp[pn]
theorem EO (a:r.length=n) (b:x.length=n):pn r x n=r:=by subst a;simp[pn,List.drop_eq_nil_of_le (show x.length<=r.length by omega)]
theorem Ez (c:r.length=n) (b:x.length=n) (a:k<=n):(pn r x k).length=n:=by simp[pn];omega
theorem G4 (d:r.length=n) (c:x.length=n) (b:m<n):(pn r x m).getD m 0=x.getD m 0:=by
 have a:(r.take m).length=m:=by rw[List.length_take];omega
 simp only[pn,List.getD_eq_getElem?_getD];rw[List.getElem?_append_right om,a,List.getElem?_drop];simp
theorem Dl (g:r.length=n) (f:x.length=n) (e:m<n):(pn r x m).set m (r.getD m 0)=pn r x (m+1):=by
 have c:(r.take m).length=m:=by rw[List.length_take];omega
 have d:r.getD m 0=r[m]:=by simp[List.getD,show m<r.length by omega]
 have a:x.drop m=x[m]::x.drop (m+1):=List.drop_eq_getElem_cons (show m<x.length by omega);have b:r.take (m+1)=r.take m++[r[m]]:=List.take_succ_eq_append_getElem om;simp only[pn];rw[List.set_append_right _ _ om,c,Nat.sub_self,d,a,b];rw[List.set_cons_zero,List.append_assoc];rfl
theorem C7 (h:w.ownsRow n e 1 v m C) :
 ∃d a,v=.slice d m a/\m<=a/\a<=maxLen/\(0<m->∃c,d=some (Ad c 0)/\n<=c/\∃b,hA w c e b/\b.length=a/\b.take m=C):=by
 rcases h.2 with⟨rfl,rfl⟩ | ⟨c,a,b,rfl,j,l,g,f,k,i⟩;·exact⟨none,0,rfl,nr _,by simp[maxLen],fun h=>absurd h om⟩
 ·exact⟨_,a,rfl,g,f,fun _=>⟨c,rfl,j,b.toList,by simpa[hA] using l,by simpa using k,by simpa using i⟩⟩
def hY (w:World) (c:Nat) (d:Nat) (b:List Int):Prop:=∃a,hA w c 2 a/\a.length=d/\a.take b.length=b.map (Value.int .i64)
theorem hY.B (h:hY w n m r) (e:BW w W):hY W n m r:=by obtain⟨a,c,b,d⟩:=h;exact⟨a,c.B e,b,d⟩
theorem hY.lt (h:hY w n m r):n<w.heap.size:=by obtain⟨b,a,_⟩:=h;exact a.lt
theorem hY.cell (h:hY w n m r) (a:i<r.length):w.cell? (Ad n i)=some (iV (r.getD i 0)):=by obtain⟨d,b,e,c⟩:=h;rw[b.cell];exact K6 c a a
theorem hY.frozen (h:hY w n m r) (a:Nat):w.frozen? (Ad n a)=false:=by obtain⟨c,b,_⟩:=h;exact b.frozen a
theorem hY.set (h:hY w n m r) (a:Nat) (b:Int):hY (w.setCell (Ad n a) (iV b)) n m (r.set a b):=by obtain⟨f,d,c,e⟩:=h;refine⟨_,d.set a _,by simpa using c,?_⟩;rw[List.length_set,List.take_set,e,List.map_set]
theorem hY.sl (h:hY w n m r) (a:r.length=k) (e:k<=m) (b:m<=maxLen):Sl .i64 w (sL n 0 k m) r:=by obtain⟨f,c,g,d⟩:=h;exact Sl.of_blk c a e b (by rw[<-a];exact d)
theorem hY.setOther (h:hY w g m r) (c:g≠n) (i:Nat) (a):hY (w.setCell (Ad n i) a) g m r:=by obtain⟨b,e,d,f⟩:=h;exact⟨b,e.setOther c i a,d,f⟩
def bk (a:Int->Bool) (b:List Int):Nat->Nat
 | 0=>0
 | k+1=>if a (b.getD k 0) then bk a b k else k+1
def i3 (a:List Int) (c:Int) (b:Nat):List Int:=a.take b++c::a.drop b
def FZ (b:Int->Bool) (a:List Int) (c:Int):List Int:=i3 a c (bk b a a.length)
def hX (c:Int->Int->Bool) (a:List Int):Nat->List Int
 | 0=>[]
 | b+1=>FZ (fun d=>c (a.getD b 0) (a.getD (d-1).toNat 0)) (hX c a b) ((b:Int)+1)
theorem UG (b:Int->Bool) (c:List Int) (a:Nat):bk b c a<=a:=by
 induction a with
 | zero=>simp[bk]
 | succ a d=>unfold bk;split <;> omega
theorem JY (a:List Int) (b:Int) (c:Nat):(i3 a b c).length=a.length+1:=by simp[i3];omega
theorem R6 (a:List Int) (b:Int):i3 a b a.length=a++[b]:=by simp[i3]
theorem VY (b:List Int) (a:Int) (c:Nat):(i3 b a c).Perm (a::b):=by unfold i3;exact List.perm_middle.trans (by rw[List.take_append_drop])
theorem A2 (d:Int->Int->Bool) (b:List Int) (a:Nat):(hX d b a).length=a:=by
 induction a with
 | zero=>rfl
 | succ a c=>simp[hX,FZ,JY,c]
theorem Mj (e:Int->Int->Bool) (d:List Int) (a:Nat):(hX e d a).Perm ((List.range a).map (fun (b:Nat)=>(b:Int)+1)):=by
 induction a with
 | zero=>simp[hX]
 | succ a c=>rw[List.range_succ,List.map_append];refine(VY _ _ _).trans ?_;refine(List.Perm.cons _ c).trans ?_;exact(List.perm_append_comm (l₁:=[(a:Int)+1]) (l₂:=(List.range a).map (fun (b:Nat)=>(b:Int)+1)))
theorem HP {lt:Int->Int->Bool} {xs:List Int} (h:c∈hX lt xs n):1<=c/\c<=n:=by have:=(Mj lt xs n).mem_iff.1 h;simp at this;omega
theorem Fx {lt:Int->Int->Bool} {xs:List Int} (h:m<n):1<=(hX lt xs n).getD m 0/\(hX lt xs n).getD m 0<=n:=by refine HP (lt:=lt) (xs:=xs) ?_;have a:=A2 lt xs n;simp[List.getD,show m<(hX lt xs n).length by omega]
theorem Yz (a:n<=r.length):(i3 r c n).getD n 0=c:=by simp[i3,List.getD,a]
theorem yig (a:n<=r.length) (b:m<n):(i3 r c n).getD m 0=r.getD m 0:=by simp[i3,List.getD,List.getElem?_append,b,a,show m<r.length by omega]
theorem TT {α:Type} {a:List α} {c b:α} (e:m<n) (d:k<n):((a.set m c).set k b).take n=((a.take n).set m c).set k b:=by rw[List.take_set,List.take_set]
theorem XQ (g:n<r.length):((i3 r c (n+1)).set n c).set (n+1) (r.getD n 0)=i3 r c n:=by
 apply List.ext_getElem?;intro a;simp only[i3,List.getElem?_set,List.getElem?_append,List.length_take,List.length_set,la,List.length_cons,List.length_drop,List.getD_eq_getElem?_getD];have i:min (n+1) r.length=n+1:=om;have m:min n r.length=n:=om;rw[i,m];by_cases e:n+1=a;·subst e;simp[g,show n+1<n+1+(r.length-(n+1)+1) by omega];intro h;omega
 ·by_cases d:n=a;·subst d;simp[show n<n+1+(r.length-(n+1)+1) by omega]
  ·simp[e,d];by_cases f:a<n;·simp[f,show a<n+1 by omega]
   ·have k:¬a<n+1:=om;simp[f,k];obtain⟨b,rfl⟩:∃b,a=n+2+b:=⟨a-(n+2),by omega⟩;have j:n+2+b-(n+1)=b+1:=om;have l:n+2+b-n=b+2:=om;rw[j,l];simp only[gs,List.getElem?_drop]
    congr 1
    omega
def td (b a:Int):Bool:=decide (b<a)
theorem W7 (b a:Int) (w):Calls prog 245 #[iV b,iV a] w (h3 (.bool (td b a)) w):=by
 go_enter func245,ntmps245;go_wp2;all_goals
  go_ret;exact h3.mk _ _
theorem YX:(prog.info? 3).map (fun a=>(a.zero,a.size,a.bytes))=some (some (iZ),1,8):=by kernel_rfl
theorem Tb (x) (aD:List Int) (w:World) (v:Sl .i64 w x aD) (aR:aD.length<=1000) :
 Calls prog 235 #[x,.func (.func 245) #[] #[]] w (ET .i64 (hX td aD aD.length) w):=by
 have z:=lh v;obtain⟨aG,y,rfl,aQ,⟨ag,_⟩,I⟩:=v;clear I;unfold maxLen at ag;obtain⟨W,ax,Q,aA,ao⟩:=info_parts YX;go_enter func235,ntmps235;go_wp2;go_loopg [5,11] aD.length (fun g l a1 wr=>∃n:Nat,n+g=aD.length/\a1=iV n/\wr.ownsRow w.heap.size 3 1 l n ((hX td aD n).map (Value.int .i64))/\BW w wr);case atStart=>exact⟨0,by omega,rfl,World.ownsRow_nil _ _ _ _,bR⟩
 case round =>
  obtain⟨n,aF,rfl,cJ,au⟩:=hrel;cases gk with
  | zero=>exact Rs
  | succ g =>
   have ch:((n:Int)<aD.length):=om;obtain⟨j,f,b,rfl,aL,aV⟩:=(z.B au).get (i:=n) om;have B:=au.size;go_wp2;refine sq 0 (fun m e=>∃(k eg fw:Nat) (cV:List Value) (G am H L P a6 K J af D az a2 a9 E a8 ae aC Z R an a3 aa aj ac av ak V aw al ar ai F M O X S C Y aE ad ab:Value),m={ tmps:=#[Value.slice (some { block:=j,off:=f }) aD.length y,Value.func (Fn.func 245) #[] #[],undef,undef,sZ,sL eg 0 (n+1) fw,iV n,iV b,iV k,Value.slice (some { block:=j,off:=f }) aD.length y,Value.int IntKind.i64 ↑aD.length,iV n,.bool true,iV n,Value.pointer (some { block:=j,off:=f+n }),iV b,G,am,H,L,P,a6,K,J,af,D,az,a2,a9,E,a8,ae,aC,Z,R,an,a3,aa,aj,ac,av,ak,V,aw,al,ar,ai,F,M,O,X,S,C,Y,aE,ad,ab,undef],defers:=[] } /\
    k<=n/\bk (fun a=>td b (aD.getD (a-1).toNat 0)) (hX td aD n) k=bk (fun a=>td b (aD.getD (a-1).toNat 0)) (hX td aD n) n/\hA e eg 3 cV/\w.heap.size<=eg/\n+1<=fw/\fw<=maxLen/\cV.length=fw/\cV.take (n+1)=(i3 (hX td aD n) (n+1) k).map (Value.int .i64)/\BW w e)
    (fun m _=>(intOf (m.tmps.getD 8 undef)).toNat) rfl ?pass ?first
   case first =>
    intro a5 _ r;have aB:=lh r;clear r
    go_wp2_with (at_builtin;refine wpList_append_own _ rfl (.tmp 16) (.tmp 19) 266 rfl w.heap.size 3 W (iZ) 1 8 underlying266 ax Q aA ao rfl Iv _ _ _ rfl (cJ.alloc _) (Ad wr.heap.size 0) 1 1 [iV (n+1)] rfl rfl (cell_one_new _ _ _) (fun b o=>by simp at o;subst o;rfl) RD om GK ?_;intro aP a7 t T aI)
    obtain⟨eg,fw,rfl⟩:=ro t om;obtain⟨cV,bx,jp,ip,gh,gi,a4⟩:=B0 t;have eW:BW w a7:=(au.alloc B _).grown T GK (fun k s=>(cJ.lt k s).1);go_step3;go_step;go_step;refine aB.o _ _ ⟨n,eg,fw,cV,_,_,_,_,_,_,_,_,_,_,_,_,_,_,_,_,_,_,_,_,_,_,_,_,_,_,_,_,_,_,_,_,_,_,_,_,_,_,_,_,_,rfl,nr _,rfl,bx,a4,jp,ip,by omega,?_,eW⟩;have cx:=A2 td aD n;have i:i3 (hX td aD n) (n+1) n=hX td aD n++[(n:Int)+1]:=by have:=R6 (hX td aD n) (n+1);rwa [cx]at this
    rw[i,List.map_append];simpa using gi
   case pass =>
    intro aN a7 c a5 lH;obtain⟨k,eg,fw,cV,c⟩:=c;iterate 41 obtain⟨_,c⟩:=c
    obtain⟨ay,s,cu,bx,mY,jp,ip,gh,gi,eW⟩:=c;subst ay;have cx:=A2 td aD n;cases k with
    | zero=>exact E6
    | succ k =>
     have vl:(0:Int)<((k+1:Nat):Int):=om;obtain⟨a,bq⟩:=xg ((hX td aD n).getD k 0);have aH:1<=a/\a<=n:=by rw[<-bq];exact Fx om
     obtain⟨ah,rfl⟩:∃ah:Nat,a=(ah:Int)+1:=⟨(a-1).toNat,by omega⟩;obtain⟨aK,aM,u,A,aJ,eO⟩:=(z.B eW).get (i:=ah) om;cases A;refine H7 ?_;unhygienic intros
     have d:=W7 b u a7;refine QH ?_;clear cu bx gh gi cx bq;intro a0 aO;cases hz':td b u
     ·rw[hz']at d;have fy:=lh hz';clear hz'
      go_wp2_with (go_at_call 245;refine d.mono ?_;rintro i e ⟨rfl,rfl⟩)
      exact Ov
     ·rw[hz']at d;have fy:=lh hz';clear hz'
      go_wp2_with (go_at_call 245;refine d.mono ?_;rintro i e ⟨rfl,rfl⟩)
      exact Es
theorem Xj (b) (a:List Int) (w) (d:Sl .i64 w b a) (g:a.length<=1000):Calls prog 234 #[b] w (ET .i64 (hX td a a.length) w):=by
 go_enter func234,ntmps234
 go_wp2_with (go_at_call 235;refine(Tb _ a _ d g).mono ?_;rintro j i ⟨c,rfl,f,e⟩)
 go_ret;exact⟨c,rfl,f,e⟩
def i4 (b a:Int):Bool:=decide (a<b)
theorem Nw (b a:Int) (w):Calls prog 236 #[iV b,iV a] w (h3 (.bool (i4 b a)) w):=by
 go_enter func236,ntmps236;go_wp2;all_goals
  go_ret;exact h3.mk _ _
theorem N4:(prog.info? 3).map (fun a=>(a.zero,a.size,a.bytes))=some (some (iZ),1,8):=by kernel_rfl
theorem Yg (m) (aD:List Int) (w:World) (r:Sl .i64 w m aD) (a8:aD.length<=1000) :
 Calls prog 235 #[m,.func (.func 236) #[] #[]] w (ET .i64 (hX i4 aD aD.length) w):=by
 have s:=lh r;obtain⟨a2,o,rfl,a3,⟨z,_⟩,ab⟩:=r;clear ab;unfold maxLen at z;obtain⟨jn,aA,iA,gU,er⟩:=info_parts N4;go_enter func235,ntmps235;go_wp2;go_loopg [5,11] aD.length (fun g l j wr=>∃n:Nat,n+g=aD.length/\j=iV n/\wr.ownsRow w.heap.size 3 1 l n ((hX i4 aD n).map (Value.int .i64))/\BW w wr);case atStart=>exact⟨0,by omega,rfl,World.ownsRow_nil _ _ _ _,bR⟩
 case round =>
  obtain⟨n,az,rfl,cJ,au⟩:=hrel;cases gk with
  | zero=>exact Rs
  | succ g =>
   have ch:((n:Int)<aD.length):=om;obtain⟨i,e,x,rfl,a5,aV⟩:=(s.B au).get (i:=n) om;have iB:=au.size;go_wp2;refine sq 0 (fun f c=>∃(k eg fw:Nat) (cV:List Value) (W K Y an y M af ad aw H ax u P J O ar ak ac E S F ae C ai V D R aa G T A Q av v X L B Z ao am ag:Value),f={ tmps:=#[Value.slice (some { block:=i,off:=e }) aD.length o,Value.func (Fn.func 236) #[] #[],undef,undef,sZ,sL eg 0 (n+1) fw,iV n,iV x,iV k,Value.slice (some { block:=i,off:=e }) aD.length o,Value.int IntKind.i64 ↑aD.length,iV n,.bool true,iV n,Value.pointer (some { block:=i,off:=e+n }),iV x,W,K,Y,an,y,M,af,ad,aw,H,ax,u,P,J,O,ar,ak,ac,E,S,F,ae,C,ai,V,D,R,aa,G,T,A,Q,av,v,X,L,B,Z,ao,am,ag,undef],defers:=[] } /\
    k<=n/\bk (fun a=>i4 x (aD.getD (a-1).toNat 0)) (hX i4 aD n) k=bk (fun a=>i4 x (aD.getD (a-1).toNat 0)) (hX i4 aD n) n/\hA c eg 3 cV/\w.heap.size<=eg/\n+1<=fw/\fw<=maxLen/\cV.length=fw/\cV.take (n+1)=(i3 (hX i4 aD n) (n+1) k).map (Value.int .i64)/\BW w c)
    (fun f _=>(intOf (f.tmps.getD 8 undef)).toNat) rfl ?pass ?first
   case first=>exact MM
   case pass =>
    intro a9 a7 b fd lH;obtain⟨k,eg,fw,cV,b⟩:=b;iterate 41 obtain⟨_,b⟩:=b
    obtain⟨al,b4,cu,bx,mY,jp,ip,gh,gi,eW⟩:=b;subst al;have cx:=A2 i4 aD n;cases k with
    | zero=>exact E6
    | succ k =>
     have vl:(0:Int)<((k+1:Nat):Int):=om;obtain⟨a,bq⟩:=xg ((hX i4 aD n).getD k 0);have a4:1<=a/\a<=n:=by rw[<-bq];exact Fx om
     obtain⟨ah,rfl⟩:∃ah:Nat,a=(ah:Int)+1:=⟨(a-1).toNat,by omega⟩;obtain⟨a1,a6,ay,t,aB,eO⟩:=(s.B eW).get (i:=ah) om;cases t;refine H7 ?_;unhygienic intros
     have d:=Nw x ay a7;refine QH ?_;clear cu bx gh gi cx bq;intro a0 aO;cases hz':i4 x ay
     ·rw[hz']at d;have fy:=lh hz';clear hz'
      go_wp2_with (go_at_call 236;refine d.mono ?_;rintro I c ⟨rfl,rfl⟩)
      exact Ov
     ·rw[hz']at d;have fy:=lh hz';clear hz'
      go_wp2_with (go_at_call 236;refine d.mono ?_;rintro I c ⟨rfl,rfl⟩)
      exact Es
theorem Wz (b) (a:List Int) (w) (d:Sl .i64 w b a) (g:a.length<=1000):Calls prog 217 #[b] w (ET .i64 (hX i4 a a.length) w):=by
 go_enter func217,ntmps217
 go_wp2_with (go_at_call 235;refine(Yg _ a _ d g).mono ?_;rintro j i ⟨c,rfl,f,e⟩)
 go_ret;exact⟨c,rfl,f,e⟩
theorem JZ (h:q:=by go_wp2_with fail;refine(CV eN.o _).mono ?_;rintro _ dm ⟨rfl,rfl⟩;go_wp2;go_ret;exact⟨rfl,bT⟩):q:=h
theorem KB (h:q:=by go_wp2_with fail;refine bodyPost_ret (IT rfl _ _ _) rfl ?_;exact⟨_,rfl,⟨PG _ _,x0⟩,bL⟩):q:=h
def hU (b d:List Int):List Int:=List.zipWith (fun c a=>c-a) b d
def l2 (b d:List Int):List Int:=List.zipWith (fun c a=>c+a) b d
def k7 (b a:List Int) (c:Int):List Int×Int:=k2 b (hX td a a.length) c
def B8 (a b:List Int) (c:Int):List Int:=hU a (k7 a b c).1
def k4 (d a:List Int) (c b:Int):List Int×Int :=
 k2 (B8 d a (min b c)) (hX i4 a a.length) (b-min b c+(k7 d a (min b c)).2)
def k9 (c:List Int) (e a:Int) (d:List Int) (b:Int):List Int×Int×Int×Int :=
 if (d.length == c.length && !c.any hj && !hj e && !hj a && !hj b)=true then
  (l2 (k7 c d (min b a)).1 (k4 c d a b).1,min b a,(k4 c d a b).2,0)
 else ([],0,0,1)
theorem EM {a b:List Int} (c:i<a.length) (d:i<b.length):(hU a b).getD i 0=a.getD i 0-b.getD i 0:=by simp[hU,List.getD,List.getElem?_zipWith,c,d]
theorem Hs {a b:List Int} (c:i<a.length) (d:i<b.length):(l2 a b).getD i 0=a.getD i 0+b.getD i 0:=by simp[l2,List.getD,List.getElem?_zipWith,c,d]
theorem Cv (a c:List Int) (b:Int):(k2 a c b).1.length=a.length:=Cd a c b _
theorem ER {ks:List Int} (o:0<=c) (k:∀l∈r,0<=l) (d:Nat):∀a,a<r.length->0<=(hg r ks c d).1.getD a 0/\(hg r ks c d).1.getD a 0<=r.getD a 0:=by
 have i:∀a,a<r.length->0<=r.getD a 0:=fun a e=>by have:=k r[a] (List.getElem_mem e);simpa[List.getD,e] using this
 induction d with
 | zero =>
  intro a e;have:=i a e;simp only[hg];have f:(List.replicate r.length (0:Int)).getD a 0=0:=by simp[List.getD,e]
  rw[f];omega
 | succ d p =>
  intro a e;have m:=Cd r ks c d;have j:=p a e;have n:=DI (ks:=ks) o k d;simp only[hg];generalize s:(ks.getD d 0-1).toNat=b;generalize t:(hg r ks c d).1=L at m j ⊢;generalize (hg r ks c d).2=A at n ⊢;by_cases f:b=a
  ·subst f;have g:(L.set b (min A (r.getD b 0))).getD b 0=min A (r.getD b 0):=by simp[List.getD,show b<L.length by omega]
   rw[g];have:=i b e;omega
  ·have g:(L.set b (min A (r.getD b 0))).getD a 0=L.getD a 0:=by simp[List.getD,f]
   rw[g];exact j
theorem I2 (b:Int->Int->Bool) (a:List Int) (e:a.length=n):∀c,c<(hX b a a.length).length->1<=(hX b a a.length).getD c 0/\(hX b a a.length).getD c 0<=n:=by intro c d;rw[A2]at d;have:=Fx (lt:=b) (xs:=a) d;omega
theorem Pw {rates:List Int} (k:0<=c) (j:∀d∈r,0<=d/\d<=1000000000000000):∀d∈B8 r rates c,0<=d/\d<=1000000000000000:=by
 intro d i;obtain⟨e,g,rfl⟩:=List.getElem_of_mem i;have p:=Cv r (hX td rates rates.length) c;have f:e<r.length:=by unfold B8 hU k7 at g;rw[List.length_zipWith]at g;omega
 have s:=ER (ks:=hX td rates rates.length) k (fun d i=>(j d i).1) (hX td rates rates.length).length e f;have m:=EM (a:=r) (b:=(k7 r rates c).1) f (by unfold k7;omega);have o:(B8 r rates c)[e]=(B8 r rates c).getD e 0:=by simp[List.getD,g]
 rw[o];unfold B8;rw[m];have n:=j r[e] (List.getElem_mem f);have l:r[e]=r.getD e 0:=by simp[List.getD,f]
 rw[l]at n;unfold k7 k2;omega
theorem Hv:(B8 r x c).length=r.length:=by unfold B8 hU;rw[List.length_zipWith];have:=Cv r (hX td x x.length) c;unfold k7;omega
theorem DR {c:Nat->Prop} (h:p->∃a,c a):∃a,p->c a:=by
 by_cases b:p;·obtain⟨a,d⟩:=h b;exact⟨a,fun _=>d⟩
 ·exact⟨0,fun h=>absurd h b⟩
theorem S3 {a:Option Addr} (c:r.length=n) (e:n=0) (b:m<=maxLen) (d:a=none->m=0):Sl K w (.slice a n m) r:=by subst e;obtain rfl:r=[]:=List.eq_nil_of_length_eq_zero c;exact⟨a,m,rfl,Nat.zero_le _,⟨b,d⟩,fun h=>absurd rfl h⟩
theorem IT {e:Func} {d b f c:Tmp} (h:e.results=#[.tmp d,.tmp b,.tmp f,.tmp c]) (a:Array Value) (g:Program) (w) :
 (results e a).run g w=.ok (.tuple #[a.getD d undef,a.getD b undef,a.getD f undef,a.getD c undef]) w:=by
 simp[results,h]
def Gp (a:List Int×Int×Int×Int) (w:World) (d:Ending) (c:World):Prop :=
 ∃b,d=.returned (.tuple #[b,iV a.2.1,iV a.2.2.1,iV a.2.2.2])/\(Sl .i64 c b a.1/\Fr w b)/\BW w c
theorem Vy (k:Option Addr) (n l:Nat) (o) (a d:List Int) (b c e:Int) (w) (j:Sl .i64 w (.slice k n l) a) (y:Sl .i64 w o d)
 (h:(d.length == a.length && !a.any hj && !hj b && !hj c && !hj e)=false) :
 Calls prog 216 #[.agg #[.slice k n l,iV b,iV c],o,iV e] w (Gp ([],0,0,1) w):=by
 have p:=lh j;obtain⟨A,D,t⟩:=j.len;obtain⟨H,C,rfl,F,⟨x,_⟩,z⟩:=y;clear z j;unfold maxLen at x t;subst A;by_cases i:d.length=a.length
 ·have u:((d.length:Int) != (a.length:Int))=false:=by simp[i]
  have m:(d.length == a.length)=true:=by simp[i]
  rw[m]at h;clear m;clear i;cases f:a.any hj with
  | true=>have g:Hd (a.any hj=!false):=f;clear f h;go_enter func216,ntmps216;go_wp2_with fail;refine(DM _ a false g _ (p.alloc _)).mono ?_;rintro r s ⟨rfl,rfl⟩;exact KB
  | false =>
   have g:Hd (a.any hj=!true):=f;have v:Hd ([b,c,e].any hj=!false):=by show _=_;rw[f]at h;cases E:hj b <;> cases B:hj c <;> cases G:hj e <;> simp_all
   clear f h;go_enter func216,ntmps216;go_wp2_with fail;refine(DM _ a true g _ (p.alloc _)).mono ?_;rintro r s ⟨rfl,rfl⟩;go_wp2_with fail;refine(DM _ [b,c,e] false v _ (Sl.litAt _ _ [b,c,e] 3 _ rfl _ rfl Iv Is)).mono ?_;rintro r I ⟨rfl,rfl⟩;exact KB
 ·have u:((d.length:Int) != (a.length:Int))=true:=by simp;omega
  clear h;go_enter func216,ntmps216;exact KB
theorem U1 (b:Option Addr) (n c:Nat) (u) (ai b3:List Int) (a cc ca:Int) (w) (W:Sl .i64 w (.slice b n c) ai) (ax:Sl .i64 w u b3)
 (S:b3.length=ai.length) (d:Hd (ai.any hj=false)) (e:Hd (hj a=false/\hj cc=false/\hj ca=false)) (J:ai.length<=1000) :
 Calls prog 216 #[.agg #[.slice b n c,iV a,iV cc],u,iV ca] w
  (Gp (l2 (k7 ai b3 (min ca cc)).1 (k4 ai b3 cc ca).1,min ca cc,(k4 ai b3 cc ca).2,0) w):=by
 have Y:=lh W;have a9:=lh ax;obtain⟨a',bt,aM⟩:=W.len;obtain⟨bv,bg,rfl,bu,⟨aQ,_⟩,aS⟩:=ax;clear aS W;unfold maxLen at aQ aM;subst a';have bi:((b3.length:Int) != (ai.length:Int))=false:=by simp[S]
 have V:=lh S;clear S;have be:=Dk e.o.2.1;have bh:=Dk e.o.2.2;obtain⟨aa,dn⟩:=xg (min ca cc);have nD:0<=aa/\aa<=1000000000000000/\aa<=ca:=om;have au:=lh dn;have aF:Hd ([a,cc,ca].any hj=!true):=by show _=_;simp[e.o.1,e.o.2.1,e.o.2.2]
 have aW:Hd (ai.any hj=!true):=d;have ft:Hd (∀x∈ai,0<=x/\x<=1000000000000000):=DQ d.o;refine HZ ?_;unhygienic intros
 rw[dn];have cw:=lh (An qS (An qT pJ));clear dT oA oB qR dn qS qT pJ;go_enter func216,ntmps216;go_wp2_with fail;refine(DM _ ai true aW _ (Y.alloc _)).mono ?_;rintro I br ⟨rfl,rfl⟩;go_wp2_with fail;refine(DM _ [a,cc,ca] true aF _ (Sl.litAt _ _ [a,cc,ca] 3 _ rfl _ rfl Iv Is)).mono ?_;rintro I bx ⟨rfl,rfl⟩;go_upto_region 4 with fail;have ay:(if cc<ca then cc else ca)=aa:=by rw[<-au.o];split <;> omega
 rw[ay];clear ay;have aK:=lh (I2 td b3 V.o);have aP:=lh (I2 i4 b3 V.o);have aV:Hd (b3.length<=1000):=by show b3.length<=1000;have:=V.o;omega
 refine DB ?_;intro ig rE;have F:((w.alloc (.cells #[.slice b ai.length c,iV a,iV cc] 35)).alloc (.cells #[iV a,iV cc,iV ca] 2)).cell? (Ad w.heap.size 0)=some (.slice b ai.length c):=by simp[go_sem,World.cell?_alloc_past]
 have K:BW w ((w.alloc (.cells #[.slice b ai.length c,iV a,iV cc] 35)).alloc (.cells #[iV a,iV cc,iV ca] 2)):=bL;have B:w.heap.size<((w.alloc (.cells #[.slice b ai.length c,iV a,iV cc] 35)).alloc (.cells #[iV a,iV cc,iV ca] 2)).heap.size:=by simp only[wa];omega
 generalize ((w.alloc (.cells #[.slice b ai.length c,iV a,iV cc] 35)).alloc (.cells #[iV a,iV cc,iV ca] 2))=W0 at F K B ⊢;go_region_held3 (fun aU=>aU.cell? (Ad w.heap.size 0)=some (.slice b ai.length c)) (first | assumption | (simp[go_sem,F]))
  (first
   | (go_at_call 234;refine(Xj _ b3 _ (a9.B bL) aV.o).mono ?_;rintro I O ⟨bm,rfl,ab,D⟩;have ar:O.cell? (Ad w.heap.size 0)=some (.slice b ai.length c):=(D.cell (p:=(Ad w.heap.size 0)) B).trans F)
   | (go_at_call 233;refine(Kf _ _ ai (hX td b3 b3.length) aa _ (Y.B bL) ab J ig.o ⟨nD.1,nD.2.1⟩ ft aK).mono ?_;rintro I m ⟨aI,rfl,o,aA⟩;have aJ:m.cell? (Ad w.heap.size 0)=some (.slice b ai.length c):=(aA.cell (p:=(Ad w.heap.size 0)) (by have:=D.size;exact Nat.lt_of_lt_of_le B this)).trans ar))
 rw[hI.o]at o ⊢;simp only at o ⊢;rw[cw.1]at o;have C:BW w m:=bL;have af:=D.size;have av:Sl .i64 m aI cv:=Sl.of_own o cw.1;obtain⟨a6,j,rfl,wJ,vf,an⟩:=C7 o;have wK:Hd (a6=none->ai.length=0/\j=0):=av.none_cap;clear av;have a0:Hd (0<ai.length->∃g,a6=some (Ad g 0)/\w.heap.size<=g/\hY m g j cv):=fun h=>by obtain⟨g,Z,ag,cV,fH,cG,mv⟩:=an h;exact⟨g,Z,by have:=C.size;have:O.heap.size<=g:=ag;have:=K.size;have:W0.heap.size<=O.heap.size:=af;omega,cV,fH,cG,by rw[cw.1];exact mv⟩
 clear an o ab D aA ar af K F B;go_wp2_with fail;refine(Eu _ ai _ (Y.B C) J).mono ?_;rintro I H ⟨aY,rfl,T,a5⟩;have a3:BW w H:=bL;have al:Sl .i64 H aY ai:=Sl.of_own T rfl;obtain⟨M,v,rfl,aL,ae,aw⟩:=C7 T;have aO:Hd (M=none->ai.length=0/\v=0):=al.none_cap;clear al;have a4:Hd (0<ai.length->∃g,M=some (Ad g 0)/\m.heap.size<=g/\hY H g v ai):=fun h=>by obtain⟨g,Z,ag,cV,fH,cG,mv⟩:=aw h;exact⟨g,Z,ag,cV,fH,cG,mv⟩
 have aC:Hd (0<ai.length->∃g,a6=some (Ad g 0)/\w.heap.size<=g/\g<m.heap.size/\hY H g j cv):=fun h=>by obtain⟨g,Z,ag,e⟩:=a0.o h;exact⟨g,Z,ag,e.lt,e.B a5⟩
 have bb:w.heap.size<=m.heap.size:=C.size;clear aw T a0 a5 aJ C;go_wp2_with fail;obtain⟨l,ad⟩:=DR aC.o;obtain⟨R,ac⟩:=DR a4.o;have L:=lh ad;have X:=lh ac;clear ad ac aC a4;go_loopg [59] ai.length (fun az i wr=>∃k:Nat,k+az=ai.length/\i=iV k/\Hd (0<ai.length->hY wr R v (pn (hU ai cv) ai k)/\hY wr l j cv)/\BW w wr);case atStart=>exact⟨0,by omega,rfl,fun h=>⟨by rw[Dz];exact(X.o h).2.2,(L.o h).2.2.2⟩,a3⟩
 case round =>
  obtain⟨k,aE,rfl,bd,d⟩:=hrel;cases gk with
  | succ az =>
   refine QW ?_;intro ch bP;have es:0<ai.length:=om;obtain⟨rfl,bc,aR,_⟩:=L.o es;obtain⟨rfl,bj,_⟩:=X.o es;obtain⟨s,ie⟩:=bd.o es;have j2:=Ez (k:=k) cw.2.2 rfl (Nat.le_of_lt bP);have a7:=s.cell (i:=k) om;rw[G4 cw.2.2 rfl bP]at a7;have dU:=ie.cell (i:=k) (oo cw.1);have bp:=s.frozen k;have E:=EM bP (show k<cv.length from oo cw.1);have jd:=sB.o k bP;have t:=ft.o ai[k] (List.getElem_mem bP);have f:ai[k]=ai.getD k 0:=by simp[List.getD,bP]
   rw[f]at t;generalize ai.getD k 0=x at a7 E jd t;generalize cv.getD k 0=y at dU E jd;have Q:=lh E;have P:=lh (An s ie);clear E s ie j2 f;go_wp2_with fail;go_roundg az;case measure=>omega
   case rel=>obtain⟨s,ie⟩:=P.o;refine⟨k+1,by omega,by go_num,fun h=>⟨?_,ie.setOther om _ _⟩,d.setCell (show w.heap.size<=R by omega) _⟩;have I:=Dl cw.2.2 rfl bP;rw[Q.o]at I;rw[<-I];exact s.set k (x-y)
  | zero =>
   have ch:¬((k:Int)<ai.length):=om;obtain rfl:k=ai.length:=om;obtain⟨r,aD⟩:∃r:World,r=wr:=⟨_,rfl⟩;subst aD;have ao:Hd (0<ai.length->hY r R v (hU ai cv)/\hY r l j cv):=fun h=>by have:=bd.o h;rwa [EO cw.2.2 rfl]at this
   have aG:Hd (Sl .i64 r (.slice M ai.length v) (hU ai cv)):=by
    by_cases h:0<ai.length;·obtain⟨Z,_,_⟩:=X.o h;rw[Z];exact(ao.o h).1.sl cw.2.2 aL ae
    ·exact S3 cw.2.2 om ae (fun I=>(aO.o I).2)
   clear bd;go_wp2_with fail;refine(Wz _ b3 _ (a9.B d) aV.o).mono ?_;rintro I bG ⟨bf,rfl,a1,G⟩;have aH:0<=ca-aa+im/\ca-aa+im<=1000000000000000:=om;go_wp2_with fail;refine(Kf _ _ (hU ai cv) (hX i4 b3 b3.length) (ca-aa+im) _ (aG.B G) a1 (by rw[cw.2.2];exact J) rE.o aH gc (lh fun i aT=>by rw[cw.2.2];exact aP.o i aT)).mono ?_;rintro I kz ⟨bq,rfl,A,ah⟩;rw[qU.o]at A ⊢;simp only at A ⊢;rw[cw.2.1]at A;have aZ:BW w kz:=bL;have a2:BW r kz:=hJ G ah;obtain⟨wy,tm,rfl,bl,bw,tn⟩:=C7 A;refine Io ?_;unhygienic intros
   have m7:Hd (0<ai.length->a6=some (Ad l 0)/\w.heap.size<=l/\l<bG.heap.size/\hY kz l j cv):=fun h=>by obtain⟨Z,ag,e,_⟩:=L.o h;have aB:=(ao.o h).2;exact⟨Z,ag,Nat.lt_of_lt_of_le aB.lt G.size,aB.B a2⟩
   clear lQ tn A eX G ah a2 d a3 a1;go_wp2_with fail;have am:(l2 cv fI).length=ai.length:=by unfold l2;rw[List.length_zipWith];have:=cw.o;omega
   have nO:=lh am;have ak:Hd (l2 (k7 ai b3 aa).1 (k4 ai b3 cc ca).1=l2 cv fI/\(k4 ai b3 cc ca).2=nC):=by
    have f:(k7 ai b3 aa).1=cv:=congrArg Prod.fst hI.o;have aN:k4 ai b3 cc ca=(fI,nC):=by unfold k4 B8;rw[au.o,f,show(k7 ai b3 aa).2=im from congrArg Prod.snd hI.o];exact qU.o
    rw[f,aN];exact⟨rfl,rfl⟩
   clear am;go_loopg [86] ai.length (fun az i wr=>∃k:Nat,k+az=ai.length/\i=iV k/\Hd (0<ai.length->hY wr l j (pn (l2 cv fI) cv k)/\hY wr uR tm fI)/\BW w wr);case atStart=>exact⟨0,by omega,rfl,fun h=>⟨by rw[Dz];exact(m7.o h).2.2.2,(r5.o h).2.2⟩,aZ⟩
   case round =>
    obtain⟨k,aE,rfl,bd,d⟩:=hrel;cases gk with
    | succ az =>
     refine QW ?_;intro ch bP;have es:0<ai.length:=om;obtain⟨rfl,bs,aR,_⟩:=m7.o es;obtain⟨rfl,bo,_⟩:=r5.o es;refine Rk ?_;intro ie l4 j2 dU kx fQ lP jd my;have t:=ft.o ai[k] (List.getElem_mem bP);have f:ai[k]=ai.getD k 0:=by simp[List.getD,bP]
     rw[f]at t;clear f;generalize ai.getD k 0=x at jd t my;generalize cv.getD k 0=y at dU lP jd my;generalize fI.getD k 0=z at kx lP my;have Q:=lh lP;have P:=lh (An ie l4);clear lP ie l4 j2;go_wp2_with fail;go_roundg az;case measure=>omega
     case rel=>obtain⟨ie,l4⟩:=P.o;refine⟨k+1,by omega,by go_num,fun h=>⟨?_,l4.setOther om _ _⟩,d.setCell (show w.heap.size<=l by omega) _⟩;have I:=Dl nO.o cw.1 bP;rw[Q.o]at I;rw[<-I];exact ie.set k (y+z)
    | zero =>
     have ch:¬((k:Int)<ai.length):=om;obtain rfl:k=ai.length:=om;have aX:Hd (Sl .i64 wr (.slice a6 ai.length j) (l2 cv fI)):=by exact F0
     clear bd;go_wp2_with fail;refine bodyPost_ret (IT rfl _ _ _) rfl ?_;rw[ak.1,ak.2];exact⟨_,rfl,⟨aX.o,DV fun h=>⟨(m7.o h).1,(m7.o h).2.1⟩⟩,d⟩
theorem Pm (n f) (a d:List Int) (e b c:Int) (j:List Int×Int×Int×Int) (p:Hd (k9 a e b d c=j)) (w) (g:Sl .i64 w n a) (m:Sl .i64 w f d) (r:a.length<=1000) :
 Calls prog 216 #[.agg #[n,iV e,iV b],f,iV c] w (Gp j w):=by
 have o:=g;obtain⟨k,l,rfl,_⟩:=o;rw[<-p.o];cases h:(d.length == a.length && !a.any hj && !hj e && !hj b && !hj c) with
 | false =>
  have i:k9 a e b d c=([],0,0,1):=by simp only[k9,h];rfl
  rw[i];exact Vy k _ l f a d e b c w g m h
 | true =>
  have i:k9 a e b d c=(l2 (k7 a d (min c b)).1 (k4 a d b c).1,min c b,(k4 a d b c).2,0):=by simp only[k9,h];rfl
  rw[i];simp only[ba,beq_iff_eq,Bool.not_eq_true']at h;exact U1 k _ l f a d e b c w g m h.1.1.1.1 (lh h.1.1.1.2) (lh ⟨h.1.1.2,h.1.2,h.2⟩) r
def q4 (b:Nat) (c:List Int):Bool:=c.any fun a=>decide (a<1) || decide ((b:Int)<a)
def pf (a:List Int) (d b c:Int) (e:List Int):Int:=if hW a d b=false then 1 else if q4 a.length e=true then 7 else if hO c=false then 8 else 0
theorem Ea (v) (bs:List Int) (c aa j:Int) (E) (a:List Int) (ac:Int) (m:Hd (pf bs c aa j a=ac)) (A:bs.length<=1000000) (ae:a.length<=1000000) (w) (F:Sl .i64 w v bs) (C:Sl .i64 w E a) :
 Calls prog 212 #[.agg #[v,iV c,iV aa],iV j,E] w (RetB (iV ac) w):=by
 have G:=lh F;have Q:=lh C;obtain⟨aF,aC,rfl,Y,⟨J,_⟩,M⟩:=F;obtain⟨af,Z,rfl,ad,⟨K,_⟩,O⟩:=C;clear M O;unfold maxLen at J K;obtain⟨q,f⟩:=xg (hW bs c aa);have y:=lh f;refine OQ ?_;unhygienic intros
 cases q with
 | false =>
  obtain rfl:1=ac:=by rw[<-m.o];unfold pf;rw[if_pos f]
  clear m f;go_enter func212,ntmps212;go_wp2_with fail;refine(Df _ bs c aa _ y A _ (G.B bm)).mono ?_;exact ED
 | true =>
  have B:(if q4 bs.length a=true then 7 else if hO j=false then (8:Int) else 0)=ac:=by rw[<-m.o];unfold pf;simp only[f,Bool.true_eq_false,if_false]
  have e:=lh B;clear m f B;go_enter func212,ntmps212;go_wp2_with fail;refine(Df _ bs c aa _ y A _ (G.B bm)).mono ?_;rintro _ a7 ⟨rfl,aH⟩;obtain⟨T,X,ag⟩:=cK.B aH;have bT:=hJ bm aH;have P:=lh (Q.B bT);clear dN jv fK bm aH;go_wp2_with fail;go_loopg [14] a.length (fun o i wr=>∃(k:Nat),k+o=a.length/\i=iV k/\Hd (q4 bs.length (a.drop k)=q4 bs.length a)/\a7=wr);case atStart=>exact⟨0,by omega,rfl,rfl,rfl⟩
  case round =>
   obtain⟨k,W,rfl,l,rfl⟩:=hrel;cases gk with
   | zero =>
    have I:¬((k:Int)<a.length):=om;have D:q4 bs.length a=false:=by rw[<-l.o,List.drop_of_length_le om];rfl
    have s:=e.o;rw[D,if_neg (by simp)]at s;obtain⟨t,u⟩:=xg (hO j);have eN:=lh u;have r:=lh s;rw[u]at r;clear l s D e u;cases t with
    | false=>obtain rfl:8=ac:=r.o;exact JZ
    | true=>obtain rfl:0=ac:=r.o;exact JZ
   | succ o =>
    have I:(k:Int)<a.length:=om;obtain⟨b,V,g,rfl,ab,S⟩:=P.get (i:=k) om;have z:k<a.length:=om;have n:q4 bs.length (a.drop k)=((decide (g<1) || decide ((bs.length:Int)<g)) || q4 bs.length (a.drop (k+1))):=by
     unfold q4;rw[List.drop_eq_getElem_cons z,List.any_cons];have R:a[k]=g:=by rw[<-S.o];simp[List.getD,z]
     rw[R]
    rw[l.o]at n;have d:=lh n;clear n l;by_cases x:g<1
    ·obtain rfl:7=ac:=by rw[<-e.o,d.o];simp[x]
     clear d e;go_wp2;go_ret;exact⟨rfl,bT⟩
    ·by_cases H:(bs.length:Int)<g
     ·obtain rfl:7=ac:=by rw[<-e.o,d.o];simp[H]
      clear d e;go_wp2;go_ret;exact⟨rfl,bT⟩
     ·have L:Hd (q4 bs.length (a.drop (k+1))=q4 bs.length a):=by
       have:=d.o;simp only[x,H,decide_false,Bool.or_self,Bool.false_or]at this;exact this.symm
      clear d;go_wp2;go_roundg o;case measure=>omega
      case rel=>exact⟨k+1,by omega,by go_num,L,rfl⟩
def Bf (d:List Int) (b e c a:Int):List Int×Int×Int×Int :=
 if pf d b e a [c]≠0 then ([],0,0,pf d b e a [c]) else
 if hW (d.set (c-1).toNat (d.getD (c-1).toNat 0+(a-min a b))) (b-min a b) e=true then (d.set (c-1).toNat (d.getD (c-1).toNat 0+(a-min a b)),b-min a b,e,0) else ([],0,0,5)
theorem T8 (e) (bs:List Int) (c aa k d b:Int) (u:Hd (pf bs c aa d [k]=b)) (x:(b != 0)=true) (A:bs.length<=1000) (w:World) (i:Sl .i64 w e bs) :
 Calls prog 180 #[.agg #[e,iV c,iV aa],iV k,iV d] w (t4 ([],0,0,b) w):=by
 have j:=lh i;obtain⟨aF,aC,rfl,y,⟨m,_⟩,t⟩:=i;clear t;unfold maxLen at m;refine QL ?_;unhygienic intros
 clear ct;go_enter func180,ntmps180;go_wp2_with fail;obtain⟨a,g,z,r,s,n,o⟩:∃a,(((w.alloc (.cells #[.slice aF bs.length aC,iV c,iV aa] 35)).alloc (.cells #[sZ,iZ,iZ] 35)).alloc (.cells #[iV k] 3))=a/\Hd (hA a w.heap.size 35 [.slice aF bs.length aC,iV c,iV aa])/\Hd (hA a (w.heap.size+1) 35 [sZ,iZ,iZ])/\Hd (BW w a)/\Hd (Sl .i64 a (sL (w.heap.size+1+1) 0 1 1) [k])/\Hd (Sl .i64 a (.slice aF bs.length aC) bs) :=
  ⟨_,rfl,cj.B (hB bR _),bJ.B (hB bR _),hB bi.o _,Sl.litAt _ _ [k] 1 _ rfl _ rfl RD Is,j.B (hB bi.o _)⟩
 with_reducible rw[g]
 clear g cj bJ bi j;refine(Ea _ bs c aa d _ [k] b u om Is _ o.o n.o).mono ?_;rintro _ v ⟨rfl,f⟩;have cP:=r.o.B f;refine MZ ?_;unhygienic intros
 have l:=hJ s.o f;clear cP f;go_wp2;refine bodyPost_ret (v:=.tuple #[.agg #[sZ,iZ,iZ],iV b]) Eh rfl ⟨sZ,rfl,⟨Sl.nil,x0⟩,p2 l om _ _ _⟩
theorem ZA (b) (bs:List Int) (c aa:Int) (i:Nat) (bW aG aL:Int) (fo:Hd (pf bs c aa bW [(i:Int)+1]=0)) (u:i<bs.length) (bq:Hd (bs.getD i 0=aG)) (lT:bW<=c) (ip:c-bW=aL) (lO:wrap64 aL=aL) (wB:wrap64 aG=aG) (j:Hd (hW (bs.set i aG) aL aa=true)) (t:bs.length<=1000) (w) (d:Sl .i64 w b bs) :
 Calls prog 180 #[.agg #[b,iV c,iV aa],iV ((i:Int)+1),iV bW] w (t4 ((bs.set i aG),aL,aa,0) w):=by
 have e:=lh d;obtain⟨aF,aC,rfl,v,⟨o,_⟩,s⟩:=d;clear s;unfold maxLen at o;refine QL ?_;unhygienic intros
 have ey:=lh (An u t);clear ct;go_enter func180,ntmps180;go_wp2_with fail;obtain⟨a,aW,mW,kj,ki,mV,mw⟩:∃a,(((w.alloc (.cells #[.slice aF bs.length aC,iV c,iV aa] 35)).alloc (.cells #[sZ,iZ,iZ] 35)).alloc (.cells #[iV ((i:Int)+1)] 3))=a/\Hd (hA a w.heap.size 35 [.slice aF bs.length aC,iV c,iV aa])/\Hd (hA a (w.heap.size+1) 35 [sZ,iZ,iZ])/\Hd (BW w a)/\Hd (Sl .i64 a (sL (w.heap.size+1+1) 0 1 1) [(i:Int)+1])/\Hd (Sl .i64 a (.slice aF bs.length aC) bs) :=
  ⟨_,rfl,cj.B (hB bR _),bJ.B (hB bR _),hB bi.o _,Sl.litAt _ _ [(i:Int)+1] 1 _ rfl _ rfl RD Is,e.B (hB bi.o _)⟩
 refine RO ?_;clear aW cj bJ bi e;unhygienic intros
 go_wp2_with fail;refine Q6 ?_;unhygienic intros
 obtain⟨aE,bD,rfl⟩:=ro cJ BO;obtain⟨n,aK⟩:=xg bs.length;rw[aK]at cJ ⊢;refine Gi ?_;clear aI aN fG kh cJ aH bT aK;unhygienic intros
 go_wp2_with fail;refine MX ?_;show _;refine Lr ?_;clear aI aN fG gm cC dr;unhygienic intros
 have l:Hd (cV.take n=(bs.set i aG).map (Value.int .i64)):=by show _=_;simpa using o7
 have f:=lh (Sl.of_own fs (show(bs.set i aG).length=n by rw[List.length_set];exact bd.o));have m:Hd (z0 (sL aE 0 n bD) (bs.set i aG) aL aa=.tuple #[.agg #[sL aE 0 n bD,iV aL,iV aa],iZ]):=by show _=_;unfold z0;rw[j.o];rfl
 have pP:=lh mP;have r:=lh o6;have jH:=lh jD;clear j' fs mN mO jD mP o6 qQ o7 pI lJ cA oD;go_wp2_with fail;refine(Ci _ (bs.set i aG) aL aa _ m E2 _ f.o).mono ?_;refine QU ?_;unhygienic intros
 have g:=lh (r.B hZ);clear iE hZ aI aN fG;go_wp2;refine bodyPost_ret (v:=.tuple #[.agg #[sL aE 0 n bD,iV aL,iV aa],iZ]) Eh rfl ⟨sL aE 0 n bD,rfl,⟨Sl.of_blk (((g.setOther om 0 _).setOther om 1 _).setOther om 2 _) (by rw[List.length_set];exact bd.o) ut ik l.o,DV fun _=>⟨rfl,by omega⟩⟩,p2 dl om _ _ _⟩
theorem Ua (b) (bs:List Int) (c aa:Int) (i:Nat) (bW aG ah eh:Int) (fo:Hd (pf bs c aa bW [(i:Int)+1]=0)) (u:i<bs.length) (bq:Hd (bs.getD i 0=aG)) (v:¬bW<=c) (a0:bW-c=ah) (eO:aG+ah=eh) (w0:wrap64 ah=ah) (wA:wrap64 eh=eh) (j:Hd (hW (bs.set i eh) 0 aa=true)) (t:bs.length<=1000) (w) (d:Sl .i64 w b bs) :
 Calls prog 180 #[.agg #[b,iV c,iV aa],iV ((i:Int)+1),iV bW] w (t4 ((bs.set i eh),0,aa,0) w):=by
 have e:=lh d;obtain⟨aF,aC,rfl,x,⟨o,_⟩,s⟩:=d;clear s;unfold maxLen at o;refine RN ?_;intro bJ;refine PC ?_;intro ct cj bi;have ey:=lh (An u t);clear ct;go_enter func180,ntmps180;go_wp2_with fail;obtain⟨a,aW,mW,kj,ki,mV,mw⟩:∃a,(((w.alloc (.cells #[.slice aF bs.length aC,iV c,iV aa] 35)).alloc (.cells #[sZ,iZ,iZ] 35)).alloc (.cells #[iV ((i:Int)+1)] 3))=a/\Hd (hA a w.heap.size 35 [.slice aF bs.length aC,iV c,iV aa])/\Hd (hA a (w.heap.size+1) 35 [sZ,iZ,iZ])/\Hd (BW w a)/\Hd (Sl .i64 a (sL (w.heap.size+1+1) 0 1 1) [(i:Int)+1])/\Hd (Sl .i64 a (.slice aF bs.length aC) bs) :=
  ⟨_,rfl,cj.B (hB bR _),bJ.B (hB bR _),hB bi.o _,Sl.litAt _ _ [(i:Int)+1] 1 _ rfl _ rfl RD Is,e.B (hB bi.o _)⟩
 refine RO ?_;clear aW cj bJ bi e;unhygienic intros
 go_wp2_with fail;refine Q6 ?_;unhygienic intros
 obtain⟨aE,bD,rfl⟩:=ro cJ BO;obtain⟨n,aK⟩:=xg bs.length;rw[aK]at cJ ⊢;refine Gi ?_;clear aI aN fG kh cJ aH bT aK;unhygienic intros
 go_wp2_with fail;refine LS ?_;show _;refine Lr ?_;clear aI aN fG gm cC dr;unhygienic intros
 have l:Hd (cV.take n=(bs.set i eh).map (Value.int .i64)):=by show _=_;simpa using o7
 have f:=lh (Sl.of_own fs (show(bs.set i eh).length=n by rw[List.length_set];exact bd.o));have m:Hd (z0 (sL aE 0 n bD) (bs.set i eh) 0 aa=.tuple #[.agg #[sL aE 0 n bD,iZ,iV aa],iZ]):=by show _=_;unfold z0;rw[j.o];rfl
 have pP:=lh mP;have r:=lh o6;have jH:=lh jD;clear j' fs mN mO jD mP o6 qQ o7 pI lJ cA oD;go_wp2_with fail;refine(Ci _ (bs.set i eh) 0 aa _ m E2 _ f.o).mono ?_;refine QU ?_;unhygienic intros
 have g:=lh (r.B hZ);clear iE hZ aI aN fG;go_wp2;refine bodyPost_ret (v:=.tuple #[.agg #[sL aE 0 n bD,iZ,iV aa],iZ]) Eh rfl ⟨sL aE 0 n bD,rfl,⟨Sl.of_blk (((g.setOther om 0 _).setOther om 1 _).setOther om 2 _) (by rw[List.length_set];exact bd.o) ut ik l.o,DV fun _=>⟨rfl,by omega⟩⟩,p2 dl om _ _ _⟩
theorem WI (ak) (bs:List Int) (c aa:Int) (i:Nat) (bW aG aL:Int) (fo:Hd (pf bs c aa bW [(i:Int)+1]=0)) (o:i<bs.length) (bq:Hd (bs.getD i 0=aG)) (lT:bW<=c) (ip:c-bW=aL) (lO:wrap64 aL=aL) (wB:wrap64 aG=aG) (f:Hd (hW (bs.set i aG) aL aa=false)) (m:bs.length<=1000) (w) (b:Sl .i64 w ak bs) :
 Calls prog 180 #[.agg #[ak,iV c,iV aa],iV ((i:Int)+1),iV bW] w (t4 ([],0,0,5) w):=by
 have d:=lh b;obtain⟨aF,aC,rfl,r,⟨j,_⟩,l⟩:=b;clear l;unfold maxLen at j;refine RN ?_;intro bJ;refine PC ?_;intro ct cj bi;have ey:=lh (An o m);clear ct;go_enter func180,ntmps180;go_wp2_with fail;obtain⟨a,aW,mW,kj,ki,mV,mw⟩:∃a,(((w.alloc (.cells #[.slice aF bs.length aC,iV c,iV aa] 35)).alloc (.cells #[sZ,iZ,iZ] 35)).alloc (.cells #[iV ((i:Int)+1)] 3))=a/\Hd (hA a w.heap.size 35 [.slice aF bs.length aC,iV c,iV aa])/\Hd (hA a (w.heap.size+1) 35 [sZ,iZ,iZ])/\Hd (BW w a)/\Hd (Sl .i64 a (sL (w.heap.size+1+1) 0 1 1) [(i:Int)+1])/\Hd (Sl .i64 a (.slice aF bs.length aC) bs) :=
  ⟨_,rfl,cj.B (hB bR _),bJ.B (hB bR _),hB bi.o _,Sl.litAt _ _ [(i:Int)+1] 1 _ rfl _ rfl RD Is,d.B (hB bi.o _)⟩
 refine RO ?_;clear aW cj bJ bi d;unhygienic intros
 go_wp2_with fail;refine Q6 ?_;unhygienic intros
 obtain⟨aE,bD,rfl⟩:=ro cJ BO;obtain⟨n,aK⟩:=xg bs.length;rw[aK]at cJ ⊢;refine Gi ?_;clear aI aN fG kh cJ aH bT aK;unhygienic intros
 go_wp2_with fail;refine MX ?_;show _;refine Lr ?_;clear aI aN fG gm cC dr;unhygienic intros
 have e:=lh (Sl.of_own fs (show(bs.set i aG).length=n by rw[List.length_set];exact bd.o));have g:Hd (z0 (sL aE 0 n bD) (bs.set i aG) aL aa=.tuple #[.agg #[sZ,iZ,iZ],iV 5]):=by show _=_;unfold z0;rw[f.o];rfl
 have pP:=lh mP;have jH:=lh jD;clear j' fs mN mO jD mP o6 qQ o7 pI lJ cA oD;go_wp2_with fail;refine(Ci _ (bs.set i aG) aL aa _ g E2 _ e.o).mono ?_;refine QU ?_;unhygienic intros
 exact L5
theorem Yt (ak) (bs:List Int) (c aa:Int) (i:Nat) (bW aG ah eh:Int) (fo:Hd (pf bs c aa bW [(i:Int)+1]=0)) (o:i<bs.length) (bq:Hd (bs.getD i 0=aG)) (r:¬bW<=c) (a0:bW-c=ah) (eO:aG+ah=eh) (w0:wrap64 ah=ah) (wA:wrap64 eh=eh) (f:Hd (hW (bs.set i eh) 0 aa=false)) (m:bs.length<=1000) (w) (b:Sl .i64 w ak bs) :
 Calls prog 180 #[.agg #[ak,iV c,iV aa],iV ((i:Int)+1),iV bW] w (t4 ([],0,0,5) w):=by
 have d:=lh b;obtain⟨aF,aC,rfl,s,⟨j,_⟩,l⟩:=b;clear l;unfold maxLen at j;refine RN ?_;intro bJ;refine PC ?_;intro ct cj bi;have ey:=lh (An o m);clear ct;go_enter func180,ntmps180;go_wp2_with fail;obtain⟨a,aW,mW,kj,ki,mV,mw⟩:∃a,(((w.alloc (.cells #[.slice aF bs.length aC,iV c,iV aa] 35)).alloc (.cells #[sZ,iZ,iZ] 35)).alloc (.cells #[iV ((i:Int)+1)] 3))=a/\Hd (hA a w.heap.size 35 [.slice aF bs.length aC,iV c,iV aa])/\Hd (hA a (w.heap.size+1) 35 [sZ,iZ,iZ])/\Hd (BW w a)/\Hd (Sl .i64 a (sL (w.heap.size+1+1) 0 1 1) [(i:Int)+1])/\Hd (Sl .i64 a (.slice aF bs.length aC) bs) :=
  ⟨_,rfl,cj.B (hB bR _),bJ.B (hB bR _),hB bi.o _,Sl.litAt _ _ [(i:Int)+1] 1 _ rfl _ rfl RD Is,d.B (hB bi.o _)⟩
 refine RO ?_;clear aW cj bJ bi d;unhygienic intros
 go_wp2_with fail;refine Q6 ?_;unhygienic intros
 obtain⟨aE,bD,rfl⟩:=ro cJ BO;obtain⟨n,aK⟩:=xg bs.length;rw[aK]at cJ ⊢;refine Gi ?_;clear aI aN fG kh cJ aH bT aK;unhygienic intros
 go_wp2_with fail;refine LS ?_;show _;refine Lr ?_;clear aI aN fG gm cC dr;unhygienic intros
 have e:=lh (Sl.of_own fs (show(bs.set i eh).length=n by rw[List.length_set];exact bd.o));have g:Hd (z0 (sL aE 0 n bD) (bs.set i eh) 0 aa=.tuple #[.agg #[sZ,iZ,iZ],iV 5]):=by show _=_;unfold z0;rw[f.o];rfl
 have pP:=lh mP;have jH:=lh jD;clear j' fs mN mO jD mP o6 qQ o7 pI lJ cA oD;go_wp2_with fail;refine(Ci _ (bs.set i eh) 0 aa _ g E2 _ e.o).mono ?_;refine QU ?_;unhygienic intros
 exact L5
theorem Fp (h:pf r c d y [f]=0):hW r c d=true/\1<=f/\f<=r.length/\0<=y/\y<=1000000000000000:=by
 unfold pf at h;cases e:hW r c d with
 | false=>rw[e]at h;simp at h
 | true =>
  rw[e]at h;cases a:q4 r.length [f] with
  | true=>rw[a]at h;simp at h
  | false =>
   rw[a]at h;cases b:hO y with
   | false=>rw[b]at h;simp at h
   | true=>have:=AZ.1 b;simp[q4]at a;exact⟨rfl,by omega,by omega,this.1,this.2⟩
theorem ykm (g) (c:List Int) (b f i a:Int) (s:List Int×Int×Int×Int) (p:Hd (Bf c b f i a=s)) (k:c.length<=1000) (w) (n:Sl .i64 w g c) :
 Calls prog 180 #[.agg #[g,iV b,iV f],iV i,iV a] w (t4 s w):=by
 have p:=p.o;subst p;unfold Bf;by_cases fo:pf c b f a [i]=0
 ·rw[if_neg O9];obtain⟨x,B,A,z,D⟩:=Fp fo;obtain⟨d,rfl⟩:∃d:Nat,i=(d:Int)+1:=⟨(i-1).toNat,by omega⟩;have m:d<c.length:=om;have v:((d:Int)+1-1).toNat=d:=om;rw[v];obtain⟨⟨E,C⟩,y⟩:=A1 x;obtain⟨t,u⟩:=y d m;obtain⟨e,l⟩:=xg (c.getD d 0);rw[l]at t u ⊢;by_cases o:a<=b
  ·have r:min a b=a:=Int.min_eq_left o;rw[r,show e+(a-a)=e by omega];cases j:hW (c.set d e) (b-a) f with
   | true=>exact ZA g c b f d a e (b-a) fo m l o rfl (wi _ ⟨by omega,by omega⟩) (wi _ ⟨by omega,by omega⟩) j k w n
   | false=>exact WI g c b f d a e (b-a) fo m l o rfl (wi _ ⟨by omega,by omega⟩) (wi _ ⟨by omega,by omega⟩) j k w n
  ·have r:min a b=b:=Int.min_eq_right om;rw[r,show b-b=0 by omega];cases j:hW (c.set d (e+(a-b))) 0 f with
   | true=>exact Ua g c b f d a e (a-b) (e+(a-b)) fo m l o rfl rfl (wi _ ⟨by omega,by omega⟩) (wi _ ⟨by omega,by omega⟩) j k w n
   | false=>exact Yt g c b f d a e (a-b) (e+(a-b)) fo m l o rfl rfl (wi _ ⟨by omega,by omega⟩) (wi _ ⟨by omega,by omega⟩) j k w n
 ·rw[if_pos O9];exact T8 g c b f i a _ rfl O9 k w n
theorem Ol (h:q5 c r=some d):r.any hj=false:=by
 rw[List.any_eq_false];intro g f;obtain⟨a,b,rfl⟩:=List.getElem_of_mem f;have:=Ih h a b;have e:r.getD a 0=r[a]:=by simp[List.getD,b]
 rw[e]at this;simp[hj];omega
theorem Il {bs:List Int} (h:hW bs c d=true):(0<=d/\d<=1000000000000000)/\bs.length<=8/\1<=bs.length:=by exact HN
theorem Vp (h:pf r c d f []=0):hW r c d=true/\0<=f/\f<=1000000000000000:=by
 unfold pf at h;cases b:hW r c d with
 | false=>rw[b]at h;simp at h
 | true =>
  rw[b]at h;have e:q4 r.length []=false:=rfl;rw[e]at h;cases a:hO f with
  | false=>rw[a]at h;simp at h
  | true=>have:=AZ.1 a;exact⟨rfl,this.1,this.2⟩
theorem KZ {e:List Int} {b:Int} (h:k9 r c d x f=(e,y,z,b)) :
 (b=0/\x.length=r.length/\r.any hj=false/\hj c=false/\hj d=false/\hj f=false/\e=l2 (k7 r x (min f d)).1 (k4 r x d f).1/\y=min f d/\z=(k4 r x d f).2)\/(b=1/\e=[]/\y=0/\z=0):=by
 unfold k9 at h;cases a:(x.length == r.length && !r.any hj && !hj c && !hj d && !hj f) with
 | false=>rw[a,if_neg (by simp)]at h;simp only[Prod.mk.injEq]at h;exact .inr ⟨h.2.2.2.symm,h.1.symm,h.2.1.symm,h.2.2.1.symm⟩
 | true=>rw[a,if_pos rfl]at h;simp only[Prod.mk.injEq]at h;simp only[ba,beq_iff_eq,Bool.not_eq_true']at a;exact .inl ⟨h.2.2.2.symm,a.1.1.1.1,a.1.1.1.2,a.1.1.2,a.1.2,a.2,h.1.symm,h.2.1.symm,h.2.2.1.symm⟩
theorem P5 {g:List Int} (h:k9 r c d x f=(g,y,z,0)) :
 g.length=r.length/\(∀a,a<r.length->0<=g.getD a 0/\g.getD a 0<=r.getD a 0)/\(0<=z/\z<=f)/\y=min f d:=by
 rcases KZ h with⟨_,G,t,_,o,B,rfl,rfl,rfl⟩ | ⟨s,_⟩
 ·have k:=DQ t;have H:=Dk o;have E:=Dk B;have l:∀b∈r,0<=b:=fun b i=>(k b i).1;have j:0<=min f d:=om;have I:(k7 r x (min f d)).1.length=r.length:=Cv _ _ _;have J:(k4 r x d f).1.length=r.length:=by unfold k4;rw[Cv,Hv]
  have p:∀a,a<r.length->0<=(k7 r x (min f d)).1.getD a 0/\(k7 r x (min f d)).1.getD a 0<=r.getD a 0:=fun a e=>ER j l _ a e;have F:0<=(k7 r x (min f d)).2/\(k7 r x (min f d)).2<=min f d:=DI j l _;have u:=Pw (rates:=x) j k;have m:∀b∈B8 r x (min f d),0<=b:=fun b i=>(u b i).1;have n:0<=f-min f d+(k7 r x (min f d)).2:=om;have A:∀a,a<r.length->0<=(k4 r x d f).1.getD a 0/\(k4 r x d f).1.getD a 0<=(B8 r x (min f d)).getD a 0:=fun a e=>ER n m _ a (by rw[Hv];exact e);have K:0<=(k4 r x d f).2/\(k4 r x d f).2<=f-min f d+(k7 r x (min f d)).2:=DI n m _;refine⟨?_,?_,by omega,rfl⟩;·unfold l2;rw[List.length_zipWith];omega
  ·intro a e;have D:=p a e;have v:=A a e;have C:(B8 r x (min f d)).getD a 0=r.getD a 0-(k7 r x (min f d)).1.getD a 0:=EM e om;rw[C]at v;rw[Hs om om];omega
 ·exact absurd s Iv
def q3 (c:List Int) (b a:Int) (e:List Int) (d:Int):List Int×Int×Int×Int :=
 if pf c b a d []≠0 then ([],0,0,pf c b a d []) else
 if (k9 c b a e d).2.2.2≠0 then ([],0,0,(k9 c b a e d).2.2.2) else
 if hW (hU c (k9 c b a e d).1) (b+(k9 c b a e d).2.2.1) (a-(k9 c b a e d).2.1)=true then
  (hU c (k9 c b a e d).1,b+(k9 c b a e d).2.2.1,a-(k9 c b a e d).2.1,0) else ([],0,0,5)
theorem Ub (d i) (bs r:List Int) (c aa b a:Int) (t:Hd (pf bs c aa b []=a)) (v:(a != 0)=true) (z:bs.length<=1000) (w) (j:Sl .i64 w d bs) (g:Sl .i64 w i r) :
 Calls prog 181 #[.agg #[d,iV c,iV aa],i,iV b] w (t4 ([],0,0,a) w):=by
 have s:=lh j;have B:=lh g;obtain⟨aF,aC,rfl,y,⟨m,_⟩,e⟩:=j;clear e;obtain⟨C,x,rfl,A,⟨n,_⟩,e⟩:=g;clear e;unfold maxLen at m n;refine RN ?_;intro bJ;refine PC ?_;intro ct cj bi;clear ct;go_enter func181,ntmps181;go_wp2_with fail;refine(Ea _ bs c aa b _ [] a t om Is _ (s.B bi.o) Sl.nil).mono ?_;rintro _ u ⟨rfl,f⟩;have o:=lh (bJ.B f);have l:=hJ bi.o f;clear f;have cP:=o.o;refine MZ ?_;unhygienic intros
 clear cP;go_wp2;refine bodyPost_ret (v:=.tuple #[.agg #[sZ,iZ,iZ],iV a]) C8 rfl ⟨sZ,rfl,⟨Sl.nil,x0⟩,p2 l om _ _ _⟩
theorem V1 (d l) (bs f:List Int) (c aa a b:Int) (B:Hd (pf bs c aa a []=0)) (C:Hd (k9 bs c aa f a=([],0,0,b))) (D:(b != 0)=true) (u:bs.length<=1000) (w) (m:Sl .i64 w d bs) (j:Sl .i64 w l f) :
 Calls prog 181 #[.agg #[d,iV c,iV aa],l,iV a] w (t4 ([],0,0,b) w):=by
 have n:=lh m;have A:=lh j;obtain⟨aF,aC,rfl,F,⟨r,_⟩,e⟩:=m;clear e;obtain⟨H,E,rfl,G,⟨y,_⟩,e⟩:=j;clear e;unfold maxLen at r y;refine RN ?_;intro bJ;refine PC ?_;intro ct cj bi;clear ct;have z:=lh u;go_enter func181,ntmps181;go_wp2_with fail;refine(Ea _ bs c aa a _ [] 0 B om Is _ (n.B bi.o) Sl.nil).mono ?_;refine Ej ?_;unhygienic intros
 have i:=eZ.o;obtain⟨t,v,x,-⟩:=i.cS [0,1,2];clear i aH;go_wp2_with fail;refine(Pm _ _ bs f c aa a _ C _ (n.B dl) (A.B dl) z.o).mono ?_;rintro _ I ⟨q,rfl,_,g⟩;have s:=lh (f6.B g);have o:=hJ dl g;clear f6 dl g t v x;have cP:=s.o;refine MZ ?_;unhygienic intros
 clear cP;go_wp2;refine bodyPost_ret (v:=.tuple #[.agg #[sZ,iZ,iZ],iV b]) C8 rfl ⟨sZ,rfl,⟨Sl.nil,x0⟩,p2 o om _ _ _⟩
theorem YU (H u) (bs L:List Int) (c aa t:Int) (ah:Hd (pf bs c aa t []=0)) (l:List Int) (Z al eu jz:Int) (a0:Hd (k9 bs c aa L t=(l,Z,al,0))) (v:c+al=eu) (aZ:aa-Z=jz) (T:Bool) (ay:Hd (hW (hU bs l) eu jz=T)) (E:List Int×Int×Int×Int) (af:Hd ((if T=true then (hU bs l,eu,jz,0) else ([],0,0,5))=E)) (a3:bs.length<=1000) (w) (au:Sl .i64 w H bs) (ao:Sl .i64 w u L) :
 Calls prog 181 #[.agg #[H,iV c,iV aa],u,iV t] w (t4 E w):=by
 have I:=lh au;have az:=lh ao;obtain⟨aF,aC,rfl,b4,⟨aQ,_⟩,K⟩:=au;clear K;obtain⟨b8,bz,rfl,b7,⟨bb,_⟩,K⟩:=ao;clear K;unfold maxLen at aQ bb;refine RN ?_;intro bJ;refine PC ?_;intro ct cj bi;clear ct;obtain⟨Y,aJ,bp⟩:=Vp ah.o;obtain⟨⟨a',aO⟩,a1,ac⟩:=Il Y;obtain⟨⟨aA,aD⟩,aj⟩:=A1 Y;obtain⟨aw,ar,⟨bj,a4⟩,br⟩:=P5 a0.o;have aP:=lh aj;have aM:=lh ar;have bo:=lh aw;have ey:=lh (An ac a3);have B:wrap64 eu=eu:=wi _ ⟨by omega,by omega⟩;have A:wrap64 jz=jz:=wi _ ⟨by omega,by omega⟩;have a5:=lh (An v (An aZ (An B A)));clear Y aJ bp a' aO a1 ac aA aD aj aw ar bj a4 br v aZ B A;go_enter func181,ntmps181;go_wp2_with fail;refine(Ea _ bs c aa t _ [] 0 ah om Is _ (I.B bi.o) Sl.nil).mono ?_;refine Ej ?_;unhygienic intros
 have ab:=eZ.o;obtain⟨aI,f,d,-⟩:=ab.cS [0,1,2];clear ab aH;go_wp2_with fail;refine(Pm _ _ bs L c aa t _ a0 _ (I.B dl) (az.B dl) ey.2).mono ?_;rintro _ bt ⟨q,rfl,⟨S,ak⟩,r⟩;simp only at S ⊢;have J:=lh S;have ae:=lh ak;obtain⟨aq,X,rfl,b3,⟨aN,_⟩,_⟩:=S;unfold maxLen at aN;have ai:=f6.B r;have P:=eZ.B r;have b5:=f6.lt;have b6:=r.size;clear aI f d;obtain⟨aI,f,d,-⟩:=P.cS [0,1,2];have ad:=lh ai;have ag:=lh P;have ax:=lh (hJ dl r);have an:=lh (I.B (hJ dl r));clear ai P ak r dl;go_wp2_with fail;refine(H9 _ bs c aa ey.2 _ an.o).mono ?_;rintro _ bU ⟨bv,rfl,av,s⟩;obtain⟨bw,bD,rfl,G,R,bq⟩:=C7 av;obtain⟨aE,aW,am,cV,nP,nQ,nR⟩:=bq BO;subst aW;refine NZ ?_;unhygienic intros
 have b1:bt.heap.size+2<=aE:=am;have ig:Hd (l.length=n):=bo.trans aK;rw[aK]at G ⊢;have D:=ag.B s;obtain⟨bm,F,C,-⟩:=D.fs [0,1,2];clear aI f d;obtain⟨aI,f,d,-⟩:=D.cS [0,1,2];have aT:=lh D;have aU:=lh (ad.B s);have aS:=lh (J.B s);have aY:=lh (hJ ax.o s);have O:Hd (∀b m j k,(Value.slice aq l.length X)=sL b m j k->0<j->b≠w.heap.size):=fun b m j k o Q=>by have:=ae.o b m j k o Q;omega
 have bl:Hd (∀b m j k,(Value.slice aq l.length X)=sL b m j k->0<j->b≠aE):=by intro b m j k o Q;cases o;obtain⟨a9,aL,aX,a6⟩:=J.at (i:=0) Q;cases aX;have:=ht a6;omega
 have b2:=s.size;clear D av s aK nP nQ nR J ae ax ad ag an f6 eZ bJ cj bi I az am cV;go_wp2_with fail;go_loopg [39] n (fun M i wr=>∃(k:Nat),k+M=n/\i=iV k/\Hd (hA wr w.heap.size 35 [sL aE 0 n bD,iV c,iV aa]/\hY wr aE bD (pn (hU bs l) bs k)/\hA wr (w.heap.size+1) 35 [sZ,iZ,iZ]/\BW w wr/\Sl .i64 wr (.slice aq l.length X) l));case atStart=>refine⟨0,by omega,rfl,?_⟩;refine⟨((aT.set 0 _).set 1 _).set 2 _,?_,((aU.setOther om 0 _).setOther om 1 _).setOther om 2 _,p2 aY.o om _ _ _,((aS.setCell O.o _).setCell O.o _).setCell O.o _⟩;rw[Dz];exact((nb.setOther om 0 _).setOther om 1 _).setOther om 2 _
 case round =>
  obtain⟨k,bu,rfl,z⟩:=hrel;clear aI f d bm F C;have fa:Hd ((hU bs l).length=n):=by show _=_;unfold hU;rw[List.length_zipWith];have:=bd.o;have:=ig.o;omega
  cases gk with
  | succ M =>
   have a8:(k:Int)<l.length:=oo ig.o;have bP:k<n:=om;obtain⟨fV,gP,e,g,a⟩:=z.o;obtain⟨a9,aL,y,rfl,b0,bc⟩:=a.get (i:=k) PX;refine JD ?_;intro j2 fT lI aI lW;have ar:=aM.o k Pz;have a2:=aP.o k Pz;rw[bc.o]at ar lW;generalize bs.getD k 0=x at fT lW ar a2;have aG:=lh lW;have aV:=lh (An fV (An gP (An e (An g a))));have bx:k<bD:=om;clear lW gP fV e g a j2 z;go_wp2_with fail;go_roundg M;case measure=>omega
   case rel=>refine⟨k+1,by omega,by go_num,?_⟩;obtain⟨fV,gP,e,g,a⟩:=aV.o;refine⟨fV.setOther om _ _,?_,e.setOther om _ _,g.setCell (show w.heap.size<=aE by omega) _,a.setCell bl.o _⟩;have o:=Dl fa.o bd.o bP;rw[aG.o]at o;rw[<-o];exact gP.set k (x-y)
  | zero =>
   obtain rfl:k=n:=om;have a8:¬((k:Int)<l.length):=oo ig.o;obtain⟨fV,gP,e,g,a⟩:=z.o;rw[EO fa.o bd.o]at gP;obtain⟨aI,f,d,-⟩:=fV.cS [0,1,2];obtain⟨F,C,-⟩:=fV.fs [1,2];obtain⟨v,aZ,B,A⟩:=a5.o;have b9:=fV.lt;have aV:=lh (An fV (An gP (An e g)));cases T with
   | true =>
    obtain rfl:(hU bs l,eu,jz,0)=E:=af.o;have V:Hd (z0 (sL aE 0 k bD) (hU bs l) eu jz=.tuple #[.agg #[sL aE 0 k bD,iV eu,iV jz],iZ]):=by show _=_;unfold z0;rw[ay.o];rfl
    have W:Hd ((hU bs l).length<=1000000):=by show _<=_;have:=fa.o;have:=bd.o;have:=ey.2;omega
    clear fV gP e g a z;go_wp2_with fail;refine(Ci _ (hU bs l) eu jz _ V W.o _ ?sl).mono ?_;case sl=>exact((aV.2.1.setOther om 2 _).setOther om 1 _).sl fa.o G R
    refine YL ?_;clear aI f d F C v aZ B A;intro lz aR bg be bh aX bf ja jb kt ku;go_wp2;refine bodyPost_ret (v:=.tuple #[.agg #[sL aE 0 k bD,iV eu,iV jz],iZ]) C8 rfl ⟨sL aE 0 k bD,rfl,⟨(((jb.setOther om 0 _).setOther om 1 _).setOther om 2 _).sl kt.o G R,DV fun _=>⟨rfl,by omega⟩⟩,p2 ja om _ _ _⟩
   | false =>
    obtain rfl:([],0,0,5)=E:=af.o;have V:Hd (z0 (sL aE 0 k bD) (hU bs l) eu jz=.tuple #[.agg #[sZ,iZ,iZ],iV 5]):=by show _=_;unfold z0;rw[ay.o];rfl
    have W:Hd ((hU bs l).length<=1000000):=by show _<=_;have:=fa.o;have:=bd.o;have:=ey.2;omega
    clear fV gP e g a z;go_wp2_with fail;refine(Ci _ (hU bs l) eu jz _ V W.o _ ?sl).mono ?_;case sl=>exact((aV.2.1.setOther om 2 _).setOther om 1 _).sl fa.o G R
    refine YL ?_;clear aI f d F C v aZ B A;intro lz aR bg be bh aX bf ja jb kt ku;go_wp2;refine bodyPost_ret (v:=.tuple #[.agg #[sZ,iZ,iZ],iV 5]) C8 rfl ⟨sZ,rfl,⟨Sl.nil,x0⟩,p2 ja om _ _ _⟩
theorem WR (g f) (a e:List Int) (d b c:Int) (r:List Int×Int×Int×Int) (n:Hd (q3 a d b e c=r)) (o:a.length<=1000) (w) (l:Sl .i64 w g a) (m:Sl .i64 w f e) :
 Calls prog 181 #[.agg #[g,iV d,iV b],f,iV c] w (t4 r w):=by
 have n:=n.o;subst n;unfold q3;by_cases fo:pf a d b c []=0
 ·rw[if_neg O9];obtain⟨p,j,k,s,i⟩:∃p j k s,k9 a d b e c=(p,j,k,s):=⟨_,_,_,_,rfl⟩;rw[i];rcases KZ i with⟨rfl,_⟩ | ⟨rfl,rfl,rfl,rfl⟩;·simp only[ne_eq,not_true_eq_false,if_false];exact YU g f a e d b c fo p j k _ _ i rfl rfl _ rfl _ rfl o w l m
  ·rw[if_pos Iv];exact V1 g f a e d b c 1 fo i Iv o w l m
 ·rw[if_pos O9];exact Ub g f a e d b c _ rfl O9 o w l m
def val (b:List Int) (a:Int):Int:=b.getD (a-1).toNat 0
theorem KO (c:Int->Int->Bool) (b:List Int) (a:Nat):(hX c b a).Nodup:=by rw[(Mj c b a).nodup_iff];have:(List.range a).Nodup:=List.nodup_range;unfold List.Nodup at this ⊢;rw[List.pairwise_map];exact this.imp (by intro e d h;omega)
theorem WN (h:r.Nodup) (b:n<r.length):(r.take n).contains (r.getD n 0)=false:=by
 cases g:(r.take n).contains (r.getD n 0) with
 | false=>rfl
 | true =>
  exfalso;have c:r.getD n 0∈r.take n:=ss g;obtain⟨f,d,a⟩:=List.getElem_of_mem c;rw[List.length_take]at d;rw[List.getElem_take]at a;have e:r.getD n 0=r[n]:=by simp[List.getD,b]
  rw[e]at a;have:=(List.pairwise_iff_getElem.1 h) f n om b om;exact this a
def p5 (a:List Int) (b:Int):List Int:=b::(hX i4 a a.length).filter (fun c=>c != b)
theorem TF (h:∀i,i<jQ.length->1<=jQ.getD i 0/\jQ.getD i 0<=n) (dn:jQ.Nodup) (i:Nat) (a:i<=jQ.length):o1 jQ n i=true:=by exact PD
theorem XF (b:r.length=n) (a:1<=c/\c<=n) (h:d∈p5 r c):1<=d/\d<=n:=by
 unfold p5 at h;rcases mc.1 h with rfl | h;·exact a
 ·have:=HP (List.mem_filter.1 h).1;omega
theorem ypo (a:List Int) (b:Int):(p5 a b).Nodup:=by unfold p5;refine List.nodup_cons.2 ⟨?_,(KO i4 a a.length).filter _⟩;intro h;have:=(List.mem_filter.1 h).2;simp at this
theorem Wd (f:r.length=n) (d:1<=c/\c<=n):z3 (p5 r c) n=true:=by
 refine TF (fun a b=>?_) (ypo r c) _ (nr _);have e:(p5 r c).getD a 0=(p5 r c)[a]:=by simp[List.getD,b]
 rw[e];exact XF f d (List.getElem_mem b)
theorem XP (a:List Int) (b:Int):(p5 a b).length<=a.length+1:=by unfold p5;have:=List.length_filter_le (fun c:Int=>c != b) (hX i4 a a.length);rw[A2]at this;simp only[List.length_cons];omega
theorem SO (a:z3 x r.length=true) (d:r.any hj=false) (e:0<=c/\c<=1000000000000000):x3 r x c=((k2 r x c).1,(k2 r x c).2,0):=by
 have b:hj c=false:=by simp[hj];omega
 unfold x3;rw[a,d,b];rfl
def CB (a:List Int) (f e:Int) (d:List Int) (c b:Int):List Int×Int×Int×Int :=
 if pf a f e b [c]≠0 then ([],0,0,pf a f e b [c]) else
 if (d.length == a.length)=false then ([],0,0,1) else
 if hW (hU a (k2 a (p5 d c) b).1) (f+(k2 a (p5 d c) b).2) e=true then
  (hU a (k2 a (p5 d c) b).1,f+(k2 a (p5 d c) b).2,e,0) else ([],0,0,5)
theorem Wu {rates:List Int} {k:Int} (b:j<(hX i4 rates rates.length).length) (c:(hX i4 rates rates.length).getD j 0=y) :
 k::((hX i4 rates rates.length).take (j+1)).filter (fun a=>a != k)=if (y != k)=true then (k::((hX i4 rates rates.length).take j).filter (fun a=>a != k))++[y] else k::((hX i4 rates rates.length).take j).filter (fun a=>a != k):=by
 have d:(hX i4 rates rates.length)[j]=y:=by rw[<-c];simp[List.getD,b]
 rw[List.take_succ_eq_append_getElem b,d,List.filter_append];by_cases h:(y != k)=true;·rw[if_pos h];simp[h]
 ·rw[if_neg h];simp[h]
def Rj (c:List Int) (w:World) (d:Ending) (b:World):Prop:=∃a,d=.returned a/\b.ownsRow w.heap.size 3 1 a c.length (c.map (Value.int .i64))/\BW w b
theorem Xu (h:w.ownsRow n e m v k C) (au:BW w W):W.ownsRow n e m v k C:=by exact Qs
theorem UZ (m) (aD:List Int) (w:World) (r:Sl .i64 w m aD) (a9:aD.length<=1000) :
 Calls prog 235 #[m,.func (.func 236) #[] #[]] w (Rj (hX i4 aD aD.length) w):=by
 have s:=lh r;obtain⟨a3,o,rfl,a4,⟨A,_⟩,ac⟩:=r;clear ac;unfold maxLen at A;obtain⟨jn,aA,iA,gU,er⟩:=info_parts N4;go_enter func235,ntmps235;go_wp2;go_loopg [5,11] aD.length (fun g l j wr=>∃n:Nat,n+g=aD.length/\j=iV n/\wr.ownsRow w.heap.size 3 1 l n ((hX i4 aD n).map (Value.int .i64))/\BW w wr);case atStart=>exact⟨0,by omega,rfl,World.ownsRow_nil _ _ _ _,bR⟩
 case round =>
  obtain⟨n,a1,rfl,cJ,au⟩:=hrel;cases gk with
  | zero=>have y:¬((n:Int)<aD.length):=om;obtain rfl:n=aD.length:=om;go_wp2;go_ret;exact⟨_,rfl,by rw[A2];exact cJ,au⟩
  | succ g =>
   have y:((n:Int)<aD.length):=om;obtain⟨i,e,x,rfl,a6,aV⟩:=(s.B au).get (i:=n) om;have iB:=au.size;go_wp2;refine sq 0 (fun f c=>∃(k eg fw:Nat) (cV:List Value) (X L Z ao z O ag ae ax J ay u Q K P av al ad F T G af D ak W E S ab H V B R aw v Y M C aa ar an ai:Value),f={ tmps:=#[Value.slice (some { block:=i,off:=e }) aD.length o,Value.func (Fn.func 236) #[] #[],undef,undef,sZ,sL eg 0 (n+1) fw,iV n,iV x,iV k,Value.slice (some { block:=i,off:=e }) aD.length o,Value.int IntKind.i64 ↑aD.length,iV n,.bool true,iV n,Value.pointer (some { block:=i,off:=e+n }),iV x,X,L,Z,ao,z,O,ag,ae,ax,J,ay,u,Q,K,P,av,al,ad,F,T,G,af,D,ak,W,E,S,ab,H,V,B,R,aw,v,Y,M,C,aa,ar,an,ai,undef],defers:=[] } /\
    k<=n/\bk (fun a=>i4 x (aD.getD (a-1).toNat 0)) (hX i4 aD n) k=bk (fun a=>i4 x (aD.getD (a-1).toNat 0)) (hX i4 aD n) n/\hA c eg 3 cV/\w.heap.size<=eg/\n+1<=fw/\fw<=maxLen/\cV.length=fw/\cV.take (n+1)=(i3 (hX i4 aD n) (n+1) k).map (Value.int .i64)/\BW w c)
    (fun f _=>(intOf (f.tmps.getD 8 undef)).toNat) rfl ?pass ?first
   case first=>exact MM
   case pass =>
    intro aB a7 b fd lH;obtain⟨k,eg,fw,cV,b⟩:=b;iterate 41 obtain⟨_,b⟩:=b
    obtain⟨am,b4,cu,bx,mY,jp,ip,gh,gi,eW⟩:=b;subst am;have cx:=A2 i4 aD n;cases k with
    | zero=>have aO:=lh (An cu (An bx (An gh (An gi (An eW cx)))));clear cu bx gh gi cx;exact I4
    | succ k =>
     obtain⟨a,bq⟩:=xg ((hX i4 aD n).getD k 0);have a5:1<=a/\a<=n:=by rw[<-bq];exact Fx om
     obtain⟨ah,rfl⟩:∃ah:Nat,a=(ah:Int)+1:=⟨(a-1).toNat,by omega⟩;obtain⟨a2,a8,az,t,aC,eO⟩:=(s.B eW).get (i:=ah) om;cases t;refine H7 ?_;unhygienic intros
     have d:=Nw x az a7;refine QH ?_;clear cu bx gh gi cx bq;intro a0 aO;cases hz':i4 x az
     ·rw[hz']at d;have fy:=lh hz';clear hz'
      go_wp2_with (go_at_call 236;refine d.mono ?_;rintro I c ⟨rfl,rfl⟩)
      exact Ov
     ·rw[hz']at d;have fy:=lh hz';clear hz'
      go_wp2_with (go_at_call 236;refine d.mono ?_;rintro I c ⟨rfl,rfl⟩)
      exact Es
theorem UN (b) (a:List Int) (w) (d:Sl .i64 w b a) (g:a.length<=1000):Calls prog 217 #[b] w (Rj (hX i4 a a.length) w):=by
 go_enter func217,ntmps217
 go_wp2_with (go_at_call 235;refine(UZ _ a _ d g).mono ?_;rintro j i ⟨c,rfl,f,e⟩)
 go_ret;exact⟨c,rfl,f,e⟩
theorem Tl:(prog.info? 3).map (fun a=>(a.zero,a.size,a.bytes))=some (some (iZ),1,8):=by kernel_rfl
theorem Wk (e r) (bs z:List Int) (c aa k d b:Int) (B:Hd (pf bs c aa d [k]=b)) (D:(b != 0)=true) (G:bs.length<=1000) (w:World) (s:Sl .i64 w e bs) (n:Sl .i64 w r z) :
 Calls prog 182 #[.agg #[e,iV c,iV aa],r,iV k,iV d] w (t4 ([],0,0,b) w):=by
 have A:=lh s;have I:=lh n;obtain⟨aF,aC,rfl,F,⟨u,_⟩,f⟩:=s;clear f;obtain⟨J,E,rfl,H,⟨x,_⟩,f⟩:=n;clear f;unfold maxLen at u x;refine CE ?_;intro bJ;refine PC ?_;intro ct cj bi;clear ct;go_enter func182,ntmps182;go_wp2_with fail;obtain⟨a,l,v,m,o,i,j⟩:∃a,(((w.alloc (.cells #[.slice aF bs.length aC,iV c,iV aa] 35)).alloc (.cells #[sZ,iZ,iZ] 35)).alloc (.cells #[iV k] 3))=a/\Hd (hA a w.heap.size 35 [.slice aF bs.length aC,iV c,iV aa])/\Hd (hA a (w.heap.size+1) 35 [sZ,iZ,iZ])/\Hd (BW w a)/\Hd (Sl .i64 a (sL (w.heap.size+1+1) 0 1 1) [k])/\Hd (Sl .i64 a (.slice aF bs.length aC) bs) :=
  ⟨_,rfl,cj.B (hB bR _),bJ.B (hB bR _),hB bi.o _,Sl.litAt _ _ [k] 1 _ rfl _ rfl RD Is,A.B (hB bi.o _)⟩
 with_reducible rw[l]
 clear l cj bJ bi;refine(Ea _ bs c aa d _ [k] b B om Is _ j.o i.o).mono ?_;rintro _ C ⟨rfl,g⟩;have y:=lh (m.o.B g);have t:=hJ o.o g;clear v m i j o g;have cP:=y.o;refine MZ ?_;unhygienic intros
 clear cP;go_wp2;refine bodyPost_ret (v:=.tuple #[.agg #[sZ,iZ,iZ],iV b]) HT rfl ⟨sZ,rfl,⟨Sl.nil,x0⟩,p2 t om _ _ _⟩
theorem yoq (b f) (bs e:List Int) (c aa k bW:Int) (fU:Hd (pf bs c aa bW [k]=0)) (o:¬e.length=bs.length) (x:bs.length<=1000) (w) (g:Sl .i64 w b bs) (i:Sl .i64 w f e) :
 Calls prog 182 #[.agg #[b,iV c,iV aa],f,iV k,iV bW] w (t4 ([],0,0,1) w):=by
 have m:=lh g;have n:=lh i;obtain⟨aF,aC,rfl,t,⟨l,_⟩,d⟩:=g;clear d;obtain⟨r,u,rfl,v,⟨j,_⟩,d⟩:=i;clear d;unfold maxLen at l j;refine CE ?_;intro bJ;refine PC ?_;intro ct cj bi;clear ct;have s:((e.length:Int) != (bs.length:Int))=true:=by simp;omega
 go_enter func182,ntmps182;go_wp2_with fail;obtain⟨a,aW,mW,kj,ki,mV,mw⟩:∃a,(((w.alloc (.cells #[.slice aF bs.length aC,iV c,iV aa] 35)).alloc (.cells #[sZ,iZ,iZ] 35)).alloc (.cells #[iV k] 3))=a/\Hd (hA a w.heap.size 35 [.slice aF bs.length aC,iV c,iV aa])/\Hd (hA a (w.heap.size+1) 35 [sZ,iZ,iZ])/\Hd (BW w a)/\Hd (Sl .i64 a (sL (w.heap.size+1+1) 0 1 1) [k])/\Hd (Sl .i64 a (.slice aF bs.length aC) bs) :=
  ⟨_,rfl,cj.B (hB bR _),bJ.B (hB bR _),hB bi.o _,Sl.litAt _ _ [k] 1 _ rfl _ rfl RD Is,m.B (hB bi.o _)⟩
 refine P0 ?_;clear aW cj bJ bi mW kj mV mw ki;unhygienic intros
 have cP:=f6.o;refine MZ ?_;unhygienic intros
 clear cP;go_wp2;refine bodyPost_ret (v:=.tuple #[.agg #[sZ,iZ,iZ],iV 1]) HT rfl ⟨sZ,rfl,⟨Sl.nil,x0⟩,p2 dl om _ _ _⟩
theorem YZ (v u) (bs e:List Int) (c aa k bW:Int) (fU:Hd (pf bs c aa bW [k]=0)) (ae:e.length=bs.length) (f:List Int) (P eu:Int) (av:Hd (k2 bs (p5 e k) bW=(f,P))) (M:c+P=eu) (Q:Bool) (an:Hd (hW (hU bs f) eu aa=Q)) (D:List Int×Int×Int×Int) (br:Hd ((if Q=true then (hU bs f,eu,aa,0) else ([],0,0,5))=D)) (bS:bs.length<=1000) (w) (b4:Sl .i64 w v bs) (b1:Sl .i64 w u e) :
 Calls prog 182 #[.agg #[v,iV c,iV aa],u,iV k,iV bW] w (t4 D w):=by
 have aS:=lh b4;have bI:=lh b1;obtain⟨aF,aC,rfl,aO,⟨a9,_⟩,Y⟩:=b4;clear Y;obtain⟨dm,cM,rfl,dg,⟨cz,_⟩,Y⟩:=b1;clear Y;unfold maxLen at a9 cz;refine CE ?_;intro bJ;refine PC ?_;intro ct cj bi;clear ct;obtain⟨ao,b9,bl,af,bB⟩:=Fp fU.o;obtain⟨⟨cy,cu⟩,aZ,bc⟩:=Il ao;obtain⟨⟨cg,ck⟩,bu⟩:=A1 ao;have aD:=Ol (Ht ao);have a8:∀l∈bs,0<=l:=fun l I=>(DQ aD l I).1;have cq:Hd (x3 bs (p5 e k) bW=(f,P,0)):=by show _=_;rw[SO (Wd ae ⟨b9,bl⟩) aD ⟨af,bB⟩,av.o]
 have b8:f.length=bs.length:=by have:=Cv bs (p5 e k) bW;rw[av.o]at this;exact this
 have L:∀b,b<bs.length->0<=f.getD b 0/\f.getD b 0<=bs.getD b 0:=fun b bX=>by have:=ER (ks:=p5 e k) af a8 (p5 e k).length b bX;have g:=av.o;unfold k2 at g;rw[g]at this;exact this
 have co:0<=P/\P<=bW:=by have:=DI (bal:=bs) (ks:=p5 e k) af a8 (p5 e k).length;have g:=av.o;unfold k2 at g;rw[g]at this;exact this
 have bj:=XP e k;have b2:(hX i4 e e.length).length=e.length:=A2 _ _ _;have c0:=lh aZ;have cv:=lh bu;have cr:=lh L;have c6:=lh b8;have ey:=lh (An bc (An bS (An ae (An bj b2))));have S:wrap64 eu=eu:=wi _ ⟨by omega,by omega⟩;have bZ:=lh (An M S);have cP:((e.length:Int) != (bs.length:Int))=false:=by simp[ae]
 obtain⟨cf,c1,cc,c2,cd⟩:=info_parts Tl;clear ao b9 bl af bB cy cu aZ bc cg ck bu b8 L co M S aD a8 bj b2 ae;go_enter func182,ntmps182;go_wp2_with fail;obtain⟨j,aW,mW,kj,ki,mV,mw⟩:∃j,(((w.alloc (.cells #[.slice aF bs.length aC,iV c,iV aa] 35)).alloc (.cells #[sZ,iZ,iZ] 35)).alloc (.cells #[iV k] 3))=j/\Hd (hA j w.heap.size 35 [.slice aF bs.length aC,iV c,iV aa])/\Hd (hA j (w.heap.size+1) 35 [sZ,iZ,iZ])/\Hd (BW w j)/\Hd (Sl .i64 j (sL (w.heap.size+1+1) 0 1 1) [k])/\Hd (Sl .i64 j (.slice aF bs.length aC) bs) :=
  ⟨_,rfl,cj.B (hB bR _),bJ.B (hB bR _),hB bi.o _,Sl.litAt _ _ [k] 1 _ rfl _ rfl RD Is,aS.B (hB bi.o _)⟩
 refine P0 ?_;clear aW cj bJ bi mW kj mV mw ki;unhygienic intros
 have dd:=f6.lt;have b7:=lh (aS.B dl);go_wp2_with fail;refine(H9 _ bs c aa ey.2.1 _ b7.o).mono ?_;rintro _ bU ⟨cD,rfl,b6,O⟩;obtain⟨cF,bD,rfl,R,ag,cA⟩:=C7 b6;obtain⟨aE,cx,bz,cV,nP,nQ,nR⟩:=cA BO;subst cx;refine NZ ?_;unhygienic intros
 have cT:a7.heap.size+2<=aE:=bz;have ig:Hd (f.length=n):=c6.trans aK;rw[aK]at R ⊢;have Z:=eZ.B O;obtain⟨c5,ai,bV,-⟩:=Z.fs [0,1,2];clear aI aN aL;obtain⟨aI,aN,aL,-⟩:=Z.cS [0,1,2];have bv:=lh Z;have aA:=lh (f6.B O);have bx:=lh (hJ dl O);have bT:=O.size;clear Z b6 O aK nP nQ nR b7 f6 eZ aS bz cV dl;go_wp2_with fail;obtain⟨j,aW,bo,bC,kj,ki,bH,gz⟩:∃j,((((bU.setCell (Ad w.heap.size 0) (sL aE 0 n bD)).setCell (Ad w.heap.size 1) (iV c)).setCell (Ad w.heap.size 2) (iV aa)).alloc (.cells #[iV k] 3))=j/\Hd (hA j w.heap.size 35 [sL aE 0 n bD,iV c,iV aa])/\Hd (hY j aE bD bs)/\Hd (hA j (w.heap.size+1) 35 [sZ,iZ,iZ])/\Hd (BW w j)/\Hd (j.ownsRow bU.heap.size 3 1 (sL bU.heap.size 0 1 1) 1 [iV k])/\j.heap.size=bU.heap.size+1:=by
  refine⟨_,rfl,?_,?_,?_,?_,?_,by simp⟩;·exact(((bv.set 0 _).set 1 _).set 2 _).B (hB bR _)
  ·exact(((nb.setOther om 0 _).setOther om 1 _).setOther om 2 _).B (hB bR _)
  ·exact(((aA.setOther om 0 _).setOther om 1 _).setOther om 2 _).B (hB bR _)
  ·exact hB (p2 bx.o om _ _ _) _
  ·refine D7 (g:=bU.heap.size) (cur:=[iV k]) ?_ (nr _) (nr _) RD rfl rfl;have:=heap_alloc_new (((bU.setCell (Ad w.heap.size 0) (sL aE 0 n bD)).setCell (Ad w.heap.size 1) (iV c)).setCell (Ad w.heap.size 2) (iV aa)) (.cells #[iV k] 3);simpa[hA] using this
 have bO:aE<bU.heap.size:=nb.lt;have cJ:w.heap.size+1<bU.heap.size:=aA.lt;with_reducible rw[aW]
 have a1:=lh gz;clear aW bv nb aA bx aI aN aL c5 ai bV gz bT;refine(UN _ e _ (bI.B ki.o) (oo ey.2)).mono ?_;rintro _ E ⟨da,rfl,B,H⟩;obtain⟨C,aG⟩:=xg ((hX i4 e e.length));rw[aG,a1.o]at B;have J:=lh aG;have ax:C.length=n:=by rw[<-J.o];have:=ey.2.2.2.2;have:=ey.2.2.1;have:=bd.o;omega
 have cC:1<=n:=o2 ey.1 bd.o;rw[ax]at B;obtain⟨x,W,rfl⟩:=ro B om;have cb:Hd (bU.heap.size+1<=x/\x<E.heap.size):=⟨(B.lt x rfl).1,(B.lt x rfl).2⟩;obtain⟨_,_,df,c7,_⟩:=B0 B;unfold maxLen at c7;have bA:=lh B;have aj:=lh ax;have ah:Hd (n<=8):=by show _<=_;have:=c0.o;have:=bd.o;omega
 have bw:=lh (Xu bH.o H);have bp:=lh (bo.o.B H);have jb:=lh (bC.o.B H);have bb:=lh (kj.o.B H);have aY:=lh (hJ ki.o H);have ca:Hd (bU.heap.size<E.heap.size):=by show _<_;have aO:=a1.o;have a9:=H.size;omega
 clear aG H bH bo bC kj ki a1 bI B ax;go_wp2_with fail;go_loopg [11,42] n (fun aM D i wr=>∃(b:Nat) (m:List Int),b+aM=n/\i=iV b/\Hd (m=k::(C.take b).filter (fun l=>l != k))/\Hd (m.length<=b+1)/\Hd (wr.ownsRow bU.heap.size 3 1 D m.length (m.map (Value.int .i64)))/\Hd (wr.ownsRow (bU.heap.size+1) 3 1 (sL x 0 n W) n (C.map (Value.int .i64)))/\Hd (D.ownBlock=some bU.heap.size\/∀b3,D.ownBlock=some b3->E.heap.size<=b3)/\Hd (Below bU.heap.size E wr));case atStart=>exact⟨0,[k],by omega,rfl,rfl,by show _<=_;simp,bw.o,bA.o,.inl rfl,bR⟩
 case round =>
  obtain⟨b,m,dk,rfl,ab,X,ad,V,ac,t⟩:=hrel;cases gk with
  | succ aM =>
   have a2:(b:Int)<n:=om;obtain⟨b3,o,s,g,a4,aB⟩:=(Sl.of_own V.o aj.o).get (i:=b) (oo aj.o);cases g;simp only[Nat.zero_add]at a4;have G:=Wu (rates:=e) (k:=k) (y:=s) (j:=b) (by rw[J.o];have:=aj.o;omega) (by rw[J.o];exact aB.o);rw[J.o]at G;have di:b<W:=om;by_cases ar:s=k
   ·have aX:(s != k)=false:=by simp[ar]
    rw[if_neg (by rw[aX];simp),<-ab.o]at G;have aT:Hd (m=k::(C.take (b+1)).filter (fun l=>l != k)):=G.symm;have aJ:Hd (m.length<=b+1+1):=by show _<=_;have:=X.o;omega
    clear G ar;go_wp2_with fail;go_roundg aM;case measure=>omega
    case rel=>exact⟨b+1,m,by omega,by go_num,aT,aJ,ad,V,ac,t⟩
   ·have aX:(s != k)=true:=by simp[ar]
    rw[if_pos aX,<-ab.o]at G;have aT:Hd (m++[s]=k::(C.take (b+1)).filter (fun l=>l != k)):=G.symm;have aJ:Hd ((m++[s]).length<=b+1+1):=by show _<=_;have:=X.o;simp;omega
    have cK:m.length<=1001:=o2 X.o ah.o;have bK:bU.heap.size<=wr.heap.size:=o2 t.size ca.o;have cQ:E.heap.size<=wr.heap.size:=t.size;have a5:=ad.o;clear G ar
    go_wp2_with (at_builtin;refine BS _ rfl (.tmp 49) (.tmp 51) 266 rfl bU.heap.size 3 cf (iZ) 1 8 underlying266 c1 cc c2 cd rfl Iv _ _ _ rfl (a5.alloc _) (Ad wr.heap.size 0) 1 1 [_] rfl rfl (cell_one_new _ _ _) (fun l I=>by simp at I;subst I;rfl) RD om GK ?_;intro az aP bq a6 bt)
    have b':Hd (aP.ownsRow bU.heap.size 3 1 az (m++[s]).length ((m++[s]).map (Value.int .i64))):=by have h:=bq;show World.ownsRow _ _ _ _ _ _ _;simpa using h
    have c9:Hd (aP.ownsRow (bU.heap.size+1) 3 1 (sL x 0 n W) n (C.map (Value.int .i64))):=by
     refine(V.alloc _).kept a6 (.inr ?_);intro bh;have g:(Value.slice (some (Ad x 0)) n W).ownBlock=u11.ownBlock:=bh;have aO:=cb.o;rcases ac.o with h | h;·have bf:some x=some bU.heap.size:=g.trans h;injection bf with dj;omega
     ·have:=h x g.symm;omega
    have cB:Hd (az.ownBlock=some bU.heap.size\/∀b3,az.ownBlock=some b3->E.heap.size<=b3):=by
     rcases bt with h | h;·show _\/_;rw[h];exact ac.o
     ·right;intro b3 a';rw[h]at a';cases a';simp only[wa]at *;omega
    have c8:Hd (Below bU.heap.size E aP):=(t.alloc bK _).grown a6 x1 (fun q an=>(a5.lt q an).1);clear bq a6 bt a5;go_wp2_with fail;go_roundg aM;case measure=>omega
    case rel=>exact⟨b+1,_,by omega,by go_num,aT,aJ,b',c9,cB,c8⟩
  | zero =>
   obtain rfl:b=n:=om;have a2:¬((b:Int)<b):=om;have c4:m=p5 e k:=by rw[ab.o,List.take_of_length_le (oo aj.o)];unfold p5;rw[J.o]
   subst c4;have c3:∀(i:Nat) (l:Value),E.cell? (Ad w.heap.size i)=some l->wr.cell? (Ad w.heap.size i)=some l:=fun i l I=>(t.cell (p:=(Ad w.heap.size i)) (by show w.heap.size<_;omega)).trans I;have au:Hd (hA wr w.heap.size 35 [sL aE 0 b bD,iV c,iV aa]):=(t.block w.heap.size om).trans bp.o;have a0:Hd (hA wr (w.heap.size+1) 35 [sZ,iZ,iZ]):=(t.block (w.heap.size+1) om).trans bb.o;have ak:Hd (hY wr aE bD bs):=by obtain⟨cV,cn,cp,cw⟩:=jb.o;exact⟨cV,(t.block aE bO).trans cn,cp,cw⟩
   have bm:Hd (BW w wr):=aY.trans (t.mono om);have b5:=lh (Sl.of_own ad.o rfl);have aU:=lh (ak.sl bd.o R ag);obtain⟨aI,aN,aL,-⟩:=au.cS [0,1,2];clear c3 ab X ad V ac t bp jb bb aY bw bA;go_wp2_with fail;refine(yi9 _ _ bs (p5 e k) bW _ aU.o b5.o ey.2.1 (by have aO:=ey.2.2.2.1;have a9:=ey.2.2.1;have Y:=ah.o;have cZ:=bd.o;omega)).mono ?_;rintro _ cO ⟨cR,rfl,z,bN⟩;rw[cq.o]at z ⊢;simp only at z ⊢;rw[ig.o]at z;obtain⟨ay,bE,rfl⟩:=ro z om;have bY:Hd (wr.heap.size<=ay):=(z.lt ay rfl).1;obtain⟨_,_,db,cs,_⟩:=B0 z;unfold maxLen at cs;have ci:=lh (Sl.of_own z ig.o);have b0:=au.B bN;have cI:=au.lt;have dn:=a0.lt;have cY:=ak.lt;have ce:=lh b0;have bQ:=lh (a0.B bN);have ch:=lh (ak.B bN);have HB6:=lh (hJ bm.o bN);clear aI aN aL z bN b0 au a0 ak bm b5 aU;go_wp2_with fail;go_loopg [69] b (fun aM i K=>∃(d:Nat),d+aM=b/\i=iV d/\Hd (hA K w.heap.size 35 [sL aE 0 b bD,iV c,iV aa]/\hY K aE bD (pn (hU bs f) bs d)/\hA K (w.heap.size+1) 35 [sZ,iZ,iZ]/\BW w K/\Sl .i64 K (sL ay 0 b bE) f));case atStart=>exact⟨0,by omega,rfl,ce.o,by rw[Dz];exact ch.o,bQ.o,HB6.o,ci.o⟩
   case round =>
    obtain⟨d,cW,rfl,T⟩:=hrel;have fa:Hd ((hU bs f).length=b):=by show _=_;unfold hU;rw[List.length_zipWith];have:=bd.o;have:=ig.o;omega
    cases gk with
    | succ aM =>
     have a2:(d:Int)<b:=om;have aw:d<b:=om;obtain⟨am,r,A,F,y⟩:=T.o;obtain⟨cN,cU,s,g,a4,aB⟩:=y.get (i:=d) PX;cases g;simp only[Nat.zero_add]at a4;have cl:=Ez (k:=d) fa.o bd.o (Nat.le_of_lt aw);have bF:=r.cell (i:=d) om;rw[G4 fa.o bd.o aw]at bF;have c':=r.frozen d;have aI:=am.cell 0;simp only[gz]at aI;have al:=EM (a:=bs) (b:=f) (i:=d) Pz PX;have L:=cr.o d Pz;have bP:=cv.o d Pz;rw[aB.o]at L al;generalize bs.getD d 0=l at bF al L bP;have cm:=lh al;have aV:=lh (An am (An r (An A (An F y))));have cG:d<bD:=om;have cE:d<bE:=om;clear al r am A F y cl T;go_wp2_with fail;go_roundg aM;case measure=>omega
     case rel=>refine⟨d+1,by omega,by go_num,?_⟩;obtain⟨am,r,A,F,y⟩:=aV.o;have cH:=bY.o;refine⟨am.setOther om _ _,?_,A.setOther om _ _,F.setCell (show w.heap.size<=aE by omega) _,y.setCell (fun b3 o dh dc g cX=>by cases g;omega) _⟩;have g:=Dl fa.o bd.o aw;rw[cm.o]at g;rw[<-g];exact r.set d (l-s)
    | zero =>
     obtain rfl:d=b:=om;have a2:¬((d:Int)<d):=om;obtain⟨am,r,A,F,y⟩:=T.o;rw[EO fa.o bd.o]at r;obtain⟨aI,aN,aL,-⟩:=am.cS [0,1,2];have ai:=am.frozen 1;obtain⟨M,S⟩:=bZ.o;have dp:=am.lt;have aV:=lh (An am (An r (An A F)));cases Q with
     | true =>
      obtain rfl:(hU bs f,eu,aa,0)=D:=br.o;have a3:Hd (z0 (sL aE 0 d bD) (hU bs f) eu aa=.tuple #[.agg #[sL aE 0 d bD,iV eu,iV aa],iZ]):=by show _=_;unfold z0;rw[an.o];rfl
      have aQ:Hd ((hU bs f).length<=1000000):=by show _<=_;have:=fa.o;have:=ah.o;omega
      clear am r A F y T;go_wp2_with fail;refine(Ci _ (hU bs f) eu aa _ a3 aQ.o _ ?sl).mono ?_;case sl=>exact(aV.2.1.setOther om 1 _).sl fa.o R ag
      refine NX ?_;clear aI aN aL ai M S;intro bG aR bg be bh aX bf ja jb kt ku;go_wp2;refine bodyPost_ret (v:=.tuple #[.agg #[sL aE 0 d bD,iV eu,iV aa],iZ]) HT rfl ⟨sL aE 0 d bD,rfl,⟨(((jb.setOther om 0 _).setOther om 1 _).setOther om 2 _).sl kt.o R ag,DV fun _=>⟨rfl,by omega⟩⟩,p2 ja om _ _ _⟩
     | false =>
      obtain rfl:([],0,0,5)=D:=br.o;have a3:Hd (z0 (sL aE 0 d bD) (hU bs f) eu aa=.tuple #[.agg #[sZ,iZ,iZ],iV 5]):=by show _=_;unfold z0;rw[an.o];rfl
      have aQ:Hd ((hU bs f).length<=1000000):=by show _<=_;have:=fa.o;have:=ah.o;omega
      clear am r A F y T;go_wp2_with fail;refine(Ci _ (hU bs f) eu aa _ a3 aQ.o _ ?sl).mono ?_;case sl=>exact(aV.2.1.setOther om 1 _).sl fa.o R ag
      refine NX ?_;clear aI aN aL ai M S;intro bG aR bg be bh aX bf ja jb kt ku;go_wp2;refine bodyPost_ret (v:=.tuple #[.agg #[sZ,iZ,iZ],iV 5]) HT rfl ⟨sZ,rfl,⟨Sl.nil,x0⟩,p2 ja om _ _ _⟩
theorem TN (i g) (a f:List Int) (e b d c:Int) (n:List Int×Int×Int×Int) (l:Hd (CB a e b f d c=n)) (m:a.length<=1000) (w) (j:Sl .i64 w i a) (k:Sl .i64 w g f) :
 Calls prog 182 #[.agg #[i,iV e,iV b],g,iV d,iV c] w (t4 n w):=by
 have l:=l.o;subst l;unfold CB;by_cases fo:pf a e b c [d]=0
 ·rw[if_neg O9];by_cases cx:f.length=a.length;·rw[if_neg Hw];exact YZ i g a f e b d c fo cx _ _ _ rfl rfl _ rfl _ rfl m w j k
  ·rw[if_pos Hw];exact yoq i g a f e b d c fo cx m w j k
 ·rw[if_pos O9];exact Wk i g a f e b d c _ rfl O9 m w j k
section
open EvM
def nu (b a:Int):Bool:=decide (a<0) || decide (b<a)
def wX (a b:List Int):Bool:=(a.length == b.length) && decide (a.length<=40000) && !a.any (nu 1000000000000000) && !b.any (nu 10000000)
def kb (b a:List Int):Nat->Nat
 | 0=>0
 | k+1=>kb b a k+(b.getD k 0).toNat*(a.getD k 0).toNat
def C3 (a b:List Int):Nat×Nat×Int:=if wX a b=true then (kb a b a.length/18446744073709551616,kb a b a.length%18446744073709551616,0) else (0,0,1)
def EK (a:Nat):Int×Int :=
 if (evQ ((a/18446744073709551616:Nat):Int) ((a%18446744073709551616:Nat):Int) 1000000000).2=true/\(evQ ((a/18446744073709551616:Nat):Int) ((a%18446744073709551616:Nat):Int) 1000000000).1<=1000000000000000 then
  ((evQ ((a/18446744073709551616:Nat):Int) ((a%18446744073709551616:Nat):Int) 1000000000).1,0) else (0,5)
def C0 (a b:List Int):Int×Int:=if wX a b=true then EK (kb a b a.length) else (0,1)
theorem Wb (h:nu c d=false):0<=d/\d<=c:=by simp[nu]at h;omega
theorem FL (h:r.any (nu c)=false) (e:0<=c) (a:Nat):0<=r.getD a 0/\r.getD a 0<=c:=by
 by_cases b:a<r.length
 ·rw[List.any_eq_false]at h;have:=h r[a] (List.getElem_mem b);have d:r.getD a 0=r[a]:=by simp[List.getD,b]
  rw[d];exact Wb (ss this)
 ·have d:r.getD a 0=0:=by simp[List.getD,Nat.le_of_not_lt b]
  rw[d];omega
theorem JW (h:wX r x=true):r.length=x.length/\r.length<=40000/\r.any (nu 1000000000000000)=false/\x.any (nu 10000000)=false:=by unfold wX at h;simp only[ba,beq_iff_eq,decide_eq_true_eq,Bool.not_eq_true']at h;exact⟨h.1.1.1,h.1.1.2,h.1.2,h.2⟩
theorem Vf (b:n<=k) (a:m<=i):n*m<=k*i:=Nat.mul_le_mul b a
theorem O3 (c:r.any (nu 1000000000000000)=false) (b:x.any (nu 10000000)=false) (a:Nat):kb r x a<=a*10000000000000000000000:=by
 induction a with
 | zero=>exact nr _
 | succ a e=>have g:=FL c om a;have f:=FL b om a;have d:(r.getD a 0).toNat*(x.getD a 0).toNat<=1000000000000000*10000000:=Vf om om;simp only[kb];generalize (r.getD a 0).toNat*(x.getD a 0).toNat=q at d;omega
theorem Qh (a b e d h f c i g:Nat) (k:a/18446744073709551616=e) (p:a%18446744073709551616=d) (l:b/18446744073709551616=h) (o:b%18446744073709551616=f)
 (j:(d+f)%18446744073709551616=i) (m:(d+f)/18446744073709551616=c) (r:(e+h+c)%18446744073709551616=g) (n:a+b<18446744073709551616*18446744073709551616) :
 (a+b)/18446744073709551616=g/\(a+b)%18446744073709551616=i/\e+h+c<18446744073709551616/\c<=1:=by
 omega
end
theorem ZS (a b:Int) (d:Nat) (w:World) (j:w.cell? (Ad d 0)=some (iV b)):Calls prog 246 #[iV a,pV d] w (h3 (.bool (nu b a)) w):=by
 have c:nu b a=(decide (a<0) || decide (b<a)):=rfl;rw[c];clear c;by_cases f:a<0;·have g:decide (a<0)=true:=ss f;go_enter func246,ntmps246;go_wp2;go_ret;simp only[g];exact h3.mk _ _
 ·have g:decide (a<0)=false:=ss f;by_cases e:b<a;·have i:decide (b<a)=true:=ss e;go_enter func246,ntmps246;go_wp2;go_ret;exact h3.mk _ _
  ·have i:decide (b<a)=false:=ss e;go_enter func246,ntmps246;go_wp2;go_ret;exact h3.mk _ _
def ZD (c:Bool) (w:World) (d:Ending) (b:World):Prop:=∃a:Int,d=.returned (iV a)/\decide (0<=a)=c/\w=b
theorem O8 (f) (aD:List Int) (b:Int) (c:Nat) (l:Bool) (iD:Hd (aD.any (nu b)=l)) (w:World) (m:Sl .i64 w f aD) (j:w.cell? (Ad c 0)=some (iV b)) :
 Calls prog 231 #[f,.func (.func 246) #[] #[pV c]] w (ZD l w):=by
 have u:=lh m;have r:=lh j;clear j;obtain⟨A,C,rfl,B,⟨o,_⟩,s⟩:=m;clear s;unfold maxLen at o;go_enter func231,ntmps231;go_wp2;go_loopg [8] aD.length (fun g i wr=>∃k:Nat,k+g=aD.length/\i=iV k/\w=wr/\Hd (∀a8,a8<k->(nu b) (aD.getD a8 0)=false));case atStart=>exact⟨0,by omega,rfl,rfl,fun a8 di=>absurd di om⟩
 case round =>
  obtain⟨k,z,rfl,rfl,bd⟩:=hrel;cases gk with
  | zero=>exact Ra
  | succ g =>
   refine NG ?_;intro ch bP;obtain⟨E,y,x,rfl,D,aj⟩:=u.get (i:=k) bP;have d:=ZS x b c w r.o;cases a:(nu b) x with
   | true =>
    have e:Calls prog 246 #[iV x,pV c] w (h3 (.bool true) w):=by rw[<-a];exact d
    have cK:=lh a;clear a d
    go_wp2_with (go_at_call 246;refine e.mono ?_;rintro v n ⟨rfl,rfl⟩)
    go_ret;refine⟨k,rfl,?_,rfl⟩;rw[<-iD.o];have t:aD.any (nu b)=true:=by exact Si
    rw[t];simp
   | false =>
    have e:Calls prog 246 #[iV x,pV c] w (h3 (.bool false) w):=by rw[<-a];exact d
    have cK:=lh a;clear a d
    go_wp2_with (go_at_call 246;refine e.mono ?_;rintro v n ⟨rfl,rfl⟩)
    exact Dc
theorem SF (c) (b:List Int) (a:Int) (d:Nat) (e:Bool) (g:Hd (b.any (nu a)=e)) (w:World) (i:Sl .i64 w c b) (j:w.cell? (Ad d 0)=some (iV a)) :
 Calls prog 210 #[c,.func (.func 246) #[] #[pV d]] w (h3 (.bool e) w):=by
 have f:=lh j;clear j;cases e with
 | true=>go_enter func210,ntmps210;go_wp2_with fail;refine(O8 c b a d true g _ i f.o).mono ?_;exact R1
 | false=>go_enter func210,ntmps210;go_wp2_with fail;refine(O8 c b a d false g _ i f.o).mono ?_;exact R1
theorem GY (j) (c:List Int) (a:Int) (d:Bool) (f:Hd (c.any (nu a)=!d)) (w:World) (g:Sl .i64 w j c) :
 Calls prog 238 #[j,iV a] w (RetB (.bool d) w):=by
 have i:=lh g;obtain⟨n,o,rfl,_⟩:=g;have e:BW w (w.alloc (.cells #[iV a] 2)):=hB bR _;have k:(w.alloc (.cells #[iV a] 2)).cell? (Ad w.heap.size 0)=some (iV a):=by have h:hA (w.alloc (.cells #[iV a] 2)) w.heap.size 2 [iV a]:=heap_alloc_new w _;rw[h.cell];rfl
 have l:=lh k;have b:=lh e;clear k e;cases d with
 | true=>go_enter func238,ntmps238;go_wp2_with fail;refine(SF _ c a _ false f _ (i.B b.o) l.o).mono ?_;rintro _ m ⟨rfl,rfl⟩;go_wp2;go_ret;exact⟨rfl,b.o⟩
 | false=>go_enter func238,ntmps238;go_wp2_with fail;refine(SF _ c a _ true f _ (i.B b.o) l.o).mono ?_;rintro _ m ⟨rfl,rfl⟩;go_wp2;go_ret;exact⟨rfl,b.o⟩
end Go.Proofs.YtkongpjpkpfniaaGreat

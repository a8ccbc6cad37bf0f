/- TopBooks, a part. -/
import Derived.Laws.FloatArith
import GoSem.Core.Float
import Derived.Laws.ComplexArith
import Derived.BigQuiet
import Derived.Test.YtkongpjpkpfniaaGreatC03
set_option linter.unusedVariables false
set_option linter.unusedSimpArgs false
set_option maxRecDepth 100000
set_option maxHeartbeats 6400000
namespace Go.Proofs.YtkongpjpkpfniaaGreat
open Go.RowKit Go.Proofs.Tryz
variable {D:Bool} {c d f y:Int} {H:List (Int×Nat×Nat)} {r x:List Int} {C:List Value} {i k m n:Nat} {p q:Prop} {e:TypeId} {V u v:Value} {W w:World}
theorem Jd {q:Prop} (h:q:=by
 induction l with
 | nil=>rfl
 | cons x l ni=>rw[List.flatMap_cons,la,ni,Pb,List.length_cons];omega):q:=h
theorem Kt {q:Prop} (h:q:=by have ag:=@Nat.lt_log2_self n;have bK:n*2 ^ (52-n.log2)<2 ^ (n.log2+1)*2 ^ (52-n.log2):=Nat.mul_lt_mul_of_pos_right ag (Nat.two_pow_pos _);rwa [<-Nat.pow_add,show n.log2+1+(52-n.log2)=53 by omega]at bK):q:=h
theorem Kc {q:Prop} (h:q:=by
 have yQ:Below (w.heap.size+1) (w.alloc (.cells #[iV ay,sL b ae ts.length aC,iV al,iV an,iV az,iV ar,iV ax] 24)) lz:=(wO.alloc om _).grown vm GK (fun q eC=>(fs.lt q eC).1);have yR:Hd (lz.ownsRow (w.heap.size+1) 5 1 nZ (BC ay ts al an az ar ax (k+1)).length ((BC ay ts al an az ar ax (k+1)).map (Value.int .u8))):=by rw[yS.o,ce.o];have I:56+9*(k+1)=56+9*k+8+1:=om;rw[I];simpa[Hd] using vn
 clear fs vn vm wP wO;go_wp2_with fail;go_roundg g;case measure=>omega
 case rel=>exact⟨k+1,by omega,by go_num,yR.o,yQ⟩):q:=h
theorem J7:(prog.info? 5).map (fun b=>(b.zero,b.size,b.bytes))=some (some (.int .u8 0),1,1):=by kernel_rfl
theorem Qf {w f k:World} {d c:Option Nat} (h:w.grownBy f d) (b:f.grownBy k c) (m:c=none\/c=d\/∃e,c=some e/\w.heap.size<=e):w.grownBy k d:=by
 refine⟨b.os.trans h.os,b.tape.trans h.tape,b.output.trans h.output,nt h.size b.size,fun j g i=>?_⟩;rw[b.block j (Nat.lt_of_lt_of_le g h.size) ?_,h.block j g i];rcases m with rfl | rfl | ⟨e,rfl,o⟩;·simp
 ·exact i
 ·intro l;simp at l;omega
def Ku (g:Nat) (e:Value) (f:List Int) (w:World) (i:Ending) (d:World):Prop :=
 ∃b,i=.returned b/\d.ownsRow g 5 1 b f.length (f.map (Value.int .u8))/\w.grownBy d e.ownBlock/\(b.ownBlock=e.ownBlock\/∃c,b.ownBlock=some c/\w.heap.size<=c)
def AX (d c:List Int) (b:Nat):List Int:=d++(c.take b).flatMap B3
theorem K3 (c b:List Int) {m:Nat} (h:m<=b.length):(AX c b m).length=c.length+8*m:=by
 have:∀l:List Int,(l.flatMap B3).length=8*l.length:=by intro l;exact Jd
 rw[AX,la,this,List.length_take];omega
theorem Zs (d c:List Int) {b:Nat} (h:b<c.length):AX d c (b+1)=AX d c b++B3 (c.getD b 0):=by unfold AX;rw[List.take_succ_eq_append_getElem h,List.flatMap_append];simp[List.getD,h]
theorem Jt (ah L:Value) (d c:List Int) (g:Nat) (w:World) (O:w.ownsRow g 5 1 ah d.length (d.map (Value.int .u8))) (y:Hd (∀C,w.grownBy C ah.ownBlock->Sl .i64 C L c)) (V:g<=w.heap.size)
 (ar:d.length+8*c.length<=100000):Calls prog 93 #[ah,L] w (Ku g ah (AX d c c.length) w):=by
 obtain⟨aa,ac,Q,W,Z⟩:=info_parts J7;have hl:=y.o w (World.grownBy.refl _ _);obtain⟨ai,al,rfl,ak,⟨P,_⟩,_⟩:=hl;unfold maxLen at P;have aj:=lh V;obtain⟨j,s⟩:∃q,q=ah.ownBlock:=⟨_,rfl⟩;rw[<-s]at y;go_enter func93,ntmps93;go_wp2;go_loopg [0,10] c.length (fun f i t wr=>∃b:Nat,b+f=c.length/\t=iV b/\wr.ownsRow g 5 1 i (AX d c b).length ((AX d c b).map (Value.int .u8))/\w.grownBy wr j/\Hd (i.ownBlock=j\/∃f,i.ownBlock=some f/\w.heap.size<=f));case atStart=>exact⟨0,by omega,rfl,by simpa[AX] using O,World.grownBy.refl _ _,.inl s.symm⟩
 case round =>
  obtain⟨b,ao,rfl,m,r,G⟩:=hrel;cases gk with
  | zero=>have u:¬((b:Int)<c.length):=om;obtain rfl:b=c.length:=om;have ab:=lh m;have T:=lh r;clear m r;go_wp2;go_ret;exact⟨_,rfl,ab.o,s▸T.o,s▸G.o⟩
  | succ f =>
   have u:((b:Int)<c.length):=om;obtain⟨ag,o,k,rfl,am,ad⟩:=(y.o _ r).get (i:=b) om;have H:=lh (K3 d c (m:=b) om);obtain⟨F,M⟩:∃F:World,F=wr:=⟨_,rfl⟩;subst M;go_wp2_with fail;go_loopg [0,7] 8 (fun f i t B=>∃ae:Nat,ae+f=8/\t=iV (56-8*ae)/\B.ownsRow g 5 1 i ((AX d c b).length+ae) ((AX d c b++(B3 k).take ae).map (Value.int .u8))/\w.grownBy B j/\Hd (i.ownBlock=j\/∃f,i.ownBlock=some f/\w.heap.size<=f));case atStart=>exact⟨0,by omega,rfl,by simpa using m,r,G⟩
   case round =>
    obtain⟨ae,au,rfl,l,x,p⟩:=hrel;cases gk with
    | zero =>
     have u:decide ((0:Int)<=56-8*(ae:Int))=false:=by simp;omega
     obtain rfl:ae=8:=om;have z:Hd (wr.ownsRow g 5 1 u0 (AX d c (b+1)).length ((AX d c (b+1)).map (Value.int .u8))):=by rw[Zs d c om,ad.o,la];exact l
     clear m l;go_wp2_with fail;go_roundg f;case measure=>omega
     case rel=>exact⟨b+1,by omega,by go_num,z.o,x,p⟩
    | succ Y =>
     have u:decide ((0:Int)<=56-8*(ae:Int))=true:=by simp;omega
     have af:=x.size;have K:=H.o;have an:d.length+8*b+ae+1<=100000:=om;have R:Hd (k/2 ^ (56-8*ae)%256=C5 k (56-8*ae)):=rfl;rw[K]at l;clear K
     go_wp2_with (at_builtin;refine BS _ rfl (.tmp 18) (.tmp 23) 135 rfl g 5 aa (.int .u8 0) 1 1 underlying135 ac Q W Z rfl Iv _ _ _ rfl (l.alloc _) (Ad wr.heap.size 0) 1 1 [_] rfl rfl (cell_one_new _ _ _) (fun k I=>by simp at I;subst I;rfl) RD om GK ?_;intro v A D E J)
     have S:w.grownBy A j:=by
      refine Qf (Qf x (World.grownBy_alloc _ _ none) (.inl rfl)) E ?_;rcases p.o with h | h;·exact .inr (.inl h)
      ·exact .inr (.inr h)
     have X:Hd (v.ownBlock=j\/∃f,v.ownBlock=some f/\w.heap.size<=f):=by
      rcases J with h | h;·rw[h];exact p
      ·exact .inr ⟨_,h,by simp;omega⟩
     have z:Hd (A.ownsRow g 5 1 v ((AX d c b).length+(ae+1)) ((AX d c b++(B3 k).take (ae+1)).map (Value.int .u8))):=by rw[XS k om,H.o,<-R.o];have e:d.length+8*b+(ae+1)=d.length+8*b+ae+1:=om;rw[e];simpa[Hd] using D
     clear m l D E J p;go_roundg Y;case measure=>omega
     case rel=>exact⟨ae+1,by omega,by go_num,z.o,S,X⟩
theorem Sl.litG {c:IntKind} {w g:World} {b:TypeId} {i:Array Value} {f:Option Nat} (d:List Int) (n:Nat) {e:Nat} (m:(w.alloc (.cells i b)).grownBy g f) (u:d.length=n) (y:i=(d.map (Value.int c)).toArray) (v:n<=maxLen) (l:w.heap.size=e) (j:some e≠f) :
 Sl c g (sL e 0 n n) d:=by
 subst y l;obtain⟨A,B,b,o,k,r⟩:=Sl.lit (k:=c) w b d n u _ rfl v;cases b;refine⟨_,_,rfl,o,k,fun t=>?_⟩;obtain⟨C,z,b,p⟩:=r t;cases b;exact⟨_,_,rfl,fun x s=>m.cell (p x s) j⟩
def F7 (b:Int×Bool):List Int:=B3 b.1++[if b.2 then 1 else 0]
def FK (c:Int) (b:List (Int×Bool)) (d f e g i:Int):List Int:=[c,d,f,e,g,i,b.length].flatMap B3++b.flatMap F7
def EW (b:Int) (e:List (Int×Bool)) (c f d g i:Int):List Int×Int:=if hu b e c f d g i=true then (FK b e c f d g i,0) else ([],6)
def BC (c:Int) (b:List (Int×Bool)) (d g e i j:Int) (f:Nat):List Int:=[c,d,g,e,i,j,b.length].flatMap B3++(b.take f).flatMap F7
def XY (f:IntKind) (c:List Int×Int) (w:World) (j:Ending) (d:World):Prop:=∃b,j=.returned (.tuple #[b,iV c.2])/\Sl f d b c.1/\(∀e i n g,b=sL e i n g->0<n->w.heap.size<=e)/\BW w d
theorem Va (b:Int×Bool):(F7 b).length=9:=rfl
theorem Wo (b:List (Int×Bool)):(b.flatMap F7).length=9*b.length:=by
 induction b with
 | nil=>rfl
 | cons d b c=>rw[List.flatMap_cons,la,c,Va,List.length_cons];omega
theorem Vt (l:List Int):(l.flatMap B3).length=8*l.length:=by exact Jd
theorem JC (c:Int) (b:List (Int×Bool)) (d f e g i:Int) {k:Nat} (h:k<=b.length):(BC c b d f e g i k).length=56+9*k:=by rw[BC,la,Wo,Vt,List.length_take];simp only[List.length_cons,List.length_nil];omega
theorem To (e:Int) (b:List (Int×Bool)) (f i g j l:Int) {k:Nat} (h:k<b.length) {c:Int} {d:Bool} (m:b.getD k (0,false)=(c,d)) :
 BC e b f i g j l (k+1)=BC e b f i g j l k++B3 c++[if d then 1 else 0]:=by
 unfold BC;rw[List.take_succ_eq_append_getElem h,List.flatMap_append];have:b[k]=(c,d):=by rw[<-m];simp[List.getD,h]
 rw[this];simp[F7]
theorem yyu (b:IntKind) (w):Sl b w (sZ) []:=⟨none,0,rfl,nr _,⟨by simp[maxLen],fun _=>rfl⟩,fun h=>absurd rfl h⟩
theorem Sl.kept {g:IntKind} {w f:World} {b c n i:Nat} {e:Option Nat} {j:List Int} (h:Sl g w (sL b c n i) j) (m:w.grownBy f e) (k:some b≠e):Sl g f (sL b c n i) j:=by obtain⟨x,v,d,o,l,p⟩:=h;cases d;refine⟨_,_,rfl,o,l,fun s=>?_⟩;obtain⟨y,z,d,u⟩:=p s;cases d;exact⟨b,c,rfl,fun t r=>m.cell (u t r) k⟩
theorem Uc (A) (ts:List (Int×Bool)) (ay al an az ar ax:Int) (w) (P:h7 w A ts) :
 Calls prog 55 #[.agg #[iV ay,A,iV al,iV an,iV az,iV ar,iV ax]] w (XY .u8 (EW ay ts al an az ar ax) w):=by
 have v:=lh P;obtain⟨aF,aC,rfl,ai,⟨aa,_⟩,aw⟩:=P;clear aw;unfold maxLen at aa;obtain⟨H,M,y,E,G⟩:=info_parts J7;refine EV ?_;intro g7 bm;cases e:hu ay ts al an az ar ax with
 | false =>
  have l:EW ay ts al an az ar ax=([],6):=by simp[EW,e]
  rw[l];clear l;have S:=lh (show(if hu ay ts al an az ar ax=true then (0:Int) else 6)=6 from by rw[e];rfl);clear e;go_enter func55,ntmps55;go_wp2_with fail;refine(Cy _ ts ay al an az ar ax 6 S _ (v.B bm)).mono ?_;rintro I i ⟨rfl,f⟩;go_wp2_with fail;go_ret2;exact⟨_,rfl,yyu _ _,(fun b ae n x I _=>by cases I),hJ bm f⟩
 | true =>
  have l:EW ay ts al an az ar ax=(FK ay ts al an az ar ax,0):=by simp[EW,e]
  rw[l];clear l;have aB:ts.length<=8:=by simp only[hu,h0,ba,decide_eq_true_eq]at e;omega
  have Y:=lh (show(if hu ay ts al an az ar ax=true then (0:Int) else 6)=0 from by rw[e];rfl);clear e;go_enter func55,ntmps55;go_wp2_with fail;refine(Cy _ ts ay al an az ar ax 0 Y _ (v.B bm)).mono ?_;rintro I i ⟨rfl,f⟩;have am:=g7.B f;have C:BW w i:=hJ bm f;obtain⟨ao,au,T,V,ab,a3,ad⟩:=am;have a9:=C.size;have a5:=lh g7;clear g7;have t:Below (w.heap.size+1) (w.alloc (.cells #[iV ay,.slice aF ts.length aC,iV al,iV an,iV az,iV ar,iV ax] 24)) i:=f.mono (by rw[wa];exact nr _);have a0:w.heap.size+1<=i.heap.size:=by have:=t.size;rw[wa]at this;exact this
  go_wp2_with fail;refine(Jt _ _ [] [ay,al,an,az,ar,ax,ts.length] (w.heap.size+1) _ (World.ownsRow_nil _ _ _ _) (fun W u=>(Sl.litAt _ _ _ 7 i.heap.size rfl _ rfl Iv rfl).kept u (by simp[Value.ownBlock])) GK Is).mono ?_;rintro I R ⟨ah,rfl,D,F,af⟩;have z:Below (w.heap.size+1) (w.alloc (.cells #[iV ay,.slice aF ts.length aC,iV al,iV an,iV az,iV ar,iV ax] 24)) R:=(t.alloc a0 _).grown F GK (fun k ag=>by cases ag);have aj:Hd (R.ownsRow (w.heap.size+1) 5 1 ah (BC ay ts al an az ar ax 0).length ((BC ay ts al an az ar ax 0).map (Value.int .u8))):=by simpa[BC,AX,Hd] using D
  obtain⟨ao,au,T,V,ab,a3,ad⟩:=a5.B (z.mono (by rw[wa];exact nr _));clear D F af f C t;go_wp2_with fail;go_loopg [5,33] ts.length (fun g x Q wr=>∃k:Nat,k+g=ts.length/\Q=iV k/\wr.ownsRow (w.heap.size+1) 5 1 x (BC ay ts al an az ar ax k).length ((BC ay ts al an az ar ax k).map (Value.int .u8))/\Below (w.heap.size+1) (w.alloc (.cells #[iV ay,.slice aF ts.length aC,iV al,iV an,iV az,iV ar,iV ax] 24)) wr);case atStart=>exact⟨0,by omega,rfl,aj.o,z⟩
  case round =>
   obtain⟨k,a6,rfl,d,r⟩:=hrel;have B:BW w wr:=bm.trans (r.mono om);have X:w.heap.size+1<=wr.heap.size:=by have:=r.size;rw[wa]at this;exact this
   cases gk with
   | zero =>
    have ac:¬((k:Int)<ts.length):=om;obtain rfl:k=ts.length:=om;have J:=lh d;clear d;go_wp2;go_ret2;refine⟨_,rfl,?_,fun b ae n x I _=>?_,B⟩;rotate_left;·have ai:=(J.lt b ((congrArg Value.ownBlock I).trans rfl)).1;omega
    have:=Sl.of_own J.o rfl;simpa[BC,FK] using this
   | succ g =>
    have ac:((k:Int)<ts.length):=om;obtain⟨b,ae,c,s,rfl,a4,av,a1⟩:=(v.B B).get (i:=k) om;have L:=lh (JC ay ts al an az ar ax (k:=k) om);go_wp2_with fail;refine(Jt _ _ (BC ay ts al an az ar ax k) [c] (w.heap.size+1) _ ((d.alloc _).alloc _) (fun W u=>(Sl.litAt _ _ [c] 1 (wr.heap.size+1) rfl _ rfl Iv Is).kept u (by intro I;have:=d.lt _ I.symm;omega)) GK (by rw[L.o];simp;omega)).mono ?_;rintro I m ⟨a8,rfl,fs,o,ak⟩;have aA:m.cell? (Ad wr.heap.size 1)=some (.bool s):=by have a2:hA (wr.alloc (.cells #[iV c,.bool s] 81)) wr.heap.size 81 [iV c,.bool s]:=heap_alloc_new wr _;exact o.cell ((a2.B (bR.alloc (nr _) _)).cell 1) (fun I=>Nat.lt_irrefl _ (d.lt _ I.symm).2)
    have wO:Below (w.heap.size+1) (w.alloc (.cells #[iV ay,sL b ae ts.length aC,iV al,iV an,iV az,iV ar,iV ax] 24)) m:=((r.alloc X _).alloc GK _).grown o GK (fun q eC=>(d.lt q eC).1);have Z:=o.size;simp only[wa]at Z;have O:(AX (BC ay ts al an az ar ax k) [c] 1)=BC ay ts al an az ar ax k++B3 c:=by simp[AX]
    have K:(BC ay ts al an az ar ax k++B3 c).length=56+9*k+8:=by rw[la,L.o,Pb]
    simp only[List.length_cons,List.length_nil,Nat.zero_add]at fs;rw[O,K]at fs;have ce:=lh (To ay ts al an az ar ax (k:=k) om a1.o);have yS:=lh (JC ay ts al an az ar ax (k:=k+1) om);clear O K d o ak a4 av r;have a7:k<=8:=om;cases s with
    | true =>
     go_wp2_with (at_builtin;refine BS _ rfl (.tmp 44) (.tmp 45) 135 rfl (w.heap.size+1) 5 H (.int .u8 0) 1 1 underlying135 M y E G rfl Iv _ _ _ rfl (fs.alloc _) (Ad m.heap.size 0) 1 1 [_] rfl rfl (cell_one_new _ _ _) (fun c j=>by simp at j;subst j;rfl) RD om GK ?_;intro nZ lz vn vm wP)
     exact Kc
    | false =>
     go_wp2_with (at_builtin;refine BS _ rfl (.tmp 47) (.tmp 48) 135 rfl (w.heap.size+1) 5 H (.int .u8 0) 1 1 underlying135 M y E G rfl Iv _ _ _ rfl (fs.alloc _) (Ad m.heap.size 0) 1 1 [_] rfl rfl (cell_one_new _ _ _) (fun c j=>by simp at j;subst j;rfl) RD om GK ?_;intro nZ lz vn vm wP)
     exact Kc
theorem yqe:(prog.info? 5).map (fun b=>(b.zero,b.size,b.bytes))=some (some (.int .u8 0),1,1):=by kernel_rfl
def TV (d:List Int) (w:World) (e:Ending) (c:World):Prop :=
 ∃b,e=.returned b/\c.ownsRow w.heap.size 5 1 b d.length (d.map (Value.int .u8))/\BW w c
theorem V2 (g) (b:List Int) (w) (i:Sl .u8 w g b) (C:b.length<=20000) :
 Calls prog 101 #[g] w (TV b w):=by
 have c:=lh i;obtain⟨o,p,rfl,B,⟨j,_⟩,v⟩:=i;clear v;unfold maxLen at j;have A:∀(w:World) (a:Option Addr) (n f d e:Nat),(binOp .eql 135 (.slice a n f) (.slice none d e)).run prog w=.ok (.bool a.isNone) w:=fun w a n f d e=>Lib.run_eql_slice_nil w _ _ a n f d e underlying135;obtain⟨t,x,l,r,u⟩:=info_parts yqe;cases o with
 | none=>obtain rfl:=c.none_len rfl;obtain⟨_,rfl⟩:=c.none_cap rfl;go_enter func101,ntmps101;go_wp2;go_ret;exact⟨_,rfl,World.ownsRow_nil _ _ _ _,bR⟩
 | some a =>
  have s:=c.news;clear s;go_enter func101,ntmps101
  go_wp2_with (at_builtin;refine Ba _ rfl (.tmp 5) (.tmp 6) 135 rfl w.heap.size 5 t (.int .u8 0) 1 1 underlying135 x l r u rfl Iv _ 0 [] rfl (D9 w _) (some a) b.length p (b.map (Value.int .u8)) rfl Is (fun h=>by cases h) (c.alloc _).news (ints_oneCell _ _) RD om x1 ?_;intro z y lL gN m;clear m)
  exact MP
structure UK (ks:List Int) (n:Nat):Prop where
 len:ks.length=n
 rng:∀i,i<n->1<=ks.getD i 0/\ks.getD i 0<=n
 ne:∀i j,i<j->j<n->ks.getD i 0≠ks.getD j 0
 all:∀j,j<n->∃i,i<n/\ks.getD i 0=(j:Int)+1
section
variable {bal ks:List Int} {n:Nat} (ho:UK ks n) (hl:bal.length=n) {a:Int}
end
theorem jjd {bal:List Int} (e:∀b∈bal,0<=b) (c:Nat):0<=bal.getD c 0:=by
 rw[List.getD_eq_getElem?_getD];cases d:bal[c]? with
 | none=>simp
 | some b=>simpa using e b (List.mem_of_getElem? d)
section
open Ieee
namespace FlM
def N (n:Nat):Nat:=double.write (.number false n 0)
theorem two52:(2:Nat) ^ 52=4503599627370496:=by decide
theorem fb:double.fractionBits=52:=rfl
theorem lp:double.leastPlace = -1074:=by decide
theorem bn:double.binade=2 ^ 52:=rfl
theorem ir:double.infRung=2047*2 ^ 52:=by decide
theorem sw:double.signWeight=2048*2 ^ 52:=by decide
theorem shl_mul (n b:Nat):n <<< b=n*2 ^ b:=Nat.shiftLeft_eq n b
theorem log2_mul_pow (n a:Nat) (h:0<n):(n*2 ^ a).log2=n.log2+a:=by rw[Nat.log2_eq_iff (by have:=Nat.two_pow_pos a;exact Nat.ne_of_gt (Nat.mul_pos h this))];have b:=Nat.log2_self_le (Nat.ne_of_gt h);have c:=@Nat.lt_log2_self n;rw[Nat.pow_add,show n.log2+a+1=(n.log2+1)+a by omega,Nat.pow_add];exact⟨Nat.mul_le_mul_right _ b,Nat.mul_lt_mul_of_pos_right c (Nat.two_pow_pos a)⟩
theorem cut_exact (f:Bool) (c:Toward) (q b:Nat):c.cut f (q*2 ^ b) b=q:=by
 unfold Toward.cut;by_cases d:q=0;·subst d;rw[Nat.zero_mul];simp only[Nat.zero_div,Nat.zero_mod];cases c <;> simp_all
 ·have e:min b ((q*2 ^ b).log2+2)=b:=by
   rw[log2_mul_pow q b (Nat.pos_of_ne_zero d)];omega
  rw[e,Nat.one_shiftLeft];simp only[Nat.mul_div_cancel _ (Nat.two_pow_pos b),Nat.mul_mod_left];cases c <;> simp_all <;> omega
theorem nearest_whole (n a:Nat) (c:0<n) (h:n<9007199254740992):double.nearest false (n*2 ^ a) (-(a:Int))=(1022+n.log2)*2 ^ 52+n*2 ^ (52-n.log2):=by
 have k:n.log2<=52:=by have:n.log2<53:=(Nat.log2_lt (Nat.ne_of_gt c)).2 h;omega
 unfold Format.nearest;have g:n*2 ^ a≠0:=Nat.ne_of_gt (Nat.mul_pos c (Nat.two_pow_pos a));rw[if_neg g,log2_mul_pow n a c,fb,lp];have e:max (-(a:Int)+((n.log2+a:Nat):Int)-((52:Nat):Int)) (-1074)=(n.log2:Int)-52:=om;rw[e];have i:Toward.even.cut false ((n*2 ^ a) <<< ((-(a:Int))-((n.log2:Int)-52)).toNat) (((n.log2:Int)-52)-(-(a:Int))).toNat=n*2 ^ (52-n.log2):=by
  by_cases o:a+n.log2<=52;·have b:((-(a:Int))-((n.log2:Int)-52)).toNat=52-n.log2-a:=om;have d:(((n.log2:Int)-52)-(-(a:Int))).toNat=0:=om;rw[b,d,shl_mul,Nat.mul_assoc,<-Nat.pow_add,show a+(52-n.log2-a)=52-n.log2 by omega];have:=cut_exact false .even (n*2 ^ (52-n.log2)) 0;simpa using this
  ·have b:((-(a:Int))-((n.log2:Int)-52)).toNat=0:=om;have d:(((n.log2:Int)-52)-(-(a:Int))).toNat=a+n.log2-52:=om;rw[b,d,shl_mul,Nat.pow_zero,Nat.mul_one];have f:n*2 ^ a=(n*2 ^ (52-n.log2))*2 ^ (a+n.log2-52):=by rw[Nat.mul_assoc,<-Nat.pow_add,show 52-n.log2+(a+n.log2-52)=a by omega]
   rw[f];exact cut_exact false .even _ _
 dsimp only
 rw[i];have j:((n.log2:Int)-52 - -1074).toNat=1022+n.log2:=om;have l:n*2 ^ (52-n.log2)<2 ^ 53:=by exact Kt
 rw[j,bn,ir];unfold Format.word;rw[if_neg Is,Nat.min_eq_left];have:(2:Nat) ^ 53=2*2 ^ 52:=by decide
 generalize (2:Nat) ^ 52=B at *;have m:(1022+n.log2)*B<=1074*B:=Nat.mul_le_mul_right _ om;omega
theorem N_zero:N 0=0:=by unfold N Format.write Format.nearest Format.word;rfl
theorem N_pos (n:Nat) (b:0<n) (h:n<9007199254740992):N n=(1022+n.log2)*2 ^ 52+n*2 ^ (52-n.log2):=by have:=nearest_whole n 0 b h;unfold N Format.write;simpa using this
def Rep (c:Datum) (n:Nat):Prop:=∃b:Nat,b<=1074/\c=.number false (n*2 ^ b) (-(b:Int))
theorem read_N (n:Nat) (h:n<9007199254740992):Rep (double.read (N n)) n:=by
 by_cases d:n=0;·subst d;rw[N_zero];obtain⟨g,v⟩:∃g:Nat,g=1074:=⟨_,rfl⟩;refine⟨g,by omega,?_⟩;rw[Nat.zero_mul,v];rfl
 ·have d:=Nat.pos_of_ne_zero d;have p:n.log2<=52:=by
   have:n.log2<53:=(Nat.log2_lt (Nat.ne_of_gt d)).2 h;omega
  have k:2 ^ 52<=n*2 ^ (52-n.log2):=by have ag:=Nat.mul_le_mul_right (2 ^ (52-n.log2)) (Nat.log2_self_le (Nat.ne_of_gt d));rwa [<-Nat.pow_add,show n.log2+(52-n.log2)=52 by omega]at ag
  have f:n*2 ^ (52-n.log2)<2 ^ 53:=by exact Kt
  refine⟨52-n.log2,by omega,?_⟩;rw[N_pos n d h];unfold Format.read;rw[sw,bn,ir,lp,two52]at *;have t:(2:Nat) ^ 53=9007199254740992:=by decide
  rw[t]at f;obtain⟨c,j⟩:=xg (n*2 ^ (52-n.log2));obtain⟨e,i⟩:=xg n.log2;rw[j]at k f ⊢;rw[i]at p ⊢;clear j i;obtain⟨b,l⟩:=xg ((1022+e)*4503599627370496+c);rw[l];have y:b/(2048*4503599627370496)%2=0:=om;have z:b%(2048*4503599627370496)=b:=om;have r:b%4503599627370496=c-4503599627370496:=om;have u:b/4503599627370496=1023+e:=om;have s:¬b<4503599627370496:=om;have x:b<2047*4503599627370496:=om;have o:4503599627370496+(c-4503599627370496)=c:=om;have m:(-1074:Int)+((1023+e-1:Nat):Int) = -((52-e:Nat):Int):=om;clear l k f;simp only[y,z];rw[if_neg s,if_pos x,r,u,o,m];rfl
def sc:Datum->Option Int
 | .number s m p=>some (Ieee.signed s m (p+1074).toNat)
 | _=>none
def Fine:Datum->Prop
 | .number _ _ p => -1074<=p
 | _=>True
theorem read_fine (b:Nat):Fine (double.read b):=by
 unfold Format.read;rw[lp]
 dsimp only
 split;·exact Int.le_refl _
 ·split;·show -1074<=_;omega
  ·split <;> exact True.intro
theorem signed_scale (b:Bool) (c d e:Nat):Ieee.signed b c (d+e)=Ieee.signed b c d*((2 ^ e:Nat):Int):=by
 unfold Ieee.signed;rw[shl_mul,shl_mul,Nat.pow_add,<-Nat.mul_assoc];cases b;·simp
 ·simp[Int.neg_mul]
theorem compare_scale (a b:Int) (d:Nat):compare (a*((2 ^ d:Nat):Int)) (b*((2 ^ d:Nat):Int))=compare a b:=by
 have h:(0:Int)<((2 ^ d:Nat):Int):=oo (Nat.two_pow_pos d);generalize ((2 ^ d:Nat):Int)=K at *;rcases Int.lt_trichotomy a b with c | c | c;·have:a*K<b*K:=Int.mul_lt_mul_of_pos_right c h;show compareOfLessAndEq _ _=compareOfLessAndEq _ _;simp[compareOfLessAndEq,this,c]
 ·rw[c];simp
 ·have j:b*K<a*K:=Int.mul_lt_mul_of_pos_right c h;show compareOfLessAndEq _ _=compareOfLessAndEq _ _;have e:¬a*K<b*K:=om;have i:a*K≠b*K:=om;have f:¬a<b:=om;have g:a≠b:=om;simp[compareOfLessAndEq,e,i,f,g]
theorem order_sc {a d:Datum} {i g:Int} (e:sc a=some i) (f:sc d=some g) (j:Fine a) (fb:Fine d):a.order d=some (compare i g):=by
 cases a with
 | number l o b =>
  cases d with
  | number m n c=>simp only[sc,Option.some.injEq]at e f;subst e;subst f;show some (compare (Ieee.signed l o (b-min b c).toNat) (Ieee.signed m n (c-min b c).toNat))=_;have s:-1074<=b:=j;have r:-1074<=c:=fb;have k:(b+1074).toNat=(b-min b c).toNat+(min b c+1074).toNat:=om;have p:(c+1074).toNat=(c-min b c).toNat+(min b c+1074).toNat:=om;rw[k,p,signed_scale,signed_scale,compare_scale]
  | _=>simp[sc]at f
 | _=>simp[sc]at e
def U:Int:=((2 ^ 1074:Nat):Int)
theorem U_pos:0<U:=by have:=Nat.two_pow_pos 1074;unfold U;omega
theorem sc_rep {c:Datum} {n:Nat} (h:Rep c n):sc c=some ((n:Int)*U)/\Fine c:=by
 obtain⟨b,e,rfl⟩:=h;refine⟨?_,?_⟩;·have d:(-(b:Int)+1074).toNat=1074-b:=om;show some (Ieee.signed false (n*2 ^ b) (-(b:Int)+1074).toNat)=_;rw[d];unfold Ieee.signed U;rw[if_neg Is,shl_mul,Nat.mul_assoc,<-Nat.pow_add,show b+(1074-b)=1074 by omega,Int.natCast_mul]
 ·show -1074 <= -(b:Int);omega
theorem compare_U (a b:Int):compare (a*U) (b*U)=compare a b:=compare_scale a b 1074
theorem order_rep {a b:Datum} {n c:Nat} (e:Rep a n) (g:Rep b c):a.order b=some (compare (n:Int) c):=by obtain⟨d,i⟩:=sc_rep e;obtain⟨f,j⟩:=sc_rep g;rw[order_sc d f i j,compare_U]
theorem order_N (n b:Nat) (d:n<9007199254740992) (c:b<9007199254740992):double.order (N n) (N b)=some (compare (n:Int) b):=order_rep (read_N n d) (read_N b c)
theorem toInt_rep {c:Datum} {n:Nat} (h:Rep c n):c.toInt .zero=some (n:Int):=by obtain⟨b,f,rfl⟩:=h;unfold Datum.toInt Datum.integral;have d:(-(b:Int)).toNat=0:=om;have e:(-(-(b:Int))).toNat=b:=om;simp only[d,e];rw[shl_mul,Nat.pow_zero,Nat.mul_one,cut_exact];simp[Ieee.signed]
theorem cut_zero (c:Bool) (n b:Nat):Toward.zero.cut c n b=n/2 ^ b:=by
 unfold Toward.cut;simp only[Nat.one_shiftLeft,Bool.toNat_false,Nat.add_zero];by_cases h:b<=n.log2+2;·rw[Nat.min_eq_left h]
 ·rw[Nat.min_eq_right om];have e:=@Nat.lt_log2_self n;have d:2 ^ (n.log2+1)<=2 ^ (n.log2+2):=Nat.pow_le_pow_right om om;have f:2 ^ (n.log2+1)<=2 ^ b:=Nat.pow_le_pow_right om om;rw[Nat.div_eq_of_lt om,Nat.div_eq_of_lt om]
def trunc (b:Nat):Nat:=double.write ((double.read b).integral .zero)
def part (b:Nat):Option Nat :=
 match (double.read b).toInt .zero with
 | some n=>if 0<=n/\n<=1000000000000000/\double.order b (N n.toNat)=some .eq then some n.toNat else none
 | none=>none
theorem cmp_eq {a c:Int} (h:compare a c=.eq):a=c:=by
 have b:compareOfLessAndEq a c=.eq:=h;unfold compareOfLessAndEq at b;split at b;·cases b
 ·split at b;·assumption
  ·cases b
theorem cmp_self (a:Int):compare a a=.eq:=by show compareOfLessAndEq a a=.eq;simp[compareOfLessAndEq]
theorem cmp_le {a b:Int} (h:compare a b=.lt\/compare a b=.eq):a<=b:=by
 rcases Int.lt_trichotomy a b with c | c | c;·omega
 ·omega
 ·have:compare a b=.gt:=by
   show compareOfLessAndEq a b=.gt;unfold compareOfLessAndEq;rw[if_neg om,if_neg om]
  rw[this]at h;simp at h
theorem cmp_ge {a b:Int} (h:compare a b=.gt\/compare a b=.eq):b<=a:=by
 rcases Int.lt_trichotomy a b with c | c | c
 ·have:compare a b=.lt:=by
   show compareOfLessAndEq a b=.lt;unfold compareOfLessAndEq;rw[if_pos c]
  rw[this]at h;simp at h
 ·omega
 ·omega
theorem le_cancel (a c b:Nat) (h:a*2 ^ b<=c*2 ^ b):a<=c:=Nat.le_of_mul_le_mul_right h (Nat.two_pow_pos b)
theorem trunc_of (c:Nat) (f:double.order c (N 0)=some .gt\/double.order c (N 0)=some .eq) (g:double.order c (N 1000000000000000)=some .lt\/double.order c (N 1000000000000000)=some .eq) :
 ∃(y:Int) (n:Nat),sc (double.read c)=some y/\n<=1000000000000000/\(double.read c).toInt .zero=some (n:Int)/\sc (double.read (trunc c))=some (n*U):=by
 have r:=read_N 0 om;have p:=read_N 1000000000000000 om;have j:=read_fine c;unfold trunc;unfold Format.order at f g;obtain⟨l,u⟩:=xg (double.read c);rw[u]at f g j ⊢;cases l with
 | nan e O=>simp[Datum.order]at f
 | infinity e=>obtain⟨K,_,x⟩:=r;obtain⟨q,_,D⟩:=p;rw[x]at f;rw[D]at g;cases e <;> simp[Datum.order]at f g
 | number e i b =>
  obtain⟨B,z⟩:=sc_rep r;obtain⟨C,v⟩:=sc_rep p;have t:sc (.number e i b)=some (Ieee.signed e i (b+1074).toNat):=rfl;rw[order_sc t B j z]at f;rw[order_sc t C j v]at g;simp only[Option.some.injEq]at f g;have s:=cmp_ge f;have d:=cmp_le g;have M:-1074<=b:=j;have m:e=true->i=0:=by
   intro F;subst F;unfold Ieee.signed at s;rw[if_pos rfl,shl_mul]at s;have E:=Nat.two_pow_pos (b+1074).toNat;rcases Nat.eq_zero_or_pos i with h | h;·exact h
   ·have:=Nat.mul_pos h E;generalize i*2 ^ (b+1074).toNat=A at *;omega
  have J:(i <<< b.toNat)/2 ^ (-b).toNat<=1000000000000000:=by
   cases e with
   | true=>rw[m rfl,shl_mul,Nat.zero_mul,Nat.zero_div];omega
   | false =>
    unfold Ieee.signed U at d;rw[if_neg (by simp),shl_mul]at d;rw[<-Int.natCast_mul]at d;have d:=Int.ofNat_le.1 d;rw[shl_mul];by_cases L:0<=b;·have o:(-b).toNat=0:=om;have k:(b+1074).toNat=b.toNat+1074:=om;rw[k,Nat.pow_add,<-Nat.mul_assoc]at d;rw[o,Nat.pow_zero,Nat.div_one];exact le_cancel _ _ 1074 d
    ·have o:b.toNat=0:=om;have G:(1074:Nat)=(-b).toNat+(b+1074).toNat:=om;have H:1000000000000000*2 ^ 1074=1000000000000000*2 ^ (-b).toNat*2 ^ (b+1074).toNat:=by rw[Nat.mul_assoc,<-Nat.pow_add,<-G]
     rw[H]at d;have P:=Nat.le_of_mul_le_mul_right d (Nat.two_pow_pos _);rw[o,Nat.pow_zero,Nat.mul_one];exact(Nat.div_le_iff_le_mul_add_pred (Nat.two_pow_pos _)).2 (by rw[Nat.mul_comm];omega)
  refine⟨_,(i <<< b.toNat)/2 ^ (-b).toNat,rfl,J,?_,?_⟩
  ·unfold Datum.toInt Datum.integral;simp only[cut_zero];cases e with
   | true=>rw[m rfl,shl_mul,Nat.zero_mul,Nat.zero_div];simp[Ieee.signed]
   | false=>simp[Ieee.signed]
  ·unfold Datum.integral;simp only[cut_zero];cases e with
   | true =>
    rw[m rfl,shl_mul,Nat.zero_mul,Nat.zero_div];have I:double.write (.number true 0 0)=9223372036854775808:=by unfold Format.write Format.nearest Format.word;rfl
    rw[I,Int.natCast_zero,Int.zero_mul];have k:double.read 9223372036854775808=.number true 0 (-1074):=by rfl
    rw[k];rfl
   | false=>exact(sc_rep (read_N _ om)).1
theorem order_of_sc {a b:Nat} {d c:Int} (e:sc (double.read a)=some d) (f:sc (double.read b)=some c):double.order a b=some (compare d c) :=
 order_sc e f (read_fine a) (read_fine b)
theorem sc_N (n:Nat) (h:n<9007199254740992):sc (double.read (N n))=some (n*U):=(sc_rep (read_N n h)).1
theorem part_some {b n:Nat} (h:part b=some n):n<=1000000000000000/\(double.read b).toInt .zero=some (n:Int)/\sc (double.read b)=some (n*U)/\double.order b (trunc b)=some .eq:=by
 unfold part at h;split at h
 ·rename_i i c;split at h
  ·rename_i A;obtain⟨E,F,e⟩:=A;simp only[Option.some.injEq]at h;have t:i=(n:Int):=om;subst t;have v:n<=1000000000000000:=om;rw[show((n:Int)).toNat=n by omega]at e;have u:∃g,sc (double.read b)=some g:=by
    cases f:double.read b with
    | number k i H=>exact⟨_,rfl⟩
    | infinity k=>rw[f]at c;simp[Datum.toInt,Datum.integral]at c
    | nan k G=>rw[f]at c;simp[Datum.toInt,Datum.integral]at c
   obtain⟨g,d⟩:=u;have z:=sc_N n om;have o:=order_of_sc d z;rw[o]at e;have s:=cmp_eq (Option.some.inj e);subst s;refine⟨v,c,d,?_⟩;have g0:=order_of_sc d (sc_N 0 om);have l:=order_of_sc d (sc_N 1000000000000000 om);rw[compare_U]at g0 l;have r:double.order b (N 0)=some .gt\/double.order b (N 0)=some .eq:=by
    rw[g0];rcases Nat.eq_zero_or_pos n with h | h;·subst h;exact Or.inr (by rw[cmp_self])
    ·refine Or.inl ?_;refine congrArg some (?_:compareOfLessAndEq _ _=_);unfold compareOfLessAndEq;rw[if_neg om,if_neg om]
   have y:double.order b (N 1000000000000000)=some .lt\/double.order b (N 1000000000000000)=some .eq:=by
    rw[l];by_cases h:n=1000000000000000;·subst h;exact Or.inr (by rw[cmp_self])
    ·refine Or.inl ?_;refine congrArg some (?_:compareOfLessAndEq _ _=_);unfold compareOfLessAndEq;rw[if_pos om]
   obtain⟨B,m,D,C,j,p⟩:=trunc_of b r y;rw[c]at j;have x:m=n:=oo (Option.some.inj j);subst x;rw[order_of_sc d p,cmp_self]
  ·cases h
 ·cases h
theorem part_order {c n:Nat} (h:part c=some n) (b:Nat) (d:b<9007199254740992):double.order c (N b)=some (compare (n:Int) b)/\double.order (N b) c=some (compare (b:Int) n):=by obtain⟨_,_,e,_⟩:=part_some h;rw[order_of_sc e (sc_N b d),order_of_sc (sc_N b d) e,compare_U,compare_U];exact⟨rfl,rfl⟩
theorem part_none {b:Nat} (h:part b=none) (k:double.order b (N 0)=some .gt\/double.order b (N 0)=some .eq) (j:double.order b (N 1000000000000000)=some .lt\/double.order b (N 1000000000000000)=some .eq) :
 double.order b (trunc b)≠some .eq/\∃n:Nat,n<=1000000000000000/\(double.read b).toInt .zero=some (n:Int)/\double.order (N n) b≠some .eq:=by
 obtain⟨l,n,d,o,g,m⟩:=trunc_of b k j;have e:l≠n*U:=by
  intro c;subst c;have i:=order_of_sc d (sc_N n om);rw[cmp_self]at i;have f:part b=some n:=by
   unfold part;rw[g]
   dsimp only
   rw[show((n:Int)).toNat=n by omega,if_pos ⟨by omega,by omega,i⟩]
  rw[h]at f;cases f
 refine⟨?_,n,o,g,?_⟩;·rw[order_of_sc d m];intro c;exact e (cmp_eq (Option.some.inj c))
 ·rw[order_of_sc (sc_N n om) d];intro c;exact e (cmp_eq (Option.some.inj c)).symm
theorem part_N (n:Nat) (h:n<=1000000000000000):part (N n)=some n:=by
 unfold part;rw[toInt_rep (read_N n om)];have b:=order_N n n om om;rw[cmp_self]at b
 dsimp only
 rw[show((n:Int)).toNat=n by omega,if_pos ⟨by omega,by omega,b⟩]
end FlM
end
theorem I7 (h:q:=by go_wp2_with fail;refine(CF vp.o _).mono ?_;rintro _ a7 ⟨rfl,rfl⟩;go_wp2;go_ret;exact⟨rfl,vq.o⟩):q:=h
section
open Go.RowKit FlM
theorem H0 {c:Program} {a:Addr} {b:Mode} (f:FloatKind) (e d:Nat):(store a (.complex f e d) b).run c w=stored c w a (.complex f e d) b:=run_store c w a _ b rfl
theorem Hr {c:Program} {a:Addr} {b:Mode} (e:FloatKind) (d:Nat):(store a (.float e d) b).run c w=stored c w a (.float e d) b:=run_store c w a _ b rfl
attribute [local go_sem] H0 Hr
theorem Mr (a:Nat):floatOfInt .f64 (a:Int)=FlM.N a:=by
 show FloatKind.f64.encode (.number (decide ((a:Int)<0)) ((a:Int)).natAbs 0)=_;have b:decide ((a:Int)<0)=false:=by simp
 rw[b,Int.natAbs_natCast];rfl
def r2 (w:World) (g:Value) (a:List (Int×Nat×Nat)):Prop :=
 ∃d c,g=.slice d a.length c/\a.length<=c/\(c<=maxLen/\(d=none->c=0)) /\
  (a≠[]->∃e f,d=some (Ad e f)/\∀b,b<a.length->w.cell? (Ad e (f+b*2))=some (iV (a.getD b (0,0,0)).1)/\w.cell? (Ad e (f+b*2+1))=some (.complex .f64 (a.getD b (0,0,0)).2.1 (a.getD b (0,0,0)).2.2))
theorem r2.B (h:r2 w v H) (au:BW w W):r2 W v H:=by exact OU
theorem r2.get {f:Option Addr} (h:r2 w (.slice f n m) H) (c:i<H.length) :
 ∃b a d e g,f=some (Ad b a)/\w.cell? (Ad b (a+i*2))=some (iV d)/\w.cell? (Ad b (a+i*2+1))=some (.complex .f64 e g)/\Hd (H.getD i (0,0,0)=(d,e,g)):=by
 obtain⟨s,p,l,r,o,k⟩:=h;cases l;obtain⟨b,a,rfl,j⟩:=k (by intro h;rw[h]at c;simp at c);exact⟨b,a,_,_,_,rfl,(j i c).1,(j i c).2,rfl⟩
theorem r2.lit (w:World) (e:TypeId) (c:List (Int×Nat×Nat)) (d:Nat) (m:c.length=d) (f:Array Value) (l:f=(c.flatMap fun a=>[iV a.1,Value.complex .f64 a.2.1 a.2.2]).toArray) (j:d<=maxLen) :
 r2 (w.alloc (.cells f e)) (sL w.heap.size 0 d d) c:=by
 subst l;subst m;have g:hA (w.alloc (.cells (c.flatMap fun a=>[iV a.1,Value.complex .f64 a.2.1 a.2.2]).toArray e)) w.heap.size e (c.flatMap fun a=>[iV a.1,Value.complex .f64 a.2.1 a.2.2]):=heap_alloc_new w _;refine⟨_,_,rfl,nr _,⟨j,fun h=>by cases h⟩,fun _=>⟨w.heap.size,0,rfl,fun b aA=>?_⟩⟩;have i:∀(c:List (Int×Nat×Nat)) (b:Nat),b<c.length->(c.flatMap fun a=>[iV a.1,Value.complex .f64 a.2.1 a.2.2])[b*2]?=some (iV (c.getD b (0,0,0)).1)/\(c.flatMap fun a=>[iV a.1,Value.complex .f64 a.2.1 a.2.2])[b*2+1]?=some (.complex .f64 (c.getD b (0,0,0)).2.1 (c.getD b (0,0,0)).2.2):=by
  intro c;induction c with
  | nil=>intro b aA;simp at aA
  | cons a c k =>
   intro b aA;cases b with
   | zero=>simp
   | succ b=>have:=k b MV;rw[show(b+1)*2=b*2+1+1 by omega];simpa using this
 rw[g.cell,g.cell,show 0+b*2=b*2 by omega];exact i c b aA
def vc (b:List (Int×Nat×Nat)):List (Int×Nat×Nat):=b.map fun a=>(a.1,FlM.N a.2.1,FlM.N a.2.2)
def tot (c:Int->Bool) (a b:Nat):List (Int×Nat×Nat)->Option (Nat×Nat)
 | []=>some (a,b)
 | p::l=>if (if c p.1 then a+p.2.1 else a)<=1000000000000000/\(if c p.1 then b+p.2.2 else b)<=1000000000000000 then tot c (if c p.1 then a+p.2.1 else a) (if c p.1 then b+p.2.2 else b) l else none
def Bn (b:List (Int×Nat×Nat)):Prop:=∀a∈b,a.2.1<=1000000000000000/\a.2.2<=1000000000000000
theorem Ld (h:(vc H).getD n (0,0,0)=(c,m,k)) (e:n<H.length) (f:Bn H) :
 ∃a b,FlM.N a=m/\FlM.N b=k/\(a<=1000000000000000/\b<=1000000000000000)/\H.getD n (0,0,0)=(c,a,b):=by
 have l:(vc H).getD n (0,0,0)=((H.getD n (0,0,0)).1,FlM.N (H.getD n (0,0,0)).2.1,FlM.N (H.getD n (0,0,0)).2.2):=by simp[vc,List.getD,e]
 rw[l]at h;injection h with i d;injection d with d j;have g:H.getD n (0,0,0)∈H:=by simp[List.getD,e]
 exact⟨_,_,d,j,f _ g,by rw[<-i]⟩
end
theorem Jk:(prog.info? 170).map (fun a=>(a.zero,a.size,a.bytes))=some (some (.agg #[iZ,.complex .f64 0 0]),2,24):=by kernel_rfl
def q7 (b:List (Int×Nat×Nat)):List Value:=b.flatMap fun a=>[iV a.1,Value.complex .f64 a.2.1 a.2.2]
theorem Em (a b:List (Int×Nat×Nat)):q7 (a++b)=q7 a++q7 b:=by simp[q7]
theorem FC (a:List (Int×Nat×Nat)):(q7 a).length=a.length*2:=by
 induction a with
 | nil=>rfl
 | cons b a d=>have c:q7 (b::a)=iV b.1::Value.complex .f64 b.2.1 b.2.2::q7 a:=rfl;rw[c];simp only[List.length_cons,d];omega
theorem Qi (b:List (Int×Nat×Nat)) (a:Nat) (aA:a<b.length):(q7 b)[a*2]?=some (iV (b.getD a (0,0,0)).1)/\(q7 b)[a*2+1]?=some (.complex .f64 (b.getD a (0,0,0)).2.1 (b.getD a (0,0,0)).2.2):=by
 induction b generalizing a with
 | nil=>simp at aA
 | cons c b d =>
  have e:q7 (c::b)=iV c.1::Value.complex .f64 c.2.1 c.2.2::q7 b:=rfl;rw[e];cases a with
  | zero=>simp
  | succ a=>have h:=d a MV;rw[show(a+1)*2=a*2+1+1 by omega];simpa using h
theorem r2.of_blk {cur:List Value} (h:hA w n e cur) (p:H.length=k) (i:k<=m) (g:m<=maxLen) (o:cur.take (k*2)=q7 H):r2 w (sL n 0 k m) H:=by
 subst p;refine⟨_,_,rfl,i,⟨g,fun h=>by cases h⟩,fun _=>⟨n,0,rfl,fun b l=>?_⟩⟩;obtain⟨j,f⟩:=Qi H b l;have c:∀a,a<H.length*2->cur[a]?=(q7 H)[a]?:=fun a d=>by rw[<-o];simp[d]
 rw[h.cell,h.cell];refine⟨?_,?_⟩;·rw[Nat.zero_add,c _ om];exact j
 ·rw[show 0+b*2+1=b*2+1 by omega,c _ om];exact f
theorem r2.of_own (h:w.ownsRow n e 2 v m (q7 H)) (g:H.length=m):r2 w v H:=by
 rcases h.2 with⟨rfl,k⟩ | ⟨i,j,a,rfl,l,f,c,b,o,d⟩;·obtain rfl:H=[]:=List.eq_nil_of_length_eq_zero om;exact Sy
 ·exact r2.of_blk (cur:=a.toList) (by simpa[hA] using f) g c b (ss d)
theorem r2.news {f:Option Addr} (h:r2 w (.slice f n m) H):∀d,f=some d->∀a e,(q7 H)[a]?=some e->w.cell? (d.add a)=some e:=by
 intro d r a e c;have p:a<H.length*2:=by have:=(List.getElem?_eq_some_iff.1 c).1;rwa [FC]at this
 obtain⟨A,u,b,x,t,o⟩:=h;cases b;obtain⟨z,v,rfl,s⟩:=o (by intro b;subst b;simp at p);obtain rfl:=Option.some.inj r;have g:a/2<H.length:=om;obtain⟨j,k⟩:=s (a/2) g;obtain⟨l,i⟩:=Qi H (a/2) g;rw[Addr.add_lit];by_cases y:a%2=0;·have b:a=a/2*2:=om;rw[b]at c ⊢;rw[j,<-l,<-c]
 ·have b:a=a/2*2+1:=om;rw[b]at c ⊢;rw[<-Nat.add_assoc,k,<-i,<-c]
theorem r2.len {a:Option Addr} (h:r2 w (.slice a n m) H):n=H.length/\n<=m/\m<=maxLen/\(a=none->n=0/\m=0):=by obtain⟨e,f,d,c,b,g⟩:=h;cases d;exact⟨rfl,c,b.1,fun h=>oo (b.2 h)⟩
theorem GT (d:List (Int×Nat×Nat)):∀c∈q7 d,c.oneCell'=true:=by intro c a;unfold q7 at a;simp only[List.mem_flatMap]at a;obtain⟨e,_,b⟩:=a;simp at b;rcases b with rfl | rfl <;> rfl
theorem hA.belowB (h:hA w m e C) (b:Below n w W) (a:m<n):hA W m e C:=(b.block m a).trans h
theorem K9 (h:w.ownsRow n e m v k C) (au:BW w W):W.ownsRow n e m v k C:=by exact Qs
theorem Ij (h:BW w W) (a:n<=w.heap.size):Below n w W:=h.mono a
theorem U4 (a:Int) (w):Calls prog 46 #[iV a] w (h3 (.bool (hO a)) w):=by
 by_cases c:0<=a
 ·by_cases b:a<=1000000000000000;·go_enter func46,ntmps46;go_wp2;go_ret;simp[h3,hO,c,b]
  ·go_enter func46,ntmps46;go_wp2;go_ret;simp[h3,hO,b]
 ·go_enter func46,ntmps46;go_wp2;go_ret;simp[h3,hO];omega
theorem CF (h:hO c=D) (w):Calls prog 46 #[iV c] w (h3 (.bool D) w):=by rw[<-h];exact U4 c w
def h1 (a:List Int):Nat->Int
 | 0=>0
 | k+1=>h1 a k+a.getD k 0
theorem Ug (c:Nat) (n:c<=r.length) (h:∀j,j<r.length->hO (r.getD j 0)=true) (m:hO (h1 r r.length)=true):0<=h1 r c/\h1 r c<=h1 r r.length/\q5 (h1 r c) (r.drop c)=some (h1 r r.length):=by
 have i:∀b a,a+b=r.length->h1 r a<=h1 r r.length:=by
  intro b;induction b with
  | zero=>intro a e;have:a=r.length:=om;rw[this];exact Int.le_refl _
  | succ b d=>intro a e;have f:=d (a+1) om;have g:=AZ.1 (h a om);simp only[h1]at f;omega
 have k:∀a,a<=r.length->0<=h1 r a:=by
  intro a;induction a with
  | zero=>intro _;exact Int.le_refl _
  | succ a d=>intro e;have f:=d om;have g:=AZ.1 (h a om);simp only[h1];omega
 refine⟨k c n,i (r.length-c) c om,?_⟩;have l:∀b a,a+b=r.length->q5 (h1 r a) (r.drop a)=some (h1 r r.length):=by
  intro b;induction b with
  | zero=>intro a e;have:a=r.length:=om;rw[this,List.drop_of_length_le (nr _)];rfl
  | succ b d=>intro a e;have p:=AZ.1 m;have f:=k (a+1) om;have g:=i b (a+1) om;rw[QZ om,if_pos ⟨h a om,AZ.2 ⟨by simpa[h1] using f,by have o:h1 r a+r.getD a 0<=h1 r r.length:=g;omega⟩⟩];exact d (a+1) om
 exact l (r.length-c) c om
def DH (a:List Int) (b c:Int):Bool:=(decide (1<=a.length) && decide (a.length<=8) && hO b && hO c) && (List.range a.length).all (fun d=>hO (a.getD d 0)) && (hO (h1 a a.length) && (b == 0 || h1 a a.length == 0))
theorem OY (bs:List Int) (j g:Int):DH bs j g=hW bs j g:=by
 unfold DH;cases d:(List.range bs.length).all (fun a=>hO (bs.getD a 0)) with
 | false =>
  have b:q5 0 bs=none:=by
   cases b:q5 0 bs with
   | none=>rfl
   | some k =>
    have:(List.range bs.length).all (fun a=>hO (bs.getD a 0))=true:=by rw[List.all_eq_true];intro a e;exact AZ.2 (Ih b a (ss e))
    rw[this]at d;cases d
  unfold hW;rw[b];simp
 | true =>
  rw[List.all_eq_true]at d;have h:∀a,a<bs.length->hO (bs.getD a 0)=true:=fun a e=>d a (ss e);cases c:hO (h1 bs bs.length) with
  | true=>have:=(Ug 0 (Nat.zero_le _) h c).2.2;simp only[h1,List.drop_zero]at this;unfold hW;rw[this];simp
  | false =>
   have b:q5 0 bs=none:=by
    cases b:q5 0 bs with
    | none=>rfl
    | some k =>
     exfalso;have o:=Py b;have m:∀n,n<=bs.length->h1 bs n=(bs.take n).sum:=by
      intro n;induction n with
      | zero=>intro _;simp[h1]
      | succ n ni=>intro p;exact EQ
     have f:=m bs.length (nr _);rw[List.take_length]at f;by_cases i:bs=[];·subst i;simp[h1]at c;exact absurd c Iv
     ·have l:=JO om b;have:hO (h1 bs bs.length)=true:=AZ.2 ⟨by rw[f];omega,by have:=l.2.2 i;rw[f];omega⟩;rw[this]at c;cases c
   unfold hW;rw[b];simp
theorem By (v) (bs:List Int) (c aa:Int) (b:Bool) (g:Hd (hW bs c aa=b)) (w) (C:Sl .i64 w v bs) :
 Calls prog 15 #[.agg #[v,iV c,iV aa]] w (RetB (.bool b) w):=by
 have D:=lh C;have d:Hd (DH bs c aa=b):=by show _=_;rw[OY];exact g.o
 clear g;obtain⟨aF,aC,rfl,W,⟨F,_⟩,P⟩:=C;clear P;unfold maxLen at F;refine OQ ?_;unhygienic intros
 have A:=lh (D.B bm);clear cK D;by_cases o:1<=bs.length
 ·by_cases u:bs.length<=8
  ·cases nU:hO c with
   | false =>
    obtain rfl:false=b:=by rw[<-d.o];unfold DH;rw[nU];simp
    refine Me ?_;unhygienic intros
    clear nU d;go_enter func15,ntmps15;go_wp2_with fail;refine(CF lS.o _).mono ?_;rintro _ a7 ⟨rfl,rfl⟩;go_wp2;go_ret;exact⟨rfl,bm⟩
   | true =>
    cases md:hO aa with
    | false =>
     obtain rfl:false=b:=by rw[<-d.o];unfold DH;rw[md];simp
     refine Me ?_;intro aM aP bA lS;have s:=lh md;clear nU md d;go_enter func15,ntmps15;go_wp2_with fail;refine(CF lS.o _).mono ?_;rintro _ a7 ⟨rfl,rfl⟩;go_wp2_with fail;refine(CF s.o _).mono ?_;rintro _ a7 ⟨rfl,rfl⟩;go_wp2;go_ret;exact⟨rfl,bm⟩
    | true =>
     have l:Hd (((List.range bs.length).all (fun a=>hO (bs.getD a 0)) && (hO (h1 bs bs.length) && (c == 0 || h1 bs bs.length == 0)))=b):=by show _=_;rw[<-d.o];unfold DH;rw[nU,md,decide_eq_true o,decide_eq_true u];simp
     refine Me ?_;intro aM aP bA lS;have s:=lh md;have O:=lh (An o u);clear nU md d o;go_enter func15,ntmps15;go_wp2_with fail;refine(CF lS.o _).mono ?_;rintro _ a7 ⟨rfl,rfl⟩;go_wp2_with fail;refine(CF s.o _).mono ?_;rintro _ a7 ⟨rfl,rfl⟩;go_wp2_with fail;obtain⟨e,y,S,ab,Z,vq,J⟩:∃e,(w.alloc (.cells #[.slice aF bs.length aC,iV c,iV aa] 35))=e/\e.cell? (Ad w.heap.size 0)=some (.slice aF bs.length aC)/\e.cell? (Ad w.heap.size 1)=some (iV c)/\e.cell? (Ad w.heap.size 2)=some (iV aa)/\Hd (BW w e)/\Hd (Sl .i64 e (.slice aF bs.length aC) bs):=⟨_,rfl,dN,jv,fK,bm,A⟩;with_reducible rw[y]
     clear y dN jv fK bm A aM aP bA;go_loopg [3,4] bs.length (fun t G i wr=>∃(k:Nat) (d':Int),k+t=bs.length/\i=iV k/\G=iV d'/\Hd (h1 bs k=d')/\Hd (0<=d'/\d'<=1000000000000000*k)/\Hd (∀a,a<k->hO (bs.getD a 0)=true)/\e=wr);case atStart=>exact⟨0,0,by omega,rfl,rfl,rfl,by show _/\_;omega,fun a n=>absurd n om,rfl⟩
     case round =>
      obtain⟨k,d',V,rfl,rfl,i5,z,j,rfl⟩:=hrel;cases gk with
      | zero =>
       have E:¬((k:Int)<bs.length):=om;have x:k=bs.length:=om;have B:(List.range bs.length).all (fun a=>hO (bs.getD a 0))=true:=by
        rw[List.all_eq_true];intro a n;exact j.o a (by
         have:a<bs.length:=ss n
         omega)
       have g:=l.o;rw[B,<-x,i5.o,Bool.true_and]at g;have m:=lh g;clear g B x l j i5;cases ms:hO d' with
       | false =>
        obtain rfl:false=b:=by rw[<-m.o,ms];rfl
        have vp:=lh ms;clear ms m;exact I7
       | true =>
        have h:=m.o;rw[ms,Bool.true_and]at h;have vp:=lh ms;clear ms m;rcases(show(c == 0)=true\/((c == 0)=false) by cases c == 0 <;> simp) with e0 | e0
        ·obtain rfl:true=b:=by rw[<-h,e0];rfl
         clear h;exact I7
        ·rw[e0,Bool.false_or]at h;have M:=lh h;clear h;go_wp2_with fail;refine(CF vp.o _).mono ?_;rintro _ a7 ⟨rfl,rfl⟩;go_wp2;go_ret;refine⟨?_,vq.o⟩;rw[<-M.o];rfl
      | succ t =>
       have E:(k:Int)<bs.length:=om;obtain⟨Y,T,aG,rfl,X,aV⟩:=J.get (i:=k) om;cases f:hO aG with
       | false =>
        obtain rfl:false=b:=by
         rw[<-l.o];have:(List.range bs.length).all (fun a=>hO (bs.getD a 0))=false:=by rw[List.all_eq_false];exact⟨k,by simp;omega,by rw[aV.o,f];simp⟩
         rw[this];rfl
        have r:=lh f;clear f l;go_wp2_with fail;refine(CF r.o _).mono ?_;rintro _ a7 ⟨rfl,rfl⟩;go_wp2;go_ret;exact⟨rfl,vq.o⟩
       | true =>
        have K:=AZ.1 f;have Q:=z.o;have I:k<8:=oo O.2;refine Pg ?_;unhygienic intros
        have H:Hd (∀a,a<k+1->hO (bs.getD a 0)=true):=fun a n=>by
         by_cases R:a=k;·subst R;rw[aV.o];exact f
         ·exact j.o a om
        have wS:wrap64 (d'+aG)=aw:=by rw[ck];exact wi _ ⟨by omega,by omega⟩
        have L:=lh wS;have r:=lh f;clear f K Q I ck wS j i5 z;go_wp2_with fail;refine(CF r.o _).mono ?_;rintro _ a7 ⟨rfl,rfl⟩;go_wp2;go_roundg t;case measure=>omega
        case rel=>exact⟨k+1,aw,by omega,by go_num,by first | rfl | exact congrArg (Value.int .i64) L.o,ce,kq,H,rfl⟩
  ·have aM:decide ((bs.length:Int)<1)=false:=by simp;omega
   have aP:decide ((8:Int)<(bs.length:Int))=true:=by simp;omega
   have bA:¬(bs.length:Int)<1:=om;obtain rfl:false=b:=by rw[<-d.o];unfold DH;rw[decide_eq_false u];simp
   clear d;go_enter func15,ntmps15;go_wp2;go_ret;exact⟨rfl,bm⟩
 ·have aM:decide ((bs.length:Int)<1)=true:=by simp;omega
  have bA:(bs.length:Int)<1:=om;obtain rfl:false=b:=by rw[<-d.o];unfold DH;rw[decide_eq_false o];rfl
  clear d;go_enter func15,ntmps15;go_wp2;go_ret;exact⟨rfl,bm⟩
theorem WX (h:q:=by
 subst I;have aX:(L.set k (L.getD k 0+(ak-min ak co))).getD k 0=L.getD k 0+(ak-min ak co):=by simp[List.getD,show k<L.length by omega]
 rw[aX];omega):q:=h
theorem Jx (h:q:=by have cP:=f6.o;refine MZ ?_;intro aR bg be gm cC dr;have ku:=cP.lt;clear cP;go_wp2;refine bodyPost_ret (v:=.tuple #[.agg #[sZ,iZ,iZ],iV 1]) Gx rfl ⟨sZ,rfl,⟨Sl.nil,x0⟩,p2 lX.o om _ _ _⟩):q:=h
theorem GS (h:q:=by
 with_reducible rw[aW]
 have gA:=yT.B tB.o;have cP:=qo.B tB.o;have cX:=lh (hJ tC.o tB.o);have yU:=lh gA;have yV:=lh cP;clear aW ft rF vr iy aI aN aL mx;rcases yW.o with⟨rfl,rfl⟩ | ⟨rfl,rfl,rfl,rfl,wQ⟩;·have aR:=cP.cell 0;obtain⟨bg,be,-⟩:=cP.cs [1,2];simp only[gz,gs]at aR bg be;obtain⟨gm,cC,dr,-⟩:=cP.fs [0,1,2];have ku:=cP.lt;clear cP gA;go_wp2;refine bodyPost_ret (v:=.tuple #[.agg #[sZ,iZ,iZ],iV 5]) Gx rfl ⟨sZ,rfl,⟨Sl.nil,x0⟩,p2 cX.o om _ _ _⟩
 ·have iK:=wR.o;obtain⟨yX,wT,wU,-⟩:=iK.cs [0,1,2];obtain⟨dN,jv,fK,-⟩:=gA.cs [0,1,2];simp only[gz,gs]at yX wT wU dN jv fK;obtain⟨gm,cC,dr,-⟩:=gA.fs [0,1,2];have yY:=lh wQ;clear cP iK gA wQ;go_wp2_with fail;go_roundg g;case measure=>omega
  case rel=>exact⟨da+1,_,by omega,by go_num,((yU.set 0 _).set 1 _).set 2 _,((wV.setCell (fun b ae n c I h=>(rH.o b ae n c I h).1) _).setCell (fun b ae n c I h=>(rH.o b ae n c I h).1) _).setCell (fun b ae n c I h=>(rH.o b ae n c I h).1) _,rH.o,yY.o,((yV.setOther om 0 _).setOther om 1 _).setOther om 2 _,p2 cX.o (nr _) _ _ _⟩):q:=h
theorem HB (d) (bs:List Int) (c aa:Int) (S:bs.length<=1000) (w:World) (m:Sl .i64 w d bs) :
 Calls prog 121 #[.agg #[d,iV c,iV aa]] w (F5 bs c aa w):=by
 have n:=lh m;obtain⟨aF,aC,rfl,R,⟨r,v⟩,E⟩:=m;clear E;unfold maxLen at r;refine T4 ?_;intro bJ;refine PC ?_;intro ct cj bi;refine SW ?_;intro fN;have I:=lh (n.B bi.o);have u:Hd (aF=none->bs.length=0/\aC=0):=n.none_cap;obtain⟨A,G,s,x,C⟩:=info_parts Ch;clear ct v;go_enter func121,ntmps121
 go_wp2_with (at_builtin;refine Ba _ rfl (.const (sZ)) (.tmp 4) 33 rfl (w.heap.size+2) 2 A (iZ) 1 8 underlying33 G s x C rfl (by decide) (sZ) 0 [] rfl (World.ownsRow_nil _ _ _ _) aF bs.length aC (bs.map (Value.int .i64)) rfl (by simp) u.o I.news (ints_oneCell _ _) (by unfold maxLen;omega) om (by rw[fN.o];exact nr _) ?_;intro o K g f t;clear t;have P:=lh f;have F:=lh g;have e:=lh (D0 f);have b:=cj.B e.o;have J:=b.cell 0;have z:=b.cell 1;have B:=b.cell 2;have M:=b.frozen 0;have a:=bJ.B e.o;have j:=a.cell 0;have i:=a.cell 1;have l:=a.cell 2;have g0:=a.frozen 0;have V:=a.frozen 1;have O:=a.frozen 2;simp only[gz,gs]at J z B j i l;obtain⟨H,bn,y,rfl⟩:∃aF D aC,o=.slice aF D aC:=(by rcases g.2 with⟨h,_⟩ | ⟨Q,L,T,h,_⟩;exact⟨_,_,_,h⟩;exact⟨_,_,_,h⟩);clear b a g f)
 have dl:=hJ bi.o e.o;refine bodyPost_ret (v:=.agg #[.slice H bn y,iV c,iV aa]) (by simp[results,results121,go_sem,j,i,l]) rfl ⟨_,rfl,?_,?_⟩;·have h:=F.o;rw[Nat.zero_add,List.nil_append]at h;exact yau (yau (yau (yau h om) om) om) om
 ·exact Q3
theorem jka (j) (bs:List Int) (c aa:Int) (i:Nat) (a d e eh aL:Int) (P:i<bs.length) (am:Hd (bs.getD i 0=d)) (ax:min c a=e) (B:d+a-e=eh) (K:c-e=aL) (ab:(0<=d/\d<=1000000000000000)/\(0<=c/\c<=1000000000000000)/\(0<=a/\a<=1000000000000000)) (v:Bool) (eC:Hd (hW (bs.set i eh) aL aa=v)) (o:List Int×Int×Int×Int) (O:Hd ((if v=true then (bs.set i eh,aL,aa,0) else ([],0,0,5))=o)) (aj:bs.length<=1000) (w) (S:Sl .i64 w j bs) :
 Calls prog 165 #[.agg #[j,iV c,iV aa],iV ((i:Int)+1),iV a] w (t4 o w):=by
 have T:=lh S;obtain⟨aF,aC,rfl,a2,⟨W,_⟩,ao⟩:=S;clear ao;unfold maxLen at W;refine T4 ?_;intro bJ;refine PC ?_;intro ct cj bi;refine SW ?_;intro fN;have ak:0<=e/\e<=1000000000000000/\e<=a:=om;have ad:Hd (wrap64 (c-e)=aL):=by show _=_;rw[K];exact wi _ ⟨by omega,by omega⟩
 have ar:Hd (IntKind.i64.wrap (d+a)=d+a):=IntWalk.i64_in _ ⟨by omega,by omega⟩;have al:Hd (IntKind.i64.wrap (d+a-e)=eh):=by show _=_;rw[B];exact IntWalk.i64_in _ ⟨by omega,by omega⟩
 have af:Hd (wrap64 (d+a)=d+a):=wi _ ⟨by omega,by omega⟩;have aw:Hd (wrap64 (d+a-e)=eh):=by show _=_;rw[B];exact wi _ ⟨by omega,by omega⟩
 have f:=lh (An P aj);have Y:Hd ((if a<c then a else c)=e):=by show _=_;split <;> omega
 clear ct ax B K ak P ab;go_enter func165,ntmps165;go_wp2_with fail;refine(HB _ bs c aa f.2 _ (T.B bi.o)).mono ?_;rintro _ bU ⟨a3,rfl,u,r⟩;rw[fN.o]at u;obtain⟨a7,bD,rfl,C,D,au⟩:=C7 u;obtain⟨aE,ae,ah,cV,nP,nQ,nR⟩:=au (oo f.1);subst ae;refine NZ ?_;unhygienic intros
 have a4:w.heap.size+2<=aE:=om;rw[aK]at C ⊢;have s:=cj.B r;obtain⟨ac,ag,av,-⟩:=s.fs [0,1,2];obtain⟨aI,aN,fG,-⟩:=s.cS [0,1,2];have F:=lh s;have y:=lh (bJ.B r);have H:=lh (hJ bi.o r);have a1:=nb.lt;have a9:=y.lt;clear s u r aK nP nQ nR ah cV bJ cj bi fN T;have a6:i<n:=o2 f.1 bd.o;have a8:i<bD:=om;have a5:(i:Int)<n:=om;have J:=ad.o;have Z:=Y.o;go_upto_region 4 with fail;simp only[J];clear J Z;obtain⟨b,G,A,l,I,M⟩:∃b,((((bU.setCell (Ad w.heap.size 0) (sL aE 0 n bD)).setCell (Ad w.heap.size 1) (iV c)).setCell (Ad w.heap.size 2) (iV aa)).setCell (Ad w.heap.size 1) (iV aL))=b/\hA b w.heap.size 35 [sL aE 0 n bD,iV aL,iV aa]/\hY b aE bD bs/\Hd (hA b (w.heap.size+1) 35 [sZ,iZ,iZ])/\Hd (BW w b):=by
  refine⟨_,rfl,?_,?_,?_,?_⟩;·exact(((F.set 0 _).set 1 _).set 2 _).set 1 _
  ·exact(((nb.setOther om 0 _).setOther om 1 _).setOther om 2 _).setOther om 1 _
  ·exact(((y.setOther om 0 _).setOther om 1 _).setOther om 2 _).setOther om 1 _
  ·exact(p2 H.o (nr _) _ _ _).setCell (nr _) _
 with_reducible rw[G]
 have aI:=A.cell 0;simp only[gz]at aI;have L:=l.cell (i:=i) (oo f.1);rw[am.o]at L;have an:=l.frozen i;have E:=lh A;have R:=lh l;have az:IntKind.i64.wrap (i:Int)=i:=IntWalk.i64_in _ ⟨by omega,o2 f.1 f.2⟩;have ai:wrap64 (i:Int)=i:=wi _ ⟨by omega,o2 f.1 f.2⟩;have V:=ar.o;have a0:=al.o;have X:=af.o;have ay:=aw.o;clear G F nb y H aN fG ac ag av A l;go_wp2_with fail
 go_region
 clear aI L an az ai V a0 X ay;have g:hA (b.setCell (Ad aE i) (iV eh)).drew w.heap.size 35 [sL aE 0 n bD,iV aL,iV aa]:=E.setOther om _ _;have m:hY (b.setCell (Ad aE i) (iV eh)).drew aE bD (bs.set i eh):=R.set i eh;have z:hA (b.setCell (Ad aE i) (iV eh)).drew (w.heap.size+1) 35 [sZ,iZ,iZ]:=I.o.setOther om _ _;have x:BW w (b.setCell (Ad aE i) (iV eh)).drew:=(M.o.setCell (show w.heap.size<=aE by omega) _).drew;obtain⟨Q,t⟩:=xg ((b.setCell (Ad aE i) (iV eh)).drew);rw[t]at g m z x;with_reducible rw[t]
 clear t E R I M;have fa:Hd ((bs.set i eh).length=n):=by show _=_;rw[List.length_set];exact bd.o
 obtain⟨aI,aN,fG,-⟩:=g.cS [0,1,2];have y4:=lh (m.sl fa.o C D);have y8:=lh m;have y6:=lh z;have y7:=lh g;have gM:=lh x;clear g m z x;go_wp2_with fail;cases v with
 | true =>
  obtain rfl:(bs.set i eh,aL,aa,0)=o:=O.o;refine T3 ?_;clear aI aN fG;unhygienic intros
  go_wp2;refine bodyPost_ret (v:=.tuple #[.agg #[sL aE 0 n bD,iV aL,iV aa],iZ]) (by simp[results,results165,go_sem,aR,bg,be]) rfl ⟨sL aE 0 n bD,rfl,⟨(((jb.setOther om 0 _).setOther om 1 _).setOther om 2 _).sl kt.o C D,DV fun _=>⟨rfl,by omega⟩⟩,p2 ja om _ _ _⟩
 | false=>obtain rfl:([],0,0,5)=o:=O.o;refine T3 ?_;clear aI aN fG;intro bG aR bg be bh aX bf aI aN fG ja jb kt ku;go_wp2;refine bodyPost_ret (v:=.tuple #[.agg #[sZ,iZ,iZ],iV 5]) (by simp[results,results165,go_sem,aR,bg,be]) rfl ⟨sZ,rfl,⟨Sl.nil,x0⟩,p2 ja om _ _ _⟩
def Bj (d:List Int) (b e:Int) (c:Nat) (a:Int):List Int×Int×Int×Int :=
 if hW (d.set c (d.getD c 0+(a-min a b))) (b-min a b) e=true then (d.set c (d.getD c 0+(a-min a b)),b-min a b,e,0) else ([],0,0,5)
theorem Pv (f) (b:List Int) (c e:Int) (d:Nat) (a:Int) (j:List Int×Int×Int×Int) (g:Hd (Bj b c e d a=j)) (i:d<b.length) (o:hW b c e=true) (k:0<=a/\a<=1000000000000000) (l:b.length<=1000) (w) (s:Sl .i64 w f b) :
 Calls prog 165 #[.agg #[f,iV c,iV e],iV ((d:Int)+1),iV a] w (t4 j w):=by
 have g:=g.o;subst g;obtain⟨t,p⟩:=A1 o;have n:=p d i;have r:min c a=min a c:=Int.min_comm _ _;have m:b.getD d 0+a-min a c=b.getD d 0+(a-min a c):=om;unfold Bj;exact jka f b c e d a _ _ _ _ i rfl r m rfl ⟨n,t,k⟩ _ rfl _ rfl l w s
theorem Yi {bs:List Int} (n:Nat) (a:n<=bs.length):h1 bs n=(bs.take n).sum:=by
 induction n with
 | zero=>simp[h1]
 | succ n ni=>exact EQ
theorem Ei:hW r c d=true↔(1<=r.length/\r.length<=8)/\(0<=c/\c<=1000000000000000)/\(0<=d/\d<=1000000000000000)/\(∀k,k<r.length->0<=r.getD k 0/\r.getD k 0<=1000000000000000)/\(0<=h1 r r.length/\h1 r r.length<=1000000000000000)/\(c=0\/h1 r r.length=0):=by
 rw[<-OY];unfold DH;simp only[ba,decide_eq_true_eq,AZ,Bool.or_eq_true,beq_iff_eq,List.all_eq_true,List.mem_range];constructor;·rintro⟨⟨⟨⟨⟨f,b⟩,j⟩,e⟩,i⟩,a,g⟩;exact⟨⟨f,b⟩,j,e,i,a,g⟩
 ·rintro⟨⟨f,b⟩,j,e,i,a,g⟩;exact⟨⟨⟨⟨⟨f,b⟩,j⟩,e⟩,i⟩,a,g⟩
theorem QJ (c:List Int) (b:Nat) (d:Int) (g:b<c.length) (a:Nat):h1 (c.set b d) a=h1 c a+(if b<a then d-c.getD b 0 else 0):=by
 induction a with
 | zero=>simp[h1]
 | succ a i =>
  rw[h1,h1,i];by_cases f:b=a
  ·subst f;have e:(c.set b d).getD b 0=d:=by simp[List.getD,g]
   rw[e,if_neg om,if_pos om];omega
  ·have e:(c.set b d).getD a 0=c.getD a 0:=by simp[List.getD,f]
   rw[e];by_cases h:b<a;·rw[if_pos h,if_pos om];omega
   ·rw[if_neg h,if_neg om];omega
theorem SG (i:hW x c d=true) (m:r.any n0=false) (k:Nat) (p:k<=x.length) :
 (0<=(hp r x c k).2/\(hp r x c k).2<=1000000000000000)/\(∀a,a<x.length->0<=(hp r x c k).1.getD a 0)/\0<=h1 (hp r x c k).1 x.length/\((hp r x c k).2=0\/h1 (hp r x c k).1 x.length=0):=by
 obtain⟨_,o,_,f,j,g⟩:=Ei.1 i;induction k with
 | zero=>exact⟨o,fun a b=>(f a b).1,j.1,g⟩
 | succ k n =>
  obtain⟨y,e,t,u⟩:=n om;have z:=HI m k;have s:=Cz r x c k;have v:=e k om;simp only[hp];generalize (hp r x c k).1=L at *;generalize (hp r x c k).2=co at *;generalize r.getD k 0=ak at *;have l:=QJ L k (L.getD k 0+(ak-min ak co)) om x.length;rw[if_pos om]at l;refine⟨by omega,?_,by omega,by omega⟩;intro a b;by_cases I:k=a;·exact WX
  ·have aX:(L.set k (L.getD k 0+(ak-min ak co))).getD a 0=L.getD a 0:=by simp[List.getD,I]
   rw[aX];exact e a b
theorem jg4 (e:hW x c d=true) (b:r.any n0=false) (k:Nat) (i:k<x.length) :
 h1 (hp r x c k).1 x.length<=h1 (hp r x c (k+1)).1 x.length/\∀a,(hp r x c k).1.getD a 0<=(hp r x c (k+1)).1.getD a 0:=by
 obtain⟨g,n,l,m⟩:=SG e b k om;have j:=Cz r x c k;simp only[hp];generalize (hp r x c k).1=L at *;generalize (hp r x c k).2=co at *;generalize r.getD k 0=ak at *;have f:=QJ L k (L.getD k 0+(ak-min ak co)) om x.length;rw[if_pos om]at f;refine⟨by omega,fun a=>?_⟩;by_cases I:k=a;·exact WX
 ·have aX:(L.set k (L.getD k 0+(ak-min ak co))).getD a 0=L.getD a 0:=by simp[List.getD,I]
  rw[aX];exact Int.le_refl _
theorem YV (j:hW x c d=true) (l:r.any n0=false) (A:hW (hp r x c x.length).1 (hp r x c x.length).2 d=true) (e:Nat) (t:e<=x.length):hW (hp r x c e).1 (hp r x c e).2 d=true:=by
 have u:∀f b,b+f=x.length->h1 (hp r x c b).1 x.length<=h1 (hp r x c x.length).1 x.length/\∀a,(hp r x c b).1.getD a 0<=(hp r x c x.length).1.getD a 0:=by
  intro f;induction f with
  | zero=>intro b C;have:b=x.length:=om;rw[this];exact⟨Int.le_refl _,fun _=>Int.le_refl _⟩
  | succ f G=>intro b C;obtain⟨E,F⟩:=G (b+1) om;obtain⟨o,z⟩:=jg4 j l b om;exact⟨Int.le_trans o E,fun a=>Int.le_trans (z a) (F a)⟩
 obtain⟨n,D⟩:=u (x.length-e) e om;obtain⟨B,p,v,y⟩:=SG j l e t;obtain⟨m,I,s,i,g,H⟩:=Ei.1 A;rw[Cz]at m i g;refine Ei.2 ?_;rw[Cz];exact⟨m,B,s,fun a k=>⟨p a k,Int.le_trans (D a) (i a k).2⟩,⟨v,Int.le_trans n g.2⟩,y⟩
theorem X6 {ns bs:List Int} (a:Nat):Bj (hp ns bs c a).1 (hp ns bs c a).2 d a (ns.getD a 0)=if hW (hp ns bs c (a+1)).1 (hp ns bs c (a+1)).2 d=true then ((hp ns bs c (a+1)).1,(hp ns bs c (a+1)).2,d,0) else ([],0,0,5):=rfl
theorem ygv (f) (bs:List Int) (c aa b:Int) (d:Hd (AY bs c aa=b)) (w) (n:Sl .i64 w f bs) :
 Calls prog 17 #[.agg #[f,iV c,iV aa]] w (RetB (iV b) w):=by
 have br:=lh n;obtain⟨aF,aC,rfl,H,⟨s,_⟩,B⟩:=n;clear B;unfold maxLen at s;refine OQ ?_;unhygienic intros
 cases a:hW bs c aa with
 | false =>
  obtain rfl:0=b:=by rw[<-d.o];unfold AY;rw[a];rfl
  have aJ:=lh a;clear d a;go_enter func17,ntmps17;go_wp2_with fail;refine(By _ bs c aa false aJ _ (br.B bm)).mono ?_;exact ED
 | true =>
  obtain⟨⟨C,l⟩,_,_,g,ck,_⟩:=Ei.1 a;have E:Hd (h1 bs bs.length=b):=by show _=_;rw[<-d.o,Yi _ (nr _),List.take_length];unfold AY;rw[if_pos a]
  have aJ:=lh a;have v:=lh g;have z:=lh l;clear d a g ck C l;go_enter func17,ntmps17;go_wp2_with fail;refine Jw ?_;intro a7 aH dJ bQ cB;have A:=lh (hJ bm aH);have r:=lh (br.B (hJ bm aH));clear dN jv fK bm aH;go_wp2_with fail;go_loopg [3,4] bs.length (fun e t i wr=>∃(k:Nat) (d':Int),k+e=bs.length/\i=iV k/\t=iV d'/\Hd (h1 bs k=d')/\Hd (0<=d'/\d'<=1000000000000000*k)/\a7=wr);case atStart=>exact⟨0,0,by omega,rfl,rfl,rfl,by show _/\_;omega,rfl⟩
  case round =>
   obtain⟨k,d',G,rfl,rfl,i5,j,rfl⟩:=hrel;cases gk with
   | zero =>
    have o:¬((k:Int)<bs.length):=om;have u:k=bs.length:=om;obtain rfl:d'=b:=by rw[<-i5.o,u];exact E.o
    go_wp2;go_ret;exact⟨rfl,A.o⟩
   | succ e =>
    have o:(k:Int)<bs.length:=om;obtain⟨J,F,aG,rfl,I,aV⟩:=r.get (i:=k) om;have m:=v.o k om;rw[aV.o]at m;have D:=j.o;have x:k<8:=oo z.o;refine Pg ?_;intro aw ck ce kq;have wS:wrap64 (d'+aG)=aw:=by rw[ck];exact wi _ ⟨by omega,by omega⟩
    have y:=lh wS;clear m D x ck wS i5 j;go_wp2_with fail;go_roundg e;case measure=>omega
    case rel=>exact⟨k+1,aw,by omega,by go_num,by first | rfl | exact congrArg (Value.int .i64) y.o,ce,kq,rfl⟩
theorem Y2 (h:W.ownsRow n e m v k C) (c:w.heap.size<=n):Fr w v:=by
 intro j b l o a _;rcases h.2 with⟨rfl,_⟩ | ⟨f,g,i,rfl,d,_⟩;·cases a
 ·cases a;omega
theorem Xc {bs:List Int} (h:hW bs c d=true):(0<=d/\d<=1000000000000000)/\bs.length<=8/\1<=bs.length:=by exact HN
def GG (a d:List Int) (c b:Int):Bool:=hW a c b && d.length == a.length
theorem Wp (h:(GG r x c d && !x.any n0)=false):s0 r c d x=([],0,0,1):=by
 unfold s0;unfold GG at h;cases e:hW r c d with
 | false=>rfl
 | true =>
  cases a:(x.length == r.length) with
  | false=>rfl
  | true =>
   cases b:x.any n0 with
   | true=>rfl
   | false=>rw[e,a,b]at h;cases h
theorem RF {bs ns:List Int} (h:(GG bs ns c d && !ns.any n0)=true):hW bs c d=true/\ns.length=bs.length/\ns.any n0=false/\s0 bs c d ns=if hW (hp ns bs c bs.length).1 (hp ns bs c bs.length).2 d=true then ((hp ns bs c bs.length).1,(hp ns bs c bs.length).2,d,0) else ([],0,0,5):=by unfold GG at h;simp only[ba,Bool.not_eq_true',beq_iff_eq]at h;obtain⟨⟨a,b⟩,e⟩:=h;refine⟨a,b,e,?_⟩;unfold s0;rw[a,e,show(ns.length == bs.length)=true by simp[b]];rfl
theorem jfq (ak g) (bs a:List Int) (c aa:Int) (n:Hd (hW bs c aa=false)) (w) (i:Sl .i64 w ak bs) (f:Sl .i64 w g a) :
 Calls prog 174 #[.agg #[ak,iV c,iV aa],g] w (t4 ([],0,0,1) w):=by
 have t:=lh i;have z:=lh f;obtain⟨aF,aC,rfl,x,⟨m,_⟩,d⟩:=i;clear d;obtain⟨A,u,rfl,y,⟨o,_⟩,d⟩:=f;clear d;unfold maxLen at m o;refine T4 ?_;intro bJ;refine PC ?_;intro ct cj bi;clear ct;go_enter func174,ntmps174;go_wp2_with fail;refine(By _ bs c aa false n _ (t.B bi.o)).mono ?_;rintro _ j ⟨rfl,e⟩;have f6:=lh (bJ.B e);have lX:=lh (hJ bi.o e);clear e;go_wp2_with fail;go_loopg [6,7] a.length (fun b r s wr=>∃k:Nat,k+b=a.length/\s=iV k/\r=.bool false/\j=wr);case atStart=>exact⟨0,by omega,rfl,rfl,rfl⟩
 case round =>
  obtain⟨k,v,rfl,rfl,rfl⟩:=hrel;cases gk with
  | succ b =>
   have l:(k:Int)<a.length:=om;go_wp2_with fail;go_roundg b;case measure=>omega
   case rel=>exact⟨k+1,by omega,by go_num,rfl,rfl⟩
  | zero=>have l:¬((k:Int)<a.length):=om;exact Jx
theorem ZV (b:Nat) (h:∃a,a<b/\n0 (r.getD a 0)=true) (d:b<=r.length):r.any n0=true:=by obtain⟨a,e,c⟩:=h;rw[List.any_eq_true];exact⟨r[a]' om,List.getElem_mem _,by simpa[List.getD,show a<r.length by omega] using c⟩
theorem jin (h:∀a8,a8<r.length->n0 (r.getD a8 0)=false):r.any n0=false:=by rw[List.any_eq_false];exact Rt
theorem Vc {b:Value} (a:BW w W) (h:w.cell? (Ad n 0)=some v/\w.cell? (Ad n 1)=some u/\w.cell? (Ad n 2)=some V/\w.cell? (Ad m k)=some b) :
 W.cell? (Ad n 0)=some v/\W.cell? (Ad n 1)=some u/\W.cell? (Ad n 2)=some V/\W.cell? (Ad m k)=some b:=
 ⟨(a.cell (p:=(Ad n 0)) (ht h.1)).trans h.1,(a.cell (p:=(Ad n 1)) (ht h.2.1)).trans h.2.1,(a.cell (p:=(Ad n 2)) (ht h.2.2.1)).trans h.2.2.1,(a.cell (p:=(Ad m k)) (ht h.2.2.2)).trans h.2.2.2⟩
theorem VB (ak u) (bs bo:List Int) (c aa:Int) (aJ:Hd (hW bs c aa=true)) (Z:bo.length=bs.length) (o:List Int×Int×Int×Int) (W:Hd (s0 bs c aa bo=o)) (am:bs.length<=1000) (w) (ax:Sl .i64 w ak bs) (av:Sl .i64 w u bo) :
 Calls prog 174 #[.agg #[ak,iV c,iV aa],u] w (t4 o w):=by
 have ai:=lh ax;have a3:=lh av;obtain⟨aF,aC,rfl,bz,⟨aK,_⟩,Q⟩:=ax;clear Q;obtain⟨b1,bl,rfl,b0,⟨aP,_⟩,Q⟩:=av;clear Q;unfold maxLen at aK aP;refine T4 ?_;intro bJ;refine PC ?_;intro ct cj bi;clear ct;have bm:((bo.length:Int) == (bs.length:Int))=true:=by simp[Z]
 have bp:=lh (An Z am);clear Z am;go_enter func174,ntmps174;go_wp2_with fail;refine(By _ bs c aa true aJ _ (ai.B bi.o)).mono ?_;refine Q1 ?_;unhygienic intros
 go_wp2_with fail;go_loopg [6,7] bo.length (fun g o i wr=>∃k:Nat,k+g=bo.length/\i=iV k/\((o=.bool true/\Hd (∀l,l<k->n0 (bo.getD l 0)=false))\/(o=.bool false/\Hd (bo.any n0=true)))/\a7=wr);case atStart=>exact⟨0,by omega,rfl,.inl ⟨rfl,fun l S=>absurd S om⟩,rfl⟩
 case round =>
  obtain⟨k,al,rfl,aE,rfl⟩:=hrel;rcases aE with⟨rfl,z⟩ | ⟨rfl,z⟩
  ·cases gk with
   | succ g =>
    have D:(k:Int)<bo.length:=om;obtain⟨G,K,C,rfl,mx,E⟩:=(a3.B lX.o).get (i:=k) om;cases a0:hO C with
    | true =>
     have P:=lh a0;have Y:Hd (∀l,l<k+1->n0 (bo.getD l 0)=false):=fun l S=>by
      by_cases I:l=k;·subst I;rw[E.o];simp[n0,a0]
      ·exact z.o l om
     clear a0;go_wp2_with fail;refine(CF P.o _).mono ?_;rintro _ v ⟨rfl,rfl⟩;go_wp2_with fail;go_roundg g;case measure=>omega
     case rel=>exact⟨k+1,by omega,by go_num,.inl ⟨rfl,Y⟩,rfl⟩
    | false =>
     have P:=lh a0;have Y:Hd (bo.any n0=true):=ZV (k+1) ⟨k,by omega,by rw[E.o];simp[n0,a0]⟩ om;clear a0;go_wp2_with fail;refine(CF P.o _).mono ?_;rintro _ v ⟨rfl,rfl⟩;go_wp2_with fail;go_roundg g;case measure=>omega
     case rel=>exact⟨k+1,by omega,by go_num,.inr ⟨rfl,Y⟩,rfl⟩
   | zero =>
    have D:¬((k:Int)<bo.length):=om;have um:Hd (bo.any n0=false):=jin (fun l S=>z.o l om);have a5:=(Xc aJ.o).2;have ao:Hd (∀k,k<=bs.length->hW (hp bo bs c k).1 (hp bo bs c k).2 aa=false->o=([],0,0,5)):=by intro k m aD;have T:=(RF (bs:=bs) (ns:=bo) (c:=c) (d:=aa) Bg).2.2.2;rw[<-W.o,T,if_neg];intro ag;have:=YV aJ.o um.o ag k m;rw[aD]at this;cases this
    have a2:Hd (hW (hp bo bs c bs.length).1 (hp bo bs c bs.length).2 aa=true->o=((hp bo bs c bs.length).1,(hp bo bs c bs.length).2,aa,0)):=by intro ag;have T:=(RF (bs:=bs) (ns:=bo) (c:=c) (d:=aa) Bg).2.2.2;rw[<-W.o,T,if_pos ag]
    have aY:Hd (∀b ae ah q,(Value.slice aF bs.length aC)=sL b ae ah q->0<ah->b≠w.heap.size/\b≠w.heap.size+1):=by intro b ae ah q I a0;cases I;obtain⟨G,K,aX,a9⟩:=ai.at (i:=0) a0;cases aX;have:=ht a9;omega
    have aU:=lh (ai.B lX.o);clear z a5;go_wp2_with fail;go_loopg [8] bs.length (fun g i wr=>∃(k:Nat) (O:Value),k+g=bs.length/\i=iV k/\Hd (hA wr w.heap.size 35 [O,iV (hp bo bs c k).2,iV aa])/\Hd (Sl .i64 wr O (hp bo bs c k).1)/\Hd (∀b ae ah q,O=sL b ae ah q->0<ah->b≠w.heap.size/\b≠w.heap.size+1)/\Hd (hW (hp bo bs c k).1 (hp bo bs c k).2 aa=true)/\Hd (hA wr (w.heap.size+1) 35 [sZ,iZ,iZ])/\Hd (BW w wr));case atStart=>exact⟨0,.slice aF bs.length aC,by omega,rfl,eZ.o,aU.o,aY.o,aJ.o,f6.o,lX.o⟩
    case round =>
     obtain⟨da,O,bd,rfl,a1,A,aQ,H,qo,tC⟩:=hrel;clear aI aN aL;have B:=Cz bo bs c da;obtain⟨az,an,bb⟩:=A.shape;subst bb;cases gk with
     | succ g =>
      have bc:(da:Int)<bo.length:=oo bp.1;obtain⟨G,K,C,rfl,mx,E⟩:=(a3.B tC.o).get (i:=da) (oo bp.1);have R:=HI um.o da;rw[E.o]at R;have d:=X6 (ns:=bo) (bs:=bs) (c:=c) (d:=aa) da;rw[E.o]at d;have bx:=a1.o;obtain⟨aI,aN,aL,-⟩:=bx.cS [0,1,2];have J:=H.o;have bh:=qo.lt;obtain⟨a,j,x⟩:=xh (hp bo bs c da);have M:=A.o;rw[x]at B d aI aN J M;simp only at B d aI aN J M;rw[x]at *;simp only at *;have bf:Hd (da<a.length):=by show _<_;omega
      have aB:Hd (a.length<=1000):=by show _<=_;have:=bp.2;omega
      obtain⟨e,t,aw,F,ad⟩:∃e t aw F,Bj a j aa da C=(e,t,aw,F):=⟨_,_,_,_,rfl⟩;have yW:Hd ((5=F/\([],0,0,5)=o)\/(0=F/\(hp bo bs c (da+1)).1=e/\(hp bo bs c (da+1)).2=t/\aa=aw/\hW (hp bo bs c (da+1)).1 (hp bo bs c (da+1)).2 aa=true)):=by
       rw[ad]at d;cases af:hW (hp bo bs c (da+1)).1 (hp bo bs c (da+1)).2 aa with
       | false=>rw[if_neg (by rw[af];simp)]at d;simp only[Prod.mk.injEq]at d;exact .inl ⟨d.2.2.2.symm,(ao.o (da+1) om af).symm⟩
       | true=>rw[if_pos af]at d;simp only[Prod.mk.injEq]at d;exact .inr ⟨d.2.2.2.symm,d.1.symm,d.2.1.symm,d.2.2.1.symm,rfl⟩
      have a6:=lh ad;have aM:=lh M;have yT:=lh bx;have bu:IntKind.i64.wrap ((da:Int)+1)=(da:Int)+1:=IntWalk.i64_in _ ⟨by omega,oo bp.2⟩;have a4:=lh (An J R);clear M B x D al d R J ad bx aQ H A;go_wp2_with fail;have iy:wr.cell? (Ad w.heap.size 0)=some (.slice az a.length an)/\wr.cell? (Ad w.heap.size 1)=some (iV j)/\wr.cell? (Ad w.heap.size 2)=some (iV aa)/\wr.cell? (Ad G (K+da))=some (iV C):=⟨aI,aN,aL,mx⟩;go_region_held3 (fun L=>L.cell? (Ad w.heap.size 0)=some (.slice az a.length an)/\L.cell? (Ad w.heap.size 1)=some (iV j)/\L.cell? (Ad w.heap.size 2)=some (iV aa)/\L.cell? (Ad G (K+da))=some (iV C)) (first | assumption | (refine Vc ?_ iy;first | with_reducible exact ft.o | with_reducible exact hB ft.o _ | with_reducible exact p2 ft.o (nr _) _ _ _ | with_reducible exact p2 (hB ft.o _) ft.o.size _ _ _ | with_reducible exact hG (hB bR _) | with_reducible exact hB bR _)) (first | (go_at_call 165;refine(Pv _ a j aa da C _ a6 bf.o a4.o.1 a4.o.2 aB.o _ (aM.o.B bL)).mono ?_;rintro _ v ⟨bw,rfl,⟨ac,aj⟩,y⟩;obtain⟨r,s,rfl⟩:=ac.shape;have vr:=lh ac;have rF:=lh aj;have ft:Hd (BW wr v):=(by first | exact y | exact hJ (hG bR) y | exact hJ (hG (hB bR _)) y | exact hJ (hB bR _) y);try (have m:=(show hA (wr.alloc (.cells #[sZ,iZ,iZ] 35)).drew wr.heap.size 35 [sZ,iZ,iZ] from heap_alloc_new wr _).B y;have aZ:=m.cell 0;have aS:=m.cell 1;have aV:=m.cell 2;simp only[gz,gs]at aZ aS aV;have bq:=m.frozen 0;have bt:=m.frozen 1;have br:=m.frozen 2;have aG:=lh m;clear m);clear ac aj y))
      ·obtain⟨f,aW,wR,tB,wV,rH⟩:∃f,v.alloc (.cells #[.slice r e.length s,iV t,iV aw] 35)=f/\Hd (hA f v.heap.size 35 [.slice r e.length s,iV t,iV aw])/\Hd (BW wr f)/\Hd (Sl .i64 f (.slice r e.length s) e)/\Hd (∀b ae ah q,Value.slice r e.length s=sL b ae ah q->0<ah->b≠w.heap.size/\b≠w.heap.size+1):=by
        refine⟨_,rfl,heap_alloc_new v _,hB ft.o _,(vr.B (hB bR _)),?_⟩;exact FI
       exact GS
      ·obtain⟨f,aW,wR,tB,wV,rH⟩:∃f,((v.setCell (Ad wr.heap.size 0) (.slice r e.length s)).setCell (Ad wr.heap.size 1) (iV t)).setCell (Ad wr.heap.size 2) (iV aw)=f/\Hd (hA f wr.heap.size 35 [.slice r e.length s,iV t,iV aw])/\Hd (BW wr f)/\Hd (Sl .i64 f (.slice r e.length s) e)/\Hd (∀b ae ah q,Value.slice r e.length s=sL b ae ah q->0<ah->b≠w.heap.size/\b≠w.heap.size+1):=by
        refine⟨_,rfl,((aG.set 0 _).set 1 _).set 2 _,p2 ft.o (nr _) _ _ _,(((vr.setCell (fun b ae n c I h=>by have:=rF.o b ae n c I h;simp at this;omega) _).setCell (fun b ae n c I h=>by have:=rF.o b ae n c I h;simp at this;omega) _).setCell (fun b ae n c I h=>by have:=rF.o b ae n c I h;simp at this;omega) _),?_⟩;exact FI
       exact GS
     | zero =>
      have aA:da=bs.length:=om;subst aA;have bc:¬((bs.length:Int)<bo.length):=oo bp.1;have bx:=a1.o;obtain⟨aI,aN,aL,-⟩:=bx.cS [0,1,2];have V:=lh (a2.o H.o);obtain⟨a,j,x⟩:=xh (hp bo bs c bs.length);have ay:=x;rw[x]at B aI aN V A;simp only at B aI aN V A;have aT:a.length<=1000:=by have:=bp.2;have I:(hp bo bs c bs.length).1.length=bs.length:=Cz bo bs c bs.length;rw[ay]at I;simp only at I;omega
      have aO:=A;clear bx x ay B H a2 ao D al bd;go_wp2_with fail;refine(HB _ a j aa aT _ aO.o).mono ?_;rintro _ bj ⟨bv,rfl,ab,X⟩;have cP:=qo.B X;refine MZ ?_;unhygienic intros
      have ku:=cP.lt;have cX:=lh (hJ tC.o X);have ar:=Sl.of_own ab rfl;obtain⟨a',a8,rfl⟩:=ar.shape;have au:=lh ab;clear cP X ab ar;go_wp2;refine bodyPost_ret (v:=.tuple #[.agg #[.slice a' a.length a8,iV j,iV aa],iZ]) Gx rfl ?_;rw[V.o];exact⟨_,rfl,⟨Sl.of_own (yau (yau (yau au.o (oo qo.lt)) (oo qo.lt)) (oo qo.lt)) rfl,Y2 au.o (nt tC.size (Nat.le_add_right _ _))⟩,p2 cX.o om _ _ _⟩
  ·obtain rfl:([],0,0,1)=o:=by
    rw[<-W.o,Wp];rw[z.o];simp
   cases gk with
   | succ g =>
    have D:(k:Int)<bo.length:=om;go_wp2_with fail;go_roundg g;case measure=>omega
    case rel=>exact⟨k+1,by omega,by go_num,.inr ⟨rfl,z⟩,rfl⟩
   | zero=>have D:¬((k:Int)<bo.length):=om;clear aI aN aL;exact Jx
theorem Ky (h:q:=by go_wp2_with fail;refine(eN.o _).mono ?_;rintro _ a7 ⟨rfl,rfl⟩;go_wp2;go_ret;first | exact⟨rfl,rfl⟩ | (refine⟨?_,rfl⟩;simp only[I];rfl)):q:=h
theorem Hb (h:q:=by
 go_ret;have I:Bb bs c aa cs aL aP pe=trP bs cs k++nl:=by unfold Bb;rw[if_neg wW.o,wZ.o,qp.o,if_pos om,xa.o]
 rw[I];exact⟨_,rfl,yZ.o,fS.trans (vt.mono (oo fS.size))⟩):q:=h
theorem Jq (h:q:=by have eN:=lh a0;clear fU cu a0;go_enter func164,ntmps164;go_wp2_with fail;refine Jw ?_;intro a7 aH dJ bQ cB;clear dN jv fK;go_wp2_with fail;refine(CF eN.o _).mono ?_;rintro _ dm ⟨rfl,rfl⟩;go_wp2;go_ret;exact⟨rfl,hJ bm aH⟩):q:=h
section
open Go.RowKit FlM
theorem P1:FlM.N 1000000000000000=4831355200913801216:=by decide
def cmpF (b a:Nat):Option Ordering:=FloatKind.f64.format.order b a
def GB (a:Nat):Bool:=cmpF a 0 == some .gt || cmpF a 0 == some .eq
def FN (a:Nat):Bool:=cmpF a 4831355200913801216 == some .lt || cmpF a 4831355200913801216 == some .eq
theorem Gz (a:Nat):GB a=true↔Ieee.double.order a (FlM.N 0)=some .gt\/Ieee.double.order a (FlM.N 0)=some .eq:=by unfold GB cmpF;rw[FlM.N_zero];simp;rfl
theorem K7 (a:Nat):FN a=true↔Ieee.double.order a (FlM.N 1000000000000000)=some .lt\/Ieee.double.order a (FlM.N 1000000000000000)=some .eq:=by unfold FN cmpF;rw[P1];simp;rfl
theorem Md (h:FlM.part n=some m):GB n=true/\FN n=true:=by
 have a:=(part_some h).1;rw[Gz,K7,(part_order h 0 om).1,(part_order h 1000000000000000 om).1];constructor
 ·rcases Nat.eq_zero_or_pos m with h | h;·subst h;exact Or.inr (by rw[cmp_self])
  ·refine Or.inl (congrArg some (?_:compareOfLessAndEq _ _=_));unfold compareOfLessAndEq;rw[if_neg om,if_neg om]
 ·by_cases h:m=1000000000000000;·subst h;exact Or.inr (by rw[cmp_self])
  ·refine Or.inl (congrArg some (?_:compareOfLessAndEq _ _=_));unfold compareOfLessAndEq;rw[if_pos om]
def DL (b d:Nat):Int×Int×Int :=
 match FlM.part b,FlM.part d with
 | some c,some a=>((c:Int),(a:Int),0)
 | _,_=>(0,0,4)
theorem Zl (h:DL n m=(c,d,f)) (e:((FlM.part n).isSome && (FlM.part m).isSome)=false):0=c/\0=d/\4=f:=by
 unfold DL at h;cases a:FlM.part n with
 | none=>rw[a]at h;simp at h;exact⟨h.1,h.2.1,h.2.2⟩
 | some g =>
  cases b:FlM.part m with
  | none=>rw[a,b]at h;simp at h;exact⟨h.1,h.2.1,h.2.2⟩
  | some i=>rw[a,b]at e;simp at e
theorem L8 (h:DL n m=(c,d,f)) (a:FlM.part n=some k) (b:FlM.part m=some i):(k:Int)=c/\(i:Int)=d/\0=f:=by unfold DL at h;rw[a,b]at h;simp at h;exact⟨h.1,h.2.1,h.2.2⟩
theorem Ta (h:GB n=true):∃b,cmpF n 4831355200913801216=some b:=by
 rw[Gz]at h;unfold cmpF;rw[<-P1];show ∃b,(Ieee.double.read n).order (Ieee.double.read (FlM.N 1000000000000000))=some b;obtain⟨k,_,d⟩:=read_N 1000000000000000 om;obtain⟨q,_,e⟩:=read_N 0 om;rw[d];have a:(Ieee.double.read n).order (Ieee.double.read (FlM.N 0))=some .gt\/(Ieee.double.read n).order (Ieee.double.read (FlM.N 0))=some .eq:=h;rw[e]at a;cases f:Ieee.double.read n with
 | number c j i=>exact⟨_,rfl⟩
 | infinity c=>exact⟨_,rfl⟩
 | nan c g=>rw[f]at a;simp[Ieee.Datum.order]at a
end
section
open Go.RowKit FlM
def Vn (c:Nat) (d:Bool) (w:World) (f:Ending) (e:World):Prop:=∃a:Int,f=.returned (.tuple #[iV a,.bool d])/\(∀b:Nat,FlM.part c=some b->a=b)/\w=e
theorem Hn (a:Nat) (i:Bool) (g:Hd ((FlM.part a).isSome=i)) (w):Calls prog 132 #[.float .f64 a] w (Vn a i w):=by
 have l:∀(h:i=false) (b:Int) (e:Nat),FlM.part a=some e->b=e:=fun h b e o=>by have:=g.o;rw[o,h]at this;cases this
 have yM:=lh l;cases d:GB a with
 | false =>
  obtain rfl:false=i:=by
   rw[<-g.o];cases f:FlM.part a with
   | none=>rfl
   | some b=>rw[(Md f).1]at d;cases d
  have C:(FloatKind.f64.format.order a 0 == some .gt || FloatKind.f64.format.order a 0 == some .eq)=false:=d;clear g d l;exact G7
 | true =>
  have C:(FloatKind.f64.format.order a 0 == some .gt || FloatKind.f64.format.order a 0 == some .eq)=true:=d;cases c:FN a with
  | false =>
   obtain rfl:false=i:=by
    rw[<-g.o];cases f:FlM.part a with
    | none=>rfl
    | some b=>rw[(Md f).2]at c;cases c
   have z:(FloatKind.f64.format.order a 4831355200913801216 == some .gt)=true:=by obtain⟨x,s⟩:=Ta d;unfold FN at c;rw[s]at c;show(cmpF a 4831355200913801216 == some .gt)=true;rw[s];cases x <;> simp at c ⊢
   clear g d c l;exact G7
  | true =>
   have z:(FloatKind.f64.format.order a 4831355200913801216 == some .gt)=false:=by unfold FN at c;show(cmpF a 4831355200913801216 == some .gt)=false;rw[Bool.or_eq_true,beq_iff_eq,beq_iff_eq]at c;rcases c with h | h <;> (rw[h];rfl)
   obtain⟨I,b,F,D,k,_⟩:=trunc_of a ((Gz a).1 d) ((K7 a).1 c);have r:floatToIntVal .f64 a .i64=some (b:Int):=by
    unfold floatToIntVal;have G:(FloatKind.f64.decode a).toInt .zero=some (b:Int):=k;have E:IntKind.i64.min = -9223372036854775808:=rfl;have A:IntKind.i64.max=9223372036854775807:=rfl;rw[G]
    dsimp only
    rw[E,A,if_pos ⟨by omega,by omega⟩]
   have J:=fun y=>run_convert_float_int (P:=prog) y 165 2 .f64 .i64 a b rfl underlying2 r;obtain⟨m,n⟩:=xg (FlM.N b);have B:floatOfInt .f64 (b:Int)=m:=by rw[<-n];exact Mr b
   have H:(FloatKind.f64.format.order m a == some .eq)=i:=by
    rw[<-g.o,<-n];cases f:FlM.part a with
    | none=>obtain⟨_,u,K,t,v⟩:=part_none f ((Gz a).1 d) ((K7 a).1 c);rw[k]at t;obtain rfl:b=u:=oo (Option.some.inj t);show(Ieee.double.order (FlM.N b) a == some .eq)=false;rw[beq_eq_false_iff_ne];exact v
    | some e=>have j:=(part_some f).2.1;rw[k]at j;obtain rfl:b=e:=oo (Option.some.inj j);show(Ieee.double.order (FlM.N b) a == some .eq)=true;rw[(part_order f b om).2,cmp_self];rfl
   have p:Hd (∀e:Nat,FlM.part a=some e->(b:Int)=e):=fun e o=>by have j:=(part_some o).2.1;rw[k]at j;exact Option.some.inj j
   clear g d c F D k r n l;go_enter func132,ntmps132;go_wp2;go_ret2;first | exact⟨_,rfl,p.o,rfl⟩ | (refine⟨_,?_,p.o,rfl⟩;simp only[B,H];rfl)
end
section
open Go.RowKit FlM
def CY (a:Int):Nat:=if a<0\/1000000000000000<a then 0 else FlM.N a.toNat
end
section
open Go.RowKit FlM
attribute [local go_sem] H0 Hr
theorem Kd (a:Int) (b:Bool) (d:(decide (0<=a) && decide (a<=1000000000000000))=b) (w):Calls prog 204 #[iV a] w (h3 (.bool b) w):=by
 subst d;by_cases e:0<=a
 ·by_cases c:a<=1000000000000000;·go_enter func204,ntmps204;go_wp2;go_ret;simp[h3,e,c]
  ·go_enter func204,ntmps204;go_wp2;go_ret;simp[h3,c]
 ·go_enter func204,ntmps204;go_wp2;go_ret;simp[h3];omega
theorem Uj (ak:Int) (aw:Nat) (ck:Hd (CY ak=aw)) (w):Calls prog 170 #[iV ak] w (h3 (.complex .f64 aw 0) w):=by
 by_cases a:0<=ak/\ak<=1000000000000000;·obtain⟨a,b⟩:=a;refine FR ?_;clear ck;intro I eN;go_enter func170,ntmps170;exact Ky
 ·obtain rfl:0=aw:=by rw[<-ck.o];unfold CY;rw[if_pos om]
  have a0:=Kd ak false GK;have eN:=lh a0;clear ck a0 a;go_enter func170,ntmps170;exact Ep
theorem Uz (ak:Int) (aw:Nat) (ck:Hd (CY ak=aw)) (w):Calls prog 171 #[iV ak] w (h3 (.complex .f64 0 aw) w):=by
 by_cases a:0<=ak/\ak<=1000000000000000;·obtain⟨a,b⟩:=a;refine FR ?_;clear ck;intro I eN;go_enter func171,ntmps171;exact Ky
 ·obtain rfl:0=aw:=by rw[<-ck.o];unfold CY;rw[if_pos om]
  have a0:=Kd ak false GK;have eN:=lh a0;clear ck a0 a;go_enter func171,ntmps171;exact Ep
theorem HV (a d:Nat) (r t z:Int) (h:Hd (DL a d=(r,t,z))) (w):Calls prog 79 #[.complex .f64 a d] w (h3 (.tuple #[iV r,iV t,iV z]) w):=by
 obtain⟨k,c⟩:=xg ((FlM.part a).isSome);obtain⟨q,b⟩:=xg ((FlM.part d).isSome);have A:=lh c;have p:=lh b;cases e:(k && q) with
 | false =>
  obtain⟨rfl,rfl,rfl⟩:=Zl h.o (by rw[c,b];exact e);clear h c b;go_enter func79,ntmps79;go_wp2_with fail;refine(Hn a k A _).mono ?_;rintro _ l ⟨v,rfl,f,rfl⟩;clear f;go_wp2_with fail;refine(Hn d q p _).mono ?_;rintro _ l ⟨x,rfl,g,rfl⟩;clear g;cases k;all_goals cases q
  all_goals first | (cases e;done) | (clear e;go_wp2;go_ret3;exact⟨rfl,rfl⟩)
 | true =>
  obtain⟨rfl,rfl⟩:k=true/\q=true:=ss e;obtain⟨v,f⟩:=Option.isSome_iff_exists.1 c;obtain⟨x,g⟩:=Option.isSome_iff_exists.1 b;obtain⟨j,i,y⟩:=L8 h.o f g;have n:=lh (An j (An i y));have s:=lh (An f g);clear h c b f g j i y e;go_enter func79,ntmps79;go_wp2_with fail;refine(Hn a true A _).mono ?_;rintro _ l ⟨B,rfl,u,rfl⟩;have j:=lh (u v s.1);clear u;go_wp2_with fail;refine(Hn d true p _).mono ?_;rintro _ l ⟨C,rfl,o,rfl⟩;have i:=lh (o x s.2);clear o;go_wp2
  go_ret3
  refine⟨?_,rfl⟩;rw[<-n.1,<-n.2.1,<-n.2.2,<-j.o,<-i.o];rfl
end
section
open Go.RowKit FlM
attribute [local go_sem] H0 Hr
def BL (b a:Int):List (Int×Nat×Nat):=if 0<a then [(b,CY a,0)] else if a<0 then [(b,0,CY (-a))] else []
def Kv (c:List (Int×Nat×Nat)) (w:World) (d:Ending) (b:World):Prop:=∃a,d=.returned a/\r2 b a c/\BW w b
theorem r2.none:r2 w (sZ) []:= ⟨Option.none,0,rfl,nr _,⟨by simp[maxLen],fun _=>rfl⟩,fun h=>absurd rfl h⟩
theorem Jm (c a:Int) (j:-1000000000000000000<=a/\a<=1000000000000000000) (w):Calls prog 125 #[iV c,iV a] w (Kv (BL c a) w):=by
 obtain⟨l,k⟩:=j;by_cases f:0<a
 ·obtain⟨b,e⟩:∃b,CY a=b:=⟨_,rfl⟩;have g:=lh e;have d:BL c a=[(c,b,0)]:=by unfold BL;rw[if_pos f,e]
  rw[d];clear e d;go_enter func125,ntmps125;go_wp2_with fail;refine(Uj a b g _).mono ?_;rintro _ _ ⟨rfl,rfl⟩;go_wp2_with fail;go_ret;exact⟨_,rfl,r2.lit w _ [(c,b,0)] 1 rfl _ rfl RD,hB bR _⟩
 ·by_cases i:a<0
  ·obtain⟨b,e⟩:∃b,CY (-a)=b:=⟨_,rfl⟩;have g:=lh e;have d:BL c a=[(c,0,b)]:=by unfold BL;rw[if_neg f,if_pos i,e]
   rw[d];clear e d;go_enter func125,ntmps125;go_wp2_with fail;refine(Uz (-a) b g _).mono ?_;rintro _ _ ⟨rfl,rfl⟩;go_wp2_with fail;go_ret;exact⟨_,rfl,r2.lit w _ [(c,0,b)] 1 rfl _ rfl RD,hB bR _⟩
  ·have d:BL c a=[]:=by unfold BL;rw[if_neg f,if_neg i]
   rw[d];clear d;go_enter func125,ntmps125;go_wp2_with fail;go_ret;exact⟨_,rfl,r2.none,bR⟩
end
section
open Go.RowKit FlM
def trP (b c:List Int):Nat->List (Int×Nat×Nat)
 | 0=>[]
 | a+1=>trP b c a++BL ((a:Int)+1) (c.getD a 0-b.getD a 0)
def CL (a b:List Int):Nat->Int
 | 0=>0
 | k+1=>CL a b k+(b.getD k 0-a.getD k 0)
def D1 (a b:List Int):Nat->Nat
 | 0=>0
 | k+1=>D1 a b k+(b.getD k 0-a.getD k 0).toNat
def DT (a b:List Int):Nat->Nat
 | 0=>0
 | k+1=>DT a b k+(-(b.getD k 0-a.getD k 0)).toNat
def Bb (b:List Int) (d e:Int) (a:List Int) (c f:Int) (g:Int):List (Int×Nat×Nat) :=
 if (hW b d e && hW a c f && b.length == a.length)=false then [] else
 if 1000000000000000 < -(CL b a a.length+(d-c)) \/ -(CL b a a.length+(d-c)) < -1000000000000000 then trP b a a.length++BL (-1) (d-c) else
 trP b a a.length++BL (-1) (d-c)++BL g (-(CL b a a.length+(d-c)))
theorem Gs (a b:Int):(BL a b).length<=1:=by
 unfold BL;split;·simp
 ·split <;> simp
theorem Ur (c b:List Int) (a:Nat):(trP c b a).length<=a:=by
 induction a with
 | zero=>simp[trP]
 | succ a d=>have:=Gs ((a:Int)+1) (b.getD a 0-c.getD a 0);simp only[trP,la];omega
theorem MS (h:hW r c d=true):1<=r.length/\r.length<=8:=by
 unfold hW at h;cases a:q5 0 r with
 | none=>rw[a]at h;exact absurd h (by simp)
 | some b=>rw[a]at h;simp only[ba,decide_eq_true_eq]at h;exact h.1.1.1
theorem Sn (e:hW r c d=true) (b:hW x f y=true) (g:r.length=x.length) (a:k<x.length):-1000000000000000<=x.getD k 0-r.getD k 0/\x.getD k 0-r.getD k 0<=1000000000000000:=by have j:=(A1 e).2 k om;have i:=(A1 b).2 k a;omega
theorem jjz (i:hW r c d=true) (g:hW x f y=true) (e:r.length=x.length) (a:Nat) (k:a<=x.length) :
 D1 r x a<=a*1000000000000000/\DT r x a<=a*1000000000000000/\CL r x a=(D1 r x a:Int)-(DT r x a:Int):=by
 induction a with
 | zero=>simp[D1,DT,CL]
 | succ a b=>obtain⟨j,n,l⟩:=b om;have:=Sn i g e (k:=a) om;simp only[D1,DT,CL];generalize x.getD a 0-r.getD a 0=m at *;omega
theorem Ts (h:q5 c r=some d) (e:c<=1000000000000000):d=c+r.sum/\d<=1000000000000000:=by
 induction r generalizing c with
 | nil=>simp only[q5,Option.some.injEq]at h;subst h;simpa using e
 | cons b r f =>
  unfold q5 at h;by_cases a:hO b=true/\hO (c+b)=true;·rw[if_pos a]at h;have:=f h (AZ.1 a.2).2;simp only[List.sum_cons];omega
  ·rw[if_neg a]at h;exact absurd h (by simp)
theorem PT (h:hW r c d=true):r.sum<=1000000000000000:=by
 unfold hW at h;cases a:q5 0 r with
 | none=>rw[a]at h;exact absurd h (by simp)
 | some b=>have:=Ts a om;omega
theorem Rx (h:∀a,a<r.length->0<=r.getD a 0) (b:Nat):(r.take b).sum<=r.sum:=by
 induction r generalizing b with
 | nil=>simp
 | cons f r c =>
  have e:=h 0 Is;have d:∀a,a<r.length->0<=r.getD a 0:=fun a aA=>by simpa using h (a+1) MV
  cases b with
  | zero=>have:=c d 0;simp at this e ⊢;omega
  | succ b=>have:=c d b;simp only[List.take_succ_cons,List.sum_cons];omega
theorem O0 (a:List Int) (b:Nat) (h:b<a.length):(a.take (b+1)).sum=(a.take b).sum+a.getD b 0:=by rw[List.take_succ_eq_append_getElem h,List.sum_append];simp[List.getD,h]
theorem ZI (e:hW r c d=true) (b:hW x f y=true) (t:r.length=x.length) (a:Nat) (j:a<=x.length) :
 (D1 r x a:Int)<=1000000000000000/\(DT r x a:Int)<=1000000000000000:=by
 have m:∀a,a<=x.length->(D1 r x a:Int)<=(x.take a).sum/\(DT r x a:Int)<=(r.take a).sum:=by
  intro a;induction a with
  | zero=>intro _;simp[D1,DT]
  | succ a p=>intro j;obtain⟨o,k⟩:=p om;have l:=(A1 e).2 a om;have n:=(A1 b).2 a om;rw[O0 _ _ om,O0 _ _ om];simp only[D1,DT];omega
 obtain⟨o,k⟩:=m a j;have l:=Rx (fun i g=>((A1 e).2 i g).1) a;have n:=Rx (fun i g=>((A1 b).2 i g).1) a;have u:=PT e;have s:=PT b;omega
end
section
open Go.RowKit FlM
attribute [local go_sem] H0 Hr
theorem T7 (v n) (bs cs:List Int) (c aa aL aP pe:Int) (u:Hd (hW bs c aa=true)) (p:Hd (hW cs aL aP=true)) (R:bs.length=cs.length) (w:World) (aM:Sl .i64 w v bs) (a:Sl .i64 w n cs) :
 Calls prog 74 #[.agg #[v,iV c,iV aa],.agg #[n,iV aL,iV aP],iV pe] w (Kv (Bb bs c aa cs aL aP pe) w):=by
 have aU:=lh aM;have aQ:=lh a;obtain⟨y,G,rfl,cf,⟨b2,av⟩,ad⟩:=aM;clear ad av;obtain⟨K,A,rfl,bQ,⟨bA,av⟩,ad⟩:=a;clear ad av;unfold maxLen at b2 bA;have af:Hd (BW w ((w.alloc (.cells #[.slice y bs.length G,iV c,iV aa] 35)).alloc (.cells #[.slice K cs.length A,iV aL,iV aP] 35))):=hB (hB bR _) _;have a7:Hd (hA ((w.alloc (.cells #[.slice y bs.length G,iV c,iV aa] 35)).alloc (.cells #[.slice K cs.length A,iV aL,iV aP] 35)) w.heap.size 35 [.slice y bs.length G,iV c,iV aa]):=hA.B (heap_alloc_new w _) (hB bR _);have aT:Hd (hA ((w.alloc (.cells #[.slice y bs.length G,iV c,iV aa] 35)).alloc (.cells #[.slice K cs.length A,iV aL,iV aP] 35)) (w.heap.size+1) 35 [.slice K cs.length A,iV aL,iV aP]):=by have:=heap_alloc_new (w.alloc (.cells #[.slice y bs.length G,iV c,iV aa] 35)) (.cells #[.slice K cs.length A,iV aL,iV aP] 35);simpa[hA,Hd] using this
 have aZ:=(MS p.o).2;have bq:=lh (fun k=>jjz u.o p.o R k);have bG:=lh (fun k=>ZI u.o p.o R k);have aX:=lh (A1 u.o).2;have b4:=lh (A1 p.o).2;have bO:=lh (An (A1 u.o).1 (A1 p.o).1);have bY:((bs.length:Int) != (cs.length:Int))=false:=by simp;omega
 obtain⟨ai,am,ag,ao,al⟩:=info_parts Jk;have aH:=lh R;clear R;go_enter func74,ntmps74;go_wp2_with fail;refine(By _ bs c aa true u _ (aU.B af.o)).mono ?_;rintro _ cd ⟨rfl,Y⟩;have ar:=aT.B Y;obtain⟨bi,bE,a',-⟩:=ar.cS [0,1,2];have ay:=lh (a7.B Y);have aG:=lh ar;have TB:=lh (hJ af.o Y);clear ar Y;go_wp2_with fail;refine(By _ cs aL aP true p _ (aQ.B TB.o)).mono ?_;rintro _ b ⟨rfl,P⟩;have aO:=lh (ay.B P);have au:=lh (aG.B P);have fS:=lh (hJ TB.o P);have cg:=au.lt;have bZ:w.heap.size<b.heap.size:=om;have aI:=aO.cell 0;have ae:=au.cell 0;simp only[gz]at aI ae;clear P bi bE a' a7 aT af ay aG TB;go_wp2_with fail;obtain⟨aN,J⟩:=xg cs.length;have bd:=lh J;rw[J]at aZ bQ ⊢;have mm:Hd (bs.length=aN):=by show _=_;rw[aH.o,J]
 have bw:=ae;rw[J]at bw;have bJ:Hd (b.ownsRow b.heap.size 170 2 (sZ) 0 (q7 (trP bs cs 0))):=⟨rfl,.inl ⟨rfl,rfl⟩⟩;clear J aI ae;go_loopg [7,8,9] aN (fun g r s i wr=>∃(k aj:Nat) (j:Int),k+g=aN/\i=iV k/\s=iV j/\Hd (CL bs cs k=j)/\Hd ((trP bs cs k).length=aj)/\Hd (wr.ownsRow b.heap.size 170 2 r aj (q7 (trP bs cs k)))/\Hd (BW b wr));case atStart=>exact⟨0,0,0,by omega,rfl,rfl,rfl,rfl,bJ,bR⟩
 case round =>
  obtain⟨k,aj,j,bV,rfl,rfl,qp,M,aD,an⟩:=hrel;have b0:=an.o;have Q:=aO.belowB b0 om;have T:=au.belowB b0 om;have aS:=T.cell 0;simp only[gz]at aS;rw[bd.o]at aS;have O:BW w wr:=fS.trans (b0.mono (oo fS.size));have bx:=Ur bs cs k;rw[M.o]at bx;have aJ:=bq.o k Pz;have bc:=bG.o k Pz;rw[qp.o]at aJ;have a4:-1000000000000000<=j/\j<=1000000000000000:=om;have a2:=lh a4;have X:Hd (b.heap.size<=wr.heap.size):=b0.size;clear aJ bc a4;cases gk with
  | zero =>
   have bj:¬((k:Int)<aN):=om;have bP:=T.cell 1;have bI:=Q.cell 1;simp only[gz,gs]at bP bI;obtain⟨⟨cc,b'⟩,ch,ce⟩:=bO.o;obtain rfl:k=aN:=om;have wZ:=lh bd.o;have bh:=a2.o;clear b0 Q T O;go_wp2_with fail;refine(Jm (-1) (c-aL) om _).mono ?_;rintro _ aw ⟨n,rfl,a,d⟩;obtain⟨nl,ab⟩:=xg (BL (-1) (c-aL));have xa:=lh ab;have az:=Gs (-1) (c-aL);rw[ab]at a az;obtain⟨ah,e,H⟩:∃ah e,n=.slice ah nl.length e:=by obtain⟨x,bU,h,_⟩:=a;exact⟨x,bU,h⟩
   subst H;obtain⟨V,F⟩:=xg nl.length;rw[F]at a az;have b3:=lh a.len.2.2.2;have bl:=lh a.news;have bo:Hd ((q7 nl).length=V*2):=by show _=_;rw[FC,F]
   have a8:=lh F;have aF:=lh (K9 aD.o d);have bt:=lh (an.trans (Ij d X.o));have a3:Hd (b.heap.size<=aw.heap.size):=nt X.o d.size;rw[F];clear a F ab d
   go_wp2_with (at_builtin;refine Ba _ rfl (.tmp 62) (.tmp 64) 50 rfl b.heap.size 170 ai (.agg #[iZ,.complex .f64 0 0]) 2 24 underlying50 am ag ao al rfl Iv _ aj (q7 (trP bs cs k)) rfl aF.o ah V e (q7 nl) rfl bo.o b3.o bl.o (GT _) RD om a3.o ?_;intro ax t l m B;clear B;have aC:=lh l;have bF:=lh m;clear l m)
   all_goals
    have vt:Hd (BW b t):=Below.grown bt.o bF.o a3.o (fun q E=>(aF.lt q E).1);have a6:Hd (b.heap.size<=t.heap.size):=vt.size;have yZ:Hd (r2 t ax (trP bs cs k++nl)):=r2.of_own (by show World.ownsRow _ _ _ _ _ _ _;rw[Em];exact aC.o) (by rw[la,M.o,a8.o]);have wW:Hd (¬((hW bs c aa && hW cs aL aP && bs.length == cs.length)=false)):=by show ¬_;rw[u.o,p.o];simp[aH.o]
   ·exact Hb
   ·refine(Jm pe (-(j+(c-aL))) om _).mono ?_;rintro _ aK ⟨n,rfl,a,d⟩;obtain⟨PB,ac⟩:=xg (BL pe (-(j+(c-aL))));have b6:=lh ac;have aE:=Gs pe (-(j+(c-aL)));rw[ac]at a aE;obtain⟨ah,e,H⟩:∃ah e,n=.slice ah PB.length e:=by obtain⟨x,bU,h,_⟩:=a;exact⟨x,bU,h⟩
    subst H;obtain⟨a9,L⟩:=xg PB.length;rw[L]at a aE;have bK:=lh a.len.2.2.2;have be:=lh a.news;have bC:Hd ((q7 PB).length=a9*2):=by show _=_;rw[FC,L]
    have bD:=lh L;have a0:Hd (aK.ownsRow b.heap.size 170 2 ax (aj+V) (q7 (trP bs cs k++nl))):=K9 (by rw[Em];exact aC.o) d;have aY:=lh (vt.trans (Ij d a6.o));have aB:Hd (b.heap.size<=aK.heap.size):=nt a6.o d.size;rw[L];clear a L ac d
    go_wp2_with (at_builtin;refine Ba _ rfl (.tmp 77) (.tmp 80) 50 rfl b.heap.size 170 ai (.agg #[iZ,.complex .f64 0 0]) 2 24 underlying50 am ag ao al rfl Iv _ (aj+V) (q7 (trP bs cs k++nl)) rfl a0.o ah a9 e (q7 PB) rfl bC.o bK.o be.o (GT _) RD om aB.o ?_;intro bW b1 l m B;clear B;have bf:=lh l;have b8:=lh m;clear l m)
    have bu:Hd (BW b b1):=Below.grown aY.o b8.o aB.o (fun q E=>(a0.lt q E).1);go_ret;have I:Bb bs c aa cs aL aP pe=trP bs cs k++nl++PB:=by unfold Bb;rw[if_neg wW.o,wZ.o,qp.o,if_neg om,xa.o,b6.o]
    rw[I];refine⟨_,rfl,r2.of_own (by rw[Em];exact bf.o) (by rw[la,la,M.o,a8.o,bD.o]),fS.trans (bu.mono (oo fS.size))⟩
   ·exact Hb
  | succ g =>
   have bj:(k:Int)<aN:=om;have bH:=Q.cell 0;simp only[gz]at bH;have bg:=lh (aU.B O);have br:=lh (aQ.B O);obtain⟨bU,o,D,rfl,ci,Z⟩:=(bg.o).get (i:=k) HH;obtain⟨bX,cb,C,rfl,ca,S⟩:=(br.o).get (i:=k) Pz;have bb:=(aX.o k HH);have bv:=(b4.o k Pz);rw[Z.o]at bb;rw[S.o]at bv;have bT:(k:Int)<bs.length:=oo mm.o;clear b0 Q T O;go_wp2_with fail;go_quiet (fail);have bh:=a2.o;go_wp2_with fail;refine(Jm ((k:Int)+1) (C-D) om _).mono ?_;rintro _ aw ⟨n,rfl,a,d⟩;obtain⟨W,ak⟩:=xg (BL ((k:Int)+1) (C-D));have aA:=lh ak;have aR:=Gs ((k:Int)+1) (C-D);rw[ak]at a aR;obtain⟨ah,e,H⟩:∃ah e,n=.slice ah W.length e:=by obtain⟨x,bU,h,_⟩:=a;exact⟨x,bU,h⟩
   subst H;obtain⟨f,z⟩:=xg W.length;rw[z]at a aR;have b7:=lh a.len.2.2.2;have aW:=lh a.news;have bS:Hd ((q7 W).length=f*2):=by show _=_;rw[FC,z]
   have bp:=lh z;have a1:=lh (K9 (WC aD.o nq) d);have bN:=lh ((DW an.o nq).trans (Ij d (show b.heap.size<=(wr.drewN nq).heap.size from X.o)));have a5:Hd (b.heap.size<=aw.heap.size):=nt (show b.heap.size<=(wr.drewN nq).heap.size from X.o) d.size;rw[z];clear a z ak d
   go_wp2_with (at_builtin;refine Ba _ rfl (.tmp 48) (.tmp 52) 50 rfl b.heap.size 170 ai (.agg #[iZ,.complex .f64 0 0]) 2 24 underlying50 am ag ao al rfl Iv _ aj (q7 (trP bs cs k)) rfl a1.o ah f e (q7 W) rfl bS.o b7.o aW.o (GT _) RD om a5.o ?_;intro bm t l m B;clear B;have b9:=lh l;have aV:=lh m;clear l m)
   have HB6:Hd (BW b t):=Below.grown bN.o aV.o a5.o (fun q E=>(a1.lt q E).1);have bz:Hd (t.ownsRow b.heap.size 170 2 bm (aj+f) (q7 (trP bs cs (k+1)))):=by show World.ownsRow _ _ _ _ _ _ _;simp only[trP,Z.o,S.o,aA.o,Em];exact b9.o
   have b5:Hd ((trP bs cs (k+1)).length=aj+f):=by show _=_;simp only[trP,Z.o,S.o,aA.o,la,M.o,bp.o]
   have bB:Hd (CL bs cs (k+1)=j+(C-D)):=by show _=_;simp only[CL,Z.o,S.o,qp.o]
   go_roundg g;case measure=>omega
   case rel=>exact⟨k+1,aj+f,j+(C-D),by omega,by go_num,rfl,bB,b5,bz,HB6⟩
end
theorem S4 (l) (bs:List Int) (c aa k d a:Int) (e:Hd (pf bs c aa d [k]=a)) (w) (i:Sl .i64 w l bs) :
 Calls prog 164 #[.agg #[l,iV c,iV aa],iV k,iV d] w (RetB (iV a) w):=by
 have br:=lh i;obtain⟨aF,aC,rfl,s,⟨n,_⟩,o⟩:=i;clear o;unfold maxLen at n;refine OQ ?_;unhygienic intros
 cases b:hW bs c aa with
 | false =>
  obtain rfl:1=a:=by rw[<-e.o];unfold pf;rw[if_pos b]
  have aJ:=lh b;clear e b;go_enter func164,ntmps164;go_wp2_with fail;refine(By _ bs c aa false aJ _ (br.B bm)).mono ?_;exact ED
 | true =>
  have aJ:=lh b;have j:(if q4 bs.length [k]=true then 7 else if hO d=false then (8:Int) else 0)=a:=by rw[<-e.o];unfold pf;simp only[b,Bool.true_eq_false,if_false]
  have fU:=lh j;clear e b j;by_cases f:k<1
  ·obtain rfl:7=a:=by rw[<-fU.o,if_pos (by simp[q4,f])]
   have m:decide (k<1)=true:=decide_eq_true f;clear fU;go_enter func164,ntmps164;go_wp2_with fail;refine(By _ bs c aa true aJ _ (br.B bm)).mono ?_;exact ED
  ·have m:decide (k<1)=false:=decide_eq_false f;by_cases g:(bs.length:Int)<k
   ·obtain rfl:7=a:=by rw[<-fU.o,if_pos (by simp[q4,g])]
    have r:decide ((bs.length:Int)<k)=true:=decide_eq_true g;clear fU;go_enter func164,ntmps164;go_wp2_with fail;refine Jw ?_;intro a7 aH dJ bQ cB;clear dN jv fK;go_wp2;go_ret;exact⟨rfl,hJ bm aH⟩
   ·have r:decide ((bs.length:Int)<k)=false:=decide_eq_false g;have cu:q4 bs.length [k]=false:=by simp[q4];omega
    cases a0:hO d with
    | false =>
     obtain rfl:8=a:=by rw[<-fU.o,cu,a0];rfl
     exact Jq
    | true =>
     obtain rfl:0=a:=by rw[<-fU.o,cu,a0];rfl
     exact Jq
theorem Zq (s) (bs:List Int) (c aa:Int) (e:Nat) (g:Int) (f:List Int) (t r a:Int) (F:Hd (pf bs c aa g [(e:Int)+1]=0)) (X:Hd (Bj bs c aa e g=(f,t,r,a))) (T:bs.length<=1000) (w) (G:Sl .i64 w s bs) :
 Calls prog 122 #[.agg #[s,iV c,iV aa],iV ((e:Int)+1),iV g] w (t4 (f,t,r,a) w):=by
 have H:=lh G;obtain⟨aF,aC,rfl,ab,⟨M,_⟩,W⟩:=G;clear W;unfold maxLen at M;refine On ?_;intro bJ;refine PC ?_;intro ct cj bi;clear ct;obtain⟨C,O,L,E,z⟩:=Fp F.o;have A:=lh (An C (An E z));have D:=lh (An (show e<bs.length by omega) T);clear C O L E z;go_enter func122,ntmps122;go_wp2_with fail;refine(S4 _ bs c aa ((e:Int)+1) g 0 F _ (H.B bi.o)).mono ?_;rintro _ Y ⟨rfl,j⟩;have I:=cj.B j;obtain⟨S,V,R,-⟩:=I.cS [0,1,2];have B:=lh (bJ.B j);have y:=lh (hJ bi.o j);have K:=lh (H.B (hJ bi.o j));clear I j;go_wp2_with fail;refine(Pv _ bs c aa e g _ X D.1 A.1 A.2 D.2 _ K.o).mono ?_;rintro _ ad ⟨u,rfl,⟨l,o⟩,v⟩;simp only at l ⊢;have P:=lh l;obtain⟨n,m,rfl⟩:=l.shape;have Z:=B.lt;have Q:Hd (Fr w (.slice n f.length m)):=fun b i d q a x=>nt y.size (o b i d q a x);have ac:Hd (∀b i d q,(Value.slice n f.length m)=sL b i d q->0<d->b≠w.heap.size+1):=fun b i d q a x=>by have:=o b i d q a x;omega
 have J:=hJ y.o v;have cP:=B.B v;refine MZ ?_;unhygienic intros
 clear cP;clear v l o S V R;go_wp2;refine bodyPost_ret (v:=.tuple #[.agg #[.slice n f.length m,iV t,iV r],iV a]) (by simp[results,results122,go_sem,aR,bg,be]) rfl ⟨.slice n f.length m,rfl,⟨((P.setCell ac.o _).setCell ac.o _).setCell ac.o _,Q.o⟩,p2 J om _ _ _⟩
theorem Zw (fo:pf r c d f [(n:Int)+1]=0):Bf r c d ((n:Int)+1) f=Bj r c d n f:=by unfold Bf Bj;rw[if_neg O9];have a:((n:Int)+1-1).toNat=n:=om;rw[a]
theorem UP (i) (c:List Int) (f d b e:Int) (m:List Int) (j k:Int) (l:Hd (Bf c f d b e=(m,j,k,0))) (o:c.length<=1000) (w) (n:Sl .i64 w i c) :
 Calls prog 122 #[.agg #[i,iV f,iV d],iV b,iV e] w (t4 (m,j,k,0) w):=by
 by_cases a:pf c f d e [b]=0;·obtain⟨_,r,p,_,_⟩:=Fp a;obtain⟨g,rfl⟩:∃g:Nat,b=(g:Int)+1:=⟨(b-1).toNat,by omega⟩;exact Zq i c f d g e _ _ _ _ a ((Zw a).symm.trans l.o) o w n
 ·have h:=l.o;unfold Bf at h;rw[if_pos (ss a)]at h;injection h with _ h;injection h with _ h;injection h with _ h;exact absurd h a
theorem jf0 (h:∀a,a<r.length->(r.getD a 0 == c)=false):r.contains c=false:=by rw[List.contains_eq_any_beq,List.any_eq_false];intro e d;obtain⟨a,b,rfl⟩:=List.getElem_of_mem d;have:=h a b;simp[List.getD,b]at this;simp;omega
theorem TX (a:n<r.length) (h:(r[n] == c)=true):r.contains c=true:=by simp at h;subst h;simp
theorem Yo (l) (b:List Int) (e:Int) (f:Bool) (n:Hd (b.contains e=f)) (w) (t:Sl .i64 w l b) :
 Calls prog 202 #[l,iV e] w (h3 (.bool f) w):=by
 obtain⟨x,z,rfl,y,i,p⟩:=t;obtain⟨i,_⟩:=i;unfold maxLen at i;have m:=lh p;clear p;go_enter func202,ntmps202;go_wp2
 go_loop [5] (fun j=>∃a:Nat,a<=b.length/\j=iV a/\Hd (∀c,c<a->(b.getD c 0 == e)=false)) (fun j=>b.length-(intOf j).toNat)
 case atStart=>exact⟨0,Nat.zero_le _,rfl,fun c g=>absurd g om⟩
 case round =>
  obtain⟨a,v,rfl,o⟩:=hrel;by_cases d:a<b.length
  ·obtain⟨B,u,rfl,r⟩:=m.o (by intro h;rw[h]at d;simp at d);have A:=r a d;clear r m;go_wp2
   ·go_ret;have h:(b[a] == e)=true:=by assumption
    have k:f=true:=by rw[<-n.o];exact TX d h
    subst k;exact h3.mk _ _
   ·have h:(b[a] == e)=false:=by assumption
    go_round
    case rel=>exact⟨a+1,d,by go_num,fun c g=>by
     rcases Nat.lt_succ_iff_lt_or_eq.1 g with s | rfl;·exact o.o c s
     ·simpa[List.getD,d] using h⟩
    case measure=>simp[intOf];omega
  ·have k:f=false:=by rw[<-n.o];exact jf0 fun c g=>o.o c om
   subst k;go_wp2;go_ret;exact h3.mk _ _
end Go.Proofs.YtkongpjpkpfniaaGreat

/- TopBooks, a part. -/
import Derived.Deep.RegionHeld
import Derived.OrdersHeld
import Derived.OrdersIn
import Derived.RangeFuncBound
import Derived.RangeFuncCalls
import Derived.RangeFuncLeaves
import Derived.RangeFuncWrites
import Derived.LoopIn
import Derived.LoopNIn
import Derived.OwnWalkIn
import Derived.RangeFuncNested
import Derived.Shelf.Abstract
import Derived.Shelf.RegionOpen
import Derived.TacticsInMore
import Derived.Test.YtkongpjpkpfniaaGreatC05
set_option linter.unusedVariables false
set_option linter.unusedSimpArgs false
set_option maxRecDepth 100000
set_option maxHeartbeats 6400000
namespace Go.Proofs.YtkongpjpkpfniaaGreat
open Go.RowKit Go.Proofs.Tryz
variable {D:Bool} {K:IntKind} {r:List Int} {F:List Nat} {C X:List Value} {i j k m n:Nat} {p q:Prop} {e:TypeId} {v:Value} {W Y Z w:World}
theorem Qj (h:q:=by clear jK jL jM nK nL nM;refine r4 kr ?_ _;go_wp2_with fail;go_meet;case rel=>exact⟨bG.heap.size,_,_,_,fY,rfl,rfl,rfl,rfl,⟨(((fS.set 0 _).set 1 _).set 2 _),Sl.keep (F:=[bG.heap.size]) fC.1 (((((hC.refl _ _).sg _).sg _).sg _)) fD.1,Sl.keep (F:=[bG.heap.size]) fC.2.1 (((((hC.refl _ _).sg _).sg _).sg _)) fD.2.1,⟨h9.keep (F:=[bG.heap.size]) fC.2.2.1 (((((hC.refl _ _).sg _).sg _).sg _)) fD.2.2.2,Fl.keep (F:=[bG.heap.size]) fC.2.2.2 (((((hC.refl _ _).sg _).sg _).sg _)) fD.2.2.1⟩⟩,⟨iM.o,j4.o⟩,(((j7.setCell iM.o _).setCell iM.o _).setCell iM.o _)⟩):q:=h
theorem P4 (h:q:=by clear jK jL jM nK nL nM;refine r4 kr ?_ _;go_wp2_with fail;go_meet;case rel=>exact⟨aY.heap.size,_,_,_,fY,rfl,rfl,rfl,rfl,⟨(((fS.set 0 _).set 1 _).set 2 _),Sl.keep (F:=[aY.heap.size]) fC.1 (((((hC.refl _ _).sg _).sg _).sg _)) fD.1,Sl.keep (F:=[aY.heap.size]) fC.2.1 (((((hC.refl _ _).sg _).sg _).sg _)) fD.2.1,⟨h9.keep (F:=[aY.heap.size]) fC.2.2.1 (((((hC.refl _ _).sg _).sg _).sg _)) fD.2.2.2,Fl.keep (F:=[aY.heap.size]) fC.2.2.2 (((((hC.refl _ _).sg _).sg _).sg _)) fD.2.2.1⟩⟩,⟨iM.o,j4.o⟩,(((j7.setCell iM.o _).setCell iM.o _).setCell iM.o _)⟩):q:=h
theorem Su (h:q:=by clear jK jL jM nK nL nM;refine r4 kr ?_ _;go_wp2_with fail;go_meet;case rel=>exact⟨bj.heap.size,_,_,_,fY,rfl,rfl,rfl,rfl,⟨(((fS.set 0 _).set 1 _).set 2 _),Sl.keep (F:=[bj.heap.size]) fC.1 (((((hC.refl _ _).sg _).sg _).sg _)) fD.1,Sl.keep (F:=[bj.heap.size]) fC.2.1 (((((hC.refl _ _).sg _).sg _).sg _)) fD.2.1,⟨h9.keep (F:=[bj.heap.size]) fC.2.2.1 (((((hC.refl _ _).sg _).sg _).sg _)) fD.2.2.2,Fl.keep (F:=[bj.heap.size]) fC.2.2.2 (((((hC.refl _ _).sg _).sg _).sg _)) fD.2.2.1⟩⟩,⟨iM.o,j4.o⟩,(((j7.setCell iM.o _).setCell iM.o _).setCell iM.o _)⟩):q:=h
theorem Kw (h:q:=by
 go_region
 all_goals
  go_wp2_with fail;go_meet;case rel=>exact⟨_,rfl,(hR bN _ _ _ rfl).B (hG bR),nr _,hG (hB bR _)⟩):q:=h
theorem QE (h:q:=by
 go_wp2_with fail;all_goals go_meet
 all_goals (case rel=>exact⟨rfl,rfl⟩)):q:=h
theorem R0 (h:q:=by go_wp2_with fail;simp only[Exit.jump];go_ret2;exact⟨by rw[<-lJ.1,<-lJ.2];rfl,hB dc.o _⟩):q:=h
theorem RZ (h:q:=by clear fp ch;go_wp2_with fail;go_step3;refine⟨rfl,dM.o _ _ ⟨k+1,d',_,_,_,_,_,_,_,_,_,_,_,_,_,_,_,_,_,_,_,_,_,_,_,_,_,_,_,_,_,_,_,_,_,_,_,_,_,_,_,_,_,_,_,_,_,rfl,⟨oo bz.o,oo bz.o,oo bz.o⟩,ia,hB dc.o _⟩ ?_⟩;exact Dh bz.1):q:=h
def Fl (g a:Nat) (w:World) (k:Value) (d:List Value):Prop :=
 d.length=a*g/\(∀j∈d,j.oneCell'=true)/\∃c b,k=.slice c a b/\a<=b/\(b<=maxLen/\(c=none->b=0)) /\
  (0<a->∃f i,c=some (Ad f i)/\∀e,e<a*g->w.cell? (Ad f (i+e))=d[e]?)
def hL (c:List Nat) (e:Value):Prop:=∀b f a d,e=sL b f a d->0<a->b∉c
structure hC (F:List Nat) (w w':World):Prop where
 os:w'.os=w.os
 tape:w'.tape=w.tape
 output:w'.output=w.output
 size:w.heap.size<=w'.heap.size
 block:∀k,k<w.heap.size->k∉F->w'.heap[k]?=w.heap[k]?
theorem hC.refl (a:List Nat) (w):hC a w w:=⟨rfl,rfl,rfl,nr _,fun _ _ _=>rfl⟩
theorem hC.of_below (h:BW w W):hC F w W:= ⟨h.os,h.tape,h.output,h.size,fun b a _=>h.block b a⟩
theorem hC.trans {F':List Nat} (h:hC F W Y) (a:hC F' Y Z) (i:∀c∈F',c∈F\/W.heap.size<=c):hC F W Z:=
 ⟨a.os.trans h.os,a.tape.trans h.tape,a.output.trans h.output,nt h.size a.size,fun b e f=>(a.block b (Nat.lt_of_lt_of_le e h.size) (fun g=>by
  rcases i b g with d | d;·exact f d
  ·omega)).trans (h.block b e f)⟩
theorem hC.B (h:hC F W Y) (a:BW Y Z):hC F W Z:=
 h.trans (hC.of_below (F:=[]) a) (fun c b=>by cases b)
theorem hC.mono {F':List Nat} (h:hC F W Y) (f:∀b∈F,b∈F'):hC F' W Y:= ⟨h.os,h.tape,h.output,h.size,fun a c e=>h.block a c (fun d=>e (f a d))⟩
theorem hC.setCell (h:hC F W Y) (g:n∈F\/W.heap.size<=n) (c):hC F W (Y.setCell (Ad n i) c):=
 ⟨h.os,h.tape,h.output,by simpa[World.setCell] using h.size,fun a f e=>(heap_setCell_other Y (Ad n i) a c (fun b=>by
  rcases g with d | d;·exact e (b▸d)
  ·have:a=n:=b
   omega)).trans (h.block a f e)⟩
theorem hC.alloc (h:hC F W Y) (a:Obj):hC F W (Y.alloc a):=h.B (hB bR a)
theorem hC.drew (h:hC F W Y):hC F W Y.drew:=h.B (hG bR)
theorem hC.grown (h:hC F W Y) {c:Option Nat} (b:Y.grownBy Z c) (g:∀a,c=some a->a∈F\/W.heap.size<=a):hC F W Z:=
 h.trans ⟨b.os,b.tape,b.output,b.size,fun a e i=>b.block a e (fun d=>i (by rw[<-d];simp))⟩ (F':=c.toList) (fun f j=>g f (by cases c <;> simp_all))
theorem hC.to_below (h:hC F w W) {B:Nat} (f:B<=w.heap.size) (d:∀b∈F,B<=b):Below B w W:=
 ⟨h.os,h.tape,h.output,h.size,fun a e=>h.block a om (fun c=>oo (d a c))⟩
theorem hC.cell (h:hC F w W) (b:w.cell? (Ad n m)=some v) (c:n∉F):W.cell? (Ad n m)=some v:=
 (World.cell?_of_block (w:=w) (a:=(Ad n m)) (h.block n (ht b) c)).trans b
theorem hA.keep (h:hA w n e C) (a:hC F w W) (b:n∉F):hA W n e C:=(a.block n h.lt b).trans h
theorem hL.mono {F':List Nat} (h:hL F v) (j:∀b∈F',b∈F):hL F' v:= fun a e c d g i f=>h a e c d g i (j a f)
theorem hL.nil (b:List Nat) (a:Option Addr) (c:Nat):hL b (.slice a 0 c):=fun f i e g d j=>by cases d;omega
theorem Fl.nil:Fl n 0 w (sZ) []:= ⟨by simp,by simp,none,0,rfl,nr _,⟨by simp[maxLen],fun _=>rfl⟩,fun h=>absurd h (Nat.lt_irrefl 0)⟩
theorem Fl.shape (h:Fl n m w v C):∃a b,v=.slice a m b:=by obtain⟨_,_,a,b,rfl,_⟩:=h;exact⟨a,b,rfl⟩
theorem Fl.len {b:Option Addr} (h:Fl n m w (.slice b k i) C):k=m/\m<=i/\i<=maxLen/\(b=none->m=0/\i=0):=by obtain⟨_,_,e,f,a,d,c,_⟩:=h;cases a;exact⟨rfl,d,c.1,fun a=>oo (c.2 a)⟩
theorem Fl.at {d:Option Addr} (h:Fl n m w (.slice d m k) C) (e:i<m*n) :
 ∃a b,d=some (Ad a b)/\w.cell? (Ad a (b+i))=C[i]?:=by
 obtain⟨_,_,l,p,c,o,j,f⟩:=h;cases c;obtain⟨a,b,rfl,g⟩:=f (Nat.pos_of_ne_zero (fun c=>by subst c;simp at e));exact⟨a,b,rfl,g i e⟩
theorem Fl.B (h:Fl n m w v C) (f:BW w W):Fl n m W v C:=by obtain⟨l,k,g,j,rfl,i,e,o⟩:=h;refine⟨l,k,g,j,rfl,i,e,fun s=>?_⟩;obtain⟨d,c,rfl,u⟩:=o s;refine⟨d,c,rfl,fun a r=>?_⟩;have t:C[a]?=some (C[a]' om):=List.getElem?_eq_getElem _;have b:=u a r;rw[t]at b ⊢;exact(f.cell (p:=(Ad d (c+a))) (ht b)).trans b
theorem Fl.keep (h:Fl n m w v C) (i:hC F w W) (p:hL F v):Fl n m W v C:=by obtain⟨r,o,j,l,rfl,k,f,s⟩:=h;refine⟨r,o,j,l,rfl,k,f,fun e=>?_⟩;obtain⟨d,b,rfl,x⟩:=s e;have g:=p d b _ _ rfl e;refine⟨d,b,rfl,fun a t=>?_⟩;have u:C[a]?=some (C[a]' om):=List.getElem?_eq_getElem _;have c:=x a t;rw[u]at c ⊢;exact i.cell c g
theorem Sl.keep (h:Sl K w v r) (f:hC F w W) (k:hL F v):Sl K W v r:=by obtain⟨g,j,rfl,i,d,l⟩:=h;refine⟨g,j,rfl,i,d,fun c=>?_⟩;obtain⟨b,a,rfl,o⟩:=l c;have e:=k b a _ _ rfl (List.length_pos_iff.2 c);exact⟨b,a,rfl,fun n m=>f.cell (o n m) e⟩
theorem Fl.news {d:Option Addr} (h:Fl n m w (.slice d m k) C) :
 ∀c,d=some c->∀a b,C[a]?=some b->w.cell? (c.add a)=some b:=by
 intro c f a b e;have g:a<m*n:=o2 ((List.getElem?_eq_some_iff.1 e).1) h.1;obtain⟨l,o,i,j⟩:=h.at g;rw[i]at f;obtain rfl:=Option.some.inj f;rw[Addr.add_lit,j,e]
theorem Fl.of_own (h:w.ownsRow k e n v m C) (g:∀p∈C,p.oneCell'=true):Fl n m w v C:=by
 have cx:=h.1;rcases h.2 with⟨rfl,rfl⟩ | ⟨b,t,a,rfl,s,f,i,d,u,j⟩;·obtain rfl:C=[]:=List.eq_nil_of_length_eq_zero Hw;exact Fl.nil
 ·refine⟨cx,g,_,_,rfl,i,⟨d,fun h=>by cases h⟩,fun _=>⟨b,0,rfl,fun c l=>?_⟩⟩;have r:hA w b e a.toList:=by simpa[hA] using f
  have o:(a.toList.take (m*n))[c]?=a.toList[c]?:=List.getElem?_take_of_lt l;rw[r.cell,Nat.zero_add,<-o,j]
theorem BY (h:w.ownsRow k e n v m C):∀a f c d,v=sL a f c d->k<=a:=by
 intro a f c d b;rcases h.2 with⟨rfl,_⟩ | ⟨j,l,i,rfl,g,_⟩;·cases b
 ·cases b;exact g
def FF (g:TypeId) (f d:Nat) (e:List Value) (w:World) (c:Ending) (b:World):Prop :=
 ∃a,c=.returned a/\b.ownsRow w.heap.size g f a d e/\BW w b
theorem hC.sg (h:hC (n::F) W Y) (a):hC (n::F) W (Y.setCell (Ad n m) a):=h.setCell (.inl (me ..)) a
theorem UF:(prog.info? 81).map (fun a=>(a.zero,a.size,a.bytes))=some (some (.agg #[iZ,.bool false]),2,16):=by kernel_rfl
theorem VC (f) (a:Nat) (cs:List Value) (w) (j:Fl 2 a w f cs) (D:a<=100000) :
 Calls prog 28 #[f] w (FF 81 2 a cs w):=by
 have br:=lh j;obtain⟨i,g,o,r,rfl,C,⟨l,y⟩,v⟩:=j;clear v y;unfold maxLen at l;have B:∀(w:World) (b:Option Addr) (a e c d:Nat),(binOp .eql 22 (.slice b a e) (.slice none c d)).run prog w=.ok (.bool b.isNone) w:=fun w b a e c d=>Lib.run_eql_slice_nil w _ _ b a e c d underlying22;obtain⟨t,x,m,s,u⟩:=info_parts UF;have bp:=lh (An i g);clear i g;cases o with
 | none =>
  refine Nn ?_;unhygienic intros
  go_enter func28,ntmps28;exact I1
 | some b =>
  go_enter func28,ntmps28
  go_wp2_with (at_builtin;refine Ba _ rfl (.tmp 5) (.tmp 6) 22 rfl w.heap.size 81 t (.agg #[iZ,.bool false]) 2 16 underlying22 x m s u rfl Iv _ 0 [] rfl (D9 w _) (some b) a r cs rfl bp.1 (fun h=>by cases h) (br.B (hB bR _)).news bp.2 RD om x1 ?_;intro A z lL gN n;clear n)
  exact MP
theorem GQ:(prog.info? 150).map (fun a=>(a.zero,a.size,a.bytes))=some (some (.agg #[iZ,iZ,iZ,iZ,iZ]),5,40):=by kernel_rfl
theorem V3 (f) (a:Nat) (cs:List Value) (w) (j:Fl 5 a w f cs) (D:a<=100000) :
 Calls prog 130 #[f] w (FF 150 5 a cs w):=by
 have br:=lh j;obtain⟨i,g,o,r,rfl,C,⟨l,y⟩,v⟩:=j;clear v y;unfold maxLen at l;have B:∀(w:World) (b:Option Addr) (a e c d:Nat),(binOp .eql 53 (.slice b a e) (.slice none c d)).run prog w=.ok (.bool b.isNone) w:=fun w b a e c d=>Lib.run_eql_slice_nil w _ _ b a e c d underlying53;obtain⟨t,x,m,s,u⟩:=info_parts GQ;have bp:=lh (An i g);clear i g;cases o with
 | none =>
  refine Nn ?_;unhygienic intros
  go_enter func130,ntmps130;exact I1
 | some b =>
  go_enter func130,ntmps130
  go_wp2_with (at_builtin;refine Ba _ rfl (.tmp 5) (.tmp 6) 53 rfl w.heap.size 150 t (.agg #[iZ,iZ,iZ,iZ,iZ]) 5 40 underlying53 x m s u rfl Iv _ 0 [] rfl (D9 w _) (some b) a r cs rfl bp.1 (fun h=>by cases h) (br.B (hB bR _)).news bp.2 RD om x1 ?_;intro A z lL gN n;clear n)
  exact MP
theorem Zp:(prog.info? 155).map (fun a=>(a.zero,a.size,a.bytes))=some (some (.agg #[iZ,iZ,iZ,iZ,iZ]),5,40):=by kernel_rfl
theorem yqf (f) (a:Nat) (cs:List Value) (w) (j:Fl 5 a w f cs) (D:a<=100000) :
 Calls prog 68 #[f] w (FF 155 5 a cs w):=by
 have br:=lh j;obtain⟨i,g,o,r,rfl,C,⟨l,y⟩,v⟩:=j;clear v y;unfold maxLen at l;have B:∀(w:World) (b:Option Addr) (a e c d:Nat),(binOp .eql 36 (.slice b a e) (.slice none c d)).run prog w=.ok (.bool b.isNone) w:=fun w b a e c d=>Lib.run_eql_slice_nil w _ _ b a e c d underlying36;obtain⟨t,x,m,s,u⟩:=info_parts Zp;have bp:=lh (An i g);clear i g;cases o with
 | none =>
  refine Nn ?_;unhygienic intros
  go_enter func68,ntmps68;exact I1
 | some b =>
  go_enter func68,ntmps68
  go_wp2_with (at_builtin;refine Ba _ rfl (.tmp 5) (.tmp 6) 36 rfl w.heap.size 155 t (.agg #[iZ,iZ,iZ,iZ,iZ]) 5 40 underlying36 x m s u rfl Iv _ 0 [] rfl (D9 w _) (some b) a r cs rfl bp.1 (fun h=>by cases h) (br.B (hB bR _)).news bp.2 RD om x1 ?_;intro A z lL gN n;clear n)
  exact MP
theorem XC:(prog.info? 65).map (fun a=>(a.zero,a.size,a.bytes))=some (some (.agg #[iZ,iZ,iZ]),3,24):=by kernel_rfl
theorem Yh (f) (a:Nat) (cs:List Value) (w) (j:Fl 3 a w f cs) (D:a<=100000) :
 Calls prog 80 #[f] w (FF 65 3 a cs w):=by
 have br:=lh j;obtain⟨i,g,o,r,rfl,C,⟨l,y⟩,v⟩:=j;clear v y;unfold maxLen at l;have B:∀(w:World) (b:Option Addr) (a e c d:Nat),(binOp .eql 41 (.slice b a e) (.slice none c d)).run prog w=.ok (.bool b.isNone) w:=fun w b a e c d=>Lib.run_eql_slice_nil w _ _ b a e c d underlying41;obtain⟨t,x,m,s,u⟩:=info_parts XC;have bp:=lh (An i g);clear i g;cases o with
 | none =>
  refine Nn ?_;unhygienic intros
  go_enter func80,ntmps80;exact I1
 | some b =>
  go_enter func80,ntmps80
  go_wp2_with (at_builtin;refine Ba _ rfl (.tmp 5) (.tmp 6) 41 rfl w.heap.size 65 t (.agg #[iZ,iZ,iZ]) 3 24 underlying41 x m s u rfl Iv _ 0 [] rfl (D9 w _) (some b) a r cs rfl bp.1 (fun h=>by cases h) (br.B (hB bR _)).news bp.2 RD om x1 ?_;intro A z lL gN n;clear n)
  exact MP
theorem yzd:(prog.info? 175).map (fun a=>(a.zero,a.size,a.bytes))=some (some (.agg #[iZ,iZ,iZ,iZ,iZ,iZ,iZ,iZ,iZ]),9,72):=by kernel_rfl
theorem GX:(prog.info? 43).map (fun a=>(a.zero,a.size,a.bytes))=some (some (.agg #[iZ,iZ,iZ,iZ,sZ,iZ,iZ,iZ,.bool false]),9,88):=by kernel_rfl
theorem X8 (f) (a:Nat) (cs:List Value) (w) (j:Fl 9 a w f cs) (D:a<=100000) :
 Calls prog 83 #[f] w (FF 43 9 a cs w):=by
 have br:=lh j;obtain⟨i,g,o,r,rfl,C,⟨l,y⟩,v⟩:=j;clear v y;unfold maxLen at l;have B:∀(w:World) (b:Option Addr) (a e c d:Nat),(binOp .eql 61 (.slice b a e) (.slice none c d)).run prog w=.ok (.bool b.isNone) w:=fun w b a e c d=>Lib.run_eql_slice_nil w _ _ b a e c d underlying61;obtain⟨t,x,m,s,u⟩:=info_parts GX;have bp:=lh (An i g);clear i g;cases o with
 | none =>
  refine Nn ?_;unhygienic intros
  go_enter func83,ntmps83;exact I1
 | some b =>
  go_enter func83,ntmps83
  go_wp2_with (at_builtin;refine Ba _ rfl (.tmp 5) (.tmp 6) 61 rfl w.heap.size 43 t (.agg #[iZ,iZ,iZ,iZ,sZ,iZ,iZ,iZ,.bool false]) 9 88 underlying61 x m s u rfl Iv _ 0 [] rfl (D9 w _) (some b) a r cs rfl bp.1 (fun h=>by cases h) (br.B (hB bR _)).news bp.2 RD om x1 ?_;intro A z lL gN n;clear n)
  exact MP
structure R5 where
 a:Int
 b:Int
 c:Int
 d:Int
 e:Int
variable {l:List R5} {E:R5}
def R5.cells (a:R5):List Value:=[iV a.a,iV a.b,iV a.c,iV a.d,iV a.e]
def k8 (a:List R5):List Value:=a.flatMap R5.cells
def Sk:R5:=⟨0,0,0,0,0⟩
theorem Cq (a b:List R5):k8 (a++b)=k8 a++k8 b:=by simp[k8]
theorem DU (c:List R5):∀a∈k8 c,a.oneCell'=true:=by intro a b;simp only[k8,R5.cells,List.mem_flatMap,mc,nn,or_false]at b;obtain⟨d,_,rfl | rfl | rfl | rfl | rfl⟩:=b <;> rfl
theorem DJ (a:List R5):(k8 a).length=a.length*5:=by
 induction a with
 | nil=>rfl
 | cons b a d=>have c:k8 (b::a)=b.cells++k8 a:=rfl;rw[c,la,d,List.length_cons];show 5+_=_;omega
theorem Jg (b:List R5) (a:Nat) (aA:a<b.length):(k8 b)[a*5]?=some (iV (b.getD a Sk).a)/\(k8 b)[a*5+1]?=some (iV (b.getD a Sk).b)/\(k8 b)[a*5+2]?=some (iV (b.getD a Sk).c)/\(k8 b)[a*5+3]?=some (iV (b.getD a Sk).d)/\(k8 b)[a*5+4]?=some (iV (b.getD a Sk).e):=by
 induction b generalizing a with
 | nil=>simp at aA
 | cons c b e =>
  have f:k8 (c::b)=iV c.a::iV c.b::iV c.c::iV c.d::iV c.e::k8 b:=rfl;rw[f];cases a with
  | zero=>simp
  | succ a=>have h:=e a MV;have d:(a+1)*5=a*5+1+1+1+1+1:=om;rw[d];simpa using h
theorem Li (a:List R5) (c:Nat):(k8 a).drop (c*5)=k8 (a.drop c):=by
 induction c generalizing a with
 | zero=>simp
 | succ c e =>
  cases a with
  | nil=>simp[k8]
  | cons b a=>have f:k8 (b::a)=iV b.a::iV b.b::iV b.c::iV b.d::iV b.e::k8 a:=rfl;have d:(c+1)*5=c*5+1+1+1+1+1:=om;rw[f,d];simpa using e a
theorem PI (b:List R5) (c:Nat):(k8 b).take (c*5)=k8 (b.take c):=by
 induction c generalizing b with
 | zero=>simp[k8]
 | succ c e =>
  cases b with
  | nil=>simp[k8]
  | cons a b=>have f:k8 (a::b)=iV a.a::iV a.b::iV a.c::iV a.d::iV a.e::k8 b:=rfl;have g:k8 ((a::b).take (c+1))=iV a.a::iV a.b::iV a.c::iV a.d::iV a.e::k8 (b.take c):=rfl;have d:(c+1)*5=c*5+1+1+1+1+1:=om;rw[f,d,g];simpa using e b
def h4 (w:World) (b:Value) (a:List R5):Prop:=Fl 5 a.length w b (k8 a)
theorem h4.B (h:h4 w v l) (a:BW w W):h4 W v l:=Fl.B h a
theorem h4.keep (h:h4 w v l) (a:hC F w W) (b:hL F v):h4 W v l:=Fl.keep h a b
theorem h4.nil:h4 w (sZ) []:=Fl.nil
theorem h4.shape (h:h4 w v l):∃a b,v=.slice a l.length b:=Fl.shape h
theorem h4.get {d:Option Addr} (h:h4 w (.slice d n m) l) (t:i<l.length) :
 ∃b a c,d=some (Ad b a)/\(w.cell? (Ad b (a+i*5))=some (iV c.a)/\w.cell? (Ad b (a+i*5+1))=some (iV c.b)/\w.cell? (Ad b (a+i*5+2))=some (iV c.c)/\w.cell? (Ad b (a+i*5+3))=some (iV c.d)/\w.cell? (Ad b (a+i*5+4))=some (iV c.e))/\Hd (l.getD i Sk=c):=by
 obtain⟨rfl,_⟩:=Fl.len h;obtain⟨b,a,rfl,f⟩:=Fl.at h (i:=i*5) om;obtain⟨_,_,u,k⟩:=Fl.at h (i:=i*5+1) om;obtain⟨_,_,o,e⟩:=Fl.at h (i:=i*5+2) om;obtain⟨_,_,v,s⟩:=Fl.at h (i:=i*5+3) om;obtain⟨_,_,x,j⟩:=Fl.at h (i:=i*5+4) om;cases u;cases o;cases v;cases x;obtain⟨g0,r,g,y,p⟩:=Jg l i t;refine⟨b,a,l.getD i Sk,rfl,⟨f.trans g0,?_,?_,?_,?_⟩,rfl⟩;·rw[Nat.add_assoc];exact k.trans r
 ·rw[Nat.add_assoc];exact e.trans g
 ·rw[Nat.add_assoc];exact s.trans y
 ·rw[Nat.add_assoc];exact j.trans p
theorem h4.of_own (h:w.ownsRow n e 5 v m (k8 l)) (a:l.length=m):h4 w v l:=by subst a;exact Fl.of_own h (DU l)
def yej (first c:Int):List R5->Int->Int×Int
 | [],b=>(b,0)
 | a::d,b=>if a.a=2/\first<=a.b/\a.b<=c then (if a.d<0\/1000000000000000<a.d then (0,5) else yej first c d (min (b+a.d) 1000000000000000)) else yej first c d b
def Ex (a:Nat):Option Value->Nat
 | some (.int _ x)=>(a-x).toNat
 | _=>0
theorem Dh (h:n<m):Ex m (some (iV ((n:Int)+1)))<Ex m (some (iV (n:Int))):=by show((m:Int)-((n:Int)+1)).toNat<((m:Int)-(n:Int)).toNat;omega
theorem NB (a:n<l.length) (b:l.getD n Sk=E):l.drop n=E::l.drop (n+1):=by
 rw[List.drop_eq_getElem_cons a]
 congr 1
 rw[<-b];simp[List.getD,a]
theorem XA (first c:Int) (v) (av:List R5) (l:Int×Int) (aL:Hd (yej first c av 0=l)) (w) (aQ:h4 w v av) :
 Calls prog 219 #[iV first,iV c,v] w (RetB (.tuple #[iV l.1,iV l.2]) w):=by
 have aO:=lh aQ;obtain⟨a7,aK,rfl⟩:=aQ.shape;refine S1 ?_;intro gv ik il;clear aQ;obtain⟨e,f⟩:=l;simp only;go_enter func219,ntmps219;go_wp2_with fail;refine sq 0 (fun r aH=>∃(k:Nat) (d':Int) (ai Q a1 C M K au I X an aa z ag A G L ay D B Z x ao ar a0 aS az Y a4 T O ah ax V ac W al ad P am af aj ab y H J:Value),r={ tmps:=#[iV first,iV c,.slice a7 av.length aK,ai,Q,a1,C,M,iV d',iV (k:Int),K,au,I,X,an,aa,z,ag,A,G,L,ay,D,B,Z,x,ao,ar,a0,aS,az,Y,a4,T,O,ah,ax,V,ac,W,al,ad,P,am,af,aj,ab,y,H,J],defers:=[] }/\(k<=av.length/\0<=d'/\d'<=1000000000000000)/\Hd (yej first c (av.drop k) d'=(e,f))/\Hd (BW w aH))
  (fun r _=>Ex av.length r.tmps[9]?) rfl ?pass ?first
 case pass =>
  intro aT aU a aJ ae;obtain⟨k,d',a⟩:=a;obtain⟨ai,a⟩:=a;obtain⟨Q,a⟩:=a;obtain⟨a1,a⟩:=a;obtain⟨C,a⟩:=a;obtain⟨M,a⟩:=a;obtain⟨K,a⟩:=a;obtain⟨au,a⟩:=a;obtain⟨I,a⟩:=a;obtain⟨X,a⟩:=a;obtain⟨an,a⟩:=a;obtain⟨aa,a⟩:=a;obtain⟨z,a⟩:=a;obtain⟨ag,a⟩:=a;obtain⟨A,a⟩:=a;obtain⟨G,a⟩:=a;obtain⟨L,a⟩:=a;obtain⟨ay,a⟩:=a;obtain⟨D,a⟩:=a;obtain⟨B,a⟩:=a;obtain⟨Z,a⟩:=a;obtain⟨x,a⟩:=a;obtain⟨ao,a⟩:=a;obtain⟨ar,a⟩:=a;obtain⟨a0,a⟩:=a;obtain⟨aS,a⟩:=a;obtain⟨az,a⟩:=a;obtain⟨Y,a⟩:=a;obtain⟨a4,a⟩:=a;obtain⟨T,a⟩:=a;obtain⟨O,a⟩:=a;obtain⟨ah,a⟩:=a;obtain⟨ax,a⟩:=a;obtain⟨V,a⟩:=a;obtain⟨ac,a⟩:=a;obtain⟨W,a⟩:=a;obtain⟨al,a⟩:=a;obtain⟨ad,a⟩:=a;obtain⟨P,a⟩:=a;obtain⟨am,a⟩:=a;obtain⟨af,a⟩:=a;obtain⟨aj,a⟩:=a;obtain⟨ab,a⟩:=a;obtain⟨y,a⟩:=a;obtain⟨H,a⟩:=a;obtain⟨J,a⟩:=a;obtain⟨rfl,⟨aA,u,a3⟩,a5,dc⟩:=a;have dM:=lh ae;clear ae;by_cases aI:k=av.length
  ·subst aI;have E:Hd (d'=e/\0=f):=by
    have h:=a5.o;rw[List.drop_of_length_le (nr _)]at h;injection h with s aP;exact⟨s,aP⟩
   go_wp2_with fail;simp only[Exit.jump];go_ret2;exact⟨by rw[<-E.1,<-E.2];rfl,dc.o⟩
  ·have ch:k<av.length:=om;have aW:(k:Int)<av.length:=om;obtain⟨b,o,g,rfl,⟨aF,aB,a8,aC,aE⟩,a6⟩:=(aO.B dc.o).get ch;have fp:Hd ((if g.a=2/\first<=g.b/\g.b<=c then (if g.d<0\/1000000000000000<g.d then ((0:Int),(5:Int)) else yej first c (av.drop (k+1)) (min (d'+g.d) 1000000000000000)) else yej first c (av.drop (k+1)) d')=(e,f)):=by
    have h:=a5.o;rw[NB ch a6.o]at h;exact h
   refine Pp ?_;intro dO;have bz:=lh (An ch (An u a3));obtain⟨aG,ak,aV,d,aR⟩:=g;simp only at aF aB a8 aC aE fp;clear a6 aA u a3;by_cases aw:aG=2
   ·subst aw;by_cases n:first<=ak
    ·by_cases t:ak<=c
     ·by_cases i:d<0\/1000000000000000<d
      ·have lJ:Hd (0=e/\5=f):=by
        have h:=fp.o;rw[if_pos ⟨rfl,n,t⟩,if_pos i]at h;injection h with s aP;exact⟨s,aP⟩
       clear fp ch;rcases i with i | i;·exact R0
       ·have R:¬d<0:=om;exact R0
      ·obtain⟨j,S⟩:∃j,min (d'+d) 1000000000000000=j:=⟨_,rfl⟩;have ia:Hd (yej first c (av.drop (k+1)) j=(e,f)):=by
        have h:=fp.o;rw[if_pos ⟨rfl,n,t⟩,if_neg i,S]at h;exact h
       have R:¬d<0:=om;have a9:¬1000000000000000<d:=om;have aD:wrap64 (d'+d)=d'+d:=wi _ ⟨oo bz.o,oo bz.o⟩;have a2:=lh (An R (An a9 S));clear fp ch i;go_wp2_with fail
       ·have m:Hd (yej first c (av.drop (k+1)) 1000000000000000=(e,f)):=by
         have h:=ia.o;rwa [show j=1000000000000000 by have:=a2.2.2;omega]at h
        go_step3;exact⟨rfl,dM.o _ _ ⟨k+1,1000000000000000,_,_,_,_,_,_,_,_,_,_,_,_,_,_,_,_,_,_,_,_,_,_,_,_,_,_,_,_,_,_,_,_,_,_,_,_,_,_,_,_,_,_,_,_,_,rfl,⟨oo bz.o,by omega,by omega⟩,m,hB dc.o _⟩ (Dh bz.1)⟩
       ·have m:Hd (yej first c (av.drop (k+1)) (d'+d)=(e,f)):=by
         have h:=ia.o;rwa [show j=d'+d by have:=a2.2.2;omega]at h
        clear aD;go_step3;exact⟨rfl,dM.o _ _ ⟨k+1,d'+d,_,_,_,_,_,_,_,_,_,_,_,_,_,_,_,_,_,_,_,_,_,_,_,_,_,_,_,_,_,_,_,_,_,_,_,_,_,_,_,_,_,_,_,_,_,rfl,⟨oo bz.o,oo bz.o,by omega⟩,m,hB dc.o _⟩ (Dh bz.1)⟩
     ·have ia:Hd (yej first c (av.drop (k+1)) d'=(e,f)):=by
       have h:=fp.o;rwa [if_neg (fun h=>t h.2.2)]at h
      exact RZ
    ·have ia:Hd (yej first c (av.drop (k+1)) d'=(e,f)):=by
      have h:=fp.o;rwa [if_neg (fun h=>n h.2.1)]at h
     exact RZ
   ·have ia:Hd (yej first c (av.drop (k+1)) d'=(e,f)):=by
     have h:=fp.o;rwa [if_neg (fun h=>aw h.1)]at h
    exact RZ
 case first=>intro aJ aM F;have aN:=lh F;clear aM F;go_wp2_with fail;go_step3;go_step;go_step;exact aN.o _ _ ⟨0,0,_,_,_,_,_,_,_,_,_,_,_,_,_,_,_,_,_,_,_,_,_,_,_,_,_,_,_,_,_,_,_,_,_,_,_,_,_,_,_,_,_,_,_,_,_,rfl,⟨by omega,by omega,by omega⟩,aL.o,bR⟩
def CA (c first a:Int) (b:List R5):Bool×Int:=((yej first a b 0).2 == 0 && (decide (c<=0) || decide (c<=(yej first a b 0).1)),(yej first a b 0).2)
theorem WH (a first b:Int) (k) (c:List R5) (d:Bool×Int) (l:Hd (CA a first b c=d)) (w) (o:h4 w k c) :
 Calls prog 183 #[iV a,iV first,iV b,k] w (RetB (.tuple #[.bool d.1,iV d.2]) w):=by
 obtain⟨f,g⟩:=xg (yej first b c 0);have r:=lh g;have i:=l.o;unfold CA at i;rw[g]at i;subst i;obtain⟨m,j⟩:=f;simp only;obtain⟨q,e⟩:=xg ((j == 0 && (decide (a<=0) || decide (a<=m))));have n:=lh e;rw[e];clear g e l;go_enter func183,ntmps183;go_wp2_with fail;refine(XA first b _ c (m,j) r _ o).mono ?_;rintro _ s ⟨rfl,p⟩;simp only;go_wp2;all_goals
  go_ret2;refine⟨?_,p⟩;rw[<-n.o];simp[*]
noncomputable def p6 (b c:Int):Nat->Int->List (Int×Int)×Bool
 | 0,_=>([],false)
 | d+1,a=>if (nc a b).2≠0 then ([],false) else
  if (nc a b).1<c/\d≠0 then ((a,(nc a b).1)::(p6 b c d ((nc a b).1+1)).1,(p6 b c d ((nc a b).1+1)).2)
  else ([(a,(nc a b).1)],decide (a<=c) && decide (c<=(nc a b).1))
def t5 (b:List (Int×Int)):List Value:=b.flatMap fun a=>[iV a.1,iV a.2]
theorem NU (a b:List (Int×Int)):t5 (a++b)=t5 a++t5 b:=by simp[t5]
theorem Hh (c:List (Int×Int)):∀a∈t5 c,a.oneCell'=true:=by intro a b;simp only[t5,List.mem_flatMap,mc,nn,or_false]at b;obtain⟨d,_,rfl | rfl⟩:=b <;> rfl
theorem H6 (e c:Int) (a:Nat) (b:Int):(p6 e c a b).1.length<=a:=by
 induction a generalizing b with
 | zero=>simp[p6]
 | succ a d =>
  unfold p6;split;·simp
  ·split;·simpa using d _
   ·simp
theorem N8:(prog.info? 40).map (fun a=>(a.zero,a.size,a.bytes))=some (some (.agg #[iZ,iZ]),2,16):=by kernel_rfl
def Bo (i f c k e:Nat) (d:Int) (a:List (Int×Int)) (j:Bool) (g w:World):Prop :=
 ∃b,w.ownsRow f 40 2 b a.length (t5 a)/\hA w c 3 [iV d]/\hA w k 159 [b]/\hA w e 4 [.bool j]/\Below i g w
theorem hh {c:TypeId} (h:w.ownsRow n e i v k C) (a:hA w m c X) (d:c≠e):some m≠v.ownBlock:=by
 rcases h.2 with⟨rfl,_⟩ | ⟨j,l,o,rfl,g,f,_⟩;·simp[Value.ownBlock]
 ·intro b;simp only[Value.ownBlock,Option.some.injEq]at b;subst b;unfold hA at a;rw[f]at a;simp only[Option.some.injEq,Obj.cells.injEq]at a;exact d a.2.1.symm
theorem ic (h:w.ownsRow n e m v k C) (j:BW w W):W.ownsRow n e m v k C:=by
 refine⟨h.1,?_⟩;rcases h.2 with g | ⟨a,i,c,f,l,b,d⟩;·exact .inl g
 ·exact .inr ⟨a,i,c,f,l,(j.block a (Array.getElem?_eq_some_iff.1 b).1).trans b,d⟩
theorem p7 {a:Option Nat} (h:hA w n e C) (c:w.grownBy W a) (b:some n≠a):hA W n e C:=(c.block n h.lt b).trans h
theorem t1 (h:w.ownsRow n e m v k C) (f:some j≠v.ownBlock) (a):(w.setCell (Ad j i) a).ownsRow n e m v k C:=by
 refine⟨h.1,?_⟩;rcases h.2 with g | ⟨b,l,c,rfl,o,p,d⟩;·exact .inl g
 ·refine .inr ⟨b,l,c,rfl,o,?_,d⟩;rw[heap_setCell_other w (Ad j i) b a (fun e=>f (by simp[Value.ownBlock];exact e.symm))];exact p
theorem U5 {a b:Bool} (h:hA W n e [.bool D]) (c:a=b):hA (W.setCell (Ad n 0) (.bool a)) n e [.bool b]:=by subst c;exact h.set 0 _
theorem WP (w:World) (b a) (d:TypeId):∀e c,[b,a][e]?=some c->(w.alloc (.cells #[b,a] d)).cell? (((Ad w.heap.size 0):Addr).add e)=some c:=by intro e c f;have h:hA (w.alloc (.cells #[b,a] d)) w.heap.size d [b,a]:=heap_alloc_new w _;rw[Addr.add_lit,h.cell,Nat.zero_add];exact f
theorem R9 (n e d t:Int) (g j p b c:Nat) (m:List (Int×Int)) (ab:Bool) (a6:m.length<=1000) (a8:g<=b) (ao:g<=c) (Z:Bool) (K:Hd ((decide (e<=t) && decide (t<=d))=Z)) (T:Bool) (aL:Hd ((decide (d<t) && decide (n<300))=T)) (R w:World) (a2:g<=j/\j<=w.heap.size) (a0:Bo g j p b c t m ab R w) :
 Calls prog 153 #[iV n,.agg #[iV e,iV d],pV b,pV p,pV c] w (fun k M=>k=.returned (.bool T)/\Bo g j p b c t (m++[(e,d)]) Z R M/\(∀a,a<j->a≠b->a≠c->M.heap[a]?=w.heap[a]?)/\w.heap.size<=M.heap.size):=by
 obtain⟨O,aT,r,o,i,ac⟩:=a0;have G:=lh (hh aT o Iv);have aN:=lh (hh aT r Iv);have ak:=lh (hh aT i Iv);obtain⟨a5,aE,az,aJ,aC⟩:=info_parts N8;have u:p≠b:=by rintro rfl;unfold hA at r o;rw[r]at o;simp at o
 have y:p≠c:=by rintro rfl;unfold hA at r i;rw[r]at i;simp at i
 have v:b≠c:=by rintro rfl;unfold hA at o i;rw[o]at i;simp at i
 have B:=lh (An u (An y v));have ae:=lh r;have s:=lh o;have J:=lh i;have A:=lh aT;have a9:=lh ac;have bY:Hd (g<=w.heap.size):=by show g<=_;omega
 have aa:=lh a2;have aj:=s.cell 0;have ay:=s.lt;have E:=ae.cell 0;simp only[gz]at aj E;obtain⟨l,z⟩:=xg m.length;have am:=lh z;have a3:Hd (w.ownsRow j 40 2 O l (t5 m)):=by have:=A.o;rwa [z]at this
 rw[z]at a6;clear aT r o i ac u y v z;go_enter func153,ntmps153;have aF:Hd (hA ((w.alloc (.cells #[iV e,iV d] 40)).alloc (.cells #[iV e,iV d] 40)) w.heap.size 40 [iV e,iV d]):=hA.B (w3 w _ _ _ rfl) (hB bR _);have a7:Hd (some w.heap.size≠O.ownBlock):=fun k=>by have:=(A.lt _ k.symm).2;omega
 go_upto_region 2 with(at_builtin;refine BS _ rfl (.tmp 8) (.tmp 10) 159 rfl j 40 a5 (.agg #[iZ,iZ]) 2 16 underlying159 aE az aJ aC rfl Iv _ l (t5 m) rfl ((a3.alloc _).alloc _) (Ad (w.heap.size+1) 0) 1 1 [iV e,iV d] rfl rfl (by have h:=WP (w.alloc (.cells #[iV e,iV d] 40)) (iV e) (iV d) 40;simp only[wa]at h;exact h) (fun x S=>by simp at S;rcases S with rfl | rfl <;> rfl) RD om (by simp only[wa];have:=aa.o;omega) ?_;intro aS F H D an;clear an;obtain⟨P,I,rfl⟩:=ro H om;have Q:=lh H;have ai:=lh D;have aB:F.cell? (Ad b 0)=some O:=(p7 (s.B (hB (hB bR _) _)) D G.o).cell 0;have aw:=(p7 (s.B (hB (hB bR _) _)) D G.o).frozen 0;clear H D)
 have V:=lh (p7 aF.o ai.o a7.o);have L:=lh (p7 (s.B (hB (hB bR _) _)) ai.o G.o);have ad:=lh (p7 (ae.B (hB (hB bR _) _)) ai.o aN.o);have W:=lh (p7 (J.B (hB (hB bR _) _)) ai.o ak.o);have aM:w.heap.size+2<=F.heap.size:=by have:=ai.size;simp only[wa]at this;omega
 have ag:=lh (Below.grown ((a9.alloc bY.o _).alloc Gh _) ai.o (by simp only[wa];have:=bY.o;omega) (fun q aH=>o2 ((A.lt q aH).1) aa.o));obtain⟨u,y,v⟩:=B.o;have ah:w.heap.size≠b:=oo s.lt;obtain⟨f,af,aD,a1,Y,C,aA,X,ar,aK⟩:∃f,F.setCell (Ad b 0) (sL P 0 (l+1) I)=f/\Hd (hA f w.heap.size 40 [iV e,iV d])/\Hd (hA f b 159 [sL P 0 (l+1) I])/\Hd (hA f p 3 [iV t])/\Hd (hA f c 4 [.bool ab])/\Hd (Below g R f)/\Hd (f.ownsRow j 40 2 (sL P 0 (l+1) I) (l+1) (t5 (m++[(e,d)])))/\Hd (w.heap.size<=f.heap.size)/\Hd (∀a,a<j->a≠b->f.heap[a]?=w.heap[a]?) :=
  ⟨_,rfl,V.setOther ah _ _,L.set 0 _,ad.setOther u _ _,W.setOther (Ne.symm v) _ _,ag.setCell (show g<=b from a8) _,by
   rw[NU];exact t1 Q.o (hh Q.o L.o Iv) _,by show w.heap.size<=_;rw[World.size_setCell];omega,fun a aO al=>by
   rw[heap_setCell_other F (Ad b 0) a _ (fun k=>al k),ai.block a M3 (fun k=>oo ((A.lt a k.symm).1)),Below.heap_alloc _ _ _ x1,Below.heap_alloc _ _ _ om]⟩
 with_reducible rw[af]
 clear af ai Q aB aw V L ad W ag aM u y v ah aj ay E;obtain⟨aG,a4,-⟩:=aD.cs [0,1];have E:=Y.cell 0;have au:=C.cell 0;have aR:=C.frozen 0;simp only[gz,gs]at aG a4 E au;have aP:¬p=c:=B.2.1;have aQ:¬c=w.heap.size:=oo J.lt;have aU:¬w.heap.size=c:=oo J.lt;go_wp2_with fail;all_goals
  go_ret;refine⟨KI (by rw[<-aL.o];first | (simp[*];done) | (simp[*];omega) | (simp;omega)),⟨_,?_,Y.setOther B.2.1 _ _,a1.setOther B.2.2 _ _,U5 C.o (by rw[<-K.o];first | (simp[*];done) | (simp[*];omega) | (simp;omega)),aA.setCell (show g<=c from ao) _⟩,fun a aI K av=>(heap_setCell_other f (Ad c 0) a _ (fun k=>av k)).trans (aK.o a aI K),by rw[World.size_setCell];exact ar.o⟩;have ax:(m++[(e,d)]).length=l+1:=by rw[la,am.o];rfl
  rw[ax];exact t1 X.o (hh X.o C.o Iv) _
theorem S2 {q:Prop} (h:q:=by subst eG;exact bq.wpOp aA trivial ⟨fun es=>bS (by rw[getD_set_ne true (Ne.symm ng)]at es;exact es),H⟩):q:=h
theorem Po {q:Prop} (h:q:=by rw[rI.1,rI.2]at nm;obtain⟨ak,Z,ag,bK,dX,fH⟩:=nm;exact⟨_,rfl,ak,E0 Z om,ag,bK,dX,fH⟩):q:=h
theorem LA (b a:Int):(nc b a).1<=2932896:=by
 unfold nc;split;·simp
 ·split;·simp
  ·split;·simp
   ·simp;omega
theorem Iq {f cyc:Int} (h:(nc f cyc).2=0):f<=(nc f cyc).1 /\ -135140<=f/\f<=2932896/\1<=cyc/\cyc<=28:=by
 unfold nc at h ⊢;split;·rename_i b;rw[if_pos b]at h;cases h
 ·rename_i b;rw[if_neg b]at h;split;·rename_i a;rw[if_pos a]at h;cases h
  ·rename_i a;rw[if_neg a]at h;split;·rename_i c;rw[if_pos c]at h;cases h
   ·have d:=Dm (n:=f) om;have e:=d.hd;refine⟨?_,by omega⟩;show f<=Bs f cyc;unfold Bs;split <;> omega
def WY:Option Value->Nat
 | some (.int _ x)=>(300-x).toNat
 | _=>0
theorem Bo.B {b g i d j:Nat} {e:Int} {f:List (Int×Int)} {l:Bool} {k w c:World} (h:Bo b g i d j e f l k w) (a:BW w c) (o:b<=w.heap.size):Bo b g i d j e f l k c:=by obtain⟨n,s,m,u,r,t⟩:=h;exact⟨n,ic s a,m.B a,u.B a,r.B a,t.trans (a.mono o)⟩
theorem Bo.setOther {a c d b e:Nat} {j:Int} {k:List (Int×Int)} {m:Bool} {l w:World} (h:Bo a c d b e j k m l w) {g i:Nat} (t:d≠g) (n:b≠g) (v:e≠g) (r:a<=g) (B:g<c) (x):Bo a c d b e j k m l (w.setCell (Ad g i) x):=by obtain⟨o,f,y,s,z,u⟩:=h;exact⟨o,t1 f (fun A=>oo ((f.lt g A.symm).1)) _,y.setOther t _ _,s.setOther n _ _,z.setOther v _ _,u.setCell (show a<=g from r) _⟩
theorem Hp {b c a:Int} {d:Nat} (h:(nc a b).2≠0):p6 b c (d+1) a=([],false):=by rw[p6,if_pos h]
theorem FU {d b e a:Int} {c:Nat} (h:nc e d=(a,0)) (g:a<b) (f:c≠0):p6 d b (c+1) e=((e,a)::(p6 d b c (a+1)).1,(p6 d b c (a+1)).2):=by rw[p6,if_neg (by rw[h];simp),h,if_pos ⟨g,f⟩]
theorem Fj {e a b c:Int} {d:Nat} (h:nc b e=(c,0)) (f:¬(c<a/\d≠0)):p6 e a (d+1) b=([(b,c)],decide (b<=a) && decide (a<=c)):=by rw[p6,if_neg (by rw[h];simp),h,if_neg f]
theorem Vj (A al a:Int) (u:List (Int×Int)) (aQ:Bool) (aW:Hd (p6 al a 300 A=(u,aQ))) (j f ai d:Nat) (X:j<=ai) (M:j<=d) (t w:World) (m:j<=w.heap.size) (R:Bo j w.heap.size f ai d a [] false t w) :
 Calls prog 152 #[iV A,iV al,(.func (.func 153) #[] #[pV ai,pV f,pV d])] w (fun e J=>∃x,e=.returned (iV x)/\Bo j w.heap.size f ai d a u aQ t J):=by
 have be:=lh R;have n:ai<w.heap.size/\d<w.heap.size/\f<w.heap.size:=by obtain⟨ak,Z,ag,bK,dX,fH⟩:=R;exact⟨bK.lt,dX.lt,ag.lt⟩
 have v:=lh n;clear R n;go_enter func152,ntmps152;go_wp2_with fail;refine sq 0 (fun Y J=>∃(k:Nat) (dV q:Int) (b:List (Int×Int)) (aU aG a8 aX aZ a6 aM a5 aA aJ aD az aF a0 a4 a7 aS a2 a1 aC ax aK aL aV ay aT aB bd a9:Value),Y={ tmps:=#[aU,iV al,(.func (.func 153) #[] #[pV ai,pV f,pV d]),aG,a8,aX,iZ,iV (300-(k:Int)),pV w.heap.size,aZ,a6,aM,a5,aA,aJ,aD,az,aF,a0,a4,a7,aS,a2,a1,aC,ax,aK,aL,aV,ay,aT,aB,bd,a9],defers:=[] }/\(k<300/\b.length+k<=300)/\Hd (b++(p6 al a (k+1) dV).1=u/\(p6 al a (k+1) dV).2=aQ)/\Hd (hA J w.heap.size 40 [iV dV,iV q])/\Hd (Bo j (w.heap.size+1) f ai d a b false t J))
  (fun Y _=>WY Y.tmps[7]?) rfl ?pass ?first
 case pass =>
  intro bh bj z aR ar;obtain⟨k,dV,q,b,z⟩:=z;iterate 29 obtain⟨_,z⟩:=z
  obtain⟨rfl,⟨T,aa⟩,L,dc,cw⟩:=z;have aO:=lh ar;clear ar;obtain⟨y,o⟩:=xg (nc dV al);have bp:=lh o;obtain⟨aI,aN,-⟩:=dc.cs [0,1];have cC:=dc.frozen 1;simp only[gz,gs]at aI aN;have ae:=dc.lt;by_cases r:y.2=0
  ·obtain⟨l,e⟩:=y;simp only at r;subst r;have G:=LA dV al;have hge:=Iq (f:=dV) (cyc:=al) (by rw[o]);rw[o]at G hge;simp only at G hge;have af:wrap64 (l+1)=l+1:=wi _ ⟨by omega,by omega⟩;have ad:wrap64 (300-(k:Int)+1)=300-(k:Int)+1:=wi _ ⟨by omega,by omega⟩;obtain⟨W,C⟩:=xg ((decide (dV<=a) && decide (a<=l)));obtain⟨a3,E⟩:=xg ((decide (l<a) && decide ((300:Int)-(k:Int)<300)));have ao:=lh C;have aj:=lh E;have am:=lh o;have O:=lh (An T aa);have cX:=lh (An m (An X M));cases a3 with
   | true =>
    have B:l<a/\k≠0:=by simp at E;omega
    have aE:=lh B;have rI:Hd ((b++[(dV,l)])++(p6 al a k (l+1)).1=u/\(p6 al a k (l+1)).2=aQ):=by have h:=L.o;rw[FU am.o B.1 B.2]at h;show _/\_;rw[List.append_assoc];exact h
    have aP:W=false:=by rw[<-C];have:=B.1;simp;omega
    subst aP;clear o C E B G hge T aa m X M;go_wp2_with fail;refine Km ?_;clear aI aN cC ae;unhygienic intros
    go_upto_region 7 with fail;have n:=v.o;have m:=cX.o;obtain⟨c,D,H,ac,ab⟩:∃c,dm.setCell (Ad w.heap.size 1) (iV l)=c/\Hd (hA c w.heap.size 40 [iV dV,iV l])/\Hd (Bo j (w.heap.size+1) f ai d a b false t c)/\Hd (w.heap.size<c.heap.size) :=
     ⟨_,rfl,cA.set 1 _,gE.setOther om om om om om _,by show _<_;rw[World.size_setCell];exact er⟩
    with_reducible rw[D]
    clear D cA gE er aI gm aN cC n m;obtain⟨aI,aN,-⟩:=H.cS [0,1];go_wp2_with fail;refine(R9 _ dV l a j (w.heap.size+1) f ai d b false (oo O.o) cX.2.1 cX.2.2 false ao true aj t _ ⟨oo cX.o,ab.o⟩ ac.o).mono ?_;rintro _ an ⟨rfl,nm,av,aY⟩;have I:Hd (hA an w.heap.size 40 [iV dV,iV l]):=(av _ om (oo v.o) (oo v.o)).trans H.o;have K:=lh nm;clear nm av aY aI aN;have aI:=I.cell 0;have gm:=I.frozen 0;have aN:=I.cell 1;simp only[gz,gs]at aI aN;go_wp2_with fail;go_step3;obtain⟨s,rfl⟩:∃s,k=s+1:=⟨k-1,oo aE.o⟩;simp only[af,ad];clear af ad;have bi:=O.o;have n:=v.o;have m:=cX.o;have aH:(300-((s+1:Nat):Int)+1)=300-(s:Int):=om;refine⟨rfl,aO.o _ _ ⟨s,l+1,l,b++[(dV,l)],_,_,_,_,_,_,_,_,_,_,_,_,_,_,_,_,_,_,_,_,_,_,_,_,_,_,_,_,_,by rw[aH],⟨by omega,by simp;omega⟩,rI,I.set 0 _,K.setOther om om om om om _⟩ ?_⟩;show(300-(300-((s+1:Nat):Int)+1)).toNat<(300-(300-((s+1:Nat):Int))).toNat;omega
   | false =>
    have rI:Hd (b++[(dV,l)]=u/\W=aQ):=by have h:=L.o;rw[Fj am.o (by simp at E;omega),C]at h;exact h
    clear o C E G hge T aa m X M;go_wp2_with fail;refine Km ?_;clear aI aN cC ae;intro dm cA gE er gm cC aI aN;go_upto_region 7 with fail;have n:=v.o;have m:=cX.o;obtain⟨c,D,H,ac,ab⟩:∃c,dm.setCell (Ad w.heap.size 1) (iV l)=c/\Hd (hA c w.heap.size 40 [iV dV,iV l])/\Hd (Bo j (w.heap.size+1) f ai d a b false t c)/\Hd (w.heap.size<c.heap.size) :=
     ⟨_,rfl,cA.set 1 _,gE.setOther om om om om om _,by show _<_;rw[World.size_setCell];exact er⟩
    with_reducible rw[D]
    clear D cA gE er aI gm aN cC n m;obtain⟨aI,aN,-⟩:=H.cS [0,1];go_wp2_with fail;refine(R9 _ dV l a j (w.heap.size+1) f ai d b false (oo O.o) cX.2.1 cX.2.2 W ao false aj t _ ⟨oo cX.o,ab.o⟩ ac.o).mono ?_;rintro _ an ⟨rfl,nm,_,_⟩;have K:=lh nm;clear nm aI aN;go_wp2_with fail;simp only[Exit.jump];go_ret;have nm:=K.o;exact Po
  ·have rI:Hd (b=u/\false=aQ):=by
    have h:=L.o;rw[Hp (by rw[o];exact r)]at h;show _/\_;simpa[eq_comm] using h
   have aw:(y.2 != 0)=true:=by simp[r]
   clear o r;have n:=v.o;obtain⟨au,bc⟩:=y;simp only at aw;go_wp2_with fail;refine(GW dV al (au,bc) bp _).mono ?_;rintro _ dm ⟨rfl,bT⟩;simp only;have cA:=lh (dc.B bT);have gE:=lh (cw.B bT om);clear bT aI aN cC;have aN:=cA.cell 1;have cC:=cA.frozen 1;simp only[gz,gs]at aN;go_wp2_with fail;simp only[Exit.jump];go_ret;have nm:=gE.setOther (g:=w.heap.size) (i:=1) om om om om om (iV au);exact Po
 case first =>
  intro aR a' ah;have bb:=lh ah;clear a' ah;go_wp2_with fail;go_step3;go_step;go_step;refine bb.o _ _ ⟨299,A,0,[],_,_,_,_,_,_,_,_,_,_,_,_,_,_,_,_,_,_,_,_,_,_,_,_,_,_,_,_,_,rfl,by simp,?_,w3 w [iV A,iZ] _ _ rfl,?_⟩;·have h:=aW.o;show _/\_;rw[h];exact⟨rfl,rfl⟩
  ·obtain⟨ak,Z,ag,bK,dX,fH⟩:=be.o;have F:=hB (Below.refl w.heap.size w) (.cells #[iV A,iZ] 40);rcases Z.2 with⟨rfl,_⟩ | ⟨g,bl,bf,rfl,bg,r,_⟩;·exact⟨sZ,World.ownsRow_nil _ _ _ _,ag.B F,bK.B F,dX.B F,fH.trans (F.mono m)⟩
   ·have:=(Array.getElem?_eq_some_iff.1 r).1;omega
theorem Jy (g d a:Int) (c:List (Int×Int)) (f:Bool) (t:Hd (p6 d a 300 g=(c,f))) (w:World) :
 Calls prog 109 #[iV g,iV d,iV a] w (fun s i=>∃b,s=.returned (.tuple #[b,.bool f])/\i.ownsRow w.heap.size 40 2 b c.length (t5 c)/\BW w i):=by
 go_enter func109,ntmps109;go_wp2_with fail;have j:Bo w.heap.size (((w.alloc (.cells #[iV a] 3)).alloc (.cells #[sZ] 159)).alloc (.cells #[.bool false] 4)).heap.size w.heap.size (w.heap.size+1) (w.heap.size+1+1) a [] false w (((w.alloc (.cells #[iV a] 3)).alloc (.cells #[sZ] 159)).alloc (.cells #[.bool false] 4)) :=
  ⟨sZ,World.ownsRow_nil _ _ _ _,hA.B (w3 w _ _ _ rfl) (hB (hB bR _) _),hA.B (w3 (w.alloc _) _ _ _ Is) (hB bR _),w3 ((w.alloc _).alloc _) _ _ _ Is,hB (hB (hB bR _) _) _⟩
 refine(Vj g d a c f t w.heap.size w.heap.size (w.heap.size+1) (w.heap.size+1+1) om om w _ M3 j).mono ?_;rintro _ y ⟨z,rfl,o⟩;clear j;obtain⟨b,e,n,m,k,l⟩:=o;simp only[wa]at e;have v:=lh e;have r:=lh l;have x:=m.cell 0;have u:=k.cell 0;simp only[gz]at x u;clear e n m k l;go_upto_region 4 with fail
 go_region
 all_goals
  go_wp2;go_ret2;exact⟨b,rfl,E0 v.o om,r.drew⟩
noncomputable def tt (a b c:Int):Int×Int :=
 if (nc a b).2≠0 then (0,(nc a b).2) else if (p6 b c 300 a).2=true then (((p6 b c 300 a).1.length:Nat),0) else (0,10)
theorem ID (f c j:Int) (i:Int×Int) (y:Hd (tt f c j=i)) (w) :
 Calls prog 63 #[iV f,iV c,iV j] w (RetB (.tuple #[iV i.1,iV i.2]) w):=by
 obtain⟨t,k⟩:=xg (nc f c);obtain⟨d,o,m⟩:=xh (p6 c j 300 f);have l:=lh k;have v:=lh m;have a:=y.o;unfold tt at a;rw[k,m]at a;simp only at a;obtain⟨r,s⟩:=t;clear k m;by_cases g:s=0
 ·subst g;rw[if_neg (by simp)]at a;cases o with
  | true=>rw[if_pos rfl]at a;subst a;go_enter func63,ntmps63;go_wp2_with fail;refine(GW _ _ (r,0) l _).mono ?_;rintro _ u ⟨rfl,b⟩;simp only;go_wp2_with fail;refine(Jy _ _ _ d true v _).mono ?_;rintro _ z ⟨x,rfl,e,n⟩;obtain⟨B,C,rfl⟩:=(Fl.of_own e (Hh _)).shape;clear e;go_wp2;go_ret2;exact⟨rfl,hJ b n⟩
  | false=>rw[if_neg (by simp)]at a;subst a;go_enter func63,ntmps63;go_wp2_with fail;refine(GW _ _ (r,0) l _).mono ?_;rintro _ u ⟨rfl,b⟩;simp only;go_wp2_with fail;refine(Jy _ _ _ d false v _).mono ?_;rintro _ z ⟨x,rfl,e,n⟩;clear e;go_wp2;go_ret2;exact⟨rfl,hJ b n⟩
 ·rw[if_pos g]at a;subst a;have A:(s != 0)=true:=by simp[g]
  clear g;go_enter func63,ntmps63;go_wp2_with fail;refine(GW _ _ (r,s) l _).mono ?_;rintro _ u ⟨rfl,b⟩;simp only;go_wp2;go_ret2;exact⟨rfl,b⟩
theorem UJ (d i c:Int) (a:List (Int×Int)) (m:Hd (p6 i c 300 d=(a,true))) (w:World) :
 Calls prog 88 #[iV d,iV i,iV c] w (fun j f=>∃b,j=.returned b/\f.ownsRow w.heap.size 40 2 b a.length (t5 a)/\BW w f):=by
 go_enter func88,ntmps88;go_wp2_with fail;refine(Jy _ _ _ a true m _).mono ?_;rintro _ n ⟨b,rfl,e,g⟩;have k:=lh e;have l:=lh g;clear e g;go_wp2;go_ret;exact⟨_,rfl,k.o,l.o⟩
section
variable {P:Program} {ops:Array Oper} {Q:Exit->Act->World->Prop} {md:Region.Mode} {S:World->Prop} {p:Nat}
def rr (P:Program) (md:Region.Mode) (ops:Array Oper) (Q:Exit->Act->World->Prop) (S:World->Prop) (p:Nat):Nat->Array Bool->Act->World->Prop
 | 0,a,b,w=>Region.ready md ops a=[]/\Q .normal b w
 | e+1,a,b,w =>
  (Region.ready md ops a=[]->Q .normal b w) /\
  ∀c∈Region.ready md ops a,wpOp P ops Q c (fun f d=>((a.setIfInBounds c true).getD p true=false->S d)/\rr P md ops Q S p e (a.setIfInBounds c true) f d) b w
theorem J5:∀(a:Nat) (b:Array Bool) (c:Act) (w:World),rr P md ops Q S p a b c w->wpAny P md ops Q a b c w
 | 0,_,_,_,h=>h
 | a+1,_,_,_,h=>⟨h.1,fun g i=>wpOp_mono (fun f e d=>J5 a _ f e d.2) (h.2 g i)⟩
def E8 (md:Region.Mode) (ops:Array Oper) (p b:Nat):Bool:=((ops[p]?).map (·.after.any fun a=>a.on == b && Region.binds md a)).getD false
theorem Nv {p e:Nat} (h:E8 md ops p e=true):∃a,ops[p]?=some a/\∃b∈a.after,b.on=e/\Region.binds md b=true:=by
 unfold E8 at h;cases d:ops[p]? with
 | none=>rw[d]at h;cases h
 | some a=>rw[d]at h;simp only[Option.map_some,Option.getD_some,Array.any_eq_true']at h;obtain⟨b,f,c⟩:=h;simp at c;exact⟨a,rfl,b,f,c.1,c.2⟩
theorem VK {i:Nat} {eM:Oper} {g:Value} (aA:ops[i]?=some eM) (rp:∀(a8:Nat) (j:Oper) cs b,ops[a8]?=some j->j.op≠.select cs b)
 (s':∀n a w,Q (.panic n) (a.put eM.dst g) w->Q (.panic n) a w) (x:E8 md ops p i=true) :
 ∀(d:Nat) (dg:Array Bool) (a:Act) (w:World),
  (∀a8 fq,ops[a8]?=some fq->a8≠i->dg.getD a8 true=false->(∀I∈fq.after,Region.binds md I=true->I.on≠i)->eM.apart ops fq=true) ->
  i∈Region.ready md ops dg->dg.getD p true=false->YieldsIf P ops S eM g a->S w ->
  rr P md ops Q S p d (dg.setIfInBounds i true) (a.put eM.dst g) w->rr P md ops Q S p (d+1) dg a w:=by
 obtain⟨z,wC,bh,wD,wF,wE⟩:=Nv x;have ng:∀{l:Array Bool} {a8:Nat},l.getD i true=false->a8∈Region.ready md ops l->a8≠p:=fun {l a8} cx di I=>by exact F4
 intro d;induction d with
 | zero =>
  intro dg a w _ a9 qj bq e H;refine⟨fun h=>(by rw[h]at a9;cases a9),fun a8 di=>?_⟩;by_cases eG:a8=i;·subst eG;exact bq.wpOp aA e ⟨fun _=>e,H⟩
  ·have:=ready_mono di eG;rw[H.1]at this;cases this
 | succ d y =>
  intro dg a w nV a9 qj bq e H;refine⟨fun h=>(by rw[h]at a9;cases a9),fun a8 di=>?_⟩;by_cases eG:a8=i;·subst eG;exact bq.wpOp aA e ⟨fun _=>e,H⟩
  ·refine K2 ?_;intro Z mp fq lE n8 pE ag;have r:∀k c,ops[k]?=some c->k≠i->(dg.setIfInBounds a8 true).getD k true=false ->
    (∀I∈c.after,Region.binds md I=true->I.on≠i)->eM.apart ops c=true:=fun k c u t hun o=>by
    refine nV k c u t ?_ o;by_cases m:a8=k;·subst m;exact mp
    ·rw[getD_set_ne true m]at hun;exact hun
   refine PM ?_;intro qi oY;refine wpOp_mono (fun v s f=>⟨fun _=>f.2.1 oY,y (dg.setIfInBounds a8 true) v s r (ready_mono a9 (Ne.symm eG)) (by rw[getD_set_ne true qi];exact qj) f.1 (f.2.1 oY) ?_⟩) ag;rw[Array.setIfInBounds_comm _ _ eG];exact f.2.2
theorem Fm {i:Nat} {oi:Oper} {v:Value} {c:Nat} {b:Array Bool} {a:Act} {w:World} (e:ops[i]?=some oi)
 (n:Region.noSelect ops=true) (g:Region.free md ops b i=true) (m:(Region.ready md ops b).contains i=true) (f:E8 md ops p i=true) (j:b.getD p true=false)
 (o:∀d a w,Q (.panic d) (a.put oi.dst v) w->Q (.panic d) a w) (k:YieldsIf P ops S oi v a) (l:S w)
 (h:rr P md ops Q S p c (b.setIfInBounds i true) (a.put oi.dst v) w):rr P md ops Q S p (c+1) b a w :=
 VK e (Region.noSelect_spec n) o f c b a w (Region.free_spec e g) (ss m) j k l h
theorem Ve {i:Nat} {eM:Oper} {e:Value} (aA:ops[i]?=some eM) (rp:∀(a8:Nat) (m:Oper) cs b,ops[a8]?=some m->m.op≠.select cs b)
 (s':∀l a w,Q (.panic l) (a.put eM.dst e) w->Q (.panic l) a w) (ng:p≠i) :
 ∀(c:Nat) (dg:Array Bool) (a:Act) (w:World),
  (∀a8 fq,ops[a8]?=some fq->a8≠i->dg.getD a8 true=false->(∀I∈fq.after,Region.binds md I=true->I.on≠i)->eM.apart ops fq=true) ->
  i∈Region.ready md ops dg->YieldsIf P ops (fun _=>True) eM e a->(dg.getD p true=false->S w) ->
  rr P md ops Q S p c (dg.setIfInBounds i true) (a.put eM.dst e) w->rr P md ops Q S p (c+1) dg a w:=by
 intro c;induction c with
 | zero =>
  intro dg a w _ a9 bq bS H;refine⟨fun h=>(by rw[h]at a9;cases a9),fun a8 di=>?_⟩;by_cases eG:a8=i;·exact S2
  ·have:=ready_mono di eG;rw[H.1]at this;cases this
 | succ c v =>
  intro dg a w nV a9 bq bS H;refine⟨fun h=>(by rw[h]at a9;cases a9),fun a8 di=>?_⟩;by_cases eG:a8=i;·exact S2
  ·refine K2 ?_;intro Z mp fq lE n8 pE ag;have r:∀k d,ops[k]?=some d->k≠i->(dg.setIfInBounds a8 true).getD k true=false ->
    (∀I∈d.after,Region.binds md I=true->I.on≠i)->eM.apart ops d=true:=fun k d s t hun o=>by
    refine nV k d s t ?_ o;by_cases n:a8=k;·subst n;exact mp
    ·rw[getD_set_ne true n]at hun;exact hun
   refine wpOp_mono (fun u j f=>?_) ag;have g:(dg.setIfInBounds a8 true).getD p true=false->S j:=fun es=>f.2.1 (by
    rw[Array.setIfInBounds_comm _ _ (Ne.symm eG),getD_set_ne true (Ne.symm ng)]
    exact es)
   refine⟨g,v (dg.setIfInBounds a8 true) u j r (ready_mono a9 (Ne.symm eG)) f.1 g ?_⟩;rw[Array.setIfInBounds_comm _ _ eG];exact f.2.2
theorem GM {i:Nat} {oi:Oper} {v:Value} {c:Nat} {b:Array Bool} {a:Act} {w:World} (e:ops[i]?=some oi)
 (m:Region.noSelect ops=true) (g:Region.free md ops b i=true) (l:(Region.ready md ops b).contains i=true) (f:p≠i)
 (n:∀d a w,Q (.panic d) (a.put oi.dst v) w->Q (.panic d) a w) (j:YieldsIf P ops (fun _=>True) oi v a) (k:b.getD p true=false->S w)
 (h:rr P md ops Q S p c (b.setIfInBounds i true) (a.put oi.dst v) w):rr P md ops Q S p (c+1) b a w :=
 Ve e (Region.noSelect_spec m) n f c b a w (Region.free_spec e g) (ss l) j k h
theorem X2 {b:Nat} {e:Oper} {f:Nat} {d:Array Bool} {a:Act} {w:World} (i:Region.ready md ops d=[b]) (l:ops[b]?=some e)
 (h:∀c:Act->World->Prop,Shut (∀a w,((d.setIfInBounds b true).getD p true=false->S w)->rr P md ops Q S p f (d.setIfInBounds b true) a w->c a w)->if Region.wanted e (yielded ops a.tmps)=true then Oper.wp P e a w c Q else c (a.put e.dst undef) w):rr P md ops Q S p (f+1) d a w:=by
 refine⟨fun j=>(by rw[i]at j;cases j),fun o g=>?_⟩;rw[i]at g;obtain rfl:o=b:=ss g;exact wpOp_step l (fun c n=>h c (fun a w m k=>n a w ⟨m,k⟩))
def k0 (P:Program) (md:Region.Mode) (ops:Array Oper) (Q:Exit->Act->World->Prop) (S:World->Prop) (p:Nat) (d:Nat) (b:Array Bool) (g:Act) (w:World) (e:List Nat):Prop :=
 ∀a∈e,wpOp P ops Q a (fun f c=>((b.setIfInBounds a true).getD p true=false->S c)/\rr P md ops Q S p d (b.setIfInBounds a true) f c) g w
theorem k0.nil {a:Nat} {b:Array Bool} {c:Act} {w:World}:k0 P md ops Q S p a b c w []:=fun _ h=>by cases h
theorem k0.cons {e:Nat} {c:Array Bool} {a:Act} {w:World} {d:Nat} {o:Oper} {g:List Nat} (j:ops[d]?=some o)
 (h:∀b:Act->World->Prop,Shut (∀a w,((c.setIfInBounds d true).getD p true=false->S w)->rr P md ops Q S p e (c.setIfInBounds d true) a w->b a w)->if Region.wanted o (yielded ops a.tmps)=true then Oper.wp P o a w b Q else b (a.put o.dst undef) w)
 (m:k0 P md ops Q S p e c a w g):k0 P md ops Q S p e c a w (d::g):=fun n f=>by
 rcases mc.1 f with rfl | f;·exact wpOp_step j (fun b l=>h b (fun a w k i=>l a w ⟨k,i⟩))
 ·exact m n f
theorem BZ {rs:List Nat} {b:Nat} {a:Array Bool} {d:Act} {w:World} (c:Region.ready md ops a=rs) (e:rs≠[])
 (h:k0 P md ops Q S p b a d w rs):rr P md ops Q S p (b+1) a d w :=
 ⟨fun f=>absurd (c▸f) e,c▸h⟩
theorem r4 {a:Array Bool} {c:Act} {w:World} (b:Region.ready md ops a=[]) (h:Q .normal c w) :
 ∀d,rr P md ops Q S p d a c w
 | 0=>⟨b,h⟩
 | _+1=>⟨fun _=>h,by rw[b];simp⟩
theorem se {id:Nat} {a:Act} {w:World} (S:World->Prop) (p:Nat) (b:P.follows .mixedOrders=true)
 (h:rr P .any ops Q S p ops.size (Array.replicate ops.size false) a w.drew):(Code.region id ops true).wp P Q a w :=
 wp_region_any b (J5 _ _ _ _ h)
end
section
variable {P:Program} {ops:Array Oper} {Q:Exit->Act->World->Prop} {md:Region.Mode} {S:World->Prop} {p:Nat}
def Eb (md:Region.Mode) (ops:Array Oper) (p b:Nat) (a:Array Bool):Bool :=
 Region.noSelect ops && Region.free md ops a b && (Region.ready md ops a).contains b && E8 md ops p b && (!(a.getD p true))
theorem tk (l:Nat) {c:Option Tmp} {k:Op} {i:TypeId} {j:String} {g:Array Edge} {e:Option (Nat×Bool)} {d:Value} {n:Nat} {f:Array Bool} {a m:Act} {w:World}
 (u:ops[l]?=some ⟨c,k,i,j,g,e⟩) (b:Eb md ops p l f=true) (r:∀o (a:Act) w,Q (.panic o) (a.put c d) w->Q (.panic o) a w) (s:Region.wanted ⟨c,k,i,j,g,e⟩ (yielded ops a.tmps)=true)
 (t:∀w,S w->(execOp a.eval ⟨c,k,i,j,g,e⟩).run P w=.ok (.value d) w) (x:S w) (v:a.put c d=m)
 (h:rr P md ops Q S p n (f.setIfInBounds l true) m w):rr P md ops Q S p (n+1) f a w:=by
 unfold Eb at b;simp only[ba,Bool.not_eq_true']at b;subst v;exact Fm u b.1.1.1.1 b.1.1.1.2 b.1.1.2 b.1.2 b.2 r (Or.inl ⟨s,t⟩) x h
def EI (md:Region.Mode) (ops:Array Oper) (p a:Nat) (b:Array Bool):Bool :=
 Region.noSelect ops && Region.free md ops b a && (Region.ready md ops b).contains a && (!(p == a))
theorem tf (l:Nat) {c:Option Tmp} {k:Op} {i:TypeId} {j:String} {g:Array Edge} {e:Option (Nat×Bool)} {d:Value} {n:Nat} {f:Array Bool} {a m:Act} {w:World}
 (u:ops[l]?=some ⟨c,k,i,j,g,e⟩) (b:EI md ops p l f=true) (r:∀o (a:Act) w,Q (.panic o) (a.put c d) w->Q (.panic o) a w) (s:Region.wanted ⟨c,k,i,j,g,e⟩ (yielded ops a.tmps)=true)
 (t:∀w,True->(execOp a.eval ⟨c,k,i,j,g,e⟩).run P w=.ok (.value d) w) (x:S w) (v:a.put c d=m)
 (h:rr P md ops Q S p n (f.setIfInBounds l true) m w):rr P md ops Q S p (n+1) f a w:=by
 unfold EI at b;simp only[ba,Bool.not_eq_true',beq_eq_false_iff_ne]at b;subst v;exact GM u b.1.1.1 b.1.1.2 b.1.2 b.2 r (Or.inl ⟨s,t⟩) (fun _=>x) h
theorem wo (d:Nat) {b:Option Tmp} {f:Op} {j:TypeId} {e:String} {i:Array Edge} {g:Option (Nat×Bool)} {l:Nat} {c:Array Bool} {a:Act} {w:World} (n:Region.ready md ops c=[d]) (m:ops[d]?=some ⟨b,f,j,e,i,g⟩)
 (h:∀k:Act->World->Prop,Shut (∀a w,((c.setIfInBounds d true).getD p true=false->S w)->rr P md ops Q S p l (c.setIfInBounds d true) a w->k a w)->if Region.wanted ⟨b,f,j,e,i,g⟩ (yielded ops a.tmps)=true then Oper.wp P ⟨b,f,j,e,i,g⟩ a w k Q else k (a.put b undef) w):rr P md ops Q S p (l+1) c a w:=X2 n m h
theorem wS (i:Nat) {d:Option Tmp} {op:Op} {ty:TypeId} {pos:String} {af:Array Edge} {gd:Option (Nat×Bool)} {fuel:Nat} {listed:Array Bool} {a:Act} {w:World} {r:Prop} (ho:ops[i]?=some ⟨d,op,ty,pos,af,gd⟩) (k:r) (hr:Region.ready md ops listed=[i]:=by kernel_rfl)
 (h:∀K':Act->World->Prop,Shut (∀a w,((listed.setIfInBounds i true).getD p true=false->S w)->rr P md ops Q S p fuel (listed.setIfInBounds i true) a w->K' a w)->Hd r->if Region.wanted ⟨d,op,ty,pos,af,gd⟩ (yielded ops a.tmps)=true then Oper.wp P ⟨d,op,ty,pos,af,gd⟩ a w K' Q else K' (a.put d undef) w:=by(intro K hK kk;go_simp;refine hK.out _ _ kd ?_;clear hK K;(try simp only[ap,aq,sa,sb,sc]);exact kk.o)):rr P md ops Q S p (fuel+1) listed a w:=wo i hr ho fun K hK=>h K hK k
theorem tK (i:Nat) {d:Option Tmp} {op:Op} {ty:TypeId} {pos:String} {af:Array Edge} {gd:Option (Nat×Bool)} {v:Value} {fuel:Nat} {listed:Array Bool} {a a':Act} {w:World}
 (hi:ops[i]?=some ⟨d,op,ty,pos,af,gd⟩) (h:rr P md ops Q S p fuel (listed.setIfInBounds i true) a' w) (hc:Eb md ops p i listed=true:=by kernel_rfl) (hQ:∀c (a:Act) w,Q (.panic c) (a.put d v) w->Q (.panic c) a w:=by exact fun _ _ _ h=>h) (hw:Region.wanted ⟨d,op,ty,pos,af,gd⟩ (yielded ops a.tmps)=true:=by rfl)
 (hy:∀w,S w->(execOp a.eval ⟨d,op,ty,pos,af,gd⟩).run P w=.ok (.value v) w:=by(intro w hSw;(try dsimp only at hSw);go_simp;try with_reducible rfl)) (hS:S w:=by assumption) (ha:a.put d v=a':=by(simp only[ap,aq,sa,sb,sc];rfl)):rr P md ops Q S p (fuel+1) listed a w:=tk i hi hc hQ hw hy hS ha h
theorem tF (i:Nat) {d:Option Tmp} {op:Op} {ty:TypeId} {pos:String} {af:Array Edge} {gd:Option (Nat×Bool)} {v:Value} {fuel:Nat} {listed:Array Bool} {a a':Act} {w:World}
 (hi:ops[i]?=some ⟨d,op,ty,pos,af,gd⟩) (h:rr P md ops Q S p fuel (listed.setIfInBounds i true) a' w) (hc:EI md ops p i listed=true:=by kernel_rfl) (hQ:∀c (a:Act) w,Q (.panic c) (a.put d v) w->Q (.panic c) a w:=by exact fun _ _ _ h=>h) (hw:Region.wanted ⟨d,op,ty,pos,af,gd⟩ (yielded ops a.tmps)=true:=by rfl)
 (hy:∀w,True->(execOp a.eval ⟨d,op,ty,pos,af,gd⟩).run P w=.ok (.value v) w:=by(intro w hSw;(try dsimp only at hSw);go_simp;try with_reducible rfl)) (hS:S w:=by assumption) (ha:a.put d v=a':=by(simp only[ap,aq,sa,sb,sc];rfl)):rr P md ops Q S p (fuel+1) listed a w:=tf i hi hc hQ hw hy hS ha h
end
theorem jbs (f) (a:Nat) (cs:List Value) (w) (j:Fl 9 a w f cs) (D:a<=1000000000) :
 Calls prog 82 #[f] w (FF 175 9 a cs w):=by
 have br:=lh j;obtain⟨i,g,o,r,rfl,C,⟨l,y⟩,v⟩:=j;clear v y;unfold maxLen at l;have B:∀(w:World) (b:Option Addr) (a e c d:Nat),(binOp .eql 87 (.slice b a e) (.slice none c d)).run prog w=.ok (.bool b.isNone) w:=fun w b a e c d=>Lib.run_eql_slice_nil w _ _ b a e c d underlying87;obtain⟨t,x,m,s,u⟩:=info_parts yzd;have bp:=lh (An i g);clear i g;cases o with
 | none =>
  refine Nn ?_;unhygienic intros
  go_enter func82,ntmps82;exact I1
 | some b =>
  go_enter func82,ntmps82
  go_wp2_with (at_builtin;refine Ba _ rfl (.tmp 5) (.tmp 6) 87 rfl w.heap.size 175 t (.agg #[iZ,iZ,iZ,iZ,iZ,iZ,iZ,iZ,iZ]) 9 72 underlying87 x m s u rfl Iv _ 0 [] rfl (D9 w _) (some b) a r cs rfl bp.1 (fun h=>by cases h) (br.B (hB bR _)).news bp.2 RD om x1 ?_;intro A z lL gN n;clear n)
  exact MP
theorem SP {q:Prop} (h:q:=by subst eG;exact bq.wpOp aA g7 ⟨⟨fun es=>bS (by rw[getD_set_ne true (Ne.symm ng)]at es;exact es),g7⟩,H⟩):q:=h
section
variable {P:Program} {ops:Array Oper} {Q:Exit->Act->World->Prop} {md:Region.Mode} {S T:World->Prop} {p:Nat}
def Bc (P:Program) (md:Region.Mode) (ops:Array Oper) (Q:Exit->Act->World->Prop) (S T:World->Prop) (p:Nat):Nat->Array Bool->Act->World->Prop
 | 0,a,b,w=>Region.ready md ops a=[]/\Q .normal b w
 | e+1,a,b,w =>
  (Region.ready md ops a=[]->Q .normal b w) /\
  ∀d∈Region.ready md ops a,wpOp P ops Q d (fun f c=>(((a.setIfInBounds d true).getD p true=false->S c)/\T c)/\Bc P md ops Q S T p e (a.setIfInBounds d true) f c) b w
theorem ML:∀(a:Nat) (b:Array Bool) (c:Act) (w:World),Bc P md ops Q S T p a b c w->wpAny P md ops Q a b c w
 | 0,_,_,_,h=>h
 | a+1,_,_,_,h=>⟨h.1,fun g i=>wpOp_mono (fun f e d=>ML a _ f e d.2) (h.2 g i)⟩
theorem VE {i:Nat} {eM:Oper} {g:Value} (aA:ops[i]?=some eM) (rp:∀(a8:Nat) (m:Oper) cs b,ops[a8]?=some m->m.op≠.select cs b)
 (s':∀r a w,Q (.panic r) (a.put eM.dst g) w->Q (.panic r) a w) (z:E8 md ops p i=true) :
 ∀(e:Nat) (dg:Array Bool) (a:Act) (w:World),
  (∀a8 fq,ops[a8]?=some fq->a8≠i->dg.getD a8 true=false->(∀I∈fq.after,Region.binds md I=true->I.on≠i)->eM.apart ops fq=true) ->
  i∈Region.ready md ops dg->dg.getD p true=false->YieldsIf P ops S eM g a->S w->T w ->
  Bc P md ops Q S T p e (dg.setIfInBounds i true) (a.put eM.dst g) w->Bc P md ops Q S T p (e+1) dg a w:=by
 obtain⟨B,wC,bh,wD,wF,wE⟩:=Nv z;have ng:∀{l:Array Bool} {a8:Nat},l.getD i true=false->a8∈Region.ready md ops l->a8≠p:=fun {l a8} cx di I=>by exact F4
 intro e;induction e with
 | zero =>
  intro dg a w _ a9 qj bq f j H;refine⟨fun h=>(by rw[h]at a9;cases a9),fun a8 di=>?_⟩;by_cases eG:a8=i;·subst eG;exact bq.wpOp aA f ⟨⟨fun _=>f,j⟩,H⟩
  ·have:=ready_mono di eG;rw[H.1]at this;cases this
 | succ e A =>
  intro dg a w nV a9 qj bq f j H;refine⟨fun h=>(by rw[h]at a9;cases a9),fun a8 di=>?_⟩;by_cases eG:a8=i;·subst eG;exact bq.wpOp aA f ⟨⟨fun _=>f,j⟩,H⟩
  ·refine K2 ?_;intro Z mp fq lE n8 pE ag;have t:∀k d,ops[k]?=some d->k≠i->(dg.setIfInBounds a8 true).getD k true=false ->
    (∀I∈d.after,Region.binds md I=true->I.on≠i)->eM.apart ops d=true:=fun k d x v hun s=>by
    refine nV k d x v ?_ s;by_cases o:a8=k;·subst o;exact mp
    ·rw[getD_set_ne true o]at hun;exact hun
   refine PM ?_;intro qi oY;refine wpOp_mono (fun y u c=>⟨⟨fun _=>c.2.1.1 oY,c.2.1.2⟩,A (dg.setIfInBounds a8 true) y u t (ready_mono a9 (Ne.symm eG)) (by rw[getD_set_ne true qi];exact qj) c.1 (c.2.1.1 oY) c.2.1.2 ?_⟩) ag;rw[Array.setIfInBounds_comm _ _ eG];exact c.2.2
theorem DG {i:Nat} {oi:Oper} {v:Value} {c:Nat} {b:Array Bool} {a:Act} {w:World} (e:ops[i]?=some oi)
 (s:Region.noSelect ops=true) (j:Region.free md ops b i=true) (r:(Region.ready md ops b).contains i=true) (f:E8 md ops p i=true) (g:b.getD p true=false)
 (t:∀d a w,Q (.panic d) (a.put oi.dst v) w->Q (.panic d) a w) (k:YieldsIf P ops S oi v a) (m:S w) (o:T w)
 (h:Bc P md ops Q S T p c (b.setIfInBounds i true) (a.put oi.dst v) w):Bc P md ops Q S T p (c+1) b a w :=
 VE e (Region.noSelect_spec s) t f c b a w (Region.free_spec e j) (ss r) g k m o h
theorem TH {i:Nat} {eM:Oper} {f:Value} (aA:ops[i]?=some eM) (rp:∀(a8:Nat) (o:Oper) cs b,ops[a8]?=some o->o.op≠.select cs b)
 (s':∀m a w,Q (.panic m) (a.put eM.dst f) w->Q (.panic m) a w) (ng:p≠i) :
 ∀(c:Nat) (dg:Array Bool) (a:Act) (w:World),
  (∀a8 fq,ops[a8]?=some fq->a8≠i->dg.getD a8 true=false->(∀I∈fq.after,Region.binds md I=true->I.on≠i)->eM.apart ops fq=true) ->
  i∈Region.ready md ops dg->YieldsIf P ops T eM f a->(dg.getD p true=false->S w)->T w ->
  Bc P md ops Q S T p c (dg.setIfInBounds i true) (a.put eM.dst f) w->Bc P md ops Q S T p (c+1) dg a w:=by
 intro c;induction c with
 | zero =>
  intro dg a w _ a9 bq bS g7 H;refine⟨fun h=>(by rw[h]at a9;cases a9),fun a8 di=>?_⟩;by_cases eG:a8=i;·exact SP
  ·have:=ready_mono di eG;rw[H.1]at this;cases this
 | succ c y =>
  intro dg a w nV a9 bq bS g7 H;refine⟨fun h=>(by rw[h]at a9;cases a9),fun a8 di=>?_⟩;by_cases eG:a8=i;·exact SP
  ·refine K2 ?_;intro Z mp fq lE n8 pE ag;have t:∀k d,ops[k]?=some d->k≠i->(dg.setIfInBounds a8 true).getD k true=false ->
    (∀I∈d.after,Region.binds md I=true->I.on≠i)->eM.apart ops d=true:=fun k d u v hun s=>by
    refine nV k d u v ?_ s;by_cases r:a8=k;·subst r;exact mp
    ·rw[getD_set_ne true r]at hun;exact hun
   refine wpOp_mono (fun x j e=>?_) ag;have g:(dg.setIfInBounds a8 true).getD p true=false->S j:=fun es=>e.2.1.1 (by
    rw[Array.setIfInBounds_comm _ _ (Ne.symm eG),getD_set_ne true (Ne.symm ng)]
    exact es)
   refine⟨⟨g,e.2.1.2⟩,y (dg.setIfInBounds a8 true) x j t (ready_mono a9 (Ne.symm eG)) e.1 g e.2.1.2 ?_⟩;rw[Array.setIfInBounds_comm _ _ eG];exact e.2.2
theorem FJ {i:Nat} {oi:Oper} {v:Value} {c:Nat} {b:Array Bool} {a:Act} {w:World} (e:ops[i]?=some oi)
 (r:Region.noSelect ops=true) (g:Region.free md ops b i=true) (o:(Region.ready md ops b).contains i=true) (f:p≠i)
 (s:∀d a w,Q (.panic d) (a.put oi.dst v) w->Q (.panic d) a w) (j:YieldsIf P ops T oi v a) (k:b.getD p true=false->S w) (m:T w)
 (h:Bc P md ops Q S T p c (b.setIfInBounds i true) (a.put oi.dst v) w):Bc P md ops Q S T p (c+1) b a w :=
 TH e (Region.noSelect_spec r) s f c b a w (Region.free_spec e g) (ss o) j k m h
theorem BJ {i:Nat} {o:Oper} {d:Nat} {c:Array Bool} {a:Act} {w:World} (f:Region.ready md ops c=[i]) (k:ops[i]?=some o)
 (h:∀b:Act->World->Prop,Shut (∀a w,((c.setIfInBounds i true).getD p true=false->S w)->T w->Bc P md ops Q S T p d (c.setIfInBounds i true) a w->b a w)->if Region.wanted o (yielded ops a.tmps)=true then Oper.wp P o a w b Q else b (a.put o.dst undef) w):Bc P md ops Q S T p (d+1) c a w:=by
 refine⟨fun g=>(by rw[f]at g;cases g),fun t e=>?_⟩;rw[f]at e;obtain rfl:t=i:=ss e;exact wpOp_step k (fun b s=>h b (fun a w m r j=>s a w ⟨⟨m,r⟩,j⟩))
theorem Ph {a:Array Bool} {c:Act} {w:World} (b:Region.ready md ops a=[]) (h:Q .normal c w) :
 ∀d,Bc P md ops Q S T p d a c w
 | 0=>⟨b,h⟩
 | _+1=>⟨fun _=>h,by rw[b];simp⟩
theorem Nd {id:Nat} {a:Act} {w:World} (S T:World->Prop) (p:Nat) (b:P.follows .mixedOrders=true)
 (h:Bc P .any ops Q S T p ops.size (Array.replicate ops.size false) a w.drew):(Code.region id ops true).wp P Q a w :=
 wp_region_any b (ML _ _ _ _ h)
theorem XE {id:Nat} {c:Act} {w:World} {a:Act->World->Prop} {d:Exit->Act->World->Prop} (S T:World->Prop) (p:Nat) (e:P.follows .mixedOrders=true)
 (h:Bc P .any ops (Exit.then a (fun _ _ _=>False)) S T p ops.size (Array.replicate ops.size false) c w.drew):(Code.region id ops true).wp P (Exit.then a d) c w :=
 wp_mono (Nd S T p e h) (fun f _ _ b=>by cases f <;> first | exact b | exact b.elim)
end
section
variable {P:Program} {ops:Array Oper} {Q:Exit->Act->World->Prop} {md:Region.Mode} {l n:Nat}
theorem S7 {a:FuncId} {b:Array Value} {w:World} {c:Ending->World->Prop} (h:Calls P a b w c):CallsIn (Fence.wide.inRound l) n P a b w c:=CallsIn.inRound l (callsIn_wide.2 h)
theorem PJ {b:String} {a:Array Value} {w:World} {c:Value->World->Prop} (h:Rows P b a w c):RowsIn (Fence.wide.inRound l) n P b a w c :=
 fun i g _=>let ⟨j,f,e,d⟩:=h i g;⟨j,f,e,stepsIn_wide.2 d⟩
theorem ynl {a:Oper} {d:Act} {w:World} {g:Act->World->Prop} (i:∀k,a.op≠.defer k) (h:a.wp P d w g Q):a.wpIn (Fence.wide.inRound l) n P d w g Q:=by
 refine⟨fun _ _=>trivial,?_⟩;unfold Oper.wp at h;rw[Oper.semAt_eq _ _ _ i];generalize (execOp d.eval a).run P w=r at *;cases r with
 | ok b j =>
  cases b <;> simp only[Oper.upon,Oper.uponIn]at h ⊢ <;>
   first
    | exact h
    | exact PJ h
    | exact CallsIn.mono (S7 h) (fun f m c=>by cases f <;> exact c)
    | exact⟨(fun e=>by cases e),PJ h⟩
    | exact⟨(fun e=>by cases e),CallsIn.mono (S7 h) (fun f m c=>by cases f <;> exact c)⟩
 | halt b j=>cases b <;> simp only[Oper.upon,Oper.uponIn]at h ⊢ <;> exact h
def Gy (ops:Array Oper):Bool:=ops.all fun a=>match a.op with | .defer _=>false | _=>true
theorem Tj (h:Gy ops=true) {a:Nat} {b:Oper} (c:ops[a]?=some b) (d:_):b.op≠.defer d:=by intro e;obtain⟨f,rfl⟩:=Array.getElem?_eq_some_iff.1 c;have:=Array.all_eq_true.1 h a f;rw[e]at this;cases this
theorem WF {d:Nat} {a:Act} {w:World} {f g:Act->World->Prop} (j:¬LetsOut Q) (i:Gy ops=true) (e:∀a w,f a w->g a w) (h:wpOp P ops Q d f a w):wpOpIn (Fence.wide.inRound l) n P ops Q d g a w:=by
 unfold wpOp at h;unfold wpOpIn;cases c:ops[d]? with
 | none=>rw[c]at h;exact e _ _ h
 | some k =>
  rw[c]at h;simp only at h ⊢;split
  ·rename_i b;rw[if_pos b]at h;rcases h with h | h;·exact Oper.wpIn_mono e (ynl (Tj i c) h)
   ·exact absurd h.2 j
  ·rename_i b;rw[if_neg b]at h;exact⟨fun _ _=>trivial,e _ _ h⟩
theorem LU (d:¬LetsOut Q) (b:Gy ops=true):∀(a:Nat) (c:Array Bool) (e:Act) (w:World),wpAny P md ops Q a c e w->wpAnyIn (Fence.wide.inRound l) n P md ops Q a c e w
 | 0,_,_,_,h=>h
 | a+1,_,_,_,h=>⟨h.1,fun f g=>WF d b (LU d b a _) (h.2 f g)⟩
theorem KP {id:Nat} {c:Act} {w:World} {a:Act->World->Prop} {e:Exit->Act->World->Prop} (S:World->Prop) (p:Nat) (f:P.follows .mixedOrders=true) (d:Gy ops=true)
 (h:rr P .any ops (Exit.then a (fun _ _ _=>False)) S p ops.size (Array.replicate ops.size false) c w.drew):(Code.region id ops true).wpIn (Fence.wide.inRound l) n P (Exit.then a e) c w :=
 wpIn_mono (wpIn_region_any f (LU (fun ⟨_,_,h⟩=>h) d _ _ _ _ (J5 _ _ _ _ h))) (fun g _ _ b=>by cases g <;> first | exact b | exact b.elim)
end
section
open Go.RowKit Go.Shelf
attribute [local go_sem] Oper.semAt_some
theorem VL (q:Option Addr) (b a:Nat) (w:World):Calls prog 102 #[.slice q b a,iV 41] w fun d c=>d=.returned (.func (.func 148) #[] #[pV w.heap.size,pV (w.heap.size+1)])/\c=(w.alloc (.cells #[.slice q b a] 135)).alloc (.cells #[iV 41] 3):=by go_enter func102,ntmps102;go_wp2_with fail;go_ret;exact⟨rfl,rfl⟩
def C9 (a:Nat) (b c:World):Prop:=b.heap.size<=c.heap.size/\(a+1<b.heap.size->c.heap[a]?=b.heap[a]?/\c.heap[a+1]?=b.heap[a+1]?)
theorem C9.t {c:Nat} {d e f:World} (h:C9 c d e) (b:C9 c e f):C9 c d f :=
 ⟨nt h.1 b.1,fun a=>⟨(b.2 (Nat.lt_of_lt_of_le a h.1)).1.trans (h.2 a).1,(b.2 (Nat.lt_of_lt_of_le a h.1)).2.trans (h.2 a).2⟩⟩
theorem C9.b {c:Nat} {w:World} (f:c+1<w.heap.size) (a:World) (l:Nat) (b d:Obj) (e:w.heap.size<=l) (_:a.heap[l]?=some b) (_:b.isCells=false) (_:b.isWalk=false):C9 c a (a.putObj l d) :=
 ⟨(grownBy_putObj' a l d).size,fun _=>⟨World.putObj_heap_other om,World.putObj_heap_other om⟩⟩
def EL (d c b a:Nat):Value:=sL d (c+41*a) (min 41 (b-41*a)) (min 41 (b-41*a))
theorem yu1 (n l f t s b r N:Nat) (ay:b<=r) (a0:b<=20000) (K:N=(b+40)/41) (j E:List { o:Nat // o<N }->World->Prop) (aa:∀M d,j M d->j M d.drew)
 (G:∀e o d,j e d->e.length<N->YieldAt Fence.wide (n-1) prog l #[EL t s b o.1] d fun m k =>
  (m=.returned (.bool true)/\j (e++[o]) k/\C9 f d k)\/(m=.returned (.bool false)/\E (e++[o]) k))
 (d:World) (R:hA d f 135 [sL t s b r]) (C:hA d (f+1) 3 [iV 41]) (Y:j [] d) :
 CallsIn Fence.wide n prog 148 #[.func (.yield l) #[] #[],pV f,pV (f+1)] d fun m k=>(∃Z,m=.returned Z) /\
  ((∃O,O.length=N/\j O k)\/(∃e,True/\E e k)):=by
 refine callsIn_of_wp func148 rfl trivial ?_ rfl;simp only[ntmps148,List.size_toArray,List.length_cons,List.length_nil,Nat.reduceAdd,Nat.reduceSub,Array.replicate_succ,Array.replicate_zero,List.push_toArray,List.append_toArray,List.nil_append,List.cons_append];have ah:=lh G;have ac:=lh (An R C);have u:=lh K;clear G R C K
 gi_wp2
 gi_loopw [4] (fun A wr=>∃a:Nat,a<=N/\A=iV (41*(a:Int))/\(∃e,e.length=a/\j e wr)/\hA wr f 135 [sL t s b r]/\hA wr (f+1) 3 [iV 41])
  (fun A _=>b+41-(intOf A).toNat)
 case atStart=>exact⟨0,Nat.zero_le _,by simp,⟨[],rfl,Y⟩,ac.o⟩
 case round =>
  obtain⟨a,av,rfl,⟨e,D,J⟩,i,g⟩:=hrel;have z:=lh D;clear D;have B:=i.cell 0;have v:=g.cell 0;by_cases X:41*a<b
  ·have V:=lh X;have ab:41*(a:Int)<b:=om;have g0:¬41*(a:Int)<0:=om;have au:41*(a:Int)<=b:=om
   gi_wp2
   refine wpIn_wide.2 ?_
   go_region
   obtain⟨c,L⟩:∃c:Nat,min 41 (b-41*a)=c:=⟨_,rfl⟩;have F:(if ((b-41*a:Nat):Int)<41 then ((b-41*a:Nat):Int) else 41)=(c:Int):=by split <;> omega
   have ax:1<=c/\c<=41/\41*a+c<=b:=om;obtain⟨a1,az,aw,an,y,aj⟩:=ah.o e ⟨a,oo u.o⟩ wr.drew (aa _ _ J) (o2 z.o u.o)
   dsimp only at y
   unfold EL at y;rw[L]at y;simp only[F];clear F L;rw[<-World.cell?_drew wr]at B;rw[<-World.cell?_drew wr]at v;have al:wrap64 (41*(a:Int)+(c:Int))=41*(a:Int)+(c:Int):=wi _ ⟨by omega,by omega⟩;have am:41*(a:Int)+(c:Int)<=r:=om;have ak:41*(a:Int)<=41*(a:Int)+(c:Int):=om;have a2:0<=41*(a:Int)+(c:Int):=om;have ao:(41*(a:Int)+(c:Int)).toNat=41*a+c:=om;have ar:(41*(a:Int)).toNat=41*a:=om
   gi_wp2
   refine⟨fun h=>(by cases h),?_⟩;refine aj.mono ?_;have x:=lh (An i g);clear i g B v;rintro m I (⟨rfl,ae,kk⟩ | ⟨rfl,ag⟩)
   ·obtain⟨ad,W⟩:=kk.2 (by have:=x.2.lt;exact this);have i:hA I f 135 [sL t s b r]:=ad.trans x.1;have g:hA I (f+1) 3 [iV 41]:=W.trans x.2;have B:=i.cell 0;have v:=g.cell 0;have ai:=lh (An i g);clear i g
    gi_wp2
    go_roundw
    case rel=>exact⟨a+1,o2 u.o V.o,by go_num,⟨_,by rw[la,z.o];rfl,ae⟩,ai.o⟩
    case measure=>simp[intOf];have:=V.o;omega
   ·gi_wp2
    refine bodyPost_ret (results_none rfl _ _ _) rfl ?_;exact⟨⟨_,rfl⟩,.inr ⟨_,trivial,ag⟩⟩
  ·have ab:¬41*(a:Int)<b:=om;have af:a=N:=oo u.o
   gi_wp2
   refine bodyPost_end (results_none rfl _ _ _) rfl ?_;exact⟨⟨_,rfl⟩,.inl ⟨_,z.trans af,J⟩⟩
theorem XL {β:Type} {d:Nat} {b:β->World->Prop} (h:AbidesFrom d b) (c:β) (a:World) (e:b c a):b c a.drew :=
 h c a a.drew none e ⟨rfl,rfl,rfl,nr _,fun _ _ _=>rfl⟩ (fun _ f=>by cases f)
theorem Vm (n a f e b d N:Nat) (o:b<=d) (r:b<=20000) (y:N=(b+40)/41) (w)
 (x:hA w a 135 [sL f e b d]) (i:hA w (a+1) 3 [iV 41]) :
 SeqStopsK Fence.wide n prog 148 #[pV a,pV (a+1)] (fun c:{ c:Nat // c<N }=>#[EL f e b c.1]) (C9 a) (fun v=>v.length=N) (fun _=>True) N w:=fun l t m k g u _ s j =>
 yu1 n l a f e b d N o r y t m (XL u) s k (x.B g) (i.B g) j
end
section
open Go.RowKit Go.ChangeShapes Go.WideShapes Go.Deep
def R5.in64 (a:R5):Prop:=Bh a.a/\Bh a.b/\Bh a.c/\Bh a.d/\Bh a.e
theorem V7 (l:List R5) (b a:Nat) (i:b<l.length) (j:a<5):(k8 l)[b*5+a]?=(l.getD b Sk).cells[a]?:=by
 obtain⟨f,e,c,g,d⟩:=Jg l b i;have:a=0\/a=1\/a=2\/a=3\/a=4:=om;rcases this with rfl | rfl | rfl | rfl | rfl;·exact f
 ·exact e
 ·exact c
 ·exact g
 ·exact d
section
variable {H:Type} {enc:TypeId×Value->H} {w:World} {base:Nat} {held:Bool}
theorem U0 {af:Nat->Bool} {n:Nat} {v:Value} {F:DataW H×List MemPlace} (h:DataW.trod enc prog w base af held n 25 [v]=some F):∃l:List R5,h4 w v l/\∀u∈l,u.in64:=by
 rcases open_slice underlying25 h with⟨x,_⟩ | ⟨i,g,C,m,a4,D,aB,aw,_,G,az,ad,_,j⟩;·refine⟨[],?_,by simp⟩;obtain rfl:v=sZ:=ss x;exact h4.nil
 ·obtain rfl:v=.slice (some i) g C:=ss aw;have a9:g<=m:=by
   rw[ad];split;·exact G
   ·exact nr _
  have z:prog.cellsOf 48=5:=by kernel_rfl
  have E:∀a,a<g->∃u:R5,(∀e,e<5->w.cell? (i.add (a*5+e))=u.cells[e]?)/\u.in64:=by
   intro a a5;obtain⟨I,W,ae⟩:=j a om;rw[z]at W;obtain⟨c,d,_,_,an,Y,f⟩:=DataW.trod_struct underlying48 ae;obtain⟨_,a0,ah⟩:=World.cells?_some W;have ak:I.length=5:=by rw[an,z]
   match I,ak with
   | [s,k,au,av,r],_ =>
    have ai:prog.cellsOf 3=1:=by kernel_rfl
    have a1:prog.cellsOf 2=1:=by kernel_rfl
    have A:DataW.trod enc prog w base af held d 3 (([s,k,au,av,r].drop 0).take (prog.cellsOf 3))=c[0]?:=f 0 _ rfl;have B:DataW.trod enc prog w base af held d 3 (([s,k,au,av,r].drop 1).take (prog.cellsOf 3))=c[1]?:=f 1 _ rfl;have L:DataW.trod enc prog w base af held d 3 (([s,k,au,av,r].drop 2).take (prog.cellsOf 3))=c[2]?:=f 2 _ rfl;have V:DataW.trod enc prog w base af held d 2 (([s,k,au,av,r].drop 3).take (prog.cellsOf 2))=c[3]?:=f 3 _ rfl;have M:DataW.trod enc prog w base af held d 3 (([s,k,au,av,r].drop 4).take (prog.cellsOf 3))=c[4]?:=f 4 _ rfl;rw[ai]at A B L M;rw[a1]at V;have a6:c.length=5:=Y;have g0:DataW.trod enc prog w base af held d 3 [s]=some (c[0]' om):=by rw[<-List.getElem?_eq_getElem om];exact A
    have ar:DataW.trod enc prog w base af held d 3 [k]=some (c[1]' om):=by rw[<-List.getElem?_eq_getElem om];exact B
    have al:DataW.trod enc prog w base af held d 3 [au]=some (c[2]' om):=by rw[<-List.getElem?_eq_getElem om];exact L
    have a3:DataW.trod enc prog w base af held d 2 [av]=some (c[3]' om):=by rw[<-List.getElem?_eq_getElem om];exact V
    have ao:DataW.trod enc prog w base af held d 3 [r]=some (c[4]' om):=by rw[<-List.getElem?_eq_getElem om];exact M
    obtain⟨X,rfl,am⟩:=CU underlying3 g0;obtain⟨a2,rfl,ac⟩:=CU underlying3 ar;obtain⟨ax,rfl,ay⟩:=CU underlying3 al;obtain⟨ag,rfl,Z⟩:=CU underlying2 a3;obtain⟨ab,rfl,aj⟩:=CU underlying3 ao;refine⟨⟨X,a2,ax,ag,ab⟩,fun e aA=>?_,CM am,CM ac,CM ay,CM Z,CM aj⟩;have:=ah e (by rw[a0]at *;omega);rw[Go.Deep.add_add]at this;exact this
  obtain⟨t,f⟩:∃t:Nat->R5,∀a,a<g->(∀e,e<5->w.cell? (i.add (a*5+e))=(t a).cells[e]?)/\(t a).in64:=by
   classical
   refine⟨fun a=>if h:a<g then (E a h).choose else Sk,fun a j=>?_⟩;simp only[dif_pos j];exact(E a j).choose_spec
  refine⟨(List.range g).map t,⟨by rw[DJ],DU _,some i,C,by simp,by simpa using G,⟨az,fun y=>by cases y⟩,fun aa=>?_⟩,?_⟩
  ·have x:0<g:=ss aa;have O:=(f 0 x).1 0 Iv;have K:i.spot=none:=by
    have y:i.add (0*5+0)=i:=by simp[Addr.add]
    rw[y]at O;exact L9 O
   obtain⟨b,o,a7⟩:=i;simp only at K;subst K;refine⟨b,o,rfl,fun a j=>?_⟩;simp only[List.length_map,List.length_range]at j;have a8:=(f (a/5) om).1 (a%5) (Nat.mod_lt _ Iv);rw[show a/5*5+a%5=a by omega,Addr.add_lit]at a8;rw[a8];have R:=V7 ((List.range g).map t) (a/5) (a%5) GK (Nat.mod_lt _ Iv);rw[show a/5*5+a%5=a by omega]at R;rw[R];simp[List.getD,show a/5<g by omega]
  ·intro F J;simp only[List.mem_map,List.mem_range]at J;obtain⟨a,j,rfl⟩:=J;exact(f a j).2
theorem open_cmds {e:Reach} {f:Nat} {a:Value} {b:DataW H} {p:List MemPlace} (g:Value.okWide prog w e f 25 a) (h:DataW.Trod enc prog w base (fun _=>true) held 25 a b p) :
 ∃l:List R5,h4 w a l/\∀c∈l,c.in64:=by
 obtain⟨j,m,k,rfl⟩:=okWide_slice underlying25 g;obtain⟨i,d⟩:=h;exact U0 (by simpa[Value.cells] using d)
end
end
end Go.Proofs.YtkongpjpkpfniaaGreat

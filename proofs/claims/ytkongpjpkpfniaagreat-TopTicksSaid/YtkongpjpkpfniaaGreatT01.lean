/- TopTicks: parts of the proof, made small by a program (mini.py). -/
import Derived.Deep.LoopGhost
import Derived.Lib.Hide
import Derived.Outline
import Derived.ScopeJumps
import Derived.Test.YtkongpjpkpfniaaGreatRows
import Derived.WalkKit
import Derived.WalkLawsBesides
import Derived.WalkSpells
import Derived.Deep.RegionLaw
import Derived.Deep.QuietTactic
import Derived.IntWalk
set_option linter.unusedVariables false
set_option linter.unusedSimpArgs false
set_option maxRecDepth 100000
set_option maxHeartbeats 6400000
namespace Go.Proofs.YtkongpjpkpfniaaGreat
open Go.RowKit
theorem kr {q:Prop} (h:q:=by kernel_rfl):q:=h
theorem ke {q:Prop} (h:q:=by exact fun _ _ _ h=>h):q:=h
theorem kv {q:Prop} (h:q:=by (intro w hSw;(try dsimp only at hSw);go_simp;try with_reducible rfl)):q:=h
theorem ka {q:Prop} (h:q:=by assumption):q:=h
theorem kd {q:Prop} (h:q:=by exact fun hun=>absurd hun (by decide)):q:=h
theorem ap (a:Act) (d:Tmp) (v:Value):a.put (some d) v={ a with tmps:=a.tmps.setIfInBounds d v }:=rfl
theorem aq (a:Act) (v:Value):a.put none v=a:=rfl
theorem sa {α:Type} {l:List α} {i:Nat} {a:α}:l.toArray.setIfInBounds i a=(l.set i a).toArray:=by simp
theorem sb {α:Type} {x:α} {xs:List α} {a:α}:(x::xs).set 0 a=a::xs:=rfl
theorem sc {α:Type} {x:α} {xs:List α} {i:Nat} {a:α}:(x::xs).set (i+1) a=x::xs.set i a:=rfl
theorem kp {q:Prop} (h:q:=by (simp only [ap,aq,sa,sb,sc];rfl)):q:=h
theorem gz {α:Type} {a:α} {l:List α}:(a::l)[0]?=some a:=rfl
theorem gs {α:Type} {a:α} {i:Nat} {l:List α}:(a::l)[i+1]?=l[i]?:=rfl
abbrev iZ:Value:=.int .i64 0
abbrev iV (n:Int):Value:=.int .i64 n
abbrev pV (n:Nat):Value:=.pointer (some ⟨n,0,none⟩)
abbrev sZ:Value:=.slice none 0 0
abbrev zA:List Value:=[.int .i64 0,.int .i64 0,.int .i64 0,.int .i64 0,.int .i64 0,.slice none 0 0,.int .i64 0,.int .i64 0,.slice none 0 0,.slice none 0 0,.int .i64 0,.int .i64 0,.int .i64 0,.int .i64 0,.int .i64 0,.slice none 0 0,.int .i64 0,.int .i64 0,.int .i64 0,.bool false]
abbrev Ad (g i:Nat):Addr:=⟨g,i,none⟩
abbrev Ce (w:World) (g i:Nat) (v:Value):Prop:=w.cell? ⟨g,i,none⟩=some v
abbrev BW (w w':World):Prop:=Below w.heap.size w w'
abbrev sL (b o n c:Nat):Value:=.slice (some ⟨b,o,none⟩) n c
theorem bL {q:Prop} (h:q:=by repeat (first | with_reducible exact Below.refl _ _ | (with_reducible refine yao ?_ ?hge;case hge=>(first | exact Nat.le_refl _ | omega)) | with_reducible refine yaa ?_ _ | with_reducible refine yaf ?_ | with_reducible refine yfn ?_ _ | (refine yad ?_ (by assumption)) | (refine ja1 ?_ (by assumption) (by first | exact Nat.le_refl _ | omega)) | exact Below.refl _ _ | refine yaa ?_ _ | refine yaf ?_ | refine yfn ?_ _)):q:=h
theorem bM {q:Prop} (h:q:=by repeat (first | with_reducible exact Below.refl _ _ | with_reducible exact HB6.out | with_reducible refine yaa ?_ _ | with_reducible refine yaf ?_)):q:=h
theorem bR {n:Nat} {w:World}:Below n w w:=Below.refl _ _
theorem lh {q:Prop} (h:q):Hid q:=Lib.hid h
theorem om {q:Prop} (h:q:=by omega):q:=h
theorem ms {α:Type} {a b:α}:a∈[b]↔a=b:=List.mem_singleton
theorem x10 {A B C D E F G H I J:Type} {p:A->B->C->D->E->F->G->H->I->J->Prop} {a:A} {b:B} {c:C} {d:D} {e:E} {f:F} {g:G} {h:H} {i:I} {j:J} (k:p a b c d e f g h i j):∃a b c d e f g h i j,p a b c d e f g h i j:=⟨_,_,_,_,_,_,_,_,_,_,k⟩
theorem zq01ae3a {q:Prop} (h:q:= by
 rintro e w1 ⟨rfl,rfl⟩;go_wp2
 go_step3
 go_step
 go_step
 exact HREST.out _ _ (x10 (x10 (x10 (x10 (x10 (x10 ⟨_,_,_,_,_,_,_,_,_,rfl,h6,hb⟩))))))):q:=h
theorem zq019664 {q:Prop} (h:q:= by
 go_wp2_with fail
 refine (ybz MC.out _).mono ?_;rintro _ w1 ⟨rfl,rfl⟩
 go_wp2_with fail
 refine (ybz MD.out _).mono ?_;rintro _ w1 ⟨rfl,rfl⟩;go_wp2
 go_ret
 exact ⟨rfl,hb0⟩):q:=h
theorem zq01969b {q:Prop} (h:q:= by
 go_wp2
 go_step3
 exact ⟨rfl,HJ.out _ _ (x10 (x10 (x10 (x10 (x10 (x10 ⟨_,_,_,_,_,_,_,_,_,rfl,h6,hb0⟩))))))⟩):q:=h
def Sl (k:IntKind) (w:World) (v:Value) (xs:List Int):Prop :=
 ∃ao cap,v=.slice ao xs.length cap/\xs.length<=cap/\(cap<=maxLen/\(ao=none->cap=0)) /\
  (xs≠[]->∃b o,ao=some (Ad b o)/\∀i,i<xs.length->w.cell? (Ad b (o+i))=some (.int k (xs.getD i 0)))
theorem yac {w:World} {b o:Nat} {v:Value} (h:w.cell? (Ad b o)=some v):b<w.heap.size:=World.block_lt_of_cell? w (Ad b o) h
theorem Sl.below {k:IntKind} {w w':World} {v:Value} {xs:List Int} (h:Sl k w v xs) (hb:BW w w'):Sl k w' v xs:= by
 obtain ⟨ao,cap,rfl,h1,h2,h3⟩:=h;refine ⟨ao,cap,rfl,h1,h2,fun hx=>?_⟩;obtain ⟨b,o,rfl,hc⟩:=h3 hx;exact ⟨b,o,rfl,fun i hi=>(hb.cell (p:=(Ad b (o+i))) (yac (hc i hi))).trans (hc i hi)⟩
theorem Sl.at {k:IntKind} {w:World} {ao:Option Addr} {n cap:Nat} {xs:List Int} (h:Sl k w (.slice ao n cap) xs) {i:Nat} (hi:i<xs.length) :
 ∃b o,ao=some (Ad b o)/\w.cell? (Ad b (o+i))=some (.int k (xs.getD i 0)):= by
 obtain ⟨ao',cap',e,h1,h2,h3⟩:=h;cases e;obtain ⟨b,o,rfl,hc⟩:=h3 (by intro h;rw [h] at hi;simp at hi);exact ⟨b,o,rfl,hc i hi⟩
theorem Sl.news {k:IntKind} {w:World} {ao:Option Addr} {n cap:Nat} {xs:List Int} (h:Sl k w (.slice ao n cap) xs) :
 (∀ad,ao=some ad->∀j u,(xs.map (Value.int k))[j]?=some u->w.cell? (ad.add j)=some u):= by
 intro ad had j u hu
 have hj:j<xs.length:= by
  have:=(List.getElem?_eq_some_iff.1 hu).1
  simpa using this
 obtain ⟨b,o,e,hc⟩:=h.at hj;rw [e] at had;obtain rfl:=Option.some.inj had;rw [Addr.add_lit,hc];have e1:(xs.map (Value.int k))[j]?=some (.int k (xs.getD j 0)):=by simp [List.getD,hj]
 rw [e1] at hu;exact hu
theorem Sl.get {k:IntKind} {w:World} {ao:Option Addr} {n cap:Nat} {xs:List Int} (h:Sl k w (.slice ao n cap) xs) {i:Nat} (hi:i<xs.length) :
 ∃b o x,ao=some (Ad b o)/\w.cell? (Ad b (o+i))=some (.int k x)/\Hid (xs.getD i 0=x):= by
 obtain ⟨b,o,e,hc⟩:=h.at hi;exact ⟨b,o,_,e,hc,rfl⟩
theorem Sl.none_cap {k:IntKind} {w:World} {ao:Option Addr} {n cap:Nat} {xs:List Int} (h:Sl k w (.slice ao n cap) xs) (e:ao=none):n=0/\cap=0:= by
 obtain ⟨ao',cap',e',h1,h2,h3⟩:=h;cases e';have:=h2.2 e;omega
theorem Sl.none_len {k:IntKind} {w:World} {ao:Option Addr} {n cap:Nat} {xs:List Int} (h:Sl k w (.slice ao n cap) xs) (e:ao=none):xs=[]:= by
 cases xs with
 | nil=>rfl
 | cons x xs =>
  obtain ⟨b,o,e',_⟩:=h.at (i:=0) (by simp);rw [e] at e';cases e'
theorem Sl.len {k:IntKind} {w:World} {ao:Option Addr} {n cap:Nat} {xs:List Int} (h:Sl k w (.slice ao n cap) xs):n=xs.length/\n<=cap/\cap<=maxLen:= by
 obtain ⟨ao',cap',e,h1,h2,h3⟩:=h;cases e;exact ⟨rfl,h1,h2.1⟩
theorem yfw {w w':World} (h:w.grownBy w' none):BW w w':=bR.grown h (Nat.le_refl _) (by intro k hk;cases hk)
theorem bdN {B:Nat} {a w:World} (h:Below B a w) (n:Nat):Below B a (w.drewN n):=⟨h.os,h.tape,h.output,h.size,h.block⟩
theorem yad {a b c:World} (h:BW a b) (k:BW b c):BW a c:=h.trans (k.mono h.size)
theorem yaa {a b:World} (h:BW a b) (o:Obj):BW a (b.alloc o):=h.alloc h.size o
theorem yaf {a b:World} (h:BW a b):BW a b.drew:=h.drew
theorem yfn {a b:World} (h:BW a b) (n:Nat):BW a (b.drewN n):=bdN h n
def Ret (v:Value) (w:World) (e:Ending) (w':World):Prop:=e=.returned v/\w=w'
theorem Ret.mk (v:Value) (w:World):Ret v w (.returned v) w:=⟨rfl,rfl⟩
def RetB (v:Value) (w:World) (e:Ending) (w':World):Prop:=e=.returned v/\BW w w'
theorem Ret.b {v:Value} {w:World} {e:Ending} {w':World} (h:Ret v w e w'):RetB v w e w':= by
 obtain ⟨h1,h2⟩:=h;subst h2;exact ⟨h1,bR⟩
def Blk (w:World) (g:Nat) (e:TypeId) (cur:List Value):Prop:=w.heap[g]?=some (.cells cur.toArray e (0,0))
theorem Blk.lt {w:World} {g:Nat} {e:TypeId} {cur:List Value} (h:Blk w g e cur):g<w.heap.size:=(Array.getElem?_eq_some_iff.1 h).1
theorem Blk.cell {w:World} {g:Nat} {e:TypeId} {cur:List Value} (h:Blk w g e cur) (j:Nat):w.cell? (Ad g j)=cur[j]?:= by
 rw [cell_of_row w g j cur.toArray e (0,0) h];simp
theorem Blk.some {w:World} {g:Nat} {e:TypeId} {cur:List Value} (h:Blk w g e cur) {j:Nat} (hj:j<cur.length):∃v,w.cell? (Ad g j)=some v:=⟨cur[j],by rw [h.cell];simp [hj]⟩
theorem Blk.frozen {w:World} {g:Nat} {e:TypeId} {cur:List Value} (h:Blk w g e cur) (j:Nat):w.frozen? (Ad g j)=false:=frozen_of_row w g j cur.toArray e h
theorem Blk.set {w:World} {g:Nat} {e:TypeId} {cur:List Value} (h:Blk w g e cur) (j:Nat) (u:Value):Blk (w.setCell (Ad g j) u) g e (cur.set j u):= by
 have:=heap_setCell_same w g j cur.toArray e u h;unfold Blk;rw [this];simp
theorem Blk.below {w w':World} {g:Nat} {e:TypeId} {cur:List Value} (h:Blk w g e cur) (hb:BW w w'):Blk w' g e cur:=(hb.block g h.lt).trans h
theorem Blk.setOther {w:World} {g g':Nat} {e:TypeId} {cur:List Value} (h:Blk w g e cur) (hne:g≠g') (j:Nat) (u:Value):Blk (w.setCell (Ad g' j) u) g e cur :=
 (heap_setCell_other w (Ad g' j) g u (fun e=>hne e)).trans h
theorem ya8 {w:World} {base:Nat} {e:TypeId} {size g n cap:Nat} {xs:List Value} (h:w.ownsRow base e size (sL g 0 n cap) n xs) :
 ∃cur,Blk w g e cur/\n<=cap/\cap<=maxLen/\cur.length=cap*size/\cur.take (n*size)=xs/\base<=g:= by
 rcases h.2 with ⟨h',_⟩ | ⟨g',cap',cur,h',hb,hg,hnc,hcm,hcs,htake⟩
 ·simp at h'
 ·simp only [Value.slice.injEq,Option.some.injEq,Addr.mk.injEq,and_true,true_and] at h'
  obtain ⟨rfl,rfl⟩:=h';exact ⟨cur.toList,by simpa [Blk] using hg,hnc,hcm,by simpa using hcs,htake,hb⟩
theorem Sl.of_blk {k:IntKind} {w:World} {g cap n:Nat} {e:TypeId} {cur:List Value} {xs:List Int} (h:Blk w g e cur) (hn:xs.length=n) (hnc:n<=cap) (hcm:cap<=maxLen)
 (hx:cur.take n=xs.map (Value.int k)):Sl k w (sL g 0 n cap) xs:= by
 subst hn;refine ⟨_,_,rfl,hnc,⟨hcm,fun h=>by cases h⟩,fun _=>⟨g,0,rfl,fun i hi=>?_⟩⟩;rw [h.cell];have e1:(cur.take xs.length)[i]?=cur[0+i]?:=by simp [hi]
 rw [<-e1,hx];simp [List.getD,hi]
theorem yfh {cur:List Value} {n:Nat} {l:List Int} {k:IntKind} (h:cur.take n=l.map (Value.int k)) {i:Nat} (hi:i<n) (hil:i<l.length:=by omega):cur[i]?=some (.int k (l.getD i 0)):= by
 have:(cur.take n)[i]?=cur[i]?:=by simp [hi]
 rw [<-this,h];simp [List.getD,hil]
def Sp (k:IntKind) (w:World) (v:Value) (xs sp:List Int):Prop :=
 ∃ao,v=.slice ao xs.length (xs.length+sp.length)/\Sl k w v xs/\Sl k w (.slice ao (xs.length+sp.length) (xs.length+sp.length)) (xs++sp)
theorem ya5 {w:World} {base:Nat} {e:TypeId} {size n:Nat} {v:Value} {xs:List Value} (h:w.ownsRow base e size v n xs) (hn:0<n) :
 ∃g cap,v=sL g 0 n cap:= by
 rcases h.2 with ⟨_,h0⟩ | ⟨g,cap,cur,hv,_⟩
 ·omega
 ·exact ⟨g,cap,hv⟩
theorem ygc {w:World} {base base':Nat} {e:TypeId} {size n:Nat} {v:Value} {xs:List Value} (h:w.ownsRow base e size v n xs) (hb:base'<=base):w.ownsRow base' e size v n xs:= by
 obtain ⟨h1,h2⟩:=h;refine ⟨h1,?_⟩;rcases h2 with h2 | ⟨g,cap,cur,hv,hg,r⟩
 ·exact Or.inl h2
 ·exact Or.inr ⟨g,cap,cur,hv,by omega,r⟩
theorem yct {w:World} {base:Nat} {e:TypeId} {size g n cap:Nat} {cur xs:List Value} (h:Blk w g e cur) (hg:base<=g) (hn:n<=cap) (hm:cap<=maxLen) (hl:cur.length=cap*size) (hx:cur.take (n*size)=xs) :
 w.ownsRow base e size (sL g 0 n cap) n xs:= by
 refine ⟨?_,.inr ⟨g,cap,cur.toArray,rfl,hg,h,hn,hm,by simpa using hl,by simpa using hx⟩⟩;rw [<-hx,List.length_take,hl];exact Nat.min_eq_left (Nat.mul_le_mul_right _ hn)
theorem Sl.of_own {k:IntKind} {w:World} {base:Nat} {e:TypeId} {v:Value} {n:Nat} {xs:List Int} (h:w.ownsRow base e 1 v n (xs.map (Value.int k))) (hn:xs.length=n):Sl k w v xs:= by
 rcases h.2 with ⟨rfl,rfl⟩ | ⟨g,cap,cur,rfl,hb,hg,hnc,hcm,hcs,htake⟩
 ·obtain rfl:xs=[]:=List.eq_nil_of_length_eq_zero hn
  exact ⟨none,0,rfl,Nat.le_refl _,⟨by simp [maxLen],fun _=>rfl⟩,fun h=>absurd rfl h⟩
 ·exact Sl.of_blk (cur:=cur.toList) (by simpa [Blk] using hg) hn hnc hcm (by simpa using htake)
theorem Sl.alloc {k:IntKind} {w:World} {v:Value} {xs:List Int} (h:Sl k w v xs) (o:Obj):Sl k (w.alloc o) v xs:=h.below (bR.alloc (Nat.le_refl _) o)
theorem Sl.lit {k:IntKind} (w:World) (e:TypeId) (xs:List Int) (n:Nat) (hn:xs.length=n) (cs:Array Value) (hc:cs=(xs.map (Value.int k)).toArray) (hm:n<=maxLen) :
 Sl k (w.alloc (.cells cs e)) (sL w.heap.size 0 n n) xs:= by
 subst hc;refine Sl.of_blk (cur:=xs.map (Value.int k)) (e:=e) (heap_alloc_new w _) hn (Nat.le_refl _) hm ?_;rw [List.take_of_length_le (by simp [hn])]
theorem Sl.litAt {k:IntKind} (w:World) (e:TypeId) (xs:List Int) (n g:Nat) (hn:xs.length=n) (cs:Array Value) (hc:cs=(xs.map (Value.int k)).toArray) (hm:n<=maxLen) (hg:w.heap.size=g) :
 Sl k (w.alloc (.cells cs e)) (sL g 0 n n) xs:= by
 subst hg;exact Sl.lit w e xs n hn cs hc hm
def yxb (k:IntKind) (xs:List Int) (w:World) (e:Ending) (w':World):Prop:=∃u,e=.returned u/\Sl k w' u xs/\BW w w'
theorem yai {P:Program} {a:Act} {w:World} {Q:Exit->Act->World->Prop} {c rest:Code} (l:Nat) (J:Act->World->Prop) (μ:Act->World->Nat) (hf:findLabel c l=some (Code.seq .skip rest))
 (pass:∀a w,J a w->∀(J':Act->World->Prop),(∀a' w',J a' w'->μ a' w'<μ a w->J' a' w')->rest.wp P (Exit.jump l J' Q) a w)
 (first:∀(J':Act->World->Prop),(∀a w,J a w->J' a w)->(∀a w,J a w->rest.wp P (Exit.jump l J' Q) a w)->c.wp P (Exit.jump l J' Q) a w):(Code.scope c).wp P Q a w:= by
 refine wp_scope_jumps l J μ hf (first J (fun _ _ h=>h) fun a w hJ=>pass a w hJ J fun _ _ h _=>h) (fun a w hJ=>wp_seq (wp_skip (pass a w hJ _ fun _ _ h hlt=>⟨h,hlt⟩)))
theorem yr5 {a b:Bool} (h:a=b):Ending.returned (.bool a)=.returned (.bool b):=by rw [h]
theorem ype {k:IntKind} {a b:Int} (h:a=b):Ending.returned (.int k a)=.returned (.int k b):=by rw [h]
def cL (w:World) (g:Nat) (cur:List Value):List Nat->Prop
| []=>True
| j::l=>w.cell? ⟨g,j,none⟩=cur[j]?/\cL w g cur l
def fL (w:World) (g:Nat):List Nat->Prop
| []=>True
| j::l=>w.frozen? ⟨g,j,none⟩=false/\fL w g l
theorem Blk.cs {w:World} {g:Nat} {e:TypeId} {cur:List Value} (h:Blk w g e cur):∀l,cL w g cur l
| []=>trivial
| j::l=>⟨h.cell j,h.cs l⟩
theorem Blk.fs {w:World} {g:Nat} {e:TypeId} {cur:List Value} (h:Blk w g e cur):∀l,fL w g l
| []=>trivial
| j::l=>⟨h.frozen j,h.fs l⟩
def ydu (J:Nat->Act->World->Prop) (Q:Exit->Act->World->Prop):Exit->Act->World->Prop
 | .goto l,a,w=>J l a w
 | e,a,w=>Q e a w
theorem yd1 {P:Program} {a:Act} {w:World} {Q:Exit->Act->World->Prop} {c:Code} (J:Nat->Act->World->Prop)
 (first:c.wp P (ydu J Q) a w)
 (pass:∀l a w,J l a w->∃rest,findLabel c l=some rest/\rest.wp P (ydu (fun _ _ _=>False) Q) a w):(Code.scope c).wp P Q a w:= by
 intro b k cs
 have key:∀l a w,J l a w->∃rest,findLabel c l=some rest/\∃e a' w',Q e a' w'/\Arrives P (lone (b.at a (.code rest::.inScope c::k)) cs w) b k cs e a' w':= by
  intro l a w hJ;obtain ⟨rest,hf,hr⟩:=pass l a w hJ;refine ⟨rest,hf,?_⟩;obtain ⟨e,a₁,w₁,hq,harr⟩:=hr b (.inScope c::k) cs;cases e with
  | normal=>exact ⟨.normal,a₁,w₁,hq,Steps.trans harr (.one step_inScope)⟩
  | exit id=>exact ⟨.exit id,a₁,w₁,hq,fun k' hk=>harr k' (by simp [exitTo,hk])⟩
  | goto l'=>exact hq.elim
  | ret=>exact ⟨_,a₁,w₁,hq,harr⟩
  | panic ch=>exact ⟨_,a₁,w₁,hq,harr⟩
  | outgrown=>exact ⟨_,a₁,w₁,hq,harr⟩
 obtain ⟨e,a₁,w₁,hq,harr⟩:=first b (.inScope c::k) cs
 cases e with
 | normal=>exact ⟨.normal,a₁,w₁,hq,.head step_scope (Steps.trans harr (.one step_inScope))⟩
 | exit id=>exact ⟨.exit id,a₁,w₁,hq,fun k' hk=>.head step_scope (harr k' (by simp [exitTo,hk]))⟩
 | goto l' =>
  obtain ⟨rest,hf,e₂,a₂,w₂,hq₂,harr₂⟩:=key l' a₁ w₁ hq;have hg:gotoIn l' (.inScope c::k)=some (.code rest::.inScope c::k):=by simp [gotoIn,hf]
  exact ⟨e₂,a₂,w₂,hq₂,.of_steps (.head step_scope (harr _ hg)) harr₂⟩
 | ret=>exact ⟨_,a₁,w₁,hq,.of_steps (.one step_scope) harr⟩
 | panic ch=>exact ⟨_,a₁,w₁,hq,.of_steps (.one step_scope) harr⟩
 | outgrown=>exact ⟨_,a₁,w₁,hq,.of_steps (.one step_scope) harr⟩
theorem ytd {J J':Nat->Act->World->Prop} {Q:Exit->Act->World->Prop} (h:∀l a w,J l a w->J' l a w):∀e a w,ydu J Q e a w->ydu J' Q e a w:=fun e a w hq=>by
 cases e <;> first | exact hq | exact h _ _ _ hq
theorem yi5 {P:Program} {a:Act} {w:World} {Q:Exit->Act->World->Prop} {c:Code} (J:Nat->Act->World->Prop) (μ:Nat->Act->World->Nat) (R:Nat->Code)
 (hf:∀l a w,J l a w->findLabel c l=some (Code.seq .skip (R l)))
 (pass:∀l a w,J l a w->∀J':Nat->Act->World->Prop,(∀l' a' w',J l' a' w'->μ l' a' w'<μ l a w->J' l' a' w') ->
  (∀l' a' w',J l' a' w'->μ l' a' w'<μ l a w->(R l').wp P (ydu J' Q) a' w')->(R l).wp P (ydu J' Q) a w)
 (first:∀J':Nat->Act->World->Prop,(∀l a w,J l a w->J' l a w)->(∀l a w,J l a w->(R l).wp P (ydu J' Q) a w)->c.wp P (ydu J' Q) a w):(Code.scope c).wp P Q a w:= by
 have mono:∀{c:Code} {J J':Nat->Act->World->Prop} {a:Act} {w:World},(∀l a w,J l a w->J' l a w)->c.wp P (ydu J Q) a w->c.wp P (ydu J' Q) a w :=
  fun h hc=>fun b k cs=>let ⟨e,a',w',q,r⟩:=hc b k cs;⟨e,a',w',ytd h e a' w' q,r⟩
 have key0:∀n l a w,μ l a w=n->J l a w->(R l).wp P (ydu (fun l' a' w'=>J l' a' w'/\μ l' a' w'<n) Q) a w:= by
  intro n
  induction n using Nat.strongRecOn with
  | _ n ih =>
   intro l a w hn hJ;subst hn;exact pass l a w hJ _ (fun l' a' w' h1 h2=>⟨h1,h2⟩) (fun l' a' w' h1 h2=>mono (fun l'' a'' w'' h3=>⟨h3.1,by omega⟩) (ih _ h2 l' a' w' rfl h1))
 have hfirst:=first J (fun _ _ _ h=>h) (fun l a w hJ=>mono (fun _ _ _ h=>h.1) (key0 _ l a w rfl hJ))
 intro b k cs
 have key:∀n l a w,μ l a w=n->J l a w->∃e a' w',Q e a' w'/\Arrives P (lone (b.at a (.code (Code.seq .skip (R l))::.inScope c::k)) cs w) b k cs e a' w':= by
  intro n
  induction n using Nat.strongRecOn with
  | _ n ih =>
   intro l a w hn hJ;obtain ⟨e,a₁,w₁,hq,harr⟩:=(wp_seq (wp_skip (key0 n l a w hn hJ)):(Code.seq .skip (R l)).wp P (ydu (fun l' a' w'=>J l' a' w'/\μ l' a' w'<n) Q) a w) b (.inScope c::k) cs;cases e with
   | normal=>exact ⟨.normal,a₁,w₁,hq,Steps.trans harr (.one step_inScope)⟩
   | exit id=>exact ⟨.exit id,a₁,w₁,hq,fun k' hk=>harr k' (by simp [exitTo,hk])⟩
   | goto l' =>
    obtain ⟨hJ',hlt⟩:=hq;obtain ⟨e₂,a₂,w₂,hq₂,harr₂⟩:=ih _ hlt l' a₁ w₁ rfl hJ';have hg:gotoIn l' (.inScope c::k)=some (.code (Code.seq .skip (R l'))::.inScope c::k):=by simp [gotoIn,hf l' a₁ w₁ hJ']
    exact ⟨e₂,a₂,w₂,hq₂,.of_steps (harr _ hg) harr₂⟩
   | ret=>exact ⟨_,a₁,w₁,hq,harr⟩
   | panic ch=>exact ⟨_,a₁,w₁,hq,harr⟩
   | outgrown=>exact ⟨_,a₁,w₁,hq,harr⟩
 obtain ⟨e,a₁,w₁,hq,harr⟩:=hfirst b (.inScope c::k) cs;cases e with
 | normal=>exact ⟨.normal,a₁,w₁,hq,.head step_scope (Steps.trans harr (.one step_inScope))⟩
 | exit id=>exact ⟨.exit id,a₁,w₁,hq,fun k' hk=>.head step_scope (harr k' (by simp [exitTo,hk]))⟩
 | goto l' =>
  obtain ⟨e₂,a₂,w₂,hq₂,harr₂⟩:=key _ l' a₁ w₁ rfl hq;have hg:gotoIn l' (.inScope c::k)=some (.code (Code.seq .skip (R l'))::.inScope c::k):=by simp [gotoIn,hf l' a₁ w₁ hq]
  exact ⟨e₂,a₂,w₂,hq₂,.of_steps (.head step_scope (harr _ hg)) harr₂⟩
 | ret=>exact ⟨_,a₁,w₁,hq,.of_steps (.one step_scope) harr⟩
 | panic ch=>exact ⟨_,a₁,w₁,hq,.of_steps (.one step_scope) harr⟩
 | outgrown=>exact ⟨_,a₁,w₁,hq,.of_steps (.one step_scope) harr⟩
theorem ymb {P:Program} {a:Act} {w:World} {Q:Exit->Act->World->Prop} {c R0 R1:Code} (l0 l1:Nat) (hne:l0≠l1) (J0 J1:Act->World->Prop) (μ0 μ1:Act->World->Nat)
 (hf0:findLabel c l0=some (Code.seq .skip R0)) (hf1:findLabel c l1=some (Code.seq .skip R1))
 (pass0:∀a w,J0 a w->∀J':Nat->Act->World->Prop,(∀a' w',J0 a' w'->μ0 a' w'<μ0 a w->J' l0 a' w')->(∀a' w',J1 a' w'->μ1 a' w'<μ0 a w->R1.wp P (ydu J' Q) a' w')->R0.wp P (ydu J' Q) a w)
 (pass1:∀a w,J1 a w->∀J':Nat->Act->World->Prop,(∀a' w',J1 a' w'->μ1 a' w'<μ1 a w->J' l1 a' w')->R1.wp P (ydu J' Q) a w)
 (first:∀J':Nat->Act->World->Prop,(∀a w,J0 a w->R0.wp P (ydu J' Q) a w)->c.wp P (ydu J' Q) a w):(Code.scope c).wp P Q a w:= by
 refine yi5 (fun l a w=>(l=l0/\J0 a w)\/(l=l1/\J1 a w)) (fun l a w=>if l=l0 then μ0 a w else μ1 a w) (fun l=>if l=l0 then R0 else R1) ?_ ?_ ?_
 ·intro l a w hJ
  rcases hJ with ⟨rfl,_⟩ | ⟨rfl,_⟩
  ·rw [if_pos rfl];exact hf0
  ·rw [if_neg (Ne.symm hne)];exact hf1
 ·intro l a w hJ J' h1 h2
  rcases hJ with ⟨rfl,hJ⟩ | ⟨rfl,hJ⟩
  ·rw [if_pos rfl]
   refine pass0 a w hJ J' (fun a' w' h3 h4=>h1 _ a' w' (.inl ⟨rfl,h3⟩) (by simpa using h4)) (fun a' w' h3 h4=>?_);have:=h2 l1 a' w' (.inr ⟨rfl,h3⟩) (by rw [if_neg (Ne.symm hne),if_pos rfl];exact h4)
   rwa [if_neg (Ne.symm hne)] at this
  ·rw [if_neg (Ne.symm hne)]
   exact pass1 a w hJ J' (fun a' w' h3 h4=>h1 _ a' w' (.inr ⟨rfl,h3⟩) (by rw [if_neg (Ne.symm hne),if_neg (Ne.symm hne)];exact h4))
 ·intro J' hJ hrest
  refine first J' (fun a w h=>?_)
  have:=hrest l0 a w (.inl ⟨rfl,h⟩)
  rwa [if_pos rfl] at this
theorem yf8 (w:World) (e:TypeId) {size:Nat}:(w.alloc (.cells #[] e)).ownsRow w.heap.size e size (sL w.heap.size 0 0 0) 0 [] :=
 World.ownsRow_made w #[] 0 (Nat.le_refl _) (by simp [maxLen]) (by simp)
section
variable {P:Program} (w:World)
theorem you (base:Nat) (t ty e:TypeId) (i:TypeInfo) (z:Value) (size bytes:Nat) (ht:P.underlying t=some (.slice e)) (hi:P.info? e=some i) (hz:i.zero=some z)
 (hsize:i.size=size) (hby:i.bytes=bytes) (v:Value) (n:Nat) (xs:List Value) (hown:w.ownsRow base e size v n xs)
 (a:Addr) (m c:Nat) (news:List Value) (hl:news.length=m*size) (hnews:∀j u,news[j]?=some u->w.cell? (a.add j)=some u) (h1:∀u∈news,u.oneCell'=true)
 (h63:n+m<=maxLen) (hbytes:(n+m)*bytes<=140737488355328) {v':Value} {w':World} (hr:(Builtin.append_ #[t,t] ty #[v,.slice (some a) m c]).run P w=.ok v' w') :
 v'.ownBlock=v.ownBlock\/v'.ownBlock=some w.heap.size:= by
 subst hsize;subst hby;have hsmall:n+m<=9223372036854775807:=by simp only [maxLen] at h63;omega
 rcases hown.2 with ⟨rfl,rfl⟩ | ⟨g,cap,cur,rfl,hbg,hg,hnc,hcm,hcs,htake⟩
 ·by_cases hm:m=0
  ·subst hm
   obtain rfl:news=[]:=List.eq_nil_of_length_eq_zero (by simpa using hl)
   have e1:(Builtin.append_ #[t,t] ty #[sZ,.slice (some a) 0 c]).run P w=.ok (sZ) w:= by
    simp [Builtin.append_,run_underlying ht,sizeOf,typeInfo,hi,Builtin.lenOf,Builtin.firstCells,loadCells,loadCellsFrom]
   rw [e1] at hr;cases hr;exact .inl rfl
  ·have e1:=run_append_nil (P:=P) w t ty e i z ht hi hz a m c news hl hnews om om (by have hb:=hbytes;simp only [Nat.zero_add] at hb;omega)
   rw [e1] at hr;cases hr;exact .inr rfl
 ·by_cases hroom:n+m<=cap
  ·have hfit:n*i.size+news.length<=cur.size:=by rw [hl,hcs,<-Nat.add_mul];exact Nat.mul_le_mul_right _ hroom
   have e1:=run_append_room (P:=P) w t ty e i ht hi g n cap cur hg a m c news hl hnews h1 hroom hfit;rw [e1] at hr;cases hr;exact .inl rfl
  ·have holds:∀j u,xs[j]?=some u->w.cell? (((Ad g 0):Addr).add j)=some u:=hown.cells (g:=g) rfl
   have e1:=run_append_grow (P:=P) w t ty e i z ht hi hz (Ad g 0) n cap xs hown.1 holds a m c news hl hnews om om (growslice_fits om hbytes);rw [e1] at hr;cases hr;exact .inr rfl
theorem yee {o:Oper} {a:Act} {K:Act->World->Prop} {Q:Exit->Act->World->Prop} (s x:Operand) (t:TypeId)
 (ho:o.op=.call { callee:=.builtin .append,args:=#[s,x],argTypes:=#[t,t] })
 (base:Nat) (e:TypeId) (i:TypeInfo) (z:Value) (size bytes:Nat) (ht:P.underlying t=some (.slice e)) (hi:P.info? e=some i) (hz:i.zero=some z)
 (hsize:i.size=size) (hby:i.bytes=bytes) (hzs:z.cells.size=size) (hsz:0<size)
 (v:Value) (n:Nat) (xs:List Value) (hs:a.eval s=v) (hown:w.ownsRow base e size v n xs)
 (ad:Addr) (m c:Nat) (news:List Value) (hx:a.eval x=.slice (some ad) m c) (hl:news.length=m*size) (hnews:∀j u,news[j]?=some u->w.cell? (ad.add j)=some u) (h1:∀u∈news,u.oneCell'=true)
 (h63:n+m<=maxLen) (hbytes:(n+m)*bytes<=140737488355328) (hbase:base<=w.heap.size)
 (h:∀v' w',w'.ownsRow base e size v' (n+m) (xs++news)->w.grownBy w' v.ownBlock->(v'.ownBlock=v.ownBlock\/v'.ownBlock=some w.heap.size)->K (a.put o.dst v') w'):o.wp P a w K Q:= by
 obtain ⟨v',w',hr,h2,h3,_⟩:=run_append_own (P:=P) w base t o.type e i z size bytes ht hi hz hsize hby hzs hsz v n xs hown ad m c news hl hnews h1 h63 hbytes hbase;have h4:=you w base t o.type e i z size bytes ht hi hz hsize hby v n xs hown ad m c news hl hnews h1 h63 hbytes hr;unfold Oper.wp execOp;simp only [ho,resolve,invoke,builtin,Sem.run_bind,Sem.run_pure,Result.andThen_ok,List.map_toArray,List.map_cons,List.map_nil,hs,hx,hr];exact h v' w' h2 h3 h4
theorem yas {ops:Array Oper} {rest:List Oper} {o:Oper} {a:Act} {Q:Exit->Act->World->Prop} (hgd:o.guard=none) (s x:Operand) (t:TypeId)
 (ho:o.op=.call { callee:=.builtin .append,args:=#[s,x],argTypes:=#[t,t] })
 (base:Nat) (e:TypeId) (i:TypeInfo) (z:Value) (size bytes:Nat) (ht:P.underlying t=some (.slice e)) (hi:P.info? e=some i) (hz:i.zero=some z)
 (hsize:i.size=size) (hby:i.bytes=bytes) (hzs:z.cells.size=size) (hsz:0<size)
 (v:Value) (n:Nat) (xs:List Value) (hs:a.eval s=v) (hown:w.ownsRow base e size v n xs)
 (ad:Addr) (m c:Nat) (news:List Value) (hx:a.eval x=.slice (some ad) m c) (hl:news.length=m*size) (hnews:∀j u,news[j]?=some u->w.cell? (ad.add j)=some u) (h1:∀u∈news,u.oneCell'=true)
 (h63:n+m<=maxLen) (hbytes:(n+m)*bytes<=140737488355328) (hbase:base<=w.heap.size)
 (h:∀v' w',w'.ownsRow base e size v' (n+m) (xs++news)->w.grownBy w' v.ownBlock->(v'.ownBlock=v.ownBlock\/v'.ownBlock=some w.heap.size)->wpList P ops Q rest (a.put o.dst v') w'):wpList P ops Q (o::rest) a w :=
 wpList_plain hgd fun _ hK=>yee w s x t ho base e i z size bytes ht hi hz hsize hby hzs hsz v n xs hs hown ad m c news hx hl hnews h1 h63 hbytes hbase fun v' w' h2 h3 h4=>hK _ _ (h v' w' h2 h3 h4)
theorem yhd {o:Oper} {a:Act} {K:Act->World->Prop} {Q:Exit->Act->World->Prop} (s x:Operand) (t:TypeId)
 (ho:o.op=.call { callee:=.builtin .append,args:=#[s,x],argTypes:=#[t,t] })
 (base:Nat) (e:TypeId) (i:TypeInfo) (z:Value) (size bytes:Nat) (ht:P.underlying t=some (.slice e)) (hi:P.info? e=some i) (hz:i.zero=some z)
 (hsize:i.size=size) (hby:i.bytes=bytes) (hzs:z.cells.size=size) (hsz:0<size)
 (v:Value) (n:Nat) (xs:List Value) (hs:a.eval s=v) (hown:w.ownsRow base e size v n xs)
 (ao:Option Addr) (m c:Nat) (news:List Value) (hx:a.eval x=.slice ao m c) (hl:news.length=m*size) (hnone:ao=none->m=0/\c=0) (hnews:∀ad,ao=some ad->∀j u,news[j]?=some u->w.cell? (ad.add j)=some u) (h1:∀u∈news,u.oneCell'=true)
 (h63:n+m<=maxLen) (hbytes:(n+m)*bytes<=140737488355328) (hbase:base<=w.heap.size)
 (h:∀v' w',w'.ownsRow base e size v' (n+m) (xs++news)->w.grownBy w' v.ownBlock->(v'=sZ↔v=sZ/\m=0)->K (a.put o.dst v') w'):o.wp P a w K Q:= by
 cases ao with
 | some ad=>exact wp_append_own w s x t ho base e i z size bytes ht hi hz hsize hby hzs hsz v n xs hs hown ad m c news hx hl (hnews ad rfl) h1 h63 hbytes hbase h
 | none =>
  obtain ⟨rfl,rfl⟩:=hnone rfl;obtain rfl:news=[]:=List.eq_nil_of_length_eq_zero (by simpa using hl);have hr:=run_append_owned_none (P:=P) w base t o.type e i size ht hi v n xs hown;unfold Oper.wp execOp;simp only [ho,resolve,invoke,builtin,Sem.run_bind,Sem.run_pure,Result.andThen_ok,List.map_toArray,List.map_cons,List.map_nil,hs,hx,hr];exact h v w (by simpa using hown) (World.grownBy.refl _ _) (by simp)
theorem ya9 {ops:Array Oper} {rest:List Oper} {o:Oper} {a:Act} {Q:Exit->Act->World->Prop} (hgd:o.guard=none) (s x:Operand) (t:TypeId)
 (ho:o.op=.call { callee:=.builtin .append,args:=#[s,x],argTypes:=#[t,t] })
 (base:Nat) (e:TypeId) (i:TypeInfo) (z:Value) (size bytes:Nat) (ht:P.underlying t=some (.slice e)) (hi:P.info? e=some i) (hz:i.zero=some z)
 (hsize:i.size=size) (hby:i.bytes=bytes) (hzs:z.cells.size=size) (hsz:0<size)
 (v:Value) (n:Nat) (xs:List Value) (hs:a.eval s=v) (hown:w.ownsRow base e size v n xs)
 (ao:Option Addr) (m c:Nat) (news:List Value) (hx:a.eval x=.slice ao m c) (hl:news.length=m*size) (hnone:ao=none->m=0/\c=0) (hnews:∀ad,ao=some ad->∀j u,news[j]?=some u->w.cell? (ad.add j)=some u) (h1:∀u∈news,u.oneCell'=true)
 (h63:n+m<=maxLen) (hbytes:(n+m)*bytes<=140737488355328) (hbase:base<=w.heap.size)
 (h:∀v' w',w'.ownsRow base e size v' (n+m) (xs++news)->w.grownBy w' v.ownBlock->(v'=sZ↔v=sZ/\m=0)->wpList P ops Q rest (a.put o.dst v') w'):wpList P ops Q (o::rest) a w :=
 wpList_plain hgd fun _ hK=>yhd w s x t ho base e i z size bytes ht hi hz hsize hby hzs hsz v n xs hs hown ao m c news hx hl hnone hnews h1 h63 hbytes hbase fun v' w' h2 h3 h4=>hK _ _ (h v' w' h2 h3 h4)
theorem yfs {ops:Array Oper} {o:Oper} {a:Act} {K:Act->World->Prop} {Q:Exit->Act->World->Prop} {E:Prop} (hgd:o.guard=none) (s x:Operand) (t:TypeId)
 (ho:o.op=.call { callee:=.builtin .append,args:=#[s,x],argTypes:=#[t,t] })
 (base:Nat) (e:TypeId) (i:TypeInfo) (z:Value) (size bytes:Nat) (ht:P.underlying t=some (.slice e)) (hi:P.info? e=some i) (hz:i.zero=some z)
 (hsize:i.size=size) (hby:i.bytes=bytes) (hzs:z.cells.size=size) (hsz:0<size)
 (v:Value) (n:Nat) (xs:List Value) (hs:a.eval s=v) (hown:w.ownsRow base e size v n xs)
 (ao:Option Addr) (m c:Nat) (news:List Value) (hx:a.eval x=.slice ao m c) (hl:news.length=m*size) (hnone:ao=none->m=0/\c=0) (hnews:∀ad,ao=some ad->∀j u,news[j]?=some u->w.cell? (ad.add j)=some u) (h1:∀u∈news,u.oneCell'=true)
 (h63:n+m<=maxLen) (hbytes:(n+m)*bytes<=140737488355328) (hbase:base<=w.heap.size)
 (h:∀v' w',w'.ownsRow base e size v' (n+m) (xs++news)->w.grownBy w' v.ownBlock->(v'=sZ↔v=sZ/\m=0)->K (a.put o.dst v') w') :
 if Region.wanted o (yielded ops a.tmps)=true then Oper.wp P o a w K Q else E:= by
 have hw:Region.wanted o (yielded ops a.tmps)=true:=by simp [Region.wanted,hgd]
 rw [if_pos hw];exact yhd w s x t ho base e i z size bytes ht hi hz hsize hby hzs hsz v n xs hs hown ao m c news hx hl hnone hnews h1 h63 hbytes hbase h
end
def TrS (w:World) (v:Value) (ts:List (Int×Bool)):Prop :=
 ∃ao cap,v=.slice ao ts.length cap/\ts.length<=cap/\(cap<=maxLen/\(ao=none->cap=0)) /\
  (ts≠[]->∃b o,ao=some (Ad b o)/\∀i,i<ts.length->w.cell? (Ad b (o+i*2))=some (iV (ts.getD i (0,false)).1)/\w.cell? (Ad b (o+i*2+1))=some (.bool (ts.getD i (0,false)).2))
theorem TrS.below {w w':World} {v:Value} {ts:List (Int×Bool)} (h:TrS w v ts) (hb:BW w w'):TrS w' v ts:= by
 obtain ⟨ao,cap,rfl,h1,h2,h3⟩:=h;refine ⟨ao,cap,rfl,h1,h2,fun hx=>?_⟩;obtain ⟨b,o,rfl,hc⟩:=h3 hx;exact ⟨b,o,rfl,fun i hi=>⟨(hb.cell (p:=(Ad b (o+i*2))) (yac (hc i hi).1)).trans (hc i hi).1,(hb.cell (p:=(Ad b (o+i*2+1))) (yac (hc i hi).2)).trans (hc i hi).2⟩⟩
theorem TrS.get {w:World} {ao:Option Addr} {n cap:Nat} {ts:List (Int×Bool)} (h:TrS w (.slice ao n cap) ts) {i:Nat} (hi:i<ts.length) :
 ∃b o x g,ao=some (Ad b o)/\w.cell? (Ad b (o+i*2))=some (iV x)/\w.cell? (Ad b (o+i*2+1))=some (.bool g)/\Hid (ts.getD i (0,false)=(x,g)):= by
 obtain ⟨ao',cap',e,h1,h2,h3⟩:=h;cases e;obtain ⟨b,o,rfl,hc⟩:=h3 (by intro h;rw [h] at hi;simp at hi);exact ⟨b,o,_,_,rfl,(hc i hi).1,(hc i hi).2,rfl⟩
def betw (v a b:Int):Bool:=decide (a<=v) && decide (v<=b)
theorem yq7 (v a b:Int) (w:World):Calls Tryz.prog 53 #[iV v,iV a,iV b] w (Ret (.bool (betw v a b)) w):= by
 go_enter Tryz.func53,Tryz.ntmps53
 by_cases h1:a<=v
 ·by_cases h2:v<=b
  ·go_wp2
   go_ret
   simp [Ret,betw,h1,h2]
  ·go_wp2
   go_ret
   simp [Ret,betw,h1,h2]
 ·go_wp2
  go_ret
  simp [Ret,betw];omega
theorem yb0 {v a b:Int} {r:Bool} (h:betw v a b=r) (w:World):Calls Tryz.prog 53 #[iV v,iV a,iV b] w (Ret (.bool r) w):=by rw [<-h];exact yq7 v a b w
def yd7 (ts:List (Int×Bool)):Bool:=ts.all (fun x=>betw x.1 0 10000000)
def yaw (lim:Int) (ts:List (Int×Bool)) (cyc dued minf minp start:Int):Bool :=
 betw lim 0 1000000000000000 && betw ts.length 1 8 && yd7 ts && (betw cyc 1 28 && betw dued 1 25) &&
  betw minf 0 1000000000000000 && betw minp 0 1000 && betw start (-135140) 2922896
theorem ydr {v a b:Int}:betw v a b=true↔a<=v/\v<=b:=by simp [betw]
theorem yty {v a b:Int}:betw v a b=false↔v<a\/b<v:= by
 rw [<-Bool.not_eq_true,ydr];omega
theorem yvq {ts:List (Int×Bool)} {k:Nat} (hk:k<ts.length) {x:Int} {g:Bool} (he:ts.getD k (0,false)=(x,g)) (h:betw x 0 10000000=false):yd7 ts=false:= by
 unfold yd7;rw [List.all_eq_false];refine ⟨(x,g),?_,by simp [h]⟩;rw [<-he];simp [List.getD,hk]
theorem ytj {ts:List (Int×Bool)} (h:∀j,j<ts.length->betw (ts.getD j (0,false)).1 0 10000000=true):yd7 ts=true:= by
 unfold yd7;rw [List.all_eq_true];intro x hx;obtain ⟨j,hj,rfl⟩:=List.getElem_of_mem hx;have:=h j hj
 simpa [List.getD,hj] using this
def TB (w:World) (g:Nat) (lim:Int) (v:Value) (cyc dued minf minp start:Int):Prop :=
 w.cell? (Ad g 0)=some (iV lim)/\w.cell? (Ad g 1)=some v/\w.cell? (Ad g 2)=some (iV cyc)/\w.cell? (Ad g 3)=some (iV dued) /\
  w.cell? (Ad g 4)=some (iV minf)/\w.cell? (Ad g 5)=some (iV minp)/\w.cell? (Ad g 6)=some (iV start)
theorem TB.below {w w':World} {g:Nat} {lim:Int} {v:Value} {cyc dued minf minp start:Int} (h:TB w g lim v cyc dued minf minp start) (hb:BW w w'):TB w' g lim v cyc dued minf minp start:= by
 obtain ⟨h0,h1,h2,h3,h4,h5,h6⟩:=h;have q:∀i x,w.cell? (Ad g i)=some x->w'.cell? (Ad g i)=some x:=fun i x hx=>(hb.cell (p:=(Ad g i)) (yac hx)).trans hx;exact ⟨q _ _ h0,q _ _ h1,q _ _ h2,q _ _ h3,q _ _ h4,q _ _ h5,q _ _ h6⟩
theorem TB.new (w:World) (e:TypeId) (lim:Int) (v:Value) (cyc dued minf minp start:Int) :
 TB (w.alloc (.cells #[iV lim,v,iV cyc,iV dued,iV minf,iV minp,iV start] e)) w.heap.size lim v cyc dued minf minp start:= by
 have h:Blk (w.alloc (.cells #[iV lim,v,iV cyc,iV dued,iV minf,iV minp,iV start] e)) w.heap.size e [iV lim,v,iV cyc,iV dued,iV minf,iV minp,iV start]:=heap_alloc_new w _;refine ⟨?_,?_,?_,?_,?_,?_,?_⟩ <;> (rw [h.cell];rfl)
theorem yar (v:Value) (ts:List (Int×Bool)) (lim cyc dued minf minp start:Int) (r:Int) (hr:Hid ((if yaw lim ts cyc dued minf minp start=true then 0 else 6)=r)) (w:World) (hv:TrS w v ts) :
 Calls Tryz.prog 27 #[.agg #[iV lim,v,iV cyc,iV dued,iV minf,iV minp,iV start]] w (RetB (iV r) w):= by
 have HV:=lh hv;obtain ⟨ao,cap,rfl,h1,⟨h2,_⟩,h3⟩:=hv;clear h3;unfold maxLen at h2;have HR6:Hid (yaw lim ts cyc dued minf minp start=false->r=6):=fun h=>by rw [<-hr.out,h];rfl
 have HR0:Hid (yaw lim ts cyc dued minf minp start=true->r=0):=fun h=>by rw [<-hr.out,h];rfl
 clear hr;have hT:=TB.new w 24 lim (.slice ao ts.length cap) cyc dued minf minp start;have hb0:BW w (w.alloc (.cells #[iV lim,.slice ao ts.length cap,iV cyc,iV dued,iV minf,iV minp,iV start] 24)):=bR.alloc (Nat.le_refl _) _
 go_enter Tryz.func27,Tryz.ntmps27
 go_wp2
 refine yai 0 (fun a' w'=>∃(u0 u1 u2 u3 u4 u5 u6 u7 u8 u9 u10 u11 u12 u13 u14 u15 u16 u17 u18 u19 u20 u21 u22 u23 u24 u25 u26 u27 u28 u29 u30 u31 u32 u33 u34 u35 u36 u37 u38 u39 u40 u41 u42 u43 u44 u45 u46 u47 u48 u49 u50 u51 u52 u53 u54 u55 u56 u57 u58 u59 u60 u61 u62 u63 u64 u65 u66 u67 u68:Value),a'={ tmps:=#[u0,u1,u2,u3,u4,u5,u6,u7,u8,u9,u10,u11,u12,u13,u14,u15,u16,u17,u18,u19,u20,u21,u22,u23,u24,u25,u26,u27,u28,u29,u30,u31,u32,u33,u34,u35,u36,u37,u38,u39,u40,u41,u42,u43,u44,u45,u46,u47,u48,u49,u50,u51,u52,u53,u54,u55,u56,u57,u58,u59,u60,u61,u62,u63,u64,u65,u66,u67,u68],defers:=[] }/\Hid (r=6)/\BW w w')
  (fun _ _=>0) rfl ?pass ?first
 case pass =>
  intro a1 w1 hJ J' hJ';clear hJ'
  iterate 69 obtain ⟨_,hJ⟩:=hJ
  obtain ⟨rfl,h6,hb⟩:=hJ;go_wp2
  simp only [Exit.jump];go_ret
  rw [h6.out];exact ⟨rfl,hb⟩
 case first =>
  intro J' hJJ hrest;have HJ:=lh hJJ;have HREST:=lh hrest;clear hJJ hrest;cases hA:betw lim 0 1000000000000000 with
  | false =>
   have h6:=lh (HR6.out (by simp [yaw,hA]));have HA:=lh hA;clear hA
   go_wp2_with fail
   refine (yb0 HA.out _).mono ?_;rintro e w1 ⟨rfl,rfl⟩;exact zq01969b
  | true =>
   have HA:=lh hA;clear hA;cases hB:betw ts.length 1 8 with
   | false =>
    have h6:=lh (HR6.out (by simp [yaw,hB]));rw [yty] at hB
    go_wp2_with fail
    refine (yb0 HA.out _).mono ?_;rintro e w1 ⟨rfl,rfl⟩
    by_cases hB1:(ts.length:Int)<1
    ·have d1:decide ((ts.length:Int)<1)=true:=by simpa using hB1
     clear hB hB1;exact zq01969b
    ·have d1:decide ((ts.length:Int)<1)=false:=by simpa using hB1
     have d2:decide ((8:Int)<(ts.length:Int))=true:=by simp;omega
     clear hB hB1;exact zq01969b
   | true =>
    have HB:=lh hB;rw [ydr] at hB;have d1:decide ((ts.length:Int)<1)=false:=by simp;omega
    have d2:decide ((8:Int)<(ts.length:Int))=false:=by simp;omega
    clear hB
    go_wp2_with fail
    refine (yb0 HA.out _).mono ?_;rintro e w1 ⟨rfl,rfl⟩
    go_wp2_with fail
    go_loopg [24] ts.length (fun g i wr=>∃k:Nat,k+g=ts.length/\i=iV k/\Hid (∀j,j<k->betw (ts.getD j (0,false)).1 0 10000000=true)/\Below (w.alloc (.cells #[iV lim,.slice ao ts.length cap,iV cyc,iV dued,iV minf,iV minp,iV start] 24)).heap.size (w.alloc (.cells #[iV lim,.slice ao ts.length cap,iV cyc,iV dued,iV minf,iV minp,iV start] 24)) wr)
    case atStart=>exact ⟨0,by omega,rfl,fun j hj=>absurd hj om,bR⟩
    case round =>
     obtain ⟨k,hkg,rfl,HN,hbr⟩:=hrel;have hb:BW w wr:=yad hb0 hbr;have hTr:=hT.below hbr;cases gk with
     | zero =>
      have hlt:¬((k:Int)<(ts.length:Int)):=by omega
      have HC:=lh (ytj fun j hj=>HN.out j om);obtain ⟨t0,t1,t2,t3,t4,t5,t6⟩:=hTr;clear hT hb0 hbr;cases hD:(betw cyc 1 28 && betw dued 1 25) with
      | false =>
       have h6:=lh (HR6.out (by simp only [yaw,hD];simp))
       have key:decide (cyc<1)=true\/(decide (cyc<1)=false/\decide (28<cyc)=true)\/(decide (cyc<1)=false/\decide (28<cyc)=false/\decide (dued<1)=true)\/(decide (cyc<1)=false/\decide (28<cyc)=false/\decide (dued<1)=false/\decide (25<dued)=true):= by
        simp only [betw,Bool.and_eq_false_iff,decide_eq_false_iff_not,decide_eq_true_eq] at hD ⊢;omega
       clear hD;rcases key with d1 | ⟨d1,d2⟩ | ⟨d1,d2,d3⟩ | ⟨d1,d2,d3,d4⟩
       all_goals
        go_wp2
        go_step3
        exact ⟨rfl,HJ.out _ _ (x10 (x10 (x10 (x10 (x10 (x10 ⟨_,_,_,_,_,_,_,_,_,rfl,h6,hb⟩))))))⟩
      | true =>
       have HD:=lh hD
       have key:decide (cyc<1)=false/\decide (28<cyc)=false/\decide (dued<1)=false/\decide (25<dued)=false:= by
        simp only [betw,Bool.and_eq_true,decide_eq_true_eq,decide_eq_false_iff_not] at hD ⊢;omega
       obtain ⟨d1,d2,d3,d4⟩:=key;clear hD;cases hE:betw minf 0 1000000000000000 with
       | false =>
        have h6:=lh (HR6.out (by simp only [yaw,hE];simp));have HE:=lh hE;clear hE
        go_wp2_with fail
        refine (yb0 HE.out _).mono ?_;exact zq01ae3a
       | true =>
        have HE:=lh hE;clear hE;cases hF:betw minp 0 1000 with
        | false =>
         have h6:=lh (HR6.out (by simp only [yaw,hF];simp));have HF:=lh hF;clear hF
         go_wp2_with fail
         refine (yb0 HE.out _).mono ?_;rintro e w1 ⟨rfl,rfl⟩
         go_wp2_with fail
         refine (yb0 HF.out _).mono ?_;exact zq01ae3a
        | true =>
         have HF:=lh hF;clear hF;cases hG:betw start (-135140) 2922896 with
         | false =>
          have h6:=lh (HR6.out (by simp only [yaw,hG];simp))
          have key:decide (-135140<=start)=false\/(decide (-135140<=start)=true/\decide (start<=2922896)=false):= by
           simp only [betw,Bool.and_eq_false_iff,decide_eq_false_iff_not,decide_eq_true_eq] at hG ⊢;omega
          clear hG;rcases key with d5 | ⟨d5,d6⟩
          all_goals
           go_wp2_with fail
           refine (yb0 HE.out _).mono ?_;rintro e w1 ⟨rfl,rfl⟩
           go_wp2_with fail
           refine (yb0 HF.out _).mono ?_;rintro e w1 ⟨rfl,rfl⟩;go_wp2
           go_step3
           go_step
           go_step
           exact HREST.out _ _ (x10 (x10 (x10 (x10 (x10 (x10 ⟨_,_,_,_,_,_,_,_,_,rfl,h6,hb⟩))))))
         | true =>
          have h0:=lh (HR0.out (by simp only [yaw,HA.out,HB.out,HC.out,HD.out,HE.out,HF.out,hG];rfl))
          have key:decide (-135140<=start)=true/\decide (start<=2922896)=true:= by
           simp only [betw,Bool.and_eq_true,decide_eq_true_eq] at hG ⊢;omega
          obtain ⟨d5,d6⟩:=key;clear hG
          go_wp2_with fail
          refine (yb0 HE.out _).mono ?_;rintro e w1 ⟨rfl,rfl⟩
          go_wp2_with fail
          refine (yb0 HF.out _).mono ?_;rintro e w1 ⟨rfl,rfl⟩;go_wp2
          simp only [Exit.jump];go_ret
          rw [h0.out];exact ⟨rfl,hb⟩
     | succ g =>
      have hlt:(k:Int)<(ts.length:Int):=by omega
      obtain ⟨b,o,x,gr,rfl,hc1,hc2,HX⟩:=(HV.out.below hb).get (i:=k) om;obtain ⟨t0,t1,t2,t3,t4,t5,t6⟩:=hTr;clear hT hb0;cases hD:betw x 0 10000000 with
      | false =>
       have h6:=lh (HR6.out (by simp only [yaw,yvq om HX.out hD];simp));have HD:=lh hD;clear hD
       go_wp2_with fail
       refine (yb0 HD.out _).mono ?_;rintro e w1 ⟨rfl,rfl⟩;go_wp2
       go_step3
       exact ⟨rfl,HJ.out _ _ (x10 (x10 (x10 (x10 (x10 (x10 ⟨_,_,_,_,_,_,_,_,_,rfl,h6,bL⟩))))))⟩
      | true =>
       have HD:=lh hD;clear hD
       go_wp2_with fail
       refine (yb0 HD.out _).mono ?_;rintro e w1 ⟨rfl,rfl⟩;go_wp2
       go_roundg g
       case measure=>omega
       case rel=>exact ⟨k+1,by omega,by go_num,fun j hj=>by
        rcases Nat.lt_succ_iff_lt_or_eq.1 hj with h' | rfl
        ·exact HN.out j h'
        ·rw [HX.out];exact HD.out,bL⟩
def may0 (v:Int):Bool:=decide (0<=v) && decide (v<=1000000000000000)
theorem ybv {v:Int}:may0 v=true↔0<=v/\v<=1000000000000000:=by simp [may0]
theorem ypu (v:Int) (w:World):Calls Tryz.prog 192 #[iV v] w (Ret (.bool (may0 v)) w):= by
 by_cases h1:0<=v
 ·by_cases h2:v<=1000000000000000
  ·go_enter Tryz.func192,Tryz.ntmps192
   go_wp2
   go_ret
   simp [Ret,may0,h1,h2]
  ·go_enter Tryz.func192,Tryz.ntmps192
   go_wp2
   go_ret
   simp [Ret,may0,h2]
 ·go_enter Tryz.func192,Tryz.ntmps192
  go_wp2
  go_ret
  simp [Ret,may0];omega
theorem ybz {v:Int} {r:Bool} (h:may0 v=r) (w:World):Calls Tryz.prog 192 #[iV v] w (Ret (.bool r) w):=by rw [<-h];exact ypu v w
def yc0 (all:Int):List Int->Option Int
 | []=>some all
 | v::l=>if may0 v=true/\may0 (all+v)=true then yc0 (all+v) l else none
theorem yln {all:Int} {xs:List Int} {k:Nat} (hk:k<xs.length):yc0 all (xs.drop k)=if may0 (xs.getD k 0)=true/\may0 (all+xs.getD k 0)=true then yc0 (all+xs.getD k 0) (xs.drop (k+1)) else none:= by
 rw [List.drop_eq_getElem_cons hk];simp [yc0,List.getD,hk]
def yat (bs:List Int) (c d:Int):Bool :=
 match yc0 0 bs with
 | none=>false
 | some all=>decide (1<=bs.length) && decide (bs.length<=8) && may0 c && may0 d && (c == 0 || all == 0)
def PB (w:World) (g:Nat) (v:Value) (c d:Int):Prop:=w.cell? (Ad g 0)=some v/\w.cell? (Ad g 1)=some (iV c)/\w.cell? (Ad g 2)=some (iV d)
theorem PB.below {w w':World} {g:Nat} {v:Value} {c d:Int} (h:PB w g v c d) (hb:BW w w'):PB w' g v c d:= by
 obtain ⟨h0,h1,h2⟩:=h;have q:∀i x,w.cell? (Ad g i)=some x->w'.cell? (Ad g i)=some x:=fun i x hx=>(hb.cell (p:=(Ad g i)) (yac hx)).trans hx;exact ⟨q _ _ h0,q _ _ h1,q _ _ h2⟩
theorem PB.new (w:World) (e:TypeId) (v:Value) (c d:Int):PB (w.alloc (.cells #[v,iV c,iV d] e)) w.heap.size v c d:= by
 have h:Blk (w.alloc (.cells #[v,iV c,iV d] e)) w.heap.size e [v,iV c,iV d]:=heap_alloc_new w _;refine ⟨?_,?_,?_⟩ <;> (rw [h.cell];rfl)
theorem ya0 (v:Value) (bs:List Int) (c d:Int) (r:Bool) (hr:Hid (yat bs c d=r)) (hlen:bs.length<=1000000) (w:World) (hv:Sl .i64 w v bs) :
 Calls Tryz.prog 154 #[.agg #[v,iV c,iV d]] w (RetB (.bool r) w):= by
 have HV:=lh hv;obtain ⟨ao,cap,rfl,h1,⟨h2,_⟩,h3⟩:=hv;clear h3;unfold maxLen at h2;have HP:=lh (PB.new w 35 (.slice ao bs.length cap) c d);obtain ⟨p0,p1,p2⟩:=HP.out;have hb0:BW w (w.alloc (.cells #[.slice ao bs.length cap,iV c,iV d] 35)):=yaa bR _;have HSV:=lh (HV.out.below hb0);clear HP HV
 go_enter Tryz.func154,Tryz.ntmps154
 go_wp2_with fail
 obtain ⟨W,hW,gp0,gp1,gp2,gb0,GSV⟩:∃W,(w.alloc (.cells #[.slice ao bs.length cap,iV c,iV d] 35))=W/\W.cell? (Ad w.heap.size 0)=some (.slice ao bs.length cap)/\W.cell? (Ad w.heap.size 1)=some (iV c)/\W.cell? (Ad w.heap.size 2)=some (iV d)/\BW w W/\Hid (Sl .i64 W (.slice ao bs.length cap) bs):=⟨_,rfl,p0,p1,p2,hb0,HSV⟩
 with_reducible rw [hW]
 clear hW p0 p1 p2 hb0 HSV;have hb0:=gb0;have HSV:=GSV;go_loopg [3,9] bs.length (fun g a i wr=>∃(k:Nat) (all:Int),k+g=bs.length/\i=iV k/\a=iV all/\Hid (yc0 all (bs.drop k)=yc0 0 bs)/\Hid (0<=all/\all<=1000000000000000)/\W=wr)
 case atStart=>exact ⟨0,0,by omega,rfl,rfl,rfl,lh om,rfl⟩
 case round =>
  obtain ⟨k,all,hkg,rfl,rfl,hA,hB,rfl⟩:=hrel;cases gk with
  | zero =>
   have hlt:¬((k:Int)<(bs.length:Int)):=by omega
   have hs:yc0 0 bs=some all:= by
    rw [<-hA.out,List.drop_of_length_le om]
    rfl
   have hr2:=hr.out;unfold yat at hr2;rw [hs] at hr2;have HR:=lh hr2;clear hr2 hs hA hr
   by_cases l1:1<=bs.length
   ·have d1:decide ((1:Int)<=(bs.length:Int))=true:=by simp;omega
    by_cases l2:bs.length<=8
    ·have d2:decide ((bs.length:Int)<=8)=true:=by simp;omega
     cases mc:may0 c with
     | false =>
      obtain rfl:false=r:=by rw [<-HR.out,mc];simp
      have MC:=lh mc;clear mc HR
      go_wp2_with fail
      refine (ybz MC.out _).mono ?_;rintro _ w1 ⟨rfl,rfl⟩;go_wp2
      go_ret
      exact ⟨rfl,hb0⟩
     | true =>
      have MC:=lh mc;cases md:may0 d with
      | false =>
       obtain rfl:false=r:=by rw [<-HR.out,md];simp
       have MD:=lh md;clear mc md HR;exact zq019664
      | true =>
       have MD:=lh md;have HR2:Hid ((c == 0 || all == 0)=r):=by show _=_;rw [<-HR.out,mc,md];simp [l1,l2]
       clear mc md HR;rcases (show (c == 0)=true\/((c == 0)=false) by cases c == 0 <;> simp) with e0 | e0
       ·obtain rfl:true=r:=by rw [<-HR2.out,e0];rfl
        clear HR2;exact zq019664
       ·have e1:(all == 0)=r:=by rw [<-HR2.out,e0];rfl
        clear HR2
        go_wp2_with fail
        refine (ybz MC.out _).mono ?_;rintro _ w1 ⟨rfl,rfl⟩
        go_wp2_with fail
        refine (ybz MD.out _).mono ?_;rintro _ w1 ⟨rfl,rfl⟩;go_wp2
        go_ret
        first | exact ⟨rfl,hb0⟩ | (refine ⟨?_,hb0⟩;rw [<-e1];rfl)
    ·have d2:decide ((bs.length:Int)<=8)=false:=by simp;omega
     obtain rfl:false=r:=by rw [<-HR.out];simp [l2]
     clear HR;go_wp2
     go_ret
     exact ⟨rfl,hb0⟩
   ·have d1:decide ((1:Int)<=(bs.length:Int))=false:=by simp;omega
    obtain rfl:false=r:=by rw [<-HR.out];simp [l1]
    clear HR;go_wp2
    go_ret
    exact ⟨rfl,hb0⟩
  | succ g =>
   have hlt:(k:Int)<(bs.length:Int):=by omega
   obtain ⟨b,o,y,rfl,hcell,HX⟩:=HSV.out.get (i:=k) om;have hst:=yln (all:=all) (xs:=bs) (k:=k) om;rw [HX.out,hA.out] at hst;have HST:=lh hst;clear hA hst;have hno:yc0 0 bs=none->false=r:=fun h=>by rw [<-hr.out];unfold yat;rw [h]
   have HNO:=lh hno;clear hno;cases hm:may0 y with
   | false =>
    obtain rfl:false=r:=HNO.out (by rw [HST.out,hm];simp);have HM:=lh hm;clear hm HST HNO
    go_wp2_with fail
    refine (ybz HM.out _).mono ?_;rintro _ w1 ⟨rfl,rfl⟩;go_wp2
    go_ret
    exact ⟨rfl,hb0⟩
   | true =>
    have hy:=ybv.1 hm;have hall:=hB.out;obtain ⟨s,hs⟩:∃s,all+y=s:=⟨_,rfl⟩;have hwr2:wrap64 s=s:=by rw [<-hs];unfold wrap64;omega
    have hwr3:wrap64 (all+y)=s:=by rw [hs];exact hwr2
    have HW3:=lh hwr3;rw [hs] at HST;have HM:=lh hm;cases hm2:may0 s with
    | false =>
     obtain rfl:false=r:=HNO.out (by rw [HST.out,hm2];simp);have HM2:=lh hm2;clear hm hm2 HST HNO hy hall hs
     go_wp2_with fail
     refine (ybz HM.out _).mono ?_;rintro _ w1 ⟨rfl,rfl⟩
     go_wp2_with fail
     refine (ybz HM2.out _).mono ?_;rintro _ w1 ⟨rfl,rfl⟩;go_wp2
     go_ret
     exact ⟨rfl,hb0⟩
    | true =>
     have HR:Hid (yc0 s (bs.drop (k+1))=yc0 0 bs):= by
      have:=HST.out;rw [if_pos ⟨hm,hm2⟩] at this;exact this.symm
     have hs2:=ybv.1 hm2;have HM2:=lh hm2;have HS2:=lh hs2;clear hm hm2 HST HNO hy hall hs hs2
     go_wp2_with fail
     refine (ybz HM.out _).mono ?_;rintro _ w1 ⟨rfl,rfl⟩
     go_wp2_with fail
     refine (ybz HM2.out _).mono ?_;rintro _ w1 ⟨rfl,rfl⟩;go_wp2
     go_roundg g
     case measure=>omega
     case rel=>exact ⟨k+1,s,by omega,by go_num,by first | rfl | exact congrArg (Value.int .i64) HW3.out,HR,HS2,rfl⟩
namespace EvM
def evenN (n d:Nat):Nat:=if n%d<d-n%d\/(n%d=d-n%d/\n/d%2=0) then n/d else n/d+1
theorem even_ge (n d:Nat):n/d<=evenN n d:=by unfold evenN;split <;> omega
theorem even_le (n d:Nat):evenN n d<=n/d+1:=by unfold evenN;split <;> omega
theorem even_mul (q d:Nat) (hd:0<d):evenN (q*d) d=q:= by
 unfold evenN;rw [Nat.mul_mod_left,Nat.mul_div_cancel _ hd,if_pos om]
theorem even_mono {m n d:Nat} (hd:0<d) (h:m<=n):evenN m d<=evenN n d:= by
 have h0:m/d<=n/d:=Nat.div_le_div_right h
 by_cases h1:m/d=n/d
 ·have h3:=Nat.div_add_mod' m d
  have h4:=Nat.div_add_mod' n d;have h5:=Nat.mod_lt m hd;have h6:=Nat.mod_lt n hd;unfold evenN;rw [h1] at h3 ⊢;obtain ⟨q,hq⟩:∃q,n/d=q:=⟨_,rfl⟩;obtain ⟨r,hr⟩:∃r,n%d=r:=⟨_,rfl⟩;obtain ⟨s,hs⟩:∃r,m%d=r:=⟨_,rfl⟩;rw [hq,hr] at h4;rw [hq,hs] at h3;rw [hs] at h5;rw [hr] at h6;rw [hq,hr,hs];generalize q*d=A at *
  split <;> split <;> omega
 ·have:=even_le m d;have:=even_ge n d;omega
end EvM
namespace EvM
def evQ (hi lo den:Int):Int×Bool :=
 if den<=hi then (0,false) else
 if evenN (hi*18446744073709551616+lo).toNat den.toNat<18446744073709551616 then ((evenN (hi*18446744073709551616+lo).toNat den.toNat:Int),true) else (0,false)
def mayM (v:Int):Bool:=decide (-1000000000000000<=v) && decide (v<=1000000000000000)
def shQ (a num den:Int):Nat:=evenN (a.natAbs*num.toNat) den.toNat
def shareR (a num den:Int):Int×Int :=
 if num<0\/den<=0 then (0,1) else if mayM a=false then (0,5) else if 1000000000000000<shQ a num den then (0,5) else (if a<0 then -(shQ a num den:Int) else (shQ a num den:Int),0)
theorem mayM_iff {v:Int}:mayM v=true ↔ -1000000000000000<=v/\v<=1000000000000000:=by simp [mayM]
theorem shQ_ev (a num den q:Int) (b:Bool) (_hn:0<=num) (hd:0<den) (h:evQ ((a.natAbs*num.toNat/18446744073709551616:Nat):Int) ((a.natAbs*num.toNat%18446744073709551616:Nat):Int) den=(q,b)) :
 (b=true->q=(shQ a num den:Int))/\(b=false->1000000000000000<shQ a num den):= by
 unfold shQ;obtain ⟨m,hm⟩:∃m,a.natAbs*num.toNat=m:=⟨_,rfl⟩;rw [hm] at h ⊢;obtain ⟨d,rfl⟩:=Int.eq_ofNat_of_zero_le (show 0<=den by omega);rw [Int.toNat_natCast];unfold evQ at h
 split at h
 ·rename_i hc
  injection h with h1 h2
  subst h2;refine ⟨fun h=>by simp at h,fun _=>?_⟩;have h3:=even_ge m d;have h4:m/18446744073709551616*18446744073709551616<=m:=Nat.div_mul_le_self _ _;have h5:d*18446744073709551616<=m:=Nat.le_trans (Nat.mul_le_mul_right _ (Int.ofNat_le.1 hc)) h4;have h6:18446744073709551616<=m/d:=(Nat.le_div_iff_mul_le om).2 (by rw [Nat.mul_comm];with_reducible exact h5);omega
 ·rename_i hc
  have e:((m/18446744073709551616:Nat):Int)*18446744073709551616+((m%18446744073709551616:Nat):Int)=(m:Int):=by omega
  rw [e,Int.toNat_natCast,Int.toNat_natCast] at h
  split at h
  ·injection h with h1 h2
   subst h2;subst h1;exact ⟨fun _=>rfl,fun h=>by simp at h⟩
  ·injection h with h1 h2
   subst h2;refine ⟨fun h=>by simp at h,fun _=>by omega⟩
theorem share_ok (a num den:Int) (hn:0<=num) (hd:0<den) (ha:mayM a=true) (hq:shQ a num den<=1000000000000000):shareR a num den=(if a<0 then -(shQ a num den:Int) else (shQ a num den:Int),0):= by
 unfold shareR;rw [if_neg om,if_neg (by rw [ha];simp),if_neg om]
theorem shQ_le (a num den:Int) (_hn:0<=num) (hd:0<den) (h:num<=den):shQ a num den<=a.natAbs:= by
 unfold shQ;have h1:a.natAbs*num.toNat<=a.natAbs*den.toNat:=Nat.mul_le_mul_left _ om;have h2:=even_mono (d:=den.toNat) om h1
 rwa [even_mul _ _ om] at h2
theorem share_neg (a n d:Int) (hn:0<=n) (hd:0<d) (h:n<=d) (ha:mayM a=true):∃u:Int,shareR a n d=(u,0)/\shareR (-a) n d=(-u,0) /\ -1000000000000000<=u/\u<=1000000000000000:= by
 have h1:=mayM_iff.1 ha;have e:shQ (-a) n d=shQ a n d:=by unfold shQ;rw [Int.natAbs_neg]
 have hb:=shQ_le a n d hn hd h;have ha':mayM (-a)=true:=mayM_iff.2 om;refine ⟨_,share_ok a n d hn hd ha om,?_,?_⟩
 ·rw [share_ok (-a) n d hn hd ha' (by rw [e];omega),e]
  have hz:a=0->shQ a n d=0:=fun h=>by subst h;simp at hb;omega
  congr 1
  by_cases h0:a=0
  ·have:=hz h0;rw [this];simp
  ·by_cases h2:a<0
   ·rw [if_pos h2,if_neg om];omega
   ·rw [if_neg h2,if_pos om]
 ·constructor <;> split <;> omega
end EvM
end Go.Proofs.YtkongpjpkpfniaaGreat

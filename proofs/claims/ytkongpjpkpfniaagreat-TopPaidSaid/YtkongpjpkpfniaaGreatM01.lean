/- TopPaid: parts of the proof, made small by a program (mini.py). -/
import Derived.Deep.LoopGhost
import Derived.Lib.Hide
import Derived.Outline
import Derived.ScopeJumps
import Derived.Test.YtkongpjpkpfniaaGreatRows
import Derived.WalkKit
import Derived.WalkLawsBesides
import Derived.WalkSpells
import Derived.Deep.RegionLaw
import Derived.Deep.QuietTactic
set_option linter.unusedVariables false
set_option linter.unusedSimpArgs false
set_option maxRecDepth 100000
set_option maxHeartbeats 6400000
namespace Go.Proofs.YtkongpjpkpfniaaGreat
open Go.RowKit
theorem kr {q:Prop} (h:q:=by kernel_rfl):q:=h
theorem ke {q:Prop} (h:q:=by exact fun _ _ _ h=>h):q:=h
theorem kv {q:Prop} (h:q:=by (intro w hSw;(try dsimp only at hSw);go_simp;try with_reducible rfl)):q:=h
theorem ka {q:Prop} (h:q:=by assumption):q:=h
theorem kd {q:Prop} (h:q:=by exact fun hun=>absurd hun (by decide)):q:=h
theorem ap (a:Act) (d:Tmp) (v:Value):a.put (some d) v={ a with tmps:=a.tmps.setIfInBounds d v }:=rfl
theorem aq (a:Act) (v:Value):a.put none v=a:=rfl
theorem sa {α:Type} {l:List α} {i:Nat} {a:α}:l.toArray.setIfInBounds i a=(l.set i a).toArray:=by simp
theorem sb {α:Type} {x:α} {xs:List α} {a:α}:(x::xs).set 0 a=a::xs:=rfl
theorem sc {α:Type} {x:α} {xs:List α} {i:Nat} {a:α}:(x::xs).set (i+1) a=x::xs.set i a:=rfl
theorem kp {q:Prop} (h:q:=by (simp only [ap,aq,sa,sb,sc];rfl)):q:=h
theorem gz {α:Type} {a:α} {l:List α}:(a::l)[0]?=some a:=rfl
theorem gs {α:Type} {a:α} {i:Nat} {l:List α}:(a::l)[i+1]?=l[i]?:=rfl
abbrev iZ:Value:=.int .i64 0
abbrev iV (n:Int):Value:=.int .i64 n
abbrev pV (n:Nat):Value:=.pointer (some ⟨n,0,none⟩)
abbrev sZ:Value:=.slice none 0 0
abbrev zA:List Value:=[.int .i64 0,.int .i64 0,.int .i64 0,.int .i64 0,.int .i64 0,.slice none 0 0,.int .i64 0,.int .i64 0,.slice none 0 0,.slice none 0 0,.int .i64 0,.int .i64 0,.int .i64 0,.int .i64 0,.int .i64 0,.slice none 0 0,.int .i64 0,.int .i64 0,.int .i64 0,.bool false]
theorem bL {q:Prop} (h:q:=by repeat (first | with_reducible exact Below.refl _ _ | (with_reducible refine yao ?_ ?hge;case hge=>(first | exact Nat.le_refl _ | omega)) | with_reducible refine yaa ?_ _ | with_reducible refine yaf ?_ | with_reducible refine yfn ?_ _ | (refine yad ?_ (by assumption)) | (refine ja1 ?_ (by assumption) (by first | exact Nat.le_refl _ | omega)) | exact Below.refl _ _ | refine yaa ?_ _ | refine yaf ?_ | refine yfn ?_ _)):q:=h
theorem bM {q:Prop} (h:q:=by repeat (first | with_reducible exact Below.refl _ _ | with_reducible exact HB6.out | with_reducible refine yaa ?_ _ | with_reducible refine yaf ?_)):q:=h
theorem bR {n:Nat} {w:World}:Below n w w:=Below.refl _ _
theorem lh {q:Prop} (h:q):Hid q:=Lib.hid h
theorem om {q:Prop} (h:q:=by omega):q:=h
theorem ms {α:Type} {a b:α}:a∈[b]↔a=b:=List.mem_singleton
theorem x10 {A B C D E F G H I J:Type} {p:A→B→C→D→E→F→G→H→I→J→Prop} {a:A} {b:B} {c:C} {d:D} {e:E} {f:F} {g:G} {h:H} {i:I} {j:J} (k:p a b c d e f g h i j):∃a b c d e f g h i j,p a b c d e f g h i j:=⟨_,_,_,_,_,_,_,_,_,_,k⟩
def Sl (k:IntKind) (w:World) (v:Value) (xs:List Int):Prop :=
 ∃ao cap,v=.slice ao xs.length cap∧xs.length≤cap∧(cap≤maxLen∧(ao=none→cap=0)) ∧
  (xs≠[]→∃b o,ao=some ⟨b,o,none⟩∧∀i,i<xs.length→w.cell? ⟨b,o+i,none⟩=some (.int k (xs.getD i 0)))
theorem yac {w:World} {b o:Nat} {v:Value} (h:w.cell? ⟨b,o,none⟩=some v):b<w.heap.size:=World.block_lt_of_cell? w ⟨b,o,none⟩ h
theorem Sl.below {k:IntKind} {w w':World} {v:Value} {xs:List Int} (h:Sl k w v xs) (hb:Below w.heap.size w w'):Sl k w' v xs:= by
 obtain ⟨ao,cap,rfl,h1,h2,h3⟩:=h;refine ⟨ao,cap,rfl,h1,h2,fun hx=>?_⟩;obtain ⟨b,o,rfl,hc⟩:=h3 hx;exact ⟨b,o,rfl,fun i hi=>(hb.cell (p:=⟨b,o+i,none⟩) (yac (hc i hi))).trans (hc i hi)⟩
theorem Sl.at {k:IntKind} {w:World} {ao:Option Addr} {n cap:Nat} {xs:List Int} (h:Sl k w (.slice ao n cap) xs) {i:Nat} (hi:i<xs.length) :
 ∃b o,ao=some ⟨b,o,none⟩∧w.cell? ⟨b,o+i,none⟩=some (.int k (xs.getD i 0)):= by
 obtain ⟨ao',cap',e,h1,h2,h3⟩:=h;cases e;obtain ⟨b,o,rfl,hc⟩:=h3 (by intro h;rw [h] at hi;simp at hi);exact ⟨b,o,rfl,hc i hi⟩
theorem Sl.news {k:IntKind} {w:World} {ao:Option Addr} {n cap:Nat} {xs:List Int} (h:Sl k w (.slice ao n cap) xs) :
 (∀ad,ao=some ad→∀j u,(xs.map (Value.int k))[j]?=some u→w.cell? (ad.add j)=some u):= by
 intro ad had j u hu
 have hj:j<xs.length:= by
  have:=(List.getElem?_eq_some_iff.1 hu).1
  simpa using this
 obtain ⟨b,o,e,hc⟩:=h.at hj;rw [e] at had;obtain rfl:=Option.some.inj had;rw [Addr.add_lit,hc];have e1:(xs.map (Value.int k))[j]?=some (.int k (xs.getD j 0)):=by simp [List.getD,hj]
 rw [e1] at hu;exact hu
theorem Sl.get {k:IntKind} {w:World} {ao:Option Addr} {n cap:Nat} {xs:List Int} (h:Sl k w (.slice ao n cap) xs) {i:Nat} (hi:i<xs.length) :
 ∃b o x,ao=some ⟨b,o,none⟩∧w.cell? ⟨b,o+i,none⟩=some (.int k x)∧Hid (xs.getD i 0=x):= by
 obtain ⟨b,o,e,hc⟩:=h.at hi;exact ⟨b,o,_,e,hc,rfl⟩
theorem Sl.none_cap {k:IntKind} {w:World} {ao:Option Addr} {n cap:Nat} {xs:List Int} (h:Sl k w (.slice ao n cap) xs) (e:ao=none):n=0∧cap=0:= by
 obtain ⟨ao',cap',e',h1,h2,h3⟩:=h;cases e';have:=h2.2 e;omega
theorem Sl.none_len {k:IntKind} {w:World} {ao:Option Addr} {n cap:Nat} {xs:List Int} (h:Sl k w (.slice ao n cap) xs) (e:ao=none):xs=[]:= by
 cases xs with
 | nil=>rfl
 | cons x xs =>
  obtain ⟨b,o,e',_⟩:=h.at (i:=0) (by simp);rw [e] at e';cases e'
theorem Sl.len {k:IntKind} {w:World} {ao:Option Addr} {n cap:Nat} {xs:List Int} (h:Sl k w (.slice ao n cap) xs):n=xs.length∧n≤cap∧cap≤maxLen:= by
 obtain ⟨ao',cap',e,h1,h2,h3⟩:=h;cases e;exact ⟨rfl,h1,h2.1⟩
theorem yfw {w w':World} (h:w.grownBy w' none):Below w.heap.size w w':=bR.grown h (Nat.le_refl _) (by intro k hk;cases hk)
theorem bdN {B:Nat} {a w:World} (h:Below B a w) (n:Nat):Below B a (w.drewN n):=⟨h.os,h.tape,h.output,h.size,h.block⟩
theorem yad {a b c:World} (h:Below a.heap.size a b) (k:Below b.heap.size b c):Below a.heap.size a c:=h.trans (k.mono h.size)
theorem yaa {a b:World} (h:Below a.heap.size a b) (o:Obj):Below a.heap.size a (b.alloc o):=h.alloc h.size o
theorem yaf {a b:World} (h:Below a.heap.size a b):Below a.heap.size a b.drew:=h.drew
theorem yfn {a b:World} (h:Below a.heap.size a b) (n:Nat):Below a.heap.size a (b.drewN n):=bdN h n
def Ret (v:Value) (w:World) (e:Ending) (w':World):Prop:=e=.returned v∧w=w'
theorem Ret.mk (v:Value) (w:World):Ret v w (.returned v) w:=⟨rfl,rfl⟩
def RetB (v:Value) (w:World) (e:Ending) (w':World):Prop:=e=.returned v∧Below w.heap.size w w'
theorem Ret.b {v:Value} {w:World} {e:Ending} {w':World} (h:Ret v w e w'):RetB v w e w':= by
 obtain ⟨h1,h2⟩:=h;subst h2;exact ⟨h1,bR⟩
def Blk (w:World) (g:Nat) (e:TypeId) (cur:List Value):Prop:=w.heap[g]?=some (.cells cur.toArray e (0,0))
theorem Blk.lt {w:World} {g:Nat} {e:TypeId} {cur:List Value} (h:Blk w g e cur):g<w.heap.size:=(Array.getElem?_eq_some_iff.1 h).1
theorem Blk.cell {w:World} {g:Nat} {e:TypeId} {cur:List Value} (h:Blk w g e cur) (j:Nat):w.cell? ⟨g,j,none⟩=cur[j]?:= by
 rw [cell_of_row w g j cur.toArray e (0,0) h];simp
theorem Blk.some {w:World} {g:Nat} {e:TypeId} {cur:List Value} (h:Blk w g e cur) {j:Nat} (hj:j<cur.length):∃v,w.cell? ⟨g,j,none⟩=some v:=⟨cur[j],by rw [h.cell];simp [hj]⟩
theorem Blk.frozen {w:World} {g:Nat} {e:TypeId} {cur:List Value} (h:Blk w g e cur) (j:Nat):w.frozen? ⟨g,j,none⟩=false:=frozen_of_row w g j cur.toArray e h
theorem Blk.set {w:World} {g:Nat} {e:TypeId} {cur:List Value} (h:Blk w g e cur) (j:Nat) (u:Value):Blk (w.setCell ⟨g,j,none⟩ u) g e (cur.set j u):= by
 have:=heap_setCell_same w g j cur.toArray e u h;unfold Blk;rw [this];simp
theorem Blk.below {w w':World} {g:Nat} {e:TypeId} {cur:List Value} (h:Blk w g e cur) (hb:Below w.heap.size w w'):Blk w' g e cur:=(hb.block g h.lt).trans h
theorem Blk.setOther {w:World} {g g':Nat} {e:TypeId} {cur:List Value} (h:Blk w g e cur) (hne:g≠g') (j:Nat) (u:Value):Blk (w.setCell ⟨g',j,none⟩ u) g e cur :=
 (heap_setCell_other w ⟨g',j,none⟩ g u (fun e=>hne e)).trans h
theorem ya8 {w:World} {base:Nat} {e:TypeId} {size g n cap:Nat} {xs:List Value} (h:w.ownsRow base e size (.slice (some ⟨g,0,none⟩) n cap) n xs) :
 ∃cur,Blk w g e cur∧n≤cap∧cap≤maxLen∧cur.length=cap*size∧cur.take (n*size)=xs∧base≤g:= by
 rcases h.2 with ⟨h',_⟩ | ⟨g',cap',cur,h',hb,hg,hnc,hcm,hcs,htake⟩
 ·simp at h'
 ·simp only [Value.slice.injEq,Option.some.injEq,Addr.mk.injEq,and_true,true_and] at h'
  obtain ⟨rfl,rfl⟩:=h';exact ⟨cur.toList,by simpa [Blk] using hg,hnc,hcm,by simpa using hcs,htake,hb⟩
theorem Sl.of_blk {k:IntKind} {w:World} {g cap n:Nat} {e:TypeId} {cur:List Value} {xs:List Int} (h:Blk w g e cur) (hn:xs.length=n) (hnc:n≤cap) (hcm:cap≤maxLen)
 (hx:cur.take n=xs.map (Value.int k)):Sl k w (.slice (some ⟨g,0,none⟩) n cap) xs:= by
 subst hn;refine ⟨_,_,rfl,hnc,⟨hcm,fun h=>by cases h⟩,fun _=>⟨g,0,rfl,fun i hi=>?_⟩⟩;rw [h.cell];have e1:(cur.take xs.length)[i]?=cur[0+i]?:=by simp [hi]
 rw [←e1,hx];simp [List.getD,hi]
theorem yfh {cur:List Value} {n:Nat} {l:List Int} {k:IntKind} (h:cur.take n=l.map (Value.int k)) {i:Nat} (hi:i<n) (hil:i<l.length:=by omega):cur[i]?=some (.int k (l.getD i 0)):= by
 have:(cur.take n)[i]?=cur[i]?:=by simp [hi]
 rw [←this,h];simp [List.getD,hil]
def Sp (k:IntKind) (w:World) (v:Value) (xs sp:List Int):Prop :=
 ∃ao,v=.slice ao xs.length (xs.length+sp.length)∧Sl k w v xs∧Sl k w (.slice ao (xs.length+sp.length) (xs.length+sp.length)) (xs++sp)
theorem ya5 {w:World} {base:Nat} {e:TypeId} {size n:Nat} {v:Value} {xs:List Value} (h:w.ownsRow base e size v n xs) (hn:0<n) :
 ∃g cap,v=.slice (some ⟨g,0,none⟩) n cap:= by
 rcases h.2 with ⟨_,h0⟩ | ⟨g,cap,cur,hv,_⟩
 ·omega
 ·exact ⟨g,cap,hv⟩
theorem ygc {w:World} {base base':Nat} {e:TypeId} {size n:Nat} {v:Value} {xs:List Value} (h:w.ownsRow base e size v n xs) (hb:base'≤base):w.ownsRow base' e size v n xs:= by
 obtain ⟨h1,h2⟩:=h;refine ⟨h1,?_⟩;rcases h2 with h2 | ⟨g,cap,cur,hv,hg,r⟩
 ·exact Or.inl h2
 ·exact Or.inr ⟨g,cap,cur,hv,by omega,r⟩
theorem yct {w:World} {base:Nat} {e:TypeId} {size g n cap:Nat} {cur xs:List Value} (h:Blk w g e cur) (hg:base≤g) (hn:n≤cap) (hm:cap≤maxLen) (hl:cur.length=cap*size) (hx:cur.take (n*size)=xs) :
 w.ownsRow base e size (.slice (some ⟨g,0,none⟩) n cap) n xs:= by
 refine ⟨?_,.inr ⟨g,cap,cur.toArray,rfl,hg,h,hn,hm,by simpa using hl,by simpa using hx⟩⟩;rw [←hx,List.length_take,hl];exact Nat.min_eq_left (Nat.mul_le_mul_right _ hn)
theorem Sl.of_own {k:IntKind} {w:World} {base:Nat} {e:TypeId} {v:Value} {n:Nat} {xs:List Int} (h:w.ownsRow base e 1 v n (xs.map (Value.int k))) (hn:xs.length=n):Sl k w v xs:= by
 rcases h.2 with ⟨rfl,rfl⟩ | ⟨g,cap,cur,rfl,hb,hg,hnc,hcm,hcs,htake⟩
 ·obtain rfl:xs=[]:=List.eq_nil_of_length_eq_zero hn
  exact ⟨none,0,rfl,Nat.le_refl _,⟨by simp [maxLen],fun _=>rfl⟩,fun h=>absurd rfl h⟩
 ·exact Sl.of_blk (cur:=cur.toList) (by simpa [Blk] using hg) hn hnc hcm (by simpa using htake)
theorem Sl.alloc {k:IntKind} {w:World} {v:Value} {xs:List Int} (h:Sl k w v xs) (o:Obj):Sl k (w.alloc o) v xs:=h.below (bR.alloc (Nat.le_refl _) o)
theorem Sl.lit {k:IntKind} (w:World) (e:TypeId) (xs:List Int) (n:Nat) (hn:xs.length=n) (cs:Array Value) (hc:cs=(xs.map (Value.int k)).toArray) (hm:n≤maxLen) :
 Sl k (w.alloc (.cells cs e)) (.slice (some ⟨w.heap.size,0,none⟩) n n) xs:= by
 subst hc;refine Sl.of_blk (cur:=xs.map (Value.int k)) (e:=e) (heap_alloc_new w _) hn (Nat.le_refl _) hm ?_;rw [List.take_of_length_le (by simp [hn])]
theorem Sl.litAt {k:IntKind} (w:World) (e:TypeId) (xs:List Int) (n g:Nat) (hn:xs.length=n) (cs:Array Value) (hc:cs=(xs.map (Value.int k)).toArray) (hm:n≤maxLen) (hg:w.heap.size=g) :
 Sl k (w.alloc (.cells cs e)) (.slice (some ⟨g,0,none⟩) n n) xs:= by
 subst hg;exact Sl.lit w e xs n hn cs hc hm
def yxb (k:IntKind) (xs:List Int) (w:World) (e:Ending) (w':World):Prop:=∃u,e=.returned u∧Sl k w' u xs∧Below w.heap.size w w'
theorem yai {P:Program} {a:Act} {w:World} {Q:Exit→Act→World→Prop} {c rest:Code} (l:Nat) (J:Act→World→Prop) (μ:Act→World→Nat) (hf:findLabel c l=some (Code.seq .skip rest))
 (pass:∀a w,J a w→∀(J':Act→World→Prop),(∀a' w',J a' w'→μ a' w'<μ a w→J' a' w')→rest.wp P (Exit.jump l J' Q) a w)
 (first:∀(J':Act→World→Prop),(∀a w,J a w→J' a w)→(∀a w,J a w→rest.wp P (Exit.jump l J' Q) a w)→c.wp P (Exit.jump l J' Q) a w):(Code.scope c).wp P Q a w:= by
 refine wp_scope_jumps l J μ hf (first J (fun _ _ h=>h) fun a w hJ=>pass a w hJ J fun _ _ h _=>h) (fun a w hJ=>wp_seq (wp_skip (pass a w hJ _ fun _ _ h hlt=>⟨h,hlt⟩)))
theorem yr5 {a b:Bool} (h:a=b):Ending.returned (.bool a)=.returned (.bool b):=by rw [h]
theorem ype {k:IntKind} {a b:Int} (h:a=b):Ending.returned (.int k a)=.returned (.int k b):=by rw [h]
def ydu (J:Nat→Act→World→Prop) (Q:Exit→Act→World→Prop):Exit→Act→World→Prop
 | .goto l,a,w=>J l a w
 | e,a,w=>Q e a w
theorem yd1 {P:Program} {a:Act} {w:World} {Q:Exit→Act→World→Prop} {c:Code} (J:Nat→Act→World→Prop)
 (first:c.wp P (ydu J Q) a w)
 (pass:∀l a w,J l a w→∃rest,findLabel c l=some rest∧rest.wp P (ydu (fun _ _ _=>False) Q) a w):(Code.scope c).wp P Q a w:= by
 intro b k cs
 have key:∀l a w,J l a w→∃rest,findLabel c l=some rest∧∃e a' w',Q e a' w'∧Arrives P (lone (b.at a (.code rest::.inScope c::k)) cs w) b k cs e a' w':= by
  intro l a w hJ;obtain ⟨rest,hf,hr⟩:=pass l a w hJ;refine ⟨rest,hf,?_⟩;obtain ⟨e,a₁,w₁,hq,harr⟩:=hr b (.inScope c::k) cs;cases e with
  | normal=>exact ⟨.normal,a₁,w₁,hq,Steps.trans harr (.one step_inScope)⟩
  | exit id=>exact ⟨.exit id,a₁,w₁,hq,fun k' hk=>harr k' (by simp [exitTo,hk])⟩
  | goto l'=>exact hq.elim
  | ret=>exact ⟨_,a₁,w₁,hq,harr⟩
  | panic ch=>exact ⟨_,a₁,w₁,hq,harr⟩
  | outgrown=>exact ⟨_,a₁,w₁,hq,harr⟩
 obtain ⟨e,a₁,w₁,hq,harr⟩:=first b (.inScope c::k) cs
 cases e with
 | normal=>exact ⟨.normal,a₁,w₁,hq,.head step_scope (Steps.trans harr (.one step_inScope))⟩
 | exit id=>exact ⟨.exit id,a₁,w₁,hq,fun k' hk=>.head step_scope (harr k' (by simp [exitTo,hk]))⟩
 | goto l' =>
  obtain ⟨rest,hf,e₂,a₂,w₂,hq₂,harr₂⟩:=key l' a₁ w₁ hq;have hg:gotoIn l' (.inScope c::k)=some (.code rest::.inScope c::k):=by simp [gotoIn,hf]
  exact ⟨e₂,a₂,w₂,hq₂,.of_steps (.head step_scope (harr _ hg)) harr₂⟩
 | ret=>exact ⟨_,a₁,w₁,hq,.of_steps (.one step_scope) harr⟩
 | panic ch=>exact ⟨_,a₁,w₁,hq,.of_steps (.one step_scope) harr⟩
 | outgrown=>exact ⟨_,a₁,w₁,hq,.of_steps (.one step_scope) harr⟩
theorem ytd {J J':Nat→Act→World→Prop} {Q:Exit→Act→World→Prop} (h:∀l a w,J l a w→J' l a w):∀e a w,ydu J Q e a w→ydu J' Q e a w:=fun e a w hq=>by
 cases e <;> first | exact hq | exact h _ _ _ hq
theorem yi5 {P:Program} {a:Act} {w:World} {Q:Exit→Act→World→Prop} {c:Code} (J:Nat→Act→World→Prop) (μ:Nat→Act→World→Nat) (R:Nat→Code)
 (hf:∀l a w,J l a w→findLabel c l=some (Code.seq .skip (R l)))
 (pass:∀l a w,J l a w→∀J':Nat→Act→World→Prop,(∀l' a' w',J l' a' w'→μ l' a' w'<μ l a w→J' l' a' w') →
  (∀l' a' w',J l' a' w'→μ l' a' w'<μ l a w→(R l').wp P (ydu J' Q) a' w')→(R l).wp P (ydu J' Q) a w)
 (first:∀J':Nat→Act→World→Prop,(∀l a w,J l a w→J' l a w)→(∀l a w,J l a w→(R l).wp P (ydu J' Q) a w)→c.wp P (ydu J' Q) a w):(Code.scope c).wp P Q a w:= by
 have mono:∀{c:Code} {J J':Nat→Act→World→Prop} {a:Act} {w:World},(∀l a w,J l a w→J' l a w)→c.wp P (ydu J Q) a w→c.wp P (ydu J' Q) a w :=
  fun h hc=>fun b k cs=>let ⟨e,a',w',q,r⟩:=hc b k cs;⟨e,a',w',ytd h e a' w' q,r⟩
 have key0:∀n l a w,μ l a w=n→J l a w→(R l).wp P (ydu (fun l' a' w'=>J l' a' w'∧μ l' a' w'<n) Q) a w:= by
  intro n
  induction n using Nat.strongRecOn with
  | _ n ih =>
   intro l a w hn hJ;subst hn;exact pass l a w hJ _ (fun l' a' w' h1 h2=>⟨h1,h2⟩) (fun l' a' w' h1 h2=>mono (fun l'' a'' w'' h3=>⟨h3.1,by omega⟩) (ih _ h2 l' a' w' rfl h1))
 have hfirst:=first J (fun _ _ _ h=>h) (fun l a w hJ=>mono (fun _ _ _ h=>h.1) (key0 _ l a w rfl hJ))
 intro b k cs
 have key:∀n l a w,μ l a w=n→J l a w→∃e a' w',Q e a' w'∧Arrives P (lone (b.at a (.code (Code.seq .skip (R l))::.inScope c::k)) cs w) b k cs e a' w':= by
  intro n
  induction n using Nat.strongRecOn with
  | _ n ih =>
   intro l a w hn hJ;obtain ⟨e,a₁,w₁,hq,harr⟩:=(wp_seq (wp_skip (key0 n l a w hn hJ)):(Code.seq .skip (R l)).wp P (ydu (fun l' a' w'=>J l' a' w'∧μ l' a' w'<n) Q) a w) b (.inScope c::k) cs;cases e with
   | normal=>exact ⟨.normal,a₁,w₁,hq,Steps.trans harr (.one step_inScope)⟩
   | exit id=>exact ⟨.exit id,a₁,w₁,hq,fun k' hk=>harr k' (by simp [exitTo,hk])⟩
   | goto l' =>
    obtain ⟨hJ',hlt⟩:=hq;obtain ⟨e₂,a₂,w₂,hq₂,harr₂⟩:=ih _ hlt l' a₁ w₁ rfl hJ';have hg:gotoIn l' (.inScope c::k)=some (.code (Code.seq .skip (R l'))::.inScope c::k):=by simp [gotoIn,hf l' a₁ w₁ hJ']
    exact ⟨e₂,a₂,w₂,hq₂,.of_steps (harr _ hg) harr₂⟩
   | ret=>exact ⟨_,a₁,w₁,hq,harr⟩
   | panic ch=>exact ⟨_,a₁,w₁,hq,harr⟩
   | outgrown=>exact ⟨_,a₁,w₁,hq,harr⟩
 obtain ⟨e,a₁,w₁,hq,harr⟩:=hfirst b (.inScope c::k) cs;cases e with
 | normal=>exact ⟨.normal,a₁,w₁,hq,.head step_scope (Steps.trans harr (.one step_inScope))⟩
 | exit id=>exact ⟨.exit id,a₁,w₁,hq,fun k' hk=>.head step_scope (harr k' (by simp [exitTo,hk]))⟩
 | goto l' =>
  obtain ⟨e₂,a₂,w₂,hq₂,harr₂⟩:=key _ l' a₁ w₁ rfl hq;have hg:gotoIn l' (.inScope c::k)=some (.code (Code.seq .skip (R l'))::.inScope c::k):=by simp [gotoIn,hf l' a₁ w₁ hq]
  exact ⟨e₂,a₂,w₂,hq₂,.of_steps (.head step_scope (harr _ hg)) harr₂⟩
 | ret=>exact ⟨_,a₁,w₁,hq,.of_steps (.one step_scope) harr⟩
 | panic ch=>exact ⟨_,a₁,w₁,hq,.of_steps (.one step_scope) harr⟩
 | outgrown=>exact ⟨_,a₁,w₁,hq,.of_steps (.one step_scope) harr⟩
theorem ymb {P:Program} {a:Act} {w:World} {Q:Exit→Act→World→Prop} {c R0 R1:Code} (l0 l1:Nat) (hne:l0≠l1) (J0 J1:Act→World→Prop) (μ0 μ1:Act→World→Nat)
 (hf0:findLabel c l0=some (Code.seq .skip R0)) (hf1:findLabel c l1=some (Code.seq .skip R1))
 (pass0:∀a w,J0 a w→∀J':Nat→Act→World→Prop,(∀a' w',J0 a' w'→μ0 a' w'<μ0 a w→J' l0 a' w')→(∀a' w',J1 a' w'→μ1 a' w'<μ0 a w→R1.wp P (ydu J' Q) a' w')→R0.wp P (ydu J' Q) a w)
 (pass1:∀a w,J1 a w→∀J':Nat→Act→World→Prop,(∀a' w',J1 a' w'→μ1 a' w'<μ1 a w→J' l1 a' w')→R1.wp P (ydu J' Q) a w)
 (first:∀J':Nat→Act→World→Prop,(∀a w,J0 a w→R0.wp P (ydu J' Q) a w)→c.wp P (ydu J' Q) a w):(Code.scope c).wp P Q a w:= by
 refine yi5 (fun l a w=>(l=l0∧J0 a w)∨(l=l1∧J1 a w)) (fun l a w=>if l=l0 then μ0 a w else μ1 a w) (fun l=>if l=l0 then R0 else R1) ?_ ?_ ?_
 ·intro l a w hJ
  rcases hJ with ⟨rfl,_⟩ | ⟨rfl,_⟩
  ·rw [if_pos rfl];exact hf0
  ·rw [if_neg (Ne.symm hne)];exact hf1
 ·intro l a w hJ J' h1 h2
  rcases hJ with ⟨rfl,hJ⟩ | ⟨rfl,hJ⟩
  ·rw [if_pos rfl]
   refine pass0 a w hJ J' (fun a' w' h3 h4=>h1 _ a' w' (.inl ⟨rfl,h3⟩) (by simpa using h4)) (fun a' w' h3 h4=>?_);have:=h2 l1 a' w' (.inr ⟨rfl,h3⟩) (by rw [if_neg (Ne.symm hne),if_pos rfl];exact h4)
   rwa [if_neg (Ne.symm hne)] at this
  ·rw [if_neg (Ne.symm hne)]
   exact pass1 a w hJ J' (fun a' w' h3 h4=>h1 _ a' w' (.inr ⟨rfl,h3⟩) (by rw [if_neg (Ne.symm hne),if_neg (Ne.symm hne)];exact h4))
 ·intro J' hJ hrest
  refine first J' (fun a w h=>?_)
  have:=hrest l0 a w (.inl ⟨rfl,h⟩)
  rwa [if_pos rfl] at this
theorem yf8 (w:World) (e:TypeId) {size:Nat}:(w.alloc (.cells #[] e)).ownsRow w.heap.size e size (.slice (some ⟨w.heap.size,0,none⟩) 0 0) 0 [] :=
 World.ownsRow_made w #[] 0 (Nat.le_refl _) (by simp [maxLen]) (by simp)
section
variable {P:Program} (w:World)
theorem you (base:Nat) (t ty e:TypeId) (i:TypeInfo) (z:Value) (size bytes:Nat) (ht:P.underlying t=some (.slice e)) (hi:P.info? e=some i) (hz:i.zero=some z)
 (hsize:i.size=size) (hby:i.bytes=bytes) (v:Value) (n:Nat) (xs:List Value) (hown:w.ownsRow base e size v n xs)
 (a:Addr) (m c:Nat) (news:List Value) (hl:news.length=m*size) (hnews:∀j u,news[j]?=some u→w.cell? (a.add j)=some u) (h1:∀u∈news,u.oneCell'=true)
 (h63:n+m≤maxLen) (hbytes:(n+m)*bytes≤140737488355328) {v':Value} {w':World} (hr:(Builtin.append_ #[t,t] ty #[v,.slice (some a) m c]).run P w=.ok v' w') :
 v'.ownBlock=v.ownBlock∨v'.ownBlock=some w.heap.size:= by
 subst hsize;subst hby;have hsmall:n+m≤9223372036854775807:=by simp only [maxLen] at h63;omega
 rcases hown.2 with ⟨rfl,rfl⟩ | ⟨g,cap,cur,rfl,hbg,hg,hnc,hcm,hcs,htake⟩
 ·by_cases hm:m=0
  ·subst hm
   obtain rfl:news=[]:=List.eq_nil_of_length_eq_zero (by simpa using hl)
   have e1:(Builtin.append_ #[t,t] ty #[sZ,.slice (some a) 0 c]).run P w=.ok (sZ) w:= by
    simp [Builtin.append_,run_underlying ht,sizeOf,typeInfo,hi,Builtin.lenOf,Builtin.firstCells,loadCells,loadCellsFrom]
   rw [e1] at hr;cases hr;exact .inl rfl
  ·have e1:=run_append_nil (P:=P) w t ty e i z ht hi hz a m c news hl hnews om om (by have hb:=hbytes;simp only [Nat.zero_add] at hb;omega)
   rw [e1] at hr;cases hr;exact .inr rfl
 ·by_cases hroom:n+m≤cap
  ·have hfit:n*i.size+news.length≤cur.size:=by rw [hl,hcs,←Nat.add_mul];exact Nat.mul_le_mul_right _ hroom
   have e1:=run_append_room (P:=P) w t ty e i ht hi g n cap cur hg a m c news hl hnews h1 hroom hfit;rw [e1] at hr;cases hr;exact .inl rfl
  ·have holds:∀j u,xs[j]?=some u→w.cell? ((⟨g,0,none⟩:Addr).add j)=some u:=hown.cells (g:=g) rfl
   have e1:=run_append_grow (P:=P) w t ty e i z ht hi hz ⟨g,0,none⟩ n cap xs hown.1 holds a m c news hl hnews om om (growslice_fits om hbytes);rw [e1] at hr;cases hr;exact .inr rfl
theorem yee {o:Oper} {a:Act} {K:Act→World→Prop} {Q:Exit→Act→World→Prop} (s x:Operand) (t:TypeId)
 (ho:o.op=.call { callee:=.builtin .append,args:=#[s,x],argTypes:=#[t,t] })
 (base:Nat) (e:TypeId) (i:TypeInfo) (z:Value) (size bytes:Nat) (ht:P.underlying t=some (.slice e)) (hi:P.info? e=some i) (hz:i.zero=some z)
 (hsize:i.size=size) (hby:i.bytes=bytes) (hzs:z.cells.size=size) (hsz:0<size)
 (v:Value) (n:Nat) (xs:List Value) (hs:a.eval s=v) (hown:w.ownsRow base e size v n xs)
 (ad:Addr) (m c:Nat) (news:List Value) (hx:a.eval x=.slice (some ad) m c) (hl:news.length=m*size) (hnews:∀j u,news[j]?=some u→w.cell? (ad.add j)=some u) (h1:∀u∈news,u.oneCell'=true)
 (h63:n+m≤maxLen) (hbytes:(n+m)*bytes≤140737488355328) (hbase:base≤w.heap.size)
 (h:∀v' w',w'.ownsRow base e size v' (n+m) (xs++news)→w.grownBy w' v.ownBlock→(v'.ownBlock=v.ownBlock∨v'.ownBlock=some w.heap.size)→K (a.put o.dst v') w'):o.wp P a w K Q:= by
 obtain ⟨v',w',hr,h2,h3,_⟩:=run_append_own (P:=P) w base t o.type e i z size bytes ht hi hz hsize hby hzs hsz v n xs hown ad m c news hl hnews h1 h63 hbytes hbase;have h4:=you w base t o.type e i z size bytes ht hi hz hsize hby v n xs hown ad m c news hl hnews h1 h63 hbytes hr;unfold Oper.wp execOp;simp only [ho,resolve,invoke,builtin,Sem.run_bind,Sem.run_pure,Result.andThen_ok,List.map_toArray,List.map_cons,List.map_nil,hs,hx,hr];exact h v' w' h2 h3 h4
theorem yas {ops:Array Oper} {rest:List Oper} {o:Oper} {a:Act} {Q:Exit→Act→World→Prop} (hgd:o.guard=none) (s x:Operand) (t:TypeId)
 (ho:o.op=.call { callee:=.builtin .append,args:=#[s,x],argTypes:=#[t,t] })
 (base:Nat) (e:TypeId) (i:TypeInfo) (z:Value) (size bytes:Nat) (ht:P.underlying t=some (.slice e)) (hi:P.info? e=some i) (hz:i.zero=some z)
 (hsize:i.size=size) (hby:i.bytes=bytes) (hzs:z.cells.size=size) (hsz:0<size)
 (v:Value) (n:Nat) (xs:List Value) (hs:a.eval s=v) (hown:w.ownsRow base e size v n xs)
 (ad:Addr) (m c:Nat) (news:List Value) (hx:a.eval x=.slice (some ad) m c) (hl:news.length=m*size) (hnews:∀j u,news[j]?=some u→w.cell? (ad.add j)=some u) (h1:∀u∈news,u.oneCell'=true)
 (h63:n+m≤maxLen) (hbytes:(n+m)*bytes≤140737488355328) (hbase:base≤w.heap.size)
 (h:∀v' w',w'.ownsRow base e size v' (n+m) (xs++news)→w.grownBy w' v.ownBlock→(v'.ownBlock=v.ownBlock∨v'.ownBlock=some w.heap.size)→wpList P ops Q rest (a.put o.dst v') w'):wpList P ops Q (o::rest) a w :=
 wpList_plain hgd fun _ hK=>yee w s x t ho base e i z size bytes ht hi hz hsize hby hzs hsz v n xs hs hown ad m c news hx hl hnews h1 h63 hbytes hbase fun v' w' h2 h3 h4=>hK _ _ (h v' w' h2 h3 h4)
theorem yhd {o:Oper} {a:Act} {K:Act→World→Prop} {Q:Exit→Act→World→Prop} (s x:Operand) (t:TypeId)
 (ho:o.op=.call { callee:=.builtin .append,args:=#[s,x],argTypes:=#[t,t] })
 (base:Nat) (e:TypeId) (i:TypeInfo) (z:Value) (size bytes:Nat) (ht:P.underlying t=some (.slice e)) (hi:P.info? e=some i) (hz:i.zero=some z)
 (hsize:i.size=size) (hby:i.bytes=bytes) (hzs:z.cells.size=size) (hsz:0<size)
 (v:Value) (n:Nat) (xs:List Value) (hs:a.eval s=v) (hown:w.ownsRow base e size v n xs)
 (ao:Option Addr) (m c:Nat) (news:List Value) (hx:a.eval x=.slice ao m c) (hl:news.length=m*size) (hnone:ao=none→m=0∧c=0) (hnews:∀ad,ao=some ad→∀j u,news[j]?=some u→w.cell? (ad.add j)=some u) (h1:∀u∈news,u.oneCell'=true)
 (h63:n+m≤maxLen) (hbytes:(n+m)*bytes≤140737488355328) (hbase:base≤w.heap.size)
 (h:∀v' w',w'.ownsRow base e size v' (n+m) (xs++news)→w.grownBy w' v.ownBlock→(v'=sZ↔v=sZ∧m=0)→K (a.put o.dst v') w'):o.wp P a w K Q:= by
 cases ao with
 | some ad=>exact wp_append_own w s x t ho base e i z size bytes ht hi hz hsize hby hzs hsz v n xs hs hown ad m c news hx hl (hnews ad rfl) h1 h63 hbytes hbase h
 | none =>
  obtain ⟨rfl,rfl⟩:=hnone rfl;obtain rfl:news=[]:=List.eq_nil_of_length_eq_zero (by simpa using hl);have hr:=run_append_owned_none (P:=P) w base t o.type e i size ht hi v n xs hown;unfold Oper.wp execOp;simp only [ho,resolve,invoke,builtin,Sem.run_bind,Sem.run_pure,Result.andThen_ok,List.map_toArray,List.map_cons,List.map_nil,hs,hx,hr];exact h v w (by simpa using hown) (World.grownBy.refl _ _) (by simp)
theorem ya9 {ops:Array Oper} {rest:List Oper} {o:Oper} {a:Act} {Q:Exit→Act→World→Prop} (hgd:o.guard=none) (s x:Operand) (t:TypeId)
 (ho:o.op=.call { callee:=.builtin .append,args:=#[s,x],argTypes:=#[t,t] })
 (base:Nat) (e:TypeId) (i:TypeInfo) (z:Value) (size bytes:Nat) (ht:P.underlying t=some (.slice e)) (hi:P.info? e=some i) (hz:i.zero=some z)
 (hsize:i.size=size) (hby:i.bytes=bytes) (hzs:z.cells.size=size) (hsz:0<size)
 (v:Value) (n:Nat) (xs:List Value) (hs:a.eval s=v) (hown:w.ownsRow base e size v n xs)
 (ao:Option Addr) (m c:Nat) (news:List Value) (hx:a.eval x=.slice ao m c) (hl:news.length=m*size) (hnone:ao=none→m=0∧c=0) (hnews:∀ad,ao=some ad→∀j u,news[j]?=some u→w.cell? (ad.add j)=some u) (h1:∀u∈news,u.oneCell'=true)
 (h63:n+m≤maxLen) (hbytes:(n+m)*bytes≤140737488355328) (hbase:base≤w.heap.size)
 (h:∀v' w',w'.ownsRow base e size v' (n+m) (xs++news)→w.grownBy w' v.ownBlock→(v'=sZ↔v=sZ∧m=0)→wpList P ops Q rest (a.put o.dst v') w'):wpList P ops Q (o::rest) a w :=
 wpList_plain hgd fun _ hK=>yhd w s x t ho base e i z size bytes ht hi hz hsize hby hzs hsz v n xs hs hown ao m c news hx hl hnone hnews h1 h63 hbytes hbase fun v' w' h2 h3 h4=>hK _ _ (h v' w' h2 h3 h4)
theorem yfs {ops:Array Oper} {o:Oper} {a:Act} {K:Act→World→Prop} {Q:Exit→Act→World→Prop} {E:Prop} (hgd:o.guard=none) (s x:Operand) (t:TypeId)
 (ho:o.op=.call { callee:=.builtin .append,args:=#[s,x],argTypes:=#[t,t] })
 (base:Nat) (e:TypeId) (i:TypeInfo) (z:Value) (size bytes:Nat) (ht:P.underlying t=some (.slice e)) (hi:P.info? e=some i) (hz:i.zero=some z)
 (hsize:i.size=size) (hby:i.bytes=bytes) (hzs:z.cells.size=size) (hsz:0<size)
 (v:Value) (n:Nat) (xs:List Value) (hs:a.eval s=v) (hown:w.ownsRow base e size v n xs)
 (ao:Option Addr) (m c:Nat) (news:List Value) (hx:a.eval x=.slice ao m c) (hl:news.length=m*size) (hnone:ao=none→m=0∧c=0) (hnews:∀ad,ao=some ad→∀j u,news[j]?=some u→w.cell? (ad.add j)=some u) (h1:∀u∈news,u.oneCell'=true)
 (h63:n+m≤maxLen) (hbytes:(n+m)*bytes≤140737488355328) (hbase:base≤w.heap.size)
 (h:∀v' w',w'.ownsRow base e size v' (n+m) (xs++news)→w.grownBy w' v.ownBlock→(v'=sZ↔v=sZ∧m=0)→K (a.put o.dst v') w') :
 if Region.wanted o (yielded ops a.tmps)=true then Oper.wp P o a w K Q else E:= by
 have hw:Region.wanted o (yielded ops a.tmps)=true:=by simp [Region.wanted,hgd]
 rw [if_pos hw];exact yhd w s x t ho base e i z size bytes ht hi hz hsize hby hzs hsz v n xs hs hown ao m c news hx hl hnone hnews h1 h63 hbytes hbase h
end
def TrS (w:World) (v:Value) (ts:List (Int×Bool)):Prop :=
 ∃ao cap,v=.slice ao ts.length cap∧ts.length≤cap∧(cap≤maxLen∧(ao=none→cap=0)) ∧
  (ts≠[]→∃b o,ao=some ⟨b,o,none⟩∧∀i,i<ts.length→w.cell? ⟨b,o+i*2,none⟩=some (iV (ts.getD i (0,false)).1)∧w.cell? ⟨b,o+i*2+1,none⟩=some (.bool (ts.getD i (0,false)).2))
theorem TrS.below {w w':World} {v:Value} {ts:List (Int×Bool)} (h:TrS w v ts) (hb:Below w.heap.size w w'):TrS w' v ts:= by
 obtain ⟨ao,cap,rfl,h1,h2,h3⟩:=h;refine ⟨ao,cap,rfl,h1,h2,fun hx=>?_⟩;obtain ⟨b,o,rfl,hc⟩:=h3 hx;exact ⟨b,o,rfl,fun i hi=>⟨(hb.cell (p:=⟨b,o+i*2,none⟩) (yac (hc i hi).1)).trans (hc i hi).1,(hb.cell (p:=⟨b,o+i*2+1,none⟩) (yac (hc i hi).2)).trans (hc i hi).2⟩⟩
theorem TrS.get {w:World} {ao:Option Addr} {n cap:Nat} {ts:List (Int×Bool)} (h:TrS w (.slice ao n cap) ts) {i:Nat} (hi:i<ts.length) :
 ∃b o x g,ao=some ⟨b,o,none⟩∧w.cell? ⟨b,o+i*2,none⟩=some (iV x)∧w.cell? ⟨b,o+i*2+1,none⟩=some (.bool g)∧Hid (ts.getD i (0,false)=(x,g)):= by
 obtain ⟨ao',cap',e,h1,h2,h3⟩:=h;cases e;obtain ⟨b,o,rfl,hc⟩:=h3 (by intro h;rw [h] at hi;simp at hi);exact ⟨b,o,_,_,rfl,(hc i hi).1,(hc i hi).2,rfl⟩
def betw (v a b:Int):Bool:=decide (a≤v) && decide (v≤b)
theorem yq7 (v a b:Int) (w:World):Calls Tryz.prog 53 #[iV v,iV a,iV b] w (Ret (.bool (betw v a b)) w):= by
 go_enter Tryz.func53,Tryz.ntmps53
 by_cases h1:a≤v
 ·by_cases h2:v≤b
  ·go_wp2
   go_ret
   simp [Ret,betw,h1,h2]
  ·go_wp2
   go_ret
   simp [Ret,betw,h1,h2]
 ·go_wp2
  go_ret
  simp [Ret,betw];omega
theorem yb0 {v a b:Int} {r:Bool} (h:betw v a b=r) (w:World):Calls Tryz.prog 53 #[iV v,iV a,iV b] w (Ret (.bool r) w):=by rw [←h];exact yq7 v a b w
end Go.Proofs.YtkongpjpkpfniaaGreat

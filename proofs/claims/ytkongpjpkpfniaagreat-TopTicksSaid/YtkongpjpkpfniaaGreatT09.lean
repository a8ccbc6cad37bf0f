/- TopTicks: parts of the proof, made small by a program (mini.py). -/
import Derived.BigQuiet
import Derived.BigRegion
import Derived.Deep.CutBlock
import Derived.Deep.DeepCutAuto
import Derived.Deep.QuietTactic
import Derived.Deep.RegionHeld3
import Derived.Deep.RegionLaw
import Derived.Lib.SliceRun
import Derived.Test.YtkongpjpkpfniaaGreatT01
import Derived.Test.YtkongpjpkpfniaaGreatT03
set_option linter.unusedVariables false
set_option linter.unusedSimpArgs false
set_option maxRecDepth 100000
set_option maxHeartbeats 6400000
namespace Go.Proofs.YtkongpjpkpfniaaGreat
open Go.RowKit
theorem zq09326f {q:Prop} (h:q:= by
 go_wp2_with fail
 simp only [Exit.jump]
 go_ret2
 exact ⟨by rw [<-HR2.out.1,<-HR2.out.2];rfl,yaa HB.out _⟩):q:=h
theorem zq090364 {q:Prop} (h:q:= by
 rw [HQ2.out.1,HQ2.out.2] at hst4;obtain ⟨v,h1,h2,h3,h4,h5⟩:=hst4;exact ⟨_,rfl,v,ygc h1 om,h2,h3,h4,h5⟩):q:=h
theorem zq0918d7 {q:Prop} (h:q:= by
 clear HST hlt
 go_wp2_with fail
 go_step3
 refine ⟨rfl,HJ.out _ _ ⟨k+1,all,_,_,_,_,_,_,_,_,_,_,_,_,_,_,_,_,_,_,_,_,_,_,_,_,_,_,_,_,_,_,_,_,_,_,_,_,_,_,_,_,_,_,_,_,_,rfl,⟨by have:=HK.out;omega,by have:=HK.out;omega,by have:=HK.out;omega⟩,HST2,yaa HB.out _⟩ ?_⟩;exact yi0 HK.out.1):q:=h
theorem zq0958e8 {q:Prop} (h:q:= by
 go_ret
 refine ⟨_,rfl,by simpa using hown1,?_⟩;exact (bR.alloc (Nat.le_refl _) _).grown hg1 (by rw [World.size_alloc];omega) (by intro k hk;cases hk;exact Nat.le_refl _)):q:=h
def Fl (m n:Nat) (w:World) (v:Value) (cs:List Value):Prop :=
 cs.length=n*m/\(∀c∈cs,c.oneCell'=true)/\∃ao cap,v=.slice ao n cap/\n<=cap/\(cap<=maxLen/\(ao=none->cap=0)) /\
  (0<n->∃b o,ao=some (Ad b o)/\∀i,i<n*m->w.cell? (Ad b (o+i))=cs[i]?)
def OffF (F:List Nat) (v:Value):Prop:=∀b o n c,v=sL b o n c->0<n->b∉F
structure yab (F:List Nat) (w w':World):Prop where
 os:w'.os=w.os
 tape:w'.tape=w.tape
 output:w'.output=w.output
 size:w.heap.size<=w'.heap.size
 block:∀k,k<w.heap.size->k∉F->w'.heap[k]?=w.heap[k]?
theorem yab.refl (F:List Nat) (w:World):yab F w w:=⟨rfl,rfl,rfl,Nat.le_refl _,fun _ _ _=>rfl⟩
theorem yab.of_below {F:List Nat} {w w':World} (h:BW w w'):yab F w w':=⟨h.os,h.tape,h.output,h.size,fun k hk _=>h.block k hk⟩
theorem yab.trans {F F':List Nat} {a b c:World} (h:yab F a b) (k:yab F' b c) (hF:∀x∈F',x∈F\/a.heap.size<=x):yab F a c :=
 ⟨k.os.trans h.os,k.tape.trans h.tape,k.output.trans h.output,Nat.le_trans h.size k.size,fun i hi hn=>(k.block i (Nat.lt_of_lt_of_le hi h.size) (fun hx=>by
  rcases hF i hx with h1 | h1
  ·exact hn h1
  ·omega)).trans (h.block i hi hn)⟩
theorem yab.below {F:List Nat} {a b c:World} (h:yab F a b) (k:BW b c):yab F a c :=
 h.trans (yab.of_below (F:=[]) k) (fun x hx=>by cases hx)
theorem yab.mono {F F':List Nat} {a b:World} (h:yab F a b) (hF:∀x∈F,x∈F'):yab F' a b:=⟨h.os,h.tape,h.output,h.size,fun i hi hn=>h.block i hi (fun hx=>hn (hF i hx))⟩
theorem yab.setCell {F:List Nat} {a b:World} (h:yab F a b) {g i:Nat} (hg:g∈F\/a.heap.size<=g) (u:Value):yab F a (b.setCell (Ad g i) u) :=
 ⟨h.os,h.tape,h.output,by simpa [World.setCell] using h.size,fun k hk hn=>(heap_setCell_other b (Ad g i) k u (fun e=>by
  rcases hg with h1 | h1
  ·exact hn (e▸h1)
  ·have:k=g:=e
   omega)).trans (h.block k hk hn)⟩
theorem yab.alloc {F:List Nat} {a b:World} (h:yab F a b) (o:Obj):yab F a (b.alloc o):=h.below (yaa bR o)
theorem yab.drew {F:List Nat} {a b:World} (h:yab F a b):yab F a b.drew:=h.below (yaf bR)
theorem yab.grown {F:List Nat} {a b c:World} (h:yab F a b) {r:Option Nat} (hg:b.grownBy c r) (hr:∀k,r=some k->k∈F\/a.heap.size<=k):yab F a c :=
 h.trans ⟨hg.os,hg.tape,hg.output,hg.size,fun k hk hn=>hg.block k hk (fun e=>hn (by rw [<-e];simp))⟩ (F':=r.toList) (fun x hx=>hr x (by cases r <;> simp_all))
theorem yab.to_below {F:List Nat} {w w':World} (h:yab F w w') {B:Nat} (hB:B<=w.heap.size) (hF:∀x∈F,B<=x):Below B w w' :=
 ⟨h.os,h.tape,h.output,h.size,fun k hk=>h.block k om (fun hx=>by have:=hF k hx;omega)⟩
theorem yab.cell {F:List Nat} {w w':World} (h:yab F w w') {b o:Nat} {x:Value} (hc:w.cell? (Ad b o)=some x) (hb:b∉F):w'.cell? (Ad b o)=some x :=
 (World.cell?_of_block (w:=w) (a:=(Ad b o)) (h.block b (yac hc) hb)).trans hc
theorem Blk.keep {F:List Nat} {w w':World} {g:Nat} {e:TypeId} {cur:List Value} (h:Blk w g e cur) (hk:yab F w w') (hg:g∉F):Blk w' g e cur:=(hk.block g h.lt hg).trans h
theorem OffF.mono {F F':List Nat} {v:Value} (h:OffF F v) (hF:∀x∈F',x∈F):OffF F' v:=fun b o n c e hn hb=>h b o n c e hn (hF b hb)
theorem OffF.nil (F:List Nat) (ao:Option Addr) (c:Nat):OffF F (.slice ao 0 c):=fun b o n c' e hn=>by cases e;omega
theorem Fl.nil {m:Nat} {w:World}:Fl m 0 w (sZ) []:=⟨by simp,by simp,none,0,rfl,Nat.le_refl _,⟨by simp [maxLen],fun _=>rfl⟩,fun h=>absurd h (Nat.lt_irrefl 0)⟩
theorem Fl.shape {m n:Nat} {w:World} {v:Value} {cs:List Value} (h:Fl m n w v cs):∃ao cap,v=.slice ao n cap:= by
 obtain ⟨_,_,ao,cap,rfl,_⟩:=h;exact ⟨ao,cap,rfl⟩
theorem Fl.len {m n n' cap:Nat} {ao:Option Addr} {w:World} {cs:List Value} (h:Fl m n w (.slice ao n' cap) cs):n'=n/\n<=cap/\cap<=maxLen/\(ao=none->n=0/\cap=0):= by
 obtain ⟨_,_,ao',cap',e,h1,h2,_⟩:=h;cases e;exact ⟨rfl,h1,h2.1,fun e=>by have:=h2.2 e;omega⟩
theorem Fl.at {m n cap:Nat} {ao:Option Addr} {w:World} {cs:List Value} (h:Fl m n w (.slice ao n cap) cs) {i:Nat} (hi:i<n*m) :
 ∃b o,ao=some (Ad b o)/\w.cell? (Ad b (o+i))=cs[i]?:= by
 obtain ⟨_,_,ao',cap',e,h1,h2,h3⟩:=h;cases e;obtain ⟨b,o,rfl,hc⟩:=h3 (Nat.pos_of_ne_zero (fun e=>by subst e;simp at hi));exact ⟨b,o,rfl,hc i hi⟩
theorem Fl.below {m n:Nat} {w w':World} {v:Value} {cs:List Value} (h:Fl m n w v cs) (hb:BW w w'):Fl m n w' v cs:= by
 obtain ⟨hl,h1c,ao,cap,rfl,h1,h2,h3⟩:=h;refine ⟨hl,h1c,ao,cap,rfl,h1,h2,fun hx=>?_⟩;obtain ⟨b,o,rfl,hc⟩:=h3 hx;refine ⟨b,o,rfl,fun i hi=>?_⟩;have e:cs[i]?=some (cs[i]'om):=List.getElem?_eq_getElem _;have h4:=hc i hi;rw [e] at h4 ⊢;exact (hb.cell (p:=(Ad b (o+i))) (yac h4)).trans h4
theorem Fl.keep {m n:Nat} {F:List Nat} {w w':World} {v:Value} {cs:List Value} (h:Fl m n w v cs) (hk:yab F w w') (ho:OffF F v):Fl m n w' v cs:= by
 obtain ⟨hl,h1c,ao,cap,rfl,h1,h2,h3⟩:=h;refine ⟨hl,h1c,ao,cap,rfl,h1,h2,fun hx=>?_⟩;obtain ⟨b,o,rfl,hc⟩:=h3 hx;have hb:=ho b o _ _ rfl hx;refine ⟨b,o,rfl,fun i hi=>?_⟩;have e:cs[i]?=some (cs[i]'om):=List.getElem?_eq_getElem _;have h4:=hc i hi;rw [e] at h4 ⊢;exact hk.cell h4 hb
theorem Sl.keep {k:IntKind} {F:List Nat} {w w':World} {v:Value} {xs:List Int} (h:Sl k w v xs) (hk:yab F w w') (ho:OffF F v):Sl k w' v xs:= by
 obtain ⟨ao,cap,rfl,h1,h2,h3⟩:=h;refine ⟨ao,cap,rfl,h1,h2,fun hx=>?_⟩;obtain ⟨b,o,rfl,hc⟩:=h3 hx;have hb:=ho b o _ _ rfl (List.length_pos_iff.2 hx);exact ⟨b,o,rfl,fun i hi=>hk.cell (hc i hi) hb⟩
theorem Fl.news {m n cap:Nat} {ao:Option Addr} {w:World} {cs:List Value} (h:Fl m n w (.slice ao n cap) cs) :
 ∀ad,ao=some ad->∀j u,cs[j]?=some u->w.cell? (ad.add j)=some u:= by
 intro ad had j u hu;have hj:j<n*m:=by have:=(List.getElem?_eq_some_iff.1 hu).1;have:=h.1;omega
 obtain ⟨b,o,e,hc⟩:=h.at hj;rw [e] at had;obtain rfl:=Option.some.inj had;rw [Addr.add_lit,hc,hu]
theorem Fl.of_own {m n base:Nat} {w:World} {e:TypeId} {v:Value} {cs:List Value} (h:w.ownsRow base e m v n cs) (h1:∀c∈cs,c.oneCell'=true):Fl m n w v cs:= by
 have hl:=h.1;rcases h.2 with ⟨rfl,rfl⟩ | ⟨g,cap,cur,rfl,hb,hg,hnc,hcm,hcs,htake⟩
 ·obtain rfl:cs=[]:=List.eq_nil_of_length_eq_zero (by simpa using hl)
  exact Fl.nil
 ·refine ⟨hl,h1,_,_,rfl,hnc,⟨hcm,fun h=>by cases h⟩,fun _=>⟨g,0,rfl,fun i hi=>?_⟩⟩
  have hB:Blk w g e cur.toList:=by simpa [Blk] using hg
  have e1:(cur.toList.take (n*m))[i]?=cur.toList[i]?:=List.getElem?_take_of_lt hi;rw [hB.cell,Nat.zero_add,<-e1,htake]
theorem ya1 {m n base:Nat} {w:World} {e:TypeId} {v:Value} {cs:List Value} (h:w.ownsRow base e m v n cs):∀b o k c,v=sL b o k c->base<=b:= by
 intro b o k c ev;rcases h.2 with ⟨rfl,_⟩ | ⟨g,cap,cur,rfl,hb,_⟩
 ·cases ev
 ·cases ev;exact hb
def yh0 (e:TypeId) (m n:Nat) (cs:List Value) (w:World) (x:Ending) (w':World):Prop :=
 ∃u,x=.returned u/\w'.ownsRow w.heap.size e m u n cs/\BW w w'
theorem yab.sg {g i:Nat} {F:List Nat} {a b:World} (h:yab (g::F) a b) (u:Value):yab (g::F) a (b.setCell (Ad g i) u):=h.setCell (.inl (List.mem_cons_self ..)) u
theorem yzh:(Tryz.prog.info? 81).map (fun i=>(i.zero,i.size,i.bytes))=some (some (.agg #[iZ,.bool false]),2,16):=by kernel_rfl
theorem yri (v:Value) (n:Nat) (cs:List Value) (w:World) (hv:Fl 2 n w v cs) (hn:n<=100000) :
 Calls Tryz.prog 28 #[v] w (yh0 81 2 n cs w):= by
 have HV:=lh hv;obtain ⟨hl,h1c,ao,cap,rfl,h1,⟨h2,hnn⟩,h3⟩:=hv;clear h3 hnn;unfold maxLen at h2;have qT:∀(w:World) (a:Option Addr) (n c n' c':Nat),(binOp .eql 22 (.slice a n c) (.slice none n' c')).run Tryz.prog w=.ok (.bool a.isNone) w:=fun w a n c n' c'=>Lib.run_eql_slice_nil w _ _ a n c n' c' Tryz.underlying22;obtain ⟨i0,hi,hz0,hz1,hz2⟩:=info_parts yzh;have HL:=lh (And.intro hl h1c);clear hl h1c;cases ao with
 | none =>
  obtain ⟨_,_,_,h4⟩:=HV.out.len;obtain ⟨rfl,rfl⟩:=h4 rfl;clear h4;have hcs:cs=[]:=List.eq_nil_of_length_eq_zero (by simpa using HL.out.1);have HCS:=lh hcs;clear hcs
  go_enter Tryz.func28,Tryz.ntmps28
  go_wp2
  go_ret
  refine ⟨_,rfl,?_,bR⟩;rw [HCS.out];exact World.ownsRow_nil _ _ _ _
 | some a =>
  go_enter Tryz.func28,Tryz.ntmps28
  go_wp2_with (at_builtin;refine ya9 _ rfl (.tmp 5) (.tmp 6) 22 rfl w.heap.size 81 i0 (.agg #[iZ,.bool false]) 2 16 Tryz.underlying22 hi hz0 hz1 hz2 rfl (by decide) _ 0 [] rfl (yf8 w _) (some a) n cap cs rfl HL.out.1 (fun h=>by cases h) (HV.out.below (yaa bR _)).news HL.out.2 (by unfold maxLen;omega) om (by rw [World.size_alloc];omega) ?_;intro v' w1 hown1 hg1 hn1;clear hn1)
  exact zq0958e8
theorem ymh:(Tryz.prog.info? 150).map (fun i=>(i.zero,i.size,i.bytes))=some (some (.agg #[iZ,iZ,iZ,iZ,iZ]),5,40):=by kernel_rfl
theorem ypp (v:Value) (n:Nat) (cs:List Value) (w:World) (hv:Fl 5 n w v cs) (hn:n<=100000) :
 Calls Tryz.prog 130 #[v] w (yh0 150 5 n cs w):= by
 have HV:=lh hv;obtain ⟨hl,h1c,ao,cap,rfl,h1,⟨h2,hnn⟩,h3⟩:=hv;clear h3 hnn;unfold maxLen at h2;have qT:∀(w:World) (a:Option Addr) (n c n' c':Nat),(binOp .eql 53 (.slice a n c) (.slice none n' c')).run Tryz.prog w=.ok (.bool a.isNone) w:=fun w a n c n' c'=>Lib.run_eql_slice_nil w _ _ a n c n' c' Tryz.underlying53;obtain ⟨i0,hi,hz0,hz1,hz2⟩:=info_parts ymh;have HL:=lh (And.intro hl h1c);clear hl h1c;cases ao with
 | none =>
  obtain ⟨_,_,_,h4⟩:=HV.out.len;obtain ⟨rfl,rfl⟩:=h4 rfl;clear h4;have hcs:cs=[]:=List.eq_nil_of_length_eq_zero (by simpa using HL.out.1);have HCS:=lh hcs;clear hcs
  go_enter Tryz.func130,Tryz.ntmps130
  go_wp2
  go_ret
  refine ⟨_,rfl,?_,bR⟩;rw [HCS.out];exact World.ownsRow_nil _ _ _ _
 | some a =>
  go_enter Tryz.func130,Tryz.ntmps130
  go_wp2_with (at_builtin;refine ya9 _ rfl (.tmp 5) (.tmp 6) 53 rfl w.heap.size 150 i0 (.agg #[iZ,iZ,iZ,iZ,iZ]) 5 40 Tryz.underlying53 hi hz0 hz1 hz2 rfl (by decide) _ 0 [] rfl (yf8 w _) (some a) n cap cs rfl HL.out.1 (fun h=>by cases h) (HV.out.below (yaa bR _)).news HL.out.2 (by unfold maxLen;omega) om (by rw [World.size_alloc];omega) ?_;intro v' w1 hown1 hg1 hn1;clear hn1)
  exact zq0958e8
theorem yyq:(Tryz.prog.info? 155).map (fun i=>(i.zero,i.size,i.bytes))=some (some (.agg #[iZ,iZ,iZ,iZ,iZ]),5,40):=by kernel_rfl
theorem yqf (v:Value) (n:Nat) (cs:List Value) (w:World) (hv:Fl 5 n w v cs) (hn:n<=100000) :
 Calls Tryz.prog 68 #[v] w (yh0 155 5 n cs w):= by
 have HV:=lh hv;obtain ⟨hl,h1c,ao,cap,rfl,h1,⟨h2,hnn⟩,h3⟩:=hv;clear h3 hnn;unfold maxLen at h2;have qT:∀(w:World) (a:Option Addr) (n c n' c':Nat),(binOp .eql 36 (.slice a n c) (.slice none n' c')).run Tryz.prog w=.ok (.bool a.isNone) w:=fun w a n c n' c'=>Lib.run_eql_slice_nil w _ _ a n c n' c' Tryz.underlying36;obtain ⟨i0,hi,hz0,hz1,hz2⟩:=info_parts yyq;have HL:=lh (And.intro hl h1c);clear hl h1c;cases ao with
 | none =>
  obtain ⟨_,_,_,h4⟩:=HV.out.len;obtain ⟨rfl,rfl⟩:=h4 rfl;clear h4;have hcs:cs=[]:=List.eq_nil_of_length_eq_zero (by simpa using HL.out.1);have HCS:=lh hcs;clear hcs
  go_enter Tryz.func68,Tryz.ntmps68
  go_wp2
  go_ret
  refine ⟨_,rfl,?_,bR⟩;rw [HCS.out];exact World.ownsRow_nil _ _ _ _
 | some a =>
  go_enter Tryz.func68,Tryz.ntmps68
  go_wp2_with (at_builtin;refine ya9 _ rfl (.tmp 5) (.tmp 6) 36 rfl w.heap.size 155 i0 (.agg #[iZ,iZ,iZ,iZ,iZ]) 5 40 Tryz.underlying36 hi hz0 hz1 hz2 rfl (by decide) _ 0 [] rfl (yf8 w _) (some a) n cap cs rfl HL.out.1 (fun h=>by cases h) (HV.out.below (yaa bR _)).news HL.out.2 (by unfold maxLen;omega) om (by rw [World.size_alloc];omega) ?_;intro v' w1 hown1 hg1 hn1;clear hn1)
  exact zq0958e8
theorem yyp:(Tryz.prog.info? 65).map (fun i=>(i.zero,i.size,i.bytes))=some (some (.agg #[iZ,iZ,iZ]),3,24):=by kernel_rfl
theorem ypb (v:Value) (n:Nat) (cs:List Value) (w:World) (hv:Fl 3 n w v cs) (hn:n<=100000) :
 Calls Tryz.prog 80 #[v] w (yh0 65 3 n cs w):= by
 have HV:=lh hv;obtain ⟨hl,h1c,ao,cap,rfl,h1,⟨h2,hnn⟩,h3⟩:=hv;clear h3 hnn;unfold maxLen at h2;have qT:∀(w:World) (a:Option Addr) (n c n' c':Nat),(binOp .eql 41 (.slice a n c) (.slice none n' c')).run Tryz.prog w=.ok (.bool a.isNone) w:=fun w a n c n' c'=>Lib.run_eql_slice_nil w _ _ a n c n' c' Tryz.underlying41;obtain ⟨i0,hi,hz0,hz1,hz2⟩:=info_parts yyp;have HL:=lh (And.intro hl h1c);clear hl h1c;cases ao with
 | none =>
  obtain ⟨_,_,_,h4⟩:=HV.out.len;obtain ⟨rfl,rfl⟩:=h4 rfl;clear h4;have hcs:cs=[]:=List.eq_nil_of_length_eq_zero (by simpa using HL.out.1);have HCS:=lh hcs;clear hcs
  go_enter Tryz.func80,Tryz.ntmps80
  go_wp2
  go_ret
  refine ⟨_,rfl,?_,bR⟩;rw [HCS.out];exact World.ownsRow_nil _ _ _ _
 | some a =>
  go_enter Tryz.func80,Tryz.ntmps80
  go_wp2_with (at_builtin;refine ya9 _ rfl (.tmp 5) (.tmp 6) 41 rfl w.heap.size 65 i0 (.agg #[iZ,iZ,iZ]) 3 24 Tryz.underlying41 hi hz0 hz1 hz2 rfl (by decide) _ 0 [] rfl (yf8 w _) (some a) n cap cs rfl HL.out.1 (fun h=>by cases h) (HV.out.below (yaa bR _)).news HL.out.2 (by unfold maxLen;omega) om (by rw [World.size_alloc];omega) ?_;intro v' w1 hown1 hg1 hn1;clear hn1)
  exact zq0958e8
theorem yzd:(Tryz.prog.info? 175).map (fun i=>(i.zero,i.size,i.bytes))=some (some (.agg #[iZ,iZ,iZ,iZ,iZ,iZ,iZ,iZ,iZ]),9,72):=by kernel_rfl
theorem yl7:(Tryz.prog.info? 43).map (fun i=>(i.zero,i.size,i.bytes))=some (some (.agg #[iZ,iZ,iZ,iZ,sZ,iZ,iZ,iZ,.bool false]),9,88):=by kernel_rfl
theorem yrg (v:Value) (n:Nat) (cs:List Value) (w:World) (hv:Fl 9 n w v cs) (hn:n<=100000) :
 Calls Tryz.prog 83 #[v] w (yh0 43 9 n cs w):= by
 have HV:=lh hv;obtain ⟨hl,h1c,ao,cap,rfl,h1,⟨h2,hnn⟩,h3⟩:=hv;clear h3 hnn;unfold maxLen at h2;have qT:∀(w:World) (a:Option Addr) (n c n' c':Nat),(binOp .eql 61 (.slice a n c) (.slice none n' c')).run Tryz.prog w=.ok (.bool a.isNone) w:=fun w a n c n' c'=>Lib.run_eql_slice_nil w _ _ a n c n' c' Tryz.underlying61;obtain ⟨i0,hi,hz0,hz1,hz2⟩:=info_parts yl7;have HL:=lh (And.intro hl h1c);clear hl h1c;cases ao with
 | none =>
  obtain ⟨_,_,_,h4⟩:=HV.out.len;obtain ⟨rfl,rfl⟩:=h4 rfl;clear h4;have hcs:cs=[]:=List.eq_nil_of_length_eq_zero (by simpa using HL.out.1);have HCS:=lh hcs;clear hcs
  go_enter Tryz.func83,Tryz.ntmps83
  go_wp2
  go_ret
  refine ⟨_,rfl,?_,bR⟩;rw [HCS.out];exact World.ownsRow_nil _ _ _ _
 | some a =>
  go_enter Tryz.func83,Tryz.ntmps83
  go_wp2_with (at_builtin;refine ya9 _ rfl (.tmp 5) (.tmp 6) 61 rfl w.heap.size 43 i0 (.agg #[iZ,iZ,iZ,iZ,sZ,iZ,iZ,iZ,.bool false]) 9 88 Tryz.underlying61 hi hz0 hz1 hz2 rfl (by decide) _ 0 [] rfl (yf8 w _) (some a) n cap cs rfl HL.out.1 (fun h=>by cases h) (HV.out.below (yaa bR _)).news HL.out.2 (by unfold maxLen;omega) om (by rw [World.size_alloc];omega) ?_;intro v' w1 hown1 hg1 hn1;clear hn1)
  exact zq0958e8
structure R5 where
 a:Int
 b:Int
 c:Int
 d:Int
 e:Int
def R5.cells (x:R5):List Value:=[iV x.a,iV x.b,iV x.c,iV x.d,iV x.e]
def yag (l:List R5):List Value:=l.flatMap R5.cells
def yax:R5:=⟨0,0,0,0,0⟩
theorem ybr (a b:List R5):yag (a++b)=yag a++yag b:=by simp [yag]
theorem ye6 (l:List R5):∀c∈yag l,c.oneCell'=true:= by
 intro c hc;simp only [yag,R5.cells,List.mem_flatMap,List.mem_cons,List.not_mem_nil,or_false] at hc;obtain ⟨x,_,rfl | rfl | rfl | rfl | rfl⟩:=hc <;> rfl
theorem ybf (l:List R5):(yag l).length=l.length*5:= by
 induction l with
 | nil=>rfl
 | cons x l ih =>
  have e:yag (x::l)=x.cells++yag l:=rfl;rw [e,List.length_append,ih,List.length_cons];show 5+_=_;omega
theorem yh9 (l:List R5) (i:Nat) (hi:i<l.length):(yag l)[i*5]?=some (iV (l.getD i yax).a)/\(yag l)[i*5+1]?=some (iV (l.getD i yax).b)/\(yag l)[i*5+2]?=some (iV (l.getD i yax).c)/\(yag l)[i*5+3]?=some (iV (l.getD i yax).d)/\(yag l)[i*5+4]?=some (iV (l.getD i yax).e):= by
 induction l generalizing i with
 | nil=>simp at hi
 | cons x l ih =>
  have e:yag (x::l)=iV x.a::iV x.b::iV x.c::iV x.d::iV x.e::yag l:=rfl;rw [e];cases i with
  | zero=>simp
  | succ i =>
   have h:=ih i (by simpa using hi);have e1:(i+1)*5=i*5+1+1+1+1+1:=by omega
   rw [e1]
   simpa using h
theorem yjv (l:List R5) (k:Nat):(yag l).drop (k*5)=yag (l.drop k):= by
 induction k generalizing l with
 | zero=>simp
 | succ k ih =>
  cases l with
  | nil=>simp [yag]
  | cons x l =>
   have e:yag (x::l)=iV x.a::iV x.b::iV x.c::iV x.d::iV x.e::yag l:=rfl;have e1:(k+1)*5=k*5+1+1+1+1+1:=by omega
   rw [e,e1]
   simpa using ih l
theorem ykk (l:List R5) (k:Nat):(yag l).take (k*5)=yag (l.take k):= by
 induction k generalizing l with
 | zero=>simp [yag]
 | succ k ih =>
  cases l with
  | nil=>simp [yag]
  | cons x l =>
   have e:yag (x::l)=iV x.a::iV x.b::iV x.c::iV x.d::iV x.e::yag l:=rfl;have e2:yag ((x::l).take (k+1))=iV x.a::iV x.b::iV x.c::iV x.d::iV x.e::yag (l.take k):=rfl;have e1:(k+1)*5=k*5+1+1+1+1+1:=by omega
   rw [e,e1,e2]
   simpa using ih l
def R5S (w:World) (v:Value) (l:List R5):Prop:=Fl 5 l.length w v (yag l)
theorem R5S.below {w w':World} {v:Value} {l:List R5} (h:R5S w v l) (hb:BW w w'):R5S w' v l:=Fl.below h hb
theorem R5S.keep {F:List Nat} {w w':World} {v:Value} {l:List R5} (h:R5S w v l) (hk:yab F w w') (ho:OffF F v):R5S w' v l:=Fl.keep h hk ho
theorem R5S.nil {w:World}:R5S w (sZ) []:=Fl.nil
theorem R5S.shape {w:World} {v:Value} {l:List R5} (h:R5S w v l):∃ao cap,v=.slice ao l.length cap:=Fl.shape h
theorem R5S.get {w:World} {ao:Option Addr} {n cap:Nat} {l:List R5} (h:R5S w (.slice ao n cap) l) {i:Nat} (hi:i<l.length) :
 ∃b o x,ao=some (Ad b o)/\(w.cell? (Ad b (o+i*5))=some (iV x.a)/\w.cell? (Ad b (o+i*5+1))=some (iV x.b)/\w.cell? (Ad b (o+i*5+2))=some (iV x.c)/\w.cell? (Ad b (o+i*5+3))=some (iV x.d)/\w.cell? (Ad b (o+i*5+4))=some (iV x.e))/\Hid (l.getD i yax=x):= by
 obtain ⟨rfl,_⟩:=Fl.len h;obtain ⟨b,o,rfl,h0⟩:=Fl.at h (i:=i*5) om;obtain ⟨_,_,e1,h1⟩:=Fl.at h (i:=i*5+1) om;obtain ⟨_,_,e2,h2⟩:=Fl.at h (i:=i*5+2) om;obtain ⟨_,_,e3,h3⟩:=Fl.at h (i:=i*5+3) om;obtain ⟨_,_,e4,h4⟩:=Fl.at h (i:=i*5+4) om;cases e1;cases e2;cases e3;cases e4;obtain ⟨g0,g1,g2,g3,g4⟩:=yh9 l i hi;refine ⟨b,o,l.getD i yax,rfl,⟨h0.trans g0,?_,?_,?_,?_⟩,rfl⟩
 ·rw [Nat.add_assoc];exact h1.trans g1
 ·rw [Nat.add_assoc];exact h2.trans g2
 ·rw [Nat.add_assoc];exact h3.trans g3
 ·rw [Nat.add_assoc];exact h4.trans g4
theorem R5S.of_own {w:World} {base:Nat} {e:TypeId} {v:Value} {n:Nat} {l:List R5} (h:w.ownsRow base e 5 v n (yag l)) (hn:l.length=n):R5S w v l:= by
 subst hn;exact Fl.of_own h (ye6 l)
def yej (first due:Int):List R5->Int->Int×Int
 | [],all=>(all,0)
 | x::l,all=>if x.a=2/\first<=x.b/\x.b<=due then (if x.d<0\/1000000000000000<x.d then (0,5) else yej first due l (min (all+x.d) 1000000000000000)) else yej first due l all
def ylt (n:Nat):Option Value->Nat
 | some (.int _ x)=>(n-x).toNat
 | _=>0
theorem yi0 {k n:Nat} (h:k<n):ylt n (some (iV ((k:Int)+1)))<ylt n (some (iV (k:Int))):= by
 show ((n:Int)-((k:Int)+1)).toNat<((n:Int)-(k:Int)).toNat;omega
theorem yx9 {l:List R5} {k:Nat} {x:R5} (hk:k<l.length) (hx:l.getD k yax=x):l.drop k=x::l.drop (k+1):= by
 rw [List.drop_eq_getElem_cons hk]
 congr 1
 rw [<-hx];simp [List.getD,hk]
theorem yxa (first due:Int) (v:Value) (l:List R5) (r:Int×Int) (HR:Hid (yej first due l 0=r)) (w:World) (hv:R5S w v l) :
 Calls Tryz.prog 219 #[iV first,iV due,v] w (RetB (.tuple #[iV r.1,iV r.2]) w):= by
 have HV:=lh hv;obtain ⟨ao,cap,rfl⟩:=hv.shape;have hlen:=(Fl.len hv).2;unfold maxLen at hlen;obtain ⟨hlc,hcm,_⟩:=hlen;clear hv;obtain ⟨r1,r2⟩:=r;simp only
 go_enter Tryz.func219,Tryz.ntmps219
 go_wp2_with fail
 refine yai 0 (fun a' w'=>∃(k:Nat) (all:Int) (u3 u4 u5 u6 u7 u10 u11 u12 u13 u14 u15 u16 u17 u18 u19 u20 u21 u22 u23 u24 u25 u26 u27 u28 u29 u30 u31 u32 u33 u34 u35 u36 u37 u38 u39 u40 u41 u42 u43 u44 u45 u46 u47 u48 u49:Value),a'={ tmps:=#[iV first,iV due,.slice ao l.length cap,u3,u4,u5,u6,u7,iV all,iV (k:Int),u10,u11,u12,u13,u14,u15,u16,u17,u18,u19,u20,u21,u22,u23,u24,u25,u26,u27,u28,u29,u30,u31,u32,u33,u34,u35,u36,u37,u38,u39,u40,u41,u42,u43,u44,u45,u46,u47,u48,u49],defers:=[] }/\(k<=l.length/\0<=all/\all<=1000000000000000)/\Hid (yej first due (l.drop k) all=(r1,r2))/\Hid (BW w w'))
  (fun a' _=>ylt l.length a'.tmps[9]?) rfl ?pass ?first
 case pass =>
  intro a1 w1 hJ J' hJ';obtain ⟨k,all,hJ⟩:=hJ;obtain ⟨u3,hJ⟩:=hJ;obtain ⟨u4,hJ⟩:=hJ;obtain ⟨u5,hJ⟩:=hJ;obtain ⟨u6,hJ⟩:=hJ;obtain ⟨u7,hJ⟩:=hJ;obtain ⟨u10,hJ⟩:=hJ;obtain ⟨u11,hJ⟩:=hJ;obtain ⟨u12,hJ⟩:=hJ;obtain ⟨u13,hJ⟩:=hJ;obtain ⟨u14,hJ⟩:=hJ;obtain ⟨u15,hJ⟩:=hJ;obtain ⟨u16,hJ⟩:=hJ;obtain ⟨u17,hJ⟩:=hJ;obtain ⟨u18,hJ⟩:=hJ;obtain ⟨u19,hJ⟩:=hJ;obtain ⟨u20,hJ⟩:=hJ;obtain ⟨u21,hJ⟩:=hJ;obtain ⟨u22,hJ⟩:=hJ;obtain ⟨u23,hJ⟩:=hJ;obtain ⟨u24,hJ⟩:=hJ;obtain ⟨u25,hJ⟩:=hJ;obtain ⟨u26,hJ⟩:=hJ;obtain ⟨u27,hJ⟩:=hJ;obtain ⟨u28,hJ⟩:=hJ;obtain ⟨u29,hJ⟩:=hJ;obtain ⟨u30,hJ⟩:=hJ;obtain ⟨u31,hJ⟩:=hJ;obtain ⟨u32,hJ⟩:=hJ;obtain ⟨u33,hJ⟩:=hJ;obtain ⟨u34,hJ⟩:=hJ;obtain ⟨u35,hJ⟩:=hJ;obtain ⟨u36,hJ⟩:=hJ;obtain ⟨u37,hJ⟩:=hJ;obtain ⟨u38,hJ⟩:=hJ;obtain ⟨u39,hJ⟩:=hJ;obtain ⟨u40,hJ⟩:=hJ;obtain ⟨u41,hJ⟩:=hJ;obtain ⟨u42,hJ⟩:=hJ;obtain ⟨u43,hJ⟩:=hJ;obtain ⟨u44,hJ⟩:=hJ;obtain ⟨u45,hJ⟩:=hJ;obtain ⟨u46,hJ⟩:=hJ;obtain ⟨u47,hJ⟩:=hJ;obtain ⟨u48,hJ⟩:=hJ;obtain ⟨u49,hJ⟩:=hJ;obtain ⟨rfl,⟨hk,ha1,ha2⟩,HP,HB⟩:=hJ;have HJ:=lh hJ';clear hJ'
  by_cases hkl:k=l.length
  ·subst hkl
   have HP2:Hid (all=r1/\0=r2):= by
    have h:=HP.out;rw [List.drop_of_length_le (Nat.le_refl _)] at h;injection h with h1 h2
    exact ⟨h1,h2⟩
   go_wp2_with fail
   simp only [Exit.jump]
   go_ret2
   exact ⟨by rw [<-HP2.out.1,<-HP2.out.2];rfl,HB.out⟩
  ·have hlt:k<l.length:=by omega
   have hlt2:(k:Int)<(l.length:Int):=by omega
   have hkne:¬(k:Int)=(l.length:Int):=by omega
   obtain ⟨b,o,x,rfl,⟨c0,c1,c2,c3,c4⟩,HX⟩:=(HV.out.below HB.out).get hlt
   have HST:Hid ((if x.a=2/\first<=x.b/\x.b<=due then (if x.d<0\/1000000000000000<x.d then ((0:Int),(5:Int)) else yej first due (l.drop (k+1)) (min (all+x.d) 1000000000000000)) else yej first due (l.drop (k+1)) all)=(r1,r2)):= by
    have h:=HP.out;rw [yx9 hlt HX.out] at h;exact h
   have hk1:wrap64 ((k:Int)+1)=(k:Int)+1:=IntWalk.wrap64_in _ ⟨by omega,by omega⟩;have HK:=lh (And.intro hlt (And.intro ha1 ha2));obtain ⟨xa,xb,xc,xd,xe⟩:=x;simp only at c0 c1 c2 c3 c4 HST;clear HX hk ha1 ha2
   by_cases c1':xa=2
   ·subst c1'
    by_cases c2':first<=xb
    ·by_cases c3':xb<=due
     ·by_cases c4':xd<0\/1000000000000000<xd
      ·have HR2:Hid (0=r1/\5=r2):= by
        have h:=HST.out;rw [if_pos ⟨rfl,c2',c3'⟩,if_pos c4'] at h;injection h with h1 h2
        exact ⟨h1,h2⟩
       clear HST hlt;rcases c4' with c4' | c4'
       ·exact zq09326f
       ·have c5':¬xd<0:=by omega
        exact zq09326f
      ·obtain ⟨mn,hmn⟩:∃mn,min (all+xd) 1000000000000000=mn:=⟨_,rfl⟩
       have HST2:Hid (yej first due (l.drop (k+1)) mn=(r1,r2)):= by
        have h:=HST.out;rw [if_pos ⟨rfl,c2',c3'⟩,if_neg c4',hmn] at h;exact h
       have c5':¬xd<0:=by omega
       have c6':¬1000000000000000<xd:=by omega
       have hs:wrap64 (all+xd)=all+xd:=IntWalk.wrap64_in _ ⟨by have:=HK.out;omega,by have:=HK.out;omega⟩;have HC:=lh (And.intro c5' (And.intro c6' hmn));clear HST hlt c4'
       go_wp2_with fail
       ·have HST3:Hid (yej first due (l.drop (k+1)) 1000000000000000=(r1,r2)):= by
         have h:=HST2.out
         rwa [show mn=1000000000000000 by have:=HC.out.2.2;omega] at h
        go_step3
        exact ⟨rfl,HJ.out _ _ ⟨k+1,1000000000000000,_,_,_,_,_,_,_,_,_,_,_,_,_,_,_,_,_,_,_,_,_,_,_,_,_,_,_,_,_,_,_,_,_,_,_,_,_,_,_,_,_,_,_,_,_,rfl,⟨by have:=HK.out;omega,by omega,by omega⟩,HST3,yaa HB.out _⟩ (yi0 HK.out.1)⟩
       ·have HST3:Hid (yej first due (l.drop (k+1)) (all+xd)=(r1,r2)):= by
         have h:=HST2.out
         rwa [show mn=all+xd by have:=HC.out.2.2;omega] at h
        clear hs
        go_step3
        exact ⟨rfl,HJ.out _ _ ⟨k+1,all+xd,_,_,_,_,_,_,_,_,_,_,_,_,_,_,_,_,_,_,_,_,_,_,_,_,_,_,_,_,_,_,_,_,_,_,_,_,_,_,_,_,_,_,_,_,_,rfl,⟨by have:=HK.out;omega,by have:=HK.out;omega,by omega⟩,HST3,yaa HB.out _⟩ (yi0 HK.out.1)⟩
     ·have HST2:Hid (yej first due (l.drop (k+1)) all=(r1,r2)):= by
       have h:=HST.out
       rwa [if_neg (fun h=>c3' h.2.2)] at h
      exact zq0918d7
    ·have HST2:Hid (yej first due (l.drop (k+1)) all=(r1,r2)):= by
      have h:=HST.out
      rwa [if_neg (fun h=>c2' h.2.1)] at h
     exact zq0918d7
   ·have HST2:Hid (yej first due (l.drop (k+1)) all=(r1,r2)):= by
     have h:=HST.out
     rwa [if_neg (fun h=>c1' h.1)] at h
    exact zq0918d7
 case first =>
  intro J' hJJ hrest;have HRE:=lh hrest;clear hJJ hrest
  go_wp2_with fail
  go_step3
  go_step
  go_step
  exact HRE.out _ _ ⟨0,0,_,_,_,_,_,_,_,_,_,_,_,_,_,_,_,_,_,_,_,_,_,_,_,_,_,_,_,_,_,_,_,_,_,_,_,_,_,_,_,_,_,_,_,_,_,rfl,⟨by omega,by omega,by omega⟩,HR.out,bR⟩
def hasR (owed first due:Int) (l:List R5):Bool×Int:=((yej first due l 0).2 == 0 && (decide (owed<=0) || decide (owed<=(yej first due l 0).1)),(yej first due l 0).2)
theorem yza (owed first due:Int) (v:Value) (l:List R5) (r:Bool×Int) (HR:Hid (hasR owed first due l=r)) (w:World) (hv:R5S w v l) :
 Calls Tryz.prog 183 #[iV owed,iV first,iV due,v] w (RetB (.tuple #[.bool r.1,iV r.2]) w):= by
 obtain ⟨p,hp⟩:∃p,yej first due l 0=p:=⟨_,rfl⟩
 have HP:=lh hp;have hr:=HR.out;unfold hasR at hr;rw [hp] at hr;subst hr;obtain ⟨p1,p2⟩:=p;simp only;obtain ⟨q,hq⟩:∃q,(p2 == 0 && (decide (owed<=0) || decide (owed<=p1)))=q:=⟨_,rfl⟩;have HQ:=lh hq;rw [hq];clear hp hq HR
 go_enter Tryz.func183,Tryz.ntmps183
 go_wp2_with fail
 refine (yxa first due _ l (p1,p2) HP _ hv).mono ?_;rintro _ w1 ⟨rfl,hb1⟩;simp only;go_wp2
 all_goals
  go_ret2
  refine ⟨?_,hb1⟩;rw [<-HQ.out];simp [*]
noncomputable def ybd (cyc day:Int):Nat->Int->List (Int×Int)×Bool
 | 0,_=>([],false)
 | k+1,f=>if (yb8 f cyc).2≠0 then ([],false) else
  if (yb8 f cyc).1<day/\k≠0 then ((f,(yb8 f cyc).1)::(ybd cyc day k ((yb8 f cyc).1+1)).1,(ybd cyc day k ((yb8 f cyc).1+1)).2)
  else ([(f,(yb8 f cyc).1)],decide (f<=day) && decide (day<=(yb8 f cyc).1))
def yby (l:List (Int×Int)):List Value:=l.flatMap fun x=>[iV x.1,iV x.2]
theorem ykx (a b:List (Int×Int)):yby (a++b)=yby a++yby b:=by simp [yby]
theorem yg7 (l:List (Int×Int)):∀c∈yby l,c.oneCell'=true:= by
 intro c hc;simp only [yby,List.mem_flatMap,List.mem_cons,List.not_mem_nil,or_false] at hc;obtain ⟨x,_,rfl | rfl⟩:=hc <;> rfl
theorem yib (cyc day:Int) (k:Nat) (f:Int):(ybd cyc day k f).1.length<=k:= by
 induction k generalizing f with
 | zero=>simp [ybd]
 | succ k ih =>
  unfold ybd
  split
  ·simp
  ·split
   ·simpa using ih _
   ·simp
theorem yuz:(Tryz.prog.info? 40).map (fun i=>(i.zero,i.size,i.bytes))=some (some (.agg #[iZ,iZ]),2,16):=by kernel_rfl
def yer (base ob bd bl bi:Nat) (day:Int) (ps:List (Int×Int)) (is:Bool) (w0 w:World):Prop :=
 ∃v,w.ownsRow ob 40 2 v ps.length (yby ps)/\Blk w bd 3 [iV day]/\Blk w bl 159 [v]/\Blk w bi 4 [.bool is]/\Below base w0 w
theorem yaj {w:World} {base b n m:Nat} {e t:TypeId} {v:Value} {cs:List Value} {cur:List Value} (h:w.ownsRow base e m v n cs) (hc:Blk w b t cur) (hne:t≠e):some b≠v.ownBlock:= by
 rcases h.2 with ⟨rfl,_⟩ | ⟨g,cap,cr,rfl,hb,hg,_⟩
 ·simp [Value.ownBlock]
 ·intro e1
  simp only [Value.ownBlock,Option.some.injEq] at e1;subst e1;unfold Blk at hc;rw [hg] at hc;simp only [Option.some.injEq,Obj.cells.injEq] at hc;exact hne hc.2.1.symm
theorem yah {w w':World} {base:Nat} {e:TypeId} {m n:Nat} {v:Value} {cs:List Value} (h:w.ownsRow base e m v n cs) (hb:BW w w'):w'.ownsRow base e m v n cs:= by
 refine ⟨h.1,?_⟩;rcases h.2 with h1 | ⟨g,cap,cur,hv,hg,hc,r⟩
 ·exact .inl h1
 ·exact .inr ⟨g,cap,cur,hv,hg,(hb.block g (Array.getElem?_eq_some_iff.1 hc).1).trans hc,r⟩
theorem yaq {w w':World} {g:Nat} {r:Option Nat} {e:TypeId} {cur:List Value} (h:Blk w g e cur) (hg:w.grownBy w' r) (hne:some g≠r):Blk w' g e cur:=(hg.block g h.lt hne).trans h
theorem yaz {w:World} {base:Nat} {e:TypeId} {size n:Nat} {v:Value} {xs:List Value} {b i:Nat} (h:w.ownsRow base e size v n xs) (hne:some b≠v.ownBlock) (u:Value):(w.setCell (Ad b i) u).ownsRow base e size v n xs:= by
 refine ⟨h.1,?_⟩;rcases h.2 with h1 | ⟨g,cap,cur,rfl,hb,hg,r⟩
 ·exact .inl h1
 ·refine .inr ⟨g,cap,cur,rfl,hb,?_,r⟩
  rw [heap_setCell_other w (Ad b i) g u (fun e=>hne (by simp [Value.ownBlock];exact e.symm))];exact hg
theorem yne {W:World} {b:Nat} {T:TypeId} {x y z:Bool} (h:Blk W b T [.bool x]) (e:y=z):Blk (W.setCell (Ad b 0) (.bool y)) b T [.bool z]:= by
 subst e;exact h.set 0 _
theorem yyc (w:World) (a b:Value) (t:TypeId):∀j u,[a,b][j]?=some u->(w.alloc (.cells #[a,b] t)).cell? (((Ad w.heap.size 0):Addr).add j)=some u:= by
 intro j u hu;have h:Blk (w.alloc (.cells #[a,b] t)) w.heap.size t [a,b]:=heap_alloc_new w _;rw [Addr.add_lit,h.cell,Nat.zero_add];exact hu
theorem ynx (n f l day:Int) (base ob bd bl bi:Nat) (ps:List (Int×Int)) (is:Bool) (hps:ps.length<=1000) (hbl:base<=bl) (hbi:base<=bi) (is2:Bool) (h2:Hid ((decide (f<=day) && decide (day<=l))=is2)) (go:Bool) (hgo:Hid ((decide (l<day) && decide (n<300))=go)) (w0 w:World) (hob:base<=ob/\ob<=w.heap.size) (hst:yer base ob bd bl bi day ps is w0 w) :
 Calls Tryz.prog 153 #[iV n,.agg #[iV f,iV l],pV bl,pV bd,pV bi] w (fun e w'=>e=.returned (.bool go)/\yer base ob bd bl bi day (ps++[(f,l)]) is2 w0 w'/\(∀k,k<ob->k≠bl->k≠bi->w'.heap[k]?=w.heap[k]?)/\w.heap.size<=w'.heap.size):= by
 obtain ⟨v,hown,hd,hl,hi',hB⟩:=hst;have NL:=lh (yaj hown hl (by decide));have ND:=lh (yaj hown hd (by decide));have NI:=lh (yaj hown hi' (by decide));obtain ⟨i0,hi,hz0,hz1,hz2⟩:=info_parts yuz;have hdl:bd≠bl:=by rintro rfl;unfold Blk at hd hl;rw [hd] at hl;simp at hl
 have hdi:bd≠bi:=by rintro rfl;unfold Blk at hd hi';rw [hd] at hi';simp at hi'
 have hli:bl≠bi:=by rintro rfl;unfold Blk at hl hi';rw [hl] at hi';simp at hi'
 have HNE:=lh (And.intro hdl (And.intro hdi hli));have HD:=lh hd;have HL:=lh hl;have HI:=lh hi';have HOWN:=lh hown;have HB0:=lh hB;have HBS:Hid (base<=w.heap.size):=by show base<=_;omega
 have HOB:=lh hob;have cl:=HL.out.cell 0;have kl:=HL.out.lt;have cd:=HD.out.cell 0;have kd:=HD.out.lt;simp only [List.getElem?_cons_zero] at cl cd;obtain ⟨m,hm⟩:∃m,ps.length=m:=⟨_,rfl⟩;have HM:=lh hm;have HO2:Hid (w.ownsRow ob 40 2 v m (yby ps)):=by have:=HOWN.out;rwa [hm] at this
 rw [hm] at hps;clear hown hd hl hi' hB hdl hdi hli hm
 go_enter Tryz.func153,Tryz.ntmps153
 have HA0:Hid (Blk ((w.alloc (.cells #[iV f,iV l] 40)).alloc (.cells #[iV f,iV l] 40)) w.heap.size 40 [iV f,iV l]):=Blk.below (ybc w _ _ _ rfl) (yaa bR _)
 have HNA:Hid (some w.heap.size≠v.ownBlock):=fun e=>by
  have:=(HOWN.out.lt _ e.symm).2;omega
 go_upto_region 2 with (at_builtin;refine yas _ rfl (.tmp 8) (.tmp 10) 159 rfl ob 40 i0 (.agg #[iZ,iZ]) 2 16 Tryz.underlying159 hi hz0 hz1 hz2 rfl (by decide) _ m (yby ps) rfl ((HO2.out.alloc _).alloc _) (Ad (w.heap.size+1) 0) 1 1 [iV f,iV l] rfl rfl (by have h:=yyc (w.alloc (.cells #[iV f,iV l] 40)) (iV f) (iV l) 40;simp only [World.size_alloc] at h;exact h) (fun x hx=>by simp at hx;rcases hx with rfl | rfl <;> rfl) (by unfold maxLen;omega) om (by simp only [World.size_alloc];have:=HOB.out;omega) ?_;intro v2 w2 hown2 hg2 hw2;clear hw2;obtain ⟨g2,c2,rfl⟩:=ya5 hown2 om;have HO3:=lh hown2;have HG2:=lh hg2;have e2:w2.cell? (Ad bl 0)=some v:=(yaq (HL.out.below (yaa (yaa bR _) _)) hg2 NL.out).cell 0;have f2:=(yaq (HL.out.below (yaa (yaa bR _) _)) hg2 NL.out).frozen 0;clear hown2 hg2)
 have BS2:=lh (yaq HA0.out HG2.out HNA.out);have BL2:=lh (yaq (HL.out.below (yaa (yaa bR _) _)) HG2.out NL.out);have BD2:=lh (yaq (HD.out.below (yaa (yaa bR _) _)) HG2.out ND.out);have BI2:=lh (yaq (HI.out.below (yaa (yaa bR _) _)) HG2.out NI.out);have hszz:w.heap.size+2<=w2.heap.size:=by have:=HG2.out.size;simp only [World.size_alloc] at this;omega
 have B2:=lh (Below.grown ((HB0.out.alloc HBS.out _).alloc (by rw [World.size_alloc];have:=HBS.out;omega) _) HG2.out (by simp only [World.size_alloc];have:=HBS.out;omega) (fun q hq=>by have:=(HOWN.out.lt q hq).1;have:=HOB.out;omega));obtain ⟨hdl,hdi,hli⟩:=HNE.out;have hwl:w.heap.size≠bl:=by have:=HL.out.lt;omega
 obtain ⟨W3,hW3,C0,CL,CD,CI,CB,CO,CZ,CK⟩:∃W3,w2.setCell (Ad bl 0) (sL g2 0 (m+1) c2)=W3/\Hid (Blk W3 w.heap.size 40 [iV f,iV l])/\Hid (Blk W3 bl 159 [sL g2 0 (m+1) c2])/\Hid (Blk W3 bd 3 [iV day])/\Hid (Blk W3 bi 4 [.bool is])/\Hid (Below base w0 W3)/\Hid (W3.ownsRow ob 40 2 (sL g2 0 (m+1) c2) (m+1) (yby (ps++[(f,l)])))/\Hid (w.heap.size<=W3.heap.size)/\Hid (∀k,k<ob->k≠bl->W3.heap[k]?=w.heap[k]?) :=
  ⟨_,rfl,BS2.out.setOther hwl _ _,BL2.out.set 0 _,BD2.out.setOther hdl _ _,BI2.out.setOther (Ne.symm hli) _ _,B2.out.setCell (show base<=bl from hbl) _,by
   rw [ykx];exact yaz HO3.out (yaj HO3.out BL2.out (by decide)) _,by show w.heap.size<=_;rw [World.size_setCell];omega,fun k hk hne=>by
   have hk1:=HOB.out.2;rw [heap_setCell_other w2 (Ad bl 0) k _ (fun e=>hne e),HG2.out.block k (by simp only [World.size_alloc];omega) (fun e=>by have:=(HOWN.out.lt k e.symm).1;omega),Below.heap_alloc _ _ _ (by rw [World.size_alloc];omega),Below.heap_alloc _ _ _ om]⟩
 with_reducible rw [hW3]
 clear hW3 HG2 HO3 e2 f2 BS2 BL2 BD2 BI2 B2 hszz hdl hdi hli hwl cl kl cd kd;obtain ⟨c0,c1,-⟩:=C0.out.cs [0,1];have cd:=CD.out.cell 0;have ci:=CI.out.cell 0;have fi:=CI.out.frozen 0;simp only [gz,gs] at c0 c1 cd ci;have hb1:¬bi=bd:=fun e=>HNE.out.2.1 e.symm;have hb2:¬bd=bi:=HNE.out.2.1;have hb3:¬bi=w.heap.size:=by have:=HI.out.lt;omega
 have hb4:¬w.heap.size=bi:=by have:=HI.out.lt;omega
 go_wp2_with fail
 all_goals
  go_ret
  refine ⟨yr5 (by rw [<-hgo.out];first | (simp [*];done) | (simp [*];omega) | (simp;omega)),⟨_,?_,CD.out.setOther HNE.out.2.1 _ _,CL.out.setOther HNE.out.2.2 _ _,yne CI.out (by rw [<-h2.out];first | (simp [*];done) | (simp [*];omega) | (simp;omega)),CB.out.setCell (show base<=bi from hbi) _⟩,fun k h1 h2 h3=>(heap_setCell_other W3 (Ad bi 0) k _ (fun e=>h3 e)).trans (CK.out k h1 h2),by rw [World.size_setCell];exact CZ.out⟩;have e1:(ps++[(f,l)]).length=m+1:=by rw [List.length_append,HM.out];rfl
  rw [e1];exact yaz CO.out (yaj CO.out CI.out (by decide)) _
theorem ymu (f cyc:Int):(yb8 f cyc).1<=2932896:= by
 unfold yb8
 split
 ·simp
 ·split
  ·simp
  ·split
   ·simp
   ·simp;omega
theorem yji {f cyc:Int} (h:(yb8 f cyc).2=0):f<=(yb8 f cyc).1 /\ -135140<=f/\f<=2932896/\1<=cyc/\cyc<=28:= by
 unfold yb8 at h ⊢
 split
 ·rename_i h1;rw [if_pos h1] at h;cases h
 ·rename_i h1;rw [if_neg h1] at h
  split
  ·rename_i h2;rw [if_pos h2] at h;cases h
  ·rename_i h2;rw [if_neg h2] at h
   split
   ·rename_i h3;rw [if_pos h3] at h;cases h
   ·have hD:=yc4 (n:=f) om
    have h4:=ydb (yc6 f).1 hD.hm;have h5:=hD.hd;refine ⟨?_,by omega⟩;show f<=ydd f cyc;unfold ydd
    split <;> omega
def yy6:Option Value->Nat
 | some (.int _ x)=>(300-x).toNat
 | _=>0
theorem yer.below {base ob bd bl bi:Nat} {day:Int} {ps:List (Int×Int)} {is:Bool} {w0 w w':World} (h:yer base ob bd bl bi day ps is w0 w) (hb:BW w w') (hbase:base<=w.heap.size):yer base ob bd bl bi day ps is w0 w':= by
 obtain ⟨v,h1,h2,h3,h4,h5⟩:=h;exact ⟨v,yah h1 hb,h2.below hb,h3.below hb,h4.below hb,h5.trans (hb.mono hbase)⟩
theorem yer.setOther {base ob bd bl bi:Nat} {day:Int} {ps:List (Int×Int)} {is:Bool} {w0 w:World} (h:yer base ob bd bl bi day ps is w0 w) {g i:Nat} (h1:bd≠g) (h2:bl≠g) (h3:bi≠g) (hg:base<=g) (ho:g<ob) (u:Value):yer base ob bd bl bi day ps is w0 (w.setCell (Ad g i) u):= by
 obtain ⟨v,k1,k2,k3,k4,k5⟩:=h;exact ⟨v,yaz k1 (fun e=>by have:=(k1.lt g e.symm).1;omega) _,k2.setOther h1 _ _,k3.setOther h2 _ _,k4.setOther h3 _ _,k5.setCell (show base<=g from hg) _⟩
theorem ye3 {cyc day f:Int} {k:Nat} (h:(yb8 f cyc).2≠0):ybd cyc day (k+1) f=([],false):= by
 rw [ybd,if_pos h]
theorem ye0 {cyc day f l:Int} {k:Nat} (h:yb8 f cyc=(l,0)) (h1:l<day) (h2:k≠0):ybd cyc day (k+1) f=((f,l)::(ybd cyc day k (l+1)).1,(ybd cyc day k (l+1)).2):= by
 rw [ybd,if_neg (by rw [h];simp),h,if_pos ⟨h1,h2⟩]
theorem yez {cyc day f l:Int} {k:Nat} (h:yb8 f cyc=(l,0)) (h1:¬(l<day/\k≠0)):ybd cyc day (k+1) f=([(f,l)],decide (f<=day) && decide (day<=l)):= by
 rw [ybd,if_neg (by rw [h];simp),h,if_neg h1]
theorem yud (start cyc day:Int) (ps:List (Int×Int)) (is:Bool) (HR:Hid (ybd cyc day 300 start=(ps,is))) (base bd bl bi:Nat) (hbl:base<=bl) (hbi:base<=bi) (w0 w:World) (hbw:base<=w.heap.size) (hst:yer base w.heap.size bd bl bi day [] false w0 w) :
 Calls Tryz.prog 152 #[iV start,iV cyc,(.func (.func 153) #[] #[pV bl,pV bd,pV bi])] w (fun e w'=>∃x,e=.returned (iV x)/\yer base w.heap.size bd bl bi day ps is w0 w'):= by
 have HST:=lh hst
 have hlt:bl<w.heap.size/\bi<w.heap.size/\bd<w.heap.size:= by
  obtain ⟨v,h1,h2,h3,h4,h5⟩:=hst;exact ⟨h3.lt,h4.lt,h2.lt⟩
 have HLT:=lh hlt;clear hst hlt
 go_enter Tryz.func152,Tryz.ntmps152
 go_wp2_with fail
 refine yai 0 (fun a' w'=>∃(k:Nat) (f q:Int) (qs:List (Int×Int)) (u0 u3 u4 u5 u9 u10 u11 u12 u13 u14 u15 u16 u17 u18 u19 u20 u21 u22 u23 u24 u25 u26 u27 u28 u29 u30 u31 u32 u33:Value),a'={ tmps:=#[u0,iV cyc,(.func (.func 153) #[] #[pV bl,pV bd,pV bi]),u3,u4,u5,iZ,iV (300-(k:Int)),pV w.heap.size,u9,u10,u11,u12,u13,u14,u15,u16,u17,u18,u19,u20,u21,u22,u23,u24,u25,u26,u27,u28,u29,u30,u31,u32,u33],defers:=[] }/\(k<300/\qs.length+k<=300)/\Hid (qs++(ybd cyc day (k+1) f).1=ps/\(ybd cyc day (k+1) f).2=is)/\Hid (Blk w' w.heap.size 40 [iV f,iV q])/\Hid (yer base (w.heap.size+1) bd bl bi day qs false w0 w'))
  (fun a' _=>yy6 a'.tmps[7]?) rfl ?pass ?first
 case pass =>
  intro a1 w1 hJ J' hJ';obtain ⟨k,f,q,qs,hJ⟩:=hJ
  iterate 29 obtain ⟨_,hJ⟩:=hJ
  obtain ⟨rfl,⟨hk,hql⟩,HQ,HB,HF⟩:=hJ;have HJ:=lh hJ';clear hJ';obtain ⟨r,hr⟩:∃r,yb8 f cyc=r:=⟨_,rfl⟩;have HL:=lh hr;obtain ⟨c0,c1,-⟩:=HB.out.cs [0,1];have f1:=HB.out.frozen 1;simp only [gz,gs] at c0 c1;have hsz:=HB.out.lt
  by_cases hc:r.2=0
  ·obtain ⟨l,e⟩:=r
   simp only at hc;subst hc;have hle:=ymu f cyc;have hge:=yji (f:=f) (cyc:=cyc) (by rw [hr]);rw [hr] at hle hge;simp only at hle hge;have hl1:wrap64 (l+1)=l+1:=IntWalk.wrap64_in _ ⟨by omega,by omega⟩;have hn1:wrap64 (300-(k:Int)+1)=300-(k:Int)+1:=IntWalk.wrap64_in _ ⟨by omega,by omega⟩;obtain ⟨is2,his2⟩:∃b,(decide (f<=day) && decide (day<=l))=b:=⟨_,rfl⟩;obtain ⟨go,hgo⟩:∃b,(decide (l<day) && decide ((300:Int)-(k:Int)<300))=b:=⟨_,rfl⟩;have HI2:=lh his2;have HGO:=lh hgo;have HLR:=lh hr;have HKQ:=lh (And.intro hk hql);have HBW:=lh (And.intro hbw (And.intro hbl hbi));cases go with
   | true =>
    have hld:l<day/\k≠0:= by
     simp at hgo;omega
    have HLD:=lh hld
    have HQ2:Hid ((qs++[(f,l)])++(ybd cyc day k (l+1)).1=ps/\(ybd cyc day k (l+1)).2=is):= by
     have h:=HQ.out;rw [ye0 HLR.out hld.1 hld.2] at h;show _/\_;rw [List.append_assoc];exact h
    have hfalse:is2=false:= by
     rw [<-his2];have:=hld.1;simp;omega
    subst hfalse;clear hr his2 hgo hld hle hge hk hql hbw hbl hbi
    go_wp2_with fail
    refine (yf9 f cyc (l,0) HL _).mono ?_;rintro _ w2 ⟨rfl,hb2⟩;simp only;have HB2:=lh (HB.out.below hb2);have HF2:=lh (HF.out.below hb2 (by have:=HBW.out;omega));have hz2:w.heap.size<w2.heap.size:=by have:=hb2.size;omega
    clear hb2 c0 c1 f1 hsz;have c0:=HB2.out.cell 0;have f0:=HB2.out.frozen 0;have c1:=HB2.out.cell 1;have f1:=HB2.out.frozen 1;simp only [gz,gs] at c0 c1;go_upto_region 7 with fail
    have hlt:=HLT.out;have hbw:=HBW.out
    obtain ⟨W3,hW3,HB3,HF3,HZ3⟩:∃W3,w2.setCell (Ad w.heap.size 1) (iV l)=W3/\Hid (Blk W3 w.heap.size 40 [iV f,iV l])/\Hid (yer base (w.heap.size+1) bd bl bi day qs false w0 W3)/\Hid (w.heap.size<W3.heap.size) :=
     ⟨_,rfl,HB2.out.set 1 _,HF2.out.setOther om om om om om _,by show _<_;rw [World.size_setCell];exact hz2⟩
    with_reducible rw [hW3]
    clear hW3 HB2 HF2 hz2 c0 f0 c1 f1 hlt hbw;obtain ⟨c0,c1,-⟩:=HB3.out.cs [0,1];simp only [gz,gs] at c0 c1
    go_wp2_with fail
    refine (ynx _ f l day base (w.heap.size+1) bd bl bi qs false (by have:=HKQ.out;omega) HBW.out.2.1 HBW.out.2.2 false HI2 true HGO w0 _ ⟨by have:=HBW.out;omega,HZ3.out⟩ HF3.out).mono ?_;rintro _ w4 ⟨rfl,hst4,hk4,hz4⟩;have HB4:Hid (Blk w4 w.heap.size 40 [iV f,iV l]):=(hk4 _ om (by have:=HLT.out;omega) (by have:=HLT.out;omega)).trans HB3.out;have HST4:=lh hst4;clear hst4 hk4 hz4 c0 c1;have c0:=HB4.out.cell 0;have f0:=HB4.out.frozen 0;have c1:=HB4.out.cell 1;simp only [gz,gs] at c0 c1
    go_wp2_with fail
    go_step3
    obtain ⟨j,rfl⟩:∃j,k=j+1:=⟨k-1,by have:=HLD.out;omega⟩;simp only [hl1,hn1];clear hl1 hn1;have hkq:=HKQ.out;have hlt:=HLT.out;have hbw:=HBW.out;have en:(300-((j+1:Nat):Int)+1)=300-(j:Int):=by omega
    refine ⟨rfl,HJ.out _ _ ⟨j,l+1,l,qs++[(f,l)],_,_,_,_,_,_,_,_,_,_,_,_,_,_,_,_,_,_,_,_,_,_,_,_,_,_,_,_,_,by rw [en],⟨by omega,by simp;omega⟩,HQ2,HB4.out.set 0 _,HST4.out.setOther om om om om om _⟩ ?_⟩;show (300-(300-((j+1:Nat):Int)+1)).toNat<(300-(300-((j+1:Nat):Int))).toNat;omega
   | false =>
    have HQ2:Hid (qs++[(f,l)]=ps/\is2=is):= by
     have h:=HQ.out;rw [yez HLR.out (by simp at hgo;omega),his2] at h;exact h
    clear hr his2 hgo hle hge hk hql hbw hbl hbi
    go_wp2_with fail
    refine (yf9 f cyc (l,0) HL _).mono ?_;rintro _ w2 ⟨rfl,hb2⟩;simp only;have HB2:=lh (HB.out.below hb2);have HF2:=lh (HF.out.below hb2 (by have:=HBW.out;omega));have hz2:w.heap.size<w2.heap.size:=by have:=hb2.size;omega
    clear hb2 c0 c1 f1 hsz;have c0:=HB2.out.cell 0;have f0:=HB2.out.frozen 0;have c1:=HB2.out.cell 1;have f1:=HB2.out.frozen 1;simp only [gz,gs] at c0 c1;go_upto_region 7 with fail
    have hlt:=HLT.out;have hbw:=HBW.out
    obtain ⟨W3,hW3,HB3,HF3,HZ3⟩:∃W3,w2.setCell (Ad w.heap.size 1) (iV l)=W3/\Hid (Blk W3 w.heap.size 40 [iV f,iV l])/\Hid (yer base (w.heap.size+1) bd bl bi day qs false w0 W3)/\Hid (w.heap.size<W3.heap.size) :=
     ⟨_,rfl,HB2.out.set 1 _,HF2.out.setOther om om om om om _,by show _<_;rw [World.size_setCell];exact hz2⟩
    with_reducible rw [hW3]
    clear hW3 HB2 HF2 hz2 c0 f0 c1 f1 hlt hbw;obtain ⟨c0,c1,-⟩:=HB3.out.cs [0,1];simp only [gz,gs] at c0 c1
    go_wp2_with fail
    refine (ynx _ f l day base (w.heap.size+1) bd bl bi qs false (by have:=HKQ.out;omega) HBW.out.2.1 HBW.out.2.2 is2 HI2 false HGO w0 _ ⟨by have:=HBW.out;omega,HZ3.out⟩ HF3.out).mono ?_;rintro _ w4 ⟨rfl,hst4,_,_⟩;have HST4:=lh hst4;clear hst4 c0 c1
    go_wp2_with fail
    simp only [Exit.jump];go_ret
    have hst4:=HST4.out;exact zq090364
  ·have HQ2:Hid (qs=ps/\false=is):= by
    have h:=HQ.out;rw [ye3 (by rw [hr];exact hc)] at h;show _/\_
    simpa [eq_comm] using h
   have hne:(r.2 != 0)=true:=by simp [hc]
   clear hr hc;have hlt:=HLT.out;obtain ⟨r1,r2⟩:=r;simp only at hne
   go_wp2_with fail
   refine (yf9 f cyc (r1,r2) HL _).mono ?_;rintro _ w2 ⟨rfl,hb2⟩;simp only;have HB2:=lh (HB.out.below hb2);have HF2:=lh (HF.out.below hb2 om);clear hb2 c0 c1 f1;have c1:=HB2.out.cell 1;have f1:=HB2.out.frozen 1;simp only [gz,gs] at c1
   go_wp2_with fail
   simp only [Exit.jump];go_ret
   have hst4:=HF2.out.setOther (g:=w.heap.size) (i:=1) om om om om om (iV r1);exact zq090364
 case first =>
  intro J' hJJ hrest;have HRE:=lh hrest;clear hJJ hrest
  go_wp2_with fail
  go_step3
  go_step
  go_step
  refine HRE.out _ _ ⟨299,start,0,[],_,_,_,_,_,_,_,_,_,_,_,_,_,_,_,_,_,_,_,_,_,_,_,_,_,_,_,_,_,rfl,by simp,?_,ybc w [iV start,iZ] _ _ rfl,?_⟩
  ·have h:=HR.out
   show _/\_;rw [h];exact ⟨rfl,rfl⟩
  ·obtain ⟨v,h1,h2,h3,h4,h5⟩:=HST.out
   have hb:=yaa (Below.refl w.heap.size w) (.cells #[iV start,iZ] 40);rcases h1.2 with ⟨rfl,_⟩ | ⟨g,cap,cur,rfl,hg,hc,_⟩
   ·exact ⟨sZ,World.ownsRow_nil _ _ _ _,h2.below hb,h3.below hb,h4.below hb,h5.trans (hb.mono hbw)⟩
   ·have:=(Array.getElem?_eq_some_iff.1 hc).1
    omega
theorem yl6 (start cyc day:Int) (ps:List (Int×Int)) (is:Bool) (HR:Hid (ybd cyc day 300 start=(ps,is))) (w:World) :
 Calls Tryz.prog 109 #[iV start,iV cyc,iV day] w (fun e w'=>∃v,e=.returned (.tuple #[v,.bool is])/\w'.ownsRow w.heap.size 40 2 v ps.length (yby ps)/\BW w w'):= by
 go_enter Tryz.func109,Tryz.ntmps109
 go_wp2_with fail
 have hst:yer w.heap.size (((w.alloc (.cells #[iV day] 3)).alloc (.cells #[sZ] 159)).alloc (.cells #[.bool false] 4)).heap.size w.heap.size (w.heap.size+1) (w.heap.size+1+1) day [] false w (((w.alloc (.cells #[iV day] 3)).alloc (.cells #[sZ] 159)).alloc (.cells #[.bool false] 4)) :=
  ⟨sZ,World.ownsRow_nil _ _ _ _,Blk.below (ybc w _ _ _ rfl) (yaa (yaa bR _) _),Blk.below (ybc (w.alloc _) _ _ _ (by simp)) (yaa bR _),ybc ((w.alloc _).alloc _) _ _ _ (by simp),yaa (yaa (yaa bR _) _) _⟩
 refine (yud start cyc day ps is HR w.heap.size w.heap.size (w.heap.size+1) (w.heap.size+1+1) om om w _ (by simp only [World.size_alloc];omega) hst).mono ?_;rintro _ w4 ⟨x,rfl,hst4⟩;clear hst;obtain ⟨v,h1,h2,h3,h4,h5⟩:=hst4;simp only [World.size_alloc] at h1;have HO:=lh h1;have H5:=lh h5;have c0:=h3.cell 0;have c1:=h4.cell 0;simp only [List.getElem?_cons_zero] at c0 c1;clear h1 h2 h3 h4 h5;go_upto_region 4 with fail
 go_region
 all_goals
  go_wp2
  go_ret2
  exact ⟨v,rfl,ygc HO.out om,H5.out.drew⟩
noncomputable def ofS (start cyc day:Int):Int×Int :=
 if (yb8 start cyc).2≠0 then (0,(yb8 start cyc).2) else if (ybd cyc day 300 start).2=true then (((ybd cyc day 300 start).1.length:Nat),0) else (0,10)
theorem yr4 (start cyc day:Int) (r:Int×Int) (HR:Hid (ofS start cyc day=r)) (w:World) :
 Calls Tryz.prog 63 #[iV start,iV cyc,iV day] w (RetB (.tuple #[iV r.1,iV r.2]) w):= by
 obtain ⟨l,hl⟩:∃l,yb8 start cyc=l:=⟨_,rfl⟩;obtain ⟨ps,is,hs⟩:∃ps is,ybd cyc day 300 start=(ps,is):=⟨_,_,rfl⟩;have HL:=lh hl;have HS:=lh hs;have hr:=HR.out;unfold ofS at hr;rw [hl,hs] at hr;simp only at hr;obtain ⟨l1,l2⟩:=l;clear hl hs
 by_cases hc:l2=0
 ·subst hc
  rw [if_neg (by simp)] at hr;cases is with
  | true =>
   rw [if_pos rfl] at hr;subst hr
   go_enter Tryz.func63,Tryz.ntmps63
   go_wp2_with fail
   refine (yf9 _ _ (l1,0) HL _).mono ?_;rintro _ w1 ⟨rfl,hb1⟩;simp only
   go_wp2_with fail
   refine (yl6 _ _ _ ps true HS _).mono ?_;rintro _ w2 ⟨v,rfl,ho,hb2⟩;obtain ⟨ao,cap,rfl⟩:=(Fl.of_own ho (yg7 _)).shape;clear ho;go_wp2
   go_ret2
   exact ⟨rfl,yad hb1 hb2⟩
  | false =>
   rw [if_neg (by simp)] at hr;subst hr
   go_enter Tryz.func63,Tryz.ntmps63
   go_wp2_with fail
   refine (yf9 _ _ (l1,0) HL _).mono ?_;rintro _ w1 ⟨rfl,hb1⟩;simp only
   go_wp2_with fail
   refine (yl6 _ _ _ ps false HS _).mono ?_;rintro _ w2 ⟨v,rfl,ho,hb2⟩;clear ho;go_wp2
   go_ret2
   exact ⟨rfl,yad hb1 hb2⟩
 ·rw [if_pos hc] at hr
  subst hr;have hne:(l2 != 0)=true:=by simp [hc]
  clear hc
  go_enter Tryz.func63,Tryz.ntmps63
  go_wp2_with fail
  refine (yf9 _ _ (l1,l2) HL _).mono ?_;rintro _ w1 ⟨rfl,hb1⟩;simp only;go_wp2
  go_ret2
  exact ⟨rfl,hb1⟩
theorem yyn (start cyc day:Int) (ps:List (Int×Int)) (HR:Hid (ybd cyc day 300 start=(ps,true))) (w:World) :
 Calls Tryz.prog 88 #[iV start,iV cyc,iV day] w (fun e w'=>∃v,e=.returned v/\w'.ownsRow w.heap.size 40 2 v ps.length (yby ps)/\BW w w'):= by
 go_enter Tryz.func88,Tryz.ntmps88
 go_wp2_with fail
 refine (yl6 _ _ _ ps true HR _).mono ?_;rintro _ w2 ⟨v,rfl,ho,hb2⟩;have HO:=lh ho;have HB:=lh hb2;clear ho hb2;go_wp2
 go_ret
 exact ⟨_,rfl,HO.out,HB.out⟩
end Go.Proofs.YtkongpjpkpfniaaGreat

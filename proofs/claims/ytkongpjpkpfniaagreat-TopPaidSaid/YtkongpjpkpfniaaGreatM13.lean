/- TopPaid: parts of the proof, made small by a program (mini.py). -/
import Derived.BigQuiet
import Derived.BigRegion
import Derived.Deep.CutBlock
import Derived.Deep.DeepCutAuto
import Derived.Deep.QuietTactic
import Derived.Deep.RegionHeld3
import Derived.Deep.RegionLaw
import Derived.Lib.SliceRun
import Derived.Test.YtkongpjpkpfniaaGreatM01
set_option linter.unusedVariables false
set_option linter.unusedSimpArgs false
set_option maxRecDepth 100000
set_option maxHeartbeats 6400000
namespace Go.Proofs.YtkongpjpkpfniaaGreat
open Go.RowKit
theorem zq13326f {q:Prop} (h:q:= by
 go_wp2_with fail
 simp only [Exit.jump]
 go_ret2
 exact ⟨by rw [←HR2.out.1,←HR2.out.2];rfl,yaa HB.out _⟩):q:=h
theorem zq1318d7 {q:Prop} (h:q:= by
 clear HST hlt
 go_wp2_with fail
 go_step3
 refine ⟨rfl,HJ.out _ _ ⟨k+1,all,_,_,_,_,_,_,_,_,_,_,_,_,_,_,_,_,_,_,_,_,_,_,_,_,_,_,_,_,_,_,_,_,_,_,_,_,_,_,_,_,_,_,_,_,_,rfl,⟨by have:=HK.out;omega,by have:=HK.out;omega,by have:=HK.out;omega⟩,HST2,yaa HB.out _⟩ ?_⟩;exact yi0 HK.out.1):q:=h
theorem zq1358e8 {q:Prop} (h:q:= by
 go_ret
 refine ⟨_,rfl,by simpa using hown1,?_⟩;exact (bR.alloc (Nat.le_refl _) _).grown hg1 (by rw [World.size_alloc];omega) (by intro k hk;cases hk;exact Nat.le_refl _)):q:=h
def Fl (m n:Nat) (w:World) (v:Value) (cs:List Value):Prop :=
 cs.length=n*m∧(∀c∈cs,c.oneCell'=true)∧∃ao cap,v=.slice ao n cap∧n≤cap∧(cap≤maxLen∧(ao=none→cap=0)) ∧
  (0<n→∃b o,ao=some ⟨b,o,none⟩∧∀i,i<n*m→w.cell? ⟨b,o+i,none⟩=cs[i]?)
def OffF (F:List Nat) (v:Value):Prop:=∀b o n c,v=.slice (some ⟨b,o,none⟩) n c→0<n→b∉F
structure yab (F:List Nat) (w w':World):Prop where
 os:w'.os=w.os
 tape:w'.tape=w.tape
 output:w'.output=w.output
 size:w.heap.size≤w'.heap.size
 block:∀k,k<w.heap.size→k∉F→w'.heap[k]?=w.heap[k]?
theorem yab.refl (F:List Nat) (w:World):yab F w w:=⟨rfl,rfl,rfl,Nat.le_refl _,fun _ _ _=>rfl⟩
theorem yab.of_below {F:List Nat} {w w':World} (h:Below w.heap.size w w'):yab F w w':=⟨h.os,h.tape,h.output,h.size,fun k hk _=>h.block k hk⟩
theorem yab.trans {F F':List Nat} {a b c:World} (h:yab F a b) (k:yab F' b c) (hF:∀x∈F',x∈F∨a.heap.size≤x):yab F a c :=
 ⟨k.os.trans h.os,k.tape.trans h.tape,k.output.trans h.output,Nat.le_trans h.size k.size,fun i hi hn=>(k.block i (Nat.lt_of_lt_of_le hi h.size) (fun hx=>by
  rcases hF i hx with h1 | h1
  ·exact hn h1
  ·omega)).trans (h.block i hi hn)⟩
theorem yab.below {F:List Nat} {a b c:World} (h:yab F a b) (k:Below b.heap.size b c):yab F a c :=
 h.trans (yab.of_below (F:=[]) k) (fun x hx=>by cases hx)
theorem yab.mono {F F':List Nat} {a b:World} (h:yab F a b) (hF:∀x∈F,x∈F'):yab F' a b:=⟨h.os,h.tape,h.output,h.size,fun i hi hn=>h.block i hi (fun hx=>hn (hF i hx))⟩
theorem yab.setCell {F:List Nat} {a b:World} (h:yab F a b) {g i:Nat} (hg:g∈F∨a.heap.size≤g) (u:Value):yab F a (b.setCell ⟨g,i,none⟩ u) :=
 ⟨h.os,h.tape,h.output,by simpa [World.setCell] using h.size,fun k hk hn=>(heap_setCell_other b ⟨g,i,none⟩ k u (fun e=>by
  rcases hg with h1 | h1
  ·exact hn (e▸h1)
  ·have:k=g:=e
   omega)).trans (h.block k hk hn)⟩
theorem yab.alloc {F:List Nat} {a b:World} (h:yab F a b) (o:Obj):yab F a (b.alloc o):=h.below (yaa bR o)
theorem yab.drew {F:List Nat} {a b:World} (h:yab F a b):yab F a b.drew:=h.below (yaf bR)
theorem yab.grown {F:List Nat} {a b c:World} (h:yab F a b) {r:Option Nat} (hg:b.grownBy c r) (hr:∀k,r=some k→k∈F∨a.heap.size≤k):yab F a c :=
 h.trans ⟨hg.os,hg.tape,hg.output,hg.size,fun k hk hn=>hg.block k hk (fun e=>hn (by rw [←e];simp))⟩ (F':=r.toList) (fun x hx=>hr x (by cases r <;> simp_all))
theorem yab.to_below {F:List Nat} {w w':World} (h:yab F w w') {B:Nat} (hB:B≤w.heap.size) (hF:∀x∈F,B≤x):Below B w w' :=
 ⟨h.os,h.tape,h.output,h.size,fun k hk=>h.block k om (fun hx=>by have:=hF k hx;omega)⟩
theorem yab.cell {F:List Nat} {w w':World} (h:yab F w w') {b o:Nat} {x:Value} (hc:w.cell? ⟨b,o,none⟩=some x) (hb:b∉F):w'.cell? ⟨b,o,none⟩=some x :=
 (World.cell?_of_block (w:=w) (a:=⟨b,o,none⟩) (h.block b (yac hc) hb)).trans hc
theorem Blk.keep {F:List Nat} {w w':World} {g:Nat} {e:TypeId} {cur:List Value} (h:Blk w g e cur) (hk:yab F w w') (hg:g∉F):Blk w' g e cur:=(hk.block g h.lt hg).trans h
theorem OffF.mono {F F':List Nat} {v:Value} (h:OffF F v) (hF:∀x∈F',x∈F):OffF F' v:=fun b o n c e hn hb=>h b o n c e hn (hF b hb)
theorem OffF.nil (F:List Nat) (ao:Option Addr) (c:Nat):OffF F (.slice ao 0 c):=fun b o n c' e hn=>by cases e;omega
theorem Fl.nil {m:Nat} {w:World}:Fl m 0 w (sZ) []:=⟨by simp,by simp,none,0,rfl,Nat.le_refl _,⟨by simp [maxLen],fun _=>rfl⟩,fun h=>absurd h (Nat.lt_irrefl 0)⟩
theorem Fl.shape {m n:Nat} {w:World} {v:Value} {cs:List Value} (h:Fl m n w v cs):∃ao cap,v=.slice ao n cap:= by
 obtain ⟨_,_,ao,cap,rfl,_⟩:=h;exact ⟨ao,cap,rfl⟩
theorem Fl.len {m n n' cap:Nat} {ao:Option Addr} {w:World} {cs:List Value} (h:Fl m n w (.slice ao n' cap) cs):n'=n∧n≤cap∧cap≤maxLen∧(ao=none→n=0∧cap=0):= by
 obtain ⟨_,_,ao',cap',e,h1,h2,_⟩:=h;cases e;exact ⟨rfl,h1,h2.1,fun e=>by have:=h2.2 e;omega⟩
theorem Fl.at {m n cap:Nat} {ao:Option Addr} {w:World} {cs:List Value} (h:Fl m n w (.slice ao n cap) cs) {i:Nat} (hi:i<n*m) :
 ∃b o,ao=some ⟨b,o,none⟩∧w.cell? ⟨b,o+i,none⟩=cs[i]?:= by
 obtain ⟨_,_,ao',cap',e,h1,h2,h3⟩:=h;cases e;obtain ⟨b,o,rfl,hc⟩:=h3 (Nat.pos_of_ne_zero (fun e=>by subst e;simp at hi));exact ⟨b,o,rfl,hc i hi⟩
theorem Fl.below {m n:Nat} {w w':World} {v:Value} {cs:List Value} (h:Fl m n w v cs) (hb:Below w.heap.size w w'):Fl m n w' v cs:= by
 obtain ⟨hl,h1c,ao,cap,rfl,h1,h2,h3⟩:=h;refine ⟨hl,h1c,ao,cap,rfl,h1,h2,fun hx=>?_⟩;obtain ⟨b,o,rfl,hc⟩:=h3 hx;refine ⟨b,o,rfl,fun i hi=>?_⟩;have e:cs[i]?=some (cs[i]'om):=List.getElem?_eq_getElem _;have h4:=hc i hi;rw [e] at h4 ⊢;exact (hb.cell (p:=⟨b,o+i,none⟩) (yac h4)).trans h4
theorem Fl.keep {m n:Nat} {F:List Nat} {w w':World} {v:Value} {cs:List Value} (h:Fl m n w v cs) (hk:yab F w w') (ho:OffF F v):Fl m n w' v cs:= by
 obtain ⟨hl,h1c,ao,cap,rfl,h1,h2,h3⟩:=h;refine ⟨hl,h1c,ao,cap,rfl,h1,h2,fun hx=>?_⟩;obtain ⟨b,o,rfl,hc⟩:=h3 hx;have hb:=ho b o _ _ rfl hx;refine ⟨b,o,rfl,fun i hi=>?_⟩;have e:cs[i]?=some (cs[i]'om):=List.getElem?_eq_getElem _;have h4:=hc i hi;rw [e] at h4 ⊢;exact hk.cell h4 hb
theorem Sl.keep {k:IntKind} {F:List Nat} {w w':World} {v:Value} {xs:List Int} (h:Sl k w v xs) (hk:yab F w w') (ho:OffF F v):Sl k w' v xs:= by
 obtain ⟨ao,cap,rfl,h1,h2,h3⟩:=h;refine ⟨ao,cap,rfl,h1,h2,fun hx=>?_⟩;obtain ⟨b,o,rfl,hc⟩:=h3 hx;have hb:=ho b o _ _ rfl (List.length_pos_iff.2 hx);exact ⟨b,o,rfl,fun i hi=>hk.cell (hc i hi) hb⟩
theorem Fl.news {m n cap:Nat} {ao:Option Addr} {w:World} {cs:List Value} (h:Fl m n w (.slice ao n cap) cs) :
 ∀ad,ao=some ad→∀j u,cs[j]?=some u→w.cell? (ad.add j)=some u:= by
 intro ad had j u hu;have hj:j<n*m:=by have:=(List.getElem?_eq_some_iff.1 hu).1;have:=h.1;omega
 obtain ⟨b,o,e,hc⟩:=h.at hj;rw [e] at had;obtain rfl:=Option.some.inj had;rw [Addr.add_lit,hc,hu]
theorem Fl.of_own {m n base:Nat} {w:World} {e:TypeId} {v:Value} {cs:List Value} (h:w.ownsRow base e m v n cs) (h1:∀c∈cs,c.oneCell'=true):Fl m n w v cs:= by
 have hl:=h.1;rcases h.2 with ⟨rfl,rfl⟩ | ⟨g,cap,cur,rfl,hb,hg,hnc,hcm,hcs,htake⟩
 ·obtain rfl:cs=[]:=List.eq_nil_of_length_eq_zero (by simpa using hl)
  exact Fl.nil
 ·refine ⟨hl,h1,_,_,rfl,hnc,⟨hcm,fun h=>by cases h⟩,fun _=>⟨g,0,rfl,fun i hi=>?_⟩⟩
  have hB:Blk w g e cur.toList:=by simpa [Blk] using hg
  have e1:(cur.toList.take (n*m))[i]?=cur.toList[i]?:=List.getElem?_take_of_lt hi;rw [hB.cell,Nat.zero_add,←e1,htake]
theorem ya1 {m n base:Nat} {w:World} {e:TypeId} {v:Value} {cs:List Value} (h:w.ownsRow base e m v n cs):∀b o k c,v=.slice (some ⟨b,o,none⟩) k c→base≤b:= by
 intro b o k c ev;rcases h.2 with ⟨rfl,_⟩ | ⟨g,cap,cur,rfl,hb,_⟩
 ·cases ev
 ·cases ev;exact hb
def yh0 (e:TypeId) (m n:Nat) (cs:List Value) (w:World) (x:Ending) (w':World):Prop :=
 ∃u,x=.returned u∧w'.ownsRow w.heap.size e m u n cs∧Below w.heap.size w w'
theorem yab.sg {g i:Nat} {F:List Nat} {a b:World} (h:yab (g::F) a b) (u:Value):yab (g::F) a (b.setCell ⟨g,i,none⟩ u):=h.setCell (.inl (List.mem_cons_self ..)) u
theorem yzh:(Tryz.prog.info? 81).map (fun i=>(i.zero,i.size,i.bytes))=some (some (.agg #[iZ,.bool false]),2,16):=by kernel_rfl
theorem yri (v:Value) (n:Nat) (cs:List Value) (w:World) (hv:Fl 2 n w v cs) (hn:n≤100000) :
 Calls Tryz.prog 28 #[v] w (yh0 81 2 n cs w):= by
 have HV:=lh hv;obtain ⟨hl,h1c,ao,cap,rfl,h1,⟨h2,hnn⟩,h3⟩:=hv;clear h3 hnn;unfold maxLen at h2;have qT:∀(w:World) (a:Option Addr) (n c n' c':Nat),(binOp .eql 22 (.slice a n c) (.slice none n' c')).run Tryz.prog w=.ok (.bool a.isNone) w:=fun w a n c n' c'=>Lib.run_eql_slice_nil w _ _ a n c n' c' Tryz.underlying22;obtain ⟨i0,hi,hz0,hz1,hz2⟩:=info_parts yzh;have HL:=lh (And.intro hl h1c);clear hl h1c;cases ao with
 | none =>
  obtain ⟨_,_,_,h4⟩:=HV.out.len;obtain ⟨rfl,rfl⟩:=h4 rfl;clear h4;have hcs:cs=[]:=List.eq_nil_of_length_eq_zero (by simpa using HL.out.1);have HCS:=lh hcs;clear hcs
  go_enter Tryz.func28,Tryz.ntmps28
  go_wp2
  go_ret
  refine ⟨_,rfl,?_,bR⟩;rw [HCS.out];exact World.ownsRow_nil _ _ _ _
 | some a =>
  go_enter Tryz.func28,Tryz.ntmps28
  go_wp2_with (at_builtin;refine ya9 _ rfl (.tmp 5) (.tmp 6) 22 rfl w.heap.size 81 i0 (.agg #[iZ,.bool false]) 2 16 Tryz.underlying22 hi hz0 hz1 hz2 rfl (by decide) _ 0 [] rfl (yf8 w _) (some a) n cap cs rfl HL.out.1 (fun h=>by cases h) (HV.out.below (yaa bR _)).news HL.out.2 (by unfold maxLen;omega) om (by rw [World.size_alloc];omega) ?_;intro v' w1 hown1 hg1 hn1;clear hn1)
  exact zq1358e8
theorem ymh:(Tryz.prog.info? 150).map (fun i=>(i.zero,i.size,i.bytes))=some (some (.agg #[iZ,iZ,iZ,iZ,iZ]),5,40):=by kernel_rfl
theorem ypp (v:Value) (n:Nat) (cs:List Value) (w:World) (hv:Fl 5 n w v cs) (hn:n≤100000) :
 Calls Tryz.prog 130 #[v] w (yh0 150 5 n cs w):= by
 have HV:=lh hv;obtain ⟨hl,h1c,ao,cap,rfl,h1,⟨h2,hnn⟩,h3⟩:=hv;clear h3 hnn;unfold maxLen at h2;have qT:∀(w:World) (a:Option Addr) (n c n' c':Nat),(binOp .eql 53 (.slice a n c) (.slice none n' c')).run Tryz.prog w=.ok (.bool a.isNone) w:=fun w a n c n' c'=>Lib.run_eql_slice_nil w _ _ a n c n' c' Tryz.underlying53;obtain ⟨i0,hi,hz0,hz1,hz2⟩:=info_parts ymh;have HL:=lh (And.intro hl h1c);clear hl h1c;cases ao with
 | none =>
  obtain ⟨_,_,_,h4⟩:=HV.out.len;obtain ⟨rfl,rfl⟩:=h4 rfl;clear h4;have hcs:cs=[]:=List.eq_nil_of_length_eq_zero (by simpa using HL.out.1);have HCS:=lh hcs;clear hcs
  go_enter Tryz.func130,Tryz.ntmps130
  go_wp2
  go_ret
  refine ⟨_,rfl,?_,bR⟩;rw [HCS.out];exact World.ownsRow_nil _ _ _ _
 | some a =>
  go_enter Tryz.func130,Tryz.ntmps130
  go_wp2_with (at_builtin;refine ya9 _ rfl (.tmp 5) (.tmp 6) 53 rfl w.heap.size 150 i0 (.agg #[iZ,iZ,iZ,iZ,iZ]) 5 40 Tryz.underlying53 hi hz0 hz1 hz2 rfl (by decide) _ 0 [] rfl (yf8 w _) (some a) n cap cs rfl HL.out.1 (fun h=>by cases h) (HV.out.below (yaa bR _)).news HL.out.2 (by unfold maxLen;omega) om (by rw [World.size_alloc];omega) ?_;intro v' w1 hown1 hg1 hn1;clear hn1)
  exact zq1358e8
theorem yyq:(Tryz.prog.info? 155).map (fun i=>(i.zero,i.size,i.bytes))=some (some (.agg #[iZ,iZ,iZ,iZ,iZ]),5,40):=by kernel_rfl
theorem yqf (v:Value) (n:Nat) (cs:List Value) (w:World) (hv:Fl 5 n w v cs) (hn:n≤100000) :
 Calls Tryz.prog 68 #[v] w (yh0 155 5 n cs w):= by
 have HV:=lh hv;obtain ⟨hl,h1c,ao,cap,rfl,h1,⟨h2,hnn⟩,h3⟩:=hv;clear h3 hnn;unfold maxLen at h2;have qT:∀(w:World) (a:Option Addr) (n c n' c':Nat),(binOp .eql 36 (.slice a n c) (.slice none n' c')).run Tryz.prog w=.ok (.bool a.isNone) w:=fun w a n c n' c'=>Lib.run_eql_slice_nil w _ _ a n c n' c' Tryz.underlying36;obtain ⟨i0,hi,hz0,hz1,hz2⟩:=info_parts yyq;have HL:=lh (And.intro hl h1c);clear hl h1c;cases ao with
 | none =>
  obtain ⟨_,_,_,h4⟩:=HV.out.len;obtain ⟨rfl,rfl⟩:=h4 rfl;clear h4;have hcs:cs=[]:=List.eq_nil_of_length_eq_zero (by simpa using HL.out.1);have HCS:=lh hcs;clear hcs
  go_enter Tryz.func68,Tryz.ntmps68
  go_wp2
  go_ret
  refine ⟨_,rfl,?_,bR⟩;rw [HCS.out];exact World.ownsRow_nil _ _ _ _
 | some a =>
  go_enter Tryz.func68,Tryz.ntmps68
  go_wp2_with (at_builtin;refine ya9 _ rfl (.tmp 5) (.tmp 6) 36 rfl w.heap.size 155 i0 (.agg #[iZ,iZ,iZ,iZ,iZ]) 5 40 Tryz.underlying36 hi hz0 hz1 hz2 rfl (by decide) _ 0 [] rfl (yf8 w _) (some a) n cap cs rfl HL.out.1 (fun h=>by cases h) (HV.out.below (yaa bR _)).news HL.out.2 (by unfold maxLen;omega) om (by rw [World.size_alloc];omega) ?_;intro v' w1 hown1 hg1 hn1;clear hn1)
  exact zq1358e8
theorem yyp:(Tryz.prog.info? 65).map (fun i=>(i.zero,i.size,i.bytes))=some (some (.agg #[iZ,iZ,iZ]),3,24):=by kernel_rfl
theorem ypb (v:Value) (n:Nat) (cs:List Value) (w:World) (hv:Fl 3 n w v cs) (hn:n≤100000) :
 Calls Tryz.prog 80 #[v] w (yh0 65 3 n cs w):= by
 have HV:=lh hv;obtain ⟨hl,h1c,ao,cap,rfl,h1,⟨h2,hnn⟩,h3⟩:=hv;clear h3 hnn;unfold maxLen at h2;have qT:∀(w:World) (a:Option Addr) (n c n' c':Nat),(binOp .eql 41 (.slice a n c) (.slice none n' c')).run Tryz.prog w=.ok (.bool a.isNone) w:=fun w a n c n' c'=>Lib.run_eql_slice_nil w _ _ a n c n' c' Tryz.underlying41;obtain ⟨i0,hi,hz0,hz1,hz2⟩:=info_parts yyp;have HL:=lh (And.intro hl h1c);clear hl h1c;cases ao with
 | none =>
  obtain ⟨_,_,_,h4⟩:=HV.out.len;obtain ⟨rfl,rfl⟩:=h4 rfl;clear h4;have hcs:cs=[]:=List.eq_nil_of_length_eq_zero (by simpa using HL.out.1);have HCS:=lh hcs;clear hcs
  go_enter Tryz.func80,Tryz.ntmps80
  go_wp2
  go_ret
  refine ⟨_,rfl,?_,bR⟩;rw [HCS.out];exact World.ownsRow_nil _ _ _ _
 | some a =>
  go_enter Tryz.func80,Tryz.ntmps80
  go_wp2_with (at_builtin;refine ya9 _ rfl (.tmp 5) (.tmp 6) 41 rfl w.heap.size 65 i0 (.agg #[iZ,iZ,iZ]) 3 24 Tryz.underlying41 hi hz0 hz1 hz2 rfl (by decide) _ 0 [] rfl (yf8 w _) (some a) n cap cs rfl HL.out.1 (fun h=>by cases h) (HV.out.below (yaa bR _)).news HL.out.2 (by unfold maxLen;omega) om (by rw [World.size_alloc];omega) ?_;intro v' w1 hown1 hg1 hn1;clear hn1)
  exact zq1358e8
theorem yzd:(Tryz.prog.info? 175).map (fun i=>(i.zero,i.size,i.bytes))=some (some (.agg #[iZ,iZ,iZ,iZ,iZ,iZ,iZ,iZ,iZ]),9,72):=by kernel_rfl
theorem yrf (v:Value) (n:Nat) (cs:List Value) (w:World) (hv:Fl 9 n w v cs) (hn:n≤100000) :
 Calls Tryz.prog 82 #[v] w (yh0 175 9 n cs w):= by
 have HV:=lh hv;obtain ⟨hl,h1c,ao,cap,rfl,h1,⟨h2,hnn⟩,h3⟩:=hv;clear h3 hnn;unfold maxLen at h2;have qT:∀(w:World) (a:Option Addr) (n c n' c':Nat),(binOp .eql 87 (.slice a n c) (.slice none n' c')).run Tryz.prog w=.ok (.bool a.isNone) w:=fun w a n c n' c'=>Lib.run_eql_slice_nil w _ _ a n c n' c' Tryz.underlying87;obtain ⟨i0,hi,hz0,hz1,hz2⟩:=info_parts yzd;have HL:=lh (And.intro hl h1c);clear hl h1c;cases ao with
 | none =>
  obtain ⟨_,_,_,h4⟩:=HV.out.len;obtain ⟨rfl,rfl⟩:=h4 rfl;clear h4;have hcs:cs=[]:=List.eq_nil_of_length_eq_zero (by simpa using HL.out.1);have HCS:=lh hcs;clear hcs
  go_enter Tryz.func82,Tryz.ntmps82
  go_wp2
  go_ret
  refine ⟨_,rfl,?_,bR⟩;rw [HCS.out];exact World.ownsRow_nil _ _ _ _
 | some a =>
  go_enter Tryz.func82,Tryz.ntmps82
  go_wp2_with (at_builtin;refine ya9 _ rfl (.tmp 5) (.tmp 6) 87 rfl w.heap.size 175 i0 (.agg #[iZ,iZ,iZ,iZ,iZ,iZ,iZ,iZ,iZ]) 9 72 Tryz.underlying87 hi hz0 hz1 hz2 rfl (by decide) _ 0 [] rfl (yf8 w _) (some a) n cap cs rfl HL.out.1 (fun h=>by cases h) (HV.out.below (yaa bR _)).news HL.out.2 (by unfold maxLen;omega) om (by rw [World.size_alloc];omega) ?_;intro v' w1 hown1 hg1 hn1;clear hn1)
  exact zq1358e8
theorem yl7:(Tryz.prog.info? 43).map (fun i=>(i.zero,i.size,i.bytes))=some (some (.agg #[iZ,iZ,iZ,iZ,sZ,iZ,iZ,iZ,.bool false]),9,88):=by kernel_rfl
theorem yrg (v:Value) (n:Nat) (cs:List Value) (w:World) (hv:Fl 9 n w v cs) (hn:n≤100000) :
 Calls Tryz.prog 83 #[v] w (yh0 43 9 n cs w):= by
 have HV:=lh hv;obtain ⟨hl,h1c,ao,cap,rfl,h1,⟨h2,hnn⟩,h3⟩:=hv;clear h3 hnn;unfold maxLen at h2;have qT:∀(w:World) (a:Option Addr) (n c n' c':Nat),(binOp .eql 61 (.slice a n c) (.slice none n' c')).run Tryz.prog w=.ok (.bool a.isNone) w:=fun w a n c n' c'=>Lib.run_eql_slice_nil w _ _ a n c n' c' Tryz.underlying61;obtain ⟨i0,hi,hz0,hz1,hz2⟩:=info_parts yl7;have HL:=lh (And.intro hl h1c);clear hl h1c;cases ao with
 | none =>
  obtain ⟨_,_,_,h4⟩:=HV.out.len;obtain ⟨rfl,rfl⟩:=h4 rfl;clear h4;have hcs:cs=[]:=List.eq_nil_of_length_eq_zero (by simpa using HL.out.1);have HCS:=lh hcs;clear hcs
  go_enter Tryz.func83,Tryz.ntmps83
  go_wp2
  go_ret
  refine ⟨_,rfl,?_,bR⟩;rw [HCS.out];exact World.ownsRow_nil _ _ _ _
 | some a =>
  go_enter Tryz.func83,Tryz.ntmps83
  go_wp2_with (at_builtin;refine ya9 _ rfl (.tmp 5) (.tmp 6) 61 rfl w.heap.size 43 i0 (.agg #[iZ,iZ,iZ,iZ,sZ,iZ,iZ,iZ,.bool false]) 9 88 Tryz.underlying61 hi hz0 hz1 hz2 rfl (by decide) _ 0 [] rfl (yf8 w _) (some a) n cap cs rfl HL.out.1 (fun h=>by cases h) (HV.out.below (yaa bR _)).news HL.out.2 (by unfold maxLen;omega) om (by rw [World.size_alloc];omega) ?_;intro v' w1 hown1 hg1 hn1;clear hn1)
  exact zq1358e8
structure R5 where
 a:Int
 b:Int
 c:Int
 d:Int
 e:Int
def R5.cells (x:R5):List Value:=[iV x.a,iV x.b,iV x.c,iV x.d,iV x.e]
def yag (l:List R5):List Value:=l.flatMap R5.cells
def yax:R5:=⟨0,0,0,0,0⟩
theorem ybr (a b:List R5):yag (a++b)=yag a++yag b:=by simp [yag]
theorem ye6 (l:List R5):∀c∈yag l,c.oneCell'=true:= by
 intro c hc;simp only [yag,R5.cells,List.mem_flatMap,List.mem_cons,List.not_mem_nil,or_false] at hc;obtain ⟨x,_,rfl | rfl | rfl | rfl | rfl⟩:=hc <;> rfl
theorem ybf (l:List R5):(yag l).length=l.length*5:= by
 induction l with
 | nil=>rfl
 | cons x l ih =>
  have e:yag (x::l)=x.cells++yag l:=rfl;rw [e,List.length_append,ih,List.length_cons];show 5+_=_;omega
theorem yh9 (l:List R5) (i:Nat) (hi:i<l.length):(yag l)[i*5]?=some (iV (l.getD i yax).a)∧(yag l)[i*5+1]?=some (iV (l.getD i yax).b)∧(yag l)[i*5+2]?=some (iV (l.getD i yax).c)∧(yag l)[i*5+3]?=some (iV (l.getD i yax).d)∧(yag l)[i*5+4]?=some (iV (l.getD i yax).e):= by
 induction l generalizing i with
 | nil=>simp at hi
 | cons x l ih =>
  have e:yag (x::l)=iV x.a::iV x.b::iV x.c::iV x.d::iV x.e::yag l:=rfl;rw [e];cases i with
  | zero=>simp
  | succ i =>
   have h:=ih i (by simpa using hi);have e1:(i+1)*5=i*5+1+1+1+1+1:=by omega
   rw [e1]
   simpa using h
theorem yjv (l:List R5) (k:Nat):(yag l).drop (k*5)=yag (l.drop k):= by
 induction k generalizing l with
 | zero=>simp
 | succ k ih =>
  cases l with
  | nil=>simp [yag]
  | cons x l =>
   have e:yag (x::l)=iV x.a::iV x.b::iV x.c::iV x.d::iV x.e::yag l:=rfl;have e1:(k+1)*5=k*5+1+1+1+1+1:=by omega
   rw [e,e1]
   simpa using ih l
theorem ykk (l:List R5) (k:Nat):(yag l).take (k*5)=yag (l.take k):= by
 induction k generalizing l with
 | zero=>simp [yag]
 | succ k ih =>
  cases l with
  | nil=>simp [yag]
  | cons x l =>
   have e:yag (x::l)=iV x.a::iV x.b::iV x.c::iV x.d::iV x.e::yag l:=rfl;have e2:yag ((x::l).take (k+1))=iV x.a::iV x.b::iV x.c::iV x.d::iV x.e::yag (l.take k):=rfl;have e1:(k+1)*5=k*5+1+1+1+1+1:=by omega
   rw [e,e1,e2]
   simpa using ih l
def R5S (w:World) (v:Value) (l:List R5):Prop:=Fl 5 l.length w v (yag l)
theorem R5S.below {w w':World} {v:Value} {l:List R5} (h:R5S w v l) (hb:Below w.heap.size w w'):R5S w' v l:=Fl.below h hb
theorem R5S.keep {F:List Nat} {w w':World} {v:Value} {l:List R5} (h:R5S w v l) (hk:yab F w w') (ho:OffF F v):R5S w' v l:=Fl.keep h hk ho
theorem R5S.nil {w:World}:R5S w (sZ) []:=Fl.nil
theorem R5S.shape {w:World} {v:Value} {l:List R5} (h:R5S w v l):∃ao cap,v=.slice ao l.length cap:=Fl.shape h
theorem R5S.get {w:World} {ao:Option Addr} {n cap:Nat} {l:List R5} (h:R5S w (.slice ao n cap) l) {i:Nat} (hi:i<l.length) :
 ∃b o x,ao=some ⟨b,o,none⟩∧(w.cell? ⟨b,o+i*5,none⟩=some (iV x.a)∧w.cell? ⟨b,o+i*5+1,none⟩=some (iV x.b)∧w.cell? ⟨b,o+i*5+2,none⟩=some (iV x.c)∧w.cell? ⟨b,o+i*5+3,none⟩=some (iV x.d)∧w.cell? ⟨b,o+i*5+4,none⟩=some (iV x.e))∧Hid (l.getD i yax=x):= by
 obtain ⟨rfl,_⟩:=Fl.len h;obtain ⟨b,o,rfl,h0⟩:=Fl.at h (i:=i*5) om;obtain ⟨_,_,e1,h1⟩:=Fl.at h (i:=i*5+1) om;obtain ⟨_,_,e2,h2⟩:=Fl.at h (i:=i*5+2) om;obtain ⟨_,_,e3,h3⟩:=Fl.at h (i:=i*5+3) om;obtain ⟨_,_,e4,h4⟩:=Fl.at h (i:=i*5+4) om;cases e1;cases e2;cases e3;cases e4;obtain ⟨g0,g1,g2,g3,g4⟩:=yh9 l i hi;refine ⟨b,o,l.getD i yax,rfl,⟨h0.trans g0,?_,?_,?_,?_⟩,rfl⟩
 ·rw [Nat.add_assoc];exact h1.trans g1
 ·rw [Nat.add_assoc];exact h2.trans g2
 ·rw [Nat.add_assoc];exact h3.trans g3
 ·rw [Nat.add_assoc];exact h4.trans g4
theorem R5S.of_own {w:World} {base:Nat} {e:TypeId} {v:Value} {n:Nat} {l:List R5} (h:w.ownsRow base e 5 v n (yag l)) (hn:l.length=n):R5S w v l:= by
 subst hn;exact Fl.of_own h (ye6 l)
def yej (first due:Int):List R5→Int→Int×Int
 | [],all=>(all,0)
 | x::l,all=>if x.a=2∧first≤x.b∧x.b≤due then (if x.d<0∨1000000000000000<x.d then (0,5) else yej first due l (min (all+x.d) 1000000000000000)) else yej first due l all
def ylt (n:Nat):Option Value→Nat
 | some (.int _ x)=>(n-x).toNat
 | _=>0
theorem yi0 {k n:Nat} (h:k<n):ylt n (some (iV ((k:Int)+1)))<ylt n (some (iV (k:Int))):= by
 show ((n:Int)-((k:Int)+1)).toNat<((n:Int)-(k:Int)).toNat;omega
theorem yx9 {l:List R5} {k:Nat} {x:R5} (hk:k<l.length) (hx:l.getD k yax=x):l.drop k=x::l.drop (k+1):= by
 rw [List.drop_eq_getElem_cons hk]
 congr 1
 rw [←hx];simp [List.getD,hk]
theorem yxa (first due:Int) (v:Value) (l:List R5) (r:Int×Int) (HR:Hid (yej first due l 0=r)) (w:World) (hv:R5S w v l) :
 Calls Tryz.prog 219 #[iV first,iV due,v] w (RetB (.tuple #[iV r.1,iV r.2]) w):= by
 have HV:=lh hv;obtain ⟨ao,cap,rfl⟩:=hv.shape;have hlen:=(Fl.len hv).2;unfold maxLen at hlen;obtain ⟨hlc,hcm,_⟩:=hlen;clear hv;obtain ⟨r1,r2⟩:=r;simp only
 go_enter Tryz.func219,Tryz.ntmps219
 go_wp2_with fail
 refine yai 0 (fun a' w'=>∃(k:Nat) (all:Int) (u3 u4 u5 u6 u7 u10 u11 u12 u13 u14 u15 u16 u17 u18 u19 u20 u21 u22 u23 u24 u25 u26 u27 u28 u29 u30 u31 u32 u33 u34 u35 u36 u37 u38 u39 u40 u41 u42 u43 u44 u45 u46 u47 u48 u49:Value),a'={ tmps:=#[iV first,iV due,.slice ao l.length cap,u3,u4,u5,u6,u7,iV all,iV (k:Int),u10,u11,u12,u13,u14,u15,u16,u17,u18,u19,u20,u21,u22,u23,u24,u25,u26,u27,u28,u29,u30,u31,u32,u33,u34,u35,u36,u37,u38,u39,u40,u41,u42,u43,u44,u45,u46,u47,u48,u49],defers:=[] }∧(k≤l.length∧0≤all∧all≤1000000000000000)∧Hid (yej first due (l.drop k) all=(r1,r2))∧Hid (Below w.heap.size w w'))
  (fun a' _=>ylt l.length a'.tmps[9]?) rfl ?pass ?first
 case pass =>
  intro a1 w1 hJ J' hJ';obtain ⟨k,all,hJ⟩:=hJ;obtain ⟨u3,hJ⟩:=hJ;obtain ⟨u4,hJ⟩:=hJ;obtain ⟨u5,hJ⟩:=hJ;obtain ⟨u6,hJ⟩:=hJ;obtain ⟨u7,hJ⟩:=hJ;obtain ⟨u10,hJ⟩:=hJ;obtain ⟨u11,hJ⟩:=hJ;obtain ⟨u12,hJ⟩:=hJ;obtain ⟨u13,hJ⟩:=hJ;obtain ⟨u14,hJ⟩:=hJ;obtain ⟨u15,hJ⟩:=hJ;obtain ⟨u16,hJ⟩:=hJ;obtain ⟨u17,hJ⟩:=hJ;obtain ⟨u18,hJ⟩:=hJ;obtain ⟨u19,hJ⟩:=hJ;obtain ⟨u20,hJ⟩:=hJ;obtain ⟨u21,hJ⟩:=hJ;obtain ⟨u22,hJ⟩:=hJ;obtain ⟨u23,hJ⟩:=hJ;obtain ⟨u24,hJ⟩:=hJ;obtain ⟨u25,hJ⟩:=hJ;obtain ⟨u26,hJ⟩:=hJ;obtain ⟨u27,hJ⟩:=hJ;obtain ⟨u28,hJ⟩:=hJ;obtain ⟨u29,hJ⟩:=hJ;obtain ⟨u30,hJ⟩:=hJ;obtain ⟨u31,hJ⟩:=hJ;obtain ⟨u32,hJ⟩:=hJ;obtain ⟨u33,hJ⟩:=hJ;obtain ⟨u34,hJ⟩:=hJ;obtain ⟨u35,hJ⟩:=hJ;obtain ⟨u36,hJ⟩:=hJ;obtain ⟨u37,hJ⟩:=hJ;obtain ⟨u38,hJ⟩:=hJ;obtain ⟨u39,hJ⟩:=hJ;obtain ⟨u40,hJ⟩:=hJ;obtain ⟨u41,hJ⟩:=hJ;obtain ⟨u42,hJ⟩:=hJ;obtain ⟨u43,hJ⟩:=hJ;obtain ⟨u44,hJ⟩:=hJ;obtain ⟨u45,hJ⟩:=hJ;obtain ⟨u46,hJ⟩:=hJ;obtain ⟨u47,hJ⟩:=hJ;obtain ⟨u48,hJ⟩:=hJ;obtain ⟨u49,hJ⟩:=hJ;obtain ⟨rfl,⟨hk,ha1,ha2⟩,HP,HB⟩:=hJ;have HJ:=lh hJ';clear hJ'
  by_cases hkl:k=l.length
  ·subst hkl
   have HP2:Hid (all=r1∧0=r2):= by
    have h:=HP.out;rw [List.drop_of_length_le (Nat.le_refl _)] at h;injection h with h1 h2
    exact ⟨h1,h2⟩
   go_wp2_with fail
   simp only [Exit.jump]
   go_ret2
   exact ⟨by rw [←HP2.out.1,←HP2.out.2];rfl,HB.out⟩
  ·have hlt:k<l.length:=by omega
   have hlt2:(k:Int)<(l.length:Int):=by omega
   have hkne:¬(k:Int)=(l.length:Int):=by omega
   obtain ⟨b,o,x,rfl,⟨c0,c1,c2,c3,c4⟩,HX⟩:=(HV.out.below HB.out).get hlt
   have HST:Hid ((if x.a=2∧first≤x.b∧x.b≤due then (if x.d<0∨1000000000000000<x.d then ((0:Int),(5:Int)) else yej first due (l.drop (k+1)) (min (all+x.d) 1000000000000000)) else yej first due (l.drop (k+1)) all)=(r1,r2)):= by
    have h:=HP.out;rw [yx9 hlt HX.out] at h;exact h
   have hk1:wrap64 ((k:Int)+1)=(k:Int)+1:=IntWalk.wrap64_in _ ⟨by omega,by omega⟩;have HK:=lh (And.intro hlt (And.intro ha1 ha2));obtain ⟨xa,xb,xc,xd,xe⟩:=x;simp only at c0 c1 c2 c3 c4 HST;clear HX hk ha1 ha2
   by_cases c1':xa=2
   ·subst c1'
    by_cases c2':first≤xb
    ·by_cases c3':xb≤due
     ·by_cases c4':xd<0∨1000000000000000<xd
      ·have HR2:Hid (0=r1∧5=r2):= by
        have h:=HST.out;rw [if_pos ⟨rfl,c2',c3'⟩,if_pos c4'] at h;injection h with h1 h2
        exact ⟨h1,h2⟩
       clear HST hlt;rcases c4' with c4' | c4'
       ·exact zq13326f
       ·have c5':¬xd<0:=by omega
        exact zq13326f
      ·obtain ⟨mn,hmn⟩:∃mn,min (all+xd) 1000000000000000=mn:=⟨_,rfl⟩
       have HST2:Hid (yej first due (l.drop (k+1)) mn=(r1,r2)):= by
        have h:=HST.out;rw [if_pos ⟨rfl,c2',c3'⟩,if_neg c4',hmn] at h;exact h
       have c5':¬xd<0:=by omega
       have c6':¬1000000000000000<xd:=by omega
       have hs:wrap64 (all+xd)=all+xd:=IntWalk.wrap64_in _ ⟨by have:=HK.out;omega,by have:=HK.out;omega⟩;have HC:=lh (And.intro c5' (And.intro c6' hmn));clear HST hlt c4'
       go_wp2_with fail
       ·have HST3:Hid (yej first due (l.drop (k+1)) 1000000000000000=(r1,r2)):= by
         have h:=HST2.out
         rwa [show mn=1000000000000000 by have:=HC.out.2.2;omega] at h
        go_step3
        exact ⟨rfl,HJ.out _ _ ⟨k+1,1000000000000000,_,_,_,_,_,_,_,_,_,_,_,_,_,_,_,_,_,_,_,_,_,_,_,_,_,_,_,_,_,_,_,_,_,_,_,_,_,_,_,_,_,_,_,_,_,rfl,⟨by have:=HK.out;omega,by omega,by omega⟩,HST3,yaa HB.out _⟩ (yi0 HK.out.1)⟩
       ·have HST3:Hid (yej first due (l.drop (k+1)) (all+xd)=(r1,r2)):= by
         have h:=HST2.out
         rwa [show mn=all+xd by have:=HC.out.2.2;omega] at h
        clear hs
        go_step3
        exact ⟨rfl,HJ.out _ _ ⟨k+1,all+xd,_,_,_,_,_,_,_,_,_,_,_,_,_,_,_,_,_,_,_,_,_,_,_,_,_,_,_,_,_,_,_,_,_,_,_,_,_,_,_,_,_,_,_,_,_,rfl,⟨by have:=HK.out;omega,by have:=HK.out;omega,by omega⟩,HST3,yaa HB.out _⟩ (yi0 HK.out.1)⟩
     ·have HST2:Hid (yej first due (l.drop (k+1)) all=(r1,r2)):= by
       have h:=HST.out
       rwa [if_neg (fun h=>c3' h.2.2)] at h
      exact zq1318d7
    ·have HST2:Hid (yej first due (l.drop (k+1)) all=(r1,r2)):= by
      have h:=HST.out
      rwa [if_neg (fun h=>c2' h.2.1)] at h
     exact zq1318d7
   ·have HST2:Hid (yej first due (l.drop (k+1)) all=(r1,r2)):= by
     have h:=HST.out
     rwa [if_neg (fun h=>c1' h.1)] at h
    exact zq1318d7
 case first =>
  intro J' hJJ hrest;have HRE:=lh hrest;clear hJJ hrest
  go_wp2_with fail
  go_step3
  go_step
  go_step
  exact HRE.out _ _ ⟨0,0,_,_,_,_,_,_,_,_,_,_,_,_,_,_,_,_,_,_,_,_,_,_,_,_,_,_,_,_,_,_,_,_,_,_,_,_,_,_,_,_,_,_,_,_,_,rfl,⟨by omega,by omega,by omega⟩,HR.out,bR⟩
def hasR (owed first due:Int) (l:List R5):Bool×Int:=((yej first due l 0).2 == 0 && (decide (owed≤0) || decide (owed≤(yej first due l 0).1)),(yej first due l 0).2)
theorem yza (owed first due:Int) (v:Value) (l:List R5) (r:Bool×Int) (HR:Hid (hasR owed first due l=r)) (w:World) (hv:R5S w v l) :
 Calls Tryz.prog 183 #[iV owed,iV first,iV due,v] w (RetB (.tuple #[.bool r.1,iV r.2]) w):= by
 obtain ⟨p,hp⟩:∃p,yej first due l 0=p:=⟨_,rfl⟩
 have HP:=lh hp;have hr:=HR.out;unfold hasR at hr;rw [hp] at hr;subst hr;obtain ⟨p1,p2⟩:=p;simp only;obtain ⟨q,hq⟩:∃q,(p2 == 0 && (decide (owed≤0) || decide (owed≤p1)))=q:=⟨_,rfl⟩;have HQ:=lh hq;rw [hq];clear hp hq HR
 go_enter Tryz.func183,Tryz.ntmps183
 go_wp2_with fail
 refine (yxa first due _ l (p1,p2) HP _ hv).mono ?_;rintro _ w1 ⟨rfl,hb1⟩;simp only;go_wp2
 all_goals
  go_ret2
  refine ⟨?_,hb1⟩;rw [←HQ.out];simp [*]
end Go.Proofs.YtkongpjpkpfniaaGreat

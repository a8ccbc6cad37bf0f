/- TopPaid: parts of the proof, made small by a program (mini.py). -/
import Derived.Test.YtkongpjpkpfniaaGreatM01
import Derived.Test.YtkongpjpkpfniaaGreatM30
import Derived.Test.YtkongpjpkpfniaaGreatM31
set_option linter.unusedVariables false
set_option linter.unusedSimpArgs false
set_option maxRecDepth 100000
set_option maxHeartbeats 6400000
namespace Go.Proofs.YtkongpjpkpfniaaGreat
open Go.RowKit
theorem yiq {P:Program} {a:Act} {w:World} {Q:Exit→Act→World→Prop} {c R0 R1:Code} (l0 l1:Nat) (hne:l0≠l1) (J0 J1:Act→World→Prop) (μ1:Act→World→Nat)
 (hf0:findLabel c l0=some (Code.seq .skip R0)) (hf1:findLabel c l1=some (Code.seq .skip R1))
 (pass0:∀a w,J0 a w→∀J':Nat→Act→World→Prop,R0.wp P (ydu J' Q) a w)
 (pass1:∀a w,J1 a w→∀J':Nat→Act→World→Prop,(∀a' w',J0 a' w'→J' l0 a' w')→(∀a' w',J1 a' w'→μ1 a' w'<μ1 a w→J' l1 a' w')→R1.wp P (ydu J' Q) a w)
 (first:∀J':Nat→Act→World→Prop,(∀a w,J0 a w→J' l0 a w)→(∀a w,J1 a w→R1.wp P (ydu J' Q) a w)→c.wp P (ydu J' Q) a w):(Code.scope c).wp P Q a w:= by
 refine yi5 (fun l a w=>(l=l0∧J0 a w)∨(l=l1∧J1 a w)) (fun l a w=>if l=l0 then 0 else μ1 a w+1) (fun l=>if l=l0 then R0 else R1) ?_ ?_ ?_
 ·intro l a w hJ
  rcases hJ with ⟨rfl,_⟩ | ⟨rfl,_⟩
  ·rw [if_pos rfl];exact hf0
  ·rw [if_neg (Ne.symm hne)];exact hf1
 ·intro l a w hJ J' h1 h2
  rcases hJ with ⟨rfl,hJ⟩ | ⟨rfl,hJ⟩
  ·rw [if_pos rfl]
   exact pass0 a w hJ J'
  ·rw [if_neg (Ne.symm hne)]
   exact pass1 a w hJ J' (fun a' w' h3=>h1 _ a' w' (.inl ⟨rfl,h3⟩) (by rw [if_pos rfl,if_neg (Ne.symm hne)];exact Nat.succ_pos _)) (fun a' w' h3 h4=>h1 _ a' w' (.inr ⟨rfl,h3⟩) (by rw [if_neg (Ne.symm hne),if_neg (Ne.symm hne)];exact Nat.succ_lt_succ h4))
 ·intro J' hJ hrest
  refine first J' (fun a w h=>hJ _ a w (.inl ⟨rfl,h⟩)) (fun a w h=>?_)
  have:=hrest l1 a w (.inr ⟨rfl,h⟩)
  rwa [if_neg (Ne.symm hne)] at this
theorem yqi (l:List (Int×Int)) (i:Nat) (hi:i<l.length):(yby l)[i*2]?=some (iV (l.getD i (0,0)).1)∧(yby l)[i*2+1]?=some (iV (l.getD i (0,0)).2):= by
 induction l generalizing i with
 | nil=>simp at hi
 | cons x l ih =>
  have e:yby (x::l)=iV x.1::iV x.2::yby l:=rfl;rw [e];cases i with
  | zero=>simp
  | succ i =>
   have h:=ih i (by simpa using hi);have e1:(i+1)*2=i*2+1+1:=by omega
   rw [e1]
   simpa using h
theorem yuw {w:World} {ao:Option Addr} {n cap:Nat} {ps:List (Int×Int)} (h:Fl 2 ps.length w (.slice ao n cap) (yby ps)) {i:Nat} (hi:i<ps.length) :
 ∃b o x y,ao=some ⟨b,o,none⟩∧(w.cell? ⟨b,o+i*2,none⟩=some (iV x)∧w.cell? ⟨b,o+i*2+1,none⟩=some (iV y))∧ps.getD i (0,0)=(x,y):= by
 obtain ⟨rfl,_⟩:=h.len;obtain ⟨b,o,rfl,h0⟩:=h.at (i:=i*2) om;obtain ⟨_,_,e1,h1⟩:=h.at (i:=i*2+1) om;cases e1;obtain ⟨g0,g1⟩:=yqi ps i hi;exact ⟨b,o,_,_,rfl,⟨h0.trans g0,by rw [Nat.add_assoc];exact h1.trans g1⟩,rfl⟩
theorem yc8 {W:World} {a b o i:Nat} {x v:Value} (h:W.cell? ⟨a,o,none⟩=some x) (hne:a≠b):(W.setCell ⟨b,i,none⟩ v).cell? ⟨a,o,none⟩=some x :=
 (World.cell?_of_block (w:=W) (a:=⟨a,o,none⟩) (heap_setCell_other W ⟨b,i,none⟩ a v (fun e=>hne e))).trans h
theorem Rd.off {F:List Nat} {W W':World} {b:Nat} {φ:World→Prop} (h:Rd F W φ) (hs:∀W1 W2,yab [b] W1 W2→φ W1→φ W2) (hk:yab [b] W W') (hb:b<W.heap.size):Rd F W' φ:=fun W2 h2=>by
 have e0:W.heap[b]?=some (W.heap[b]'hb):=Array.getElem?_eq_getElem hb;have hsz:W.heap.size≤W2.heap.size:=Nat.le_trans hk.size h2.size
 let W3:World:={ W2 with heap:=W2.heap.setIfInBounds b (W.heap[b]'hb) }
 have h3:yab F W W3:=⟨h2.os.trans hk.os,h2.tape.trans hk.tape,h2.output.trans hk.output,by show _≤(W2.heap.setIfInBounds b _).size;simpa using hsz,fun k hk1 hk2=>by
  show (W2.heap.setIfInBounds b _)[k]?=_
  by_cases e:b=k
  ·subst e
   rw [Array.getElem?_setIfInBounds,if_pos rfl,if_pos om,e0]
  ·rw [Array.getElem?_setIfInBounds,if_neg e,h2.block k (Nat.lt_of_lt_of_le hk1 hk.size) hk2,hk.block k hk1 (by simp only [ms];exact fun c=>e c.symm)]⟩
 refine hs W3 W2 ⟨rfl,rfl,rfl,by show (W2.heap.setIfInBounds b _).size≤_;simp,fun k _ hk2=>?_⟩ (h W3 h3);show _=(W2.heap.setIfInBounds b _)[k]?;rw [Array.getElem?_setIfInBounds,if_neg (by simp only [ms] at hk2;exact fun c=>hk2 c.symm)]
theorem ydg.off {F:List Nat} {W W':World} {lo b0:Nat} {v:Value} {X:List (List Int)} {b:Nat} {xs:List Value} (h:ydg F W lo v X b xs) (hlt:∀x∈F,lo≤x) (hk:yab [b0] W W') (hb:b0<lo):ydg F W' lo v X b xs :=
 ⟨h.val,h.blk.keep hk (by simp only [ms];have:=hlt b h.bF;omega),h.len,fun k hk'=>yap (h.rows k hk') hk (fun q hq=>by simp only [ms];have:=hlt q (h.inF k hk' q hq);omega),h.bF,h.inF⟩
theorem yb2.off {lo g:Nat} {t:Tm} {l:List R5} {day:Int} {s:RS} {F:List Nat} {W W':World} {V:RV} {b:Nat} (h:yb2 lo g t l day s F W V) (hb:b+1=lo) (hk:yab [b] W W'):yb2 lo g t l day s F W' V:= by
 have hlt:∀x∈F,lo≤x:=fun x hx=>(h.lt x hx).1;have hg:=h.lt g h.gF;have eb:lo-1=b:=by omega
 have hbw:b<W.heap.size:=by omega
 have hH:∀v,Hi lo v→OffF [b] v:=fun v hv b' o n c e hn hm=>by
  have h1:=hv b' o n c e hn;simp only [ms] at hm;omega
 have hO1:=h.hi.2.2.2.1;have hO2:=h.hi.2.2.2.2;rw [eb] at hO1 hO2
 refine ⟨h.blk.keep hk (by simp only [ms];omega),h.gF,fun x hx=>⟨(h.lt x hx).1,Nat.lt_of_lt_of_le (h.lt x hx).2 hk.size⟩,h.rd.off (fun W1 W2 hk1 k=>⟨k.1.keep hk1 hO1,k.2.1.keep hk1 hO2,k.2.2.1.keep hk1 (hH _ h.hi.1),k.2.2.2.1.keep hk1 (hH _ h.hi.2.1),k.2.2.2.2.keep hk1 (fun v hv=>hH v (h.hi.2.2.1 v hv))⟩) hk hbw,
  h.X.off hlt hk om,h.Y.off hlt hk om,h.ne,h.dx,h.dy,h.dxy,yap h.out hk (fun q hq=>by simp only [ms];have:=hlt q (h.outF q hq);omega),h.outF,h.hi⟩
theorem yva (n:Nat) (hn:n≤1000) (w:World):(Instr.makeSlice 33 (iV (n:Int)) (iV (n:Int))).run Tryz.prog w=.ok (.slice (some ⟨w.heap.size,0,none⟩) n n) (w.alloc (.cells (Array.replicate n (iZ)) 2)):= by
 obtain ⟨i0,hi,hz0,hz1,hz2⟩:=info_parts yfa;have h:=run_make (P:=Tryz.prog) w 33 2 i0 (iZ) Tryz.underlying33 hi hz0 .i64 .i64 n n om (Int.le_refl _) (by rw [hz2];omega) om;rw [h]
 have e:madeCells (iZ).cells ((n:Int).toNat*i0.size)=Array.replicate n (iZ):= by
  rw [hz1,Nat.mul_one,Int.toNat_natCast];exact Array.ext' (by rw [show (iZ).cells=#[iZ] from rfl,toList_madeCells_one];simp)
 rw [e];simp
theorem Fl.blt {m n:Nat} {w:World} {v:Value} {cs:List Value} (h:Fl m n w v cs) (hm:0<m) {b o k c:Nat} (e:v=.slice (some ⟨b,o,none⟩) k c) (hk:0<k):b<w.heap.size:= by
 subst e;obtain ⟨rfl,_⟩:=h.len;have hp:=Nat.mul_pos hk hm;obtain ⟨b',o',e2,hc⟩:=h.at (i:=0) hp;cases e2;rw [List.getElem?_eq_getElem (by rw [h.1];exact hp)] at hc;exact yac hc
theorem TrS.keepW {w w1 w2:World} {v:Value} {l:List (Int×Bool)} {G:Nat} (h:TrS w v l) (hb:Below w.heap.size w w1) (hk:yab [G] w1 w2) (hG:w.heap.size≤G):TrS w2 v l :=
 (h.below hb).keep hk (Fl.offNew h.fl om (fun x hx=>by simp only [ms] at hx;omega))
def yz7 (R:Rn) (w:World) (e:Ending) (w':World):Prop :=
 ∃pv rv ov vs,e=.returned (.tuple #[.agg #[pv,iV R.p.c,iV R.p.d],rv,ov,iV R.e])∧Sl .i64 w' pv R.p.bs∧Sl .i64 w' rv R.rs∧StV w' ov R.out vs∧(Fr w pv∧Fr w rv∧Fr w ov∧∀v∈vs,Fr w v)∧Below w.heap.size w w'
def jau (a:Act) (w:World):Option Value:=match (a.tmps[14]?:Option Value) with
 | some (Value.pointer (some p))=>w.cell? ⟨p.block,9,none⟩
 | _=>none
def yul (today:Int):Option Value→Nat
 | some (.int _ d)=>(today-d).toNat
 | _=>0
def rnOf (G:RS×Int):Rn:=if G.2≠0 then rn0 G.2 else ⟨G.1.p,G.1.rs,G.1.out,0⟩
theorem ywi {t:Tm} {l:List R5} {ps:List (Int×Int)} {n:Nat} {day:Int} {s:RS} (h:(ybh l day s).2≠0):ycm t l ps n day s=ybh l day s:= by
 cases n with
 | zero=>rfl
 | succ n=>unfold ycm;rw [if_pos h]
theorem yvo {t:Tm} {l:List R5} {ps:List (Int×Int)} {n:Nat} {day:Int} {s:RS} (h0:(ybh l day s).2=0) (h:(ybb t l ps day (ybh l day s).1).2≠0):ycm t l ps (n+1) day s=ybb t l ps day (ybh l day s).1:= by
 rw [ycm,if_neg (by rw [h0];simp),if_pos h]
theorem yyg {t:Tm} {l:List R5} {ps:List (Int×Int)} {n:Nat} {day:Int} {s:RS} (h0:(ybh l day s).2=0) (h:(ybb t l ps day (ybh l day s).1).2=0):ycm t l ps (n+1) day s=ycm t l ps n (day+1) (ybb t l ps day (ybh l day s).1).1:= by
 rw [ycm,if_neg (by rw [h0];simp),if_neg (by rw [h];simp)]
end Go.Proofs.YtkongpjpkpfniaaGreat

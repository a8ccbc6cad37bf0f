/- TopTicks: parts of the proof, made small by a program (mini.py). -/
import Derived.Deep.RegionHeld
import Derived.OrdersHeld
import Derived.OrdersIn
import Derived.RangeFuncBound
import Derived.RangeFuncCalls
import Derived.RangeFuncLeaves
import Derived.RangeFuncWrites
import Derived.LoopIn
import Derived.LoopNIn
import Derived.OwnWalkIn
import Derived.RangeFuncNested
import Derived.Shelf.Abstract
import Derived.Shelf.RegionOpen
import Derived.TacticsInMore
import Derived.Test.YtkongpjpkpfniaaGreatT01
import Derived.Test.YtkongpjpkpfniaaGreatT08
import Derived.Test.YtkongpjpkpfniaaGreatT09
set_option linter.unusedVariables false
set_option linter.unusedSimpArgs false
set_option maxRecDepth 100000
set_option maxHeartbeats 6400000
namespace Go.Proofs.YtkongpjpkpfniaaGreat
open Go.RowKit
theorem zq10137a {q:Prop} (h:q:= by
 subst hji;exact hy.wpOp hi trivial ⟨fun hp=>hS (by rw [getD_set_ne true (Ne.symm hpi)] at hp;exact hp),H⟩):q:=h
theorem zq10af5a {q:Prop} (h:q:= by
 subst hji;exact hy.wpOp hi hT ⟨⟨fun hp=>hS (by rw [getD_set_ne true (Ne.symm hpi)] at hp;exact hp),hT⟩,H⟩):q:=h
section
variable {P:Program} {ops:Array Oper} {Q:Exit->Act->World->Prop} {md:Region.Mode} {S:World->Prop} {p:Nat}
def ycg (P:Program) (md:Region.Mode) (ops:Array Oper) (Q:Exit->Act->World->Prop) (S:World->Prop) (p:Nat):Nat->Array Bool->Act->World->Prop
 | 0,listed,a,w=>Region.ready md ops listed=[]/\Q .normal a w
 | fuel+1,listed,a,w =>
  (Region.ready md ops listed=[]->Q .normal a w) /\
  ∀i∈Region.ready md ops listed,wpOp P ops Q i (fun a' w'=>((listed.setIfInBounds i true).getD p true=false->S w')/\ycg P md ops Q S p fuel (listed.setIfInBounds i true) a' w') a w
theorem yes:∀(fuel:Nat) (listed:Array Bool) (a:Act) (w:World),ycg P md ops Q S p fuel listed a w->wpAny P md ops Q fuel listed a w
 | 0,_,_,_,h=>h
 | fuel+1,_,_,_,h=>⟨h.1,fun i hi=>wpOp_mono (fun a' w' h'=>yes fuel _ a' w' h'.2) (h.2 i hi)⟩
def yp7 (md:Region.Mode) (ops:Array Oper) (p i:Nat):Bool:=((ops[p]?).map (·.after.any fun e=>e.on == i && Region.binds md e)).getD false
theorem ylc {p i:Nat} (h:yp7 md ops p i=true):∃o,ops[p]?=some o/\∃e∈o.after,e.on=i/\Region.binds md e=true:= by
 unfold yp7 at h;cases ho:ops[p]? with
 | none=>rw [ho] at h;cases h
 | some o =>
  rw [ho] at h;simp only [Option.map_some,Option.getD_some,Array.any_eq_true'] at h;obtain ⟨e,he,h2⟩:=h;simp at h2;exact ⟨o,rfl,e,he,h2.1,h2.2⟩
theorem yo5 {i:Nat} {oi:Oper} {v:Value} (hi:ops[i]?=some oi) (hsel:∀(j:Nat) (o:Oper) cs b,ops[j]?=some o->o.op≠.select cs b)
 (hQ:∀c a w,Q (.panic c) (a.put oi.dst v) w->Q (.panic c) a w) (hw:yp7 md ops p i=true) :
 ∀(fuel:Nat) (listed:Array Bool) (a:Act) (w:World),
  (∀j oj,ops[j]?=some oj->j≠i->listed.getD j true=false->(∀e∈oj.after,Region.binds md e=true->e.on≠i)->oi.apart ops oj=true) ->
  i∈Region.ready md ops listed->listed.getD p true=false->YieldsIf P ops S oi v a->S w ->
  ycg P md ops Q S p fuel (listed.setIfInBounds i true) (a.put oi.dst v) w->ycg P md ops Q S p (fuel+1) listed a w:= by
 obtain ⟨op,hop,e0,he0,hon,hbind⟩:=ylc hw
 have hpi:∀{l:Array Bool} {j:Nat},l.getD i true=false->j∈Region.ready md ops l->j≠p:=fun {l j} hl hj e=>by
  subst e;obtain ⟨_,oj,hoj,hall⟩:=mem_ready.1 hj;rw [hop] at hoj;cases hoj;have h1:=hall e0 he0 hbind;rw [hon] at h1;rcases Nat.lt_or_ge i l.size with h' | h'
  ·simp [h'] at hl h1;rw [hl] at h1;cases h1
  ·simp [Array.getElem?_eq_none h'] at h1
 intro fuel
 induction fuel with
 | zero =>
  intro listed a w _ hr hpu hy hS H;refine ⟨fun h=>(by rw [h] at hr;cases hr),fun j hj=>?_⟩
  by_cases hji:j=i
  ·subst hji;exact hy.wpOp hi hS ⟨fun _=>hS,H⟩
  ·have:=ready_mono hj hji
   rw [H.1] at this;cases this
 | succ fuel ih =>
  intro listed a w hfree hr hpu hy hS H;refine ⟨fun h=>(by rw [h] at hr;cases hr),fun j hj=>?_⟩
  by_cases hji:j=i
  ·subst hji;exact hy.wpOp hi hS ⟨fun _=>hS,H⟩
  ·have h1:=H.2 j (ready_mono hj hji)
   obtain ⟨hjun,oj,hoj,hall⟩:=mem_ready.1 hj
   have hnot:∀e∈oj.after,Region.binds md e=true->e.on≠i:=fun e he hb heq=>by
    have h1:=hall e he hb;have h0:=(mem_ready.1 hr).1;rw [heq] at h1;rcases Nat.lt_or_ge i listed.size with h' | h'
    ·simp [h'] at h0 h1;rw [h0] at h1;cases h1
    ·simp [Array.getElem?_eq_none h'] at h1
   have h2:=wpOp_putIf hoj (hfree j oj hoj hji hjun hnot) (fun cs b=>hsel i oi cs b hi) (fun cs b=>hsel j oj cs b hoj) hQ hy h1
   have hfree':∀k ok,ops[k]?=some ok->k≠i->(listed.setIfInBounds j true).getD k true=false ->
    (∀e∈ok.after,Region.binds md e=true->e.on≠i)->oi.apart ops ok=true:=fun k ok hk hki hun hno=>by
    refine hfree k ok hk hki ?_ hno
    by_cases hjk:j=k
    ·subst hjk;exact hjun
    ·rw [getD_set_ne true hjk] at hun;exact hun
   have hjp:=hpi (mem_ready.1 hr).1 hj
   have hps:((listed.setIfInBounds i true).setIfInBounds j true).getD p true=false:= by
    rw [getD_set_ne true hjp,getD_set_ne true (fun e=>hpi (mem_ready.1 hr).1 hr e)];exact hpu
   refine wpOp_mono (fun a' w' h3=>⟨fun _=>h3.2.1 hps,ih (listed.setIfInBounds j true) a' w' hfree' (ready_mono hr (Ne.symm hji)) (by rw [getD_set_ne true hjp];exact hpu) h3.1 (h3.2.1 hps) ?_⟩) h2;rw [Array.setIfInBounds_comm _ _ hji];exact h3.2.2
theorem yea {i:Nat} {oi:Oper} {v:Value} {fuel:Nat} {listed:Array Bool} {a:Act} {w:World} (hi:ops[i]?=some oi)
 (hs:Region.noSelect ops=true) (hf:Region.free md ops listed i=true) (hr:(Region.ready md ops listed).contains i=true) (hw:yp7 md ops p i=true) (hp:listed.getD p true=false)
 (hQ:∀c a w,Q (.panic c) (a.put oi.dst v) w->Q (.panic c) a w) (hy:YieldsIf P ops S oi v a) (hS:S w)
 (h:ycg P md ops Q S p fuel (listed.setIfInBounds i true) (a.put oi.dst v) w):ycg P md ops Q S p (fuel+1) listed a w :=
 yo5 hi (Region.noSelect_spec hs) hQ hw fuel listed a w (Region.free_spec hi hf) (by simpa using hr) hp hy hS h
theorem yl4 {i:Nat} {oi:Oper} {v:Value} (hi:ops[i]?=some oi) (hsel:∀(j:Nat) (o:Oper) cs b,ops[j]?=some o->o.op≠.select cs b)
 (hQ:∀c a w,Q (.panic c) (a.put oi.dst v) w->Q (.panic c) a w) (hpi:p≠i) :
 ∀(fuel:Nat) (listed:Array Bool) (a:Act) (w:World),
  (∀j oj,ops[j]?=some oj->j≠i->listed.getD j true=false->(∀e∈oj.after,Region.binds md e=true->e.on≠i)->oi.apart ops oj=true) ->
  i∈Region.ready md ops listed->YieldsIf P ops (fun _=>True) oi v a->(listed.getD p true=false->S w) ->
  ycg P md ops Q S p fuel (listed.setIfInBounds i true) (a.put oi.dst v) w->ycg P md ops Q S p (fuel+1) listed a w:= by
 intro fuel
 induction fuel with
 | zero =>
  intro listed a w _ hr hy hS H;refine ⟨fun h=>(by rw [h] at hr;cases hr),fun j hj=>?_⟩
  by_cases hji:j=i
  ·exact zq10137a
  ·have:=ready_mono hj hji
   rw [H.1] at this;cases this
 | succ fuel ih =>
  intro listed a w hfree hr hy hS H;refine ⟨fun h=>(by rw [h] at hr;cases hr),fun j hj=>?_⟩
  by_cases hji:j=i
  ·exact zq10137a
  ·have h1:=H.2 j (ready_mono hj hji)
   obtain ⟨hjun,oj,hoj,hall⟩:=mem_ready.1 hj
   have hnot:∀e∈oj.after,Region.binds md e=true->e.on≠i:=fun e he hb heq=>by
    have h1:=hall e he hb;have h0:=(mem_ready.1 hr).1;rw [heq] at h1;rcases Nat.lt_or_ge i listed.size with h' | h'
    ·simp [h'] at h0 h1;rw [h0] at h1;cases h1
    ·simp [Array.getElem?_eq_none h'] at h1
   have h2:=wpOp_putIf hoj (hfree j oj hoj hji hjun hnot) (fun cs b=>hsel i oi cs b hi) (fun cs b=>hsel j oj cs b hoj) hQ hy h1
   have hfree':∀k ok,ops[k]?=some ok->k≠i->(listed.setIfInBounds j true).getD k true=false ->
    (∀e∈ok.after,Region.binds md e=true->e.on≠i)->oi.apart ops ok=true:=fun k ok hk hki hun hno=>by
    refine hfree k ok hk hki ?_ hno
    by_cases hjk:j=k
    ·subst hjk;exact hjun
    ·rw [getD_set_ne true hjk] at hun;exact hun
   refine wpOp_mono (fun a' w' h3=>?_) h2
   have hps:(listed.setIfInBounds j true).getD p true=false->S w':=fun hp=>h3.2.1 (by
    rw [Array.setIfInBounds_comm _ _ (Ne.symm hji),getD_set_ne true (Ne.symm hpi)];exact hp)
   refine ⟨hps,ih (listed.setIfInBounds j true) a' w' hfree' (ready_mono hr (Ne.symm hji)) h3.1 hps ?_⟩;rw [Array.setIfInBounds_comm _ _ hji];exact h3.2.2
theorem yd0 {i:Nat} {oi:Oper} {v:Value} {fuel:Nat} {listed:Array Bool} {a:Act} {w:World} (hi:ops[i]?=some oi)
 (hs:Region.noSelect ops=true) (hf:Region.free md ops listed i=true) (hr:(Region.ready md ops listed).contains i=true) (hp:p≠i)
 (hQ:∀c a w,Q (.panic c) (a.put oi.dst v) w->Q (.panic c) a w) (hy:YieldsIf P ops (fun _=>True) oi v a) (hS:listed.getD p true=false->S w)
 (h:ycg P md ops Q S p fuel (listed.setIfInBounds i true) (a.put oi.dst v) w):ycg P md ops Q S p (fuel+1) listed a w :=
 yl4 hi (Region.noSelect_spec hs) hQ hp fuel listed a w (Region.free_spec hi hf) (by simpa using hr) hy hS h
theorem ysr {i:Nat} {o:Oper} {fuel:Nat} {listed:Array Bool} {a:Act} {w:World} (hr:Region.ready md ops listed=[i]) (ho:ops[i]?=some o)
 (h:∀K':Act->World->Prop,Shut (∀a w,((listed.setIfInBounds i true).getD p true=false->S w)->ycg P md ops Q S p fuel (listed.setIfInBounds i true) a w->K' a w)->if Region.wanted o (yielded ops a.tmps)=true then Oper.wp P o a w K' Q else K' (a.put o.dst undef) w):ycg P md ops Q S p (fuel+1) listed a w:= by
 refine ⟨fun h0=>(by rw [hr] at h0;cases h0),fun j hj=>?_⟩;rw [hr] at hj;obtain rfl:j=i:=by simpa using hj
 exact wpOp_step ho (fun K' hK=>h K' (fun a w hS hW=>hK a w ⟨hS,hW⟩))
def yam (P:Program) (md:Region.Mode) (ops:Array Oper) (Q:Exit->Act->World->Prop) (S:World->Prop) (p:Nat) (fuel:Nat) (listed:Array Bool) (a:Act) (w:World) (rs:List Nat):Prop :=
 ∀i∈rs,wpOp P ops Q i (fun a' w'=>((listed.setIfInBounds i true).getD p true=false->S w')/\ycg P md ops Q S p fuel (listed.setIfInBounds i true) a' w') a w
theorem yam.nil {fuel:Nat} {listed:Array Bool} {a:Act} {w:World}:yam P md ops Q S p fuel listed a w []:=fun _ h=>by cases h
theorem yam.cons {fuel:Nat} {listed:Array Bool} {a:Act} {w:World} {i:Nat} {o:Oper} {rs:List Nat} (ho:ops[i]?=some o)
 (h:∀K':Act->World->Prop,Shut (∀a w,((listed.setIfInBounds i true).getD p true=false->S w)->ycg P md ops Q S p fuel (listed.setIfInBounds i true) a w->K' a w)->if Region.wanted o (yielded ops a.tmps)=true then Oper.wp P o a w K' Q else K' (a.put o.dst undef) w)
 (hs:yam P md ops Q S p fuel listed a w rs):yam P md ops Q S p fuel listed a w (i::rs):=fun j hj=>by
 rcases List.mem_cons.1 hj with rfl | hj
 ·exact wpOp_step ho (fun K' hK=>h K' (fun a w hS hW=>hK a w ⟨hS,hW⟩))
 ·exact hs j hj
theorem ybo {rs:List Nat} {fuel:Nat} {listed:Array Bool} {a:Act} {w:World} (hr:Region.ready md ops listed=rs) (hne:rs≠[])
 (h:yam P md ops Q S p fuel listed a w rs):ycg P md ops Q S p (fuel+1) listed a w :=
 ⟨fun h0=>absurd (hr▸h0) hne,hr▸h⟩
theorem yal {listed:Array Bool} {a:Act} {w:World} (hr:Region.ready md ops listed=[]) (h:Q .normal a w) :
 ∀fuel,ycg P md ops Q S p fuel listed a w
 | 0=>⟨hr,h⟩
 | _+1=>⟨fun _=>h,by rw [hr];simp⟩
theorem yan {id:Nat} {a:Act} {w:World} (S:World->Prop) (p:Nat) (hm:P.follows .mixedOrders=true)
 (h:ycg P .any ops Q S p ops.size (Array.replicate ops.size false) a w.drew):(Code.region id ops true).wp P Q a w :=
 wp_region_any hm (yes _ _ _ _ h)
end
section
variable {P:Program} {ops:Array Oper} {Q:Exit->Act->World->Prop} {md:Region.Mode} {S:World->Prop} {p:Nat}
def tkOk (md:Region.Mode) (ops:Array Oper) (p i:Nat) (listed:Array Bool):Bool :=
 Region.noSelect ops && Region.free md ops listed i && (Region.ready md ops listed).contains i && yp7 md ops p i && (!(listed.getD p true))
theorem tk (i:Nat) {d:Option Tmp} {op:Op} {ty:TypeId} {pos:String} {af:Array Edge} {gd:Option (Nat×Bool)} {v:Value} {fuel:Nat} {listed:Array Bool} {a a':Act} {w:World}
 (hi:ops[i]?=some ⟨d,op,ty,pos,af,gd⟩) (hc:tkOk md ops p i listed=true) (hQ:∀c (a:Act) w,Q (.panic c) (a.put d v) w->Q (.panic c) a w) (hw:Region.wanted ⟨d,op,ty,pos,af,gd⟩ (yielded ops a.tmps)=true)
 (hy:∀w,S w->(execOp a.eval ⟨d,op,ty,pos,af,gd⟩).run P w=.ok (.value v) w) (hS:S w) (ha:a.put d v=a')
 (h:ycg P md ops Q S p fuel (listed.setIfInBounds i true) a' w):ycg P md ops Q S p (fuel+1) listed a w:= by
 unfold tkOk at hc;simp only [Bool.and_eq_true,Bool.not_eq_true'] at hc;subst ha;exact yea hi hc.1.1.1.1 hc.1.1.1.2 hc.1.1.2 hc.1.2 hc.2 hQ (Or.inl ⟨hw,hy⟩) hS h
def tfOk (md:Region.Mode) (ops:Array Oper) (p i:Nat) (listed:Array Bool):Bool :=
 Region.noSelect ops && Region.free md ops listed i && (Region.ready md ops listed).contains i && (!(p == i))
theorem tf (i:Nat) {d:Option Tmp} {op:Op} {ty:TypeId} {pos:String} {af:Array Edge} {gd:Option (Nat×Bool)} {v:Value} {fuel:Nat} {listed:Array Bool} {a a':Act} {w:World}
 (hi:ops[i]?=some ⟨d,op,ty,pos,af,gd⟩) (hc:tfOk md ops p i listed=true) (hQ:∀c (a:Act) w,Q (.panic c) (a.put d v) w->Q (.panic c) a w) (hw:Region.wanted ⟨d,op,ty,pos,af,gd⟩ (yielded ops a.tmps)=true)
 (hy:∀w,True->(execOp a.eval ⟨d,op,ty,pos,af,gd⟩).run P w=.ok (.value v) w) (hS:S w) (ha:a.put d v=a')
 (h:ycg P md ops Q S p fuel (listed.setIfInBounds i true) a' w):ycg P md ops Q S p (fuel+1) listed a w:= by
 unfold tfOk at hc;simp only [Bool.and_eq_true,Bool.not_eq_true',beq_eq_false_iff_ne] at hc;subst ha;exact yd0 hi hc.1.1.1 hc.1.1.2 hc.1.2 hc.2 hQ (Or.inl ⟨hw,hy⟩) (fun _=>hS) h
theorem wo (i:Nat) {d:Option Tmp} {op:Op} {ty:TypeId} {pos:String} {af:Array Edge} {gd:Option (Nat×Bool)} {fuel:Nat} {listed:Array Bool} {a:Act} {w:World} (hr:Region.ready md ops listed=[i]) (ho:ops[i]?=some ⟨d,op,ty,pos,af,gd⟩)
 (h:∀K':Act->World->Prop,Shut (∀a w,((listed.setIfInBounds i true).getD p true=false->S w)->ycg P md ops Q S p fuel (listed.setIfInBounds i true) a w->K' a w)->if Region.wanted ⟨d,op,ty,pos,af,gd⟩ (yielded ops a.tmps)=true then Oper.wp P ⟨d,op,ty,pos,af,gd⟩ a w K' Q else K' (a.put d undef) w):ycg P md ops Q S p (fuel+1) listed a w:=ysr hr ho h
theorem tK (i:Nat) {d:Option Tmp} {op:Op} {ty:TypeId} {pos:String} {af:Array Edge} {gd:Option (Nat×Bool)} {v:Value} {fuel:Nat} {listed:Array Bool} {a a':Act} {w:World}
 (hi:ops[i]?=some ⟨d,op,ty,pos,af,gd⟩) (h:ycg P md ops Q S p fuel (listed.setIfInBounds i true) a' w) (hc:tkOk md ops p i listed=true:=by kernel_rfl) (hQ:∀c (a:Act) w,Q (.panic c) (a.put d v) w->Q (.panic c) a w:=by exact fun _ _ _ h=>h) (hw:Region.wanted ⟨d,op,ty,pos,af,gd⟩ (yielded ops a.tmps)=true:=by rfl)
 (hy:∀w,S w->(execOp a.eval ⟨d,op,ty,pos,af,gd⟩).run P w=.ok (.value v) w:=by (intro w hSw;(try dsimp only at hSw);go_simp;try with_reducible rfl)) (hS:S w:=by assumption) (ha:a.put d v=a':=by (simp only [ap,aq,sa,sb,sc];rfl)):ycg P md ops Q S p (fuel+1) listed a w:=tk i hi hc hQ hw hy hS ha h
theorem tF (i:Nat) {d:Option Tmp} {op:Op} {ty:TypeId} {pos:String} {af:Array Edge} {gd:Option (Nat×Bool)} {v:Value} {fuel:Nat} {listed:Array Bool} {a a':Act} {w:World}
 (hi:ops[i]?=some ⟨d,op,ty,pos,af,gd⟩) (h:ycg P md ops Q S p fuel (listed.setIfInBounds i true) a' w) (hc:tfOk md ops p i listed=true:=by kernel_rfl) (hQ:∀c (a:Act) w,Q (.panic c) (a.put d v) w->Q (.panic c) a w:=by exact fun _ _ _ h=>h) (hw:Region.wanted ⟨d,op,ty,pos,af,gd⟩ (yielded ops a.tmps)=true:=by rfl)
 (hy:∀w,True->(execOp a.eval ⟨d,op,ty,pos,af,gd⟩).run P w=.ok (.value v) w:=by (intro w hSw;(try dsimp only at hSw);go_simp;try with_reducible rfl)) (hS:S w:=by assumption) (ha:a.put d v=a':=by (simp only [ap,aq,sa,sb,sc];rfl)):ycg P md ops Q S p (fuel+1) listed a w:=tf i hi hc hQ hw hy hS ha h
end
theorem jbs (v:Value) (n:Nat) (cs:List Value) (w:World) (hv:Fl 9 n w v cs) (hn:n<=1000000000) :
 Calls Tryz.prog 82 #[v] w (yh0 175 9 n cs w):= by
 have HV:=lh hv;obtain ⟨hl,h1c,ao,cap,rfl,h1,⟨h2,hnn⟩,h3⟩:=hv;clear h3 hnn;unfold maxLen at h2;have qT:∀(w:World) (a:Option Addr) (n c n' c':Nat),(binOp .eql 87 (.slice a n c) (.slice none n' c')).run Tryz.prog w=.ok (.bool a.isNone) w:=fun w a n c n' c'=>Lib.run_eql_slice_nil w _ _ a n c n' c' Tryz.underlying87;obtain ⟨i0,hi,hz0,hz1,hz2⟩:=info_parts yzd;have HL:=lh (And.intro hl h1c);clear hl h1c;cases ao with
 | none =>
  obtain ⟨_,_,_,h4⟩:=HV.out.len;obtain ⟨rfl,rfl⟩:=h4 rfl;clear h4;have hcs:cs=[]:=List.eq_nil_of_length_eq_zero (by simpa using HL.out.1);have HCS:=lh hcs;clear hcs
  go_enter Tryz.func82,Tryz.ntmps82
  go_wp2
  go_ret
  refine ⟨_,rfl,?_,bR⟩;rw [HCS.out];exact World.ownsRow_nil _ _ _ _
 | some a =>
  go_enter Tryz.func82,Tryz.ntmps82
  go_wp2_with (at_builtin;refine ya9 _ rfl (.tmp 5) (.tmp 6) 87 rfl w.heap.size 175 i0 (.agg #[iZ,iZ,iZ,iZ,iZ,iZ,iZ,iZ,iZ]) 9 72 Tryz.underlying87 hi hz0 hz1 hz2 rfl (by decide) _ 0 [] rfl (yf8 w _) (some a) n cap cs rfl HL.out.1 (fun h=>by cases h) (HV.out.below (yaa bR _)).news HL.out.2 (by unfold maxLen;omega) om (by rw [World.size_alloc];omega) ?_;intro v' w1 hown1 hg1 hn1;clear hn1)
  go_ret
  refine ⟨_,rfl,by simpa using hown1,?_⟩;exact (bR.alloc (Nat.le_refl _) _).grown hg1 (by rw [World.size_alloc];omega) (by intro k hk;cases hk;exact Nat.le_refl _)
section
variable {P:Program} {ops:Array Oper} {Q:Exit->Act->World->Prop} {md:Region.Mode} {S T:World->Prop} {p:Nat}
def yeb (P:Program) (md:Region.Mode) (ops:Array Oper) (Q:Exit->Act->World->Prop) (S T:World->Prop) (p:Nat):Nat->Array Bool->Act->World->Prop
 | 0,listed,a,w=>Region.ready md ops listed=[]/\Q .normal a w
 | fuel+1,listed,a,w =>
  (Region.ready md ops listed=[]->Q .normal a w) /\
  ∀i∈Region.ready md ops listed,wpOp P ops Q i (fun a' w'=>(((listed.setIfInBounds i true).getD p true=false->S w')/\T w')/\yeb P md ops Q S T p fuel (listed.setIfInBounds i true) a' w') a w
theorem yfr:∀(fuel:Nat) (listed:Array Bool) (a:Act) (w:World),yeb P md ops Q S T p fuel listed a w->wpAny P md ops Q fuel listed a w
 | 0,_,_,_,h=>h
 | fuel+1,_,_,_,h=>⟨h.1,fun i hi=>wpOp_mono (fun a' w' h'=>yfr fuel _ a' w' h'.2) (h.2 i hi)⟩
theorem yob {i:Nat} {oi:Oper} {v:Value} (hi:ops[i]?=some oi) (hsel:∀(j:Nat) (o:Oper) cs b,ops[j]?=some o->o.op≠.select cs b)
 (hQ:∀c a w,Q (.panic c) (a.put oi.dst v) w->Q (.panic c) a w) (hw:yp7 md ops p i=true) :
 ∀(fuel:Nat) (listed:Array Bool) (a:Act) (w:World),
  (∀j oj,ops[j]?=some oj->j≠i->listed.getD j true=false->(∀e∈oj.after,Region.binds md e=true->e.on≠i)->oi.apart ops oj=true) ->
  i∈Region.ready md ops listed->listed.getD p true=false->YieldsIf P ops S oi v a->S w->T w ->
  yeb P md ops Q S T p fuel (listed.setIfInBounds i true) (a.put oi.dst v) w->yeb P md ops Q S T p (fuel+1) listed a w:= by
 obtain ⟨op,hop,e0,he0,hon,hbind⟩:=ylc hw
 have hpi:∀{l:Array Bool} {j:Nat},l.getD i true=false->j∈Region.ready md ops l->j≠p:=fun {l j} hl hj e=>by
  subst e;obtain ⟨_,oj,hoj,hall⟩:=mem_ready.1 hj;rw [hop] at hoj;cases hoj;have h1:=hall e0 he0 hbind;rw [hon] at h1;rcases Nat.lt_or_ge i l.size with h' | h'
  ·simp [h'] at hl h1;rw [hl] at h1;cases h1
  ·simp [Array.getElem?_eq_none h'] at h1
 intro fuel
 induction fuel with
 | zero =>
  intro listed a w _ hr hpu hy hS hT H;refine ⟨fun h=>(by rw [h] at hr;cases hr),fun j hj=>?_⟩
  by_cases hji:j=i
  ·subst hji;exact hy.wpOp hi hS ⟨⟨fun _=>hS,hT⟩,H⟩
  ·have:=ready_mono hj hji
   rw [H.1] at this;cases this
 | succ fuel ih =>
  intro listed a w hfree hr hpu hy hS hT H;refine ⟨fun h=>(by rw [h] at hr;cases hr),fun j hj=>?_⟩
  by_cases hji:j=i
  ·subst hji;exact hy.wpOp hi hS ⟨⟨fun _=>hS,hT⟩,H⟩
  ·have h1:=H.2 j (ready_mono hj hji)
   obtain ⟨hjun,oj,hoj,hall⟩:=mem_ready.1 hj
   have hnot:∀e∈oj.after,Region.binds md e=true->e.on≠i:=fun e he hb heq=>by
    have h1:=hall e he hb;have h0:=(mem_ready.1 hr).1;rw [heq] at h1;rcases Nat.lt_or_ge i listed.size with h' | h'
    ·simp [h'] at h0 h1;rw [h0] at h1;cases h1
    ·simp [Array.getElem?_eq_none h'] at h1
   have h2:=wpOp_putIf hoj (hfree j oj hoj hji hjun hnot) (fun cs b=>hsel i oi cs b hi) (fun cs b=>hsel j oj cs b hoj) hQ hy h1
   have hfree':∀k ok,ops[k]?=some ok->k≠i->(listed.setIfInBounds j true).getD k true=false ->
    (∀e∈ok.after,Region.binds md e=true->e.on≠i)->oi.apart ops ok=true:=fun k ok hk hki hun hno=>by
    refine hfree k ok hk hki ?_ hno
    by_cases hjk:j=k
    ·subst hjk;exact hjun
    ·rw [getD_set_ne true hjk] at hun;exact hun
   have hjp:=hpi (mem_ready.1 hr).1 hj
   have hps:((listed.setIfInBounds i true).setIfInBounds j true).getD p true=false:= by
    rw [getD_set_ne true hjp,getD_set_ne true (fun e=>hpi (mem_ready.1 hr).1 hr e)];exact hpu
   refine wpOp_mono (fun a' w' h3=>⟨⟨fun _=>h3.2.1.1 hps,h3.2.1.2⟩,ih (listed.setIfInBounds j true) a' w' hfree' (ready_mono hr (Ne.symm hji)) (by rw [getD_set_ne true hjp];exact hpu) h3.1 (h3.2.1.1 hps) h3.2.1.2 ?_⟩) h2;rw [Array.setIfInBounds_comm _ _ hji];exact h3.2.2
theorem ydj {i:Nat} {oi:Oper} {v:Value} {fuel:Nat} {listed:Array Bool} {a:Act} {w:World} (hi:ops[i]?=some oi)
 (hs:Region.noSelect ops=true) (hf:Region.free md ops listed i=true) (hr:(Region.ready md ops listed).contains i=true) (hw:yp7 md ops p i=true) (hp:listed.getD p true=false)
 (hQ:∀c a w,Q (.panic c) (a.put oi.dst v) w->Q (.panic c) a w) (hy:YieldsIf P ops S oi v a) (hS:S w) (hT:T w)
 (h:yeb P md ops Q S T p fuel (listed.setIfInBounds i true) (a.put oi.dst v) w):yeb P md ops Q S T p (fuel+1) listed a w :=
 yob hi (Region.noSelect_spec hs) hQ hw fuel listed a w (Region.free_spec hi hf) (by simpa using hr) hp hy hS hT h
theorem ymw {i:Nat} {oi:Oper} {v:Value} (hi:ops[i]?=some oi) (hsel:∀(j:Nat) (o:Oper) cs b,ops[j]?=some o->o.op≠.select cs b)
 (hQ:∀c a w,Q (.panic c) (a.put oi.dst v) w->Q (.panic c) a w) (hpi:p≠i) :
 ∀(fuel:Nat) (listed:Array Bool) (a:Act) (w:World),
  (∀j oj,ops[j]?=some oj->j≠i->listed.getD j true=false->(∀e∈oj.after,Region.binds md e=true->e.on≠i)->oi.apart ops oj=true) ->
  i∈Region.ready md ops listed->YieldsIf P ops T oi v a->(listed.getD p true=false->S w)->T w ->
  yeb P md ops Q S T p fuel (listed.setIfInBounds i true) (a.put oi.dst v) w->yeb P md ops Q S T p (fuel+1) listed a w:= by
 intro fuel
 induction fuel with
 | zero =>
  intro listed a w _ hr hy hS hT H;refine ⟨fun h=>(by rw [h] at hr;cases hr),fun j hj=>?_⟩
  by_cases hji:j=i
  ·exact zq10af5a
  ·have:=ready_mono hj hji
   rw [H.1] at this;cases this
 | succ fuel ih =>
  intro listed a w hfree hr hy hS hT H;refine ⟨fun h=>(by rw [h] at hr;cases hr),fun j hj=>?_⟩
  by_cases hji:j=i
  ·exact zq10af5a
  ·have h1:=H.2 j (ready_mono hj hji)
   obtain ⟨hjun,oj,hoj,hall⟩:=mem_ready.1 hj
   have hnot:∀e∈oj.after,Region.binds md e=true->e.on≠i:=fun e he hb heq=>by
    have h1:=hall e he hb;have h0:=(mem_ready.1 hr).1;rw [heq] at h1;rcases Nat.lt_or_ge i listed.size with h' | h'
    ·simp [h'] at h0 h1;rw [h0] at h1;cases h1
    ·simp [Array.getElem?_eq_none h'] at h1
   have h2:=wpOp_putIf hoj (hfree j oj hoj hji hjun hnot) (fun cs b=>hsel i oi cs b hi) (fun cs b=>hsel j oj cs b hoj) hQ hy h1
   have hfree':∀k ok,ops[k]?=some ok->k≠i->(listed.setIfInBounds j true).getD k true=false ->
    (∀e∈ok.after,Region.binds md e=true->e.on≠i)->oi.apart ops ok=true:=fun k ok hk hki hun hno=>by
    refine hfree k ok hk hki ?_ hno
    by_cases hjk:j=k
    ·subst hjk;exact hjun
    ·rw [getD_set_ne true hjk] at hun;exact hun
   refine wpOp_mono (fun a' w' h3=>?_) h2
   have hps:(listed.setIfInBounds j true).getD p true=false->S w':=fun hp=>h3.2.1.1 (by
    rw [Array.setIfInBounds_comm _ _ (Ne.symm hji),getD_set_ne true (Ne.symm hpi)];exact hp)
   refine ⟨⟨hps,h3.2.1.2⟩,ih (listed.setIfInBounds j true) a' w' hfree' (ready_mono hr (Ne.symm hji)) h3.1 hps h3.2.1.2 ?_⟩;rw [Array.setIfInBounds_comm _ _ hji];exact h3.2.2
theorem yii {i:Nat} {oi:Oper} {v:Value} {fuel:Nat} {listed:Array Bool} {a:Act} {w:World} (hi:ops[i]?=some oi)
 (hs:Region.noSelect ops=true) (hf:Region.free md ops listed i=true) (hr:(Region.ready md ops listed).contains i=true) (hp:p≠i)
 (hQ:∀c a w,Q (.panic c) (a.put oi.dst v) w->Q (.panic c) a w) (hy:YieldsIf P ops T oi v a) (hS:listed.getD p true=false->S w) (hT:T w)
 (h:yeb P md ops Q S T p fuel (listed.setIfInBounds i true) (a.put oi.dst v) w):yeb P md ops Q S T p (fuel+1) listed a w :=
 ymw hi (Region.noSelect_spec hs) hQ hp fuel listed a w (Region.free_spec hi hf) (by simpa using hr) hy hS hT h
theorem ycv {i:Nat} {o:Oper} {fuel:Nat} {listed:Array Bool} {a:Act} {w:World} (hr:Region.ready md ops listed=[i]) (ho:ops[i]?=some o)
 (h:∀K':Act->World->Prop,Shut (∀a w,((listed.setIfInBounds i true).getD p true=false->S w)->T w->yeb P md ops Q S T p fuel (listed.setIfInBounds i true) a w->K' a w)->if Region.wanted o (yielded ops a.tmps)=true then Oper.wp P o a w K' Q else K' (a.put o.dst undef) w):yeb P md ops Q S T p (fuel+1) listed a w:= by
 refine ⟨fun h0=>(by rw [hr] at h0;cases h0),fun j hj=>?_⟩;rw [hr] at hj;obtain rfl:j=i:=by simpa using hj
 exact wpOp_step ho (fun K' hK=>h K' (fun a w hS hT hW=>hK a w ⟨⟨hS,hT⟩,hW⟩))
theorem yql {listed:Array Bool} {a:Act} {w:World} (hr:Region.ready md ops listed=[]) (h:Q .normal a w) :
 ∀fuel,yeb P md ops Q S T p fuel listed a w
 | 0=>⟨hr,h⟩
 | _+1=>⟨fun _=>h,by rw [hr];simp⟩
theorem yjh {id:Nat} {a:Act} {w:World} (S T:World->Prop) (p:Nat) (hm:P.follows .mixedOrders=true)
 (h:yeb P .any ops Q S T p ops.size (Array.replicate ops.size false) a w.drew):(Code.region id ops true).wp P Q a w :=
 wp_region_any hm (yfr _ _ _ _ h)
theorem yjf {id:Nat} {a:Act} {w:World} {K:Act->World->Prop} {Q':Exit->Act->World->Prop} (S T:World->Prop) (p:Nat) (hm:P.follows .mixedOrders=true)
 (h:yeb P .any ops (Exit.then K (fun _ _ _=>False)) S T p ops.size (Array.replicate ops.size false) a w.drew):(Code.region id ops true).wp P (Exit.then K Q') a w :=
 wp_mono (yjh S T p hm h) (fun e _ _ hq=>by cases e <;> first | exact hq | exact hq.elim)
end
section
variable {P:Program} {ops:Array Oper} {Q:Exit->Act->World->Prop} {md:Region.Mode} {l n:Nat}
theorem yho {f:FuncId} {args:Array Value} {w:World} {R:Ending->World->Prop} (h:Calls P f args w R):CallsIn (Fence.wide.inRound l) n P f args w R:=CallsIn.inRound l (callsIn_wide.2 h)
theorem yin {row:String} {args:Array Value} {w:World} {R:Value->World->Prop} (h:Rows P row args w R):RowsIn (Fence.wide.inRound l) n P row args w R :=
 fun c cs _=>let ⟨v,w',r,s⟩:=h c cs;⟨v,w',r,stepsIn_wide.2 s⟩
theorem ynl {o:Oper} {a:Act} {w:World} {K:Act->World->Prop} (hd:∀c,o.op≠.defer c) (h:o.wp P a w K Q):o.wpIn (Fence.wide.inRound l) n P a w K Q:= by
 refine ⟨fun _ _=>trivial,?_⟩;unfold Oper.wp at h;rw [Oper.semAt_eq _ _ _ hd];generalize (execOp a.eval o).run P w=r at *;cases r with
 | ok x w' =>
  cases x <;> simp only [Oper.upon,Oper.uponIn] at h ⊢ <;>
   first
    | exact h
    | exact yin h
    | exact CallsIn.mono (yho h) (fun e w'' he=>by cases e <;> exact he)
    | exact ⟨(fun hs=>by cases hs),yin h⟩
    | exact ⟨(fun hs=>by cases hs),CallsIn.mono (yho h) (fun e w'' he=>by cases e <;> exact he)⟩
 | halt x w'=>cases x <;> simp only [Oper.upon,Oper.uponIn] at h ⊢ <;> exact h
def ymq (ops:Array Oper):Bool:=ops.all fun o=>match o.op with | .defer _=>false | _=>true
theorem ynh (h:ymq ops=true) {i:Nat} {o:Oper} (ho:ops[i]?=some o) (c:_):o.op≠.defer c:= by
 intro e;obtain ⟨hi,rfl⟩:=Array.getElem?_eq_some_iff.1 ho;have:=Array.all_eq_true.1 h i hi;rw [e] at this;cases this
theorem yte {i:Nat} {a:Act} {w:World} {K K':Act->World->Prop} (hq:¬LetsOut Q) (hd:ymq ops=true) (hK:∀a w,K a w->K' a w) (h:wpOp P ops Q i K a w):wpOpIn (Fence.wide.inRound l) n P ops Q i K' a w:= by
 unfold wpOp at h;unfold wpOpIn;cases ho:ops[i]? with
 | none=>rw [ho] at h;exact hK _ _ h
 | some o =>
  rw [ho] at h;simp only at h ⊢
  split
  ·rename_i hw
   rw [if_pos hw] at h;rcases h with h | h
   ·exact Oper.wpIn_mono hK (ynl (ynh hd ho) h)
   ·exact absurd h.2 hq
  ·rename_i hw
   rw [if_neg hw] at h;exact ⟨fun _ _=>trivial,hK _ _ h⟩
theorem ykp (hq:¬LetsOut Q) (hd:ymq ops=true):∀(fuel:Nat) (listed:Array Bool) (a:Act) (w:World),wpAny P md ops Q fuel listed a w->wpAnyIn (Fence.wide.inRound l) n P md ops Q fuel listed a w
 | 0,_,_,_,h=>h
 | fuel+1,_,_,_,h=>⟨h.1,fun i hi=>yte hq hd (ykp hq hd fuel _) (h.2 i hi)⟩
theorem ydk {id:Nat} {a:Act} {w:World} {K:Act->World->Prop} {Q':Exit->Act->World->Prop} (S:World->Prop) (p:Nat) (hm:P.follows .mixedOrders=true) (hd:ymq ops=true)
 (h:ycg P .any ops (Exit.then K (fun _ _ _=>False)) S p ops.size (Array.replicate ops.size false) a w.drew):(Code.region id ops true).wpIn (Fence.wide.inRound l) n P (Exit.then K Q') a w :=
 wpIn_mono (wpIn_region_any hm (ykp (fun ⟨_,_,h⟩=>h) hd _ _ _ _ (yes _ _ _ _ h))) (fun e _ _ hq=>by cases e <;> first | exact hq | exact hq.elim)
end
section
open Go.RowKit Go.Shelf
attribute [local go_sem] Oper.semAt_some
theorem yvl (q:Option Addr) (len cap:Nat) (w:World):Calls Tryz.prog 102 #[.slice q len cap,iV 41] w fun e w'=>e=.returned (.func (.func 148) #[] #[pV w.heap.size,pV (w.heap.size+1)])/\w'=(w.alloc (.cells #[.slice q len cap] 135)).alloc (.cells #[iV 41] 3):= by
 go_enter Tryz.func102,Tryz.ntmps102
 go_wp2_with fail
 go_ret
 exact ⟨rfl,rfl⟩
def KpC (B:Nat) (W W':World):Prop:=W.heap.size<=W'.heap.size/\(B+1<W.heap.size->W'.heap[B]?=W.heap[B]?/\W'.heap[B+1]?=W.heap[B+1]?)
theorem KpC.t {B:Nat} {X Y Z:World} (h:KpC B X Y) (k:KpC B Y Z):KpC B X Z :=
 ⟨Nat.le_trans h.1 k.1,fun hs=>⟨(k.2 (Nat.lt_of_lt_of_le hs h.1)).1.trans (h.2 hs).1,(k.2 (Nat.lt_of_lt_of_le hs h.1)).2.trans (h.2 hs).2⟩⟩
theorem KpC.b {B:Nat} {w:World} (hB:B+1<w.heap.size) (W:World) (l:Nat) (o o':Obj) (hl:w.heap.size<=l) (_:W.heap[l]?=some o) (_:o.isCells=false) (_:o.isWalk=false):KpC B W (W.putObj l o') :=
 ⟨(grownBy_putObj' W l o').size,fun _=>⟨World.putObj_heap_other om,World.putObj_heap_other om⟩⟩
def yj1 (b off len k:Nat):Value:=sL b (off+41*k) (min 41 (len-41*k)) (min 41 (len-41*k))
theorem yu1 (n l B b off len cap N:Nat) (hcap:len<=cap) (hlen:len<=20000) (hN:N=(len+40)/41) (J Jx:List { x:Nat // x<N }->World->Prop) (hD:∀s W,J s W->J s W.drew)
 (hY:∀pre x W,J pre W->pre.length<N->YieldAt Fence.wide (n-1) Tryz.prog l #[yj1 b off len x.1] W fun e W' =>
  (e=.returned (.bool true)/\J (pre++[x]) W'/\KpC B W W')\/(e=.returned (.bool false)/\Jx (pre++[x]) W'))
 (W:World) (hB:Blk W B 135 [sL b off len cap]) (hB1:Blk W (B+1) 3 [iV 41]) (h0:J [] W) :
 CallsIn Fence.wide n Tryz.prog 148 #[.func (.yield l) #[] #[],pV B,pV (B+1)] W fun e W'=>(∃v,e=.returned v) /\
  ((∃ys,ys.length=N/\J ys W')\/(∃pre,True/\Jx pre W')):= by
 refine callsIn_of_wp Tryz.func148 rfl trivial ?_ rfl;simp only [Tryz.ntmps148,List.size_toArray,List.length_cons,List.length_nil,Nat.reduceAdd,Nat.reduceSub,Array.replicate_succ,Array.replicate_zero,List.push_toArray,List.append_toArray,List.nil_append,List.cons_append];have HY:=lh hY;have HB:=lh (And.intro hB hB1);have HN:=lh hN;clear hY hB hB1 hN
 gi_wp2
 gi_loopw [4] (fun i wr=>∃k:Nat,k<=N/\i=iV (41*(k:Int))/\(∃pre,pre.length=k/\J pre wr)/\Blk wr B 135 [sL b off len cap]/\Blk wr (B+1) 3 [iV 41])
  (fun i _=>len+41-(intOf i).toNat)
 case atStart=>exact ⟨0,Nat.zero_le _,by simp,⟨[],rfl,h0⟩,HB.out⟩
 case round =>
  obtain ⟨k,hk,rfl,⟨pre,hpl,hJ⟩,b0,b1⟩:=hrel;have HPL:=lh hpl;clear hpl;have c0:=b0.cell 0;have c1:=b1.cell 0
  by_cases hlt:41*k<len
  ·have HT:=lh hlt
   have hlt':41*(k:Int)<(len:Int):=by omega
   have g0:¬41*(k:Int)<0:=by omega
   have g1:41*(k:Int)<=(cap:Int):=by omega
   have g2:41*(k:Int)<=(len:Int):=by omega
   gi_wp2
   refine wpIn_wide.2 ?_
   go_region
   obtain ⟨m,hm⟩:∃m:Nat,min 41 (len-41*k)=m:=⟨_,rfl⟩;have hm2:(if ((len-41*k:Nat):Int)<41 then ((len-41*k:Nat):Int) else 41)=(m:Int):=by split <;> omega
   have hm3:1<=m/\m<=41/\41*k+m<=len:=by omega
   obtain ⟨fn,tmps,assign,body,hy,hR⟩:=HY.out pre ⟨k,by have:=HN.out;omega⟩ wr.drew (hD _ _ hJ) (by have:=HPL.out;have:=HN.out;omega)
   dsimp only at hy
   unfold yj1 at hy;rw [hm] at hy;simp only [hm2];clear hm2 hm;have hcm:=c0;rw [<-World.cell?_drew wr] at c0;rw [<-World.cell?_drew wr] at c1;have w1:wrap64 (41*(k:Int)+(m:Int))=41*(k:Int)+(m:Int):=IntWalk.wrap64_in _ ⟨by omega,by omega⟩;have w2:¬41*(k:Int)+(m:Int)<41*(k:Int):=by omega
   have w3:41*(k:Int)+(m:Int)<=(cap:Int):=by omega
   have w4:41*(k:Int)<=41*(k:Int)+(m:Int):=by omega
   have w5:0<=41*(k:Int)+(m:Int):=by omega
   have w6:(41*(k:Int)+(m:Int)).toNat=41*k+m:=by omega
   have w7:(41*(k:Int)).toNat=41*k:=by omega
   clear hcm
   gi_wp2
   refine ⟨fun h=>(by cases h),?_⟩;refine hR.mono ?_;have B0:=lh (And.intro b0 b1);clear b0 b1 c0 c1;rintro e W3 (⟨rfl,hJ3,kk⟩ | ⟨rfl,hJx3⟩)
   ·obtain ⟨k0,k1⟩:=kk.2 (by have:=B0.out.2.lt;exact this)
    have b0:Blk W3 B 135 [sL b off len cap]:=k0.trans B0.out.1;have b1:Blk W3 (B+1) 3 [iV 41]:=k1.trans B0.out.2;have c0:=b0.cell 0;have c1:=b1.cell 0;have w8:wrap64 (41*(k:Int)+41)=41*(k:Int)+41:=IntWalk.wrap64_in _ ⟨by omega,by omega⟩;have BB:=lh (And.intro b0 b1);clear b0 b1
    gi_wp2
    go_roundw
    case rel=>exact ⟨k+1,by have:=HN.out;have:=HT.out;omega,by go_num,⟨_,by rw [List.length_append,HPL.out];rfl,hJ3⟩,BB.out⟩
    case measure=>simp [intOf];have:=HT.out;omega
   ·gi_wp2
    refine bodyPost_ret (results_none rfl _ _ _) rfl ?_;exact ⟨⟨_,rfl⟩,.inr ⟨_,trivial,hJx3⟩⟩
  ·have hlt':¬41*(k:Int)<(len:Int):=by omega
   have hkN:k=N:=by have:=HN.out;omega
   gi_wp2
   refine bodyPost_end (results_none rfl _ _ _) rfl ?_;exact ⟨⟨_,rfl⟩,.inl ⟨_,HPL.out.trans hkN,hJ⟩⟩
theorem yqx {β:Type} {B:Nat} {J:β->World->Prop} (h:AbidesFrom B J) (s:β) (W:World) (hs:J s W):J s W.drew :=
 h s W W.drew none hs ⟨rfl,rfl,rfl,Nat.le_refl _,fun _ _ _=>rfl⟩ (fun _ e=>by cases e)
theorem ypw (n B b off len cap N:Nat) (hcap:len<=cap) (hlen:len<=20000) (hN:N=(len+40)/41) (w:World)
 (hB:Blk w B 135 [sL b off len cap]) (hB1:Blk w (B+1) 3 [iV 41]) :
 SeqStopsK Fence.wide n Tryz.prog 148 #[pV B,pV (B+1)] (fun x:{ x:Nat // x<N }=>#[yj1 b off len x.1]) (KpC B) (fun ys=>ys.length=N) (fun _=>True) N w:=fun l J Jx W hW hJ _ hY h0 =>
 yu1 n l B b off len cap N hcap hlen hN J Jx (yqx hJ) hY W (hB.below hW) (hB1.below hW) h0
end
section
open Go.RowKit Go.ChangeShapes Go.WideShapes Go.Deep
def R5.in64 (x:R5):Prop:=yg6 x.a/\yg6 x.b/\yg6 x.c/\yg6 x.d/\yg6 x.e
theorem yvk (l:List R5) (i j:Nat) (hi:i<l.length) (hj:j<5):(yag l)[i*5+j]?=(l.getD i yax).cells[j]?:= by
 obtain ⟨h0,h1,h2,h3,h4⟩:=yh9 l i hi;have:j=0\/j=1\/j=2\/j=3\/j=4:=by omega
 rcases this with rfl | rfl | rfl | rfl | rfl
 ·exact h0
 ·exact h1
 ·exact h2
 ·exact h3
 ·exact h4
section
variable {H:Type} {enc:TypeId×Value->H} {w:World} {base:Nat} {held:Bool}
theorem yo0 {spare:Nat->Bool} {n:Nat} {c:Value} {y:DataW H×List MemPlace} (h:DataW.trod enc Tryz.prog w base spare held n 25 [c]=some y):∃l:List R5,R5S w c l/\∀x∈l,x.in64:= by
 rcases open_slice Tryz.underlying25 h with ⟨h0,_⟩ | ⟨a,len,cap,m,n',D,Pl,hcs,_,hl,hm,hmm,_,hi⟩
 ·refine ⟨[],?_,by simp⟩
  obtain rfl:c=sZ:=by simpa using h0
  exact R5S.nil
 ·obtain rfl:c=.slice (some a) len cap:=by simpa using hcs
  have hlm:len<=m:= by
   rw [hmm]
   split
   ·exact hl
   ·exact Nat.le_refl _
  have hC:Tryz.prog.cellsOf 48=5:=by kernel_rfl
  have key:∀i,i<len->∃x:R5,(∀j,j<5->w.cell? (a.add (i*5+j))=x.cells[j]?)/\x.in64:= by
   intro i hlt;obtain ⟨cs',hc,ht⟩:=hi i om;rw [hC] at hc;obtain ⟨xs,m2,_,_,hlen,hxl,hf⟩:=DataW.trod_struct Tryz.underlying48 ht;obtain ⟨_,hcl,hat⟩:=World.cells?_some hc;have hl2:cs'.length=5:=by rw [hlen,hC]
   match cs',hl2 with
   | [c0,c1,c2,c3,c4],_ =>
    have hC2:Tryz.prog.cellsOf 3=1:=by kernel_rfl
    have hC4:Tryz.prog.cellsOf 2=1:=by kernel_rfl
    have f0:DataW.trod enc Tryz.prog w base spare held m2 3 (([c0,c1,c2,c3,c4].drop 0).take (Tryz.prog.cellsOf 3))=xs[0]?:=hf 0 _ rfl;have f1:DataW.trod enc Tryz.prog w base spare held m2 3 (([c0,c1,c2,c3,c4].drop 1).take (Tryz.prog.cellsOf 3))=xs[1]?:=hf 1 _ rfl;have f2:DataW.trod enc Tryz.prog w base spare held m2 3 (([c0,c1,c2,c3,c4].drop 2).take (Tryz.prog.cellsOf 3))=xs[2]?:=hf 2 _ rfl;have f3:DataW.trod enc Tryz.prog w base spare held m2 2 (([c0,c1,c2,c3,c4].drop 3).take (Tryz.prog.cellsOf 2))=xs[3]?:=hf 3 _ rfl;have f4:DataW.trod enc Tryz.prog w base spare held m2 3 (([c0,c1,c2,c3,c4].drop 4).take (Tryz.prog.cellsOf 3))=xs[4]?:=hf 4 _ rfl;rw [hC2] at f0 f1 f2 f4;rw [hC4] at f3;have hx2:xs.length=5:=hxl
    have g0:DataW.trod enc Tryz.prog w base spare held m2 3 [c0]=some (xs[0]'om):= by
     rw [<-List.getElem?_eq_getElem om];exact f0
    have g1:DataW.trod enc Tryz.prog w base spare held m2 3 [c1]=some (xs[1]'om):= by
     rw [<-List.getElem?_eq_getElem om];exact f1
    have g2:DataW.trod enc Tryz.prog w base spare held m2 3 [c2]=some (xs[2]'om):= by
     rw [<-List.getElem?_eq_getElem om];exact f2
    have g3:DataW.trod enc Tryz.prog w base spare held m2 2 [c3]=some (xs[3]'om):= by
     rw [<-List.getElem?_eq_getElem om];exact f3
    have g4:DataW.trod enc Tryz.prog w base spare held m2 3 [c4]=some (xs[4]'om):= by
     rw [<-List.getElem?_eq_getElem om];exact f4
    obtain ⟨x0,rfl,r0⟩:=yc1 Tryz.underlying3 g0;obtain ⟨x1,rfl,r1⟩:=yc1 Tryz.underlying3 g1;obtain ⟨x2,rfl,r2⟩:=yc1 Tryz.underlying3 g2;obtain ⟨x3,rfl,r3⟩:=yc1 Tryz.underlying2 g3;obtain ⟨x4,rfl,r4⟩:=yc1 Tryz.underlying3 g4;refine ⟨⟨x0,x1,x2,x3,x4⟩,fun j hj=>?_,yce r0,yce r1,yce r2,yce r3,yce r4⟩;have:=hat j (by rw [hcl] at *;omega);rw [Go.Deep.add_add] at this;exact this
  obtain ⟨f,hf⟩:∃f:Nat->R5,∀i,i<len->(∀j,j<5->w.cell? (a.add (i*5+j))=(f i).cells[j]?)/\(f i).in64:= by
   classical
   refine ⟨fun i=>if h:i<len then (key i h).choose else yax,fun i hi=>?_⟩;simp only [dif_pos hi];exact (key i hi).choose_spec
  refine ⟨(List.range len).map f,⟨by rw [ybf],ye6 _,some a,cap,by simp,by simpa using hl,⟨hm,fun e=>by cases e⟩,fun hne=>?_⟩,?_⟩
  ·have h0:0<len:=by simpa using hne
   have e1:=(hf 0 h0).1 0 (by decide)
   have hs:a.spot=none:= by
    have e:a.add (0*5+0)=a:=by simp [Addr.add]
    rw [e] at e1;exact ynq e1
   obtain ⟨b,o,sp⟩:=a;simp only at hs;subst hs;refine ⟨b,o,rfl,fun i hi=>?_⟩;simp only [List.length_map,List.length_range] at hi;have e2:=(hf (i/5) om).1 (i%5) (Nat.mod_lt _ (by decide));rw [show i/5*5+i%5=i by omega,Addr.add_lit] at e2;rw [e2];have e3:=yvk ((List.range len).map f) (i/5) (i%5) (by simp;omega) (Nat.mod_lt _ (by decide));rw [show i/5*5+i%5=i by omega] at e3;rw [e3];simp [List.getD,show i/5<len by omega]
  ·intro y hy
   simp only [List.mem_map,List.mem_range] at hy;obtain ⟨i,hi,rfl⟩:=hy;exact (hf i hi).2
theorem open_cmds {r:Reach} {b0:Nat} {v:Value} {d:DataW H} {p:List MemPlace} (hv:Value.okWide Tryz.prog w r b0 25 v) (h:DataW.Trod enc Tryz.prog w base (fun _=>true) held 25 v d p) :
 ∃l:List R5,R5S w v l/\∀x∈l,x.in64:= by
 obtain ⟨ao,len,cap,rfl⟩:=okWide_slice Tryz.underlying25 hv;obtain ⟨fuel,hf⟩:=h;exact yo0 (by simpa [Value.cells] using hf)
end
end
end Go.Proofs.YtkongpjpkpfniaaGreat

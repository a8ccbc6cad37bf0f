/- TopTicks: parts of the proof, made small by a program (mini.py). -/
import Derived.Test.YtkongpjpkpfniaaGreatT01
import Derived.Test.YtkongpjpkpfniaaGreatT08
import Derived.Test.YtkongpjpkpfniaaGreatT24
import Derived.Test.YtkongpjpkpfniaaGreatT25
import Derived.Test.YtkongpjpkpfniaaGreatT32
set_option linter.unusedVariables false
set_option linter.unusedSimpArgs false
set_option maxRecDepth 100000
set_option maxHeartbeats 6400000
namespace Go.Proofs.YtkongpjpkpfniaaGreat
open Go.RowKit
theorem ynm {l:List R5} {x:R5} {i:Nat} (h:i<l.length):(l++[x]).getD i yax=l.getD i yax:= by
 simp only [List.getD];rw [List.getElem?_append_left h]
theorem ygr (l:List R5) (x:R5):(l++[x]).getD l.length yax=x:= by
 simp [List.getD]
theorem yfc (l:List R5) (day:Int) (n k:Nat) (p:Ps) (rs:List Int):evS l day (n+1) k p rs=if (l.getD k yax).b=day then
 if (ybi p rs (l.getD k yax)).2.2≠0 then (k,p,rs,(ybi p rs (l.getD k yax)).2.2)
 else evS l day n (k+1) (ybi p rs (l.getD k yax)).1 (ybi p rs (l.getD k yax)).2.1
 else (k,p,rs,0):=rfl
theorem yh5 (first due:Int) (x:R5) (l:List R5) (a:Int):yej first due (x::l) a=if x.a=2/\first<=x.b/\x.b<=due then (if x.d<0\/1000000000000000<x.d then (0,5) else yej first due l (min (a+x.d) 1000000000000000)) else yej first due l a:=rfl
theorem yub {l:List R5} {x:R5} {day:Int} (hx:x.b≠day) (n:Nat):∀(k:Nat) (p:Ps) (rs:List Int),k+n=l.length->evS (l++[x]) day (n+1) k p rs=evS l day n k p rs:= by
 induction n with
 | zero =>
  intro k p rs hk;obtain rfl:k=l.length:=by omega
  rw [yfc,ygr,if_neg hx]
  rfl
 | succ n ih =>
  intro k p rs hk;rw [yfc,yfc (l:=l),ynm om]
  by_cases h1:(l.getD k yax).b=day
  ·rw [if_pos h1,if_pos h1]
   by_cases h2:(ybi p rs (l.getD k yax)).2.2≠0
   ·rw [if_pos h2,if_pos h2]
   ·rw [if_neg h2,if_neg h2]
    exact ih _ _ _ om
  ·rw [if_neg h1,if_neg h1]
theorem yvx {t:Tm} {n fr til:Int} {p q:Ps} {rs ns:List Int} {g:Bool} {x:St} {e:Int} (h:ycd t n fr til p rs ns g=(some x,q,e)):x.du=til+t.dued:= by
 unfold ycd at h
 split at h
 ·cases h
 split at h
 ·cases h
 split at h
 ·cases h
 split at h
 ·cases h
 ·cases h;rfl
structure RInv (t:Tm) (l:List R5) (ps:List (Int×Int)) (day:Int) (s:RS):Prop where
 w:WInv t l ps day s
 due:∀x,s.out.getLast?=some x->x.du=(ps.getD s.out.length (0,0)).1-1+t.dued
 low:∀i,s.at'<=i->i<l.length->day<=(l.getD i yax).b
theorem yzp {l:List R5} (ha:Asc l) {day:Int} (n:Nat):∀(k:Nat) (p:Ps) (rs:List Int),k+n=l.length->(∀i,k<=i->i<l.length->day<=(l.getD i yax).b)->(evS l day n k p rs).2.2.2=0->∀i,(evS l day n k p rs).1<=i->i<l.length->day+1<=(l.getD i yax).b:= by
 induction n with
 | zero=>intro k p rs hk hl h0 i h1 h2;simp only [evS] at h1;omega
 | succ n ih =>
  intro k p rs hk hl h0;rw [yfc] at h0 ⊢
  by_cases hb:(l.getD k yax).b=day
  ·rw [if_pos hb] at h0 ⊢
   by_cases he:(ybi p rs (l.getD k yax)).2.2≠0
   ·rw [if_pos he] at h0
    exact absurd h0 he
   ·rw [if_neg he] at h0 ⊢
    exact ih _ _ _ om (fun i h1 h2=>hl i om h2) h0
  ·rw [if_neg hb]
   intro i h1 h2;simp only at h1;have h3:=hl k (Nat.le_refl _) om;rcases Nat.eq_or_lt_of_le h1 with h4 | h4
   ·subst h4;omega
   ·have:=ha k i (Nat.le_of_lt h4) h2
    omega
theorem RInv.ev {t:Tm} {l:List R5} {ps:List (Int×Int)} {day:Int} {s:RS} (h:RInv t l ps day s) (ha:Asc l) (h0:(ybh l day s).2=0):RInv t l ps day (ybh l day s).1/\∀i,(ybh l day s).1.at'<=i->i<l.length->day+1<=(l.getD i yax).b:= by
 have hat:=h.w.at';have hlow:=yzp ha (l.length-s.at') s.at' s.p s.rs om h.low h0;exact ⟨⟨h.w.ev,h.due,fun i h1 h2=>by have:=hlow i h1 h2;omega⟩,hlow⟩
theorem yu9 {t:Tm} {l:List R5} {fr til:Int} {s:RS} (h:(ydn t l fr til s).2=0):∃x,(ydn t l fr til s).1.out=s.out++[x]/\x.du=til+t.dued/\(ydn t l fr til s).1.at'=s.at':= by
 unfold ydn at h ⊢
 split
 ·rename_i h1;rw [if_pos h1] at h;exact absurd h h1
 ·rename_i h1
  rw [if_neg h1] at h
  split
  ·rename_i h2;rw [if_pos h2] at h;exact absurd h h2
  ·rename_i h2
   rw [if_neg h2] at h;cases hc:ycd t ((s.out.length:Int)+1) fr til s.p s.rs (intS t.right t.ts s.X s.Y (yet l s.out fr).1).1 (yet l s.out fr).1 with
   | mk so r =>
    obtain ⟨q,e⟩:=r;rw [hc] at h;cases so with
    | none =>
     have h3:=yek hc;simp only at h;subst h;simp at h3
    | some x=>exact ⟨x,rfl,yvx hc,rfl⟩
theorem RInv.shut {t:Tm} {l:List R5} {ps:List (Int×Int)} {f day today:Int} {s:RS} (h:RInv t l ps day s) (hc:yg9 f today ps) (hd:day<today) (hl:∀x∈s.out,x.ls.length<=t.ts.length) (hlow:∀i,s.at'<=i->i<l.length->day+1<=(l.getD i yax).b) (h0:(ybb t l ps day s).2=0):RInv t l ps (day+1) (ybb t l ps day s).1:= by
 have hw:=(yfj h.w hc hd hl h0).1;unfold ybb at h0 hw ⊢
 by_cases he:(ps.getD s.out.length (0,0)).2=day
 ·rw [if_pos he] at h0 hw ⊢
  obtain ⟨x,e1,e2,e3⟩:=yu9 h0;refine ⟨hw,fun y hy=>?_,fun i h1 h2=>hlow i (by rw [e3] at h1;exact h1) h2⟩;have hout:=hw.out;rw [e1] at hy hout ⊢
  have e4:((ydh s).out++[x]).length=s.out.length+1:= by
   rw [List.length_append]
   rfl
  rw [e4] at hout ⊢;have:=hc.next s.out.length hout;rw [List.getLast?_append] at hy;simp only [List.getLast?_singleton,Option.some_or,Option.some.injEq] at hy;subst hy;rw [e2,this,he];omega
 ·rw [if_neg he] at hw ⊢
  exact ⟨hw,h.due,hlow⟩
theorem yge (t:Tm) (l:List R5) (ps:List (Int×Int)) (k:Nat) (day:Int) (s:RS):ycm t l ps (k+1) day s=if (ybh l day s).2≠0 then ybh l day s
 else if (ybb t l ps day (ybh l day s).1).2≠0 then ybb t l ps day (ybh l day s).1
 else ycm t l ps k (day+1) (ybb t l ps day (ybh l day s).1).1:=rfl
theorem yje {t:Tm} (h:t.right=true):t.dued<=25/\1<=t.dued/\0<=t.lim/\1<=t.cyc/\t.cyc<=28:= by
 unfold Tm.right yaw at h;simp only [Bool.and_eq_true,ydr] at h;omega
theorem ytp {t:Tm} {x:R5} (h:t.rightE x=0):t.start<=x.b:= by
 unfold Tm.rightE ygo at h;generalize yaw t.lim t.ts t.cyc t.dued t.minf t.minp t.start=b0 at h;generalize (decide (x.a<1) || decide (6<x.a))=b1 at h;generalize (if (x.a == 2)=true then x.c != 0 else decide (x.c<1) || decide ((t.ts.length:Int)<x.c))=b2 at h;generalize (if (x.a == 6)=true then decide (x.d<0) || decide (10000000<x.d) else decide (x.d<1) || decide (1000000000000000<x.d))=b3 at h;cases hd:(decide (x.b<t.start) || decide (2932896<x.b)) with
 | false =>
  simp at hd;omega
 | true =>
  rw [hd] at h;cases b0 <;> cases b1 <;> cases b2 <;> cases b3 <;> simp at h
theorem RInv.first {t:Tm} {l:List R5} {ps:List (Int×Int)} {today:Int} (hc:yg9 t.start today ps) (hl:∀x∈l,t.rightE x=0):RInv t l ps t.start (rs0 t) :=
 ⟨WInv.first hc,fun x hx=>by simp [rs0] at hx,fun i _ hi=>ytp (hl _ (getD5_memL hi))⟩
 where
 getD5_memL {l:List R5} {i:Nat} (h:i<l.length):l.getD i yax∈l:= by
  simp only [List.getD,List.getElem?_eq_getElem h,Option.getD_some];exact List.getElem_mem h
section
open Go.RowKit EvM
theorem yyt {l m:List (Int×Int)} (h:l <+: m) {i:Nat} (hi:i<l.length):m.getD i (0,0)=l.getD i (0,0):= by
 obtain ⟨r,rfl⟩:=h;simp only [List.getD];rw [List.getElem?_append_left hi]
end
theorem ysw {t:Tm} (ht:t.right=true) (hs:10957<=t.start/\t.start<=11400):(ofS t.start t.cyc t.start).2=0:= by
 obtain ⟨_,_,_,h1,h2⟩:=yje ht;have hD:=yc4 (n:=t.start) om;have h6:=ydb (yc6 t.start).1 hD.hm;have h7:=hD.hd
 have hl:t.start<=ydd t.start t.cyc/\ydd t.start t.cyc<=t.start+60:= by
  unfold ydd
  split <;> omega
 have hL:yb8 t.start t.cyc=(ydd t.start t.cyc,0):= by
  unfold yb8;rw [if_neg om,if_neg om,if_neg om]
 have h3:ybd t.cyc t.start 300 t.start=([(t.start,ydd t.start t.cyc)],true):= by
  rw [ybd,hL,if_neg (by simp),if_neg (by simp only;omega)];simp [hl.1]
 unfold ofS;rw [hL,if_neg (by simp),h3]
 rfl
theorem yuh (t:Tm) (l:List R5):goS t l t.start=ybh l t.start (rs0 t):= by
 unfold goS;rw [Int.sub_self]
 rfl
theorem ylw {t:Tm} {l:List R5} (ht:t.right=true) (hs:10957<=t.start/\t.start<=11400) (hl:∀x∈l,t.rightE x=0) (hn:l.length<=2000) (hd:∀x∈l,x.b<=t.start) (h0:(ybh l t.start (rs0 t)).2=0) :
 runS t l t.start=⟨(ybh l t.start (rs0 t)).1.p,(ybh l t.start (rs0 t)).1.rs,[],0⟩:= by
 have hr:yiz t l t.start=0:= by
  unfold yiz;rw [if_neg (by simp [ht]),if_neg (by rw [ykn hl];simp),if_neg om,if_neg om,if_neg (by rw [ysw ht hs];simp),if_neg];simp only [List.any_eq_true,decide_eq_true_eq,not_exists,not_and];intro x hx;have:=hd x hx;omega
 unfold runS;rw [if_neg (by rw [hr];simp),yuh,if_neg (by rw [h0];simp)]
 rfl
def yip (t:Tm):Rn:=⟨⟨List.replicate t.ts.length 0,0,0⟩,t.ts.map (·.1),[],0⟩
def yb6 (t:Tm):Acc:=⟨t,t.start,0,[],⟨[],0⟩,yip t,[]⟩
theorem yms {t:Tm} (ht:t.right=true) (hs:10957<=t.start/\t.start<=11400):runS t [] t.start=yip t :=
 ylw ht hs (fun _ h=>by cases h) (by simp) (fun _ h=>by cases h) rfl
theorem ynp {t:Tm} (ht:t.right=true) (hs:10957<=t.start/\t.start<=11400):ycy (yb6 t) where
 goods:=⟨ht,fun _ h=>(by cases h),fun _ h=>(by cases h),by simp [yb6]⟩
 asc:=fun _ _ _ h=>by simp [yb6] at h
 run:=yms ht hs
 e:=rfl
 issl:=rfl
 issb:=fun _ h=>by simp [yb6] at h
 outl:=by simp [yb6,yip]
 outb:=fun _ h=>by simp [yb6,yip] at h
 bs:=by simp [yb6,yip]
 rs:=by simp [yb6,yip]
 seq:=Int.le_refl _
 bkd:=fun _ h=>by simp [yb6] at h
 bkl:=by simp [yb6]
def tm5:Tm:=⟨1000,[(5,false)],1,1,0,0,10957⟩
theorem ykl:tm5.right=true:=by decide
theorem jaw:(doS (yb6 tm5) ⟨1,0,1,5,0⟩).2=0:= by
 have hx:yfz (yb6 tm5) (yb6 tm5).bk ⟨1,0,1,5,0⟩=0:= by
  unfold yfz;rw [if_neg (by decide),if_neg (by decide),if_pos rfl,if_neg];show ¬(1000:Int)<wrap64 (wrap64 (yb4 [0] 0 0-0)+5);rw [show yb4 [0] 0 0=0 from by decide];unfold wrap64;omega
 have hv:evEv (yb6 tm5) (yb6 tm5).bk ⟨1,0,1,5,0⟩=⟨1,10957,1,5,0⟩:= by
  unfold evEv;rw [if_neg (by rw [hx];simp),if_pos rfl]
  rfl
 have ha:askS (yb6 tm5) ⟨1,0,1,5,0⟩=(⟨1,10957,1,5,0⟩,0,evBk (yb6 tm5) (yb6 tm5).bk ⟨1,0,1,5,0⟩):= by
  unfold askS;rw [if_neg (by decide),hx,hv]
 have hR:runS tm5 [⟨1,10957,1,5,0⟩] 10957=⟨⟨[5],0,0⟩,[5],[],0⟩:= by
  refine (ylw (t:=tm5) (l:=[⟨1,10957,1,5,0⟩]) ykl (by decide) ?_ (by decide) ?_ (by decide)).trans kr
  ·intro x h
   simp only [ms] at h;subst h
   decide
  ·intro x h
   simp only [ms] at h;subst h
   decide
 have hp:ycw (yb6 tm5) ⟨1,10957,1,5,0⟩=[⟨1,10957,1,5,0⟩]:=rfl
 have hc:(yb9 (yb6 tm5) ⟨1,10957,1,5,0⟩).2=0:= by
  unfold yb9;rw [if_neg (by decide),if_neg (by decide),hp];rw [show runS (yb6 tm5).t [⟨1,10957,1,5,0⟩] (yb6 tm5).today=_ from hR];rw [if_neg (by decide),if_neg (by decide)]
 unfold doS;rw [if_neg (by decide),if_neg (by decide),if_neg (by decide),if_neg (by decide),if_neg (by decide)];unfold yda;rw [ha,if_neg (by simp),if_neg (by decide),if_neg (by rw [hc];simp)]
theorem Rd.withL {F L:List Nat} {W:World} {φ:World->Prop} (h:Rd F W φ) (hs:∀W1 W2,yab L W1 W2->φ W1->φ W2):Rd (L++F) W φ:=fun W2 h2=>by
 let W3:World:={ W2 with heap:=W2.heap.mapIdx fun k o=>if k∈L then (W.heap[k]?).getD o else o }
 have e3:∀k,W3.heap[k]?=(W2.heap[k]?).map fun o=>if k∈L then (W.heap[k]?).getD o else o:=fun k=>by
  show (Array.mapIdx _ _)[k]?=_;rw [Array.getElem?_mapIdx]
 have h3:yab F W W3:=⟨h2.os,h2.tape,h2.output,by show _<=(Array.mapIdx _ _).size;simpa using h2.size,fun k hk1 hk2=>by
  rw [e3]
  by_cases e:k∈L
  ·rw [Array.getElem?_eq_getElem (Nat.lt_of_lt_of_le hk1 h2.size),Array.getElem?_eq_getElem hk1]
   simp [e]
  ·rw [h2.block k hk1 (by simp [e,hk2])]
   simp [e]⟩
 refine hs W3 W2 ⟨rfl,rfl,rfl,by show (Array.mapIdx _ _).size<=_;simp,fun k _ hk2=>?_⟩ (h W3 h3);rw [e3];simp [hk2]
theorem jcr {A:Acc} {V:AV} {B:Nat} {L:List Nat} (hi:yyo B V) (hL:∀x∈L,x<B) (W1 W2:World) (k:yab L W1 W2) (q:jai A V W1):jai A V W2:= by
 have hO:∀v,Hi B v->OffF L v:=fun v hv b o n c e hn hm=>by
  have h1:=hv b o n c e hn;have h2:=hL b hm;omega
 have hN:∀x,B<=x->x∉L:=fun x hx hm=>by
  have h2:=hL x hm;omega
 obtain ⟨i1,i2,i3,i4,i5,i6,i7,i8,i9,i10,i11⟩:=hi;exact ⟨q.1.keep k (hO _ i1),q.2.1.keep k (hN _ i2) (hO _ i3) (hO _ i4),⟨Nat.zero_le _,q.2.2.1.2.1.keep k (hN _ i5),yap q.2.2.1.2.2 k (fun r hr=>hN _ (i6 r hr))⟩,q.2.2.2.1.keep k (hO _ i7),q.2.2.2.2.1.keep k (hO _ i8),⟨q.2.2.2.2.2.1.1.keep k (fun v hv=>hO v (i10 v hv)),Fl.keep q.2.2.2.2.2.1.2 k (hO _ i9)⟩,q.2.2.2.2.2.2.keep k (fun v hv=>hO v (i11 v hv))⟩
theorem ybe.withL {lo lo' g B:Nat} {A:Acc} {F L:List Nat} {w:World} {V:AV} (h:ybe lo g A F w V) (hi:yyo B V) (hL:∀x∈L,lo'<=x/\x<B/\x<w.heap.size) (hlo:lo'<=lo):ybe lo' g A (L++F) w V:= by
 obtain ⟨n,cs,k1,k2,k3⟩:=h.adj;refine ⟨h.blk,List.mem_append_right _ h.gF,fun x hx=>?_,h.rd.withL (jcr hi (fun x hx=>(hL x hx).2.1)),yco h.iss hlo,fun q hq=>List.mem_append_right _ (h.issF q hq),⟨n,cs,k1,k2,yco k3 hlo⟩,fun q hq=>List.mem_append_right _ (h.adjF q hq)⟩;rcases List.mem_append.1 hx with h1 | h1
 ·exact ⟨(hL x h1).1,(hL x h1).2.2⟩
 ·exact ⟨Nat.le_trans hlo (h.lt x h1).1,(h.lt x h1).2⟩
theorem ybe.step {lo g:Nat} {A:Acc} {F F' L:List Nat} {w w':World} {V:AV} (h:ybe lo g A F w V) (hk:yab L w w') (hL:∀x∈L,x∈F\/w.heap.size<=x) (hF:∀x∈F',x∈F\/(w.heap.size<=x/\x<w'.heap.size)) (hs:∀x∈F,x∈F')
 (hg:g∉L) (hi:∀q,V.iv.ownBlock=some q->q∉L) (ha:∀q,V.av.ownBlock=some q->q∉L):ybe lo g A F' w' V:= by
 obtain ⟨n,cs,k1,k2,k3⟩:=h.adj;have hg0:=h.lt g h.gF;refine ⟨h.blk.keep hk hg,hs _ h.gF,fun x hx=>?_,h.rd.step hk hL (fun x hx=>(hF x hx).imp_right And.left),yap h.iss hk hi,fun q hq=>hs _ (h.issF q hq),⟨n,cs,k1,k2,yap k3 hk ha⟩,fun q hq=>hs _ (h.adjF q hq)⟩;rcases hF x hx with h1 | h1
 ·exact ⟨(h.lt x h1).1,Nat.lt_of_lt_of_le (h.lt x h1).2 hk.size⟩
 ·exact ⟨by omega,h1.2⟩
structure SrvX (lo gsx gj ga gp g n N k:Nat) (lv:Value) (st:Nat->Int) (A:Acc) (F:List Nat) (w:World) (V:AV):Prop where
 s:Blk w gsx 119 [pV gp,pV gj,pV g]
 j:ycl lo gj gp lv k N w
 k:k<=N
 p:ybm lo gp ga n st w
 z:∀i,N<=i->st i=0
 a:ybe lo g A F w V
 sF:∀x∈gsx::gj::ga::gp::ownL lv,x∈F
def ja8 (lo gsx:Nat) (A:Acc) (n N:Nat) (F:List Nat) (w:World):Prop:=∃gj ga gp g k lv st V,SrvX lo gsx gj ga gp g n N k lv st A F w V
section
variable {lo gsx gj ga gp g n N k:Nat} {lv:Value} {st:Nat->Int} {A A':Acc} {F:List Nat} {w w':World} {V:AV}
theorem SrvX.below (h:SrvX lo gsx gj ga gp g n N k lv st A F w V) (hb:BW w w'):SrvX lo gsx gj ga gp g n N k lv st A F w' V :=
 ⟨h.s.below hb,h.j.below hb,h.k,h.p.below hb,h.z,h.a.below hb,h.sF⟩
theorem ja8.below (h:ja8 lo gsx A n N F w) (hb:BW w w'):ja8 lo gsx A n N F w':= by
 obtain ⟨gj,ga,gp,g,k,lv,st,V,h⟩:=h;exact ⟨gj,ga,gp,g,k,lv,st,V,h.below hb⟩
theorem ja8.low (h:ja8 lo gsx A n N F w):∀x∈F,lo<=x/\x<w.heap.size:= by
 obtain ⟨gj,ga,gp,g,k,lv,st,V,h⟩:=h;exact h.a.lt
theorem SrvX.kinds (h:SrvX lo gsx gj ga gp g n N k lv st A F w V):∀x∈gsx::gj::ga::gp::ownL lv,∃e cs,Blk w x e cs/\e≠89/\e≠43/\e≠175/\e≠45:= by
 obtain ⟨cs0,_,p1,p2,_⟩:=h.p;obtain ⟨_,j1,cs,own,_⟩:=h.j;intro x hx;rcases List.mem_cons.1 hx with rfl | hx
 ·exact ⟨_,_,h.s,by decide,by decide,by decide,by decide⟩
 rcases List.mem_cons.1 hx with rfl | hx
 ·exact ⟨_,_,j1,by decide,by decide,by decide,by decide⟩
 rcases List.mem_cons.1 hx with rfl | hx
 ·exact ⟨_,_,p2,by decide,by decide,by decide,by decide⟩
 rcases List.mem_cons.1 hx with rfl | hx
 ·exact ⟨_,_,p1,by decide,by decide,by decide,by decide⟩
 ·obtain ⟨cur,hb⟩:=yry own (yxf hx)
  exact ⟨_,_,hb,by decide,by decide,by decide,by decide⟩
theorem yab.less {F L:List Nat} {w w':World} (h:yab F w w') (hL:∀x∈L,x<w.heap.size->w'.heap[x]?=w.heap[x]?):yab (F.filter (fun x=>decide (x∉L))) w w' :=
 ⟨h.os,h.tape,h.output,h.size,fun k hk hn=>by
  by_cases e:k∈L
  ·exact hL k e hk
  ·exact h.block k hk (fun hm=>hn (by simp [hm,e]))⟩
theorem ybw.same {x:Nat} {e:TypeId} {cs:List Value} (hO:ybw w w') (hb:Blk w x e cs) (h1:e≠89) (h2:e≠43) (h3:e≠175):w'.heap[x]?=w.heap[x]?:=Eq.trans (hO x e cs hb h1 h2 h3) (Eq.symm hb)
theorem SrvX.acc (h:SrvX lo gsx gj ga gp g n N k lv st A F w V) {F0:List Nat} (hK:yab F0 w w') (hO:ybw w w') :
 Blk w' gsx 119 [pV gp,pV gj,pV g]/\ycl lo gj gp lv k N w'/\ybm lo gp ga n st w':= by
 have hk:=hK.less (L:=gsx::gj::ga::gp::ownL lv) (fun x hx _=>by
  obtain ⟨e,cs,hb,e1,e2,e3,_⟩:=h.kinds x hx;exact hO.same hb e1 e2 e3)
 have hn:∀x∈gsx::gj::ga::gp::ownL lv,x∉F0.filter (fun x=>decide (x∉gsx::gj::ga::gp::ownL lv)):=fun x hx hm=>by
  have:=(List.mem_filter.1 hm).2;simp only [decide_eq_true_eq] at this;exact this hx
 exact ⟨h.s.keep hk (hn _ (by simp)),h.j.off hk (hn _ (by simp)) (fun q hq=>hn _ (by simp [yx4 hq])),h.p.keep hk (hn _ (by simp)) (hn _ (by simp))⟩
end
def yl3 (lo gp ga n:Nat) (t:Tm) (w:World) (e:Ending) (w':World):Prop :=
 ∃gsx N F,e=.returned (.tuple #[pV gsx,iZ])/\ja8 lo gsx (yb6 t) n N F w'/\N<=4/\yab [ga,gp] w w'
theorem ycl.lower {lo lo' gj gp k used:Nat} {lv:Value} {w:World} (h:ycl lo gj gp lv k used w) (hl:lo'<=lo):ycl lo' gj gp lv k used w:= by
 obtain ⟨a,b,cs,c,d⟩:=h;exact ⟨Nat.le_trans hl a,b,cs,yco c hl,d⟩
theorem yx1 {lo gp ga n gsx gj g N:Nat} {t:Tm} {lv:Value} {st:Nat->Int} {w W5 w8 w9:World} {F:List Nat} {V:AV}
 (h1:Blk w8 gsx 119 [pV gp,pV gj,pV g]) (hj:ycl w.heap.size gj gp lv 1 N w9) (hN:1<=N/\N<=4) (hp:ybm lo gp ga n st w9) (hs:∀i,N<=i->st i=0)
 (ha:ybe W5.heap.size g (yb6 t) F w8 V) (hi:yyo W5.heap.size V) (hF:∀x∈F,W5.heap.size<=x) (ho:ga<w.heap.size/\gp<w.heap.size) (hlt:w.heap.size<=gsx/\gsx<gj/\gj<W5.heap.size) (h58:yab [ga,gp] w w8) (hk:yab [gj,ga,gp] w8 w9)
 (hlo:lo<=w.heap.size) (hz:W5.heap.size<=w8.heap.size) (hov:∀x∈ownL lv,w8.heap.size<=x) :
 yl3 lo gp ga n t w (.returned (.tuple #[pV gsx,iZ])) w9:= by
 have pl:lo<=gp/\lo<=ga:=hp.choose_spec.1;have own:=hj.2.2.choose_spec.1
 have hin:∀x,x∈[gj,ga,gp]->x<W5.heap.size:=fun x hx=>by
  simp only [List.mem_cons,List.not_mem_nil,or_false] at hx;omega
 have hno:∀x∈F,x∉[gj,ga,gp]:=fun x hx hm=>by
  have h2:=hF x hx;have h3:=hin x hm;omega
 have ha2:=ha.withL (L:=[gsx,gj,ga,gp]) (lo':=lo) hi (fun x hx=>by
  simp only [List.mem_cons,List.not_mem_nil,or_false] at hx;omega) om
 have hF0:∀x,x∈[gj,ga,gp]->x∈[gsx,gj,ga,gp]++F:=fun x hx=>List.mem_append_left _ (List.mem_cons_of_mem _ hx)
 refine ⟨gsx,N,ownL lv++([gsx,gj,ga,gp]++F),rfl,⟨gj,ga,gp,g,1,lv,st,V,h1.keep hk (by simp only [List.mem_cons,List.not_mem_nil,or_false];omega),hj.lower hlo,hN.1,hp,hs,ha2.step hk (fun x hx=>.inl ?_) (fun x hx=>?_) (fun x hx=>List.mem_append_right _ hx) (hno g ha.gF) (fun q hq=>hno q (ha.issF q hq)) (fun q hq=>hno q (ha.adjF q hq)),fun x hx=>?_⟩,hN.2,h58.trans hk (fun x hx=>by
  simp only [List.mem_cons,List.not_mem_nil,or_false] at hx ⊢;omega)⟩
 ·exact hF0 x hx
 ·rcases List.mem_append.1 hx with h2 | h2
  ·exact .inr ⟨hov x h2,(own.lt _ (yxf h2)).2⟩
  ·exact .inl h2
 ·rcases List.mem_cons.1 hx with e | hx
  ·exact List.mem_append_right _ (List.mem_append_left _ (by simp [e]))
  rcases List.mem_cons.1 hx with e | hx
  ·exact List.mem_append_right _ (List.mem_append_left _ (by simp [e]))
  rcases List.mem_cons.1 hx with e | hx
  ·exact List.mem_append_right _ (List.mem_append_left _ (by simp [e]))
  rcases List.mem_cons.1 hx with e | hx
  ·exact List.mem_append_right _ (List.mem_append_left _ (by simp [e]))
  ·exact List.mem_append_left _ hx
theorem yqu (lo gp ga n:Nat) (t:Tm) (tv:Value) (ht:t.right=true) (hs:10957<=t.start/\t.start<=11400) (hn:10<=n/\n<=20000) (w:World) (hp:ybm lo gp ga n (fun _=>0) w) (hv:TrS w tv t.ts) (hof:OffF [ga,gp] tv) (hlo:lo<=w.heap.size) :
 Calls Tryz.prog 32 #[pV gp,.agg (t.cells tv).toArray] w (yl3 lo gp ga n t w):= by
 have HP:=lh hp;have HV:=lh hv;have HOF:=lh hof;have HLO:=lh hlo;have HT:=lh (And.intro ht hs);have HN:=lh hn
 have HG:Hid (ga<w.heap.size/\gp<w.heap.size):= by
  obtain ⟨cs0,_,g2,g3,_⟩:=hp;exact ⟨g3.lt,g2.lt⟩
 obtain ⟨bs,hbs,HBL⟩:∃bs,yqv t.lim t.ts t.cyc t.dued t.minf t.minp t.start=(bs,0)/\Hid (1<=bs.length/\bs.length<=128):= by
  have h1:=yci ht;refine ⟨yss t.lim t.ts t.cyc t.dued t.minf t.minp t.start,?_,?_⟩
  ·unfold yqv
   exact if_pos ht
  ·have h2:=yff t.lim t.ts t.cyc t.dued t.minf t.minp t.start (Nat.le_refl t.ts.length)
   have h3:yde t.lim t.ts t.cyc t.dued t.minf t.minp t.start t.ts.length=yss t.lim t.ts t.cyc t.dued t.minf t.minp t.start:= by
    unfold yde yss;rw [List.take_length]
   rw [h3] at h2;show _/\_;omega
 obtain ⟨tao,tc,rfl⟩:=hv.shape;clear hp hv hof ht hs hn hlo;unfold Tm.cells;obtain ⟨W1,hW1,X1,B1⟩:∃W,w.alloc (.cells #[iV t.lim,.slice tao t.ts.length tc,iV t.cyc,iV t.dued,iV t.minf,iV t.minp,iV t.start] 24)=W/\Hid (Blk W w.heap.size 24 [iV t.lim,.slice tao t.ts.length tc,iV t.cyc,iV t.dued,iV t.minf,iV t.minp,iV t.start])/\Hid (BW w W):=⟨_,rfl,yae w _ _ _ rfl,yaa bR _⟩
 go_enter Tryz.func32,Tryz.ntmps32
 go_upto_region 1 with fail
 try with_reducible rw [hW1]
 clear hW1;refine yd1 (fun _ _ _=>False) ?first ?pass
 case pass=>exact fun _ _ _ h=>h.elim
 obtain ⟨c0,c1,c2,c3,c4,c5,c6,-⟩:=X1.out.cs [0,1,2,3,4,5,6];simp only [gz,gs] at c0 c1 c2 c3 c4 c5 c6;have kx:=X1.out.lt
 go_wp2_with fail
 have hpk:=yk0 _ t.ts t.lim t.cyc t.dued t.minf t.minp t.start _ (HV.out.below B1.out);rw [hbs] at hpk;refine hpk.mono ?_;clear hpk hbs c0 c1 c2 c3 c4 c5 c6 kx;rintro _ w2 ⟨u,rfl,hu,hfu,hb2⟩
 replace hu:Sl .u8 w2 u bs:=hu
 obtain ⟨uo,uc,rfl⟩:=hu.shape;have U2:=lh hu
 have FU:Hid (OffF [ga,gp] (.slice uo bs.length uc)):=fun b o m c e hm hx=>by
  have h1:=hfu b o m c e hm;have h2:=HG.out;have h3:=B1.out.size;simp only [List.mem_cons,List.not_mem_nil,or_false] at hx;omega
 have UB:Hid (∀b o m c,Value.slice uo bs.length uc=sL b o m c->0<m->b<w2.heap.size):=fun b o m c e hm=>Sl.blt (e▸hu) hm;have X2:=lh (X1.out.below hb2);have B2:Hid (BW w w2):=yad B1.out hb2;clear hu hfu hb2
 go_wp2_with fail
 obtain ⟨W3,hW3,S3,B3⟩:∃W,w2.alloc (.cells #[pV gp,.pointer none,.pointer none] 119)=W/\Hid (Blk W w2.heap.size 119 [pV gp,.pointer none,.pointer none])/\Hid (BW w2 W):=⟨_,rfl,yae w2 _ _ _ rfl,yaa bR _⟩;try with_reducible rw [hW3]
 clear hW3;refine (yu2 (by have:=HN.out;omega) ((HP.out.below B2.out).below B3.out)).mono ?_;rintro _ w4 ⟨gj,rfl,j4,p4,k4⟩;have HS:Hid (w.heap.size<=w2.heap.size/\w2.heap.size<W3.heap.size/\W3.heap.size<=w4.heap.size/\W3.heap.size<=gj/\gj<w4.heap.size):=⟨B2.out.size,S3.out.lt,k4.size,j4.1,j4.2.1.lt⟩
 have hgs:w2.heap.size∉[ga,gp]:= by
  have h1:=HG.out;have h2:=HS.out;simp only [List.mem_cons,List.not_mem_nil,or_false];omega
 have J4:=lh j4;have P4:=lh p4;have S4:=lh (S3.out.keep k4 hgs)
 have X4:Hid (Blk w4 w.heap.size 24 [iV t.lim,.slice tao t.ts.length tc,iV t.cyc,iV t.dued,iV t.minf,iV t.minp,iV t.start]):=(X2.out.below B3.out).keep k4 (by
  have h1:=HG.out;simp only [List.mem_cons,List.not_mem_nil,or_false];omega)
 have U4:Hid (Sl .u8 w4 (.slice uo bs.length uc) bs):=(U2.out.below B3.out).keep k4 FU.out;have T4:Hid (TrS w4 (.slice tao t.ts.length tc) t.ts):=((HV.out.below B2.out).below B3.out).keep k4 HOF.out;have K4:Hid (yab [ga,gp] w w4):=(yab.of_below (yad B2.out B3.out):yab [ga,gp] w W3).trans k4 (fun x hx=>.inl hx);clear j4 p4 k4 hgs;have s1:=S4.out.cell 1;simp only [gz,gs] at s1;have sf1:=S4.out.frozen 1;have ks:=S4.out.lt;go_upto_region 7 with fail
 obtain ⟨W5,hW5,S5,k5⟩:∃W,w4.setCell (Ad w2.heap.size 1) (pV gj)=W/\Hid (Blk W w2.heap.size 119 [pV gp,pV gj,.pointer none])/\yab [w2.heap.size] w4 W:=⟨_,rfl,S4.out.set 1 _,(yab.refl _ _).sg _⟩;try with_reducible rw [hW5]
 clear hW5 s1 sf1 ks;have hns:∀x,x≠w2.heap.size->x∉[w2.heap.size]:=fun x hx=>by simpa using hx
 have J5:Hid (ycl W3.heap.size gj gp (sZ) 0 0 W5):=J4.out.off k5 (hns _ (by have:=HS.out;omega)) (fun q hq=>by cases hq);have P5:Hid (ybm lo gp ga n (fun _=>0) W5):=P4.out.keep k5 (hns _ (by have:=HS.out;have:=HG.out;omega)) (hns _ (by have:=HS.out;have:=HG.out;omega));have X5:Hid (Blk W5 w.heap.size 24 [iV t.lim,.slice tao t.ts.length tc,iV t.cyc,iV t.dued,iV t.minf,iV t.minp,iV t.start]):=X4.out.keep k5 (hns _ (by have:=X1.out.lt;have:=X2.out.lt;omega))
 have U5:Hid (Sl .u8 W5 (.slice uo bs.length uc) bs):=U4.out.keep k5 (fun b o m c e hm hx=>by
  have h1:=UB.out b o m c e hm;simp only [ms] at hx;omega)
 have T5:Hid (TrS W5 (.slice tao t.ts.length tc) t.ts):=T4.out.keep k5 (Fl.offNew HV.out.fl (by decide) (fun x hx=>by
  simp only [ms] at hx;have:=HS.out;omega))
 have K5:Hid (yab [ga,gp] w W5):=K4.out.trans k5 (fun x hx=>by
  simp only [ms] at hx;have:=HS.out;exact .inr om)
 have HZ5:Hid (w4.heap.size<=W5.heap.size):=k5.size;clear k5 hns;obtain ⟨c0,c1,c2,c3,c4,c5,c6,-⟩:=X5.out.cs [0,1,2,3,4,5,6];simp only [gz,gs] at c0 c1 c2 c3 c4 c5 c6;have kx:=X5.out.lt
 go_wp2_with fail
 refine (ylj t (.slice tao t.ts.length tc) HT.out.1 (yip t) (yms HT.out.1 HT.out.2) rfl _ T5.out).mono ?_;clear c0 c1 c2 c3 c4 c5 c6 kx;rintro _ w6 ⟨g,F,V,rfl,ha,hi,hb6⟩;have A6:=lh ha;have HI:=lh hi;have S6:=lh (S5.out.below hb6);have J6:=lh (J5.out.below hb6);have P6:=lh (P5.out.below hb6);have U6:=lh (U5.out.below hb6);have HF:Hid (∀x∈F,W5.heap.size<=x):=fun x hx=>(ha.lt x hx).1;have K6:Hid (yab [ga,gp] w w6):=K5.out.below hb6;have HZ6:Hid (W5.heap.size<=w6.heap.size):=hb6.size;clear ha hi hb6;have s2:=S6.out.cell 2;simp only [gz,gs] at s2;have sf2:=S6.out.frozen 2;have ks:=S6.out.lt;go_upto_region 9 with fail
 obtain ⟨W7,hW7,S7,k7⟩:∃W,w6.setCell (Ad w2.heap.size 2) (pV g)=W/\Hid (Blk W w2.heap.size 119 [pV gp,pV gj,pV g])/\yab [w2.heap.size] w6 W:=⟨_,rfl,S6.out.set 2 _,(yab.refl _ _).sg _⟩;try with_reducible rw [hW7]
 clear hW7 s2 sf2 ks;have hns:∀x,x≠w2.heap.size->x∉[w2.heap.size]:=fun x hx=>by simpa using hx
 have J7:Hid (ycl W3.heap.size gj gp (sZ) 0 0 W7):=J6.out.off k7 (hns _ (by have:=HS.out;omega)) (fun q hq=>by cases hq);have P7:Hid (ybm lo gp ga n (fun _=>0) W7):=P6.out.keep k7 (hns _ (by have:=HS.out;have:=HG.out;omega)) (hns _ (by have:=HS.out;have:=HG.out;omega))
 have U7:Hid (Sl .u8 W7 (.slice uo bs.length uc) bs):=U6.out.keep k7 (fun b o m c e hm hx=>by
  have h1:=UB.out b o m c e hm;simp only [ms] at hx;omega)
 have A7:Hid (ybe W5.heap.size g (yb6 t) F W7 V):=A6.out.off HI.out HF.out (fun x hx=>by
  simp only [ms] at hx;have:=HS.out;have:=HZ5.out;omega) k7
 have HZ7:Hid (W5.heap.size<=W7.heap.size):=Nat.le_trans HZ6.out k7.size
 have K7:Hid (yab [ga,gp] w W7):=K6.out.trans k7 (fun x hx=>by
  simp only [ms] at hx;have:=HS.out;exact .inr om)
 clear k7 hns;have s1:=S7.out.cell 1;have ks:=S7.out.lt
 go_wp2_with fail
 refine (ymf J7.out).mono ?_;rintro _ w8 ⟨rfl,hb8⟩;have S8:=lh (S7.out.below hb8);have J8:=lh (J7.out.below hb8);have P8:=lh (P7.out.below hb8);have U8:=lh (U7.out.below hb8);have A8:=lh (A7.out.below hb8);have HZ8:Hid (W5.heap.size<=w8.heap.size):=Nat.le_trans HZ7.out hb8.size;have K8:Hid (yab [ga,gp] w w8):=K7.out.below hb8;clear s1 ks hb8;have s1:=S8.out.cell 1;have ks:=S8.out.lt
 go_wp2_with fail
 refine (yrr (N:=(bs.length+40)/41) _ bs (by have:=HN.out;omega) J8.out P8.out (fun _ _=>rfl) U8.out FU.out (by have:=HBL.out;omega) rfl (by have:=HBL.out;have:=HN.out;omega) (by decide)).mono ?_;rintro _ w9 ⟨rfl,lv,st,j9,p9,st9,k9,o9⟩;have HE:Hid (yl3 lo gp ga n t w (.returned (.tuple #[pV w2.heap.size,iZ])) w9):=yx1 S8.out (j9.lower (by have:=HS.out;omega)) (by have:=HBL.out;omega) p9 st9 A8.out HI.out HF.out HG.out (by have:=HS.out;have:=HZ5.out;omega) K8.out k9 HLO.out HZ8.out (fun x hx=>(o9 x hx).resolve_left (fun h=>by cases h));clear s1 ks j9 p9 st9 k9 o9
 go_wp2_with fail
 go_ret2
 exact HE.out
end Go.Proofs.YtkongpjpkpfniaaGreat

/- TopPaid: parts of the proof, made small by a program (mini.py). -/
import Derived.Test.YtkongpjpkpfniaaGreatM01
import Derived.Test.YtkongpjpkpfniaaGreatM36
set_option linter.unusedVariables false
set_option linter.unusedSimpArgs false
set_option maxRecDepth 100000
set_option maxHeartbeats 6400000
namespace Go.Proofs.YtkongpjpkpfniaaGreat
open Go.RowKit
structure ycy (A:Acc):Prop where
 goods:yha A.t A.ev A.today
 asc:Asc A.ev
 run:runS A.t A.ev A.today=A.R
 e:A.R.e=0
 issl:A.iss.length=A.R.out.length
 issb:∀i,i<A.iss.length→(A.iss.getD i St0).ls.length≤1000
 outl:A.R.out.length≤300
 outb:∀i,i<A.R.out.length→(A.R.out.getD i St0).ls.length≤1000
 bs:A.R.p.bs.length=A.t.ts.length
 rs:A.R.rs.length=A.t.ts.length
 seq:0≤A.seq
 bkd:∀d∈A.bk.ds,d.c≤A.today
 bkl:A.bk.ds.length≤2000
def ycw (A:Acc) (x:R5):List R5:=insL A.ev (ydc x.b A.ev A.ev.length) x
noncomputable def yb9 (A:Acc) (x:R5):Acc×Int :=
 if A.t.rightE x≠0 then (A,A.t.rightE x)
 else if 2000≤A.ev.length then (A,14)
 else if (runS A.t (ycw A x) A.today).e≠0 then (A,(runS A.t (ycw A x) A.today).e)
 else if btwE A.R.out (runS A.t (ycw A x) A.today).out≠0 then (A,btwE A.R.out (runS A.t (ycw A x) A.today).out)
 else ({ A with ev:=ycw A x,R:=runS A.t (ycw A x) A.today,seq:=A.seq+1 },0)
theorem yj9 (day:Int) (l:List R5) (n:Nat):ydc day l n≤n:= by
 induction n with
 | zero=>exact Nat.le_refl _
 | succ k ih =>
  unfold ydc
  split
  ·omega
  ·exact Nat.le_refl _
theorem ypi (day:Int) (l:List R5) (n:Nat):(∀i,ydc day l n≤i→i<n→day<(l.getD i yax).b)∧(0<ydc day l n→(l.getD (ydc day l n-1) yax).b≤day):= by
 induction n with
 | zero=>exact ⟨fun i h1 h2=>absurd h2 om,fun h=>absurd h (by simp [ydc])⟩
 | succ k ih =>
  unfold ydc
  split
  ·rename_i h
   refine ⟨fun i h1 h2=>?_,ih.2⟩;rcases Nat.lt_succ_iff_lt_or_eq.1 h2 with h3 | rfl
   ·exact ih.1 i h1 h3
   ·exact h
  ·rename_i h
   exact ⟨fun i h1 h2=>absurd h2 om,fun _=>by simpa using Int.not_lt.1 h⟩
theorem yrw (l:List R5) (p i:Nat) (x:R5) (hp:p≤l.length):(insL l p x).getD i yax=if i<p then l.getD i yax else if i=p then x else l.getD (i-1) yax:= by
 unfold insL;simp only [List.getD]
 by_cases h1:i<p
 ·rw [if_pos h1,List.append_assoc,List.getElem?_append_left (by rw [List.length_take];omega),List.getElem?_take_of_lt h1]
 ·rw [if_neg h1]
  by_cases h2:i=p
  ·subst h2
   rw [if_pos rfl,List.append_assoc,List.getElem?_append_right (by rw [List.length_take];omega),List.length_take,Nat.min_eq_left hp,Nat.sub_self];simp
  ·rw [if_neg h2,List.append_assoc,List.getElem?_append_right (by rw [List.length_take];omega),List.length_take,Nat.min_eq_left hp]
   obtain ⟨j,rfl⟩:∃j,i=p+1+j:=⟨i-p-1,by omega⟩;have e1:p+1+j-p=j+1:=by omega
   have e2:p+1+j-1=p+j:=by omega
   rw [e1,e2];simp
theorem yus {l:List R5} (h:Asc l) (x:R5):Asc (insL l (ydc x.b l l.length) x):= by
 have hp:=yj9 x.b l l.length;obtain ⟨s1,s2⟩:=ypi x.b l l.length;generalize ydc x.b l l.length=p at *;have low:∀i,i<p→(l.getD i yax).b≤x.b:=fun i hi=>Int.le_trans (h i (p-1) om om) (s2 om);intro i j hij hj;rw [yga _ _ _ hp] at hj;rw [yrw _ _ _ _ hp,yrw _ _ _ _ hp]
 by_cases a1:i<p
 ·rw [if_pos a1]
  by_cases b1:j<p
  ·rw [if_pos b1];exact h i j hij om
  ·rw [if_neg b1]
   by_cases b2:j=p
   ·rw [if_pos b2];exact low i a1
   ·rw [if_neg b2];exact h i (j-1) om om
 ·rw [if_neg a1,if_neg (show ¬j<p by omega)]
  by_cases a2:i=p
  ·rw [if_pos a2]
   by_cases b2:j=p
   ·rw [if_pos b2];exact Int.le_refl _
   ·rw [if_neg b2];exact Int.le_of_lt (s1 (j-1) om om)
  ·rw [if_neg a2,if_neg (show ¬j=p by omega)]
   exact h (i-1) (j-1) om om
theorem yrz {l:List R5} {p:Nat} {x y:R5} (h:y∈insL l p x):y=x∨y∈l:= by
 unfold insL at h;simp only [List.mem_append,ms] at h;rcases h with (h | h) | h
 ·exact .inr (List.mem_of_mem_take h)
 ·exact .inl h
 ·exact .inr (List.mem_of_mem_drop h)
theorem ykf {A:Acc} (h:ycy A) {x:R5} (hx:A.t.rightE x=0) (hd:x.b≤A.today) (hl:A.ev.length<2000):yha A.t (ycw A x) A.today :=
 ⟨h.goods.terms,fun y hy=>(yrz hy).elim (fun e=>e▸hx) (h.goods.events y),fun y hy=>(yrz hy).elim (fun e=>e▸hd) (h.goods.late y),by
  unfold ycw;rw [yga _ _ _ (yj9 _ _ _)];omega⟩
section
variable {P:Program} {w:World}
theorem ygs {o:Oper} {a:Act} {K:Act→World→Prop} {Q:Exit→Act→World→Prop} (s x:Operand) (t:TypeId)
 (ho:o.op=.call { callee:=.builtin .append,args:=#[s,x],argTypes:=#[t,t] })
 (base:Nat) (e:TypeId) (i:TypeInfo) (z:Value) (size bytes:Nat) (ht:P.underlying t=some (.slice e)) (hi:P.info? e=some i) (hz:i.zero=some z)
 (hsize:i.size=size) (hby:i.bytes=bytes) (hzs:z.cells.size=size) (hsz:0<size)
 (v:Value) (n:Nat) (xs:List Value) (hs:a.eval s=v) (hown:w.ownsRow base e size v n xs)
 (ao:Option Addr) (m c:Nat) (news:List Value) (hx:a.eval x=.slice ao m c) (hl:news.length=m*size) (hnone:ao=none→m=0∧c=0) (hnews:∀ad,ao=some ad→∀j u,news[j]?=some u→w.cell? (ad.add j)=some u) (h1:∀u∈news,u.oneCell'=true)
 (h63:n+m≤maxLen) (hbytes:(n+m)*bytes≤140737488355328) (hbase:base≤w.heap.size)
 (h:∀v' w',w'.ownsRow base e size v' (n+m) (xs++news)→w.grownBy w' v.ownBlock→(v'.ownBlock=v.ownBlock∨v'.ownBlock=some w.heap.size)→K (a.put o.dst v') w'):o.wp P a w K Q:= by
 cases ao with
 | some ad=>exact yee w s x t ho base e i z size bytes ht hi hz hsize hby hzs hsz v n xs hs hown ad m c news hx hl (hnews ad rfl) h1 h63 hbytes hbase h
 | none =>
  obtain ⟨rfl,rfl⟩:=hnone rfl;obtain rfl:news=[]:=List.eq_nil_of_length_eq_zero (by simpa using hl);have hr:=run_append_owned_none (P:=P) w base t o.type e i size ht hi v n xs hown;unfold Oper.wp execOp;simp only [ho,resolve,invoke,builtin,Sem.run_bind,Sem.run_pure,Result.andThen_ok,List.map_toArray,List.map_cons,List.map_nil,hs,hx,hr];exact h v w (by simpa using hown) (World.grownBy.refl _ _) (.inl rfl)
theorem yen {ops:Array Oper} {rest:List Oper} {o:Oper} {a:Act} {Q:Exit→Act→World→Prop} (hgd:o.guard=none) (s x:Operand) (t:TypeId)
 (ho:o.op=.call { callee:=.builtin .append,args:=#[s,x],argTypes:=#[t,t] })
 (base:Nat) (e:TypeId) (i:TypeInfo) (z:Value) (size bytes:Nat) (ht:P.underlying t=some (.slice e)) (hi:P.info? e=some i) (hz:i.zero=some z)
 (hsize:i.size=size) (hby:i.bytes=bytes) (hzs:z.cells.size=size) (hsz:0<size)
 (v:Value) (n:Nat) (xs:List Value) (hs:a.eval s=v) (hown:w.ownsRow base e size v n xs)
 (ao:Option Addr) (m c:Nat) (news:List Value) (hx:a.eval x=.slice ao m c) (hl:news.length=m*size) (hnone:ao=none→m=0∧c=0) (hnews:∀ad,ao=some ad→∀j u,news[j]?=some u→w.cell? (ad.add j)=some u) (h1:∀u∈news,u.oneCell'=true)
 (h63:n+m≤maxLen) (hbytes:(n+m)*bytes≤140737488355328) (hbase:base≤w.heap.size)
 (h:∀v' w',w'.ownsRow base e size v' (n+m) (xs++news)→w.grownBy w' v.ownBlock→(v'.ownBlock=v.ownBlock∨v'.ownBlock=some w.heap.size)→wpList P ops Q rest (a.put o.dst v') w'):wpList P ops Q (o::rest) a w :=
 wpList_plain hgd fun _ hK=>ygs s x t ho base e i z size bytes ht hi hz hsize hby hzs hsz v n xs hs hown ao m c news hx hl hnone hnews h1 h63 hbytes hbase fun v' w' h2 h3 h4=>hK _ _ (h v' w' h2 h3 h4)
theorem yd2 {ops:Array Oper} {o:Oper} {a:Act} {K:Act→World→Prop} {Q:Exit→Act→World→Prop} {E:Prop} (hgd:o.guard=none) (s x:Operand) (t:TypeId)
 (ho:o.op=.call { callee:=.builtin .append,args:=#[s,x],argTypes:=#[t,t] })
 (base:Nat) (e:TypeId) (i:TypeInfo) (z:Value) (size bytes:Nat) (ht:P.underlying t=some (.slice e)) (hi:P.info? e=some i) (hz:i.zero=some z)
 (hsize:i.size=size) (hby:i.bytes=bytes) (hzs:z.cells.size=size) (hsz:0<size)
 (v:Value) (n:Nat) (xs:List Value) (hs:a.eval s=v) (hown:w.ownsRow base e size v n xs)
 (ao:Option Addr) (m c:Nat) (news:List Value) (hx:a.eval x=.slice ao m c) (hl:news.length=m*size) (hnone:ao=none→m=0∧c=0) (hnews:∀ad,ao=some ad→∀j u,news[j]?=some u→w.cell? (ad.add j)=some u) (h1:∀u∈news,u.oneCell'=true)
 (h63:n+m≤maxLen) (hbytes:(n+m)*bytes≤140737488355328) (hbase:base≤w.heap.size)
 (h:∀v' w',w'.ownsRow base e size v' (n+m) (xs++news)→w.grownBy w' v.ownBlock→(v'.ownBlock=v.ownBlock∨v'.ownBlock=some w.heap.size)→K (a.put o.dst v') w') :
 if Region.wanted o (yielded ops a.tmps)=true then Oper.wp P o a w K Q else E:= by
 have hw:Region.wanted o (yielded ops a.tmps)=true:=by simp [Region.wanted,hgd]
 rw [if_pos hw];exact ygs s x t ho base e i z size bytes ht hi hz hsize hby hzs hsz v n xs hs hown ao m c news hx hl hnone hnews h1 h63 hbytes hbase h
end
def ybw (w w':World):Prop:=∀(b:Nat) (e:TypeId) (cs:List Value),Blk w b e cs→e≠89→e≠43→e≠175→Blk w' b e cs
theorem ybw.refl (w:World):ybw w w:=fun _ _ _ h _ _ _=>h
theorem ybw.trans {a b c:World} (h:ybw a b) (k:ybw b c):ybw a c:=fun x e cs hb h1 h2 h3=>k x e cs (h x e cs hb h1 h2 h3) h1 h2 h3
theorem ybw.below {a b c:World} (h:ybw a b) (k:Below b.heap.size b c):ybw a c:=fun x e cs hb h1 h2 h3=>(h x e cs hb h1 h2 h3).below k
theorem ybw.of_below {a b:World} (k:Below a.heap.size a b):ybw a b:=(ybw.refl a).below k
def ync (lo g:Nat) (A:Acc) (F:List Nat) (w w':World):Prop:=∃F' V',ybe lo g A F' w' V'∧Stp F w F' w'∧(∀x∈F,x∈F')∧ybw w w'
theorem yv4 {lo g gl':Nat} {A:Acc} {F:List Nat} {V:AV} {w8 WA w10 WB:World} (H:ybe lo g A F w8 V) (R':Rn) (l':List R5) {u' pv' rv' nv' av':Value} {nvs':List Value} {n:Nat} {cs:List Value} {s:Int}
 (hRd:Rd F w8 (fun W=>ybn W gl' A.t V.ltv u' l'∧Sl .i64 W pv' R'.p.bs∧Sl .i64 W rv' R'.rs∧StV W nv' R'.out nvs'))
 (hKA:yab [g] w8 WA) (hown:w10.ownsRow lo 175 9 av' n cs) (hn:n≤s.toNat*400000) (h1:∀c∈cs,c.oneCell'=true)
 (hg:WA.grownBy w10 V.av.ownBlock) (hor:av'.ownBlock=V.av.ownBlock∨av'.ownBlock=some WA.heap.size)
 (hKB:yab [g] w10 WB)
 (hB:Blk WB g 89 (ybu { A with ev:=l',R:=R',seq:=s } { V with gl:=gl',lev:=u',pv:=pv',rv:=rv',nv:=nv',nvs:=nvs',av:=av' })) :
 ync lo g { A with ev:=l',R:=R',seq:=s } F w8 WB:= by
 obtain ⟨n0,cs0,_,_,h0⟩:=H.adj;have hsz:w8.heap.size≤WA.heap.size:=hKA.size;have hsz2:WA.heap.size≤w10.heap.size:=hg.size;have hg1:∀x∈[g],x∈F:=fun x hx=>by simp only [ms] at hx;exact hx▸H.gF
 have hnew:∀x∈av'.ownBlock.toList++F,x∈F∨w8.heap.size≤x:=fun x hx=>by
  rcases List.mem_append.1 hx with h2 | h2
  ·have h3:=Option.mem_toList.1 h2
   rcases hor with h4 | h4
   ·exact .inl (H.adjF x (h4▸h3))
   ·have h5:some WA.heap.size=some x:=h4▸h3
    simp only [Option.some.injEq] at h5;exact .inr om
  ·exact .inl h2
 have hK10:yab F w8 w10:=(hKA.mono hg1).grown hg (fun k hk=>.inl (H.adjF k hk));have hst:Stp F w8 (av'.ownBlock.toList++F) WB:=⟨hK10.trans hKB (fun x hx=>.inl (hg1 x hx)),hnew⟩
 have hKS:yab (g::V.av.ownBlock.toList) w8 WB:= by
  refine ((hKA.mono (F':=g::V.av.ownBlock.toList) (fun x hx=>by simp only [ms] at hx;exact hx▸List.mem_cons_self ..)).grown hg (fun k hk=>.inl (List.mem_cons_of_mem _ (Option.mem_toList.2 hk)))).trans hKB (fun x hx=>.inl ?_);simp only [ms] at hx;exact hx▸List.mem_cons_self ..
 have hown':WB.ownsRow lo 175 9 av' n cs:=yap hown hKB (fun q hq hm=>by
  simp only [ms] at hm;subst hm;rcases hor with h4 | h4
  ·exact yaj h0 H.blk (by decide) (h4▸hq).symm
  ·have h5:some WA.heap.size=some q:=h4▸hq
   simp only [Option.some.injEq] at h5;have:=H.blk.lt;omega)
 refine ⟨av'.ownBlock.toList++F,_,⟨hB,List.mem_append_right _ H.gF,fun x hx=>⟨?_,?_⟩,?_,?_,fun q hq=>List.mem_append_right _ (H.issF q hq),⟨n,cs,hn,h1,hown'⟩,fun q hq=>List.mem_append_left _ (Option.mem_toList.2 hq)⟩,hst,fun x hx=>List.mem_append_right _ hx,fun b e cb hb e1 e2 e3=>hb.keep hKS (fun hm=>?_)⟩
 ·rcases hnew x hx with h2 | h2
  ·exact (H.lt x h2).1
  ·have:=(H.lt g H.gF)
   omega
 ·rcases List.mem_append.1 hx with h2 | h2
  ·have h3:=(hown'.lt x (Option.mem_toList.1 h2))
   exact h3.2
  ·exact Nat.lt_of_lt_of_le (H.lt x h2).2 hst.keep.size
 ·exact hst.rd ((H.rd.and hRd).imp fun W q=>⟨q.1.1,q.2.1,q.1.2.2.1,q.2.2.1,q.2.2.2.1,q.2.2.2.2,q.1.2.2.2.2.2.2⟩)
 ·exact yap H.iss hKS (fun q hq hm=>by
   rcases List.mem_cons.1 hm with rfl | hm
   ·exact yaj H.iss H.blk (by decide) hq.symm
   ·exact yfe H.iss h0 (by decide) hq (Option.mem_toList.1 hm))
 ·rcases List.mem_cons.1 hm with rfl | hm
  ·exact ybs hb H.blk e1 rfl
  ·exact yaj h0 hb e3 (Option.mem_toList.1 hm).symm
end Go.Proofs.YtkongpjpkpfniaaGreat

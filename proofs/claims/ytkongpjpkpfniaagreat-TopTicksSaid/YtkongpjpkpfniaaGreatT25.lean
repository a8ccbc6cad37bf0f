/- TopTicks: parts of the proof, made small by a program (mini.py). -/
import Derived.Test.YtkongpjpkpfniaaGreatT01
import Derived.Test.YtkongpjpkpfniaaGreatT10
import Derived.Test.YtkongpjpkpfniaaGreatT24
set_option linter.unusedVariables false
set_option linter.unusedSimpArgs false
set_option maxRecDepth 100000
set_option maxHeartbeats 6400000
namespace Go.Proofs.YtkongpjpkpfniaaGreat
open Go.RowKit
theorem zq25cfb9 {q:Prop} (h:q:= by
 have h3:=Option.mem_toList.1 h2;rcases hor with h4 | h4
 ·exact .inl (H.issF x (h4▸h3))
 ·have h5:some WA.heap.size=some x:=h4▸h3
  simp only [Option.some.injEq] at h5;exact .inr om):q:=h
noncomputable def yfz (A:Acc) (b:Bk) (c:R5):Int :=
 if c.a≠2/\¬(1<=c.c/\c.c<=(A.t.ts.length:Int)) then 7
 else if (c.a=7/\(c.d<0\/10000000<c.d))\/(c.a≠7/\(c.d<1\/1000000000000000<c.d)) then 8
 else if c.a=1 then (if A.t.lim<wrap64 (wrap64 (yb4 A.R.p.bs A.R.p.c A.R.p.d-A.R.p.c)+c.d) then 9 else 0)
 else if c.a=3 then (if c.b<A.t.start\/A.today<c.b then 10 else if oldS A c.b then 11 else 0)
 else if c.a=4 then (if A.R.p.bs.getD (c.c-1).toNat 0<c.d then 9 else yd6 b c.c c.d)
 else 0
noncomputable def evEv (A:Acc) (b:Bk) (c:R5):R5 :=
 if yfz A b c≠0 then yax
 else if c.a=1 then ⟨1,A.today,c.c,c.d,0⟩
 else if c.a=2 then ⟨2,A.today,0,c.d,0⟩
 else if c.a=3 then ⟨3,c.b,c.c,c.d,0⟩
 else if c.a=4 then ⟨4,A.today,c.c,c.d,yh6 b c.c c.d⟩
 else ⟨6,A.today,c.c,c.d,0⟩
noncomputable def evBk (A:Acc) (b:Bk) (c:R5):Bk:=if yfz A b c=0/\c.a=4 then yfp b c.c A.today c.d else b
noncomputable def askS (A:Acc) (c:R5):R5×Int×Bk :=
 if c.a=5\/c.a=6 then (yj4 A A.bk c,yhe A A.bk c,ykw A.bk c.e (c.a == 5)) else (evEv A A.bk c,yfz A A.bk c,evBk A A.bk c)
noncomputable def yda (A:Acc) (c:R5):Acc×Int :=
 if (askS A c).2.1≠0 then (A,(askS A c).2.1)
 else if c.a=6 then ({ A with seq:=A.seq+1,bk:=(askS A c).2.2 },0)
 else if (yb9 A (askS A c).1).2≠0 then (A,(yb9 A (askS A c).1).2)
 else ({ (yb9 A (askS A c).1).1 with bk:=(askS A c).2.2 },0)
noncomputable def yh3 (A:Acc) (d:Int):Acc×Int :=
 if d<1\/400<d then (A,1)
 else if (ofS A.t.start A.t.cyc (A.today+d)).2≠0 then (A,10)
 else if (runS A.t A.ev (A.today+d)).e≠0 then (A,(runS A.t A.ev (A.today+d)).e)
 else ({ A with today:=A.today+d,R:=runS A.t A.ev (A.today+d),seq:=A.seq+1,iss:=A.iss++(runS A.t A.ev (A.today+d)).out.drop A.R.out.length },0)
noncomputable def doS (A:Acc) (c:R5):Acc×Int :=
 if c.a=8 then yh3 A c.b
 else if c.a=9 then (A,0)
 else if c.a=10 then (A,if c.e<1\/(A.iss.length:Int)<c.e then 12 else 0)
 else if c.a=11 then (A,if c.e<1\/(A.R.out.length:Int)<c.e then 12 else 0)
 else if chg c.a=false then (A,1)
 else yda A c
theorem yjx {α:Type} {p:α×Int} (h:p.2=0):p=(p.1,0):=by rw [<-h]
theorem yi7 (A:Acc) (x:R5):(∃e,e≠0/\yb9 A x=(A,e))\/(A.t.rightE x=0/\A.ev.length<2000/\(runS A.t (ycw A x) A.today).e=0/\yb9 A x=({ A with ev:=ycw A x,R:=runS A.t (ycw A x) A.today,seq:=A.seq+1 },0)):= by
 unfold yb9;generalize A.t.rightE x=r;generalize runS A.t (ycw A x) A.today=R;generalize btwE A.R.out R.out=b
 by_cases h1:r≠0
 ·rw [if_pos h1];exact .inl ⟨_,h1,rfl⟩
 ·rw [if_neg h1]
  by_cases h2:2000<=A.ev.length
  ·rw [if_pos h2];exact .inl ⟨_,by decide,rfl⟩
  ·rw [if_neg h2]
   by_cases h3:R.e≠0
   ·rw [if_pos h3];exact .inl ⟨_,h3,rfl⟩
   ·rw [if_neg h3]
    by_cases h4:b≠0
    ·rw [if_pos h4];exact .inl ⟨_,h4,rfl⟩
    ·rw [if_neg h4];exact .inr ⟨by simpa using h1,by omega,by simpa using h3,rfl⟩
theorem yn2 {A A':Acc} {x:R5} (hA:ycy A) (hx:x.b<=A.today) (h:yb9 A x=(A',0)) :
 A'={ A with ev:=ycw A x,R:=runS A.t (ycw A x) A.today,seq:=A.seq+1 }/\ycy A'/\A.t.rightE x=0/\A.ev.length<2000:= by
 rcases yi7 A x with ⟨e,h1,h2⟩ | ⟨hr,hl,he,h2⟩
 ·rw [h] at h2
  simp only [Prod.mk.injEq] at h2;exact absurd h2.2.symm h1
 rw [h] at h2;simp only [Prod.mk.injEq,and_true] at h2;subst h2;have hg:=ykf hA hr hx hl;obtain ⟨ps,hp⟩:=yfx hg he;obtain ⟨qs,hq⟩:=yfx hA.goods (by rw [hA.run];exact hA.e);have hts:=yci hA.goods.terms;have e1:=hp.out;have e2:=hq.out;have e3:=hp.sp;have e4:=hp.len;rw [hq.sp] at e3
 obtain rfl:qs=ps:= by
  simp only [Prod.mk.injEq,and_true] at e3;exact e3
 have e5:=hA.run;rw [e5] at e2;refine ⟨rfl,⟨hg,yus hA.asc x,rfl,he,?_,hA.issb,?_,?_,hp.bs.1,hp.bs.2,?_,hA.bkd,hA.bkl⟩,hr,hl⟩
 ·show A.iss.length=(runS A.t (ycw A x) A.today).out.length
  rw [hA.issl];omega
 ·show (runS A.t (ycw A x) A.today).out.length<=300
  omega
 ·intro i hi
  have:=hp.outb _ (yjk hi);show ((runS A.t (ycw A x) A.today).out.getD i St0).ls.length<=1000;omega
 ·show 0<=A.seq+1
  have:=hA.seq;omega
theorem ycy.book {A:Acc} (h:ycy A) {b:Bk} (hd:∀d∈b.ds,d.c<=A.today) (hl:b.ds.length<=2000):ycy { A with bk:=b } :=
 ⟨h.goods,h.asc,h.run,h.e,h.issl,h.issb,h.outl,h.outb,h.bs,h.rs,h.seq,hd,hl⟩
theorem ycy.more {A:Acc} (h:ycy A):ycy { A with seq:=A.seq+1 } :=
 ⟨h.goods,h.asc,h.run,h.e,h.issl,h.issb,h.outl,h.outb,h.bs,h.rs,(show 0<=A.seq+1 by have:=h.seq;omega),h.bkd,h.bkl⟩
theorem yux {b:Bk} {tr day am today:Int} (hd:∀d∈b.ds,d.c<=today) (hl:b.ds.length<=2000) (h:day<=today):(∀d∈(yfp b tr day am).ds,d.c<=today)/\(yfp b tr day am).ds.length<=2000:= by
 unfold yfp
 split
 ·rename_i h1
  refine ⟨fun d hd'=>?_,?_⟩
  ·simp only [List.mem_append,ms] at hd'
   rcases hd' with h2 | rfl
   ·exact hd d h2
   ·exact h
  ·have h2:¬2000<=b.ds.length:= by
    unfold yd6 at h1
    split at h1
    ·cases h1
    split at h1
    ·cases h1
    split at h1
    ·cases h1
    split at h1
    ·cases h1
    ·assumption
   simp only [List.length_append,List.length_singleton];omega
 ·exact ⟨hd,hl⟩
theorem ysb (b:Bk) (ref:Int) (lost:Bool):(yi4 b ref lost).c=(b.ds.getD (ref-1).toNat yax).c:=rfl
theorem yn6 {b:Bk} {ref:Int} (h:ydw b ref=0):(ref-1).toNat<b.ds.length:= by
 unfold ydw at h
 split at h
 ·cases h
 ·omega
theorem ykb {l:List R5} {i:Nat} (h:i<l.length):l.getD i yax∈l:= by
 simp only [List.getD,List.getElem?_eq_getElem h,Option.getD_some];exact List.getElem_mem h
theorem yxu {b:Bk} {ref today:Int} {lost:Bool} (hd:∀d∈b.ds,d.c<=today) (hl:b.ds.length<=2000):(∀d∈(ykw b ref lost).ds,d.c<=today)/\(ykw b ref lost).ds.length<=2000:= by
 unfold ykw
 split
 ·rename_i h1
  refine ⟨fun d hd'=>?_,by simpa using hl⟩;rcases List.mem_or_eq_of_mem_set hd' with h2 | rfl
  ·exact hd d h2
  ·rw [ysb]
   exact hd _ (ykb (yn6 h1))
 ·exact ⟨hd,hl⟩
theorem yu7 {A:Acc} (hA:ycy A) (c:R5):(∀d∈(askS A c).2.2.ds,d.c<=A.today)/\(askS A c).2.2.ds.length<=2000:= by
 unfold askS
 split
 ·exact yxu hA.bkd hA.bkl
 ·show (∀d∈(evBk A A.bk c).ds,d.c<=A.today)/\(evBk A A.bk c).ds.length<=2000
  unfold evBk
  split
  ·exact yux hA.bkd hA.bkl (Int.le_refl _)
  ·exact ⟨hA.bkd,hA.bkl⟩
theorem yua {A:Acc} (hA:ycy A) {c:R5} (h0:yhe A A.bk c=0) (h6:c.a≠6):(yj4 A A.bk c).b<=A.today:= by
 unfold yhe at h0;unfold yj4
 by_cases h1:ydw A.bk c.e≠0
 ·rw [if_pos h1] at h0;exact absurd h0 h1
 ·rw [if_neg h1,if_neg h6] at h0 ⊢
  by_cases h2:oldS A (endD A.bk c.e (c.a == 5)).c
  ·rw [if_pos h2] at h0;cases h0
  ·rw [if_neg h2]
   have h1':ydw A.bk c.e=0:=by simpa using h1
   show (endD A.bk c.e (c.a == 5)).c<=_;unfold endD;rw [if_pos h1',ysb];exact hA.bkd _ (ykb (yn6 h1'))
theorem yvt {A:Acc} {b:Bk} {c:R5} (h0:yfz A b c=0) (h3:c.a=3):c.b<=A.today:= by
 unfold yfz at h0
 by_cases k1:c.a≠2/\¬(1<=c.c/\c.c<=(A.t.ts.length:Int))
 ·rw [if_pos k1] at h0;cases h0
 rw [if_neg k1] at h0
 by_cases k2:(c.a=7/\(c.d<0\/10000000<c.d))\/(c.a≠7/\(c.d<1\/1000000000000000<c.d))
 ·rw [if_pos k2] at h0;cases h0
 rw [if_neg k2,if_neg om,if_pos h3] at h0
 by_cases k3:c.b<A.t.start\/A.today<c.b
 ·rw [if_pos k3] at h0;cases h0
 ·omega
theorem jao {A:Acc} {b:Bk} {c:R5} (h0:yfz A b c=0):(evEv A b c).b<=A.today:= by
 unfold evEv;rw [if_neg (by rw [h0];simp)]
 by_cases h1:c.a=1
 ·rw [if_pos h1];exact Int.le_refl _
 rw [if_neg h1]
 by_cases h2:c.a=2
 ·rw [if_pos h2];exact Int.le_refl _
 rw [if_neg h2]
 by_cases h3:c.a=3
 ·rw [if_pos h3];show c.b<=A.today;exact yvt h0 h3
 rw [if_neg h3]
 by_cases h4:c.a=4
 ·rw [if_pos h4];exact Int.le_refl _
 ·rw [if_neg h4];exact Int.le_refl _
theorem yvu {A:Acc} (hA:ycy A) {c:R5} (h0:(askS A c).2.1=0) (h6:c.a≠6):(askS A c).1.b<=A.today:= by
 unfold askS at h0 ⊢
 split
 ·rename_i h1
  rw [if_pos h1] at h0;exact yua hA h0 h6
 ·rename_i h1
  rw [if_neg h1] at h0;exact jao h0
theorem ysp {A:Acc} (hA:ycy A) (c:R5):ycy (yda A c).1/\(yda A c).1.t=A.t/\(yda A c).1.today=A.today/\(yda A c).1.seq<=A.seq+1/\(yda A c).1.iss=A.iss:= by
 have hb:=yu7 hA c;have hseq:A.seq<=A.seq+1:=by omega
 unfold yda
 split
 ·exact ⟨hA,rfl,rfl,hseq,rfl⟩
 rename_i h1;have h1':(askS A c).2.1=0:=by simpa using h1
 split
 ·exact ⟨hA.more.book hb.1 hb.2,rfl,rfl,Int.le_refl _,rfl⟩
 rename_i h2
 split
 ·exact ⟨hA,rfl,rfl,hseq,rfl⟩
 rename_i h3;have h3':(yb9 A (askS A c).1).2=0:=by simpa using h3
 obtain ⟨e1,e2,e3,e4⟩:=yn2 hA (yvu hA h1' h2) (A':=(yb9 A (askS A c).1).1) (yjx h3');have et:(yb9 A (askS A c).1).1.t=A.t:=by rw [e1]
 have ed:(yb9 A (askS A c).1).1.today=A.today:=by rw [e1]
 have es:(yb9 A (askS A c).1).1.seq=A.seq+1:=by rw [e1]
 have ei:(yb9 A (askS A c).1).1.iss=A.iss:=by rw [e1]
 exact ⟨e2.book (by rw [ed];exact hb.1) hb.2,et,ed,Int.le_of_eq es,ei⟩
theorem yxo {A:Acc} (hA:ycy A) (d:Int):ycy (yh3 A d).1/\(yh3 A d).1.t=A.t/\(yh3 A d).1.seq<=A.seq+1:= by
 have hseq:A.seq<=A.seq+1:=by omega
 unfold yh3
 split
 ·exact ⟨hA,rfl,hseq⟩
 rename_i hd
 split
 ·exact ⟨hA,rfl,hseq⟩
 split
 ·exact ⟨hA,rfl,hseq⟩
 rename_i h2 h3;have he:(runS A.t A.ev (A.today+d)).e=0:=by simpa using h3
 have hg:yha A.t A.ev (A.today+d):=⟨hA.goods.terms,hA.goods.events,fun x hx=>by have:=hA.goods.late x hx;omega,hA.goods.len⟩;obtain ⟨ps,hp⟩:=yfx hg he;obtain ⟨qs,hq⟩:=yfx hA.goods (by rw [hA.run];exact hA.e);have hts:=yci hA.goods.terms;have e1:=hp.out;have e2:=hq.out;have e3:=hp.len
 have e4:qs.length<=ps.length:= by
  have h:=ygq (cyc:=A.t.cyc) (day:=A.today) (day':=A.today+d) om 300 A.t.start;rw [hp.sp,hq.sp] at h;exact h
 rw [hA.run] at e2;refine ⟨⟨hg,hA.asc,rfl,he,?_,?_,?_,?_,hp.bs.1,hp.bs.2,?_,fun x hx=>?_,hA.bkl⟩,rfl,Int.le_refl _⟩
 ·show (A.iss++(runS A.t A.ev (A.today+d)).out.drop A.R.out.length).length=_
  rw [List.length_append,List.length_drop,hA.issl];show _=(runS A.t A.ev (A.today+d)).out.length;omega
 ·intro i hi
  have hm:=yjk hi;rcases List.mem_append.1 hm with h | h
  ·obtain ⟨j,hj,hje⟩:=List.getElem_of_mem h
   have:=hA.issb j hj;simp only [List.getD,List.getElem?_eq_getElem hj,Option.getD_some,hje] at this;exact this
  ·have:=hp.outb _ (List.mem_of_mem_drop h)
   omega
 ·show (runS A.t A.ev (A.today+d)).out.length<=300
  omega
 ·intro i hi
  have:=hp.outb _ (yjk hi);show ((runS A.t A.ev (A.today+d)).out.getD i St0).ls.length<=1000;omega
 ·show 0<=A.seq+1
  have:=hA.seq;omega
 ·show x.c<=A.today+d
  have:=hA.bkd x hx;omega
theorem yyh {A:Acc} (hA:ycy A) (c:R5):ycy (doS A c).1/\(doS A c).1.t=A.t/\(doS A c).1.seq<=A.seq+1:= by
 have hseq:A.seq<=A.seq+1:=by omega
 unfold doS
 split
 ·exact yxo hA _
 split
 ·exact ⟨hA,rfl,hseq⟩
 split
 ·exact ⟨hA,rfl,hseq⟩
 split
 ·exact ⟨hA,rfl,hseq⟩
 split
 ·exact ⟨hA,rfl,hseq⟩
 ·have h:=ysp hA c
  exact ⟨h.1,h.2.1,h.2.2.2.1⟩
theorem Fl.reslice {m n cap k:Nat} {ao:Option Addr} {w:World} {cs:List Value} (h:Fl m n w (.slice ao n cap) cs) (hk:k<=n) :
 Fl m (n-k) w (.slice (if cap=k then ao else ao.map (fun x=>x.add (k*m))) (n-k) (cap-k)) (cs.drop (k*m)):= by
 obtain ⟨hl,h1c,ao',cap',e,h1,h2,h3⟩:=h;cases e;refine ⟨by rw [List.length_drop,hl,Nat.sub_mul],fun c hc=>h1c c (List.mem_of_mem_drop hc),_,_,rfl,by omega,⟨by omega,fun e=>?_⟩,fun hn=>?_⟩
 ·by_cases hck:cap=k
  ·omega
  ·rw [if_neg hck] at e
   cases ao with
   | none=>have:=h2.2 rfl;omega
   | some a=>simp at e
 ·obtain ⟨b,o,rfl,hc⟩:=h3 om
  rw [if_neg om];refine ⟨b,o+k*m,by simp [Addr.add_lit],fun i hi=>?_⟩
  have hi2:k*m+i<n*m:= by
   have:=Nat.sub_mul n k m;have h4:k*m<=n*m:=Nat.mul_le_mul_right _ hk;omega
  rw [Nat.add_assoc,hc _ hi2,List.getElem?_drop]
theorem StV.reslice {n cap k:Nat} {ao:Option Addr} {w:World} {l:List St} {vs:List Value} (h:StV w (.slice ao n cap) l vs) (hn:l.length=n) (hk:k<=n) :
 StV w (.slice (if cap=k then ao else ao.map (fun x=>x.add (k*9))) (n-k) (cap-k)) (l.drop k) (vs.drop k):= by
 subst hn;refine ⟨h.1.drop k,?_⟩;rw [List.length_drop,<-yny h.1.length];exact h.2.reslice hk
theorem ybe.more {lo g:Nat} {A:Acc} {F:List Nat} {w w':World} {V:AV} (h:ybe lo g A F w V) (hb:BW w w') {b:Nat} (hge:w.heap.size<=b) (hlt:b<w'.heap.size):ybe lo g A (b::F) w' V:= by
 have h1:=h.below hb;have hg:=(h.lt g h.gF);refine ⟨h1.blk,List.mem_cons_of_mem _ h.gF,fun x hx=>?_,h.rd.below hb (fun x hx=>?_),h1.iss,fun q hq=>List.mem_cons_of_mem _ (h.issF q hq),h1.adj,fun q hq=>List.mem_cons_of_mem _ (h.adjF q hq)⟩
 ·rcases List.mem_cons.1 hx with rfl | hx
  ·exact ⟨by omega,hlt⟩
  ·exact h1.lt x hx
 ·rcases List.mem_cons.1 hx with rfl | hx
  ·exact .inr hge
  ·exact .inl hx
theorem ybe.put {lo g b:Nat} {A:Acc} {F:List Nat} {w w':World} {V:AV} {e:TypeId} {cs:List Value} (h:ybe lo g A F w V) (hk:yab [b] w w') (hb:b∈F) (hB:Blk w b e cs) (h1:e≠89) (h2:e≠43) (h3:e≠175):ybe lo g A F w' V:= by
 refine ⟨h.blk.keep hk (fun hm=>?_),h.gF,fun x hx=>⟨(h.lt x hx).1,Nat.lt_of_lt_of_le (h.lt x hx).2 hk.size⟩,h.rd.step hk (fun x hx=>.inl (by simp only [ms] at hx;exact hx▸hb)) (fun x hx=>.inl hx),yap h.iss hk (fun q hq hm=>?_),h.issF,?_,h.adjF⟩
 ·simp only [ms] at hm
  exact ybs h.blk hB (Ne.symm h1) hm
 ·simp only [ms] at hm
  subst hm;exact yaj h.iss hB h2 hq.symm
 ·obtain ⟨n,cs0,k1,k2,k3⟩:=h.adj
  refine ⟨n,cs0,k1,k2,yap k3 hk (fun q hq hm=>?_)⟩;simp only [ms] at hm;subst hm;exact yaj k3 hB h3 hq.symm
theorem yxc {lo g:Nat} {A:Acc} {F:List Nat} {V:AV} {w8 WA w10 WB:World} (H:ybe lo g A F w8 V) (R':Rn) (d s:Int) (iss':List St) {pv' rv' nv' iv':Value} {nvs' ivs':List Value} {n:Nat} {cs:List Value}
 (hs:A.seq<=s) (hRd:Rd F w8 (fun W=>Sl .i64 W pv' R'.p.bs/\Sl .i64 W rv' R'.rs/\StV W nv' R'.out nvs')) (hRi:Rd F WA (fun W=>LnsS W iss' ivs'))
 (hKA:BW w8 WA) (hown:w10.ownsRow lo 43 9 iv' n cs) (hn:n=iss'.length) (hcs:cs=yay iss' ivs')
 (hg:WA.grownBy w10 V.iv.ownBlock) (hor:iv'.ownBlock=V.iv.ownBlock\/iv'.ownBlock=some WA.heap.size)
 (hKB:yab [g] w10 WB)
 (hB:Blk WB g 89 (ybu { A with today:=d,R:=R',seq:=s,iss:=iss' } { V with pv:=pv',rv:=rv',nv:=nv',nvs:=nvs',iv:=iv',ivs:=ivs' })) :
 ync lo g { A with today:=d,R:=R',seq:=s,iss:=iss' } F w8 WB:= by
 subst hn;subst hcs;obtain ⟨n0,cs0,hn0,h10,h0⟩:=H.adj;have hsz:w8.heap.size<=WA.heap.size:=hKA.size;have hsz2:WA.heap.size<=w10.heap.size:=hg.size;have hg1:∀x∈[g],x∈F:=fun x hx=>by simp only [ms] at hx;exact hx▸H.gF
 have hnew:∀x∈iv'.ownBlock.toList++F,x∈F\/w8.heap.size<=x:=fun x hx=>by
  rcases List.mem_append.1 hx with h2 | h2
  ·exact zq25cfb9
  ·exact .inl h2
 have hnewA:∀x∈iv'.ownBlock.toList++F,x∈F\/WA.heap.size<=x:=fun x hx=>by
  rcases List.mem_append.1 hx with h2 | h2
  ·exact zq25cfb9
  ·exact .inl h2
 have hKA8:yab F w8 WA:=yab.of_below hKA;have hK10A:yab F WA w10:=(yab.refl _ _).grown hg (fun k hk=>.inl (H.issF k hk));have hK10:yab F w8 w10:=hKA8.trans hK10A (fun x hx=>.inl hx);have hst:Stp F w8 (iv'.ownBlock.toList++F) WB:=⟨hK10.trans hKB (fun x hx=>.inl (hg1 x hx)),hnew⟩;have hstA:Stp F WA (iv'.ownBlock.toList++F) WB:=⟨hK10A.trans hKB (fun x hx=>.inl (hg1 x hx)),hnewA⟩
 have hKS:yab (g::V.iv.ownBlock.toList) w8 WB:= by
  refine (((yab.of_below hKA:yab (g::V.iv.ownBlock.toList) w8 WA)).grown hg (fun k hk=>.inl (List.mem_cons_of_mem _ (Option.mem_toList.2 hk)))).trans hKB (fun x hx=>.inl ?_);simp only [ms] at hx;exact hx▸List.mem_cons_self ..
 have hgw:g<w8.heap.size:=H.blk.lt
 have hown':WB.ownsRow lo 43 9 iv' iss'.length (yay iss' ivs'):=yap hown hKB (fun q hq hm=>by
  simp only [ms] at hm;subst hm;rcases hor with h4 | h4
  ·exact yaj H.iss H.blk (by decide) (h4▸hq).symm
  ·have h5:some WA.heap.size=some q:=h4▸hq
   simp only [Option.some.injEq] at h5;omega)
 refine ⟨iv'.ownBlock.toList++F,_,⟨hB,List.mem_append_right _ H.gF,fun x hx=>⟨?_,?_⟩,?_,hown',fun q hq=>List.mem_append_left _ (Option.mem_toList.2 hq),⟨n0,cs0,?_,h10,?_⟩,fun q hq=>List.mem_append_right _ (H.adjF q hq)⟩,hst,fun x hx=>List.mem_append_right _ hx,fun b e cb hb e1 e2 e3=>hb.keep hKS (fun hm=>?_)⟩
 ·rcases hnew x hx with h2 | h2
  ·exact (H.lt x h2).1
  ·have:=(H.lt g H.gF)
   omega
 ·rcases List.mem_append.1 hx with h2 | h2
  ·have h3:=(hown'.lt x (Option.mem_toList.1 h2))
   exact h3.2
  ·exact Nat.lt_of_lt_of_le (H.lt x h2).2 hst.keep.size
 ·exact ((hst.rd (H.rd.and hRd)).and (hstA.rd hRi)).imp fun W q=>⟨q.1.1.1,q.1.1.2.1,q.1.1.2.2.1,q.1.2.1,q.1.2.2.1,q.1.2.2.2,q.2⟩
 ·show n0<=s.toNat*400000
  have:A.seq.toNat<=s.toNat:=by omega
  exact Nat.le_trans hn0 (Nat.mul_le_mul_right _ this)
 ·exact yap h0 hKS (fun q hq hm=>by
   rcases List.mem_cons.1 hm with rfl | hm
   ·exact yaj h0 H.blk (by decide) hq.symm
   ·exact yfe h0 H.iss (by decide) hq (Option.mem_toList.1 hm))
 ·rcases List.mem_cons.1 hm with rfl | hm
  ·exact ybs hb H.blk e1 rfl
  ·exact yaj H.iss hb e2 (Option.mem_toList.1 hm).symm
theorem yab.setRow {F:List Nat} {a b:World} (h:yab F a b) {g:Nat} (hg:g∈F\/a.heap.size<=g) (cs:Array Value):yab F a (b.setRow g cs) :=
 ⟨h.os,h.tape,h.output,by rw [size_setRow];exact h.size,fun k hk hn=>(yhp b g k cs (fun e=>by
  subst e;rcases hg with h1 | h1
  ·exact hn h1
  ·omega)).trans (h.block k hk hn)⟩
theorem yd3 {lo g b:Nat} {A:Acc} {F F2:List Nat} {w w2:World} {V:AV} {cs:List Value} (H:ybe lo g A F2 w2 V) (hs:Stp F w F2 w2) (hsub:∀x∈F,x∈F2) (hb:b∈F2) (hB:Blk w2 b 45 cs) (hO:ybw w w2) (hw:w.heap.size<=b) (cells:Array Value):ync lo g A F w (w2.setRow b cells) :=
 ⟨F2,V,H.put ((yab.refl _ _).setRow (.inl (List.mem_cons_self ..)) cells) hb hB (by decide) (by decide) (by decide),⟨hs.keep.setRow (hs.new b hb) cells,hs.new⟩,hsub,fun x e cx hx e1 e2 e3=>(hO x e cx hx e1 e2 e3).keep ((yab.refl [b] w2).setRow (.inl (List.mem_cons_self ..)) cells) (fun hm=>by
  simp only [ms] at hm;have:=hx.lt;omega)⟩
def yze (E:Int) (lo g:Nat) (A:Acc) (F:List Nat) (w:World) (e:Ending) (w':World):Prop:=∃v,e=.returned v/\Ans E v/\ync lo g A F w w'
end Go.Proofs.YtkongpjpkpfniaaGreat

/- TopTicks: parts of the proof, made small by a program (mini.py). -/
import Derived.Test.YtkongpjpkpfniaaGreatT01
import Derived.Test.YtkongpjpkpfniaaGreatT09
import Derived.Test.YtkongpjpkpfniaaGreatT12
import Derived.Test.YtkongpjpkpfniaaGreatT34
set_option linter.unusedVariables false
set_option linter.unusedSimpArgs false
set_option maxRecDepth 100000
set_option maxHeartbeats 6400000
namespace Go.Proofs.YtkongpjpkpfniaaGreat
open Go.RowKit
theorem zq355e2b {q:Prop} (h:q:= by
 split at h0
 ·rename_i h1;exact absurd h0 h1
 rename_i h1;rw [if_neg h1]
 split at h0
 ·rename_i h2;rw [if_pos h2];exact h2
 ·cases h0):q:=h
section
open Go.RowKit EvM
structure SInv (s:RS):Prop where
 p:yat s.p.bs s.p.c s.p.d=true
 rs:s.rs.any ybg=false
 X:∀row∈s.X,row.any (yef 1000000000000000)=false
 Y:∀row∈s.Y,row.any (yef 10000000)=false
theorem jbk {bs:List Int} {c d k am:Int} (h0:(yh2 bs c d k am).2.2.2=0):yat (yh2 bs c d k am).1 (yh2 bs c d k am).2.1 (yh2 bs c d k am).2.2.1=true:= by
 unfold yh2 at h0 ⊢;exact zq355e2b
theorem jcg {bs rs:List Int} {c d am:Int} (h0:(payS bs c d rs am).2.2.2=0):yat (payS bs c d rs am).1 (payS bs c d rs am).2.1 (payS bs c d rs am).2.2.1=true:= by
 unfold payS at h0 ⊢
 split at h0
 ·rename_i h1;exact absurd h0 h1
 rename_i h1;rw [if_neg h1];exact zq355e2b
theorem jby {bs rs:List Int} {c d k am:Int} (h0:(ytl bs c d rs k am).2.2.2=0):yat (ytl bs c d rs k am).1 (ytl bs c d rs k am).2.1 (ytl bs c d rs k am).2.2.1=true:= by
 unfold ytl at h0 ⊢
 split at h0
 ·rename_i h1;exact absurd h0 h1
 rename_i h1;rw [if_neg h1]
 split at h0
 ·cases h0
 rename_i h1;rw [if_neg h1]
 split at h0
 ·rename_i h2;rw [if_pos h2];exact h2
 ·cases h0
theorem jbp {p:Ps} {rs:List Int} {x:R5} (h0:(ybi p rs x).2.2=0):yat (ybi p rs x).1.bs (ybi p rs x).1.c (ybi p rs x).1.d=true/\(ybi p rs x).2.1.any ybg=false:= by
 unfold ybi at h0 ⊢
 split at h0
 ·cases h0
 rename_i h1;rw [if_neg h1]
 split at h0
 ·rename_i h2;exact absurd h0 h2
 rename_i h2;rw [if_neg h2];have hm:mayA p rs x=true:=by simpa using h1
 have hz:(posS p rs x).2.2.2=0:=by simpa using h2
 unfold mayA at hm;simp only [Bool.and_eq_true,Bool.not_eq_true'] at hm
 constructor
 ·show yat (posS p rs x).1 (posS p rs x).2.1 (posS p rs x).2.2.1=true
  unfold posS at hz ⊢
  split at hz
  ·rename_i k1;rw [if_pos k1];exact jbk hz
  rename_i k1;rw [if_neg k1]
  split at hz
  ·rename_i k2;rw [if_pos k2];exact jcg hz
  rename_i k2;rw [if_neg k2]
  split at hz
  ·rename_i k3;rw [if_pos k3];exact jby hz
  ·rename_i k3;rw [if_neg k3];exact hm.1.1.1.1.1
 ·show (yjc rs x).any ybg=false
  unfold yjc
  split
  ·rename_i k6
   have h6:=hm.2;rw [k6] at h6;simp only [bne_self_eq_false,Bool.false_or,Bool.and_eq_true,decide_eq_true_eq] at h6;rw [List.any_eq_false];intro y hy;rcases List.mem_or_eq_of_mem_set hy with h7 | rfl
   ·exact List.any_eq_false.1 hm.1.1.1.2 y h7
   ·simp [ybg];omega
  ·exact hm.1.1.1.2
theorem jcm (l:List R5) (day:Int) (n:Nat):∀(k:Nat) (p:Ps) (rs:List Int),yat p.bs p.c p.d=true->rs.any ybg=false->yat (evS l day n k p rs).2.1.bs (evS l day n k p rs).2.1.c (evS l day n k p rs).2.1.d=true/\(evS l day n k p rs).2.2.1.any ybg=false:= by
 induction n with
 | zero=>intro k p rs h1 h2;exact ⟨h1,h2⟩
 | succ n ih =>
  intro k p rs h1 h2;rw [yfc]
  split
  ·split
   ·exact ⟨h1,h2⟩
   ·rename_i h3
    have h4:=jbp (p:=p) (rs:=rs) (x:=l.getD k yax) (by simpa using h3);exact ih _ _ _ h4.1 h4.2
  ·exact ⟨h1,h2⟩
theorem SInv.ev {l:List R5} {day:Int} {s:RS} (h:SInv s):SInv (ybh l day s).1:= by
 have h1:=jcm l day (l.length-s.at') s.at' s.p s.rs h.p h.rs;exact ⟨h1.1,h1.2,h.X,h.Y⟩
theorem jc8 {f:Int->Bool} {l:List Int} (h:l.any f=false) (h0:f 0=false) (k:Nat):f (l.getD k 0)=false:= by
 by_cases hk:k<l.length
 ·have:=List.any_eq_false.1 h l[k] (List.getElem_mem hk)
  simpa [List.getD,hk] using this
 ·have e:l.getD k 0=0:=by simp [List.getD,Nat.le_of_not_lt hk]
  rw [e];exact h0
theorem jbj {f:Int->Bool} {X:List (List Int)} {v:List Int} (hX:∀row∈X,row.any f=false) (hv:v.any f=false) (h0:f 0=false):∀row∈ye8 X v,row.any f=false:= by
 intro row hr;simp only [ye8,List.mem_map,List.mem_range] at hr;obtain ⟨k,hk,rfl⟩:=hr;have e:X.getD k []=X[k]:=by simp [List.getD,hk]
 rw [List.any_append,e,hX _ (List.getElem_mem hk)];simp only [List.any_cons,List.any_nil,Bool.or_false,Bool.false_or];exact jc8 hv h0 k
theorem jcj {bs:List Int} {c d:Int} (h:yat bs c d=true):bs.any (yef 1000000000000000)=false:= by
 rw [List.any_eq_false];intro x hx;obtain ⟨j,hj,rfl⟩:=List.getElem_of_mem hx;have:=(ycr h).2 j hj;simp only [List.getD,List.getElem?_eq_getElem hj,Option.getD_some] at this;simp [yef];omega
theorem SInv.dayEnd {s:RS} (h:SInv s):SInv (ydh s):=⟨h.p,h.rs,jbj h.X (jcj h.p) (by decide),jbj h.Y (show s.rs.any (yef 10000000)=false from h.rs) (by decide)⟩
theorem jbd {fr du:Int}:∀(l:List R5) (a:Int),(yej fr du l a).2=0\/(yej fr du l a).2=5
 | [],_=>.inl rfl
 | x::l,a=>by
  rw [yh5]
  split
  ·split
   ·exact .inr rfl
   ·exact jbd l _
  ·exact jbd l _
theorem jct (l:List R5) (out:List St) (fr:Int):(yet l out fr).2=0\/(yet l out fr).2=5:= by
 unfold yet
 split
 ·exact .inl rfl
 ·exact jbd l 0
theorem jc3 (n:Nat):((ofR2 n).2=0\/(ofR2 n).2=5)/\0<=(ofR2 n).1/\(ofR2 n).1<=1000000000000000:= by
 unfold ofR2
 split
 ·rename_i h
  refine ⟨.inl rfl,?_,h.2⟩;unfold evQ
  split
  ·exact Int.le_refl _
  ·split
   ·exact Int.natCast_nonneg _
   ·exact Int.le_refl _
 ·exact ⟨.inr rfl,by simp,by simp⟩
theorem jch {bs rs:List Int} (h1:bs.length=rs.length) (h2:bs.length<=40000) (h3:bs.any (yef 1000000000000000)=false) (h4:rs.any (yef 10000000)=false):((yft bs rs).2=0\/(yft bs rs).2=5)/\0<=(yft bs rs).1/\(yft bs rs).1<=1000000000000000:= by
 unfold yft;rw [if_pos (by simp [okE,h1,h3,h4];omega)];exact jc3 _
theorem jbq {X Y:List (List Int)} {ts:List (Int×Bool)} {g:Bool} (n:Nat) (h:∀k,k<n->(X.getD k []).length=(Y.getD k []).length/\(X.getD k []).length<=40000/\(X.getD k []).any (yef 1000000000000000)=false/\(Y.getD k []).any (yef 10000000)=false) :
 ((intK X Y ts g n).2=0\/(intK X Y ts g n).2=5)/\(intK X Y ts g n).1.any ybx=false:= by
 induction n with
 | zero=>exact ⟨.inl rfl,rfl⟩
 | succ n ih =>
  have ih:=ih fun k hk=>h k om;obtain ⟨a1,a2,a3,a4⟩:=h n om;have hi:=jch a1 a2 a3 a4;unfold intK
  split
  ·exact ih
  ·split
   ·refine ⟨.inl rfl,?_⟩
    rw [List.any_append,ih.2]
    rfl
   ·split
    ·exact ⟨hi.1,rfl⟩
    ·refine ⟨.inl rfl,?_⟩
     rw [List.any_append,ih.2];simp only [List.any_cons,List.any_nil,Bool.or_false,Bool.false_or,ybx,Bool.not_eq_false'];exact ybv.2 hi.2
theorem jcp {t:Tm} {X Y:List (List Int)} {g:Bool} (ht:t.right=true) (hX:X.length=t.ts.length) (hY:Y.length=t.ts.length) (h:∀k,k<t.ts.length->(X.getD k []).length=(Y.getD k []).length/\(X.getD k []).length<=40000/\(X.getD k []).any (yef 1000000000000000)=false/\(Y.getD k []).any (yef 10000000)=false) :
 ((intS t.right t.ts X Y g).2=0\/(intS t.right t.ts X Y g).2=5)/\(intS t.right t.ts X Y g).1.any ybx=false/\((intS t.right t.ts X Y g).2=0->(intS t.right t.ts X Y g).1.length=t.ts.length):= by
 unfold intS;rw [if_neg (by rw [ht];simp),if_neg (by simp [hX,hY])];exact ⟨(jbq _ h).1,(jbq _ h).2,yrv⟩
theorem jck {bs ns:List Int} {c d:Int} (h1:yat bs c d=true) (h2:ns.length=bs.length) (h3:ns.any ybx=false):((ye7 bs c d ns).2.2.2=0\/(ye7 bs c d ns).2.2.2=5)/\((ye7 bs c d ns).2.2.2=0->yat (ye7 bs c d ns).1 (ye7 bs c d ns).2.1 (ye7 bs c d ns).2.2.1=true):= by
 unfold ye7;rw [if_neg (by simp [h1]),if_neg (by simp [h2]),if_neg (by simp [h3])]
 split
 ·rename_i h;exact ⟨.inl rfl,fun _=>h⟩
 ·exact ⟨.inr rfl,fun h=>by cases h⟩
theorem jco {bs:List Int} {c d:Int} (h:yat bs c d=true):0<=yb4 bs c d/\yb4 bs c d<=1000000000000000:= by
 have h1:=yfb h;have h2:=ylm (Int.le_refl 0) h1;have h3:=ylp h;unfold yb4;rw [if_pos h];exact ⟨h2.2.1,h2.2.2 (fun e=>by rw [e] at h3;simp at h3)⟩
theorem jbo {bs:List Int} {c d d':Int} (h:yat bs c d=true) (hd:0<=d'/\d'<=1000000000000000):yat bs c d'=true:= by
 rw [ysg] at h ⊢;exact ⟨h.1,h.2.1,hd,h.2.2.2⟩
theorem jda {t:Tm} {tot:Int} (ht:t.right=true) (h:0<=tot/\tot<=1000000000000000):0<=(ygx t.right t.minf t.minp tot).1/\(ygx t.right t.minf t.minp tot).1<=1000000000000000:= by
 have h0:=ht;unfold Tm.right yaw at h0;simp only [Bool.and_eq_true,ydr] at h0;rw [ht];cases hl:ygx true t.minf t.minp tot with
 | mk x e =>
  obtain ⟨p,_,rfl,_⟩:=yp5 hl om om om;show 0<=min tot (max t.minf p)/\min tot (max t.minf p)<=_;omega
theorem jbv {t:Tm} {n fr til:Int} {p:Ps} {rs ns:List Int} {g:Bool} (ht:t.right=true) (ha:yix t.ts.length n fr til p.bs.length rs.length=true) (hr:rs.any ybg=false) (hp:yat p.bs p.c p.d=true) (hl:ns.length=p.bs.length) (hn:ns.any ybx=false) :
 (∃q,ycd t n fr til p rs ns g=(none,q,5))\/∃x q,ycd t n fr til p rs ns g=(some x,q,0)/\yat q.bs q.c q.d=true:= by
 obtain ⟨h1,h2⟩:=jck hp hl hn;unfold ycd;rw [if_neg (by simp [ht]),if_neg (by simp [ha]),if_neg (by simp [hr])];rcases h1 with h1 | h1
 ·rw [if_neg (by simp [h1])]
  exact .inr ⟨_,_,rfl,jbo (h2 h1) (jda ht (jco (h2 h1)))⟩
 ·rw [if_pos (by simp [h1]),h1]
  exact .inl ⟨_,rfl⟩
theorem jci {t:Tm} {l:List R5} {fr til:Int} {s:RS} (h:SInv s) (ht:t.right=true) (hX:s.X.length=t.ts.length) (hY:s.Y.length=t.ts.length) (hrow:∀k,k<t.ts.length->(s.X.getD k []).length=(s.Y.getD k []).length/\(s.X.getD k []).length<=40000)
 (ha:yix t.ts.length ((s.out.length:Int)+1) fr til s.p.bs.length s.rs.length=true):((ydn t l fr til s).2=0\/(ydn t l fr til s).2=5)/\((ydn t l fr til s).2=0->SInv (ydn t l fr til s).1):= by
 have hk:∀k,k<t.ts.length->(s.X.getD k []).length=(s.Y.getD k []).length/\(s.X.getD k []).length<=40000/\(s.X.getD k []).any (yef 1000000000000000)=false/\(s.Y.getD k []).any (yef 10000000)=false:=fun k hk=>by
  have e1:s.X.getD k []=s.X[k]:=by simp [List.getD,hX,hk]
  have e2:s.Y.getD k []=s.Y[k]:=by simp [List.getD,hY,hk]
  exact ⟨(hrow k hk).1,(hrow k hk).2,by rw [e1];exact h.X _ (List.getElem_mem _),by rw [e2];exact h.Y _ (List.getElem_mem _)⟩
 obtain ⟨i1,i2,i3⟩:=jcp (g:=(yet l s.out fr).1) ht hX hY hk;unfold ydn
 split
 ·rename_i h1
  exact ⟨jct _ _ _,fun h=>absurd h h1⟩
 ·split
  ·rename_i h2
   exact ⟨i1,fun h=>absurd h h2⟩
  ·rename_i h2
   have hl:=i3 (by simpa using h2);have hb:s.p.bs.length=t.ts.length:=(ygh.1 ha).2.2.2.2.2.1;rcases jbv (n:=(s.out.length:Int)+1) (fr:=fr) (til:=til) (g:=(yet l s.out fr).1) ht ha h.rs h.p (hl.trans hb.symm) i2 with ⟨q,e⟩ | ⟨x,q,e,hq⟩
   ·rw [e]
    exact ⟨.inr rfl,fun h=>by cases h⟩
   ·rw [e]
    exact ⟨.inl rfl,fun _=>⟨hq,h.rs,fun row hr=>by rw [List.eq_of_mem_replicate hr];rfl,fun row hr=>by rw [List.eq_of_mem_replicate hr];rfl⟩⟩
theorem jba {t:Tm} {l:List R5} {ps:List (Int×Int)} {f day today:Int} {s:RS} (h:SInv s) (hw:WInv t l ps day s) (hc:yg9 f today ps) (hn:ps.length<=300) (hlen:∀i,i<ps.length->(ps.getD i (0,0)).2<=(ps.getD i (0,0)).1+30) (ht:t.right=true) :
 ((ybb t l ps day s).2=0\/(ybb t l ps day s).2=5)/\((ybb t l ps day s).2=0->SInv (ybb t l ps day s).1):= by
 unfold ybb
 split
 ·rename_i he
  have h1:=hc.range _ hw.out;have h2:=hw.lo;have h3:=hlen _ hw.out;have h4:=hw.out;refine jci h.dayEnd ht ((ygd _ _).trans hw.X) ((ygd _ _).trans hw.Y) (fun k hk=>?_) (ygh.2 ⟨?_,?_,?_,?_,?_,hw.bs,hw.rs⟩)
  ·have h5:=hw.rowX k hk
   have h6:=hw.rowY k hk;show ((ye8 s.X s.p.bs).getD k []).length=((ye8 s.Y s.rs).getD k []).length/\((ye8 s.X s.p.bs).getD k []).length<=40000;rw [ylu (by rw [hw.X];exact hk),ylu (by rw [hw.Y];exact hk)];simp only [List.length_append,List.length_singleton];omega
  ·show 1<=(s.out.length:Int)+1
   omega
  ·show (s.out.length:Int)+1<=300
   omega
  ·unfold dayB
   simp only [Bool.and_eq_true,decide_eq_true_eq];omega
  ·unfold dayB
   simp only [Bool.and_eq_true,decide_eq_true_eq];omega
  ·omega
 ·exact ⟨.inl rfl,fun _=>h.dayEnd⟩
theorem jcl {t:Tm} {l:List R5} {ps:List (Int×Int)} {f today:Int} (hc:yg9 f today ps) (ha:Asc l) (hn:ps.length<=300) (hlen:∀i,i<ps.length->(ps.getD i (0,0)).2<=(ps.getD i (0,0)).1+30) (ht:t.right=true)
 (k:Nat):∀(day:Int) (s:RS),RInv t l ps day s->SInv s->day+(k:Int)=today->(∀y∈s.out,y.ls.length<=t.ts.length)->(ycm t l ps k day s).2=0->SInv (ycm t l ps k day s).1/\∀i,(ycm t l ps k day s).1.at'<=i->i<l.length->today+1<=(l.getD i yax).b:= by
 induction k with
 | zero =>
  intro day s h hs hd hl h0;obtain rfl:day=today:=by simpa using hd
  exact ⟨hs.ev,(h.ev ha h0).2⟩
 | succ k ih =>
  intro day s h hs hd hl h0
  by_cases e1:(ybh l day s).2=0
  ·obtain ⟨hr,hlow⟩:=h.ev ha e1
   by_cases e2:(ybb t l ps day (ybh l day s).1).2=0
   ·rw [yyg e1 e2] at h0 ⊢
    have hin:=yfj hr.w hc om (fun y hy=>hl y hy) e2;exact ih (day+1) _ (hr.shut hc om (fun y hy=>hl y hy) hlow e2) ((jba hs.ev hr.w hc hn hlen ht).2 e2) om hin.2 h0
   ·rw [dSe2 e1 e2] at h0
    exact absurd h0 e2
  ·rw [dSe1 e1] at h0
   exact absurd h0 e1
theorem ja7 {l:List R5} {day:Int} {s:RS} (h:s.at'=l.length):ybh l day s=(s,0):= by
 unfold ybh;rw [h,Nat.sub_self,evS,<-h]
theorem jca {t:Tm} {l:List R5} {ps:List (Int×Int)} {f today:Int} (hc:yg9 f today ps) (hn:ps.length<=300) (hlen:∀i,i<ps.length->(ps.getD i (0,0)).2<=(ps.getD i (0,0)).1+30) (ht:t.right=true)
 (k:Nat):∀(day:Int) (s:RS),WInv t l ps day s->SInv s->s.at'=l.length->day+(k:Int)=today->(∀y∈s.out,y.ls.length<=t.ts.length)->(ycm t l ps k day s).2=0\/(ycm t l ps k day s).2=5:= by
 induction k with
 | zero =>
  intro day s h hs hat hd hl;refine .inl ?_;show (ybh l day s).2=0;rw [ja7 hat]
 | succ k ih =>
  intro day s h hs hat hd hl;have e1:(ybh l day s).2=0:=by rw [ja7 hat]
  obtain ⟨k1,k2⟩:=jba hs h hc hn hlen ht
  by_cases e2:(ybb t l ps day s).2=0
  ·rw [yyg e1 (by rw [ja7 hat];exact e2),ja7 hat]
   obtain ⟨h4,h5⟩:=yfj h hc om (fun x hx=>hl x hx) e2;refine ih _ _ h4 (k2 e2) ?_ om h5;unfold ybb at e2 ⊢
   split
   ·rename_i he
    rw [if_pos he] at e2;obtain ⟨x,q,hs,_⟩:=ywo e2;rw [hs];exact hat
   ·exact hat
  ·rw [dSe2 e1 (by rw [ja7 hat];exact e2),ja7 hat]
   exact k1
theorem WInv.pre {t:Tm} {l:List R5} {ps qs:List (Int×Int)} {day:Int} {s:RS} (h:WInv t l ps day s) (hp:ps <+: qs):WInv t l qs day s:= by
 have e:=yyt hp h.out;exact ⟨h.X,h.Y,h.bs,h.rs,h.at',Nat.lt_of_lt_of_le h.out hp.length_le,by rw [e];exact h.lo,by rw [e];exact h.hi,by rw [e];exact h.rowX,by rw [e];exact h.rowY⟩
theorem SInv.first {t:Tm} (ht:t.right=true):SInv (rs0 t):= by
 have h0:=ht;unfold Tm.right yaw at h0;simp only [Bool.and_eq_true,ydr] at h0;have hr:=h0.1.1.1.1.2;refine ⟨?_,?_,fun row hr=>by rw [List.eq_of_mem_replicate hr];rfl,fun row hr=>by rw [List.eq_of_mem_replicate hr];rfl⟩
 ·rw [ysg]
  have hz:∀n,sumK (List.replicate t.ts.length 0) n=0:=fun n=>by
   induction n with
   | zero=>rfl
   | succ n ih =>
    rw [sumK,ih]
    by_cases hn:n<t.ts.length
    ·simp [List.getD,hn]
    ·simp [List.getD,Nat.le_of_not_lt hn]
  show (1<=(List.replicate t.ts.length (0:Int)).length/\(List.replicate t.ts.length (0:Int)).length<=8)/\(0<=(0:Int)/\(0:Int)<=1000000000000000)/\(0<=(0:Int)/\(0:Int)<=1000000000000000)/\(∀j,j<(List.replicate t.ts.length (0:Int)).length->0<=(List.replicate t.ts.length (0:Int)).getD j 0/\(List.replicate t.ts.length (0:Int)).getD j 0<=1000000000000000)/\(0<=sumK (List.replicate t.ts.length (0:Int)) (List.replicate t.ts.length (0:Int)).length/\sumK (List.replicate t.ts.length (0:Int)) (List.replicate t.ts.length (0:Int)).length<=1000000000000000)/\((0:Int)=0\/sumK (List.replicate t.ts.length (0:Int)) (List.replicate t.ts.length (0:Int)).length=0);rw [hz,List.length_replicate];refine ⟨by omega,by omega,by omega,fun j hj=>?_,by omega,.inl rfl⟩;simp [List.getD,hj]
 ·show (t.ts.map (·.1)).any ybg=false
  rw [List.any_eq_false];intro x hx;obtain ⟨y,hy,rfl⟩:=List.mem_map.1 hx;unfold yd7 at hr;have:=List.all_eq_true.1 hr y hy;rw [ydr] at this;simp [ybg];omega
theorem jc0 {A:Acc} (hA:ycy A) {d:Int} (hd:1<=d/\d<=400):(yh3 A d).2=0\/(yh3 A d).2=5\/(yh3 A d).2=10:= by
 unfold yh3;rw [if_neg om]
 split
 ·exact .inr (.inr rfl)
 rename_i h2;have h2':(ofS A.t.start A.t.cyc (A.today+d)).2=0:=by simpa using h2
 split
 ·have hg:=hA.goods.on (show A.today<=A.today+d by omega)
  show (runS A.t A.ev (A.today+d)).e=0\/(runS A.t A.ev (A.today+d)).e=5\/(runS A.t A.ev (A.today+d)).e=10
  by_cases h4:ye2 A.t (A.today+d)=0
  ·obtain ⟨ps,hp⟩:=yfx hA.goods (by rw [hA.run];exact hA.e)
   obtain ⟨qs,a1,a2,a3,a4,a5,a6⟩:=ynb h4
   have hpre:ps <+: qs:= by
    have:=yj0 (cyc:=A.t.cyc) (show A.today<=A.today+d by omega) 300 A.t.start;rw [a1,hp.sp] at this;exact this
   have hlo:=hp.lo;have hlen:=(yj2 300 a1).1;have hlen1:=(yj2 300 hp.sp).1;have e1:goS A.t A.ev A.today=ycm A.t A.ev ps (A.today-A.t.start).toNat A.t.start (rs0 A.t):=by unfold goS;rw [hp.sp]
   have e2:goS A.t A.ev (A.today+d)=ycm A.t A.ev qs ((A.today-A.t.start).toNat+d.toNat) A.t.start (rs0 A.t):= by
    unfold goS;rw [a1,show (A.today+d-A.t.start).toNat=(A.today-A.t.start).toNat+d.toNat by omega]
   have h0:=hp.go;rw [e1] at h0;have k1:=(jbc hp.ch hpre d.toNat (A.today-A.t.start).toNat A.t.start (rs0 A.t) (WInv.first hp.ch) om (by simp [rs0])).1 h0;obtain ⟨s1,s2⟩:=jcl hp.ch hA.asc hp.len hlen1 hA.goods.terms (A.today-A.t.start).toNat A.t.start (rs0 A.t) (RInv.first hp.ch hA.goods.events) (SInv.first hA.goods.terms) om (by simp [rs0]) h0;have hw:=hp.inv;have hls:=hp.ls;rw [e1] at hw hls
   have hat:(ycm A.t A.ev ps (A.today-A.t.start).toNat A.t.start (rs0 A.t)).1.at'=A.ev.length:= by
    have h5:=hw.at';rcases Nat.lt_or_ge (ycm A.t A.ev ps (A.today-A.t.start).toNat A.t.start (rs0 A.t)).1.at' A.ev.length with h6 | h6
    ·have h7:=s2 _ (Nat.le_refl _) h6
     have h8:=hA.goods.late _ (ykb h6);omega
    ·omega
   have k2:=jca a2 a3 hlen hA.goods.terms d.toNat A.today _ (hw.pre hpre) s1 hat om hls;rw [<-k1,<-e2] at k2;unfold runS;rw [if_neg (by rw [ygz hg,h4];simp)]
   split
   ·show (goS A.t A.ev (A.today+d)).2=0\/(goS A.t A.ev (A.today+d)).2=5\/_
    omega
   ·exact .inl rfl
  ·unfold runS
   rw [if_pos (by rw [ygz hg];exact h4),ygz hg,jar];refine .inr (.inr ?_);unfold ye2 at h4 ⊢
   by_cases h5:A.today+d<A.t.start\/2932896<A.today+d
   ·rw [if_pos h5]
   ·rw [if_neg h5,if_neg h2] at h4
    exact absurd rfl h4
 ·exact .inl rfl
end
theorem jcq (A:Acc) (x:R5) (n:Int):yb9 (A.re n) x=((yb9 A x).1.re ((yb9 A x).1.seq-A.seq+n),(yb9 A x).2):= by
 have e:yb9 (A.re n) x=if A.t.rightE x≠0 then (A.re n,A.t.rightE x)
  else if 2000<=A.ev.length then (A.re n,14)
  else if (runS A.t (ycw A x) A.today).e≠0 then (A.re n,(runS A.t (ycw A x) A.today).e)
  else if btwE A.R.out (runS A.t (ycw A x) A.today).out≠0 then (A.re n,btwE A.R.out (runS A.t (ycw A x) A.today).out)
  else ({ A with ev:=ycw A x,R:=runS A.t (ycw A x) A.today,seq:=n+1 },0):=rfl
 rw [e];unfold yb9
 by_cases h1:A.t.rightE x≠0
 ·rw [if_pos h1,if_pos h1,<-ja6]
 rw [if_neg h1,if_neg h1]
 by_cases h2:2000<=A.ev.length
 ·rw [if_pos h2,if_pos h2,<-ja6]
 rw [if_neg h2,if_neg h2]
 by_cases h3:(runS A.t (ycw A x) A.today).e≠0
 ·rw [if_pos h3,if_pos h3,<-ja6]
 rw [if_neg h3,if_neg h3]
 by_cases h4:btwE A.R.out (runS A.t (ycw A x) A.today).out≠0
 ·rw [if_pos h4,if_pos h4,<-ja6]
 rw [if_neg h4,if_neg h4];simp only [Acc.re,Prod.mk.injEq,Acc.mk.injEq,true_and,and_true];omega
theorem jcc (A:Acc) (c:R5) (n:Int):yda (A.re n) c=((yda A c).1.re ((yda A c).1.seq-A.seq+n),(yda A c).2):= by
 have e:yda (A.re n) c=if (askS A c).2.1≠0 then (A.re n,(askS A c).2.1)
  else if c.a=6 then ({ A with seq:=n+1,bk:=(askS A c).2.2 },0)
  else if (yb9 (A.re n) (askS A c).1).2≠0 then (A.re n,(yb9 (A.re n) (askS A c).1).2)
  else ({ (yb9 (A.re n) (askS A c).1).1 with bk:=(askS A c).2.2 },0):=rfl
 rw [e,jcq];unfold yda
 by_cases h1:(askS A c).2.1≠0
 ·rw [if_pos h1,if_pos h1,<-ja6]
 rw [if_neg h1,if_neg h1]
 by_cases h2:c.a=6
 ·rw [if_pos h2,if_pos h2]
  simp only [Acc.re,Prod.mk.injEq,Acc.mk.injEq,true_and,and_true];omega
 rw [if_neg h2,if_neg h2]
 by_cases h3:(yb9 A (askS A c).1).2≠0
 ·rw [if_pos h3,if_pos h3,<-ja6]
 ·rw [if_neg h3,if_neg h3]
  rfl
theorem jdh (A:Acc) (c:R5) (n:Int):doS (A.re n) c=((doS A c).1.re ((doS A c).1.seq-A.seq+n),(doS A c).2):= by
 have e:doS (A.re n) c=if c.a=8 then yh3 (A.re n) c.b
  else if c.a=9 then (A.re n,0)
  else if c.a=10 then (A.re n,if c.e<1\/(A.iss.length:Int)<c.e then 12 else 0)
  else if c.a=11 then (A.re n,if c.e<1\/(A.R.out.length:Int)<c.e then 12 else 0)
  else if chg c.a=false then (A.re n,1)
  else yda (A.re n) c:=rfl
 rw [e];unfold doS
 by_cases h1:c.a=8
 ·rw [if_pos h1,if_pos h1,jb1]
 rw [if_neg h1,if_neg h1]
 by_cases h2:c.a=9
 ·rw [if_pos h2,if_pos h2,<-ja6]
 rw [if_neg h2,if_neg h2]
 by_cases h3:c.a=10
 ·rw [if_pos h3,if_pos h3,<-ja6]
 rw [if_neg h3,if_neg h3]
 by_cases h4:c.a=11
 ·rw [if_pos h4,if_pos h4,<-ja6]
 rw [if_neg h4,if_neg h4]
 by_cases h5:chg c.a=false
 ·rw [if_pos h5,if_pos h5,<-ja6]
 ·rw [if_neg h5,if_neg h5,jcc]
noncomputable def endS (A:Acc) (l:List R5):Acc:=l.foldl (fun a c=>(doS a c).1) A
noncomputable def errS:Acc->List R5->List Int
 | _,[]=>[]
 | A,c::l=>(doS A c).2::errS (doS A c).1 l
def oneC (c:R5):List R5:=if c.a=8/\1<c.b/\c.b<=40 then List.replicate c.b.toNat ⟨8,1,0,0,0⟩ else [c]
def oneL (l:List R5):List R5:=l.flatMap oneC
theorem jb4 (l:List R5):∀{A:Acc} (n:Int),ycy A->(∀e∈errS A l,e≠5/\e≠10)->∃m,endS (A.re n) (oneL l)=(endS A l).re m:= by
 induction l with
 | nil=>intro A n _ _;exact ⟨n,rfl⟩
 | cons c l ih =>
  intro A n hA he;have hA':=(yyh hA c).1;have hE:=he _ (List.mem_cons_self ..);have he':∀e∈errS (doS A c).1 l,e≠5/\e≠10:=fun e h=>he e (List.mem_cons_of_mem _ h)
  have e1:endS (A.re n) (oneL (c::l))=endS (endS (A.re n) (oneC c)) (oneL l):= by
   unfold endS oneL;rw [List.flatMap_cons,List.foldl_append]
  have e2:endS A (c::l)=endS (doS A c).1 l:=rfl;rw [e1,e2];unfold oneC
  by_cases hc:c.a=8/\1<c.b/\c.b<=40
  ·rw [if_pos hc]
   have hd:doS A c=yh3 A c.b:= by
    unfold doS;rw [if_pos hc.1]
   rw [hd] at hE hA' he' ⊢
   have h0:(yh3 A c.b).2=0:= by
    have:=jc0 hA (d:=c.b) om;omega
   obtain ⟨k,hk⟩:∃k:Nat,c.b.toNat=k+1:=⟨c.b.toNat-1,by omega⟩;obtain ⟨m,hm⟩:=jcw k n hA (A':=(yh3 A c.b).1) (by rw [show ((k+1:Nat):Int)=c.b by omega];exact yjx h0);rw [hk];unfold endS at *;rw [hm];exact ih m hA' he'
  ·rw [if_neg hc]
   have e3:endS (A.re n) [c]=(doS (A.re n) c).1:=rfl;rw [e3,jdh];exact ih _ hA' he'
theorem jbx (l:List R5):∀{A:Acc},ycy A->ycy (endS A l)/\(endS A l).t=A.t/\(endS A l).seq<=A.seq+(l.length:Int):= by
 induction l with
 | nil=>intro A hA;exact ⟨hA,rfl,by simp [endS]⟩
 | cons c l ih =>
  intro A hA;obtain ⟨h1,h2,h3⟩:=yyh hA c;obtain ⟨k1,k2,k3⟩:=ih h1;exact ⟨k1,k2.trans h2,by rw [List.length_cons];show (endS (doS A c).1 l).seq<=_;omega⟩
theorem yxj:(Tryz.prog.info? 48).map (fun i=>(i.zero,i.size,i.bytes))=some (some (.agg #[iZ,iZ,iZ,iZ,iZ]),5,40):=by kernel_rfl
def yy0 (n:Nat) (w:World) (e:Ending) (w':World):Prop:=∃u l,e=.returned u/\R5S w' u l/\l.length<=n/\BW w w'
theorem ykj {w:World} {base:Nat} {e:TypeId} {m n:Nat} {v:Value} {cs:List Value} (h:w.ownsRow base e m v n cs):∃ao c,v=.slice ao n c:= by
 obtain ⟨_,⟨rfl,rfl⟩ | ⟨_,_,_,rfl,_⟩⟩:=h
 ·exact ⟨_,_,rfl⟩
 ·exact ⟨_,_,rfl⟩
theorem ynd (v:Value) (l:List R5) (n:Nat) (hn:n<=1000) (w:World) (hv:R5S w v l):Calls Tryz.prog 7 #[v,iV (n:Int)] w (yy0 n w):= by
 have HV:=lh hv;obtain ⟨ao,cap,rfl⟩:=hv.shape;have hlen:=(Fl.len hv).2;unfold maxLen at hlen;obtain ⟨hlc,hcm,_⟩:=hlen;have HN:=lh hn;clear hv;obtain ⟨i0,hi,hz0,hz1,hz2⟩:=info_parts yxj
 go_enter Tryz.func7,Tryz.ntmps7
 go_wp2_with fail
 go_loopg [5,6,7] l.length (fun g y d x wr=>∃(k m:Nat) (l':List R5) (dd:Int),k+g=l.length/\x=iV (k:Int)/\d=iV dd/\m=l'.length/\m<=n/\Hid (wr.ownsRow w.heap.size 48 5 y m (yag l'))/\Hid (BW w wr))
 case atStart=>exact ⟨0,0,[],0,by omega,rfl,rfl,rfl,Nat.zero_le _,World.ownsRow_nil _ _ _ _,bR⟩
 case round =>
  obtain ⟨k,m,l',dd,hk,rfl,rfl,hm,hmn,HO,HB⟩:=hrel;obtain ⟨yo,yc,rfl⟩:=ykj HO.out;have HM:=lh (And.intro hm hmn);clear hm hmn;cases gk with
  | zero =>
   have hlt:¬((k:Int)<(l.length:Int)):=by omega
   have hdf:decide ((k:Int)<(l.length:Int))=false:=decide_eq_false hlt
   go_wp2_with fail
   go_ret
   exact ⟨_,l',rfl,R5S.of_own HO.out HM.out.1.symm,by have:=HM.out;omega,HB.out⟩
  | succ gg =>
   have hlt:(k:Int)<(l.length:Int):=by omega
   by_cases hmn:m<n
   ·have hmi:(m:Int)<(n:Int):=by omega
    obtain ⟨b,o,x,rfl,⟨c0,c1,c2,c3,c4⟩,HX⟩:=(HV.out.below HB.out).get (show k<l.length by omega);have hk1:wrap64 ((k:Int)+1)=(k:Int)+1:=IntWalk.wrap64_in _ ⟨by omega,by omega⟩;have HMN:=lh hmn;have HGK:=lh hk;obtain ⟨xa,xb,xc,xd,xe⟩:=x;simp only at c0 c1 c2 c3 c4;clear HX hmn hk;obtain ⟨W2,hW2,X2,B2,HBW⟩:∃W,wr.alloc (.cells #[iV xa,iV xb,iV xc,iV xd,iV xe] 48)=W/\Hid (Blk W wr.heap.size 48 [iV xa,iV xb,iV xc,iV xd,iV xe])/\Hid (BW w W)/\Hid (BW wr W):=⟨_,rfl,yae wr _ _ _ rfl,yaa HB.out _,yaa bR _⟩;go_upto_region 7 with fail
    try with_reducible rw [hW2]
    clear hW2 c0 c1 c2 c3 c4;obtain ⟨c0,c1,c2,c3,c4,-⟩:=X2.out.cs [0,1,2,3,4];simp only [gz,gs] at c0 c1 c2 c3 c4;have kx:=X2.out.lt;have HO2:Hid (W2.ownsRow w.heap.size 48 5 (.slice yo m yc) m (yag l')):=yah HO.out HBW.out
    have hm63:m+1<=maxLen:= by
     have:=HMN.out;have:=HN.out;unfold maxLen;omega
    have hm48:(m+1)*40<=140737488355328:= by
     have:=HMN.out;have:=HN.out;omega
    have hwz:w.heap.size<=W2.heap.size+1:=Nat.le_trans B2.out.size (Nat.le_succ _);have HWZ:=lh (And.intro hm63 (And.intro hm48 hwz));clear hm63 hm48 hwz;obtain ⟨q,hq⟩:∃q,wrap64 (dd+xb)=q:=⟨_,rfl⟩
    by_cases h8:xa=8
    ·subst h8
     by_cases h1:0<xb
     ·by_cases h4:400<q
      ·go_wp2_with fail
       go_roundg gg
       case measure=>omega
       case rel=>exact ⟨k+1,m,l',dd,by have:=HGK.out;omega,by go_num,rfl,HM.out.1,HM.out.2,HO2.out,B2.out⟩
      ·go_wp2_with (at_builtin;refine yas _ rfl (.tmp 42) (.tmp 44) 25 rfl w.heap.size 48 i0 (.agg #[iZ,iZ,iZ,iZ,iZ]) 5 40 Tryz.underlying25 hi hz0 hz1 hz2 rfl (by decide) _ _ _ rfl (HO2.out.alloc _) (Ad W2.heap.size 0) 1 1 [_,_,_,_,_] rfl rfl (fun j u hu=>by rw [Addr.add_lit,(yae W2 _ _ _ rfl).cell,Nat.zero_add];exact hu) (fun u hu=>by simp only [List.mem_cons,List.not_mem_nil,or_false] at hu;rcases hu with rfl | rfl | rfl | rfl | rfl <;> rfl) HWZ.out.1 HWZ.out.2.1 (by rw [World.size_alloc];exact HWZ.out.2.2) ?_;intro v1 w4 hown4 hg4 hbk4;have HO4:=lh hown4;have HG4:=lh hg4;clear hown4 hg4 hbk4)
       go_roundg gg
       case measure=>omega
       case rel=>exact ⟨k+1,m+1,l'++[⟨8,xb,xc,xd,xe⟩],q,by have:=HGK.out;omega,by go_num,rfl,by rw [List.length_append,<-HM.out.1];rfl,HMN.out,(show World.ownsRow _ _ _ _ _ _ _ from by rw [ybr];exact HO4.out),(yaa B2.out _).grown HG4.out (yaa B2.out _).size (fun k hk=>(HO2.out.lt k hk).1)⟩
     ·go_wp2_with (at_builtin;refine yas _ rfl (.tmp 42) (.tmp 44) 25 rfl w.heap.size 48 i0 (.agg #[iZ,iZ,iZ,iZ,iZ]) 5 40 Tryz.underlying25 hi hz0 hz1 hz2 rfl (by decide) _ _ _ rfl (HO2.out.alloc _) (Ad W2.heap.size 0) 1 1 [_,_,_,_,_] rfl rfl (fun j u hu=>by rw [Addr.add_lit,(yae W2 _ _ _ rfl).cell,Nat.zero_add];exact hu) (fun u hu=>by simp only [List.mem_cons,List.not_mem_nil,or_false] at hu;rcases hu with rfl | rfl | rfl | rfl | rfl <;> rfl) HWZ.out.1 HWZ.out.2.1 (by rw [World.size_alloc];exact HWZ.out.2.2) ?_;intro v1 w4 hown4 hg4 hbk4;have HO4:=lh hown4;have HG4:=lh hg4;clear hown4 hg4 hbk4)
      go_roundg gg
      case measure=>omega
      case rel=>exact ⟨k+1,m+1,l'++[⟨8,xb,xc,xd,xe⟩],dd,by have:=HGK.out;omega,by go_num,rfl,by rw [List.length_append,<-HM.out.1];rfl,HMN.out,(show World.ownsRow _ _ _ _ _ _ _ from by rw [ybr];exact HO4.out),(yaa B2.out _).grown HG4.out (yaa B2.out _).size (fun k hk=>(HO2.out.lt k hk).1)⟩
    ·have h8b:(xa == 8)=false:=by simpa using h8
     go_wp2_with (at_builtin;refine yas _ rfl (.tmp 42) (.tmp 44) 25 rfl w.heap.size 48 i0 (.agg #[iZ,iZ,iZ,iZ,iZ]) 5 40 Tryz.underlying25 hi hz0 hz1 hz2 rfl (by decide) _ _ _ rfl (HO2.out.alloc _) (Ad W2.heap.size 0) 1 1 [_,_,_,_,_] rfl rfl (fun j u hu=>by rw [Addr.add_lit,(yae W2 _ _ _ rfl).cell,Nat.zero_add];exact hu) (fun u hu=>by simp only [List.mem_cons,List.not_mem_nil,or_false] at hu;rcases hu with rfl | rfl | rfl | rfl | rfl <;> rfl) HWZ.out.1 HWZ.out.2.1 (by rw [World.size_alloc];exact HWZ.out.2.2) ?_;intro v1 w4 hown4 hg4 hbk4;have HO4:=lh hown4;have HG4:=lh hg4;clear hown4 hg4 hbk4)
     go_roundg gg
     case measure=>omega
     case rel=>exact ⟨k+1,m+1,l'++[⟨xa,xb,xc,xd,xe⟩],dd,by have:=HGK.out;omega,by go_num,rfl,by rw [List.length_append,<-HM.out.1];rfl,HMN.out,(show World.ownsRow _ _ _ _ _ _ _ from by rw [ybr];exact HO4.out),(yaa B2.out _).grown HG4.out (yaa B2.out _).size (fun k hk=>(HO2.out.lt k hk).1)⟩
   ·have hmi:¬(m:Int)<(n:Int):=by omega
    have hdf:decide ((m:Int)<(n:Int))=false:=decide_eq_false hmi
    go_wp2_with fail
    go_ret
    exact ⟨_,l',rfl,R5S.of_own HO.out HM.out.1.symm,by have:=HM.out;omega,HB.out⟩
theorem jdc:(Tryz.prog.info? 45).map (fun i=>(i.zero,i.size,i.bytes))=some (some (.agg zA.toArray),20,224):=by kernel_rfl
def AnsL (base:Nat) (w:World) (v:Value) (n:Nat) (er:Nat->Int):Prop:=∃cs,w.ownsRow base 45 20 v n cs/\cs.length=n*20/\(∀c∈cs,c.oneCell'=true)/\∀i,i<n->cs[i*20]?=some (iV (er i))
theorem AnsL.nil (base:Nat) (w:World) (er:Nat->Int):AnsL base w (sZ) 0 er:=⟨[],World.ownsRow_nil _ _ _ _,rfl,fun _ h=>(by cases h),fun i hi=>absurd hi (Nat.not_lt_zero i)⟩
noncomputable def jbb (A:Acc) (l:List R5) (i:Nat):Int:=(doS (endS A (l.take i)) (l.getD i yax)).2
def jde (lo:Nat) (A:Acc) (n m:Nat) (er:Nat->Int) (w:World) (e:Ending) (w':World):Prop :=
 ∃gsx N v F,e=.returned (.tuple #[pV gsx,v])/\ja8 lo gsx A n N F w'/\AnsL lo w' v m er/\Below lo w w'
theorem jc9 {w w':World} {base m n:Nat} {e:TypeId} {v:Value} {cs:List Value} (h:w.ownsRow base e m v n cs) {F:List Nat} (hk:yab F w w') (hs:∀q,v.ownBlock=some q->w'.heap[q]?=w.heap[q]?):w'.ownsRow base e m v n cs :=
 yap h (hk.less (L:=ownL v) (fun x hx _=>hs x (yxf hx))) (fun q hq hm=>by
  have:=(List.mem_filter.1 hm).2;simp only [decide_eq_true_eq] at this;exact this (yx4 hq))
theorem AnsL.snoc {base n:Nat} {w':World} {v':Value} {cs news:List Value} {er:Nat->Int} (ho:w'.ownsRow base 45 20 v' (n+1) (cs++news)) (hl:cs.length=n*20) (h1:∀c∈cs,c.oneCell'=true) (hc:∀i,i<n->cs[i*20]?=some (iV (er i))) (hn:news.length=20) (h2:∀c∈news,c.oneCell'=true) (h3:news[0]?=some (iV (er n))):AnsL base w' v' (n+1) er:= by
 refine ⟨_,ho,by rw [List.length_append,hl,hn];omega,fun c h=>?_,fun i hi=>?_⟩
 ·rcases List.mem_append.1 h with h | h
  ·exact h1 c h
  ·exact h2 c h
 ·by_cases e:i<n
  ·rw [List.getElem?_append_left om]
   exact hc i e
  ·obtain rfl:i=n:=by omega
   rw [List.getElem?_append_right om,hl,Nat.sub_self];exact h3
theorem ja8.putL {lo gsx n N:Nat} {A:Acc} {F F' L:List Nat} {w w':World} (h:ja8 lo gsx A n N F w) (hk:yab L w w') (hL:∀b∈L,b∈F/\∃cs,Blk w b 45 cs) (hF:∀x∈F',x∈F\/(w.heap.size<=x/\x<w'.heap.size)) (hs:∀x∈F,x∈F'):ja8 lo gsx A n N F' w':= by
 obtain ⟨gj,ga,gp,g,k,lv,st,V,h⟩:=h;exact ⟨gj,ga,gp,g,k,lv,st,V,h.putL hk hL hF hs⟩
theorem jcv {A:Acc} {l:List R5} {k:Nat} (h:k<l.length):endS A (l.take (k+1))=(doS (endS A (l.take k)) (l.getD k yax)).1:= by
 rw [List.take_succ_eq_append_getElem h];unfold endS;rw [List.foldl_append];simp [List.getD,h]
theorem jcx (lo gp ga n:Nat) (t:Tm) (tv lv:Value) (l:List R5) (ht:t.right=true) (hs:10957<=t.start/\t.start<=11400) (hn:10<=n/\n<=20000) (hl:l.length+5<=n/\l.length<=900) (w:World) (hp:ybm lo gp ga n (fun _=>0) w) (hlo:lo<=w.heap.size) (hv:TrS w tv t.ts) (hof:OffF [ga,gp] tv) (hc:∀w',Below lo w w'->R5S w' lv l) :
 Calls Tryz.prog 19 #[pV gp,.agg (t.cells tv).toArray,lv] w (jde lo (endS (yb6 t) l) n l.length (jbb (yb6 t) l) w):= by
 have HP:=lh hp;have HV:=lh hv;have HOF:=lh hof;have HT:=lh (And.intro ht hs);have HN:=lh (And.intro hn hl);have HLO:=lh hlo;have HC:=lh hc;have HG:Hid (lo<=ga/\lo<=gp):=⟨hp.choose_spec.1.2,hp.choose_spec.1.1⟩;obtain ⟨tao,tc,rfl⟩:=hv.shape;obtain ⟨uo,uc,rfl⟩:=(hc w bR).shape;clear hp hv hof ht hs hn hl hlo hc;unfold Tm.cells;obtain ⟨W1,hW1,X1,B1⟩:∃W,w.alloc (.cells #[iV t.lim,.slice tao t.ts.length tc,iV t.cyc,iV t.dued,iV t.minf,iV t.minp,iV t.start] 24)=W/\Hid (Blk W w.heap.size 24 [iV t.lim,.slice tao t.ts.length tc,iV t.cyc,iV t.dued,iV t.minf,iV t.minp,iV t.start])/\Hid (BW w W):=⟨_,rfl,yae w _ _ _ rfl,yaa bR _⟩
 go_enter Tryz.func19,Tryz.ntmps19
 go_upto_region 1 with fail
 try with_reducible rw [hW1]
 clear hW1;obtain ⟨c0,c1,c2,c3,c4,c5,c6,-⟩:=X1.out.cs [0,1,2,3,4,5,6];simp only [gz,gs] at c0 c1 c2 c3 c4 c5 c6;have kx:=X1.out.lt
 go_wp2_with fail
 refine (yqu lo gp ga n t (.slice tao t.ts.length tc) HT.out.1 HT.out.2 HN.out.1 _ (HP.out.below B1.out) (HV.out.below B1.out) HOF.out (Nat.le_trans HLO.out B1.out.size)).mono ?_;clear c0 c1 c2 c3 c4 c5 c6 kx;rintro _ w2 ⟨gsx,N,F,rfl,s2,n2,k2⟩;have S2:=lh s2;have N2:=lh n2
 have BL:Hid (Below lo w w2):=(B1.out.mono HLO.out).trans (k2.to_below (Nat.le_trans HLO.out B1.out.size) (fun x hx=>by
  have:=HG.out;simp only [List.mem_cons,List.not_mem_nil,or_false] at hx;omega))
 obtain ⟨i0,hi,hz0,hz1,hz2⟩:=info_parts jdc;clear s2 n2 k2
 go_wp2_with fail
 go_loopg [10,11] l.length (fun gg ov i wr=>∃(k N:Nat) (F:List Nat),k+gg=l.length/\i=iV (k:Int)/\Hid (ja8 lo gsx (endS (yb6 t) (l.take k)) n N F wr)/\Hid (N<=4+k)/\Hid (AnsL lo wr ov k (jbb (yb6 t) l))/\Hid (∀q,ov.ownBlock=some q->q∈F)/\Hid (Below lo w wr))
 case atStart=>exact ⟨0,N,F,by omega,rfl,S2.out,N2.out,AnsL.nil _ _ _,(fun q hq=>by cases hq),BL.out⟩
 case round =>
  obtain ⟨k,N3,F3,hkg,rfl,HS,HNN,HA,HO,HB⟩:=hrel;have HKG:=lh hkg;cases gk with
  | zero =>
   have hlt:¬((k:Int)<(l.length:Int)):=by omega
   obtain rfl:k=l.length:=by omega
   clear hkg
   go_wp2_with fail
   go_ret2
   have h1:=HS.out;rw [List.take_of_length_le (Nat.le_refl _)] at h1;exact ⟨gsx,N3,_,F3,rfl,h1,HA.out,HB.out⟩
  | succ gg =>
   have hlt:(k:Int)<(l.length:Int):=by omega
   have HKN:Hid (k<l.length):=by show k<l.length;omega
   have hk1:wrap64 ((k:Int)+1)=(k:Int)+1:=IntWalk.wrap64_in _ ⟨by omega,by have:=HN.out;omega⟩;obtain ⟨b,o,x,rfl,⟨c0,c1,c2,c3,c4⟩,HX⟩:=(HC.out _ HB.out).get HKN.out;obtain ⟨A',E,hE⟩:∃A' E,doS (endS (yb6 t) (l.take k)) x=(A',E):=⟨_,_,rfl⟩;have HE:=lh hE;have HOK:=lh (jbx (l.take k) (ynp HT.out.1 HT.out.2));obtain ⟨cs,h1,h2,h3,h4⟩:=HA.out;obtain ⟨vo,vc,rfl⟩:=ykj h1;have OW:=lh h1;have CS:=lh (And.intro h2 (And.intro h3 h4));clear hkg hE h1 h2 h3 h4
   go_wp2_with fail
   refine (yuf x HOK.out.1 (by
    have h1:=HOK.out.2.2;have h2:=HN.out.2.2;have h3:=HKN.out;rw [List.length_take] at h1;have h4:(yb6 t).seq=0:=rfl;omega) HE (by have:=HN.out;omega) (by have:=HN.out;have:=HNN.out;have:=HKN.out;omega) (by have:=HN.out;have:=HNN.out;have:=HKN.out;omega) F3 HS.out (ownL (.slice vo k vc)) (fun q hq=>⟨HO.out q (yxf hq),yry OW.out (yxf hq)⟩)).mono ?_
   clear c0 c1 c2 c3 c4;rintro _ w4 ⟨v,N4,F4,rfl,han,s4,n4,st4,x4,p4⟩;obtain ⟨r,cy,td,cn,bal,cr,du,rt,dp,sq,pn,pf,pt,pd,ln,tt,pc,mn,gr,rfl,⟨q1,q2,q3,rfl⟩,⟨q4,q5,q6,rfl⟩,⟨q7,q8,q9,rfl⟩,⟨qa,qb,qc,rfl⟩⟩:=han;have S4:=lh s4;have N4':=lh n4;have X4:=lh x4
   have OW4:Hid (w4.ownsRow lo 45 20 (.slice vo k vc) k cs):=jc9 OW.out st4.keep (fun q hq=>by
    obtain ⟨cur,hb⟩:=yry OW.out hq;exact Eq.trans (p4 _ _ hb) (Eq.symm hb))
   have B4:Hid (Below lo w w4):=HB.out.trans (st4.keep.to_below (Nat.le_trans HLO.out HB.out.size) (fun x hx=>(HS.out.low x hx).1));have HGE:Hid (lo<=w4.heap.size):=Nat.le_trans HLO.out B4.out.size;clear s4 n4 st4 x4 p4
   go_wp2_with (at_builtin;refine yas _ rfl (.tmp 30) (.tmp 37) 68 rfl lo 45 i0 (.agg zA.toArray) 20 224 Tryz.underlying68 hi hz0 hz1 hz2 rfl (by decide) (.slice vo k vc) k cs rfl (yah OW4.out (yaa bR _)) (Ad w4.heap.size 0) 1 1 [iV E,iV r,iV cy,iV td,iV cn,.slice q1 q2 q3,iV cr,iV du,.slice q4 q5 q6,.slice q7 q8 q9,iV sq,iV pn,iV pf,iV pt,iV pd,.slice qa qb qc,iV tt,iV pc,iV mn,.bool gr] rfl rfl (yly w4 _ _) (by intro u hu;simp only [List.mem_cons,List.not_mem_nil,or_false] at hu;rcases hu with rfl | rfl | rfl | rfl | rfl | rfl | rfl | rfl | rfl | rfl | rfl | rfl | rfl | rfl | rfl | rfl | rfl | rfl | rfl | rfl <;> rfl) (by have:=HKN.out;have:=HN.out;unfold maxLen;omega) (by have:=HKN.out;have:=HN.out;omega) (by rw [World.size_alloc];exact Nat.le_succ_of_le HGE.out) ?_;intro v9 w9 hown9 hg9 hor9;have HO9:=lh hown9;have HG9:=lh hg9;have HR9:=lh hor9;clear hown9 hg9 hor9)
   go_roundg gg
   case measure=>omega
   case rel =>
    have hk9:=((yab.refl (ownL (.slice vo k vc)) _).grown HG9.out (fun q hq=>.inl (yx4 hq)))
    have hS:ja8 lo gsx A' n N4 (ownL v9++F4) w9:=(S4.out.below (yaa bR _)).putL hk9 (fun q hq=>⟨X4.out q hq,yry (yah OW4.out (yaa bR _)) (yxf hq)⟩) (fun x hx=>by
     rcases List.mem_append.1 hx with h1 | h1
     ·rcases HR9.out with e | e
      ·exact .inl (X4.out x (yx4 (e▸yxf h1)))
      ·have h2:=(HO9.out.lt _ (yxf h1)).2
       have h3:=yxf h1;rw [e] at h3;simp only [Option.some.injEq] at h3;exact .inr ⟨by omega,h2⟩
     ·exact .inl h1) (fun x hx=>List.mem_append_right _ hx)
    refine ⟨k+1,N4,ownL v9++F4,by have:=HKG.out;omega,by go_num,?_,(by show _<=_;have:=N4'.out;have:=HNN.out;omega),?_,fun q hq=>List.mem_append_left _ (yx4 hq),B4.out.trans (((yaa bR _:BW w4 (w4.alloc (.cells #[iV E,iV r,iV cy,iV td,iV cn,.slice q1 q2 q3,iV cr,iV du,.slice q4 q5 q6,.slice q7 q8 q9,iV sq,iV pn,iV pf,iV pt,iV pd,.slice qa qb qc,iV tt,iV pc,iV mn,.bool gr] 45))).mono HGE.out).trans (hk9.to_below (by rw [World.size_alloc];exact Nat.le_succ_of_le HGE.out) (fun x hx=>(OW4.out.lt x (yxf hx)).1)))⟩
    ·rw [jcv HKN.out,HX.out,HE.out]
     exact hS
    ·refine AnsL.snoc HO9.out CS.out.1 CS.out.2.1 CS.out.2.2 rfl (fun u hu=>?_) ?_
     ·simp only [List.mem_cons,List.not_mem_nil,or_false] at hu
      rcases hu with rfl | rfl | rfl | rfl | rfl | rfl | rfl | rfl | rfl | rfl | rfl | rfl | rfl | rfl | rfl | rfl | rfl | rfl | rfl | rfl <;> rfl
     ·show some (iV E)=some (iV (jbb (yb6 t) l k))
      unfold jbb;rw [HX.out,HE.out]
def jcs (A:Acc) (w:World) (e:Ending) (w':World):Prop:=∃g F V,e=.returned (pV g)/\ybe w.heap.size g A F w' V/\BW w w'
theorem ja9 {lo gsx n N:Nat} {A:Acc} {F:List Nat} {w:World} (hA:ycy A) (hq:A.seq<=1000) (h:ja8 lo gsx A n N F w) :
 Calls Tryz.prog 21 #[pV gsx] w (jcs A w):= by
 obtain ⟨gj,ga,gp,g,k,lv,st,V,h⟩:=h;have HX:=lh h;have HOK:=lh hA;have s2:=h.s.cell 2;have ks:=h.s.lt;clear h hA
 go_enter Tryz.func21,Tryz.ntmps21
 go_wp2_with fail
 refine (yqs lo g A HOK.out hq F V _ HX.out.a).mono ?_;rintro _ w1 ⟨g1,F1,V1,rfl,a1,_,b1⟩;have HR:Hid (jcs A w (.returned (pV g1)) w1):=⟨g1,F1,V1,rfl,a1,b1⟩;clear a1 b1 s2 ks
 go_wp2_with fail
 go_ret
 exact HR.out
theorem jc2:(Tryz.prog.info? 38).map (·.size)=some 8:=by kernel_rfl
theorem jbt {ops:Array Oper} {rest:List Oper} {o:Oper} {a:Act} {w:World} {Q:Exit->Act->World->Prop} (hgd:o.guard=none) (x y:Operand) (ho:o.op=.store 38 x y)
 (hd:o.dst=none) (g:Nat) (cells:Array Value) (hx:a.eval x=pV g) (hy:a.eval y=.agg cells) (old:Array Value) (hg:w.heap[g]?=some (.cells old 38 (0,0))) (hs:cells.size=8) (hs2:old.size=8)
 (h1:cells.all (·.oneCell')=true) (h:wpList Tryz.prog ops Q rest a (w.setRow g cells)):wpList Tryz.prog ops Q (o::rest) a w :=
 wpList_store_rowTo hgd 38 x y ho hd g cells hx hy 38 old hg (by rw [jc2,hs]) (by rw [hs,hs2]) h1 h
end Go.Proofs.YtkongpjpkpfniaaGreat

/- TopPaid: parts of the proof, made small by a program (mini.py). -/
import Derived.Test.YtkongpjpkpfniaaGreatM01
import Derived.Test.YtkongpjpkpfniaaGreatM11
import Derived.Test.YtkongpjpkpfniaaGreatM39
set_option linter.unusedVariables false
set_option linter.unusedSimpArgs false
set_option maxRecDepth 100000
set_option maxHeartbeats 6400000
namespace Go.Proofs.YtkongpjpkpfniaaGreat
open Go.RowKit
theorem ykh {f cyc l:Int} (h:yb8 f cyc=(l,0)):1≤cyc∧cyc≤28 ∧ -135140≤f∧f≤2932896∧l=ydd f cyc∧l≤2932896:= by
 have h0:(yb8 f cyc).2=0:=by rw [h]
 obtain ⟨_,h1,h2,h3,h4⟩:=yji h0;have h5:=ymu f cyc;rw [h] at h5;unfold yb8 at h;rw [if_neg om,if_neg om] at h
 split at h
 ·cases h
 ·simp only [Prod.mk.injEq,and_true] at h
  exact ⟨h3,h4,h1,h2,h.symm,h5⟩
theorem yxn {f cyc l:Int} (h:yb8 f cyc=(l,0)):f≤l∧l≤f+30:= by
 obtain ⟨h1,h2,h3,h4,h5,_⟩:=ykh h;have hD:=yc4 (n:=f) ⟨h3,h4⟩;have h6:=ydb (yc6 f).1 hD.hm;have h7:=hD.hd;subst h5;unfold ydd
 split <;> omega
theorem yow {f cyc l:Int} (h:yb8 f cyc=(l,0)) (hd:(yc6 f).2.2=cyc):f+27≤l:= by
 obtain ⟨h1,h2,h3,h4,h5,_⟩:=ykh h;have hD:=yc4 (n:=f) ⟨h3,h4⟩;have h6:=ydb (yc6 f).1 hD.hm;subst h5;unfold ydd;rw [if_pos om];omega
theorem yt3 {f cyc l:Int} (h:yb8 f cyc=(l,0)) (hl:l+1≤2932896):(yc6 (l+1)).2.2=cyc:= by
 obtain ⟨h1,h2,h3,h4,h5,_⟩:=ykh h;have hD:=yc4 (n:=f) ⟨h3,h4⟩;obtain ⟨y,m,d,hyd⟩:∃y m d,yc6 f=(y,m,d):=⟨_,_,_,rfl⟩;unfold ydd at h5;rw [hyd] at hD h5;simp only at hD h5;have hm28:=ydb y hD.hm;have hy:=hD.hy;have hm:=hD.hm;have hd:=hD.hd;have hn:=hD.hn;have fin:∀y' m',yhn (l+1) y' m' cyc→(yc6 (l+1)).2.2=cyc:=fun y' m' k=>by rw [ytr k]
 by_cases hw:f-d+cyc-1<f
 ·rw [if_pos hw] at h5
  obtain ⟨k,hk⟩:∃k:Nat,(m-1).toNat=k:=⟨_,rfl⟩;have hk2:((k+1:Nat):Int)=m:=by omega
  have h9:sumM y (k+1)=sumM y k+lenM y m:= by
   show sumM y k+lenM y _=_;rw [hk2]
  rw [hk] at hn
  by_cases h12:m=12
  ·have hk11:k=11:=by omega
   subst hk11;have hs:=ym1 y;have h9':sumM y 12=sumM y 11+lenM y m:=h9;have hy1:=yhy (y-1600);have e2:1600+(y-1600)=y:=by omega
   rw [e2] at hy1;obtain ⟨q,hq⟩:∃q:Int,(if yk4 y=true then (1:Int) else 0)=q:=⟨_,rfl⟩;rw [hq] at hs hy1;have e3:y-1600+1=(y+1)-1600:=by omega
   rw [e3] at hy1;have hlast:newY (8400:Int)=2932897:=by decide
   have hyy:y<9999:= by
    by_cases h:y<9999
    ·exact h
    ·have hyq:y+1-1600=8400:=by omega
     rw [hyq,hlast] at hy1;omega
   have h28:=ydb (y+1) (m:=1) om;refine fin (y+1) 1 ⟨by omega,by omega,by omega,?_⟩;rw [hy1];show _=_+sumM (y+1) 0+cyc-1;have hs0:sumM (y+1) 0=0:=rfl;rw [hs0];omega
  ·have h28:=ydb y (m:=m+1) om
   refine fin y (m+1) ⟨hy,by omega,by omega,?_⟩;have e4:(m+1-1).toNat=k+1:=by omega
   rw [e4,h9];omega
 ·rw [if_neg hw] at h5
  exact fin y m ⟨hy,hm,by omega,by omega⟩
theorem yj2 {cyc day:Int} (k:Nat):∀{f:Int} {ps:List (Int×Int)} {b:Bool},ybd cyc day k f=(ps,b) →
 (∀i,i<ps.length→(ps.getD i (0,0)).2≤(ps.getD i (0,0)).1+30)∧(∀i,1≤i∨(yc6 f).2.2=cyc→i<ps.length→(ps.getD i (0,0)).1+27≤(ps.getD i (0,0)).2):= by
 induction k with
 | zero =>
  intro f ps b h;simp only [ybd,Prod.mk.injEq] at h;obtain ⟨rfl,_⟩:=h;exact ⟨fun i hi=>absurd hi (by simp),fun i _ hi=>absurd hi (by simp)⟩
 | succ k ih =>
  intro f ps b h
  by_cases h0:(yb8 f cyc).2=0
  ·obtain ⟨l,hl⟩:∃l,yb8 f cyc=(l,0):=⟨(yb8 f cyc).1,by rw [←h0]⟩
   have hlen:=yxn hl
   by_cases h1:l<day∧k≠0
   ·rw [ye0 hl h1.1 h1.2] at h
    cases hs:ybd cyc day k (l+1) with
    | mk qs b' =>
     rw [hs] at h;simp only [Prod.mk.injEq] at h;obtain ⟨rfl,rfl⟩:=h;obtain ⟨c1,c2⟩:=ih hs;refine ⟨fun i hi=>?_,fun i ho hi=>?_⟩
     ·cases i with
      | zero=>simp only [List.getD_cons_zero];exact hlen.2
      | succ i=>simp only [List.getD_cons_succ];exact c1 i (by simpa using hi)
     ·cases i with
      | zero =>
       simp only [List.getD_cons_zero];rcases ho with ho | ho
       ·omega
       ·exact yow hl ho
      | succ i =>
       simp only [List.getD_cons_succ];have hi':i<qs.length:=by simpa using hi
       refine c2 i (.inr ?_) hi'
       by_cases hr:l+1≤2932896
       ·exact yt3 hl hr
       ·exfalso
        cases k with
        | zero=>exact h1.2 rfl
        | succ k =>
         have hbad:(yb8 (l+1) cyc).2≠0:=fun hz=>by
          have:=(yji hz).2.2.1;omega
         rw [ye3 hbad] at hs;simp only [Prod.mk.injEq] at hs;rw [←hs.1] at hi';simp at hi'
   ·rw [yez hl h1] at h
    simp only [Prod.mk.injEq] at h;obtain ⟨rfl,_⟩:=h;refine ⟨fun i hi=>?_,fun i ho hi=>?_⟩
    ·obtain rfl:i=0:=by simpa using hi
     exact hlen.2
    ·obtain rfl:i=0:=by simpa using hi
     simp only [List.getD_cons_zero];rcases ho with ho | ho
     ·omega
     ·exact yow hl ho
  ·rw [ye3 h0] at h
   simp only [Prod.mk.injEq] at h;obtain ⟨rfl,_⟩:=h;exact ⟨fun i hi=>absurd hi (by simp),fun i _ hi=>absurd hi (by simp)⟩
theorem ynm {l:List R5} {x:R5} {i:Nat} (h:i<l.length):(l++[x]).getD i yax=l.getD i yax:= by
 simp only [List.getD];rw [List.getElem?_append_left h]
theorem ygr (l:List R5) (x:R5):(l++[x]).getD l.length yax=x:= by
 simp [List.getD]
theorem yfc (l:List R5) (day:Int) (n k:Nat) (p:Ps) (rs:List Int):evS l day (n+1) k p rs=if (l.getD k yax).b=day then
 if (ybi p rs (l.getD k yax)).2.2≠0 then (k,p,rs,(ybi p rs (l.getD k yax)).2.2)
 else evS l day n (k+1) (ybi p rs (l.getD k yax)).1 (ybi p rs (l.getD k yax)).2.1
 else (k,p,rs,0):=rfl
theorem yh5 (first due:Int) (x:R5) (l:List R5) (a:Int):yej first due (x::l) a=if x.a=2∧first≤x.b∧x.b≤due then (if x.d<0∨1000000000000000<x.d then (0,5) else yej first due l (min (a+x.d) 1000000000000000)) else yej first due l a:=rfl
theorem yub {l:List R5} {x:R5} {day:Int} (hx:x.b≠day) (n:Nat):∀(k:Nat) (p:Ps) (rs:List Int),k+n=l.length→evS (l++[x]) day (n+1) k p rs=evS l day n k p rs:= by
 induction n with
 | zero =>
  intro k p rs hk;obtain rfl:k=l.length:=by omega
  rw [yfc,ygr,if_neg hx]
  rfl
 | succ n ih =>
  intro k p rs hk;rw [yfc,yfc (l:=l),ynm om]
  by_cases h1:(l.getD k yax).b=day
  ·rw [if_pos h1,if_pos h1]
   by_cases h2:(ybi p rs (l.getD k yax)).2.2≠0
   ·rw [if_pos h2,if_pos h2]
   ·rw [if_neg h2,if_neg h2]
    exact ih _ _ _ om
  ·rw [if_neg h1,if_neg h1]
theorem ywk {l:List R5} {x:R5} (n:Nat):∀(k:Nat) (p:Ps) (rs:List Int),k+n=l.length→(evS l x.b n k p rs).2.2.2=0→(evS l x.b n k p rs).1=l.length →
 evS (l++[x]) x.b (n+1) k p rs=if (ybi (evS l x.b n k p rs).2.1 (evS l x.b n k p rs).2.2.1 x).2.2≠0 then (l.length,(evS l x.b n k p rs).2.1,(evS l x.b n k p rs).2.2.1,(ybi (evS l x.b n k p rs).2.1 (evS l x.b n k p rs).2.2.1 x).2.2)
  else (l.length+1,(ybi (evS l x.b n k p rs).2.1 (evS l x.b n k p rs).2.2.1 x).1,(ybi (evS l x.b n k p rs).2.1 (evS l x.b n k p rs).2.2.1 x).2.1,0):= by
 induction n with
 | zero =>
  intro k p rs hk h0 h1;obtain rfl:k=l.length:=by omega
  rw [yfc,ygr,if_pos rfl]
  rfl
 | succ n ih =>
  intro k p rs hk h0 h1;have key:=yfc l x.b n k p rs
  by_cases hb:(l.getD k yax).b=x.b
  ·rw [if_pos hb] at key
   by_cases he:(ybi p rs (l.getD k yax)).2.2≠0
   ·rw [if_pos he] at key
    rw [key] at h0;exact absurd h0 he
   ·rw [if_neg he] at key
    rw [key] at h0 h1 ⊢;rw [yfc (l:=l++[x]),ynm om,if_pos hb,if_neg he];exact ih _ _ _ om h0 h1
  ·rw [if_neg hb] at key
   rw [key] at h1;simp only at h1;omega
theorem ytf {fr du:Int} {x:R5} (hx:du<x.b) (l:List R5):∀a,yej fr du (l++[x]) a=yej fr du l a:= by
 induction l with
 | nil =>
  intro a;show yej fr du [x] a=yej fr du [] a;rw [yh5,if_neg om]
 | cons y l ih =>
  intro a;rw [List.cons_append,yh5,yh5]
  by_cases h1:y.a=2∧fr≤y.b∧y.b≤du
  ·rw [if_pos h1,if_pos h1]
   by_cases h2:y.d<0∨1000000000000000<y.d
   ·rw [if_pos h2,if_pos h2]
   ·rw [if_neg h2,if_neg h2,ih]
  ·rw [if_neg h1,if_neg h1,ih]
theorem yvx {t:Tm} {n fr til:Int} {p q:Ps} {rs ns:List Int} {g:Bool} {x:St} {e:Int} (h:ycd t n fr til p rs ns g=(some x,q,e)):x.du=til+t.dued:= by
 unfold ycd at h
 split at h
 ·cases h
 split at h
 ·cases h
 split at h
 ·cases h
 split at h
 ·cases h
 ·cases h;rfl
structure RInv (t:Tm) (l:List R5) (ps:List (Int×Int)) (day:Int) (s:RS):Prop where
 w:WInv t l ps day s
 due:∀x,s.out.getLast?=some x→x.du=(ps.getD s.out.length (0,0)).1-1+t.dued
 low:∀i,s.at'≤i→i<l.length→day≤(l.getD i yax).b
theorem yzp {l:List R5} (ha:Asc l) {day:Int} (n:Nat):∀(k:Nat) (p:Ps) (rs:List Int),k+n=l.length→(∀i,k≤i→i<l.length→day≤(l.getD i yax).b)→(evS l day n k p rs).2.2.2=0→∀i,(evS l day n k p rs).1≤i→i<l.length→day+1≤(l.getD i yax).b:= by
 induction n with
 | zero=>intro k p rs hk hl h0 i h1 h2;simp only [evS] at h1;omega
 | succ n ih =>
  intro k p rs hk hl h0;rw [yfc] at h0 ⊢
  by_cases hb:(l.getD k yax).b=day
  ·rw [if_pos hb] at h0 ⊢
   by_cases he:(ybi p rs (l.getD k yax)).2.2≠0
   ·rw [if_pos he] at h0
    exact absurd h0 he
   ·rw [if_neg he] at h0 ⊢
    exact ih _ _ _ om (fun i h1 h2=>hl i om h2) h0
  ·rw [if_neg hb]
   intro i h1 h2;simp only at h1;have h3:=hl k (Nat.le_refl _) om;rcases Nat.eq_or_lt_of_le h1 with h4 | h4
   ·subst h4;omega
   ·have:=ha k i (Nat.le_of_lt h4) h2
    omega
theorem RInv.ev {t:Tm} {l:List R5} {ps:List (Int×Int)} {day:Int} {s:RS} (h:RInv t l ps day s) (ha:Asc l) (h0:(ybh l day s).2=0):RInv t l ps day (ybh l day s).1∧∀i,(ybh l day s).1.at'≤i→i<l.length→day+1≤(l.getD i yax).b:= by
 have hat:=h.w.at';have hlow:=yzp ha (l.length-s.at') s.at' s.p s.rs om h.low h0;exact ⟨⟨h.w.ev,h.due,fun i h1 h2=>by have:=hlow i h1 h2;omega⟩,hlow⟩
theorem yu9 {t:Tm} {l:List R5} {fr til:Int} {s:RS} (h:(ydn t l fr til s).2=0):∃x,(ydn t l fr til s).1.out=s.out++[x]∧x.du=til+t.dued∧(ydn t l fr til s).1.at'=s.at':= by
 unfold ydn at h ⊢
 split
 ·rename_i h1;rw [if_pos h1] at h;exact absurd h h1
 ·rename_i h1
  rw [if_neg h1] at h
  split
  ·rename_i h2;rw [if_pos h2] at h;exact absurd h h2
  ·rename_i h2
   rw [if_neg h2] at h;cases hc:ycd t ((s.out.length:Int)+1) fr til s.p s.rs (intS t.right t.ts s.X s.Y (yet l s.out fr).1).1 (yet l s.out fr).1 with
   | mk so r =>
    obtain ⟨q,e⟩:=r;rw [hc] at h;cases so with
    | none =>
     have h3:=yek hc;simp only at h;subst h;simp at h3
    | some x=>exact ⟨x,rfl,yvx hc,rfl⟩
theorem RInv.shut {t:Tm} {l:List R5} {ps:List (Int×Int)} {f day today:Int} {s:RS} (h:RInv t l ps day s) (hc:yg9 f today ps) (hd:day<today) (hl:∀x∈s.out,x.ls.length≤t.ts.length) (hlow:∀i,s.at'≤i→i<l.length→day+1≤(l.getD i yax).b) (h0:(ybb t l ps day s).2=0):RInv t l ps (day+1) (ybb t l ps day s).1:= by
 have hw:=(yfj h.w hc hd hl h0).1;unfold ybb at h0 hw ⊢
 by_cases he:(ps.getD s.out.length (0,0)).2=day
 ·rw [if_pos he] at h0 hw ⊢
  obtain ⟨x,e1,e2,e3⟩:=yu9 h0;refine ⟨hw,fun y hy=>?_,fun i h1 h2=>hlow i (by rw [e3] at h1;exact h1) h2⟩;have hout:=hw.out;rw [e1] at hy hout ⊢
  have e4:((ydh s).out++[x]).length=s.out.length+1:= by
   rw [List.length_append]
   rfl
  rw [e4] at hout ⊢;have:=hc.next s.out.length hout;rw [List.getLast?_append] at hy;simp only [List.getLast?_singleton,Option.some_or,Option.some.injEq] at hy;subst hy;rw [e2,this,he];omega
 ·rw [if_neg he] at hw ⊢
  exact ⟨hw,h.due,hlow⟩
theorem ytn {t:Tm} {l:List R5} {x:R5} {out:List St} {fr:Int} (h:∀s,out.getLast?=some s→s.du<x.b):yet (l++[x]) out fr=yet l out fr:= by
 unfold yet;cases hg:out.getLast? with
 | none=>rfl
 | some s =>
  simp only [hasR];rw [ytf (h s hg)]
theorem yta {t:Tm} {l:List R5} {x:R5} {fr til:Int} {s:RS} (h:∀y,s.out.getLast?=some y→y.du<x.b):ydn t (l++[x]) fr til s=ydn t l fr til s:= by
 unfold ydn;rw [ytn (t:=t) h]
theorem yir {t:Tm} {l:List R5} {x:R5} {ps:List (Int×Int)} {f day today:Int} {s:RS} (h:RInv t l ps day s) (hd:day<today) (hx:x.b=today) (h25:t.dued≤25) (hlen:∀i,1≤i→i<ps.length→(ps.getD i (0,0)).1+27≤(ps.getD i (0,0)).2):ybb t (l++[x]) ps day s=ybb t l ps day s:= by
 unfold ybb
 split
 ·rename_i he
  refine yta fun y hy=>?_;have h1:=h.due y hy
  have h2:1≤s.out.length:= by
   have hy':s.out.getLast?=some y:=hy;cases ho:s.out with
   | nil=>rw [ho] at hy';cases hy'
   | cons=>simp
  have h3:=hlen _ h2 h.w.out;omega
 ·rfl
theorem ylz {l:List R5} {x:R5} {day:Int} {s:RS} (hat:s.at'≤l.length) (hx:x.b≠day):ybh (l++[x]) day s=ybh l day s:= by
 unfold ybh;rw [List.length_append,List.length_singleton,show l.length+1-s.at'=(l.length-s.at')+1 by omega,yub hx _ _ _ _ om]
theorem ysv {l:List R5} {x:R5} {s:RS} (hat:s.at'≤l.length) (h0:(ybh l x.b s).2=0) (h1:(ybh l x.b s).1.at'=l.length) (h2:(ybh (l++[x]) x.b s).2=0) :
 (ybi (ybh l x.b s).1.p (ybh l x.b s).1.rs x).2.2=0∧(ybh (l++[x]) x.b s).1={ (ybh l x.b s).1 with at':=l.length+1,p:=(ybi (ybh l x.b s).1.p (ybh l x.b s).1.rs x).1,rs:=(ybi (ybh l x.b s).1.p (ybh l x.b s).1.rs x).2.1 }:= by
 have e:=ywk (x:=x) (l.length-s.at') s.at' s.p s.rs om h0 h1
 have e2:ybh (l++[x]) x.b s=({ s with at':=(evS (l++[x]) x.b (l.length-s.at'+1) s.at' s.p s.rs).1,p:=(evS (l++[x]) x.b (l.length-s.at'+1) s.at' s.p s.rs).2.1,rs:=(evS (l++[x]) x.b (l.length-s.at'+1) s.at' s.p s.rs).2.2.1 },(evS (l++[x]) x.b (l.length-s.at'+1) s.at' s.p s.rs).2.2.2):= by
  unfold ybh;rw [List.length_append,List.length_singleton,show l.length+1-s.at'=(l.length-s.at')+1 by omega]
 rw [e2] at h2 ⊢;rw [e] at h2 ⊢
 by_cases he:(ybi (evS l x.b (l.length-s.at') s.at' s.p s.rs).2.1 (evS l x.b (l.length-s.at') s.at' s.p s.rs).2.2.1 x).2.2=0
 ·rw [if_neg (by rw [he];simp)]
  exact ⟨he,rfl⟩
 ·rw [if_pos he] at h2
  exact absurd h2 he
theorem yge (t:Tm) (l:List R5) (ps:List (Int×Int)) (k:Nat) (day:Int) (s:RS):ycm t l ps (k+1) day s=if (ybh l day s).2≠0 then ybh l day s
 else if (ybb t l ps day (ybh l day s).1).2≠0 then ybb t l ps day (ybh l day s).1
 else ycm t l ps k (day+1) (ybb t l ps day (ybh l day s).1).1:=rfl
theorem ys8 {t:Tm} {l:List R5} {x:R5} {ps:List (Int×Int)} {f today:Int} (hc:yg9 f today ps) (ha:Asc l) (hlate:∀i,i<l.length→(l.getD i yax).b≤today) (hx:x.b=today) (h25:t.dued≤25) (hlen:∀i,1≤i→i<ps.length→(ps.getD i (0,0)).1+27≤(ps.getD i (0,0)).2)
 (k:Nat):∀(day:Int) (s:RS),RInv t l ps day s→day+(k:Int)=today→(∀y∈s.out,y.ls.length≤t.ts.length)→(ycm t l ps k day s).2=0→(ycm t (l++[x]) ps k day s).2=0 →
 (ybi (ycm t l ps k day s).1.p (ycm t l ps k day s).1.rs x).2.2=0∧(ycm t (l++[x]) ps k day s).1={ (ycm t l ps k day s).1 with at':=l.length+1,p:=(ybi (ycm t l ps k day s).1.p (ycm t l ps k day s).1.rs x).1,rs:=(ybi (ycm t l ps k day s).1.p (ycm t l ps k day s).1.rs x).2.1 }:= by
 induction k with
 | zero =>
  intro day s h hd hl h0 h1;obtain rfl:day=today:=by simpa using hd
  subst hx;have h0':(ybh l x.b s).2=0:=h0;obtain ⟨_,q⟩:=h.ev ha h0';have hat:=h.ev ha h0' |>.1.w.at';refine ysv h.w.at' h0 ?_ h1;rcases Nat.lt_or_ge (ybh l x.b s).1.at' l.length with h2 | h2
  ·have h3:=q _ (Nat.le_refl _) h2
   have h4:=hlate _ h2;omega
  ·omega
 | succ k ih =>
  intro day s h hd hl h0 h1;have hne:x.b≠day:=by omega
  rw [yge] at h0 ⊢;rw [yge,ylz h.w.at' hne] at h1
  by_cases e1:(ybh l day s).2=0
  ·rw [if_neg (by rw [e1];simp)] at h0 h1 ⊢
   obtain ⟨hr,hlow⟩:=h.ev ha e1;rw [yir (f:=f) (today:=today) hr om hx h25 hlen] at h1
   by_cases e2:(ybb t l ps day (ybh l day s).1).2=0
   ·rw [if_neg (by rw [e2];simp)] at h0 h1 ⊢
    have hin:=yfj hr.w hc om (fun y hy=>hl y hy) e2;have:=ih (day+1) _ (hr.shut hc om (fun y hy=>hl y hy) hlow e2) om hin.2 h0 h1;refine ⟨this.1,?_⟩;rw [yge,ylz h.w.at' hne,if_neg (by rw [e1];simp),yir (f:=f) (today:=today) hr om hx h25 hlen,if_neg (by rw [e2];simp)];exact this.2
   ·rw [if_pos e2] at h0
    exact absurd h0 e2
  ·rw [if_pos e1] at h0
   exact absurd h0 e1
theorem yje {t:Tm} (h:t.right=true):t.dued≤25∧1≤t.dued∧0≤t.lim∧1≤t.cyc∧t.cyc≤28:= by
 unfold Tm.right yaw at h;simp only [Bool.and_eq_true,ydr] at h;omega
theorem ytp {t:Tm} {x:R5} (h:t.rightE x=0):t.start≤x.b:= by
 unfold Tm.rightE ygo at h;generalize yaw t.lim t.ts t.cyc t.dued t.minf t.minp t.start=b0 at h;generalize (decide (x.a<1) || decide (6<x.a))=b1 at h;generalize (if (x.a == 2)=true then x.c != 0 else decide (x.c<1) || decide ((t.ts.length:Int)<x.c))=b2 at h;generalize (if (x.a == 6)=true then decide (x.d<0) || decide (10000000<x.d) else decide (x.d<1) || decide (1000000000000000<x.d))=b3 at h;cases hd:(decide (x.b<t.start) || decide (2932896<x.b)) with
 | false =>
  simp at hd;omega
 | true =>
  rw [hd] at h;cases b0 <;> cases b1 <;> cases b2 <;> cases b3 <;> simp at h
theorem RInv.first {t:Tm} {l:List R5} {ps:List (Int×Int)} {today:Int} (hc:yg9 t.start today ps) (hl:∀x∈l,t.rightE x=0):RInv t l ps t.start (rs0 t) :=
 ⟨WInv.first hc,fun x hx=>by simp [rs0] at hx,fun i _ hi=>ytp (hl _ (getD5_memL hi))⟩
 where
 getD5_memL {l:List R5} {i:Nat} (h:i<l.length):l.getD i yax∈l:= by
  simp only [List.getD,List.getElem?_eq_getElem h,Option.getD_some];exact List.getElem_mem h
theorem yt7 {t:Tm} {l:List R5} {x:R5} {today:Int} (hg:yha t l today) (ha:Asc l) (h0:(runS t l today).e=0) (hg':yha t (l++[x]) today) (hx:x.b=today) (h1:(runS t (l++[x]) today).e=0) :
 (ybi (runS t l today).p (runS t l today).rs x).2.2=0∧(runS t (l++[x]) today).p=(ybi (runS t l today).p (runS t l today).rs x).1∧(runS t (l++[x]) today).rs=(ybi (runS t l today).p (runS t l today).rs x).2.1∧(runS t (l++[x]) today).out=(runS t l today).out:= by
 obtain ⟨ps,hp⟩:=yfx hg h0;obtain ⟨qs,hq⟩:=yfx hg' h1
 obtain rfl:ps=qs:= by
  have h3:=hp.sp;rw [hq.sp] at h3;simp only [Prod.mk.injEq,and_true] at h3;exact h3.symm
 have hgo:∀l,goS t l today=ycm t l ps (today-t.start).toNat t.start (rs0 t):=fun l=>by unfold goS;rw [hp.sp]
 have g0:=hp.go;have g1:=hq.go;rw [hgo] at g0 g1;have hlo:=hp.lo;obtain ⟨_,k2⟩:=yj2 300 hp.sp
 obtain ⟨r1,r2⟩:=ys8 hp.ch ha (fun i hi=>hg.late _ (by
  simp only [List.getD,List.getElem?_eq_getElem hi,Option.getD_some];exact List.getElem_mem hi)) hx (yje hg.terms).1 (fun i h1 h2=>k2 i (.inl h1) h2) (today-t.start).toNat t.start (rs0 t) (RInv.first hp.ch hg.events) om (by simp [rs0]) g0 g1
 rw [hp.eq,hq.eq,hgo,hgo];exact ⟨r1,by rw [r2],by rw [r2],by rw [r2]⟩
theorem yr2:∀(a b:List Int),a.length=b.length→(∀j,j<b.length→a.getD j 0≤b.getD j 0)→a.sum≤b.sum∧(a.sum=b.sum→a=b)
 | [],[],_,_=>⟨Int.le_refl _,fun _=>rfl⟩
 | x::a,y::b,hl,h=>by
  have h0:=h 0 (by simp);simp only [List.getD_cons_zero] at h0;obtain ⟨h1,h2⟩:=yr2 a b (by simpa using hl) (fun j hj=>by simpa using h (j+1) (by simpa using hj));simp only [List.sum_cons]
  exact ⟨by omega,fun e=>by
   have e1:a.sum=b.sum:=by omega
   have e2:x=y:=by omega
   rw [e2,h2 e1]⟩
 | [],_::_,hl,_=>by simp at hl
 | _::_,[],hl,_=>by simp at hl
theorem ysa:∀(a b:List Int),a.length=b.length→(addL a b).sum=a.sum+b.sum
 | [],[],_=>rfl
 | x::a,y::b,hl=>by
  have:=ysa a b (by simpa using hl);simp only [addL] at this ⊢;simp only [List.zipWith_cons_cons,List.sum_cons,this];omega
 | [],_::_,hl=>by simp at hl
 | _::_,[],hl=>by simp at hl
theorem yya {bs rates:List Int} {c d:Int} {L:List Int} {du le:Int} (h:payR bs c d rates bs.sum=(L,du,le,0)):L=bs∧le=0:= by
 obtain ⟨r1,r2,r3,r4⟩:=yic h;rcases yid h with ⟨_,hl,hb,_,hd,ha,rfl,rfl,rfl⟩ | ⟨h0,_⟩
 ·have hbr:=ylg hb
  have hdr:=yc5 hd;have har:=yc5 ha;have hb0:∀x∈bs,0≤x:=fun x hx=>(hbr x hx).1;have hm:0≤min bs.sum d:=by omega
  have l1:(pay1 bs rates (min bs.sum d)).1.length=bs.length:=ya7 _ _ _;have l2:(pay2 bs rates d bs.sum).1.length=bs.length:=by unfold pay2;rw [ya7,yb3]
  have hrr:=yfg (rates:=rates) hm hbr;have hr0:∀x∈ycj bs rates (min bs.sum d),0≤x:=fun x hx=>(hrr x hx).1;have q1:0≤(pay1 bs rates (min bs.sum d)).2∧(pay1 bs rates (min bs.sum d)).2≤min bs.sum d:=ydz hm hb0 _;have ha2:0≤bs.sum-min bs.sum d+(pay1 bs rates (min bs.sum d)).2:=by omega
  have s1:(pay1 bs rates (min bs.sum d)).1.sum+(pay1 bs rates (min bs.sum d)).2=min bs.sum d:=yll (ymc ydt rates rates.length) hl.symm;have s2:(pay2 bs rates d bs.sum).1.sum+(pay2 bs rates d bs.sum).2=bs.sum-min bs.sum d+(pay1 bs rates (min bs.sum d)).2:=yll (ymc ya2 rates rates.length) (by rw [yb3];exact hl.symm);have s3:=ysa (pay1 bs rates (min bs.sum d)).1 (pay2 bs rates d bs.sum).1 om;obtain ⟨t1,t2⟩:=yr2 _ bs r1 (fun j hj=>(r2 j hj).2)
  by_cases hle:(pay2 bs rates d bs.sum).2=0
  ·exact ⟨t2 om,hle⟩
  ·have hfull:∀j,j<bs.length→(pay2 bs rates d bs.sum).1.getD j 0=(ycj bs rates (min bs.sum d)).getD j 0:=fun j hj =>
    ypc (ymc ya2 rates rates.length) (by rw [yb3];exact hl.symm) hr0 ha2 (by show 0<(pay2 bs rates d bs.sum).2;omega) om
   have hL:addL (pay1 bs rates (min bs.sum d)).1 (pay2 bs rates d bs.sum).1=bs:= by
    refine List.ext_getElem om (fun j h1 h2=>?_)
    have e1:(addL (pay1 bs rates (min bs.sum d)).1 (pay2 bs rates d bs.sum).1).getD j 0=bs.getD j 0:= by
     rw [yj5 om om,hfull j h2];unfold ycj;rw [yec h2 om];omega
    simpa [List.getD,h1,h2] using e1
   refine ⟨hL,?_⟩;rw [hL] at s3;omega
 ·exact absurd h0 (by decide)
theorem yvr (bs:List Int):∀x∈subL bs bs,x=0:= by
 induction bs with
 | nil=>intro x hx;simp [subL] at hx
 | cons y bs ih =>
  intro x hx;simp only [subL,List.zipWith_cons_cons,List.mem_cons] at hx;rcases hx with rfl | hx
  ·omega
  ·exact ih x hx
theorem yxd {l:List Int} (h:∀x∈l,x=0):l.sum=0:= by
 induction l with
 | nil=>rfl
 | cons x l ih =>
  rw [List.sum_cons,h x (List.mem_cons_self ..),ih fun y hy=>h y (List.mem_cons_of_mem _ hy)]
  rfl
theorem yxz {bs rates:List Int} {c d:Int} (h:(payS bs c d rates bs.sum).2.2.2=0) :
 (payS bs c d rates bs.sum).1.length=bs.length∧(∀x∈(payS bs c d rates bs.sum).1,x=0)∧(payS bs c d rates bs.sum).2.1=c∧yat bs c d=true:= by
 unfold payS at h ⊢
 split at h
 ·rename_i h1;exact absurd h h1
 rename_i h1;rw [if_neg h1]
 split at h
 ·rename_i h2;exact absurd h h2
 rename_i h2;rw [if_neg h2]
 split at h
 ·rename_i h3
  rw [if_pos h3];have h2':(payR bs c d rates bs.sum).2.2.2=0:=by simpa using h2
  obtain ⟨L,du,le,e,hp⟩:∃L du le e,payR bs c d rates bs.sum=(L,du,le,e):=⟨_,_,_,_,rfl⟩;rw [hp] at h2' ⊢;simp only at h2' ⊢;subst h2';obtain ⟨rfl,rfl⟩:=yya hp;refine ⟨by simp [subL],yvr _,by omega,?_⟩;exact (yif (by simpa using h1)).1
 ·simp at h
section
open Go.RowKit EvM
def AllZ (l:List Int):Prop:=∀v∈l,v=0
theorem AllZ.get {l:List Int} (h:AllZ l) (k:Nat):l.getD k 0=0:= by
 by_cases hk:k<l.length
 ·simp only [List.getD,List.getElem?_eq_getElem hk,Option.getD_some]
  exact h _ (List.getElem_mem hk)
 ·simp [List.getD,Nat.le_of_not_lt hk]
theorem AllZ.set {l:List Int} (h:AllZ l) (k:Nat):AllZ (l.set k 0):=fun v hv=>by
 rcases List.mem_or_eq_of_mem_set hv with h1 | h1
 ·exact h v h1
 ·exact h1
theorem yur {bs rs:List Int} (h:AllZ bs) (k:Nat):sumE bs rs k=0:= by
 induction k with
 | zero=>rfl
 | succ k ih =>
  rw [sumE,ih,h.get k];simp
theorem yvs:(ofR2 0).1=0:= by
 unfold ofR2
 split
 ·show (evQ 0 0 1000000000).1=0
  decide
 ·rfl
theorem ypd {bs rs:List Int} (h:AllZ bs):(yft bs rs).1=0:= by
 unfold yft
 split
 ·rw [yur h];exact yvs
 ·rfl
theorem yrt {X:List (List Int)} (h:∀row∈X,AllZ row) (k:Nat):AllZ (X.getD k []):= by
 by_cases hk:k<X.length
 ·simp only [List.getD,List.getElem?_eq_getElem hk,Option.getD_some]
  exact h _ (List.getElem_mem hk)
 ·intro v hv
  simp [List.getD,Nat.le_of_not_lt hk] at hv
theorem yts {X Y:List (List Int)} {ts:List (Int×Bool)} {g:Bool} (h:∀row∈X,AllZ row) (k:Nat):AllZ (intK X Y ts g k).1:= by
 induction k with
 | zero=>intro v hv;simp [intK] at hv
 | succ k ih =>
  rw [intK]
  split
  ·exact ih
  ·split
   ·intro v hv
    rcases List.mem_append.1 hv with h1 | h1
    ·exact ih v h1
    ·exact ms.1 h1
   ·split
    ·intro v hv;simp at hv
    ·intro v hv
     rcases List.mem_append.1 hv with h1 | h1
     ·exact ih v h1
     ·rw [ms.1 h1];exact ypd (yrt h k)
theorem yve {rt:Bool} {X Y:List (List Int)} {ts:List (Int×Bool)} {g:Bool} (h:∀row∈X,AllZ row):AllZ (intS rt ts X Y g).1:= by
 unfold intS
 split
 ·intro v hv;simp at hv
 ·split
  ·intro v hv;simp at hv
  ·exact yts h _
theorem yra {ns bs:List Int} {c:Int} (hn:AllZ ns) (hb:AllZ bs) (hc:0≤c) (k:Nat):AllZ (yba ns bs c k).1∧(yba ns bs c k).2=c:= by
 induction k with
 | zero=>exact ⟨hb,rfl⟩
 | succ k ih =>
  obtain ⟨h1,h2⟩:=ih
  have e:(yba ns bs c k).1.getD k 0+(ns.getD k 0-min (ns.getD k 0) (yba ns bs c k).2)=0:= by
   rw [h1.get,hn.get,h2];omega
  rw [yba,e,hn.get,h2];exact ⟨h1.set k,by show c-min 0 c=c;omega⟩
theorem ypf:∀{l:List Int},(∀v∈l,0≤v)→0≤l.sum∧(l.sum=0→AllZ l)
 | [],_=>⟨Int.le_refl _,fun _ v hv=>by cases hv⟩
 | x::l,h=>by
  obtain ⟨h1,h2⟩:=ypf (l:=l) fun v hv=>h v (List.mem_cons_of_mem _ hv);have h3:=h x (List.mem_cons_self ..);rw [List.sum_cons];refine ⟨by omega,fun e v hv=>?_⟩;rcases List.mem_cons.1 hv with rfl | hv
  ·omega
  ·exact h2 om v hv
theorem ynj {bs:List Int} {c d:Int} (h:yat bs c d=true):∀v∈bs,0≤v:=fun v hv=>by
 obtain ⟨j,hj,rfl⟩:=List.getElem_of_mem hv;have:=((ycr h).2 j hj).1
 simpa [List.getD,hj] using this
theorem ypr {bs:List Int} {c d:Int} (h:yat bs c d=true) (h0:yb4 bs c d=0):AllZ bs:= by
 unfold yb4 at h0;rw [if_pos h] at h0;exact (ypf (ynj h)).2 h0
theorem yqz {t:Tm} {n fr til:Int} {p q:Ps} {rs ns:List Int} {g:Bool} {x:St} {e:Int} (h:ycd t n fr til p rs ns g=(some x,q,e)) :
 (x.tot=0→AllZ q.bs)∧(AllZ p.bs→AllZ ns→∀ln∈x.ls,ln.1=0∧ln.2.1=0):= by
 unfold ycd at h
 split at h
 ·cases h
 split at h
 ·cases h
 split at h
 ·cases h
 split at h
 ·cases h
 rename_i h4;have h4':(ye7 p.bs p.c p.d ns).2.2.2=0:=by simpa using h4
 have hb:yat p.bs p.c p.d=true∧yat (ye7 p.bs p.c p.d ns).1 (ye7 p.bs p.c p.d ns).2.1 (ye7 p.bs p.c p.d ns).2.2.1=true∧(ye7 p.bs p.c p.d ns).1=(yba ns p.bs p.c p.bs.length).1:= by
  unfold ye7 at h4' ⊢
  split at h4'
  ·cases h4'
  rename_i a1;rw [if_neg a1]
  split at h4'
  ·cases h4'
  rename_i a2;rw [if_neg a2]
  split at h4'
  ·cases h4'
  rename_i a3;rw [if_neg a3]
  split at h4'
  ·rename_i a4
   rw [if_pos a4];exact ⟨by simpa using a1,a4,rfl⟩
  ·cases h4'
 cases h;refine ⟨fun h0=>ypr hb.2.1 h0,fun hp hn ln hln=>?_⟩
 have hz:AllZ (ye7 p.bs p.c p.d ns).1:= by
  rw [hb.2.2];exact (yra hn hp (ycr hb.1).1.1 _).1
 simp only [psOf,zip3,List.mem_map,List.mem_range] at hln;obtain ⟨i,_,rfl⟩:=hln;exact ⟨hz.get i,hn.get i⟩
theorem ys0 {t:Tm} {l:List R5} {fr til:Int} {s:RS} (h:(ydn t l fr til s).2=0):∃x,(ydn t l fr til s).1.out=s.out++[x]∧(∀row∈(ydn t l fr til s).1.X,AllZ row)∧(x.tot=0→AllZ (ydn t l fr til s).1.p.bs) ∧
 (AllZ s.p.bs→(∀row∈s.X,AllZ row)→∀ln∈x.ls,ln.1=0∧ln.2.1=0):= by
 unfold ydn at h ⊢
 split
 ·rename_i h1;rw [if_pos h1] at h;exact absurd h h1
 ·rename_i h1
  rw [if_neg h1] at h
  split
  ·rename_i h2;rw [if_pos h2] at h;exact absurd h h2
  ·rename_i h2
   rw [if_neg h2] at h;cases hc:ycd t ((s.out.length:Int)+1) fr til s.p s.rs (intS t.right t.ts s.X s.Y (yet l s.out fr).1).1 (yet l s.out fr).1 with
   | mk so r =>
    obtain ⟨q,e⟩:=r;rw [hc] at h;cases so with
    | none =>
     have h3:=yek hc;simp only at h;subst h;simp at h3
    | some x =>
     obtain ⟨k1,k2⟩:=yqz hc;refine ⟨x,rfl,fun row hr v hv=>?_,k1,fun hp hX=>k2 hp (yve hX)⟩;have:=List.eq_of_mem_replicate hr;subst this;cases hv
structure QInv (n:Nat) (s:RS):Prop where
 old:∀i,n+1≤i→i<s.out.length→(s.out.getD (i-1) St0).tot=0→∀ln∈(s.out.getD i St0).ls,ln.1=0∧ln.2.1=0
 now:n+1≤s.out.length→(s.out.getD (s.out.length-1) St0).tot=0→AllZ s.p.bs∧∀row∈s.X,AllZ row
theorem QInv.ev {n:Nat} {l:List R5} {day:Int} {s:RS} (h:QInv n s) (hat:n+1≤s.out.length→s.at'=l.length):QInv n (ybh l day s).1:= by
 refine ⟨h.old,fun h1 h2=>?_⟩
 have e:ybh l day s=(s,0):= by
  unfold ybh;rw [hat h1,Nat.sub_self,evS];have:=hat h1;rw [←this]
 rw [e];exact h.now h1 h2
theorem QInv.dayEnd {n:Nat} {s:RS} (h:QInv n s):QInv n (ydh s):= by
 refine ⟨h.old,fun h1 h2=>?_⟩;obtain ⟨k1,k2⟩:=h.now h1 h2;refine ⟨k1,fun row hr v hv=>?_⟩;simp only [ydh,ye8,List.mem_map,List.mem_range] at hr;obtain ⟨k,_,rfl⟩:=hr;rcases List.mem_append.1 hv with h3 | h3
 ·exact yrt k2 k v h3
 ·rw [ms.1 h3];exact k1.get k
theorem ykt {l:List St} {x:St} {i:Nat} (h:i<l.length):(l++[x]).getD i St0=l.getD i St0:= by
 simp only [List.getD];rw [List.getElem?_append_left h]
theorem yle (l:List St) (x:St):(l++[x]).getD l.length St0=x:=by simp [List.getD]
theorem QInv.shut {n:Nat} {t:Tm} {l:List R5} {ps:List (Int×Int)} {day:Int} {s:RS} (h:QInv n s) (h0:(ybb t l ps day s).2=0):QInv n (ybb t l ps day s).1:= by
 unfold ybb at h0 ⊢
 by_cases he:(ps.getD s.out.length (0,0)).2=day
 ·rw [if_pos he] at h0 ⊢
  obtain ⟨x,e1,e2,e3,e4⟩:=ys0 h0;have hd:=h.dayEnd;have e1':(ydn t l (ps.getD s.out.length (0,0)).1 day (ydh s)).1.out=s.out++[x]:=e1;refine ⟨fun i h1 h2 h3=>?_,fun h1 h2=>?_⟩
  ·rw [e1'] at h2 h3 ⊢
   rw [List.length_append,List.length_singleton] at h2
   by_cases hi:i<s.out.length
   ·rw [ykt om] at h3
    rw [ykt hi];exact h.old i h1 hi h3
   ·obtain rfl:i=s.out.length:=by omega
    rw [ykt om] at h3;rw [yle];obtain ⟨k1,k2⟩:=hd.now h1 h3;exact e4 k1 k2
  ·rw [e1'] at h2
   rw [List.length_append,List.length_singleton,Nat.add_sub_cancel,yle] at h2;exact ⟨e3 h2,e2⟩
 ·rw [if_neg he]
  exact h.dayEnd
theorem yq8 {n:Nat} {t:Tm} {l:List R5} {ps:List (Int×Int)} {f day1 today:Int} (hc:yg9 f today ps) (ha:Asc l) (hlate:∀i,i<l.length→(l.getD i yax).b≤day1) (hps:∀i,n+1≤i→i<ps.length→day1<(ps.getD i (0,0)).1)
 (k:Nat):∀(day:Int) (s:RS),RInv t l ps day s→QInv n s→day+(k:Int)=today→(∀y∈s.out,y.ls.length≤t.ts.length)→(ycm t l ps k day s).2=0→QInv n (ycm t l ps k day s).1:= by
 have hat:∀(day:Int) (s:RS),RInv t l ps day s→n+1≤s.out.length→s.at'=l.length:=fun day s h hn=>by
  have h1:=hps _ hn h.w.out;have h2:=h.w.lo;have h3:=h.w.at';rcases Nat.lt_or_ge s.at' l.length with h4 | h4
  ·have h5:=h.low _ (Nat.le_refl _) h4
   have h6:=hlate _ h4;omega
  ·omega
 induction k with
 | zero=>intro day s h hq hd hl h0;exact hq.ev (hat day s h)
 | succ k ih =>
  intro day s h hq hd hl h0;rw [yge] at h0 ⊢
  by_cases e1:(ybh l day s).2=0
  ·rw [if_neg (by rw [e1];simp)] at h0 ⊢
   obtain ⟨hr,hlow⟩:=h.ev ha e1
   by_cases e2:(ybb t l ps day (ybh l day s).1).2=0
   ·rw [if_neg (by rw [e2];simp)] at h0 ⊢
    have hin:=yfj hr.w hc om (fun y hy=>hl y hy) e2;exact ih (day+1) _ (hr.shut hc om (fun y hy=>hl y hy) hlow e2) ((hq.ev (hat day s h)).shut e2) om hin.2 h0
   ·rw [if_pos e2] at h0
    exact absurd h0 e2
  ·rw [if_pos e1] at h0
   exact absurd h0 e1
theorem yyt {l m:List (Int×Int)} (h:l <+: m) {i:Nat} (hi:i<l.length):m.getD i (0,0)=l.getD i (0,0):= by
 obtain ⟨r,rfl⟩:=h;simp only [List.getD];rw [List.getElem?_append_left hi]
theorem yxw {f today:Int} {ps:List (Int×Int)} (hc:yg9 f today ps) {j:Nat} (k:Nat):j+1+k<ps.length→(ps.getD j (0,0)).2<(ps.getD (j+1+k) (0,0)).1:= by
 induction k with
 | zero =>
  intro h;have:=hc.next j h;rw [Nat.add_zero,this];omega
 | succ k ih =>
  intro h;have h1:=ih om;have h2:=hc.next (j+1+k) om;have h3:=hc.le (j+1+k) om;rw [show j+1+(k+1)=j+1+k+1 by omega,h2];omega
theorem ytk {t:Tm} {l:List R5} {day1 day2:Int} (hg1:yha t l day1) (ha:Asc l) (h1:(runS t l day1).e=0) (hle:day1≤day2) (h2:(runS t l day2).e=0) :
 (∀i,(runS t l day1).out.length+1≤i→i<(runS t l day2).out.length→((runS t l day2).out.getD (i-1) St0).tot=0→∀ln∈((runS t l day2).out.getD i St0).ls,ln.1=0∧ln.2.1=0) ∧
 (day1+62≤day2→(runS t l day1).out.length<(runS t l day2).out.length):= by
 have hg2:yha t l day2:=⟨hg1.terms,hg1.events,fun x hx=>by have:=hg1.late x hx;omega,hg1.len⟩;obtain ⟨ps,hp⟩:=yfx hg1 h1;obtain ⟨qs,hq⟩:=yfx hg2 h2
 have hpre:ps <+: qs:= by
  have h:=yj0 (cyc:=t.cyc) hle 300 t.start;rw [hp.sp,hq.sp] at h;exact h
 have e1:=hp.out;have e2:=hq.out;have hlast:=hp.ch.last;have hn:ps.length-1=(runS t l day1).out.length:=by omega
 rw [hn] at hlast;have hsame:=yyt hpre (i:=(runS t l day1).out.length) om
 constructor
 ·have hgo:goS t l day2=ycm t l qs (day2-t.start).toNat t.start (rs0 t):=by unfold goS;rw [hq.sp]
  have g:=hq.go;rw [hgo] at g;have hlo:=hq.lo
  have hQ:=yq8 (n:=(runS t l day1).out.length) (day1:=day1) hq.ch ha (fun i hi=>hg1.late _ (by
   simp only [List.getD,List.getElem?_eq_getElem hi,Option.getD_some];exact List.getElem_mem hi)) (fun i hi hlt=>by
   obtain ⟨k,rfl⟩:∃k,i=(runS t l day1).out.length+1+k:=⟨i-((runS t l day1).out.length+1),by omega⟩;have h3:=yxw hq.ch k hlt;rw [hsame] at h3;omega) (day2-t.start).toNat t.start (rs0 t) (RInv.first hq.ch hg2.events) ⟨fun i _ hi=>by simp [rs0] at hi,fun h=>by simp [rs0] at h⟩ om (by simp [rs0]) g
  rw [←hgo] at hQ;intro i hi hlt h0;rw [hq.eq] at hlt h0 ⊢;exact hQ.old i hi hlt h0
 ·intro hd
  rcases Nat.lt_or_ge (runS t l day1).out.length (runS t l day2).out.length with h | h
  ·exact h
  ·exfalso
   have hl:=hpre.length_le;have hq1:qs.length-1=(runS t l day1).out.length:=by omega
   have h3:=hq.ch.last;rw [hq1,hsame] at h3;have h4:=(yj2 300 hp.sp).1 (runS t l day1).out.length om;omega
end
end Go.Proofs.YtkongpjpkpfniaaGreat

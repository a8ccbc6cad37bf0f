/- TopPaid: parts of the proof, made small by a program (mini.py). -/
import Derived.Test.YtkongpjpkpfniaaGreatM01
import Derived.Test.YtkongpjpkpfniaaGreatM11
import Derived.Test.YtkongpjpkpfniaaGreatM39
import Derived.Test.YtkongpjpkpfniaaGreatM49
import Derived.Test.YtkongpjpkpfniaaGreatM50
import Derived.Test.YtkongpjpkpfniaaGreatM51
set_option linter.unusedVariables false
set_option linter.unusedSimpArgs false
set_option maxRecDepth 100000
set_option maxHeartbeats 6400000
namespace Go.Proofs.YtkongpjpkpfniaaGreat
open Go.RowKit
theorem ys6 {day:Int} {l:List R5} (h:∀x∈l,x.b≤day):ydc day l l.length=l.length:= by
 cases hl:l.length with
 | zero=>rfl
 | succ k =>
  rw [ydc,if_neg];have:=h _ (ykb (l:=l) (i:=k) om);omega
theorem yvh {A:Acc} (h:ycy A) {x:R5} (hx:x.b=A.today):ycw A x=A.ev++[x]:= by
 unfold ycw;rw [ys6 (fun y hy=>by have:=h.goods.late y hy;omega)];unfold insL;simp
theorem ysz {bs:List Int} {c d:Int} (h:yat bs c d=true) (h0:0<bs.sum):c=0:= by
 have hs:=yfb h;unfold yat at h;rw [hs] at h;simp only [Bool.and_eq_true,Bool.or_eq_true,beq_iff_eq] at h;rcases h.2 with h1 | h1
 ·exact h1
 ·omega
theorem yuk {A A':Acc} (hA:ycy A) {owed:Int} (ho:yb4 A.R.p.bs A.R.p.c A.R.p.d=owed) (h0:0<owed) (h:doS A ⟨2,0,0,owed,0⟩=(A',0)) :
 ycy A'∧yb4 A'.R.p.bs A'.R.p.c A'.R.p.d=0∧A'.R.p.c=0:= by
 have hok:=(yyh hA ⟨2,0,0,owed,0⟩).1;rw [h] at hok;refine ⟨hok,?_⟩
 have hr:yat A.R.p.bs A.R.p.c A.R.p.d=true∧A.R.p.bs.sum=owed:= by
  unfold yb4 at ho
  split at ho
  ·rename_i hr;exact ⟨hr,ho⟩
  ·omega
 have hdo:doS A ⟨2,0,0,owed,0⟩=yda A ⟨2,0,0,owed,0⟩:= by
  unfold doS;rw [if_neg (by simp [chg]),if_neg (by simp [chg]),if_neg (by simp [chg]),if_neg (by simp [chg]),if_neg (by simp [chg])]
 rw [hdo] at h;unfold yda at h
 have hask:askS A ⟨2,0,0,owed,0⟩=(evEv A A.bk ⟨2,0,0,owed,0⟩,yfz A A.bk ⟨2,0,0,owed,0⟩,evBk A A.bk ⟨2,0,0,owed,0⟩):= by
  unfold askS;rw [if_neg (by simp [chg])]
 rw [hask] at h
 by_cases he:yfz A A.bk ⟨2,0,0,owed,0⟩=0
 ·have hev:evEv A A.bk ⟨2,0,0,owed,0⟩=⟨2,A.today,0,owed,0⟩:= by
   unfold evEv;rw [if_neg (by rw [he];simp),if_neg (by simp [chg]),if_pos rfl]
  rw [hev] at h;rw [if_neg (by rw [he];simp),if_neg (by simp [chg])] at h
  by_cases hc:(yb9 A ⟨2,A.today,0,owed,0⟩).2=0
  ·rw [if_neg (by rw [hc];simp)] at h
   obtain ⟨k1,k2,k3,k4⟩:=yn2 (A':=(yb9 A ⟨2,A.today,0,owed,0⟩).1) hA (Int.le_refl _) (yjx hc);have hput:=yvh hA (x:=⟨2,A.today,0,owed,0⟩) rfl
   have hR:A'.R=runS A.t (A.ev++[⟨2,A.today,0,owed,0⟩]) A.today:= by
    simp only [Prod.mk.injEq,and_true] at h;rw [←h,k1];show runS A.t (ycw A _) A.today=_;rw [hput]
   have hg':yha A.t (A.ev++[⟨2,A.today,0,owed,0⟩]) A.today:= by
    have:=ykf hA k3 (Int.le_refl _) k4;rw [hput] at this;exact this
   have h1:(runS A.t (A.ev++[⟨2,A.today,0,owed,0⟩]) A.today).e=0:=by rw [←hR];exact hok.e
   obtain ⟨r1,r2,_,_⟩:=yt7 hA.goods hA.asc (by rw [hA.run];exact hA.e) hg' rfl h1;rw [hA.run] at r1 r2;rw [hR,r2];unfold ybi at r1 ⊢
   split at r1
   ·cases r1
   rename_i m1;rw [if_neg m1]
   have hpos:posS A.R.p A.R.rs ⟨2,A.today,0,owed,0⟩=payS A.R.p.bs A.R.p.c A.R.p.d A.R.rs A.R.p.bs.sum:= by
    unfold posS;rw [if_neg (by simp [chg]),if_pos rfl,hr.2]
   rw [hpos] at r1 ⊢
   split at r1
   ·rename_i m2;exact absurd r1 m2
   rename_i m2;rw [if_neg m2];obtain ⟨p1,p2,p3,p4⟩:=yxz (by simpa using m2);refine ⟨?_,?_⟩
   ·show yb4 (payS A.R.p.bs A.R.p.c A.R.p.d A.R.rs A.R.p.bs.sum).1 _ _=0
    unfold yb4
    split
    ·exact yxd p2
    ·rfl
   ·show (payS A.R.p.bs A.R.p.c A.R.p.d A.R.rs A.R.p.bs.sum).2.1=0
    rw [p3];exact ysz hr.1 om
  ·rw [if_pos hc] at h
   simp only [Prod.mk.injEq] at h;exact absurd h.2 hc
 ·rw [if_pos he] at h
  simp only [Prod.mk.injEq] at h;exact absurd h.2 he
theorem yuq {bs:List Int} {c d:Int}:0≤yb4 bs c d:= by
 unfold yb4
 split
 ·rename_i h;exact (ypf (ynj h)).1
 ·exact Int.le_refl _
theorem ys4 {A A':Acc} (hA:ycy A) {d:Int} (hd:70≤d) (h:doS A ⟨8,d,0,0,0⟩=(A',0)) :
 A.iss.length<A'.iss.length∧∀i,A.iss.length+1≤i→i<A'.iss.length→(A'.iss.getD (i-1) St0).tot=0→∀ln∈(A'.iss.getD i St0).ls,ln.1=0∧ln.2.1=0:= by
 have hdo:doS A ⟨8,d,0,0,0⟩=yh3 A d:= by
  unfold doS;rw [if_pos rfl]
 rw [hdo] at h;unfold yh3 at h
 split at h
 ·cases h
 split at h
 ·cases h
 split at h
 ·rename_i h1
  simp only [Prod.mk.injEq] at h;exact absurd h.2 h1
 rename_i h1;have he:(runS A.t A.ev (A.today+d)).e=0:=by simpa using h1
 simp only [Prod.mk.injEq,and_true] at h;have hiss:A'.iss=A.iss++(runS A.t A.ev (A.today+d)).out.drop A.R.out.length:=by rw [←h]
 obtain ⟨q1,q2⟩:=ytk hA.goods hA.asc (by rw [hA.run];exact hA.e) (show A.today≤A.today+d by omega) he;rw [hA.run] at q1 q2;have q3:=q2 om;have hl:=hA.issl
 have hlen:A'.iss.length=(runS A.t A.ev (A.today+d)).out.length:= by
  rw [hiss,List.length_append,List.length_drop];omega
 have hget:∀i,A.iss.length≤i→A'.iss.getD i St0=(runS A.t A.ev (A.today+d)).out.getD i St0:=fun i hi=>by
  rw [hiss];simp only [List.getD];rw [List.getElem?_append_right hi,List.getElem?_drop];rw [show A.R.out.length+(i-A.iss.length)=i by omega]
 refine ⟨by omega,fun i h2 h3 h4=>?_⟩;rw [hget _ om] at h4;rw [hget _ om];exact q1 i om om h4
theorem ysw {t:Tm} (ht:t.right=true) (hs:10957≤t.start∧t.start≤11400):(ofS t.start t.cyc t.start).2=0:= by
 obtain ⟨_,_,_,h1,h2⟩:=yje ht;have hD:=yc4 (n:=t.start) om;have h6:=ydb (yc6 t.start).1 hD.hm;have h7:=hD.hd
 have hl:t.start≤ydd t.start t.cyc∧ydd t.start t.cyc≤t.start+60:= by
  unfold ydd
  split <;> omega
 have hL:yb8 t.start t.cyc=(ydd t.start t.cyc,0):= by
  unfold yb8;rw [if_neg om,if_neg om,if_neg om]
 have h3:ybd t.cyc t.start 300 t.start=([(t.start,ydd t.start t.cyc)],true):= by
  rw [ybd,hL,if_neg (by simp),if_neg (by simp only;omega)];simp [hl.1]
 unfold ofS;rw [hL,if_neg (by simp),h3]
 rfl
theorem yuh (t:Tm) (l:List R5):goS t l t.start=ybh l t.start (rs0 t):= by
 unfold goS;rw [Int.sub_self]
 rfl
theorem ylw {t:Tm} {l:List R5} (ht:t.right=true) (hs:10957≤t.start∧t.start≤11400) (hl:∀x∈l,t.rightE x=0) (hn:l.length≤2000) (hd:∀x∈l,x.b≤t.start) (h0:(ybh l t.start (rs0 t)).2=0) :
 runS t l t.start=⟨(ybh l t.start (rs0 t)).1.p,(ybh l t.start (rs0 t)).1.rs,[],0⟩:= by
 have hr:yiz t l t.start=0:= by
  unfold yiz;rw [if_neg (by simp [ht]),if_neg (by rw [ykn hl];simp),if_neg om,if_neg om,if_neg (by rw [ysw ht hs];simp),if_neg];simp only [List.any_eq_true,decide_eq_true_eq,not_exists,not_and];intro x hx;have:=hd x hx;omega
 unfold runS;rw [if_neg (by rw [hr];simp),yuh,if_neg (by rw [h0];simp)]
 rfl
def yip (t:Tm):Rn:=⟨⟨List.replicate t.ts.length 0,0,0⟩,t.ts.map (·.1),[],0⟩
def yb6 (t:Tm):Acc:=⟨t,t.start,0,[],⟨[],0⟩,yip t,[]⟩
theorem yms {t:Tm} (ht:t.right=true) (hs:10957≤t.start∧t.start≤11400):runS t [] t.start=yip t :=
 ylw ht hs (fun _ h=>by cases h) (by simp) (fun _ h=>by cases h) rfl
theorem ynp {t:Tm} (ht:t.right=true) (hs:10957≤t.start∧t.start≤11400):ycy (yb6 t) where
 goods:=⟨ht,fun _ h=>(by cases h),fun _ h=>(by cases h),by simp [yb6]⟩
 asc:=fun _ _ _ h=>by simp [yb6] at h
 run:=yms ht hs
 e:=rfl
 issl:=rfl
 issb:=fun _ h=>by simp [yb6] at h
 outl:=by simp [yb6,yip]
 outb:=fun _ h=>by simp [yb6,yip] at h
 bs:=by simp [yb6,yip]
 rs:=by simp [yb6,yip]
 seq:=Int.le_refl _
 bkd:=fun _ h=>by simp [yb6] at h
 bkl:=by simp [yb6]
def tm5:Tm:=⟨1000,[(5,false)],1,1,0,0,10957⟩
theorem ykl:tm5.right=true:=by decide
theorem jaw:(doS (yb6 tm5) ⟨1,0,1,5,0⟩).2=0:= by
 have hx:yfz (yb6 tm5) (yb6 tm5).bk ⟨1,0,1,5,0⟩=0:= by
  unfold yfz;rw [if_neg (by decide),if_neg (by decide),if_pos rfl,if_neg];show ¬(1000:Int)<wrap64 (wrap64 (yb4 [0] 0 0-0)+5);rw [show yb4 [0] 0 0=0 from by decide];unfold wrap64;omega
 have hv:evEv (yb6 tm5) (yb6 tm5).bk ⟨1,0,1,5,0⟩=⟨1,10957,1,5,0⟩:= by
  unfold evEv;rw [if_neg (by rw [hx];simp),if_pos rfl]
  rfl
 have ha:askS (yb6 tm5) ⟨1,0,1,5,0⟩=(⟨1,10957,1,5,0⟩,0,evBk (yb6 tm5) (yb6 tm5).bk ⟨1,0,1,5,0⟩):= by
  unfold askS;rw [if_neg (by decide),hx,hv]
 have hR:runS tm5 [⟨1,10957,1,5,0⟩] 10957=⟨⟨[5],0,0⟩,[5],[],0⟩:= by
  refine (ylw (t:=tm5) (l:=[⟨1,10957,1,5,0⟩]) ykl (by decide) ?_ (by decide) ?_ (by decide)).trans kr
  ·intro x h
   simp only [ms] at h;subst h
   decide
  ·intro x h
   simp only [ms] at h;subst h
   decide
 have hp:ycw (yb6 tm5) ⟨1,10957,1,5,0⟩=[⟨1,10957,1,5,0⟩]:=rfl
 have hc:(yb9 (yb6 tm5) ⟨1,10957,1,5,0⟩).2=0:= by
  unfold yb9;rw [if_neg (by decide),if_neg (by decide),hp];rw [show runS (yb6 tm5).t [⟨1,10957,1,5,0⟩] (yb6 tm5).today=_ from hR];rw [if_neg (by decide),if_neg (by decide)]
 unfold doS;rw [if_neg (by decide),if_neg (by decide),if_neg (by decide),if_neg (by decide),if_neg (by decide)];unfold yda;rw [ha,if_neg (by simp),if_neg (by decide),if_neg (by rw [hc];simp)]
def yl3 (lo gp ga n:Nat) (t:Tm) (w:World) (e:Ending) (w':World):Prop :=
 ∃gsx gj la lv N st g F V,e=.returned (.tuple #[pV gsx,iZ])∧Blk w' gsx 119 [pV gp,pV gj,pV g] ∧
  ycl w.heap.size gj gp lv 1 N w'∧N≤4∧ybm lo gp ga n st w'∧(∀i,N≤i→st i=0)∧ybe la g (yb6 t) F w' V∧w.heap.size≤gsx∧yab [ga,gp] w w'
theorem ycl.lower {lo lo' gj gp k used:Nat} {lv:Value} {w:World} (h:ycl lo gj gp lv k used w) (hl:lo'≤lo):ycl lo' gj gp lv k used w:= by
 obtain ⟨a,b,cs,c,d⟩:=h;exact ⟨Nat.le_trans hl a,b,cs,yco c hl,d⟩
theorem yx1 {lo gp ga n gsx gj g la N:Nat} {t:Tm} {lv:Value} {st:Nat→Int} {w W5 w8 w9:World} {F:List Nat} {V:AV}
 (h1:Blk w8 gsx 119 [pV gp,pV gj,pV g]) (hj:ycl w.heap.size gj gp lv 1 N w9) (hN:N≤4) (hp:ybm lo gp ga n st w9) (hs:∀i,N≤i→st i=0)
 (ha:ybe la g (yb6 t) F w8 V) (hi:yyo W5.heap.size V) (hF:∀x∈F,W5.heap.size≤x) (ho:ga<w.heap.size∧gp<w.heap.size) (hlt:w.heap.size≤gsx∧gsx<gj∧gj<W5.heap.size) (h58:yab [ga,gp] w w8) (hk:yab [gj,ga,gp] w8 w9) :
 yl3 lo gp ga n t w (.returned (.tuple #[pV gsx,iZ])) w9 :=
 ⟨gsx,gj,la,lv,N,st,g,F,V,rfl,h1.keep hk (by simp only [List.mem_cons,List.not_mem_nil,or_false];omega),hj,hN,hp,hs,ha.off hi hF (fun x hx=>by simp only [List.mem_cons,List.not_mem_nil,or_false] at hx;omega) hk,hlt.1,h58.trans hk (fun x hx=>by
  simp only [List.mem_cons,List.not_mem_nil,or_false] at hx ⊢;omega)⟩
theorem yqu (lo gp ga n:Nat) (t:Tm) (tv:Value) (ht:t.right=true) (hs:10957≤t.start∧t.start≤11400) (hn:10≤n∧n≤20000) (w:World) (hp:ybm lo gp ga n (fun _=>0) w) (hv:TrS w tv t.ts) (hof:OffF [ga,gp] tv) :
 Calls Tryz.prog 32 #[pV gp,.agg (t.cells tv).toArray] w (yl3 lo gp ga n t w):= by
 have HP:=lh hp;have HV:=lh hv;have HOF:=lh hof;have HT:=lh (And.intro ht hs);have HN:=lh hn
 have HG:Hid (ga<w.heap.size∧gp<w.heap.size):= by
  obtain ⟨cs0,_,g2,g3,_⟩:=hp;exact ⟨g3.lt,g2.lt⟩
 obtain ⟨bs,hbs,HBL⟩:∃bs,yqv t.lim t.ts t.cyc t.dued t.minf t.minp t.start=(bs,0)∧Hid (1≤bs.length∧bs.length≤128):= by
  have h1:=yci ht;refine ⟨yss t.lim t.ts t.cyc t.dued t.minf t.minp t.start,?_,?_⟩
  ·unfold yqv
   exact if_pos ht
  ·have h2:=yff t.lim t.ts t.cyc t.dued t.minf t.minp t.start (Nat.le_refl t.ts.length)
   have h3:yde t.lim t.ts t.cyc t.dued t.minf t.minp t.start t.ts.length=yss t.lim t.ts t.cyc t.dued t.minf t.minp t.start:= by
    unfold yde yss;rw [List.take_length]
   rw [h3] at h2;show _∧_;omega
 obtain ⟨tao,tc,rfl⟩:=hv.shape;clear hp hv hof ht hs hn;unfold Tm.cells;obtain ⟨W1,hW1,X1,B1⟩:∃W,w.alloc (.cells #[iV t.lim,.slice tao t.ts.length tc,iV t.cyc,iV t.dued,iV t.minf,iV t.minp,iV t.start] 24)=W∧Hid (Blk W w.heap.size 24 [iV t.lim,.slice tao t.ts.length tc,iV t.cyc,iV t.dued,iV t.minf,iV t.minp,iV t.start])∧Hid (Below w.heap.size w W):=⟨_,rfl,yae w _ _ _ rfl,yaa bR _⟩
 go_enter Tryz.func32,Tryz.ntmps32
 go_upto_region 1 with fail
 try with_reducible rw [hW1]
 clear hW1;refine yd1 (fun _ _ _=>False) ?first ?pass
 case pass=>exact fun _ _ _ h=>h.elim
 have c0:=X1.out.cell 0;have c1:=X1.out.cell 1;have c2:=X1.out.cell 2;have c3:=X1.out.cell 3;have c4:=X1.out.cell 4;have c5:=X1.out.cell 5;have c6:=X1.out.cell 6;simp only [gz,gs] at c0 c1 c2 c3 c4 c5 c6;have kx:=X1.out.lt
 go_wp2_with fail
 have hpk:=yk0 _ t.ts t.lim t.cyc t.dued t.minf t.minp t.start _ (HV.out.below B1.out);rw [hbs] at hpk;refine hpk.mono ?_;clear hpk hbs c0 c1 c2 c3 c4 c5 c6 kx;rintro _ w2 ⟨u,rfl,hu,hfu,hb2⟩
 replace hu:Sl .u8 w2 u bs:=hu
 obtain ⟨uo,uc,rfl⟩:=hu.shape;have U2:=lh hu
 have FU:Hid (OffF [ga,gp] (.slice uo bs.length uc)):=fun b o m c e hm hx=>by
  have h1:=hfu b o m c e hm;have h2:=HG.out;have h3:=B1.out.size;simp only [List.mem_cons,List.not_mem_nil,or_false] at hx;omega
 have UB:Hid (∀b o m c,Value.slice uo bs.length uc=.slice (some ⟨b,o,none⟩) m c→0<m→b<w2.heap.size):=fun b o m c e hm=>Sl.blt (e▸hu) hm;have X2:=lh (X1.out.below hb2);have B2:Hid (Below w.heap.size w w2):=yad B1.out hb2;clear hu hfu hb2
 go_wp2_with fail
 obtain ⟨W3,hW3,S3,B3⟩:∃W,w2.alloc (.cells #[pV gp,.pointer none,.pointer none] 119)=W∧Hid (Blk W w2.heap.size 119 [pV gp,.pointer none,.pointer none])∧Hid (Below w2.heap.size w2 W):=⟨_,rfl,yae w2 _ _ _ rfl,yaa bR _⟩;try with_reducible rw [hW3]
 clear hW3;refine (yu2 (by have:=HN.out;omega) ((HP.out.below B2.out).below B3.out)).mono ?_;rintro _ w4 ⟨gj,rfl,j4,p4,k4⟩;have HS:Hid (w.heap.size≤w2.heap.size∧w2.heap.size<W3.heap.size∧W3.heap.size≤w4.heap.size∧W3.heap.size≤gj∧gj<w4.heap.size):=⟨B2.out.size,S3.out.lt,k4.size,j4.1,j4.2.1.lt⟩
 have hgs:w2.heap.size∉[ga,gp]:= by
  have h1:=HG.out;have h2:=HS.out;simp only [List.mem_cons,List.not_mem_nil,or_false];omega
 have J4:=lh j4;have P4:=lh p4;have S4:=lh (S3.out.keep k4 hgs)
 have X4:Hid (Blk w4 w.heap.size 24 [iV t.lim,.slice tao t.ts.length tc,iV t.cyc,iV t.dued,iV t.minf,iV t.minp,iV t.start]):=(X2.out.below B3.out).keep k4 (by
  have h1:=HG.out;simp only [List.mem_cons,List.not_mem_nil,or_false];omega)
 have U4:Hid (Sl .u8 w4 (.slice uo bs.length uc) bs):=(U2.out.below B3.out).keep k4 FU.out;have T4:Hid (TrS w4 (.slice tao t.ts.length tc) t.ts):=((HV.out.below B2.out).below B3.out).keep k4 HOF.out;have K4:Hid (yab [ga,gp] w w4):=(yab.of_below (yad B2.out B3.out):yab [ga,gp] w W3).trans k4 (fun x hx=>.inl hx);clear j4 p4 k4 hgs;have s1:=S4.out.cell 1;simp only [gz,gs] at s1;have sf1:=S4.out.frozen 1;have ks:=S4.out.lt;go_upto_region 7 with fail
 obtain ⟨W5,hW5,S5,k5⟩:∃W,w4.setCell ⟨w2.heap.size,1,none⟩ (pV gj)=W∧Hid (Blk W w2.heap.size 119 [pV gp,pV gj,.pointer none])∧yab [w2.heap.size] w4 W:=⟨_,rfl,S4.out.set 1 _,(yab.refl _ _).sg _⟩;try with_reducible rw [hW5]
 clear hW5 s1 sf1 ks;have hns:∀x,x≠w2.heap.size→x∉[w2.heap.size]:=fun x hx=>by simpa using hx
 have J5:Hid (ycl W3.heap.size gj gp (sZ) 0 0 W5):=J4.out.off k5 (hns _ (by have:=HS.out;omega)) (fun q hq=>by cases hq);have P5:Hid (ybm lo gp ga n (fun _=>0) W5):=P4.out.keep k5 (hns _ (by have:=HS.out;have:=HG.out;omega)) (hns _ (by have:=HS.out;have:=HG.out;omega));have X5:Hid (Blk W5 w.heap.size 24 [iV t.lim,.slice tao t.ts.length tc,iV t.cyc,iV t.dued,iV t.minf,iV t.minp,iV t.start]):=X4.out.keep k5 (hns _ (by have:=X1.out.lt;have:=X2.out.lt;omega))
 have U5:Hid (Sl .u8 W5 (.slice uo bs.length uc) bs):=U4.out.keep k5 (fun b o m c e hm hx=>by
  have h1:=UB.out b o m c e hm;simp only [ms] at hx;omega)
 have T5:Hid (TrS W5 (.slice tao t.ts.length tc) t.ts):=T4.out.keep k5 (Fl.offNew HV.out.fl (by decide) (fun x hx=>by
  simp only [ms] at hx;have:=HS.out;omega))
 have K5:Hid (yab [ga,gp] w W5):=K4.out.trans k5 (fun x hx=>by
  simp only [ms] at hx;have:=HS.out;exact .inr om)
 have HZ5:Hid (w4.heap.size≤W5.heap.size):=k5.size;clear k5 hns;have c0:=X5.out.cell 0;have c1:=X5.out.cell 1;have c2:=X5.out.cell 2;have c3:=X5.out.cell 3;have c4:=X5.out.cell 4;have c5:=X5.out.cell 5;have c6:=X5.out.cell 6;simp only [gz,gs] at c0 c1 c2 c3 c4 c5 c6;have kx:=X5.out.lt
 go_wp2_with fail
 refine (ylj t (.slice tao t.ts.length tc) HT.out.1 (yip t) (yms HT.out.1 HT.out.2) rfl _ T5.out).mono ?_;clear c0 c1 c2 c3 c4 c5 c6 kx;rintro _ w6 ⟨g,F,V,rfl,ha,hi,hb6⟩;have A6:=lh ha;have HI:=lh hi;have S6:=lh (S5.out.below hb6);have J6:=lh (J5.out.below hb6);have P6:=lh (P5.out.below hb6);have U6:=lh (U5.out.below hb6);have HF:Hid (∀x∈F,W5.heap.size≤x):=fun x hx=>(ha.lt x hx).1;have K6:Hid (yab [ga,gp] w w6):=K5.out.below hb6;clear ha hi hb6;have s2:=S6.out.cell 2;simp only [gz,gs] at s2;have sf2:=S6.out.frozen 2;have ks:=S6.out.lt;go_upto_region 9 with fail
 obtain ⟨W7,hW7,S7,k7⟩:∃W,w6.setCell ⟨w2.heap.size,2,none⟩ (pV g)=W∧Hid (Blk W w2.heap.size 119 [pV gp,pV gj,pV g])∧yab [w2.heap.size] w6 W:=⟨_,rfl,S6.out.set 2 _,(yab.refl _ _).sg _⟩;try with_reducible rw [hW7]
 clear hW7 s2 sf2 ks;have hns:∀x,x≠w2.heap.size→x∉[w2.heap.size]:=fun x hx=>by simpa using hx
 have J7:Hid (ycl W3.heap.size gj gp (sZ) 0 0 W7):=J6.out.off k7 (hns _ (by have:=HS.out;omega)) (fun q hq=>by cases hq);have P7:Hid (ybm lo gp ga n (fun _=>0) W7):=P6.out.keep k7 (hns _ (by have:=HS.out;have:=HG.out;omega)) (hns _ (by have:=HS.out;have:=HG.out;omega))
 have U7:Hid (Sl .u8 W7 (.slice uo bs.length uc) bs):=U6.out.keep k7 (fun b o m c e hm hx=>by
  have h1:=UB.out b o m c e hm;simp only [ms] at hx;omega)
 have A7:Hid (ybe W5.heap.size g (yb6 t) F W7 V):=A6.out.off HI.out HF.out (fun x hx=>by
  simp only [ms] at hx;have:=HS.out;have:=HZ5.out;omega) k7
 have K7:Hid (yab [ga,gp] w W7):=K6.out.trans k7 (fun x hx=>by
  simp only [ms] at hx;have:=HS.out;exact .inr om)
 clear k7 hns;have s1:=S7.out.cell 1;have ks:=S7.out.lt
 go_wp2_with fail
 refine (ymf J7.out).mono ?_;rintro _ w8 ⟨rfl,hb8⟩;have S8:=lh (S7.out.below hb8);have J8:=lh (J7.out.below hb8);have P8:=lh (P7.out.below hb8);have U8:=lh (U7.out.below hb8);have A8:=lh (A7.out.below hb8);have K8:Hid (yab [ga,gp] w w8):=K7.out.below hb8;clear s1 ks hb8;have s1:=S8.out.cell 1;have ks:=S8.out.lt
 go_wp2_with fail
 refine (yrr (N:=(bs.length+40)/41) _ bs (by have:=HN.out;omega) J8.out P8.out (fun _ _=>rfl) U8.out FU.out (by have:=HBL.out;omega) rfl (by have:=HBL.out;have:=HN.out;omega) (by decide)).mono ?_;rintro _ w9 ⟨rfl,lv,st,j9,p9,st9,k9⟩;have HE:Hid (yl3 lo gp ga n t w (.returned (.tuple #[pV w2.heap.size,iZ])) w9):=yx1 S8.out (j9.lower (by have:=HS.out;omega)) (by have:=HBL.out;omega) p9 st9 A8.out HI.out HF.out HG.out (by have:=HS.out;have:=HZ5.out;omega) K8.out k9;clear s1 ks j9 p9 st9 k9
 go_wp2_with fail
 go_ret2
 exact HE.out
theorem yyk {ga gp gsx gj B x:Nat} {lv:Value} (h:ga<B∧gp<B∧gsx<B∧gj<B∧∀q,lv.ownBlock=some q→q<B) (hm:x∈gj::ga::gp::ownL lv):x<B:= by
 rcases List.mem_cons.1 hm with e | hm
 ·omega
 rcases List.mem_cons.1 hm with e | hm
 ·omega
 rcases List.mem_cons.1 hm with e | hm
 ·omega
 ·unfold ownL at hm
  split at hm
  ·rename_i b hb
   simp only [ms] at hm;exact hm▸h.2.2.2.2 b hb
  ·cases hm
theorem yzw {B ga gp m n:Nat} {e:TypeId} {u:Value} {cs:List Value} {W:World} (h:W.ownsRow B e m u n cs) (hb:ga<B∧gp<B):OffF [ga,gp] u:=fun b o k c e1 _ hm=>by
 have h1:=(h.lt b (by rw [e1];rfl)).1;simp only [List.mem_cons,List.not_mem_nil,or_false] at hm;omega
theorem yxr {ga gp gsx gj B g:Nat} {lv:Value} {w7 w8:World} {c:R5} (h:ga<B∧gp<B∧gsx<B∧gj<B∧∀q,lv.ownBlock=some q→q<B) (hs:Blk w7 gsx 119 [pV gp,pV gj,pV g]) (hc:Blk w7 B 48 [iV c.a,iV c.b,iV c.c,iV c.d,iV c.e]) (hg:gsx∉gj::ga::gp::ownL lv) (hk:yab (gj::ga::gp::ownL lv) w7 w8) :
 w8.cell? ⟨gsx,1,none⟩=some (pV gj)∧w8.cell? ⟨B,0,none⟩=some (iV c.a)∧w8.cell? ⟨B,1,none⟩=some (iV c.b)∧w8.cell? ⟨B,2,none⟩=some (iV c.c)∧w8.cell? ⟨B,3,none⟩=some (iV c.d)∧w8.cell? ⟨B,4,none⟩=some (iV c.e):= by
 have h1:=hs.keep hk hg;have h2:=hc.keep hk (fun hm=>Nat.lt_irrefl _ (yyk h hm));exact ⟨h1.cell 1,h2.cell 0,h2.cell 1,h2.cell 2,h2.cell 3,h2.cell 4⟩
theorem yyx {ga gp gsx gj:Nat} {lv:Value} {w W6 w7 w8 W9:World} (h1:Below w.heap.size w W6) (h2:Below W6.heap.size W6 w7) (h3:yab (gj::ga::gp::ownL lv) w7 w8) (h4:yab [gsx] w8 W9):yab (gsx::gj::ga::gp::ownL lv) w W9 :=
 ((yab.of_below (yad h1 h2):yab (gsx::gj::ga::gp::ownL lv) w w7).trans h3 (fun x hx=>.inl (List.mem_cons_of_mem _ hx))).trans h4 (fun x hx=>.inl (by simp only [ms] at hx;exact hx▸List.mem_cons_self ..))
def jan (L:List Nat) (w:World) (e:Ending) (w':World):Prop:=∃v,e=.returned v∧Ans 0 v∧yab L w w'
theorem yuf {lo lj la gp ga n gsx gj g k N:Nat} {lv:Value} {st:Nat→Int} {A A':Acc} {F:List Nat} {V:AV} {w:World} (c:R5) (hc:chg c.a=true) (hA:ycy A) (hq:A.seq.toNat*400000≤100000) (hE:Hid (doS A c=(A',0)))
 (hn:n≤20000) (hN:N+1≤n) (hk:k≤1000) (hs:Blk w gsx 119 [pV gp,pV gj,pV g]) (hj:ycl lj gj gp lv k N w) (hp:ybm lo gp ga n st w) (hst:∀i,N≤i→st i=0) (ha:ybe la g A F w V) :
 Calls Tryz.prog 33 #[pV gsx,.agg #[iV c.a,iV c.b,iV c.c,iV c.d,iV c.e]] w (jan (gsx::gj::ga::gp::ownL lv) w):= by
 have S0:=lh hs;have J0:=lh hj;have P0:=lh hp;have HST:=lh hst;have A0:=lh ha;have HOK:=lh hA;have HQ:=lh (And.intro hq (by have:=hA.seq;omega:A.seq≤99999));have HN:=lh (And.intro hn (And.intro hN hk))
 have HLT:Hid (ga<w.heap.size∧gp<w.heap.size∧gsx<w.heap.size∧gj<w.heap.size∧∀q,lv.ownBlock=some q→q<w.heap.size):= by
  obtain ⟨cs0,_,g2,g3,_⟩:=hp;refine ⟨g3.lt,g2.lt,hs.lt,hj.2.1.lt,fun q hq=>?_⟩;obtain ⟨_,_,cs,own,_⟩:=hj;obtain ⟨cur,hb⟩:=yry own hq;exact hb.lt
 have HNE:Hid (gsx∉gj::ga::gp::ownL lv):= by
  obtain ⟨cs0,_,g2,g3,_⟩:=hp;obtain ⟨_,j2,cs,own,_⟩:=hj;intro hm;rcases List.mem_cons.1 hm with e | hm
  ·exact ybs hs j2 (by decide) e
  rcases List.mem_cons.1 hm with e | hm
  ·exact ybs hs g3 (by decide) e
  rcases List.mem_cons.1 hm with e | hm
  ·exact ybs hs g2 (by decide) e
  ·have hq:lv.ownBlock=some gsx:= by
    unfold ownL at hm
    split at hm
    ·rename_i b hb
     simp only [ms] at hm;rw [hb,hm]
    ·cases hm
   exact yaj own hs (by decide) hq.symm
 clear hs hj hp hst ha hA hq hn hN hk
 obtain ⟨W1,hW1,C1,R1,O1,B1⟩:∃W,(((w.alloc (.cells #[iV c.a,iV c.b,iV c.c,iV c.d,iV c.e] 48)).alloc (.cells zA.toArray 45)).alloc (.cells zA.toArray 45))=W∧Hid (Blk W w.heap.size 48 [iV c.a,iV c.b,iV c.c,iV c.d,iV c.e])∧Hid (Blk W (w.heap.size+1) 45 zA)∧Hid (Blk W (w.heap.size+1+1) 45 zA)∧Hid (Below w.heap.size w W) :=
  ⟨_,rfl,((yae w _ _ _ rfl).below (yaa bR _)).below (yaa bR _),(ybc _ _ _ _ (World.size_alloc _ _)).below (yaa bR _),ybc _ _ _ _ (by simp only [World.size_alloc]),yaa (yaa (yaa bR _) _) _⟩
 go_enter Tryz.func33,Tryz.ntmps33
 go_upto_region 1 with fail
 refine yd1 (fun _ _ _=>False) ?first ?pass
 case pass=>exact fun _ _ _ h=>h.elim
 go_upto_region 4 with fail
 try with_reducible rw [hW1]
 clear hW1;have c0:=C1.out.cell 0;have c1:=C1.out.cell 1;have c2:=C1.out.cell 2;have c3:=C1.out.cell 3;have c4:=C1.out.cell 4;simp only [gz,gs] at c0 c1 c2 c3 c4;have kc:=C1.out.lt
 go_wp2_with fail
 have hch:=yko c W1;rw [hc] at hch;refine hch.mono ?_;clear hch hc c0 c1 c2 c3 c4 kc;rintro _ w2 ⟨rfl,hb2⟩;have B2:Hid (Below w.heap.size w w2):=yad B1.out hb2;have C2:=lh (C1.out.below hb2);have R2:=lh (R1.out.below hb2);have O2:=lh (O1.out.below hb2);have S2:=lh (S0.out.below B2.out);clear hb2;have s1:=S2.out.cell 1;have ks:=S2.out.lt
 go_wp2_with fail
 refine (ytx (J0.out.below B2.out) (P0.out.below B2.out)).mono ?_;clear s1 ks;rintro _ w3 ⟨rfl,hb3⟩;have B3:Hid (Below w.heap.size w w3):=yad B2.out hb3;have C3:=lh (C2.out.below hb3);have R3:=lh (R2.out.below hb3);have O3:=lh (O2.out.below hb3);have S3:=lh (S0.out.below B3.out);clear hb3;have s2:=S3.out.cell 2;have ks:=S3.out.lt
 go_wp2_with fail
 refine (yqs la g A HOK.out HQ.out.1 F V _ (A0.out.below B3.out)).mono ?_;clear s2 ks;rintro _ w4 ⟨g4,F4,V4,rfl,a4,hb4⟩;have A4:=lh a4;have HB34:=lh hb4;have C4:=lh (C3.out.below hb4);clear a4 hb4;have c0:=C4.out.cell 0;have c1:=C4.out.cell 1;have c2:=C4.out.cell 2;have c3:=C4.out.cell 3;have c4:=C4.out.cell 4;simp only [gz,gs] at c0 c1 c2 c3 c4;have kc:=C4.out.lt
 go_wp2_with fail
 refine (yhk w3.heap.size g4 A HOK.out HQ.out.2 F4 V4 c A' 0 hE _ A4.out).mono ?_;clear c0 c1 c2 c3 c4 kc;rintro _ w5 ⟨v,rfl,han,F5,V5,h5,st5,_,_⟩;have HB35:Hid (Below w3.heap.size w3 w5):=HB34.out.trans (st5.keep.to_below HB34.out.size (fun x hx=>(A4.out.lt x hx).1));have B5:Hid (Below w.heap.size w w5):=yad B3.out HB35.out;have C5:=lh (C3.out.below HB35.out);have R5:=lh (R3.out.below HB35.out);have O5:=lh (O3.out.below HB35.out);have G5:Hid (g4<w5.heap.size):=h5.blk.lt;clear h5 st5;obtain ⟨r,cy,td,cn,bal,cr,du,rt,dp,sq,pn,pf,pt,pd,ln,tt,pc,mn,gr,rfl,i1,i2,i3,i4⟩:=han;have HI:=lh (And.intro i1 (And.intro i2 (And.intro i3 i4)));have HOC:Hid ((#[iZ,iV r,iV cy,iV td,iV cn,bal,iV cr,iV du,rt,dp,iV sq,iV pn,iV pf,iV pt,iV pd,ln,iV tt,iV pc,iV mn,.bool gr]:Array Value).all (·.oneCell')=true):=(ycn HI.out.1 HI.out.2.1 HI.out.2.2.1 HI.out.2.2.2);have HAN:Hid (Ans 0 (.agg #[iZ,iV r,iV cy,iV td,iV cn,bal,iV cr,iV du,rt,dp,iV sq,iV pn,iV pf,iV pt,iV pd,ln,iV tt,iV pc,iV mn,.bool gr])):=⟨r,cy,td,cn,bal,cr,du,rt,dp,sq,pn,pf,pt,pd,ln,tt,pc,mn,gr,rfl,HI.out.1,HI.out.2.1,HI.out.2.2.1,HI.out.2.2.2⟩;have HZ:Hid (w5.heap[w.heap.size+1+1]?=some (.cells zA.toArray 45 (0,0))):=O5.out;clear i1 i2 i3 i4;go_upto_region 11 with (with_reducible refine ybj rfl (.tmp 6) (.tmp 33) rfl rfl (w.heap.size+1+1) #[iZ,iV r,iV cy,iV td,iV cn,bal,iV cr,iV du,rt,dp,iV sq,iV pn,iV pf,iV pt,iV pd,ln,iV tt,iV pc,iV mn,.bool gr] rfl rfl _ HZ.out rfl rfl HOC.out ?_)
 obtain ⟨W6,hW6,O6,k6⟩:∃W,w5.setRow (w.heap.size+1+1) #[iZ,iV r,iV cy,iV td,iV cn,bal,iV cr,iV du,rt,dp,iV sq,iV pn,iV pf,iV pt,iV pd,ln,iV tt,iV pc,iV mn,.bool gr]=W∧Hid (Blk W (w.heap.size+1+1) 45 [iZ,iV r,iV cy,iV td,iV cn,bal,iV cr,iV du,rt,dp,iV sq,iV pn,iV pf,iV pt,iV pd,ln,iV tt,iV pc,iV mn,.bool gr])∧yab [w.heap.size+1+1] w5 W:=⟨_,rfl,ycu O5.out [iZ,iV r,iV cy,iV td,iV cn,bal,iV cr,iV du,rt,dp,iV sq,iV pn,iV pf,iV pt,iV pd,ln,iV tt,iV pc,iV mn,.bool gr],(yab.refl _ _).setRow (.inl (List.mem_cons_self ..)) _⟩;try with_reducible rw [hW6]
 clear hW6;have hns:∀x,x≠w.heap.size+1+1→x∉[w.heap.size+1+1]:=fun x hx=>by simpa using hx
 have C6:=lh (C5.out.keep k6 (hns _ om));have R6:=lh (R5.out.keep k6 (hns _ om));have S6:=lh ((S0.out.below B5.out).keep k6 (hns _ (by have:=HLT.out;omega)));have J6:=lh ((J0.out.below B5.out).off k6 (hns _ (by have:=HLT.out;omega)) (fun q hq=>hns _ (by have:=HLT.out.2.2.2.2 q hq;omega)));have P6:=lh ((P0.out.below B5.out).keep k6 (hns _ (by have:=HLT.out;omega)) (hns _ (by have:=HLT.out;omega)));have K6:Hid (Below w.heap.size w W6):=B5.out.trans (k6.to_below B5.out.size (fun x hx=>by simp only [ms] at hx;omega));have G6:Hid (w5.heap.size≤W6.heap.size):=k6.size;clear k6 hns HZ;have o0:=O6.out.cell 0;have ko:=O6.out.lt;go_upto_region 13 with fail
 clear o0 ko;have HS:Hid (∀W',Below W6.heap.size W6 W'→W'.cell? ⟨gsx,1,none⟩=some (pV gj)∧W'.cell? ⟨w.heap.size,0,none⟩=some (iV c.a)∧W'.cell? ⟨w.heap.size,1,none⟩=some (iV c.b)∧W'.cell? ⟨w.heap.size,2,none⟩=some (iV c.c)∧W'.cell? ⟨w.heap.size,3,none⟩=some (iV c.d)∧W'.cell? ⟨w.heap.size,4,none⟩=some (iV c.e)):=fun W' hW=>⟨(S6.out.below hW).cell 1,(C6.out.below hW).cell 0,(C6.out.below hW).cell 1,(C6.out.below hW).cell 2,(C6.out.below hW).cell 3,(C6.out.below hW).cell 4⟩;have hsd:=HS.out W6.drew (yaf bR)
 go_region_held3 (fun W'=>W'.cell? ⟨gsx,1,none⟩=some (pV gj)∧W'.cell? ⟨w.heap.size,0,none⟩=some (iV c.a)∧W'.cell? ⟨w.heap.size,1,none⟩=some (iV c.b)∧W'.cell? ⟨w.heap.size,2,none⟩=some (iV c.c)∧W'.cell? ⟨w.heap.size,3,none⟩=some (iV c.d)∧W'.cell? ⟨w.heap.size,4,none⟩=some (iV c.e)) (first | with_reducible exact hsd | with_reducible exact hs7 | with_reducible exact hs8 | with_reducible assumption)
  (first
   | (go_at_call 62;refine (ypx c _).mono ?_;rintro _ w7 ⟨u,rfl,hu,hb7⟩;have U7:Hid (w7.ownsRow W6.heap.size 5 1 u _ _):=hu;have B7:Hid (Below W6.heap.size W6 w7):=yad (yaf bR) hb7;have hs7:=HS.out w7 B7.out;clear hu hb7)
   | (go_at_call 58;refine (yrr (N:=1) _ _ (by have:=HN.out;omega) (J6.out.below B7.out) (P6.out.below B7.out) HST.out (Sl.of_own U7.out rfl) (yzw U7.out (by have:=HLT.out;have:=K6.out.size;omega)) (by rw [yf2 _ _ (Nat.le_refl 5)];decide) (by rw [yf2 _ _ (Nat.le_refl 5)];decide) HN.out.2.1 HN.out.2.2).mono ?_;rintro _ w8 ⟨rfl,lv8,st8,_,_,_,k8⟩;have K8:=lh k8;have S8:=lh ((S6.out.below B7.out).keep k8 HNE.out);have hs8:=yxr HLT.out (S6.out.below B7.out) (C6.out.below B7.out) HNE.out k8;clear k8))
 clear hsd
 have hnL:∀x,w.heap.size≤x→x∉gj::ga::gp::ownL lv:=fun x hx hm=>by
  have h1:=yyk HLT.out hm;omega
 have O8:=lh ((O6.out.below B7.out).keep K8.out (hnL _ om));have R8:=lh ((R6.out.below B7.out).keep K8.out (hnL _ om));clear hnL;have s2:=S8.out.cell 2;simp only [gz,gs] at s2;have sf2:=S8.out.frozen 2;have ks:=S8.out.lt;go_upto_region 16 with fail
 obtain ⟨W9,hW9,k9⟩:∃W,w8.setCell ⟨gsx,2,none⟩ (pV g4)=W∧yab [gsx] w8 W:=⟨_,rfl,(yab.refl _ _).sg _⟩;try with_reducible rw [hW9]
 clear hW9 s2 sf2 ks;have O9:=lh (O8.out.keep k9 (by simp only [ms];have:=HLT.out;omega));have R9:=lh (R8.out.keep k9 (by simp only [ms];have:=HLT.out;omega));have K9:=lh k9;have HRG:Hid (W9.rangeAt (w.heap.size+1+1) 0 [iZ,iV r,iV cy,iV td,iV cn,bal,iV cr,iV du,rt,dp,iV sq,iV pn,iV pf,iV pt,iV pd,ln,iV tt,iV pc,iV mn,.bool gr]):=fun j v hv=>by rw [Nat.zero_add,O9.out.cell];exact hv
 have HZ:Hid (W9.heap[w.heap.size+1]?=some (.cells zA.toArray 45 (0,0))):=R9.out;clear k9
 go_wp2_with (first | (with_reducible refine wpList_load_mid rfl 45 (.tmp 6) rfl (w.heap.size+1+1) 0 rfl [iZ,iV r,iV cy,iV td,iV cn,bal,iV cr,iV du,rt,dp,iV sq,iV pn,iV pf,iV pt,iV pd,ln,iV tt,iV pc,iV mn,.bool gr] _ HRG.out Tryz.underlying45 rfl (ybp.trans rfl) ?_) | (with_reducible refine ybj rfl (.tmp 4) (.tmp 51) rfl rfl (w.heap.size+1) #[iZ,iV r,iV cy,iV td,iV cn,bal,iV cr,iV du,rt,dp,iV sq,iV pn,iV pf,iV pt,iV pd,ln,iV tt,iV pc,iV mn,.bool gr] rfl rfl _ HZ.out rfl rfl HOC.out ?_))
 refine bodyPost_ret (v:=.agg #[iZ,iV r,iV cy,iV td,iV cn,bal,iV cr,iV du,rt,dp,iV sq,iV pn,iV pf,iV pt,iV pd,ln,iV tt,iV pc,iV mn,.bool gr]) (results_cell_row (p:=4) (ty:=45) rfl _ _ (w.heap.size+1) 45 _ (0,0) _ rfl (setRow_heap _ _ _ _ _ _ HZ.out) Tryz.underlying45 rfl (by rw [ybp];rfl)) rfl ⟨_,rfl,HAN.out,?_⟩;exact (yyx K6.out B7.out K8.out K9.out).setRow (.inr om) _
section
theorem ynf {w:World} {e r cy td cn:Int} {bal:Value} {cr du:Int} {rt dp:Value} {sq pn pf pt pd:Int} {ln:Value} {tt pc mn:Int} {g:Bool}:(Instr.field 45 (.agg #[iV e,iV r,iV cy,iV td,iV cn,bal,iV cr,iV du,rt,dp,iV sq,iV pn,iV pf,iV pt,iV pd,ln,iV tt,iV pc,iV mn,.bool g]) 0).run Tryz.prog w=.ok (iV e) w:= by
 kernel_rfl
attribute [local go_sem] ynf
theorem jae {W:World} {g:Nat} (h:Blk W g 81 [iV 5,.bool false]):TrS W (.slice (some ⟨g,0,none⟩) 1 1) [(5,false)]:= by
 refine TrS.of_fl (l:=[(5,false)]) ⟨rfl,yei _,_,_,rfl,Nat.le_refl _,⟨by simp [maxLen],fun e=>by cases e⟩,fun _=>⟨g,0,rfl,fun i _=>?_⟩⟩;rw [h.cell,Nat.zero_add]
 rfl
theorem yt2 {lo gj gp gsx ga k N B:Nat} {lv:Value} {w w5:World} (hj:ycl lo gj gp lv k N w) (h1:B≤lo) (h2:B≤gsx) (h3:B≤ga∧B≤gp) (hk:yab (gsx::gj::ga::gp::ownL lv) w w5) (hB:B≤w.heap.size):Below B w w5:= by
 refine hk.to_below hB (fun x hx=>?_);obtain ⟨a,_,cs,own,_⟩:=hj;rcases List.mem_cons.1 hx with rfl | hx
 ·exact h2
 rcases List.mem_cons.1 hx with rfl | hx
 ·exact Nat.le_trans h1 a
 rcases List.mem_cons.1 hx with rfl | hx
 ·exact h3.1
 rcases List.mem_cons.1 hx with rfl | hx
 ·exact h3.2
 ·unfold ownL at hx
  split at hx
  ·rename_i b hb
   simp only [ms] at hx;subst hx;exact Nat.le_trans h1 (own.lt _ hb).1
  ·cases hx
theorem ysi {w W2 w3 w4:World} {ga gp:Nat} (h:Blk W2 (w.heap.size+1) 24 [iV 1000,.slice (some ⟨w.heap.size,0,none⟩) 1 1,iV 1,iV 1,iZ,iZ,iV 10957]) (hb:Below W2.heap.size W2 w3) (hk:yab [ga,gp] w3 w4) (hg:W2.heap.size≤ga∧W2.heap.size≤gp) (hl:w.heap.size+1<W2.heap.size) :
 w4.cell? ⟨w.heap.size+1,0,none⟩=some (iV 1000)∧w4.cell? ⟨w.heap.size+1,1,none⟩=some (.slice (some ⟨w.heap.size,0,none⟩) 1 1)∧w4.cell? ⟨w.heap.size+1,2,none⟩=some (iV 1)∧w4.cell? ⟨w.heap.size+1,3,none⟩=some (iV 1)∧w4.cell? ⟨w.heap.size+1,4,none⟩=some (iZ)∧w4.cell? ⟨w.heap.size+1,5,none⟩=some (iZ)∧w4.cell? ⟨w.heap.size+1,6,none⟩=some (iV 10957):= by
 have q:=(h.below hb).keep hk (by simp only [List.mem_cons,List.not_mem_nil,or_false];omega);exact ⟨q.cell 0,q.cell 1,q.cell 2,q.cell 3,q.cell 4,q.cell 5,q.cell 6⟩
theorem yrl (w:World):Calls Tryz.prog 9 #[] w (RetB (.bool true) w):= by
 obtain ⟨W2,hW2,T2,X2,B2⟩:∃W,((w.alloc (.cells #[iV 5,.bool false] 81)).alloc (.cells #[iV 1000,.slice (some ⟨w.heap.size,0,none⟩) 1 1,iV 1,iV 1,iZ,iZ,iV 10957] 24))=W∧Hid (Blk W w.heap.size 81 [iV 5,.bool false])∧Hid (Blk W (w.heap.size+1) 24 [iV 1000,.slice (some ⟨w.heap.size,0,none⟩) 1 1,iV 1,iV 1,iZ,iZ,iV 10957])∧Hid (Below w.heap.size w W) :=
  ⟨_,rfl,(yae w _ _ _ rfl).below (yaa bR _),ybc _ _ _ _ (World.size_alloc _ _),yaa (yaa bR _) _⟩
 go_enter Tryz.func9,Tryz.ntmps9
 go_upto_region 2 with fail
 try with_reducible rw [hW2]
 clear hW2;have HS:Hid (∀W',Below W2.heap.size W2 W'→W'.cell? ⟨w.heap.size+1,0,none⟩=some (iV 1000)∧W'.cell? ⟨w.heap.size+1,1,none⟩=some (.slice (some ⟨w.heap.size,0,none⟩) 1 1)∧W'.cell? ⟨w.heap.size+1,2,none⟩=some (iV 1)∧W'.cell? ⟨w.heap.size+1,3,none⟩=some (iV 1)∧W'.cell? ⟨w.heap.size+1,4,none⟩=some (iZ)∧W'.cell? ⟨w.heap.size+1,5,none⟩=some (iZ)∧W'.cell? ⟨w.heap.size+1,6,none⟩=some (iV 10957)):=fun W' hW=>⟨(X2.out.below hW).cell 0,(X2.out.below hW).cell 1,(X2.out.below hW).cell 2,(X2.out.below hW).cell 3,(X2.out.below hW).cell 4,(X2.out.below hW).cell 5,(X2.out.below hW).cell 6⟩;have hsd:=HS.out W2.drew (yaf bR);have HLT:Hid (w.heap.size+1<W2.heap.size):=X2.out.lt
 go_region_held3 (fun W'=>W'.cell? ⟨w.heap.size+1,0,none⟩=some (iV 1000)∧W'.cell? ⟨w.heap.size+1,1,none⟩=some (.slice (some ⟨w.heap.size,0,none⟩) 1 1)∧W'.cell? ⟨w.heap.size+1,2,none⟩=some (iV 1)∧W'.cell? ⟨w.heap.size+1,3,none⟩=some (iV 1)∧W'.cell? ⟨w.heap.size+1,4,none⟩=some (iZ)∧W'.cell? ⟨w.heap.size+1,5,none⟩=some (iZ)∧W'.cell? ⟨w.heap.size+1,6,none⟩=some (iV 10957)) (first | with_reducible exact hsd | with_reducible exact hs3 | with_reducible exact hs4 | with_reducible assumption)
  (first
   | (go_at_call 20;refine (yq4 100 (by decide) _).mono ?_;rintro _ w3 ⟨gp,ga,rfl,hp,hb⟩;have P3:=lh hp;have HB3:Hid (Below W2.heap.size W2 w3):=yad (yaf bR) hb;have hs3:=HS.out w3 HB3.out;have HGG:Hid (W2.heap.size≤ga∧W2.heap.size≤gp):=(by obtain ⟨_,q,_⟩:=hp;exact ⟨q.2,q.1⟩);clear hp hb)
   | (go_at_call 32;refine (yqu _ gp ga 100 tm5 (.slice (some ⟨w.heap.size,0,none⟩) 1 1) ykl (by decide) (by decide) _ P3.out (jae (T2.out.below HB3.out)) (fun b o n c e hn hm=>by cases e;have h1:=HGG.out;have h2:=HLT.out;simp only [List.mem_cons,List.not_mem_nil,or_false] at hm;omega)).mono ?_;rintro _ w4 ⟨gsx,gj,la,lv,N,st,g,F,V,rfl,s4,j4,n4,p4,z4,a4,hg4,k4⟩;have S4:=lh s4;have J4:=lh j4;have N4:=lh n4;have P4:=lh p4;have Z4:=lh z4;have A4:=lh a4;have G4:=lh hg4;have K4:=lh k4;have hs4:=ysi X2.out HB3.out k4 HGG.out HLT.out;clear s4 j4 n4 p4 z4 a4 hg4 k4))
 clear hsd
 go_wp2_with fail
 refine (yuf ⟨1,0,1,5,0⟩ rfl (ynp ykl (by decide)) (by decide) (yjx jaw) (by decide) (by have:=N4.out;omega) (by decide) S4.out J4.out P4.out Z4.out A4.out).mono ?_;rintro _ w5 ⟨v,rfl,han,k5⟩;obtain ⟨r,cy,td,cn,bal,cr,du,rt,dp,sq,pn,pf,pt,pd,ln,tt,pc,mn,gr,rfl,⟨_,_,_,rfl⟩,⟨_,_,_,rfl⟩,⟨_,_,_,rfl⟩,⟨_,_,_,rfl⟩⟩:=han
 have HF:Hid (Below w.heap.size w w5):= by
  have h34:Below w.heap.size w3 w4:=K4.out.to_below (by have:=HB3.out.size;have:=HLT.out;omega) (fun x hx=>by
   have h1:=HGG.out;have h2:=HLT.out;simp only [List.mem_cons,List.not_mem_nil,or_false] at hx;omega)
  have hw3:w.heap.size≤w3.heap.size:=by have:=HB3.out.size;have:=HLT.out;omega
  exact ((yad B2.out HB3.out).trans h34).trans (yt2 J4.out hw3 (Nat.le_trans hw3 G4.out) (by have:=HGG.out;have:=HLT.out;omega) k5 (by have:=h34.size;omega))
 clear k5
 go_wp2_with fail
 go_ret
 exact ⟨rfl,HF.out⟩
end
end Go.Proofs.YtkongpjpkpfniaaGreat

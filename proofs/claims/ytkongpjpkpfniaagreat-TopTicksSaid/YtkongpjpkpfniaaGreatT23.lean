/- TopTicks: parts of the proof, made small by a program (mini.py). -/
import Derived.Great.BuildSlice
import Derived.Test.YtkongpjpkpfniaaGreatT01
import Derived.Test.YtkongpjpkpfniaaGreatT15
import Derived.Test.YtkongpjpkpfniaaGreatT22
set_option linter.unusedVariables false
set_option linter.unusedSimpArgs false
set_option maxRecDepth 100000
set_option maxHeartbeats 6400000
namespace Go.Proofs.YtkongpjpkpfniaaGreat
open Go.RowKit
def ygw (a b:List St):Bool:=a.length == b.length && (List.range a.length).all fun i=>yi3 (a.getD i St0) (b.getD i St0)
def yv6 (a b:List St):Bool:=(List.range a.length).all fun i=>ydq (a.getD i St0) && ydq (b.getD i St0)
def btwE (a b:List St):Int:=if ygw a b=false then 1 else if yv6 a b=false then 5 else 0
theorem AdO.form {w:World} {base m:Nat} {v:Value} (h:AdO w base v m):∃ao n c cs,v=.slice ao n c/\n<=m/\cs.length=n*9/\(ao=none->n=0/\c=0)/\(∀ad,ao=some ad->∀j u,cs[j]?=some u->w.cell? (ad.add j)=some u)/\(∀c∈cs,c.oneCell'=true)/\w.ownsRow base 175 9 v n cs:= by
 obtain ⟨n,cs,hn,h1,ho⟩:=h;have hf:=Fl.of_own ho h1;obtain ⟨ao,cap,rfl⟩:=hf.shape;exact ⟨ao,n,cap,cs,rfl,hn,hf.1,hf.len.2.2.2,hf.news,h1,ho⟩
theorem yla {a b:List St} (h:ygw a b=true):a.length=b.length:= by
 unfold ygw at h;simp only [Bool.and_eq_true,beq_iff_eq] at h;exact h.1
theorem ylf {a b:List St} (h:a.length=b.length):(∀i,i<a.length->yi3 (a.getD i St0) (b.getD i St0)=true)↔ygw a b=true:= by
 unfold ygw;simp only [h,beq_self_eq_true,Bool.true_and,List.all_eq_true,List.mem_range]
theorem yki {a b:List St}:(∀i,i<a.length->(ydq (a.getD i St0) && ydq (b.getD i St0))=true)↔yv6 a b=true:= by
 unfold yv6;simp only [List.all_eq_true,List.mem_range]
theorem yq3 {a b:List St} (h:ygw a b=true) {i:Nat} (hi:i<a.length):(a.getD i St0).ls.length=(b.getD i St0).ls.length:= by
 have h2:=(ylf (yla h)).2 h i hi;unfold yi3 at h2;simp only [Bool.and_eq_true,beq_iff_eq] at h2;exact h2.2
theorem yzs (u v:Value) (a b:List St) (hl:a.length≠b.length) (w:World) (ha:StS w u a) (hb:StS w v b) :
 Calls Tryz.prog 158 #[u,v,.func (.func 159) #[] #[]] w (RetB (.bool false) w):= by
 obtain ⟨ao,ac,rfl⟩:=ha.shape;obtain ⟨bo,bc,rfl⟩:=hb.shape;clear ha hb;have hne:((a.length:Int) != (b.length:Int))=true:=by simp;omega
 clear hl
 go_enter Tryz.func158,Tryz.ntmps158
 go_wp2_with fail
 go_ret
 exact ⟨rfl,bR⟩
theorem yor (u v:Value) (a b:List St) (r:Bool) (hr:Hid (ygw a b=r)) (w:World) (ha:StS w u a) (hb:StS w v b) :
 Calls Tryz.prog 158 #[u,v,.func (.func 159) #[] #[]] w (RetB (.bool r) w):= by
 have hr:=hr.out;subst hr
 by_cases hl:a.length=b.length
 ·exact ywn u v a b _ hl (ylf hl) w ha hb
 ·have e:ygw a b=false:=by unfold ygw;simp [hl]
  rw [e];exact yzs u v a b hl w ha hb
def jaa (E:Int) (m:Nat) (w:World) (e:Ending) (w':World):Prop:=∃u,e=.returned (.tuple #[u,iV E])/\AdO w' w.heap.size u m/\BW w w'
theorem AdO.nil (w:World) (base m:Nat):AdO w base (sZ) m:=⟨0,[],Nat.zero_le _,by simp,yel _ _ _ _⟩
theorem yzb (seq:Int) (u v:Value) (a b:List St) (E:Int) (hE:Hid (btwE a b=E)) (hal:a.length<=1000) (hll:Hid (∀i,i<a.length->(a.getD i St0).ls.length<=1000)) (w:World) (ha:StS w u a) (hb:StS w v b) :
 Calls Tryz.prog 116 #[iV seq,u,v] w (jaa E (a.length*1001) w):= by
 have HA:=lh ha;have HB:=lh hb;obtain ⟨ao,ac,rfl⟩:=ha.shape;obtain ⟨bo,bc,rfl⟩:=hb.shape;clear ha hb;cases hq:ygw a b with
 | false =>
  have e:E=1:=by rw [<-hE.out];unfold btwE;rw [if_pos hq]
  subst e;have HQ:=lh hq;clear hq hE hll
  go_enter Tryz.func116,Tryz.ntmps116
  go_wp2_with fail
  refine (yor _ _ a b _ HQ _ HA.out HB.out).mono ?_;rintro _ w1 ⟨rfl,hb1⟩;have HB1:=lh hb1;clear hb1
  go_wp2_with fail
  go_ret2
  exact ⟨_,rfl,AdO.nil _ _ _,HB1.out⟩
 | true =>
  have HQ:=lh hq;have hlen:=yla hq;have HLN:=lh hlen;clear hq hlen
  go_enter Tryz.func116,Tryz.ntmps116
  go_wp2_with fail
  refine (yor _ _ a b _ HQ _ HA.out HB.out).mono ?_;rintro _ w1 ⟨rfl,hb1⟩;have HB1:=lh hb1;clear hb1
  go_wp2_with fail
  go_loopg [8,17] a.length (fun gg lv i wr=>∃k:Nat,k+gg=a.length/\i=iV k/\Hid (∀j,j<k->(ydq (a.getD j St0) && ydq (b.getD j St0))=true)/\Hid (AdO wr w.heap.size lv (k*1001))/\Hid (BW w wr))
  case atStart=>exact ⟨0,by omega,rfl,fun j hj=>absurd hj om,AdO.nil _ _ _,HB1⟩
  case round =>
   obtain ⟨k,hkg,rfl,HN,HO,HBW⟩:=hrel;cases gk with
   | zero =>
    have hlt:¬((k:Int)<(a.length:Int)):=by omega
    have e:E=0:= by
     rw [<-hE.out];unfold btwE;rw [if_neg (by rw [HQ.out];simp),if_neg (by rw [yki.1 (fun i hi=>HN.out i om)];simp)]
    subst e;have hk:k=a.length:=by omega
    subst hk;clear hkg
    go_wp2_with fail
    go_ret2
    exact ⟨_,rfl,HO.out,HBW.out⟩
   | succ gg =>
    have hlt:(k:Int)<(a.length:Int):=by omega
    have hlt2:(k:Int)<(b.length:Int):=by have:=HLN.out;omega
    have hk0:(0:Int)<=(k:Int):=by omega
    obtain ⟨b1,o1,s1,lv1,rfl,⟨c0,c1,c2,c3,c4,c5,c6,c7,c8⟩,HL1,HX1⟩:=(HA.out.below HBW.out).get (i:=k) om;obtain ⟨b2,o2,s2,lv2,rfl,⟨d0,d1,d2,d3,d4,d5,d6,d7,d8⟩,HL2,HX2⟩:=HB.out.get (i:=k) (by have:=HLN.out;omega);have HDW:=lh (And.intro d0 (And.intro d1 (And.intro d2 (And.intro d3 (And.intro d4 (And.intro d5 (And.intro d6 (And.intro d7 d8))))))));have HL2:=HL2.below HBW.out;have cell1:∀o x,w.cell? (Ad b2 o)=some x->wr.cell? (Ad b2 o)=some x:=fun o x h=>(HBW.out.cell (p:=(Ad b2 o)) (yac h)).trans h
    replace d0:=cell1 _ _ d0
    replace d1:=cell1 _ _ d1
    replace d2:=cell1 _ _ d2
    replace d3:=cell1 _ _ d3
    replace d4:=cell1 _ _ d4
    replace d5:=cell1 _ _ d5
    replace d6:=cell1 _ _ d6
    replace d7:=cell1 _ _ d7
    replace d8:=cell1 _ _ d8
    clear cell1;have kb2:=yac d0;have K1:=lh HL1;have K2:=lh HL2;obtain ⟨a1,q1,rfl,-⟩:=HL1;obtain ⟨a2,q2,rfl,-⟩:=HL2
    have HLX:Hid (s1.ls.length=s2.ls.length/\s1.ls.length<=1000):= by
     rw [<-HX1.out,<-HX2.out];exact ⟨yq3 HQ.out om,hll.out k om⟩
    have HKG:=lh hkg;clear hkg
    go_wp2_with fail
    obtain ⟨q,hq⟩:∃q,ydq s1=q:=⟨_,rfl⟩;have HQ1:=lh hq;clear hq;refine (yku s1 _ q HQ1 _ (K1.out.below bL)).mono ?_;rintro _ w2 ⟨rfl,hb2⟩;have HB2:Hid (BW wr w2):=yad (yaa bR _) hb2;have HBX:Hid (Blk w2 wr.heap.size 43 [iV s1.n,iV s1.fr,iV s1.til,iV s1.du,.slice a1 s1.ls.length q1,iV s1.tot,iV s1.cr,iV s1.mn,.bool s1.g]):=(yae wr _ _ _ rfl).below hb2;clear hb2;have cell2:∀o x,wr.cell? (Ad b2 o)=some x->w2.cell? (Ad b2 o)=some x:=fun o x h=>(HB2.out.cell (p:=(Ad b2 o)) (yac h)).trans h
    replace d0:=cell2 _ _ d0
    replace d1:=cell2 _ _ d1
    replace d2:=cell2 _ _ d2
    replace d3:=cell2 _ _ d3
    replace d4:=cell2 _ _ d4
    replace d5:=cell2 _ _ d5
    replace d6:=cell2 _ _ d6
    replace d7:=cell2 _ _ d7
    replace d8:=cell2 _ _ d8
    clear cell2 c0 c1 c2 c3 c4 c5 c6 c7 c8;cases q with
    | false =>
     have e:E=5:= by
      rw [<-hE.out];unfold btwE;rw [if_neg (by rw [HQ.out];simp),if_pos ?_];cases hx:yv6 a b with
      | false=>rfl
      | true =>
       have:=yki.2 hx k (by have:=HKG.out;omega);rw [HX1.out,HQ1.out] at this;cases this
     subst e
     go_wp2_with fail
     go_ret2
     exact ⟨_,rfl,AdO.nil _ _ _,yad HBW.out HB2.out⟩
    | true =>
     go_wp2_with fail
     obtain ⟨q,hq⟩:∃q,ydq s2=q:=⟨_,rfl⟩;have HQ2:=lh hq;clear hq;refine (yku s2 _ q HQ2 _ (K2.out.below HB2.out)).mono ?_;rintro _ w3 ⟨rfl,hb3⟩;have HB3:Hid (BW wr w3):=yad HB2.out hb3;have HBY:=lh (HBX.out.below hb3);have cell2:∀o x,w2.cell? (Ad b2 o)=some x->w3.cell? (Ad b2 o)=some x:=fun o x h=>(hb3.cell (p:=(Ad b2 o)) (yac h)).trans h;clear hb3
     replace d0:=cell2 _ _ d0
     replace d1:=cell2 _ _ d1
     replace d2:=cell2 _ _ d2
     replace d3:=cell2 _ _ d3
     replace d4:=cell2 _ _ d4
     replace d5:=cell2 _ _ d5
     replace d6:=cell2 _ _ d6
     replace d7:=cell2 _ _ d7
     replace d8:=cell2 _ _ d8
     clear cell2;cases q with
     | false =>
      have e:E=5:= by
       rw [<-hE.out];unfold btwE;rw [if_neg (by rw [HQ.out];simp),if_pos ?_];cases hx:yv6 a b with
       | false=>rfl
       | true =>
        have:=yki.2 hx k (by have:=HKG.out;omega);rw [HX1.out,HX2.out,HQ1.out,HQ2.out] at this;cases this
      subst e
      go_wp2_with fail
      go_ret2
      exact ⟨_,rfl,AdO.nil _ _ _,yad HBW.out HB3.out⟩
     | true =>
      obtain ⟨c0,c1,c2,c3,c4,c5,c6,c7,c8,-⟩:=HBY.out.cs [0,1,2,3,4,5,6,7,8];simp only [gz,gs] at c0 c1 c2 c3 c4 c5 c6 c7 c8
      have HSX:Hid (∀W',Blk W' wr.heap.size 43 [iV s1.n,iV s1.fr,iV s1.til,iV s1.du,.slice a1 s1.ls.length q1,iV s1.tot,iV s1.cr,iV s1.mn,.bool s1.g]->BW w W'->(Ce W' wr.heap.size 0 (iV s1.n)/\Ce W' wr.heap.size 1 (iV s1.fr)/\Ce W' wr.heap.size 2 (iV s1.til)/\Ce W' wr.heap.size 3 (iV s1.du)/\Ce W' wr.heap.size 4 (.slice a1 s1.ls.length q1)/\Ce W' wr.heap.size 5 (iV s1.tot)/\Ce W' wr.heap.size 6 (iV s1.cr)/\Ce W' wr.heap.size 7 (iV s1.mn)/\Ce W' wr.heap.size 8 (.bool s1.g))/\(Ce W' b2 (o2+k*9) (iV s2.n)/\Ce W' b2 (o2+k*9+1) (iV s2.fr)/\Ce W' b2 (o2+k*9+2) (iV s2.til)/\Ce W' b2 (o2+k*9+3) (iV s2.du)/\Ce W' b2 (o2+k*9+4) (.slice a2 s2.ls.length q2)/\Ce W' b2 (o2+k*9+5) (iV s2.tot)/\Ce W' b2 (o2+k*9+6) (iV s2.cr)/\Ce W' b2 (o2+k*9+7) (iV s2.mn)/\Ce W' b2 (o2+k*9+8) (.bool s2.g))):=fun W' q h =>
       have cc:∀o x,w.cell? (Ad b2 o)=some x->Ce W' b2 o x:=fun o x hx=>(h.cell (p:=(Ad b2 o)) (yac hx)).trans hx;have z:=HDW.out
       ⟨⟨q.cell 0,q.cell 1,q.cell 2,q.cell 3,q.cell 4,q.cell 5,q.cell 6,q.cell 7,q.cell 8⟩,cc _ _ z.1,cc _ _ z.2.1,cc _ _ z.2.2.1,cc _ _ z.2.2.2.1,cc _ _ z.2.2.2.2.1,cc _ _ z.2.2.2.2.2.1,cc _ _ z.2.2.2.2.2.2.1,cc _ _ z.2.2.2.2.2.2.2.1,cc _ _ z.2.2.2.2.2.2.2.2⟩
      have HBW3:Hid (BW w w3):=yad HBW.out HB3.out;have hS:∀W',BW w3 W'->(Ce W' wr.heap.size 0 (iV s1.n)/\Ce W' wr.heap.size 1 (iV s1.fr)/\Ce W' wr.heap.size 2 (iV s1.til)/\Ce W' wr.heap.size 3 (iV s1.du)/\Ce W' wr.heap.size 4 (.slice a1 s1.ls.length q1)/\Ce W' wr.heap.size 5 (iV s1.tot)/\Ce W' wr.heap.size 6 (iV s1.cr)/\Ce W' wr.heap.size 7 (iV s1.mn)/\Ce W' wr.heap.size 8 (.bool s1.g))/\(Ce W' b2 (o2+k*9) (iV s2.n)/\Ce W' b2 (o2+k*9+1) (iV s2.fr)/\Ce W' b2 (o2+k*9+2) (iV s2.til)/\Ce W' b2 (o2+k*9+3) (iV s2.du)/\Ce W' b2 (o2+k*9+4) (.slice a2 s2.ls.length q2)/\Ce W' b2 (o2+k*9+5) (iV s2.tot)/\Ce W' b2 (o2+k*9+6) (iV s2.cr)/\Ce W' b2 (o2+k*9+7) (iV s2.mn)/\Ce W' b2 (o2+k*9+8) (.bool s2.g)):=fun W' h=>HSX.out W' (HBY.out.below h) (yad HBW3.out h);have HS:=lh hS;have hs0:=hS w3 bR;have hsd:=hS w3.drew (yaf bR);obtain ⟨ao8,n8,c8',cs8,rfl,hn8,hl8,hno8,hne8,h18,hown8⟩:=HO.out.form;have HN8:=lh (And.intro hn8 h18);have HO8:=lh (yah hown8 HB3.out);have HR3:Hid (w.heap.size<=w3.heap.size):=Nat.le_trans HBW.out.size HB3.out.size;clear hS hn8 hl8 hno8 hne8 h18 hown8 c0 c1 c2 c3 c4 c5 c6 c7 c8 d0 d1 d2 d3 d4 d5 d6 d7 d8;obtain ⟨i0,hi,hz0,hz1,hz2⟩:=info_parts yjj;go_upto_region 9 with fail
      go_region_held3 (fun w'=>(w'.cell? (Ad wr.heap.size 0)=some (iV s1.n)/\w'.cell? (Ad wr.heap.size 1)=some (iV s1.fr)/\w'.cell? (Ad wr.heap.size 2)=some (iV s1.til)/\w'.cell? (Ad wr.heap.size 3)=some (iV s1.du)/\w'.cell? (Ad wr.heap.size 4)=some (.slice a1 s1.ls.length q1)/\w'.cell? (Ad wr.heap.size 5)=some (iV s1.tot)/\w'.cell? (Ad wr.heap.size 6)=some (iV s1.cr)/\w'.cell? (Ad wr.heap.size 7)=some (iV s1.mn)/\w'.cell? (Ad wr.heap.size 8)=some (.bool s1.g))/\(w'.cell? (Ad b2 (o2+k*9))=some (iV s2.n)/\w'.cell? (Ad b2 (o2+k*9+1))=some (iV s2.fr)/\w'.cell? (Ad b2 (o2+k*9+2))=some (iV s2.til)/\w'.cell? (Ad b2 (o2+k*9+3))=some (iV s2.du)/\w'.cell? (Ad b2 (o2+k*9+4))=some (.slice a2 s2.ls.length q2)/\w'.cell? (Ad b2 (o2+k*9+5))=some (iV s2.tot)/\w'.cell? (Ad b2 (o2+k*9+6))=some (iV s2.cr)/\w'.cell? (Ad b2 (o2+k*9+7))=some (iV s2.mn)/\w'.cell? (Ad b2 (o2+k*9+8))=some (.bool s2.g))) (first | with_reducible exact hs0 | with_reducible exact hsd | with_reducible assumption | exact HS5.out | exact HS6.out)
       (first | (go_at_call 161;refine (yzr seq s1 s2 _ _ HLX.out.1 HLX.out.2 _ (K1.out.below (by first | exact HB3.out | exact yaf HB3.out)) (K2.out.below (by first | exact HB3.out | exact yaf HB3.out))).mono ?_;rintro _ w5 ⟨u5,rfl,ho5,hb5⟩;have HB5:Hid (BW w3 w5):=(by first | exact hb5 | exact yad (yaf bR) hb5);have HS5:=lh (HS.out _ HB5.out);obtain ⟨ao5,n5,c5,cs5,rfl,hn5,hl5,hno5,hne5,h15,hw5⟩:=ho5.form;have HF5:=lh (And.intro hn5 (And.intro hl5 (And.intro hno5 (And.intro hne5 h15))));clear hn5 hl5 hno5 hne5 h15 hw5 ho5 hb5) | (refine yfs _ rfl (.tmp 33) (.tmp 40) 87 rfl w.heap.size 175 i0 (.agg #[iZ,iZ,iZ,iZ,iZ,iZ,iZ,iZ,iZ]) 9 72 Tryz.underlying87 hi hz0 hz1 hz2 rfl (by decide) (.slice ao8 n8 c8') n8 cs8 (by rfl) (yah HO8.out HB5.out) ao5 n5 c5 cs5 (by rfl) HF5.out.2.1 HF5.out.2.2.1 HF5.out.2.2.2.1 HF5.out.2.2.2.2 (by have:=HN8.out.1;have:=HF5.out.1;have:=HLX.out.2;unfold maxLen;omega) (by have:=HN8.out.1;have:=HF5.out.1;have:=HLX.out.2;omega) (Nat.le_trans HR3.out HB5.out.size) ?_;intro v6 w6 hown6 hg6 hn6;clear hn6;have HO6:=lh hown6;have HB6:Hid (BW w w6):=Below.grown (yad HBW3.out HB5.out) hg6 (Nat.le_trans HR3.out HB5.out.size) (fun q hq=>(HO8.out.lt q hq).1);have HS6:=lh (HSX.out w6 (yaq (HBY.out.below HB5.out) hg6 (yaj (yah HO8.out HB5.out) (HBY.out.below HB5.out) (by decide))) HB6.out);clear hown6 hg6))
      go_wp2_with fail
      go_roundg gg
      case measure=>omega
      case rel=>exact ⟨k+1,by have:=HKG.out;omega,by go_num,fun j hj=>by
       rcases Nat.lt_succ_iff_lt_or_eq.1 hj with h' | rfl
       ·exact HN.out j h'
       ·rw [HX1.out,HX2.out,HQ1.out,HQ2.out];rfl,⟨n8+n5,_,by have:=HN8.out.1;have:=HF5.out.1;have:=HLX.out.2;omega,yhw HN8.out.2 HF5.out.2.2.2.2,HO6.out⟩,HB6⟩
structure Acc where
 t:Tm
 today:Int
 seq:Int
 ev:List R5
 bk:Bk
 R:Rn
 iss:List St
structure AV where
 tv:Value
 gl:Nat
 ltv:Value
 lev:Value
 gb:Nat
 dv:Value
 pv:Value
 rv:Value
 nv:Value
 nvs:List Value
 iv:Value
 ivs:List Value
 av:Value
def ybu (A:Acc) (V:AV):List Value :=
 [iV A.t.lim,V.tv,iV A.t.cyc,iV A.t.dued,iV A.t.minf,iV A.t.minp,iV A.t.start,iV A.today,iV A.seq,pV V.gl,pV V.gb,V.pv,iV A.R.p.c,iV A.R.p.d,V.rv,V.nv,V.iv,V.av]
def jai (A:Acc) (V:AV) (W:World):Prop :=
 TrS W V.tv A.t.ts/\ybn W V.gl A.t V.ltv V.lev A.ev/\ya6 W 0 V.gb V.dv A.bk/\Sl .i64 W V.pv A.R.p.bs/\Sl .i64 W V.rv A.R.rs/\StV W V.nv A.R.out V.nvs/\LnsS W A.iss V.ivs
structure ybe (lo g:Nat) (A:Acc) (F:List Nat) (w:World) (V:AV):Prop where
 blk:Blk w g 89 (ybu A V)
 gF:g∈F
 lt:∀x∈F,lo<=x/\x<w.heap.size
 rd:Rd F w (jai A V)
 iss:w.ownsRow lo 43 9 V.iv A.iss.length (yay A.iss V.ivs)
 issF:∀q,V.iv.ownBlock=some q->q∈F
 adj:∃n cs,n<=A.seq.toNat*400000/\(∀c∈cs,c.oneCell'=true)/\w.ownsRow lo 175 9 V.av n cs
 adjF:∀q,V.av.ownBlock=some q->q∈F
theorem ybe.below {lo g:Nat} {A:Acc} {F:List Nat} {w w':World} {V:AV} (h:ybe lo g A F w V) (hb:BW w w'):ybe lo g A F w' V :=
 ⟨h.blk.below hb,h.gF,fun x hx=>⟨(h.lt x hx).1,Nat.lt_of_lt_of_le (h.lt x hx).2 hb.size⟩,h.rd.below hb (fun x hx=>.inl hx),yah h.iss hb,h.issF,(by
  obtain ⟨n,cs,h1,h2,h3⟩:=h.adj;exact ⟨n,cs,h1,h2,yah h3 hb⟩),h.adjF⟩
theorem yo9 (s c d:Int):0<=(ofS s c d).1/\(ofS s c d).1<=300:= by
 unfold ofS
 split
 ·exact ⟨Int.le_refl _,by omega⟩
 ·split
  ·have:=yib c d 300 s
   exact ⟨by omega,by show (((ybd c d 300 s).1.length:Nat):Int)<=300;omega⟩
  ·exact ⟨Int.le_refl _,by omega⟩
theorem yf6 (lo g:Nat) (A:Acc) (F:List Nat) (V:AV) (day r:Int) (hr:Hid ((ofS A.t.start A.t.cyc day).1=r)) (w:World) (h:ybe lo g A F w V) :
 Calls Tryz.prog 40 #[pV g,iV day] w (RetB (iV r) w):= by
 have HB:=lh h.blk;have kg:=h.blk.lt;obtain ⟨q,hq⟩:∃q,ofS A.t.start A.t.cyc day=q:=⟨_,rfl⟩;have HQ:=lh hq;rw [hq] at hr;have hr:=hr.out;subst hr;clear h hq;have HS:Hid (∀W',BW w W'->Ce W' g 6 (iV A.t.start)/\Ce W' g 2 (iV A.t.cyc)):=fun W' hb=>⟨(HB.out.below hb).cell 6,(HB.out.below hb).cell 2⟩;have hs0:=HS.out w bR;have hsd:=HS.out w.drew (yaf bR)
 go_enter Tryz.func40,Tryz.ntmps40
 go_upto_region 1 with fail
 go_region_held3 (fun W'=>Ce W' g 6 (iV A.t.start)/\Ce W' g 2 (iV A.t.cyc)) (first | with_reducible exact hs0 | with_reducible exact hsd | exact HS5.out) (first | (go_at_call 63;refine (yr4 A.t.start A.t.cyc day q HQ _).mono ?_;rintro _ w5 ⟨rfl,hb5⟩;have HB5:Hid (BW w w5):=(by first | exact hb5 | exact yad (yaf bR) hb5);have HS5:=lh (HS.out _ HB5.out);clear hb5))
 go_wp2_with fail
 go_ret
 exact ⟨rfl,HB5.out⟩
def oldS (A:Acc) (day:Int):Prop:=24<(ofS A.t.start A.t.cyc A.today).1-(ofS A.t.start A.t.cyc day).1
theorem yk7 (lo g:Nat) (A:Acc) (F:List Nat) (V:AV) (day:Int) (r:Bool) (hr:Hid (r=true↔oldS A day)) (w:World) (h:ybe lo g A F w V) :
 Calls Tryz.prog 112 #[pV g,iV day] w (RetB (.bool r) w):= by
 have H:=lh h;have kg:=h.blk.lt;have c7:w.cell? (Ad g 7)=some (iV A.today):=h.blk.cell 7;obtain ⟨p,hp⟩:∃p,(ofS A.t.start A.t.cyc A.today).1=p:=⟨_,rfl⟩;obtain ⟨q,hq⟩:∃q,(ofS A.t.start A.t.cyc day).1=q:=⟨_,rfl⟩;have hp1:=yo9 A.t.start A.t.cyc A.today;have hq1:=yo9 A.t.start A.t.cyc day;rw [hp] at hp1;rw [hq] at hq1;obtain ⟨hp1,hp2⟩:=hp1;obtain ⟨hq1,hq2⟩:=hq1;have HP:=lh hp;have HQ:=lh hq
 have hr2:r=decide (24<p-q):= by
  have h1:=hr.out;unfold oldS at h1;rw [hp,hq] at h1;cases r with
  | true=>symm;simpa using h1
  | false=>symm;simpa using h1
 subst hr2;clear h hp hq hr
 go_enter Tryz.func112,Tryz.ntmps112
 go_wp2_with fail
 refine (yf6 lo g A F V A.today p HP _ H.out).mono ?_;rintro _ w1 ⟨rfl,hb1⟩;have HB1:=lh hb1;have H1:=lh (H.out.below hb1);clear hb1
 go_wp2_with fail
 refine (yf6 lo g A F V day q HQ _ H1.out).mono ?_;rintro _ w2 ⟨rfl,hb2⟩;have HB2:=lh (yad HB1.out hb2);clear hb2
 go_wp2_with fail
 go_ret
 exact ⟨rfl,HB2.out⟩
theorem yeu (lo g:Nat) (A:Acc) (F:List Nat) (V:AV) (n:Int) (r:Bool) (hr:Hid (r=true↔1<=n/\n<=(A.t.ts.length:Int))) (w:World) (h:ybe lo g A F w V) :
 Calls Tryz.prog 110 #[pV g,iV n] w (RetB (.bool r) w):= by
 have kg:=h.blk.lt;have c1:w.cell? (Ad g 1)=some V.tv:=h.blk.cell 1;obtain ⟨tao,tc,htv⟩:=h.rd.now.1.shape;rw [htv] at c1;clear h htv
 by_cases h1:1<=n
 ·by_cases h2:n<=(A.t.ts.length:Int)
  ·obtain rfl:r=true:=hr.out.2 ⟨h1,h2⟩
   go_enter Tryz.func110,Tryz.ntmps110
   go_wp2_with fail
   go_ret
   exact ⟨rfl,bR⟩
  ·obtain rfl:r=false:= by
    cases r with
    | false=>rfl
    | true=>exact absurd (hr.out.1 rfl).2 h2
   have hd:decide (n<=(A.t.ts.length:Int))=false:=decide_eq_false h2
   go_enter Tryz.func110,Tryz.ntmps110
   go_wp2_with fail
   go_ret
   exact ⟨rfl,bR⟩
 ·obtain rfl:r=false:= by
   cases r with
   | false=>rfl
   | true=>exact absurd (hr.out.1 rfl).1 h1
  go_enter Tryz.func110,Tryz.ntmps110
  go_wp2_with fail
  go_ret
  exact ⟨rfl,bR⟩
def chg (k:Int):Bool:=decide (1<=k) && decide (k<=8)
theorem yko (c:R5) (w:World):Calls Tryz.prog 37 #[.agg #[iV c.a,iV c.b,iV c.c,iV c.d,iV c.e]] w (RetB (.bool (chg c.a)) w):= by
 obtain ⟨a,b,c,d,e⟩:=c;simp only
 by_cases h1:1<=a
 ·by_cases h2:a<=8
  ·have hc:chg a=true:=by simp [chg,h1,h2]
   rw [hc]
   go_enter Tryz.func37,Tryz.ntmps37
   go_wp2_with fail
   go_ret
   exact ⟨rfl,yaa bR _⟩
  ·have hc:chg a=false:=by simp [chg,h2]
   have hd:decide (a<=8)=false:=decide_eq_false h2;rw [hc]
   go_enter Tryz.func37,Tryz.ntmps37
   go_wp2_with fail
   go_ret
   exact ⟨rfl,yaa bR _⟩
 ·have hc:chg a=false:=by simp [chg,h1]
  rw [hc]
  go_enter Tryz.func37,Tryz.ntmps37
  go_wp2_with fail
  go_ret
  exact ⟨rfl,yaa bR _⟩
def IsSl (v:Value):Prop:=∃ao n c,v=.slice ao n c
def Ans (e:Int) (v:Value):Prop:=∃(r cy td cn:Int) (bal:Value) (cr du:Int) (rt dp:Value) (sq pn pf pt pd:Int) (ln:Value) (tt pc mn:Int) (g:Bool),
 v=.agg #[iV e,iV r,iV cy,iV td,iV cn,bal,iV cr,iV du,rt,dp,iV sq,iV pn,iV pf,iV pt,iV pd,ln,iV tt,iV pc,iV mn,.bool g]/\IsSl bal/\IsSl rt/\IsSl dp/\IsSl ln
def ansZ (e:Int):Value:=.agg #[iV e,iZ,iZ,iZ,iZ,sZ,iZ,iZ,sZ,sZ,iZ,iZ,iZ,iZ,iZ,sZ,iZ,iZ,iZ,.bool false]
theorem yfd (e:Int):Ans e (ansZ e):=⟨0,0,0,0,_,0,0,_,_,0,0,0,0,0,_,0,0,0,false,rfl,⟨_,_,_,rfl⟩,⟨_,_,_,rfl⟩,⟨_,_,_,rfl⟩,⟨_,_,_,rfl⟩⟩
theorem ybp:(Tryz.prog.info? 45).map (·.size)=some 20:=by kernel_rfl
def yrm (e r cy td cn:Int) (bal:Value) (cr du:Int) (rt dp:Value) (sq pn pf pt pd:Int) (ln:Value) (tt pc mn:Int) (g:Bool):Array Value :=
 #[iV e,iV r,iV cy,iV td,iV cn,bal,iV cr,iV du,rt,dp,iV sq,iV pn,iV pf,iV pt,iV pd,ln,iV tt,iV pc,iV mn,.bool g]
theorem ycn {e r cy td cn:Int} {bal:Value} {cr du:Int} {rt dp:Value} {sq pn pf pt pd:Int} {ln:Value} {tt pc mn:Int} {g:Bool} (h1:IsSl bal) (h2:IsSl rt) (h3:IsSl dp) (h4:IsSl ln):(yrm e r cy td cn bal cr du rt dp sq pn pf pt pd ln tt pc mn g).all (·.oneCell')=true:= by
 obtain ⟨_,_,_,rfl⟩:=h1;obtain ⟨_,_,_,rfl⟩:=h2;obtain ⟨_,_,_,rfl⟩:=h3;obtain ⟨_,_,_,rfl⟩:=h4;simp [yrm,Value.oneCell']
theorem ybj {ops:Array Oper} {rest:List Oper} {o:Oper} {a:Act} {w:World} {Q:Exit->Act->World->Prop} (hgd:o.guard=none) (x y:Operand) (ho:o.op=.store 45 x y)
 (hd:o.dst=none) (g:Nat) (cells:Array Value) (hx:a.eval x=pV g) (hy:a.eval y=.agg cells) (old:Array Value) (hg:w.heap[g]?=some (.cells old 45 (0,0))) (hs:cells.size=20) (hs2:old.size=20)
 (h1:cells.all (·.oneCell')=true) (h:wpList Tryz.prog ops Q rest a (w.setRow g cells)):wpList Tryz.prog ops Q (o::rest) a w :=
 wpList_store_rowTo hgd 45 x y ho hd g cells hx hy 45 old hg (by rw [ybp,hs]) (by rw [hs,hs2]) h1 h
theorem yhp (w:World) (g k:Nat) (cs:Array Value) (h:k≠g):(w.setRow g cs).heap[k]?=w.heap[k]?:= by
 unfold World.setRow;simp only;rw [Array.getElem?_modify,if_neg (fun e=>h e.symm)]
theorem ybl {B:Nat} {a w:World} (h:Below B a w) {g:Nat} (hg:B<=g) (cs:Array Value):Below B a (w.setRow g cs) :=
 h.trans ⟨rfl,rfl,rfl,by rw [size_setRow];exact Nat.le_refl _,fun k hk=>yhp w g k cs om⟩
theorem isl (ao:Option Addr) (n c:Nat):IsSl (.slice ao n c):=⟨_,_,_,rfl⟩
theorem yc2 (e:Int) (w:World):Calls Tryz.prog 34 #[iV e] w (RetB (ansZ e) w):= by
 go_enter Tryz.func34,Tryz.ntmps34
 go_upto_region 1 with fail
 obtain ⟨W,hW,HH,HB⟩:∃W,w.alloc (.cells zA.toArray 45)=W/\Hid (W.heap[w.heap.size]?=some (.cells zA.toArray 45 (0,0)))/\Hid (BW w W):=⟨_,rfl,heap_alloc_new w _,yaa bR _⟩
 with_reducible rw [hW]
 clear hW
 go_wp2_with (with_reducible refine ybj rfl (.tmp 2) (.tmp 4) rfl rfl w.heap.size _ rfl rfl _ HH.out rfl rfl (by simp [Value.oneCell']) ?_)
 refine bodyPost_ret (v:=ansZ e) (results_cell_row (p:=2) (ty:=45) rfl _ _ w.heap.size 45 _ (0,0) _ rfl (setRow_heap _ _ _ _ _ _ HH.out) Tryz.underlying45 rfl (by rw [ybp];rfl)) rfl ⟨rfl,ybl HB.out (Nat.le_refl _) _⟩
theorem ya6.rd {F:List Nat} {w:World} {base g:Nat} {dv:Value} {b:Bk} (h:ya6 w base g dv b) (hg:g∉F) (ho:∀q,dv.ownBlock=some q->q∉F):Rd F w (fun W=>ya6 W 0 g dv b):=fun W hW =>
 ⟨Nat.zero_le _,h.2.1.keep hW hg,yco (yap h.2.2 hW ho) (Nat.zero_le _)⟩
theorem ybn.rd {F:List Nat} {w:World} {g:Nat} {t:Tm} {tv ev:Value} {l:List R5} (h:ybn w g t tv ev l) (h1:g∉F) (h2:OffF F tv) (h3:OffF F ev):Rd F w (fun W=>ybn W g t tv ev l):=fun _ hW=>h.keep hW h1 h2 h3
theorem jak {W:World} {o:Obj} {u ltv dv:Value} {t:Tm} {gl gb base:Nat} {b:Bk} (h1:TrS W u t.ts) (h2:ybn W gl t ltv (sZ) []) (h3:ya6 W base gb dv b) :
 Rd [W.heap.size] (W.alloc o) (fun W'=>TrS W' u t.ts/\ybn W' gl t ltv (sZ) []/\ya6 W' 0 gb dv b):= by
 have hb:BW W (W.alloc o):=yaa bR _;have k1:=h2.1.lt;have k2:=h3.2.1.lt
 refine ((TrS.rd (F:=[W.heap.size]) (h1.below hb) (Fl.offNew h1.fl om (fun x hx=>by simp only [ms] at hx;omega))).and
  ((ybn.rd (F:=[W.heap.size]) (h2.below hb) (by simp only [ms];omega) (Fl.offNew h2.2.1.fl om (fun x hx=>by simp only [ms] at hx;omega)) (OffF.nil _ _ _)).and
  (ya6.rd (F:=[W.heap.size]) (h3.below hb) (by simp only [ms];omega) (fun q hq=>by simp only [ms];have:=(h3.2.2.lt q hq).2;omega))))
def yyo (B:Nat) (V:AV):Prop:=Hi B V.tv/\B<=V.gl/\Hi B V.ltv/\Hi B V.lev/\B<=V.gb/\(∀q,V.dv.ownBlock=some q->B<=q)/\Hi B V.pv/\Hi B V.rv/\Hi B V.nv/\(∀v∈V.nvs,Hi B v)/\∀v∈V.ivs,Hi B v
def yz4 (t:Tm) (R:Rn) (w:World) (e:Ending) (w':World):Prop :=
 ∃g F V,e=.returned (.tuple #[pV g,iZ])/\ybe w.heap.size g ⟨t,t.start,0,[],⟨[],0⟩,R,[]⟩ F w' V/\yyo w.heap.size V/\BW w w'
theorem ylj (t:Tm) (tv:Value) (ht:t.right=true) (R:Rn) (hR:Hid (runS t [] t.start=R)) (hRe:Hid (R.e=0)) (w:World) (hv:TrS w tv t.ts) :
 Calls Tryz.prog 8 #[.agg (t.cells tv).toArray] w (yz4 t R w):= by
 have HT:=lh hv;obtain ⟨tao,tc,rfl⟩:=hv.shape
 have HTS:Hid (1<=t.ts.length/\t.ts.length<=1000):= by
  have h1:=yci ht;show _/\_;omega
 have HRT:Hid ((if yaw t.lim t.ts t.cyc t.dued t.minf t.minp t.start=true then 0 else 6)=(0:Int)):= by
  show _=_;unfold Tm.right at ht;rw [if_pos ht]
 have HTR:=lh ht;clear hv ht;unfold Tm.cells
 go_enter Tryz.func8,Tryz.ntmps8
 go_wp2_with fail
 refine (yar _ t.ts t.lim t.cyc t.dued t.minf t.minp t.start 0 HRT _ (HT.out.below bL)).mono ?_;rintro _ w1 ⟨rfl,hb1⟩;have HB1:Hid (BW w w1):=yad (yaa bR _) hb1;have HX1:Hid (Blk w1 w.heap.size 24 [iV t.lim,.slice tao t.ts.length tc,iV t.cyc,iV t.dued,iV t.minf,iV t.minp,iV t.start]):=(yae w _ _ _ rfl).below hb1;clear hb1;have c1:=HX1.out.cell 1;simp only [gz,gs] at c1;have kx:=HX1.out.lt
 go_wp2_with fail
 refine (yio _ t.ts _ (HT.out.below HB1.out) (by have:=HTS.out.2;omega)).mono ?_;rintro _ w2 ⟨u,rfl,hu,hf,hb2⟩;obtain ⟨uo,uc,rfl⟩:=hu.shape;have HU:=lh hu;have HF:=lh hf;have HB2:Hid (BW w w2):=yad HB1.out hb2;have HX2:=lh (HX1.out.below hb2);clear hu hf hb2 c1 kx;have c1:=HX2.out.cell 1;simp only [gz,gs] at c1;have cf1:=HX2.out.frozen 1;have kx:=HX2.out.lt;go_upto_region 5 with fail
 obtain ⟨W3,hW3,HX3,HU3,HB3⟩:∃W3,w2.setCell (Ad w.heap.size 1) (.slice uo t.ts.length uc)=W3/\Hid (Blk W3 w.heap.size 24 [iV t.lim,.slice uo t.ts.length uc,iV t.cyc,iV t.dued,iV t.minf,iV t.minp,iV t.start])/\Hid (TrS W3 (.slice uo t.ts.length uc) t.ts)/\Hid (BW w W3):= by
  refine ⟨_,rfl,HX2.out.set 1 _,HU.out.keep (F:=[w.heap.size]) ((yab.refl _ _).sg _) (fun b o n c e hn hm=>?_),yao HB2.out (Nat.le_refl _)⟩;have h1:=HF.out b o n c e hn;have h2:=HX1.out.lt;simp only [ms] at hm;omega
 with_reducible rw [hW3]
 clear hW3 c1 cf1 kx
 have HS5:Hid (∀W',BW W3 W'->Ce W' w.heap.size 0 (iV t.lim)/\Ce W' w.heap.size 1 (.slice uo t.ts.length uc)/\Ce W' w.heap.size 2 (iV t.cyc)/\Ce W' w.heap.size 3 (iV t.dued)/\Ce W' w.heap.size 4 (iV t.minf)/\Ce W' w.heap.size 5 (iV t.minp)/\Ce W' w.heap.size 6 (iV t.start)):=fun W' hb=>by
  have q:=HX3.out.below hb;exact ⟨q.cell 0,q.cell 1,q.cell 2,q.cell 3,q.cell 4,q.cell 5,q.cell 6⟩
 have hsd:=HS5.out W3.drew (yaf bR)
 go_cut [5] (fun s5 wx=>∃g gl gb ltv dv,s5=pV g/\Hid (Blk wx g 89 [iV t.lim,.slice uo t.ts.length uc,iV t.cyc,iV t.dued,iV t.minf,iV t.minp,iV t.start,iV t.start,iZ,pV gl,pV gb,sZ,iZ,iZ,sZ,sZ,sZ,sZ])/\Hid (W3.heap.size<=g)/\Hid (Rd [g] wx (fun W=>TrS W (.slice uo t.ts.length uc) t.ts/\ybn W gl t ltv (sZ) []/\ya6 W 0 gb dv ⟨[],0⟩))/\Hid (W3.heap.size<=gl/\Hi W3.heap.size ltv)/\Hid (W3.heap.size<=gb/\∀q,dv.ownBlock=some q->W3.heap.size<=q)/\Hid (BW W3 wx))
 case first =>
  go_region_held3 (fun W'=>Ce W' w.heap.size 0 (iV t.lim)/\Ce W' w.heap.size 1 (.slice uo t.ts.length uc)/\Ce W' w.heap.size 2 (iV t.cyc)/\Ce W' w.heap.size 3 (iV t.dued)/\Ce W' w.heap.size 4 (iV t.minf)/\Ce W' w.heap.size 5 (iV t.minp)/\Ce W' w.heap.size 6 (iV t.start)) (first | with_reducible exact hsd | with_reducible assumption | exact hsl | exact hsb | (exact HS5.out _ (yaa hbl2.out _)) | (exact HS5.out _ (yaa hbb2.out _)))
   (first | (go_at_call 29;refine (yn9 t _ _ (HU3.out.below (by first | exact yaf bR | exact hbb2.out)) (by have:=HTS.out.2;omega)).mono ?_;rintro _ w6 ⟨gl,ltv,rfl,hl6,hgl6,hfl6,hb6⟩;have HL6:=lh hl6;have HGL:Hid (W3.heap.size<=gl/\Hi W3.heap.size ltv):=(by first | exact ⟨Nat.le_trans hbb2.out.size hgl6,Hi.of_fr hfl6 hbb2.out.size⟩ | exact ⟨hgl6,Hi.of_fr hfl6 (Nat.le_refl _)⟩);have hbl0:=lh hb6;have hbl2:Hid (BW W3 w6):=(by first | exact yad (yaf bR) hb6 | exact yad hbb2.out hb6);have hsl:=HS5.out w6 hbl2.out;clear hl6 hgl6 hfl6 hb6) | (go_at_call 30;refine (yrd _).mono ?_;rintro _ w7 ⟨gb,dv,rfl,hd7,hb7⟩;have HGB:Hid (W3.heap.size<=gb/\∀q,dv.ownBlock=some q->W3.heap.size<=q):=(by have hWB:=hd7.2.2.lt;first | exact ⟨Nat.le_trans hbl2.out.size hd7.1,fun q hq=>Nat.le_trans hbl2.out.size (hWB q hq).1⟩ | exact ⟨hd7.1,fun q hq=>(hWB q hq).1⟩);have HD7:=lh hd7;have hbb0:=lh hb7;have hbb2:Hid (BW W3 w7):=(by first | exact yad (yaf bR) hb7 | exact yad hbl2.out hb7);have hsb:=HS5.out w7 hbb2.out;clear hd7 hb7))
  ·go_wp2_with fail
   go_meet
   case rel=>exact ⟨w7.heap.size,gl,gb,ltv,dv,rfl,yae w7 _ _ _ rfl,hbb2.out.size,jak (HU3.out.below hbb2.out) (HL6.out.below hbb0.out) HD7.out,HGL,HGB,yaa hbb2.out _⟩
 case rest =>
  clear hsd;obtain ⟨g,gl,gb,ltv,dv,rfl,HBG,HGE,HRD,HGL,HGB,HBW⟩:=hcut;have HX4:=lh (HX3.out.below HBW.out);obtain ⟨c0,c1,c2,c3,c4,c5,c6,-⟩:=HX4.out.cs [0,1,2,3,4,5,6];simp only [gz,gs] at c0 c1 c2 c3 c4 c5 c6;have kx:=HX4.out.lt
  go_wp2_with fail
  refine (yg4 t _ (sZ) [] t.start ⟨HTR.out,by simp,by simp,by simp⟩ (fun i j _ h=>absurd h (by simp)) R hR _ (HU3.out.below HBW.out) R5S.nil).mono ?_;rintro _ w8 ⟨pv,rv,ov,vs,rfl,hp,hr,ho,⟨f1,f2,f3,f4⟩,hb8⟩;obtain ⟨po,pc,rfl⟩:=hp.shape;obtain ⟨ro,rc,rfl⟩:=hr.shape;obtain ⟨oo,oc,rfl⟩:=ho.2.shape;have HP:=lh hp;have HR8:=lh hr;have HO8:=lh ho;have HFF:=lh (And.intro f1 (And.intro f2 (And.intro f3 f4)));have HBG8:=lh (HBG.out.below hb8);have HRD8:=lh (HRD.out.below hb8 (fun x hx=>.inl hx));have HB8:Hid (BW w w8):=yad (yad HB3.out HBW.out) hb8;have HLT:Hid (g<wc.heap.size):=HBG.out.lt;clear hp hr ho f1 f2 f3 f4 hb8 c0 c1 c2 c3 c4 c5 c6 kx;obtain ⟨c11,c12,c13,c14,c15,-⟩:=HBG8.out.cs [11,12,13,14,15];simp only [gz,gs] at c11 c12 c13 c14 c15;obtain ⟨cf11,cf12,cf13,cf14,cf15,-⟩:=HBG8.out.fs [11,12,13,14,15];have kg:=HBG8.out.lt;have hre:=hRe.out;rw [hre]
  go_wp2_with fail
  go_ret2
  have hk:yab [g] w8 (((((w8.setCell (Ad g 11) (.slice po R.p.bs.length pc)).setCell (Ad g 12) (iV R.p.c)).setCell (Ad g 13) (iV R.p.d)).setCell (Ad g 14) (.slice ro R.rs.length rc)).setCell (Ad g 15) (.slice oo R.out.length oc)):=(((((yab.refl _ _).sg _).sg _).sg _).sg _).sg _;have hlt:∀x∈[g],x<wc.heap.size:=fun x hx=>by simp only [ms] at hx;have:=HLT.out;omega
  have hst:Stp [g] w8 [g] _:=⟨hk,fun _ hx=>.inl hx⟩;have hrd:=hst.rd (HRD8.out.and ((HP.out.rd (HFF.out.1.off hlt)).and ((HR8.out.rd (HFF.out.2.1.off hlt)).and (HO8.out.rd (HFF.out.2.2.1.off hlt) (fun u hu=>(HFF.out.2.2.2 u hu).off hlt)))));have hge:w.heap.size<=g:=by have h1:=HGE.out;have h2:=HB3.out.size;omega
  have h3:=HB3.out.size;have h4:w.heap.size<=wc.heap.size:=Nat.le_trans h3 HBW.out.size;refine ⟨g,[g],⟨.slice uo t.ts.length uc,gl,ltv,sZ,gb,dv,.slice po R.p.bs.length pc,.slice ro R.rs.length rc,.slice oo R.out.length oc,vs,sZ,[],sZ⟩,rfl,⟨((((HBG8.out.set 11 _).set 12 _).set 13 _).set 14 _).set 15 _,ms.2 rfl,fun x hx=>?_,hrd.imp fun W q=>⟨q.1.1,q.1.2.1,q.1.2.2,q.2.1,q.2.2.1,q.2.2.2,trivial⟩,yel _ _ _ _,(fun q hq=>by cases hq),⟨0,[],Nat.zero_le _,by simp,yel _ _ _ _⟩,(fun q hq=>by cases hq)⟩,⟨Hi.of_fr HF.out HB1.out.size,Nat.le_trans h3 HGL.out.1,fun b o n c e hn=>Nat.le_trans h3 (HGL.out.2 b o n c e hn),Hi.nil _ _ _,Nat.le_trans h3 HGB.out.1,fun q hq=>Nat.le_trans h3 (HGB.out.2 q hq),Hi.of_fr HFF.out.1 h4,Hi.of_fr HFF.out.2.1 h4,Hi.of_fr HFF.out.2.2.1 h4,fun v hv=>Hi.of_fr (HFF.out.2.2.2 v hv) h4,fun v hv=>by cases hv⟩,?_⟩
  ·simp only [ms] at hx
   subst hx;exact ⟨hge,Nat.lt_of_lt_of_le HBG8.out.lt hk.size⟩
  ·exact HB8.out.trans (hk.to_below HB8.out.size (fun x hx=>by simp only [ms] at hx;omega))
structure ycy (A:Acc):Prop where
 goods:yha A.t A.ev A.today
 asc:Asc A.ev
 run:runS A.t A.ev A.today=A.R
 e:A.R.e=0
 issl:A.iss.length=A.R.out.length
 issb:∀i,i<A.iss.length->(A.iss.getD i St0).ls.length<=1000
 outl:A.R.out.length<=300
 outb:∀i,i<A.R.out.length->(A.R.out.getD i St0).ls.length<=1000
 bs:A.R.p.bs.length=A.t.ts.length
 rs:A.R.rs.length=A.t.ts.length
 seq:0<=A.seq
 bkd:∀d∈A.bk.ds,d.c<=A.today
 bkl:A.bk.ds.length<=2000
def ycw (A:Acc) (x:R5):List R5:=insL A.ev (ydc x.b A.ev A.ev.length) x
noncomputable def yb9 (A:Acc) (x:R5):Acc×Int :=
 if A.t.rightE x≠0 then (A,A.t.rightE x)
 else if 2000<=A.ev.length then (A,14)
 else if (runS A.t (ycw A x) A.today).e≠0 then (A,(runS A.t (ycw A x) A.today).e)
 else if btwE A.R.out (runS A.t (ycw A x) A.today).out≠0 then (A,btwE A.R.out (runS A.t (ycw A x) A.today).out)
 else ({ A with ev:=ycw A x,R:=runS A.t (ycw A x) A.today,seq:=A.seq+1 },0)
theorem yj9 (day:Int) (l:List R5) (n:Nat):ydc day l n<=n:= by
 induction n with
 | zero=>exact Nat.le_refl _
 | succ k ih =>
  unfold ydc
  split
  ·omega
  ·exact Nat.le_refl _
theorem ypi (day:Int) (l:List R5) (n:Nat):(∀i,ydc day l n<=i->i<n->day<(l.getD i yax).b)/\(0<ydc day l n->(l.getD (ydc day l n-1) yax).b<=day):= by
 induction n with
 | zero=>exact ⟨fun i h1 h2=>absurd h2 om,fun h=>absurd h (by simp [ydc])⟩
 | succ k ih =>
  unfold ydc
  split
  ·rename_i h
   refine ⟨fun i h1 h2=>?_,ih.2⟩;rcases Nat.lt_succ_iff_lt_or_eq.1 h2 with h3 | rfl
   ·exact ih.1 i h1 h3
   ·exact h
  ·rename_i h
   exact ⟨fun i h1 h2=>absurd h2 om,fun _=>by simpa using Int.not_lt.1 h⟩
theorem yrw (l:List R5) (p i:Nat) (x:R5) (hp:p<=l.length):(insL l p x).getD i yax=if i<p then l.getD i yax else if i=p then x else l.getD (i-1) yax:= by
 unfold insL;simp only [List.getD]
 by_cases h1:i<p
 ·rw [if_pos h1,List.append_assoc,List.getElem?_append_left (by rw [List.length_take];omega),List.getElem?_take_of_lt h1]
 ·rw [if_neg h1]
  by_cases h2:i=p
  ·subst h2
   rw [if_pos rfl,List.append_assoc,List.getElem?_append_right (by rw [List.length_take];omega),List.length_take,Nat.min_eq_left hp,Nat.sub_self];simp
  ·rw [if_neg h2,List.append_assoc,List.getElem?_append_right (by rw [List.length_take];omega),List.length_take,Nat.min_eq_left hp]
   obtain ⟨j,rfl⟩:∃j,i=p+1+j:=⟨i-p-1,by omega⟩;have e1:p+1+j-p=j+1:=by omega
   have e2:p+1+j-1=p+j:=by omega
   rw [e1,e2];simp
theorem yus {l:List R5} (h:Asc l) (x:R5):Asc (insL l (ydc x.b l l.length) x):= by
 have hp:=yj9 x.b l l.length;obtain ⟨s1,s2⟩:=ypi x.b l l.length;generalize ydc x.b l l.length=p at *;have low:∀i,i<p->(l.getD i yax).b<=x.b:=fun i hi=>Int.le_trans (h i (p-1) om om) (s2 om);intro i j hij hj;rw [yga _ _ _ hp] at hj;rw [yrw _ _ _ _ hp,yrw _ _ _ _ hp]
 by_cases a1:i<p
 ·rw [if_pos a1]
  by_cases b1:j<p
  ·rw [if_pos b1];exact h i j hij om
  ·rw [if_neg b1]
   by_cases b2:j=p
   ·rw [if_pos b2];exact low i a1
   ·rw [if_neg b2];exact h i (j-1) om om
 ·rw [if_neg a1,if_neg (show ¬j<p by omega)]
  by_cases a2:i=p
  ·rw [if_pos a2]
   by_cases b2:j=p
   ·rw [if_pos b2];exact Int.le_refl _
   ·rw [if_neg b2];exact Int.le_of_lt (s1 (j-1) om om)
  ·rw [if_neg a2,if_neg (show ¬j=p by omega)]
   exact h (i-1) (j-1) om om
theorem yrz {l:List R5} {p:Nat} {x y:R5} (h:y∈insL l p x):y=x\/y∈l:= by
 unfold insL at h;simp only [List.mem_append,ms] at h;rcases h with (h | h) | h
 ·exact .inr (List.mem_of_mem_take h)
 ·exact .inl h
 ·exact .inr (List.mem_of_mem_drop h)
theorem ykf {A:Acc} (h:ycy A) {x:R5} (hx:A.t.rightE x=0) (hd:x.b<=A.today) (hl:A.ev.length<2000):yha A.t (ycw A x) A.today :=
 ⟨h.goods.terms,fun y hy=>(yrz hy).elim (fun e=>e▸hx) (h.goods.events y),fun y hy=>(yrz hy).elim (fun e=>e▸hd) (h.goods.late y),by
  unfold ycw;rw [yga _ _ _ (yj9 _ _ _)];omega⟩
section
variable {P:Program} {w:World}
theorem ygs {o:Oper} {a:Act} {K:Act->World->Prop} {Q:Exit->Act->World->Prop} (s x:Operand) (t:TypeId)
 (ho:o.op=.call { callee:=.builtin .append,args:=#[s,x],argTypes:=#[t,t] })
 (base:Nat) (e:TypeId) (i:TypeInfo) (z:Value) (size bytes:Nat) (ht:P.underlying t=some (.slice e)) (hi:P.info? e=some i) (hz:i.zero=some z)
 (hsize:i.size=size) (hby:i.bytes=bytes) (hzs:z.cells.size=size) (hsz:0<size)
 (v:Value) (n:Nat) (xs:List Value) (hs:a.eval s=v) (hown:w.ownsRow base e size v n xs)
 (ao:Option Addr) (m c:Nat) (news:List Value) (hx:a.eval x=.slice ao m c) (hl:news.length=m*size) (hnone:ao=none->m=0/\c=0) (hnews:∀ad,ao=some ad->∀j u,news[j]?=some u->w.cell? (ad.add j)=some u) (h1:∀u∈news,u.oneCell'=true)
 (h63:n+m<=maxLen) (hbytes:(n+m)*bytes<=140737488355328) (hbase:base<=w.heap.size)
 (h:∀v' w',w'.ownsRow base e size v' (n+m) (xs++news)->w.grownBy w' v.ownBlock->(v'.ownBlock=v.ownBlock\/v'.ownBlock=some w.heap.size)->K (a.put o.dst v') w'):o.wp P a w K Q:= by
 cases ao with
 | some ad=>exact yee w s x t ho base e i z size bytes ht hi hz hsize hby hzs hsz v n xs hs hown ad m c news hx hl (hnews ad rfl) h1 h63 hbytes hbase h
 | none =>
  obtain ⟨rfl,rfl⟩:=hnone rfl;obtain rfl:news=[]:=List.eq_nil_of_length_eq_zero (by simpa using hl);have hr:=run_append_owned_none (P:=P) w base t o.type e i size ht hi v n xs hown;unfold Oper.wp execOp;simp only [ho,resolve,invoke,builtin,Sem.run_bind,Sem.run_pure,Result.andThen_ok,List.map_toArray,List.map_cons,List.map_nil,hs,hx,hr];exact h v w (by simpa using hown) (World.grownBy.refl _ _) (.inl rfl)
theorem yen {ops:Array Oper} {rest:List Oper} {o:Oper} {a:Act} {Q:Exit->Act->World->Prop} (hgd:o.guard=none) (s x:Operand) (t:TypeId)
 (ho:o.op=.call { callee:=.builtin .append,args:=#[s,x],argTypes:=#[t,t] })
 (base:Nat) (e:TypeId) (i:TypeInfo) (z:Value) (size bytes:Nat) (ht:P.underlying t=some (.slice e)) (hi:P.info? e=some i) (hz:i.zero=some z)
 (hsize:i.size=size) (hby:i.bytes=bytes) (hzs:z.cells.size=size) (hsz:0<size)
 (v:Value) (n:Nat) (xs:List Value) (hs:a.eval s=v) (hown:w.ownsRow base e size v n xs)
 (ao:Option Addr) (m c:Nat) (news:List Value) (hx:a.eval x=.slice ao m c) (hl:news.length=m*size) (hnone:ao=none->m=0/\c=0) (hnews:∀ad,ao=some ad->∀j u,news[j]?=some u->w.cell? (ad.add j)=some u) (h1:∀u∈news,u.oneCell'=true)
 (h63:n+m<=maxLen) (hbytes:(n+m)*bytes<=140737488355328) (hbase:base<=w.heap.size)
 (h:∀v' w',w'.ownsRow base e size v' (n+m) (xs++news)->w.grownBy w' v.ownBlock->(v'.ownBlock=v.ownBlock\/v'.ownBlock=some w.heap.size)->wpList P ops Q rest (a.put o.dst v') w'):wpList P ops Q (o::rest) a w :=
 wpList_plain hgd fun _ hK=>ygs s x t ho base e i z size bytes ht hi hz hsize hby hzs hsz v n xs hs hown ao m c news hx hl hnone hnews h1 h63 hbytes hbase fun v' w' h2 h3 h4=>hK _ _ (h v' w' h2 h3 h4)
theorem yd2 {ops:Array Oper} {o:Oper} {a:Act} {K:Act->World->Prop} {Q:Exit->Act->World->Prop} {E:Prop} (hgd:o.guard=none) (s x:Operand) (t:TypeId)
 (ho:o.op=.call { callee:=.builtin .append,args:=#[s,x],argTypes:=#[t,t] })
 (base:Nat) (e:TypeId) (i:TypeInfo) (z:Value) (size bytes:Nat) (ht:P.underlying t=some (.slice e)) (hi:P.info? e=some i) (hz:i.zero=some z)
 (hsize:i.size=size) (hby:i.bytes=bytes) (hzs:z.cells.size=size) (hsz:0<size)
 (v:Value) (n:Nat) (xs:List Value) (hs:a.eval s=v) (hown:w.ownsRow base e size v n xs)
 (ao:Option Addr) (m c:Nat) (news:List Value) (hx:a.eval x=.slice ao m c) (hl:news.length=m*size) (hnone:ao=none->m=0/\c=0) (hnews:∀ad,ao=some ad->∀j u,news[j]?=some u->w.cell? (ad.add j)=some u) (h1:∀u∈news,u.oneCell'=true)
 (h63:n+m<=maxLen) (hbytes:(n+m)*bytes<=140737488355328) (hbase:base<=w.heap.size)
 (h:∀v' w',w'.ownsRow base e size v' (n+m) (xs++news)->w.grownBy w' v.ownBlock->(v'.ownBlock=v.ownBlock\/v'.ownBlock=some w.heap.size)->K (a.put o.dst v') w') :
 if Region.wanted o (yielded ops a.tmps)=true then Oper.wp P o a w K Q else E:= by
 have hw:Region.wanted o (yielded ops a.tmps)=true:=by simp [Region.wanted,hgd]
 rw [if_pos hw];exact ygs s x t ho base e i z size bytes ht hi hz hsize hby hzs hsz v n xs hs hown ao m c news hx hl hnone hnews h1 h63 hbytes hbase h
end
def ybw (w w':World):Prop:=∀(b:Nat) (e:TypeId) (cs:List Value),Blk w b e cs->e≠89->e≠43->e≠175->Blk w' b e cs
theorem ybw.refl (w:World):ybw w w:=fun _ _ _ h _ _ _=>h
theorem ybw.trans {a b c:World} (h:ybw a b) (k:ybw b c):ybw a c:=fun x e cs hb h1 h2 h3=>k x e cs (h x e cs hb h1 h2 h3) h1 h2 h3
theorem ybw.below {a b c:World} (h:ybw a b) (k:BW b c):ybw a c:=fun x e cs hb h1 h2 h3=>(h x e cs hb h1 h2 h3).below k
theorem ybw.of_below {a b:World} (k:BW a b):ybw a b:=(ybw.refl a).below k
def ync (lo g:Nat) (A:Acc) (F:List Nat) (w w':World):Prop:=∃F' V',ybe lo g A F' w' V'/\Stp F w F' w'/\(∀x∈F,x∈F')/\ybw w w'
theorem yv4 {lo g gl':Nat} {A:Acc} {F:List Nat} {V:AV} {w8 WA w10 WB:World} (H:ybe lo g A F w8 V) (R':Rn) (l':List R5) {u' pv' rv' nv' av':Value} {nvs':List Value} {n:Nat} {cs:List Value} {s:Int}
 (hRd:Rd F w8 (fun W=>ybn W gl' A.t V.ltv u' l'/\Sl .i64 W pv' R'.p.bs/\Sl .i64 W rv' R'.rs/\StV W nv' R'.out nvs'))
 (hKA:yab [g] w8 WA) (hown:w10.ownsRow lo 175 9 av' n cs) (hn:n<=s.toNat*400000) (h1:∀c∈cs,c.oneCell'=true)
 (hg:WA.grownBy w10 V.av.ownBlock) (hor:av'.ownBlock=V.av.ownBlock\/av'.ownBlock=some WA.heap.size)
 (hKB:yab [g] w10 WB)
 (hB:Blk WB g 89 (ybu { A with ev:=l',R:=R',seq:=s } { V with gl:=gl',lev:=u',pv:=pv',rv:=rv',nv:=nv',nvs:=nvs',av:=av' })) :
 ync lo g { A with ev:=l',R:=R',seq:=s } F w8 WB:= by
 obtain ⟨n0,cs0,_,_,h0⟩:=H.adj;have hsz:w8.heap.size<=WA.heap.size:=hKA.size;have hsz2:WA.heap.size<=w10.heap.size:=hg.size;have hg1:∀x∈[g],x∈F:=fun x hx=>by simp only [ms] at hx;exact hx▸H.gF
 have hnew:∀x∈av'.ownBlock.toList++F,x∈F\/w8.heap.size<=x:=fun x hx=>by
  rcases List.mem_append.1 hx with h2 | h2
  ·have h3:=Option.mem_toList.1 h2
   rcases hor with h4 | h4
   ·exact .inl (H.adjF x (h4▸h3))
   ·have h5:some WA.heap.size=some x:=h4▸h3
    simp only [Option.some.injEq] at h5;exact .inr om
  ·exact .inl h2
 have hK10:yab F w8 w10:=(hKA.mono hg1).grown hg (fun k hk=>.inl (H.adjF k hk));have hst:Stp F w8 (av'.ownBlock.toList++F) WB:=⟨hK10.trans hKB (fun x hx=>.inl (hg1 x hx)),hnew⟩
 have hKS:yab (g::V.av.ownBlock.toList) w8 WB:= by
  refine ((hKA.mono (F':=g::V.av.ownBlock.toList) (fun x hx=>by simp only [ms] at hx;exact hx▸List.mem_cons_self ..)).grown hg (fun k hk=>.inl (List.mem_cons_of_mem _ (Option.mem_toList.2 hk)))).trans hKB (fun x hx=>.inl ?_);simp only [ms] at hx;exact hx▸List.mem_cons_self ..
 have hown':WB.ownsRow lo 175 9 av' n cs:=yap hown hKB (fun q hq hm=>by
  simp only [ms] at hm;subst hm;rcases hor with h4 | h4
  ·exact yaj h0 H.blk (by decide) (h4▸hq).symm
  ·have h5:some WA.heap.size=some q:=h4▸hq
   simp only [Option.some.injEq] at h5;have:=H.blk.lt;omega)
 refine ⟨av'.ownBlock.toList++F,_,⟨hB,List.mem_append_right _ H.gF,fun x hx=>⟨?_,?_⟩,?_,?_,fun q hq=>List.mem_append_right _ (H.issF q hq),⟨n,cs,hn,h1,hown'⟩,fun q hq=>List.mem_append_left _ (Option.mem_toList.2 hq)⟩,hst,fun x hx=>List.mem_append_right _ hx,fun b e cb hb e1 e2 e3=>hb.keep hKS (fun hm=>?_)⟩
 ·rcases hnew x hx with h2 | h2
  ·exact (H.lt x h2).1
  ·have:=(H.lt g H.gF)
   omega
 ·rcases List.mem_append.1 hx with h2 | h2
  ·have h3:=(hown'.lt x (Option.mem_toList.1 h2))
   exact h3.2
  ·exact Nat.lt_of_lt_of_le (H.lt x h2).2 hst.keep.size
 ·exact hst.rd ((H.rd.and hRd).imp fun W q=>⟨q.1.1,q.2.1,q.1.2.2.1,q.2.2.1,q.2.2.2.1,q.2.2.2.2,q.1.2.2.2.2.2.2⟩)
 ·exact yap H.iss hKS (fun q hq hm=>by
   rcases List.mem_cons.1 hm with rfl | hm
   ·exact yaj H.iss H.blk (by decide) hq.symm
   ·exact yfe H.iss h0 (by decide) hq (Option.mem_toList.1 hm))
 ·rcases List.mem_cons.1 hm with rfl | hm
  ·exact ybs hb H.blk e1 rfl
  ·exact yaj h0 hb e3 (Option.mem_toList.1 hm).symm
end Go.Proofs.YtkongpjpkpfniaaGreat

/- TopTicks: parts of the proof, made small by a program (mini.py). -/
import Derived.Laws.StructEq
import Derived.Test.YtkongpjpkpfniaaGreatT01
import Derived.Test.YtkongpjpkpfniaaGreatT09
import Derived.Test.YtkongpjpkpfniaaGreatT17
import Derived.Test.YtkongpjpkpfniaaGreatT18
import Derived.Test.YtkongpjpkpfniaaGreatT21
set_option linter.unusedVariables false
set_option linter.unusedSimpArgs false
set_option maxRecDepth 100000
set_option maxHeartbeats 6400000
namespace Go.Proofs.YtkongpjpkpfniaaGreat
open Go.RowKit
theorem zq22be45 {q:Prop} (h:q:= by
 go_wp2_with fail
 go_step3
 exact ⟨rfl,HJ.out _ _ (x10 (x10 (x10 (x10 (x10 (x10 ⟨_,_,_,_,_,_,_,rfl,⟨_,HV.out⟩,DStp.refl _ _ _⟩))))))⟩):q:=h
theorem zq22f3e5 {q:Prop} (h:q:= by
 have e:ybx x=true:=by simp [ybx,may0];omega
 rw [e]
 go_enter Tryz.func226,Tryz.ntmps226
 go_wp2_with fail
 go_ret
 exact Ret.mk _ _):q:=h
theorem zq229095 {q:Prop} (h:q:= by
 show Blk _ g 127 [sL q 0 ds.length ec,iV (wrap64 (held-X.d))]
 with_reducible exact ((((((hB0.setOther hgw 0 _).setOther hgw 1 _).setOther hgw 2 _).setOther hgw 3 _).setOther hgw 4 _).below (yaf bR))):q:=h
theorem zq2206d8 {q:Prop} (h:q:= by
 simp only [el];have h1:=yaz (i:=1) HA2 hq2 (iV (wrap64 (held-X.d)))
 with_reducible exact yah (yaz (yaz (yaz (yaz (yaz h1 hq _) hq _) hq _) hq _) hq _) (yaf bR)):q:=h
theorem zq225e14 {q:Prop} (h:q:= by
 exact ((((((A3.out.setCell (show base<=g from HG.out) (.inl hL.out.1) _).setCell (show base<=w.heap.size from HBS.out) (.inr (Nat.le_refl _)) _).setCell (show base<=w.heap.size from HBS.out) (.inr (Nat.le_refl _)) _).setCell (show base<=w.heap.size from HBS.out) (.inr (Nat.le_refl _)) _).setCell (show base<=w.heap.size from HBS.out) (.inr (Nat.le_refl _)) _).setCell (show base<=w.heap.size from HBS.out) (.inr (Nat.le_refl _)) _).drew):q:=h
theorem yg4 (t:Tm) (tv lv:Value) (l:List R5) (today:Int) (HG:Hid (yha t l today)) (HA:Hid (Asc l)) (R:Rn) (hR:Hid (runS t l today=R)) (w:World) (ht:TrS w tv t.ts) (hl:R5S w lv l) :
 Calls Tryz.prog 31 #[.agg (t.cells tv).toArray,lv,iV today] w (yz7 R w):= by
 have HT:=lh ht;have HL:=lh hl;obtain ⟨tao,tc,rfl⟩:=ht.shape;obtain ⟨lo',lc,rfl⟩:=hl.shape;clear ht hl;unfold Tm.cells
 go_enter Tryz.func31,Tryz.ntmps31
 go_wp2_with fail
 refine (yxp t _ _ l today HG HA _ rfl _ rfl R hR _ (HT.out.below bL) (HL.out.below bL)).mono ?_;rintro _ w1 ⟨pv,rv,ov,vs,rfl,hp,hr,ho,⟨f1,f2,f3,f4⟩,hb1⟩;have HB1:Hid (BW w w1):=yad (yaa (yaa bR _) _) hb1;have HX1:Hid (Blk w1 (w.heap.size+1) 35 [sZ,iZ,iZ]):=(yae (w.alloc _) [sZ,iZ,iZ] 35 _ (by simp)).below hb1;obtain ⟨po,pc,rfl⟩:=hp.shape;obtain ⟨ro,rc,rfl⟩:=hr.shape;obtain ⟨oo,oc,rfl⟩:=ho.2.shape;have HP:=lh hp;have HR:=lh hr;have HO:=lh ho;have HF:=lh (And.intro f1 (And.intro f2 (And.intro f3 f4)));clear hp hr ho f1 f2 f3 f4 hb1;obtain ⟨c0,c1,c2,-⟩:=HX1.out.cs [0,1,2];simp only [gz,gs] at c0 c1 c2;obtain ⟨cf0,cf1,cf2,-⟩:=HX1.out.fs [0,1,2];have kx:=HX1.out.lt
 go_wp2_with fail
 have hoff:∀v,Fr ((w.alloc (.cells #[iV t.lim,.slice tao t.ts.length tc,iV t.cyc,iV t.dued,iV t.minf,iV t.minp,iV t.start] 24)).alloc (.cells #[sZ,iZ,iZ] 35)) v->OffF [w.heap.size+1] v/\Fr w v:=fun v hv=>by
  refine ⟨fun b o n c e hn hm=>?_,fun b o n c e hn=>?_⟩
  ·have h1:=hv b o n c e hn
   simp only [World.size_alloc] at h1;simp only [ms] at hm;omega
  ·have h1:=hv b o n c e hn
   simp only [World.size_alloc] at h1;omega
 have hk:yab [w.heap.size+1] w1 (((w1.setCell (Ad (w.heap.size+1) 0) (.slice po R.p.bs.length pc)).setCell (Ad (w.heap.size+1) 1) (iV R.p.c)).setCell (Ad (w.heap.size+1) 2) (iV R.p.d)):=(((yab.refl _ _).sg _).sg _).sg _;refine bodyPost_ret (v:=.tuple #[.agg #[.slice po R.p.bs.length pc,iV R.p.c,iV R.p.d],.slice ro R.rs.length rc,.slice oo R.out.length oc,iV R.e]) (by simp [results,Tryz.results31,go_sem,c0,c1,c2]) rfl ⟨_,_,_,vs,rfl,HP.out.keep hk (hoff _ HF.out.1).1,HR.out.keep hk (hoff _ HF.out.2.1).1,⟨HO.out.1.keep hk (fun v hv=>(hoff v (HF.out.2.2.2 v hv)).1),HO.out.2.keep hk (hoff _ HF.out.2.2.1).1⟩,⟨(hoff _ HF.out.1).2,(hoff _ HF.out.2.1).2,(hoff _ HF.out.2.2.1).2,fun v hv=>(hoff v (HF.out.2.2.2 v hv)).2⟩,yao (yao (yao HB1.out om) om) om⟩
def yyj (l:List St) (w:World) (e:Ending) (w':World):Prop :=
 ∃u us,e=.returned u/\w'.ownsRow w.heap.size 43 9 u l.length (yay l us)/\LnsS w' l us/\(∀v∈us,Fr w v)/\BW w w'
theorem yi2 {l:List St} {k:Nat} (h:k<l.length):l.take (k+1)=l.take k++[l.getD k St0]:= by
 rw [List.take_succ_eq_append_getElem h];simp [List.getD,h]
theorem yke (v:Value) (l:List St) (vs:List Value) (hn:l.length<=1000) (hll:Hid (∀i,i<l.length->(l.getD i St0).ls.length<=1000)) (w:World) (hv:StV w v l vs) :
 Calls Tryz.prog 47 #[v] w (yyj l w):= by
 have HV:Hid (StS w v l):=⟨vs,hv⟩;obtain ⟨ao,ac,rfl⟩:=hv.2.shape;clear hv;have HN:=lh hn;obtain ⟨i0,hi,hz0,hz1,hz2⟩:=info_parts yl7
 go_enter Tryz.func47,Tryz.ntmps47
 go_wp2_with fail
 go_loopg [3,8] l.length (fun gg ov i wr=>∃(k:Nat) (us:List Value) (F:List Nat),k+gg=l.length/\i=iV k/\Hid (wr.ownsRow w.heap.size 43 9 ov k (yay (l.take k) us))/\Hid (∀q,ov.ownBlock=some q->q∈F)/\Hid (∀x∈F,w.heap.size<=x/\x<wr.heap.size)/\Hid (Rd F wr (fun W=>LnsS W (l.take k) us))/\Hid (∀v∈us,Fr w v)/\Hid (BW w wr))
 case atStart=>exact ⟨0,[],[],by omega,rfl,yel _ _ _ _,(fun q hq=>by cases hq),(fun x hx=>by cases hx),(fun _ _=>trivial),(fun v hv=>by cases hv),bR⟩
 case round =>
  obtain ⟨k,us,F,hkg,rfl,HO,HOF,HFL,HRD,HFR,HBW⟩:=hrel;have HKG:=lh hkg;cases gk with
  | zero =>
   have hlt:¬((k:Int)<(l.length:Int)):=by omega
   obtain rfl:k=l.length:=by omega
   clear hkg
   go_wp2_with fail
   go_ret
   have h1:=HO.out;have h2:=HRD.out.now;rw [List.take_of_length_le (Nat.le_refl _)] at h1 h2;exact ⟨_,us,rfl,h1,h2,HFR.out,HBW.out⟩
  | succ gg =>
   have hlt:(k:Int)<(l.length:Int):=by omega
   have HKN:Hid (k<l.length):=by show k<l.length;omega
   obtain ⟨b1,o1,s1,lv1,rfl,⟨c0,c1,c2,c3,c4,c5,c6,c7,c8⟩,HL1,HX1⟩:=(HV.out.below HBW.out).get (i:=k) HKN.out
   have HLN:Hid (s1.ls.length<=1000):= by
    rw [<-HX1.out];exact hll.out k HKN.out
   have K1:=lh HL1;obtain ⟨a1,q1,rfl,-⟩:=HL1;clear hkg
   go_wp2_with fail
   refine (yol _ s1.ls _ (K1.out.below (yaa bR _)) (by have:=HLN.out;omega)).mono ?_;rintro _ w2 ⟨u,rfl,hu,hf,hb2⟩;obtain ⟨ua,uc,rfl⟩:=hu.shape;have HU:=lh hu;have HF:=lh hf;have HB2:Hid (BW wr w2):=yad (yaa bR _) hb2;have HBX:Hid (Blk w2 wr.heap.size 43 [iV s1.n,iV s1.fr,iV s1.til,iV s1.du,.slice a1 s1.ls.length q1,iV s1.tot,iV s1.cr,iV s1.mn,.bool s1.g]):=(yae wr _ _ _ rfl).below hb2;clear hu hf hb2 c0 c1 c2 c3 c4 c5 c6 c7 c8;obtain ⟨c0,c1,c2,c3,c4,c5,c6,c7,c8,-⟩:=HBX.out.cs [0,1,2,3,4,5,6,7,8];simp only [gz,gs] at c0 c1 c2 c3 c4 c5 c6 c7 c8;have cf4:=HBX.out.frozen 4;have kb:=HBX.out.lt;go_upto_region 6 with fail
   obtain ⟨W6,hW6,HB6,HO6,HU6,HBX6,HRD6⟩:∃W6,w2.setCell (Ad wr.heap.size 4) (.slice ua s1.ls.length uc)=W6/\Hid (BW wr W6)/\Hid (W6.ownsRow w.heap.size 43 9 u3 k (yay (l.take k) us))/\Hid (LnS W6 (.slice ua s1.ls.length uc) s1.ls)/\Hid (Blk W6 wr.heap.size 43 [iV s1.n,iV s1.fr,iV s1.til,iV s1.du,.slice ua s1.ls.length uc,iV s1.tot,iV s1.cr,iV s1.mn,.bool s1.g])/\Hid (Rd F W6 (fun W=>LnsS W (l.take k) us)):= by
    have hb6:BW wr (w2.setCell (Ad wr.heap.size 4) (.slice ua s1.ls.length uc)):=yao HB2.out (Nat.le_refl _);refine ⟨_,rfl,hb6,yah HO.out hb6,HU.out.keep (F:=[wr.heap.size]) ((yab.refl _ _).sg _) (fun b o n c e hn' hm=>?_),HBX.out.set 4 _,HRD.out.below hb6 (fun x hx=>.inl hx)⟩;have h1:=HF.out b o n c e hn';simp only [World.size_alloc] at h1;simp only [ms] at hm;omega
   with_reducible rw [hW6]
   clear hW6 c0 c1 c2 c3 c4 c5 c6 c7 c8 cf4 kb;obtain ⟨c0,c1,c2,c3,c4,c5,c6,c7,c8,-⟩:=HBX6.out.cs [0,1,2,3,4,5,6,7,8];simp only [gz,gs] at c0 c1 c2 c3 c4 c5 c6 c7 c8;have kb:=HBX6.out.lt;have HGE:Hid (w.heap.size<=W6.heap.size):=Nat.le_trans HBW.out.size HB6.out.size;have hKb:k<=1000:=by have:=HKN.out;have:=HN.out;omega
   go_wp2_with (at_builtin;refine yas _ rfl (.tmp 16) (.tmp 18) 61 rfl w.heap.size 43 i0 (.agg #[iZ,iZ,iZ,iZ,sZ,iZ,iZ,iZ,.bool false]) 9 88 Tryz.underlying61 hi hz0 hz1 hz2 rfl (by decide) u3 k (yay (l.take k) us) rfl (yah HO6.out (yaa bR _)) (Ad W6.heap.size 0) 1 1 [iV s1.n,iV s1.fr,iV s1.til,iV s1.du,.slice ua s1.ls.length uc,iV s1.tot,iV s1.cr,iV s1.mn,.bool s1.g] rfl rfl (yly W6 _ _) (by intro u hu;simp only [List.mem_cons,List.not_mem_nil,or_false] at hu;rcases hu with rfl | rfl | rfl | rfl | rfl | rfl | rfl | rfl | rfl <;> rfl) (by unfold maxLen;omega) om (by rw [World.size_alloc];exact Nat.le_succ_of_le HGE.out) ?_;intro v9 w9 hown9 hg9 hor9;have HO9:=lh hown9;have HG9:=lh hg9;have HR9:=lh hor9;clear hown9 hg9 hor9)
   go_roundg gg
   case measure=>omega
   case rel =>
    have hk9:yab F W6 w9:=yab.grown ((yab.refl _ _).alloc _) HG9.out (fun q hq=>.inl (HOF.out q hq));have hb9:BW w w9:=Below.grown (yaa (yad HBW.out HB6.out) _) HG9.out (by rw [World.size_alloc];exact Nat.le_succ_of_le HGE.out) (fun q hq=>(HFL.out q (HOF.out q hq)).1)
    have hfu:Fr w (.slice ua s1.ls.length uc):=fun b o n c e hn'=>by
     have h1:=HF.out b o n c e hn';have h2:=HBW.out.size;simp only [World.size_alloc] at h1;omega
    have hoffu:OffF F (.slice ua s1.ls.length uc):=fun b o n c e hn' hm=>by
     have h1:=HF.out b o n c e hn';have h2:=(HFL.out b hm).2;simp only [World.size_alloc] at h1;omega
    have hcl:yay (l.take k) us++[iV s1.n,iV s1.fr,iV s1.til,iV s1.du,.slice ua s1.ls.length uc,iV s1.tot,iV s1.cr,iV s1.mn,.bool s1.g]=yay (l.take (k+1)) (us++[.slice ua s1.ls.length uc]):= by
     rw [yi2 HKN.out,HX1.out,yds HRD6.out.now.length];simp [yay,ycb]
    have hrd:Rd F W6 (fun W=>LnsS W (l.take (k+1)) (us++[.slice ua s1.ls.length uc])):=((HRD6.out).and (HU6.out.rd hoffu)).imp fun W q=>by
     rw [yi2 HKN.out,HX1.out];exact q.1.append ⟨q.2,trivial⟩
    have hrd2:Rd (v9.ownBlock.toList++F) w9 (fun W=>LnsS W (l.take (k+1)) (us++[.slice ua s1.ls.length uc])):=hrd.step hk9 (fun x hx=>.inl hx) (fun x hx=>by
     rcases List.mem_append.1 hx with hx | hx
     ·have hx':=Option.mem_toList.1 hx
      rcases HR9.out with e | e
      ·exact .inl (HOF.out x (e▸hx'))
      ·rw [e] at hx'
       cases hx';exact .inr (by rw [World.size_alloc];exact Nat.le_succ _)
     ·exact .inl hx)
    refine ⟨k+1,us++[Value.slice ua s1.ls.length uc],v9.ownBlock.toList++F,by have:=HKG.out;omega,by go_num,?_,fun q hq=>List.mem_append.2 (.inl (Option.mem_toList.2 hq)),fun x hx=>?_,hrd2,fun v hv=>?_,hb9⟩
    ·have h1:=HO9.out
     rw [hcl] at h1;exact h1
    ·rcases List.mem_append.1 hx with hx | hx
     ·have:=HO9.out.lt x (Option.mem_toList.1 hx)
      exact ⟨this.1,this.2⟩
     ·have h1:=HFL.out x hx
      have h2:=HB6.out.size;have h3:=hk9.size;exact ⟨h1.1,by omega⟩
    ·rcases List.mem_append.1 hv with hv | hv
     ·exact HFR.out v hv
     ·rw [ms] at hv
      subst hv;exact hfu
theorem yw0 (x:Int) (w:World):Calls Tryz.prog 226 #[iV x] w (Ret (.bool (ybx x)) w):= by
 by_cases h1:x<0
 ·exact zq22f3e5
 ·by_cases h2:1000000000000000<x
  ·exact zq22f3e5
  ·have e:ybx x=false:=by simp [ybx,may0];omega
   rw [e]
   go_enter Tryz.func226,Tryz.ntmps226
   go_wp2_with fail
   go_ret
   exact Ret.mk _ _
theorem ja0:∀args w,(callFunc 226 args).run Tryz.prog w=.ok (.enter 226 args) w:=yz2 Tryz.func226 kr kr
theorem ylr (v:Value) (xs:List Int) (r0:Bool) (hr0:Hid (xs.any ybx=!r0)) (w:World) (hv:Sl .i64 w v xs) :
 Calls Tryz.prog 196 #[v] w (Ret (.bool r0) w):= by
 cases r0
 all_goals
  have HV:=lh hv;obtain ⟨ao,cap,rfl,_⟩:=hv
  go_enter Tryz.func196,Tryz.ntmps196
  go_wp2_with fail
  refine (yey _ ybx ja0 yw0 _ xs _ hr0 _ HV.out).mono ?_;rintro _ w1 ⟨rfl,rfl⟩
  go_wp2_with fail
  go_ret
  exact Ret.mk _ _
def yi3 (a b:St):Bool:=a.n == b.n && (a.fr == b.fr && a.til == b.til) && a.ls.length == b.ls.length
def ynn (s:St) (lv:Value):Value:=.agg #[iV s.n,iV s.fr,iV s.til,iV s.du,lv,iV s.tot,iV s.cr,iV s.mn,.bool s.g]
theorem yv5 (a b:St) (av bv:Value) (r:Bool) (hr:Hid (yi3 a b=r)) (w:World) (ha:LnS w av a.ls) (hb:LnS w bv b.ls) :
 Calls Tryz.prog 159 #[ynn a av,ynn b bv] w (RetB (.bool r) w):= by
 obtain ⟨ao,ac,rfl,_⟩:=ha;obtain ⟨bo,bc,rfl,_⟩:=hb;obtain ⟨n,fr,til,du,ls,tot,cr,mn,g⟩:=a;obtain ⟨n',fr',til',du',ls',tot',cr',mn',g'⟩:=b;unfold ynn yi3 at *;simp only at *;have h:=hr.out;clear hr
 by_cases h1:n=n'
 ·subst h1
  by_cases h2:fr=fr'/\til=til'
  ·obtain ⟨rfl,rfl⟩:=h2
   by_cases h3:ls.length=ls'.length
   ·obtain rfl:true=r:=by rw [<-h];simp [h3]
    rw [h3];clear h h3
    go_enter Tryz.func159,Tryz.ntmps159
    go_wp2_with fail
    go_ret
    exact ⟨rfl,bL⟩
   ·obtain rfl:false=r:=by rw [<-h];simp [h3]
    have h4:((ls.length:Int) == (ls'.length:Int))=false:=by simp;omega
    clear h h3
    go_enter Tryz.func159,Tryz.ntmps159
    go_wp2_with fail
    go_ret
    exact ⟨rfl,bL⟩
  ·obtain rfl:false=r:= by
    rw [<-h]
    by_cases h3:fr=fr'
    ·have:¬til=til':=fun e=>h2 ⟨h3,e⟩
     simp [this]
    ·simp [h3]
   have h4:fr≠fr'\/(fr=fr'/\til≠til'):=by omega
   clear h h2;rcases h4 with h4 | ⟨rfl,h4⟩
   all_goals
    go_enter Tryz.func159,Tryz.ntmps159
    go_wp2_with fail
    go_ret
    exact ⟨rfl,bL⟩
 ·obtain rfl:false=r:=by rw [<-h];simp [h1]
  clear h
  go_enter Tryz.func159,Tryz.ntmps159
  go_wp2_with fail
  go_ret
  exact ⟨rfl,bL⟩
def yzv (a b:Bool):Int:=if b && !a then 1 else if a && !b then -1 else 0
theorem ysk (a b:Bool) (w:World):Calls Tryz.prog 197 #[.bool a,.bool b] w (Ret (iV (yzv a b)) w):= by
 cases a <;> cases b
 all_goals
  go_enter Tryz.func197,Tryz.ntmps197
  go_wp2_with fail
  go_ret
  exact Ret.mk _ _
def yjw (x:Int×Int×Int):Bool:=may0 x.1 && may0 x.2.1
def ydq (s:St):Bool:=s.ls.all yjw && (may0 s.tot && may0 s.cr && may0 s.mn)
theorem LnS.get {w:World} {ao:Option Addr} {n cap:Nat} {ls:List (Int×Int×Int)} (h:LnS w (.slice ao n cap) ls) {i:Nat} (hi:i<ls.length) :
 ∃b o x y z,ao=some (Ad b o)/\(w.cell? (Ad b (o+i*3))=some (iV x)/\w.cell? (Ad b (o+i*3+1))=some (iV y)/\w.cell? (Ad b (o+i*3+2))=some (iV z))/\Hid (ls.getD i (0,0,0)=(x,y,z)):= by
 obtain ⟨ao',cap',e,h1,h2,h3⟩:=h;cases e;obtain ⟨b,o,rfl,hc⟩:=h3 (by intro e;subst e;simp at hi);exact ⟨b,o,_,_,_,rfl,hc i hi,rfl⟩
theorem may2 (x y:Int):[x,y].any ybx=!(may0 x && may0 y):=by simp [ybx]
theorem may3 (x y z:Int):[x,y,z].any ybx=!(may0 x && may0 y && may0 z):=by simp [ybx];cases may0 x <;> cases may0 y <;> cases may0 z <;> rfl
theorem yku (s:St) (lv:Value) (r:Bool) (hr:Hid (ydq s=r)) (w:World) (hl:LnS w lv s.ls) :
 Calls Tryz.prog 160 #[ynn s lv] w (RetB (.bool r) w):= by
 obtain ⟨n,fr,til,du,ls,tot,cr,mn,g⟩:=s;unfold ynn ydq at *;simp only at *;have HL:=lh hl;obtain ⟨ao,cap,rfl,g1,⟨g2,_⟩,_⟩:=hl;unfold maxLen at g2
 go_enter Tryz.func160,Tryz.ntmps160
 go_wp2_with fail
 have HBX:Hid (Blk (w.alloc (.cells #[iV n,iV fr,iV til,iV du,.slice ao ls.length cap,iV tot,iV cr,iV mn,.bool g] 43)) w.heap.size 43 [iV n,iV fr,iV til,iV du,.slice ao ls.length cap,iV tot,iV cr,iV mn,.bool g]):=yae w _ _ _ rfl;go_loopg [8] ls.length (fun gg i wr=>∃k:Nat,k+gg=ls.length/\i=iV k/\Hid (∀j,j<k->yjw (ls.getD j (0,0,0))=true)/\Hid (Blk wr w.heap.size 43 [iV n,iV fr,iV til,iV du,.slice ao ls.length cap,iV tot,iV cr,iV mn,.bool g])/\BW w wr)
 case atStart=>exact ⟨0,by omega,rfl,fun j hj=>absurd hj om,HBX.out,yaa bR _⟩
 case round =>
  obtain ⟨k,hkg,rfl,HN,HB,hbw⟩:=hrel;clear HBX;cases gk with
  | succ gg =>
   have hlt:(k:Int)<(ls.length:Int):=by omega
   have hkn:k<ls.length:=by omega
   obtain ⟨b,o,x,y,z,rfl,⟨c0,c1,c2⟩,HX⟩:=(HL.out.below hbw).get hkn;have HBW:=lh hbw;have hsz:=HB.out.lt;clear hbw
   go_wp2_with fail
   obtain ⟨q,hq⟩:∃q,(may0 x && may0 y)=q:=⟨_,rfl⟩;refine (ylr _ [x,y] q (by show _=_;rw [may2,hq]) _ ?hs).mono ?_
   case hs=>exact Sl.litAt _ _ [x,y] 2 _ rfl _ rfl (by simp [maxLen]) (by simp)
   rintro _ w2 ⟨rfl,rfl⟩;have HQ:=lh hq;clear hq;cases q with
   | true =>
    go_wp2_with fail
    go_roundg gg
    case measure=>omega
    case rel=>exact ⟨k+1,by omega,by go_num,fun j hj=>by
     rcases Nat.lt_succ_iff_lt_or_eq.1 hj with h' | rfl
     ·exact HN.out j h'
     ·rw [HX.out];exact HQ.out,HB.out.below (yaa (yaa bR _) _),yaa (yaa HBW.out _) _⟩
   | false =>
    have hf:false=r:= by
     rw [<-hr.out]
     have:ls.all yjw=false:= by
      rw [List.all_eq_false];refine ⟨(x,y,z),?_,by simp [yjw,HQ.out]⟩;rw [<-HX.out];simp [List.getD,hkn]
     rw [this]
     rfl
    subst hf
    go_wp2_with fail
    go_ret
    exact ⟨rfl,yaa (yaa HBW.out _) _⟩
  | zero =>
   have hlt:¬((k:Int)<(ls.length:Int)):=by omega
   obtain ⟨b4,b5,b6,-⟩:=HB.out.cs [5,6,7];simp only [gz,gs] at b4 b5 b6;have HBW:=lh hbw
   have hall:ls.all yjw=true:= by
    rw [List.all_eq_true];intro x hx;obtain ⟨j,hj,rfl⟩:=List.getElem_of_mem hx;have:=HN.out j om
    simpa [List.getD,hj] using this
   have HALL:=lh hall;clear hbw hall
   go_wp2_with fail
   refine (ylr _ [tot,cr,mn] r (by show _=_;rw [may3,<-hr.out,HALL.out];simp [Bool.and_assoc]) _ (Sl.litAt _ _ [tot,cr,mn] 3 _ rfl _ rfl (by simp [maxLen]) (by simp))).mono ?_;rintro _ w2 ⟨rfl,rfl⟩
   go_wp2_with fail
   go_ret
   exact ⟨rfl,yaa HBW.out _⟩
theorem ywn (u v:Value) (a b:List St) (r:Bool) (hl:a.length=b.length) (hr:Hid ((∀i,i<a.length->yi3 (a.getD i St0) (b.getD i St0)=true)↔r=true)) (w:World) (ha:StS w u a) (hb:StS w v b) :
 Calls Tryz.prog 158 #[u,v,.func (.func 159) #[] #[]] w (RetB (.bool r) w):= by
 have HA:=lh ha;have HB:=lh hb;obtain ⟨ao,ac,rfl⟩:=ha.shape;obtain ⟨bo,bc,rfl⟩:=hb.shape;have hlen:=ha.choose_spec.2.len.2;unfold maxLen at hlen;obtain ⟨hlc,hcm,_⟩:=hlen;clear ha hb;have hne:((a.length:Int) != (b.length:Int))=false:=by simp;omega
 go_enter Tryz.func158,Tryz.ntmps158
 have HLL:=lh hl;clear hl
 go_wp2_with fail
 clear hne;go_loopg [17] a.length (fun gg i wr=>∃k:Nat,k+gg=a.length/\i=iV k/\Hid (∀j,j<k->yi3 (a.getD j St0) (b.getD j St0)=true)/\BW w wr)
 case atStart=>exact ⟨0,by omega,rfl,fun j hj=>absurd hj om,bR⟩
 case round =>
  obtain ⟨k,hkg,rfl,HN,hbw⟩:=hrel;cases gk with
  | succ gg =>
   have hlt:(k:Int)<(a.length:Int):=by omega
   have hlt2:(k:Int)<(b.length:Int):=by have:=HLL.out;omega
   obtain ⟨b1,o1,s1,lv1,rfl,⟨c0,c1,c2,c3,c4,c5,c6,c7,c8⟩,HL1,HX1⟩:=(HA.out.below hbw).get (i:=k) om;obtain ⟨b2,o2,s2,lv2,rfl,⟨d0,d1,d2,d3,d4,d5,d6,d7,d8⟩,HL2,HX2⟩:=(HB.out.below hbw).get (i:=k) (by have:=HLL.out;omega);have kb2:=yac d0;have K1:=lh HL1;have K2:=lh HL2;have HBW:=lh hbw;obtain ⟨a1,q1,rfl,_⟩:=HL1;obtain ⟨a2,q2,rfl,_⟩:=HL2;clear hbw
   go_wp2_with fail
   obtain ⟨q,hq⟩:∃q,yi3 s1 s2=q:=⟨_,rfl⟩;have HQ:=lh hq;clear hq;refine (yv5 s1 s2 _ _ q HQ _ (K1.out.below (yaa (yaa bR _) _)) (K2.out.below (yaa (yaa bR _) _))).mono ?_;rintro _ w2 ⟨rfl,hb2⟩;have HB2:Hid (BW w w2):=yad (yaa (yaa HBW.out _) _) hb2;clear hb2;cases q with
   | true =>
    go_wp2_with fail
    go_roundg gg
    case measure=>omega
    case rel=>exact ⟨k+1,by omega,by go_num,fun j hj=>by
     rcases Nat.lt_succ_iff_lt_or_eq.1 hj with h' | rfl
     ·exact HN.out j h'
     ·rw [HX1.out,HX2.out];exact HQ.out,HB2.out⟩
   | false =>
    have hf:false=r:= by
     cases r with
     | false=>rfl
     | true =>
      have:=hr.out.2 rfl k om;rw [HX1.out,HX2.out,HQ.out] at this;exact this
    subst hf
    go_wp2_with fail
    go_ret
    exact ⟨rfl,HB2.out⟩
  | zero =>
   have hlt:¬((k:Int)<(a.length:Int)):=by omega
   obtain rfl:r=true:=hr.out.1 fun i hi=>HN.out i om
   go_wp2_with fail
   go_ret
   exact ⟨rfl,hbw⟩
def yd6 (b:Bk) (tr am:Int):Int :=
 if tr<1\/8<tr then 7 else if am<1\/1000000000000000<am then 8 else if wrap64 (1000000000000000-b.held)<am then 5 else if 2000<=b.ds.length then 14 else 0
def yfp (b:Bk) (tr day am:Int):Bk :=
 if yd6 b tr am=0 then ⟨b.ds++[⟨(b.ds.length:Int)+1,tr,day,am,1⟩],wrap64 (b.held+am)⟩ else b
def yh6 (b:Bk) (tr am:Int):Int:=if yd6 b tr am=0 then (b.ds.length:Int)+1 else 0
theorem yvj (w:World) (a b c d e:Value) (t:TypeId):∀j u,[a,b,c,d,e][j]?=some u->(w.alloc (.cells #[a,b,c,d,e] t)).cell? (((Ad w.heap.size 0):Addr).add j)=some u:= by
 intro j u hu;have h:Blk (w.alloc (.cells #[a,b,c,d,e] t)) w.heap.size t [a,b,c,d,e]:=heap_alloc_new w _;rw [Addr.add_lit,h.cell,Nat.zero_add];exact hu
theorem ywc:(Tryz.prog.info? 155).map (fun i=>(i.zero,i.size,i.bytes))=some (some (.agg #[iZ,iZ,iZ,iZ,iZ]),5,40):=by kernel_rfl
structure DStp (base:Nat) (L:List Nat) (w w':World):Prop where
 below:Below base w w'
 keep:yab L w w'
theorem DStp.refl (base:Nat) (L:List Nat) (w:World):DStp base L w w:=⟨bR,yab.refl _ _⟩
theorem DStp.setCell {base g i:Nat} {L:List Nat} {w w':World} (h:DStp base L w w') (hb:base<=g) (hg:g∈L\/w.heap.size<=g) (u:Value):DStp base L w (w'.setCell (Ad g i) u):=⟨h.below.setCell hb _,h.keep.setCell hg _⟩
theorem DStp.alloc {base:Nat} {L:List Nat} {w w':World} (h:DStp base L w w') (hb:base<=w'.heap.size) (o:Obj):DStp base L w (w'.alloc o):=⟨h.below.alloc hb _,h.keep.alloc _⟩
theorem DStp.drew {base:Nat} {L:List Nat} {w w':World} (h:DStp base L w w'):DStp base L w w'.drew:=⟨h.below.drew,h.keep.drew⟩
theorem yon (base g:Nat) (dv:Value) (b:Bk) (tr day am:Int) (w:World) (hv:ya6 w base g dv b) (hb:base<=w.heap.size) (L:List Nat) (hL:Hid (g∈L/\∀q,dv.ownBlock=some q->q∈L)) :
 Calls Tryz.prog 113 #[pV g,iV tr,iV day,iV am] w (fun e w'=>∃dv',e=.returned (.tuple #[iV (yh6 b tr am),iV (yd6 b tr am)])/\ya6 w' base g dv' (yfp b tr day am)/\DStp base L w w'):= by
 obtain ⟨x,hx⟩:∃x,yd6 b tr am=x:=⟨_,rfl⟩;obtain ⟨r,hr⟩:∃r,yh6 b tr am=r:=⟨_,rfl⟩;obtain ⟨B',hB'⟩:∃B',yfp b tr day am=B':=⟨_,rfl⟩;rw [hx,hr,hB']
 have HR:Hid (x≠0->r=0/\B'=b):=fun h=>by
  unfold yh6 at hr;unfold yfp at hB';rw [hx,if_neg h] at hr hB';exact ⟨hr.symm,hB'.symm⟩
 have HY:Hid (x=0->r=(b.ds.length:Int)+1/\B'=⟨b.ds++[⟨(b.ds.length:Int)+1,tr,day,am,1⟩],wrap64 (b.held+am)⟩):=fun h=>by
  unfold yh6 at hr;unfold yfp at hB';rw [hx,if_pos h] at hr hB';exact ⟨hr.symm,hB'.symm⟩
 have HX:=lh hx;clear hx hr hB';have HV:=lh hv;obtain ⟨ds,held⟩:=b;obtain ⟨hg,hB,hD⟩:=hv;simp only at hg hB hD;have HB:=lh hB;have HO:=lh hD;have HG:=lh hg;have HE:=lh (R5S.of_own hD rfl);obtain ⟨eo,ec,rfl⟩:=(R5S.of_own hD rfl).shape;obtain ⟨c0,c1,-⟩:=HB.out.cs [0,1];obtain ⟨f0,f1,-⟩:=HB.out.fs [0,1];simp only [gz,gs] at c0 c1;have HBS:=lh hb;have hlen:=Fl.len HE.out;have HLN:=lh hlen;clear hB hD hb hlen hg
 go_enter Tryz.func113,Tryz.ntmps113
 go_wp2
 refine yai 0 (fun a' w'=>∃(u0 u1 u2 u3 u4 u5 u6 u7 u8 u9 u12 u13 u14 u15 u16 u17 u18 u19 u20 u21 u22 u23 u24 u25 u26 u27 u28 u29 u30 u31 u32 u33 u34 u35 u36 u37 u38 u39 u40 u41 u42 u43 u44 u45 u46 u47 u48 u49 u50 u51 u52 u53 u54 u55 u56 u57 u58 u59 u60 u61 u62 u63 u64 u65 u66 u67 u68:Value),a'={ tmps:=#[u0,u1,u2,u3,u4,u5,u6,u7,u8,u9,iV x,iV r,u12,u13,u14,u15,u16,u17,u18,u19,u20,u21,u22,u23,u24,u25,u26,u27,u28,u29,u30,u31,u32,u33,u34,u35,u36,u37,u38,u39,u40,u41,u42,u43,u44,u45,u46,u47,u48,u49,u50,u51,u52,u53,u54,u55,u56,u57,u58,u59,u60,u61,u62,u63,u64,u65,u66,u67,u68],defers:=[] }/\Hid (∃dv',ya6 w' base g dv' B')/\DStp base L w w')
  (fun _ _=>0) rfl ?pass ?first
 case pass =>
  intro a1 w1 hJ J' hJ';clear hJ'
  iterate 67 obtain ⟨_,hJ⟩:=hJ
  obtain ⟨rfl,hqb,hb⟩:=hJ;go_wp2
  simp only [Exit.jump]
  go_ret2
  obtain ⟨dv',h⟩:=hqb.out;exact ⟨dv',rfl,h,hb⟩
 case first =>
  intro J' hJJ hrest;have HJ:=lh hJJ;have HREST:=lh hrest;clear hJJ hrest
  by_cases h1:tr<1\/8<tr
  ·obtain rfl:7=x:=by have:=HX.out;unfold yd6 at this;rw [if_pos h1] at this;exact this
   obtain ⟨rfl,rfl⟩:=HR.out (by decide);rcases h1 with h1 | h1
   all_goals
    go_wp2_with fail
    go_step3
    exact ⟨rfl,HJ.out _ _ (x10 (x10 (x10 (x10 (x10 (x10 ⟨_,_,_,_,_,_,_,rfl,⟨_,HV.out⟩,DStp.refl _ _ _⟩))))))⟩
  ·have h1a:¬tr<1:=by omega
   have h1b:¬8<tr:=by omega
   by_cases h2:am<1\/1000000000000000<am
   ·obtain rfl:8=x:=by have:=HX.out;unfold yd6 at this;rw [if_neg h1,if_pos h2] at this;exact this
    obtain ⟨rfl,rfl⟩:=HR.out (by decide);clear h1;rcases h2 with h2 | h2
    all_goals
     go_wp2_with fail
     go_step3
     exact ⟨rfl,HJ.out _ _ (x10 (x10 (x10 (x10 (x10 (x10 ⟨_,_,_,_,_,_,_,rfl,⟨_,HV.out⟩,DStp.refl _ _ _⟩))))))⟩
   ·have h2a:¬am<1:=by omega
    have h2b:¬1000000000000000<am:=by omega
    by_cases h3:wrap64 (1000000000000000-held)<am
    ·obtain rfl:5=x:=by have:=HX.out;unfold yd6 at this;rw [if_neg h1,if_neg h2,if_pos h3] at this;exact this
     obtain ⟨rfl,rfl⟩:=HR.out (by decide);clear h1 h2;exact zq22be45
    ·by_cases h4:2000<=ds.length
     ·obtain rfl:14=x:=by have:=HX.out;unfold yd6 at this;rw [if_neg h1,if_neg h2,if_neg h3,if_pos h4] at this;exact this
      obtain ⟨rfl,rfl⟩:=HR.out (by decide);clear h1 h2;have h4':(2000:Int)<=(ds.length:Int):=by omega
      exact zq22be45
     ·obtain rfl:0=x:=by have:=HX.out;unfold yd6 at this;rw [if_neg h1,if_neg h2,if_neg h3,if_neg h4] at this;exact this
      obtain ⟨rfl,rfl⟩:=HY.out rfl;clear h1 h2;have h4':¬(2000:Int)<=(ds.length:Int):=by omega
      obtain ⟨n,hn⟩:∃n,ds.length=n:=⟨_,rfl⟩;rw [hn] at hL HV HB HO HE c0 HLN h4 h4' HR HJ HREST;have HN:=lh hn;clear hn;obtain ⟨i0,hi,hz0,hz1,hz2⟩:=info_parts ywc;have e1:wrap64 ((n:Int)+1)=(n:Int)+1:=IntWalk.wrap64_in _ ⟨by omega,by omega⟩
      go_wp2_with fail
      go_quiet (fail)
      try simp only [e1]
      clear e1;have NG:=lh (yaj HO.out HB.out (by decide));go_upto_region 14 with (at_builtin;refine yas _ rfl (.tmp 49) (.tmp 55) 36 rfl base 155 i0 (.agg #[iZ,iZ,iZ,iZ,iZ]) 5 40 Tryz.underlying36 hi hz0 hz1 hz2 rfl (by decide) _ n (yag ds) rfl (yah HO.out (yaa (yfn bR nq) _)) (Ad w.heap.size 0) 1 1 [iV ((n:Int)+1),iV tr,iV day,iV am,iV 1] rfl rfl (yvj (w.drewN nq) _ _ _ _ _ _) (fun x hx=>by simp at hx;rcases hx with rfl | rfl | rfl | rfl | rfl <;> rfl) (by unfold maxLen;omega) om (Nat.le_trans HBS.out (yaa (yfn (Below.refl _ w) nq) _).size) ?_;intro v2 w2 hown2 hg2 hw2;clear hw2;obtain ⟨g2,c2,rfl⟩:=ya5 hown2 om;have HO3:=lh hown2;have HG2:=lh hg2;have e2:w2.cell? (Ad g 0)=some (.slice eo n ec):=(yaq (HB.out.below (yaa (yfn bR nq) _)) hg2 NG.out).cell 0;have f2:=(yaq (HB.out.below (yaa (yfn bR nq) _)) hg2 NG.out).frozen 0;clear hown2 hg2)
      have HB2:=lh (yaq (HB.out.below (yaa (yfn bR nq) _)) HG2.out NG.out);have B2:Hid (DStp base L w w2):=⟨Below.grown (((Below.refl base w).trans (below_drewN bR nq)).alloc HBS.out _) HG2.out (Nat.le_trans HBS.out (yaa (yfn (Below.refl _ w) nq) _).size) (fun q hq=>(HO.out.lt q hq).1),((((yab.refl _ _).below (below_drewN bR nq)).alloc _).grown HG2.out (fun q hq=>.inl (hL.out.2 q hq)))⟩
      obtain ⟨W3,hW3,CB,CO,CBL⟩:∃W3,w2.setCell (Ad g 0) (sL g2 0 (n+1) c2)=W3/\Hid (Blk W3 g 127 [sL g2 0 (n+1) c2,iV held])/\Hid (W3.ownsRow base 155 5 (sL g2 0 (n+1) c2) (n+1) (yag (ds++[⟨(n:Int)+1,tr,day,am,1⟩])))/\Hid (DStp base L w W3) :=
       ⟨_,rfl,HB2.out.set 0 _,by
        rw [ybr];exact yaz HO3.out (yaj HO3.out HB2.out (by decide)) _,B2.out.setCell HG.out (.inl hL.out.1) _⟩
      with_reducible rw [hW3]
      clear hW3 HG2 HO3 e2 f2 HB2 B2 c0 c1 f0 f1;have c1:=CB.out.cell 1;have f1:=CB.out.frozen 1;simp only [gz,gs] at c1
      go_wp2_with fail
      go_step3
      go_step
      go_step
      refine HREST.out _ _ (x10 (x10 (x10 (x10 (x10 (x10 ⟨_,_,_,_,_,_,_,rfl,⟨_,HG.out,CB.out.set 1 _,?_⟩,CBL.out.setCell HG.out (.inl hL.out.1) _⟩))))));have e1:(ds++[(⟨(n:Int)+1,tr,day,am,1⟩:R5)]).length=n+1:=by rw [List.length_append,HN.out];rfl
      simp only;rw [e1];exact yaz CO.out (yaj CO.out CB.out (by decide)) _
def R5.withE (x:R5) (v:Int):R5:=⟨x.a,x.b,x.c,x.d,v⟩
theorem ypn (l:List R5) (i:Nat) (v:Int) (hi:i<l.length):(yag l).set (i*5+4) (iV v)=yag (l.set i ((l.getD i yax).withE v)):= by
 induction l generalizing i with
 | nil=>simp at hi
 | cons x l ih =>
  have e:∀(y:R5) (m:List R5),yag (y::m)=iV y.a::iV y.b::iV y.c::iV y.d::iV y.e::yag m:=fun _ _=>rfl;cases i with
  | zero=>rfl
  | succ i =>
   have h:=ih i (by simpa using hi);obtain ⟨k,hk⟩:∃k,i*5+4=k:=⟨_,rfl⟩;have e1:(i+1)*5+4=k+1+1+1+1+1:=by omega
   rw [hk] at h;rw [e1,e];simp only [List.set_cons_succ,List.getD_cons_succ];rw [h,e]
theorem ymj {w:World} {base q n cap:Nat} {e:TypeId} {l:List R5} (h:w.ownsRow base e 5 (sL q 0 n cap) n (yag l)) (hn:l.length=n) {i:Nat} (hi:i<l.length) (v:Int) :
 (w.setCell (Ad q (i*5+4)) (iV v)).ownsRow base e 5 (sL q 0 n cap) n (yag (l.set i ((l.getD i yax).withE v))):= by
 refine ⟨by rw [ybf,List.length_set,hn],?_⟩;rcases h.2 with ⟨h1,_⟩ | ⟨g,cap',cur,hv,hb,hg,hnc,hcm,hcs,htake⟩
 ·cases h1
 ·cases hv
  have hB:Blk w q e cur.toList:=by simpa [Blk] using hg
  have hS:=hB.set (i*5+4) (iV v);refine .inr ⟨q,cap,(cur.toList.set (i*5+4) (iV v)).toArray,rfl,hb,hS,hnc,hcm,by simpa using hcs,?_⟩;rw [<-ypn l i v hi,<-htake,List.take_set]
theorem yvi {w:World} {base q n cap:Nat} {e:TypeId} {l:List R5} (h:w.ownsRow base e 5 (sL q 0 n cap) n (yag l)) (hn:l.length=n) {i:Nat} (hi:i<l.length) (u v:Int) :
 ((w.setCell (Ad q (i*5+4)) (iV u)).setCell (Ad q (i*5+4)) (iV v)).ownsRow base e 5 (sL q 0 n cap) n (yag (l.set i ((l.getD i yax).withE v))):= by
 have h2:=ymj (ymj h hn hi u) (by rw [List.length_set];exact hn) (i:=i) (by rw [List.length_set];exact hi) v;have e1:(l.set i ((l.getD i yax).withE u)).getD i yax=(l.getD i yax).withE u:=by simp [List.getD,hi]
 rw [e1,List.set_set] at h2;exact h2
def ydw (b:Bk) (ref:Int):Int :=
 if ref<1\/(b.ds.length:Int)<ref then 12 else if (b.ds.getD (ref-1).toNat yax).e≠1 then 13 else 0
def yi4 (b:Bk) (ref:Int) (lost:Bool):R5:=(b.ds.getD (ref-1).toNat yax).withE (if lost then 2 else 3)
def ykw (b:Bk) (ref:Int) (lost:Bool):Bk :=
 if ydw b ref=0 then ⟨b.ds.set (ref-1).toNat (yi4 b ref lost),wrap64 (b.held-(yi4 b ref lost).d)⟩ else b
def endD (b:Bk) (ref:Int) (lost:Bool):R5:=if ydw b ref=0 then yi4 b ref lost else yax
theorem yq2 (base g:Nat) (dv:Value) (b:Bk) (ref:Int) (lost:Bool) (w:World) (hv:ya6 w base g dv b) (hn:b.ds.length<=100000) (hb:base<=w.heap.size) (D:R5) (hD:Hid (endD b ref lost=D)) (x:Int) (hx:Hid (ydw b ref=x)) (B':Bk) (hB':Hid (ykw b ref lost=B')) (L:List Nat) (hL:Hid (g∈L/\∀q,dv.ownBlock=some q->q∈L)) :
 Calls Tryz.prog 114 #[pV g,iV ref,.bool lost] w (fun e w'=>∃dv',e=.returned (.tuple #[.agg #[iV D.a,iV D.b,iV D.c,iV D.d,iV D.e],iV x])/\ya6 w' base g dv' B'/\DStp base L w w'):= by
 have HV:=lh hv;obtain ⟨ds,held⟩:=b;obtain ⟨hg,hB,hO⟩:=hv;simp only at hg hB hO hn;have HB:=lh hB;have HO:=lh hO;have HG:=lh hg;have HE:=lh (R5S.of_own hO rfl);obtain ⟨eo,ec,rfl⟩:=(R5S.of_own hO rfl).shape;obtain ⟨c0,c1,-⟩:=HB.out.cs [0,1];have f1:=HB.out.frozen 1;have kg:=HB.out.lt;simp only [gz,gs] at c0 c1;have HBS:=lh hb;clear hB hO hb hg
 go_enter Tryz.func114,Tryz.ntmps114
 by_cases h1:ref<1\/(ds.length:Int)<ref
 ·have e1:ydw ⟨ds,held⟩ ref=12:=by unfold ydw;rw [if_pos h1]
  obtain rfl:12=x:=by rw [<-hx.out,e1]
  obtain rfl:⟨ds,held⟩=B':=by rw [<-hB'.out];unfold ykw;rw [e1];rfl
  obtain rfl:yax=D:=by rw [<-hD.out];unfold endD;rw [e1];rfl
  clear hx hB' hD;rcases h1 with h1 | h1
  all_goals
   go_wp2_with fail
   refine bodyPost_ret (v:=.tuple #[.agg #[iZ,iZ,iZ,iZ,iZ],iV 12]) (by simp [results,Tryz.results114,go_sem]) rfl ⟨_,rfl,HV.out.below ?_,(DStp.refl base L w).alloc HBS.out _⟩;exact bL
 ·obtain ⟨k,rfl⟩:∃k:Nat,ref=(k:Int)+1:=⟨(ref-1).toNat,by omega⟩
  have hk:k<ds.length:=by omega
  have h1a:¬(k:Int)+1<1:=by omega
  have h1b:¬(ds.length:Int)<(k:Int)+1:=by omega
  have e0:((k:Int)+1-1).toNat=k:=by omega
  have w1:wrap64 ((k:Int)+1-1)=(k:Int):=by rw [show (k:Int)+1-1=(k:Int) by omega];exact IntWalk.wrap64_in _ ⟨by omega,by omega⟩
  obtain ⟨q,cap,he⟩:=ya5 HO.out om;cases he;obtain ⟨b1,o1,X,he,⟨x0,x1,x2,x3,x4⟩,HXX⟩:=HE.out.get hk;cases he;simp only [Nat.zero_add] at x0 x1 x2 x3 x4;have kq:=yac x0;have HK:=lh hk;obtain ⟨cur,hC,_⟩:=ya8 HO.out;have fz:=hC.frozen (k*5+4);have HNE:Hid (g≠q):=fun e=>yaj HO.out HB.out (by decide) (by rw [e];rfl);clear hC
  by_cases h2:X.e=1
  ·have e1:ydw ⟨ds,held⟩ ((k:Int)+1)=0:=by unfold ydw;rw [if_neg h1,e0];simp only;rw [HXX.out,if_neg om]
   obtain rfl:0=x:=by rw [<-hx.out,e1]
   clear h1;cases lost with
   | false =>
    go_upto_region 11 with fail
    obtain ⟨W,hW,A0,A1,A2,A3⟩:∃W,(w.setCell (Ad q (k*5+4)) (iV 3)).alloc (.cells #[iZ,iZ,iZ,iZ,iZ] 155)=W/\Hid (Blk W g 127 [sL q 0 ds.length ec,iV held])/\Hid (Blk W w.heap.size 155 [iZ,iZ,iZ,iZ,iZ])/\Hid (W.ownsRow base 155 5 (sL q 0 ds.length ec) ds.length (yag (ds.set k ((ds.getD k yax).withE 3))))/\Hid (DStp base L w W) :=
     ⟨_,rfl,(HB.out.setOther HNE.out _ _).below (yaa bR _),ybc _ _ _ _ (World.size_setCell _ _ _),yah (ymj HO.out rfl hk 3) (yaa bR _),((DStp.refl base L w).setCell (ya1 HO.out _ _ _ _ rfl) (.inl (hL.out.2 _ rfl)) _).alloc (by rw [World.size_setCell];exact HBS.out) _⟩
    with_reducible rw [hW]
    have HXW:Hid (W.cell? (Ad q (k*5))=some (iV X.a)/\W.cell? (Ad q (k*5+1))=some (iV X.b)/\W.cell? (Ad q (k*5+2))=some (iV X.c)/\W.cell? (Ad q (k*5+3))=some (iV X.d)/\W.cell? (Ad q (k*5+4))=some (iV 3)):= by
     obtain ⟨b2,o2,Y,he2,⟨y0,y1,y2,y3,y4⟩,hY⟩:=(R5S.of_own A2.out (by simp)).get (i:=k) (by simpa using HK.out);cases he2
     have:Y=X.withE 3:= by
      rw [<-hY.out,HXX.out];simp [List.getD,HK.out]
     subst this;simp only [Nat.zero_add] at y0 y1 y2 y3 y4;exact ⟨y0,y1,y2,y3,y4⟩
    have hx3:=HXW.out.2.2.2.1;clear hW c0 c1 f1 x0 x1 x2 x3 x4 fz;have c1:=A0.out.cell 1;have f1:=A0.out.frozen 1;simp only [gz,gs] at c1
    go_region
    obtain ⟨hx0,hx1,hx2,hx3,hx4⟩:=HXW.out;have r0:=A1.out.cell 0;have z0:=A1.out.frozen 0;have r1:=A1.out.cell 1;have z1:=A1.out.frozen 1;have r2:=A1.out.cell 2;have z2:=A1.out.frozen 2;have r3:=A1.out.cell 3;have z3:=A1.out.frozen 3;have r4:=A1.out.cell 4;have z4:=A1.out.frozen 4;simp only [gz,gs] at r0 r1 r2 r3 r4;have hgq:¬g=q:=HNE.out;have hgw:¬g=w.heap.size:=by omega
    go_wp2_with fail
    have hD1:X.withE 3=D:=by rw [<-hD.out];unfold endD;rw [e1,if_pos rfl];unfold yi4;rw [e0];simp only;rw [HXX.out];rfl
    have hB1:(⟨ds.set k (X.withE 3),wrap64 (held-X.d)⟩:Bk)=B':=by rw [<-hB'.out];unfold ykw;rw [e1,if_pos rfl];unfold yi4;rw [e0];simp only;rw [HXX.out];rfl
    rw [<-hD1,<-hB1];have hgw':¬w.heap.size=g:=by omega
    have hB0:Blk (W.setCell (Ad g 1) (iV (wrap64 (held-X.d)))) g 127 [sL q 0 ds.length ec,iV (wrap64 (held-X.d))]:=A0.out.set 1 _;have HA2:=A2.out;refine bodyPost_ret (v:=.tuple #[.agg #[iV X.a,iV X.b,iV X.c,iV X.d,iV 3],iZ]) (by simp [results,Tryz.results114,go_sem,hgw,hgw',r0,r1,r2,r3,r4]) rfl ⟨rfl,⟨sL q 0 ds.length ec,HG.out,?_,?_⟩,?_⟩
    ·exact zq229095
    ·have hq:some w.heap.size≠(Value.slice (some (Ad q 0)) ds.length ec).ownBlock:=fun e=>by
      have e':=Option.some.inj (show some w.heap.size=some q from e);omega
     have hq2:some g≠(Value.slice (some (Ad q 0)) ds.length ec).ownBlock:=fun e=>hgq (Option.some.inj (show some g=some q from e));rw [HXX.out] at HA2;have el:(ds.set k (X.withE 3)).length=ds.length:=List.length_set;exact zq2206d8
    ·exact zq225e14
   | true =>
    go_upto_region 11 with fail
    obtain ⟨W,hW,A0,A1,A2,A3⟩:∃W,((w.setCell (Ad q (k*5+4)) (iV 3)).setCell (Ad q (k*5+4)) (iV 2)).alloc (.cells #[iZ,iZ,iZ,iZ,iZ] 155)=W/\Hid (Blk W g 127 [sL q 0 ds.length ec,iV held])/\Hid (Blk W w.heap.size 155 [iZ,iZ,iZ,iZ,iZ])/\Hid (W.ownsRow base 155 5 (sL q 0 ds.length ec) ds.length (yag (ds.set k ((ds.getD k yax).withE 2))))/\Hid (DStp base L w W) :=
     ⟨_,rfl,((HB.out.setOther HNE.out _ _).setOther HNE.out _ _).below (yaa bR _),ybc _ _ _ _ (by rw [World.size_setCell,World.size_setCell]),yah (yvi HO.out rfl hk 3 2) (yaa bR _),(((DStp.refl base L w).setCell (ya1 HO.out _ _ _ _ rfl) (.inl (hL.out.2 _ rfl)) _).setCell (ya1 HO.out _ _ _ _ rfl) (.inl (hL.out.2 _ rfl)) _).alloc (by rw [World.size_setCell,World.size_setCell];exact HBS.out) _⟩
    with_reducible rw [hW]
    have HXW:Hid (W.cell? (Ad q (k*5))=some (iV X.a)/\W.cell? (Ad q (k*5+1))=some (iV X.b)/\W.cell? (Ad q (k*5+2))=some (iV X.c)/\W.cell? (Ad q (k*5+3))=some (iV X.d)/\W.cell? (Ad q (k*5+4))=some (iV 2)):= by
     obtain ⟨b2,o2,Y,he2,⟨y0,y1,y2,y3,y4⟩,hY⟩:=(R5S.of_own A2.out (by simp)).get (i:=k) (by simpa using HK.out);cases he2
     have:Y=X.withE 2:= by
      rw [<-hY.out,HXX.out];simp [List.getD,HK.out]
     subst this;simp only [Nat.zero_add] at y0 y1 y2 y3 y4;exact ⟨y0,y1,y2,y3,y4⟩
    have hx3:=HXW.out.2.2.2.1;clear hW c0 c1 f1 x0 x1 x2 x3 x4 fz;have c1:=A0.out.cell 1;have f1:=A0.out.frozen 1;simp only [gz,gs] at c1
    go_region
    obtain ⟨hx0,hx1,hx2,hx3,hx4⟩:=HXW.out;have r0:=A1.out.cell 0;have z0:=A1.out.frozen 0;have r1:=A1.out.cell 1;have z1:=A1.out.frozen 1;have r2:=A1.out.cell 2;have z2:=A1.out.frozen 2;have r3:=A1.out.cell 3;have z3:=A1.out.frozen 3;have r4:=A1.out.cell 4;have z4:=A1.out.frozen 4;simp only [gz,gs] at r0 r1 r2 r3 r4;have hgq:¬g=q:=HNE.out;have hgw:¬g=w.heap.size:=by omega
    go_wp2_with fail
    have hD1:X.withE 2=D:=by rw [<-hD.out];unfold endD;rw [e1,if_pos rfl];unfold yi4;rw [e0];simp only;rw [HXX.out];rfl
    have hB1:(⟨ds.set k (X.withE 2),wrap64 (held-X.d)⟩:Bk)=B':=by rw [<-hB'.out];unfold ykw;rw [e1,if_pos rfl];unfold yi4;rw [e0];simp only;rw [HXX.out];rfl
    rw [<-hD1,<-hB1];have hgw':¬w.heap.size=g:=by omega
    have hB0:Blk (W.setCell (Ad g 1) (iV (wrap64 (held-X.d)))) g 127 [sL q 0 ds.length ec,iV (wrap64 (held-X.d))]:=A0.out.set 1 _;have HA2:=A2.out;refine bodyPost_ret (v:=.tuple #[.agg #[iV X.a,iV X.b,iV X.c,iV X.d,iV 2],iZ]) (by simp [results,Tryz.results114,go_sem,hgw,hgw',r0,r1,r2,r3,r4]) rfl ⟨rfl,⟨sL q 0 ds.length ec,HG.out,?_,?_⟩,?_⟩
    ·exact zq229095
    ·have hq:some w.heap.size≠(Value.slice (some (Ad q 0)) ds.length ec).ownBlock:=fun e=>by
      have e':=Option.some.inj (show some w.heap.size=some q from e);omega
     have hq2:some g≠(Value.slice (some (Ad q 0)) ds.length ec).ownBlock:=fun e=>hgq (Option.some.inj (show some g=some q from e));rw [HXX.out] at HA2;have el:(ds.set k (X.withE 2)).length=ds.length:=List.length_set;exact zq2206d8
    ·exact zq225e14
  ·have e1:ydw ⟨ds,held⟩ ((k:Int)+1)=13:=by unfold ydw;rw [if_neg h1,e0];simp only;rw [HXX.out,if_pos h2]
   obtain rfl:13=x:=by rw [<-hx.out,e1]
   obtain rfl:⟨ds,held⟩=B':=by rw [<-hB'.out];unfold ykw;rw [e1];rfl
   obtain rfl:yax=D:=by rw [<-hD.out];unfold endD;rw [e1];rfl
   clear hx hB' hD h1
   go_wp2_with fail
   refine bodyPost_ret (v:=.tuple #[.agg #[iZ,iZ,iZ,iZ,iZ],iV 13]) (by simp [results,Tryz.results114,go_sem]) rfl ⟨rfl,⟨_,HV.out.below ?_⟩,(DStp.refl base L w).alloc HBS.out _⟩;exact bL
section
theorem yu5 (op:BinOp) (x y:Operand) (xs ys:Array Value) (W:World):(eqGuard op 175 x y (.agg xs) (.agg ys)).run Tryz.prog W=.ok () W:=run_eqGuard_agg W op _ x y xs ys kr
attribute [local go_sem] yu5
theorem yjj:(Tryz.prog.info? 175).map (fun i=>(i.zero,i.size,i.bytes))=some (some (.agg #[iZ,iZ,iZ,iZ,iZ,iZ,iZ,iZ,iZ]),9,72):=by kernel_rfl
theorem yn0 (w:World) (cs:List Value) (t:TypeId):∀j u,cs[j]?=some u->(w.alloc (.cells cs.toArray t)).cell? (((Ad w.heap.size 0):Addr).add j)=some u:= by
 intro j u hu;have h:Blk (w.alloc (.cells cs.toArray t)) w.heap.size t cs:=heap_alloc_new w _;rw [Addr.add_lit,h.cell,Nat.zero_add];exact hu
theorem yhw {a b:List Value} (h:∀c∈a,c.oneCell'=true) (k:∀c∈b,c.oneCell'=true):∀c∈a++b,c.oneCell'=true:=fun c hc=>by
 rcases List.mem_append.1 hc with h1 | h1
 ·exact h c h1
 ·exact k c h1
def AdO (w:World) (base:Nat) (v:Value) (m:Nat):Prop:=∃n cs,n<=m/\(∀c∈cs,c.oneCell'=true)/\w.ownsRow base 175 9 v n cs
theorem yzr (seq:Int) (a b:St) (av bv:Value) (hll:a.ls.length=b.ls.length) (hle:a.ls.length<=1000) (w:World) (ha:LnS w av a.ls) (hb:LnS w bv b.ls) :
 Calls Tryz.prog 161 #[iV seq,ynn a av,ynn b bv] w (fun e w'=>∃u,e=.returned u/\AdO w' w.heap.size u (a.ls.length+1)/\BW w w'):= by
 have HA:=lh ha;have HB:=lh hb;obtain ⟨ao,ac,rfl,-⟩:=ha;obtain ⟨bo,bc,rfl,-⟩:=hb;obtain ⟨n,fr,til,du,ls,tot,cr,mn,g⟩:=a;obtain ⟨n',fr',til',du',ls',tot',cr',mn',g'⟩:=b;unfold ynn at *;simp only at *;have HLL:=lh (And.intro hll hle);clear hll hle
 go_enter Tryz.func161,Tryz.ntmps161
 go_wp2
 obtain ⟨W,hW,X1,X2,XB,XS⟩:∃W,(w.alloc (.cells #[iV n,iV fr,iV til,iV du,.slice ao ls.length ac,iV tot,iV cr,iV mn,.bool g] 43)).alloc (.cells #[iV n',iV fr',iV til',iV du',.slice bo ls'.length bc,iV tot',iV cr',iV mn',.bool g'] 43)=W/\Hid (Blk W w.heap.size 43 [iV n,iV fr,iV til,iV du,.slice ao ls.length ac,iV tot,iV cr,iV mn,.bool g])/\Hid (Blk W (w.heap.size+1) 43 [iV n',iV fr',iV til',iV du',.slice bo ls'.length bc,iV tot',iV cr',iV mn',.bool g'])/\Hid (BW w W)/\Hid (W.heap.size=w.heap.size+2) :=
  ⟨_,rfl,(yae w _ _ _ rfl).below (yaa bR _),yae _ _ _ _ (by simp),yaa (yaa bR _) _,by show _=_;simp⟩
 with_reducible rw [hW]
 clear hW
 refine yai 0 (fun a' w'=>∃(k wb:Nat) (lv:Value) (u1 u2 u3 u6 u10 u11 u12 u13 u14 u15 u16 u17 u18 u19 u20 u21 u22 u23 u24 u25 u26 u27 u28 u29 u30 u31 u32 u33 u34 u35 u36 u37 u38 u39 u40 u41 u42 u43 u44 u45 u46 u47 u48 u49 u50 u51 u52 u53 u54 u55 u56 u57 u58 u59 u60 u61 u62 u63 u64 u65 u66 u67 u68 u69 u70 u71 u72 u73 u74 u75 u76 u77 u78 u79 u80 u81 u82 u83 u84 u85 u86 u87 u88 u89 u90 u91 u92 u93:Value),a'={ tmps:=#[iV seq,u1,u2,u3,pV w.heap.size,pV (w.heap.size+1),u6,lv,iV (k:Int),pV wb,u10,u11,u12,u13,u14,u15,u16,u17,u18,u19,u20,u21,u22,u23,u24,u25,u26,u27,u28,u29,u30,u31,u32,u33,u34,u35,u36,u37,u38,u39,u40,u41,u42,u43,u44,u45,u46,u47,u48,u49,u50,u51,u52,u53,u54,u55,u56,u57,u58,u59,u60,u61,u62,u63,u64,u65,u66,u67,u68,u69,u70,u71,u72,u73,u74,u75,u76,u77,u78,u79,u80,u81,u82,u83,u84,u85,u86,u87,u88,u89,u90,u91,u92,u93],defers:=[] }/\k<=ls.length/\Hid (AdO w' (wb+1) lv k/\w.heap.size<=wb/\wb<w'.heap.size)/\Hid (Blk w' w.heap.size 43 [iV n,iV fr,iV til,iV du,.slice ao ls.length ac,iV tot,iV cr,iV mn,.bool g]/\Blk w' (w.heap.size+1) 43 [iV n',iV fr',iV til',iV du',.slice bo ls'.length bc,iV tot',iV cr',iV mn',.bool g'])/\Hid (∃x0 x1 x2 x3 x4 x5 x6 x7 x8,Blk w' wb 175 [iV x0,iV x1,iV x2,iV x3,iV x4,iV x5,iV x6,iV x7,iV x8])/\BW w w')
  (fun a' _=>ylt ls.length a'.tmps[8]?) rfl ?pass ?first
 case pass =>
  intro a1 w1 hJ J' hJ';obtain ⟨k,wb,lv,hJ⟩:=hJ
  iterate 88 obtain ⟨_,hJ⟩:=hJ
  obtain ⟨rfl,hk,HO,HX,HWB,hbw⟩:=hJ;have HJ:=lh hJ';clear hJ';have HBW:=lh hbw;obtain ⟨hX1,hX2⟩:=HX.out;obtain ⟨b0,b4,-⟩:=hX1.cs [0,4];have d4:=hX2.cell 4;have kx1:=hX1.lt;have kx2:=hX2.lt;simp only [gz,gs] at b0 b4 d4;have HK:=lh hk;have HX1:=lh hX1;have HX2:=lh hX2;obtain ⟨x0,x1,x2,x3,x4,x5,x6,x7,x8,hWB⟩:=HWB.out;have HWC:=lh hWB;clear hX1 hX2 hbw hWB
  obtain ⟨lao,lc,hlv⟩:∃lao lc m,lv=.slice lao m lc:= by
   obtain ⟨⟨m,cs,_,_,h⟩,_⟩:=HO.out;rcases h.2 with ⟨rfl,rfl⟩ | ⟨g,cap,cur,rfl,_⟩
   ·exact ⟨_,_,_,rfl⟩
   ·exact ⟨_,_,_,rfl⟩
  obtain ⟨lm,rfl⟩:=hlv
  by_cases hlt:k<ls.length
  ·have hlt1:(k:Int)<(ls.length:Int):=by omega
   have hlt2:(k:Int)<(ls'.length:Int):=by have:=HLL.out;omega
   have hw1:wrap64 ((k:Int)+1)=(k:Int)+1:=IntWalk.wrap64_in _ ⟨by omega,by have:=HLL.out;omega⟩;obtain ⟨ba,oa,x,y,z,rfl,⟨p0,p1,p2⟩,HP⟩:=(HA.out.below HBW.out).get hlt;obtain ⟨bb,ob,x',y',z',rfl,⟨q0,q1,q2⟩,HQ⟩:=(HB.out.below HBW.out).get (i:=k) (by have:=HLL.out;omega);have kba:=yac p0;have kbb:=yac q0;clear hk
   go_wp2_with fail
   have hne:(x=x'/\y=y')\/(x≠x'\/(x=x'/\y≠y')):=by omega
   have HNE:=lh hne;clear hne
   go_region
   all_goals
    first
     | (obtain ⟨W2,hW2,P10,P11,PB⟩:∃W2,((w1.alloc (.cells #[iV x,iV y,iV z] 65)).alloc (.cells #[iV x',iV y',iV z'] 65)).drew=W2/\Hid (Blk W2 (w1.heap.size) 65 [iV x,iV y,iV z])/\Hid (Blk W2 (w1.heap.size+1) 65 [iV x',iV y',iV z'])/\Hid (BW w1 W2):=⟨_,rfl,(yae w1 _ _ _ rfl).below (yaf (yaa bR _)),(yae (w1.alloc _) _ _ _ (by simp)).below (yaf bR),yaf (yaa (yaa bR _) _)⟩;with_reducible rw [hW2])
     | (obtain ⟨W2,hW2,P10,P11,PB⟩:∃W2,((w1.alloc (.cells #[iV x',iV y',iV z'] 65)).alloc (.cells #[iV x,iV y,iV z] 65)).drew=W2/\Hid (Blk W2 (w1.heap.size+1) 65 [iV x,iV y,iV z])/\Hid (Blk W2 (w1.heap.size) 65 [iV x',iV y',iV z'])/\Hid (BW w1 W2):=⟨_,rfl,(yae (w1.alloc _) _ _ _ (by simp)).below (yaf bR),(yae w1 _ _ _ rfl).below (yaf (yaa bR _)),yaf (yaa (yaa bR _) _)⟩;with_reducible rw [hW2])
    clear hW2 b0 b4 d4 p0 p1 p2 q0 q1 q2;obtain ⟨a0,a1,-⟩:=P10.out.cs [0,1];obtain ⟨e0,e1,-⟩:=P11.out.cs [0,1];have b0:=(HX1.out.below PB.out).cell 0;simp only [gz,gs] at a0 a1 b0 e0 e1;obtain ⟨⟨lm',cs,hle,hone,hown⟩,hwb1,hwb2⟩:=HO.out
    obtain rfl:lm=lm':= by
     rcases hown.2 with ⟨h1,h2⟩ | ⟨g,cap,cur,h1,_⟩
     ·cases h1;exact h2.symm
     ·cases h1;rfl
    have HOC:=lh (yah hown PB.out);clear hown;obtain ⟨i0,hi,hz0,hz1,hz2⟩:=info_parts yjj;rcases HNE.out with ⟨rfl,rfl⟩ | h | ⟨rfl,h⟩
    ·go_wp2_with fail
     go_step3
     exact ⟨rfl,HJ.out _ _ ⟨k+1,wb,_,_,_,_,_,_,_,_,_,_,_,_,_,_,_,_,_,_,_,_,_,_,_,_,_,_,_,_,_,_,_,_,_,_,_,_,_,_,_,_,_,_,_,_,_,_,_,_,_,_,_,_,_,_,_,_,_,_,_,_,_,_,_,_,_,_,_,_,_,_,_,_,_,_,_,_,_,_,_,_,_,_,_,_,_,_,_,_,_,rfl,hlt,⟨⟨lm,cs,by omega,hone,HOC.out⟩,hwb1,by have:=PB.out.size;omega⟩,⟨HX1.out.below PB.out,HX2.out.below PB.out⟩,⟨_,_,_,_,_,_,_,_,_,HWC.out.below PB.out⟩,yad HBW.out PB.out⟩ (yi0 hlt)⟩
    all_goals
     go_upto_region 8 with fail
     go_wp2_with (at_builtin;refine yas _ rfl (.tmp 65) (.tmp 81) 87 rfl (wb+1) 175 i0 (.agg #[iZ,iZ,iZ,iZ,iZ,iZ,iZ,iZ,iZ]) 9 72 Tryz.underlying87 hi hz0 hz1 hz2 rfl (by decide) _ lm cs rfl (yah HOC.out (yaa bR _)) (Ad W2.heap.size 0) 1 1 _ rfl rfl (yn0 W2 _ _) (fun x hx=>by simp at hx;rcases hx with rfl | rfl | rfl | rfl | rfl | rfl | rfl | rfl | rfl <;> rfl) (by have:=HLL.out;unfold maxLen;omega) (by have:=HLL.out;omega) (by rw [World.size_alloc];have:=PB.out.size;omega) ?_;intro v2 w2 hown2 hg2 hw2;clear hw2;obtain ⟨g2,c2,rfl⟩:=ya5 hown2 om;have HO2:=lh hown2;have HG2:=lh hg2;clear hown2 hg2)
     go_step3
     have gr:∀g' e' cur',e'≠175->Blk w1 g' e' cur'->Blk w2 g' e' cur':=fun g' e' cur' hne' h=>by
      exact yaq (h.below (yaa PB.out _)) HG2.out (yaj HOC.out (h.below PB.out) hne')
     have hnw:some wb≠Value.ownBlock (.slice lao lm lc):=fun e=>by have:=(HOC.out.lt wb e.symm).1;omega
     have hbel:BW w w2:=Below.grown (yaa (yad HBW.out PB.out) _) HG2.out (by rw [World.size_alloc];have:=PB.out.size;have:=HBW.out.size;omega) (fun q hq=>by have:=(HOC.out.lt q hq).1;omega);exact ⟨rfl,HJ.out _ _ ⟨k+1,wb,_,_,_,_,_,_,_,_,_,_,_,_,_,_,_,_,_,_,_,_,_,_,_,_,_,_,_,_,_,_,_,_,_,_,_,_,_,_,_,_,_,_,_,_,_,_,_,_,_,_,_,_,_,_,_,_,_,_,_,_,_,_,_,_,_,_,_,_,_,_,_,_,_,_,_,_,_,_,_,_,_,_,_,_,_,_,_,_,_,rfl,hlt,⟨⟨lm+1,_,by omega,yhw hone (by intro c hc;simp at hc;rcases hc with rfl | rfl | rfl | rfl | rfl | rfl | rfl | rfl | rfl <;> rfl),HO2.out⟩,hwb1,by have:=PB.out.size;have:=HG2.out.size;simp only [World.size_alloc] at this;omega⟩,⟨gr _ _ _ (by decide) HX1.out,gr _ _ _ (by decide) HX2.out⟩,⟨_,_,_,_,_,_,_,_,_,yaq (HWC.out.below (yaa PB.out _)) HG2.out hnw⟩,hbel⟩ (yi0 hlt)⟩
  ·have hlt1:¬(k:Int)<(ls.length:Int):=by omega
   obtain ⟨c0,c1,c2,c3,c4,c5,c6,c7,c8,-⟩:=HWC.out.cs [0,1,2,3,4,5,6,7,8];simp only [gz,gs] at c0 c1 c2 c3 c4 c5 c6 c7 c8;obtain ⟨⟨lm',cs,hle,hone,hown⟩,hwb1,hwb2⟩:=HO.out
   obtain rfl:lm=lm':= by
    rcases hown.2 with ⟨h1,h2⟩ | ⟨g,cap,cur,h1,_⟩
    ·cases h1;exact h2.symm
    ·cases h1;rfl
   have HOC:=lh hown;clear hown;obtain ⟨i0,hi,hz0,hz1,hz2⟩:=info_parts yjj;clear hk;go_upto_region 9 with fail
   go_wp2_with (at_builtin;refine yas _ rfl (.tmp 89) (.tmp 91) 87 rfl (wb+1) 175 i0 (.agg #[iZ,iZ,iZ,iZ,iZ,iZ,iZ,iZ,iZ]) 9 72 Tryz.underlying87 hi hz0 hz1 hz2 rfl (by decide) _ lm cs rfl (yah HOC.out (yaa bR _)) (Ad w1.heap.size 0) 1 1 _ rfl rfl (yn0 w1 _ _) (fun x hx=>by simp at hx;rcases hx with rfl | rfl | rfl | rfl | rfl | rfl | rfl | rfl | rfl <;> rfl) (by have:=HLL.out;have:=HK.out;unfold maxLen;omega) (by have:=HLL.out;have:=HK.out;omega) (by rw [World.size_alloc];omega) ?_;intro v2 w2 hown2 hg2 hw2;clear hw2;have HO2:=lh hown2;have HG2:=lh hg2;clear hown2 hg2)
   all_goals
    simp only [Exit.jump];go_ret
    first
     | exact ⟨_,rfl,⟨_,_,by have:=HK.out;omega,hone,yco HOC.out om⟩,HBW.out⟩
     | exact ⟨_,rfl,⟨lm+1,_,by have:=HK.out;omega,yhw hone (by intro c hc;simp at hc;rcases hc with rfl | rfl | rfl | rfl | rfl | rfl | rfl | rfl | rfl <;> rfl),yco HO2.out om⟩,Below.grown (yaa HBW.out _) HG2.out (by rw [World.size_alloc];have:=HBW.out.size;omega) (fun q hq=>by have:=(HOC.out.lt q hq).1;omega)⟩
 case first =>
  intro J' hJJ hrest;have HRE:=lh hrest;clear hJJ hrest;go_upto_region 3 with fail
  have hS:∀W',BW W W'->((Ce W' w.heap.size 0 (iV n)/\Ce W' w.heap.size 5 (iV tot)/\Ce W' w.heap.size 6 (iV cr)/\Ce W' w.heap.size 7 (iV mn)/\Ce W' w.heap.size 8 (.bool g))/\(Ce W' (w.heap.size+1) 5 (iV tot')/\Ce W' (w.heap.size+1) 6 (iV cr')/\Ce W' (w.heap.size+1) 7 (iV mn')/\Ce W' (w.heap.size+1) 8 (.bool g'))):=fun W' h =>
   have q:=X1.out.below h;have r:=X2.out.below h
   ⟨⟨q.cell 0,q.cell 5,q.cell 6,q.cell 7,q.cell 8⟩,r.cell 5,r.cell 6,r.cell 7,r.cell 8⟩
  have HS:=lh hS;have hs0:=hS W bR;have hsd:=hS W.drew (yaf bR);clear hS
  go_region_held3 (fun W'=>(Ce W' w.heap.size 0 (iV n)/\Ce W' w.heap.size 5 (iV tot)/\Ce W' w.heap.size 6 (iV cr)/\Ce W' w.heap.size 7 (iV mn)/\Ce W' w.heap.size 8 (.bool g))/\(Ce W' (w.heap.size+1) 5 (iV tot')/\Ce W' (w.heap.size+1) 6 (iV cr')/\Ce W' (w.heap.size+1) 7 (iV mn')/\Ce W' (w.heap.size+1) 8 (.bool g'))) (first | with_reducible exact hs0 | with_reducible exact hsd | with_reducible exact HS.out _ (yaa (yaf bR) _) | with_reducible exact HS.out _ (yaf (yaa bR _)) | with_reducible assumption) (first | (go_at_call 197;refine (ysk g g' _).mono ?_;rintro _ w5 ⟨rfl,rfl⟩))
  all_goals
   go_wp2_with fail
   go_step3
   go_step
   go_step
   exact HRE.out _ _ ⟨0,_,_,_,_,_,_,_,_,_,_,_,_,_,_,_,_,_,_,_,_,_,_,_,_,_,_,_,_,_,_,_,_,_,_,_,_,_,_,_,_,_,_,_,_,_,_,_,_,_,_,_,_,_,_,_,_,_,_,_,_,_,_,_,_,_,_,_,_,_,_,_,_,_,_,_,_,_,_,_,_,_,_,_,_,_,_,_,_,_,_,rfl,Nat.zero_le _,⟨⟨0,[],Nat.le_refl _,by simp,yel _ _ _ _⟩,XB.out.size,by show _<(World.drew _).heap.size;simp⟩,⟨X1.out.below (by exact bL),X2.out.below (by exact bL)⟩,⟨_,_,_,_,_,_,_,_,_,(yae W _ _ _ rfl).below (by exact bL)⟩,yad XB.out (by exact bL)⟩
end
end Go.Proofs.YtkongpjpkpfniaaGreat

/- TopTicks: parts of the proof, made small by a program (mini.py). -/
import Derived.Deep.QuietTactic
import Derived.Lib.SliceRun
import Derived.IntWalk
import Derived.Test.YtkongpjpkpfniaaGreatT01
set_option linter.unusedVariables false
set_option linter.unusedSimpArgs false
set_option maxRecDepth 100000
set_option maxHeartbeats 6400000
namespace Go.Proofs.YtkongpjpkpfniaaGreat
open Go.RowKit
theorem zq02a2c1 {q:Prop} (h:q:= by
 rw [hp];have H:=lh h;clear h hp
 go_enter Tryz.func222,Tryz.ntmps222
 go_wp2_with fail
 refine (ybz H.out _).mono ?_;rintro _ w1 ⟨rfl,rfl⟩;go_wp2
 go_ret
 exact Ret.mk _ _):q:=h
theorem zq023028 {q:Prop} (h:q:= by
 refine ⟨0,by omega,rfl,?_⟩;exact ⟨((HB2.out.set 0 _).set 1 _).set 2 _,yau (yau (yau HOWN.out hgb) hgb) hgb,((HR2.out.setOther om 0 _).setOther om 1 _).setOther om 2 _,yd5 HBF2.out om _ _ _⟩):q:=h
theorem zq02e414 {q:Prop} (h:q:= by
 have:=heap_alloc_new (w.alloc (.cells #[.slice ao bs.length cap,iV c,iV d] 35)) (.cells #[sZ,iZ,iZ] 35)
 simpa [Blk,Hid] using this):q:=h
theorem zq021c2f {q:Prop} (h:q:= by
 have hR:=HR1.out;obtain ⟨r0,r1,r2,-⟩:=hR.cs [0,1,2];simp only [gz,gs] at r0 r1 r2;obtain ⟨f0,f1,f2,-⟩:=hR.fs [0,1,2];have hlt:=hR.lt;clear hR;go_wp2
 refine bodyPost_ret (v:=.tuple #[.agg #[sZ,iZ,iZ],iV 1]) (by simp [results,Tryz.results186,go_sem,r0,r1,r2]) rfl ⟨sZ,rfl,⟨Sl.nil,ycz⟩,yd5 hbf om _ _ _⟩):q:=h
theorem zq026562 {q:Prop} (h:q:= by
 have hlt:(k:Int)<(ns.length:Int):=by have:=HD2.out;omega
 obtain ⟨b',o',x,rfl,hcell,HX⟩:=(HU.out.below HI.out.2.2.2).get (i:=k) (by have:=HD2.out;omega);have hx:=HM.out k;rw [HX.out] at hx;have hy:=HBM.out k (by have:=HN.out;omega);have hc:=HC.out k;have hll:=ye9 ns bs c k;have hlat:=ym9 ns bs c k k (Nat.le_refl _);have hnext:yba ns bs c (k+1)=((yba ns bs c k).1.set k ((yba ns bs c k).1.getD k 0+(ns.getD k 0-min (ns.getD k 0) (yba ns bs c k).2)),(yba ns bs c k).2-min (ns.getD k 0) (yba ns bs c k).2):=rfl;rw [HX.out,hlat] at hnext;have HI2:=HI.out;have hLY:(yba ns bs c k).1.getD k 0=bs.getD k 0:=hlat;generalize (yba ns bs c k).2=C at HI2 hc hnext;generalize (yba ns bs c k).1=L at HI2 hll hnext hLY;generalize bs.getD k 0=y at hy hnext hLY;have HNX:=lh hnext;have HI3:=lh HI2;have HY:=lh hLY;have HLn:Hid (L.length=n):=hll.trans HN.out;have hn2:n<=1000:=by have:=HN.out;have:=HARG.out.2;omega
 have hpw:=HI2.2.2.2;clear hnext HI2 hLY hll hlat HI
 by_cases hle:x<=C
 ·have HCALL:=fun (w':World)=>yf7 base w.heap.size gr n capr k L C d x y (C-x) HLn om hn2 HY hle rfl (IntWalk.wrap64_in _ ⟨by omega,by omega⟩) (IntWalk.wrap64_in _ ⟨by omega,by omega⟩) hgb w'
  have HNX2:Hid (yba ns bs c (k+1)=(L.set k y,C-x)):= by
   show _=_;rw [HNX.out,Int.min_eq_left hle,show y+(x-x)=y by omega]
  have HH:=lh HCALL;clear HCALL HNX hy hc hx
  go_wp2_with fail
  refine (HH.out _ HI3.out.1 HI3.out.2.1).mono ?_;rintro _ w3 ⟨rfl,hB3,hown3,hsz3,hbel3,hoth3⟩
  have HNEW:Hid (Blk w3 w.heap.size 35 [sL gr 0 n capr,iV (yba ns bs c (k+1)).2,iV d]/\w3.ownsRow base 2 1 (sL gr 0 n capr) n ((yba ns bs c (k+1)).1.map (Value.int .i64))/\Blk w3 (w.heap.size+1) 35 [sZ,iZ,iZ]/\BW w w3):= by
   rw [HNX2.out];exact ⟨hB3,hown3,(hoth3 (w.heap.size+1) om om).trans HI3.out.2.2.1,HI3.out.2.2.2.trans (hbel3 w.heap.size (Nat.le_refl _) om)⟩
  clear hB3 hown3 hsz3 hbel3 hoth3 HH HI3 hcell hpw;go_wp2
  go_roundg g
  case measure=>omega
  case rel=>exact ⟨k+1,by omega,by go_num,HNEW⟩
 ·have HCALL:=fun (w':World)=>yf4 base w.heap.size gr n capr k L C d x y (x-C) (y+(x-C)) HLn om hn2 HY hle rfl rfl (IntWalk.wrap64_in _ ⟨by omega,by omega⟩) (IntWalk.wrap64_in _ ⟨by omega,by omega⟩) hgb w'
  have HNX2:Hid (yba ns bs c (k+1)=(L.set k (y+(x-C)),0)):= by
   show _=_;rw [HNX.out,Int.min_eq_right om,show C-C=0 by omega]
  have HH:=lh HCALL;clear HCALL HNX hy hc hx
  go_wp2_with fail
  refine (HH.out _ HI3.out.1 HI3.out.2.1).mono ?_;rintro _ w3 ⟨rfl,hB3,hown3,hsz3,hbel3,hoth3⟩
  have HNEW:Hid (Blk w3 w.heap.size 35 [sL gr 0 n capr,iV (yba ns bs c (k+1)).2,iV d]/\w3.ownsRow base 2 1 (sL gr 0 n capr) n ((yba ns bs c (k+1)).1.map (Value.int .i64))/\Blk w3 (w.heap.size+1) 35 [sZ,iZ,iZ]/\BW w w3):= by
   rw [HNX2.out];exact ⟨hB3,hown3,(hoth3 (w.heap.size+1) om om).trans HI3.out.2.2.1,HI3.out.2.2.2.trans (hbel3 w.heap.size (Nat.le_refl _) om)⟩
  clear hB3 hown3 hsz3 hbel3 hoth3 HH HI3 hcell hpw;go_wp2
  go_roundg g
  case measure=>omega
  case rel=>exact ⟨k+1,by omega,by go_num,HNEW⟩):q:=h
section
open Go.RowKit EvM
theorem yyv (v:Int) (w:World):Calls Tryz.prog 193 #[iV v] w (Ret (.bool (mayM v)) w):= by
 by_cases h1:-1000000000000000<=v
 ·by_cases h2:v<=1000000000000000
  ·go_enter Tryz.func193,Tryz.ntmps193
   go_wp2
   go_ret
   simp [Ret,mayM,h1,h2]
  ·go_enter Tryz.func193,Tryz.ntmps193
   go_wp2
   go_ret
   simp [Ret,mayM,h1,h2]
 ·go_enter Tryz.func193,Tryz.ntmps193
  go_wp2
  go_ret
  simp [Ret,mayM];omega
theorem yjd {v:Int} {r:Bool} (h:mayM v=r) (w:World):Calls Tryz.prog 193 #[iV v] w (Ret (.bool r) w):=by rw [<-h];exact yyv v w
def addG (all:Int):List Int->Int×Int
 | []=>(all,0)
 | v::l=>if mayM v=true/\mayM (all+v)=true then addG (all+v) l else (0,5)
theorem yt4 {all:Int} {xs:List Int} {k:Nat} (hk:k<xs.length):addG all (xs.drop k)=if mayM (xs.getD k 0)=true/\mayM (all+xs.getD k 0)=true then addG (all+xs.getD k 0) (xs.drop (k+1)) else (0,5):= by
 rw [List.drop_eq_getElem_cons hk];simp [addG,List.getD,hk]
theorem yy1 (v:Value) (xs:List Int) (x e:Int) (hx:Hid (addG 0 xs=(x,e))) (hlen:xs.length<=1000000) (w:World) (hv:Sl .i64 w v xs) :
 Calls Tryz.prog 155 #[v] w (RetB (.tuple #[iV x,iV e]) w):= by
 have HV:=lh hv;obtain ⟨ao,cap,rfl,h1,⟨h2,_⟩,h3⟩:=hv;clear h3;unfold maxLen at h2
 go_enter Tryz.func155,Tryz.ntmps155
 go_wp2
 refine yai 0 (fun a' w'=>∃(u0 u1 u2 u3 u4 u5 u6 u7 u8 u9 u10 u11 u12 u13 u14 u15 u16 u17 u18 u19 u20 u21 u22 u23:Value),a'={ tmps:=#[u0,u1,u2,u3,u4,u5,u6,u7,u8,u9,u10,u11,u12,u13,u14,u15,u16,u17,u18,u19,u20,u21,u22,u23],defers:=[] }/\Hid (x=0/\e=5)/\BW w w')
  (fun _ _=>0) rfl ?pass ?first
 case pass =>
  intro a1 w1 hJ J' hJ';clear hJ'
  iterate 24 obtain ⟨_,hJ⟩:=hJ
  obtain ⟨rfl,hqb,hb⟩:=hJ;go_wp2
  simp only [Exit.jump]
  go_ret2
  rw [hqb.out.1,hqb.out.2];exact ⟨rfl,hb⟩
 case first =>
  intro J' hJJ hrest;have HJ:=lh hJJ;clear hJJ hrest
  go_wp2_with fail
  go_loopg [4,9] xs.length (fun g a i wr=>∃(k:Nat) (all:Int),k+g=xs.length/\i=iV k/\a=iV all/\Hid (addG all (xs.drop k)=(x,e))/\Hid (-1000000000000000<=all/\all<=1000000000000000)/\w=wr)
  case atStart=>exact ⟨0,0,by omega,rfl,rfl,hx,lh om,rfl⟩
  case round =>
   obtain ⟨k,all,hkg,rfl,rfl,hA,hB,rfl⟩:=hrel;cases gk with
   | zero =>
    have hlt:¬((k:Int)<(xs.length:Int)):=by omega
    have HR:Hid (all=x/\0=e):= by
     have:=hA.out;rw [List.drop_of_length_le om] at this;unfold addG at this;injection this with t1 t2
     exact ⟨t1,t2⟩
    clear hA hB;go_wp2
    simp only [Exit.jump]
    go_ret2
    rw [<-HR.out.1,<-HR.out.2];exact ⟨rfl,bR⟩
   | succ g =>
    have hlt:(k:Int)<(xs.length:Int):=by omega
    obtain ⟨b,o,y,rfl,hcell,HX⟩:=HV.out.get (i:=k) om;have hst:=yt4 (all:=all) (xs:=xs) (k:=k) om;rw [HX.out,hA.out] at hst;have HST:=lh hst;clear hA hst;cases hm:mayM y with
    | false =>
     have HR:Hid (x=0/\e=5):= by
      have:=HST.out;rw [hm] at this;simp at this;exact this
     have HM:=lh hm;clear hm HST
     go_wp2_with fail
     refine (yjd HM.out _).mono ?_;rintro e w1 ⟨rfl,rfl⟩;go_wp2
     go_step3
     exact ⟨rfl,HJ.out _ _ (x10 (x10 ⟨_,_,_,_,rfl,HR,bR⟩))⟩
    | true =>
     have hy:=mayM_iff.1 hm;have hall:=hB.out;have hwr:wrap64 (all+y)=all+y:=by unfold wrap64;omega
     obtain ⟨s,hs⟩:∃s,all+y=s:=⟨_,rfl⟩;rw [hs] at hwr;have hwr2:wrap64 s=s:=by rw [<-hs];unfold wrap64;omega
     have hwr3:wrap64 (all+y)=s:=by rw [hs];exact hwr2
     have HS:=lh hs;rw [hs] at HST;have HM:=lh hm;cases hm2:mayM s with
     | false =>
      have HR:Hid (x=0/\e=5):= by
       have:=HST.out;rw [hm2] at this;simp at this;exact this
      have HM2:=lh hm2;clear hm hm2 HST hy hall hs hwr
      go_wp2_with fail
      refine (yjd HM.out _).mono ?_;rintro e w1 ⟨rfl,rfl⟩
      go_wp2_with fail
      refine (yjd HM2.out _).mono ?_;rintro e w1 ⟨rfl,rfl⟩;go_wp2
      go_step3
      exact ⟨rfl,HJ.out _ _ (x10 (x10 ⟨_,_,_,_,rfl,HR,bR⟩))⟩
     | true =>
      have HR:Hid (addG s (xs.drop (k+1))=(x,e)):= by
       have:=HST.out;rw [if_pos ⟨hm,hm2⟩] at this;exact this.symm
      have hs2:=mayM_iff.1 hm2;have HM2:=lh hm2;have HS2:=lh hs2;clear hm hm2 HST hy hall hs hwr hs2
      go_wp2_with fail
      refine (yjd HM.out _).mono ?_;rintro e w1 ⟨rfl,rfl⟩
      go_wp2_with fail
      refine (yjd HM2.out _).mono ?_;rintro e w1 ⟨rfl,rfl⟩;go_wp2
      go_roundg g
      case measure=>omega
      case rel=>exact ⟨k+1,s,by omega,by go_num,rfl,HR,HS2,rfl⟩
end
section
open Go.RowKit EvM
theorem ylm {all:Int} {bs:List Int} (h0:0<=all) {s:Int} (h:yc0 all bs=some s):addG all bs=(s,0)/\0<=s/\(bs≠[]->s<=1000000000000000):= by
 induction bs generalizing all with
 | nil =>
  simp only [yc0,Option.some.injEq] at h;subst h;exact ⟨rfl,h0,fun h=>absurd rfl h⟩
 | cons v l ih =>
  unfold yc0 at h
  by_cases hc:may0 v=true/\may0 (all+v)=true
  ·rw [if_pos hc] at h
   have h1:=ybv.1 hc.1;have h2:=ybv.1 hc.2;obtain ⟨e1,e2,e3⟩:=ih h2.1 h;have m1:mayM v=true:=mayM_iff.2 om;have m2:mayM (all+v)=true:=mayM_iff.2 om;refine ⟨?_,e2,fun _=>?_⟩
   ·unfold addG
    rw [if_pos ⟨m1,m2⟩];exact e1
   ·cases l with
    | nil=>simp only [yc0,Option.some.injEq] at h;omega
    | cons x l=>exact e3 (by simp)
  ·rw [if_neg hc] at h
   cases h
def yb4 (bs:List Int) (c d:Int):Int:=if yat bs c d=true then bs.sum else 0
theorem ynt {all:Int} {bs:List Int} {s:Int} (h:yc0 all bs=some s):s=all+bs.sum:= by
 induction bs generalizing all with
 | nil=>simp only [yc0,Option.some.injEq] at h;simp [h]
 | cons v l ih =>
  unfold yc0 at h
  by_cases hc:may0 v=true/\may0 (all+v)=true
  ·rw [if_pos hc] at h
   rw [ih h,List.sum_cons];omega
  ·rw [if_neg hc] at h
   cases h
theorem yfb {bs:List Int} {c d:Int} (h:yat bs c d=true):yc0 0 bs=some bs.sum:= by
 unfold yat at h;cases hs:yc0 0 bs with
 | none=>rw [hs] at h;simp at h
 | some s=>rw [ynt hs,Int.zero_add]
theorem yhv (v:Value) (bs:List Int) (c d t:Int) (ht:Hid (yb4 bs c d=t)) (hlen:bs.length<=1000000) (w:World) (hv:Sl .i64 w v bs) :
 Calls Tryz.prog 111 #[.agg #[v,iV c,iV d]] w (RetB (iV t) w):= by
 have HV:=lh hv;obtain ⟨ao,cap,rfl,h1,⟨h2,_⟩,h3⟩:=hv;clear h3;unfold maxLen at h2;obtain ⟨r,hr⟩:∃r,yat bs c d=r:=⟨_,rfl⟩;have HR:=lh hr;have HP:=lh (PB.new w 35 (.slice ao bs.length cap) c d);obtain ⟨p0,p1,p2⟩:=HP.out;have hb0:BW w (w.alloc (.cells #[.slice ao bs.length cap,iV c,iV d] 35)):=yaa bR _;cases r with
 | false =>
  obtain rfl:0=t:=by rw [<-ht.out];unfold yb4;rw [hr];rfl
  clear ht hr
  go_enter Tryz.func111,Tryz.ntmps111
  go_wp2_with fail
  refine (ya0 _ bs c d _ HR hlen _ (HV.out.below hb0)).mono ?_;rintro _ w1 ⟨rfl,hb1⟩;go_wp2
  go_ret
  exact ⟨rfl,yad hb0 hb1⟩
 | true =>
  have HT:Hid (addG 0 bs=(t,0)):= by
   have h:=(ylm om (yfb hr)).1;show _=_;rw [h,<-ht.out];unfold yb4;rw [if_pos hr]
  clear ht hr
  go_enter Tryz.func111,Tryz.ntmps111
  go_wp2_with fail
  refine (ya0 _ bs c d _ HR hlen _ (HV.out.below hb0)).mono ?_;rintro _ w1 ⟨rfl,hb1⟩;obtain ⟨q0,q1,q2⟩:=HP.out.below hb1;have hb2:=yad hb0 hb1;clear p0 p1 p2 hb0 hb1
  go_wp2_with fail
  refine (yy1 _ bs t 0 HT hlen _ (HV.out.below hb2)).mono ?_;rintro _ w2 ⟨rfl,hb3⟩;go_wp2
  go_ret
  exact ⟨rfl,yad hb2 hb3⟩
theorem yd5 {w w':World} {g:Nat} (h:BW w w') (hg:w.heap.size<=g) (x y z:Value):BW w (((w'.setCell (Ad g 0) x).setCell (Ad g 1) y).setCell (Ad g 2) z) :=
 ((h.setCell hg _).setCell hg _).setCell hg _
def ybt (v:Value) (bs:List Int) (c d:Int):Value:=if yat bs c d=true then .tuple #[.agg #[v,iV c,iV d],iZ] else .tuple #[.agg #[sZ,iZ,iZ],iV 5]
theorem ych (v:Value) (bs:List Int) (c d:Int) (r:Value) (hr0:Hid (ybt v bs c d=r)) (hlen:bs.length<=1000000) (w:World) (hv:Sl .i64 w v bs) :
 Calls Tryz.prog 215 #[.agg #[v,iV c,iV d]] w (RetB r w):= by
 have HV:=lh hv;obtain ⟨ao,cap,rfl,h1,⟨h2,_⟩,h3⟩:=hv;clear h3;unfold maxLen at h2;obtain ⟨q,hq⟩:∃q,yat bs c d=q:=⟨_,rfl⟩;have HQ:=lh hq
 have HBLK:Hid (Blk ((w.alloc (.cells #[.slice ao bs.length cap,iV c,iV d] 35)).alloc (.cells #[sZ,iZ,iZ] 35)) (w.heap.size+1) 35 [sZ,iZ,iZ]):= by
  exact zq02e414
 have HPB:=lh ((PB.new w 35 (.slice ao bs.length cap) c d).below (yaa bR (.cells #[sZ,iZ,iZ] 35)));have HW0:Hid (BW w ((w.alloc (.cells #[.slice ao bs.length cap,iV c,iV d] 35)).alloc (.cells #[sZ,iZ,iZ] 35))):=yaa (yaa bR _) _;cases q with
 | false =>
  have hr:r=.tuple #[.agg #[sZ,iZ,iZ],iV 5]:=by rw [<-hr0.out];unfold ybt;rw [hq];rfl
  subst hr;clear hr0 hq
  go_enter Tryz.func215,Tryz.ntmps215
  go_wp2_with fail
  refine (ya0 _ bs c d _ HQ hlen _ (HV.out.below HW0.out)).mono ?_;rintro _ w1 ⟨rfl,hb1⟩;have hB:=HBLK.out.below hb1;obtain ⟨q0,q1,q2⟩:=HPB.out.below hb1;obtain ⟨c0,c1,c2,-⟩:=hB.cs [0,1,2];simp only [gz,gs] at c0 c1 c2;obtain ⟨f0,f1,f2,-⟩:=hB.fs [0,1,2];have hbf:=yad HW0.out hb1;have hlt:=hB.lt;clear hB hb1;go_wp2
  refine bodyPost_ret (v:=.tuple #[.agg #[sZ,iZ,iZ],iV 5]) (by simp [results,Tryz.results215,go_sem,c0,c1,c2]) rfl ⟨rfl,yd5 hbf om _ _ _⟩
 | true =>
  have hr:r=.tuple #[.agg #[.slice ao bs.length cap,iV c,iV d],iZ]:=by rw [<-hr0.out];unfold ybt;rw [hq];rfl
  subst hr;clear hr0 hq
  go_enter Tryz.func215,Tryz.ntmps215
  go_wp2_with fail
  refine (ya0 _ bs c d _ HQ hlen _ (HV.out.below HW0.out)).mono ?_;rintro _ w1 ⟨rfl,hb1⟩;have hB:=HBLK.out.below hb1;obtain ⟨q0,q1,q2⟩:=HPB.out.below hb1;obtain ⟨c0,c1,c2,-⟩:=hB.cs [0,1,2];simp only [gz,gs] at c0 c1 c2;obtain ⟨f0,f1,f2,-⟩:=hB.fs [0,1,2];have hbf:=yad HW0.out hb1;have hlt:=hB.lt;clear hB hb1;go_wp2
  refine bodyPost_ret (v:=.tuple #[.agg #[.slice ao bs.length cap,iV c,iV d],iZ]) (by simp [results,Tryz.results215,go_sem,c0,c1,c2]) rfl ⟨rfl,yd5 hbf om _ _ _⟩
end
theorem yfa:(Tryz.prog.info? 2).map (fun i=>(i.zero,i.size,i.bytes))=some (some (iZ),1,8):=by kernel_rfl
def jas (xs:List Int) (w:World) (e:Ending) (w':World):Prop :=
 ∃u,e=.returned u/\w'.ownsRow w.heap.size 2 1 u xs.length (xs.map (Value.int .i64))/\BW w w'
theorem ydp (v:Value) (xs:List Int) (w:World) (hv:Sl .i64 w v xs) (hn:xs.length<=1000) :
 Calls Tryz.prog 39 #[v] w (jas xs w):= by
 have HV:=lh hv;obtain ⟨ao,cap,rfl,h1,⟨h2,_⟩,h3⟩:=hv;clear h3;unfold maxLen at h2;have qT:∀(w:World) (a:Option Addr) (n c n' c':Nat),(binOp .eql 33 (.slice a n c) (.slice none n' c')).run Tryz.prog w=.ok (.bool a.isNone) w:=fun w a n c n' c'=>Lib.run_eql_slice_nil w _ _ a n c n' c' Tryz.underlying33;obtain ⟨i0,hi,hz0,hz1,hz2⟩:=info_parts yfa;cases ao with
 | none =>
  obtain rfl:=HV.out.none_len rfl;obtain ⟨_,rfl⟩:=HV.out.none_cap rfl
  go_enter Tryz.func39,Tryz.ntmps39
  go_wp2
  go_ret
  exact ⟨_,rfl,World.ownsRow_nil _ _ _ _,bR⟩
 | some a =>
  have hA:=HV.out.news;have HA:=lh hA;clear hA
  go_enter Tryz.func39,Tryz.ntmps39
  go_wp2_with (at_builtin;refine ya9 _ rfl (.tmp 5) (.tmp 6) 33 rfl w.heap.size 2 i0 (iZ) 1 8 Tryz.underlying33 hi hz0 hz1 hz2 rfl (by decide) _ 0 [] rfl (yf8 w _) (some a) xs.length cap (xs.map (Value.int .i64)) rfl (by simp) (fun h=>by cases h) (HV.out.alloc _).news (ints_oneCell _ _) (by unfold maxLen;omega) om (by rw [World.size_alloc];omega) ?_;intro v' w1 hown1 hg1 hn1;clear hn1)
  go_ret
  refine ⟨_,rfl,by simpa using hown1,?_⟩;exact (bR.alloc (Nat.le_refl _) _).grown hg1 (by rw [World.size_alloc];omega) (by intro k hk;cases hk;exact Nat.le_refl _)
theorem yau {w:World} {base g o:Nat} {e:TypeId} {size n:Nat} {v x:Value} {xs:List Value} (h:w.ownsRow base e size v n xs) (hg:g<base):(w.setCell (Ad g o) x).ownsRow base e size v n xs:= by
 obtain ⟨h1,h2⟩:=h;refine ⟨h1,?_⟩;rcases h2 with h2 | ⟨g',cap,cur,hv,hb,hg',r⟩
 ·exact Or.inl h2
 ·exact Or.inr ⟨g',cap,cur,hv,hb,(heap_setCell_other w (Ad g o) g' x (by intro h;simp at h;omega)).trans hg',r⟩
def OwnP (bs:List Int) (c d:Int) (w:World) (e:Ending) (w':World):Prop :=
 ∃u,e=.returned (.agg #[u,iV c,iV d])/\w'.ownsRow (w.heap.size+2) 2 1 u bs.length (bs.map (Value.int .i64))/\BW w w'
theorem yex (v:Value) (bs:List Int) (c d:Int) (hlen:bs.length<=1000) (w:World) (hv:Sl .i64 w v bs) :
 Calls Tryz.prog 213 #[.agg #[v,iV c,iV d]] w (OwnP bs c d w):= by
 have HV:=lh hv;obtain ⟨ao,cap,rfl,h1,⟨h2,_⟩,h3⟩:=hv;clear h3;unfold maxLen at h2
 have HBLK:Hid (Blk ((w.alloc (.cells #[.slice ao bs.length cap,iV c,iV d] 35)).alloc (.cells #[sZ,iZ,iZ] 35)) (w.heap.size+1) 35 [sZ,iZ,iZ]):= by
  exact zq02e414
 have hB0:Blk (w.alloc (.cells #[.slice ao bs.length cap,iV c,iV d] 35)) w.heap.size 35 [.slice ao bs.length cap,iV c,iV d]:=heap_alloc_new w _;have HB0:=lh (hB0.below (yaa bR (.cells #[sZ,iZ,iZ] 35)));have HW0:Hid (BW w ((w.alloc (.cells #[.slice ao bs.length cap,iV c,iV d] 35)).alloc (.cells #[sZ,iZ,iZ] 35))):=yaa (yaa bR _) _;have HSZ:Hid (((w.alloc (.cells #[.slice ao bs.length cap,iV c,iV d] 35)).alloc (.cells #[sZ,iZ,iZ] 35)).heap.size=w.heap.size+2):=by show _=_;simp
 clear hB0
 go_enter Tryz.func213,Tryz.ntmps213
 go_wp2_with fail
 refine (ydp _ bs _ (HV.out.below HW0.out) hlen).mono ?_;rintro _ w1 ⟨u,rfl,hown,hb1⟩;rw [HSZ.out] at hown;have hB:=HB0.out.below hb1;obtain ⟨c0,c1,c2,-⟩:=hB.cs [0,1,2];have f0:=hB.frozen 0;have hR:=HBLK.out.below hb1;obtain ⟨r0,r1,r2,-⟩:=hR.cs [0,1,2];obtain ⟨g0,g1,g2,-⟩:=hR.fs [0,1,2];simp only [gz,gs] at c0 c1 c2 r0 r1 r2;have hbf:=yad HW0.out hb1;have HOWN:=lh hown
 obtain ⟨bo,bn,bc,rfl⟩:∃ao n cap,u=.slice ao n cap:= by
  rcases hown.2 with ⟨h,_⟩ | ⟨g,cap',cur,h,_⟩
  ·exact ⟨_,_,_,h⟩
  ·exact ⟨_,_,_,h⟩
 clear hown hB hR hb1;go_wp2
 refine bodyPost_ret (v:=.agg #[.slice bo bn bc,iV c,iV d]) (by simp [results,Tryz.results213,go_sem,r0,r1,r2]) rfl ⟨_,rfl,?_,?_⟩
 ·exact yau (yau (yau (yau HOWN.out om) om) om) om
 ·exact (((hbf.setCell (by simp) _).setCell (by simp) _).setCell (by simp) _).setCell (by simp) _
def ytu (base g gr n cap:Nat) (bs:List Int) (c d:Int) (w:World) (e:Ending) (w':World):Prop :=
 e=.returned (.tuple #[])/\Blk w' g 35 [sL gr 0 n cap,iV c,iV d]/\w'.ownsRow base 2 1 (sL gr 0 n cap) n (bs.map (Value.int .i64))/\w'.heap.size=w.heap.size/\(∀B,B<=g->B<=gr->Below B w w')/\∀k,k≠g->k≠gr->w'.heap[k]?=w.heap[k]?
theorem yf7 (base g gr n cap i:Nat) (bs:List Int) (c d am y c2:Int) (hn:Hid (bs.length=n)) (hi:i<n) (hn2:n<=1000) (hy:Hid (bs.getD i 0=y)) (hle:am<=c) (hc2:c-am=c2) (hw:wrap64 c2=c2) (hy0:wrap64 y=y) (hgb:g<base) (w:World)
 (hB:Blk w g 35 [sL gr 0 n cap,iV c,iV d]) (hown:w.ownsRow base 2 1 (sL gr 0 n cap) n (bs.map (Value.int .i64))) :
 Calls Tryz.prog 214 #[pV g,iV ((i:Int)+1),iV am] w (ytu base g gr n cap (bs.set i y) c2 d w):= by
 have HB:=lh hB;have HO:=lh hown;have hgr:base<=gr:=(hown.lt gr rfl).1;have hgl:=hB.lt;have hrl:gr<w.heap.size:=(hown.lt gr rfl).2;obtain ⟨c0,c1,-⟩:=hB.cs [0,1];have f1:=hB.frozen 1;have hcel:=hown.cellAt i om
 have hxe:(bs.map (Value.int .i64))[i]?=some (iV y):= by
  rw [<-hy.out];simp [List.getD,show i<bs.length by have:=hn.out;omega]
 rw [hxe] at hcel;have hfr:=hown.frozenAt i;simp only [gz,gs] at c0 c1;have ho2:(w.setCell (Ad g 1) (iV c2)).ownsRow base 2 1 (sL gr 0 n cap) n (bs.map (Value.int .i64)):=yau hown hgb;obtain ⟨hst,_⟩:=ho2.stored i (iV y);have HST:=lh hst;have HB2:=lh ((hB.set 1 (iV c2)).setOther (show g≠gr by omega) i (iV y));have hne:¬g=gr:=by omega
 have hne2:¬gr=g:=by omega
 have w0:wrap64 0=0:=by unfold wrap64;omega
 have hmin:min am c=am:=by omega
 clear hB hown ho2 hst hxe
 go_enter Tryz.func214,Tryz.ntmps214
 go_wp2
 all_goals first
  | (exfalso;omega)
  | skip
 go_end0
 refine ⟨rfl,HB2.out,?_,by simp,fun B h1 h2=>(bR.setCell h1 _).setCell h2 _,fun k h1 h2=>(heap_setCell_other _ (Ad gr i) k _ (fun e=>h2 e)).trans (heap_setCell_other w (Ad g 1) k _ (fun e=>h1 e))⟩;rw [List.map_set];exact HST.out
theorem yf4 (base g gr n cap i:Nat) (bs:List Int) (c d am y m z:Int) (hn:Hid (bs.length=n)) (hi:i<n) (hn2:n<=1000) (hy:Hid (bs.getD i 0=y)) (hle:¬am<=c) (hm:am-c=m) (hz:y+m=z) (hwm:wrap64 m=m) (hwz:wrap64 z=z) (hgb:g<base) (w:World)
 (hB:Blk w g 35 [sL gr 0 n cap,iV c,iV d]) (hown:w.ownsRow base 2 1 (sL gr 0 n cap) n (bs.map (Value.int .i64))) :
 Calls Tryz.prog 214 #[pV g,iV ((i:Int)+1),iV am] w (ytu base g gr n cap (bs.set i z) 0 d w):= by
 have HB:=lh hB;have HO:=lh hown;have hgr:base<=gr:=(hown.lt gr rfl).1;have hgl:=hB.lt;have hrl:gr<w.heap.size:=(hown.lt gr rfl).2;obtain ⟨c0,c1,-⟩:=hB.cs [0,1];have f1:=hB.frozen 1;have hcel:=hown.cellAt i om
 have hxe:(bs.map (Value.int .i64))[i]?=some (iV y):= by
  rw [<-hy.out];simp [List.getD,show i<bs.length by have:=hn.out;omega]
 rw [hxe] at hcel;have hfr:=hown.frozenAt i;simp only [gz,gs] at c0 c1;have ho2:(w.setCell (Ad g 1) (iZ)).ownsRow base 2 1 (sL gr 0 n cap) n (bs.map (Value.int .i64)):=yau hown hgb;obtain ⟨hst,_⟩:=ho2.stored i (iV z);have HST:=lh hst;have HB2:=lh ((hB.set 1 (iZ)).setOther (show g≠gr by omega) i (iV z));have hne:¬g=gr:=by omega
 have hne2:¬gr=g:=by omega
 have w0:wrap64 0=0:=by unfold wrap64;omega
 have hmin:min am c=c:=by omega
 have hlt:c<=am:=by omega
 clear hB hown ho2 hst hxe
 go_enter Tryz.func214,Tryz.ntmps214
 go_wp2
 all_goals first
  | (exfalso;omega)
  | skip
 go_end0
 refine ⟨rfl,HB2.out,?_,by simp,fun B h1 h2=>(bR.setCell h1 _).setCell h2 _,fun k h1 h2=>(heap_setCell_other _ (Ad gr i) k _ (fun e=>h2 e)).trans (heap_setCell_other w (Ad g 1) k _ (fun e=>h1 e))⟩;rw [List.map_set];exact HST.out
def yz3 (s:List Int×Int×Int×Int) (w:World) (e:Ending) (w':World):Prop :=
 ∃u,e=.returned (.tuple #[.agg #[u,iV s.2.1,iV s.2.2.1],iV s.2.2.2])/\Sl .i64 w' u s.1/\BW w w'
theorem Sl.nil {w:World}:Sl .i64 w (sZ) []:=⟨none,0,rfl,Nat.le_refl _,⟨by simp [maxLen],fun _=>rfl⟩,fun h=>absurd rfl h⟩
theorem ykd {all:Int} {bs:List Int} {s:Int} (h:yc0 all bs=some s) (i:Nat) (hi:i<bs.length):0<=bs.getD i 0/\bs.getD i 0<=1000000000000000:= by
 induction bs generalizing all i with
 | nil=>simp at hi
 | cons v l ih =>
  unfold yc0 at h
  by_cases hc:may0 v=true/\may0 (all+v)=true
  ·rw [if_pos hc] at h
   cases i with
   | zero=>simpa using ybv.1 hc.1
   | succ j=>simpa using ih h j (by simpa using hi)
  ·rw [if_neg hc] at h;exact absurd h (by simp)
theorem ycr {bs:List Int} {c d:Int} (h:yat bs c d=true):(0<=c/\c<=1000000000000000)/\∀i,i<bs.length->0<=bs.getD i 0/\bs.getD i 0<=1000000000000000:= by
 unfold yat at h;cases hs:yc0 0 bs with
 | none=>rw [hs] at h;exact absurd h (by simp)
 | some s =>
  rw [hs] at h;simp only [Bool.and_eq_true] at h;exact ⟨ybv.1 h.1.1.2,fun i hi=>ykd hs i hi⟩
theorem Sl.shape {k:IntKind} {w:World} {v:Value} {xs:List Int} (h:Sl k w v xs):∃ao cap,v=.slice ao xs.length cap:= by
 obtain ⟨ao,cap,rfl,_⟩:=h;exact ⟨ao,cap,rfl⟩
def Fr (w:World) (v:Value):Prop:=∀b o n c,v=sL b o n c->0<n->w.heap.size<=b
theorem ys3 {w:World} {ao:Option Addr} {n c g:Nat} (h:0<n->ao=some (Ad g 0)/\w.heap.size<=g):Fr w (.slice ao n c):= by
 intro b o m d e hm;injection e with e1 e2 e3
 subst e2;obtain ⟨h1,h2⟩:=h hm;rw [h1] at e1;cases e1;exact h2
theorem ycz {w:World}:Fr w (sZ):=fun _ _ _ _ h=>by cases h
def yb7 (s:List Int×Int×Int×Int) (w:World) (e:Ending) (w':World):Prop :=
 ∃u,e=.returned (.tuple #[.agg #[u,iV s.2.1,iV s.2.2.1],iV s.2.2.2])/\(Sl .i64 w' u s.1/\Fr w u)/\BW w w'
theorem Sl.setCell {k:IntKind} {w:World} {v:Value} {xs:List Int} {g i:Nat} (h:Sl k w v xs) (hne:∀b o n c,v=sL b o n c->0<n->b≠g) (x:Value):Sl k (w.setCell (Ad g i) x) v xs:= by
 obtain ⟨ao,cap,rfl,h1,h2,h3⟩:=h;refine ⟨ao,cap,rfl,h1,h2,fun hx=>?_⟩;obtain ⟨b,o,rfl,hc⟩:=h3 hx;have hb:=hne b o _ _ rfl (List.length_pos_iff.2 hx);refine ⟨b,o,rfl,fun j hj=>?_⟩;rw [<-hc j hj];have e:=heap_setCell_other w (Ad g i) b x (fun e=>hb e);unfold World.cell?;simp only [e]
def ybx (x:Int):Bool:=!may0 x
theorem yp9 (x:Int) (w:World):Calls Tryz.prog 222 #[iV x] w (Ret (.bool (ybx x)) w):= by
 cases h:may0 x with
 | true =>
  have hp:ybx x=false:=by simp [ybx,h]
  exact zq02a2c1
 | false =>
  have hp:ybx x=true:=by simp [ybx,h]
  exact zq02a2c1
def ytc (r0:Bool) (w:World) (e:Ending) (w':World):Prop:=∃r:Int,e=.returned (iV r)/\decide (0<=r)=r0/\w=w'
theorem yhf (v:Value) (xs:List Int) (r0:Bool) (hr0:Hid (xs.any (ybx)=r0)) (w:World) (hv:Sl .i64 w v xs) :
 Calls Tryz.prog 231 #[v,.func (.func 222) #[] #[]] w (ytc r0 w):= by
 have HV:=lh hv;obtain ⟨ao,cap,rfl,h1,⟨h2,_⟩,h3⟩:=hv;clear h3;unfold maxLen at h2
 go_enter Tryz.func231,Tryz.ntmps231
 go_wp2
 go_loopg [8] xs.length (fun g i wr=>∃k:Nat,k+g=xs.length/\i=iV k/\w=wr/\Hid (∀j,j<k->(ybx) (xs.getD j 0)=false))
 case atStart=>exact ⟨0,by omega,rfl,rfl,fun j hj=>absurd hj om⟩
 case round =>
  obtain ⟨k,hkg,rfl,rfl,HN⟩:=hrel;cases gk with
  | zero =>
   have hlt:¬((k:Int)<(xs.length:Int)):=by omega
   go_wp2
   go_ret
   refine ⟨-1,rfl,?_,rfl⟩;rw [<-hr0.out];simp only [show decide ((0:Int) <= -1)=false from by decide]
   symm
   rw [List.any_eq_false];intro y hy;obtain ⟨j,hj,rfl⟩:=List.getElem_of_mem hy;have:=HN.out j om
   simpa [List.getD,hj] using this
  | succ g =>
   have hlt:(k:Int)<(xs.length:Int):=by omega
   have hkn:k<xs.length:=by omega
   obtain ⟨b,o,x,rfl,hcell,hx⟩:=HV.out.get (i:=k) hkn;have HC:=yp9 x w;cases hp:(ybx) x with
   | true =>
    have HC':Calls Tryz.prog 222 #[iV x] w (Ret (.bool true) w):=by rw [<-hp];exact HC
    have HP:=lh hp;clear hp HC
    go_wp2_with (go_at_call 222;refine HC'.mono ?_;rintro e w' ⟨rfl,rfl⟩)
    go_ret
    refine ⟨k,rfl,?_,rfl⟩;rw [<-hr0.out]
    have e1:xs.any (ybx)=true:= by
     rw [List.any_eq_true];refine ⟨x,?_,HP.out⟩;rw [<-hx.out];simp [List.getD,hkn]
    rw [e1];simp
   | false =>
    have HC':Calls Tryz.prog 222 #[iV x] w (Ret (.bool false) w):=by rw [<-hp];exact HC
    have HP:=lh hp;clear hp HC
    go_wp2_with (go_at_call 222;refine HC'.mono ?_;rintro e w' ⟨rfl,rfl⟩)
    go_roundg g
    case measure=>omega
    case rel=>exact ⟨k+1,by omega,by go_num,rfl,fun j hj=>by
     rcases Nat.lt_succ_iff_lt_or_eq.1 hj with h' | rfl
     ·exact HN.out j h'
     ·rw [hx.out];exact HP.out⟩
theorem yd4 (v:Value) (xs:List Int) (r0:Bool) (hr0:Hid (xs.any (ybx)=r0)) (w:World) (hv:Sl .i64 w v xs) :
 Calls Tryz.prog 210 #[v,.func (.func 222) #[] #[]] w (Ret (.bool r0) w):= by
 cases r0 with
 | true =>
  go_enter Tryz.func210,Tryz.ntmps210
  go_wp2_with fail
  refine (yhf v xs true hr0 _ hv).mono ?_;rintro e w' ⟨r,rfl,hr,rfl⟩
  go_wp2_with fail
  go_ret
  exact Ret.mk _ _
 | false =>
  go_enter Tryz.func210,Tryz.ntmps210
  go_wp2_with fail
  refine (yhf v xs false hr0 _ hv).mono ?_;rintro e w' ⟨r,rfl,hr,rfl⟩
  go_wp2_with fail
  go_ret
  exact Ret.mk _ _
def yba (ns bs:List Int) (c:Int):Nat->List Int×Int
 | 0=>(bs,c)
 | k+1=>((yba ns bs c k).1.set k ((yba ns bs c k).1.getD k 0+(ns.getD k 0-min (ns.getD k 0) (yba ns bs c k).2)),(yba ns bs c k).2-min (ns.getD k 0) (yba ns bs c k).2)
def ye7 (bs:List Int) (c d:Int) (ns:List Int):List Int×Int×Int×Int :=
 if yat bs c d=false then ([],0,0,1) else
 if (ns.length == bs.length)=false then ([],0,0,1) else
 if ns.any ybx=true then ([],0,0,1) else
 if yat (yba ns bs c bs.length).1 (yba ns bs c bs.length).2 d=true then ((yba ns bs c bs.length).1,(yba ns bs c bs.length).2,d,0) else ([],0,0,5)
theorem ye9 (ns bs:List Int) (c:Int) (k:Nat):(yba ns bs c k).1.length=bs.length:= by
 induction k with
 | zero=>rfl
 | succ k ih=>simp [yba,ih]
theorem ym9 (ns bs:List Int) (c:Int) (k j:Nat) (h:k<=j):(yba ns bs c k).1.getD j 0=bs.getD j 0:= by
 induction k with
 | zero=>rfl
 | succ k ih =>
  have:=ih om;simp only [yba];rw [<-this];simp [List.getD,show k≠j by omega]
theorem ypy {ns:List Int} (h:ns.any ybx=false) (j:Nat):0<=ns.getD j 0/\ns.getD j 0<=1000000000000000:= by
 by_cases hj:j<ns.length
 ·rw [List.any_eq_false] at h
  have:=h ns[j] (List.getElem_mem hj);have e:ns.getD j 0=ns[j]:=by simp [List.getD,hj]
  rw [e];exact ybv.1 (by simpa [ybx] using this)
 ·have e:ns.getD j 0=0:=by simp [List.getD,Nat.le_of_not_lt hj]
  rw [e];omega
theorem ysc {ns bs:List Int} {c:Int} (h:ns.any ybx=false) (hc:0<=c/\c<=1000000000000000) (k:Nat):0<=(yba ns bs c k).2/\(yba ns bs c k).2<=1000000000000000:= by
 induction k with
 | zero=>exact hc
 | succ k ih =>
  have:=ypy h k;simp only [yba];omega
theorem ylp {bs:List Int} {c d:Int} (h:yat bs c d=true):1<=bs.length:= by
 unfold yat at h;cases hs:yc0 0 bs with
 | none=>rw [hs] at h;simp at h
 | some s=>rw [hs] at h;simp only [Bool.and_eq_true,decide_eq_true_eq] at h;exact h.1.1.1.1
theorem yg3 (v u:Value) (bs ns:List Int) (c d:Int) (h:Hid (yat bs c d=false\/(ns.length == bs.length)=false\/ns.any ybx=true)) (hlen:bs.length<=1000) (w:World) (hv:Sl .i64 w v bs) (hu:Sl .i64 w u ns) :
 Calls Tryz.prog 186 #[.agg #[v,iV c,iV d],u] w (yb7 ([],0,0,1) w):= by
 have HV:=lh hv;have HU:=lh hu;obtain ⟨ao,cap,rfl,h1,⟨h2,_⟩,h3⟩:=hv;clear h3;obtain ⟨ao',cap',rfl,h1',⟨h2',_⟩,h3⟩:=hu;clear h3;unfold maxLen at h2 h2'
 have HBLK:Hid (Blk ((w.alloc (.cells #[.slice ao bs.length cap,iV c,iV d] 35)).alloc (.cells #[sZ,iZ,iZ] 35)) (w.heap.size+1) 35 [sZ,iZ,iZ]):= by
  exact zq02e414
 have hB0:Blk (w.alloc (.cells #[.slice ao bs.length cap,iV c,iV d] 35)) w.heap.size 35 [.slice ao bs.length cap,iV c,iV d]:=heap_alloc_new w _;have HB0:=lh (hB0.below (yaa bR (.cells #[sZ,iZ,iZ] 35)));have HW0:Hid (BW w ((w.alloc (.cells #[.slice ao bs.length cap,iV c,iV d] 35)).alloc (.cells #[sZ,iZ,iZ] 35))):=yaa (yaa bR _) _;clear hB0;cases hq:yat bs c d with
 | false =>
  have HQ:=lh hq;clear hq
  go_enter Tryz.func186,Tryz.ntmps186
  go_wp2_with fail
  refine (ya0 _ bs c d _ HQ om _ (HV.out.below HW0.out)).mono ?_;rintro _ w1 ⟨rfl,hb1⟩;have HR1:=lh (HBLK.out.below hb1);have HB1:=lh (HB0.out.below hb1);have hbf:=yad HW0.out hb1;clear hb1;exact zq021c2f
 | true =>
  have HQ:=lh hq
  by_cases hl:ns.length=bs.length
  ·have d1:((ns.length:Int) != (bs.length:Int))=false:=by simp [hl]
   have hany:Hid (ns.any ybx=true):= by
    rcases h.out with h' | h' | h'
    ·rw [hq] at h';exact absurd h' (by simp)
    ·simp [hl] at h'
    ·exact h'
   clear hq hl
   go_enter Tryz.func186,Tryz.ntmps186
   go_wp2_with fail
   refine (ya0 _ bs c d _ HQ om _ (HV.out.below HW0.out)).mono ?_;rintro _ w1 ⟨rfl,hb1⟩;have HR1:=lh (HBLK.out.below hb1);have HB1:=lh (HB0.out.below hb1);have hbf:=yad HW0.out hb1;clear hb1;have hB1:=HB1.out;obtain ⟨c0,c1,c2,-⟩:=hB1.cs [0,1,2];simp only [gz,gs] at c0 c1 c2;clear hB1
   go_wp2_with fail
   refine (yd4 _ ns true hany _ (HU.out.below hbf)).mono ?_;rintro _ w2 ⟨rfl,rfl⟩;exact zq021c2f
  ·have d1:((ns.length:Int) != (bs.length:Int))=true:=by simp;omega
   clear hq hl
   go_enter Tryz.func186,Tryz.ntmps186
   go_wp2_with fail
   refine (ya0 _ bs c d _ HQ om _ (HV.out.below HW0.out)).mono ?_;rintro _ w1 ⟨rfl,hb1⟩;have HR1:=lh (HBLK.out.below hb1);have HB1:=lh (HB0.out.below hb1);have hbf:=yad HW0.out hb1;clear hb1;have hB1:=HB1.out;obtain ⟨c0,c1,c2,-⟩:=hB1.cs [0,1,2];simp only [gz,gs] at c0 c1 c2;clear hB1;exact zq021c2f
theorem ypj (v u:Value) (bs ns:List Int) (c d:Int) (hr:Hid (yat bs c d=true)) (hl:ns.length=bs.length) (hany:Hid (ns.any ybx=false)) (Lf:List Int) (Cf:Int) (HF:Hid (yba ns bs c bs.length=(Lf,Cf))) (hq:Hid (yat Lf Cf d=true)) (hlen:bs.length<=1000) (w:World) (hv:Sl .i64 w v bs) (hu:Sl .i64 w u ns) :
 Calls Tryz.prog 186 #[.agg #[v,iV c,iV d],u] w (yb7 (Lf,Cf,d,0) w):= by
 have HV:=lh hv;have HU:=lh hu;obtain ⟨ao,cap,rfl,h1,⟨h2,_⟩,h3⟩:=hv;clear h3;obtain ⟨ao',cap',rfl,h1',⟨h2',_⟩,h3⟩:=hu;clear h3;unfold maxLen at h2 h2'
 have HBLK:Hid (Blk ((w.alloc (.cells #[.slice ao bs.length cap,iV c,iV d] 35)).alloc (.cells #[sZ,iZ,iZ] 35)) (w.heap.size+1) 35 [sZ,iZ,iZ]):= by
  exact zq02e414
 have hB0:Blk (w.alloc (.cells #[.slice ao bs.length cap,iV c,iV d] 35)) w.heap.size 35 [.slice ao bs.length cap,iV c,iV d]:=heap_alloc_new w _;have HB0:=lh (hB0.below (yaa bR (.cells #[sZ,iZ,iZ] 35)));have HW0:Hid (BW w ((w.alloc (.cells #[.slice ao bs.length cap,iV c,iV d] 35)).alloc (.cells #[sZ,iZ,iZ] 35))):=yaa (yaa bR _) _;clear hB0;have HQ:=hr;have d1:((ns.length:Int) != (bs.length:Int))=false:=by simp [hl]
 have HL:=lh hl;have hmay:=ycr hr.out;have hpos:1<=bs.length:=ylp hr.out;have HC:=lh (fun k=>ysc (bs:=bs) hany.out hmay.1 k);have HM:=lh (fun k=>ypy hany.out k);have HBM:=lh hmay.2;have HARG:=lh (And.intro hpos hlen);clear hl hmay
 go_enter Tryz.func186,Tryz.ntmps186
 go_wp2_with fail
 refine (ya0 _ bs c d _ HQ om _ (HV.out.below HW0.out)).mono ?_;rintro _ w1 ⟨rfl,hb1⟩;have HR1:=lh (HBLK.out.below hb1);have HB1:=lh (HB0.out.below hb1);have hbf:=yad HW0.out hb1;clear hb1;have hB1:=HB1.out;obtain ⟨c0,c1,c2,-⟩:=hB1.cs [0,1,2];simp only [gz,gs] at c0 c1 c2;clear hB1
 go_wp2_with fail
 refine (yd4 _ ns false hany _ (HU.out.below hbf)).mono ?_;rintro _ w2 ⟨rfl,rfl⟩;have hz1:=hbf.size
 go_wp2_with fail
 refine (yex _ bs c d HARG.out.2 _ (HV.out.below hbf)).mono ?_;rintro _ w2 ⟨q,rfl,hown,hb2⟩;obtain ⟨gr,capr,rfl⟩:=ya5 hown (by have:=HARG.out.1;omega);obtain ⟨n,hn⟩:∃n,bs.length=n:=⟨_,rfl⟩;have HN:=lh hn;obtain ⟨base,hbase⟩:∃B,w1.heap.size+2=B:=⟨_,rfl⟩;rw [hn] at hown ⊢;rw [hbase] at hown;have hgb:w.heap.size<base:=by have:=HR1.out.lt;omega
 have hgb2:w.heap.size+1<base:=by have:=HR1.out.lt;omega
 have hB2:=HB1.out.below hb2;obtain ⟨f0,f1,f2,-⟩:=hB2.fs [0,1,2];clear c0 c1 c2;obtain ⟨c0,c1,c2,-⟩:=hB2.cs [0,1,2];simp only [gz,gs] at c0 c1 c2;have HB2:=lh hB2;have HOWN:=lh hown;have hgr:=(hown.lt gr rfl).1;have hz2:=hb2.size;have HBF2:=lh (yad hbf hb2);have HR2:=lh (HR1.out.below hb2);have HBase:=lh hbase;have d2:ns.length=n:=HL.out.trans HN.out;have HD2:=lh d2;clear hB2 hown hb2 hn hbase d1 d2
 go_wp2_with fail
 go_loopg [28] n (fun g i wr=>∃(k:Nat),k+g=n/\i=iV k/\Hid (Blk wr w.heap.size 35 [sL gr 0 n capr,iV (yba ns bs c k).2,iV d]/\wr.ownsRow base 2 1 (sL gr 0 n capr) n ((yba ns bs c k).1.map (Value.int .i64))/\Blk wr (w.heap.size+1) 35 [sZ,iZ,iZ]/\BW w wr))
 case atStart =>
  exact zq023028
 case round =>
  obtain ⟨k,hkg,rfl,HI⟩:=hrel;clear c0 c1 c2 f0 f1 f2;cases gk with
  | succ g =>
   exact zq026562
  | zero =>
   obtain rfl:k=n:=by omega
   have hlt:¬((k:Int)<(ns.length:Int)):=by have:=HD2.out;omega
   have hll:=ye9 ns bs c bs.length;have hq2:=hq.out;have hn:=HN.out;have HI2:=HI.out;have hF:=HF.out;rw [hn] at hll hF;rw [hF] at HI2 hll;simp only at HI2 hll;obtain ⟨hB3,hown3,hR3,hb3⟩:=HI2;obtain ⟨c0,c1,c2,-⟩:=hB3.cs [0,1,2];simp only [gz,gs] at c0 c1 c2;obtain ⟨cur,hBR,hnc,hcm,hcl,htk,_⟩:=ya8 hown3;have HTK:Hid (cur.take k=Lf.map (Value.int .i64)):=by show _=_;simpa using htk
   have HLN:=lh hll;have HSL:=lh (Sl.of_own hown3 hll);have HJ:Hid (ybt (sL gr 0 k capr) Lf Cf d=.tuple #[.agg #[sL gr 0 k capr,iV Cf,iV d],iZ]):=by show _=_;unfold ybt;rw [hq2];rfl
   have HR3:=lh hR3;have HBR:=lh hBR;have HB3:=lh hb3;have HLL:Hid (Lf.length<=1000000):=by show _<=_;have:=HARG.out.2;omega
   clear hB3 hown3 hb3 hR3 hBR hcl htk HBF2 HR2 HB2 HOWN hll hq2 hn HI HARG HC HM HBM
   go_wp2_with fail
   refine (ych _ Lf Cf d _ HJ HLL.out _ HSL.out).mono ?_;rintro _ w4 ⟨rfl,hb4⟩;have hR4:=HR3.out.below hb4;obtain ⟨r0,r1,r2,-⟩:=hR4.cs [0,1,2];simp only [gz,gs] at r0 r1 r2;obtain ⟨e0,e1,e2,-⟩:=hR4.fs [0,1,2];have hbf:=yad HB3.out hb4;have HBR4:=lh (HBR.out.below hb4);have hlt4:=hR4.lt;clear hR4 hb4 c0 c1 c2;go_wp2
   refine bodyPost_ret (v:=.tuple #[.agg #[sL gr 0 k capr,iV Cf,iV d],iZ]) (by simp [results,Tryz.results186,go_sem,r0,r1,r2]) rfl ⟨sL gr 0 k capr,rfl,⟨Sl.of_blk (((HBR4.out.setOther om 0 _).setOther om 1 _).setOther om 2 _) HLN.out hnc hcm HTK.out,ys3 fun _=>⟨rfl,by omega⟩⟩,yd5 hbf om _ _ _⟩
theorem yo3 (v u:Value) (bs ns:List Int) (c d:Int) (hr:Hid (yat bs c d=true)) (hl:ns.length=bs.length) (hany:Hid (ns.any ybx=false)) (Lf:List Int) (Cf:Int) (HF:Hid (yba ns bs c bs.length=(Lf,Cf))) (hq:Hid (yat Lf Cf d=false)) (hlen:bs.length<=1000) (w:World) (hv:Sl .i64 w v bs) (hu:Sl .i64 w u ns) :
 Calls Tryz.prog 186 #[.agg #[v,iV c,iV d],u] w (yb7 ([],0,0,5) w):= by
 have HV:=lh hv;have HU:=lh hu;obtain ⟨ao,cap,rfl,h1,⟨h2,_⟩,h3⟩:=hv;clear h3;obtain ⟨ao',cap',rfl,h1',⟨h2',_⟩,h3⟩:=hu;clear h3;unfold maxLen at h2 h2'
 have HBLK:Hid (Blk ((w.alloc (.cells #[.slice ao bs.length cap,iV c,iV d] 35)).alloc (.cells #[sZ,iZ,iZ] 35)) (w.heap.size+1) 35 [sZ,iZ,iZ]):= by
  exact zq02e414
 have hB0:Blk (w.alloc (.cells #[.slice ao bs.length cap,iV c,iV d] 35)) w.heap.size 35 [.slice ao bs.length cap,iV c,iV d]:=heap_alloc_new w _;have HB0:=lh (hB0.below (yaa bR (.cells #[sZ,iZ,iZ] 35)));have HW0:Hid (BW w ((w.alloc (.cells #[.slice ao bs.length cap,iV c,iV d] 35)).alloc (.cells #[sZ,iZ,iZ] 35))):=yaa (yaa bR _) _;clear hB0;have HQ:=hr;have d1:((ns.length:Int) != (bs.length:Int))=false:=by simp [hl]
 have HL:=lh hl;have hmay:=ycr hr.out;have hpos:1<=bs.length:=ylp hr.out;have HC:=lh (fun k=>ysc (bs:=bs) hany.out hmay.1 k);have HM:=lh (fun k=>ypy hany.out k);have HBM:=lh hmay.2;have HARG:=lh (And.intro hpos hlen);clear hl hmay
 go_enter Tryz.func186,Tryz.ntmps186
 go_wp2_with fail
 refine (ya0 _ bs c d _ HQ om _ (HV.out.below HW0.out)).mono ?_;rintro _ w1 ⟨rfl,hb1⟩;have HR1:=lh (HBLK.out.below hb1);have HB1:=lh (HB0.out.below hb1);have hbf:=yad HW0.out hb1;clear hb1;have hB1:=HB1.out;obtain ⟨c0,c1,c2,-⟩:=hB1.cs [0,1,2];simp only [gz,gs] at c0 c1 c2;clear hB1
 go_wp2_with fail
 refine (yd4 _ ns false hany _ (HU.out.below hbf)).mono ?_;rintro _ w2 ⟨rfl,rfl⟩;have hz1:=hbf.size
 go_wp2_with fail
 refine (yex _ bs c d HARG.out.2 _ (HV.out.below hbf)).mono ?_;rintro _ w2 ⟨q,rfl,hown,hb2⟩;obtain ⟨gr,capr,rfl⟩:=ya5 hown (by have:=HARG.out.1;omega);obtain ⟨n,hn⟩:∃n,bs.length=n:=⟨_,rfl⟩;have HN:=lh hn;obtain ⟨base,hbase⟩:∃B,w1.heap.size+2=B:=⟨_,rfl⟩;rw [hn] at hown ⊢;rw [hbase] at hown;have hgb:w.heap.size<base:=by have:=HR1.out.lt;omega
 have hgb2:w.heap.size+1<base:=by have:=HR1.out.lt;omega
 have hB2:=HB1.out.below hb2;obtain ⟨f0,f1,f2,-⟩:=hB2.fs [0,1,2];clear c0 c1 c2;obtain ⟨c0,c1,c2,-⟩:=hB2.cs [0,1,2];simp only [gz,gs] at c0 c1 c2;have HB2:=lh hB2;have HOWN:=lh hown;have hgr:=(hown.lt gr rfl).1;have hz2:=hb2.size;have HBF2:=lh (yad hbf hb2);have HR2:=lh (HR1.out.below hb2);have HBase:=lh hbase;have d2:ns.length=n:=HL.out.trans HN.out;have HD2:=lh d2;clear hB2 hown hb2 hn hbase d1 d2
 go_wp2_with fail
 go_loopg [28] n (fun g i wr=>∃(k:Nat),k+g=n/\i=iV k/\Hid (Blk wr w.heap.size 35 [sL gr 0 n capr,iV (yba ns bs c k).2,iV d]/\wr.ownsRow base 2 1 (sL gr 0 n capr) n ((yba ns bs c k).1.map (Value.int .i64))/\Blk wr (w.heap.size+1) 35 [sZ,iZ,iZ]/\BW w wr))
 case atStart =>
  exact zq023028
 case round =>
  obtain ⟨k,hkg,rfl,HI⟩:=hrel;clear c0 c1 c2 f0 f1 f2;cases gk with
  | succ g =>
   exact zq026562
  | zero =>
   obtain rfl:k=n:=by omega
   have hlt:¬((k:Int)<(ns.length:Int)):=by have:=HD2.out;omega
   have hll:=ye9 ns bs c bs.length;have hq2:=hq.out;have hn:=HN.out;have HI2:=HI.out;have hF:=HF.out;rw [hn] at hll hF;rw [hF] at HI2 hll;simp only at HI2 hll;obtain ⟨hB3,hown3,hR3,hb3⟩:=HI2;obtain ⟨c0,c1,c2,-⟩:=hB3.cs [0,1,2];simp only [gz,gs] at c0 c1 c2;obtain ⟨cur,hBR,hnc,hcm,hcl,htk,_⟩:=ya8 hown3;have HTK:Hid (cur.take k=Lf.map (Value.int .i64)):=by show _=_;simpa using htk
   have HLN:=lh hll;have HSL:=lh (Sl.of_own hown3 hll);have HJ:Hid (ybt (sL gr 0 k capr) Lf Cf d=.tuple #[.agg #[sZ,iZ,iZ],iV 5]):=by show _=_;unfold ybt;rw [hq2];rfl
   have HR3:=lh hR3;have HBR:=lh hBR;have HB3:=lh hb3;have HLL:Hid (Lf.length<=1000000):=by show _<=_;have:=HARG.out.2;omega
   clear hB3 hown3 hb3 hR3 hBR hcl htk HBF2 HR2 HB2 HOWN hll hq2 hn HI HARG HC HM HBM
   go_wp2_with fail
   refine (ych _ Lf Cf d _ HJ HLL.out _ HSL.out).mono ?_;rintro _ w4 ⟨rfl,hb4⟩;have hR4:=HR3.out.below hb4;obtain ⟨r0,r1,r2,-⟩:=hR4.cs [0,1,2];simp only [gz,gs] at r0 r1 r2;obtain ⟨e0,e1,e2,-⟩:=hR4.fs [0,1,2];have hbf:=yad HB3.out hb4;have HBR4:=lh (HBR.out.below hb4);have hlt4:=hR4.lt;clear hR4 hb4 c0 c1 c2;go_wp2
   refine bodyPost_ret (v:=.tuple #[.agg #[sZ,iZ,iZ],iV 5]) (by simp [results,Tryz.results186,go_sem,r0,r1,r2]) rfl ⟨sZ,rfl,⟨Sl.nil,ycz⟩,yd5 hbf om _ _ _⟩
theorem yhg (v u:Value) (bs ns:List Int) (c d:Int) (s:List Int×Int×Int×Int) (hs:Hid (ye7 bs c d ns=s)) (hlen:bs.length<=1000) (w:World) (hv:Sl .i64 w v bs) (hu:Sl .i64 w u ns) :
 Calls Tryz.prog 186 #[.agg #[v,iV c,iV d],u] w (yb7 s w):= by
 have hs:=hs.out;subst hs;unfold ye7;cases hr:yat bs c d with
 | false=>rw [if_pos rfl];exact yg3 v u bs ns c d (.inl hr) hlen w hv hu
 | true =>
  rw [if_neg (by simp)];cases hl:(ns.length == bs.length) with
  | false=>rw [if_pos rfl];exact yg3 v u bs ns c d (.inr (.inl hl)) hlen w hv hu
  | true =>
   rw [if_neg (by simp)];cases ha:ns.any ybx with
   | true=>rw [if_pos rfl];exact yg3 v u bs ns c d (.inr (.inr ha)) hlen w hv hu
   | false =>
    rw [if_neg (by simp)];cases hq:yat (yba ns bs c bs.length).1 (yba ns bs c bs.length).2 d with
    | true=>rw [if_pos rfl];exact ypj v u bs ns c d hr (by simpa using hl) ha _ _ rfl hq hlen w hv hu
    | false=>rw [if_neg (by simp)];exact yo3 v u bs ns c d hr (by simpa using hl) ha _ _ rfl hq hlen w hv hu
theorem yoo (v u:Value) (bs ns:List Int) (c d:Int) (s:List Int×Int×Int×Int) (hs:Hid (ye7 bs c d ns=s)) (hlen:bs.length<=1000) (w:World) (hv:Sl .i64 w v bs) (hu:Sl .i64 w u ns) :
 Calls Tryz.prog 186 #[.agg #[v,iV c,iV d],u] w (yz3 s w) :=
 (yhg v u bs ns c d s hs hlen w hv hu).mono fun _ _ ⟨u,h1,⟨h2,_⟩,h3⟩=>⟨u,h1,h2,h3⟩
namespace DivM
def Inv (u l y1 y0 q r:Nat):Prop:=q*y1+r=u/\(u*4294967296+l)/(y1*4294967296+y0)<=q
theorem inv_start (u l y1 y0:Nat) (hl:l<4294967296) (h1:0<y1):Inv u l y1 y0 (u/y1) (u%y1):= by
 refine ⟨Nat.div_add_mod' u y1,?_⟩
 have h:(u*4294967296+l)/(y1*4294967296)=u/y1:= by
  rw [Nat.mul_comm y1,<-Nat.div_div_eq_div_mul]
  congr 1;omega
 rw [<-h];exact Nat.div_le_div_left om om
theorem digit_lt (u l y1 y0:Nat) (hl:l<4294967296) (hu:u<y1*4294967296+y0):(u*4294967296+l)/(y1*4294967296+y0)<4294967296:= by
 obtain ⟨Y,hY⟩:∃Y,y1*4294967296+y0=Y:=⟨_,rfl⟩;rw [hY] at hu ⊢;rw [Nat.div_lt_iff_lt_mul om];omega
theorem le_digit {u l y1 y0 q r:Nat} (h:q*y1+r=u) (hY:0<y1*4294967296+y0) (hq:q*y0<=4294967296*r+l):q<=(u*4294967296+l)/(y1*4294967296+y0):= by
 rw [Nat.le_div_iff_mul_le hY,Nat.mul_add,<-Nat.mul_assoc];generalize q*y1=A at *;generalize q*y0=B at *;omega
theorem digit_lt_of {u l y1 y0 q r:Nat} (h:q*y1+r=u) (hY:0<y1*4294967296+y0) (hq:4294967296*r+l<q*y0):(u*4294967296+l)/(y1*4294967296+y0)<q:= by
 rw [Nat.div_lt_iff_lt_mul hY,Nat.mul_add,<-Nat.mul_assoc];generalize q*y1=A at *;generalize q*y0=B at *;omega
theorem inv_done {u l y1 y0 q r:Nat} (h:Inv u l y1 y0 q r) (hY:0<y1*4294967296+y0) (hq:q*y0<=4294967296*r+l):q=(u*4294967296+l)/(y1*4294967296+y0) :=
 Nat.le_antisymm (le_digit h.1 hY hq) h.2
theorem inv_step {u l y1 y0 q r:Nat} (h:Inv u l y1 y0 q r) (hl:l<4294967296) (hu:u<y1*4294967296+y0) (hq:4294967296<=q\/4294967296*r+l<q*y0):1<=q/\Inv u l y1 y0 (q-1) (r+y1):= by
 have hlt:(u*4294967296+l)/(y1*4294967296+y0)<q:= by
  rcases hq with hq | hq
  ·have:=digit_lt u l y1 y0 hl hu;omega
  ·exact digit_lt_of h.1 om hq
 have h2:=h.2;have h1:=h.1;clear h;obtain ⟨D,hD⟩:∃D,(u*4294967296+l)/(y1*4294967296+y0)=D:=⟨_,rfl⟩;unfold Inv;rw [hD] at hlt ⊢;clear hD h2 hq hu;refine ⟨by omega,?_,by omega⟩;obtain ⟨k,rfl⟩:∃k,q=k+1:=⟨q-1,by omega⟩;rw [Nat.add_sub_cancel];rw [Nat.add_mul,Nat.one_mul] at h1;omega
theorem inv_break {u l y1 y0 q r:Nat} (h:Inv u l y1 y0 q r) (hY:0<y1*4294967296+y0) (h0:y0<4294967296) (hq:q<=4294967296) (hr:4294967296<=r):q=(u*4294967296+l)/(y1*4294967296+y0):= by
 refine inv_done h hY ?_;have:q*y0<=4294967296*4294967295:=Nat.mul_le_mul hq om;omega
theorem start_le {u y1 y0:Nat} (hu:u<y1*4294967296+y0) (h0:y0<4294967296) (h1:2147483648<=y1):u/y1<=4294967297:= by
 have:u/y1<4294967298:= by
  rw [Nat.div_lt_iff_lt_mul om];omega
 omega
theorem two_digits (u l1 l0 Y:Nat) (hY:0<Y) :
 (u*4294967296+l1)/Y*4294967296+((u*4294967296+l1)%Y*4294967296+l0)/Y=((u*4294967296+l1)*4294967296+l0)/Y /\
 ((u*4294967296+l1)%Y*4294967296+l0)%Y=((u*4294967296+l1)*4294967296+l0)%Y:= by
 obtain ⟨A,hA⟩:∃A,u*4294967296+l1=A:=⟨_,rfl⟩;rw [hA];obtain ⟨B,hB⟩:∃B,A*4294967296+l0=B:=⟨_,rfl⟩;rw [hB];obtain ⟨C,hC⟩:∃C,A%Y*4294967296+l0=C:=⟨_,rfl⟩;rw [hC];obtain ⟨D,hD⟩:∃D,A/Y*4294967296=D:=⟨_,rfl⟩;rw [hD]
 have e:B=C+Y*D:= by
  have:=Nat.div_add_mod A Y;rw [<-hD,<-Nat.mul_assoc];generalize Y*(A/Y)=B at *;omega
 rw [e]
 constructor
 ·rw [Nat.add_mul_div_left _ _ hY];omega
 ·rw [Nat.add_mul_mod_self_left]
theorem shifted (n y s:Nat):n*2 ^ s/(y*2 ^ s)=n/y/\n*2 ^ s%(y*2 ^ s)/2 ^ s=n%y:= by
 have h2:0<2 ^ s:=Nat.two_pow_pos s;refine ⟨Nat.mul_div_mul_right _ _ h2,?_⟩;rw [Nat.mul_mod_mul_right,Nat.mul_div_cancel _ h2]
end DivM
end Go.Proofs.YtkongpjpkpfniaaGreat

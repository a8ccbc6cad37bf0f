/- TopTicks: parts of the proof, made small by a program (mini.py). -/
import Derived.BigQuiet
import Derived.Deep.QuietTactic
import Derived.Test.YtkongpjpkpfniaaGreatT01
import Derived.Test.YtkongpjpkpfniaaGreatT03
import Derived.Test.YtkongpjpkpfniaaGreatT06
set_option linter.unusedVariables false
set_option linter.unusedSimpArgs false
set_option maxRecDepth 100000
set_option maxHeartbeats 6400000
namespace Go.Proofs.YtkongpjpkpfniaaGreat
open Go.RowKit
theorem zq076c37 {q:Prop} (h:q:= by
 have:=ydz (bal:=bs) (ks:=ycx rates k) ham1 hb0 (ycx rates k).length;have e:=HP.out;unfold ybq at e;rw [e] at this;exact this):q:=h
theorem zq07e414 {q:Prop} (h:q:= by
 have:=heap_alloc_new (w.alloc (.cells #[.slice ao bs.length cap,iV c,iV d] 35)) (.cells #[sZ,iZ,iZ] 35)
 simpa [Blk,Hid] using this):q:=h
theorem zq071b0b {q:Prop} (h:q:= by
 refine ⟨_,rfl,?_,?_,?_,?_,?_,by simp⟩
 ·exact (((HB3.out.set 0 _).set 1 _).set 2 _).below (yaa bR _)
 ·exact (((HNR.out.setOther om 0 _).setOther om 1 _).setOther om 2 _).below (yaa bR _)
 ·exact (((HR3.out.setOther om 0 _).setOther om 1 _).setOther om 2 _).below (yaa bR _)
 ·exact yaa (yd5 HBF3.out om _ _ _) _
 ·refine yct (g:=w3.heap.size) (cur:=[iV k]) ?_ (Nat.le_refl _) (Nat.le_refl _) (by unfold maxLen;omega) rfl rfl
  have:=heap_alloc_new (((w3.setCell (Ad w.heap.size 0) (sL gr 0 n capr)).setCell (Ad w.heap.size 1) (iV c)).setCell (Ad w.heap.size 2) (iV d)) (.cells #[iV k] 3)
  simpa [Blk] using this):q:=h
theorem zq07d5bf {q:Prop} (h:q:= by
 have hlt:(m:Int)<(j:Int):=by omega
 have hkn:m<j:=by omega
 obtain ⟨hBp,hNm,hRr,hbw,hSq⟩:=HJ.out;obtain ⟨b',o',y,e,hcell,HY⟩:=hSq.get (i:=m) (by have:=HLn.out;omega);cases e;simp only [Nat.zero_add] at hcell;have hml:=yfl (k:=m) HSLn.out HN.out (Nat.le_of_lt hkn);have c5:=hNm.cell (i:=m) om;rw [yjl HSLn.out HN.out hkn] at c5;have f5:=hNm.frozen m;have c0:=hBp.cell 0;simp only [List.getElem?_cons_zero] at c0;have hsub:=yec (a:=bs) (b:=l) (i:=m) (by have:=HN.out;omega) (by have:=HLn.out;omega);have hlr:=HLR.out m (by have:=HN.out;omega);have hmy:=HMAY.out m (by have:=HN.out;omega);rw [HY.out] at hlr hsub;generalize bs.getD m 0=x at c5 hsub hlr hmy;have HS:=lh hsub;have HX:=lh (And.intro hBp (And.intro hNm (And.intro hRr (And.intro hbw hSq))));have hnc2:m<capr:=by omega
 have hnc3:m<cq:=by omega
 clear hsub hNm hBp hRr hbw hSq hml HJ
 go_wp2_with fail
 go_roundg g
 case measure=>omega
 case rel =>
  refine ⟨m+1,by omega,by go_num,?_⟩;obtain ⟨hBp,hNm,hRr,hbw,hSq⟩:=HX.out;have hq3:=HGQ.out;refine ⟨hBp.setOther om _ _,?_,hRr.setOther om _ _,hbw.setCell (show w.heap.size<=gr by omega) _,hSq.setCell (fun b o m' c' e hm=>by cases e;omega) _⟩;have e:=yjp HSLn.out HN.out hkn;rw [HS.out] at e;rw [<-e];exact hNm.set m (x-y)):q:=h
theorem zq07fad9 {q:Prop} (h:q:= by
 have hlt:(j:Int)<(n:Int):=by omega
 obtain ⟨b,o,y,e,hcell,HY⟩:=(Sl.of_own HOHw.out HHL.out).get (i:=j) (by have:=HHL.out;omega);cases e;simp only [Nat.zero_add] at hcell;have hst:=ys2 (rates:=rates) (k:=k) (y:=y) (j:=j) (by rw [HHD.out];have:=HHL.out;omega) (by rw [HHD.out];exact HY.out);rw [HHD.out] at hst;have hncc:j<ch:=by omega
 by_cases hyk:y=k
 ·have e1:(y != k)=false:=by simp [hyk]
  rw [if_neg (by rw [e1];simp),<-HXS.out] at hst;have HST:Hid (xs=k::(hh.take (j+1)).filter (fun x=>x != k)):=hst.symm;have HXL2:Hid (xs.length<=j+1+1):=by show _<=_;have:=HXL.out;omega
  clear hst hyk
  go_wp2_with fail
  go_roundg g
  case measure=>omega
  case rel=>exact ⟨j+1,xs,by omega,by go_num,HST,HXL2,HO,HOHw,HBL,HBW⟩
 ·have e1:(y != k)=true:=by simp [hyk]
  rw [if_pos e1,<-HXS.out] at hst;have HST:Hid (xs++[y]=k::(hh.take (j+1)).filter (fun x=>x != k)):=hst.symm;have HXL2:Hid ((xs++[y]).length<=j+1+1):=by show _<=_;have:=HXL.out;simp;omega
  have hxl:xs.length<=1001:=by have:=HXL.out;have:=HN1000.out;omega
  have hbs:w3.heap.size<=wr.heap.size:=by have:=HBW.out.size;have:=HSZ4.out;omega
  have hb4s:w4.heap.size<=wr.heap.size:=HBW.out.size;have hA:=HO.out;clear hst hyk
  go_wp2_with (at_builtin;refine yas _ rfl (.tmp 49) (.tmp 51) 266 rfl w3.heap.size 3 i0 (iZ) 1 8 Tryz.underlying266 hi hz0 hz1' hz2' rfl (by decide) _ _ _ rfl (hA.alloc _) (Ad wr.heap.size 0) 1 1 [_] rfl rfl (cell_one_new _ _ _) (fun x hx=>by simp at hx;subst hx;rfl) (by unfold maxLen;omega) om (by simp;omega) ?_;intro v1 w5 hown1 hg1 hbk1)
  have HO5:Hid (w5.ownsRow w3.heap.size 3 1 v1 (xs++[y]).length ((xs++[y]).map (Value.int .i64))):= by
   have h:=hown1;show World.ownsRow _ _ _ _ _ _ _
   simpa using h
  have HOH5:Hid (w5.ownsRow (w3.heap.size+1) 3 1 (sL gh 0 n ch) n (hh.map (Value.int .i64))):= by
   refine (HOHw.out.alloc _).kept hg1 (.inr ?_);intro e0;have e:(Value.slice (some (Ad gh 0)) n ch).ownBlock=u11.ownBlock:=e0;have h1:=HGH.out;rcases HBL.out with h | h
   ·have e2:some gh=some w3.heap.size:=e.trans h
    injection e2 with e3
    omega
   ·have:=h gh e.symm;omega
  have HBL5:Hid (v1.ownBlock=some w3.heap.size\/∀b,v1.ownBlock=some b->w4.heap.size<=b):= by
   rcases hbk1 with h | h
   ·show _\/_;rw [h];exact HBL.out
   ·right
    intro b hb;rw [h] at hb;cases hb;simp only [World.size_alloc] at *;omega
  have HBW5:Hid (Below w3.heap.size w4 w5):=(HBW.out.alloc hbs _).grown hg1 (by rw [World.size_alloc];omega) (fun q hq=>(hA.lt q hq).1);clear hown1 hg1 hbk1 hA
  go_wp2_with fail
  go_roundg g
  case measure=>omega
  case rel=>exact ⟨j+1,_,by omega,by go_num,HST,HXL2,HO5,HOH5,HBL5,HBW5⟩):q:=h
theorem yro:(Tryz.prog.info? 3).map (fun i=>(i.zero,i.size,i.bytes))=some (some (iZ),1,8):=by kernel_rfl
theorem ym5 (v u:Value) (bs rates:List Int) (c d k am e:Int) (HE:Hid (yb1 bs c d am [k]=e)) (hne:(e != 0)=true) (hlen:bs.length<=1000) (w:World) (hv:Sl .i64 w v bs) (hu:Sl .i64 w u rates) :
 Calls Tryz.prog 182 #[.agg #[v,iV c,iV d],u,iV k,iV am] w (yb7 ([],0,0,e) w):= by
 have HV:=lh hv;have HU:=lh hu;obtain ⟨ao,cap,rfl,h1,⟨h2,_⟩,h3⟩:=hv;clear h3;obtain ⟨ao',cap',rfl,h1',⟨h2',_⟩,h3⟩:=hu;clear h3;unfold maxLen at h2 h2'
 have HBLK:Hid (Blk ((w.alloc (.cells #[.slice ao bs.length cap,iV c,iV d] 35)).alloc (.cells #[sZ,iZ,iZ] 35)) (w.heap.size+1) 35 [sZ,iZ,iZ]):= by
  exact zq07e414
 have hB0:Blk (w.alloc (.cells #[.slice ao bs.length cap,iV c,iV d] 35)) w.heap.size 35 [.slice ao bs.length cap,iV c,iV d]:=heap_alloc_new w _;have HB0:=lh (hB0.below (yaa bR (.cells #[sZ,iZ,iZ] 35)));have HW0:Hid (BW w ((w.alloc (.cells #[.slice ao bs.length cap,iV c,iV d] 35)).alloc (.cells #[sZ,iZ,iZ] 35))):=yaa (yaa bR _) _;clear hB0
 go_enter Tryz.func182,Tryz.ntmps182
 go_wp2_with fail
 obtain ⟨W,hW,gB,gR,gw,gS,gV⟩:∃W,(((w.alloc (.cells #[.slice ao bs.length cap,iV c,iV d] 35)).alloc (.cells #[sZ,iZ,iZ] 35)).alloc (.cells #[iV k] 3))=W/\Hid (Blk W w.heap.size 35 [.slice ao bs.length cap,iV c,iV d])/\Hid (Blk W (w.heap.size+1) 35 [sZ,iZ,iZ])/\Hid (BW w W)/\Hid (Sl .i64 W (sL (w.heap.size+1+1) 0 1 1) [k])/\Hid (Sl .i64 W (.slice ao bs.length cap) bs) :=
  ⟨_,rfl,HB0.out.below (yaa bR _),HBLK.out.below (yaa bR _),yaa HW0.out _,Sl.litAt _ _ [k] 1 _ rfl _ rfl (by unfold maxLen;omega) (by simp),HV.out.below (yaa HW0.out _)⟩
 with_reducible rw [hW]
 clear hW HB0 HBLK HW0;refine (yb5 _ bs c d am _ [k] e HE om (by simp) _ gV.out gS.out).mono ?_;rintro _ w1 ⟨rfl,hb1⟩;have HR1:=lh (gR.out.below hb1);have HB1:=lh (gB.out.below hb1);have hbf:=yad gw.out hb1;clear gB gR gS gV gw hb1;have hR:=HR1.out;obtain ⟨r0,r1,r2,-⟩:=hR.cs [0,1,2];simp only [gz,gs] at r0 r1 r2;obtain ⟨f0,f1,f2,-⟩:=hR.fs [0,1,2];have hlt:=hR.lt;clear hR;go_wp2
 refine bodyPost_ret (v:=.tuple #[.agg #[sZ,iZ,iZ],iV e]) (by simp [results,Tryz.results182,go_sem,r0,r1,r2]) rfl ⟨sZ,rfl,⟨Sl.nil,ycz⟩,yd5 hbf om _ _ _⟩
theorem yoq (v u:Value) (bs rates:List Int) (c d k am:Int) (HE:Hid (yb1 bs c d am [k]=0)) (hl:¬rates.length=bs.length) (hlen:bs.length<=1000) (w:World) (hv:Sl .i64 w v bs) (hu:Sl .i64 w u rates) :
 Calls Tryz.prog 182 #[.agg #[v,iV c,iV d],u,iV k,iV am] w (yb7 ([],0,0,1) w):= by
 have HV:=lh hv;have HU:=lh hu;obtain ⟨ao,cap,rfl,h1,⟨h2,_⟩,h3⟩:=hv;clear h3;obtain ⟨ao',cap',rfl,h1',⟨h2',_⟩,h3⟩:=hu;clear h3;unfold maxLen at h2 h2'
 have HBLK:Hid (Blk ((w.alloc (.cells #[.slice ao bs.length cap,iV c,iV d] 35)).alloc (.cells #[sZ,iZ,iZ] 35)) (w.heap.size+1) 35 [sZ,iZ,iZ]):= by
  exact zq07e414
 have hB0:Blk (w.alloc (.cells #[.slice ao bs.length cap,iV c,iV d] 35)) w.heap.size 35 [.slice ao bs.length cap,iV c,iV d]:=heap_alloc_new w _;have HB0:=lh (hB0.below (yaa bR (.cells #[sZ,iZ,iZ] 35)));have HW0:Hid (BW w ((w.alloc (.cells #[.slice ao bs.length cap,iV c,iV d] 35)).alloc (.cells #[sZ,iZ,iZ] 35))):=yaa (yaa bR _) _;clear hB0;have d1:((rates.length:Int) != (bs.length:Int))=true:=by simp;omega
 go_enter Tryz.func182,Tryz.ntmps182
 go_wp2_with fail
 obtain ⟨W,hW,gB,gR,gw,gS,gV⟩:∃W,(((w.alloc (.cells #[.slice ao bs.length cap,iV c,iV d] 35)).alloc (.cells #[sZ,iZ,iZ] 35)).alloc (.cells #[iV k] 3))=W/\Hid (Blk W w.heap.size 35 [.slice ao bs.length cap,iV c,iV d])/\Hid (Blk W (w.heap.size+1) 35 [sZ,iZ,iZ])/\Hid (BW w W)/\Hid (Sl .i64 W (sL (w.heap.size+1+1) 0 1 1) [k])/\Hid (Sl .i64 W (.slice ao bs.length cap) bs) :=
  ⟨_,rfl,HB0.out.below (yaa bR _),HBLK.out.below (yaa bR _),yaa HW0.out _,Sl.litAt _ _ [k] 1 _ rfl _ rfl (by unfold maxLen;omega) (by simp),HV.out.below (yaa HW0.out _)⟩
 with_reducible rw [hW]
 clear hW HB0 HBLK HW0;refine (yb5 _ bs c d am _ [k] 0 HE om (by simp) _ gV.out gS.out).mono ?_;rintro _ w1 ⟨rfl,hb1⟩;have HR1:=lh (gR.out.below hb1);have HB1:=lh (gB.out.below hb1);have hbf:=yad gw.out hb1;clear gB gR gS gV gw hb1;have hB1:=HB1.out;obtain ⟨c0,c1,c2,-⟩:=hB1.cs [0,1,2];simp only [gz,gs] at c0 c1 c2;clear hB1;have hR:=HR1.out;obtain ⟨r0,r1,r2,-⟩:=hR.cs [0,1,2];simp only [gz,gs] at r0 r1 r2;obtain ⟨f0,f1,f2,-⟩:=hR.fs [0,1,2];have hlt:=hR.lt;clear hR;go_wp2
 refine bodyPost_ret (v:=.tuple #[.agg #[sZ,iZ,iZ],iV 1]) (by simp [results,Tryz.results182,go_sem,r0,r1,r2]) rfl ⟨sZ,rfl,⟨Sl.nil,ycz⟩,yd5 hbf om _ _ _⟩
theorem yqj (v u:Value) (bs rates:List Int) (c d k am:Int) (HE:Hid (yb1 bs c d am [k]=0)) (hrl:rates.length=bs.length) (l:List Int) (le cf:Int) (HP:Hid (ybq bs (ycx rates k) am=(l,le))) (hcf:c+le=cf) (hq:Hid (yat (subL bs l) cf d=true)) (hlen:bs.length<=1000) (w:World) (hv:Sl .i64 w v bs) (hu:Sl .i64 w u rates) :
 Calls Tryz.prog 182 #[.agg #[v,iV c,iV d],u,iV k,iV am] w (yb7 (subL bs l,cf,d,0) w):= by
 have HV:=lh hv;have HU:=lh hu;obtain ⟨ao,cap,rfl,h1,⟨h2,_⟩,h3⟩:=hv;clear h3;obtain ⟨ao',cap',rfl,h1',⟨h2',_⟩,h3⟩:=hu;clear h3;unfold maxLen at h2 h2'
 have HBLK:Hid (Blk ((w.alloc (.cells #[.slice ao bs.length cap,iV c,iV d] 35)).alloc (.cells #[sZ,iZ,iZ] 35)) (w.heap.size+1) 35 [sZ,iZ,iZ]):= by
  exact zq07e414
 have hB0:Blk (w.alloc (.cells #[.slice ao bs.length cap,iV c,iV d] 35)) w.heap.size 35 [.slice ao bs.length cap,iV c,iV d]:=heap_alloc_new w _;have HB0:=lh (hB0.below (yaa bR (.cells #[sZ,iZ,iZ] 35)));have HW0:Hid (BW w ((w.alloc (.cells #[.slice ao bs.length cap,iV c,iV d] 35)).alloc (.cells #[sZ,iZ,iZ] 35))):=yaa (yaa bR _) _;clear hB0;obtain ⟨hr,hk1,hk2,ham1,ham2⟩:=ym0 HE.out;obtain ⟨⟨hd1,hd2⟩,hl8,hl1⟩:=ygb hr;obtain ⟨⟨hc1,hc2⟩,hmay⟩:=ycr hr;have hbad:=ylv (yfb hr);have hb0:∀x∈bs,0<=x:=fun x hx=>(ylg hbad x hx).1
 have HI:Hid (yia bs (ycx rates k) am=(l,le,0)):= by
  show _=_;rw [ysd (ypa hrl ⟨hk1,hk2⟩) hbad ⟨ham1,ham2⟩,HP.out]
 have hll:l.length=bs.length:=by have:=ya7 bs (ycx rates k) am;rw [HP.out] at this;exact this
 have hlr:∀j,j<bs.length->0<=l.getD j 0/\l.getD j 0<=bs.getD j 0:=fun j hj=>by
  have:=ydl (ks:=ycx rates k) ham1 hb0 (ycx rates k).length j hj;have e:=HP.out;unfold ybq at e;rw [e] at this;exact this
 have hle:0<=le/\le<=am:= by
  exact zq076c37
 have hgl:=yih rates k;have hHl:(ya3 ya2 rates rates.length).length=rates.length:=ya4 _ _ _;have HL8:=lh hl8;have HMAY:=lh hmay;have HLR:=lh hlr;have HLL:=lh hll;have HARG:=lh (And.intro hl1 (And.intro hlen (And.intro hrl (And.intro hgl hHl))));have wcf:wrap64 cf=cf:=IntWalk.wrap64_in _ ⟨by omega,by omega⟩;have WW:=lh (And.intro hcf wcf);have d1:((rates.length:Int) != (bs.length:Int))=false:=by simp [hrl]
 obtain ⟨i0,hi,hz0,hz1',hz2'⟩:=info_parts yro;clear hr hk1 hk2 ham1 ham2 hd1 hd2 hl8 hl1 hc1 hc2 hmay hll hlr hle hcf wcf hbad hb0 hgl hHl hrl
 go_enter Tryz.func182,Tryz.ntmps182
 go_wp2_with fail
 obtain ⟨W,hW,gB,gR,gw,gS,gV⟩:∃W,(((w.alloc (.cells #[.slice ao bs.length cap,iV c,iV d] 35)).alloc (.cells #[sZ,iZ,iZ] 35)).alloc (.cells #[iV k] 3))=W/\Hid (Blk W w.heap.size 35 [.slice ao bs.length cap,iV c,iV d])/\Hid (Blk W (w.heap.size+1) 35 [sZ,iZ,iZ])/\Hid (BW w W)/\Hid (Sl .i64 W (sL (w.heap.size+1+1) 0 1 1) [k])/\Hid (Sl .i64 W (.slice ao bs.length cap) bs) :=
  ⟨_,rfl,HB0.out.below (yaa bR _),HBLK.out.below (yaa bR _),yaa HW0.out _,Sl.litAt _ _ [k] 1 _ rfl _ rfl (by unfold maxLen;omega) (by simp),HV.out.below (yaa HW0.out _)⟩
 with_reducible rw [hW]
 clear hW HB0 HBLK HW0;refine (yb5 _ bs c d am _ [k] 0 HE om (by simp) _ gV.out gS.out).mono ?_;rintro _ w1 ⟨rfl,hb1⟩;have HR1:=lh (gR.out.below hb1);have HB1:=lh (gB.out.below hb1);have hbf:=yad gw.out hb1;clear gB gR gS gV gw hb1;have hB1:=HB1.out;obtain ⟨c0,c1,c2,-⟩:=hB1.cs [0,1,2];simp only [gz,gs] at c0 c1 c2;clear hB1;have hz1:=HR1.out.lt;have HV1:=lh (HV.out.below hbf)
 go_wp2_with fail
 refine (yex _ bs c d HARG.out.2.1 _ HV1.out).mono ?_;rintro _ w3 ⟨q3,rfl,hown,hb3⟩;obtain ⟨ao3,capr,rfl,hnc,hcm,hBR⟩:=yed hown;obtain ⟨gr,hgr0,hgr1,cur,hcur1,hcur2,hcur3⟩:=hBR (by have:=HARG.out.1;omega);subst hgr0;obtain ⟨n,hn⟩:∃n,bs.length=n:=⟨_,rfl⟩;have HN:=lh hn;have HNR:Hid (Nums w3 gr capr bs):=⟨cur,hcur1,hcur2,hcur3⟩;have hbr:w1.heap.size+2<=gr:=hgr1;have HLn:Hid (l.length=n):=HLL.out.trans hn;rw [hn] at hnc ⊢;have hB3:=HB1.out.below hb3;obtain ⟨f0,f1,f2,-⟩:=hB3.fs [0,1,2];clear c0 c1 c2;obtain ⟨c0,c1,c2,-⟩:=hB3.cs [0,1,2];simp only [gz,gs] at c0 c1 c2;have HB3:=lh hB3;have HR3:=lh (HR1.out.below hb3);have HBF3:=lh (yad hbf hb3);have hz3:=hb3.size;clear hB3 hown hb3 hn hcur1 hcur2 hcur3 HV1 HR1 HB1 HV hgr1 cur hbf
 go_wp2_with fail
 obtain ⟨W,hW,gP,gN,gR,gw,gF,gz⟩:∃W,((((w3.setCell (Ad w.heap.size 0) (sL gr 0 n capr)).setCell (Ad w.heap.size 1) (iV c)).setCell (Ad w.heap.size 2) (iV d)).alloc (.cells #[iV k] 3))=W/\Hid (Blk W w.heap.size 35 [sL gr 0 n capr,iV c,iV d])/\Hid (Nums W gr capr bs)/\Hid (Blk W (w.heap.size+1) 35 [sZ,iZ,iZ])/\Hid (BW w W)/\Hid (W.ownsRow w3.heap.size 3 1 (sL w3.heap.size 0 1 1) 1 [iV k])/\W.heap.size=w3.heap.size+1:= by
  exact zq071b0b
 have hgrl:gr<w3.heap.size:=HNR.out.lt;have hgl3:w.heap.size+1<w3.heap.size:=HR3.out.lt
 with_reducible rw [hW]
 have GZ:=lh gz;clear hW HB3 HNR HR3 HBF3 c0 c1 c2 f0 f1 f2 gz hz3;refine (ym6 _ rates _ (HU.out.below gw.out) (by have:=HARG.out.2;omega)).mono ?_;rintro _ w4 ⟨uh,rfl,hoh,hb4⟩;obtain ⟨hh,hhd⟩:∃hh,(ya3 ya2 rates rates.length)=hh:=⟨_,rfl⟩;rw [hhd,GZ.out] at hoh;have HHD:=lh hhd;have hhl:hh.length=n:=by rw [<-HHD.out];have:=HARG.out.2.2.2.2;have:=HARG.out.2.2.1;have:=HN.out;omega
 have hn1:1<=n:=by have:=HARG.out.1;have:=HN.out;omega
 rw [hhl] at hoh;obtain ⟨gh,ch,rfl⟩:=ya5 hoh om;have HGH:Hid (w3.heap.size+1<=gh/\gh<w4.heap.size):=⟨(hoh.lt gh rfl).1,(hoh.lt gh rfl).2⟩;obtain ⟨_,_,hhc,hhm,_⟩:=ya8 hoh;unfold maxLen at hhm;have HOH:=lh hoh;have HHL:=lh hhl;have HN1000:Hid (n<=8):=by show _<=_;have:=HL8.out;have:=HN.out;omega
 have HF4:=lh (yox gF.out hb4);have HP4:=lh (gP.out.below hb4);have HN4:=lh (gN.out.below hb4);have HR4:=lh (gR.out.below hb4);have HBF4:=lh (yad gw.out hb4);have HSZ4:Hid (w3.heap.size<w4.heap.size):=by show _<_;have h1:=GZ.out;have h2:=hb4.size;omega
 clear hhd hb4 gF gP gN gR gw GZ HU hoh hhl
 go_wp2_with fail
 go_loopg [11,42] n (fun g s i wr=>∃(j:Nat) (xs:List Int),j+g=n/\i=iV j/\Hid (xs=k::(hh.take j).filter (fun x=>x != k))/\Hid (xs.length<=j+1)/\Hid (wr.ownsRow w3.heap.size 3 1 s xs.length (xs.map (Value.int .i64)))/\Hid (wr.ownsRow (w3.heap.size+1) 3 1 (sL gh 0 n ch) n (hh.map (Value.int .i64)))/\Hid (s.ownBlock=some w3.heap.size\/∀b,s.ownBlock=some b->w4.heap.size<=b)/\Hid (Below w3.heap.size w4 wr))
 case atStart=>exact ⟨0,[k],by omega,rfl,rfl,by show _<=_;simp,HF4.out,HOH.out,.inl rfl,bR⟩
 case round =>
  obtain ⟨j,xs,hjg,rfl,HXS,HXL,HO,HOHw,HBL,HBW⟩:=hrel;cases gk with
  | succ g =>
   exact zq07fad9
  | zero =>
   obtain rfl:j=n:=by omega
   have hlt:¬((j:Int)<(j:Int)):=by omega
   have hxs:xs=ycx rates k:= by
    rw [HXS.out,List.take_of_length_le (by have:=HHL.out;omega)];unfold ycx;rw [HHD.out]
   subst hxs;have q0:∀(i:Nat) (x:Value),w4.cell? (Ad w.heap.size i)=some x->wr.cell? (Ad w.heap.size i)=some x:=fun i x hx=>(HBW.out.cell (p:=(Ad w.heap.size i)) (by show w.heap.size<_;omega)).trans hx;have HPr:Hid (Blk wr w.heap.size 35 [sL gr 0 j capr,iV c,iV d]):=(HBW.out.block w.heap.size om).trans HP4.out;have HRr:Hid (Blk wr (w.heap.size+1) 35 [sZ,iZ,iZ]):=(HBW.out.block (w.heap.size+1) om).trans HR4.out
   have HNr:Hid (Nums wr gr capr bs):= by
    obtain ⟨cur,n1,n2,n3⟩:=HN4.out;exact ⟨cur,(HBW.out.block gr hgrl).trans n1,n2,n3⟩
   have HBr:Hid (BW w wr):=HBF4.out.trans (HBW.out.mono om);have HSr:=lh (Sl.of_own HO.out rfl);have HBs:=lh (HNr.out.sl HN.out hnc hcm);obtain ⟨c0,c1,c2,-⟩:=HPr.out.cs [0,1,2];simp only [gz,gs] at c0 c1 c2;clear q0 HXS HXL HO HOHw HBL HBW HP4 HN4 HR4 HBF4 HF4 HOH
   go_wp2_with fail
   refine (yi9 _ _ bs (ycx rates k) am _ HBs.out HSr.out HARG.out.2.1 (by have h1:=HARG.out.2.2.2.1;have h2:=HARG.out.2.2.1;have h3:=HN1000.out;have h4:=HN.out;omega)).mono ?_;rintro _ w6 ⟨uq,rfl,hown6,hb6⟩;rw [HI.out] at hown6 ⊢;simp only at hown6 ⊢;rw [HLn.out] at hown6;obtain ⟨gq,cq,rfl⟩:=ya5 hown6 om;have HGQ:Hid (wr.heap.size<=gq):=(hown6.lt gq rfl).1;obtain ⟨_,_,hq1,hq2,_⟩:=ya8 hown6;unfold maxLen at hq2;have HQ6:=lh (Sl.of_own hown6 HLn.out);have hP6:=HPr.out.below hb6;have hwr1:=HPr.out.lt;have hwr2:=HRr.out.lt;have hwr3:=HNr.out.lt;have HP6:=lh hP6;have HR6:=lh (HRr.out.below hb6);have HN6:=lh (HNr.out.below hb6);have HB6:=lh (yad HBr.out hb6);clear c0 c1 c2 hown6 hb6 hP6 HPr HRr HNr HBr HSr HBs
   go_wp2_with fail
   go_loopg [69] j (fun g i wr2=>∃(m:Nat),m+g=j/\i=iV m/\Hid (Blk wr2 w.heap.size 35 [sL gr 0 j capr,iV c,iV d]/\Nums wr2 gr capr (mixL (subL bs l) bs m)/\Blk wr2 (w.heap.size+1) 35 [sZ,iZ,iZ]/\BW w wr2/\Sl .i64 wr2 (sL gq 0 j cq) l))
   case atStart=>exact ⟨0,by omega,rfl,HP6.out,by rw [yfy];exact HN6.out,HR6.out,HB6.out,HQ6.out⟩
   case round =>
    obtain ⟨m,hmg,rfl,HJ⟩:=hrel;have HSLn:Hid ((subL bs l).length=j):=by show _=_;unfold subL;rw [List.length_zipWith];have:=HN.out;have:=HLn.out;omega
    cases gk with
    | succ g =>
     exact zq07d5bf
    | zero =>
     obtain rfl:m=j:=by omega
     have hlt:¬((m:Int)<(m:Int)):=by omega
     obtain ⟨hBp,hNm,hRr,hbw,hSq⟩:=HJ.out;rw [ygk HSLn.out HN.out] at hNm;obtain ⟨c0,c1,c2,-⟩:=hBp.cs [0,1,2];simp only [gz,gs] at c0 c1 c2;have f1:=hBp.frozen 1;obtain ⟨hcf,wcf⟩:=WW.out;have hlb:=hBp.lt;have HX:=lh (And.intro hBp (And.intro hNm (And.intro hRr hbw)));have HJV:Hid (ybt (sL gr 0 m capr) (subL bs l) cf d=.tuple #[.agg #[sL gr 0 m capr,iV cf,iV d],iZ]):=by show _=_;unfold ybt;rw [hq.out];rfl
     have HLL1:Hid ((subL bs l).length<=1000000):=by show _<=_;have:=HSLn.out;have:=HN1000.out;omega
     clear hBp hNm hRr hbw hSq HJ
     go_wp2_with fail
     refine (ych _ (subL bs l) cf d _ HJV HLL1.out _ ?sl).mono ?_
     case sl=>exact (HX.out.2.1.setOther om 1 _).sl HSLn.out hnc hcm
     rintro _ w7 ⟨rfl,hb7⟩;have hR7:=(HX.out.2.2.1.setOther om 1 (iV cf)).below hb7;obtain ⟨r0,r1,r2,-⟩:=hR7.cs [0,1,2];simp only [gz,gs] at r0 r1 r2;obtain ⟨e0,e1,e2,-⟩:=hR7.fs [0,1,2];have hbf4:BW w w7:=(HX.out.2.2.2.setCell (p:=(Ad w.heap.size 1)) (Nat.le_refl _) (iV cf)).trans (hb7.mono (by simp;omega));have HN4:=lh ((HX.out.2.1.setOther om 1 (iV cf)).below hb7);have HSL:=HSLn;have hlt4:=hR7.lt;clear hR7 hb7 c0 c1 c2 f1 hcf wcf;go_wp2
     refine bodyPost_ret (v:=.tuple #[.agg #[sL gr 0 m capr,iV cf,iV d],iZ]) (by simp [results,Tryz.results182,go_sem,r0,r1,r2]) rfl ⟨sL gr 0 m capr,rfl,⟨(((HN4.out.setOther om 0 _).setOther om 1 _).setOther om 2 _).sl HSL.out hnc hcm,ys3 fun _=>⟨rfl,by omega⟩⟩,yd5 hbf4 om _ _ _⟩
theorem yov (v u:Value) (bs rates:List Int) (c d k am:Int) (HE:Hid (yb1 bs c d am [k]=0)) (hrl:rates.length=bs.length) (l:List Int) (le cf:Int) (HP:Hid (ybq bs (ycx rates k) am=(l,le))) (hcf:c+le=cf) (hq:Hid (yat (subL bs l) cf d=false)) (hlen:bs.length<=1000) (w:World) (hv:Sl .i64 w v bs) (hu:Sl .i64 w u rates) :
 Calls Tryz.prog 182 #[.agg #[v,iV c,iV d],u,iV k,iV am] w (yb7 ([],0,0,5) w):= by
 have HV:=lh hv;have HU:=lh hu;obtain ⟨ao,cap,rfl,h1,⟨h2,_⟩,h3⟩:=hv;clear h3;obtain ⟨ao',cap',rfl,h1',⟨h2',_⟩,h3⟩:=hu;clear h3;unfold maxLen at h2 h2'
 have HBLK:Hid (Blk ((w.alloc (.cells #[.slice ao bs.length cap,iV c,iV d] 35)).alloc (.cells #[sZ,iZ,iZ] 35)) (w.heap.size+1) 35 [sZ,iZ,iZ]):= by
  exact zq07e414
 have hB0:Blk (w.alloc (.cells #[.slice ao bs.length cap,iV c,iV d] 35)) w.heap.size 35 [.slice ao bs.length cap,iV c,iV d]:=heap_alloc_new w _;have HB0:=lh (hB0.below (yaa bR (.cells #[sZ,iZ,iZ] 35)));have HW0:Hid (BW w ((w.alloc (.cells #[.slice ao bs.length cap,iV c,iV d] 35)).alloc (.cells #[sZ,iZ,iZ] 35))):=yaa (yaa bR _) _;clear hB0;obtain ⟨hr,hk1,hk2,ham1,ham2⟩:=ym0 HE.out;obtain ⟨⟨hd1,hd2⟩,hl8,hl1⟩:=ygb hr;obtain ⟨⟨hc1,hc2⟩,hmay⟩:=ycr hr;have hbad:=ylv (yfb hr);have hb0:∀x∈bs,0<=x:=fun x hx=>(ylg hbad x hx).1
 have HI:Hid (yia bs (ycx rates k) am=(l,le,0)):= by
  show _=_;rw [ysd (ypa hrl ⟨hk1,hk2⟩) hbad ⟨ham1,ham2⟩,HP.out]
 have hll:l.length=bs.length:=by have:=ya7 bs (ycx rates k) am;rw [HP.out] at this;exact this
 have hlr:∀j,j<bs.length->0<=l.getD j 0/\l.getD j 0<=bs.getD j 0:=fun j hj=>by
  have:=ydl (ks:=ycx rates k) ham1 hb0 (ycx rates k).length j hj;have e:=HP.out;unfold ybq at e;rw [e] at this;exact this
 have hle:0<=le/\le<=am:= by
  exact zq076c37
 have hgl:=yih rates k;have hHl:(ya3 ya2 rates rates.length).length=rates.length:=ya4 _ _ _;have HL8:=lh hl8;have HMAY:=lh hmay;have HLR:=lh hlr;have HLL:=lh hll;have HARG:=lh (And.intro hl1 (And.intro hlen (And.intro hrl (And.intro hgl hHl))));have wcf:wrap64 cf=cf:=IntWalk.wrap64_in _ ⟨by omega,by omega⟩;have WW:=lh (And.intro hcf wcf);have d1:((rates.length:Int) != (bs.length:Int))=false:=by simp [hrl]
 obtain ⟨i0,hi,hz0,hz1',hz2'⟩:=info_parts yro;clear hr hk1 hk2 ham1 ham2 hd1 hd2 hl8 hl1 hc1 hc2 hmay hll hlr hle hcf wcf hbad hb0 hgl hHl hrl
 go_enter Tryz.func182,Tryz.ntmps182
 go_wp2_with fail
 obtain ⟨W,hW,gB,gR,gw,gS,gV⟩:∃W,(((w.alloc (.cells #[.slice ao bs.length cap,iV c,iV d] 35)).alloc (.cells #[sZ,iZ,iZ] 35)).alloc (.cells #[iV k] 3))=W/\Hid (Blk W w.heap.size 35 [.slice ao bs.length cap,iV c,iV d])/\Hid (Blk W (w.heap.size+1) 35 [sZ,iZ,iZ])/\Hid (BW w W)/\Hid (Sl .i64 W (sL (w.heap.size+1+1) 0 1 1) [k])/\Hid (Sl .i64 W (.slice ao bs.length cap) bs) :=
  ⟨_,rfl,HB0.out.below (yaa bR _),HBLK.out.below (yaa bR _),yaa HW0.out _,Sl.litAt _ _ [k] 1 _ rfl _ rfl (by unfold maxLen;omega) (by simp),HV.out.below (yaa HW0.out _)⟩
 with_reducible rw [hW]
 clear hW HB0 HBLK HW0;refine (yb5 _ bs c d am _ [k] 0 HE om (by simp) _ gV.out gS.out).mono ?_;rintro _ w1 ⟨rfl,hb1⟩;have HR1:=lh (gR.out.below hb1);have HB1:=lh (gB.out.below hb1);have hbf:=yad gw.out hb1;clear gB gR gS gV gw hb1;have hB1:=HB1.out;obtain ⟨c0,c1,c2,-⟩:=hB1.cs [0,1,2];simp only [gz,gs] at c0 c1 c2;clear hB1;have hz1:=HR1.out.lt;have HV1:=lh (HV.out.below hbf)
 go_wp2_with fail
 refine (yex _ bs c d HARG.out.2.1 _ HV1.out).mono ?_;rintro _ w3 ⟨q3,rfl,hown,hb3⟩;obtain ⟨ao3,capr,rfl,hnc,hcm,hBR⟩:=yed hown;obtain ⟨gr,hgr0,hgr1,cur,hcur1,hcur2,hcur3⟩:=hBR (by have:=HARG.out.1;omega);subst hgr0;obtain ⟨n,hn⟩:∃n,bs.length=n:=⟨_,rfl⟩;have HN:=lh hn;have HNR:Hid (Nums w3 gr capr bs):=⟨cur,hcur1,hcur2,hcur3⟩;have hbr:w1.heap.size+2<=gr:=hgr1;have HLn:Hid (l.length=n):=HLL.out.trans hn;rw [hn] at hnc ⊢;have hB3:=HB1.out.below hb3;obtain ⟨f0,f1,f2,-⟩:=hB3.fs [0,1,2];clear c0 c1 c2;obtain ⟨c0,c1,c2,-⟩:=hB3.cs [0,1,2];simp only [gz,gs] at c0 c1 c2;have HB3:=lh hB3;have HR3:=lh (HR1.out.below hb3);have HBF3:=lh (yad hbf hb3);have hz3:=hb3.size;clear hB3 hown hb3 hn hcur1 hcur2 hcur3 HV1 HR1 HB1 HV hgr1 cur hbf
 go_wp2_with fail
 obtain ⟨W,hW,gP,gN,gR,gw,gF,gz⟩:∃W,((((w3.setCell (Ad w.heap.size 0) (sL gr 0 n capr)).setCell (Ad w.heap.size 1) (iV c)).setCell (Ad w.heap.size 2) (iV d)).alloc (.cells #[iV k] 3))=W/\Hid (Blk W w.heap.size 35 [sL gr 0 n capr,iV c,iV d])/\Hid (Nums W gr capr bs)/\Hid (Blk W (w.heap.size+1) 35 [sZ,iZ,iZ])/\Hid (BW w W)/\Hid (W.ownsRow w3.heap.size 3 1 (sL w3.heap.size 0 1 1) 1 [iV k])/\W.heap.size=w3.heap.size+1:= by
  exact zq071b0b
 have hgrl:gr<w3.heap.size:=HNR.out.lt;have hgl3:w.heap.size+1<w3.heap.size:=HR3.out.lt
 with_reducible rw [hW]
 have GZ:=lh gz;clear hW HB3 HNR HR3 HBF3 c0 c1 c2 f0 f1 f2 gz hz3;refine (ym6 _ rates _ (HU.out.below gw.out) (by have:=HARG.out.2;omega)).mono ?_;rintro _ w4 ⟨uh,rfl,hoh,hb4⟩;obtain ⟨hh,hhd⟩:∃hh,(ya3 ya2 rates rates.length)=hh:=⟨_,rfl⟩;rw [hhd,GZ.out] at hoh;have HHD:=lh hhd;have hhl:hh.length=n:=by rw [<-HHD.out];have:=HARG.out.2.2.2.2;have:=HARG.out.2.2.1;have:=HN.out;omega
 have hn1:1<=n:=by have:=HARG.out.1;have:=HN.out;omega
 rw [hhl] at hoh;obtain ⟨gh,ch,rfl⟩:=ya5 hoh om;have HGH:Hid (w3.heap.size+1<=gh/\gh<w4.heap.size):=⟨(hoh.lt gh rfl).1,(hoh.lt gh rfl).2⟩;obtain ⟨_,_,hhc,hhm,_⟩:=ya8 hoh;unfold maxLen at hhm;have HOH:=lh hoh;have HHL:=lh hhl;have HN1000:Hid (n<=8):=by show _<=_;have:=HL8.out;have:=HN.out;omega
 have HF4:=lh (yox gF.out hb4);have HP4:=lh (gP.out.below hb4);have HN4:=lh (gN.out.below hb4);have HR4:=lh (gR.out.below hb4);have HBF4:=lh (yad gw.out hb4);have HSZ4:Hid (w3.heap.size<w4.heap.size):=by show _<_;have h1:=GZ.out;have h2:=hb4.size;omega
 clear hhd hb4 gF gP gN gR gw GZ HU hoh hhl
 go_wp2_with fail
 go_loopg [11,42] n (fun g s i wr=>∃(j:Nat) (xs:List Int),j+g=n/\i=iV j/\Hid (xs=k::(hh.take j).filter (fun x=>x != k))/\Hid (xs.length<=j+1)/\Hid (wr.ownsRow w3.heap.size 3 1 s xs.length (xs.map (Value.int .i64)))/\Hid (wr.ownsRow (w3.heap.size+1) 3 1 (sL gh 0 n ch) n (hh.map (Value.int .i64)))/\Hid (s.ownBlock=some w3.heap.size\/∀b,s.ownBlock=some b->w4.heap.size<=b)/\Hid (Below w3.heap.size w4 wr))
 case atStart=>exact ⟨0,[k],by omega,rfl,rfl,by show _<=_;simp,HF4.out,HOH.out,.inl rfl,bR⟩
 case round =>
  obtain ⟨j,xs,hjg,rfl,HXS,HXL,HO,HOHw,HBL,HBW⟩:=hrel;cases gk with
  | succ g =>
   exact zq07fad9
  | zero =>
   obtain rfl:j=n:=by omega
   have hlt:¬((j:Int)<(j:Int)):=by omega
   have hxs:xs=ycx rates k:= by
    rw [HXS.out,List.take_of_length_le (by have:=HHL.out;omega)];unfold ycx;rw [HHD.out]
   subst hxs;have q0:∀(i:Nat) (x:Value),w4.cell? (Ad w.heap.size i)=some x->wr.cell? (Ad w.heap.size i)=some x:=fun i x hx=>(HBW.out.cell (p:=(Ad w.heap.size i)) (by show w.heap.size<_;omega)).trans hx;have HPr:Hid (Blk wr w.heap.size 35 [sL gr 0 j capr,iV c,iV d]):=(HBW.out.block w.heap.size om).trans HP4.out;have HRr:Hid (Blk wr (w.heap.size+1) 35 [sZ,iZ,iZ]):=(HBW.out.block (w.heap.size+1) om).trans HR4.out
   have HNr:Hid (Nums wr gr capr bs):= by
    obtain ⟨cur,n1,n2,n3⟩:=HN4.out;exact ⟨cur,(HBW.out.block gr hgrl).trans n1,n2,n3⟩
   have HBr:Hid (BW w wr):=HBF4.out.trans (HBW.out.mono om);have HSr:=lh (Sl.of_own HO.out rfl);have HBs:=lh (HNr.out.sl HN.out hnc hcm);obtain ⟨c0,c1,c2,-⟩:=HPr.out.cs [0,1,2];simp only [gz,gs] at c0 c1 c2;clear q0 HXS HXL HO HOHw HBL HBW HP4 HN4 HR4 HBF4 HF4 HOH
   go_wp2_with fail
   refine (yi9 _ _ bs (ycx rates k) am _ HBs.out HSr.out HARG.out.2.1 (by have h1:=HARG.out.2.2.2.1;have h2:=HARG.out.2.2.1;have h3:=HN1000.out;have h4:=HN.out;omega)).mono ?_;rintro _ w6 ⟨uq,rfl,hown6,hb6⟩;rw [HI.out] at hown6 ⊢;simp only at hown6 ⊢;rw [HLn.out] at hown6;obtain ⟨gq,cq,rfl⟩:=ya5 hown6 om;have HGQ:Hid (wr.heap.size<=gq):=(hown6.lt gq rfl).1;obtain ⟨_,_,hq1,hq2,_⟩:=ya8 hown6;unfold maxLen at hq2;have HQ6:=lh (Sl.of_own hown6 HLn.out);have hP6:=HPr.out.below hb6;have hwr1:=HPr.out.lt;have hwr2:=HRr.out.lt;have hwr3:=HNr.out.lt;have HP6:=lh hP6;have HR6:=lh (HRr.out.below hb6);have HN6:=lh (HNr.out.below hb6);have HB6:=lh (yad HBr.out hb6);clear c0 c1 c2 hown6 hb6 hP6 HPr HRr HNr HBr HSr HBs
   go_wp2_with fail
   go_loopg [69] j (fun g i wr2=>∃(m:Nat),m+g=j/\i=iV m/\Hid (Blk wr2 w.heap.size 35 [sL gr 0 j capr,iV c,iV d]/\Nums wr2 gr capr (mixL (subL bs l) bs m)/\Blk wr2 (w.heap.size+1) 35 [sZ,iZ,iZ]/\BW w wr2/\Sl .i64 wr2 (sL gq 0 j cq) l))
   case atStart=>exact ⟨0,by omega,rfl,HP6.out,by rw [yfy];exact HN6.out,HR6.out,HB6.out,HQ6.out⟩
   case round =>
    obtain ⟨m,hmg,rfl,HJ⟩:=hrel;have HSLn:Hid ((subL bs l).length=j):=by show _=_;unfold subL;rw [List.length_zipWith];have:=HN.out;have:=HLn.out;omega
    cases gk with
    | succ g =>
     exact zq07d5bf
    | zero =>
     obtain rfl:m=j:=by omega
     have hlt:¬((m:Int)<(m:Int)):=by omega
     obtain ⟨hBp,hNm,hRr,hbw,hSq⟩:=HJ.out;rw [ygk HSLn.out HN.out] at hNm;obtain ⟨c0,c1,c2,-⟩:=hBp.cs [0,1,2];simp only [gz,gs] at c0 c1 c2;have f1:=hBp.frozen 1;obtain ⟨hcf,wcf⟩:=WW.out;have hlb:=hBp.lt;have HX:=lh (And.intro hBp (And.intro hNm (And.intro hRr hbw)));have HJV:Hid (ybt (sL gr 0 m capr) (subL bs l) cf d=.tuple #[.agg #[sZ,iZ,iZ],iV 5]):=by show _=_;unfold ybt;rw [hq.out];rfl
     have HLL1:Hid ((subL bs l).length<=1000000):=by show _<=_;have:=HSLn.out;have:=HN1000.out;omega
     clear hBp hNm hRr hbw hSq HJ
     go_wp2_with fail
     refine (ych _ (subL bs l) cf d _ HJV HLL1.out _ ?sl).mono ?_
     case sl=>exact (HX.out.2.1.setOther om 1 _).sl HSLn.out hnc hcm
     rintro _ w7 ⟨rfl,hb7⟩;have hR7:=(HX.out.2.2.1.setOther om 1 (iV cf)).below hb7;obtain ⟨r0,r1,r2,-⟩:=hR7.cs [0,1,2];simp only [gz,gs] at r0 r1 r2;obtain ⟨e0,e1,e2,-⟩:=hR7.fs [0,1,2];have hbf4:BW w w7:=(HX.out.2.2.2.setCell (p:=(Ad w.heap.size 1)) (Nat.le_refl _) (iV cf)).trans (hb7.mono (by simp;omega));have HN4:=lh ((HX.out.2.1.setOther om 1 (iV cf)).below hb7);have HSL:=HSLn;have hlt4:=hR7.lt;clear hR7 hb7 c0 c1 c2 f1 hcf wcf;go_wp2
     refine bodyPost_ret (v:=.tuple #[.agg #[sZ,iZ,iZ],iV 5]) (by simp [results,Tryz.results182,go_sem,r0,r1,r2]) rfl ⟨sZ,rfl,⟨Sl.nil,ycz⟩,yd5 hbf4 om _ _ _⟩
theorem ymz (v u:Value) (bs rates:List Int) (c d k am:Int) (s:List Int×Int×Int×Int) (hs:Hid (ytl bs c d rates k am=s)) (hlen:bs.length<=1000) (w:World) (hv:Sl .i64 w v bs) (hu:Sl .i64 w u rates) :
 Calls Tryz.prog 182 #[.agg #[v,iV c,iV d],u,iV k,iV am] w (yb7 s w):= by
 have hs:=hs.out;subst hs;unfold ytl
 by_cases he:yb1 bs c d am [k]=0
 ·rw [if_neg (by simpa using he)]
  by_cases hl:rates.length=bs.length
  ·rw [if_neg (by simpa using hl)]
   cases hq:yat (subL bs (ybq bs (ycx rates k) am).1) (c+(ybq bs (ycx rates k) am).2) d with
   | true=>rw [if_pos rfl];exact yqj v u bs rates c d k am he hl _ _ _ rfl rfl hq hlen w hv hu
   | false=>rw [if_neg (by simp)];exact yov v u bs rates c d k am he hl _ _ _ rfl rfl hq hlen w hv hu
  ·rw [if_pos (by simpa using hl)]
   exact yoq v u bs rates c d k am he hl hlen w hv hu
 ·rw [if_pos (by simpa using he)]
  exact ym5 v u bs rates c d k am _ rfl (by simpa using he) hlen w hv hu
theorem jc5 (x y:Int) (w:World):Calls Tryz.prog 50 #[iV x,iV y] w (Ret (.bool (x == y)) w):= by
 go_enter Tryz.func50,Tryz.ntmps50
 go_wp2
 all_goals
  go_ret
  exact Ret.mk _ _
theorem jc6 {xs ys:List Int} (hl:xs.length=ys.length) (h:∀j,j<xs.length->xs.getD j 0=ys.getD j 0):xs=ys:= by
 refine List.ext_getElem hl fun i h1 h2=>?_;have:=h i h1
 simpa [List.getD,h1,h2] using this
theorem jce (v u:Value) (xs ys:List Int) (r:Bool) (hr:Hid ((xs == ys)=r)) (w:World) (hv:Sl .i64 w v xs) (hu:Sl .i64 w u ys) :
 Calls Tryz.prog 49 #[v,u,.func (.func 50) #[] #[]] w (RetB (.bool r) w):= by
 have HV:=lh hv;have HU:=lh hu;obtain ⟨ao,cap,rfl,h1,h2,h3⟩:=hv;obtain ⟨ao',cap',rfl,h1',h2',h3'⟩:=hu;obtain ⟨h2,_⟩:=h2;obtain ⟨h2',_⟩:=h2';unfold maxLen at h2 h2';clear h3 h3'
 by_cases hl:xs.length=ys.length
 ·have hlb:((xs.length:Int) != (ys.length:Int))=false:=by simp [hl]
  have HL:=lh hl;clear hl
  go_enter Tryz.func49,Tryz.ntmps49
  go_wp2
  go_loopw [7] (fun i wr=>∃k:Nat,k<=xs.length/\i=iV k/\Hid (∀j,j<k->xs.getD j 0=ys.getD j 0)/\BW w wr) (fun i _=>xs.length-(intOf i).toNat)
  case atStart=>exact ⟨0,Nat.zero_le _,rfl,fun j hj=>absurd hj om,bR⟩
  case round =>
   obtain ⟨k,hk,rfl,HN,hb⟩:=hrel
   by_cases hlt:k<xs.length
   ·have hlt':k<ys.length:=by have:=HL.out;omega
    obtain ⟨b,o,rfl,hcell⟩:=(HV.out.below hb).at hlt;obtain ⟨b',o',rfl,hcell'⟩:=(HU.out.below hb).at hlt'
    go_wp2_with fail
    go_quiet ((go_at_call 50;exact Calls.quiet_of_same ((jc5 _ _ _).mono fun _ _ h=>⟨h.1,h.2.symm⟩)))
    go_wp2
    ·go_ret
     have h:(!xs[k] == ys[k])=true:=by assumption
     have e:r=false:= by
      rw [<-hr.out];simp at h ⊢;intro hxy
      apply h
      subst hxy
      rfl
     subst e;exact ⟨rfl,bdN hb _⟩
    ·have h:(!xs[k] == ys[k])=false:=by assumption
     go_roundw
     case rel=>exact ⟨k+1,hlt,by go_num,fun j hj=>by
      rcases Nat.lt_succ_iff_lt_or_eq.1 hj with h' | rfl
      ·exact HN.out j h'
      ·simpa [List.getD,hlt,hlt'] using h,bdN hb _⟩
     case measure=>simp [intOf];omega
   ·have e:r=true:= by
     rw [<-hr.out];simp;exact jc6 HL.out fun j hj=>HN.out j om
    subst e;go_wp2
    go_ret
    exact ⟨rfl,hb⟩
 ·have hlb:((xs.length:Int) != (ys.length:Int))=true:=by simp;omega
  go_enter Tryz.func49,Tryz.ntmps49
  go_wp2
  go_ret
  have e:r=false:=by rw [<-hr.out];simp;intro h;exact hl (by rw [h])
  subst e;exact (Ret.mk _ _).b
theorem jbe (v u:Value) (xs ys:List Int) (r:Bool) (hr:Hid ((xs == ys)=r)) (w:World) (hv:Sl .i64 w v xs) (hu:Sl .i64 w u ys) :
 Calls Tryz.prog 23 #[v,u] w (RetB (.bool r) w):= by
 go_enter Tryz.func23,Tryz.ntmps23
 go_wp2_with (go_at_call 49;refine (jce _ _ xs ys r hr _ hv hu).mono ?_;rintro e w' ⟨rfl,hb⟩)
 go_ret
 exact ⟨rfl,hb⟩
section
open EvM
def yef (most x:Int):Bool:=decide (x<0) || decide (most<x)
def okE (bs rs:List Int):Bool:=(bs.length == rs.length) && decide (bs.length<=40000) && !bs.any (yef 1000000000000000) && !rs.any (yef 10000000)
def sumE (bs rs:List Int):Nat->Nat
 | 0=>0
 | k+1=>sumE bs rs k+(bs.getD k 0).toNat*(rs.getD k 0).toNat
def yli (bs rs:List Int):Nat×Nat×Int:=if okE bs rs=true then (sumE bs rs bs.length/18446744073709551616,sumE bs rs bs.length%18446744073709551616,0) else (0,0,1)
def ofR2 (n:Nat):Int×Int :=
 if (evQ ((n/18446744073709551616:Nat):Int) ((n%18446744073709551616:Nat):Int) 1000000000).2=true/\(evQ ((n/18446744073709551616:Nat):Int) ((n%18446744073709551616:Nat):Int) 1000000000).1<=1000000000000000 then
  ((evQ ((n/18446744073709551616:Nat):Int) ((n%18446744073709551616:Nat):Int) 1000000000).1,0) else (0,5)
def yft (bs rs:List Int):Int×Int:=if okE bs rs=true then ofR2 (sumE bs rs bs.length) else (0,1)
theorem ywm {most x:Int} (h:yef most x=false):0<=x/\x<=most:= by
 simp [yef] at h;omega
theorem yjm {most:Int} {l:List Int} (h:l.any (yef most)=false) (hm:0<=most) (j:Nat):0<=l.getD j 0/\l.getD j 0<=most:= by
 by_cases hj:j<l.length
 ·rw [List.any_eq_false] at h
  have:=h l[j] (List.getElem_mem hj);have e:l.getD j 0=l[j]:=by simp [List.getD,hj]
  rw [e];exact ywm (by simpa using this)
 ·have e:l.getD j 0=0:=by simp [List.getD,Nat.le_of_not_lt hj]
  rw [e];omega
theorem yu4 {bs rs:List Int} (h:okE bs rs=true):bs.length=rs.length/\bs.length<=40000/\bs.any (yef 1000000000000000)=false/\rs.any (yef 10000000)=false:= by
 unfold okE at h;simp only [Bool.and_eq_true,beq_iff_eq,decide_eq_true_eq,Bool.not_eq_true'] at h;exact ⟨h.1.1.1,h.1.1.2,h.1.2,h.2⟩
theorem yzq {a b A B:Nat} (h1:a<=A) (h2:b<=B):a*b<=A*B:=Nat.mul_le_mul h1 h2
theorem yzt {bs rs:List Int} (h1:bs.any (yef 1000000000000000)=false) (h2:rs.any (yef 10000000)=false) (k:Nat):sumE bs rs k<=k*10000000000000000000000:= by
 induction k with
 | zero=>exact Nat.le_refl _
 | succ k ih =>
  have a:=yjm h1 om k;have b:=yjm h2 om k;have c:(bs.getD k 0).toNat*(rs.getD k 0).toNat<=1000000000000000*10000000:=yzq om om;simp only [sumE];generalize (bs.getD k 0).toNat*(rs.getD k 0).toNat=q at c;have c':q<=10000000000000000000000:=c;omega
theorem yxe (S P hi lo h l c lo2 hi2:Nat) (e1:S/18446744073709551616=hi) (e2:S%18446744073709551616=lo) (e3:P/18446744073709551616=h) (e4:P%18446744073709551616=l)
 (e5:(lo+l)%18446744073709551616=lo2) (e6:(lo+l)/18446744073709551616=c) (e7:(hi+h+c)%18446744073709551616=hi2) (hS:S+P<18446744073709551616*18446744073709551616) :
 (S+P)/18446744073709551616=hi2/\(S+P)%18446744073709551616=lo2/\hi+h+c<18446744073709551616/\c<=1:= by
 omega
end
theorem yso (x most:Int) (g:Nat) (w:World) (hg:w.cell? (Ad g 0)=some (iV most)):Calls Tryz.prog 246 #[iV x,pV g] w (Ret (.bool (yef most x)) w):= by
 have hp:yef most x=(decide (x<0) || decide (most<x)):=rfl;rw [hp];clear hp
 by_cases h1:x<0
 ·have h1':decide (x<0)=true:=by simpa using h1
  go_enter Tryz.func246,Tryz.ntmps246
  go_wp2
  go_ret
  simp only [h1'];exact Ret.mk _ _
 ·have h1':decide (x<0)=false:=by simpa using h1
  by_cases h2:most<x
  ·have h2':decide (most<x)=true:=by simpa using h2
   go_enter Tryz.func246,Tryz.ntmps246
   go_wp2
   go_ret
   exact Ret.mk _ _
  ·have h2':decide (most<x)=false:=by simpa using h2
   go_enter Tryz.func246,Tryz.ntmps246
   go_wp2
   go_ret
   exact Ret.mk _ _
def yvv (r0:Bool) (w:World) (e:Ending) (w':World):Prop:=∃r:Int,e=.returned (iV r)/\decide (0<=r)=r0/\w=w'
theorem yjb (v:Value) (xs:List Int) (most:Int) (gm:Nat) (r0:Bool) (hr0:Hid (xs.any (yef most)=r0)) (w:World) (hv:Sl .i64 w v xs) (hg:w.cell? (Ad gm 0)=some (iV most)) :
 Calls Tryz.prog 231 #[v,.func (.func 246) #[] #[pV gm]] w (yvv r0 w):= by
 have HV:=lh hv;have HG:=lh hg;clear hg;obtain ⟨ao,cap,rfl,h1,⟨h2,_⟩,h3⟩:=hv;clear h3;unfold maxLen at h2
 go_enter Tryz.func231,Tryz.ntmps231
 go_wp2
 go_loopg [8] xs.length (fun g i wr=>∃k:Nat,k+g=xs.length/\i=iV k/\w=wr/\Hid (∀j,j<k->(yef most) (xs.getD j 0)=false))
 case atStart=>exact ⟨0,by omega,rfl,rfl,fun j hj=>absurd hj om⟩
 case round =>
  obtain ⟨k,hkg,rfl,rfl,HN⟩:=hrel;cases gk with
  | zero =>
   have hlt:¬((k:Int)<(xs.length:Int)):=by omega
   go_wp2
   go_ret
   refine ⟨-1,rfl,?_,rfl⟩;rw [<-hr0.out];simp only [show decide ((0:Int) <= -1)=false from by decide]
   symm
   rw [List.any_eq_false];intro y hy;obtain ⟨j,hj,rfl⟩:=List.getElem_of_mem hy;have:=HN.out j om
   simpa [List.getD,hj] using this
  | succ g =>
   have hlt:(k:Int)<(xs.length:Int):=by omega
   have hkn:k<xs.length:=by omega
   obtain ⟨b,o,x,rfl,hcell,hx⟩:=HV.out.get (i:=k) hkn;have HC:=yso x most gm w HG.out;cases hp:(yef most) x with
   | true =>
    have HC':Calls Tryz.prog 246 #[iV x,pV gm] w (Ret (.bool true) w):=by rw [<-hp];exact HC
    have HP:=lh hp;clear hp HC
    go_wp2_with (go_at_call 246;refine HC'.mono ?_;rintro e w' ⟨rfl,rfl⟩)
    go_ret
    refine ⟨k,rfl,?_,rfl⟩;rw [<-hr0.out]
    have e1:xs.any (yef most)=true:= by
     rw [List.any_eq_true];refine ⟨x,?_,HP.out⟩;rw [<-hx.out];simp [List.getD,hkn]
    rw [e1];simp
   | false =>
    have HC':Calls Tryz.prog 246 #[iV x,pV gm] w (Ret (.bool false) w):=by rw [<-hp];exact HC
    have HP:=lh hp;clear hp HC
    go_wp2_with (go_at_call 246;refine HC'.mono ?_;rintro e w' ⟨rfl,rfl⟩)
    go_roundg g
    case measure=>omega
    case rel=>exact ⟨k+1,by omega,by go_num,rfl,fun j hj=>by
     rcases Nat.lt_succ_iff_lt_or_eq.1 hj with h' | rfl
     ·exact HN.out j h'
     ·rw [hx.out];exact HP.out⟩
theorem yf5 (v:Value) (xs:List Int) (most:Int) (gm:Nat) (r0:Bool) (hr0:Hid (xs.any (yef most)=r0)) (w:World) (hv:Sl .i64 w v xs) (hg:w.cell? (Ad gm 0)=some (iV most)) :
 Calls Tryz.prog 210 #[v,.func (.func 246) #[] #[pV gm]] w (Ret (.bool r0) w):= by
 have HG:=lh hg;clear hg;cases r0 with
 | true =>
  go_enter Tryz.func210,Tryz.ntmps210
  go_wp2_with fail
  refine (yjb v xs most gm true hr0 _ hv HG.out).mono ?_;rintro e w' ⟨r,rfl,hr,rfl⟩
  go_wp2_with fail
  go_ret
  exact Ret.mk _ _
 | false =>
  go_enter Tryz.func210,Tryz.ntmps210
  go_wp2_with fail
  refine (yjb v xs most gm false hr0 _ hv HG.out).mono ?_;rintro e w' ⟨r,rfl,hr,rfl⟩
  go_wp2_with fail
  go_ret
  exact Ret.mk _ _
theorem ycp (v:Value) (xs:List Int) (most:Int) (r0:Bool) (hr0:Hid (xs.any (yef most)=!r0)) (w:World) (hv:Sl .i64 w v xs) :
 Calls Tryz.prog 238 #[v,iV most] w (RetB (.bool r0) w):= by
 have HV:=lh hv;obtain ⟨ao,cap,rfl,_⟩:=hv;have hb0:BW w (w.alloc (.cells #[iV most] 2)):=yaa bR _
 have hc:(w.alloc (.cells #[iV most] 2)).cell? (Ad w.heap.size 0)=some (iV most):= by
  have h:Blk (w.alloc (.cells #[iV most] 2)) w.heap.size 2 [iV most]:=heap_alloc_new w _;rw [h.cell];rfl
 have HC:=lh hc;have HB:=lh hb0;clear hc hb0;cases r0 with
 | true =>
  go_enter Tryz.func238,Tryz.ntmps238
  go_wp2_with fail
  refine (yf5 _ xs most _ false hr0 _ (HV.out.below HB.out) HC.out).mono ?_;rintro _ w1 ⟨rfl,rfl⟩;go_wp2
  go_ret
  exact ⟨rfl,HB.out⟩
 | false =>
  go_enter Tryz.func238,Tryz.ntmps238
  go_wp2_with fail
  refine (yf5 _ xs most _ true hr0 _ (HV.out.below HB.out) HC.out).mono ?_;rintro _ w1 ⟨rfl,rfl⟩;go_wp2
  go_ret
  exact ⟨rfl,HB.out⟩
theorem yrj:(Tryz.prog.info? 5).map (fun i=>(i.zero,i.size,i.bytes))=some (some (.int .u8 0),1,1):=by kernel_rfl
theorem yr7 {w w1 w2:World} {r r1:Option Nat} (h:w.grownBy w1 r) (h1:w1.grownBy w2 r1) (hr:r1=none\/r1=r\/∃g,r1=some g/\w.heap.size<=g):w.grownBy w2 r:= by
 refine ⟨h1.os.trans h.os,h1.tape.trans h.tape,h1.output.trans h.output,Nat.le_trans h.size h1.size,fun k hk hne=>?_⟩;rw [h1.block k (Nat.lt_of_lt_of_le hk h.size) ?_,h.block k hk hne];rcases hr with rfl | rfl | ⟨g,rfl,hg⟩
 ·simp
 ·exact hne
 ·intro e;simp at e;omega
def PutR (base:Nat) (b:Value) (xs:List Int) (w:World) (e:Ending) (w':World):Prop :=
 ∃u,e=.returned u/\w'.ownsRow base 5 1 u xs.length (xs.map (Value.int .u8))/\w.grownBy w' b.ownBlock/\(u.ownBlock=b.ownBlock\/∃g,u.ownBlock=some g/\w.heap.size<=g)
def ye4 (bs ls:List Int) (m:Nat):List Int:=bs++(ls.take m).flatMap be8
theorem yf2 (bs ls:List Int) {m:Nat} (h:m<=ls.length):(ye4 bs ls m).length=bs.length+8*m:= by
 have:∀l:List Int,(l.flatMap be8).length=8*l.length:= by
  intro l
  induction l with
  | nil=>rfl
  | cons x l ih=>rw [List.flatMap_cons,List.length_append,ih,yie,List.length_cons];omega
 rw [ye4,List.length_append,this,List.length_take];omega
theorem ysf (bs ls:List Int) {m:Nat} (h:m<ls.length):ye4 bs ls (m+1)=ye4 bs ls m++be8 (ls.getD m 0):= by
 unfold ye4;rw [List.take_succ_eq_append_getElem h,List.flatMap_append];simp [List.getD,h]
theorem yqb (b l:Value) (bs ls:List Int) (base:Nat) (w:World) (hown:w.ownsRow base 5 1 b bs.length (bs.map (Value.int .u8))) (HL:Hid (∀W,w.grownBy W b.ownBlock->Sl .i64 W l ls)) (hbase:base<=w.heap.size)
 (hn:bs.length+8*ls.length<=100000):Calls Tryz.prog 93 #[b,l] w (PutR base b (ye4 bs ls ls.length) w):= by
 obtain ⟨i0,hi,hz0,hz1,hz2⟩:=info_parts yrj;have hl:=HL.out w (World.grownBy.refl _ _);obtain ⟨ao,cap,rfl,h1,⟨h2,_⟩,_⟩:=hl;unfold maxLen at h2;have HB:=lh hbase;obtain ⟨bb,hbb⟩:∃q,q=b.ownBlock:=⟨_,rfl⟩;rw [<-hbb] at HL
 go_enter Tryz.func93,Tryz.ntmps93
 go_wp2
 go_loopg [0,10] ls.length (fun g c i wr=>∃m:Nat,m+g=ls.length/\i=iV m/\wr.ownsRow base 5 1 c (ye4 bs ls m).length ((ye4 bs ls m).map (Value.int .u8))/\w.grownBy wr bb/\Hid (c.ownBlock=bb\/∃g,c.ownBlock=some g/\w.heap.size<=g))
 case atStart=>exact ⟨0,by omega,rfl,by simpa [ye4] using hown,World.grownBy.refl _ _,.inl hbb.symm⟩
 case round =>
  obtain ⟨m,hmg,rfl,hown1,hg1,hwh⟩:=hrel;cases gk with
  | zero =>
   have hlt:¬((m:Int)<(ls.length:Int)):=by omega
   obtain rfl:m=ls.length:=by omega
   have HO:=lh hown1;have HG:=lh hg1;clear hown1 hg1;go_wp2
   go_ret
   exact ⟨_,rfl,HO.out,hbb▸HG.out,hbb▸hwh.out⟩
  | succ g =>
   have hlt:((m:Int)<(ls.length:Int)):=by omega
   obtain ⟨gb,o,x,rfl,hcell,HX⟩:=(HL.out _ hg1).get (i:=m) om;have HLen:=lh (yf2 bs ls (m:=m) om);obtain ⟨wox,hwo⟩:∃wox:World,wox=wr:=⟨_,rfl⟩;subst hwo
   go_wp2_with fail
   go_loopg [0,7] 8 (fun g c i wy=>∃j:Nat,j+g=8/\i=iV (56-8*j)/\wy.ownsRow base 5 1 c ((ye4 bs ls m).length+j) ((ye4 bs ls m++(be8 x).take j).map (Value.int .u8))/\w.grownBy wy bb/\Hid (c.ownBlock=bb\/∃g,c.ownBlock=some g/\w.heap.size<=g))
   case atStart=>exact ⟨0,by omega,rfl,by simpa using hown1,hg1,hwh⟩
   case round =>
    obtain ⟨j,hjg,rfl,hown2,hg2,hwh2⟩:=hrel;cases gk with
    | zero =>
     have hlt:decide ((0:Int)<=56-8*(j:Int))=false:=by simp;omega
     obtain rfl:j=8:=by omega
     have HT:Hid (wr.ownsRow base 5 1 u0 (ye4 bs ls (m+1)).length ((ye4 bs ls (m+1)).map (Value.int .u8))):= by
      rw [ysf bs ls om,HX.out,List.length_append];exact hown2
     clear hown1 hown2
     go_wp2_with fail
     go_roundg g
     case measure=>omega
     case rel=>exact ⟨m+1,by omega,by go_num,HT.out,hg2,hwh2⟩
    | succ g' =>
     have hlt:decide ((0:Int)<=56-8*(j:Int))=true:=by simp;omega
     have hn0:0<=56-8*(j:Int):=by omega
     have hn1:56-8*(j:Int)<=56:=by omega
     have hbs:=hg2.size;have hB2:=HB.out;have hL2:=HLen.out;have hb0:bs.length+8*m+j+1<=100000:=by omega
     have HQ:Hid (x/2 ^ (56-8*j)%256=yf0 x (56-8*j)):=rfl;rw [hL2] at hown2;clear hL2
     go_wp2_with (at_builtin;refine yas _ rfl (.tmp 18) (.tmp 23) 135 rfl base 5 i0 (.int .u8 0) 1 1 Tryz.underlying135 hi hz0 hz1 hz2 rfl (by decide) _ _ _ rfl (hown2.alloc _) (Ad wr.heap.size 0) 1 1 [_] rfl rfl (cell_one_new _ _ _) (fun x hx=>by simp at hx;subst hx;rfl) (by unfold maxLen;omega) om (by simp;omega) ?_;intro v1 w1 hown3 hg3 hbk3)
     have hg4:w.grownBy w1 bb:= by
      refine yr7 (yr7 hg2 (World.grownBy_alloc _ _ none) (.inl rfl)) hg3 ?_;rcases hwh2.out with h | h
      ·exact .inr (.inl h)
      ·exact .inr (.inr h)
     have hwh3:Hid (v1.ownBlock=bb\/∃g,v1.ownBlock=some g/\w.heap.size<=g):= by
      rcases hbk3 with h | h
      ·rw [h];exact hwh2
      ·exact .inr ⟨_,h,by simp;omega⟩
     have HT:Hid (w1.ownsRow base 5 1 v1 ((ye4 bs ls m).length+(j+1)) ((ye4 bs ls m++(be8 x).take (j+1)).map (Value.int .u8))):= by
      rw [yma x om,HLen.out,<-HQ.out];have e:bs.length+8*m+(j+1)=bs.length+8*m+j+1:=by omega
      rw [e]
      simpa [Hid] using hown3
     clear hown1 hown2 hown3 hg3 hbk3 hwh2;go_roundg g'
     case measure=>omega
     case rel=>exact ⟨j+1,by omega,by go_num,HT.out,hg4,hwh3⟩
theorem Sl.litG {k:IntKind} {w W:World} {e:TypeId} {cs:Array Value} {r:Option Nat} (xs:List Int) (n:Nat) {g:Nat} (hW:(w.alloc (.cells cs e)).grownBy W r) (hn:xs.length=n) (hc:cs=(xs.map (Value.int k)).toArray) (hm:n<=maxLen) (hg:w.heap.size=g) (hne:some g≠r) :
 Sl k W (sL g 0 n n) xs:= by
 subst hc hg;obtain ⟨ao,cap,e,h1,h2,h3⟩:=Sl.lit (k:=k) w e xs n hn _ rfl hm;cases e;refine ⟨_,_,rfl,h1,h2,fun hx=>?_⟩;obtain ⟨b,o,e,hcell⟩:=h3 hx;cases e;exact ⟨_,_,rfl,fun i hi=>hW.cell (hcell i hi) hne⟩
end Go.Proofs.YtkongpjpkpfniaaGreat

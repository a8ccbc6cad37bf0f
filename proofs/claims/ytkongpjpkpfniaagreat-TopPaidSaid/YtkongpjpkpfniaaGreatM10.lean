/- TopPaid: parts of the proof, made small by a program (mini.py). -/
import Derived.Test.YtkongpjpkpfniaaGreatM01
import Derived.Test.YtkongpjpkpfniaaGreatM09
set_option linter.unusedVariables false
set_option linter.unusedSimpArgs false
set_option maxRecDepth 100000
set_option maxHeartbeats 6400000
namespace Go.Proofs.YtkongpjpkpfniaaGreat
open Go.RowKit
theorem zq106c37 {q:Prop} (h:q:= by
 have:=ydz (bal:=bs) (ks:=ycx rates k) ham1 hb0 (ycx rates k).length;have e:=HP.out;unfold ybq at e;rw [e] at this;exact this):q:=h
theorem zq10e414 {q:Prop} (h:q:= by
 have:=heap_alloc_new (w.alloc (.cells #[.slice ao bs.length cap,iV c,iV d] 35)) (.cells #[sZ,iZ,iZ] 35)
 simpa [Blk,Hid] using this):q:=h
theorem zq1056fc {q:Prop} (h:q:= by
 refine ⟨_,rfl,?_,?_,?_,?_,?_,by simp⟩
 ·exact (((HB3.out.set 0 _).set 1 _).set 2 _).below (yaa bR _)
 ·exact (((HNR.out.setOther om 0 _).setOther om 1 _).setOther om 2 _).below (yaa bR _)
 ·exact (((HR3.out.setOther om 0 _).setOther om 1 _).setOther om 2 _).below (yaa bR _)
 ·exact yaa (yd5 HBF3.out om _ _ _) _
 ·refine yct (g:=w3.heap.size) (cur:=[iV k]) ?_ (Nat.le_refl _) (Nat.le_refl _) (by unfold maxLen;omega) rfl rfl
  have:=heap_alloc_new (((w3.setCell ⟨w.heap.size,0,none⟩ (.slice (some ⟨gr,0,none⟩) n capr)).setCell ⟨w.heap.size,1,none⟩ (iV c)).setCell ⟨w.heap.size,2,none⟩ (iV d)) (.cells #[iV k] 3)
  simpa [Blk] using this):q:=h
theorem zq10d5bf {q:Prop} (h:q:= by
 have hlt:(m:Int)<(j:Int):=by omega
 have hkn:m<j:=by omega
 obtain ⟨hBp,hNm,hRr,hbw,hSq⟩:=HJ.out;obtain ⟨b',o',y,e,hcell,HY⟩:=hSq.get (i:=m) (by have:=HLn.out;omega);cases e;simp only [Nat.zero_add] at hcell;have hml:=yfl (k:=m) HSLn.out HN.out (Nat.le_of_lt hkn);have c5:=hNm.cell (i:=m) om;rw [yjl HSLn.out HN.out hkn] at c5;have f5:=hNm.frozen m;have c0:=hBp.cell 0;simp only [List.getElem?_cons_zero] at c0;have hsub:=yec (a:=bs) (b:=l) (i:=m) (by have:=HN.out;omega) (by have:=HLn.out;omega);have hlr:=HLR.out m (by have:=HN.out;omega);have hmy:=HMAY.out m (by have:=HN.out;omega);rw [HY.out] at hlr hsub;generalize bs.getD m 0=x at c5 hsub hlr hmy;have HS:=lh hsub;have HX:=lh (And.intro hBp (And.intro hNm (And.intro hRr (And.intro hbw hSq))));have hnc2:m<capr:=by omega
 have hnc3:m<cq:=by omega
 clear hsub hNm hBp hRr hbw hSq hml HJ
 go_wp2_with fail
 go_roundg g
 case measure=>omega
 case rel =>
  refine ⟨m+1,by omega,by go_num,?_⟩;obtain ⟨hBp,hNm,hRr,hbw,hSq⟩:=HX.out;have hq3:=HGQ.out;refine ⟨hBp.setOther om _ _,?_,hRr.setOther om _ _,hbw.setCell (show w.heap.size≤gr by omega) _,hSq.setCell (fun b o m' c' e hm=>by cases e;omega) _⟩;have e:=yjp HSLn.out HN.out hkn;rw [HS.out] at e;rw [←e];exact hNm.set m (x-y)):q:=h
theorem zq108d1b {q:Prop} (h:q:= by
 have hlt:(j:Int)<(n:Int):=by omega
 obtain ⟨b,o,y,e,hcell,HY⟩:=(Sl.of_own HOHw.out HHL.out).get (i:=j) (by have:=HHL.out;omega);cases e;simp only [Nat.zero_add] at hcell;have hst:=ys2 (rates:=rates) (k:=k) (y:=y) (j:=j) (by rw [HHD.out];have:=HHL.out;omega) (by rw [HHD.out];exact HY.out);rw [HHD.out] at hst;have hncc:j<ch:=by omega
 by_cases hyk:y=k
 ·have e1:(y != k)=false:=by simp [hyk]
  rw [if_neg (by rw [e1];simp),←HXS.out] at hst;have HST:Hid (xs=k::(hh.take (j+1)).filter (fun x=>x != k)):=hst.symm;have HXL2:Hid (xs.length≤j+1+1):=by show _≤_;have:=HXL.out;omega
  clear hst hyk
  go_wp2_with fail
  go_roundg g
  case measure=>omega
  case rel=>exact ⟨j+1,xs,by omega,by go_num,HST,HXL2,HO,HOHw,HBL,HBW⟩
 ·have e1:(y != k)=true:=by simp [hyk]
  rw [if_pos e1,←HXS.out] at hst;have HST:Hid (xs++[y]=k::(hh.take (j+1)).filter (fun x=>x != k)):=hst.symm;have HXL2:Hid ((xs++[y]).length≤j+1+1):=by show _≤_;have:=HXL.out;simp;omega
  have hxl:xs.length≤1001:=by have:=HXL.out;have:=HN1000.out;omega
  have hbs:w3.heap.size≤wr.heap.size:=by have:=HBW.out.size;have:=HSZ4.out;omega
  have hb4s:w4.heap.size≤wr.heap.size:=HBW.out.size;have hA:=HO.out;clear hst hyk
  go_wp2_with (at_builtin;refine yas _ rfl (.tmp 49) (.tmp 51) 266 rfl w3.heap.size 3 i0 (iZ) 1 8 Tryz.underlying266 hi hz0 hz1' hz2' rfl (by decide) _ _ _ rfl (hA.alloc _) ⟨wr.heap.size,0,none⟩ 1 1 [_] rfl rfl (cell_one_new _ _ _) (fun x hx=>by simp at hx;subst hx;rfl) (by unfold maxLen;omega) om (by simp;omega) ?_;intro v1 w5 hown1 hg1 hbk1)
  have HO5:Hid (w5.ownsRow w3.heap.size 3 1 v1 (xs++[y]).length ((xs++[y]).map (Value.int .i64))):= by
   have h:=hown1;show World.ownsRow _ _ _ _ _ _ _
   simpa using h
  have HOH5:Hid (w5.ownsRow (w3.heap.size+1) 3 1 (.slice (some ⟨gh,0,none⟩) n ch) n (hh.map (Value.int .i64))):= by
   refine (HOHw.out.alloc _).kept hg1 (.inr ?_);intro e0;have e:(Value.slice (some ⟨gh,0,none⟩) n ch).ownBlock=u11.ownBlock:=e0;have h1:=HGH.out;rcases HBL.out with h | h
   ·have e2:some gh=some w3.heap.size:=e.trans h
    injection e2 with e3
    omega
   ·have:=h gh e.symm;omega
  have HBL5:Hid (v1.ownBlock=some w3.heap.size∨∀b,v1.ownBlock=some b→w4.heap.size≤b):= by
   rcases hbk1 with h | h
   ·show _∨_;rw [h];exact HBL.out
   ·right
    intro b hb;rw [h] at hb;cases hb;simp only [World.size_alloc] at *;omega
  have HBW5:Hid (Below w3.heap.size w4 w5):=(HBW.out.alloc hbs _).grown hg1 (by rw [World.size_alloc];omega) (fun q hq=>(hA.lt q hq).1);clear hown1 hg1 hbk1 hA
  go_wp2_with fail
  go_roundg g
  case measure=>omega
  case rel=>exact ⟨j+1,_,by omega,by go_num,HST,HXL2,HO5,HOH5,HBL5,HBW5⟩):q:=h
theorem yro:(Tryz.prog.info? 3).map (fun i=>(i.zero,i.size,i.bytes))=some (some (iZ),1,8):=by kernel_rfl
theorem ym5 (v u:Value) (bs rates:List Int) (c d k am e:Int) (HE:Hid (yb1 bs c d am [k]=e)) (hne:(e != 0)=true) (hlen:bs.length≤1000) (w:World) (hv:Sl .i64 w v bs) (hu:Sl .i64 w u rates) :
 Calls Tryz.prog 182 #[.agg #[v,iV c,iV d],u,iV k,iV am] w (yb7 ([],0,0,e) w):= by
 have HV:=lh hv;have HU:=lh hu;obtain ⟨ao,cap,rfl,h1,⟨h2,_⟩,h3⟩:=hv;clear h3;obtain ⟨ao',cap',rfl,h1',⟨h2',_⟩,h3⟩:=hu;clear h3;unfold maxLen at h2 h2'
 have HBLK:Hid (Blk ((w.alloc (.cells #[.slice ao bs.length cap,iV c,iV d] 35)).alloc (.cells #[sZ,iZ,iZ] 35)) (w.heap.size+1) 35 [sZ,iZ,iZ]):= by
  exact zq10e414
 have hB0:Blk (w.alloc (.cells #[.slice ao bs.length cap,iV c,iV d] 35)) w.heap.size 35 [.slice ao bs.length cap,iV c,iV d]:=heap_alloc_new w _;have HB0:=lh (hB0.below (yaa bR (.cells #[sZ,iZ,iZ] 35)));have HW0:Hid (Below w.heap.size w ((w.alloc (.cells #[.slice ao bs.length cap,iV c,iV d] 35)).alloc (.cells #[sZ,iZ,iZ] 35))):=yaa (yaa bR _) _;clear hB0
 go_enter Tryz.func182,Tryz.ntmps182
 go_wp2_with fail
 obtain ⟨W,hW,gB,gR,gw,gS,gV⟩:∃W,(((w.alloc (.cells #[.slice ao bs.length cap,iV c,iV d] 35)).alloc (.cells #[sZ,iZ,iZ] 35)).alloc (.cells #[iV k] 3))=W∧Hid (Blk W w.heap.size 35 [.slice ao bs.length cap,iV c,iV d])∧Hid (Blk W (w.heap.size+1) 35 [sZ,iZ,iZ])∧Hid (Below w.heap.size w W)∧Hid (Sl .i64 W (.slice (some ⟨w.heap.size+1+1,0,none⟩) 1 1) [k])∧Hid (Sl .i64 W (.slice ao bs.length cap) bs) :=
  ⟨_,rfl,HB0.out.below (yaa bR _),HBLK.out.below (yaa bR _),yaa HW0.out _,Sl.litAt _ _ [k] 1 _ rfl _ rfl (by unfold maxLen;omega) (by simp),HV.out.below (yaa HW0.out _)⟩
 with_reducible rw [hW]
 clear hW HB0 HBLK HW0;refine (yb5 _ bs c d am _ [k] e HE om (by simp) _ gV.out gS.out).mono ?_;rintro _ w1 ⟨rfl,hb1⟩;have HR1:=lh (gR.out.below hb1);have HB1:=lh (gB.out.below hb1);have hbf:=yad gw.out hb1;clear gB gR gS gV gw hb1;have hR:=HR1.out;have r0:=hR.cell 0;have r1:=hR.cell 1;have r2:=hR.cell 2;simp only [gz,gs] at r0 r1 r2;have f0:=hR.frozen 0;have f1:=hR.frozen 1;have f2:=hR.frozen 2;have hlt:=hR.lt;clear hR;go_wp2
 refine bodyPost_ret (v:=.tuple #[.agg #[sZ,iZ,iZ],iV e]) (by simp [results,Tryz.results182,go_sem,r0,r1,r2]) rfl ⟨sZ,rfl,⟨Sl.nil,ycz⟩,yd5 hbf om _ _ _⟩
theorem yoq (v u:Value) (bs rates:List Int) (c d k am:Int) (HE:Hid (yb1 bs c d am [k]=0)) (hl:¬rates.length=bs.length) (hlen:bs.length≤1000) (w:World) (hv:Sl .i64 w v bs) (hu:Sl .i64 w u rates) :
 Calls Tryz.prog 182 #[.agg #[v,iV c,iV d],u,iV k,iV am] w (yb7 ([],0,0,1) w):= by
 have HV:=lh hv;have HU:=lh hu;obtain ⟨ao,cap,rfl,h1,⟨h2,_⟩,h3⟩:=hv;clear h3;obtain ⟨ao',cap',rfl,h1',⟨h2',_⟩,h3⟩:=hu;clear h3;unfold maxLen at h2 h2'
 have HBLK:Hid (Blk ((w.alloc (.cells #[.slice ao bs.length cap,iV c,iV d] 35)).alloc (.cells #[sZ,iZ,iZ] 35)) (w.heap.size+1) 35 [sZ,iZ,iZ]):= by
  exact zq10e414
 have hB0:Blk (w.alloc (.cells #[.slice ao bs.length cap,iV c,iV d] 35)) w.heap.size 35 [.slice ao bs.length cap,iV c,iV d]:=heap_alloc_new w _;have HB0:=lh (hB0.below (yaa bR (.cells #[sZ,iZ,iZ] 35)));have HW0:Hid (Below w.heap.size w ((w.alloc (.cells #[.slice ao bs.length cap,iV c,iV d] 35)).alloc (.cells #[sZ,iZ,iZ] 35))):=yaa (yaa bR _) _;clear hB0;have d1:((rates.length:Int) != (bs.length:Int))=true:=by simp;omega
 go_enter Tryz.func182,Tryz.ntmps182
 go_wp2_with fail
 obtain ⟨W,hW,gB,gR,gw,gS,gV⟩:∃W,(((w.alloc (.cells #[.slice ao bs.length cap,iV c,iV d] 35)).alloc (.cells #[sZ,iZ,iZ] 35)).alloc (.cells #[iV k] 3))=W∧Hid (Blk W w.heap.size 35 [.slice ao bs.length cap,iV c,iV d])∧Hid (Blk W (w.heap.size+1) 35 [sZ,iZ,iZ])∧Hid (Below w.heap.size w W)∧Hid (Sl .i64 W (.slice (some ⟨w.heap.size+1+1,0,none⟩) 1 1) [k])∧Hid (Sl .i64 W (.slice ao bs.length cap) bs) :=
  ⟨_,rfl,HB0.out.below (yaa bR _),HBLK.out.below (yaa bR _),yaa HW0.out _,Sl.litAt _ _ [k] 1 _ rfl _ rfl (by unfold maxLen;omega) (by simp),HV.out.below (yaa HW0.out _)⟩
 with_reducible rw [hW]
 clear hW HB0 HBLK HW0;refine (yb5 _ bs c d am _ [k] 0 HE om (by simp) _ gV.out gS.out).mono ?_;rintro _ w1 ⟨rfl,hb1⟩;have HR1:=lh (gR.out.below hb1);have HB1:=lh (gB.out.below hb1);have hbf:=yad gw.out hb1;clear gB gR gS gV gw hb1;have hB1:=HB1.out;have c0:=hB1.cell 0;have c1:=hB1.cell 1;have c2:=hB1.cell 2;simp only [gz,gs] at c0 c1 c2;clear hB1;have hR:=HR1.out;have r0:=hR.cell 0;have r1:=hR.cell 1;have r2:=hR.cell 2;simp only [gz,gs] at r0 r1 r2;have f0:=hR.frozen 0;have f1:=hR.frozen 1;have f2:=hR.frozen 2;have hlt:=hR.lt;clear hR;go_wp2
 refine bodyPost_ret (v:=.tuple #[.agg #[sZ,iZ,iZ],iV 1]) (by simp [results,Tryz.results182,go_sem,r0,r1,r2]) rfl ⟨sZ,rfl,⟨Sl.nil,ycz⟩,yd5 hbf om _ _ _⟩
theorem yqj (v u:Value) (bs rates:List Int) (c d k am:Int) (HE:Hid (yb1 bs c d am [k]=0)) (hrl:rates.length=bs.length) (l:List Int) (le cf:Int) (HP:Hid (ybq bs (ycx rates k) am=(l,le))) (hcf:c+le=cf) (hq:Hid (yat (subL bs l) cf d=true)) (hlen:bs.length≤1000) (w:World) (hv:Sl .i64 w v bs) (hu:Sl .i64 w u rates) :
 Calls Tryz.prog 182 #[.agg #[v,iV c,iV d],u,iV k,iV am] w (yb7 (subL bs l,cf,d,0) w):= by
 have HV:=lh hv;have HU:=lh hu;obtain ⟨ao,cap,rfl,h1,⟨h2,_⟩,h3⟩:=hv;clear h3;obtain ⟨ao',cap',rfl,h1',⟨h2',_⟩,h3⟩:=hu;clear h3;unfold maxLen at h2 h2'
 have HBLK:Hid (Blk ((w.alloc (.cells #[.slice ao bs.length cap,iV c,iV d] 35)).alloc (.cells #[sZ,iZ,iZ] 35)) (w.heap.size+1) 35 [sZ,iZ,iZ]):= by
  exact zq10e414
 have hB0:Blk (w.alloc (.cells #[.slice ao bs.length cap,iV c,iV d] 35)) w.heap.size 35 [.slice ao bs.length cap,iV c,iV d]:=heap_alloc_new w _;have HB0:=lh (hB0.below (yaa bR (.cells #[sZ,iZ,iZ] 35)));have HW0:Hid (Below w.heap.size w ((w.alloc (.cells #[.slice ao bs.length cap,iV c,iV d] 35)).alloc (.cells #[sZ,iZ,iZ] 35))):=yaa (yaa bR _) _;clear hB0;obtain ⟨hr,hk1,hk2,ham1,ham2⟩:=ym0 HE.out;obtain ⟨⟨hd1,hd2⟩,hl8,hl1⟩:=ygb hr;obtain ⟨⟨hc1,hc2⟩,hmay⟩:=ycr hr;have hbad:=ylv (yfb hr);have hb0:∀x∈bs,0≤x:=fun x hx=>(ylg hbad x hx).1
 have HI:Hid (yia bs (ycx rates k) am=(l,le,0)):= by
  show _=_;rw [ysd (ypa hrl ⟨hk1,hk2⟩) hbad ⟨ham1,ham2⟩,HP.out]
 have hll:l.length=bs.length:=by have:=ya7 bs (ycx rates k) am;rw [HP.out] at this;exact this
 have hlr:∀j,j<bs.length→0≤l.getD j 0∧l.getD j 0≤bs.getD j 0:=fun j hj=>by
  have:=ydl (ks:=ycx rates k) ham1 hb0 (ycx rates k).length j hj;have e:=HP.out;unfold ybq at e;rw [e] at this;exact this
 have hle:0≤le∧le≤am:= by
  exact zq106c37
 have hgl:=yih rates k;have hHl:(ya3 ya2 rates rates.length).length=rates.length:=ya4 _ _ _;have HL8:=lh hl8;have HMAY:=lh hmay;have HLR:=lh hlr;have HLL:=lh hll;have HARG:=lh (And.intro hl1 (And.intro hlen (And.intro hrl (And.intro hgl hHl))));have wcf:wrap64 cf=cf:=IntWalk.wrap64_in _ ⟨by omega,by omega⟩;have WW:=lh (And.intro hcf wcf);have d1:((rates.length:Int) != (bs.length:Int))=false:=by simp [hrl]
 obtain ⟨i0,hi,hz0,hz1',hz2'⟩:=info_parts yro;clear hr hk1 hk2 ham1 ham2 hd1 hd2 hl8 hl1 hc1 hc2 hmay hll hlr hle hcf wcf hbad hb0 hgl hHl hrl
 go_enter Tryz.func182,Tryz.ntmps182
 go_wp2_with fail
 obtain ⟨W,hW,gB,gR,gw,gS,gV⟩:∃W,(((w.alloc (.cells #[.slice ao bs.length cap,iV c,iV d] 35)).alloc (.cells #[sZ,iZ,iZ] 35)).alloc (.cells #[iV k] 3))=W∧Hid (Blk W w.heap.size 35 [.slice ao bs.length cap,iV c,iV d])∧Hid (Blk W (w.heap.size+1) 35 [sZ,iZ,iZ])∧Hid (Below w.heap.size w W)∧Hid (Sl .i64 W (.slice (some ⟨w.heap.size+1+1,0,none⟩) 1 1) [k])∧Hid (Sl .i64 W (.slice ao bs.length cap) bs) :=
  ⟨_,rfl,HB0.out.below (yaa bR _),HBLK.out.below (yaa bR _),yaa HW0.out _,Sl.litAt _ _ [k] 1 _ rfl _ rfl (by unfold maxLen;omega) (by simp),HV.out.below (yaa HW0.out _)⟩
 with_reducible rw [hW]
 clear hW HB0 HBLK HW0;refine (yb5 _ bs c d am _ [k] 0 HE om (by simp) _ gV.out gS.out).mono ?_;rintro _ w1 ⟨rfl,hb1⟩;have HR1:=lh (gR.out.below hb1);have HB1:=lh (gB.out.below hb1);have hbf:=yad gw.out hb1;clear gB gR gS gV gw hb1;have hB1:=HB1.out;have c0:=hB1.cell 0;have c1:=hB1.cell 1;have c2:=hB1.cell 2;simp only [gz,gs] at c0 c1 c2;clear hB1;have hz1:=HR1.out.lt;have HV1:=lh (HV.out.below hbf)
 go_wp2_with fail
 refine (yex _ bs c d HARG.out.2.1 _ HV1.out).mono ?_;rintro _ w3 ⟨q3,rfl,hown,hb3⟩;obtain ⟨ao3,capr,rfl,hnc,hcm,hBR⟩:=yed hown;obtain ⟨gr,hgr0,hgr1,cur,hcur1,hcur2,hcur3⟩:=hBR (by have:=HARG.out.1;omega);subst hgr0;obtain ⟨n,hn⟩:∃n,bs.length=n:=⟨_,rfl⟩;have HN:=lh hn;have HNR:Hid (Nums w3 gr capr bs):=⟨cur,hcur1,hcur2,hcur3⟩;have hbr:w1.heap.size+2≤gr:=hgr1;have HLn:Hid (l.length=n):=HLL.out.trans hn;rw [hn] at hnc ⊢;have hB3:=HB1.out.below hb3;have f0:=hB3.frozen 0;have f1:=hB3.frozen 1;have f2:=hB3.frozen 2;clear c0 c1 c2;have c0:=hB3.cell 0;have c1:=hB3.cell 1;have c2:=hB3.cell 2;simp only [gz,gs] at c0 c1 c2;have HB3:=lh hB3;have HR3:=lh (HR1.out.below hb3);have HBF3:=lh (yad hbf hb3);have hz3:=hb3.size;clear hB3 hown hb3 hn hcur1 hcur2 hcur3 HV1 HR1 HB1 HV hgr1 cur hbf
 go_wp2_with fail
 obtain ⟨W,hW,gP,gN,gR,gw,gF,gz⟩:∃W,((((w3.setCell ⟨w.heap.size,0,none⟩ (.slice (some ⟨gr,0,none⟩) n capr)).setCell ⟨w.heap.size,1,none⟩ (iV c)).setCell ⟨w.heap.size,2,none⟩ (iV d)).alloc (.cells #[iV k] 3))=W∧Hid (Blk W w.heap.size 35 [.slice (some ⟨gr,0,none⟩) n capr,iV c,iV d])∧Hid (Nums W gr capr bs)∧Hid (Blk W (w.heap.size+1) 35 [sZ,iZ,iZ])∧Hid (Below w.heap.size w W)∧Hid (W.ownsRow w3.heap.size 3 1 (.slice (some ⟨w3.heap.size,0,none⟩) 1 1) 1 [iV k])∧W.heap.size=w3.heap.size+1:= by
  exact zq1056fc
 have hgrl:gr<w3.heap.size:=HNR.out.lt;have hgl3:w.heap.size+1<w3.heap.size:=HR3.out.lt
 with_reducible rw [hW]
 have GZ:=lh gz;clear hW HB3 HNR HR3 HBF3 c0 c1 c2 f0 f1 f2 gz hz3;refine (ym6 _ rates _ (HU.out.below gw.out) (by have:=HARG.out.2;omega)).mono ?_;rintro _ w4 ⟨uh,rfl,hoh,hb4⟩;obtain ⟨hh,hhd⟩:∃hh,(ya3 ya2 rates rates.length)=hh:=⟨_,rfl⟩;rw [hhd,GZ.out] at hoh;have HHD:=lh hhd;have hhl:hh.length=n:=by rw [←HHD.out];have:=HARG.out.2.2.2.2;have:=HARG.out.2.2.1;have:=HN.out;omega
 have hn1:1≤n:=by have:=HARG.out.1;have:=HN.out;omega
 rw [hhl] at hoh;obtain ⟨gh,ch,rfl⟩:=ya5 hoh om;have HGH:Hid (w3.heap.size+1≤gh∧gh<w4.heap.size):=⟨(hoh.lt gh rfl).1,(hoh.lt gh rfl).2⟩;obtain ⟨_,_,hhc,hhm,_⟩:=ya8 hoh;unfold maxLen at hhm;have HOH:=lh hoh;have HHL:=lh hhl;have HN1000:Hid (n≤8):=by show _≤_;have:=HL8.out;have:=HN.out;omega
 have HF4:=lh (yox gF.out hb4);have HP4:=lh (gP.out.below hb4);have HN4:=lh (gN.out.below hb4);have HR4:=lh (gR.out.below hb4);have HBF4:=lh (yad gw.out hb4);have HSZ4:Hid (w3.heap.size<w4.heap.size):=by show _<_;have h1:=GZ.out;have h2:=hb4.size;omega
 clear hhd hb4 gF gP gN gR gw GZ HU hoh hhl
 go_wp2_with fail
 go_loopg [11,42] n (fun g s i wr=>∃(j:Nat) (xs:List Int),j+g=n∧i=iV j∧Hid (xs=k::(hh.take j).filter (fun x=>x != k))∧Hid (xs.length≤j+1)∧Hid (wr.ownsRow w3.heap.size 3 1 s xs.length (xs.map (Value.int .i64)))∧Hid (wr.ownsRow (w3.heap.size+1) 3 1 (.slice (some ⟨gh,0,none⟩) n ch) n (hh.map (Value.int .i64)))∧Hid (s.ownBlock=some w3.heap.size∨∀b,s.ownBlock=some b→w4.heap.size≤b)∧Hid (Below w3.heap.size w4 wr))
 case atStart=>exact ⟨0,[k],by omega,rfl,rfl,by show _≤_;simp,HF4.out,HOH.out,.inl rfl,bR⟩
 case round =>
  obtain ⟨j,xs,hjg,rfl,HXS,HXL,HO,HOHw,HBL,HBW⟩:=hrel;cases gk with
  | succ g =>
   exact zq108d1b
  | zero =>
   obtain rfl:j=n:=by omega
   have hlt:¬((j:Int)<(j:Int)):=by omega
   have hxs:xs=ycx rates k:= by
    rw [HXS.out,List.take_of_length_le (by have:=HHL.out;omega)];unfold ycx;rw [HHD.out]
   subst hxs;have q0:∀(i:Nat) (x:Value),w4.cell? ⟨w.heap.size,i,none⟩=some x→wr.cell? ⟨w.heap.size,i,none⟩=some x:=fun i x hx=>(HBW.out.cell (p:=⟨w.heap.size,i,none⟩) (by show w.heap.size<_;omega)).trans hx;have HPr:Hid (Blk wr w.heap.size 35 [.slice (some ⟨gr,0,none⟩) j capr,iV c,iV d]):=(HBW.out.block w.heap.size om).trans HP4.out;have HRr:Hid (Blk wr (w.heap.size+1) 35 [sZ,iZ,iZ]):=(HBW.out.block (w.heap.size+1) om).trans HR4.out
   have HNr:Hid (Nums wr gr capr bs):= by
    obtain ⟨cur,n1,n2,n3⟩:=HN4.out;exact ⟨cur,(HBW.out.block gr hgrl).trans n1,n2,n3⟩
   have HBr:Hid (Below w.heap.size w wr):=HBF4.out.trans (HBW.out.mono om);have HSr:=lh (Sl.of_own HO.out rfl);have HBs:=lh (HNr.out.sl HN.out hnc hcm);have c0:=HPr.out.cell 0;have c1:=HPr.out.cell 1;have c2:=HPr.out.cell 2;simp only [gz,gs] at c0 c1 c2;clear q0 HXS HXL HO HOHw HBL HBW HP4 HN4 HR4 HBF4 HF4 HOH
   go_wp2_with fail
   refine (yi9 _ _ bs (ycx rates k) am _ HBs.out HSr.out HARG.out.2.1 (by have h1:=HARG.out.2.2.2.1;have h2:=HARG.out.2.2.1;have h3:=HN1000.out;have h4:=HN.out;omega)).mono ?_;rintro _ w6 ⟨uq,rfl,hown6,hb6⟩;rw [HI.out] at hown6 ⊢;simp only at hown6 ⊢;rw [HLn.out] at hown6;obtain ⟨gq,cq,rfl⟩:=ya5 hown6 om;have HGQ:Hid (wr.heap.size≤gq):=(hown6.lt gq rfl).1;obtain ⟨_,_,hq1,hq2,_⟩:=ya8 hown6;unfold maxLen at hq2;have HQ6:=lh (Sl.of_own hown6 HLn.out);have hP6:=HPr.out.below hb6;have hwr1:=HPr.out.lt;have hwr2:=HRr.out.lt;have hwr3:=HNr.out.lt;have HP6:=lh hP6;have HR6:=lh (HRr.out.below hb6);have HN6:=lh (HNr.out.below hb6);have HB6:=lh (yad HBr.out hb6);clear c0 c1 c2 hown6 hb6 hP6 HPr HRr HNr HBr HSr HBs
   go_wp2_with fail
   go_loopg [69] j (fun g i wr2=>∃(m:Nat),m+g=j∧i=iV m∧Hid (Blk wr2 w.heap.size 35 [.slice (some ⟨gr,0,none⟩) j capr,iV c,iV d]∧Nums wr2 gr capr (mixL (subL bs l) bs m)∧Blk wr2 (w.heap.size+1) 35 [sZ,iZ,iZ]∧Below w.heap.size w wr2∧Sl .i64 wr2 (.slice (some ⟨gq,0,none⟩) j cq) l))
   case atStart=>exact ⟨0,by omega,rfl,HP6.out,by rw [yfy];exact HN6.out,HR6.out,HB6.out,HQ6.out⟩
   case round =>
    obtain ⟨m,hmg,rfl,HJ⟩:=hrel;have HSLn:Hid ((subL bs l).length=j):=by show _=_;unfold subL;rw [List.length_zipWith];have:=HN.out;have:=HLn.out;omega
    cases gk with
    | succ g =>
     exact zq10d5bf
    | zero =>
     obtain rfl:m=j:=by omega
     have hlt:¬((m:Int)<(m:Int)):=by omega
     obtain ⟨hBp,hNm,hRr,hbw,hSq⟩:=HJ.out;rw [ygk HSLn.out HN.out] at hNm;have c0:=hBp.cell 0;have c1:=hBp.cell 1;have c2:=hBp.cell 2;simp only [gz,gs] at c0 c1 c2;have f1:=hBp.frozen 1;obtain ⟨hcf,wcf⟩:=WW.out;have hlb:=hBp.lt;have HX:=lh (And.intro hBp (And.intro hNm (And.intro hRr hbw)));have HJV:Hid (ybt (.slice (some ⟨gr,0,none⟩) m capr) (subL bs l) cf d=.tuple #[.agg #[.slice (some ⟨gr,0,none⟩) m capr,iV cf,iV d],iZ]):=by show _=_;unfold ybt;rw [hq.out];rfl
     have HLL1:Hid ((subL bs l).length≤1000000):=by show _≤_;have:=HSLn.out;have:=HN1000.out;omega
     clear hBp hNm hRr hbw hSq HJ
     go_wp2_with fail
     refine (ych _ (subL bs l) cf d _ HJV HLL1.out _ ?sl).mono ?_
     case sl=>exact (HX.out.2.1.setOther om 1 _).sl HSLn.out hnc hcm
     rintro _ w7 ⟨rfl,hb7⟩;have hR7:=(HX.out.2.2.1.setOther om 1 (iV cf)).below hb7;have r0:=hR7.cell 0;have r1:=hR7.cell 1;have r2:=hR7.cell 2;simp only [gz,gs] at r0 r1 r2;have e0:=hR7.frozen 0;have e1:=hR7.frozen 1;have e2:=hR7.frozen 2;have hbf4:Below w.heap.size w w7:=(HX.out.2.2.2.setCell (p:=⟨w.heap.size,1,none⟩) (Nat.le_refl _) (iV cf)).trans (hb7.mono (by simp;omega));have HN4:=lh ((HX.out.2.1.setOther om 1 (iV cf)).below hb7);have HSL:=HSLn;have hlt4:=hR7.lt;clear hR7 hb7 c0 c1 c2 f1 hcf wcf;go_wp2
     refine bodyPost_ret (v:=.tuple #[.agg #[.slice (some ⟨gr,0,none⟩) m capr,iV cf,iV d],iZ]) (by simp [results,Tryz.results182,go_sem,r0,r1,r2]) rfl ⟨.slice (some ⟨gr,0,none⟩) m capr,rfl,⟨(((HN4.out.setOther om 0 _).setOther om 1 _).setOther om 2 _).sl HSL.out hnc hcm,ys3 fun _=>⟨rfl,by omega⟩⟩,yd5 hbf4 om _ _ _⟩
theorem yov (v u:Value) (bs rates:List Int) (c d k am:Int) (HE:Hid (yb1 bs c d am [k]=0)) (hrl:rates.length=bs.length) (l:List Int) (le cf:Int) (HP:Hid (ybq bs (ycx rates k) am=(l,le))) (hcf:c+le=cf) (hq:Hid (yat (subL bs l) cf d=false)) (hlen:bs.length≤1000) (w:World) (hv:Sl .i64 w v bs) (hu:Sl .i64 w u rates) :
 Calls Tryz.prog 182 #[.agg #[v,iV c,iV d],u,iV k,iV am] w (yb7 ([],0,0,5) w):= by
 have HV:=lh hv;have HU:=lh hu;obtain ⟨ao,cap,rfl,h1,⟨h2,_⟩,h3⟩:=hv;clear h3;obtain ⟨ao',cap',rfl,h1',⟨h2',_⟩,h3⟩:=hu;clear h3;unfold maxLen at h2 h2'
 have HBLK:Hid (Blk ((w.alloc (.cells #[.slice ao bs.length cap,iV c,iV d] 35)).alloc (.cells #[sZ,iZ,iZ] 35)) (w.heap.size+1) 35 [sZ,iZ,iZ]):= by
  exact zq10e414
 have hB0:Blk (w.alloc (.cells #[.slice ao bs.length cap,iV c,iV d] 35)) w.heap.size 35 [.slice ao bs.length cap,iV c,iV d]:=heap_alloc_new w _;have HB0:=lh (hB0.below (yaa bR (.cells #[sZ,iZ,iZ] 35)));have HW0:Hid (Below w.heap.size w ((w.alloc (.cells #[.slice ao bs.length cap,iV c,iV d] 35)).alloc (.cells #[sZ,iZ,iZ] 35))):=yaa (yaa bR _) _;clear hB0;obtain ⟨hr,hk1,hk2,ham1,ham2⟩:=ym0 HE.out;obtain ⟨⟨hd1,hd2⟩,hl8,hl1⟩:=ygb hr;obtain ⟨⟨hc1,hc2⟩,hmay⟩:=ycr hr;have hbad:=ylv (yfb hr);have hb0:∀x∈bs,0≤x:=fun x hx=>(ylg hbad x hx).1
 have HI:Hid (yia bs (ycx rates k) am=(l,le,0)):= by
  show _=_;rw [ysd (ypa hrl ⟨hk1,hk2⟩) hbad ⟨ham1,ham2⟩,HP.out]
 have hll:l.length=bs.length:=by have:=ya7 bs (ycx rates k) am;rw [HP.out] at this;exact this
 have hlr:∀j,j<bs.length→0≤l.getD j 0∧l.getD j 0≤bs.getD j 0:=fun j hj=>by
  have:=ydl (ks:=ycx rates k) ham1 hb0 (ycx rates k).length j hj;have e:=HP.out;unfold ybq at e;rw [e] at this;exact this
 have hle:0≤le∧le≤am:= by
  exact zq106c37
 have hgl:=yih rates k;have hHl:(ya3 ya2 rates rates.length).length=rates.length:=ya4 _ _ _;have HL8:=lh hl8;have HMAY:=lh hmay;have HLR:=lh hlr;have HLL:=lh hll;have HARG:=lh (And.intro hl1 (And.intro hlen (And.intro hrl (And.intro hgl hHl))));have wcf:wrap64 cf=cf:=IntWalk.wrap64_in _ ⟨by omega,by omega⟩;have WW:=lh (And.intro hcf wcf);have d1:((rates.length:Int) != (bs.length:Int))=false:=by simp [hrl]
 obtain ⟨i0,hi,hz0,hz1',hz2'⟩:=info_parts yro;clear hr hk1 hk2 ham1 ham2 hd1 hd2 hl8 hl1 hc1 hc2 hmay hll hlr hle hcf wcf hbad hb0 hgl hHl hrl
 go_enter Tryz.func182,Tryz.ntmps182
 go_wp2_with fail
 obtain ⟨W,hW,gB,gR,gw,gS,gV⟩:∃W,(((w.alloc (.cells #[.slice ao bs.length cap,iV c,iV d] 35)).alloc (.cells #[sZ,iZ,iZ] 35)).alloc (.cells #[iV k] 3))=W∧Hid (Blk W w.heap.size 35 [.slice ao bs.length cap,iV c,iV d])∧Hid (Blk W (w.heap.size+1) 35 [sZ,iZ,iZ])∧Hid (Below w.heap.size w W)∧Hid (Sl .i64 W (.slice (some ⟨w.heap.size+1+1,0,none⟩) 1 1) [k])∧Hid (Sl .i64 W (.slice ao bs.length cap) bs) :=
  ⟨_,rfl,HB0.out.below (yaa bR _),HBLK.out.below (yaa bR _),yaa HW0.out _,Sl.litAt _ _ [k] 1 _ rfl _ rfl (by unfold maxLen;omega) (by simp),HV.out.below (yaa HW0.out _)⟩
 with_reducible rw [hW]
 clear hW HB0 HBLK HW0;refine (yb5 _ bs c d am _ [k] 0 HE om (by simp) _ gV.out gS.out).mono ?_;rintro _ w1 ⟨rfl,hb1⟩;have HR1:=lh (gR.out.below hb1);have HB1:=lh (gB.out.below hb1);have hbf:=yad gw.out hb1;clear gB gR gS gV gw hb1;have hB1:=HB1.out;have c0:=hB1.cell 0;have c1:=hB1.cell 1;have c2:=hB1.cell 2;simp only [gz,gs] at c0 c1 c2;clear hB1;have hz1:=HR1.out.lt;have HV1:=lh (HV.out.below hbf)
 go_wp2_with fail
 refine (yex _ bs c d HARG.out.2.1 _ HV1.out).mono ?_;rintro _ w3 ⟨q3,rfl,hown,hb3⟩;obtain ⟨ao3,capr,rfl,hnc,hcm,hBR⟩:=yed hown;obtain ⟨gr,hgr0,hgr1,cur,hcur1,hcur2,hcur3⟩:=hBR (by have:=HARG.out.1;omega);subst hgr0;obtain ⟨n,hn⟩:∃n,bs.length=n:=⟨_,rfl⟩;have HN:=lh hn;have HNR:Hid (Nums w3 gr capr bs):=⟨cur,hcur1,hcur2,hcur3⟩;have hbr:w1.heap.size+2≤gr:=hgr1;have HLn:Hid (l.length=n):=HLL.out.trans hn;rw [hn] at hnc ⊢;have hB3:=HB1.out.below hb3;have f0:=hB3.frozen 0;have f1:=hB3.frozen 1;have f2:=hB3.frozen 2;clear c0 c1 c2;have c0:=hB3.cell 0;have c1:=hB3.cell 1;have c2:=hB3.cell 2;simp only [gz,gs] at c0 c1 c2;have HB3:=lh hB3;have HR3:=lh (HR1.out.below hb3);have HBF3:=lh (yad hbf hb3);have hz3:=hb3.size;clear hB3 hown hb3 hn hcur1 hcur2 hcur3 HV1 HR1 HB1 HV hgr1 cur hbf
 go_wp2_with fail
 obtain ⟨W,hW,gP,gN,gR,gw,gF,gz⟩:∃W,((((w3.setCell ⟨w.heap.size,0,none⟩ (.slice (some ⟨gr,0,none⟩) n capr)).setCell ⟨w.heap.size,1,none⟩ (iV c)).setCell ⟨w.heap.size,2,none⟩ (iV d)).alloc (.cells #[iV k] 3))=W∧Hid (Blk W w.heap.size 35 [.slice (some ⟨gr,0,none⟩) n capr,iV c,iV d])∧Hid (Nums W gr capr bs)∧Hid (Blk W (w.heap.size+1) 35 [sZ,iZ,iZ])∧Hid (Below w.heap.size w W)∧Hid (W.ownsRow w3.heap.size 3 1 (.slice (some ⟨w3.heap.size,0,none⟩) 1 1) 1 [iV k])∧W.heap.size=w3.heap.size+1:= by
  exact zq1056fc
 have hgrl:gr<w3.heap.size:=HNR.out.lt;have hgl3:w.heap.size+1<w3.heap.size:=HR3.out.lt
 with_reducible rw [hW]
 have GZ:=lh gz;clear hW HB3 HNR HR3 HBF3 c0 c1 c2 f0 f1 f2 gz hz3;refine (ym6 _ rates _ (HU.out.below gw.out) (by have:=HARG.out.2;omega)).mono ?_;rintro _ w4 ⟨uh,rfl,hoh,hb4⟩;obtain ⟨hh,hhd⟩:∃hh,(ya3 ya2 rates rates.length)=hh:=⟨_,rfl⟩;rw [hhd,GZ.out] at hoh;have HHD:=lh hhd;have hhl:hh.length=n:=by rw [←HHD.out];have:=HARG.out.2.2.2.2;have:=HARG.out.2.2.1;have:=HN.out;omega
 have hn1:1≤n:=by have:=HARG.out.1;have:=HN.out;omega
 rw [hhl] at hoh;obtain ⟨gh,ch,rfl⟩:=ya5 hoh om;have HGH:Hid (w3.heap.size+1≤gh∧gh<w4.heap.size):=⟨(hoh.lt gh rfl).1,(hoh.lt gh rfl).2⟩;obtain ⟨_,_,hhc,hhm,_⟩:=ya8 hoh;unfold maxLen at hhm;have HOH:=lh hoh;have HHL:=lh hhl;have HN1000:Hid (n≤8):=by show _≤_;have:=HL8.out;have:=HN.out;omega
 have HF4:=lh (yox gF.out hb4);have HP4:=lh (gP.out.below hb4);have HN4:=lh (gN.out.below hb4);have HR4:=lh (gR.out.below hb4);have HBF4:=lh (yad gw.out hb4);have HSZ4:Hid (w3.heap.size<w4.heap.size):=by show _<_;have h1:=GZ.out;have h2:=hb4.size;omega
 clear hhd hb4 gF gP gN gR gw GZ HU hoh hhl
 go_wp2_with fail
 go_loopg [11,42] n (fun g s i wr=>∃(j:Nat) (xs:List Int),j+g=n∧i=iV j∧Hid (xs=k::(hh.take j).filter (fun x=>x != k))∧Hid (xs.length≤j+1)∧Hid (wr.ownsRow w3.heap.size 3 1 s xs.length (xs.map (Value.int .i64)))∧Hid (wr.ownsRow (w3.heap.size+1) 3 1 (.slice (some ⟨gh,0,none⟩) n ch) n (hh.map (Value.int .i64)))∧Hid (s.ownBlock=some w3.heap.size∨∀b,s.ownBlock=some b→w4.heap.size≤b)∧Hid (Below w3.heap.size w4 wr))
 case atStart=>exact ⟨0,[k],by omega,rfl,rfl,by show _≤_;simp,HF4.out,HOH.out,.inl rfl,bR⟩
 case round =>
  obtain ⟨j,xs,hjg,rfl,HXS,HXL,HO,HOHw,HBL,HBW⟩:=hrel;cases gk with
  | succ g =>
   exact zq108d1b
  | zero =>
   obtain rfl:j=n:=by omega
   have hlt:¬((j:Int)<(j:Int)):=by omega
   have hxs:xs=ycx rates k:= by
    rw [HXS.out,List.take_of_length_le (by have:=HHL.out;omega)];unfold ycx;rw [HHD.out]
   subst hxs;have q0:∀(i:Nat) (x:Value),w4.cell? ⟨w.heap.size,i,none⟩=some x→wr.cell? ⟨w.heap.size,i,none⟩=some x:=fun i x hx=>(HBW.out.cell (p:=⟨w.heap.size,i,none⟩) (by show w.heap.size<_;omega)).trans hx;have HPr:Hid (Blk wr w.heap.size 35 [.slice (some ⟨gr,0,none⟩) j capr,iV c,iV d]):=(HBW.out.block w.heap.size om).trans HP4.out;have HRr:Hid (Blk wr (w.heap.size+1) 35 [sZ,iZ,iZ]):=(HBW.out.block (w.heap.size+1) om).trans HR4.out
   have HNr:Hid (Nums wr gr capr bs):= by
    obtain ⟨cur,n1,n2,n3⟩:=HN4.out;exact ⟨cur,(HBW.out.block gr hgrl).trans n1,n2,n3⟩
   have HBr:Hid (Below w.heap.size w wr):=HBF4.out.trans (HBW.out.mono om);have HSr:=lh (Sl.of_own HO.out rfl);have HBs:=lh (HNr.out.sl HN.out hnc hcm);have c0:=HPr.out.cell 0;have c1:=HPr.out.cell 1;have c2:=HPr.out.cell 2;simp only [gz,gs] at c0 c1 c2;clear q0 HXS HXL HO HOHw HBL HBW HP4 HN4 HR4 HBF4 HF4 HOH
   go_wp2_with fail
   refine (yi9 _ _ bs (ycx rates k) am _ HBs.out HSr.out HARG.out.2.1 (by have h1:=HARG.out.2.2.2.1;have h2:=HARG.out.2.2.1;have h3:=HN1000.out;have h4:=HN.out;omega)).mono ?_;rintro _ w6 ⟨uq,rfl,hown6,hb6⟩;rw [HI.out] at hown6 ⊢;simp only at hown6 ⊢;rw [HLn.out] at hown6;obtain ⟨gq,cq,rfl⟩:=ya5 hown6 om;have HGQ:Hid (wr.heap.size≤gq):=(hown6.lt gq rfl).1;obtain ⟨_,_,hq1,hq2,_⟩:=ya8 hown6;unfold maxLen at hq2;have HQ6:=lh (Sl.of_own hown6 HLn.out);have hP6:=HPr.out.below hb6;have hwr1:=HPr.out.lt;have hwr2:=HRr.out.lt;have hwr3:=HNr.out.lt;have HP6:=lh hP6;have HR6:=lh (HRr.out.below hb6);have HN6:=lh (HNr.out.below hb6);have HB6:=lh (yad HBr.out hb6);clear c0 c1 c2 hown6 hb6 hP6 HPr HRr HNr HBr HSr HBs
   go_wp2_with fail
   go_loopg [69] j (fun g i wr2=>∃(m:Nat),m+g=j∧i=iV m∧Hid (Blk wr2 w.heap.size 35 [.slice (some ⟨gr,0,none⟩) j capr,iV c,iV d]∧Nums wr2 gr capr (mixL (subL bs l) bs m)∧Blk wr2 (w.heap.size+1) 35 [sZ,iZ,iZ]∧Below w.heap.size w wr2∧Sl .i64 wr2 (.slice (some ⟨gq,0,none⟩) j cq) l))
   case atStart=>exact ⟨0,by omega,rfl,HP6.out,by rw [yfy];exact HN6.out,HR6.out,HB6.out,HQ6.out⟩
   case round =>
    obtain ⟨m,hmg,rfl,HJ⟩:=hrel;have HSLn:Hid ((subL bs l).length=j):=by show _=_;unfold subL;rw [List.length_zipWith];have:=HN.out;have:=HLn.out;omega
    cases gk with
    | succ g =>
     exact zq10d5bf
    | zero =>
     obtain rfl:m=j:=by omega
     have hlt:¬((m:Int)<(m:Int)):=by omega
     obtain ⟨hBp,hNm,hRr,hbw,hSq⟩:=HJ.out;rw [ygk HSLn.out HN.out] at hNm;have c0:=hBp.cell 0;have c1:=hBp.cell 1;have c2:=hBp.cell 2;simp only [gz,gs] at c0 c1 c2;have f1:=hBp.frozen 1;obtain ⟨hcf,wcf⟩:=WW.out;have hlb:=hBp.lt;have HX:=lh (And.intro hBp (And.intro hNm (And.intro hRr hbw)));have HJV:Hid (ybt (.slice (some ⟨gr,0,none⟩) m capr) (subL bs l) cf d=.tuple #[.agg #[sZ,iZ,iZ],iV 5]):=by show _=_;unfold ybt;rw [hq.out];rfl
     have HLL1:Hid ((subL bs l).length≤1000000):=by show _≤_;have:=HSLn.out;have:=HN1000.out;omega
     clear hBp hNm hRr hbw hSq HJ
     go_wp2_with fail
     refine (ych _ (subL bs l) cf d _ HJV HLL1.out _ ?sl).mono ?_
     case sl=>exact (HX.out.2.1.setOther om 1 _).sl HSLn.out hnc hcm
     rintro _ w7 ⟨rfl,hb7⟩;have hR7:=(HX.out.2.2.1.setOther om 1 (iV cf)).below hb7;have r0:=hR7.cell 0;have r1:=hR7.cell 1;have r2:=hR7.cell 2;simp only [gz,gs] at r0 r1 r2;have e0:=hR7.frozen 0;have e1:=hR7.frozen 1;have e2:=hR7.frozen 2;have hbf4:Below w.heap.size w w7:=(HX.out.2.2.2.setCell (p:=⟨w.heap.size,1,none⟩) (Nat.le_refl _) (iV cf)).trans (hb7.mono (by simp;omega));have HN4:=lh ((HX.out.2.1.setOther om 1 (iV cf)).below hb7);have HSL:=HSLn;have hlt4:=hR7.lt;clear hR7 hb7 c0 c1 c2 f1 hcf wcf;go_wp2
     refine bodyPost_ret (v:=.tuple #[.agg #[sZ,iZ,iZ],iV 5]) (by simp [results,Tryz.results182,go_sem,r0,r1,r2]) rfl ⟨sZ,rfl,⟨Sl.nil,ycz⟩,yd5 hbf4 om _ _ _⟩
theorem ymz (v u:Value) (bs rates:List Int) (c d k am:Int) (s:List Int×Int×Int×Int) (hs:Hid (ytl bs c d rates k am=s)) (hlen:bs.length≤1000) (w:World) (hv:Sl .i64 w v bs) (hu:Sl .i64 w u rates) :
 Calls Tryz.prog 182 #[.agg #[v,iV c,iV d],u,iV k,iV am] w (yb7 s w):= by
 have hs:=hs.out;subst hs;unfold ytl
 by_cases he:yb1 bs c d am [k]=0
 ·rw [if_neg (by simpa using he)]
  by_cases hl:rates.length=bs.length
  ·rw [if_neg (by simpa using hl)]
   cases hq:yat (subL bs (ybq bs (ycx rates k) am).1) (c+(ybq bs (ycx rates k) am).2) d with
   | true=>rw [if_pos rfl];exact yqj v u bs rates c d k am he hl _ _ _ rfl rfl hq hlen w hv hu
   | false=>rw [if_neg (by simp)];exact yov v u bs rates c d k am he hl _ _ _ rfl rfl hq hlen w hv hu
  ·rw [if_pos (by simpa using hl)]
   exact yoq v u bs rates c d k am he hl hlen w hv hu
 ·rw [if_pos (by simpa using he)]
  exact ym5 v u bs rates c d k am _ rfl (by simpa using he) hlen w hv hu
end Go.Proofs.YtkongpjpkpfniaaGreat

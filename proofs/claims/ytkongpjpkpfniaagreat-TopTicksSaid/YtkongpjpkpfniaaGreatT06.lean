/- TopTicks: parts of the proof, made small by a program (mini.py). -/
import Derived.Test.YtkongpjpkpfniaaGreatT01
import Derived.Test.YtkongpjpkpfniaaGreatT05
set_option linter.unusedVariables false
set_option linter.unusedSimpArgs false
set_option maxRecDepth 100000
set_option maxHeartbeats 6400000
namespace Go.Proofs.YtkongpjpkpfniaaGreat
open Go.RowKit
theorem zq061910 {q:Prop} (h:q:= by
 intro b o m k e hm;cases e;obtain ⟨b',o',e1,hc⟩:=HQL.out.at (i:=0) hm;cases e1;have:=yac hc;omega):q:=h
theorem zq06d83d {q:Prop} (h:q:= by
 refine ⟨0,by omega,rfl,?_⟩;refine ⟨((HB3.out.set 0 _).set 1 _).set 2 _,?_,((HR3.out.setOther om 0 _).setOther om 1 _).setOther om 2 _,yd5 HBF3.out om _ _ _,((HQ3.out.setCell HNE1.out _).setCell HNE1.out _).setCell HNE1.out _⟩;rw [yfy];exact ((HNR.out.setOther om 0 _).setOther om 1 _).setOther om 2 _):q:=h
theorem zq06e414 {q:Prop} (h:q:= by
 have:=heap_alloc_new (w.alloc (.cells #[.slice ao bs.length cap,iV c,iV d] 35)) (.cells #[sZ,iZ,iZ] 35)
 simpa [Blk,Hid] using this):q:=h
theorem zq064e28 {q:Prop} (h:q:= by
 have hlt:(k:Int)<(l.length:Int):=by have:=HLn.out;omega
 have hkn:k<n:=by omega
 obtain ⟨hBp,hNm,hRr,hbw,hSq⟩:=HI.out;obtain ⟨b',o',y,rfl,hcell,HY⟩:=hSq.get (i:=k) (by have:=HLn.out;omega);have hml:=yfl (k:=k) HSLn.out HN.out (Nat.le_of_lt hkn);have c5:=hNm.cell (i:=k) om;rw [yjl HSLn.out HN.out hkn] at c5;have f5:=hNm.frozen k;have c0:=hBp.cell 0;simp only [List.getElem?_cons_zero] at c0;have hsub:=yec (a:=bs) (b:=l) (i:=k) (by have:=HN.out;omega) (by have:=HLn.out;omega);have hlr:=HLR.out k (by have:=HN.out;omega);have hmy:=HMAY.out k (by have:=HN.out;omega);rw [HY.out] at hlr hsub;generalize bs.getD k 0=x at c5 hsub hlr hmy;have HS:=lh hsub;have HX:=lh (And.intro hBp (And.intro hNm (And.intro hRr (And.intro hbw hSq))));have hnc2:k<capr:=by omega
 clear hsub hNm hBp hRr hbw hSq hml HI
 go_wp2_with fail
 go_roundg g
 case measure=>omega
 case rel =>
  refine ⟨k+1,by omega,by go_num,?_⟩;obtain ⟨hBp,hNm,hRr,hbw,hSq⟩:=HX.out;refine ⟨hBp.setOther om _ _,?_,hRr.setOther om _ _,hbw.setCell (show w.heap.size<=gr by omega) _,hSq.setCell HNE2.out _⟩;have e:=yjp HSLn.out HN.out hkn;rw [HS.out] at e;rw [<-e];exact hNm.set k (x-y)):q:=h
theorem yg2 (v:Value) (bs:List Int) (c d:Int) (i:Nat) (am y m z:Int) (he:Hid (yb1 bs c d am [(i:Int)+1]=0)) (hi:i<bs.length) (hy:Hid (bs.getD i 0=y)) (hle:¬am<=c) (hm:am-c=m) (hz:y+m=z) (hwm:wrap64 m=m) (hwz:wrap64 z=z) (hq:Hid (yat (bs.set i z) 0 d=true)) (hlen:bs.length<=1000) (w:World) (hv:Sl .i64 w v bs) :
 Calls Tryz.prog 180 #[.agg #[v,iV c,iV d],iV ((i:Int)+1),iV am] w (yb7 ((bs.set i z),0,d,0) w):= by
 have HV:=lh hv;obtain ⟨ao,cap,rfl,h1,⟨h2,_⟩,h3⟩:=hv;clear h3;unfold maxLen at h2
 have HBLK:Hid (Blk ((w.alloc (.cells #[.slice ao bs.length cap,iV c,iV d] 35)).alloc (.cells #[sZ,iZ,iZ] 35)) (w.heap.size+1) 35 [sZ,iZ,iZ]):= by
  exact zq06e414
 have hB0:Blk (w.alloc (.cells #[.slice ao bs.length cap,iV c,iV d] 35)) w.heap.size 35 [.slice ao bs.length cap,iV c,iV d]:=heap_alloc_new w _;have HB0:=lh (hB0.below (yaa bR (.cells #[sZ,iZ,iZ] 35)));have HW0:Hid (BW w ((w.alloc (.cells #[.slice ao bs.length cap,iV c,iV d] 35)).alloc (.cells #[sZ,iZ,iZ] 35))):=yaa (yaa bR _) _;have HARG:=lh (And.intro hi hlen);clear hB0
 go_enter Tryz.func180,Tryz.ntmps180
 go_wp2_with fail
 obtain ⟨W,hW,gB,gR,gw,gS,gV⟩:∃W,(((w.alloc (.cells #[.slice ao bs.length cap,iV c,iV d] 35)).alloc (.cells #[sZ,iZ,iZ] 35)).alloc (.cells #[iV ((i:Int)+1)] 3))=W/\Hid (Blk W w.heap.size 35 [.slice ao bs.length cap,iV c,iV d])/\Hid (Blk W (w.heap.size+1) 35 [sZ,iZ,iZ])/\Hid (BW w W)/\Hid (Sl .i64 W (sL (w.heap.size+1+1) 0 1 1) [(i:Int)+1])/\Hid (Sl .i64 W (.slice ao bs.length cap) bs) :=
  ⟨_,rfl,HB0.out.below (yaa bR _),HBLK.out.below (yaa bR _),yaa HW0.out _,Sl.litAt _ _ [(i:Int)+1] 1 _ rfl _ rfl (by unfold maxLen;omega) (by simp),HV.out.below (yaa HW0.out _)⟩
 with_reducible rw [hW]
 clear hW HB0 HBLK HW0 HV;have hgl:=gR.out.lt;refine (yb5 _ bs c d am _ [(i:Int)+1] 0 he om (by simp) _ gV.out gS.out).mono ?_;rintro _ w1 ⟨rfl,hb1⟩;have hB1:=gB.out.below hb1;obtain ⟨c0,c1,c2',-⟩:=hB1.cs [0,1,2];simp only [gz,gs] at c0 c1 c2';have hz1:=hb1.size
 go_wp2_with fail
 refine (yex _ bs c d HARG.out.2 _ (gV.out.below hb1)).mono ?_;rintro _ w2 ⟨u,rfl,hown,hb2⟩;obtain ⟨gr,capr,rfl⟩:=ya5 hown (by have:=HARG.out.1;omega);obtain ⟨n,hn⟩:∃n,bs.length=n:=⟨_,rfl⟩;rw [hn] at hown ⊢;have HN:=lh hn;have hB2:=hB1.below hb2;obtain ⟨f0,f1,f2,-⟩:=hB2.fs [0,1,2];clear c0 c1 c2';obtain ⟨c0,c1,c2',-⟩:=hB2.cs [0,1,2];simp only [gz,gs] at c0 c1 c2';have HB2:=lh hB2;have HOWN:=lh hown;have hgr:=(hown.lt gr rfl).1;have hz2:=hb2.size;have HBF2:=lh (yad (yad gw.out hb1) hb2);have HR2:=lh ((gR.out.below hb1).below hb2);clear hB1 hB2 hown hb1 hb2 hn
 go_wp2_with fail
 refine (yf4 (w1.heap.size+2) w.heap.size gr n capr i bs c d am y m z HN (by have:=HARG.out.1;have:=HN.out;omega) (by have:=HARG.out.2;have:=HN.out;omega) hy om hm hz hwm hwz om _ (((HB2.out.set 0 _).set 1 _).set 2 _) (yau (yau (yau HOWN.out om) om) om)).mono ?_;rintro _ w3 ⟨rfl,hB3,hown3,hsz3,hbel3,hoth3⟩;have hb3:BW w w3:=(((HBF2.out.setCell (p:=(Ad w.heap.size 0)) (Nat.le_refl _) _).setCell (p:=(Ad w.heap.size 1)) (Nat.le_refl _) _).setCell (p:=(Ad w.heap.size 2)) (Nat.le_refl _) _).trans (hbel3 w.heap.size (Nat.le_refl _) om);have hR3:Blk w3 (w.heap.size+1) 35 [sZ,iZ,iZ]:=(hoth3 (w.heap.size+1) om om).trans (((HR2.out.setOther om 0 _).setOther om 1 _).setOther om 2 _);clear c0 c1 c2' f0 f1 f2;obtain ⟨c0,c1,c2',-⟩:=hB3.cs [0,1,2];simp only [gz,gs] at c0 c1 c2';obtain ⟨cur,hBR,hnc,hcm,hcl,htk,_⟩:=ya8 hown3;have HTK:Hid (cur.take n=(bs.set i z).map (Value.int .i64)):=by show _=_;simpa using htk
 have HSL:=lh (Sl.of_own hown3 (show (bs.set i z).length=n by rw [List.length_set];exact HN.out));have HJ:Hid (ybt (sL gr 0 n capr) (bs.set i z) 0 d=.tuple #[.agg #[sL gr 0 n capr,iZ,iV d],iZ]):=by show _=_;unfold ybt;rw [hq.out];rfl
 have HR3:=lh hR3;have HBR:=lh hBR;have HB3:=lh hb3;clear hB3 hown3 hbel3 hoth3 hb3 hR3 hBR hcl htk HBF2 HR2 HB2 HOWN
 go_wp2_with fail
 refine (ych _ (bs.set i z) 0 d _ HJ (by rw [List.length_set];have:=HARG.out.2;omega) _ HSL.out).mono ?_;rintro _ w4 ⟨rfl,hb4⟩;have hR4:=HR3.out.below hb4;obtain ⟨r0,r1,r2,-⟩:=hR4.cs [0,1,2];simp only [gz,gs] at r0 r1 r2;obtain ⟨e0,e1,e2,-⟩:=hR4.fs [0,1,2];have hbf:=yad HB3.out hb4;have HBR4:=lh (HBR.out.below hb4);clear hR4 hb4 c0 c1 c2';go_wp2
 refine bodyPost_ret (v:=.tuple #[.agg #[sL gr 0 n capr,iZ,iV d],iZ]) (by simp [results,Tryz.results180,go_sem,r0,r1,r2]) rfl ⟨sL gr 0 n capr,rfl,⟨Sl.of_blk (((HBR4.out.setOther om 0 _).setOther om 1 _).setOther om 2 _) (by rw [List.length_set];exact HN.out) hnc hcm HTK.out,ys3 fun _=>⟨rfl,by omega⟩⟩,yd5 hbf om _ _ _⟩
theorem ygl (v:Value) (bs:List Int) (c d:Int) (i:Nat) (am y c2:Int) (he:Hid (yb1 bs c d am [(i:Int)+1]=0)) (hi:i<bs.length) (hy:Hid (bs.getD i 0=y)) (hle:am<=c) (hc2:c-am=c2) (hw:wrap64 c2=c2) (hy0:wrap64 y=y) (hq:Hid (yat (bs.set i y) c2 d=false)) (hlen:bs.length<=1000) (w:World) (hv:Sl .i64 w v bs) :
 Calls Tryz.prog 180 #[.agg #[v,iV c,iV d],iV ((i:Int)+1),iV am] w (yb7 ([],0,0,5) w):= by
 have HV:=lh hv;obtain ⟨ao,cap,rfl,h1,⟨h2,_⟩,h3⟩:=hv;clear h3;unfold maxLen at h2
 have HBLK:Hid (Blk ((w.alloc (.cells #[.slice ao bs.length cap,iV c,iV d] 35)).alloc (.cells #[sZ,iZ,iZ] 35)) (w.heap.size+1) 35 [sZ,iZ,iZ]):= by
  exact zq06e414
 have hB0:Blk (w.alloc (.cells #[.slice ao bs.length cap,iV c,iV d] 35)) w.heap.size 35 [.slice ao bs.length cap,iV c,iV d]:=heap_alloc_new w _;have HB0:=lh (hB0.below (yaa bR (.cells #[sZ,iZ,iZ] 35)));have HW0:Hid (BW w ((w.alloc (.cells #[.slice ao bs.length cap,iV c,iV d] 35)).alloc (.cells #[sZ,iZ,iZ] 35))):=yaa (yaa bR _) _;have HARG:=lh (And.intro hi hlen);clear hB0
 go_enter Tryz.func180,Tryz.ntmps180
 go_wp2_with fail
 obtain ⟨W,hW,gB,gR,gw,gS,gV⟩:∃W,(((w.alloc (.cells #[.slice ao bs.length cap,iV c,iV d] 35)).alloc (.cells #[sZ,iZ,iZ] 35)).alloc (.cells #[iV ((i:Int)+1)] 3))=W/\Hid (Blk W w.heap.size 35 [.slice ao bs.length cap,iV c,iV d])/\Hid (Blk W (w.heap.size+1) 35 [sZ,iZ,iZ])/\Hid (BW w W)/\Hid (Sl .i64 W (sL (w.heap.size+1+1) 0 1 1) [(i:Int)+1])/\Hid (Sl .i64 W (.slice ao bs.length cap) bs) :=
  ⟨_,rfl,HB0.out.below (yaa bR _),HBLK.out.below (yaa bR _),yaa HW0.out _,Sl.litAt _ _ [(i:Int)+1] 1 _ rfl _ rfl (by unfold maxLen;omega) (by simp),HV.out.below (yaa HW0.out _)⟩
 with_reducible rw [hW]
 clear hW HB0 HBLK HW0 HV;have hgl:=gR.out.lt;refine (yb5 _ bs c d am _ [(i:Int)+1] 0 he om (by simp) _ gV.out gS.out).mono ?_;rintro _ w1 ⟨rfl,hb1⟩;have hB1:=gB.out.below hb1;obtain ⟨c0,c1,c2',-⟩:=hB1.cs [0,1,2];simp only [gz,gs] at c0 c1 c2';have hz1:=hb1.size
 go_wp2_with fail
 refine (yex _ bs c d HARG.out.2 _ (gV.out.below hb1)).mono ?_;rintro _ w2 ⟨u,rfl,hown,hb2⟩;obtain ⟨gr,capr,rfl⟩:=ya5 hown (by have:=HARG.out.1;omega);obtain ⟨n,hn⟩:∃n,bs.length=n:=⟨_,rfl⟩;rw [hn] at hown ⊢;have HN:=lh hn;have hB2:=hB1.below hb2;obtain ⟨f0,f1,f2,-⟩:=hB2.fs [0,1,2];clear c0 c1 c2';obtain ⟨c0,c1,c2',-⟩:=hB2.cs [0,1,2];simp only [gz,gs] at c0 c1 c2';have HB2:=lh hB2;have HOWN:=lh hown;have hgr:=(hown.lt gr rfl).1;have hz2:=hb2.size;have HBF2:=lh (yad (yad gw.out hb1) hb2);have HR2:=lh ((gR.out.below hb1).below hb2);clear hB1 hB2 hown hb1 hb2 hn
 go_wp2_with fail
 refine (yf7 (w1.heap.size+2) w.heap.size gr n capr i bs c d am y c2 HN (by have:=HARG.out.1;have:=HN.out;omega) (by have:=HARG.out.2;have:=HN.out;omega) hy hle hc2 hw hy0 om _ (((HB2.out.set 0 _).set 1 _).set 2 _) (yau (yau (yau HOWN.out om) om) om)).mono ?_;rintro _ w3 ⟨rfl,hB3,hown3,hsz3,hbel3,hoth3⟩;have hb3:BW w w3:=(((HBF2.out.setCell (p:=(Ad w.heap.size 0)) (Nat.le_refl _) _).setCell (p:=(Ad w.heap.size 1)) (Nat.le_refl _) _).setCell (p:=(Ad w.heap.size 2)) (Nat.le_refl _) _).trans (hbel3 w.heap.size (Nat.le_refl _) om);have hR3:Blk w3 (w.heap.size+1) 35 [sZ,iZ,iZ]:=(hoth3 (w.heap.size+1) om om).trans (((HR2.out.setOther om 0 _).setOther om 1 _).setOther om 2 _);clear c0 c1 c2' f0 f1 f2;obtain ⟨c0,c1,c2',-⟩:=hB3.cs [0,1,2];simp only [gz,gs] at c0 c1 c2';obtain ⟨cur,hBR,hnc,hcm,hcl,htk,_⟩:=ya8 hown3;have HSL:=lh (Sl.of_own hown3 (show (bs.set i y).length=n by rw [List.length_set];exact HN.out));have HJ:Hid (ybt (sL gr 0 n capr) (bs.set i y) c2 d=.tuple #[.agg #[sZ,iZ,iZ],iV 5]):=by show _=_;unfold ybt;rw [hq.out];rfl
 have HR3:=lh hR3;have HBR:=lh hBR;have HB3:=lh hb3;clear hB3 hown3 hbel3 hoth3 hb3 hR3 hBR hcl htk HBF2 HR2 HB2 HOWN
 go_wp2_with fail
 refine (ych _ (bs.set i y) c2 d _ HJ (by rw [List.length_set];have:=HARG.out.2;omega) _ HSL.out).mono ?_;rintro _ w4 ⟨rfl,hb4⟩;have hR4:=HR3.out.below hb4;obtain ⟨r0,r1,r2,-⟩:=hR4.cs [0,1,2];simp only [gz,gs] at r0 r1 r2;obtain ⟨e0,e1,e2,-⟩:=hR4.fs [0,1,2];have hbf:=yad HB3.out hb4;clear hR4 hb4 c0 c1 c2';go_wp2
 refine bodyPost_ret (v:=.tuple #[.agg #[sZ,iZ,iZ],iV 5]) (by simp [results,Tryz.results180,go_sem,r0,r1,r2]) rfl ⟨sZ,rfl,⟨Sl.nil,ycz⟩,yd5 hbf om _ _ _⟩
theorem ygm (v:Value) (bs:List Int) (c d:Int) (i:Nat) (am y m z:Int) (he:Hid (yb1 bs c d am [(i:Int)+1]=0)) (hi:i<bs.length) (hy:Hid (bs.getD i 0=y)) (hle:¬am<=c) (hm:am-c=m) (hz:y+m=z) (hwm:wrap64 m=m) (hwz:wrap64 z=z) (hq:Hid (yat (bs.set i z) 0 d=false)) (hlen:bs.length<=1000) (w:World) (hv:Sl .i64 w v bs) :
 Calls Tryz.prog 180 #[.agg #[v,iV c,iV d],iV ((i:Int)+1),iV am] w (yb7 ([],0,0,5) w):= by
 have HV:=lh hv;obtain ⟨ao,cap,rfl,h1,⟨h2,_⟩,h3⟩:=hv;clear h3;unfold maxLen at h2
 have HBLK:Hid (Blk ((w.alloc (.cells #[.slice ao bs.length cap,iV c,iV d] 35)).alloc (.cells #[sZ,iZ,iZ] 35)) (w.heap.size+1) 35 [sZ,iZ,iZ]):= by
  exact zq06e414
 have hB0:Blk (w.alloc (.cells #[.slice ao bs.length cap,iV c,iV d] 35)) w.heap.size 35 [.slice ao bs.length cap,iV c,iV d]:=heap_alloc_new w _;have HB0:=lh (hB0.below (yaa bR (.cells #[sZ,iZ,iZ] 35)));have HW0:Hid (BW w ((w.alloc (.cells #[.slice ao bs.length cap,iV c,iV d] 35)).alloc (.cells #[sZ,iZ,iZ] 35))):=yaa (yaa bR _) _;have HARG:=lh (And.intro hi hlen);clear hB0
 go_enter Tryz.func180,Tryz.ntmps180
 go_wp2_with fail
 obtain ⟨W,hW,gB,gR,gw,gS,gV⟩:∃W,(((w.alloc (.cells #[.slice ao bs.length cap,iV c,iV d] 35)).alloc (.cells #[sZ,iZ,iZ] 35)).alloc (.cells #[iV ((i:Int)+1)] 3))=W/\Hid (Blk W w.heap.size 35 [.slice ao bs.length cap,iV c,iV d])/\Hid (Blk W (w.heap.size+1) 35 [sZ,iZ,iZ])/\Hid (BW w W)/\Hid (Sl .i64 W (sL (w.heap.size+1+1) 0 1 1) [(i:Int)+1])/\Hid (Sl .i64 W (.slice ao bs.length cap) bs) :=
  ⟨_,rfl,HB0.out.below (yaa bR _),HBLK.out.below (yaa bR _),yaa HW0.out _,Sl.litAt _ _ [(i:Int)+1] 1 _ rfl _ rfl (by unfold maxLen;omega) (by simp),HV.out.below (yaa HW0.out _)⟩
 with_reducible rw [hW]
 clear hW HB0 HBLK HW0 HV;have hgl:=gR.out.lt;refine (yb5 _ bs c d am _ [(i:Int)+1] 0 he om (by simp) _ gV.out gS.out).mono ?_;rintro _ w1 ⟨rfl,hb1⟩;have hB1:=gB.out.below hb1;obtain ⟨c0,c1,c2',-⟩:=hB1.cs [0,1,2];simp only [gz,gs] at c0 c1 c2';have hz1:=hb1.size
 go_wp2_with fail
 refine (yex _ bs c d HARG.out.2 _ (gV.out.below hb1)).mono ?_;rintro _ w2 ⟨u,rfl,hown,hb2⟩;obtain ⟨gr,capr,rfl⟩:=ya5 hown (by have:=HARG.out.1;omega);obtain ⟨n,hn⟩:∃n,bs.length=n:=⟨_,rfl⟩;rw [hn] at hown ⊢;have HN:=lh hn;have hB2:=hB1.below hb2;obtain ⟨f0,f1,f2,-⟩:=hB2.fs [0,1,2];clear c0 c1 c2';obtain ⟨c0,c1,c2',-⟩:=hB2.cs [0,1,2];simp only [gz,gs] at c0 c1 c2';have HB2:=lh hB2;have HOWN:=lh hown;have hgr:=(hown.lt gr rfl).1;have hz2:=hb2.size;have HBF2:=lh (yad (yad gw.out hb1) hb2);have HR2:=lh ((gR.out.below hb1).below hb2);clear hB1 hB2 hown hb1 hb2 hn
 go_wp2_with fail
 refine (yf4 (w1.heap.size+2) w.heap.size gr n capr i bs c d am y m z HN (by have:=HARG.out.1;have:=HN.out;omega) (by have:=HARG.out.2;have:=HN.out;omega) hy om hm hz hwm hwz om _ (((HB2.out.set 0 _).set 1 _).set 2 _) (yau (yau (yau HOWN.out om) om) om)).mono ?_;rintro _ w3 ⟨rfl,hB3,hown3,hsz3,hbel3,hoth3⟩;have hb3:BW w w3:=(((HBF2.out.setCell (p:=(Ad w.heap.size 0)) (Nat.le_refl _) _).setCell (p:=(Ad w.heap.size 1)) (Nat.le_refl _) _).setCell (p:=(Ad w.heap.size 2)) (Nat.le_refl _) _).trans (hbel3 w.heap.size (Nat.le_refl _) om);have hR3:Blk w3 (w.heap.size+1) 35 [sZ,iZ,iZ]:=(hoth3 (w.heap.size+1) om om).trans (((HR2.out.setOther om 0 _).setOther om 1 _).setOther om 2 _);clear c0 c1 c2' f0 f1 f2;obtain ⟨c0,c1,c2',-⟩:=hB3.cs [0,1,2];simp only [gz,gs] at c0 c1 c2';obtain ⟨cur,hBR,hnc,hcm,hcl,htk,_⟩:=ya8 hown3;have HSL:=lh (Sl.of_own hown3 (show (bs.set i z).length=n by rw [List.length_set];exact HN.out));have HJ:Hid (ybt (sL gr 0 n capr) (bs.set i z) 0 d=.tuple #[.agg #[sZ,iZ,iZ],iV 5]):=by show _=_;unfold ybt;rw [hq.out];rfl
 have HR3:=lh hR3;have HBR:=lh hBR;have HB3:=lh hb3;clear hB3 hown3 hbel3 hoth3 hb3 hR3 hBR hcl htk HBF2 HR2 HB2 HOWN
 go_wp2_with fail
 refine (ych _ (bs.set i z) 0 d _ HJ (by rw [List.length_set];have:=HARG.out.2;omega) _ HSL.out).mono ?_;rintro _ w4 ⟨rfl,hb4⟩;have hR4:=HR3.out.below hb4;obtain ⟨r0,r1,r2,-⟩:=hR4.cs [0,1,2];simp only [gz,gs] at r0 r1 r2;obtain ⟨e0,e1,e2,-⟩:=hR4.fs [0,1,2];have hbf:=yad HB3.out hb4;clear hR4 hb4 c0 c1 c2';go_wp2
 refine bodyPost_ret (v:=.tuple #[.agg #[sZ,iZ,iZ],iV 5]) (by simp [results,Tryz.results180,go_sem,r0,r1,r2]) rfl ⟨sZ,rfl,⟨Sl.nil,ycz⟩,yd5 hbf om _ _ _⟩
theorem ym0 {bs:List Int} {c d k am:Int} (h:yb1 bs c d am [k]=0):yat bs c d=true/\1<=k/\k<=bs.length/\0<=am/\am<=1000000000000000:= by
 unfold yb1 at h;cases hr:yat bs c d with
 | false=>rw [hr] at h;simp at h
 | true =>
  rw [hr] at h;cases hb:badK bs.length [k] with
  | true=>rw [hb] at h;simp at h
  | false =>
   rw [hb] at h;cases hm:may0 am with
   | false=>rw [hm] at h;simp at h
   | true =>
    have:=ybv.1 hm;simp [badK] at hb;exact ⟨rfl,by omega,by omega,this.1,this.2⟩
theorem ykm (v:Value) (bs:List Int) (c d k am:Int) (s:List Int×Int×Int×Int) (hs:Hid (yh2 bs c d k am=s)) (hlen:bs.length<=1000) (w:World) (hv:Sl .i64 w v bs) :
 Calls Tryz.prog 180 #[.agg #[v,iV c,iV d],iV k,iV am] w (yb7 s w):= by
 have hs:=hs.out;subst hs;unfold yh2
 by_cases he:yb1 bs c d am [k]=0
 ·rw [if_neg (by simpa using he)]
  obtain ⟨hr,hk1,hk2,ha1,ha2⟩:=ym0 he;obtain ⟨i,rfl⟩:∃i:Nat,k=(i:Int)+1:=⟨(k-1).toNat,by omega⟩;have hi:i<bs.length:=by omega
  have hit:((i:Int)+1-1).toNat=i:=by omega
  rw [hit];obtain ⟨⟨hc1,hc2⟩,hm⟩:=ycr hr;obtain ⟨hy1,hy2⟩:=hm i hi;obtain ⟨y,hy⟩:∃y,bs.getD i 0=y:=⟨_,rfl⟩;rw [hy] at hy1 hy2 ⊢
  by_cases hle:am<=c
  ·have e1:min am c=am:=Int.min_eq_left hle
   rw [e1,show y+(am-am)=y by omega];cases hq:yat (bs.set i y) (c-am) d with
   | true=>exact yg5 v bs c d i am y (c-am) he hi hy hle rfl (IntWalk.wrap64_in _ ⟨by omega,by omega⟩) (IntWalk.wrap64_in _ ⟨by omega,by omega⟩) hq hlen w hv
   | false=>exact ygl v bs c d i am y (c-am) he hi hy hle rfl (IntWalk.wrap64_in _ ⟨by omega,by omega⟩) (IntWalk.wrap64_in _ ⟨by omega,by omega⟩) hq hlen w hv
  ·have e1:min am c=c:=Int.min_eq_right om
   rw [e1,show c-c=0 by omega];cases hq:yat (bs.set i (y+(am-c))) 0 d with
   | true=>exact yg2 v bs c d i am y (am-c) (y+(am-c)) he hi hy hle rfl rfl (IntWalk.wrap64_in _ ⟨by omega,by omega⟩) (IntWalk.wrap64_in _ ⟨by omega,by omega⟩) hq hlen w hv
   | false=>exact ygm v bs c d i am y (am-c) (y+(am-c)) he hi hy hle rfl rfl (IntWalk.wrap64_in _ ⟨by omega,by omega⟩) (IntWalk.wrap64_in _ ⟨by omega,by omega⟩) hq hlen w hv
 ·rw [if_pos (by simpa using he)]
  exact ymg v bs c d k am _ rfl (by simpa using he) hlen w hv
theorem ylv {bs:List Int} {all s:Int} (h:yc0 all bs=some s):bs.any yak=false:= by
 rw [List.any_eq_false];intro x hx;obtain ⟨j,hj,rfl⟩:=List.getElem_of_mem hx;have:=ykd h j hj;have e:bs.getD j 0=bs[j]:=by simp [List.getD,hj]
 rw [e] at this;simp [yak];omega
theorem ygb {bs:List Int} {c d:Int} (h:yat bs c d=true):(0<=d/\d<=1000000000000000)/\bs.length<=8/\1<=bs.length:= by
 unfold yat at h;cases hs:yc0 0 bs with
 | none=>rw [hs] at h;simp at h
 | some s =>
  rw [hs] at h;simp only [Bool.and_eq_true,decide_eq_true_eq] at h;exact ⟨ybv.1 h.1.2,h.1.1.1.2,h.1.1.1.1⟩
theorem yif {bs:List Int} {c d am:Int} (h:yb1 bs c d am []=0):yat bs c d=true/\0<=am/\am<=1000000000000000:= by
 unfold yb1 at h;cases hr:yat bs c d with
 | false=>rw [hr] at h;simp at h
 | true =>
  rw [hr] at h;have hb:badK bs.length []=false:=rfl;rw [hb] at h;cases hm:may0 am with
  | false=>rw [hm] at h;simp at h
  | true=>have:=ybv.1 hm;exact ⟨rfl,this.1,this.2⟩
theorem yid {bs rates:List Int} {c d am:Int} {l:List Int} {du le e:Int} (h:payR bs c d rates am=(l,du,le,e)) :
 (e=0/\rates.length=bs.length/\bs.any yak=false/\yak c=false/\yak d=false/\yak am=false/\l=addL (pay1 bs rates (min am d)).1 (pay2 bs rates d am).1/\du=min am d/\le=(pay2 bs rates d am).2)\/(e=1/\l=[]/\du=0/\le=0):= by
 unfold payR at h;cases hc:(rates.length == bs.length && !bs.any yak && !yak c && !yak d && !yak am) with
 | false =>
  rw [hc,if_neg (by simp)] at h;simp only [Prod.mk.injEq] at h;exact .inr ⟨h.2.2.2.symm,h.1.symm,h.2.1.symm,h.2.2.1.symm⟩
 | true =>
  rw [hc,if_pos rfl] at h;simp only [Prod.mk.injEq] at h;simp only [Bool.and_eq_true,beq_iff_eq,Bool.not_eq_true'] at hc;exact .inl ⟨h.2.2.2.symm,hc.1.1.1.1,hc.1.1.1.2,hc.1.1.2,hc.1.2,hc.2,h.1.symm,h.2.1.symm,h.2.2.1.symm⟩
theorem yic {bs rates:List Int} {c d am:Int} {l:List Int} {du le:Int} (h:payR bs c d rates am=(l,du,le,0)) :
 l.length=bs.length/\(∀j,j<bs.length->0<=l.getD j 0/\l.getD j 0<=bs.getD j 0)/\(0<=le/\le<=am)/\du=min am d:= by
 rcases yid h with ⟨_,hl,hb,_,hd,ha,rfl,rfl,rfl⟩ | ⟨h0,_⟩
 ·have hbr:=ylg hb
  have hdr:=yc5 hd;have har:=yc5 ha;have hb0:∀x∈bs,0<=x:=fun x hx=>(hbr x hx).1;have hm:0<=min am d:=by omega
  have l1:(pay1 bs rates (min am d)).1.length=bs.length:=ya7 _ _ _;have l2:(pay2 bs rates d am).1.length=bs.length:=by unfold pay2;rw [ya7,yb3]
  have r1:∀j,j<bs.length->0<=(pay1 bs rates (min am d)).1.getD j 0/\(pay1 bs rates (min am d)).1.getD j 0<=bs.getD j 0:=fun j hj=>ydl hm hb0 _ j hj;have q1:0<=(pay1 bs rates (min am d)).2/\(pay1 bs rates (min am d)).2<=min am d:=ydz hm hb0 _;have hrr:=yfg (rates:=rates) hm hbr;have hr0:∀x∈ycj bs rates (min am d),0<=x:=fun x hx=>(hrr x hx).1;have ha2:0<=am-min am d+(pay1 bs rates (min am d)).2:=by omega
  have r2:∀j,j<bs.length->0<=(pay2 bs rates d am).1.getD j 0/\(pay2 bs rates d am).1.getD j 0<=(ycj bs rates (min am d)).getD j 0:=fun j hj=>ydl ha2 hr0 _ j (by rw [yb3];exact hj);have q2:0<=(pay2 bs rates d am).2/\(pay2 bs rates d am).2<=am-min am d+(pay1 bs rates (min am d)).2:=ydz ha2 hr0 _;refine ⟨?_,?_,by omega,rfl⟩
  ·unfold addL
   rw [List.length_zipWith];omega
  ·intro j hj
   have a:=r1 j hj;have b:=r2 j hj;have e:(ycj bs rates (min am d)).getD j 0=bs.getD j 0-(pay1 bs rates (min am d)).1.getD j 0:=yec hj om;rw [e] at b;rw [yj5 om om];omega
 ·exact absurd h0 (by decide)
def payS (bs:List Int) (c d:Int) (rates:List Int) (am:Int):List Int×Int×Int×Int :=
 if yb1 bs c d am []≠0 then ([],0,0,yb1 bs c d am []) else
 if (payR bs c d rates am).2.2.2≠0 then ([],0,0,(payR bs c d rates am).2.2.2) else
 if yat (subL bs (payR bs c d rates am).1) (c+(payR bs c d rates am).2.2.1) (d-(payR bs c d rates am).2.1)=true then
  (subL bs (payR bs c d rates am).1,c+(payR bs c d rates am).2.2.1,d-(payR bs c d rates am).2.1,0) else ([],0,0,5)
theorem yps (v u:Value) (bs rates:List Int) (c d am e:Int) (HE:Hid (yb1 bs c d am []=e)) (hne:(e != 0)=true) (hlen:bs.length<=1000) (w:World) (hv:Sl .i64 w v bs) (hu:Sl .i64 w u rates) :
 Calls Tryz.prog 181 #[.agg #[v,iV c,iV d],u,iV am] w (yb7 ([],0,0,e) w):= by
 have HV:=lh hv;have HU:=lh hu;obtain ⟨ao,cap,rfl,h1,⟨h2,_⟩,h3⟩:=hv;clear h3;obtain ⟨ao',cap',rfl,h1',⟨h2',_⟩,h3⟩:=hu;clear h3;unfold maxLen at h2 h2'
 have HBLK:Hid (Blk ((w.alloc (.cells #[.slice ao bs.length cap,iV c,iV d] 35)).alloc (.cells #[sZ,iZ,iZ] 35)) (w.heap.size+1) 35 [sZ,iZ,iZ]):= by
  exact zq06e414
 have hB0:Blk (w.alloc (.cells #[.slice ao bs.length cap,iV c,iV d] 35)) w.heap.size 35 [.slice ao bs.length cap,iV c,iV d]:=heap_alloc_new w _;have HB0:=lh (hB0.below (yaa bR (.cells #[sZ,iZ,iZ] 35)));have HW0:Hid (BW w ((w.alloc (.cells #[.slice ao bs.length cap,iV c,iV d] 35)).alloc (.cells #[sZ,iZ,iZ] 35))):=yaa (yaa bR _) _;clear hB0
 go_enter Tryz.func181,Tryz.ntmps181
 go_wp2_with fail
 refine (yb5 _ bs c d am _ [] e HE om (by simp) _ (HV.out.below HW0.out) Sl.nil).mono ?_;rintro _ w1 ⟨rfl,hb1⟩;have HR1:=lh (HBLK.out.below hb1);have HB1:=lh (HB0.out.below hb1);have hbf:=yad HW0.out hb1;clear hb1;have hR:=HR1.out;obtain ⟨r0,r1,r2,-⟩:=hR.cs [0,1,2];simp only [gz,gs] at r0 r1 r2;obtain ⟨f0,f1,f2,-⟩:=hR.fs [0,1,2];have hlt:=hR.lt;clear hR;go_wp2
 refine bodyPost_ret (v:=.tuple #[.agg #[sZ,iZ,iZ],iV e]) (by simp [results,Tryz.results181,go_sem,r0,r1,r2]) rfl ⟨sZ,rfl,⟨Sl.nil,ycz⟩,yd5 hbf om _ _ _⟩
theorem yp4 (v u:Value) (bs rates:List Int) (c d am e:Int) (HE:Hid (yb1 bs c d am []=0)) (HP:Hid (payR bs c d rates am=([],0,0,e))) (hne:(e != 0)=true) (hlen:bs.length<=1000) (w:World) (hv:Sl .i64 w v bs) (hu:Sl .i64 w u rates) :
 Calls Tryz.prog 181 #[.agg #[v,iV c,iV d],u,iV am] w (yb7 ([],0,0,e) w):= by
 have HV:=lh hv;have HU:=lh hu;obtain ⟨ao,cap,rfl,h1,⟨h2,_⟩,h3⟩:=hv;clear h3;obtain ⟨ao',cap',rfl,h1',⟨h2',_⟩,h3⟩:=hu;clear h3;unfold maxLen at h2 h2'
 have HBLK:Hid (Blk ((w.alloc (.cells #[.slice ao bs.length cap,iV c,iV d] 35)).alloc (.cells #[sZ,iZ,iZ] 35)) (w.heap.size+1) 35 [sZ,iZ,iZ]):= by
  exact zq06e414
 have hB0:Blk (w.alloc (.cells #[.slice ao bs.length cap,iV c,iV d] 35)) w.heap.size 35 [.slice ao bs.length cap,iV c,iV d]:=heap_alloc_new w _;have HB0:=lh (hB0.below (yaa bR (.cells #[sZ,iZ,iZ] 35)));have HW0:Hid (BW w ((w.alloc (.cells #[.slice ao bs.length cap,iV c,iV d] 35)).alloc (.cells #[sZ,iZ,iZ] 35))):=yaa (yaa bR _) _;clear hB0;have HL:=lh hlen
 go_enter Tryz.func181,Tryz.ntmps181
 go_wp2_with fail
 refine (yb5 _ bs c d am _ [] 0 HE om (by simp) _ (HV.out.below HW0.out) Sl.nil).mono ?_;rintro _ w1 ⟨rfl,hb1⟩;have HR1:=lh (HBLK.out.below hb1);have HB1:=lh (HB0.out.below hb1);have hbf:=yad HW0.out hb1;have hB1:=HB1.out;obtain ⟨c0,c1,c2,-⟩:=hB1.cs [0,1,2];simp only [gz,gs] at c0 c1 c2;clear hB1 hb1
 go_wp2_with fail
 refine (ygy _ _ bs rates c d am _ HP _ (HV.out.below hbf) (HU.out.below hbf) HL.out).mono ?_;rintro _ w2 ⟨q,rfl,_,hb2⟩;have HR2:=lh (HR1.out.below hb2);have hbf2:=yad hbf hb2;clear HR1 hbf hb2 c0 c1 c2;have hR:=HR2.out;obtain ⟨r0,r1,r2,-⟩:=hR.cs [0,1,2];simp only [gz,gs] at r0 r1 r2;obtain ⟨f0,f1,f2,-⟩:=hR.fs [0,1,2];have hlt:=hR.lt;clear hR;go_wp2
 refine bodyPost_ret (v:=.tuple #[.agg #[sZ,iZ,iZ],iV e]) (by simp [results,Tryz.results181,go_sem,r0,r1,r2]) rfl ⟨sZ,rfl,⟨Sl.nil,ycz⟩,yd5 hbf2 om _ _ _⟩
theorem ysx (v u:Value) (bs rates:List Int) (c d am:Int) (HE:Hid (yb1 bs c d am []=0)) (l:List Int) (du le cf df:Int) (HP:Hid (payR bs c d rates am=(l,du,le,0))) (hcf:c+le=cf) (hdf:d-du=df) (hq:Hid (yat (subL bs l) cf df=true)) (hlen:bs.length<=1000) (w:World) (hv:Sl .i64 w v bs) (hu:Sl .i64 w u rates) :
 Calls Tryz.prog 181 #[.agg #[v,iV c,iV d],u,iV am] w (yb7 (subL bs l,cf,df,0) w):= by
 have HV:=lh hv;have HU:=lh hu;obtain ⟨ao,cap,rfl,h1,⟨h2,_⟩,h3⟩:=hv;clear h3;obtain ⟨ao',cap',rfl,h1',⟨h2',_⟩,h3⟩:=hu;clear h3;unfold maxLen at h2 h2'
 have HBLK:Hid (Blk ((w.alloc (.cells #[.slice ao bs.length cap,iV c,iV d] 35)).alloc (.cells #[sZ,iZ,iZ] 35)) (w.heap.size+1) 35 [sZ,iZ,iZ]):= by
  exact zq06e414
 have hB0:Blk (w.alloc (.cells #[.slice ao bs.length cap,iV c,iV d] 35)) w.heap.size 35 [.slice ao bs.length cap,iV c,iV d]:=heap_alloc_new w _;have HB0:=lh (hB0.below (yaa bR (.cells #[sZ,iZ,iZ] 35)));have HW0:Hid (BW w ((w.alloc (.cells #[.slice ao bs.length cap,iV c,iV d] 35)).alloc (.cells #[sZ,iZ,iZ] 35))):=yaa (yaa bR _) _;clear hB0;obtain ⟨hr,ham1,ham2⟩:=yif HE.out;obtain ⟨⟨hd1,hd2⟩,hl8,hl1⟩:=ygb hr;obtain ⟨⟨hc1,hc2⟩,hmay⟩:=ycr hr;obtain ⟨hll,hlr,⟨hle1,hle2⟩,hdu⟩:=yic HP.out;have HMAY:=lh hmay;have HLR:=lh hlr;have HLL:=lh hll;have HARG:=lh (And.intro hl1 hlen);have wcf:wrap64 cf=cf:=IntWalk.wrap64_in _ ⟨by omega,by omega⟩;have wdf:wrap64 df=df:=IntWalk.wrap64_in _ ⟨by omega,by omega⟩;have WW:=lh (And.intro hcf (And.intro hdf (And.intro wcf wdf)));clear hr ham1 ham2 hd1 hd2 hl8 hl1 hc1 hc2 hmay hll hlr hle1 hle2 hdu hcf hdf wcf wdf
 go_enter Tryz.func181,Tryz.ntmps181
 go_wp2_with fail
 refine (yb5 _ bs c d am _ [] 0 HE om (by simp) _ (HV.out.below HW0.out) Sl.nil).mono ?_;rintro _ w1 ⟨rfl,hb1⟩;have HR1:=lh (HBLK.out.below hb1);have HB1:=lh (HB0.out.below hb1);have hbf:=yad HW0.out hb1;have hB1:=HB1.out;obtain ⟨c0,c1,c2,-⟩:=hB1.cs [0,1,2];simp only [gz,gs] at c0 c1 c2;clear hB1 hb1
 go_wp2_with fail
 refine (ygy _ _ bs rates c d am _ HP _ (HV.out.below hbf) (HU.out.below hbf) HARG.out.2).mono ?_;rintro _ w2 ⟨q,rfl,⟨hql,hqf⟩,hb2⟩;simp only at hql ⊢;have HQL:=lh hql;have HQF:=lh hqf;obtain ⟨aq,cq,rfl,hq1,⟨hq2,_⟩,_⟩:=hql;unfold maxLen at hq2;have hR2:=HR1.out.below hb2;have hB2:=HB1.out.below hb2;have hz1:=HR1.out.lt;have hz12:=hb2.size;clear c0 c1 c2;obtain ⟨c0,c1,c2,-⟩:=hB2.cs [0,1,2];simp only [gz,gs] at c0 c1 c2;have HR2:=lh hR2;have HB2:=lh hB2;have HBF2:=lh (yad hbf hb2);have HV2:=lh (HV.out.below (yad hbf hb2));clear hR2 hB2 hqf hb2 hbf
 go_wp2_with fail
 refine (yex _ bs c d HARG.out.2 _ HV2.out).mono ?_;rintro _ w3 ⟨q3,rfl,hown,hb3⟩;obtain ⟨ao3,capr,rfl,hnc,hcm,hBR⟩:=yed hown;obtain ⟨gr,hgr0,hgr1,cur,hcur1,hcur2,hcur3⟩:=hBR (by have:=HARG.out.1;omega);subst hgr0;obtain ⟨n,hn⟩:∃n,bs.length=n:=⟨_,rfl⟩;have HN:=lh hn;have HNR:Hid (Nums w3 gr capr bs):=⟨cur,hcur1,hcur2,hcur3⟩;have hbr:w2.heap.size+2<=gr:=hgr1;have HLn:Hid (l.length=n):=HLL.out.trans hn;rw [hn] at hnc ⊢;have hB3:=HB2.out.below hb3;obtain ⟨f0,f1,f2,-⟩:=hB3.fs [0,1,2];clear c0 c1 c2;obtain ⟨c0,c1,c2,-⟩:=hB3.cs [0,1,2];simp only [gz,gs] at c0 c1 c2;have HB3:=lh hB3;have HR3:=lh (HR2.out.below hb3);have HQ3:=lh (HQL.out.below hb3);have HBF3:=lh (yad HBF2.out hb3)
 have HNE1:Hid (∀b o m k,(Value.slice aq l.length cq)=sL b o m k->0<m->b≠w.heap.size):=fun b o m k e hm=>by
  have:=HQF.out b o m k e hm;omega
 have HNE2:Hid (∀b o m k,(Value.slice aq l.length cq)=sL b o m k->0<m->b≠gr):= by
  exact zq061910
 have hz23:=hb3.size;clear hB3 hown hb3 hn hcur1 hcur2 hcur3 HQL HQF HBF2 HR2 HB2 HV2 HR1 HB1 HBLK HB0 HW0 HV HU hgr1 cur
 go_wp2_with fail
 go_loopg [39] n (fun g i wr=>∃(k:Nat),k+g=n/\i=iV k/\Hid (Blk wr w.heap.size 35 [sL gr 0 n capr,iV c,iV d]/\Nums wr gr capr (mixL (subL bs l) bs k)/\Blk wr (w.heap.size+1) 35 [sZ,iZ,iZ]/\BW w wr/\Sl .i64 wr (.slice aq l.length cq) l))
 case atStart =>
  exact zq06d83d
 case round =>
  obtain ⟨k,hkg,rfl,HI⟩:=hrel;clear c0 c1 c2 f0 f1 f2;have HSLn:Hid ((subL bs l).length=n):=by show _=_;unfold subL;rw [List.length_zipWith];have:=HN.out;have:=HLn.out;omega
  cases gk with
  | succ g =>
   exact zq064e28
  | zero =>
   obtain rfl:k=n:=by omega
   have hlt:¬((k:Int)<(l.length:Int)):=by have:=HLn.out;omega
   obtain ⟨hBp,hNm,hRr,hbw,hSq⟩:=HI.out;rw [ygk HSLn.out HN.out] at hNm;obtain ⟨c0,c1,c2,-⟩:=hBp.cs [0,1,2];simp only [gz,gs] at c0 c1 c2;obtain ⟨f1,f2,-⟩:=hBp.fs [1,2];obtain ⟨hcf,hdf,wcf,wdf⟩:=WW.out;have hlb:=hBp.lt;have HX:=lh (And.intro hBp (And.intro hNm (And.intro hRr hbw)));have HJ:Hid (ybt (sL gr 0 k capr) (subL bs l) cf df=.tuple #[.agg #[sL gr 0 k capr,iV cf,iV df],iZ]):=by show _=_;unfold ybt;rw [hq.out];rfl
   have HLL1:Hid ((subL bs l).length<=1000000):=by show _<=_;have:=HSLn.out;have:=HN.out;have:=HARG.out.2;omega
   clear hBp hNm hRr hbw hSq HI
   go_wp2_with fail
   refine (ych _ (subL bs l) cf df _ HJ HLL1.out _ ?sl).mono ?_
   case sl=>exact ((HX.out.2.1.setOther om 2 _).setOther om 1 _).sl HSLn.out hnc hcm
   rintro _ w4 ⟨rfl,hb4⟩;have hR4:=((HX.out.2.2.1.setOther om 2 (iV df)).setOther om 1 (iV cf)).below hb4;obtain ⟨r0,r1,r2,-⟩:=hR4.cs [0,1,2];simp only [gz,gs] at r0 r1 r2;obtain ⟨e0,e1,e2,-⟩:=hR4.fs [0,1,2];have hbf4:BW w w4:=((HX.out.2.2.2.setCell (p:=(Ad w.heap.size 2)) (Nat.le_refl _) (iV df)).setCell (p:=(Ad w.heap.size 1)) (Nat.le_refl _) (iV cf)).trans (hb4.mono (by simp;omega));have HN4:=lh (((HX.out.2.1.setOther om 2 (iV df)).setOther om 1 (iV cf)).below hb4);have HSL:=HSLn;have hlt4:=hR4.lt;clear hR4 hb4 c0 c1 c2 f1 f2 hcf hdf wcf wdf;go_wp2
   refine bodyPost_ret (v:=.tuple #[.agg #[sL gr 0 k capr,iV cf,iV df],iZ]) (by simp [results,Tryz.results181,go_sem,r0,r1,r2]) rfl ⟨sL gr 0 k capr,rfl,⟨(((HN4.out.setOther om 0 _).setOther om 1 _).setOther om 2 _).sl HSL.out hnc hcm,ys3 fun _=>⟨rfl,by omega⟩⟩,yd5 hbf4 om _ _ _⟩
theorem yrb (v u:Value) (bs rates:List Int) (c d am:Int) (HE:Hid (yb1 bs c d am []=0)) (l:List Int) (du le cf df:Int) (HP:Hid (payR bs c d rates am=(l,du,le,0))) (hcf:c+le=cf) (hdf:d-du=df) (hq:Hid (yat (subL bs l) cf df=false)) (hlen:bs.length<=1000) (w:World) (hv:Sl .i64 w v bs) (hu:Sl .i64 w u rates) :
 Calls Tryz.prog 181 #[.agg #[v,iV c,iV d],u,iV am] w (yb7 ([],0,0,5) w):= by
 have HV:=lh hv;have HU:=lh hu;obtain ⟨ao,cap,rfl,h1,⟨h2,_⟩,h3⟩:=hv;clear h3;obtain ⟨ao',cap',rfl,h1',⟨h2',_⟩,h3⟩:=hu;clear h3;unfold maxLen at h2 h2'
 have HBLK:Hid (Blk ((w.alloc (.cells #[.slice ao bs.length cap,iV c,iV d] 35)).alloc (.cells #[sZ,iZ,iZ] 35)) (w.heap.size+1) 35 [sZ,iZ,iZ]):= by
  exact zq06e414
 have hB0:Blk (w.alloc (.cells #[.slice ao bs.length cap,iV c,iV d] 35)) w.heap.size 35 [.slice ao bs.length cap,iV c,iV d]:=heap_alloc_new w _;have HB0:=lh (hB0.below (yaa bR (.cells #[sZ,iZ,iZ] 35)));have HW0:Hid (BW w ((w.alloc (.cells #[.slice ao bs.length cap,iV c,iV d] 35)).alloc (.cells #[sZ,iZ,iZ] 35))):=yaa (yaa bR _) _;clear hB0;obtain ⟨hr,ham1,ham2⟩:=yif HE.out;obtain ⟨⟨hd1,hd2⟩,hl8,hl1⟩:=ygb hr;obtain ⟨⟨hc1,hc2⟩,hmay⟩:=ycr hr;obtain ⟨hll,hlr,⟨hle1,hle2⟩,hdu⟩:=yic HP.out;have HMAY:=lh hmay;have HLR:=lh hlr;have HLL:=lh hll;have HARG:=lh (And.intro hl1 hlen);have wcf:wrap64 cf=cf:=IntWalk.wrap64_in _ ⟨by omega,by omega⟩;have wdf:wrap64 df=df:=IntWalk.wrap64_in _ ⟨by omega,by omega⟩;have WW:=lh (And.intro hcf (And.intro hdf (And.intro wcf wdf)));clear hr ham1 ham2 hd1 hd2 hl8 hl1 hc1 hc2 hmay hll hlr hle1 hle2 hdu hcf hdf wcf wdf
 go_enter Tryz.func181,Tryz.ntmps181
 go_wp2_with fail
 refine (yb5 _ bs c d am _ [] 0 HE om (by simp) _ (HV.out.below HW0.out) Sl.nil).mono ?_;rintro _ w1 ⟨rfl,hb1⟩;have HR1:=lh (HBLK.out.below hb1);have HB1:=lh (HB0.out.below hb1);have hbf:=yad HW0.out hb1;have hB1:=HB1.out;obtain ⟨c0,c1,c2,-⟩:=hB1.cs [0,1,2];simp only [gz,gs] at c0 c1 c2;clear hB1 hb1
 go_wp2_with fail
 refine (ygy _ _ bs rates c d am _ HP _ (HV.out.below hbf) (HU.out.below hbf) HARG.out.2).mono ?_;rintro _ w2 ⟨q,rfl,⟨hql,hqf⟩,hb2⟩;simp only at hql ⊢;have HQL:=lh hql;have HQF:=lh hqf;obtain ⟨aq,cq,rfl,hq1,⟨hq2,_⟩,_⟩:=hql;unfold maxLen at hq2;have hR2:=HR1.out.below hb2;have hB2:=HB1.out.below hb2;have hz1:=HR1.out.lt;have hz12:=hb2.size;clear c0 c1 c2;obtain ⟨c0,c1,c2,-⟩:=hB2.cs [0,1,2];simp only [gz,gs] at c0 c1 c2;have HR2:=lh hR2;have HB2:=lh hB2;have HBF2:=lh (yad hbf hb2);have HV2:=lh (HV.out.below (yad hbf hb2));clear hR2 hB2 hqf hb2 hbf
 go_wp2_with fail
 refine (yex _ bs c d HARG.out.2 _ HV2.out).mono ?_;rintro _ w3 ⟨q3,rfl,hown,hb3⟩;obtain ⟨ao3,capr,rfl,hnc,hcm,hBR⟩:=yed hown;obtain ⟨gr,hgr0,hgr1,cur,hcur1,hcur2,hcur3⟩:=hBR (by have:=HARG.out.1;omega);subst hgr0;obtain ⟨n,hn⟩:∃n,bs.length=n:=⟨_,rfl⟩;have HN:=lh hn;have HNR:Hid (Nums w3 gr capr bs):=⟨cur,hcur1,hcur2,hcur3⟩;have hbr:w2.heap.size+2<=gr:=hgr1;have HLn:Hid (l.length=n):=HLL.out.trans hn;rw [hn] at hnc ⊢;have hB3:=HB2.out.below hb3;obtain ⟨f0,f1,f2,-⟩:=hB3.fs [0,1,2];clear c0 c1 c2;obtain ⟨c0,c1,c2,-⟩:=hB3.cs [0,1,2];simp only [gz,gs] at c0 c1 c2;have HB3:=lh hB3;have HR3:=lh (HR2.out.below hb3);have HQ3:=lh (HQL.out.below hb3);have HBF3:=lh (yad HBF2.out hb3)
 have HNE1:Hid (∀b o m k,(Value.slice aq l.length cq)=sL b o m k->0<m->b≠w.heap.size):=fun b o m k e hm=>by
  have:=HQF.out b o m k e hm;omega
 have HNE2:Hid (∀b o m k,(Value.slice aq l.length cq)=sL b o m k->0<m->b≠gr):= by
  exact zq061910
 have hz23:=hb3.size;clear hB3 hown hb3 hn hcur1 hcur2 hcur3 HQL HQF HBF2 HR2 HB2 HV2 HR1 HB1 HBLK HB0 HW0 HV HU hgr1 cur
 go_wp2_with fail
 go_loopg [39] n (fun g i wr=>∃(k:Nat),k+g=n/\i=iV k/\Hid (Blk wr w.heap.size 35 [sL gr 0 n capr,iV c,iV d]/\Nums wr gr capr (mixL (subL bs l) bs k)/\Blk wr (w.heap.size+1) 35 [sZ,iZ,iZ]/\BW w wr/\Sl .i64 wr (.slice aq l.length cq) l))
 case atStart =>
  exact zq06d83d
 case round =>
  obtain ⟨k,hkg,rfl,HI⟩:=hrel;clear c0 c1 c2 f0 f1 f2;have HSLn:Hid ((subL bs l).length=n):=by show _=_;unfold subL;rw [List.length_zipWith];have:=HN.out;have:=HLn.out;omega
  cases gk with
  | succ g =>
   exact zq064e28
  | zero =>
   obtain rfl:k=n:=by omega
   have hlt:¬((k:Int)<(l.length:Int)):=by have:=HLn.out;omega
   obtain ⟨hBp,hNm,hRr,hbw,hSq⟩:=HI.out;rw [ygk HSLn.out HN.out] at hNm;obtain ⟨c0,c1,c2,-⟩:=hBp.cs [0,1,2];simp only [gz,gs] at c0 c1 c2;obtain ⟨f1,f2,-⟩:=hBp.fs [1,2];obtain ⟨hcf,hdf,wcf,wdf⟩:=WW.out;have hlb:=hBp.lt;have HX:=lh (And.intro hBp (And.intro hNm (And.intro hRr hbw)));have HJ:Hid (ybt (sL gr 0 k capr) (subL bs l) cf df=.tuple #[.agg #[sZ,iZ,iZ],iV 5]):=by show _=_;unfold ybt;rw [hq.out];rfl
   have HLL1:Hid ((subL bs l).length<=1000000):=by show _<=_;have:=HSLn.out;have:=HN.out;have:=HARG.out.2;omega
   clear hBp hNm hRr hbw hSq HI
   go_wp2_with fail
   refine (ych _ (subL bs l) cf df _ HJ HLL1.out _ ?sl).mono ?_
   case sl=>exact ((HX.out.2.1.setOther om 2 _).setOther om 1 _).sl HSLn.out hnc hcm
   rintro _ w4 ⟨rfl,hb4⟩;have hR4:=((HX.out.2.2.1.setOther om 2 (iV df)).setOther om 1 (iV cf)).below hb4;obtain ⟨r0,r1,r2,-⟩:=hR4.cs [0,1,2];simp only [gz,gs] at r0 r1 r2;obtain ⟨e0,e1,e2,-⟩:=hR4.fs [0,1,2];have hbf4:BW w w4:=((HX.out.2.2.2.setCell (p:=(Ad w.heap.size 2)) (Nat.le_refl _) (iV df)).setCell (p:=(Ad w.heap.size 1)) (Nat.le_refl _) (iV cf)).trans (hb4.mono (by simp;omega));have HN4:=lh (((HX.out.2.1.setOther om 2 (iV df)).setOther om 1 (iV cf)).below hb4);have HSL:=HSLn;have hlt4:=hR4.lt;clear hR4 hb4 c0 c1 c2 f1 f2 hcf hdf wcf wdf;go_wp2
   refine bodyPost_ret (v:=.tuple #[.agg #[sZ,iZ,iZ],iV 5]) (by simp [results,Tryz.results181,go_sem,r0,r1,r2]) rfl ⟨sZ,rfl,⟨Sl.nil,ycz⟩,yd5 hbf4 om _ _ _⟩
theorem yoa (v u:Value) (bs rates:List Int) (c d am:Int) (s:List Int×Int×Int×Int) (hs:Hid (payS bs c d rates am=s)) (hlen:bs.length<=1000) (w:World) (hv:Sl .i64 w v bs) (hu:Sl .i64 w u rates) :
 Calls Tryz.prog 181 #[.agg #[v,iV c,iV d],u,iV am] w (yb7 s w):= by
 have hs:=hs.out;subst hs;unfold payS
 by_cases he:yb1 bs c d am []=0
 ·rw [if_neg (by simpa using he)]
  obtain ⟨l,du,le,e,hp⟩:∃l du le e,payR bs c d rates am=(l,du,le,e):=⟨_,_,_,_,rfl⟩;rw [hp];rcases yid hp with ⟨rfl,_⟩ | ⟨rfl,rfl,rfl,rfl⟩
  ·simp only [ne_eq,not_true_eq_false,if_false]
   cases hq:yat (subL bs l) (c+le) (d-du) with
   | true=>rw [if_pos rfl];exact ysx v u bs rates c d am he l du le _ _ hp rfl rfl hq hlen w hv hu
   | false=>rw [if_neg (by simp)];exact yrb v u bs rates c d am he l du le _ _ hp rfl rfl hq hlen w hv hu
  ·rw [if_pos (by decide)]
   exact yp4 v u bs rates c d am 1 he hp (by decide) hlen w hv hu
 ·rw [if_pos (by simpa using he)]
  exact yps v u bs rates c d am _ rfl (by simpa using he) hlen w hv hu
def val (xs:List Int) (y:Int):Int:=xs.getD (y-1).toNat 0
theorem ykq (lt:Int->Int->Bool) (xs:List Int) (n:Nat):(ya3 lt xs n).Nodup:= by
 rw [(yh8 lt xs n).nodup_iff];have:(List.range n).Nodup:=List.nodup_range;unfold List.Nodup at this ⊢;rw [List.pairwise_map];exact this.imp (by intro a b h;omega)
theorem yos {l:List Int} (h:l.Nodup) {i:Nat} (hi:i<l.length):(l.take i).contains (l.getD i 0)=false:= by
 cases hc:(l.take i).contains (l.getD i 0) with
 | false=>rfl
 | true =>
  exfalso;have hm:l.getD i 0∈l.take i:=by simpa using hc
  obtain ⟨j,hj,e⟩:=List.getElem_of_mem hm;rw [List.length_take] at hj;rw [List.getElem_take] at e;have e2:l.getD i 0=l[i]:=by simp [List.getD,hi]
  rw [e2] at e;have:=(List.pairwise_iff_getElem.1 h) j i om hi om;exact this e
def ycx (rates:List Int) (k:Int):List Int:=k::(ya3 ya2 rates rates.length).filter (fun x=>x != k)
theorem yyf {ks:List Int} {n:Nat} (h:∀i,i<ks.length->1<=ks.getD i 0/\ks.getD i 0<=n) (hd:ks.Nodup) (i:Nat) (hi:i<=ks.length):ordT ks n i=true:= by
 induction i with
 | zero=>rfl
 | succ i ih =>
  have h1:=h i om;have h2:=yos hd (show i<ks.length by omega);simp only [ordT,ih om,h2,decide_eq_true h1.1,decide_eq_true h1.2]
  rfl
theorem ywe {rates:List Int} {k x:Int} {n:Nat} (hn:rates.length=n) (hk:1<=k/\k<=n) (h:x∈ycx rates k):1<=x/\x<=n:= by
 unfold ycx at h;rcases List.mem_cons.1 h with rfl | h
 ·exact hk
 ·have:=ynu (List.mem_filter.1 h).1
  omega
theorem ypo (rates:List Int) (k:Int):(ycx rates k).Nodup:= by
 unfold ycx;refine List.nodup_cons.2 ⟨?_,(ykq ya2 rates rates.length).filter _⟩;intro h;have:=(List.mem_filter.1 h).2;simp at this
theorem ypa {rates:List Int} {k:Int} {n:Nat} (hn:rates.length=n) (hk:1<=k/\k<=n):ordB (ycx rates k) n=true:= by
 refine yyf (fun i hi=>?_) (ypo rates k) _ (Nat.le_refl _);have e:(ycx rates k).getD i 0=(ycx rates k)[i]:=by simp [List.getD,hi]
 rw [e];exact ywe hn hk (List.getElem_mem hi)
theorem yih (rates:List Int) (k:Int):(ycx rates k).length<=rates.length+1:= by
 unfold ycx;have:=List.length_filter_le (fun x:Int=>x != k) (ya3 ya2 rates rates.length);rw [ya4] at this;simp only [List.length_cons];omega
theorem ysd {bs ks:List Int} {am:Int} (ho:ordB ks bs.length=true) (hb:bs.any yak=false) (ha:0<=am/\am<=1000000000000000):yia bs ks am=((ybq bs ks am).1,(ybq bs ks am).2,0):= by
 have h2:yak am=false:=by simp [yak];omega
 unfold yia;rw [ho,hb,h2]
 rfl
def ytl (bs:List Int) (c d:Int) (rates:List Int) (k am:Int):List Int×Int×Int×Int :=
 if yb1 bs c d am [k]≠0 then ([],0,0,yb1 bs c d am [k]) else
 if (rates.length == bs.length)=false then ([],0,0,1) else
 if yat (subL bs (ybq bs (ycx rates k) am).1) (c+(ybq bs (ycx rates k) am).2) d=true then
  (subL bs (ybq bs (ycx rates k) am).1,c+(ybq bs (ycx rates k) am).2,d,0) else ([],0,0,5)
theorem ys2 {rates:List Int} {k y:Int} {j:Nat} (hj:j<(ya3 ya2 rates rates.length).length) (hy:(ya3 ya2 rates rates.length).getD j 0=y) :
 k::((ya3 ya2 rates rates.length).take (j+1)).filter (fun x=>x != k)=if (y != k)=true then (k::((ya3 ya2 rates rates.length).take j).filter (fun x=>x != k))++[y] else k::((ya3 ya2 rates rates.length).take j).filter (fun x=>x != k):= by
 have e:(ya3 ya2 rates rates.length)[j]=y:=by rw [<-hy];simp [List.getD,hj]
 rw [List.take_succ_eq_append_getElem hj,e,List.filter_append]
 by_cases h:(y != k)=true
 ·rw [if_pos h];simp [h]
 ·rw [if_neg h];simp [h]
def yv3 (xs:List Int) (w:World) (e:Ending) (w':World):Prop:=∃u,e=.returned u/\w'.ownsRow w.heap.size 3 1 u xs.length (xs.map (Value.int .i64))/\BW w w'
theorem yox {w w':World} {base:Nat} {e:TypeId} {size n:Nat} {v:Value} {xs:List Value} (h:w.ownsRow base e size v n xs) (hb:BW w w'):w'.ownsRow base e size v n xs:= by
 obtain ⟨h1,h2⟩:=h;refine ⟨h1,?_⟩;rcases h2 with h2 | ⟨g,cap,cur,hv,hg,hc,r⟩
 ·exact Or.inl h2
 ·exact Or.inr ⟨g,cap,cur,hv,hg,(hb.block g (Array.getElem?_eq_some_iff.1 hc).1).trans hc,r⟩
theorem yjr (v:Value) (xs:List Int) (w:World) (hv:Sl .i64 w v xs) (hn:xs.length<=1000) :
 Calls Tryz.prog 235 #[v,.func (.func 236) #[] #[]] w (yv3 (ya3 ya2 xs xs.length) w):= by
 have HV:=lh hv;obtain ⟨ao,cap,rfl,h1,⟨h2,_⟩,h3⟩:=hv;clear h3;unfold maxLen at h2;obtain ⟨i0,hi,hz0,hz1,hz2⟩:=info_parts yhb
 go_enter Tryz.func235,Tryz.ntmps235
 go_wp2
 go_loopg [5,11] xs.length (fun g l i wr=>∃n:Nat,n+g=xs.length/\i=iV n/\wr.ownsRow w.heap.size 3 1 l n ((ya3 ya2 xs n).map (Value.int .i64))/\BW w wr)
 case atStart=>exact ⟨0,by omega,rfl,World.ownsRow_nil _ _ _ _,bR⟩
 case round =>
  obtain ⟨n,hng,rfl,hown,hb⟩:=hrel;cases gk with
  | zero =>
   have hlt:¬((n:Int)<(xs.length:Int)):=by omega
   obtain rfl:n=xs.length:=by omega
   go_wp2
   go_ret
   exact ⟨_,rfl,by rw [ya4];exact hown,hb⟩
  | succ g =>
   have hlt:((n:Int)<(xs.length:Int)):=by omega
   obtain ⟨b,o,x,rfl,hcell,HX⟩:=(HV.out.below hb).get (i:=n) om;have hbs:=hb.size;go_wp2
   refine yai 0 (fun a' w'=>∃(k gg cap':Nat) (cur:List Value) (u16 u17 u18 u19 u20 u21 u22 u23 u24 u25 u26 u27 u28 u29 u30 u31 u32 u33 u34 u35 u36 u37 u38 u39 u40 u41 u42 u43 u44 u45 u46 u47 u48 u49 u50 u51 u52 u53 u54 u55 u56:Value),a'={ tmps:=#[Value.slice (some { block:=b,off:=o }) xs.length cap,Value.func (Fn.func 236) #[] #[],undef,undef,sZ,sL gg 0 (n+1) cap',iV n,iV x,iV k,Value.slice (some { block:=b,off:=o }) xs.length cap,Value.int IntKind.i64 ↑xs.length,iV n,.bool true,iV n,Value.pointer (some { block:=b,off:=o+n }),iV x,u16,u17,u18,u19,u20,u21,u22,u23,u24,u25,u26,u27,u28,u29,u30,u31,u32,u33,u34,u35,u36,u37,u38,u39,u40,u41,u42,u43,u44,u45,u46,u47,u48,u49,u50,u51,u52,u53,u54,u55,u56,undef],defers:=[] } /\
    k<=n/\bk (fun y=>ya2 x (xs.getD (y-1).toNat 0)) (ya3 ya2 xs n) k=bk (fun y=>ya2 x (xs.getD (y-1).toNat 0)) (ya3 ya2 xs n) n/\Blk w' gg 3 cur/\w.heap.size<=gg/\n+1<=cap'/\cap'<=maxLen/\cur.length=cap'/\cur.take (n+1)=(mid (ya3 ya2 xs n) (n+1) k).map (Value.int .i64)/\BW w w')
    (fun a' _=>(intOf (a'.tmps.getD 8 undef)).toNat) rfl ?pass ?first
   case first =>
    intro J' _ hrest;have HR:=lh hrest;clear hrest
    go_wp2_with (at_builtin;refine wpList_append_own _ rfl (.tmp 16) (.tmp 19) 266 rfl w.heap.size 3 i0 (iZ) 1 8 Tryz.underlying266 hi hz0 hz1 hz2 rfl (by decide) _ _ _ rfl (hown.alloc _) (Ad wr.heap.size 0) 1 1 [iV (n+1)] rfl rfl (cell_one_new _ _ _) (fun x hx=>by simp at hx;subst hx;rfl) (by unfold maxLen;omega) om (by simp;omega) ?_;intro v' w1 hown1 hgrow1 hnil1)
    obtain ⟨gg,cap',rfl⟩:=ya5 hown1 om;obtain ⟨cur,hB,hc1,hc2,hc3,hc4,hc5⟩:=ya8 hown1;have hbw:BW w w1:=(hb.alloc hbs _).grown hgrow1 (by simp;omega) (fun k hk=>(hown.lt k hk).1)
    go_step3
    go_step
    go_step
    refine HR.out _ _ ⟨n,gg,cap',cur,_,_,_,_,_,_,_,_,_,_,_,_,_,_,_,_,_,_,_,_,_,_,_,_,_,_,_,_,_,_,_,_,_,_,_,_,_,_,_,_,_,rfl,Nat.le_refl _,rfl,hB,hc5,hc1,hc2,by omega,?_,hbw⟩;have hl:=ya4 ya2 xs n
    have e:mid (ya3 ya2 xs n) (n+1) n=ya3 ya2 xs n++[(n:Int)+1]:= by
     have:=yqn (ya3 ya2 xs n) (n+1)
     rwa [hl] at this
    rw [e,List.map_append]
    simpa using hc4
   case pass =>
    intro a1 w1 hJ J' hJ';obtain ⟨k,gg,cap',cur,hJ⟩:=hJ
    iterate 41 obtain ⟨_,hJ⟩:=hJ
    obtain ⟨ha,hk,hbk,hB,hg,hc1,hc2,hc3,hc4,hbw⟩:=hJ;subst ha;have hl:=ya4 ya2 xs n;cases k with
    | zero =>
     have X:=lh (And.intro hbk (And.intro hB (And.intro hc3 (And.intro hc4 (And.intro hbw hl)))));clear hbk hB hc3 hc4 hl;have hk0:¬((0:Int)<((0:Nat):Int)):=by omega
     go_wp2
     simp only [Exit.jump];go_wp2
     go_roundg g
     case measure=>omega
     case rel =>
      obtain ⟨hbk,hB,hc3,hc4,hbw,hl⟩:=X.out;refine ⟨n+1,by omega,by go_num,yct hB hg hc1 hc2 om ?_,hbw⟩;rw [Nat.mul_one,hc4];simp only [ya3,ins,hl,HX.out];rw [<-hbk]
      rfl
    | succ k =>
     have hk0:(0:Int)<((k+1:Nat):Int):=by omega
     obtain ⟨y,hy⟩:∃y,(ya3 ya2 xs n).getD k 0=y:=⟨_,rfl⟩;have hyr:1<=y/\y<=n:=by rw [<-hy];exact yhu om
     obtain ⟨m,rfl⟩:∃m:Nat,y=(m:Int)+1:=⟨(y-1).toNat,by omega⟩;obtain ⟨b',o',z,e0,hcz,hz⟩:=(HV.out.below hbw).get (i:=m) om;cases e0
     have hcy:w1.cell? (Ad gg k)=some (iV ((m:Int)+1)):= by
      rw [hB.cell,yfh hc4 om (by rw [ydo];omega),yig om om,hy]
     have hcx:w1.cell? (Ad gg (k+1))=some (iV ((n:Int)+1)):= by
      rw [hB.cell,yfh hc4 om (by rw [ydo];omega),yh7 om]
     have hf1:=hB.frozen k;have hf2:=hB.frozen (k+1);have hcall:=yoc x z w1;have hm:m<xs.length:=by omega
     have X:=lh (And.intro hbk (And.intro hB (And.intro hc3 (And.intro hc4 (And.intro hbw (And.intro hl hy))))));clear hbk hB hc3 hc4 hl hy;cases hz':ya2 x z
     ·rw [hz'] at hcall
      have Z:=lh hz';clear hz'
      go_wp2_with (go_at_call 236;refine hcall.mono ?_;rintro e w' ⟨rfl,rfl⟩)
      simp only [Exit.jump];go_wp2
      go_roundg g
      case measure=>omega
      case rel =>
       obtain ⟨hbk,hB,hc3,hc4,hbw,hl,hy⟩:=X.out;refine ⟨n+1,by omega,by go_num,yct hB hg hc1 hc2 om ?_,hbw⟩;rw [Nat.mul_one,hc4];simp only [ya3,ins,hl,HX.out];rw [<-hbk];have e1:((m:Int)+1-1).toNat=m:=by omega
       simp only [bk,hy,e1,hz.out,Z.out]
       rfl
     ·rw [hz'] at hcall
      have Z:=lh hz';clear hz'
      go_wp2_with (go_at_call 236;refine hcall.mono ?_;rintro e w' ⟨rfl,rfl⟩)
      go_region
      go_wp2
      go_step3
      obtain ⟨hbk,hB,hc3,hc4,hbw,hl,hy⟩:=X.out;refine ⟨rfl,hJ' _ _ ⟨k,gg,cap',(cur.set k (iV ((n:Int)+1))).set (k+1) (iV ((m:Int)+1)),_,_,_,_,_,_,_,_,_,_,_,_,_,_,_,_,_,_,_,_,_,_,_,_,_,_,_,_,_,_,_,_,_,_,_,_,_,_,_,_,_,rfl,by omega,?_,(hB.set k _).set (k+1) _,hg,hc1,hc2,by simpa using hc3,?_,((hbw.setCell hg _).setCell hg _).drew⟩ ?_⟩
      ·have e1:((m:Int)+1-1).toNat=m:=by omega
       rw [<-hbk];simp only [bk,hy,e1,hz.out,Z.out,if_true]
      ·rw [<-yr3 om,hy]
       simp only [List.map_set,<-hc4];rw [yop om om]
      ·simp [intOf]
theorem ym6 (v:Value) (xs:List Int) (w:World) (hv:Sl .i64 w v xs) (hn:xs.length<=1000):Calls Tryz.prog 217 #[v] w (yv3 (ya3 ya2 xs xs.length) w):= by
 go_enter Tryz.func217,Tryz.ntmps217
 go_wp2_with (go_at_call 235;refine (yjr _ xs _ hv hn).mono ?_;rintro e w' ⟨u,rfl,hs,hb⟩)
 go_ret
 exact ⟨u,rfl,hs,hb⟩
end Go.Proofs.YtkongpjpkpfniaaGreat

/- TopPaid: parts of the proof, made small by a program (mini.py). -/
import Derived.Test.YtkongpjpkpfniaaGreatM01
import Derived.Test.YtkongpjpkpfniaaGreatM07
set_option linter.unusedVariables false
set_option linter.unusedSimpArgs false
set_option maxRecDepth 100000
set_option maxHeartbeats 6400000
namespace Go.Proofs.YtkongpjpkpfniaaGreat
open Go.RowKit
theorem zq08e414 {q:Prop} (h:q:= by
 have:=heap_alloc_new (w.alloc (.cells #[.slice ao bs.length cap,iV c,iV d] 35)) (.cells #[sZ,iZ,iZ] 35)
 simpa [Blk,Hid] using this):q:=h
theorem yg2 (v:Value) (bs:List Int) (c d:Int) (i:Nat) (am y m z:Int) (he:Hid (yb1 bs c d am [(i:Int)+1]=0)) (hi:i<bs.length) (hy:Hid (bs.getD i 0=y)) (hle:¬am≤c) (hm:am-c=m) (hz:y+m=z) (hwm:wrap64 m=m) (hwz:wrap64 z=z) (hq:Hid (yat (bs.set i z) 0 d=true)) (hlen:bs.length≤1000) (w:World) (hv:Sl .i64 w v bs) :
 Calls Tryz.prog 180 #[.agg #[v,iV c,iV d],iV ((i:Int)+1),iV am] w (yb7 ((bs.set i z),0,d,0) w):= by
 have HV:=lh hv;obtain ⟨ao,cap,rfl,h1,⟨h2,_⟩,h3⟩:=hv;clear h3;unfold maxLen at h2
 have HBLK:Hid (Blk ((w.alloc (.cells #[.slice ao bs.length cap,iV c,iV d] 35)).alloc (.cells #[sZ,iZ,iZ] 35)) (w.heap.size+1) 35 [sZ,iZ,iZ]):= by
  exact zq08e414
 have hB0:Blk (w.alloc (.cells #[.slice ao bs.length cap,iV c,iV d] 35)) w.heap.size 35 [.slice ao bs.length cap,iV c,iV d]:=heap_alloc_new w _;have HB0:=lh (hB0.below (yaa bR (.cells #[sZ,iZ,iZ] 35)));have HW0:Hid (Below w.heap.size w ((w.alloc (.cells #[.slice ao bs.length cap,iV c,iV d] 35)).alloc (.cells #[sZ,iZ,iZ] 35))):=yaa (yaa bR _) _;have HARG:=lh (And.intro hi hlen);clear hB0
 go_enter Tryz.func180,Tryz.ntmps180
 go_wp2_with fail
 obtain ⟨W,hW,gB,gR,gw,gS,gV⟩:∃W,(((w.alloc (.cells #[.slice ao bs.length cap,iV c,iV d] 35)).alloc (.cells #[sZ,iZ,iZ] 35)).alloc (.cells #[iV ((i:Int)+1)] 3))=W∧Hid (Blk W w.heap.size 35 [.slice ao bs.length cap,iV c,iV d])∧Hid (Blk W (w.heap.size+1) 35 [sZ,iZ,iZ])∧Hid (Below w.heap.size w W)∧Hid (Sl .i64 W (.slice (some ⟨w.heap.size+1+1,0,none⟩) 1 1) [(i:Int)+1])∧Hid (Sl .i64 W (.slice ao bs.length cap) bs) :=
  ⟨_,rfl,HB0.out.below (yaa bR _),HBLK.out.below (yaa bR _),yaa HW0.out _,Sl.litAt _ _ [(i:Int)+1] 1 _ rfl _ rfl (by unfold maxLen;omega) (by simp),HV.out.below (yaa HW0.out _)⟩
 with_reducible rw [hW]
 clear hW HB0 HBLK HW0 HV;have hgl:=gR.out.lt;refine (yb5 _ bs c d am _ [(i:Int)+1] 0 he om (by simp) _ gV.out gS.out).mono ?_;rintro _ w1 ⟨rfl,hb1⟩;have hB1:=gB.out.below hb1;have c0:=hB1.cell 0;have c1:=hB1.cell 1;have c2':=hB1.cell 2;simp only [gz,gs] at c0 c1 c2';have hz1:=hb1.size
 go_wp2_with fail
 refine (yex _ bs c d HARG.out.2 _ (gV.out.below hb1)).mono ?_;rintro _ w2 ⟨u,rfl,hown,hb2⟩;obtain ⟨gr,capr,rfl⟩:=ya5 hown (by have:=HARG.out.1;omega);obtain ⟨n,hn⟩:∃n,bs.length=n:=⟨_,rfl⟩;rw [hn] at hown ⊢;have HN:=lh hn;have hB2:=hB1.below hb2;have f0:=hB2.frozen 0;have f1:=hB2.frozen 1;have f2:=hB2.frozen 2;clear c0 c1 c2';have c0:=hB2.cell 0;have c1:=hB2.cell 1;have c2':=hB2.cell 2;simp only [gz,gs] at c0 c1 c2';have HB2:=lh hB2;have HOWN:=lh hown;have hgr:=(hown.lt gr rfl).1;have hz2:=hb2.size;have HBF2:=lh (yad (yad gw.out hb1) hb2);have HR2:=lh ((gR.out.below hb1).below hb2);clear hB1 hB2 hown hb1 hb2 hn
 go_wp2_with fail
 refine (yf4 (w1.heap.size+2) w.heap.size gr n capr i bs c d am y m z HN (by have:=HARG.out.1;have:=HN.out;omega) (by have:=HARG.out.2;have:=HN.out;omega) hy om hm hz hwm hwz om _ (((HB2.out.set 0 _).set 1 _).set 2 _) (yau (yau (yau HOWN.out om) om) om)).mono ?_;rintro _ w3 ⟨rfl,hB3,hown3,hsz3,hbel3,hoth3⟩;have hb3:Below w.heap.size w w3:=(((HBF2.out.setCell (p:=⟨w.heap.size,0,none⟩) (Nat.le_refl _) _).setCell (p:=⟨w.heap.size,1,none⟩) (Nat.le_refl _) _).setCell (p:=⟨w.heap.size,2,none⟩) (Nat.le_refl _) _).trans (hbel3 w.heap.size (Nat.le_refl _) om);have hR3:Blk w3 (w.heap.size+1) 35 [sZ,iZ,iZ]:=(hoth3 (w.heap.size+1) om om).trans (((HR2.out.setOther om 0 _).setOther om 1 _).setOther om 2 _);clear c0 c1 c2' f0 f1 f2;have c0:=hB3.cell 0;have c1:=hB3.cell 1;have c2':=hB3.cell 2;simp only [gz,gs] at c0 c1 c2';obtain ⟨cur,hBR,hnc,hcm,hcl,htk,_⟩:=ya8 hown3;have HTK:Hid (cur.take n=(bs.set i z).map (Value.int .i64)):=by show _=_;simpa using htk
 have HSL:=lh (Sl.of_own hown3 (show (bs.set i z).length=n by rw [List.length_set];exact HN.out));have HJ:Hid (ybt (.slice (some ⟨gr,0,none⟩) n capr) (bs.set i z) 0 d=.tuple #[.agg #[.slice (some ⟨gr,0,none⟩) n capr,iZ,iV d],iZ]):=by show _=_;unfold ybt;rw [hq.out];rfl
 have HR3:=lh hR3;have HBR:=lh hBR;have HB3:=lh hb3;clear hB3 hown3 hbel3 hoth3 hb3 hR3 hBR hcl htk HBF2 HR2 HB2 HOWN
 go_wp2_with fail
 refine (ych _ (bs.set i z) 0 d _ HJ (by rw [List.length_set];have:=HARG.out.2;omega) _ HSL.out).mono ?_;rintro _ w4 ⟨rfl,hb4⟩;have hR4:=HR3.out.below hb4;have r0:=hR4.cell 0;have r1:=hR4.cell 1;have r2:=hR4.cell 2;simp only [gz,gs] at r0 r1 r2;have e0:=hR4.frozen 0;have e1:=hR4.frozen 1;have e2:=hR4.frozen 2;have hbf:=yad HB3.out hb4;have HBR4:=lh (HBR.out.below hb4);clear hR4 hb4 c0 c1 c2';go_wp2
 refine bodyPost_ret (v:=.tuple #[.agg #[.slice (some ⟨gr,0,none⟩) n capr,iZ,iV d],iZ]) (by simp [results,Tryz.results180,go_sem,r0,r1,r2]) rfl ⟨.slice (some ⟨gr,0,none⟩) n capr,rfl,⟨Sl.of_blk (((HBR4.out.setOther om 0 _).setOther om 1 _).setOther om 2 _) (by rw [List.length_set];exact HN.out) hnc hcm HTK.out,ys3 fun _=>⟨rfl,by omega⟩⟩,yd5 hbf om _ _ _⟩
theorem ygl (v:Value) (bs:List Int) (c d:Int) (i:Nat) (am y c2:Int) (he:Hid (yb1 bs c d am [(i:Int)+1]=0)) (hi:i<bs.length) (hy:Hid (bs.getD i 0=y)) (hle:am≤c) (hc2:c-am=c2) (hw:wrap64 c2=c2) (hy0:wrap64 y=y) (hq:Hid (yat (bs.set i y) c2 d=false)) (hlen:bs.length≤1000) (w:World) (hv:Sl .i64 w v bs) :
 Calls Tryz.prog 180 #[.agg #[v,iV c,iV d],iV ((i:Int)+1),iV am] w (yb7 ([],0,0,5) w):= by
 have HV:=lh hv;obtain ⟨ao,cap,rfl,h1,⟨h2,_⟩,h3⟩:=hv;clear h3;unfold maxLen at h2
 have HBLK:Hid (Blk ((w.alloc (.cells #[.slice ao bs.length cap,iV c,iV d] 35)).alloc (.cells #[sZ,iZ,iZ] 35)) (w.heap.size+1) 35 [sZ,iZ,iZ]):= by
  exact zq08e414
 have hB0:Blk (w.alloc (.cells #[.slice ao bs.length cap,iV c,iV d] 35)) w.heap.size 35 [.slice ao bs.length cap,iV c,iV d]:=heap_alloc_new w _;have HB0:=lh (hB0.below (yaa bR (.cells #[sZ,iZ,iZ] 35)));have HW0:Hid (Below w.heap.size w ((w.alloc (.cells #[.slice ao bs.length cap,iV c,iV d] 35)).alloc (.cells #[sZ,iZ,iZ] 35))):=yaa (yaa bR _) _;have HARG:=lh (And.intro hi hlen);clear hB0
 go_enter Tryz.func180,Tryz.ntmps180
 go_wp2_with fail
 obtain ⟨W,hW,gB,gR,gw,gS,gV⟩:∃W,(((w.alloc (.cells #[.slice ao bs.length cap,iV c,iV d] 35)).alloc (.cells #[sZ,iZ,iZ] 35)).alloc (.cells #[iV ((i:Int)+1)] 3))=W∧Hid (Blk W w.heap.size 35 [.slice ao bs.length cap,iV c,iV d])∧Hid (Blk W (w.heap.size+1) 35 [sZ,iZ,iZ])∧Hid (Below w.heap.size w W)∧Hid (Sl .i64 W (.slice (some ⟨w.heap.size+1+1,0,none⟩) 1 1) [(i:Int)+1])∧Hid (Sl .i64 W (.slice ao bs.length cap) bs) :=
  ⟨_,rfl,HB0.out.below (yaa bR _),HBLK.out.below (yaa bR _),yaa HW0.out _,Sl.litAt _ _ [(i:Int)+1] 1 _ rfl _ rfl (by unfold maxLen;omega) (by simp),HV.out.below (yaa HW0.out _)⟩
 with_reducible rw [hW]
 clear hW HB0 HBLK HW0 HV;have hgl:=gR.out.lt;refine (yb5 _ bs c d am _ [(i:Int)+1] 0 he om (by simp) _ gV.out gS.out).mono ?_;rintro _ w1 ⟨rfl,hb1⟩;have hB1:=gB.out.below hb1;have c0:=hB1.cell 0;have c1:=hB1.cell 1;have c2':=hB1.cell 2;simp only [gz,gs] at c0 c1 c2';have hz1:=hb1.size
 go_wp2_with fail
 refine (yex _ bs c d HARG.out.2 _ (gV.out.below hb1)).mono ?_;rintro _ w2 ⟨u,rfl,hown,hb2⟩;obtain ⟨gr,capr,rfl⟩:=ya5 hown (by have:=HARG.out.1;omega);obtain ⟨n,hn⟩:∃n,bs.length=n:=⟨_,rfl⟩;rw [hn] at hown ⊢;have HN:=lh hn;have hB2:=hB1.below hb2;have f0:=hB2.frozen 0;have f1:=hB2.frozen 1;have f2:=hB2.frozen 2;clear c0 c1 c2';have c0:=hB2.cell 0;have c1:=hB2.cell 1;have c2':=hB2.cell 2;simp only [gz,gs] at c0 c1 c2';have HB2:=lh hB2;have HOWN:=lh hown;have hgr:=(hown.lt gr rfl).1;have hz2:=hb2.size;have HBF2:=lh (yad (yad gw.out hb1) hb2);have HR2:=lh ((gR.out.below hb1).below hb2);clear hB1 hB2 hown hb1 hb2 hn
 go_wp2_with fail
 refine (yf7 (w1.heap.size+2) w.heap.size gr n capr i bs c d am y c2 HN (by have:=HARG.out.1;have:=HN.out;omega) (by have:=HARG.out.2;have:=HN.out;omega) hy hle hc2 hw hy0 om _ (((HB2.out.set 0 _).set 1 _).set 2 _) (yau (yau (yau HOWN.out om) om) om)).mono ?_;rintro _ w3 ⟨rfl,hB3,hown3,hsz3,hbel3,hoth3⟩;have hb3:Below w.heap.size w w3:=(((HBF2.out.setCell (p:=⟨w.heap.size,0,none⟩) (Nat.le_refl _) _).setCell (p:=⟨w.heap.size,1,none⟩) (Nat.le_refl _) _).setCell (p:=⟨w.heap.size,2,none⟩) (Nat.le_refl _) _).trans (hbel3 w.heap.size (Nat.le_refl _) om);have hR3:Blk w3 (w.heap.size+1) 35 [sZ,iZ,iZ]:=(hoth3 (w.heap.size+1) om om).trans (((HR2.out.setOther om 0 _).setOther om 1 _).setOther om 2 _);clear c0 c1 c2' f0 f1 f2;have c0:=hB3.cell 0;have c1:=hB3.cell 1;have c2':=hB3.cell 2;simp only [gz,gs] at c0 c1 c2';obtain ⟨cur,hBR,hnc,hcm,hcl,htk,_⟩:=ya8 hown3;have HSL:=lh (Sl.of_own hown3 (show (bs.set i y).length=n by rw [List.length_set];exact HN.out));have HJ:Hid (ybt (.slice (some ⟨gr,0,none⟩) n capr) (bs.set i y) c2 d=.tuple #[.agg #[sZ,iZ,iZ],iV 5]):=by show _=_;unfold ybt;rw [hq.out];rfl
 have HR3:=lh hR3;have HBR:=lh hBR;have HB3:=lh hb3;clear hB3 hown3 hbel3 hoth3 hb3 hR3 hBR hcl htk HBF2 HR2 HB2 HOWN
 go_wp2_with fail
 refine (ych _ (bs.set i y) c2 d _ HJ (by rw [List.length_set];have:=HARG.out.2;omega) _ HSL.out).mono ?_;rintro _ w4 ⟨rfl,hb4⟩;have hR4:=HR3.out.below hb4;have r0:=hR4.cell 0;have r1:=hR4.cell 1;have r2:=hR4.cell 2;simp only [gz,gs] at r0 r1 r2;have e0:=hR4.frozen 0;have e1:=hR4.frozen 1;have e2:=hR4.frozen 2;have hbf:=yad HB3.out hb4;clear hR4 hb4 c0 c1 c2';go_wp2
 refine bodyPost_ret (v:=.tuple #[.agg #[sZ,iZ,iZ],iV 5]) (by simp [results,Tryz.results180,go_sem,r0,r1,r2]) rfl ⟨sZ,rfl,⟨Sl.nil,ycz⟩,yd5 hbf om _ _ _⟩
theorem ygm (v:Value) (bs:List Int) (c d:Int) (i:Nat) (am y m z:Int) (he:Hid (yb1 bs c d am [(i:Int)+1]=0)) (hi:i<bs.length) (hy:Hid (bs.getD i 0=y)) (hle:¬am≤c) (hm:am-c=m) (hz:y+m=z) (hwm:wrap64 m=m) (hwz:wrap64 z=z) (hq:Hid (yat (bs.set i z) 0 d=false)) (hlen:bs.length≤1000) (w:World) (hv:Sl .i64 w v bs) :
 Calls Tryz.prog 180 #[.agg #[v,iV c,iV d],iV ((i:Int)+1),iV am] w (yb7 ([],0,0,5) w):= by
 have HV:=lh hv;obtain ⟨ao,cap,rfl,h1,⟨h2,_⟩,h3⟩:=hv;clear h3;unfold maxLen at h2
 have HBLK:Hid (Blk ((w.alloc (.cells #[.slice ao bs.length cap,iV c,iV d] 35)).alloc (.cells #[sZ,iZ,iZ] 35)) (w.heap.size+1) 35 [sZ,iZ,iZ]):= by
  exact zq08e414
 have hB0:Blk (w.alloc (.cells #[.slice ao bs.length cap,iV c,iV d] 35)) w.heap.size 35 [.slice ao bs.length cap,iV c,iV d]:=heap_alloc_new w _;have HB0:=lh (hB0.below (yaa bR (.cells #[sZ,iZ,iZ] 35)));have HW0:Hid (Below w.heap.size w ((w.alloc (.cells #[.slice ao bs.length cap,iV c,iV d] 35)).alloc (.cells #[sZ,iZ,iZ] 35))):=yaa (yaa bR _) _;have HARG:=lh (And.intro hi hlen);clear hB0
 go_enter Tryz.func180,Tryz.ntmps180
 go_wp2_with fail
 obtain ⟨W,hW,gB,gR,gw,gS,gV⟩:∃W,(((w.alloc (.cells #[.slice ao bs.length cap,iV c,iV d] 35)).alloc (.cells #[sZ,iZ,iZ] 35)).alloc (.cells #[iV ((i:Int)+1)] 3))=W∧Hid (Blk W w.heap.size 35 [.slice ao bs.length cap,iV c,iV d])∧Hid (Blk W (w.heap.size+1) 35 [sZ,iZ,iZ])∧Hid (Below w.heap.size w W)∧Hid (Sl .i64 W (.slice (some ⟨w.heap.size+1+1,0,none⟩) 1 1) [(i:Int)+1])∧Hid (Sl .i64 W (.slice ao bs.length cap) bs) :=
  ⟨_,rfl,HB0.out.below (yaa bR _),HBLK.out.below (yaa bR _),yaa HW0.out _,Sl.litAt _ _ [(i:Int)+1] 1 _ rfl _ rfl (by unfold maxLen;omega) (by simp),HV.out.below (yaa HW0.out _)⟩
 with_reducible rw [hW]
 clear hW HB0 HBLK HW0 HV;have hgl:=gR.out.lt;refine (yb5 _ bs c d am _ [(i:Int)+1] 0 he om (by simp) _ gV.out gS.out).mono ?_;rintro _ w1 ⟨rfl,hb1⟩;have hB1:=gB.out.below hb1;have c0:=hB1.cell 0;have c1:=hB1.cell 1;have c2':=hB1.cell 2;simp only [gz,gs] at c0 c1 c2';have hz1:=hb1.size
 go_wp2_with fail
 refine (yex _ bs c d HARG.out.2 _ (gV.out.below hb1)).mono ?_;rintro _ w2 ⟨u,rfl,hown,hb2⟩;obtain ⟨gr,capr,rfl⟩:=ya5 hown (by have:=HARG.out.1;omega);obtain ⟨n,hn⟩:∃n,bs.length=n:=⟨_,rfl⟩;rw [hn] at hown ⊢;have HN:=lh hn;have hB2:=hB1.below hb2;have f0:=hB2.frozen 0;have f1:=hB2.frozen 1;have f2:=hB2.frozen 2;clear c0 c1 c2';have c0:=hB2.cell 0;have c1:=hB2.cell 1;have c2':=hB2.cell 2;simp only [gz,gs] at c0 c1 c2';have HB2:=lh hB2;have HOWN:=lh hown;have hgr:=(hown.lt gr rfl).1;have hz2:=hb2.size;have HBF2:=lh (yad (yad gw.out hb1) hb2);have HR2:=lh ((gR.out.below hb1).below hb2);clear hB1 hB2 hown hb1 hb2 hn
 go_wp2_with fail
 refine (yf4 (w1.heap.size+2) w.heap.size gr n capr i bs c d am y m z HN (by have:=HARG.out.1;have:=HN.out;omega) (by have:=HARG.out.2;have:=HN.out;omega) hy om hm hz hwm hwz om _ (((HB2.out.set 0 _).set 1 _).set 2 _) (yau (yau (yau HOWN.out om) om) om)).mono ?_;rintro _ w3 ⟨rfl,hB3,hown3,hsz3,hbel3,hoth3⟩;have hb3:Below w.heap.size w w3:=(((HBF2.out.setCell (p:=⟨w.heap.size,0,none⟩) (Nat.le_refl _) _).setCell (p:=⟨w.heap.size,1,none⟩) (Nat.le_refl _) _).setCell (p:=⟨w.heap.size,2,none⟩) (Nat.le_refl _) _).trans (hbel3 w.heap.size (Nat.le_refl _) om);have hR3:Blk w3 (w.heap.size+1) 35 [sZ,iZ,iZ]:=(hoth3 (w.heap.size+1) om om).trans (((HR2.out.setOther om 0 _).setOther om 1 _).setOther om 2 _);clear c0 c1 c2' f0 f1 f2;have c0:=hB3.cell 0;have c1:=hB3.cell 1;have c2':=hB3.cell 2;simp only [gz,gs] at c0 c1 c2';obtain ⟨cur,hBR,hnc,hcm,hcl,htk,_⟩:=ya8 hown3;have HSL:=lh (Sl.of_own hown3 (show (bs.set i z).length=n by rw [List.length_set];exact HN.out));have HJ:Hid (ybt (.slice (some ⟨gr,0,none⟩) n capr) (bs.set i z) 0 d=.tuple #[.agg #[sZ,iZ,iZ],iV 5]):=by show _=_;unfold ybt;rw [hq.out];rfl
 have HR3:=lh hR3;have HBR:=lh hBR;have HB3:=lh hb3;clear hB3 hown3 hbel3 hoth3 hb3 hR3 hBR hcl htk HBF2 HR2 HB2 HOWN
 go_wp2_with fail
 refine (ych _ (bs.set i z) 0 d _ HJ (by rw [List.length_set];have:=HARG.out.2;omega) _ HSL.out).mono ?_;rintro _ w4 ⟨rfl,hb4⟩;have hR4:=HR3.out.below hb4;have r0:=hR4.cell 0;have r1:=hR4.cell 1;have r2:=hR4.cell 2;simp only [gz,gs] at r0 r1 r2;have e0:=hR4.frozen 0;have e1:=hR4.frozen 1;have e2:=hR4.frozen 2;have hbf:=yad HB3.out hb4;clear hR4 hb4 c0 c1 c2';go_wp2
 refine bodyPost_ret (v:=.tuple #[.agg #[sZ,iZ,iZ],iV 5]) (by simp [results,Tryz.results180,go_sem,r0,r1,r2]) rfl ⟨sZ,rfl,⟨Sl.nil,ycz⟩,yd5 hbf om _ _ _⟩
theorem ym0 {bs:List Int} {c d k am:Int} (h:yb1 bs c d am [k]=0):yat bs c d=true∧1≤k∧k≤bs.length∧0≤am∧am≤1000000000000000:= by
 unfold yb1 at h;cases hr:yat bs c d with
 | false=>rw [hr] at h;simp at h
 | true =>
  rw [hr] at h;cases hb:badK bs.length [k] with
  | true=>rw [hb] at h;simp at h
  | false =>
   rw [hb] at h;cases hm:may0 am with
   | false=>rw [hm] at h;simp at h
   | true =>
    have:=ybv.1 hm;simp [badK] at hb;exact ⟨rfl,by omega,by omega,this.1,this.2⟩
theorem ykm (v:Value) (bs:List Int) (c d k am:Int) (s:List Int×Int×Int×Int) (hs:Hid (yh2 bs c d k am=s)) (hlen:bs.length≤1000) (w:World) (hv:Sl .i64 w v bs) :
 Calls Tryz.prog 180 #[.agg #[v,iV c,iV d],iV k,iV am] w (yb7 s w):= by
 have hs:=hs.out;subst hs;unfold yh2
 by_cases he:yb1 bs c d am [k]=0
 ·rw [if_neg (by simpa using he)]
  obtain ⟨hr,hk1,hk2,ha1,ha2⟩:=ym0 he;obtain ⟨i,rfl⟩:∃i:Nat,k=(i:Int)+1:=⟨(k-1).toNat,by omega⟩;have hi:i<bs.length:=by omega
  have hit:((i:Int)+1-1).toNat=i:=by omega
  rw [hit];obtain ⟨⟨hc1,hc2⟩,hm⟩:=ycr hr;obtain ⟨hy1,hy2⟩:=hm i hi;obtain ⟨y,hy⟩:∃y,bs.getD i 0=y:=⟨_,rfl⟩;rw [hy] at hy1 hy2 ⊢
  by_cases hle:am≤c
  ·have e1:min am c=am:=Int.min_eq_left hle
   rw [e1,show y+(am-am)=y by omega];cases hq:yat (bs.set i y) (c-am) d with
   | true=>exact yg5 v bs c d i am y (c-am) he hi hy hle rfl (IntWalk.wrap64_in _ ⟨by omega,by omega⟩) (IntWalk.wrap64_in _ ⟨by omega,by omega⟩) hq hlen w hv
   | false=>exact ygl v bs c d i am y (c-am) he hi hy hle rfl (IntWalk.wrap64_in _ ⟨by omega,by omega⟩) (IntWalk.wrap64_in _ ⟨by omega,by omega⟩) hq hlen w hv
  ·have e1:min am c=c:=Int.min_eq_right om
   rw [e1,show c-c=0 by omega];cases hq:yat (bs.set i (y+(am-c))) 0 d with
   | true=>exact yg2 v bs c d i am y (am-c) (y+(am-c)) he hi hy hle rfl rfl (IntWalk.wrap64_in _ ⟨by omega,by omega⟩) (IntWalk.wrap64_in _ ⟨by omega,by omega⟩) hq hlen w hv
   | false=>exact ygm v bs c d i am y (am-c) (y+(am-c)) he hi hy hle rfl rfl (IntWalk.wrap64_in _ ⟨by omega,by omega⟩) (IntWalk.wrap64_in _ ⟨by omega,by omega⟩) hq hlen w hv
 ·rw [if_pos (by simpa using he)]
  exact ymg v bs c d k am _ rfl (by simpa using he) hlen w hv
theorem ylv {bs:List Int} {all s:Int} (h:yc0 all bs=some s):bs.any yak=false:= by
 rw [List.any_eq_false];intro x hx;obtain ⟨j,hj,rfl⟩:=List.getElem_of_mem hx;have:=ykd h j hj;have e:bs.getD j 0=bs[j]:=by simp [List.getD,hj]
 rw [e] at this;simp [yak];omega
theorem ygb {bs:List Int} {c d:Int} (h:yat bs c d=true):(0≤d∧d≤1000000000000000)∧bs.length≤8∧1≤bs.length:= by
 unfold yat at h;cases hs:yc0 0 bs with
 | none=>rw [hs] at h;simp at h
 | some s =>
  rw [hs] at h;simp only [Bool.and_eq_true,decide_eq_true_eq] at h;exact ⟨ybv.1 h.1.2,h.1.1.1.2,h.1.1.1.1⟩
theorem yif {bs:List Int} {c d am:Int} (h:yb1 bs c d am []=0):yat bs c d=true∧0≤am∧am≤1000000000000000:= by
 unfold yb1 at h;cases hr:yat bs c d with
 | false=>rw [hr] at h;simp at h
 | true =>
  rw [hr] at h;have hb:badK bs.length []=false:=rfl;rw [hb] at h;cases hm:may0 am with
  | false=>rw [hm] at h;simp at h
  | true=>have:=ybv.1 hm;exact ⟨rfl,this.1,this.2⟩
theorem yid {bs rates:List Int} {c d am:Int} {l:List Int} {du le e:Int} (h:payR bs c d rates am=(l,du,le,e)) :
 (e=0∧rates.length=bs.length∧bs.any yak=false∧yak c=false∧yak d=false∧yak am=false∧l=addL (pay1 bs rates (min am d)).1 (pay2 bs rates d am).1∧du=min am d∧le=(pay2 bs rates d am).2)∨(e=1∧l=[]∧du=0∧le=0):= by
 unfold payR at h;cases hc:(rates.length == bs.length && !bs.any yak && !yak c && !yak d && !yak am) with
 | false =>
  rw [hc,if_neg (by simp)] at h;simp only [Prod.mk.injEq] at h;exact .inr ⟨h.2.2.2.symm,h.1.symm,h.2.1.symm,h.2.2.1.symm⟩
 | true =>
  rw [hc,if_pos rfl] at h;simp only [Prod.mk.injEq] at h;simp only [Bool.and_eq_true,beq_iff_eq,Bool.not_eq_true'] at hc;exact .inl ⟨h.2.2.2.symm,hc.1.1.1.1,hc.1.1.1.2,hc.1.1.2,hc.1.2,hc.2,h.1.symm,h.2.1.symm,h.2.2.1.symm⟩
theorem yic {bs rates:List Int} {c d am:Int} {l:List Int} {du le:Int} (h:payR bs c d rates am=(l,du,le,0)) :
 l.length=bs.length∧(∀j,j<bs.length→0≤l.getD j 0∧l.getD j 0≤bs.getD j 0)∧(0≤le∧le≤am)∧du=min am d:= by
 rcases yid h with ⟨_,hl,hb,_,hd,ha,rfl,rfl,rfl⟩ | ⟨h0,_⟩
 ·have hbr:=ylg hb
  have hdr:=yc5 hd;have har:=yc5 ha;have hb0:∀x∈bs,0≤x:=fun x hx=>(hbr x hx).1;have hm:0≤min am d:=by omega
  have l1:(pay1 bs rates (min am d)).1.length=bs.length:=ya7 _ _ _;have l2:(pay2 bs rates d am).1.length=bs.length:=by unfold pay2;rw [ya7,yb3]
  have r1:∀j,j<bs.length→0≤(pay1 bs rates (min am d)).1.getD j 0∧(pay1 bs rates (min am d)).1.getD j 0≤bs.getD j 0:=fun j hj=>ydl hm hb0 _ j hj;have q1:0≤(pay1 bs rates (min am d)).2∧(pay1 bs rates (min am d)).2≤min am d:=ydz hm hb0 _;have hrr:=yfg (rates:=rates) hm hbr;have hr0:∀x∈ycj bs rates (min am d),0≤x:=fun x hx=>(hrr x hx).1;have ha2:0≤am-min am d+(pay1 bs rates (min am d)).2:=by omega
  have r2:∀j,j<bs.length→0≤(pay2 bs rates d am).1.getD j 0∧(pay2 bs rates d am).1.getD j 0≤(ycj bs rates (min am d)).getD j 0:=fun j hj=>ydl ha2 hr0 _ j (by rw [yb3];exact hj);have q2:0≤(pay2 bs rates d am).2∧(pay2 bs rates d am).2≤am-min am d+(pay1 bs rates (min am d)).2:=ydz ha2 hr0 _;refine ⟨?_,?_,by omega,rfl⟩
  ·unfold addL
   rw [List.length_zipWith];omega
  ·intro j hj
   have a:=r1 j hj;have b:=r2 j hj;have e:(ycj bs rates (min am d)).getD j 0=bs.getD j 0-(pay1 bs rates (min am d)).1.getD j 0:=yec hj om;rw [e] at b;rw [yj5 om om];omega
 ·exact absurd h0 (by decide)
def payS (bs:List Int) (c d:Int) (rates:List Int) (am:Int):List Int×Int×Int×Int :=
 if yb1 bs c d am []≠0 then ([],0,0,yb1 bs c d am []) else
 if (payR bs c d rates am).2.2.2≠0 then ([],0,0,(payR bs c d rates am).2.2.2) else
 if yat (subL bs (payR bs c d rates am).1) (c+(payR bs c d rates am).2.2.1) (d-(payR bs c d rates am).2.1)=true then
  (subL bs (payR bs c d rates am).1,c+(payR bs c d rates am).2.2.1,d-(payR bs c d rates am).2.1,0) else ([],0,0,5)
end Go.Proofs.YtkongpjpkpfniaaGreat

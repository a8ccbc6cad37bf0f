/- TopPaid: parts of the proof, made small by a program (mini.py). -/
import Derived.Deep.RegionHeld3
import Derived.Deep.RegionLaw
import Derived.Test.YtkongpjpkpfniaaGreatM01
import Derived.Test.YtkongpjpkpfniaaGreatM19
set_option linter.unusedVariables false
set_option linter.unusedSimpArgs false
set_option maxRecDepth 100000
set_option maxHeartbeats 6400000
namespace Go.Proofs.YtkongpjpkpfniaaGreat
open Go.RowKit
theorem zq20ef1e {q:Prop} (h:q:= by
 simp only [Value.slice.injEq,Option.some.injEq,Addr.mk.injEq] at h;have:=h.1.1;have:=HB8.out;have:=HG17.out;omega):q:=h
def zip3 (L ns rs:List Int):List (Int×Int×Int):=(List.range L.length).map fun i=>(L.getD i 0,ns.getD i 0,rs.getD i 0)
def ycq (l:List (Int×Int×Int)):List Value:=l.flatMap fun x=>[iV x.1,iV x.2.1,iV x.2.2]
theorem ymr (a b:List (Int×Int×Int)):ycq (a++b)=ycq a++ycq b:=by simp [ycq]
theorem yh4 (l:List (Int×Int×Int)) (i:Nat) (hi:i<l.length):(ycq l)[i*3]?=some (iV (l.getD i (0,0,0)).1)∧(ycq l)[i*3+1]?=some (iV (l.getD i (0,0,0)).2.1)∧(ycq l)[i*3+2]?=some (iV (l.getD i (0,0,0)).2.2):= by
 induction l generalizing i with
 | nil=>simp at hi
 | cons x l ih =>
  have e:ycq (x::l)=iV x.1::iV x.2.1::iV x.2.2::ycq l:=rfl;rw [e];cases i with
  | zero=>simp
  | succ i =>
   have h:=ih i (by simpa using hi);have e1:(i+1)*3=i*3+1+1+1:=by omega
   rw [e1]
   simpa using h
theorem yhj (l:List (Int×Int×Int)):(ycq l).length=l.length*3:= by
 induction l with
 | nil=>rfl
 | cons x l ih =>
  have e:ycq (x::l)=iV x.1::iV x.2.1::iV x.2.2::ycq l:=rfl;rw [e];simp only [List.length_cons,ih];omega
theorem LnS.of_blk {w:World} {g cap n:Nat} {e:TypeId} {cur:List Value} {ls:List (Int×Int×Int)} (h:Blk w g e cur) (hn:ls.length=n) (hnc:n≤cap) (hcm:cap≤maxLen) (hx:cur.take (n*3)=ycq ls):LnS w (.slice (some ⟨g,0,none⟩) n cap) ls:= by
 subst hn;refine ⟨_,_,rfl,hnc,⟨hcm,fun h=>by cases h⟩,fun _=>⟨g,0,rfl,fun i hi=>?_⟩⟩;obtain ⟨h1,h2,h3⟩:=yh4 ls i hi;have key:∀j,j<ls.length*3→cur[j]?=(ycq ls)[j]?:=fun j hj=>by rw [←hx];simp [hj]
 rw [h.cell,h.cell,h.cell];refine ⟨?_,?_,?_⟩
 ·rw [Nat.zero_add,key _ om];exact h1
 ·rw [show 0+i*3+1=i*3+1 by omega,key _ om];exact h2
 ·rw [show 0+i*3+2=i*3+2 by omega,key _ om];exact h3
theorem LnS.of_own {w:World} {base:Nat} {e:TypeId} {v:Value} {n:Nat} {ls:List (Int×Int×Int)} (h:w.ownsRow base e 3 v n (ycq ls)) (hn:ls.length=n):LnS w v ls:= by
 rcases h.2 with ⟨rfl,h0⟩ | ⟨g,cap,cur,rfl,hb,hg,hnc,hcm,hcs,htake⟩
 ·obtain rfl:ls=[]:=List.eq_nil_of_length_eq_zero (by have:=yhj ls;omega)
  exact LnS.nil
 ·exact LnS.of_blk (cur:=cur.toList) (by simpa [Blk] using hg) hn hnc hcm (by simpa using htake)
theorem ygf {w w':World} {g:Nat} {r:Option Nat} {e:TypeId} {cur:List Value} (h:Blk w g e cur) (hg:w.grownBy w' r) (hne:some g≠r):Blk w' g e cur:=(hg.block g h.lt hne).trans h
theorem Sl.grownC {k:IntKind} {w w':World} {v:Value} {xs:List Int} {r:Option Nat} (h:Sl k w v xs) (hg:w.grownBy w' r) (hne:∀b o n c,v=.slice (some ⟨b,o,none⟩) n c→0<n→some b≠r):Sl k w' v xs:= by
 obtain ⟨ao,cap,rfl,h1,h2,h3⟩:=h;refine ⟨ao,cap,rfl,h1,h2,fun hx=>?_⟩;obtain ⟨b,o,rfl,hc⟩:=h3 hx;have hb:=hne b o _ _ rfl (List.length_pos_iff.2 hx);refine ⟨b,o,rfl,fun j hj=>?_⟩;rw [←hc j hj];exact World.cell?_of_block (w:=w) (a:=⟨b,o+j,none⟩) (hg.block b (yac (hc j hj)) hb)
theorem LnS.shape {w:World} {v:Value} {ls:List (Int×Int×Int)} (h:LnS w v ls):∃ao cap,v=.slice ao ls.length cap:= by
 obtain ⟨ao,cap,rfl,_⟩:=h;exact ⟨ao,cap,rfl⟩
theorem yeh (L ns rs:List Int):(zip3 L ns rs).length=L.length:=by simp [zip3]
theorem LnS.setCell {w:World} {v:Value} {ls:List (Int×Int×Int)} {g i:Nat} (h:LnS w v ls) (hne:∀b o n c,v=.slice (some ⟨b,o,none⟩) n c→0<n→b≠g) (x:Value):LnS (w.setCell ⟨g,i,none⟩ x) v ls:= by
 obtain ⟨ao,cap,rfl,h1,h2,h3⟩:=h;refine ⟨ao,cap,rfl,h1,h2,fun hx=>?_⟩;obtain ⟨b,o,rfl,hc⟩:=h3 hx;have hb:=hne b o _ _ rfl (List.length_pos_iff.2 hx);have key:∀j,(w.setCell ⟨g,i,none⟩ x).cell? ⟨b,j,none⟩=w.cell? ⟨b,j,none⟩:=fun j=>World.cell?_of_block (w:=w) (a:=⟨b,j,none⟩) (heap_setCell_other w ⟨g,i,none⟩ b x (fun e=>hb e));refine ⟨b,o,rfl,fun j hj=>?_⟩;rw [key,key,key];exact hc j hj
theorem LnS.s9 {w:World} {v:Value} {ls:List (Int×Int×Int)} {g:Nat} (h:LnS w v ls) (hne:∀b o n c,v=.slice (some ⟨b,o,none⟩) n c→0<n→b≠g) (a b c d e f f' i j:Value):LnS (((((((((w.setCell ⟨g,0,none⟩ a).setCell ⟨g,1,none⟩ b).setCell ⟨g,2,none⟩ c).setCell ⟨g,3,none⟩ d).setCell ⟨g,4,none⟩ e).setCell ⟨g,5,none⟩ f).setCell ⟨g,6,none⟩ f').setCell ⟨g,7,none⟩ i).setCell ⟨g,8,none⟩ j) v ls :=
 ((((((((h.setCell hne _).setCell hne _).setCell hne _).setCell hne _).setCell hne _).setCell hne _).setCell hne _).setCell hne _).setCell hne _
theorem Sl.s9 {k:IntKind} {w:World} {v:Value} {ls:List Int} {g:Nat} (h:Sl k w v ls) (hne:∀b o n c,v=.slice (some ⟨b,o,none⟩) n c→0<n→b≠g) (a b c d e f f' i j:Value):Sl k (((((((((w.setCell ⟨g,0,none⟩ a).setCell ⟨g,1,none⟩ b).setCell ⟨g,2,none⟩ c).setCell ⟨g,3,none⟩ d).setCell ⟨g,4,none⟩ e).setCell ⟨g,5,none⟩ f).setCell ⟨g,6,none⟩ f').setCell ⟨g,7,none⟩ i).setCell ⟨g,8,none⟩ j) v ls :=
 ((((((((h.setCell hne _).setCell hne _).setCell hne _).setCell hne _).setCell hne _).setCell hne _).setCell hne _).setCell hne _).setCell hne _
theorem LnS.s3 {w:World} {v:Value} {ls:List (Int×Int×Int)} {g:Nat} (h:LnS w v ls) (hne:∀b o n c,v=.slice (some ⟨b,o,none⟩) n c→0<n→b≠g) (a b c:Value):LnS (((w.setCell ⟨g,0,none⟩ a).setCell ⟨g,1,none⟩ b).setCell ⟨g,2,none⟩ c) v ls:=((h.setCell hne _).setCell hne _).setCell hne _
theorem Sl.s3 {k:IntKind} {w:World} {v:Value} {ls:List Int} {g:Nat} (h:Sl k w v ls) (hne:∀b o n c,v=.slice (some ⟨b,o,none⟩) n c→0<n→b≠g) (a b c:Value):Sl k (((w.setCell ⟨g,0,none⟩ a).setCell ⟨g,1,none⟩ b).setCell ⟨g,2,none⟩ c) v ls:=((h.setCell hne _).setCell hne _).setCell hne _
theorem jav (w:World) (a b c:Value) (t:TypeId):∀j u,[a,b,c][j]?=some u→(w.alloc (.cells #[a,b,c] t)).cell? ((⟨w.heap.size,0,none⟩:Addr).add j)=some u:= by
 intro j u hu;have h:Blk (w.alloc (.cells #[a,b,c] t)) w.heap.size t [a,b,c]:=heap_alloc_new w _;rw [Addr.add_lit,h.cell,Nat.zero_add];exact hu
theorem yv9:(Tryz.prog.info? 65).map (fun i=>(i.zero,i.size,i.bytes))=some (some (.agg #[iZ,iZ,iZ]),3,24):=by kernel_rfl
theorem yuv {L ns rs:List Int} {k:Nat} (hk:k<L.length):(zip3 L ns rs).take (k+1)=(zip3 L ns rs).take k++[(L.getD k 0,ns.getD k 0,rs.getD k 0)]:= by
 have hl:(zip3 L ns rs).length=L.length:=by simp [zip3]
 rw [List.take_succ_eq_append_getElem om]
 congr 2
 simp [zip3]
theorem ytm (v:Value) (ts:List (Int×Bool)) (lim cyc dued minf minp start n fr til:Int) (bv:Value) (bs:List Int) (c d:Int) (rv:Value) (rs:List Int) (nv:Value) (ns:List Int) (g:Bool) (HLT:ts.length≤1000) (hrt:yaw lim ts cyc dued minf minp start=true) (ha:yix ts.length n fr til bs.length rs.length=true) (hra:rs.any ybg=false) (L:List Int) (C D:Int) (HBS:Hid (ye7 bs c d ns=(L,C,D,0))) (hLl:L.length=bs.length) (hnl:ns.length=bs.length) (tot:Int) (HTOT:Hid (yb4 L C D=tot)) (mn x:Int) (HMN:Hid (ygx (yaw lim ts cyc dued minf minp start) minf minp tot=(mn,x))) (du:Int) (hdu:til+dued=du) (hdur:-9000000000≤du∧du≤9000000000) (w:World) (hv:TrS w v ts) (hb:Sl .i64 w bv bs) (hr:Sl .i64 w rv rs) (hn:Sl .i64 w nv ns) :
 Calls Tryz.prog 141 #[.agg #[iV lim,v,iV cyc,iV dued,iV minf,iV minp,iV start],iV n,.agg #[iV fr,iV til],.agg #[bv,iV c,iV d],rv,nv,.bool g] w (yfu n fr til du (zip3 L ns rs) tot C mn g L C mn 0 w):= by
 have HV:=lh hv;have HB:=lh hb;have HR:=lh hr;have HN:=lh hn;obtain ⟨ao,cap,rfl,h1,⟨h2,hnn⟩,h3⟩:=hv;clear h3 hnn;obtain ⟨b0,bc,rfl,g1,⟨g2,hnn⟩,h3⟩:=hb;clear h3 hnn;obtain ⟨r0,rc,rfl,i1,⟨i2,hnn⟩,h3⟩:=hr;clear h3 hnn;obtain ⟨n0,nc,rfl,j1,⟨j2,hnn⟩,h3⟩:=hn;clear h3 hnn;unfold maxLen at h2 g2 i2 j2;obtain ⟨ha1,ha2,hd,hd2,hlt,heq,heq2⟩:=ygh.1 ha;have hA:¬n<1:=by omega
 have hB:¬300<n:=by omega
 have hC:¬til<fr:=by omega
 have d1:((bs.length:Int) != (ts.length:Int))=false:=by simp;omega
 have d2:((rs.length:Int) != (ts.length:Int))=false:=by simp;omega
 have HD1:=lh hd;have HD2:=lh hd2;have HEQ:=lh (And.intro heq (And.intro heq2 (And.intro hLl (And.intro hnl HLT))));have HRT:Hid ((if yaw lim ts cyc dued minf minp start=true then 0 else 6)=(0:Int)):=by show _=_;rw [hrt];rfl
 have wdu:wrap64 (til+dued)=du:=by rw [hdu];exact IntWalk.wrap64_in _ ⟨by omega,by omega⟩
 have wdu2:IntKind.i64.wrap (til+dued)=du:=by rw [hdu];exact IntWalk.i64_in _ ⟨by omega,by omega⟩
 have WDU:=lh (And.intro wdu wdu2);have HRA:=lh hra;clear hd hd2 ha heq heq2 hlt ha1 ha2 hrt hra hLl hnl hdu wdu wdu2 hdur
 go_enter Tryz.func141,Tryz.ntmps141
 go_wp2_with fail
 obtain ⟨W,hW,S7,S9,S10,S14,S15,SB,SZ⟩:=yjz w lim cyc dued minf minp start fr til c d (.slice ao ts.length cap) (.slice b0 bs.length bc)
 with_reducible rw [hW]
 clear hW;refine yd1 (fun _ _ _=>False) ?first ?pass
 case pass=>intro l a1 w1 hJ;exact hJ.elim
 case first =>
  have hwt:∃W1,W.alloc (.cells #[iZ,iZ,iZ,iZ,sZ,iZ,iZ,iZ,.bool false] 43)=W1∧Hid (Blk W1 w.heap.size 24 [iV lim,.slice ao ts.length cap,iV cyc,iV dued,iV minf,iV minp,iV start])∧Hid (Blk W1 (w.heap.size+1) 40 [iV fr,iV til])∧Hid (Blk W1 (w.heap.size+1+1) 35 [.slice b0 bs.length bc,iV c,iV d])∧Hid (Blk W1 (w.heap.size+1+1+1) 43 [iZ,iZ,iZ,iZ,sZ,iZ,iZ,iZ,.bool false])∧Hid (Blk W1 (w.heap.size+1+1+1+1) 35 [sZ,iZ,iZ])∧Hid (Blk W1 W.heap.size 43 [iZ,iZ,iZ,iZ,sZ,iZ,iZ,iZ,.bool false])∧Hid (Below w.heap.size w W1) :=
   ⟨_,rfl,S7.out.below (yaa bR _),S9.out.below (yaa bR _),S10.out.below (yaa bR _),S14.out.below (yaa bR _),S15.out.below (yaa bR _),heap_alloc_new W _,yaa SB.out _⟩
  obtain ⟨G17,hG⟩:∃G,W.heap.size=G:=⟨_,rfl⟩;have HG17:Hid (G17=w.heap.size+5):=by show _=_;rw [←hG];exact SZ.out
  go_upto_region 2 with fail
  obtain ⟨W1,hW1,R7,R9,R10,R14,R15,R17,RB⟩:=hwt
  with_reducible rw [hW1]
  rw [hG] at R17;clear hW1 S7 S9 S10 S14 S15 SB SZ hG;have HVW:=lh (HV.out.below RB.out);have t0:=R7.out.cell 0;have t1:=R7.out.cell 1;have t2:=R7.out.cell 2;have t3:=R7.out.cell 3;have t4:=R7.out.cell 4;have t5:=R7.out.cell 5;have t6:=R7.out.cell 6;simp only [gz,gs] at t0 t1 t2 t3 t4 t5 t6
  go_wp2_with fail
  refine (yar _ ts lim cyc dued minf minp start _ HRT _ HVW.out).mono ?_;rintro _ w2 ⟨rfl,hb2⟩;have X7:=lh (R7.out.below hb2);have X9:=lh (R9.out.below hb2);have X10:=lh (R10.out.below hb2);have X14:=lh (R14.out.below hb2);have X15:=lh (R15.out.below hb2);have X17:=lh (R17.out.below hb2);have XB:=lh (yad RB.out hb2);clear hb2 t0 t1 t2 t3 t4 t5 t6 R7 R9 R10 R14 R15 R17 RB HVW HRT;go_upto_region 5 with fail
  have q9:=X9.out;have s0:=q9.cell 0;have s1:=q9.cell 1;have q7:=X7.out;have t1:=q7.cell 1;have q10:=X10.out;have p0:=q10.cell 0;simp only [gz,gs] at s0 s1 t1 p0;clear q9 q7 q10;go_upto_region 6 with (first | (go_at_call 185;refine (yrc _ _ (by first | exact HD1.out | exact HD2.out) _).mono ?_;rintro _ _ ⟨rfl,rfl⟩))
  clear hA hB hC d1 d2 s0 s1 t1 p0;have HRW:=lh (HR.out.below XB.out)
  go_wp2_with fail
  go_loopg [71] rs.length (fun g i wr=>∃k:Nat,k+g=rs.length∧i=iV k∧w2=wr)
  case atStart=>exact ⟨0,by omega,rfl,rfl⟩
  case round =>
   obtain ⟨k,hkg,rfl,rfl⟩:=hrel;cases gk with
   | succ g =>
    have hlt:(k:Int)<(rs.length:Int):=by omega
    obtain ⟨b',o',y,rfl,hcell,HX⟩:=HRW.out.get (i:=k) om;have hx:=ywy HRA.out (k:=k) om;rw [HX.out] at hx;obtain ⟨hx1,hx2⟩:=hx;have hx3:¬y<0:=by omega
    have hx4:¬10000000<y:=by omega
    go_wp2_with fail
    go_roundg g
    case measure=>omega
    case rel=>exact ⟨k+1,by omega,by go_num,rfl⟩
   | zero =>
    have hlt:¬((k:Int)<(rs.length:Int)):=by omega
    have q10:=X10.out;have p0:=q10.cell 0;have p1:=q10.cell 1;have p2:=q10.cell 2;simp only [gz,gs] at p0 p1 p2;clear q10
    go_wp2_with fail
    refine (yhg _ _ bs ns c d _ HBS (by have:=HEQ.out;omega) _ (HB.out.below XB.out) (HN.out.below XB.out)).mono ?_;rintro _ w3 ⟨u3,rfl,⟨hul,huf⟩,hb3⟩;simp only at hul ⊢;obtain ⟨a3,q3,rfl⟩:=hul.shape;have HZ2:=lh X17.out.lt;have HUL:=lh hul;have HUF:=lh huf;have Y7:=lh (X7.out.below hb3);have Y9:=lh (X9.out.below hb3);have Y14:=lh (X14.out.below hb3);have Y15:=lh (X15.out.below hb3);have Y17:=lh (X17.out.below hb3);have YB:=lh (yad XB.out hb3);have Y10:=lh (X10.out.below hb3);have qy:=Y10.out;clear p0 p1 p2;have p0:=qy.cell 0;have p1:=qy.cell 1;have p2:=qy.cell 2;simp only [gz,gs] at p0 p1 p2;have f0:=qy.frozen 0;have f1:=qy.frozen 1;have f2:=qy.frozen 2;clear qy hul huf hb3 X7 X9 X10 X14 X15 X17 XB HRW hlt;go_upto_region 13 with fail
    have ha3:∀b o m q,Value.slice a3 L.length q3=.slice (some ⟨b,o,none⟩) m q→0<m→b≠w.heap.size∧b≠(w.heap.size+1)∧b≠(w.heap.size+1+1)∧b≠(w.heap.size+1+1+1)∧b≠(w.heap.size+1+1+1+1)∧b≠G17:=fun b o m q e hm=>by
     have:=HUF.out b o m q e hm;have h4:=HG17.out;have h5:=HZ2.out;omega
    have HA3:=lh ha3
    have HA3F:Hid (Fr w (.slice a3 L.length q3)):=fun b o m q e hm=>by
     have:=HUF.out b o m q e hm;have h4:=HG17.out;have h5:=HZ2.out;omega
    obtain ⟨W4,hW4,Z7,Z9,Z10,Z14,Z15,Z17,ZB,ZU⟩:∃W4,(((w3.setCell ⟨(w.heap.size+1+1),0,none⟩ (.slice a3 L.length q3)).setCell ⟨(w.heap.size+1+1),1,none⟩ (iV C)).setCell ⟨(w.heap.size+1+1),2,none⟩ (iV D))=W4∧Hid (Blk W4 w.heap.size 24 [iV lim,.slice ao ts.length cap,iV cyc,iV dued,iV minf,iV minp,iV start])∧Hid (Blk W4 (w.heap.size+1) 40 [iV fr,iV til])∧Hid (Blk W4 (w.heap.size+1+1) 35 [.slice a3 L.length q3,iV C,iV D])∧Hid (Blk W4 (w.heap.size+1+1+1) 43 [iZ,iZ,iZ,iZ,sZ,iZ,iZ,iZ,.bool false])∧Hid (Blk W4 (w.heap.size+1+1+1+1) 35 [sZ,iZ,iZ])∧Hid (Blk W4 G17 43 [iZ,iZ,iZ,iZ,sZ,iZ,iZ,iZ,.bool false])∧Hid (Below w.heap.size w W4)∧Hid (Sl .i64 W4 (.slice a3 L.length q3) L):= by
     have h4:=HG17.out;exact ⟨_,rfl,((Y7.out.setOther om _ _).setOther om _ _).setOther om _ _,((Y9.out.setOther om _ _).setOther om _ _).setOther om _ _,((Y10.out.set 0 _).set 1 _).set 2 _,((Y14.out.setOther om _ _).setOther om _ _).setOther om _ _,((Y15.out.setOther om _ _).setOther om _ _).setOther om _ _,((Y17.out.setOther om _ _).setOther om _ _).setOther om _ _,yd5 YB.out om _ _ _,((HUL.out.setCell (fun b o m q e h=>(HA3.out b o m q e h).2.2.1) _).setCell (fun b o m q e h=>(HA3.out b o m q e h).2.2.1) _).setCell (fun b o m q e h=>(HA3.out b o m q e h).2.2.1) _⟩
    with_reducible rw [hW4]
    clear hW4 ha3 Y7 Y9 Y10 Y14 Y15 Y17 YB HUL HUF p0 p1 p2 f0 f1 f2;have hz4:=Z17.out.lt
    have hSB:∀W',Blk W' w.heap.size 24 [iV lim,.slice ao ts.length cap,iV cyc,iV dued,iV minf,iV minp,iV start]→Blk W' (w.heap.size+1) 40 [iV fr,iV til]→Blk W' (w.heap.size+1+1) 35 [.slice a3 L.length q3,iV C,iV D]→(W'.cell? ⟨(w.heap.size+1),0,none⟩=some (iV fr)∧W'.cell? ⟨(w.heap.size+1),1,none⟩=some (iV til))∧W'.cell? ⟨w.heap.size,3,none⟩=some (iV dued)∧(W'.cell? ⟨(w.heap.size+1+1),0,none⟩=some (.slice a3 L.length q3)∧W'.cell? ⟨(w.heap.size+1+1),1,none⟩=some (iV C)∧W'.cell? ⟨(w.heap.size+1+1),2,none⟩=some (iV D)):=fun W' q7 q9 q10 =>
     ⟨⟨q9.cell 0,q9.cell 1⟩,q7.cell 3,q10.cell 0,q10.cell 1,q10.cell 2⟩
    have HSB:=lh hSB;have hs0:=hSB W4 Z7.out Z9.out Z10.out;have hsd:=hSB W4.drew Z7.out Z9.out Z10.out;clear hSB;have hn7:w.heap.size≠G17:=by have:=HG17.out;omega
    have hn9:(w.heap.size+1)≠G17:=by have:=HG17.out;omega
    have hn10:(w.heap.size+1+1)≠G17:=by have:=HG17.out;omega
    obtain ⟨wdu,wdu2⟩:=WDU.out
    go_region_held3 (fun W'=>(W'.cell? ⟨(w.heap.size+1),0,none⟩=some (iV fr)∧W'.cell? ⟨(w.heap.size+1),1,none⟩=some (iV til))∧W'.cell? ⟨w.heap.size,3,none⟩=some (iV dued)∧(W'.cell? ⟨(w.heap.size+1+1),0,none⟩=some (.slice a3 L.length q3)∧W'.cell? ⟨(w.heap.size+1+1),1,none⟩=some (iV C)∧W'.cell? ⟨(w.heap.size+1+1),2,none⟩=some (iV D))) (first | with_reducible assumption | with_reducible exact hs0 | with_reducible exact hsd | with_reducible exact hs5 | with_reducible exact HSB.out _ ((Z7.out.below HB5.out).s9 hn7 _ _ _ _ _ _ _ _ _) ((Z9.out.below HB5.out).s9 hn9 _ _ _ _ _ _ _ _ _) ((Z10.out.below HB5.out).s9 hn10 _ _ _ _ _ _ _ _ _)) (first | (go_at_call 111;refine (yhv _ L C D tot HTOT (by have:=HEQ.out;omega) _ (ZU.out.below (by first | exact bR | exact yaf bR))).mono ?_;rintro _ w5 ⟨rfl,hb5⟩;have HB5:Hid (Below W4.heap.size W4 w5):=(by first | exact hb5 | exact yad (yaf bR) hb5);have hs5:=HSB.out w5 (Z7.out.below HB5.out) (Z9.out.below HB5.out) (Z10.out.below HB5.out);have q17:=Z17.out.below HB5.out;have k0:=q17.cell 0;have k1:=q17.cell 1;have k2:=q17.cell 2;have k3:=q17.cell 3;have k4:=q17.cell 4;have k5:=q17.cell 5;have k6:=q17.cell 6;have k7:=q17.cell 7;have k8:=q17.cell 8;simp only [gz,gs] at k0 k1 k2 k3 k4 k5 k6 k7 k8;have e0:=q17.frozen 0;have e1:=q17.frozen 1;have e2:=q17.frozen 2;have e3:=q17.frozen 3;have e4:=q17.frozen 4;have e5:=q17.frozen 5;have e6:=q17.frozen 6;have e7:=q17.frozen 7;have e8:=q17.frozen 8;clear q17 hb5))
    obtain ⟨W6,hW6,V7,V10,V14,V15,V17,VB,VU⟩:∃W6,(((((((((w5.setCell ⟨G17,0,none⟩ (iV n)).setCell ⟨G17,1,none⟩ (iV fr)).setCell ⟨G17,2,none⟩ (iV til)).setCell ⟨G17,3,none⟩ (iV du)).setCell ⟨G17,4,none⟩ (sZ)).setCell ⟨G17,5,none⟩ (iV tot)).setCell ⟨G17,6,none⟩ (iV C)).setCell ⟨G17,7,none⟩ (iZ)).setCell ⟨G17,8,none⟩ (.bool g))=W6∧Hid (Blk W6 w.heap.size 24 [iV lim,.slice ao ts.length cap,iV cyc,iV dued,iV minf,iV minp,iV start])∧Hid (Blk W6 (w.heap.size+1+1) 35 [.slice a3 L.length q3,iV C,iV D])∧Hid (Blk W6 (w.heap.size+1+1+1) 43 [iZ,iZ,iZ,iZ,sZ,iZ,iZ,iZ,.bool false])∧Hid (Blk W6 (w.heap.size+1+1+1+1) 35 [sZ,iZ,iZ])∧Hid (Blk W6 G17 43 [iV n,iV fr,iV til,iV du,sZ,iV tot,iV C,iZ,.bool g])∧Hid (Below w.heap.size w W6)∧Hid (Sl .i64 W6 (.slice a3 L.length q3) L):= by
     have h4:=HG17.out;have hU:=ZU.out.below HB5.out;have hna:∀b o m q,Value.slice a3 L.length q3=.slice (some ⟨b,o,none⟩) m q→0<m→b≠G17:=fun b o m q e h=>(HA3.out b o m q e h).2.2.2.2.2;exact ⟨_,rfl,(Z7.out.below HB5.out).s9 hn7 _ _ _ _ _ _ _ _ _,(Z10.out.below HB5.out).s9 hn10 _ _ _ _ _ _ _ _ _,(Z14.out.below HB5.out).s9 om _ _ _ _ _ _ _ _ _,(Z15.out.below HB5.out).s9 om _ _ _ _ _ _ _ _ _,(((((((((Z17.out.below HB5.out).set 0 _).set 1 _).set 2 _).set 3 _).set 4 _).set 5 _).set 6 _).set 7 _).set 8 _,yyr (yad ZB.out HB5.out) om _ _ _ _ _ _ _ _ _,((((((((hU.setCell hna _).setCell hna _).setCell hna _).setCell hna _).setCell hna _).setCell hna _).setCell hna _).setCell hna _).setCell hna _⟩
    with_reducible rw [hW6]
    clear hW6 Z7 Z9 Z10 Z14 Z15 Z17 ZB ZU hs0 hsd hs5 HSB HB5 wdu wdu2 hn7 hn9 hn10 hz4 k0 k1 k2 k3 k4 k5 k6 k7 k8 e0 e1 e2 e3 e4 e5 e6 e7 e8;have t0:=V7.out.cell 0;have t1:=V7.out.cell 1;have t2:=V7.out.cell 2;have t3:=V7.out.cell 3;have t4:=V7.out.cell 4;have t5:=V7.out.cell 5;have t6:=V7.out.cell 6;simp only [gz,gs] at t0 t1 t2 t3 t4 t5 t6;have m5:=V17.out.cell 5;simp only [gz,gs] at m5
    go_wp2_with fail
    refine (yt9 _ ts lim cyc dued minf minp start tot mn x HMN _ (HV.out.below VB.out)).mono ?_;rintro _ w7 ⟨rfl,hb7⟩;have U10:=lh (V10.out.below hb7);have U14:=lh (V14.out.below hb7);have U15:=lh (V15.out.below hb7);have U17:=lh (V17.out.below hb7);have UB:=lh (yad VB.out hb7);have UU:=lh (VU.out.below hb7);have m7:=U17.out.cell 7;have g7:=U17.out.frozen 7;have p2:=U10.out.cell 2;have f2:=U10.out.frozen 2;simp only [gz,gs] at m7 p2;clear hb7 V7 V10 V14 V15 V17 VB VU t0 t1 t2 t3 t4 t5 t6 m5;have hn10:(w.heap.size+1+1)≠G17:=by have:=HG17.out;omega
    have hn17:¬G17=(w.heap.size+1+1):=by have:=HG17.out;omega
    go_upto_region 16 with fail
    obtain ⟨W8,hW8,T10,T14,T15,T17,TBB,TU⟩:∃W8,((w7.setCell ⟨G17,7,none⟩ (iV mn)).setCell ⟨(w.heap.size+1+1),2,none⟩ (iV mn))=W8∧Hid (Blk W8 (w.heap.size+1+1) 35 [.slice a3 L.length q3,iV C,iV mn])∧Hid (Blk W8 (w.heap.size+1+1+1) 43 [iZ,iZ,iZ,iZ,sZ,iZ,iZ,iZ,.bool false])∧Hid (Blk W8 (w.heap.size+1+1+1+1) 35 [sZ,iZ,iZ])∧Hid (Blk W8 G17 43 [iV n,iV fr,iV til,iV du,sZ,iV tot,iV C,iV mn,.bool g])∧Hid (Below w.heap.size w W8)∧Hid (Sl .i64 W8 (.slice a3 L.length q3) L):= by
     have h4:=HG17.out;exact ⟨_,rfl,(U10.out.setOther hn10 _ _).set 2 _,(U14.out.setOther om _ _).setOther om _ _,(U15.out.setOther om _ _).setOther om _ _,(U17.out.set 7 _).setOther om _ _,(UB.out.setCell (show w.heap.size≤G17 by omega) _).setCell (show w.heap.size≤(w.heap.size+1+1) by omega) _,(UU.out.setCell (fun b o m q e h=>(HA3.out b o m q e h).2.2.2.2.2) _).setCell (fun b o m q e h=>(HA3.out b o m q e h).2.2.1) _⟩
    with_reducible rw [hW8]
    clear hW8 U10 U14 U15 U17 UB UU m7 g7 p2 f2 hn10 hn17;have p0:=T10.out.cell 0;simp only [List.getElem?_cons_zero] at p0;obtain ⟨j0,hi,hz0,hz1',hz2⟩:=info_parts yv9
    go_wp2_with fail
    have HLE:=lh (show L.length≤1000 by have:=HEQ.out;omega);obtain ⟨B8,hB8⟩:∃B,W8.heap.size=B:=⟨_,rfl⟩
    have HB8:Hid (G17<B8∧w.heap.size<B8):= by
     have h1:=T17.out.lt;have h2:=TBB.out.size;have h3:=T10.out.lt;show _∧_;omega
    have HA8:Hid (∀b o m q,Value.slice a3 L.length q3=.slice (some ⟨b,o,none⟩) m q→0<m→b<B8):= by
     intro b o m q e hm;cases e;obtain ⟨b',o',e1,hc⟩:=TU.out.at (i:=0) hm;cases e1;have:=yac hc;omega
    go_loopg [117] L.length (fun gg i wr=>∃k:Nat,k+gg=L.length∧i=iV k∧(∃u:Value,Blk wr G17 43 [iV n,iV fr,iV til,iV du,u,iV tot,iV C,iV mn,.bool g]∧wr.ownsRow B8 65 3 u k (ycq ((zip3 L ns rs).take k)))∧Hid (Blk wr (w.heap.size+1+1) 35 [.slice a3 L.length q3,iV C,iV mn])∧Hid (Blk wr (w.heap.size+1+1+1) 43 [iZ,iZ,iZ,iZ,sZ,iZ,iZ,iZ,.bool false])∧Hid (Blk wr (w.heap.size+1+1+1+1) 35 [sZ,iZ,iZ])∧B8≤wr.heap.size∧Below w.heap.size w wr∧Hid (Sl .i64 wr (.slice a3 L.length q3) L))
    case atStart =>
     refine ⟨0,by omega,rfl,⟨sZ,T17.out,?_⟩,T10.out,T14.out,T15.out,Nat.le_of_eq hB8.symm,TBB.out,TU.out⟩;exact World.ownsRow_nil _ _ _ _
    case round =>
     obtain ⟨k,hkg,rfl,⟨u,hC,hown⟩,I10,I14,I15,hsz,hb,IU⟩:=hrel;clear p0;cases gk with
     | succ gg =>
      have hlt:(k:Int)<(L.length:Int):=by omega
      obtain ⟨ba,oa,x1,e0,hc1,HX1⟩:=IU.out.get (i:=k) om;have hkn:k<ns.length:=by have:=HEQ.out;omega
      have hkr:k<rs.length:=by have:=HEQ.out;omega
      have hkni:(k:Int)<(ns.length:Int):=by omega
      have hkri:(k:Int)<(rs.length:Int):=by omega
      obtain ⟨bn,on,x2,e1,hcw2,HX2⟩:=HN.out.get (i:=k) hkn;obtain ⟨br,or,x3,e2,hcw3,HX3⟩:=HR.out.get (i:=k) hkr;subst e0 e1 e2;have hc2:wr.cell? ⟨bn,on+k,none⟩=some (iV x2):=(hb.cell (p:=⟨bn,on+k,none⟩) (yac hcw2)).trans hcw2;have hc5:wr.cell? ⟨br,or+k,none⟩=some (iV x3):=(hb.cell (p:=⟨br,or+k,none⟩) (yac hcw3)).trans hcw3;have HCW2:=lh hcw2;have HCW3:=lh hcw3;have e4:wr.cell? ⟨G17,4,none⟩=some u:=hC.cell 4;have hCne:∀q,u.ownBlock=some q→B8≤q:=fun q hq=>(hown.lt q hq).1;have HCNE:=lh hCne
      have HCN17:Hid (∀q,u.ownBlock=some q→q=G17→False):=fun q hq e=>by
       have:=HCNE.out q hq;have:=HB8.out.1;omega
      have hm63:k+1≤maxLen:=by unfold maxLen;have:=HLE.out;omega
      have hbyt:(k+1)*24≤140737488355328:=by have:=HLE.out;omega
      have HB2:=lh hb;have HC2:=lh hC;have HOW:=lh hown;clear hC hb hCne hown hcw2 hcw3;have e4a:∀ob:Obj,(wr.alloc ob).cell? ⟨G17,4,none⟩=some u:=fun ob=>(HC2.out.below (yaa bR ob)).cell 4;have hc2a:∀ob:Obj,(wr.alloc ob).cell? ⟨bn,on+k,none⟩=some (iV x2):=fun ob=>((yaa (Below.refl wr.heap.size wr) ob).cell (p:=⟨bn,on+k,none⟩) (yac hc2)).trans hc2;have hc5a:∀ob:Obj,(wr.alloc ob).cell? ⟨br,or+k,none⟩=some (iV x3):=fun ob=>((yaa (Below.refl wr.heap.size wr) ob).cell (p:=⟨br,or+k,none⟩) (yac hc5)).trans hc5;go_upto_region 19 with fail
      go_region_law
       (refine yfs _ rfl (.tmp 123) (.tmp 134) 41 rfl B8 65 j0 (.agg #[iZ,iZ,iZ]) 3 24 Tryz.underlying41 hi hz0 hz1' hz2 rfl (by decide) u k (ycq ((zip3 L ns rs).take k)) (by rfl) (by first | exact HOW.out.alloc _ | exact (HOW.out.alloc _).drew) (some ⟨wr.heap.size,0,none⟩) 1 1 [iV x1,iV x2,iV x3] (by rfl) rfl (by intro h;cases h) (by intro ad had;cases had;exact jav wr _ _ _ _) (fun x hx=>by simp at hx;rcases hx with rfl | rfl | rfl <;> rfl) hm63 hbyt (by first | (rw [World.size_alloc];exact Nat.le_succ_of_le hsz) | (rw [World.size_drew,World.size_alloc];exact Nat.le_succ_of_le hsz)) ?_;intro v1 w9 hown3 hg3 hn3;clear hn3;obtain ⟨g3,cap3,rfl⟩:=ya5 hown3 (Nat.succ_pos k);have HG3:=lh hg3;have hC3:=ygf (by first | exact HC2.out.below (yaa bR _) | exact HC2.out.below (yaa (yaf bR) _) | exact HC2.out.below (yaf (yaa bR _))) hg3 (fun e=>HCN17.out _ e.symm rfl);have e3:w9.cell? ⟨G17,4,none⟩=some u:=hC3.cell 4;have f3:=hC3.frozen 4;have HC3:=lh hC3;have hb3:Below w.heap.size w w9:=Below.grown (by first | exact yaa HB2.out _ | exact yaa (yaf HB2.out) _ | exact yaf (yaa HB2.out _)) hg3 (by first | (rw [World.size_alloc];exact Nat.le_succ_of_le HB2.out.size) | exact HB2.out.size | (rw [World.size_drew,World.size_alloc];exact Nat.le_succ_of_le HB2.out.size)) (fun q hq=>by have:=HCNE.out q hq;have:=HB8.out.2;omega);have hc3:w9.cell? ⟨bn,on+k,none⟩=some (iV x2):=(hb3.cell (p:=⟨bn,on+k,none⟩) (yac HCW2.out)).trans HCW2.out;have hc4:w9.cell? ⟨br,or+k,none⟩=some (iV x3):=(hb3.cell (p:=⟨br,or+k,none⟩) (yac HCW3.out)).trans HCW3.out;have HB3:=lh hb3;clear hC3 hg3 hb3)
      all_goals
       clear e4a hc2a hc5a e4 hc2 hc5;have hA10:some (w.heap.size+1+1)≠u.ownBlock:=fun e=>by have:=HCNE.out _ e.symm;have:=HB8.out;have:=HG17.out;omega
       have hA14:some (w.heap.size+1+1+1)≠u.ownBlock:=fun e=>by have:=HCNE.out _ e.symm;have:=HB8.out;have:=HG17.out;omega
       have hA15:some (w.heap.size+1+1+1+1)≠u.ownBlock:=fun e=>by have:=HCNE.out _ e.symm;have:=HB8.out;have:=HG17.out;omega
       have N10:=lh (ygf (by first | exact I10.out.below (yaa bR _) | exact I10.out.below (yaa (yaf bR) _) | exact I10.out.below (yaf (yaa bR _))) HG3.out hA10);have N14:=lh (ygf (by first | exact I14.out.below (yaa bR _) | exact I14.out.below (yaa (yaf bR) _) | exact I14.out.below (yaf (yaa bR _))) HG3.out hA14);have N15:=lh (ygf (by first | exact I15.out.below (yaa bR _) | exact I15.out.below (yaa (yaf bR) _) | exact I15.out.below (yaf (yaa bR _))) HG3.out hA15);have NU:=lh (Sl.grownC (by first | exact IU.out.below (yaa bR _) | exact IU.out.below (yaa (yaf bR) _) | exact IU.out.below (yaf (yaa bR _))) HG3.out (fun b o m q e hm e2=>by have:=HCNE.out _ e2.symm;have:=HA8.out b o m q e hm;omega))
       have hszn:B8≤w9.heap.size:= by
        have h:=HG3.out.size;simp only [World.size_alloc,World.size_drew] at h;omega
       have HT3:Hid (w9.ownsRow B8 65 3 (.slice (some ⟨g3,0,none⟩) (k+1) cap3) (k+1) (ycq ((zip3 L ns rs).take (k+1)))):= by
        rw [yuv (show k<L.length by omega),ymr,HX1.out,HX2.out,HX3.out];exact hown3
       clear hown3 hA10 hA14 hA15
       go_wp2_with fail
       go_roundg gg
       case measure=>omega
       case rel =>
        have h17:=HG17.out;exact ⟨k+1,by omega,by go_num,⟨_,HC3.out.set 4 _,ownsRow_setCell_below HT3.out HB8.out.1 _⟩,N10.out.setOther om _ _,N14.out.setOther om _ _,N15.out.setOther om _ _,by rw [World.size_setCell];exact hszn,HB3.out.setCell (show w.heap.size≤G17 by omega) _,NU.out.setCell (fun b o m q e h=>(HA3.out b o m q e h).2.2.2.2.2) _⟩
     | zero =>
      have hk:k=L.length:=by omega
      subst hk;have hlt:¬((L.length:Int)<(L.length:Int)):=by omega
      rw [List.take_of_length_le (by rw [yeh];exact Nat.le_refl _)] at hown;have hln:=LnS.of_own hown (yeh L ns rs);obtain ⟨au,cu,rfl⟩:=hln.shape;have HLN:=lh hln
      have hCne:∀b o m q,Value.slice au (zip3 L ns rs).length cu=.slice (some ⟨b,o,none⟩) m q→0<m→b≠(w.heap.size+1+1+1)∧b≠(w.heap.size+1+1+1+1):=fun b o m q e hm=>by
       cases e;rw [yeh] at hm;rcases hown.2 with ⟨h,_⟩ | ⟨g',cap',cur',h,hb',_⟩
       ·simp only [Value.slice.injEq] at h;cases h.1
       ·exact zq20ef1e
      have HCNE:=lh hCne
      have HCNF:Hid (Fr w (.slice au (zip3 L ns rs).length cu)):=fun b o m q e hm=>by
       cases e;rw [yeh] at hm;rcases hown.2 with ⟨h,_⟩ | ⟨g',cap',cur',h,hb',_⟩
       ·simp only [Value.slice.injEq] at h;cases h.1
       ·exact zq20ef1e
      have hSB:∀W',Blk W' G17 43 [iV n,iV fr,iV til,iV du,.slice au (zip3 L ns rs).length cu,iV tot,iV C,iV mn,.bool g]→Blk W' (w.heap.size+1+1) 35 [.slice a3 L.length q3,iV C,iV mn]→(W'.cell? ⟨G17,0,none⟩=some (iV n)∧W'.cell? ⟨G17,1,none⟩=some (iV fr)∧W'.cell? ⟨G17,2,none⟩=some (iV til)∧W'.cell? ⟨G17,3,none⟩=some (iV du)∧W'.cell? ⟨G17,4,none⟩=some (.slice au (zip3 L ns rs).length cu)∧W'.cell? ⟨G17,5,none⟩=some (iV tot)∧W'.cell? ⟨G17,6,none⟩=some (iV C)∧W'.cell? ⟨G17,7,none⟩=some (iV mn)∧W'.cell? ⟨G17,8,none⟩=some (.bool g))∧(W'.cell? ⟨(w.heap.size+1+1),0,none⟩=some (.slice a3 L.length q3)∧W'.cell? ⟨(w.heap.size+1+1),1,none⟩=some (iV C)∧W'.cell? ⟨(w.heap.size+1+1),2,none⟩=some (iV mn)):=fun W' q r=>⟨⟨q.cell 0,q.cell 1,q.cell 2,q.cell 3,q.cell 4,q.cell 5,q.cell 6,q.cell 7,q.cell 8⟩,r.cell 0,r.cell 1,r.cell 2⟩;have hs0:=hSB wr hC I10.out;have h17:=HG17.out;have c0:=I14.out.cell 0;have c1:=I14.out.cell 1;have c2:=I14.out.cell 2;have c3:=I14.out.cell 3;have c4:=I14.out.cell 4;have c5:=I14.out.cell 5;have c6:=I14.out.cell 6;have c7:=I14.out.cell 7;have c8:=I14.out.cell 8;simp only [gz,gs] at c0 c1 c2 c3 c4 c5 c6 c7 c8;have f0:=I14.out.frozen 0;have f1:=I14.out.frozen 1;have f2:=I14.out.frozen 2;have f3:=I14.out.frozen 3;have f4:=I14.out.frozen 4;have f5:=I14.out.frozen 5;have f6:=I14.out.frozen 6;have f7:=I14.out.frozen 7;have f8:=I14.out.frozen 8;have y0:=I15.out.cell 0;have y1:=I15.out.cell 1;have y2:=I15.out.cell 2;simp only [gz,gs] at y0 y1 y2;have z0:=I15.out.frozen 0;have z1:=I15.out.frozen 1;have z2:=I15.out.frozen 2;have hlt15:=I15.out.lt;have HBF:=lh hb;clear hown hln hCne hC hSB hb;go_upto_region 21 with fail
      obtain ⟨⟨m0,m1,m2,m3,m4,m5,m6,m7,m8⟩,q0,q1,q2⟩:=hs0;have hne1:¬w.heap.size+1+1+1=G17:=by omega
      have hne2:¬w.heap.size+1+1+1+1=G17:=by omega
      have hne3:¬G17=w.heap.size+1+1+1:=by omega
      have hne4:¬G17=w.heap.size+1+1+1+1:=by omega
      clear h17
      go_region
      clear hne1 hne2 hne3 hne4 m0 m1 m2 m3 m4 m5 m6 m7 m8 q0 q1 q2;go_wp2
      simp only [ydu];refine bodyPost_ret (v:=.tuple #[.agg #[iV n,iV fr,iV til,iV du,.slice au (zip3 L ns rs).length cu,iV tot,iV C,iV mn,.bool g],.agg #[.slice a3 L.length q3,iV C,iV mn],iZ]) (by simp [results,Tryz.results141,go_sem,c0,c1,c2,c3,c4,c5,c6,c7,c8,y0,y1,y2]) rfl ⟨.slice au (zip3 L ns rs).length cu,.slice a3 L.length q3,rfl,((HLN.out.s9 (fun b o m q e h=>(HCNE.out b o m q e h).1) _ _ _ _ _ _ _ _ _).s3 (fun b o m q e h=>(HCNE.out b o m q e h).2) _ _ _).below (yaf bR),((IU.out.s9 (fun b o m q e h=>(HA3.out b o m q e h).2.2.2.1) _ _ _ _ _ _ _ _ _).s3 (fun b o m q e h=>(HA3.out b o m q e h).2.2.2.2.1) _ _ _).below (yaf bR),⟨HCNF.out,HA3F.out⟩,(yd5 (yyr HBF.out (show w.heap.size≤(w.heap.size+1+1+1) by omega) _ _ _ _ _ _ _ _ _) om _ _ _).drew⟩
end Go.Proofs.YtkongpjpkpfniaaGreat

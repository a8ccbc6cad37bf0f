/- TopTicks: parts of the proof, made small by a program (mini.py). -/
import Derived.Deep.RegionHeld3
import Derived.Deep.RegionLaw
import Derived.BigQuiet
import Derived.Deep.QuietTactic
import Derived.Laws.Externs
import Derived.Test.YtkongpjpkpfniaaGreatT01
import Derived.Test.YtkongpjpkpfniaaGreatT04
import Derived.Test.YtkongpjpkpfniaaGreatT07
import Derived.Test.YtkongpjpkpfniaaGreatT12
set_option linter.unusedVariables false
set_option linter.unusedSimpArgs false
set_option maxRecDepth 100000
set_option maxHeartbeats 6400000
namespace Go.Proofs.YtkongpjpkpfniaaGreat
open Go.RowKit
theorem zq13ef1e {q:Prop} (h:q:= by
 simp only [Value.slice.injEq,Option.some.injEq,Addr.mk.injEq] at h;have:=h.1.1;have:=HB8.out;have:=HG17.out;omega):q:=h
theorem zq132229 {q:Prop} (h:q:= by
 go_enter Tryz.func184,Tryz.ntmps184
 go_wp2_with fail
 refine (ygt v u bs rs hi lo 0 HE _ HV.out HU.out).mono ?_;rintro _ w1 ⟨rfl,hb1⟩
 go_wp2_with fail
 refine (HEV.out _).mono ?_;rintro _ w2 ⟨rfl,hb2⟩;go_wp2
 go_ret2
 exact ⟨rfl,yad hb1 hb2⟩):q:=h
def zip3 (L ns rs:List Int):List (Int×Int×Int):=(List.range L.length).map fun i=>(L.getD i 0,ns.getD i 0,rs.getD i 0)
def ycq (l:List (Int×Int×Int)):List Value:=l.flatMap fun x=>[iV x.1,iV x.2.1,iV x.2.2]
theorem ymr (a b:List (Int×Int×Int)):ycq (a++b)=ycq a++ycq b:=by simp [ycq]
theorem yh4 (l:List (Int×Int×Int)) (i:Nat) (hi:i<l.length):(ycq l)[i*3]?=some (iV (l.getD i (0,0,0)).1)/\(ycq l)[i*3+1]?=some (iV (l.getD i (0,0,0)).2.1)/\(ycq l)[i*3+2]?=some (iV (l.getD i (0,0,0)).2.2):= by
 induction l generalizing i with
 | nil=>simp at hi
 | cons x l ih =>
  have e:ycq (x::l)=iV x.1::iV x.2.1::iV x.2.2::ycq l:=rfl;rw [e];cases i with
  | zero=>simp
  | succ i =>
   have h:=ih i (by simpa using hi);have e1:(i+1)*3=i*3+1+1+1:=by omega
   rw [e1]
   simpa using h
theorem yhj (l:List (Int×Int×Int)):(ycq l).length=l.length*3:= by
 induction l with
 | nil=>rfl
 | cons x l ih =>
  have e:ycq (x::l)=iV x.1::iV x.2.1::iV x.2.2::ycq l:=rfl;rw [e];simp only [List.length_cons,ih];omega
theorem LnS.of_blk {w:World} {g cap n:Nat} {e:TypeId} {cur:List Value} {ls:List (Int×Int×Int)} (h:Blk w g e cur) (hn:ls.length=n) (hnc:n<=cap) (hcm:cap<=maxLen) (hx:cur.take (n*3)=ycq ls):LnS w (sL g 0 n cap) ls:= by
 subst hn;refine ⟨_,_,rfl,hnc,⟨hcm,fun h=>by cases h⟩,fun _=>⟨g,0,rfl,fun i hi=>?_⟩⟩;obtain ⟨h1,h2,h3⟩:=yh4 ls i hi;have key:∀j,j<ls.length*3->cur[j]?=(ycq ls)[j]?:=fun j hj=>by rw [<-hx];simp [hj]
 rw [h.cell,h.cell,h.cell];refine ⟨?_,?_,?_⟩
 ·rw [Nat.zero_add,key _ om];exact h1
 ·rw [show 0+i*3+1=i*3+1 by omega,key _ om];exact h2
 ·rw [show 0+i*3+2=i*3+2 by omega,key _ om];exact h3
theorem LnS.of_own {w:World} {base:Nat} {e:TypeId} {v:Value} {n:Nat} {ls:List (Int×Int×Int)} (h:w.ownsRow base e 3 v n (ycq ls)) (hn:ls.length=n):LnS w v ls:= by
 rcases h.2 with ⟨rfl,h0⟩ | ⟨g,cap,cur,rfl,hb,hg,hnc,hcm,hcs,htake⟩
 ·obtain rfl:ls=[]:=List.eq_nil_of_length_eq_zero (by have:=yhj ls;omega)
  exact LnS.nil
 ·exact LnS.of_blk (cur:=cur.toList) (by simpa [Blk] using hg) hn hnc hcm (by simpa using htake)
theorem ygf {w w':World} {g:Nat} {r:Option Nat} {e:TypeId} {cur:List Value} (h:Blk w g e cur) (hg:w.grownBy w' r) (hne:some g≠r):Blk w' g e cur:=(hg.block g h.lt hne).trans h
theorem Sl.grownC {k:IntKind} {w w':World} {v:Value} {xs:List Int} {r:Option Nat} (h:Sl k w v xs) (hg:w.grownBy w' r) (hne:∀b o n c,v=sL b o n c->0<n->some b≠r):Sl k w' v xs:= by
 obtain ⟨ao,cap,rfl,h1,h2,h3⟩:=h;refine ⟨ao,cap,rfl,h1,h2,fun hx=>?_⟩;obtain ⟨b,o,rfl,hc⟩:=h3 hx;have hb:=hne b o _ _ rfl (List.length_pos_iff.2 hx);refine ⟨b,o,rfl,fun j hj=>?_⟩;rw [<-hc j hj];exact World.cell?_of_block (w:=w) (a:=(Ad b (o+j))) (hg.block b (yac (hc j hj)) hb)
theorem LnS.shape {w:World} {v:Value} {ls:List (Int×Int×Int)} (h:LnS w v ls):∃ao cap,v=.slice ao ls.length cap:= by
 obtain ⟨ao,cap,rfl,_⟩:=h;exact ⟨ao,cap,rfl⟩
theorem yeh (L ns rs:List Int):(zip3 L ns rs).length=L.length:=by simp [zip3]
theorem LnS.setCell {w:World} {v:Value} {ls:List (Int×Int×Int)} {g i:Nat} (h:LnS w v ls) (hne:∀b o n c,v=sL b o n c->0<n->b≠g) (x:Value):LnS (w.setCell (Ad g i) x) v ls:= by
 obtain ⟨ao,cap,rfl,h1,h2,h3⟩:=h;refine ⟨ao,cap,rfl,h1,h2,fun hx=>?_⟩;obtain ⟨b,o,rfl,hc⟩:=h3 hx;have hb:=hne b o _ _ rfl (List.length_pos_iff.2 hx);have key:∀j,(w.setCell (Ad g i) x).cell? (Ad b j)=w.cell? (Ad b j):=fun j=>World.cell?_of_block (w:=w) (a:=(Ad b j)) (heap_setCell_other w (Ad g i) b x (fun e=>hb e));refine ⟨b,o,rfl,fun j hj=>?_⟩;rw [key,key,key];exact hc j hj
theorem LnS.s9 {w:World} {v:Value} {ls:List (Int×Int×Int)} {g:Nat} (h:LnS w v ls) (hne:∀b o n c,v=sL b o n c->0<n->b≠g) (a b c d e f f' i j:Value):LnS (((((((((w.setCell (Ad g 0) a).setCell (Ad g 1) b).setCell (Ad g 2) c).setCell (Ad g 3) d).setCell (Ad g 4) e).setCell (Ad g 5) f).setCell (Ad g 6) f').setCell (Ad g 7) i).setCell (Ad g 8) j) v ls :=
 ((((((((h.setCell hne _).setCell hne _).setCell hne _).setCell hne _).setCell hne _).setCell hne _).setCell hne _).setCell hne _).setCell hne _
theorem Sl.s9 {k:IntKind} {w:World} {v:Value} {ls:List Int} {g:Nat} (h:Sl k w v ls) (hne:∀b o n c,v=sL b o n c->0<n->b≠g) (a b c d e f f' i j:Value):Sl k (((((((((w.setCell (Ad g 0) a).setCell (Ad g 1) b).setCell (Ad g 2) c).setCell (Ad g 3) d).setCell (Ad g 4) e).setCell (Ad g 5) f).setCell (Ad g 6) f').setCell (Ad g 7) i).setCell (Ad g 8) j) v ls :=
 ((((((((h.setCell hne _).setCell hne _).setCell hne _).setCell hne _).setCell hne _).setCell hne _).setCell hne _).setCell hne _).setCell hne _
theorem LnS.s3 {w:World} {v:Value} {ls:List (Int×Int×Int)} {g:Nat} (h:LnS w v ls) (hne:∀b o n c,v=sL b o n c->0<n->b≠g) (a b c:Value):LnS (((w.setCell (Ad g 0) a).setCell (Ad g 1) b).setCell (Ad g 2) c) v ls:=((h.setCell hne _).setCell hne _).setCell hne _
theorem Sl.s3 {k:IntKind} {w:World} {v:Value} {ls:List Int} {g:Nat} (h:Sl k w v ls) (hne:∀b o n c,v=sL b o n c->0<n->b≠g) (a b c:Value):Sl k (((w.setCell (Ad g 0) a).setCell (Ad g 1) b).setCell (Ad g 2) c) v ls:=((h.setCell hne _).setCell hne _).setCell hne _
theorem jav (w:World) (a b c:Value) (t:TypeId):∀j u,[a,b,c][j]?=some u->(w.alloc (.cells #[a,b,c] t)).cell? (((Ad w.heap.size 0):Addr).add j)=some u:= by
 intro j u hu;have h:Blk (w.alloc (.cells #[a,b,c] t)) w.heap.size t [a,b,c]:=heap_alloc_new w _;rw [Addr.add_lit,h.cell,Nat.zero_add];exact hu
theorem yv9:(Tryz.prog.info? 65).map (fun i=>(i.zero,i.size,i.bytes))=some (some (.agg #[iZ,iZ,iZ]),3,24):=by kernel_rfl
theorem yuv {L ns rs:List Int} {k:Nat} (hk:k<L.length):(zip3 L ns rs).take (k+1)=(zip3 L ns rs).take k++[(L.getD k 0,ns.getD k 0,rs.getD k 0)]:= by
 have hl:(zip3 L ns rs).length=L.length:=by simp [zip3]
 rw [List.take_succ_eq_append_getElem om]
 congr 2
 simp [zip3]
theorem ytm (v:Value) (ts:List (Int×Bool)) (lim cyc dued minf minp start n fr til:Int) (bv:Value) (bs:List Int) (c d:Int) (rv:Value) (rs:List Int) (nv:Value) (ns:List Int) (g:Bool) (HLT:ts.length<=1000) (hrt:yaw lim ts cyc dued minf minp start=true) (ha:yix ts.length n fr til bs.length rs.length=true) (hra:rs.any ybg=false) (L:List Int) (C D:Int) (HBS:Hid (ye7 bs c d ns=(L,C,D,0))) (hLl:L.length=bs.length) (hnl:ns.length=bs.length) (tot:Int) (HTOT:Hid (yb4 L C D=tot)) (mn x:Int) (HMN:Hid (ygx (yaw lim ts cyc dued minf minp start) minf minp tot=(mn,x))) (du:Int) (hdu:til+dued=du) (hdur:-9000000000<=du/\du<=9000000000) (w:World) (hv:TrS w v ts) (hb:Sl .i64 w bv bs) (hr:Sl .i64 w rv rs) (hn:Sl .i64 w nv ns) :
 Calls Tryz.prog 141 #[.agg #[iV lim,v,iV cyc,iV dued,iV minf,iV minp,iV start],iV n,.agg #[iV fr,iV til],.agg #[bv,iV c,iV d],rv,nv,.bool g] w (yfu n fr til du (zip3 L ns rs) tot C mn g L C mn 0 w):= by
 have HV:=lh hv;have HB:=lh hb;have HR:=lh hr;have HN:=lh hn;obtain ⟨ao,cap,rfl,h1,⟨h2,hnn⟩,h3⟩:=hv;clear h3 hnn;obtain ⟨b0,bc,rfl,g1,⟨g2,hnn⟩,h3⟩:=hb;clear h3 hnn;obtain ⟨r0,rc,rfl,i1,⟨i2,hnn⟩,h3⟩:=hr;clear h3 hnn;obtain ⟨n0,nc,rfl,j1,⟨j2,hnn⟩,h3⟩:=hn;clear h3 hnn;unfold maxLen at h2 g2 i2 j2;obtain ⟨ha1,ha2,hd,hd2,hlt,heq,heq2⟩:=ygh.1 ha;have hA:¬n<1:=by omega
 have hB:¬300<n:=by omega
 have hC:¬til<fr:=by omega
 have d1:((bs.length:Int) != (ts.length:Int))=false:=by simp;omega
 have d2:((rs.length:Int) != (ts.length:Int))=false:=by simp;omega
 have HD1:=lh hd;have HD2:=lh hd2;have HEQ:=lh (And.intro heq (And.intro heq2 (And.intro hLl (And.intro hnl HLT))));have HRT:Hid ((if yaw lim ts cyc dued minf minp start=true then 0 else 6)=(0:Int)):=by show _=_;rw [hrt];rfl
 have wdu:wrap64 (til+dued)=du:=by rw [hdu];exact IntWalk.wrap64_in _ ⟨by omega,by omega⟩
 have wdu2:IntKind.i64.wrap (til+dued)=du:=by rw [hdu];exact IntWalk.i64_in _ ⟨by omega,by omega⟩
 have WDU:=lh (And.intro wdu wdu2);have HRA:=lh hra;clear hd hd2 ha heq heq2 hlt ha1 ha2 hrt hra hLl hnl hdu wdu wdu2 hdur
 go_enter Tryz.func141,Tryz.ntmps141
 go_wp2_with fail
 obtain ⟨W,hW,S7,S9,S10,S14,S15,SB,SZ⟩:=yjz w lim cyc dued minf minp start fr til c d (.slice ao ts.length cap) (.slice b0 bs.length bc)
 with_reducible rw [hW]
 clear hW;refine yd1 (fun _ _ _=>False) ?first ?pass
 case pass=>intro l a1 w1 hJ;exact hJ.elim
 case first =>
  have hwt:∃W1,W.alloc (.cells #[iZ,iZ,iZ,iZ,sZ,iZ,iZ,iZ,.bool false] 43)=W1/\Hid (Blk W1 w.heap.size 24 [iV lim,.slice ao ts.length cap,iV cyc,iV dued,iV minf,iV minp,iV start])/\Hid (Blk W1 (w.heap.size+1) 40 [iV fr,iV til])/\Hid (Blk W1 (w.heap.size+1+1) 35 [.slice b0 bs.length bc,iV c,iV d])/\Hid (Blk W1 (w.heap.size+1+1+1) 43 [iZ,iZ,iZ,iZ,sZ,iZ,iZ,iZ,.bool false])/\Hid (Blk W1 (w.heap.size+1+1+1+1) 35 [sZ,iZ,iZ])/\Hid (Blk W1 W.heap.size 43 [iZ,iZ,iZ,iZ,sZ,iZ,iZ,iZ,.bool false])/\Hid (BW w W1) :=
   ⟨_,rfl,S7.out.below (yaa bR _),S9.out.below (yaa bR _),S10.out.below (yaa bR _),S14.out.below (yaa bR _),S15.out.below (yaa bR _),heap_alloc_new W _,yaa SB.out _⟩
  obtain ⟨G17,hG⟩:∃G,W.heap.size=G:=⟨_,rfl⟩;have HG17:Hid (G17=w.heap.size+5):=by show _=_;rw [<-hG];exact SZ.out
  go_upto_region 2 with fail
  obtain ⟨W1,hW1,R7,R9,R10,R14,R15,R17,RB⟩:=hwt
  with_reducible rw [hW1]
  rw [hG] at R17;clear hW1 S7 S9 S10 S14 S15 SB SZ hG;have HVW:=lh (HV.out.below RB.out);obtain ⟨t0,t1,t2,t3,t4,t5,t6,-⟩:=R7.out.cs [0,1,2,3,4,5,6];simp only [gz,gs] at t0 t1 t2 t3 t4 t5 t6
  go_wp2_with fail
  refine (yar _ ts lim cyc dued minf minp start _ HRT _ HVW.out).mono ?_;rintro _ w2 ⟨rfl,hb2⟩;have X7:=lh (R7.out.below hb2);have X9:=lh (R9.out.below hb2);have X10:=lh (R10.out.below hb2);have X14:=lh (R14.out.below hb2);have X15:=lh (R15.out.below hb2);have X17:=lh (R17.out.below hb2);have XB:=lh (yad RB.out hb2);clear hb2 t0 t1 t2 t3 t4 t5 t6 R7 R9 R10 R14 R15 R17 RB HVW HRT;go_upto_region 5 with fail
  have q9:=X9.out;obtain ⟨s0,s1,-⟩:=q9.cs [0,1];have q7:=X7.out;have t1:=q7.cell 1;have q10:=X10.out;have p0:=q10.cell 0;simp only [gz,gs] at s0 s1 t1 p0;clear q9 q7 q10;go_upto_region 6 with (first | (go_at_call 185;refine (yrc _ _ (by first | exact HD1.out | exact HD2.out) _).mono ?_;rintro _ _ ⟨rfl,rfl⟩))
  clear hA hB hC d1 d2 s0 s1 t1 p0;have HRW:=lh (HR.out.below XB.out)
  go_wp2_with fail
  go_loopg [71] rs.length (fun g i wr=>∃k:Nat,k+g=rs.length/\i=iV k/\w2=wr)
  case atStart=>exact ⟨0,by omega,rfl,rfl⟩
  case round =>
   obtain ⟨k,hkg,rfl,rfl⟩:=hrel;cases gk with
   | succ g =>
    have hlt:(k:Int)<(rs.length:Int):=by omega
    obtain ⟨b',o',y,rfl,hcell,HX⟩:=HRW.out.get (i:=k) om;have hx:=ywy HRA.out (k:=k) om;rw [HX.out] at hx;obtain ⟨hx1,hx2⟩:=hx;have hx3:¬y<0:=by omega
    have hx4:¬10000000<y:=by omega
    go_wp2_with fail
    go_roundg g
    case measure=>omega
    case rel=>exact ⟨k+1,by omega,by go_num,rfl⟩
   | zero =>
    have hlt:¬((k:Int)<(rs.length:Int)):=by omega
    have q10:=X10.out;obtain ⟨p0,p1,p2,-⟩:=q10.cs [0,1,2];simp only [gz,gs] at p0 p1 p2;clear q10
    go_wp2_with fail
    refine (yhg _ _ bs ns c d _ HBS (by have:=HEQ.out;omega) _ (HB.out.below XB.out) (HN.out.below XB.out)).mono ?_;rintro _ w3 ⟨u3,rfl,⟨hul,huf⟩,hb3⟩;simp only at hul ⊢;obtain ⟨a3,q3,rfl⟩:=hul.shape;have HZ2:=lh X17.out.lt;have HUL:=lh hul;have HUF:=lh huf;have Y7:=lh (X7.out.below hb3);have Y9:=lh (X9.out.below hb3);have Y14:=lh (X14.out.below hb3);have Y15:=lh (X15.out.below hb3);have Y17:=lh (X17.out.below hb3);have YB:=lh (yad XB.out hb3);have Y10:=lh (X10.out.below hb3);have qy:=Y10.out;clear p0 p1 p2;obtain ⟨p0,p1,p2,-⟩:=qy.cs [0,1,2];simp only [gz,gs] at p0 p1 p2;obtain ⟨f0,f1,f2,-⟩:=qy.fs [0,1,2];clear qy hul huf hb3 X7 X9 X10 X14 X15 X17 XB HRW hlt;go_upto_region 13 with fail
    have ha3:∀b o m q,Value.slice a3 L.length q3=sL b o m q->0<m->b≠w.heap.size/\b≠(w.heap.size+1)/\b≠(w.heap.size+1+1)/\b≠(w.heap.size+1+1+1)/\b≠(w.heap.size+1+1+1+1)/\b≠G17:=fun b o m q e hm=>by
     have:=HUF.out b o m q e hm;have h4:=HG17.out;have h5:=HZ2.out;omega
    have HA3:=lh ha3
    have HA3F:Hid (Fr w (.slice a3 L.length q3)):=fun b o m q e hm=>by
     have:=HUF.out b o m q e hm;have h4:=HG17.out;have h5:=HZ2.out;omega
    obtain ⟨W4,hW4,Z7,Z9,Z10,Z14,Z15,Z17,ZB,ZU⟩:∃W4,(((w3.setCell (Ad (w.heap.size+1+1) 0) (.slice a3 L.length q3)).setCell (Ad (w.heap.size+1+1) 1) (iV C)).setCell (Ad (w.heap.size+1+1) 2) (iV D))=W4/\Hid (Blk W4 w.heap.size 24 [iV lim,.slice ao ts.length cap,iV cyc,iV dued,iV minf,iV minp,iV start])/\Hid (Blk W4 (w.heap.size+1) 40 [iV fr,iV til])/\Hid (Blk W4 (w.heap.size+1+1) 35 [.slice a3 L.length q3,iV C,iV D])/\Hid (Blk W4 (w.heap.size+1+1+1) 43 [iZ,iZ,iZ,iZ,sZ,iZ,iZ,iZ,.bool false])/\Hid (Blk W4 (w.heap.size+1+1+1+1) 35 [sZ,iZ,iZ])/\Hid (Blk W4 G17 43 [iZ,iZ,iZ,iZ,sZ,iZ,iZ,iZ,.bool false])/\Hid (BW w W4)/\Hid (Sl .i64 W4 (.slice a3 L.length q3) L):= by
     have h4:=HG17.out;exact ⟨_,rfl,((Y7.out.setOther om _ _).setOther om _ _).setOther om _ _,((Y9.out.setOther om _ _).setOther om _ _).setOther om _ _,((Y10.out.set 0 _).set 1 _).set 2 _,((Y14.out.setOther om _ _).setOther om _ _).setOther om _ _,((Y15.out.setOther om _ _).setOther om _ _).setOther om _ _,((Y17.out.setOther om _ _).setOther om _ _).setOther om _ _,yd5 YB.out om _ _ _,((HUL.out.setCell (fun b o m q e h=>(HA3.out b o m q e h).2.2.1) _).setCell (fun b o m q e h=>(HA3.out b o m q e h).2.2.1) _).setCell (fun b o m q e h=>(HA3.out b o m q e h).2.2.1) _⟩
    with_reducible rw [hW4]
    clear hW4 ha3 Y7 Y9 Y10 Y14 Y15 Y17 YB HUL HUF p0 p1 p2 f0 f1 f2;have hz4:=Z17.out.lt
    have hSB:∀W',Blk W' w.heap.size 24 [iV lim,.slice ao ts.length cap,iV cyc,iV dued,iV minf,iV minp,iV start]->Blk W' (w.heap.size+1) 40 [iV fr,iV til]->Blk W' (w.heap.size+1+1) 35 [.slice a3 L.length q3,iV C,iV D]->(Ce W' (w.heap.size+1) 0 (iV fr)/\Ce W' (w.heap.size+1) 1 (iV til))/\Ce W' w.heap.size 3 (iV dued)/\(Ce W' (w.heap.size+1+1) 0 (.slice a3 L.length q3)/\Ce W' (w.heap.size+1+1) 1 (iV C)/\Ce W' (w.heap.size+1+1) 2 (iV D)):=fun W' q7 q9 q10 =>
     ⟨⟨q9.cell 0,q9.cell 1⟩,q7.cell 3,q10.cell 0,q10.cell 1,q10.cell 2⟩
    have HSB:=lh hSB;have hs0:=hSB W4 Z7.out Z9.out Z10.out;have hsd:=hSB W4.drew Z7.out Z9.out Z10.out;clear hSB;have hn7:w.heap.size≠G17:=by have:=HG17.out;omega
    have hn9:(w.heap.size+1)≠G17:=by have:=HG17.out;omega
    have hn10:(w.heap.size+1+1)≠G17:=by have:=HG17.out;omega
    obtain ⟨wdu,wdu2⟩:=WDU.out
    go_region_held3 (fun W'=>(Ce W' (w.heap.size+1) 0 (iV fr)/\Ce W' (w.heap.size+1) 1 (iV til))/\Ce W' w.heap.size 3 (iV dued)/\(Ce W' (w.heap.size+1+1) 0 (.slice a3 L.length q3)/\Ce W' (w.heap.size+1+1) 1 (iV C)/\Ce W' (w.heap.size+1+1) 2 (iV D))) (first | with_reducible assumption | with_reducible exact hs0 | with_reducible exact hsd | with_reducible exact hs5 | with_reducible exact HSB.out _ ((Z7.out.below HB5.out).s9 hn7 _ _ _ _ _ _ _ _ _) ((Z9.out.below HB5.out).s9 hn9 _ _ _ _ _ _ _ _ _) ((Z10.out.below HB5.out).s9 hn10 _ _ _ _ _ _ _ _ _)) (first | (go_at_call 111;refine (yhv _ L C D tot HTOT (by have:=HEQ.out;omega) _ (ZU.out.below (by first | exact bR | exact yaf bR))).mono ?_;rintro _ w5 ⟨rfl,hb5⟩;have HB5:Hid (BW W4 w5):=(by first | exact hb5 | exact yad (yaf bR) hb5);have hs5:=HSB.out w5 (Z7.out.below HB5.out) (Z9.out.below HB5.out) (Z10.out.below HB5.out);have q17:=Z17.out.below HB5.out;have k0:=q17.cell 0;have k1:=q17.cell 1;have k2:=q17.cell 2;have k3:=q17.cell 3;have k4:=q17.cell 4;have k5:=q17.cell 5;have k6:=q17.cell 6;have k7:=q17.cell 7;have k8:=q17.cell 8;simp only [gz,gs] at k0 k1 k2 k3 k4 k5 k6 k7 k8;have e0:=q17.frozen 0;have e1:=q17.frozen 1;have e2:=q17.frozen 2;have e3:=q17.frozen 3;have e4:=q17.frozen 4;have e5:=q17.frozen 5;have e6:=q17.frozen 6;have e7:=q17.frozen 7;have e8:=q17.frozen 8;clear q17 hb5))
    obtain ⟨W6,hW6,V7,V10,V14,V15,V17,VB,VU⟩:∃W6,(((((((((w5.setCell (Ad G17 0) (iV n)).setCell (Ad G17 1) (iV fr)).setCell (Ad G17 2) (iV til)).setCell (Ad G17 3) (iV du)).setCell (Ad G17 4) (sZ)).setCell (Ad G17 5) (iV tot)).setCell (Ad G17 6) (iV C)).setCell (Ad G17 7) (iZ)).setCell (Ad G17 8) (.bool g))=W6/\Hid (Blk W6 w.heap.size 24 [iV lim,.slice ao ts.length cap,iV cyc,iV dued,iV minf,iV minp,iV start])/\Hid (Blk W6 (w.heap.size+1+1) 35 [.slice a3 L.length q3,iV C,iV D])/\Hid (Blk W6 (w.heap.size+1+1+1) 43 [iZ,iZ,iZ,iZ,sZ,iZ,iZ,iZ,.bool false])/\Hid (Blk W6 (w.heap.size+1+1+1+1) 35 [sZ,iZ,iZ])/\Hid (Blk W6 G17 43 [iV n,iV fr,iV til,iV du,sZ,iV tot,iV C,iZ,.bool g])/\Hid (BW w W6)/\Hid (Sl .i64 W6 (.slice a3 L.length q3) L):= by
     have h4:=HG17.out;have hU:=ZU.out.below HB5.out;have hna:∀b o m q,Value.slice a3 L.length q3=sL b o m q->0<m->b≠G17:=fun b o m q e h=>(HA3.out b o m q e h).2.2.2.2.2;exact ⟨_,rfl,(Z7.out.below HB5.out).s9 hn7 _ _ _ _ _ _ _ _ _,(Z10.out.below HB5.out).s9 hn10 _ _ _ _ _ _ _ _ _,(Z14.out.below HB5.out).s9 om _ _ _ _ _ _ _ _ _,(Z15.out.below HB5.out).s9 om _ _ _ _ _ _ _ _ _,(((((((((Z17.out.below HB5.out).set 0 _).set 1 _).set 2 _).set 3 _).set 4 _).set 5 _).set 6 _).set 7 _).set 8 _,yyr (yad ZB.out HB5.out) om _ _ _ _ _ _ _ _ _,((((((((hU.setCell hna _).setCell hna _).setCell hna _).setCell hna _).setCell hna _).setCell hna _).setCell hna _).setCell hna _).setCell hna _⟩
    with_reducible rw [hW6]
    clear hW6 Z7 Z9 Z10 Z14 Z15 Z17 ZB ZU hs0 hsd hs5 HSB HB5 wdu wdu2 hn7 hn9 hn10 hz4 k0 k1 k2 k3 k4 k5 k6 k7 k8 e0 e1 e2 e3 e4 e5 e6 e7 e8;obtain ⟨t0,t1,t2,t3,t4,t5,t6,-⟩:=V7.out.cs [0,1,2,3,4,5,6];simp only [gz,gs] at t0 t1 t2 t3 t4 t5 t6;have m5:=V17.out.cell 5;simp only [gz,gs] at m5
    go_wp2_with fail
    refine (yt9 _ ts lim cyc dued minf minp start tot mn x HMN _ (HV.out.below VB.out)).mono ?_;rintro _ w7 ⟨rfl,hb7⟩;have U10:=lh (V10.out.below hb7);have U14:=lh (V14.out.below hb7);have U15:=lh (V15.out.below hb7);have U17:=lh (V17.out.below hb7);have UB:=lh (yad VB.out hb7);have UU:=lh (VU.out.below hb7);have m7:=U17.out.cell 7;have g7:=U17.out.frozen 7;have p2:=U10.out.cell 2;have f2:=U10.out.frozen 2;simp only [gz,gs] at m7 p2;clear hb7 V7 V10 V14 V15 V17 VB VU t0 t1 t2 t3 t4 t5 t6 m5;have hn10:(w.heap.size+1+1)≠G17:=by have:=HG17.out;omega
    have hn17:¬G17=(w.heap.size+1+1):=by have:=HG17.out;omega
    go_upto_region 16 with fail
    obtain ⟨W8,hW8,T10,T14,T15,T17,TBB,TU⟩:∃W8,((w7.setCell (Ad G17 7) (iV mn)).setCell (Ad (w.heap.size+1+1) 2) (iV mn))=W8/\Hid (Blk W8 (w.heap.size+1+1) 35 [.slice a3 L.length q3,iV C,iV mn])/\Hid (Blk W8 (w.heap.size+1+1+1) 43 [iZ,iZ,iZ,iZ,sZ,iZ,iZ,iZ,.bool false])/\Hid (Blk W8 (w.heap.size+1+1+1+1) 35 [sZ,iZ,iZ])/\Hid (Blk W8 G17 43 [iV n,iV fr,iV til,iV du,sZ,iV tot,iV C,iV mn,.bool g])/\Hid (BW w W8)/\Hid (Sl .i64 W8 (.slice a3 L.length q3) L):= by
     have h4:=HG17.out;exact ⟨_,rfl,(U10.out.setOther hn10 _ _).set 2 _,(U14.out.setOther om _ _).setOther om _ _,(U15.out.setOther om _ _).setOther om _ _,(U17.out.set 7 _).setOther om _ _,(UB.out.setCell (show w.heap.size<=G17 by omega) _).setCell (show w.heap.size<=(w.heap.size+1+1) by omega) _,(UU.out.setCell (fun b o m q e h=>(HA3.out b o m q e h).2.2.2.2.2) _).setCell (fun b o m q e h=>(HA3.out b o m q e h).2.2.1) _⟩
    with_reducible rw [hW8]
    clear hW8 U10 U14 U15 U17 UB UU m7 g7 p2 f2 hn10 hn17;have p0:=T10.out.cell 0;simp only [List.getElem?_cons_zero] at p0;obtain ⟨j0,hi,hz0,hz1',hz2⟩:=info_parts yv9
    go_wp2_with fail
    have HLE:=lh (show L.length<=1000 by have:=HEQ.out;omega);obtain ⟨B8,hB8⟩:∃B,W8.heap.size=B:=⟨_,rfl⟩
    have HB8:Hid (G17<B8/\w.heap.size<B8):= by
     have h1:=T17.out.lt;have h2:=TBB.out.size;have h3:=T10.out.lt;show _/\_;omega
    have HA8:Hid (∀b o m q,Value.slice a3 L.length q3=sL b o m q->0<m->b<B8):= by
     intro b o m q e hm;cases e;obtain ⟨b',o',e1,hc⟩:=TU.out.at (i:=0) hm;cases e1;have:=yac hc;omega
    go_loopg [117] L.length (fun gg i wr=>∃k:Nat,k+gg=L.length/\i=iV k/\(∃u:Value,Blk wr G17 43 [iV n,iV fr,iV til,iV du,u,iV tot,iV C,iV mn,.bool g]/\wr.ownsRow B8 65 3 u k (ycq ((zip3 L ns rs).take k)))/\Hid (Blk wr (w.heap.size+1+1) 35 [.slice a3 L.length q3,iV C,iV mn])/\Hid (Blk wr (w.heap.size+1+1+1) 43 [iZ,iZ,iZ,iZ,sZ,iZ,iZ,iZ,.bool false])/\Hid (Blk wr (w.heap.size+1+1+1+1) 35 [sZ,iZ,iZ])/\B8<=wr.heap.size/\BW w wr/\Hid (Sl .i64 wr (.slice a3 L.length q3) L))
    case atStart =>
     refine ⟨0,by omega,rfl,⟨sZ,T17.out,?_⟩,T10.out,T14.out,T15.out,Nat.le_of_eq hB8.symm,TBB.out,TU.out⟩;exact World.ownsRow_nil _ _ _ _
    case round =>
     obtain ⟨k,hkg,rfl,⟨u,hC,hown⟩,I10,I14,I15,hsz,hb,IU⟩:=hrel;clear p0;cases gk with
     | succ gg =>
      have hlt:(k:Int)<(L.length:Int):=by omega
      obtain ⟨ba,oa,x1,e0,hc1,HX1⟩:=IU.out.get (i:=k) om;have hkn:k<ns.length:=by have:=HEQ.out;omega
      have hkr:k<rs.length:=by have:=HEQ.out;omega
      have hkni:(k:Int)<(ns.length:Int):=by omega
      have hkri:(k:Int)<(rs.length:Int):=by omega
      obtain ⟨bn,on,x2,e1,hcw2,HX2⟩:=HN.out.get (i:=k) hkn;obtain ⟨br,or,x3,e2,hcw3,HX3⟩:=HR.out.get (i:=k) hkr;subst e0 e1 e2;have hc2:wr.cell? (Ad bn (on+k))=some (iV x2):=(hb.cell (p:=(Ad bn (on+k))) (yac hcw2)).trans hcw2;have hc5:wr.cell? (Ad br (or+k))=some (iV x3):=(hb.cell (p:=(Ad br (or+k))) (yac hcw3)).trans hcw3;have HCW2:=lh hcw2;have HCW3:=lh hcw3;have e4:wr.cell? (Ad G17 4)=some u:=hC.cell 4;have hCne:∀q,u.ownBlock=some q->B8<=q:=fun q hq=>(hown.lt q hq).1;have HCNE:=lh hCne
      have HCN17:Hid (∀q,u.ownBlock=some q->q=G17->False):=fun q hq e=>by
       have:=HCNE.out q hq;have:=HB8.out.1;omega
      have hm63:k+1<=maxLen:=by unfold maxLen;have:=HLE.out;omega
      have hbyt:(k+1)*24<=140737488355328:=by have:=HLE.out;omega
      have HB2:=lh hb;have HC2:=lh hC;have HOW:=lh hown;clear hC hb hCne hown hcw2 hcw3;have e4a:∀ob:Obj,(wr.alloc ob).cell? (Ad G17 4)=some u:=fun ob=>(HC2.out.below (yaa bR ob)).cell 4;have hc2a:∀ob:Obj,(wr.alloc ob).cell? (Ad bn (on+k))=some (iV x2):=fun ob=>((yaa (Below.refl wr.heap.size wr) ob).cell (p:=(Ad bn (on+k))) (yac hc2)).trans hc2;have hc5a:∀ob:Obj,(wr.alloc ob).cell? (Ad br (or+k))=some (iV x3):=fun ob=>((yaa (Below.refl wr.heap.size wr) ob).cell (p:=(Ad br (or+k))) (yac hc5)).trans hc5;go_upto_region 19 with fail
      go_region_law
       (refine yfs _ rfl (.tmp 123) (.tmp 134) 41 rfl B8 65 j0 (.agg #[iZ,iZ,iZ]) 3 24 Tryz.underlying41 hi hz0 hz1' hz2 rfl (by decide) u k (ycq ((zip3 L ns rs).take k)) (by rfl) (by first | exact HOW.out.alloc _ | exact (HOW.out.alloc _).drew) (some (Ad wr.heap.size 0)) 1 1 [iV x1,iV x2,iV x3] (by rfl) rfl (by intro h;cases h) (by intro ad had;cases had;exact jav wr _ _ _ _) (fun x hx=>by simp at hx;rcases hx with rfl | rfl | rfl <;> rfl) hm63 hbyt (by first | (rw [World.size_alloc];exact Nat.le_succ_of_le hsz) | (rw [World.size_drew,World.size_alloc];exact Nat.le_succ_of_le hsz)) ?_;intro v1 w9 hown3 hg3 hn3;clear hn3;obtain ⟨g3,cap3,rfl⟩:=ya5 hown3 (Nat.succ_pos k);have HG3:=lh hg3;have hC3:=ygf (by first | exact HC2.out.below (yaa bR _) | exact HC2.out.below (yaa (yaf bR) _) | exact HC2.out.below (yaf (yaa bR _))) hg3 (fun e=>HCN17.out _ e.symm rfl);have e3:w9.cell? (Ad G17 4)=some u:=hC3.cell 4;have f3:=hC3.frozen 4;have HC3:=lh hC3;have hb3:BW w w9:=Below.grown (by first | exact yaa HB2.out _ | exact yaa (yaf HB2.out) _ | exact yaf (yaa HB2.out _)) hg3 (by first | (rw [World.size_alloc];exact Nat.le_succ_of_le HB2.out.size) | exact HB2.out.size | (rw [World.size_drew,World.size_alloc];exact Nat.le_succ_of_le HB2.out.size)) (fun q hq=>by have:=HCNE.out q hq;have:=HB8.out.2;omega);have hc3:w9.cell? (Ad bn (on+k))=some (iV x2):=(hb3.cell (p:=(Ad bn (on+k))) (yac HCW2.out)).trans HCW2.out;have hc4:w9.cell? (Ad br (or+k))=some (iV x3):=(hb3.cell (p:=(Ad br (or+k))) (yac HCW3.out)).trans HCW3.out;have HB3:=lh hb3;clear hC3 hg3 hb3)
      all_goals
       clear e4a hc2a hc5a e4 hc2 hc5;have hA10:some (w.heap.size+1+1)≠u.ownBlock:=fun e=>by have:=HCNE.out _ e.symm;have:=HB8.out;have:=HG17.out;omega
       have hA14:some (w.heap.size+1+1+1)≠u.ownBlock:=fun e=>by have:=HCNE.out _ e.symm;have:=HB8.out;have:=HG17.out;omega
       have hA15:some (w.heap.size+1+1+1+1)≠u.ownBlock:=fun e=>by have:=HCNE.out _ e.symm;have:=HB8.out;have:=HG17.out;omega
       have N10:=lh (ygf (by first | exact I10.out.below (yaa bR _) | exact I10.out.below (yaa (yaf bR) _) | exact I10.out.below (yaf (yaa bR _))) HG3.out hA10);have N14:=lh (ygf (by first | exact I14.out.below (yaa bR _) | exact I14.out.below (yaa (yaf bR) _) | exact I14.out.below (yaf (yaa bR _))) HG3.out hA14);have N15:=lh (ygf (by first | exact I15.out.below (yaa bR _) | exact I15.out.below (yaa (yaf bR) _) | exact I15.out.below (yaf (yaa bR _))) HG3.out hA15);have NU:=lh (Sl.grownC (by first | exact IU.out.below (yaa bR _) | exact IU.out.below (yaa (yaf bR) _) | exact IU.out.below (yaf (yaa bR _))) HG3.out (fun b o m q e hm e2=>by have:=HCNE.out _ e2.symm;have:=HA8.out b o m q e hm;omega))
       have hszn:B8<=w9.heap.size:= by
        have h:=HG3.out.size;simp only [World.size_alloc,World.size_drew] at h;omega
       have HT3:Hid (w9.ownsRow B8 65 3 (sL g3 0 (k+1) cap3) (k+1) (ycq ((zip3 L ns rs).take (k+1)))):= by
        rw [yuv (show k<L.length by omega),ymr,HX1.out,HX2.out,HX3.out];exact hown3
       clear hown3 hA10 hA14 hA15
       go_wp2_with fail
       go_roundg gg
       case measure=>omega
       case rel =>
        have h17:=HG17.out;exact ⟨k+1,by omega,by go_num,⟨_,HC3.out.set 4 _,ownsRow_setCell_below HT3.out HB8.out.1 _⟩,N10.out.setOther om _ _,N14.out.setOther om _ _,N15.out.setOther om _ _,by rw [World.size_setCell];exact hszn,HB3.out.setCell (show w.heap.size<=G17 by omega) _,NU.out.setCell (fun b o m q e h=>(HA3.out b o m q e h).2.2.2.2.2) _⟩
     | zero =>
      have hk:k=L.length:=by omega
      subst hk;have hlt:¬((L.length:Int)<(L.length:Int)):=by omega
      rw [List.take_of_length_le (by rw [yeh];exact Nat.le_refl _)] at hown;have hln:=LnS.of_own hown (yeh L ns rs);obtain ⟨au,cu,rfl⟩:=hln.shape;have HLN:=lh hln
      have hCne:∀b o m q,Value.slice au (zip3 L ns rs).length cu=sL b o m q->0<m->b≠(w.heap.size+1+1+1)/\b≠(w.heap.size+1+1+1+1):=fun b o m q e hm=>by
       cases e;rw [yeh] at hm;rcases hown.2 with ⟨h,_⟩ | ⟨g',cap',cur',h,hb',_⟩
       ·simp only [Value.slice.injEq] at h;cases h.1
       ·exact zq13ef1e
      have HCNE:=lh hCne
      have HCNF:Hid (Fr w (.slice au (zip3 L ns rs).length cu)):=fun b o m q e hm=>by
       cases e;rw [yeh] at hm;rcases hown.2 with ⟨h,_⟩ | ⟨g',cap',cur',h,hb',_⟩
       ·simp only [Value.slice.injEq] at h;cases h.1
       ·exact zq13ef1e
      have hSB:∀W',Blk W' G17 43 [iV n,iV fr,iV til,iV du,.slice au (zip3 L ns rs).length cu,iV tot,iV C,iV mn,.bool g]->Blk W' (w.heap.size+1+1) 35 [.slice a3 L.length q3,iV C,iV mn]->(Ce W' G17 0 (iV n)/\Ce W' G17 1 (iV fr)/\Ce W' G17 2 (iV til)/\Ce W' G17 3 (iV du)/\Ce W' G17 4 (.slice au (zip3 L ns rs).length cu)/\Ce W' G17 5 (iV tot)/\Ce W' G17 6 (iV C)/\Ce W' G17 7 (iV mn)/\Ce W' G17 8 (.bool g))/\(Ce W' (w.heap.size+1+1) 0 (.slice a3 L.length q3)/\Ce W' (w.heap.size+1+1) 1 (iV C)/\Ce W' (w.heap.size+1+1) 2 (iV mn)):=fun W' q r=>⟨⟨q.cell 0,q.cell 1,q.cell 2,q.cell 3,q.cell 4,q.cell 5,q.cell 6,q.cell 7,q.cell 8⟩,r.cell 0,r.cell 1,r.cell 2⟩;have hs0:=hSB wr hC I10.out;have h17:=HG17.out;obtain ⟨c0,c1,c2,c3,c4,c5,c6,c7,c8,-⟩:=I14.out.cs [0,1,2,3,4,5,6,7,8];simp only [gz,gs] at c0 c1 c2 c3 c4 c5 c6 c7 c8;obtain ⟨f0,f1,f2,f3,f4,f5,f6,f7,f8,-⟩:=I14.out.fs [0,1,2,3,4,5,6,7,8];obtain ⟨y0,y1,y2,-⟩:=I15.out.cs [0,1,2];simp only [gz,gs] at y0 y1 y2;obtain ⟨z0,z1,z2,-⟩:=I15.out.fs [0,1,2];have hlt15:=I15.out.lt;have HBF:=lh hb;clear hown hln hCne hC hSB hb;go_upto_region 21 with fail
      obtain ⟨⟨m0,m1,m2,m3,m4,m5,m6,m7,m8⟩,q0,q1,q2⟩:=hs0;have hne1:¬w.heap.size+1+1+1=G17:=by omega
      have hne2:¬w.heap.size+1+1+1+1=G17:=by omega
      have hne3:¬G17=w.heap.size+1+1+1:=by omega
      have hne4:¬G17=w.heap.size+1+1+1+1:=by omega
      clear h17
      go_region
      clear hne1 hne2 hne3 hne4 m0 m1 m2 m3 m4 m5 m6 m7 m8 q0 q1 q2;go_wp2
      simp only [ydu];refine bodyPost_ret (v:=.tuple #[.agg #[iV n,iV fr,iV til,iV du,.slice au (zip3 L ns rs).length cu,iV tot,iV C,iV mn,.bool g],.agg #[.slice a3 L.length q3,iV C,iV mn],iZ]) (by simp [results,Tryz.results141,go_sem,c0,c1,c2,c3,c4,c5,c6,c7,c8,y0,y1,y2]) rfl ⟨.slice au (zip3 L ns rs).length cu,.slice a3 L.length q3,rfl,((HLN.out.s9 (fun b o m q e h=>(HCNE.out b o m q e h).1) _ _ _ _ _ _ _ _ _).s3 (fun b o m q e h=>(HCNE.out b o m q e h).2) _ _ _).below (yaf bR),((IU.out.s9 (fun b o m q e h=>(HA3.out b o m q e h).2.2.2.1) _ _ _ _ _ _ _ _ _).s3 (fun b o m q e h=>(HA3.out b o m q e h).2.2.2.2.1) _ _ _).below (yaf bR),⟨HCNF.out,HA3F.out⟩,(yd5 (yyr HBF.out (show w.heap.size<=(w.heap.size+1+1+1) by omega) _ _ _ _ _ _ _ _ _) om _ _ _).drew⟩
section
open Go.RowKit EvM
theorem yno (x y c:Int) (s k:Nat) (hx:0<=x) (hy:0<=y) (hc:0<=c/\c<=1) (hs:Hid ((x+y+c)%18446744073709551616=(s:Int))) (hk:Hid ((x+y+c)/18446744073709551616=(k:Int))) (w:World) :
 (callFunc 240 #[.int .u64 x,.int .u64 y,.int .u64 c]).run Tryz.prog w=.ok (.value (.tuple #[.int .u64 s,.int .u64 k])) w:= by
 rw [run_callFunc_extern (e:=add64Entry) Tryz.func240 kr kr kr kr,run_add64 x y c hx hy hc.1 hc.2,hs.out,hk.out]
 rfl
theorem yzu (x y h l:Nat) (hx:x<18446744073709551616) (hy:y<18446744073709551616) (hh:Hid (x*y/18446744073709551616=h)) (hl:Hid (x*y%18446744073709551616=l)) (w:World) :
 Calls Tryz.prog 239 #[.int .u64 x,.int .u64 y] w (fun e w'=>e=.returned (.tuple #[.int .u64 h,.int .u64 l])/\w'=w):= by
 have:=yoj x y hx hy w;rw [hh.out,hl.out] at this;exact this.mono fun _ _ h=>⟨h.1,h.2.symm⟩
theorem ymt (v u:Value) (bs rs:List Int) (h:okE bs rs=false) (w:World) (hv:Sl .i64 w v bs) (hu:Sl .i64 w u rs) :
 Calls Tryz.prog 220 #[v,u] w (RetB (.tuple #[.int .u64 0,.int .u64 0,iV 1]) w):= by
 have HV:=lh hv;have HU:=lh hu;have HH:=lh h;obtain ⟨ao,cap,rfl,h1,⟨h2,_⟩,h3⟩:=hv;clear h3;obtain ⟨ao',cap',rfl,h1',⟨h2',_⟩,h3⟩:=hu;clear h3 h;unfold maxLen at h2 h2'
 go_enter Tryz.func220,Tryz.ntmps220
 go_wp2
 refine yai 0 (fun _ _=>False) (fun _ _=>0) rfl ?pass ?first
 case pass =>
  intro _ _ hJ;exact hJ.elim
 case first =>
 intro J' hj1 hj2;clear hj1 hj2
 by_cases e1:bs.length=rs.length
 ·have d1:((bs.length:Int) != (rs.length:Int))=false:=by simp [e1]
  by_cases e2:bs.length<=40000
  ·have d2:decide ((40000:Int)<(bs.length:Int))=false:=by simp;omega
   cases e3:bs.any (yef 1000000000000000) with
   | true =>
    have E3:Hid (bs.any (yef 1000000000000000)=!false):=e3;clear e1 e2 e3
    go_wp2_with fail
    refine (ycp _ bs 1000000000000000 false E3 _ HV.out).mono ?_;rintro _ w1 ⟨rfl,hb1⟩;go_wp2
    simp only [Exit.jump]
    go_ret3
    exact ⟨rfl,hb1⟩
   | false =>
    have E3:Hid (bs.any (yef 1000000000000000)=!true):=e3
    have E4:Hid (rs.any (yef 10000000)=!false):= by
     show _=_;have h:=HH.out;unfold okE at h;rw [e3] at h
     simpa [e1,show rs.length<=40000 by omega] using h
    clear e1 e2 e3
    go_wp2_with fail
    refine (ycp _ bs 1000000000000000 true E3 _ HV.out).mono ?_;rintro _ w1 ⟨rfl,hb1⟩
    go_wp2_with fail
    refine (ycp _ rs 10000000 false E4 _ (HU.out.below hb1)).mono ?_;rintro _ w2 ⟨rfl,hb2⟩;go_wp2
    simp only [Exit.jump]
    go_ret3
    exact ⟨rfl,yad hb1 hb2⟩
  ·have d2:decide ((40000:Int)<(bs.length:Int))=true:=by simp;omega
   clear e1;go_wp2
   simp only [Exit.jump]
   go_ret3
   exact ⟨rfl,bR⟩
 ·have d1:((bs.length:Int) != (rs.length:Int))=true:=by simp;omega
  go_wp2
  simp only [Exit.jump]
  go_ret3
  exact ⟨rfl,bR⟩
theorem yk1 (v u:Value) (bs rs:List Int) (h:okE bs rs=true) (S hi lo:Nat) (hS:Hid (sumE bs rs bs.length=S)) (hhi:Hid (S/18446744073709551616=hi)) (hlo:Hid (S%18446744073709551616=lo)) (w:World) (hv:Sl .i64 w v bs) (hu:Sl .i64 w u rs) :
 Calls Tryz.prog 220 #[v,u] w (RetB (.tuple #[.int .u64 hi,.int .u64 lo,iZ]) w):= by
 have HV:=lh hv;have HU:=lh hu;obtain ⟨ao,cap,rfl,h1,⟨h2,_⟩,h3⟩:=hv;clear h3;obtain ⟨ao',cap',rfl,h1',⟨h2',_⟩,h3⟩:=hu;clear h3;unfold maxLen at h2 h2';obtain ⟨e1,e2,e3,e4⟩:=yu4 h;have E3:Hid (bs.any (yef 1000000000000000)=!true):=e3;have E4:Hid (rs.any (yef 10000000)=!true):=e4;have HL:=lh e1;have HL2:=lh e2;have HLE:=lh (fun k=>yzt e3 e4 k);have HB1:=lh (fun k=>yjm e3 om k);have HB2:=lh (fun k=>yjm e4 om k);clear h e1 e2 e3 e4
 go_enter Tryz.func220,Tryz.ntmps220
 go_wp2
 refine yai 0 (fun a' w'=>∃(k ph pl:Nat) (u2 u3 u9 u10 u11 u13 u14 u15 u16 u17 u18 u19 u20 u21 u22 u23 u24 u25 u26 u27 u28 u29 u30 u31 u32 u33 u34 u35 u36 u37 u38 u39 u40 u41 u42 u43 u44 u45 u46 u47 u48 u49 u50 u51 u52 u53 u54 u55 u56 u57 u58 u59 u60 u61 u62 u63 u64 u65 u66 u67:Value),a'={ tmps:=#[Value.slice ao bs.length cap,Value.slice ao' rs.length cap',u2,u3,.int .u64 0,.int .u64 0,iZ,.int .u64 ph,.int .u64 pl,u9,u10,u11,iV k,u13,u14,u15,u16,u17,u18,u19,u20,u21,u22,u23,u24,u25,u26,u27,u28,u29,u30,u31,u32,u33,u34,u35,u36,u37,u38,u39,u40,u41,u42,u43,u44,u45,u46,u47,u48,u49,u50,u51,u52,u53,u54,u55,u56,u57,u58,u59,u60,u61,u62,u63,u64,u65,u66,u67],defers:=[] } /\
  k<=bs.length/\Hid (sumE bs rs k/18446744073709551616=ph/\sumE bs rs k%18446744073709551616=pl)/\BW w w')
  (fun a' _=>bs.length-(intOf (a'.tmps.getD 12 undef)).toNat) rfl ?pass ?first
 case first =>
  intro J' _ hrest;have HR:=lh hrest;clear hrest;have d1:((bs.length:Int) != (rs.length:Int))=false:=by have:=HL.out;simp [this]
  have d2:decide ((40000:Int)<(bs.length:Int))=false:=by have:=HL2.out;simp;omega
  go_wp2_with fail
  refine (ycp _ bs 1000000000000000 true E3 _ HV.out).mono ?_;rintro _ w1 ⟨rfl,hb1⟩
  go_wp2_with fail
  refine (ycp _ rs 10000000 true E4 _ (HU.out.below hb1)).mono ?_;rintro _ w2 ⟨rfl,hb2⟩
  go_wp2_with fail
  go_step3
  go_step
  go_step
  exact HR.out _ _ ⟨0,0,0,_,_,_,_,_,_,_,_,_,_,_,_,_,_,_,_,_,_,_,_,_,_,_,_,_,_,_,_,_,_,_,_,_,_,_,_,_,_,_,_,_,_,_,_,_,_,_,_,_,_,_,_,_,_,_,_,_,_,_,_,rfl,Nat.zero_le _,by show _/\_;simp [sumE],yad hb1 hb2⟩
 case pass =>
  intro a1 w1 hJ J' hJ';obtain ⟨k,ph,pl,hJ⟩:=hJ
  iterate 60 obtain ⟨_,hJ⟩:=hJ
  obtain ⟨ha',hkn,HP,hbw⟩:=hJ;subst ha'
  by_cases hlt:k<bs.length
  ·have d0:((k:Int) == (bs.length:Int))=false:=by simp;omega
   obtain ⟨b,o,x,rfl,hcx,hx⟩:=(HV.out.below hbw).get (i:=k) hlt;obtain ⟨b',o',y,rfl,hcy,hy⟩:=(HU.out.below hbw).get (i:=k) (by have:=HL.out;omega);have hx0:=HB1.out k;have hy0:=HB2.out k;rw [hx.out] at hx0;rw [hy.out] at hy0;obtain ⟨X,rfl⟩:=Int.eq_ofNat_of_zero_le hx0.1;obtain ⟨Y,rfl⟩:=Int.eq_ofNat_of_zero_le hy0.1;have wX:IntKind.u64.wrap (X:Int)=X:=by rw [IntKind.wrap_u64];omega
   have wY:IntKind.u64.wrap (Y:Int)=Y:=by rw [IntKind.wrap_u64];omega
   obtain ⟨h,hh⟩:∃h,X*Y/18446744073709551616=h:=⟨_,rfl⟩;obtain ⟨l,hl⟩:∃l,X*Y%18446744073709551616=l:=⟨_,rfl⟩;have hn:sumE bs rs (k+1)=sumE bs rs k+X*Y:=by simp only [sumE,hx.out,hy.out,Int.toNat_natCast]
   have hle:=HLE.out (k+1);rw [hn] at hle;obtain ⟨l2,hl2⟩:∃l2,(pl+l)%18446744073709551616=l2:=⟨_,rfl⟩;obtain ⟨c,hc⟩:∃c,(pl+l)/18446744073709551616=c:=⟨_,rfl⟩;obtain ⟨h2,hh2⟩:∃h2,(ph+h+c)%18446744073709551616=h2:=⟨_,rfl⟩;obtain ⟨g1,g2,g3,g4⟩:=yxe (sumE bs rs k) (X*Y) ph pl h l c l2 h2 HP.out.1 HP.out.2 hh hl hl2 hc hh2 (by have:=HL2.out;omega);have A1:=fun W=>yno (pl:Int) (l:Int) 0 l2 c om om om (by show _=_;omega) (by show _=_;omega) W;have A2:=fun W=>yno (ph:Int) (h:Int) (c:Int) h2 0 om om om (by show _=_;omega) (by show _=_;omega) W;have HG:Hid (sumE bs rs (k+1)/18446744073709551616=h2/\sumE bs rs (k+1)%18446744073709551616=l2):=by rw [hn];exact ⟨g1,g2⟩
   have HM:=lh (fun W=>yzu X Y h l om om hh hl W);have HX:=lh hbw;have hi1:(k:Int)<(bs.length:Int):=by omega
   have hi2:(k:Int)<(rs.length:Int):=by have:=HL.out;omega
   clear hx0 hy0 hh hl hn hle hl2 hc hh2 g1 g2 g3 g4 HP hbw
   go_wp2_with fail
   go_quiet ((go_at_call 239;exact Calls.quiet_of_same (HM.out _)))
   go_wp2_with (first | simp only [A1] | simp only [A2])
   go_step3
   refine ⟨rfl,hJ' _ _ ⟨k+1,h2,l2,_,_,_,_,_,_,_,_,_,_,_,_,_,_,_,_,_,_,_,_,_,_,_,_,_,_,_,_,_,_,_,_,_,_,_,_,_,_,_,_,_,_,_,_,_,_,_,_,_,_,_,_,_,_,_,_,_,_,_,_,rfl,by omega,HG,yfn HX.out _⟩ ?_⟩;simp [intOf];omega
  ·obtain rfl:k=bs.length:=by omega
   have d0:((bs.length:Int) == (bs.length:Int))=true:=by simp
   have X:=lh hbw
   have HP2:Hid (ph=hi/\pl=lo):= by
    have h:=HP.out;rw [hS.out,hhi.out,hlo.out] at h;exact ⟨h.1.symm,h.2.symm⟩
   obtain ⟨rfl,rfl⟩:=HP2.out;clear hbw HP HP2;go_wp2
   simp only [Exit.jump]
   go_ret3
   exact ⟨rfl,X.out⟩
theorem ygt (v u:Value) (bs rs:List Int) (hi lo:Nat) (e:Int) (h:Hid (yli bs rs=(hi,lo,e))) (w:World) (hv:Sl .i64 w v bs) (hu:Sl .i64 w u rs) :
 Calls Tryz.prog 220 #[v,u] w (RetB (.tuple #[.int .u64 hi,.int .u64 lo,iV e]) w):= by
 have h:=h.out;unfold yli at h;cases ho:okE bs rs with
 | false =>
  rw [ho,if_neg (by simp)] at h;simp only [Prod.mk.injEq] at h;obtain ⟨rfl,rfl,rfl⟩:=h;exact ymt v u bs rs ho w hv hu
 | true =>
  rw [ho,if_pos rfl] at h;simp only [Prod.mk.injEq] at h;obtain ⟨h1,h2,rfl⟩:=h;exact yk1 v u bs rs ho _ hi lo rfl h1 h2 w hv hu
end
section
open Go.RowKit EvM
theorem jag {hi lo den q:Int} {b:Bool} (h:evQ hi lo den=(q,b)):0<=q:= by
 unfold evQ at h
 split at h
 ·simp only [Prod.mk.injEq] at h;omega
 ·split at h <;> simp only [Prod.mk.injEq] at h <;> omega
theorem yzn {n hi lo:Nat} {q:Int} {b:Bool} (h1:n/18446744073709551616=hi) (h2:n%18446744073709551616=lo) (h:evQ (hi:Int) (lo:Int) 1000000000=(q,b)):ofR2 n=if b=true/\q<=1000000000000000 then (q,0) else (0,5):= by
 unfold ofR2;rw [h1,h2,h]
theorem ypv (v u:Value) (bs rs:List Int) (x e:Int) (h:Hid (yft bs rs=(x,e))) (w:World) (hv:Sl .i64 w v bs) (hu:Sl .i64 w u rs) :
 Calls Tryz.prog 184 #[v,u] w (RetB (.tuple #[iV x,iV e]) w):= by
 have h:=h.out;unfold yft at h;cases ho:okE bs rs with
 | false =>
  rw [ho,if_neg (by simp)] at h;simp only [Prod.mk.injEq] at h;obtain ⟨rfl,rfl⟩:=h;have HE:Hid (yli bs rs=(0,0,1)):=by show _=_;unfold yli;rw [ho,if_neg (by simp)]
  have HV:=lh hv;have HU:=lh hu;clear hv hu ho
  go_enter Tryz.func184,Tryz.ntmps184
  go_wp2_with fail
  refine (ygt v u bs rs 0 0 1 HE _ HV.out HU.out).mono ?_;rintro _ w1 ⟨rfl,hb1⟩;go_wp2
  go_ret2
  exact ⟨rfl,hb1⟩
 | true =>
  rw [ho,if_pos rfl] at h;obtain ⟨hi,hhi⟩:∃hi,sumE bs rs bs.length/18446744073709551616=hi:=⟨_,rfl⟩;obtain ⟨lo,hlo⟩:∃lo,sumE bs rs bs.length%18446744073709551616=lo:=⟨_,rfl⟩;obtain ⟨q,b,hq⟩:∃q b,evQ (hi:Int) (lo:Int) 1000000000=(q,b):=⟨_,_,rfl⟩;rw [yzn hhi hlo hq] at h;have hq0:=jag hq;have HE:Hid (yli bs rs=(hi,lo,0)):=by show _=_;unfold yli;rw [ho,if_pos rfl,hhi,hlo]
  have HLO:Hid (lo<18446744073709551616):=by show _<_;omega
  have HQ:=lh hq;have HV:=lh hv;have HU:=lh hu;have HEV:Hid (∀w,Calls Tryz.prog 221 #[.int .u64 hi,.int .u64 lo,.int .u64 1000000000] w (RetB (.tuple #[.int .u64 q,.bool b]) w)):=fun w=>ymm hi lo 1000000000 q b HLO.out om HQ w;clear hv hu ho hhi hlo hq;cases b with
  | false =>
   rw [if_neg (by simp)] at h;simp only [Prod.mk.injEq] at h;obtain ⟨rfl,rfl⟩:=h;exact zq132229
  | true =>
   by_cases hqm:q<=1000000000000000
   ·rw [if_pos ⟨rfl,hqm⟩] at h
    simp only [Prod.mk.injEq] at h;obtain ⟨rfl,rfl⟩:=h;have d1:decide (1000000000000000<q)=false:=by simp;omega
    have w1:wrap64 q=q:=IntWalk.wrap64_in _ ⟨by omega,by omega⟩;have w2:IntKind.i64.wrap q=q:=IntWalk.i64_in _ ⟨by omega,by omega⟩;exact zq132229
   ·rw [if_neg (by intro h;exact hqm h.2)] at h
    simp only [Prod.mk.injEq] at h;obtain ⟨rfl,rfl⟩:=h;have d1:decide (1000000000000000<q)=true:=by simp;omega
    exact zq132229
end
section
open Go.RowKit EvM
def RwS (w:World) (v:Value) (rows:List (List Int)):Prop :=
 ∃ao cap,v=.slice ao rows.length cap/\rows.length<=cap/\(cap<=maxLen/\(ao=none->cap=0)) /\
  (rows≠[]->∃b o,ao=some (Ad b o)/\∀i,i<rows.length->∃u,w.cell? (Ad b (o+i))=some u/\Sl .i64 w u (rows.getD i []))
theorem RwS.below {w w':World} {v:Value} {rows:List (List Int)} (h:RwS w v rows) (hb:BW w w'):RwS w' v rows:= by
 obtain ⟨ao,cap,rfl,h1,h2,h3⟩:=h;refine ⟨ao,cap,rfl,h1,h2,fun hx=>?_⟩;obtain ⟨b,o,rfl,hc⟩:=h3 hx;refine ⟨b,o,rfl,fun i hi=>?_⟩;obtain ⟨u,h4,h5⟩:=hc i hi;exact ⟨u,(hb.cell (p:=(Ad b (o+i))) (yac h4)).trans h4,h5.below hb⟩
theorem RwS.get {w:World} {ao:Option Addr} {n cap:Nat} {rows:List (List Int)} (h:RwS w (.slice ao n cap) rows) {i:Nat} (hi:i<rows.length) :
 ∃b o u,ao=some (Ad b o)/\w.cell? (Ad b (o+i))=some u/\Hid (Sl .i64 w u (rows.getD i [])):= by
 obtain ⟨ao',cap',e,h1,h2,h3⟩:=h;cases e;obtain ⟨b,o,rfl,hc⟩:=h3 (by intro h;rw [h] at hi;simp at hi);obtain ⟨u,h4,h5⟩:=hc i hi;exact ⟨b,o,u,rfl,h4,h5⟩
theorem TrS.get18 {w:World} {ao:Option Addr} {n cap:Nat} {ts:List (Int×Bool)} (h:TrS w (.slice ao n cap) ts) {i:Nat} (hi:i<ts.length) :
 ∃b o,ao=some (Ad b o)/\w.cell? (Ad b (o+i*2))=some (iV (ts.getD i (0,false)).1)/\w.cell? (Ad b (o+i*2+1))=some (.bool (ts.getD i (0,false)).2):= by
 obtain ⟨ao',cap',e,h1,h2,h3⟩:=h;cases e;obtain ⟨b,o,rfl,hc⟩:=h3 (by intro h;rw [h] at hi;simp at hi);exact ⟨b,o,rfl,hc i hi⟩
def yzf (xs:List Int) (e:Int) (w:World) (x:Ending) (w':World):Prop:=∃u,x=.returned (.tuple #[u,iV e])/\Sl .i64 w' u xs/\BW w w'
end
end Go.Proofs.YtkongpjpkpfniaaGreat

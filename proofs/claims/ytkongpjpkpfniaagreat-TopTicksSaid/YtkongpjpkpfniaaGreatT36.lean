/- TopTicks: parts of the proof, made small by a program (mini.py). -/
import Derived.Great.BuildSlice
import Derived.Deep.DrawnRows
import Derived.Deep.RegionHeld3
import Derived.DeepKeys
import Derived.Laws.StructEq
import Derived.Test.YtkongpjpkpfniaaGreatT01
import Derived.Test.YtkongpjpkpfniaaGreatT03
import Derived.Test.YtkongpjpkpfniaaGreatT07
import Derived.Test.YtkongpjpkpfniaaGreatT10
import Derived.Test.YtkongpjpkpfniaaGreatT12
import Derived.Test.YtkongpjpkpfniaaGreatT13
import Derived.Test.YtkongpjpkpfniaaGreatT15
import Derived.Test.YtkongpjpkpfniaaGreatT17
import Derived.Test.YtkongpjpkpfniaaGreatT23
import Derived.Test.YtkongpjpkpfniaaGreatT25
import Derived.Test.YtkongpjpkpfniaaGreatT35
set_option linter.unusedVariables false
set_option linter.unusedSimpArgs false
set_option maxRecDepth 100000
set_option maxHeartbeats 6400000
namespace Go.Proofs.YtkongpjpkpfniaaGreat
open Go.RowKit
theorem zq360a6e {q:Prop} (h:q:= by
 have HK:Hid (1<=k/\k<=8):=by show _/\_;omega
 have hk0:(k:Int)≠0:=by omega
 obtain ⟨g0,g1,g2,g3,g4,g5,g6,-⟩:=HG.out.cs [0,1,2,3,4,5,6];simp only [gz,gs] at g0 g1 g2 g3 g4 g5 g6;have kg:=HG.out.lt;have HZ:Hid (wr.heap[w.heap.size+1]?=some (.cells #[iZ,sZ,iZ,iZ,iZ,iZ,iZ] 24 (0,0))):=R3.out.below HW.out
 go_wp2_with (with_reducible refine yhs rfl (.tmp 2) (.tmp 85) rfl rfl (w.heap.size+1) #[iV q1,.slice vo k vc,iV p2,iV p3,iV q4,iV q5,iV s0] rfl rfl _ HZ.out rfl rfl (by simp [Value.oneCell']) ?_)
 refine bodyPost_ret (v:=.agg #[iV q1,.slice vo k vc,iV p2,iV p3,iV q4,iV q5,iV s0]) (results_cell_row (p:=2) (ty:=24) rfl _ _ (w.heap.size+1) 24 _ (0,0) _ rfl (setRow_heap _ _ _ _ _ _ HZ.out) Tryz.underlying24 rfl (by rw [yjo];rfl)) rfl ?_
 exact ynr (TrS.of_fl (Fl.of_own (by rw [HL.out.1];exact HO.out) (yei l'))) (fun b o m c e _ hm=>by
  have:=(HO.out.lt b (by rw [e];rfl)).1;have:=HGN.out;simp only [ms] at hm;omega) (yad B3.out HW.out) (by have:=HL.out.1;have:=HK.out;omega) HL.out.2 HQ.out.1 HQ.out.2.1 HQ.out.2.2.1 HQ.out.2.2.2.1 HQ.out.2.2.2.2 HS0.out _):q:=h
def yr1 (w:World) (e:Ending) (w':World):Prop:=∃(t:Tm) (tv:Value),e=.returned (.agg (t.cells tv).toArray)/\t.right=true/\(10957<=t.start/\t.start<=11400)/\TrS w' tv t.ts/\BW w w'
theorem yeo (x:Int) (M:Nat) (hM:0<M) (hM2:M<=1000000000):∃r:Int,(IntKind.u64.wrap x).tmod (M:Int)=r/\0<=r/\r<(M:Int)/\wrap64 r=r:= by
 have h0:0<=IntKind.u64.wrap x:=by rw [IntKind.wrap_u64];omega
 have h1:=Int.emod_nonneg (IntKind.u64.wrap x) (show (M:Int)≠0 by omega);have h2:=Int.emod_lt_of_pos (IntKind.u64.wrap x) (show (0:Int)<M by omega);rw [<-Int.tmod_eq_emod_of_nonneg h0] at h1 h2;exact ⟨_,rfl,h1,h2,IntWalk.wrap64_in _ ⟨by omega,by omega⟩⟩
theorem yxh:(Tryz.prog.info? 81).map (fun i=>(i.zero,i.size,i.bytes))=some (some (.agg #[iZ,.bool false]),2,16):=by kernel_rfl
theorem yjo:(Tryz.prog.info? 24).map (·.size)=some 7:=by kernel_rfl
theorem yhs {ops:Array Oper} {rest:List Oper} {o:Oper} {a:Act} {w:World} {Q:Exit->Act->World->Prop} (hgd:o.guard=none) (x y:Operand) (ho:o.op=.store 24 x y)
 (hd:o.dst=none) (g:Nat) (cells:Array Value) (hx:a.eval x=pV g) (hy:a.eval y=.agg cells) (old:Array Value) (hg:w.heap[g]?=some (.cells old 24 (0,0))) (hs:cells.size=7) (hs2:old.size=7)
 (h1:cells.all (·.oneCell')=true) (h:wpList Tryz.prog ops Q rest a (w.setRow g cells)):wpList Tryz.prog ops Q (o::rest) a w :=
 wpList_store_rowTo hgd 24 x y ho hd g cells hx hy 24 old hg (by rw [yjo,hs]) (by rw [hs,hs2]) h1 h
theorem ynr {w W:World} {q1 p2 p3 q4 q5 s0:Int} {v:Value} {l:List (Int×Bool)} (hv:TrS W v l) (ho:OffF [w.heap.size+1] v) (hb:BW w W) (hn:1<=l.length/\l.length<=8) (hr:yd7 l=true)
 (h1:0<=q1/\q1<100000) (h2:1<=p2/\p2<=28) (h3:1<=p3/\p3<=25) (h4:0<=q4/\q4<100) (h5:0<=q5/\q5<101) (h6:10957<=s0/\s0<=11400) (cells:Array Value) :
 yr1 w (.returned (.agg #[iV q1,v,iV p2,iV p3,iV q4,iV q5,iV s0])) (W.setRow (w.heap.size+1) cells):= by
 refine ⟨⟨q1,l,p2,p3,q4,q5,s0⟩,v,rfl,?_,h6,hv.keep (F:=[w.heap.size+1]) ((yab.refl _ _).setRow (.inl (List.mem_cons_self ..)) _) ho,ybl hb om _⟩;unfold Tm.right yaw;simp only [hr,Bool.and_eq_true,ydr,and_true];omega
theorem yt8 {W:World} {g:Nat} (h:Blk W g 81 [iV 500000,.bool false]):TrS W (sL g 0 1 1) [(500000,false)]:= by
 refine TrS.of_fl (l:=[(500000,false)]) ⟨rfl,yei _,_,_,rfl,Nat.le_refl _,⟨by simp [maxLen],fun e=>by cases e⟩,fun _=>⟨g,0,rfl,fun i hi=>?_⟩⟩;rw [h.cell,Nat.zero_add]
 rfl
theorem ymv (t:Tm) (tv:Value) (w:World) (hv:TrS w tv t.ts):Calls Tryz.prog 6 #[.agg (t.cells tv).toArray] w (yr1 w):= by
 have HV:=lh hv;obtain ⟨tao,tc,rfl⟩:=hv.shape;obtain ⟨lim,ts,cyc,dued,minf,minp,start⟩:=t;simp only at *;unfold Tm.cells;simp only;clear hv
 obtain ⟨W1,hW1,X1,R1,B1⟩:∃W,((w.alloc (.cells #[iV lim,.slice tao ts.length tc,iV cyc,iV dued,iV minf,iV minp,iV start] 24)).alloc (.cells #[iZ,sZ,iZ,iZ,iZ,iZ,iZ] 24))=W/\Hid (Blk W w.heap.size 24 [iV lim,.slice tao ts.length tc,iV cyc,iV dued,iV minf,iV minp,iV start])/\Hid (Blk W (w.heap.size+1) 24 [iZ,sZ,iZ,iZ,iZ,iZ,iZ])/\Hid (BW w W) :=
  ⟨_,rfl,(yae w _ _ _ rfl).below (yaa bR _),yae _ _ _ _ (World.size_alloc _ _),yaa (yaa bR _) _⟩
 go_enter Tryz.func6,Tryz.ntmps6
 go_upto_region 1 with fail
 try with_reducible rw [hW1]
 clear hW1;have c6:=X1.out.cell 6;simp only [gz,gs] at c6;have cf6:=X1.out.frozen 6;have kx:=X1.out.lt;go_upto_region 2 with fail
 obtain ⟨q0,e0,a0,b0,w0⟩:=yeo start 400 (by decide) (by decide);have w1:wrap64 (10957+q0)=10957+q0:=IntWalk.wrap64_in _ ⟨by omega,by omega⟩;have e0':(IntKind.u64.wrap start).tmod 400=q0:=e0;rw [e0',w0,w1];obtain ⟨s0,hs0,HS0⟩:∃s0,10957+q0=s0/\Hid (10957<=s0/\s0<=11400):=⟨_,rfl,by show _/\_;omega⟩;rw [hs0];obtain ⟨W2,hW2,X2,R2,B2⟩:∃W,W1.setCell (Ad w.heap.size 6) (iV s0)=W/\Hid (Blk W w.heap.size 24 [iV lim,.slice tao ts.length tc,iV cyc,iV dued,iV minf,iV minp,iV s0])/\Hid (Blk W (w.heap.size+1) 24 [iZ,sZ,iZ,iZ,iZ,iZ,iZ])/\Hid (BW w W):=⟨_,rfl,X1.out.set 6 _,R1.out.setOther om _ _,yao B1.out (Nat.le_refl _)⟩
 with_reducible rw [hW2]
 clear hW2 e0 e0' a0 b0 w0 w1 hs0 c6 cf6 kx;obtain ⟨c0,c1,c2,c3,c4,c5,c6,-⟩:=X2.out.cs [0,1,2,3,4,5,6];simp only [gz,gs] at c0 c1 c2 c3 c4 c5 c6;have kx:=X2.out.lt;cases hR:yaw lim ts cyc dued minf minp s0 with
 | true =>
  have HR0:Hid ((if yaw lim ts cyc dued minf minp s0=true then (0:Int) else 6)=0):=by rw [hR];rfl
  have HRT:=lh hR;clear hR
  go_wp2_with fail
  refine (yit _ ts lim cyc dued minf minp s0 0 HR0 _ (HV.out.below B2.out)).mono ?_;rintro _ w3 ⟨rfl,hb3⟩;have X3:=lh (X2.out.below hb3);have R3:=lh (R2.out.below hb3);have B3:Hid (BW w w3):=yad B2.out hb3;clear c0 c1 c2 c3 c4 c5 c6 kx hb3;obtain ⟨c0,c1,c2,c3,c4,c5,c6,-⟩:=X3.out.cs [0,1,2,3,4,5,6];simp only [gz,gs] at c0 c1 c2 c3 c4 c5 c6;have kx:=X3.out.lt;have HZ:Hid (w3.heap[w.heap.size+1]?=some (.cells #[iZ,sZ,iZ,iZ,iZ,iZ,iZ] 24 (0,0))):=R3.out
  go_wp2_with (with_reducible refine yhs rfl (.tmp 2) (.tmp 15) rfl rfl (w.heap.size+1) #[iV lim,.slice tao ts.length tc,iV cyc,iV dued,iV minf,iV minp,iV s0] rfl rfl _ HZ.out rfl rfl (by simp [Value.oneCell']) ?_)
  refine bodyPost_ret (v:=.agg #[iV lim,.slice tao ts.length tc,iV cyc,iV dued,iV minf,iV minp,iV s0]) (results_cell_row (p:=2) (ty:=24) rfl _ _ (w.heap.size+1) 24 _ (0,0) _ rfl (setRow_heap _ _ _ _ _ _ HZ.out) Tryz.underlying24 rfl (by rw [yjo];rfl)) rfl ⟨⟨lim,ts,cyc,dued,minf,minp,s0⟩,.slice tao ts.length tc,rfl,HRT.out,HS0.out,?_,?_⟩
  ·exact (HV.out.below B3.out).keep (F:=[w.heap.size+1]) ((yab.refl _ _).setRow (.inl (List.mem_cons_self ..)) _) (Fl.offNew HV.out.fl (by decide) (fun x hx=>by simp only [ms] at hx;omega))
  ·exact ybl B3.out om _
 | false =>
  have HR0:Hid ((if yaw lim ts cyc dued minf minp s0=true then (0:Int) else 6)=6):=by rw [hR];rfl
  clear hR
  go_wp2_with fail
  refine (yit _ ts lim cyc dued minf minp s0 6 HR0 _ (HV.out.below B2.out)).mono ?_;rintro _ w3 ⟨rfl,hb3⟩;have X3:=lh (X2.out.below hb3);have R3:=lh (R2.out.below hb3);have B3:Hid (BW w w3):=yad B2.out hb3;clear c0 c1 c2 c3 c4 c5 c6 kx hb3;obtain ⟨c0,c1,c2,c3,c4,c5,c6,-⟩:=X3.out.cs [0,1,2,3,4,5,6];simp only [gz,gs] at c0 c1 c2 c3 c4 c5 c6;have kx:=X3.out.lt;obtain ⟨q1,e1,a1,b1,w1⟩:=yeo lim 100000 (by decide) (by decide);obtain ⟨q2,e2,a2,b2,w2⟩:=yeo cyc 28 (by decide) (by decide);obtain ⟨q3,e3,a3,b3,w3'⟩:=yeo dued 25 (by decide) (by decide);obtain ⟨q4,e4,a4,b4,w4⟩:=yeo minf 100 (by decide) (by decide);obtain ⟨q5,e5,a5,b5,w5⟩:=yeo minp 101 (by decide) (by decide);obtain ⟨p2,d2,f2⟩:∃p,wrap64 (1+q2)=p/\1<=p/\p<=28:=⟨1+q2,IntWalk.wrap64_in _ ⟨by omega,by omega⟩,by omega⟩;obtain ⟨p3,d3,f3⟩:∃p,wrap64 (1+q3)=p/\1<=p/\p<=25:=⟨1+q3,IntWalk.wrap64_in _ ⟨by omega,by omega⟩,by omega⟩;have e1':(IntKind.u64.wrap lim).tmod 100000=q1:=e1;have e2':(IntKind.u64.wrap cyc).tmod 28=q2:=e2;have e3':(IntKind.u64.wrap dued).tmod 25=q3:=e3;have e4':(IntKind.u64.wrap minf).tmod 100=q4:=e4;have e5':(IntKind.u64.wrap minp).tmod 101=q5:=e5;have HQ:=lh (And.intro (And.intro a1 b1) (And.intro f2 (And.intro f3 (And.intro (And.intro a4 b4) (And.intro a5 b5)))));clear e1 e2 e3 e4 e5 a1 a2 a3 a4 a5 b1 b2 b3 b4 b5 f2 f3;obtain ⟨G,hG,HGN⟩:∃G,w3.heap.size=G/\Hid (w.heap.size+1<G):=⟨_,rfl,by show _<_;have:=R3.out.lt;exact this⟩;obtain ⟨W4,hW4,G4,B4⟩:∃W,w3.alloc (.cells #[iV q1,sZ,iV p2,iV p3,iV q4,iV q5,iV s0] 24)=W/\Hid (Blk W G 24 [iV q1,sZ,iV p2,iV p3,iV q4,iV q5,iV s0])/\Hid (BW w3 W):=⟨_,rfl,yae w3 _ _ _ hG,yaa bR _⟩;have HG0:Hid (G+1<=W4.heap.size):=G4.out.lt;obtain ⟨i0,hi,hz0,hz1,hz2⟩:=info_parts yxh;go_upto_region 5 with fail
  try with_reducible rw [hW4]
  clear hW4 c0 c1 c2 c3 c4 c5 c6 kx w1 w2 w3' w4 w5 d2 d3 e1' e2' e3' e4' e5';try with_reducible rw [hG]
  have HGE:Hid (w3.heap.size=G):=hG;clear hG
  go_wp2_with fail
  go_loopg [4] ts.length (fun g x wr=>∃(k:Nat) (l':List (Int×Bool)) (v:Value),k+g=ts.length/\k<=8/\x=iV (k:Int)/\Hid (l'.length=k/\yd7 l'=true)/\Hid (Blk wr G 24 [iV q1,v,iV p2,iV p3,iV q4,iV q5,iV s0])/\Hid (wr.ownsRow (G+1) 81 2 v k (yck l'))/\Hid (BW w3 wr))
  case atStart=>exact ⟨0,[],_,by omega,by omega,rfl,⟨rfl,rfl⟩,G4.out,yel _ _ _ _,B4.out⟩
  case round =>
   obtain ⟨k,l',v,hkg,hk8,rfl,HL,HG,HO,HW⟩:=hrel;obtain ⟨vo,vc,rfl⟩:=ykj HO.out;have X4:=lh (X3.out.below HW.out);have c1:=X4.out.cell 1;simp only [gz,gs] at c1;have kx:=X4.out.lt
   by_cases hkt:k<ts.length
   ·have hlt:(k:Int)<(ts.length:Int):=by omega
    by_cases hkk:k<8
    ·have hlt8:(k:Int)<8:=by omega
     obtain ⟨gg,rfl⟩:∃gg,gk=gg+1:=⟨gk-1,by omega⟩;obtain ⟨b,o,x,gr,rfl,t0,t1,HX⟩:=(HV.out.below (yad B3.out HW.out)).get (show k<ts.length by omega);obtain ⟨q,e6,a6,b6,w6⟩:=yeo x 3000000 (by decide) (by decide);have e6':(IntKind.u64.wrap x).tmod 3000000=q:=e6;have HQ2:Hid (0<=q/\q<3000000):=⟨a6,b6⟩;have HBT:Hid (b<w.heap.size):=HV.out.fl.blt (by decide) rfl om;have hk1:wrap64 ((k:Int)+1)=(k:Int)+1:=IntWalk.wrap64_in _ ⟨by omega,by omega⟩;have HK8:=lh (And.intro hkg hk8);have HS:Hid (∀W',BW wr W'->Ce W' G 1 (.slice vo k vc)/\Ce W' w.heap.size 1 (sL b o ts.length tc)/\Ce W' b (o+k*2) (iV x)/\Ce W' b (o+k*2+1) (.bool gr)):=fun W' hW=>⟨(HG.out.below hW).cell 1,((X3.out.below HW.out).below hW).cell 1,(hW.cell (yac t0)).trans t0,(hW.cell (yac t1)).trans t1⟩;have hsd:=HS.out wr.drew (yaf bR);clear e6 a6 b6 HX t0 t1 hkg hk8;go_upto_region 8 with fail
     refine yan (fun W'=>Ce W' G 1 (.slice vo k vc)/\Ce W' w.heap.size 1 (sL b o ts.length tc)/\Ce W' b (o+k*2) (iV x)/\Ce W' b (o+k*2+1) (.bool gr)) 20 kr ?_;refine tK 0 rfl ?_;refine tK 1 rfl ?_;refine tK 2 rfl ?_;refine tK 3 rfl ?_;refine tK 4 rfl ?_;refine tK 5 rfl ?_;refine tK 6 rfl ?_;refine tK 7 rfl ?_;refine tK 8 rfl ?_;refine tK 9 rfl ?_;refine tK 10 rfl ?_;refine tK 11 rfl ?_;refine tK 12 rfl ?_;refine tK 13 rfl ?_;refine tK 14 rfl ?_;refine tK 15 rfl ?_;refine tK 16 rfl ?_;refine tK 17 rfl ?_;have w6i:IntKind.i64.wrap q=q:=by rw [IntKind.wrap_i64];have:=HQ2.out;omega
     try simp only [e6',w6,w6i]
     obtain ⟨W5,hW5,T5,B5,D5⟩:∃W,(wr.alloc (.cells #[iV q,.bool gr] 81)).drew=W/\Hid (Blk W wr.heap.size 81 [iV q,.bool gr])/\Hid (BW wr W)/\Hid (W.heap.size=wr.heap.size+1):=⟨_,rfl,(yae wr _ _ _ rfl).below (yaf bR),yaf (yaa bR _),by show (World.drew _).heap.size=_;rw [World.size_drew,World.size_alloc]⟩;refine wo 18 kr rfl fun K hK=>?_;go_simp;refine hK.out _ _ (fun hun=>HS.out _ B5.out) ?_;clear hK K;try simp only [ap,aq,sa,sb,sc]
     try with_reducible rw [hW5]
     clear hW5;refine wo 19 kr rfl fun K hK=>?_;refine yd2 rfl (.tmp 58) (.tmp 75) 22 rfl (G+1) 81 i0 (.agg #[iZ,.bool false]) 2 16 Tryz.underlying22 hi hz0 hz1 hz2 rfl (by decide) (.slice vo k vc) k (yck l') (by rfl) (yah HO.out B5.out) (some (Ad wr.heap.size 0)) 1 1 [iV q,.bool gr] (by rfl) rfl (fun e=>by cases e) (fun ad e j u hu=>by cases e;rw [Addr.add_lit,T5.out.cell,Nat.zero_add];exact hu) (fun u hu=>by simp only [List.mem_cons,List.not_mem_nil,or_false] at hu;rcases hu with rfl | rfl <;> rfl) (by have:=HK8.out.2;unfold maxLen;omega) (by have:=HK8.out.2;omega) (by have:=HG.out.lt;have:=D5.out;omega) ?_
     intro v2 w6' hown2 hg2 _;have O2:=lh hown2;have G2:Hid (W5.grownBy w6' (Value.slice vo k vc).ownBlock):=hg2;have hneG:some G≠(Value.slice vo k vc).ownBlock:=fun e=>by have:=(HO.out.lt G e.symm).1;omega
     have GB:=lh (yaq (HG.out.below B5.out) hg2 hneG);have hneX:∀y,y<G->some y≠(Value.slice vo k vc).ownBlock:=fun y hy e=>by have:=(HO.out.lt y e.symm).1;omega
     have hs5:=HS.out W5 B5.out;have hs6:w6'.cell? (Ad G 1)=some (.slice vo k vc)/\w6'.cell? (Ad w.heap.size 1)=some (sL b o ts.length tc)/\w6'.cell? (Ad b (o+k*2))=some (iV x)/\w6'.cell? (Ad b (o+k*2+1))=some (.bool gr):=⟨hg2.cell hs5.1 hneG,hg2.cell hs5.2.1 (hneX w.heap.size (by have:=HGN.out;omega)),hg2.cell hs5.2.2.1 (hneX b (by have:=HGN.out;have:=HBT.out;omega)),hg2.cell hs5.2.2.2 (hneX b (by have:=HGN.out;have:=HBT.out;omega))⟩;clear hown2 hneG hneX hs5;refine hK.out _ _ (fun hun=>hs6) ?_;clear hK K;try simp only [ap,aq,sa,sb,sc]
     obtain ⟨vo2,vc2,rfl⟩:=ykj O2.out;refine wo 20 kr rfl fun K hK=>?_;go_simp;refine hK.out _ _ kd ?_;clear hK K;try simp only [ap,aq,sa,sb,sc]
     have g1:=GB.out.cell 1;have g1f:=GB.out.frozen 1;have gl:=GB.out.lt;refine wo 21 kr rfl fun K hK=>?_;go_simp;refine hK.out _ _ kd ?_;clear hK K;try simp only [ap,aq,sa,sb,sc]
     refine yal kr ?_ _;clear g1 g1f gl hs6 hsd
     go_wp2_with fail
     have ho2:(w6'.setCell (Ad G 1) (.slice vo2 (k+1) vc2)).ownsRow (G+1) 81 2 (.slice vo2 (k+1) vc2) (k+1) (yck (l'++[(q,gr)])):=yap (F:=[G]) (by rw [show yck (l'++[(q,gr)])=yck l'++[iV q,.bool gr] from by simp [yck]];exact O2.out) ((yab.refl _ _).sg _) (fun r hr hm=>by
      simp only [ms] at hm;have:=(O2.out.lt r hr).1;omega)
     have hbw:BW w3 w6':=(HW.out.trans (B5.out.mono HW.out.size)).grown hg2 (Nat.le_trans HW.out.size B5.out.size) (fun r hr=>by have:=(HO.out.lt r hr).1;have:=HGE.out;omega)
     have hrt:yd7 (l'++[(q,gr)])=true:= by
      unfold yd7;rw [List.all_append];simp only [Bool.and_eq_true,List.all_cons,List.all_nil,and_true,ydr];exact ⟨HL.out.2,by have:=HQ2.out;omega⟩
     go_roundg gg
     case measure=>omega
     case rel=>exact ⟨k+1,l'++[(q,gr)],_,by have:=HK8.out.1;omega,by have:=hlt8;omega,by go_num,⟨by rw [List.length_append,HL.out.1];rfl,hrt⟩,GB.out.set 1 _,ho2,hbw.trans ((yab.setCell (F:=[G]) (yab.refl _ _) (.inl (List.mem_cons_self ..)) _:yab [G] w6' _).to_below hbw.size (fun x hx=>by simp only [ms] at hx;have:=HGE.out;omega))⟩
    ·have hlt8:¬(k:Int)<8:=by omega
     have hdf:decide ((k:Int)<8)=false:=decide_eq_false hlt8;exact zq360a6e
   ·have hlt:¬(k:Int)<(ts.length:Int):=by omega
    have hdf:decide ((k:Int)<(ts.length:Int))=false:=decide_eq_false hlt
    by_cases hk00:k=0
    ·obtain rfl:k=0:=by omega
     have g1:=HG.out.cell 1;have g1f:=HG.out.frozen 1;have kg:=HG.out.lt
     obtain ⟨W9,hW9,N9,HG9,B9,R9⟩:∃W,(wr.alloc (.cells #[iV 500000,.bool false] 81)).setCell (Ad G 1) (sL wr.heap.size 0 1 1)=W/\Hid (Blk W wr.heap.size 81 [iV 500000,.bool false])/\Hid (Blk W G 24 [iV q1,sL wr.heap.size 0 1 1,iV p2,iV p3,iV q4,iV q5,iV s0])/\Hid (BW w W)/\Hid (Blk W (w.heap.size+1) 24 [iZ,sZ,iZ,iZ,iZ,iZ,iZ]) :=
      ⟨_,rfl,(yae wr _ _ _ rfl).setOther om _ _,(HG.out.below (yaa bR _)).set 1 _,yao (yaa (yad B3.out HW.out) _) (by have:=HGN.out;omega),((R3.out.below HW.out).below (yaa bR _)).setOther (by have:=HGN.out;omega) _ _⟩
     go_upto_region 11 with fail
     try with_reducible rw [hW9]
     clear hW9 g1 g1f kg c1 kx;obtain ⟨g0,g1,g2,g3,g4,g5,g6,-⟩:=HG9.out.cs [0,1,2,3,4,5,6];simp only [gz,gs] at g0 g1 g2 g3 g4 g5 g6;have kg:=HG9.out.lt;have HZ:Hid (W9.heap[w.heap.size+1]?=some (.cells #[iZ,sZ,iZ,iZ,iZ,iZ,iZ] 24 (0,0))):=R9.out
     go_wp2_with (with_reducible refine yhs rfl (.tmp 2) (.tmp 85) rfl rfl (w.heap.size+1) #[iV q1,sL wr.heap.size 0 1 1,iV p2,iV p3,iV q4,iV q5,iV s0] rfl rfl _ HZ.out rfl rfl (by simp [Value.oneCell']) ?_)
     refine bodyPost_ret (v:=.agg #[iV q1,sL wr.heap.size 0 1 1,iV p2,iV p3,iV q4,iV q5,iV s0]) (results_cell_row (p:=2) (ty:=24) rfl _ _ (w.heap.size+1) 24 _ (0,0) _ rfl (setRow_heap _ _ _ _ _ _ HZ.out) Tryz.underlying24 rfl (by rw [yjo];rfl)) rfl ?_
     exact ynr (l:=[(500000,false)]) (yt8 N9.out) (fun b o m c e _ hm=>by
      cases e;have:=HGN.out;have:=HG.out.lt;simp only [ms] at hm;omega) B9.out (by decide) (by decide) HQ.out.1 HQ.out.2.1 HQ.out.2.2.1 HQ.out.2.2.2.1 HQ.out.2.2.2.2 HS0.out _
    ·exact zq360a6e
section
attribute [local go_sem ↓] Go.wp_at_zero Go.wp_at_succ
theorem jc4 (op:BinOp) (x y:Operand) (xs ys:Array Value) (W:World):(eqGuard op 65 x y (.agg xs) (.agg ys)).run Tryz.prog W=.ok () W:=run_eqGuard_agg W op _ x y xs ys kr
theorem jdg (a b c:Int) (W:World):(binOp .eql 65 (.agg #[iV a,iV b,iV c]) (.agg #[iV a,iV b,iV c])).run Tryz.prog W=.ok (.bool true) W:= by
 have u2:=Tryz.underlying2;have a2:=Tryz.isAgg2;have z2:=Tryz.sizeOf2;have hS:Tryz.prog.underlying 65=some (.struct (Tryz.prog.fieldsOf 65)):=by kernel_rfl
 have hp:Tryz.prog.stoodInHeld 65=false:=by kernel_rfl
 rw [run_eql_struct,show (10000:Nat)=9999+1 from rfl,run_equalIn_agg W 9999 65 _ _ hS hp];simp only [Program.fieldsOf,Tryz.underlying65];go_simp
attribute [local go_sem] jc4
theorem jc7 (a b c:Int) (w:World):Calls Tryz.prog 85 #[.agg #[iV a,iV b,iV c],.agg #[iV a,iV b,iV c]] w (RetB (.bool true) w):= by
 have ht:=fun W:World=>jdg a b c W
 go_enter Tryz.func85,Tryz.ntmps85
 go_wp2
 go_ret
 exact ⟨rfl,bL⟩
theorem LnS.getS {w:World} {ao:Option Addr} {n cap:Nat} {ls:List (Int×Int×Int)} (h:LnS w (.slice ao n cap) ls) {i:Nat} (hi:i<ls.length) :
 ∃b o x y z,ao=some (Ad b o)/\w.cell? (Ad b (o+i*3))=some (iV x)/\w.cell? (Ad b (o+i*3+1))=some (iV y)/\w.cell? (Ad b (o+i*3+2))=some (iV z)/\Hid (ls.getD i (0,0,0)=(x,y,z)):= by
 obtain ⟨ao',cap',e,h1,h2,h3⟩:=h;cases e;obtain ⟨b,o,rfl,hc⟩:=h3 (by intro h;rw [h] at hi;simp at hi);exact ⟨b,o,_,_,_,rfl,(hc i hi).1,(hc i hi).2.1,(hc i hi).2.2,rfl⟩
theorem jcb (v u:Value) (xs:List (Int×Int×Int)) (w:World) (hv:LnS w v xs) (hu:LnS w u xs) :
 Calls Tryz.prog 84 #[v,u,.func (.func 85) #[] #[]] w (RetB (.bool true) w):= by
 have HV:=lh hv;have HU:=lh hu;obtain ⟨ao,cap,rfl,h1,⟨h2,_⟩,h3⟩:=hv;obtain ⟨ao',cap',rfl,h1',⟨h2',_⟩,h3'⟩:=hu;unfold maxLen at h2 h2';clear h3 h3';have hlb:((xs.length:Int) != (xs.length:Int))=false:=by simp
 go_enter Tryz.func84,Tryz.ntmps84
 go_wp2
 go_loopw [7] (fun i wr=>∃k:Nat,k<=xs.length/\i=iV k/\BW w wr) (fun i _=>xs.length-(intOf i).toNat)
 case atStart=>exact ⟨0,Nat.zero_le _,rfl,bR⟩
 case round =>
  obtain ⟨k,hk,rfl,hb⟩:=hrel
  by_cases hlt:k<xs.length
  ·have hki:(k:Int)<(xs.length:Int):=by omega
   have hk0:(0:Int)<=(k:Int):=by omega
   obtain ⟨b,o,x,y,z,rfl,f0,f1,f2,HX⟩:=(HV.out.below hb).getS (i:=k) hlt;obtain ⟨b',o',x',y',z',rfl,f3,f4,f5,HY⟩:=(HU.out.below hb).getS (i:=k) hlt
   obtain ⟨rfl,rfl,rfl⟩:x=x'/\y=y'/\z=z':= by
    have h1:=HX.out;rw [HY.out] at h1;simp only [Prod.mk.injEq] at h1;exact ⟨h1.1.symm,h1.2.1.symm,h1.2.2.symm⟩
   go_wp2_with fail
   go_region_held3 (fun w'=>w'.cell? (Ad b (o+k*3))=some (iV x)/\w'.cell? (Ad b (o+k*3+1))=some (iV y)/\w'.cell? (Ad b (o+k*3+2))=some (iV z)/\w'.cell? (Ad b' (o'+k*3))=some (iV x)/\w'.cell? (Ad b' (o'+k*3+1))=some (iV y)/\w'.cell? (Ad b' (o'+k*3+2))=some (iV z))
    (first | assumption | exact ⟨f0,f1,f2,f3,f4,f5⟩)
    (first | (go_at_call 85;refine (jc7 x y z _).mono ?_;rintro e w1 ⟨rfl,hb1⟩;have hbw1:BW w w1:=(by first | exact yad hb hb1 | exact yad (yaf hb) hb1);have hS1:w1.cell? (Ad b (o+k*3))=some (iV x)/\w1.cell? (Ad b (o+k*3+1))=some (iV y)/\w1.cell? (Ad b (o+k*3+2))=some (iV z)/\w1.cell? (Ad b' (o'+k*3))=some (iV x)/\w1.cell? (Ad b' (o'+k*3+1))=some (iV y)/\w1.cell? (Ad b' (o'+k*3+2))=some (iV z):=⟨(hb1.cell (p:=(Ad b (o+k*3))) (yac f0)).trans f0,(hb1.cell (p:=(Ad b (o+k*3+1))) (yac f1)).trans f1,(hb1.cell (p:=(Ad b (o+k*3+2))) (yac f2)).trans f2,(hb1.cell (p:=(Ad b' (o'+k*3))) (yac f3)).trans f3,(hb1.cell (p:=(Ad b' (o'+k*3+1))) (yac f4)).trans f4,(hb1.cell (p:=(Ad b' (o'+k*3+2))) (yac f5)).trans f5⟩))
   all_goals
    clear hS1 f0 f1 f2 f3 f4 f5;go_wp2
    go_roundw
    case rel=>exact ⟨k+1,hlt,by go_num,hbw1⟩
    case measure=>simp [intOf];omega
  ·go_wp2
   go_ret
   exact ⟨rfl,hb⟩
theorem jbz (v u:Value) (xs:List (Int×Int×Int)) (w:World) (hv:LnS w v xs) (hu:LnS w u xs) :
 Calls Tryz.prog 51 #[v,u] w (RetB (.bool true) w):= by
 go_enter Tryz.func51,Tryz.ntmps51
 go_wp2_with (go_at_call 84;refine (jcb _ _ xs _ hv hu).mono ?_;rintro e w' ⟨rfl,hb⟩)
 go_ret
 exact ⟨rfl,hb⟩
theorem jb9 (op:BinOp) (x y:Operand) (xs ys:Array Value) (W:World):(eqGuard op 40 x y (.agg xs) (.agg ys)).run Tryz.prog W=.ok () W:=run_eqGuard_agg W op _ x y xs ys kr
theorem jcz (a b:Int) (W:World):(binOp .eql 40 (.agg #[iV a,iV b]) (.agg #[iV a,iV b])).run Tryz.prog W=.ok (.bool true) W:= by
 have u2:=Tryz.underlying3;have a2:=Tryz.isAgg3;have z2:=Tryz.sizeOf3;have hS:Tryz.prog.underlying 40=some (.struct (Tryz.prog.fieldsOf 40)):=by kernel_rfl
 have hp:Tryz.prog.stoodInHeld 40=false:=by kernel_rfl
 rw [run_eql_struct,show (10000:Nat)=9999+1 from rfl,run_equalIn_agg W 9999 40 _ _ hS hp];simp only [Program.fieldsOf,Tryz.underlying40];go_simp
attribute [local go_sem] jb9
theorem jdf (w:World) (e:TypeId) (xs ys:List Value):Hid (Blk ((w.alloc (.cells xs.toArray e)).alloc (.cells ys.toArray e)) w.heap.size e xs)/\Hid (Blk ((w.alloc (.cells xs.toArray e)).alloc (.cells ys.toArray e)) (w.heap.size+1) e ys)/\Hid (BW w ((w.alloc (.cells xs.toArray e)).alloc (.cells ys.toArray e))):= by
 refine ⟨Blk.below (heap_alloc_new w _) (yaa bR _),?_,yaa (yaa bR _) _⟩;have:=heap_alloc_new (w.alloc (.cells xs.toArray e)) (.cells ys.toArray e);rw [World.size_alloc] at this;exact this
theorem jbr (v u:Value) (ls:List (Int×Int×Int)) (n fr til du t c m:Int) (g:Bool) (w:World) (hv:LnS w v ls) (hu:LnS w u ls) :
 Calls Tryz.prog 25 #[.agg #[iV n,iV fr,iV til,iV du,v,iV t,iV c,iV m,.bool g],.agg #[iV n,iV fr,iV til,iV du,u,iV t,iV c,iV m,.bool g]] w (RetB (.bool true) w):= by
 have HV:=lh hv;have HU:=lh hu;obtain ⟨ao,cap,rfl⟩:=hv.shape;obtain ⟨ao',cap',rfl⟩:=hu.shape;clear hv hu;have hsp:=fun W=>jcz fr til W;obtain ⟨HA,HB,HW0⟩:=jdf w 43 [iV n,iV fr,iV til,iV du,.slice ao ls.length cap,iV t,iV c,iV m,.bool g] [iV n,iV fr,iV til,iV du,.slice ao' ls.length cap',iV t,iV c,iV m,.bool g]
 go_enter Tryz.func25,Tryz.ntmps25
 go_wp2_with fail
 refine (jbz _ _ ls _ (HV.out.below HW0.out) (HU.out.below HW0.out)).mono ?_;rintro _ w1 ⟨rfl,hb1⟩;have hA:=HA.out.below hb1;have hB:=HB.out.below hb1;obtain ⟨a0,a1,a2,a3,a4,a5,a6,a7,a8,-⟩:=hA.cs [0,1,2,3,4,5,6,7,8];simp only [gz,gs] at a0 a1 a2 a3 a4 a5 a6 a7 a8;obtain ⟨b0,b1,b2,b3,b4,b5,b6,b7,b8,-⟩:=hB.cs [0,1,2,3,4,5,6,7,8];simp only [gz,gs] at b0 b1 b2 b3 b4 b5 b6 b7 b8;have HBF:=lh (yad HW0.out hb1);clear hA hB hb1
 go_wp2_with fail
 go_ret
 exact ⟨rfl,HBF.out⟩
theorem jbm (v u:Value) (bs:List Int) (c d:Int) (w:World) (hv:Sl .i64 w v bs) (hu:Sl .i64 w u bs) :
 Calls Tryz.prog 22 #[.agg #[v,iV c,iV d],.agg #[u,iV c,iV d]] w (RetB (.bool true) w):= by
 have HV:=lh hv;have HU:=lh hu;obtain ⟨ao,cap,rfl,h1,⟨h2,hnn⟩,h3⟩:=hv;clear h3 hnn;obtain ⟨ao',cap',rfl,h1',⟨h2',hnn⟩,h3⟩:=hu;clear h3 hnn;unfold maxLen at h2 h2';have hW0:BW w ((w.alloc (.cells #[.slice ao bs.length cap,iV c,iV d] 35)).alloc (.cells #[.slice ao' bs.length cap',iV c,iV d] 35)):=yaa (yaa bR _) _;have HE:Hid ((bs == bs)=true):=by show _=_;simp
 have HA:Hid (Blk ((w.alloc (.cells #[.slice ao bs.length cap,iV c,iV d] 35)).alloc (.cells #[.slice ao' bs.length cap',iV c,iV d] 35)) w.heap.size 35 [.slice ao bs.length cap,iV c,iV d]):=Blk.below (heap_alloc_new w _) (yaa bR _)
 have HB:Hid (Blk ((w.alloc (.cells #[.slice ao bs.length cap,iV c,iV d] 35)).alloc (.cells #[.slice ao' bs.length cap',iV c,iV d] 35)) (w.heap.size+1) 35 [.slice ao' bs.length cap',iV c,iV d]):= by
  have:=heap_alloc_new (w.alloc (.cells #[.slice ao bs.length cap,iV c,iV d] 35)) (.cells #[.slice ao' bs.length cap',iV c,iV d] 35)
  simpa [Blk,Hid] using this
 have HW0:=lh hW0;clear hW0
 go_enter Tryz.func22,Tryz.ntmps22
 go_wp2_with fail
 refine (jbe _ _ bs bs true HE _ (HV.out.below HW0.out) (HU.out.below HW0.out)).mono ?_;rintro _ w1 ⟨rfl,hb1⟩;have hA:=HA.out.below hb1;have hB:=HB.out.below hb1;obtain ⟨a0,a1,a2,-⟩:=hA.cs [0,1,2];obtain ⟨b0,b1,b2,-⟩:=hB.cs [0,1,2];simp only [gz,gs] at a0 a1 a2 b0 b1 b2;have HBF:=lh (yad HW0.out hb1);clear hA hB hb1
 go_wp2_with fail
 go_ret
 exact ⟨rfl,HBF.out⟩
end
def C9 (w:World) (b p:Nat) (s:St) (lv:Value):Prop:=w.cell? (Ad b p)=some (iV s.n)/\w.cell? (Ad b (p+1))=some (iV s.fr)/\w.cell? (Ad b (p+2))=some (iV s.til)/\w.cell? (Ad b (p+3))=some (iV s.du)/\w.cell? (Ad b (p+4))=some lv/\w.cell? (Ad b (p+5))=some (iV s.tot)/\w.cell? (Ad b (p+6))=some (iV s.cr)/\w.cell? (Ad b (p+7))=some (iV s.mn)/\w.cell? (Ad b (p+8))=some (.bool s.g)
theorem C9.below {w w':World} {b p:Nat} {s:St} {lv:Value} (h:C9 w b p s lv) (hb:BW w w'):C9 w' b p s lv:= by
 have q:∀i v,w.cell? (Ad b i)=some v->w'.cell? (Ad b i)=some v:=fun i v hv=>(hb.cell (p:=(Ad b i)) (yac hv)).trans hv;obtain ⟨f0,f1,f2,f3,f4,f5,f6,f7,f8⟩:=h;exact ⟨q _ _ f0,q _ _ f1,q _ _ f2,q _ _ f3,q _ _ f4,q _ _ f5,q _ _ f6,q _ _ f7,q _ _ f8⟩
theorem jb0 (v u:Value) (xs:List St) (w:World) (hv:StS w v xs) (hu:StS w u xs) :
 Calls Tryz.prog 24 #[v,u,.func (.func 25) #[] #[]] w (RetB (.bool true) w):= by
 have HV:=lh hv;have HU:=lh hu;obtain ⟨ao,cap,rfl⟩:=hv.shape;obtain ⟨ao',cap',rfl⟩:=hu.shape;obtain ⟨_,hl1,hl2,_⟩:=Fl.len hv.choose_spec.2;obtain ⟨_,hl3,hl4,_⟩:=Fl.len hu.choose_spec.2;unfold maxLen at hl2 hl4;clear hv hu;have hlb:((xs.length:Int) != (xs.length:Int))=false:=by simp
 go_enter Tryz.func24,Tryz.ntmps24
 go_wp2
 go_loopw [7] (fun i wr=>∃k:Nat,k<=xs.length/\i=iV k/\BW w wr) (fun i _=>xs.length-(intOf i).toNat)
 case atStart=>exact ⟨0,Nat.zero_le _,rfl,bR⟩
 case round =>
  obtain ⟨k,hk,rfl,hb⟩:=hrel
  by_cases hlt:k<xs.length
  ·have hki:(k:Int)<(xs.length:Int):=by omega
   have hk0:(0:Int)<=(k:Int):=by omega
   obtain ⟨b,o,s,lv,rfl,hc,hl,HX⟩:=(HV.out.below hb).get (i:=k) hlt;obtain ⟨b',o',s',lv',rfl,hc',hl',HY⟩:=(HU.out.below hb).get (i:=k) hlt;obtain rfl:s=s':=HX.out.symm.trans HY.out;have HL:=lh (And.intro hl hl');have HC:Hid (C9 wr b (o+k*9) s lv):=hc;have HD:Hid (C9 wr b' (o'+k*9) s lv'):=hc';obtain ⟨f0,f1,f2,f3,f4,f5,f6,f7,f8⟩:=hc;obtain ⟨h0,h1,h2,h3,h4,h5,h6,h7,h8⟩:=hc';clear hl hl'
   go_wp2_with fail
   go_region_held3 (fun w'=>w'.cell? (Ad b (o+k*9))=some (iV s.n)/\w'.cell? (Ad b (o+k*9+1))=some (iV s.fr)/\w'.cell? (Ad b (o+k*9+2))=some (iV s.til)/\w'.cell? (Ad b (o+k*9+3))=some (iV s.du)/\w'.cell? (Ad b (o+k*9+4))=some lv/\w'.cell? (Ad b (o+k*9+5))=some (iV s.tot)/\w'.cell? (Ad b (o+k*9+6))=some (iV s.cr)/\w'.cell? (Ad b (o+k*9+7))=some (iV s.mn)/\w'.cell? (Ad b (o+k*9+8))=some (.bool s.g)/\w'.cell? (Ad b' (o'+k*9))=some (iV s.n)/\w'.cell? (Ad b' (o'+k*9+1))=some (iV s.fr)/\w'.cell? (Ad b' (o'+k*9+2))=some (iV s.til)/\w'.cell? (Ad b' (o'+k*9+3))=some (iV s.du)/\w'.cell? (Ad b' (o'+k*9+4))=some lv'/\w'.cell? (Ad b' (o'+k*9+5))=some (iV s.tot)/\w'.cell? (Ad b' (o'+k*9+6))=some (iV s.cr)/\w'.cell? (Ad b' (o'+k*9+7))=some (iV s.mn)/\w'.cell? (Ad b' (o'+k*9+8))=some (.bool s.g))
    (first | assumption | exact ⟨f0,f1,f2,f3,f4,f5,f6,f7,f8,h0,h1,h2,h3,h4,h5,h6,h7,h8⟩)
    (first | (go_at_call 25;refine (jbr lv lv' s.ls s.n s.fr s.til s.du s.tot s.cr s.mn s.g _ (by first | exact HL.out.1 | exact HL.out.1.below (yaf bR)) (by first | exact HL.out.2 | exact HL.out.2.below (yaf bR))).mono ?_;rintro e w1 ⟨rfl,hb1⟩;have hbw1:BW wr w1:=(by first | exact hb1 | exact yad (yaf bR) hb1);have hS1:w1.cell? (Ad b (o+k*9))=some (iV s.n)/\w1.cell? (Ad b (o+k*9+1))=some (iV s.fr)/\w1.cell? (Ad b (o+k*9+2))=some (iV s.til)/\w1.cell? (Ad b (o+k*9+3))=some (iV s.du)/\w1.cell? (Ad b (o+k*9+4))=some lv/\w1.cell? (Ad b (o+k*9+5))=some (iV s.tot)/\w1.cell? (Ad b (o+k*9+6))=some (iV s.cr)/\w1.cell? (Ad b (o+k*9+7))=some (iV s.mn)/\w1.cell? (Ad b (o+k*9+8))=some (.bool s.g)/\w1.cell? (Ad b' (o'+k*9))=some (iV s.n)/\w1.cell? (Ad b' (o'+k*9+1))=some (iV s.fr)/\w1.cell? (Ad b' (o'+k*9+2))=some (iV s.til)/\w1.cell? (Ad b' (o'+k*9+3))=some (iV s.du)/\w1.cell? (Ad b' (o'+k*9+4))=some lv'/\w1.cell? (Ad b' (o'+k*9+5))=some (iV s.tot)/\w1.cell? (Ad b' (o'+k*9+6))=some (iV s.cr)/\w1.cell? (Ad b' (o'+k*9+7))=some (iV s.mn)/\w1.cell? (Ad b' (o'+k*9+8))=some (.bool s.g):=by { have q1:=HC.out.below hbw1;have q2:=HD.out.below hbw1;obtain ⟨p0,p1,p2,p3,p4,p5,p6,p7,p8⟩:=q1;obtain ⟨r0,r1,r2,r3,r4,r5,r6,r7,r8⟩:=q2;exact ⟨p0,p1,p2,p3,p4,p5,p6,p7,p8,r0,r1,r2,r3,r4,r5,r6,r7,r8⟩ }))
   all_goals
    clear hS1 f0 h0 f1 h1 f2 h2 f3 h3 f4 h4 f5 h5 f6 h6 f7 h7 f8 h8;go_wp2
    go_roundw
    case rel=>exact ⟨k+1,hlt,by go_num,yad hb hbw1⟩
    case measure=>simp [intOf];omega
  ·go_wp2
   go_ret
   exact ⟨rfl,hb⟩
end Go.Proofs.YtkongpjpkpfniaaGreat

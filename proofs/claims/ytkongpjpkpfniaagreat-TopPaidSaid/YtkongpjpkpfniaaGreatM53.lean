/- TopPaid: parts of the proof, made small by a program (mini.py). -/
import Derived.Great.BuildSlice
import Derived.Test.YtkongpjpkpfniaaGreatM01
import Derived.Test.YtkongpjpkpfniaaGreatM04
import Derived.Test.YtkongpjpkpfniaaGreatM13
import Derived.Test.YtkongpjpkpfniaaGreatM14
import Derived.Test.YtkongpjpkpfniaaGreatM19
import Derived.Test.YtkongpjpkpfniaaGreatM22
import Derived.Test.YtkongpjpkpfniaaGreatM37
import Derived.Test.YtkongpjpkpfniaaGreatM39
set_option linter.unusedVariables false
set_option linter.unusedSimpArgs false
set_option maxRecDepth 100000
set_option maxHeartbeats 6400000
namespace Go.Proofs.YtkongpjpkpfniaaGreat
open Go.RowKit
theorem zq538cab {q:Prop} (h:q:= by
 have HK:Hid (1≤k∧k≤8):=by show _∧_;omega
 have hk0:(k:Int)≠0:=by omega
 have g0:=HG.out.cell 0;have g1:=HG.out.cell 1;have g2:=HG.out.cell 2;have g3:=HG.out.cell 3;have g4:=HG.out.cell 4;have g5:=HG.out.cell 5;have g6:=HG.out.cell 6;simp only [gz,gs] at g0 g1 g2 g3 g4 g5 g6;have kg:=HG.out.lt;have HZ:Hid (wr.heap[w.heap.size+1]?=some (.cells #[iZ,sZ,iZ,iZ,iZ,iZ,iZ] 24 (0,0))):=R3.out.below HW.out
 go_wp2_with (with_reducible refine yhs rfl (.tmp 2) (.tmp 85) rfl rfl (w.heap.size+1) #[iV q1,.slice vo k vc,iV p2,iV p3,iV q4,iV q5,iV s0] rfl rfl _ HZ.out rfl rfl (by simp [Value.oneCell']) ?_)
 refine bodyPost_ret (v:=.agg #[iV q1,.slice vo k vc,iV p2,iV p3,iV q4,iV q5,iV s0]) (results_cell_row (p:=2) (ty:=24) rfl _ _ (w.heap.size+1) 24 _ (0,0) _ rfl (setRow_heap _ _ _ _ _ _ HZ.out) Tryz.underlying24 rfl (by rw [yjo];rfl)) rfl ?_
 exact ynr (TrS.of_fl (Fl.of_own (by rw [HL.out.1];exact HO.out) (yei l'))) (fun b o m c e _ hm=>by
  have:=(HO.out.lt b (by rw [e];rfl)).1;have:=HGN.out;simp only [ms] at hm;omega) (yad B3.out HW.out) (by have:=HL.out.1;have:=HK.out;omega) HL.out.2 HQ.out.1 HQ.out.2.1 HQ.out.2.2.1 HQ.out.2.2.2.1 HQ.out.2.2.2.2 HS0.out _):q:=h
theorem yxj:(Tryz.prog.info? 48).map (fun i=>(i.zero,i.size,i.bytes))=some (some (.agg #[iZ,iZ,iZ,iZ,iZ]),5,40):=by kernel_rfl
def yy0 (n:Nat) (w:World) (e:Ending) (w':World):Prop:=∃u l,e=.returned u∧R5S w' u l∧l.length≤n∧Below w.heap.size w w'
theorem ykj {w:World} {base:Nat} {e:TypeId} {m n:Nat} {v:Value} {cs:List Value} (h:w.ownsRow base e m v n cs):∃ao c,v=.slice ao n c:= by
 obtain ⟨_,⟨rfl,rfl⟩ | ⟨_,_,_,rfl,_⟩⟩:=h
 ·exact ⟨_,_,rfl⟩
 ·exact ⟨_,_,rfl⟩
theorem ynd (v:Value) (l:List R5) (n:Nat) (hn:n≤1000) (w:World) (hv:R5S w v l):Calls Tryz.prog 7 #[v,iV (n:Int)] w (yy0 n w):= by
 have HV:=lh hv;obtain ⟨ao,cap,rfl⟩:=hv.shape;have hlen:=(Fl.len hv).2;unfold maxLen at hlen;obtain ⟨hlc,hcm,_⟩:=hlen;have HN:=lh hn;clear hv;obtain ⟨i0,hi,hz0,hz1,hz2⟩:=info_parts yxj
 go_enter Tryz.func7,Tryz.ntmps7
 go_wp2_with fail
 go_loopg [5,6,7] l.length (fun g y d x wr=>∃(k m:Nat) (l':List R5) (dd:Int),k+g=l.length∧x=iV (k:Int)∧d=iV dd∧m=l'.length∧m≤n∧Hid (wr.ownsRow w.heap.size 48 5 y m (yag l'))∧Hid (Below w.heap.size w wr))
 case atStart=>exact ⟨0,0,[],0,by omega,rfl,rfl,rfl,Nat.zero_le _,World.ownsRow_nil _ _ _ _,bR⟩
 case round =>
  obtain ⟨k,m,l',dd,hk,rfl,rfl,hm,hmn,HO,HB⟩:=hrel;obtain ⟨yo,yc,rfl⟩:=ykj HO.out;have HM:=lh (And.intro hm hmn);clear hm hmn;cases gk with
  | zero =>
   have hlt:¬((k:Int)<(l.length:Int)):=by omega
   have hdf:decide ((k:Int)<(l.length:Int))=false:=decide_eq_false hlt
   go_wp2_with fail
   go_ret
   exact ⟨_,l',rfl,R5S.of_own HO.out HM.out.1.symm,by have:=HM.out;omega,HB.out⟩
  | succ gg =>
   have hlt:(k:Int)<(l.length:Int):=by omega
   by_cases hmn:m<n
   ·have hmi:(m:Int)<(n:Int):=by omega
    obtain ⟨b,o,x,rfl,⟨c0,c1,c2,c3,c4⟩,HX⟩:=(HV.out.below HB.out).get (show k<l.length by omega);have hk1:wrap64 ((k:Int)+1)=(k:Int)+1:=IntWalk.wrap64_in _ ⟨by omega,by omega⟩;have HMN:=lh hmn;have HGK:=lh hk;obtain ⟨xa,xb,xc,xd,xe⟩:=x;simp only at c0 c1 c2 c3 c4;clear HX hmn hk;obtain ⟨W2,hW2,X2,B2,HBW⟩:∃W,wr.alloc (.cells #[iV xa,iV xb,iV xc,iV xd,iV xe] 48)=W∧Hid (Blk W wr.heap.size 48 [iV xa,iV xb,iV xc,iV xd,iV xe])∧Hid (Below w.heap.size w W)∧Hid (Below wr.heap.size wr W):=⟨_,rfl,yae wr _ _ _ rfl,yaa HB.out _,yaa bR _⟩;go_upto_region 7 with fail
    try with_reducible rw [hW2]
    clear hW2 c0 c1 c2 c3 c4;have c0:=X2.out.cell 0;have c1:=X2.out.cell 1;have c2:=X2.out.cell 2;have c3:=X2.out.cell 3;have c4:=X2.out.cell 4;simp only [gz,gs] at c0 c1 c2 c3 c4;have kx:=X2.out.lt;have HO2:Hid (W2.ownsRow w.heap.size 48 5 (.slice yo m yc) m (yag l')):=yah HO.out HBW.out
    have hm63:m+1≤maxLen:= by
     have:=HMN.out;have:=HN.out;unfold maxLen;omega
    have hm48:(m+1)*40≤140737488355328:= by
     have:=HMN.out;have:=HN.out;omega
    have hwz:w.heap.size≤W2.heap.size+1:=Nat.le_trans B2.out.size (Nat.le_succ _);have HWZ:=lh (And.intro hm63 (And.intro hm48 hwz));clear hm63 hm48 hwz;obtain ⟨q,hq⟩:∃q,wrap64 (dd+xb)=q:=⟨_,rfl⟩
    by_cases h8:xa=8
    ·subst h8
     by_cases h1:0<xb
     ·by_cases h4:400<q
      ·go_wp2_with fail
       go_roundg gg
       case measure=>omega
       case rel=>exact ⟨k+1,m,l',dd,by have:=HGK.out;omega,by go_num,rfl,HM.out.1,HM.out.2,HO2.out,B2.out⟩
      ·go_wp2_with (at_builtin;refine yas _ rfl (.tmp 42) (.tmp 44) 25 rfl w.heap.size 48 i0 (.agg #[iZ,iZ,iZ,iZ,iZ]) 5 40 Tryz.underlying25 hi hz0 hz1 hz2 rfl (by decide) _ _ _ rfl (HO2.out.alloc _) ⟨W2.heap.size,0,none⟩ 1 1 [_,_,_,_,_] rfl rfl (fun j u hu=>by rw [Addr.add_lit,(yae W2 _ _ _ rfl).cell,Nat.zero_add];exact hu) (fun u hu=>by simp only [List.mem_cons,List.not_mem_nil,or_false] at hu;rcases hu with rfl | rfl | rfl | rfl | rfl <;> rfl) HWZ.out.1 HWZ.out.2.1 (by rw [World.size_alloc];exact HWZ.out.2.2) ?_;intro v1 w4 hown4 hg4 hbk4;have HO4:=lh hown4;have HG4:=lh hg4;clear hown4 hg4 hbk4)
       go_roundg gg
       case measure=>omega
       case rel=>exact ⟨k+1,m+1,l'++[⟨8,xb,xc,xd,xe⟩],q,by have:=HGK.out;omega,by go_num,rfl,by rw [List.length_append,←HM.out.1];rfl,HMN.out,(show World.ownsRow _ _ _ _ _ _ _ from by rw [ybr];exact HO4.out),(yaa B2.out _).grown HG4.out (yaa B2.out _).size (fun k hk=>(HO2.out.lt k hk).1)⟩
     ·go_wp2_with (at_builtin;refine yas _ rfl (.tmp 42) (.tmp 44) 25 rfl w.heap.size 48 i0 (.agg #[iZ,iZ,iZ,iZ,iZ]) 5 40 Tryz.underlying25 hi hz0 hz1 hz2 rfl (by decide) _ _ _ rfl (HO2.out.alloc _) ⟨W2.heap.size,0,none⟩ 1 1 [_,_,_,_,_] rfl rfl (fun j u hu=>by rw [Addr.add_lit,(yae W2 _ _ _ rfl).cell,Nat.zero_add];exact hu) (fun u hu=>by simp only [List.mem_cons,List.not_mem_nil,or_false] at hu;rcases hu with rfl | rfl | rfl | rfl | rfl <;> rfl) HWZ.out.1 HWZ.out.2.1 (by rw [World.size_alloc];exact HWZ.out.2.2) ?_;intro v1 w4 hown4 hg4 hbk4;have HO4:=lh hown4;have HG4:=lh hg4;clear hown4 hg4 hbk4)
      go_roundg gg
      case measure=>omega
      case rel=>exact ⟨k+1,m+1,l'++[⟨8,xb,xc,xd,xe⟩],dd,by have:=HGK.out;omega,by go_num,rfl,by rw [List.length_append,←HM.out.1];rfl,HMN.out,(show World.ownsRow _ _ _ _ _ _ _ from by rw [ybr];exact HO4.out),(yaa B2.out _).grown HG4.out (yaa B2.out _).size (fun k hk=>(HO2.out.lt k hk).1)⟩
    ·have h8b:(xa == 8)=false:=by simpa using h8
     go_wp2_with (at_builtin;refine yas _ rfl (.tmp 42) (.tmp 44) 25 rfl w.heap.size 48 i0 (.agg #[iZ,iZ,iZ,iZ,iZ]) 5 40 Tryz.underlying25 hi hz0 hz1 hz2 rfl (by decide) _ _ _ rfl (HO2.out.alloc _) ⟨W2.heap.size,0,none⟩ 1 1 [_,_,_,_,_] rfl rfl (fun j u hu=>by rw [Addr.add_lit,(yae W2 _ _ _ rfl).cell,Nat.zero_add];exact hu) (fun u hu=>by simp only [List.mem_cons,List.not_mem_nil,or_false] at hu;rcases hu with rfl | rfl | rfl | rfl | rfl <;> rfl) HWZ.out.1 HWZ.out.2.1 (by rw [World.size_alloc];exact HWZ.out.2.2) ?_;intro v1 w4 hown4 hg4 hbk4;have HO4:=lh hown4;have HG4:=lh hg4;clear hown4 hg4 hbk4)
     go_roundg gg
     case measure=>omega
     case rel=>exact ⟨k+1,m+1,l'++[⟨xa,xb,xc,xd,xe⟩],dd,by have:=HGK.out;omega,by go_num,rfl,by rw [List.length_append,←HM.out.1];rfl,HMN.out,(show World.ownsRow _ _ _ _ _ _ _ from by rw [ybr];exact HO4.out),(yaa B2.out _).grown HG4.out (yaa B2.out _).size (fun k hk=>(HO2.out.lt k hk).1)⟩
   ·have hmi:¬(m:Int)<(n:Int):=by omega
    have hdf:decide ((m:Int)<(n:Int))=false:=decide_eq_false hmi
    go_wp2_with fail
    go_ret
    exact ⟨_,l',rfl,R5S.of_own HO.out HM.out.1.symm,by have:=HM.out;omega,HB.out⟩
def yr1 (w:World) (e:Ending) (w':World):Prop:=∃(t:Tm) (tv:Value),e=.returned (.agg (t.cells tv).toArray)∧t.right=true∧(10957≤t.start∧t.start≤11400)∧TrS w' tv t.ts∧Below w.heap.size w w'
theorem yeo (x:Int) (M:Nat) (hM:0<M) (hM2:M≤1000000000):∃r:Int,(IntKind.u64.wrap x).tmod (M:Int)=r∧0≤r∧r<(M:Int)∧wrap64 r=r:= by
 have h0:0≤IntKind.u64.wrap x:=by rw [IntKind.wrap_u64];omega
 have h1:=Int.emod_nonneg (IntKind.u64.wrap x) (show (M:Int)≠0 by omega);have h2:=Int.emod_lt_of_pos (IntKind.u64.wrap x) (show (0:Int)<M by omega);rw [←Int.tmod_eq_emod_of_nonneg h0] at h1 h2;exact ⟨_,rfl,h1,h2,IntWalk.wrap64_in _ ⟨by omega,by omega⟩⟩
theorem yxh:(Tryz.prog.info? 81).map (fun i=>(i.zero,i.size,i.bytes))=some (some (.agg #[iZ,.bool false]),2,16):=by kernel_rfl
theorem yjo:(Tryz.prog.info? 24).map (·.size)=some 7:=by kernel_rfl
theorem yhs {ops:Array Oper} {rest:List Oper} {o:Oper} {a:Act} {w:World} {Q:Exit→Act→World→Prop} (hgd:o.guard=none) (x y:Operand) (ho:o.op=.store 24 x y)
 (hd:o.dst=none) (g:Nat) (cells:Array Value) (hx:a.eval x=pV g) (hy:a.eval y=.agg cells) (old:Array Value) (hg:w.heap[g]?=some (.cells old 24 (0,0))) (hs:cells.size=7) (hs2:old.size=7)
 (h1:cells.all (·.oneCell')=true) (h:wpList Tryz.prog ops Q rest a (w.setRow g cells)):wpList Tryz.prog ops Q (o::rest) a w :=
 wpList_store_rowTo hgd 24 x y ho hd g cells hx hy 24 old hg (by rw [yjo,hs]) (by rw [hs,hs2]) h1 h
theorem ynr {w W:World} {q1 p2 p3 q4 q5 s0:Int} {v:Value} {l:List (Int×Bool)} (hv:TrS W v l) (ho:OffF [w.heap.size+1] v) (hb:Below w.heap.size w W) (hn:1≤l.length∧l.length≤8) (hr:yd7 l=true)
 (h1:0≤q1∧q1<100000) (h2:1≤p2∧p2≤28) (h3:1≤p3∧p3≤25) (h4:0≤q4∧q4<100) (h5:0≤q5∧q5<101) (h6:10957≤s0∧s0≤11400) (cells:Array Value) :
 yr1 w (.returned (.agg #[iV q1,v,iV p2,iV p3,iV q4,iV q5,iV s0])) (W.setRow (w.heap.size+1) cells):= by
 refine ⟨⟨q1,l,p2,p3,q4,q5,s0⟩,v,rfl,?_,h6,hv.keep (F:=[w.heap.size+1]) ((yab.refl _ _).setRow (.inl (List.mem_cons_self ..)) _) ho,ybl hb om _⟩;unfold Tm.right yaw;simp only [hr,Bool.and_eq_true,ydr,and_true];omega
theorem yt8 {W:World} {g:Nat} (h:Blk W g 81 [iV 500000,.bool false]):TrS W (.slice (some ⟨g,0,none⟩) 1 1) [(500000,false)]:= by
 refine TrS.of_fl (l:=[(500000,false)]) ⟨rfl,yei _,_,_,rfl,Nat.le_refl _,⟨by simp [maxLen],fun e=>by cases e⟩,fun _=>⟨g,0,rfl,fun i hi=>?_⟩⟩;rw [h.cell,Nat.zero_add]
 rfl
theorem ymv (t:Tm) (tv:Value) (w:World) (hv:TrS w tv t.ts):Calls Tryz.prog 6 #[.agg (t.cells tv).toArray] w (yr1 w):= by
 have HV:=lh hv;obtain ⟨tao,tc,rfl⟩:=hv.shape;obtain ⟨lim,ts,cyc,dued,minf,minp,start⟩:=t;simp only at *;unfold Tm.cells;simp only;clear hv
 obtain ⟨W1,hW1,X1,R1,B1⟩:∃W,((w.alloc (.cells #[iV lim,.slice tao ts.length tc,iV cyc,iV dued,iV minf,iV minp,iV start] 24)).alloc (.cells #[iZ,sZ,iZ,iZ,iZ,iZ,iZ] 24))=W∧Hid (Blk W w.heap.size 24 [iV lim,.slice tao ts.length tc,iV cyc,iV dued,iV minf,iV minp,iV start])∧Hid (Blk W (w.heap.size+1) 24 [iZ,sZ,iZ,iZ,iZ,iZ,iZ])∧Hid (Below w.heap.size w W) :=
  ⟨_,rfl,(yae w _ _ _ rfl).below (yaa bR _),yae _ _ _ _ (World.size_alloc _ _),yaa (yaa bR _) _⟩
 go_enter Tryz.func6,Tryz.ntmps6
 go_upto_region 1 with fail
 try with_reducible rw [hW1]
 clear hW1;have c6:=X1.out.cell 6;simp only [gz,gs] at c6;have cf6:=X1.out.frozen 6;have kx:=X1.out.lt;go_upto_region 2 with fail
 obtain ⟨q0,e0,a0,b0,w0⟩:=yeo start 400 (by decide) (by decide);have w1:wrap64 (10957+q0)=10957+q0:=IntWalk.wrap64_in _ ⟨by omega,by omega⟩;have e0':(IntKind.u64.wrap start).tmod 400=q0:=e0;rw [e0',w0,w1];obtain ⟨s0,hs0,HS0⟩:∃s0,10957+q0=s0∧Hid (10957≤s0∧s0≤11400):=⟨_,rfl,by show _∧_;omega⟩;rw [hs0];obtain ⟨W2,hW2,X2,R2,B2⟩:∃W,W1.setCell ⟨w.heap.size,6,none⟩ (iV s0)=W∧Hid (Blk W w.heap.size 24 [iV lim,.slice tao ts.length tc,iV cyc,iV dued,iV minf,iV minp,iV s0])∧Hid (Blk W (w.heap.size+1) 24 [iZ,sZ,iZ,iZ,iZ,iZ,iZ])∧Hid (Below w.heap.size w W):=⟨_,rfl,X1.out.set 6 _,R1.out.setOther om _ _,yao B1.out (Nat.le_refl _)⟩
 with_reducible rw [hW2]
 clear hW2 e0 e0' a0 b0 w0 w1 hs0 c6 cf6 kx;have c0:=X2.out.cell 0;have c1:=X2.out.cell 1;have c2:=X2.out.cell 2;have c3:=X2.out.cell 3;have c4:=X2.out.cell 4;have c5:=X2.out.cell 5;have c6:=X2.out.cell 6;simp only [gz,gs] at c0 c1 c2 c3 c4 c5 c6;have kx:=X2.out.lt;cases hR:yaw lim ts cyc dued minf minp s0 with
 | true =>
  have HR0:Hid ((if yaw lim ts cyc dued minf minp s0=true then (0:Int) else 6)=0):=by rw [hR];rfl
  have HRT:=lh hR;clear hR
  go_wp2_with fail
  refine (yit _ ts lim cyc dued minf minp s0 0 HR0 _ (HV.out.below B2.out)).mono ?_;rintro _ w3 ⟨rfl,hb3⟩;have X3:=lh (X2.out.below hb3);have R3:=lh (R2.out.below hb3);have B3:Hid (Below w.heap.size w w3):=yad B2.out hb3;clear c0 c1 c2 c3 c4 c5 c6 kx hb3;have c0:=X3.out.cell 0;have c1:=X3.out.cell 1;have c2:=X3.out.cell 2;have c3:=X3.out.cell 3;have c4:=X3.out.cell 4;have c5:=X3.out.cell 5;have c6:=X3.out.cell 6;simp only [gz,gs] at c0 c1 c2 c3 c4 c5 c6;have kx:=X3.out.lt;have HZ:Hid (w3.heap[w.heap.size+1]?=some (.cells #[iZ,sZ,iZ,iZ,iZ,iZ,iZ] 24 (0,0))):=R3.out
  go_wp2_with (with_reducible refine yhs rfl (.tmp 2) (.tmp 15) rfl rfl (w.heap.size+1) #[iV lim,.slice tao ts.length tc,iV cyc,iV dued,iV minf,iV minp,iV s0] rfl rfl _ HZ.out rfl rfl (by simp [Value.oneCell']) ?_)
  refine bodyPost_ret (v:=.agg #[iV lim,.slice tao ts.length tc,iV cyc,iV dued,iV minf,iV minp,iV s0]) (results_cell_row (p:=2) (ty:=24) rfl _ _ (w.heap.size+1) 24 _ (0,0) _ rfl (setRow_heap _ _ _ _ _ _ HZ.out) Tryz.underlying24 rfl (by rw [yjo];rfl)) rfl ⟨⟨lim,ts,cyc,dued,minf,minp,s0⟩,.slice tao ts.length tc,rfl,HRT.out,HS0.out,?_,?_⟩
  ·exact (HV.out.below B3.out).keep (F:=[w.heap.size+1]) ((yab.refl _ _).setRow (.inl (List.mem_cons_self ..)) _) (Fl.offNew HV.out.fl (by decide) (fun x hx=>by simp only [ms] at hx;omega))
  ·exact ybl B3.out om _
 | false =>
  have HR0:Hid ((if yaw lim ts cyc dued minf minp s0=true then (0:Int) else 6)=6):=by rw [hR];rfl
  clear hR
  go_wp2_with fail
  refine (yit _ ts lim cyc dued minf minp s0 6 HR0 _ (HV.out.below B2.out)).mono ?_;rintro _ w3 ⟨rfl,hb3⟩;have X3:=lh (X2.out.below hb3);have R3:=lh (R2.out.below hb3);have B3:Hid (Below w.heap.size w w3):=yad B2.out hb3;clear c0 c1 c2 c3 c4 c5 c6 kx hb3;have c0:=X3.out.cell 0;have c1:=X3.out.cell 1;have c2:=X3.out.cell 2;have c3:=X3.out.cell 3;have c4:=X3.out.cell 4;have c5:=X3.out.cell 5;have c6:=X3.out.cell 6;simp only [gz,gs] at c0 c1 c2 c3 c4 c5 c6;have kx:=X3.out.lt;obtain ⟨q1,e1,a1,b1,w1⟩:=yeo lim 100000 (by decide) (by decide);obtain ⟨q2,e2,a2,b2,w2⟩:=yeo cyc 28 (by decide) (by decide);obtain ⟨q3,e3,a3,b3,w3'⟩:=yeo dued 25 (by decide) (by decide);obtain ⟨q4,e4,a4,b4,w4⟩:=yeo minf 100 (by decide) (by decide);obtain ⟨q5,e5,a5,b5,w5⟩:=yeo minp 101 (by decide) (by decide);obtain ⟨p2,d2,f2⟩:∃p,wrap64 (1+q2)=p∧1≤p∧p≤28:=⟨1+q2,IntWalk.wrap64_in _ ⟨by omega,by omega⟩,by omega⟩;obtain ⟨p3,d3,f3⟩:∃p,wrap64 (1+q3)=p∧1≤p∧p≤25:=⟨1+q3,IntWalk.wrap64_in _ ⟨by omega,by omega⟩,by omega⟩;have e1':(IntKind.u64.wrap lim).tmod 100000=q1:=e1;have e2':(IntKind.u64.wrap cyc).tmod 28=q2:=e2;have e3':(IntKind.u64.wrap dued).tmod 25=q3:=e3;have e4':(IntKind.u64.wrap minf).tmod 100=q4:=e4;have e5':(IntKind.u64.wrap minp).tmod 101=q5:=e5;have HQ:=lh (And.intro (And.intro a1 b1) (And.intro f2 (And.intro f3 (And.intro (And.intro a4 b4) (And.intro a5 b5)))));clear e1 e2 e3 e4 e5 a1 a2 a3 a4 a5 b1 b2 b3 b4 b5 f2 f3;obtain ⟨G,hG,HGN⟩:∃G,w3.heap.size=G∧Hid (w.heap.size+1<G):=⟨_,rfl,by show _<_;have:=R3.out.lt;exact this⟩;obtain ⟨W4,hW4,G4,B4⟩:∃W,w3.alloc (.cells #[iV q1,sZ,iV p2,iV p3,iV q4,iV q5,iV s0] 24)=W∧Hid (Blk W G 24 [iV q1,sZ,iV p2,iV p3,iV q4,iV q5,iV s0])∧Hid (Below w3.heap.size w3 W):=⟨_,rfl,yae w3 _ _ _ hG,yaa bR _⟩;have HG0:Hid (G+1≤W4.heap.size):=G4.out.lt;obtain ⟨i0,hi,hz0,hz1,hz2⟩:=info_parts yxh;go_upto_region 5 with fail
  try with_reducible rw [hW4]
  clear hW4 c0 c1 c2 c3 c4 c5 c6 kx w1 w2 w3' w4 w5 d2 d3 e1' e2' e3' e4' e5';try with_reducible rw [hG]
  have HGE:Hid (w3.heap.size=G):=hG;clear hG
  go_wp2_with fail
  go_loopg [4] ts.length (fun g x wr=>∃(k:Nat) (l':List (Int×Bool)) (v:Value),k+g=ts.length∧k≤8∧x=iV (k:Int)∧Hid (l'.length=k∧yd7 l'=true)∧Hid (Blk wr G 24 [iV q1,v,iV p2,iV p3,iV q4,iV q5,iV s0])∧Hid (wr.ownsRow (G+1) 81 2 v k (yck l'))∧Hid (Below w3.heap.size w3 wr))
  case atStart=>exact ⟨0,[],_,by omega,by omega,rfl,⟨rfl,rfl⟩,G4.out,yel _ _ _ _,B4.out⟩
  case round =>
   obtain ⟨k,l',v,hkg,hk8,rfl,HL,HG,HO,HW⟩:=hrel;obtain ⟨vo,vc,rfl⟩:=ykj HO.out;have X4:=lh (X3.out.below HW.out);have c1:=X4.out.cell 1;simp only [gz,gs] at c1;have kx:=X4.out.lt
   by_cases hkt:k<ts.length
   ·have hlt:(k:Int)<(ts.length:Int):=by omega
    by_cases hkk:k<8
    ·have hlt8:(k:Int)<8:=by omega
     obtain ⟨gg,rfl⟩:∃gg,gk=gg+1:=⟨gk-1,by omega⟩;obtain ⟨b,o,x,gr,rfl,t0,t1,HX⟩:=(HV.out.below (yad B3.out HW.out)).get (show k<ts.length by omega);obtain ⟨q,e6,a6,b6,w6⟩:=yeo x 3000000 (by decide) (by decide);have e6':(IntKind.u64.wrap x).tmod 3000000=q:=e6;have HQ2:Hid (0≤q∧q<3000000):=⟨a6,b6⟩;have HBT:Hid (b<w.heap.size):=HV.out.fl.blt (by decide) rfl om;have hk1:wrap64 ((k:Int)+1)=(k:Int)+1:=IntWalk.wrap64_in _ ⟨by omega,by omega⟩;have HK8:=lh (And.intro hkg hk8);have HS:Hid (∀W',Below wr.heap.size wr W'→W'.cell? ⟨G,1,none⟩=some (.slice vo k vc)∧W'.cell? ⟨w.heap.size,1,none⟩=some (.slice (some ⟨b,o,none⟩) ts.length tc)∧W'.cell? ⟨b,o+k*2,none⟩=some (iV x)∧W'.cell? ⟨b,o+k*2+1,none⟩=some (.bool gr)):=fun W' hW=>⟨(HG.out.below hW).cell 1,((X3.out.below HW.out).below hW).cell 1,(hW.cell (yac t0)).trans t0,(hW.cell (yac t1)).trans t1⟩;have hsd:=HS.out wr.drew (yaf bR);clear e6 a6 b6 HX t0 t1 hkg hk8;go_upto_region 8 with fail
     refine yan (fun W'=>W'.cell? ⟨G,1,none⟩=some (.slice vo k vc)∧W'.cell? ⟨w.heap.size,1,none⟩=some (.slice (some ⟨b,o,none⟩) ts.length tc)∧W'.cell? ⟨b,o+k*2,none⟩=some (iV x)∧W'.cell? ⟨b,o+k*2+1,none⟩=some (.bool gr)) 20 kr ?_;refine tk 0 rfl kr ke rfl kv ka kp ?_;refine tk 1 rfl kr ke rfl kv ka kp ?_;refine tk 2 rfl kr ke rfl kv ka kp ?_;refine tk 3 rfl kr ke rfl kv ka kp ?_;refine tk 4 rfl kr ke rfl kv ka kp ?_;refine tk 5 rfl kr ke rfl kv ka kp ?_;refine tk 6 rfl kr ke rfl kv ka kp ?_;refine tk 7 rfl kr ke rfl kv ka kp ?_;refine tk 8 rfl kr ke rfl kv ka kp ?_;refine tk 9 rfl kr ke rfl kv ka kp ?_;refine tk 10 rfl kr ke rfl kv ka kp ?_;refine tk 11 rfl kr ke rfl kv ka kp ?_;refine tk 12 rfl kr ke rfl kv ka kp ?_;refine tk 13 rfl kr ke rfl kv ka kp ?_;refine tk 14 rfl kr ke rfl kv ka kp ?_;refine tk 15 rfl kr ke rfl kv ka kp ?_;refine tk 16 rfl kr ke rfl kv ka kp ?_;refine tk 17 rfl kr ke rfl kv ka kp ?_;have w6i:IntKind.i64.wrap q=q:=by rw [IntKind.wrap_i64];have:=HQ2.out;omega
     try simp only [e6',w6,w6i]
     obtain ⟨W5,hW5,T5,B5,D5⟩:∃W,(wr.alloc (.cells #[iV q,.bool gr] 81)).drew=W∧Hid (Blk W wr.heap.size 81 [iV q,.bool gr])∧Hid (Below wr.heap.size wr W)∧Hid (W.heap.size=wr.heap.size+1):=⟨_,rfl,(yae wr _ _ _ rfl).below (yaf bR),yaf (yaa bR _),by show (World.drew _).heap.size=_;rw [World.size_drew,World.size_alloc]⟩;refine wo 18 kr rfl fun K hK=>?_;go_simp;refine hK.out _ _ (fun hun=>HS.out _ B5.out) ?_;clear hK K;try simp only [ap,aq,sa,sb,sc]
     try with_reducible rw [hW5]
     clear hW5;refine wo 19 kr rfl fun K hK=>?_;refine yd2 rfl (.tmp 58) (.tmp 75) 22 rfl (G+1) 81 i0 (.agg #[iZ,.bool false]) 2 16 Tryz.underlying22 hi hz0 hz1 hz2 rfl (by decide) (.slice vo k vc) k (yck l') (by rfl) (yah HO.out B5.out) (some ⟨wr.heap.size,0,none⟩) 1 1 [iV q,.bool gr] (by rfl) rfl (fun e=>by cases e) (fun ad e j u hu=>by cases e;rw [Addr.add_lit,T5.out.cell,Nat.zero_add];exact hu) (fun u hu=>by simp only [List.mem_cons,List.not_mem_nil,or_false] at hu;rcases hu with rfl | rfl <;> rfl) (by have:=HK8.out.2;unfold maxLen;omega) (by have:=HK8.out.2;omega) (by have:=HG.out.lt;have:=D5.out;omega) ?_
     intro v2 w6' hown2 hg2 _;have O2:=lh hown2;have G2:Hid (W5.grownBy w6' (Value.slice vo k vc).ownBlock):=hg2;have hneG:some G≠(Value.slice vo k vc).ownBlock:=fun e=>by have:=(HO.out.lt G e.symm).1;omega
     have GB:=lh (yaq (HG.out.below B5.out) hg2 hneG);have hneX:∀y,y<G→some y≠(Value.slice vo k vc).ownBlock:=fun y hy e=>by have:=(HO.out.lt y e.symm).1;omega
     have hs5:=HS.out W5 B5.out;have hs6:w6'.cell? ⟨G,1,none⟩=some (.slice vo k vc)∧w6'.cell? ⟨w.heap.size,1,none⟩=some (.slice (some ⟨b,o,none⟩) ts.length tc)∧w6'.cell? ⟨b,o+k*2,none⟩=some (iV x)∧w6'.cell? ⟨b,o+k*2+1,none⟩=some (.bool gr):=⟨hg2.cell hs5.1 hneG,hg2.cell hs5.2.1 (hneX w.heap.size (by have:=HGN.out;omega)),hg2.cell hs5.2.2.1 (hneX b (by have:=HGN.out;have:=HBT.out;omega)),hg2.cell hs5.2.2.2 (hneX b (by have:=HGN.out;have:=HBT.out;omega))⟩;clear hown2 hneG hneX hs5;refine hK.out _ _ (fun hun=>hs6) ?_;clear hK K;try simp only [ap,aq,sa,sb,sc]
     obtain ⟨vo2,vc2,rfl⟩:=ykj O2.out;refine wo 20 kr rfl fun K hK=>?_;go_simp;refine hK.out _ _ kd ?_;clear hK K;try simp only [ap,aq,sa,sb,sc]
     have g1:=GB.out.cell 1;have g1f:=GB.out.frozen 1;have gl:=GB.out.lt;refine wo 21 kr rfl fun K hK=>?_;go_simp;refine hK.out _ _ kd ?_;clear hK K;try simp only [ap,aq,sa,sb,sc]
     refine yal kr ?_ _;clear g1 g1f gl hs6 hsd
     go_wp2_with fail
     have ho2:(w6'.setCell ⟨G,1,none⟩ (.slice vo2 (k+1) vc2)).ownsRow (G+1) 81 2 (.slice vo2 (k+1) vc2) (k+1) (yck (l'++[(q,gr)])):=yap (F:=[G]) (by rw [show yck (l'++[(q,gr)])=yck l'++[iV q,.bool gr] from by simp [yck]];exact O2.out) ((yab.refl _ _).sg _) (fun r hr hm=>by
      simp only [ms] at hm;have:=(O2.out.lt r hr).1;omega)
     have hbw:Below w3.heap.size w3 w6':=(HW.out.trans (B5.out.mono HW.out.size)).grown hg2 (Nat.le_trans HW.out.size B5.out.size) (fun r hr=>by have:=(HO.out.lt r hr).1;have:=HGE.out;omega)
     have hrt:yd7 (l'++[(q,gr)])=true:= by
      unfold yd7;rw [List.all_append];simp only [Bool.and_eq_true,List.all_cons,List.all_nil,and_true,ydr];exact ⟨HL.out.2,by have:=HQ2.out;omega⟩
     go_roundg gg
     case measure=>omega
     case rel=>exact ⟨k+1,l'++[(q,gr)],_,by have:=HK8.out.1;omega,by have:=hlt8;omega,by go_num,⟨by rw [List.length_append,HL.out.1];rfl,hrt⟩,GB.out.set 1 _,ho2,hbw.trans ((yab.setCell (F:=[G]) (yab.refl _ _) (.inl (List.mem_cons_self ..)) _:yab [G] w6' _).to_below hbw.size (fun x hx=>by simp only [ms] at hx;have:=HGE.out;omega))⟩
    ·have hlt8:¬(k:Int)<8:=by omega
     have hdf:decide ((k:Int)<8)=false:=decide_eq_false hlt8;exact zq538cab
   ·have hlt:¬(k:Int)<(ts.length:Int):=by omega
    have hdf:decide ((k:Int)<(ts.length:Int))=false:=decide_eq_false hlt
    by_cases hk00:k=0
    ·obtain rfl:k=0:=by omega
     have g1:=HG.out.cell 1;have g1f:=HG.out.frozen 1;have kg:=HG.out.lt
     obtain ⟨W9,hW9,N9,HG9,B9,R9⟩:∃W,(wr.alloc (.cells #[iV 500000,.bool false] 81)).setCell ⟨G,1,none⟩ (.slice (some ⟨wr.heap.size,0,none⟩) 1 1)=W∧Hid (Blk W wr.heap.size 81 [iV 500000,.bool false])∧Hid (Blk W G 24 [iV q1,.slice (some ⟨wr.heap.size,0,none⟩) 1 1,iV p2,iV p3,iV q4,iV q5,iV s0])∧Hid (Below w.heap.size w W)∧Hid (Blk W (w.heap.size+1) 24 [iZ,sZ,iZ,iZ,iZ,iZ,iZ]) :=
      ⟨_,rfl,(yae wr _ _ _ rfl).setOther om _ _,(HG.out.below (yaa bR _)).set 1 _,yao (yaa (yad B3.out HW.out) _) (by have:=HGN.out;omega),((R3.out.below HW.out).below (yaa bR _)).setOther (by have:=HGN.out;omega) _ _⟩
     go_upto_region 11 with fail
     try with_reducible rw [hW9]
     clear hW9 g1 g1f kg c1 kx;have g0:=HG9.out.cell 0;have g1:=HG9.out.cell 1;have g2:=HG9.out.cell 2;have g3:=HG9.out.cell 3;have g4:=HG9.out.cell 4;have g5:=HG9.out.cell 5;have g6:=HG9.out.cell 6;simp only [gz,gs] at g0 g1 g2 g3 g4 g5 g6;have kg:=HG9.out.lt;have HZ:Hid (W9.heap[w.heap.size+1]?=some (.cells #[iZ,sZ,iZ,iZ,iZ,iZ,iZ] 24 (0,0))):=R9.out
     go_wp2_with (with_reducible refine yhs rfl (.tmp 2) (.tmp 85) rfl rfl (w.heap.size+1) #[iV q1,.slice (some ⟨wr.heap.size,0,none⟩) 1 1,iV p2,iV p3,iV q4,iV q5,iV s0] rfl rfl _ HZ.out rfl rfl (by simp [Value.oneCell']) ?_)
     refine bodyPost_ret (v:=.agg #[iV q1,.slice (some ⟨wr.heap.size,0,none⟩) 1 1,iV p2,iV p3,iV q4,iV q5,iV s0]) (results_cell_row (p:=2) (ty:=24) rfl _ _ (w.heap.size+1) 24 _ (0,0) _ rfl (setRow_heap _ _ _ _ _ _ HZ.out) Tryz.underlying24 rfl (by rw [yjo];rfl)) rfl ?_
     exact ynr (l:=[(500000,false)]) (yt8 N9.out) (fun b o m c e _ hm=>by
      cases e;have:=HGN.out;have:=HG.out.lt;simp only [ms] at hm;omega) B9.out (by decide) (by decide) HQ.out.1 HQ.out.2.1 HQ.out.2.2.1 HQ.out.2.2.2.1 HQ.out.2.2.2.2 HS0.out _
    ·exact zq538cab
end Go.Proofs.YtkongpjpkpfniaaGreat

/- TopTicks: parts of the proof, made small by a program (mini.py). -/
import Derived.Test.YtkongpjpkpfniaaGreatT01
import Derived.Test.YtkongpjpkpfniaaGreatT10
import Derived.Test.YtkongpjpkpfniaaGreatT25
set_option linter.unusedVariables false
set_option linter.unusedSimpArgs false
set_option maxRecDepth 100000
set_option maxHeartbeats 6400000
namespace Go.Proofs.YtkongpjpkpfniaaGreat
open Go.RowKit
theorem zq262991 {q:Prop} (h:q:= by
 simp only [Prod.mk.injEq] at hE2;obtain ⟨rfl,rfl⟩:=hE2;refine (yc2 (1) _).mono ?_;rintro _ wz ⟨rfl,hbz⟩;have HZ:Hid (wz.heap[w.heap.size]?=some (.cells zA.toArray 45 (0,0))):=HBB1.out.below hbz;have HBZ:Hid (Blk wz w.heap.size 45 zA):=HBB1.out.below hbz;have HHZ:=lh (H1.out.below hbz);have HSZ:=lh (Stp.below HST1.out hbz);have HOZ:=lh (ybw.of_below (yad HBW1.out hbz));clear hbz
 go_wp2_with (with_reducible refine ybj rfl (.tmp 4) (.tmp 18) rfl rfl w.heap.size _ rfl rfl _ HZ.out rfl rfl (by simp [Value.oneCell']) ?_)
 refine bodyPost_ret (v:=ansZ (1)) (results_cell_row (p:=4) (ty:=45) rfl _ _ w.heap.size 45 _ (0,0) _ rfl (setRow_heap _ _ _ _ _ _ HZ.out) Tryz.underlying45 rfl (by rw [ybp];rfl)) rfl ⟨_,rfl,yfd _,yd3 HHZ.out HSZ.out (fun x hx=>List.mem_cons_of_mem _ hx) (List.mem_cons_self ..) HBZ.out HOZ.out (Nat.le_refl _) _⟩):q:=h
theorem zq266ce8 {q:Prop} (h:q:= by
 have h6:=HB6.out.size;refine ⟨fun b o n c e hn=>?_,fun b o n c e hn=>?_,fun b o n c e hn=>?_,fun v hv b o n c e hn=>?_⟩
 ·have h1:=HFR.out.1 b o n c e hn
  try simp only [World.size_drew,World.size_alloc] at h1
  omega
 ·have h1:=HFR.out.2.1 b o n c e hn
  try simp only [World.size_drew,World.size_alloc] at h1
  omega
 ·have h1:=HFR.out.2.2.1 b o n c e hn
  try simp only [World.size_drew,World.size_alloc] at h1
  omega
 ·have h1:=HFR.out.2.2.2 v hv b o n c e hn
  try simp only [World.size_drew,World.size_alloc] at h1
  omega):q:=h
theorem zq26a7f3 {q:Prop} (h:q:= by
 have h6:=HB6.out.size;have h60:=HB60.out.size;try simp only [World.size_drew,World.size_alloc] at h60
 have k1:=HRES.out.1;have k2:=HRES.out.2.1;have k3:=HRES.out.2.2;refine ⟨fun b o n c e hn hm=>?_,fun b o n c e hn hm=>?_,fun b o n c e hn hm=>?_,fun v hv b o n c e hn hm=>?_⟩
 ·have h1:=HFR.out.1 b o n c e hn
  rw [e] at k1;have h2:=k1.blt hn;try simp only [World.size_drew,World.size_alloc] at h1
  simp only [ms] at hm;omega
 ·have h1:=HFR.out.2.1 b o n c e hn
  rw [e] at k2;have h2:=k2.blt hn;try simp only [World.size_drew,World.size_alloc] at h1
  simp only [ms] at hm;omega
 ·have h1:=HFR.out.2.2.1 b o n c e hn
  have h2:=Fl.blt k3.2 om e hn;try simp only [World.size_drew,World.size_alloc] at h1
  simp only [ms] at hm;omega
 ·have h1:=HFR.out.2.2.2 v hv b o n c e hn
  have h2:=k3.1.blt hv e hn;try simp only [World.size_drew,World.size_alloc] at h1
  simp only [ms] at hm;omega):q:=h
theorem zq26e5ad {q:Prop} (h:q:= by
 have HA10:=lh (H3.out.below HBW10.out);have HB7:Hid (Blk W10 b7 35 [.slice po R'.p.bs.length pc,iV R'.p.c,iV R'.p.d]):=HRES.out.1.below HBW10.out;have HBB10:Hid (Blk W10 w.heap.size 45 zA):=HBB3.out.below HBW10.out
 have HS12:Hid (∀W',BW W10 W'->Ce W' g 16 (.slice io A.iss.length ic)/\Ce W' g 15 (.slice nao A.R.out.length nac)):=fun W' hb=>by
  have q:=HA10.out.blk.below hb;exact ⟨q.cell 16,q.cell 15⟩
 have hsd:=HS12.out W10.drew (yaf bR);have hle:=HLE.out.1;have HSV:Hid (∀W',BW W10 W'->StV W' (.slice (if nc=A.R.out.length then no else no.map (fun x=>x.add (A.R.out.length*9))) (R'.out.length-A.R.out.length) (nc-A.R.out.length)) (R'.out.drop A.R.out.length) (nvs'.drop A.R.out.length)):=fun W' hb=>((HRES.out.2.2.2.below HBW10.out).below hb).reslice rfl HLE.out.1
 have HLB:Hid (∀i,i<(R'.out.drop A.R.out.length).length->((R'.out.drop A.R.out.length).getD i St0).ls.length<=1000):=fun i hi=>by
  have hr0:(runS A.t A.ev (A.today+d)).e=0:=by rw [HR'.out];exact HRE.out
  obtain ⟨ps2,hp2⟩:=yfx HGD.out hr0;have h1:=hp2.outb;rw [HR'.out] at h1;have h2:=h1 _ (List.mem_of_mem_drop (yjk hi));have h3:=HTS.out;omega
 obtain ⟨L,hL⟩:∃L,R'.out.drop A.R.out.length=L:=⟨_,rfl⟩
 have HM:Hid (A.iss.length+L.length=R'.out.length/\L.length<=300/\A.iss.length<=300):= by
  have h1:=HLE.out;have h2:L.length=R'.out.length-A.R.out.length:=by rw [<-hL,List.length_drop]
  show _/\_/\_;omega
 rw [hL] at HSV HLB;have HL:=lh hL;obtain ⟨m,hm⟩:∃m,L.length=m:=⟨_,rfl⟩;have HMM:=lh hm;obtain ⟨i0,hi,hz0,hz1,hz2⟩:=info_parts yl7
 have HLO:Hid (lo<=W10.heap.size):= by
  have h1:=HA10.out.lt g HA10.out.gF;show _<=_;omega
 clear hL hm;obtain ⟨no2,hno2⟩:∃x,(if nc=A.R.out.length then no else no.map (fun x=>x.add (A.R.out.length*9)))=x:=⟨_,rfl⟩;rw [hno2] at HSV;refine yan (fun W'=>Ce W' g 16 (.slice io A.iss.length ic)/\Ce W' g 15 (.slice nao A.R.out.length nac)) 14 kr ?_;refine tK 0 rfl ?_;refine tK 1 rfl ?_;refine tK 2 rfl ?_;refine tK 3 rfl ?_;refine tK 4 rfl ?_;refine tK 5 rfl ?_;refine tK 6 rfl ?_;refine tK 7 rfl ?_;refine tK 8 rfl ?_;refine tK 9 rfl ?_;refine tK 10 rfl ?_;refine tK 11 rfl ?_;try simp only [hno2]
 refine wo 12 kr rfl fun K hK=>?_;go_simp;refine (yke _ L (nvs'.drop A.R.out.length) (by have:=HM.out;omega) HLB _ (HSV.out _ (yaf bR))).mono ?_;rintro _ w12 ⟨u,us,rfl,hou,hlu,hfu,hb12⟩;rw [HMM.out] at hou;obtain ⟨uo,uc,rfl⟩:=(Fl.of_own hou hlu.one).shape;have HOU:=lh hou;have HLU:=lh hlu;have HFU:=lh hfu;have HB12:Hid (BW W10 w12):=yad (yaf bR) hb12;have hs12:=HS12.out w12 HB12.out;clear hou hlu hfu hb12;refine hK.out _ _ (fun hun=>hs12) ?_;clear hK K;try simp only [ap,aq,sa,sb,sc]
 refine wo 13 kr rfl fun K hK=>?_;refine yd2 rfl (.tmp 83) (.tmp 91) 61 rfl lo 43 i0 (.agg #[iZ,iZ,iZ,iZ,sZ,iZ,iZ,iZ,.bool false]) 9 88 Tryz.underlying61 hi hz0 hz1 hz2 rfl (by decide) (.slice io A.iss.length ic) A.iss.length (yay A.iss ivs) (by rfl) (yah HA10.out.iss HB12.out) uo m uc (yay L us) (by rfl) (by have h1:=(Fl.of_own HOU.out HLU.out.one).1;exact h1) (fun e=>by have h1:=(Fl.of_own HOU.out HLU.out.one).len.2.2.2 e;exact h1) ((Fl.of_own HOU.out HLU.out.one).news) HLU.out.one (by have h1:=HM.out;have h2:=HMM.out;unfold maxLen;omega) (by have h1:=HM.out;have h2:=HMM.out;omega) (Nat.le_trans HLO.out HB12.out.size) ?_;intro v13 w13 hown13 hg13 hor13;obtain ⟨nn,hnn⟩:∃nn,A.iss.length+m=nn:=⟨_,rfl⟩;rw [hnn] at hown13;have HNN:=lh hnn;clear hnn;have HLA:Hid (LnsS w12 A.iss ivs):=HA10.out.rd.now.2.2.2.2.2.2.below HB12.out
 have hones:∀c∈yay A.iss ivs++yay L us,c.oneCell'=true:=fun c hc=>by
  rcases List.mem_append.1 hc with h1 | h1
  ·exact HLA.out.one c h1
  ·exact HLU.out.one c h1
 obtain ⟨vo,vc,rfl⟩:=(Fl.of_own hown13 hones).shape;have HOW13:=lh hown13;have HG13:=lh hg13;have HOR13:=lh hor13;have HOI:=lh (yah HA10.out.iss HB12.out);have HBG13:Hid (Blk w13 g 89 [iV A.t.lim,.slice tao A.t.ts.length tc,iV A.t.cyc,iV A.t.dued,iV A.t.minf,iV A.t.minp,iV A.t.start,iV A.today,iV A.seq,pV gl,pV gb,pv,iV A.R.p.c,iV A.R.p.d,rv,.slice nao A.R.out.length nac,.slice io A.iss.length ic,av]):=yaq (HA10.out.blk.below HB12.out) hg13 (yaj HOI.out (HA10.out.blk.below HB12.out) (by decide));have HB713:Hid (Blk w13 b7 35 [.slice po R'.p.bs.length pc,iV R'.p.c,iV R'.p.d]):=yaq (HB7.out.below HB12.out) hg13 (yaj HOI.out (HB7.out.below HB12.out) (by decide));have HBT13:Hid (Blk w13 wc.heap.size 45 [iZ,iZ,iV cy,iZ,iZ,sZ,iZ,iZ,sZ,sZ,iZ,iZ,iZ,iZ,iZ,sZ,iZ,iZ,iZ,.bool false]):=yaq (HB10.out.below HB12.out) hg13 (yaj HOI.out (HB10.out.below HB12.out) (by decide));have HBB13:Hid (Blk w13 w.heap.size 45 zA):=yaq (HBB10.out.below HB12.out) hg13 (yaj HOI.out (HBB10.out.below HB12.out) (by decide));have hs13:w13.cell? (Ad g 16)=some (.slice io A.iss.length ic)/\w13.cell? (Ad g 15)=some (.slice nao A.R.out.length nac):=⟨HBG13.out.cell 16,HBG13.out.cell 15⟩;clear hown13 hg13 hor13 hones;refine hK.out _ _ (fun hun=>hs13) ?_;clear hK K;try simp only [ap,aq,sa,sb,sc]
 refine wo 14 kr rfl fun K hK=>?_;go_simp;refine hK.out _ _ kd ?_;clear hK K;try simp only [ap,aq,sa,sb,sc]
 refine wo 15 kr rfl fun K hK=>?_;go_simp;refine hK.out _ _ kd ?_;clear hK K;try simp only [ap,aq,sa,sb,sc]
 have c16:=hs13.1;have f16:=HBG13.out.frozen 16;have kg13:=HBG13.out.lt;refine wo 16 kr rfl fun K hK=>?_;go_simp;refine hK.out _ _ kd ?_;clear hK K;try simp only [ap,aq,sa,sb,sc]
 clear c16 f16 hs13 hs12 hsd hi hz0 hz1 hz2 kg13 hle hno2;refine yal kr ?_ _
 have hg7:b7≠g:=fun e=>by
  have h1:=HFRS.out.1;have h2:=(H2.out.lt g H2.out.gF).2;omega
 have hgt11:wc.heap.size≠g:=fun e=>by have h1:=H3.out.blk.lt;omega
 have hgb:w.heap.size≠g:=ybs HBB13.out HBG13.out (by decide);obtain ⟨W13,hW,HBG,HB7b,HBTa,HBB⟩:∃W,w13.setCell (Ad g 16) (.slice vo nn vc)=W/\Hid (Blk W g 89 [iV A.t.lim,.slice tao A.t.ts.length tc,iV A.t.cyc,iV A.t.dued,iV A.t.minf,iV A.t.minp,iV A.t.start,iV A.today,iV A.seq,pV gl,pV gb,pv,iV A.R.p.c,iV A.R.p.d,rv,.slice nao A.R.out.length nac,.slice vo nn vc,av])/\Hid (Blk W b7 35 [.slice po R'.p.bs.length pc,iV R'.p.c,iV R'.p.d])/\Hid (Blk W wc.heap.size 45 [iZ,iZ,iV cy,iZ,iZ,sZ,iZ,iZ,sZ,sZ,iZ,iZ,iZ,iZ,iZ,sZ,iZ,iZ,iZ,.bool false])/\Hid (Blk W w.heap.size 45 zA):=⟨_,rfl,HBG13.out.set 16 _,HB713.out.setOther hg7 _ _,HBT13.out.setOther hgt11 _ _,HBB13.out.setOther hgb _ _⟩
 have HKW:Hid (yab [g] w13 W13):= by
  show yab _ _ _;rw [<-hW];exact (yab.refl _ _).sg _
 with_reducible rw [hW]
 clear hW;obtain ⟨c7,c8,c11,c12,c13,c14,c15,-⟩:=HBG.out.cs [7,8,11,12,13,14,15];simp only [gz,gs] at c7 c8 c11 c12 c13 c14 c15;obtain ⟨f7,f8,f11,f12,f13,f14,f15,-⟩:=HBG.out.fs [7,8,11,12,13,14,15];obtain ⟨z0,z1,z2,-⟩:=HB7b.out.cs [0,1,2];simp only [gz,gs] at z0 z1 z2;have kg13:=HBG.out.lt;have kb7:=HB7b.out.lt
 have hsw:IntKind.i64.wrap (A.seq+1)=A.seq+1:= by
  have h1:=HOK.out.seq;have h2:=HSQ.out;exact IntWalk.i64_in _ ⟨by omega,by omega⟩
 have hwd:=HWD.out;go_upto_region 16 with fail
 obtain ⟨W16,hW,HBG6,HBT6,HBB6,HK6⟩:∃W,(((((((W13.setCell (Ad g 7) (iV (A.today+d))).setCell (Ad g 11) (.slice po R'.p.bs.length pc)).setCell (Ad g 12) (iV R'.p.c)).setCell (Ad g 13) (iV R'.p.d)).setCell (Ad g 14) (.slice ro R'.rs.length rc)).setCell (Ad g 15) (.slice no R'.out.length nc)).setCell (Ad g 8) (iV (A.seq+1)))=W/\Hid (Blk W g 89 [iV A.t.lim,.slice tao A.t.ts.length tc,iV A.t.cyc,iV A.t.dued,iV A.t.minf,iV A.t.minp,iV A.t.start,iV (A.today+d),iV (A.seq+1),pV gl,pV gb,.slice po R'.p.bs.length pc,iV R'.p.c,iV R'.p.d,.slice ro R'.rs.length rc,.slice no R'.out.length nc,.slice vo nn vc,av])/\Hid (Blk W wc.heap.size 45 [iZ,iZ,iV cy,iZ,iZ,sZ,iZ,iZ,sZ,sZ,iZ,iZ,iZ,iZ,iZ,sZ,iZ,iZ,iZ,.bool false])/\Hid (Blk W w.heap.size 45 zA)/\Hid (yab [g] w13 W) :=
  ⟨_,rfl,((((((HBG.out.set 7 _).set 11 _).set 12 _).set 13 _).set 14 _).set 15 _).set 8 _,((((((HBTa.out.setOther hgt11 _ _).setOther hgt11 _ _).setOther hgt11 _ _).setOther hgt11 _ _).setOther hgt11 _ _).setOther hgt11 _ _).setOther hgt11 _ _,((((((HBB.out.setOther hgb _ _).setOther hgb _ _).setOther hgb _ _).setOther hgb _ _).setOther hgb _ _).setOther hgb _ _).setOther hgb _ _,((((((HKW.out.sg _).sg _).sg _).sg _).sg _).sg _).sg _⟩
 with_reducible rw [hW]
 clear hW c7 c8 c11 c12 c13 c14 c15 f7 f8 f11 f12 f13 f14 f15 z0 z1 z2 kg13 kb7 hsw hwd;have HZ:Hid (W16.heap[w.heap.size]?=some (.cells zA.toArray 45 (0,0))):=HBB6.out;have HR6:Hid (W16.rangeAt wc.heap.size 0 [iZ,iZ,iV cy,iZ,iZ,sZ,iZ,iZ,sZ,sZ,iZ,iZ,iZ,iZ,iZ,sZ,iZ,iZ,iZ,.bool false]):=fun j v hv=>by rw [Nat.zero_add,HBT6.out.cell];exact hv
 go_wp2_with (first | (with_reducible refine wpList_load_mid rfl 45 (.tmp 11) rfl wc.heap.size 0 rfl [iZ,iZ,iV cy,iZ,iZ,sZ,iZ,iZ,sZ,sZ,iZ,iZ,iZ,iZ,iZ,sZ,iZ,iZ,iZ,.bool false] _ HR6.out Tryz.underlying45 rfl (ybp.trans rfl) ?_) | (with_reducible refine ybj rfl (.tmp 4) (.tmp 122) rfl rfl w.heap.size #[iZ,iZ,iV cy,iZ,iZ,sZ,iZ,iZ,sZ,sZ,iZ,iZ,iZ,iZ,iZ,sZ,iZ,iZ,iZ,.bool false] rfl rfl _ HZ.out rfl rfl (by simp [Value.oneCell']) ?_))
 obtain ⟨F2,V2,k1,k2,k3,k4⟩:=yxc (F:=w.heap.size::F) (s:=A.seq+1) HA10.out R' (A.today+d) (A.iss++L) om (pv':=.slice po R'.p.bs.length pc) (rv':=.slice ro R'.rs.length rc) (nv':=.slice no R'.out.length nc) (nvs':=nvs') (ivs':=ivs++us) (by
  have hlt:∀x∈w.heap.size::F,x<W5.heap.size:=fun x hx=>(H2.out.lt x hx).2;exact ((HRES.out.2.1.below HBW10.out).rd (HFRS.out.2.1.off hlt)).and (((HRES.out.2.2.1.below HBW10.out).rd (HFRS.out.2.2.1.off hlt)).and ((HRES.out.2.2.2.below HBW10.out).rd (HFRS.out.2.2.2.1.off hlt) (fun v hv=>(HFRS.out.2.2.2.2 v hv).off hlt)))) (by
  have hlt:∀x∈w.heap.size::F,x<W10.drew.heap.size:=fun x hx=>(HA10.out.lt x hx).2;exact ((HA10.out.rd.below HB12.out (fun x hx=>.inl hx)).and (HLU.out.rd (fun v hv=>(HFU.out v hv).off hlt))).imp fun W q=>q.1.2.2.2.2.2.2.append q.2) HB12.out HOW13.out (by rw [List.length_append,HMM.out,HNN.out]) (yds HLA.out.length).symm HG13.out HOR13.out HK6.out HBG6.out
 rw [HL.out];refine bodyPost_ret (v:=.agg #[iZ,iZ,iV cy,iZ,iZ,sZ,iZ,iZ,sZ,sZ,iZ,iZ,iZ,iZ,iZ,sZ,iZ,iZ,iZ,.bool false]) (results_cell_row (p:=4) (ty:=45) rfl _ _ w.heap.size 45 _ (0,0) _ rfl (setRow_heap _ _ _ _ _ _ HZ.out) Tryz.underlying45 rfl (by rw [ybp];rfl)) rfl ⟨_,rfl,yui cy,yd3 k1 ((Stp.below HST3.out HBW10.out).trans k2) (fun x hx=>k3 x (List.mem_cons_of_mem _ hx)) (k3 _ (List.mem_cons_self ..)) HBB6.out ((ybw.of_below (yad HBT.out HBW10.out)).trans k4) (Nat.le_refl _) _⟩):q:=h
theorem yui (cy:Int):Ans 0 (.agg #[iZ,iZ,iV cy,iZ,iZ,sZ,iZ,iZ,sZ,sZ,iZ,iZ,iZ,iZ,iZ,sZ,iZ,iZ,iZ,.bool false]):=⟨0,cy,0,0,_,0,0,_,_,0,0,0,0,0,_,0,0,0,false,rfl,⟨_,_,_,rfl⟩,⟨_,_,_,rfl⟩,⟨_,_,_,rfl⟩,⟨_,_,_,rfl⟩⟩
theorem yp3 (lo g:Nat) (A:Acc) (hA:ycy A) (hsq:A.seq<=100000) (F:List Nat) (V:AV) (d:Int) (A':Acc) (E:Int) (hE:Hid (yh3 A d=(A',E))) (w:World) (h:ybe lo g A F w V) :
 Calls Tryz.prog 35 #[pV g,iV d] w (yze E lo g A' F w):= by
 obtain ⟨tv,gl,ltv,lev,gb,dv,pv,rv,nv,nvs,iv,ivs,av⟩:=V;obtain ⟨tao,tc,rfl⟩:∃ao cap,tv=.slice ao A.t.ts.length cap:=h.rd.now.1.shape;have HOK:=lh hA;have HSQ:=lh hsq
 obtain ⟨W1,hW1,H1,HBB1,HST1,HBW1⟩:∃W,w.alloc (.cells zA.toArray 45)=W/\Hid (ybe lo g A (w.heap.size::F) W ⟨.slice tao A.t.ts.length tc,gl,ltv,lev,gb,dv,pv,rv,nv,nvs,iv,ivs,av⟩)/\Hid (Blk W w.heap.size 45 zA)/\Hid (Stp F w (w.heap.size::F) W)/\Hid (BW w W) :=
  ⟨_,rfl,h.more (yaa bR _) (Nat.le_refl _) (by simp only [World.size_alloc];omega),yae w _ _ _ rfl,⟨(yab.refl _ _).alloc _,fun x hx=>by
   rcases List.mem_cons.1 hx with rfl | hx
   ·exact .inr (Nat.le_refl _)
   ·exact .inl hx⟩,yaa bR _⟩
 have HLN:Hid (A.ev.length<=2000):=hA.goods.len
 have HTS:Hid (A.t.ts.length<=1000):= by
  have h1:=yci hA.goods.terms;show _<=_;omega
 obtain ⟨qs,hq⟩:=yfx hA.goods (by rw [hA.run];exact hA.e);have HQ:=lh hq
 have HTD:Hid (-200000<=A.today/\A.today<=2932896):= by
  have h1:=hq.lo;have h2:=hq.hi;have h3:=hA.goods.terms;unfold Tm.right yaw at h3;simp only [Bool.and_eq_true,ydr] at h3;show _/\_;omega
 have c2:W1.cell? (Ad g 2)=some (iV A.t.cyc):=H1.out.blk.cell 2;have c6:W1.cell? (Ad g 6)=some (iV A.t.start):=H1.out.blk.cell 6;have c7:W1.cell? (Ad g 7)=some (iV A.today):=H1.out.blk.cell 7;have kg:=H1.out.blk.lt;have kb:=HBB1.out.lt;clear h hA hsq hq
 go_enter Tryz.func35,Tryz.ntmps35
 by_cases hd1:d<1
 ·go_upto_region 1 with fail
  try with_reducible rw [hW1]
  clear hW1
  go_wp2_with fail
  have hE2:=hE.out;unfold yh3 at hE2;rw [if_pos (.inl hd1)] at hE2;exact zq262991
 ·by_cases hd2:400<d
  ·go_upto_region 1 with fail
   try with_reducible rw [hW1]
   clear hW1
   go_wp2_with fail
   have hE2:=hE.out;unfold yh3 at hE2;rw [if_pos (.inr hd2)] at hE2;exact zq262991
  ·have HD:Hid (1<=d/\d<=400):=by show _/\_;omega
   have hwd:IntKind.i64.wrap (A.today+d)=A.today+d:= by
    have h1:=HTD.out;rw [IntWalk.i64_left,IntWalk.wrap64_in _ ⟨by omega,by omega⟩]
   go_upto_region 3 with fail
   try with_reducible rw [hW1]
   clear hW1;obtain ⟨q,hq⟩:∃q,ofS A.t.start A.t.cyc (A.today+d)=q:=⟨_,rfl⟩;have HOF:=lh hq
   have HS:Hid (∀W',BW W1 W'->Ce W' g 2 (iV A.t.cyc)/\Ce W' g 6 (iV A.t.start)/\Ce W' g 7 (iV A.today)):=fun W' hb=>by
    have q:=H1.out.blk.below hb;exact ⟨q.cell 2,q.cell 6,q.cell 7⟩
   have hs0:=HS.out W1 bR;have hsd:=HS.out W1.drew (yaf bR);clear hq c2 c6 c7
   go_region_held3 (fun W'=>Ce W' g 2 (iV A.t.cyc)/\Ce W' g 6 (iV A.t.start)/\Ce W' g 7 (iV A.today)) (first | with_reducible exact hs0 | with_reducible exact hsd | exact HS5.out) (first | (go_at_call 63;refine (yr4 A.t.start A.t.cyc (A.today+d) q HOF _).mono ?_;rintro _ W2 ⟨rfl,hb5⟩;have HB2:Hid (BW W1 W2):=(by first | exact hb5 | exact yad (yaf bR) hb5);have HS5:=lh (HS.out _ HB2.out);clear hb5))
   clear hs0 hsd HS HS5;have H2:=lh (H1.out.below HB2.out);have HBB2:=lh (HBB1.out.below HB2.out);have HST2:=lh (Stp.below HST1.out HB2.out);have HBW2:Hid (BW w W2):=yad HBW1.out HB2.out;clear kg kb
   by_cases hq0:q.2=0
   ·have hq0':(q.2 != 0)=false:=by simpa using hq0
    have HQ0:=lh hq0;clear hq0;go_upto_region 6 with fail
    obtain ⟨W5,hW5⟩:∃W5,W5=W2:=⟨_,rfl⟩;subst hW5;obtain ⟨R',hR''⟩:∃R',runS A.t A.ev (A.today+d)=R':=⟨_,rfl⟩;have HR':=lh hR'';have HGD:Hid (yha A.t A.ev (A.today+d)):=⟨HOK.out.goods.terms,HOK.out.goods.events,fun x hx=>by have h1:=HOK.out.goods.late x hx;have h2:=HD.out;omega,HOK.out.goods.len⟩;have HASC:Hid (Asc A.ev):=HOK.out.asc;have HRD:Hid (∀W',BW W5 W'->ybn W' gl A.t ltv lev A.ev/\TrS W' (.slice tao A.t.ts.length tc) A.t.ts):=fun W' hb=>⟨H2.out.rd.now.2.1.below hb,H2.out.rd.now.1.below hb⟩
    have HS5:Hid (∀W',BW W5 W'->Ce W' g 0 (iV A.t.lim)/\Ce W' g 1 (.slice tao A.t.ts.length tc)/\Ce W' g 2 (iV A.t.cyc)/\Ce W' g 3 (iV A.t.dued)/\Ce W' g 4 (iV A.t.minf)/\Ce W' g 5 (iV A.t.minp)/\Ce W' g 6 (iV A.t.start)/\Ce W' g 7 (iV A.today)/\Ce W' g 9 (pV gl)):=fun W' hb=>by
     have q:=H2.out.blk.below hb;exact ⟨q.cell 0,q.cell 1,q.cell 2,q.cell 3,q.cell 4,q.cell 5,q.cell 6,q.cell 7,q.cell 9⟩
    have hsd:=HS5.out W5.drew (yaf bR);have HWD:=lh hwd;clear hR'' hd1 hd2
    go_cut [7,8,9,10] (fun s7 s8 s9 s10 wx=>∃b7 pv rv nv nvs,s7=pV b7/\s8=rv/\s9=nv/\s10=iV R'.e/\Hid (Blk wx b7 35 [pv,iV R'.p.c,iV R'.p.d]/\Sl .i64 wx pv R'.p.bs/\Sl .i64 wx rv R'.rs/\StV wx nv R'.out nvs)/\Hid (W5.heap.size<=b7/\Fr W5 pv/\Fr W5 rv/\Fr W5 nv/\∀v∈nvs,Fr W5 v)/\Hid (BW W5 wx))
    case first =>
     refine yan (fun W'=>Ce W' g 0 (iV A.t.lim)/\Ce W' g 1 (.slice tao A.t.ts.length tc)/\Ce W' g 2 (iV A.t.cyc)/\Ce W' g 3 (iV A.t.dued)/\Ce W' g 4 (iV A.t.minf)/\Ce W' g 5 (iV A.t.minp)/\Ce W' g 6 (iV A.t.start)/\Ce W' g 7 (iV A.today)/\Ce W' g 9 (pV gl)) 22 kr ?_;refine tK 0 rfl ?_;refine tK 1 rfl ?_;refine tK 2 rfl ?_;refine tK 3 rfl ?_;refine tK 4 rfl ?_;refine tK 5 rfl ?_;refine tK 6 rfl ?_;refine tK 7 rfl ?_;refine tK 9 rfl ?_;refine tK 10 rfl ?_;refine tK 11 rfl ?_;refine tK 12 rfl ?_;refine tK 13 rfl ?_;refine tK 14 rfl ?_;refine ybo (rs:=[8,21]) kr (by simp) ?_;refine (yam.cons (o:=⟨_,_,_,_,_,_⟩) rfl (fun K hK=>?_) (yam.cons (o:=⟨_,_,_,_,_,_⟩) rfl (fun K hK=>?_) yam.nil))
     ·go_simp
      refine (yem gl A.t ltv lev A.ev _ ((HRD.out _ (by repeat (first | with_reducible exact bR | with_reducible refine yaa ?_ _ | with_reducible refine yaf ?_))).1) (by have:=HLN.out;omega)).mono ?_;rintro _ w6 ⟨u6,rfl,ho6,hb6⟩;obtain ⟨uo6,uc6,rfl⟩:=(R5S.of_own ho6 rfl).shape;have HU6:=lh (R5S.of_own ho6 rfl);have HB60:=lh hb6;have HB6:Hid (BW W5 w6):=yad (by repeat (first | with_reducible exact bR | with_reducible refine yaa ?_ _ | with_reducible refine yaf ?_)) hb6;have hs6:=HS5.out w6 HB6.out;clear ho6 hb6;refine hK.out _ _ (fun hun=>hs6) ?_;clear hK K;try simp only [ap,aq,sa,sb,sc]
      refine ybo (rs:=[15,21]) kr (by simp) ?_;refine (yam.cons (o:=⟨_,_,_,_,_,_⟩) rfl (fun K hK=>?_) (yam.cons (o:=⟨_,_,_,_,_,_⟩) rfl (fun K hK=>?_) yam.nil))
      ·go_simp
       refine (yg4 A.t _ _ A.ev (A.today+d) HGD HASC R' HR' _ ((HRD.out _ bM).2) (HU6.out.below (by repeat (first | with_reducible exact bR | with_reducible refine yaa ?_ _)))).mono ?_;rintro _ w7 ⟨pv7,rv7,nv7,vs7,rfl,hp7,hr7,hn7,⟨f1,f2,f3,f4⟩,hb7⟩;obtain ⟨po7,pc7,rfl⟩:=hp7.shape;obtain ⟨ro7,rc7,rfl⟩:=hr7.shape;obtain ⟨no7,nc7,rfl⟩:=hn7.2.shape;have HRES:=lh (And.intro hp7 (And.intro hr7 hn7));have HFR:=lh (And.intro f1 (And.intro f2 (And.intro f3 f4)));have HB70:=lh hb7;have HB7:Hid (BW W5 w7):=yad bM hb7;have hs7:=HS5.out w7 HB7.out;clear hp7 hr7 hn7 f1 f2 f3 f4 hb7;refine hK.out _ _ (fun hun=>hs7) ?_;clear hK K;try simp only [ap,aq,sa,sb,sc]
       refine tF 16 rfl ?_ (hS:=hs7);refine tF 17 rfl ?_ (hS:=hs7);refine tF 18 rfl ?_ (hS:=hs7);refine tF 19 rfl ?_ (hS:=hs7);refine tF 20 rfl ?_ (hS:=hs7);refine wo 21 kr rfl fun K hK=>?_;go_simp;refine hK.out _ _ (fun hun=>HS5.out _ (by repeat (first | with_reducible exact bR | with_reducible exact HB7.out | with_reducible exact HB6.out | with_reducible refine yaa ?_ _ | with_reducible refine yaf ?_))) ?_;clear hK K;try simp only [ap,aq,sa,sb,sc]
       obtain ⟨U,hU,UB,ULV,UBL⟩:∃U,w7.alloc (.cells #[sZ,iZ,iZ] 35)=U/\Hid (Blk U w7.heap.size 35 [sZ,iZ,iZ])/\Hid (Sl .i64 U (.slice po7 R'.p.bs.length pc7) R'.p.bs/\Sl .i64 U (.slice ro7 R'.rs.length rc7) R'.rs/\StV U (.slice no7 R'.out.length nc7) R'.out vs7)/\Hid (BW W5 U) :=
        ⟨_,rfl,yae w7 [sZ,iZ,iZ] _ _ rfl,⟨HRES.out.1.below (yaa bR _),HRES.out.2.1.below (yaa bR _),HRES.out.2.2.below (yaa bR _)⟩,yaa HB7.out _⟩
       have UGE:Hid (W5.heap.size<=w7.heap.size):= by
        have h6:=HB6.out.size;have h7:=HB7.out.size;show _<=_;omega
       have UFR:Hid (Fr W5 (.slice po7 R'.p.bs.length pc7)/\Fr W5 (.slice ro7 R'.rs.length rc7)/\Fr W5 (.slice no7 R'.out.length nc7)/\∀v∈vs7,Fr W5 v):= by
        exact zq266ce8
       have UOF:Hid (OffF [w7.heap.size] (.slice po7 R'.p.bs.length pc7)/\OffF [w7.heap.size] (.slice ro7 R'.rs.length rc7)/\OffF [w7.heap.size] (.slice no7 R'.out.length nc7)/\∀v∈vs7,OffF [w7.heap.size] v):= by
        exact zq26a7f3
       with_reducible rw [hU]
       clear hU;obtain ⟨z0,z1,z2,-⟩:=UB.out.cs [0,1,2];simp only [gz,gs] at z0 z1 z2;obtain ⟨zf0,zf1,zf2,-⟩:=UB.out.fs [0,1,2];have hltz:=UB.out.lt;refine wo 22 kr rfl fun K hK=>?_;go_simp;refine hK.out _ _ kd ?_;clear hK K;try simp only [ap,aq,sa,sb,sc]
       refine wo 23 kr rfl fun K hK=>?_;go_simp;refine hK.out _ _ kd ?_;clear hK K;try simp only [ap,aq,sa,sb,sc]
       refine wo 24 kr rfl fun K hK=>?_;go_simp;refine hK.out _ _ kd ?_;clear hK K;try simp only [ap,aq,sa,sb,sc]
       refine wo 25 kr rfl fun K hK=>?_;go_simp;refine hK.out _ _ kd ?_;clear hK K;try simp only [ap,aq,sa,sb,sc]
       clear z0 z1 z2 zf0 zf1 zf2;refine yal kr ?_ _
       go_wp2_with fail
       go_meet
       case rel=>exact ⟨w7.heap.size,_,_,_,vs7,rfl,rfl,rfl,rfl,⟨(((UB.out.set 0 _).set 1 _).set 2 _),Sl.keep (F:=[w7.heap.size]) ULV.out.1 (((((yab.refl _ _).sg _).sg _).sg _)) UOF.out.1,Sl.keep (F:=[w7.heap.size]) ULV.out.2.1 (((((yab.refl _ _).sg _).sg _).sg _)) UOF.out.2.1,⟨LnsS.keep (F:=[w7.heap.size]) ULV.out.2.2.1 (((((yab.refl _ _).sg _).sg _).sg _)) UOF.out.2.2.2,Fl.keep (F:=[w7.heap.size]) ULV.out.2.2.2 (((((yab.refl _ _).sg _).sg _).sg _)) UOF.out.2.2.1⟩⟩,⟨UGE.out,UFR.out⟩,(((UBL.out.setCell UGE.out _).setCell UGE.out _).setCell UGE.out _)⟩
      ·go_simp
       refine hK.out _ _ (fun hun=>HS5.out _ (by repeat (first | with_reducible exact bR | with_reducible exact HB7.out | with_reducible exact HB6.out | with_reducible refine yaa ?_ _ | with_reducible refine yaf ?_))) ?_;clear hK K;try simp only [ap,aq,sa,sb,sc]
       refine wo 15 kr rfl fun K hK=>?_;go_simp;refine (yg4 A.t _ _ A.ev (A.today+d) HGD HASC R' HR' _ ((HRD.out _ bM).2) (HU6.out.below (by repeat (first | with_reducible exact bR | with_reducible refine yaa ?_ _)))).mono ?_;rintro _ w7 ⟨pv7,rv7,nv7,vs7,rfl,hp7,hr7,hn7,⟨f1,f2,f3,f4⟩,hb7⟩;obtain ⟨po7,pc7,rfl⟩:=hp7.shape;obtain ⟨ro7,rc7,rfl⟩:=hr7.shape;obtain ⟨no7,nc7,rfl⟩:=hn7.2.shape;have HRES:=lh (And.intro hp7 (And.intro hr7 hn7));have HFR:=lh (And.intro f1 (And.intro f2 (And.intro f3 f4)));have HB70:=lh hb7;have HB7:Hid (BW W5 w7):=yad bM hb7;have hs7:=HS5.out w7 HB7.out;clear hp7 hr7 hn7 f1 f2 f3 f4 hb7;refine hK.out _ _ (fun hun=>hs7) ?_;clear hK K;try simp only [ap,aq,sa,sb,sc]
       refine tF 16 rfl ?_ (hS:=hs7);refine tF 17 rfl ?_ (hS:=hs7);refine tF 18 rfl ?_ (hS:=hs7);refine tF 19 rfl ?_ (hS:=hs7);refine tF 20 rfl ?_ (hS:=hs7)
       obtain ⟨U,hU,UB,ULV,UBL⟩:∃U,w7=U/\Hid (Blk U w6.heap.size 35 [sZ,iZ,iZ])/\Hid (Sl .i64 U (.slice po7 R'.p.bs.length pc7) R'.p.bs/\Sl .i64 U (.slice ro7 R'.rs.length rc7) R'.rs/\StV U (.slice no7 R'.out.length nc7) R'.out vs7)/\Hid (BW W5 U) :=
        ⟨_,rfl,Blk.below (yae w6 [sZ,iZ,iZ] _ _ rfl) HB70.out,⟨HRES.out.1.below bR,HRES.out.2.1.below bR,HRES.out.2.2.below bR⟩,HB7.out⟩
       have UGE:Hid (W5.heap.size<=w6.heap.size):= by
        have h6:=HB6.out.size;have h7:=HB7.out.size;show _<=_;omega
       have UFR:Hid (Fr W5 (.slice po7 R'.p.bs.length pc7)/\Fr W5 (.slice ro7 R'.rs.length rc7)/\Fr W5 (.slice no7 R'.out.length nc7)/\∀v∈vs7,Fr W5 v):= by
        exact zq266ce8
       have UOF:Hid (OffF [w6.heap.size] (.slice po7 R'.p.bs.length pc7)/\OffF [w6.heap.size] (.slice ro7 R'.rs.length rc7)/\OffF [w6.heap.size] (.slice no7 R'.out.length nc7)/\∀v∈vs7,OffF [w6.heap.size] v):= by
        exact zq26a7f3
       with_reducible rw [hU]
       clear hU;obtain ⟨z0,z1,z2,-⟩:=UB.out.cs [0,1,2];simp only [gz,gs] at z0 z1 z2;obtain ⟨zf0,zf1,zf2,-⟩:=UB.out.fs [0,1,2];have hltz:=UB.out.lt;refine wo 22 kr rfl fun K hK=>?_;go_simp;refine hK.out _ _ kd ?_;clear hK K;try simp only [ap,aq,sa,sb,sc]
       refine wo 23 kr rfl fun K hK=>?_;go_simp;refine hK.out _ _ kd ?_;clear hK K;try simp only [ap,aq,sa,sb,sc]
       refine wo 24 kr rfl fun K hK=>?_;go_simp;refine hK.out _ _ kd ?_;clear hK K;try simp only [ap,aq,sa,sb,sc]
       refine wo 25 kr rfl fun K hK=>?_;go_simp;refine hK.out _ _ kd ?_;clear hK K;try simp only [ap,aq,sa,sb,sc]
       clear z0 z1 z2 zf0 zf1 zf2;refine yal kr ?_ _
       go_wp2_with fail
       go_meet
       case rel=>exact ⟨w6.heap.size,_,_,_,vs7,rfl,rfl,rfl,rfl,⟨(((UB.out.set 0 _).set 1 _).set 2 _),Sl.keep (F:=[w6.heap.size]) ULV.out.1 (((((yab.refl _ _).sg _).sg _).sg _)) UOF.out.1,Sl.keep (F:=[w6.heap.size]) ULV.out.2.1 (((((yab.refl _ _).sg _).sg _).sg _)) UOF.out.2.1,⟨LnsS.keep (F:=[w6.heap.size]) ULV.out.2.2.1 (((((yab.refl _ _).sg _).sg _).sg _)) UOF.out.2.2.2,Fl.keep (F:=[w6.heap.size]) ULV.out.2.2.2 (((((yab.refl _ _).sg _).sg _).sg _)) UOF.out.2.2.1⟩⟩,⟨UGE.out,UFR.out⟩,(((UBL.out.setCell UGE.out _).setCell UGE.out _).setCell UGE.out _)⟩
     ·go_simp
      refine hK.out _ _ (fun hun=>HS5.out _ (by repeat (first | with_reducible exact bR | with_reducible exact HB7.out | with_reducible exact HB6.out | with_reducible refine yaa ?_ _ | with_reducible refine yaf ?_))) ?_;clear hK K;try simp only [ap,aq,sa,sb,sc]
      refine wo 8 kr rfl fun K hK=>?_;go_simp;refine (yem gl A.t ltv lev A.ev _ ((HRD.out _ (by repeat (first | with_reducible exact bR | with_reducible refine yaa ?_ _ | with_reducible refine yaf ?_))).1) (by have:=HLN.out;omega)).mono ?_;rintro _ w6 ⟨u6,rfl,ho6,hb6⟩;obtain ⟨uo6,uc6,rfl⟩:=(R5S.of_own ho6 rfl).shape;have HU6:=lh (R5S.of_own ho6 rfl);have HB60:=lh hb6;have HB6:Hid (BW W5 w6):=yad (by repeat (first | with_reducible exact bR | with_reducible refine yaa ?_ _ | with_reducible refine yaf ?_)) hb6;have hs6:=HS5.out w6 HB6.out;clear ho6 hb6;refine hK.out _ _ (fun hun=>hs6) ?_;clear hK K;try simp only [ap,aq,sa,sb,sc]
      refine wo 15 kr rfl fun K hK=>?_;go_simp;refine (yg4 A.t _ _ A.ev (A.today+d) HGD HASC R' HR' _ ((HRD.out _ bM).2) (HU6.out.below (by repeat (first | with_reducible exact bR | with_reducible refine yaa ?_ _)))).mono ?_;rintro _ w7 ⟨pv7,rv7,nv7,vs7,rfl,hp7,hr7,hn7,⟨f1,f2,f3,f4⟩,hb7⟩;obtain ⟨po7,pc7,rfl⟩:=hp7.shape;obtain ⟨ro7,rc7,rfl⟩:=hr7.shape;obtain ⟨no7,nc7,rfl⟩:=hn7.2.shape;have HRES:=lh (And.intro hp7 (And.intro hr7 hn7));have HFR:=lh (And.intro f1 (And.intro f2 (And.intro f3 f4)));have HB70:=lh hb7;have HB7:Hid (BW W5 w7):=yad bM hb7;have hs7:=HS5.out w7 HB7.out;clear hp7 hr7 hn7 f1 f2 f3 f4 hb7;refine hK.out _ _ (fun hun=>hs7) ?_;clear hK K;try simp only [ap,aq,sa,sb,sc]
      refine tF 16 rfl ?_ (hS:=hs7);refine tF 17 rfl ?_ (hS:=hs7);refine tF 18 rfl ?_ (hS:=hs7);refine tF 19 rfl ?_ (hS:=hs7);refine tF 20 rfl ?_ (hS:=hs7)
      obtain ⟨U,hU,UB,ULV,UBL⟩:∃U,w7=U/\Hid (Blk U W5.heap.size 35 [sZ,iZ,iZ])/\Hid (Sl .i64 U (.slice po7 R'.p.bs.length pc7) R'.p.bs/\Sl .i64 U (.slice ro7 R'.rs.length rc7) R'.rs/\StV U (.slice no7 R'.out.length nc7) R'.out vs7)/\Hid (BW W5 U) :=
       ⟨_,rfl,Blk.below (Blk.below (Blk.below (yae W5 [sZ,iZ,iZ] _ _ rfl) (yaf bR)) HB60.out) HB70.out,⟨HRES.out.1.below bR,HRES.out.2.1.below bR,HRES.out.2.2.below bR⟩,HB7.out⟩
      have UGE:Hid (W5.heap.size<=W5.heap.size):= by
       have h6:=HB6.out.size;have h7:=HB7.out.size;show _<=_;omega
      have UFR:Hid (Fr W5 (.slice po7 R'.p.bs.length pc7)/\Fr W5 (.slice ro7 R'.rs.length rc7)/\Fr W5 (.slice no7 R'.out.length nc7)/\∀v∈vs7,Fr W5 v):= by
       exact zq266ce8
      have UOF:Hid (OffF [W5.heap.size] (.slice po7 R'.p.bs.length pc7)/\OffF [W5.heap.size] (.slice ro7 R'.rs.length rc7)/\OffF [W5.heap.size] (.slice no7 R'.out.length nc7)/\∀v∈vs7,OffF [W5.heap.size] v):= by
       exact zq26a7f3
      with_reducible rw [hU]
      clear hU;obtain ⟨z0,z1,z2,-⟩:=UB.out.cs [0,1,2];simp only [gz,gs] at z0 z1 z2;obtain ⟨zf0,zf1,zf2,-⟩:=UB.out.fs [0,1,2];have hltz:=UB.out.lt;refine wo 22 kr rfl fun K hK=>?_;go_simp;refine hK.out _ _ kd ?_;clear hK K;try simp only [ap,aq,sa,sb,sc]
      refine wo 23 kr rfl fun K hK=>?_;go_simp;refine hK.out _ _ kd ?_;clear hK K;try simp only [ap,aq,sa,sb,sc]
      refine wo 24 kr rfl fun K hK=>?_;go_simp;refine hK.out _ _ kd ?_;clear hK K;try simp only [ap,aq,sa,sb,sc]
      refine wo 25 kr rfl fun K hK=>?_;go_simp;refine hK.out _ _ kd ?_;clear hK K;try simp only [ap,aq,sa,sb,sc]
      clear z0 z1 z2 zf0 zf1 zf2;refine yal kr ?_ _
      go_wp2_with fail
      go_meet
      case rel=>exact ⟨W5.heap.size,_,_,_,vs7,rfl,rfl,rfl,rfl,⟨(((UB.out.set 0 _).set 1 _).set 2 _),Sl.keep (F:=[W5.heap.size]) ULV.out.1 (((((yab.refl _ _).sg _).sg _).sg _)) UOF.out.1,Sl.keep (F:=[W5.heap.size]) ULV.out.2.1 (((((yab.refl _ _).sg _).sg _).sg _)) UOF.out.2.1,⟨LnsS.keep (F:=[W5.heap.size]) ULV.out.2.2.1 (((((yab.refl _ _).sg _).sg _).sg _)) UOF.out.2.2.2,Fl.keep (F:=[W5.heap.size]) ULV.out.2.2.2 (((((yab.refl _ _).sg _).sg _).sg _)) UOF.out.2.2.1⟩⟩,⟨UGE.out,UFR.out⟩,(((UBL.out.setCell UGE.out _).setCell UGE.out _).setCell UGE.out _)⟩
    case rest =>
     clear hsd hwd;obtain ⟨b7,pv',rv',nv',nvs',rfl,rfl,rfl,rfl,HRES,HFRS,HBW⟩:=hcut;obtain ⟨po,pc,rfl⟩:=HRES.out.2.1.shape;obtain ⟨ro,rc,rfl⟩:=HRES.out.2.2.1.shape;obtain ⟨no,nc,rfl⟩:=HRES.out.2.2.2.2.shape;have H3:=lh (H2.out.below HBW.out);have HBB3:=lh (HBB2.out.below HBW.out);have HST3:=lh (Stp.below HST2.out HBW.out);have HBT:Hid (BW w wc):=yad HBW2.out HBW.out;have kb3:=HBB3.out.lt
     by_cases hre:R'.e=0
     ·have hre':(R'.e != 0)=false:=by simpa using hre
      have hE2:=hE.out;unfold yh3 at hE2;rw [if_neg (by have:=HD.out;omega),if_neg (by rw [HOF.out,HQ0.out];simp),HR'.out,if_neg (by rw [hre];simp)] at hE2;simp only [Prod.mk.injEq] at hE2;obtain ⟨rfl,rfl⟩:=hE2;have HRE:=lh hre;clear hre;obtain ⟨nao,nac,hnv⟩:=H3.out.rd.now.2.2.2.2.2.1.2.shape;simp only at hnv;subst hnv;obtain ⟨io,ic,hiv⟩:=(StS.of_own H3.out.iss H3.out.rd.now.2.2.2.2.2.2).shape;simp only at hiv;subst hiv
      have HLE:Hid (A.R.out.length<=R'.out.length/\R'.out.length<=300/\A.R.out.length<=300/\A.iss.length=A.R.out.length):= by
       have hr0:(runS A.t A.ev (A.today+d)).e=0:=by rw [HR'.out];exact HRE.out
       obtain ⟨ps2,hp2⟩:=yfx HGD.out hr0;have h:=ygq (cyc:=A.t.cyc) (day:=A.today) (day':=A.today+d) (by have:=HD.out;omega) 300 A.t.start;rw [hp2.sp,HQ.out.sp] at h;have e1:=hp2.out;have e2:=HQ.out.out;have e3:=hp2.len;have e4:=HOK.out.outl;rw [HR'.out] at e1;rw [HOK.out.run] at e2;have e5:=HOK.out.issl;show _/\_/\_/\_;simp only at h;omega
      go_upto_region 10 with (with_reducible refine ybj rfl (.tmp 11) (.tmp 67) rfl rfl wc.heap.size _ rfl rfl _ (heap_alloc_new wc _) rfl rfl (by simp [Value.oneCell']) ?_)
      obtain ⟨W9,hW,HB11,HBW9⟩:∃W,(wc.alloc (.cells zA.toArray 45)).setRow wc.heap.size zA.toArray=W/\Hid (Blk W wc.heap.size 45 zA)/\Hid (BW wc W):=⟨_,rfl,setRow_heap _ _ _ _ _ _ (heap_alloc_new wc _),ybl (yaa bR _) (Nat.le_refl _) _⟩
      with_reducible rw [hW]
      clear hW kb3;have c15:W9.cell? (Ad g 15)=some (.slice nao A.R.out.length nac):=(H3.out.blk.below HBW9.out).cell 15;have kg:=(H3.out.blk.below HBW9.out).lt
      by_cases hgt:A.R.out.length<R'.out.length
      ·have hgt':(A.R.out.length:Int)<(R'.out.length:Int):=by omega
       have t2:=HB11.out.cell 2;have tf2:=HB11.out.frozen 2;have kt:=HB11.out.lt;simp only [gz,gs] at t2;go_upto_region 12 with fail
       obtain ⟨W10,hW,HB10,HBW10⟩:∃W,W9.setCell (Ad wc.heap.size 2) (iV (R'.out.length:Int))=W/\Hid (Blk W wc.heap.size 45 [iZ,iZ,iV (R'.out.length:Int),iZ,iZ,sZ,iZ,iZ,sZ,sZ,iZ,iZ,iZ,iZ,iZ,sZ,iZ,iZ,iZ,.bool false])/\Hid (BW wc W):=⟨_,rfl,HB11.out.set 2 _,yao HBW9.out (Nat.le_refl _)⟩
       with_reducible rw [hW]
       clear hW c15 t2 tf2 kt kg;obtain ⟨cy,hcy⟩:∃cy,(R'.out.length:Int)=cy:=⟨_,rfl⟩;rw [hcy] at HB10;clear hcy hgt hgt';exact zq26e5ad
      ·have hgt':¬(A.R.out.length:Int)<(R'.out.length:Int):=by omega
       go_upto_region 12 with fail
       clear c15 kg hgt hgt';obtain ⟨W10,hW⟩:∃W10,W10=W9:=⟨_,rfl⟩;subst hW;have HBW10:=HBW9;obtain ⟨cy,hcy⟩:∃cy:Int,0=cy:=⟨_,rfl⟩;have HB10:Hid (Blk W10 wc.heap.size 45 [iZ,iZ,iV cy,iZ,iZ,sZ,iZ,iZ,sZ,sZ,iZ,iZ,iZ,iZ,iZ,sZ,iZ,iZ,iZ,.bool false]):=by subst hcy;exact HB11.out
       clear hcy;exact zq26e5ad
     ·have hre':(R'.e != 0)=true:=by simpa using hre
      have hE2:=hE.out;unfold yh3 at hE2;rw [if_neg (by have:=HD.out;omega),if_neg (by rw [HOF.out,HQ0.out];simp),HR'.out,if_pos hre] at hE2;simp only [Prod.mk.injEq] at hE2;obtain ⟨rfl,rfl⟩:=hE2;clear hre
      go_wp2_with fail
      refine (yc2 (R'.e) _).mono ?_;rintro _ wz ⟨rfl,hbz⟩;have HZ:Hid (wz.heap[w.heap.size]?=some (.cells zA.toArray 45 (0,0))):=HBB3.out.below hbz;have HBZ:Hid (Blk wz w.heap.size 45 zA):=HBB3.out.below hbz;have HHZ:=lh (H3.out.below hbz);have HSZ:=lh (Stp.below HST3.out hbz);have HOZ:=lh (ybw.of_below (yad HBT.out hbz));clear hbz
      go_wp2_with (with_reducible refine ybj rfl (.tmp 4) (.tmp 66) rfl rfl w.heap.size _ rfl rfl _ HZ.out rfl rfl (by simp [Value.oneCell']) ?_)
      refine bodyPost_ret (v:=ansZ (R'.e)) (results_cell_row (p:=4) (ty:=45) rfl _ _ w.heap.size 45 _ (0,0) _ rfl (setRow_heap _ _ _ _ _ _ HZ.out) Tryz.underlying45 rfl (by rw [ybp];rfl)) rfl ⟨_,rfl,yfd _,yd3 HHZ.out HSZ.out (fun x hx=>List.mem_cons_of_mem _ hx) (List.mem_cons_self ..) HBZ.out HOZ.out (Nat.le_refl _) _⟩
   ·have hq0':(q.2 != 0)=true:=by simpa using hq0
    have kb2:=HBB2.out.lt;have hE2:=hE.out;unfold yh3 at hE2;rw [if_neg (by have:=HD.out;omega),if_pos (by rw [HOF.out];exact hq0)] at hE2;simp only [Prod.mk.injEq] at hE2;obtain ⟨rfl,rfl⟩:=hE2
    go_wp2_with fail
    refine (yc2 (10) _).mono ?_;rintro _ wz ⟨rfl,hbz⟩;have HZ:Hid (wz.heap[w.heap.size]?=some (.cells zA.toArray 45 (0,0))):=HBB2.out.below hbz;have HBZ:Hid (Blk wz w.heap.size 45 zA):=HBB2.out.below hbz;have HHZ:=lh (H2.out.below hbz);have HSZ:=lh (Stp.below HST2.out hbz);have HOZ:=lh (ybw.of_below (yad HBW2.out hbz));clear hbz
    go_wp2_with (with_reducible refine ybj rfl (.tmp 4) (.tmp 41) rfl rfl w.heap.size _ rfl rfl _ HZ.out rfl rfl (by simp [Value.oneCell']) ?_)
    refine bodyPost_ret (v:=ansZ (10)) (results_cell_row (p:=4) (ty:=45) rfl _ _ w.heap.size 45 _ (0,0) _ rfl (setRow_heap _ _ _ _ _ _ HZ.out) Tryz.underlying45 rfl (by rw [ybp];rfl)) rfl ⟨_,rfl,yfd _,yd3 HHZ.out HSZ.out (fun x hx=>List.mem_cons_of_mem _ hx) (List.mem_cons_self ..) HBZ.out HOZ.out (Nat.le_refl _) _⟩
end Go.Proofs.YtkongpjpkpfniaaGreat

/- TopTicks: parts of the proof, made small by a program (mini.py). -/
import Derived.Test.YtkongpjpkpfniaaGreatT01
import Derived.Test.YtkongpjpkpfniaaGreatT10
import Derived.Test.YtkongpjpkpfniaaGreatT25
import Derived.Test.YtkongpjpkpfniaaGreatT26
set_option linter.unusedVariables false
set_option linter.unusedSimpArgs false
set_option maxRecDepth 100000
set_option maxHeartbeats 6400000
namespace Go.Proofs.YtkongpjpkpfniaaGreat
open Go.RowKit
theorem zq271e45 {q:Prop} (h:q:= by
 go_wp2_with fail
 obtain rfl:8=E:= by
  have h9:=HE2.out;rw [if_neg (fun h=>h.2 HTR.out),if_pos (.inr ⟨hk7,by omega⟩)] at h9;exact h9
 exact zq272b2d):q:=h
theorem zq27442d {q:Prop} (h:q:= by
 go_wp2_with fail
 obtain rfl:8=E:= by
  have h9:=HE2.out;rw [if_neg (fun h=>h.2 HTR.out),if_pos (.inl ⟨hk7,by omega⟩)] at h9;exact h9
 exact zq272b2d):q:=h
theorem zq27d5a1 {q:Prop} (h:q:= by
 go_wp2_with fail
 obtain rfl:8=E:= by
  have h9:=HE2.out;rw [if_neg (fun h=>h.1 hk2),if_pos (.inr ⟨hk7,by omega⟩)] at h9;exact h9
 have hz:x=yax:=by rw [<-hx.out];unfold evEv;rw [if_pos (by rw [hE.out];decide)]
 have hbk:B'=b:=by rw [<-hB'.out];unfold evBk;rw [if_neg (fun h=>by have:=h.1;rw [hE.out] at this;exact absurd this (by decide))]
 subst hbk
 go_step3
 exact ⟨rfl,HJ.out _ _ (x10 (x10 (x10 (x10 (x10 (x10 (x10 (x10 (x10 (x10 (x10 (x10 (x10 ⟨_,_,_,_,_,_,_,_,rfl,hz,K1.out.be,⟨_,K1.out.bk⟩,K1.out.st⟩)))))))))))))⟩):q:=h
theorem zq27b3d7 {q:Prop} (h:q:= by
 go_upto_region 1 with fail
 try with_reducible rw [hW1]
 clear hW1
 go_wp2_with fail
 have HZ:=lh HB1.out;have kb:=HB1.out.lt;clear HB1;refine (yc2 12 _).mono ?_;rintro _ wz ⟨rfl,hbz⟩;have HZ2:Hid (wz.heap[w.heap.size]?=some (.cells zA.toArray 45 (0,0))):=HZ.out.below hbz;have HBZ:Hid (BW w wz):=yad HBW1.out hbz;clear hbz
 go_wp2_with (with_reducible refine ybj rfl (.tmp 4) (.tmp 13) rfl rfl w.heap.size _ rfl rfl _ HZ2.out rfl rfl (by simp [Value.oneCell']) ?_)
 refine bodyPost_ret (v:=ansZ 12) (results_cell_row (p:=4) (ty:=45) rfl _ _ w.heap.size 45 _ (0,0) _ rfl (setRow_heap _ _ _ _ _ _ HZ2.out) Tryz.underlying45 rfl (by rw [ybp];rfl)) rfl ⟨_,rfl,yfd _,ybl HBZ.out (Nat.le_refl _) _⟩):q:=h
theorem zq272b2d {q:Prop} (h:q:= by
 have hz:x=yax:=by rw [<-hx.out];unfold evEv;rw [if_pos (by rw [hE.out];decide)]
 have hbk:B'=b:=by rw [<-hB'.out];unfold evBk;rw [if_neg (fun h=>by have:=h.1;rw [hE.out] at this;exact absurd this (by decide))]
 subst hbk
 go_step3
 exact ⟨rfl,HJ.out _ _ (x10 (x10 (x10 (x10 (x10 (x10 (x10 (x10 (x10 (x10 (x10 (x10 (x10 ⟨_,_,_,_,_,_,_,_,rfl,hz,K3.out.be,⟨_,K3.out.bk⟩,K3.out.st⟩)))))))))))))⟩):q:=h
def yz6 (E:Int) (w:World) (e:Ending) (w':World):Prop:=∃v,e=.returned v/\Ans E v/\BW w w'
theorem StV.one {n cap k b o:Nat} {w:World} {l:List St} {vs:List Value} (h:StV w (sL b o n cap) l vs) (hk:k<l.length) :
 StV w (sL b (o+k*9) 1 (cap-k)) [l.getD k St0] [vs.getD k (sZ)]:= by
 obtain ⟨h1,h2⟩:=h;have hg:=h1.get hk;have hlen:=h2.len;refine ⟨⟨hg,trivial⟩,⟨rfl,?_,_,_,rfl,(show 1<=cap-k by have h3:=hlen.1;have h4:=hlen.2.1;omega),⟨by have:=hlen.2.2.1;omega,fun e=>by cases e⟩,fun _=>⟨b,o+k*9,rfl,fun i hi=>?_⟩⟩⟩
 ·intro c hc
  have h3:LnsS w [l.getD k St0] [vs.getD k (sZ)]:=⟨hg,trivial⟩;exact h3.one c hc
 ·have hi9:i<9:=by simpa using hi
  obtain rfl:=hlen.1;obtain ⟨b',o',e,hc⟩:=h2.at (i:=k*9+i) om;cases e;rw [show o+k*9+i=o+(k*9+i) by omega,hc,ykc h1.length hk i hi9];simp [yay]
theorem yse (v:Value) (l:List St) (vs:List Value) (n:Int) (hl:l.length<=1000) (hll:Hid (∀i,i<l.length->(l.getD i St0).ls.length<=1000)) (E:Int) (hE:Hid ((if n<1\/(l.length:Int)<n then 12 else 0)=E)) (w:World) (hv:StV w v l vs) :
 Calls Tryz.prog 36 #[v,iV n] w (yz6 E w):= by
 have HV:=lh hv;obtain ⟨ao,ac,rfl⟩:=hv.2.shape;obtain ⟨W1,hW1,HB1,HBW1⟩:∃W,w.alloc (.cells zA.toArray 45)=W/\Hid (Blk W w.heap.size 45 zA)/\Hid (BW w W):=⟨_,rfl,yae w _ _ _ rfl,yaa bR _⟩;clear hv
 go_enter Tryz.func36,Tryz.ntmps36
 by_cases h1:n<1
 ·obtain rfl:12=E:=by have h9:=hE.out;rw [if_pos (.inl h1)] at h9;exact h9
  exact zq27b3d7
 ·by_cases h2:(l.length:Int)<n
  ·obtain rfl:12=E:=by have h9:=hE.out;rw [if_pos (.inr h2)] at h9;exact h9
   exact zq27b3d7
  ·obtain ⟨k,hk⟩:∃k:Nat,n=(k:Int)+1:=⟨(n-1).toNat,by omega⟩
   have hkl:k<l.length:=by omega
   obtain ⟨b,o,rfl⟩:∃b o,ao=some (Ad b o):= by
    obtain ⟨b,o,e,_⟩:=HV.out.2.at (i:=0) om;exact ⟨b,o,e⟩
   go_upto_region 3 with fail
   try with_reducible rw [hW1]
   clear hW1;have hac1:k+1<=ac:=by have h3:=HV.out.2.len.2.1;omega
   have hac2:((k:Int)+1)<=(ac:Int):=by omega
   have hac3:¬ac=k:=by omega
   have HLS:Hid ((l.getD k St0).ls.length<=1000):=hll.out k hkl;have HSV:=lh ((HV.out.below HBW1.out).one hkl);have hwk:IntKind.i64.wrap (n-1)=(k:Int):=by rw [IntWalk.i64_left,IntWalk.wrap64_in _ ⟨by omega,by omega⟩];omega
   subst hk
   go_wp2_with fail
   obtain ⟨s,hs⟩:∃s,l.getD k St0=s:=⟨_,rfl⟩;rw [hs] at HSV HLS;clear hs
   refine (yke _ [s] _ (by simp) (fun i hi=>by
    obtain rfl:i=0:=by simpa using hi
    exact HLS.out) _ HSV.out).mono ?_
   rintro _ w2 ⟨u,us,rfl,hou,hlu,hfu,hb2⟩;have HB2:Hid (BW w w2):=yad HBW1.out hb2;have HZ:Hid (w2.heap[w.heap.size]?=some (.cells zA.toArray 45 (0,0))):=HB1.out.below hb2;have kb:w.heap.size<w2.heap.size:=by have h1:=HB1.out.lt;have h2:=hb2.size;omega
   obtain ⟨gq,uc,rfl⟩:=ya5 hou (by simp);have hss:=StS.get ⟨us,hlu,Fl.of_own hou hlu.one⟩ (i:=0) (by simp);obtain ⟨bq,oq,sq,lv,e,hc,hln,hsq⟩:=hss;have hsq2:=hsq.out;simp only [List.getD_cons_zero] at hsq2;subst hsq2;cases e;simp only [Nat.zero_mul,Nat.add_zero,Nat.zero_add] at hc;obtain ⟨c0,c1,c2,c3,c4,c5,c6,c7,c8⟩:=hc;obtain ⟨po,pc,rfl⟩:=hln.fl.shape;obtain ⟨pn,hpn⟩:∃pn,s.ls.length=pn:=⟨_,rfl⟩;rw [hpn] at c4;obtain rfl:0=E:=by have h9:=hE.out;rw [if_neg om] at h9;exact h9
   clear hou hlu hfu hb2 hln hsq hpn hwk
   go_wp2_with (with_reducible refine ybj rfl (.tmp 4) (.tmp 22) rfl rfl w.heap.size #[iZ,iZ,iZ,iZ,iZ,sZ,iZ,iZ,sZ,sZ,iZ,iV s.n,iV s.fr,iV s.til,iV s.du,.slice po pn pc,iV s.tot,iV s.cr,iV s.mn,.bool s.g] rfl rfl _ HZ.out rfl rfl (by simp [Value.oneCell']) ?_)
   refine bodyPost_ret (v:=.agg #[iZ,iZ,iZ,iZ,iZ,sZ,iZ,iZ,sZ,sZ,iZ,iV s.n,iV s.fr,iV s.til,iV s.du,.slice po pn pc,iV s.tot,iV s.cr,iV s.mn,.bool s.g]) (results_cell_row (p:=4) (ty:=45) rfl _ _ w.heap.size 45 _ (0,0) _ rfl (setRow_heap _ _ _ _ _ _ HZ.out) Tryz.underlying45 rfl (by rw [ybp];rfl)) rfl ⟨_,rfl,⟨0,0,0,0,_,0,0,_,_,0,s.n,s.fr,s.til,s.du,_,s.tot,s.cr,s.mn,s.g,rfl,isl _ _ _,isl _ _ _,isl _ _ _,isl _ _ _⟩,ybl HB2.out (Nat.le_refl _) _⟩
def yyb (A:Acc) (w:World) (e:Ending) (w':World):Prop :=
 ∃cy bv rv dv,e=.returned (.agg #[iV A.today,iV cy,bv,iV A.R.p.c,iV A.R.p.d,rv,dv,iV A.seq])/\Sl .i64 w' bv A.R.p.bs/\Sl .i64 w' rv A.R.rs/\IsSl dv/\(Fr w bv/\Fr w rv/\Fr w dv)/\BW w w'
theorem yfv (lo g:Nat) (A:Acc) (hA:ycy A) (F:List Nat) (V:AV) (w:World) (h:ybe lo g A F w V) :
 Calls Tryz.prog 11 #[pV g] w (yyb A w):= by
 have H:=lh h
 have HL8:Hid (A.R.p.bs.length<=1000/\A.R.rs.length<=1000/\A.bk.ds.length<=100000):= by
  have h1:=yci hA.goods.terms;have h2:=hA.bs;have h3:=hA.rs;have h4:=hA.bkl;show _/\_/\_;omega
 have HRL:Hid (A.R.rs.length<=1000):=HL8.out.2.1;have HBL:Hid (A.bk.ds.length<=100000):=HL8.out.2.2;obtain ⟨po,pc,hpv⟩:=h.rd.now.2.2.2.1.shape;obtain ⟨ro,rc,hrv⟩:=h.rd.now.2.2.2.2.1.shape;obtain ⟨pn,hpn⟩:∃n,A.R.p.bs.length=n:=⟨_,rfl⟩;obtain ⟨rn,hrn⟩:∃n,A.R.rs.length=n:=⟨_,rfl⟩;rw [hpn] at hpv;rw [hrn] at hrv;obtain ⟨cy,hcy⟩:∃q,(ofS A.t.start A.t.cyc A.today).1=q:=⟨_,rfl⟩;have HCY:=lh hcy;obtain ⟨gb,hgb⟩:∃q,V.gb=q:=⟨_,rfl⟩;have HGB:=lh hgb;have c11:w.cell? (Ad g 11)=some (.slice po pn pc):=by rw [<-hpv];exact h.blk.cell 11
 have c12:w.cell? (Ad g 12)=some (iV A.R.p.c):=h.blk.cell 12;have c13:w.cell? (Ad g 13)=some (iV A.R.p.d):=h.blk.cell 13;have kg:=h.blk.lt;have HSP:Hid (∀W',BW w W'->Sl .i64 W' (.slice po pn pc) A.R.p.bs):=fun W' hb=>by rw [<-hpv];exact (h.below hb).rd.now.2.2.2.1
 have HSR:Hid (∀W',BW w W'->Sl .i64 W' (.slice ro rn rc) A.R.rs):=fun W' hb=>by rw [<-hrv];exact (h.below hb).rd.now.2.2.2.2.1
 have HC:Hid (∀W',BW w W'->Ce W' g 7 (iV A.today)/\Ce W' g 8 (iV A.seq)/\Ce W' g 10 (pV gb)/\Ce W' g 14 (.slice ro rn rc)):=fun W' hb=>by
  have q:=h.blk.below hb;rw [<-hrv,<-hgb];exact ⟨q.cell 7,q.cell 8,q.cell 10,q.cell 14⟩
 clear h hpv hrv hpn hrn hcy hgb
 go_enter Tryz.func11,Tryz.ntmps11
 go_wp2_with fail
 refine (ydp (.slice po pn pc) A.R.p.bs _ (HSP.out _ (by repeat (first | with_reducible exact bR | with_reducible refine yao ?_ ?hge | with_reducible refine yaa ?_ _ | (case hge=>omega)))) HL8.out.1).mono ?_;rintro _ w2 ⟨u,rfl,hu,hb2⟩;obtain ⟨uo,uc,rfl⟩:=(Sl.of_own hu rfl).shape;obtain ⟨un,hun⟩:∃n,A.R.p.bs.length=n:=⟨_,rfl⟩;rw [hun] at hu;have HU:=lh (Sl.of_own hu (by rw [hun]));have HFU:=lh (yvm hu);have HBS2:Hid (Blk w2 w.heap.size 38 [iZ,iZ,sZ,iZ,iZ,sZ,sZ,iZ]):=((yae w _ _ _ rfl).below (yaa bR _)).below hb2;have HBP2:Hid (Blk w2 (w.heap.size+1) 35 [.slice po pn pc,iV A.R.p.c,iV A.R.p.d]):=(ybc _ _ _ _ (World.size_alloc _ _)).below hb2;have HB2:Hid (BW w w2):=yad (yaa (yaa bR _) _) hb2;rw [hun];clear hu hb2 c11 c12 c13 hun;have z0:=HBP2.out.cell 0;simp only [gz,gs] at z0;have zf0:=HBP2.out.frozen 0;have kz:=HBP2.out.lt;go_upto_region 5 with fail
 obtain ⟨W3,hW,HBS3,HBP3,HU3,HB3⟩:∃W,w2.setCell (Ad (w.heap.size+1) 0) (.slice uo un uc)=W/\Hid (Blk W w.heap.size 38 [iZ,iZ,sZ,iZ,iZ,sZ,sZ,iZ])/\Hid (Blk W (w.heap.size+1) 35 [.slice uo un uc,iV A.R.p.c,iV A.R.p.d])/\Hid (Sl .i64 W (.slice uo un uc) A.R.p.bs)/\Hid (BW w W) :=
  ⟨_,rfl,HBS2.out.setOther om _ _,HBP2.out.set 0 _,HU.out.setCell (fun b o n c e hn=>by
   have h1:=HFU.out b o n c e hn;simp only [World.size_alloc] at h1;omega) _,yao HB2.out om⟩
 with_reducible rw [hW]
 clear hW z0 zf0 kz kg;have H3:=lh (H.out.below HB3.out);have HRS:Hid (∀W',BW W3 W'->Sl .i64 W' (.slice ro rn rc) A.R.rs):=fun W' hb=>HSR.out _ (yad HB3.out hb)
 have HS5:Hid (∀W',BW W3 W'->Ce W' g 7 (iV A.today)/\Ce W' g 8 (iV A.seq)/\Ce W' g 10 (pV gb)/\Ce W' g 14 (.slice ro rn rc)/\Ce W' (w.heap.size+1) 0 (.slice uo un uc)/\Ce W' (w.heap.size+1) 1 (iV A.R.p.c)/\Ce W' (w.heap.size+1) 2 (iV A.R.p.d)):=fun W' hb=>by
  have q1:=HC.out _ (yad HB3.out hb);have q2:=HBP3.out.below hb;exact ⟨q1.1,q1.2.1,q1.2.2.1,q1.2.2.2,q2.cell 0,q2.cell 1,q2.cell 2⟩
 have hsd:=HS5.out W3.drew (yaf bR);refine yan (fun W'=>Ce W' g 7 (iV A.today)/\Ce W' g 8 (iV A.seq)/\Ce W' g 10 (pV gb)/\Ce W' g 14 (.slice ro rn rc)/\Ce W' (w.heap.size+1) 0 (.slice uo un uc)/\Ce W' (w.heap.size+1) 1 (iV A.R.p.c)/\Ce W' (w.heap.size+1) 2 (iV A.R.p.d)) 26 kr ?_;refine tK 0 rfl ?_;refine tK 1 rfl ?_;refine tK 2 rfl ?_;refine tK 3 rfl ?_;refine tK 4 rfl ?_;refine tK 5 rfl ?_;refine tK 6 rfl ?_;refine tK 7 rfl ?_;refine tK 8 rfl ?_;refine tK 10 rfl ?_;refine tK 11 rfl ?_;refine tK 12 rfl ?_;refine tK 13 rfl ?_;refine tK 14 rfl ?_;refine tK 16 rfl ?_;refine tK 17 rfl ?_;refine tK 18 rfl ?_;refine tK 19 rfl ?_;refine tK 21 rfl ?_;refine tK 22 rfl ?_;refine tK 23 rfl ?_;refine tK 24 rfl ?_;refine wo 9 kr rfl fun K hK=>?_;go_simp;refine (yf6 lo g A F V A.today cy HCY _ (H3.out.below (yaf bR))).mono ?_;rintro _ w5 ⟨rfl,hb5⟩;have HB5:Hid (BW W3 w5):=yad (yaf bR) hb5;have hs5:=HS5.out w5 HB5.out;clear hb5;refine hK.out _ _ (fun hun=>hs5) ?_;clear hK K;try simp only [ap,aq,sa,sb,sc]
 refine wo 15 kr rfl fun K hK=>?_;go_simp;refine (ydp (.slice ro rn rc) A.R.rs _ (HRS.out _ HB5.out) HRL.out).mono ?_;rintro _ w6 ⟨x6,rfl,hx6,hb6⟩;obtain ⟨xo,xc,rfl⟩:=(Sl.of_own hx6 rfl).shape;have HX6:=lh (Sl.of_own hx6 rfl);have HF6:=lh (yvm hx6);have HB60:=lh hb6;have HB6:Hid (BW W3 w6):=yad HB5.out hb6;have hs6:=HS5.out w6 HB6.out;clear hx6 hb6;refine hK.out _ _ (fun hun=>hs6) ?_;clear hK K;try simp only [ap,aq,sa,sb,sc]
 refine wo 20 kr rfl fun K hK=>?_;go_simp;refine (yqh 0 gb V.dv A.bk _ (by rw [<-HGB.out];exact (H3.out.below HB6.out).rd.now.2.2.1) HBL.out).mono ?_;rintro _ w7 ⟨d7,rfl,hd7,hb7⟩;obtain ⟨yo,yc,rfl⟩:=(R5S.of_own hd7 rfl).shape;have HF7:=lh (yvm hd7);have HB70:=lh hb7;have HB7:Hid (BW W3 w7):=yad HB6.out hb7;have hs7:=HS5.out w7 HB7.out;clear hd7 hb7;refine hK.out _ _ (fun hun=>hs7) ?_;clear hK K;try simp only [ap,aq,sa,sb,sc]
 refine tF 25 rfl ?_ (hS:=hs7);have HBS7:Hid (Blk w7 w.heap.size 38 [iZ,iZ,sZ,iZ,iZ,sZ,sZ,iZ]):=HBS3.out.below HB7.out;obtain ⟨z0,z1,z2,z3,z4,z5,z6,z7,-⟩:=HBS7.out.cs [0,1,2,3,4,5,6,7];simp only [gz,gs] at z0 z1 z2 z3 z4 z5 z6 z7;obtain ⟨zf0,zf1,zf2,zf3,zf4,zf5,zf6,zf7,-⟩:=HBS7.out.fs [0,1,2,3,4,5,6,7];have kz:=HBS7.out.lt;refine wo 26 kr rfl fun K hK=>?_;go_simp;refine hK.out _ _ kd ?_;clear hK K;try simp only [ap,aq,sa,sb,sc]
 refine yal kr ?_ _;clear z0 z1 z2 z3 z4 z5 z6 z7 zf0 zf1 zf2 zf3 zf4 zf5 zf6 zf7
 go_wp2_with fail
 have hf:=(((((((HBS7.out.set 0 (iV A.today)).set 1 (iV cy)).set 2 (.slice uo un uc)).set 3 (iV A.R.p.c)).set 4 (iV A.R.p.d)).set 5 (.slice xo A.R.rs.length xc)).set 6 (.slice yo A.bk.ds.length yc)).set 7 (iV A.seq);have q0:World.cell? _ (Ad w.heap.size 0)=some (iV A.today):=hf.cell 0;have q1:World.cell? _ (Ad w.heap.size 1)=some (iV cy):=hf.cell 1;have q2:World.cell? _ (Ad w.heap.size 2)=some (.slice uo un uc):=hf.cell 2;have q3:World.cell? _ (Ad w.heap.size 3)=some (iV A.R.p.c):=hf.cell 3;have q4:World.cell? _ (Ad w.heap.size 4)=some (iV A.R.p.d):=hf.cell 4;have q5:World.cell? _ (Ad w.heap.size 5)=some (.slice xo A.R.rs.length xc):=hf.cell 5;have q6:World.cell? _ (Ad w.heap.size 6)=some (.slice yo A.bk.ds.length yc):=hf.cell 6;have q7:World.cell? _ (Ad w.heap.size 7)=some (iV A.seq):=hf.cell 7;have hk:yab [w.heap.size] w7 _:=((((((((yab.refl [w.heap.size] w7).setCell (i:=0) (.inl (List.mem_cons_self ..)) (iV A.today)).setCell (i:=1) (.inl (List.mem_cons_self ..)) (iV cy)).setCell (i:=2) (.inl (List.mem_cons_self ..)) (.slice uo un uc)).setCell (i:=3) (.inl (List.mem_cons_self ..)) (iV A.R.p.c)).setCell (i:=4) (.inl (List.mem_cons_self ..)) (iV A.R.p.d)).setCell (i:=5) (.inl (List.mem_cons_self ..)) (.slice xo A.R.rs.length xc)).setCell (i:=6) (.inl (List.mem_cons_self ..)) (.slice yo A.bk.ds.length yc)).setCell (i:=7) (.inl (List.mem_cons_self ..)) (iV A.seq);have hs2:=HB3.out.size;have hs5:=HB5.out.size;have hs6:=HB6.out.size
 have hfu:Fr w (.slice uo un uc):=fun b o n c e hn=>by
  have h1:=HFU.out b o n c e hn;simp only [World.size_alloc] at h1;omega
 have hfx:Fr w (.slice xo A.R.rs.length xc):=fun b o n c e hn=>by
  have h1:=HF6.out b o n c e hn;omega
 have hfy:Fr w (.slice yo A.bk.ds.length yc):=fun b o n c e hn=>by
  have h1:=HF7.out b o n c e hn;omega
 have hou:OffF [w.heap.size] (.slice uo un uc):=fun b o n c e hn hm=>by
  have h1:=HFU.out b o n c e hn;simp only [World.size_alloc] at h1;simp only [ms] at hm;omega
 have hox:OffF [w.heap.size] (.slice xo A.R.rs.length xc):=fun b o n c e hn hm=>by
  have h1:=HF6.out b o n c e hn;have h2:=HBP3.out.lt;simp only [ms] at hm;omega
 refine bodyPost_ret (v:=.agg #[iV A.today,iV cy,.slice uo un uc,iV A.R.p.c,iV A.R.p.d,.slice xo A.R.rs.length xc,.slice yo A.bk.ds.length yc,iV A.seq]) (by simp [results,Tryz.results11,go_sem,q0,q1,q2,q3,q4,q5,q6,q7]) rfl ⟨_,_,_,_,rfl,(HU3.out.below HB7.out).keep hk hou,(HX6.out.below HB70.out).keep hk hox,isl _ _ _,⟨hfu,hfx,hfy⟩,(yad HB3.out HB7.out).trans (hk.to_below (by have:=HB7.out.size;omega) (fun x hx=>by simp only [ms] at hx;omega))⟩
theorem yhm (lo g:Nat) (A:Acc) (hA:ycy A) (F:List Nat) (V:AV) (w:World) (h:ybe lo g A F w V) :
 Calls Tryz.prog 18 #[pV g] w (yyj A.iss w):= by
 have H:=lh h;have HOK:=lh hA;have c16:w.cell? (Ad g 16)=some V.iv:=h.blk.cell 16;obtain ⟨io,ic,hiv⟩:=(StS.of_own h.iss h.rd.now.2.2.2.2.2.2).shape;have HIV:=lh hiv;rw [hiv] at c16;have kg:=h.blk.lt;clear h hiv hA
 go_enter Tryz.func18,Tryz.ntmps18
 go_wp2_with fail
 refine (yke _ A.iss V.ivs (by have h1:=HOK.out.issl;have h2:=HOK.out.outl;omega) (lh HOK.out.issb) _ (by rw [<-HIV.out];exact ⟨H.out.rd.now.2.2.2.2.2.2,Fl.of_own H.out.iss H.out.rd.now.2.2.2.2.2.2.one⟩)).mono ?_;rintro _ w2 ⟨u,us,rfl,h1,h2,h3,h4⟩;have HX:=lh (And.intro h1 (And.intro h2 (And.intro h3 h4)));clear h1 h2 h3 h4
 go_wp2_with fail
 go_ret
 exact ⟨_,us,rfl,HX.out.1,HX.out.2.1,HX.out.2.2.1,HX.out.2.2.2⟩
structure EvW (w:World) (base gb:Nat) (L:List Nat) (c:R5) (dv:Value) (b:Bk) (b8:Nat) (e5:List Value) (W:World):Prop where
 bc:Blk W w.heap.size 48 [iV c.a,iV c.b,iV c.c,iV c.d,iV c.e]
 be:Blk W (w.heap.size+1) 150 [iZ,iZ,iZ,iZ,iZ]
 bl:Blk W b8 150 e5
 ge:w.heap.size+2<=b8
 bk:ya6 W base gb dv b
 st:DStp base L w W
section
variable {w W W':World} {base gb b8:Nat} {L:List Nat} {c:R5} {dv dv':Value} {b b':Bk} {e5:List Value}
theorem EvW.below (h:EvW w base gb L c dv b b8 e5 W) (hb:BW W W') (hbase:base<=w.heap.size):EvW w base gb L c dv b b8 e5 W' :=
 ⟨h.bc.below hb,h.be.below hb,h.bl.below hb,h.ge,h.bk.below hb,⟨h.st.below.trans (hb.mono (Nat.le_trans hbase h.st.keep.size)),h.st.keep.below hb⟩⟩
theorem EvW.set (h:EvW w base gb L c dv b b8 e5 W) (hbase:base<=w.heap.size) (hgb:gb<w.heap.size) (j:Nat) (u:Value):EvW w base gb L c dv b b8 (e5.set j u) (W.setCell (Ad b8 j) u):= by
 have hge:=h.ge;exact ⟨h.bc.setOther om _ _,h.be.setOther om _ _,h.bl.set _ _,hge,⟨h.bk.1,h.bk.2.1.setOther om _ _,yaz h.bk.2.2 (yaj h.bk.2.2 h.bl (by decide)) _⟩,h.st.setCell om (.inr om) _⟩
theorem EvW.open' (h:EvW w base gb L c dv b b8 e5 W) (hs:DStp base L W W') (hk:ya6 W' base gb dv' b') (hL:∀y∈L,y<w.heap.size):EvW w base gb L c dv' b' b8 e5 W':= by
 have hge:=h.ge;exact ⟨h.bc.keep hs.keep (fun hm=>by have:=hL _ hm;omega),h.be.keep hs.keep (fun hm=>by have:=hL _ hm;omega),h.bl.keep hs.keep (fun hm=>by have:=hL _ hm;omega),hge,hk,⟨h.st.below.trans hs.below,h.st.keep.trans hs.keep (fun x hx=>.inl hx)⟩⟩
end
theorem yl2 (lo g base gb:Nat) (A:Acc) (F:List Nat) (V:AV) (dv:Value) (b:Bk) (c:R5) (hk:c.a=2\/c.a=7) (x:R5) (hx:Hid (evEv A b c=x)) (E:Int) (hE:Hid (yfz A b c=E)) (B':Bk) (hB':Hid (evBk A b c=B')) (hbs:Hid (A.R.p.bs.length=A.t.ts.length/\A.t.ts.length<=1000)) (L:List Nat) (hL:Hid (gb∈L/\∀q,dv.ownBlock=some q->q∈L)) (w:World) (hLl:Hid (∀y∈L,y<w.heap.size)) (hb:base<=w.heap.size) (hv:ya6 w base gb dv b) (h:Hid (∀W,Below base w W->ybe lo g A F W V)) :
 Calls Tryz.prog 65 #[pV g,.agg #[iV c.a,iV c.b,iV c.c,iV c.d,iV c.e],pV gb] w (yn4 x E base gb B' L w):= by
 have HV:=lh hv;have HBS:=lh hb;have HA0:=lh (h.out w bR);have c7:w.cell? (Ad g 7)=some (iV A.today):=HA0.out.blk.cell 7;have kg:=HA0.out.blk.lt;have HKK:=lh hk;clear hv hb hk
 go_enter Tryz.func65,Tryz.ntmps65
 go_wp2_with fail
 refine yai 0 (fun a' w'=>∃(u0 u1 u2 u3 u4 u5 u7 u8 u10 u11 u12 u13 u14 u15 u16 u17 u18 u19 u20 u21 u22 u23 u24 u25 u26 u27 u28 u29 u30 u31 u32 u33 u34 u35 u36 u37 u38 u39 u40 u41 u42 u43 u44 u45 u46 u47 u48 u49 u50 u51 u52 u53 u54 u55 u56 u57 u58 u59 u60 u61 u62 u63 u64 u65 u66 u67 u68 u69 u70 u71 u72 u73 u74 u75 u76 u77 u78 u79 u80 u81 u82 u83 u84 u85 u86 u87 u88 u89 u90 u91 u92 u93 u94 u95 u96 u97 u98 u99 u100 u101 u102 u103 u104 u105 u106 u107 u108 u109 u110 u111 u112 u113 u114 u115 u116 u117 u118 u119 u120 u121 u122 u123 u124 u125 u126 u127 u128 u129 u130 u131 u132 u133 u134 u135 u136 u137 u138 u139:Value),a'={ tmps:=#[u0,u1,u2,u3,u4,u5,pV (w.heap.size+1),u7,u8,iV E,u10,u11,u12,u13,u14,u15,u16,u17,u18,u19,u20,u21,u22,u23,u24,u25,u26,u27,u28,u29,u30,u31,u32,u33,u34,u35,u36,u37,u38,u39,u40,u41,u42,u43,u44,u45,u46,u47,u48,u49,u50,u51,u52,u53,u54,u55,u56,u57,u58,u59,u60,u61,u62,u63,u64,u65,u66,u67,u68,u69,u70,u71,u72,u73,u74,u75,u76,u77,u78,u79,u80,u81,u82,u83,u84,u85,u86,u87,u88,u89,u90,u91,u92,u93,u94,u95,u96,u97,u98,u99,u100,u101,u102,u103,u104,u105,u106,u107,u108,u109,u110,u111,u112,u113,u114,u115,u116,u117,u118,u119,u120,u121,u122,u123,u124,u125,u126,u127,u128,u129,u130,u131,u132,u133,u134,u135,u136,u137,u138,u139],defers:=[] }/\Hid (x=yax)/\Hid (Blk w' (w.heap.size+1) 150 [iZ,iZ,iZ,iZ,iZ])/\Hid (∃dv',ya6 w' base gb dv' B')/\Hid (DStp base L w w'))
  (fun _ _=>0) rfl ?pass ?first
 case pass =>
  intro a1 w1 hJ J' hJ';clear hJ'
  iterate 138 obtain ⟨_,hJ⟩:=hJ
  obtain ⟨rfl,HX0,HBE,HBK,HST⟩:=hJ;obtain ⟨r0,r1,r2,r3,r4,-⟩:=HBE.out.cs [0,1,2,3,4];simp only [gz,gs] at r0 r1 r2 r3 r4;obtain ⟨rf0,rf1,rf2,rf3,rf4,-⟩:=HBE.out.fs [0,1,2,3,4];have kex:=HBE.out.lt
  go_wp2_with fail
  have hf:=(((((HBE.out.set 0 (iZ)).set 1 (iZ)).set 2 (iZ)).set 3 (iZ)).set 4 (iZ));have q0:World.cell? _ (Ad (w.heap.size+1) 0)=some (iZ):=hf.cell 0;have q1:World.cell? _ (Ad (w.heap.size+1) 1)=some (iZ):=hf.cell 1;have q2:World.cell? _ (Ad (w.heap.size+1) 2)=some (iZ):=hf.cell 2;have q3:World.cell? _ (Ad (w.heap.size+1) 3)=some (iZ):=hf.cell 3;have q4:World.cell? _ (Ad (w.heap.size+1) 4)=some (iZ):=hf.cell 4;obtain ⟨dv2,HV2⟩:=HBK.out;have hz:=HX0.out;subst hz;refine bodyPost_ret (v:=.tuple #[.agg #[iZ,iZ,iZ,iZ,iZ],iV E]) (by simp [results,Tryz.results65,go_sem,q0,q1,q2,q3,q4]) rfl ⟨dv2,rfl,ycf (by repeat (first | with_reducible exact yab.refl _ _ | with_reducible refine yab.alloc ?_ _ | with_reducible refine yab.drew ?_ | with_reducible refine yab.setCell ?_ (.inl (List.mem_cons_self ..)) _)) HV2 HST.out HBE.out HBS.out (hLl.out _ hL.out.1)⟩
 case first =>
  intro J' hJJ hrest;have HJ:=lh hJJ;clear hJJ hrest;go_upto_region 1 with fail
  obtain ⟨W1,hW1,HBC1,HBE1,HS1,HZ1,HBW1⟩:∃W1,((w.alloc (.cells #[iV c.a,iV c.b,iV c.c,iV c.d,iV c.e] 48)).alloc (.cells #[iZ,iZ,iZ,iZ,iZ] 150))=W1/\Hid (Blk W1 w.heap.size 48 [iV c.a,iV c.b,iV c.c,iV c.d,iV c.e])/\Hid (Blk W1 (w.heap.size+1) 150 [iZ,iZ,iZ,iZ,iZ])/\Hid (DStp base L w W1)/\Hid (W1.heap.size=w.heap.size+2)/\Hid (BW w W1) :=
   ⟨_,rfl,(yae w _ _ _ rfl).below (yaa bR _),ybc _ _ _ _ (World.size_alloc _ _),⟨((Below.refl base w).alloc HBS.out _).alloc (by rw [World.size_alloc];have:=HBS.out;omega) _,((yab.refl _ _).alloc _).alloc _⟩,(show _=_ by simp only [World.size_alloc]),yaa (yaa bR _) _⟩
  with_reducible rw [hW1]
  clear hW1 c7 kg;have HA1:=lh (h.out _ HS1.out.below);have c7:W1.cell? (Ad g 7)=some (iV A.today):=HA1.out.blk.cell 7;have kg:=HA1.out.blk.lt;have d3:W1.cell? (Ad w.heap.size 3)=some (iV c.d):=HBC1.out.cell 3;have kdx:=HBC1.out.lt
  go_cut [8] (fun s8 wx=>∃b8,s8=pV b8/\Hid (Blk wx b8 150 [iZ,iV A.today,iZ,iV c.d,iZ])/\Hid (W1.heap.size<=b8)/\Hid (BW W1 wx))
  case first =>
   go_region
   all_goals
    go_wp2_with fail
    go_meet
    case rel=>exact ⟨_,rfl,(yae W1 _ _ _ rfl).below (yaf bR),Nat.le_refl _,yaf (yaa bR _)⟩
  case rest =>
   clear c7 kg d3 kdx;obtain ⟨b8,rfl,HB8,HG8,HW8⟩:=hcut
   have K1:Hid (EvW w base gb L c dv b b8 [iZ,iV A.today,iZ,iV c.d,iZ] wc) :=
    ⟨HBC1.out.below HW8.out,HBE1.out.below HW8.out,HB8.out,by have h1:=HG8.out;have h2:=HZ1.out;omega,HV.out.below (yad HBW1.out HW8.out),⟨HS1.out.below.trans (HW8.out.mono (Nat.le_trans HBS.out HS1.out.keep.size)),HS1.out.keep.below HW8.out⟩⟩
   have hE2:=hE.out;unfold yfz at hE2;have HE2:=lh hE2;clear hE2
   by_cases hk2:c.a=2
   ·have hk7:c.a≠7:=by omega
    have k2:(c.a != 2)=false:=by simpa using hk2
    obtain ⟨d0,d1,d2,d3,-⟩:=K1.out.bc.cs [0,1,2,3];simp only [gz,gs] at d0 d1 d2 d3;have kdx:=K1.out.bc.lt;have k7:(c.a == 7)=false:=by simpa using hk7
    by_cases am1:c.d<1
    ·exact zq27d5a1
    ·by_cases am2:1000000000000000<c.d
     ·exact zq27d5a1
     ·have HAM:Hid (¬(c.a=7/\(c.d<0\/10000000<c.d)\/c.a≠7/\(c.d<1\/1000000000000000<c.d))):=(fun h=>by rcases h with h | h <;> omega)
      obtain rfl:0=E:= by
       have h9:=HE2.out;rw [if_neg (fun h=>h.1 hk2),if_neg HAM.out,if_neg om,if_neg om,if_neg om] at h9;exact h9
      have HXX:(⟨2,A.today,0,c.d,0⟩:R5)=x:= by
       rw [<-hx.out];unfold evEv;rw [if_neg (by rw [hE.out];simp)];rw [if_neg om,if_pos hk2]
      have hbk:b=B':=by rw [<-hB'.out];unfold evBk;rw [if_neg (fun h=>by have:=h.2;omega)]
      subst hbk;obtain ⟨e0,e1,e2,e3,e4,-⟩:=K1.out.bl.cs [0,1,2,3,4];simp only [gz,gs] at e0 e1 e2 e3 e4;obtain ⟨ef0,ef1,ef2,ef3,ef4,-⟩:=K1.out.bl.fs [0,1,2,3,4];have k8:=K1.out.bl.lt;obtain ⟨r0,r1,r2,r3,r4,-⟩:=K1.out.be.cs [0,1,2,3,4];simp only [gz,gs] at r0 r1 r2 r3 r4;obtain ⟨rf0,rf1,rf2,rf3,rf4,-⟩:=K1.out.be.fs [0,1,2,3,4];have krx:=K1.out.be.lt;go_upto_region 31 with fail
      obtain ⟨W5,hW,K5⟩:∃W,wc.setCell (Ad b8 0) (iV 2)=W/\Hid (EvW w base gb L c dv b b8 [iV 2,iV A.today,iZ,iV c.d,iZ] W):=⟨_,rfl,(K1.out.set HBS.out (hLl.out _ hL.out.1) 0 (iV 2))⟩
      with_reducible rw [hW]
      clear hW;clear e0 e1 e2 e3 e4 ef0 ef1 ef2 ef3 ef4 k8 r0 r1 r2 r3 r4 rf0 rf1 rf2 rf3 rf4 krx;obtain ⟨e0,e1,e2,e3,e4,-⟩:=K5.out.bl.cs [0,1,2,3,4];simp only [gz,gs] at e0 e1 e2 e3 e4;obtain ⟨ef0,ef1,ef2,ef3,ef4,-⟩:=K5.out.bl.fs [0,1,2,3,4];have k8:=K5.out.bl.lt;obtain ⟨r0,r1,r2,r3,r4,-⟩:=K5.out.be.cs [0,1,2,3,4];simp only [gz,gs] at r0 r1 r2 r3 r4;obtain ⟨rf0,rf1,rf2,rf3,rf4,-⟩:=K5.out.be.fs [0,1,2,3,4];have krx:=K5.out.be.lt
      go_wp2_with fail
      have hf:=(((((K5.out.be.set 0 (iV (2))).set 1 (iV (A.today))).set 2 (iV (0))).set 3 (iV (c.d))).set 4 (iV (0)));have q0:World.cell? _ (Ad (w.heap.size+1) 0)=some (iV (2)):=hf.cell 0;have q1:World.cell? _ (Ad (w.heap.size+1) 1)=some (iV (A.today)):=hf.cell 1;have q2:World.cell? _ (Ad (w.heap.size+1) 2)=some (iV (0)):=hf.cell 2;have q3:World.cell? _ (Ad (w.heap.size+1) 3)=some (iV (c.d)):=hf.cell 3;have q4:World.cell? _ (Ad (w.heap.size+1) 4)=some (iV (0)):=hf.cell 4;refine bodyPost_ret (v:=.tuple #[.agg #[iV (2),iV (A.today),iV (0),iV (c.d),iV (0)],iZ]) (by simp [results,Tryz.results65,go_sem,q0,q1,q2,q3,q4]) rfl ⟨_,?_,ycf (by repeat (first | with_reducible exact yab.refl _ _ | with_reducible refine yab.alloc ?_ _ | with_reducible refine yab.drew ?_ | with_reducible refine yab.setCell ?_ (.inl (List.mem_cons_self ..)) _)) K5.out.bk K5.out.st K5.out.be HBS.out (hLl.out _ hL.out.1)⟩;rw [<-HXX]
   ·have k2:(c.a != 2)=true:=by simpa using hk2
    obtain ⟨d0,d1,d2,d3,-⟩:=K1.out.bc.cs [0,1,2,3];simp only [gz,gs] at d0 d1 d2 d3;have kdx:=K1.out.bc.lt;obtain ⟨e0,e1,e2,e3,e4,-⟩:=K1.out.bl.cs [0,1,2,3,4];simp only [gz,gs] at e0 e1 e2 e3 e4;obtain ⟨ef0,ef1,ef2,ef3,ef4,-⟩:=K1.out.bl.fs [0,1,2,3,4];have k8:=K1.out.bl.lt;obtain ⟨r0,r1,r2,r3,r4,-⟩:=K1.out.be.cs [0,1,2,3,4];simp only [gz,gs] at r0 r1 r2 r3 r4;obtain ⟨rf0,rf1,rf2,rf3,rf4,-⟩:=K1.out.be.fs [0,1,2,3,4];have krx:=K1.out.be.lt;obtain ⟨tr,htr⟩:∃tr,decide (1<=c.c/\c.c<=(A.t.ts.length:Int))=tr:=⟨_,rfl⟩
    have HTRI:Hid (tr=true↔1<=c.c/\c.c<=(A.t.ts.length:Int)):= by
     show _↔_;rw [<-htr];exact decide_eq_true_iff
    clear htr;go_upto_region 5 with fail
    obtain ⟨W2,hW,K2⟩:∃W,wc.setCell (Ad b8 2) (iV c.c)=W/\Hid (EvW w base gb L c dv b b8 [iZ,iV A.today,iV c.c,iV c.d,iZ] W):=⟨_,rfl,(K1.out.set HBS.out (hLl.out _ hL.out.1) 2 (iV c.c))⟩
    with_reducible rw [hW]
    clear hW;clear d0 d1 d2 d3 kdx;clear e0 e1 e2 e3 e4 ef0 ef1 ef2 ef3 ef4 k8 r0 r1 r2 r3 r4 rf0 rf1 rf2 rf3 rf4 krx;obtain ⟨d0,d1,d2,d3,-⟩:=K2.out.bc.cs [0,1,2,3];simp only [gz,gs] at d0 d1 d2 d3;have kdx:=K2.out.bc.lt
    go_wp2_with fail
    refine (yeu lo g A F V c.c tr HTRI _ (h.out _ K2.out.st.below)).mono ?_;rintro _ w3 ⟨rfl,hb3⟩;have K3:=lh (K2.out.below hb3 HBS.out);clear hb3;clear d0 d1 d2 d3 kdx;obtain ⟨d0,d1,d2,d3,-⟩:=K3.out.bc.cs [0,1,2,3];simp only [gz,gs] at d0 d1 d2 d3;have kdx:=K3.out.bc.lt;cases tr with
    | false =>
     have hntr:¬(1<=c.c/\c.c<=(A.t.ts.length:Int)):=fun hh=>by have:=HTRI.out.2 hh;cases this
     go_wp2_with fail
     obtain rfl:7=E:= by
      have h9:=HE2.out;rw [if_pos ⟨hk2,hntr⟩] at h9;exact h9
     exact zq272b2d
    | true =>
     have HTR:=lh (HTRI.out.1 rfl);clear HTRI
     by_cases hk7:c.a=7
     ·have hk1:(c.a == 1)=false:=by simp;omega
      have hk2':(c.a == 2)=false:=by simpa using hk2
      have hk3:(c.a == 3)=false:=by simp;omega
      have hk4:(c.a == 4)=false:=by simp;omega
      have k7:(c.a == 7)=true:=by simpa using hk7
      by_cases am1:c.d<0
      ·exact zq27442d
      ·by_cases am2:10000000<c.d
       ·exact zq27442d
       ·have HAM:Hid (¬(c.a=7/\(c.d<0\/10000000<c.d)\/c.a≠7/\(c.d<1\/1000000000000000<c.d))):=(fun h=>by rcases h with h | h <;> omega)
        obtain rfl:0=E:= by
         have h9:=HE2.out;rw [if_neg (fun h=>h.2 HTR.out),if_neg HAM.out,if_neg om,if_neg om,if_neg om] at h9;exact h9
        have HXX:(⟨6,A.today,c.c,c.d,0⟩:R5)=x:= by
         rw [<-hx.out];unfold evEv;rw [if_neg (by rw [hE.out];simp)];rw [if_neg om,if_neg om,if_neg om,if_neg om]
        have hbk:b=B':=by rw [<-hB'.out];unfold evBk;rw [if_neg (fun h=>by have:=h.2;omega)]
        subst hbk;obtain ⟨e0,e1,e2,e3,e4,-⟩:=K3.out.bl.cs [0,1,2,3,4];simp only [gz,gs] at e0 e1 e2 e3 e4;obtain ⟨ef0,ef1,ef2,ef3,ef4,-⟩:=K3.out.bl.fs [0,1,2,3,4];have k8:=K3.out.bl.lt;obtain ⟨r0,r1,r2,r3,r4,-⟩:=K3.out.be.cs [0,1,2,3,4];simp only [gz,gs] at r0 r1 r2 r3 r4;obtain ⟨rf0,rf1,rf2,rf3,rf4,-⟩:=K3.out.be.fs [0,1,2,3,4];have krx:=K3.out.be.lt;go_upto_region 31 with fail
        obtain ⟨W5,hW,K5⟩:∃W,w3.setCell (Ad b8 0) (iV 6)=W/\Hid (EvW w base gb L c dv b b8 [iV 6,iV A.today,iV c.c,iV c.d,iZ] W):=⟨_,rfl,(K3.out.set HBS.out (hLl.out _ hL.out.1) 0 (iV 6))⟩
        with_reducible rw [hW]
        clear hW;clear e0 e1 e2 e3 e4 ef0 ef1 ef2 ef3 ef4 k8 r0 r1 r2 r3 r4 rf0 rf1 rf2 rf3 rf4 krx;obtain ⟨e0,e1,e2,e3,e4,-⟩:=K5.out.bl.cs [0,1,2,3,4];simp only [gz,gs] at e0 e1 e2 e3 e4;obtain ⟨ef0,ef1,ef2,ef3,ef4,-⟩:=K5.out.bl.fs [0,1,2,3,4];have k8:=K5.out.bl.lt;obtain ⟨r0,r1,r2,r3,r4,-⟩:=K5.out.be.cs [0,1,2,3,4];simp only [gz,gs] at r0 r1 r2 r3 r4;obtain ⟨rf0,rf1,rf2,rf3,rf4,-⟩:=K5.out.be.fs [0,1,2,3,4];have krx:=K5.out.be.lt
        go_wp2_with fail
        have hf:=(((((K5.out.be.set 0 (iV (6))).set 1 (iV (A.today))).set 2 (iV (c.c))).set 3 (iV (c.d))).set 4 (iV (0)));have q0:World.cell? _ (Ad (w.heap.size+1) 0)=some (iV (6)):=hf.cell 0;have q1:World.cell? _ (Ad (w.heap.size+1) 1)=some (iV (A.today)):=hf.cell 1;have q2:World.cell? _ (Ad (w.heap.size+1) 2)=some (iV (c.c)):=hf.cell 2;have q3:World.cell? _ (Ad (w.heap.size+1) 3)=some (iV (c.d)):=hf.cell 3;have q4:World.cell? _ (Ad (w.heap.size+1) 4)=some (iV (0)):=hf.cell 4;refine bodyPost_ret (v:=.tuple #[.agg #[iV (6),iV (A.today),iV (c.c),iV (c.d),iV (0)],iZ]) (by simp [results,Tryz.results65,go_sem,q0,q1,q2,q3,q4]) rfl ⟨_,?_,ycf (by repeat (first | with_reducible exact yab.refl _ _ | with_reducible refine yab.alloc ?_ _ | with_reducible refine yab.drew ?_ | with_reducible refine yab.setCell ?_ (.inl (List.mem_cons_self ..)) _)) K5.out.bk K5.out.st K5.out.be HBS.out (hLl.out _ hL.out.1)⟩;rw [<-HXX]
     ·have hk2':(c.a == 2)=false:=by simpa using hk2
      have k7:(c.a == 7)=false:=by simpa using hk7
      by_cases am1:c.d<1
      ·exact zq271e45
      ·by_cases am2:1000000000000000<c.d
       ·exact zq271e45
       ·have HAM:Hid (¬(c.a=7/\(c.d<0\/10000000<c.d)\/c.a≠7/\(c.d<1\/1000000000000000<c.d))):=(fun h=>by rcases h with h | h <;> omega)
        by_cases hk1:c.a=1
        ·have hk1':(c.a == 1)=true:=by simpa using hk1
         exact absurd HKK.out om
        ·have hk1':(c.a == 1)=false:=by simpa using hk1
         by_cases hk3:c.a=3
         ·have hk3':(c.a == 3)=true:=by simpa using hk3
          exact absurd HKK.out om
         ·have hk3':(c.a == 3)=false:=by simpa using hk3
          have hk4:c.a=4:=by have:=HKK.out;omega
          have hk4':(c.a == 4)=true:=by simpa using hk4
          exact absurd HKK.out om
end Go.Proofs.YtkongpjpkpfniaaGreat

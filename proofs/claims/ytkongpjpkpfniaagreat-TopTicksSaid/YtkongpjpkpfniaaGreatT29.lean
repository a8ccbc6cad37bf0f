/- TopTicks: parts of the proof, made small by a program (mini.py). -/
import Derived.Test.YtkongpjpkpfniaaGreatT01
import Derived.Test.YtkongpjpkpfniaaGreatT10
import Derived.Test.YtkongpjpkpfniaaGreatT28
set_option linter.unusedVariables false
set_option linter.unusedSimpArgs false
set_option maxRecDepth 100000
set_option maxHeartbeats 6400000
namespace Go.Proofs.YtkongpjpkpfniaaGreat
open Go.RowKit
theorem zq298bbd {q:Prop} (h:q:= by
 with_reducible rw [hW]
 clear hW hB10 c10 f10 kg;have d0:=HBC8.out.cell 0;simp only [gz,gs] at d0;have kdx:=HBC8.out.lt;have hk4':(c.a == 4)=false:=by have:=HK.out;simp;omega
 exact zq2950cb):q:=h
theorem zq29724a {q:Prop} (h:q:= by
 have hE2:=hE.out;unfold yda at hE2;rw [HASK.out] at hE2;simp only at hE2;rw [if_neg (by simp),if_neg hk6n,hco] at hE2;exact hE2):q:=h
theorem zq293d10 {q:Prop} (h:q:= by
 refine bodyPost_ret (v:=.agg #[iV E,iV r,iV cy,iV td,iV cn,bal,iV cr,iV du,rt,dp,iV sq,iV pn,iV pf,iV pt,iV pd,ln,iV tt,iV pc,iV mn,.bool gr]) (results_cell_row (p:=4) (ty:=45) rfl _ _ (w.heap.size+1) 45 _ (0,0) _ rfl (setRow_heap _ _ _ _ _ _ HZ.out) Tryz.underlying45 rfl (by rw [ybp];rfl)) rfl ⟨_,rfl,HAN.out,yd3 H2.out HST2.out (fun x hx=>HSUB.out x (List.mem_cons_of_mem _ hx)) (HSUB.out _ (List.mem_cons_self ..)) HBz.out HO2.out om _⟩):q:=h
theorem zq29f0cf {q:Prop} (h:q:= by
 refine hK.out _ _ kd ?_;clear hK K;try simp only [ap,aq,sa,sb,sc]
 refine yal kr ?_ _
 go_wp2_with fail
 refine bodyPost_ret (v:=.agg #[iV E,iV r,iV cy,iV td,iV cn,bal,iV cr,iV du,rt,dp,iV sq,iV pn,iV pf,iV pt,iV pd,ln,iV tt,iV pc,iV mn,.bool gr]) (results_cell_row (p:=4) (ty:=45) rfl _ _ (w.heap.size+1) 45 _ (0,0) _ rfl (setRow_heap _ _ _ _ _ _ HZ.out) Tryz.underlying45 rfl (by rw [ybp];rfl)) rfl ⟨_,rfl,HAN.out,yd3 H2.out HST2.out (fun x hx=>List.mem_cons_of_mem _ hx) (List.mem_cons_self ..) HBz.out HO2.out om _⟩):q:=h
theorem zq29a240 {q:Prop} (h:q:= by
 have hk:yab [g] w7 (w7.setCell (Ad g 10) (pV gb')):=(yab.refl _ _).sg _;refine ⟨_,rfl,hB10,HBBx.out.setOther (ybs HBBx.out H7.out.blk (by decide)) _ _,HBCx.out.setOther (ybs HBCx.out H7.out.blk (by decide)) _ _,HBEx.out.setOther (ybs HBEx.out H7.out.blk (by decide)) _ _,HSTx.out.trans ⟨hk.mono (fun x hx=>by simp only [ms] at hx;exact hx▸H7.out.gF),fun _ hx=>.inl hx⟩,fun x e cs hb h1 h2 h3=>?_⟩;have h4:=HOx.out x e cs hb h1 h2 h3;exact h4.setOther (ybs h4 H7.out.blk h1) _ _):q:=h
theorem zq2950cb {q:Prop} (h:q:= by
 have HZ:Hid (W8.heap[w.heap.size+1]?=some (.cells zA.toArray 45 (0,0))):=HBB8.out
 go_wp2_with (with_reducible refine ybj rfl (.tmp 4) (.tmp 66) rfl rfl (w.heap.size+1) zA.toArray rfl rfl _ HZ.out rfl rfl (by simp [Value.oneCell']) ?_)
 refine bodyPost_ret (v:=.agg zA.toArray) (results_cell_row (p:=4) (ty:=45) rfl _ _ (w.heap.size+1) 45 _ (0,0) _ rfl (setRow_heap _ _ _ _ _ _ HZ.out) Tryz.underlying45 rfl (by rw [ybp];rfl)) rfl ⟨_,rfl,yrs 0,yd3 H8.out HST8.out (fun x hx=>HSUB.out x (List.mem_cons_of_mem _ hx)) (HSUB.out _ (List.mem_cons_self ..)) HBB8.out HO8.out om _⟩):q:=h
theorem zq2942b1 {q:Prop} (h:q:= by
 have hE1':(E1 != 0)=true:=by simpa using hE1
 have h9:=HC2.out;rw [if_pos hE1] at h9;simp only [Prod.mk.injEq] at h9;obtain ⟨rfl,rfl⟩:=h9
 obtain rfl:A1=A:= by
  rcases yi7 A x with ⟨e,h1,h2⟩ | ⟨_,_,_,h2⟩
  ·rw [HCO.out] at h2
   simp only [Prod.mk.injEq] at h2;exact h2.1
  ·rw [HCO.out] at h2
   simp only [Prod.mk.injEq] at h2;exact absurd h2.2 hE1
 clear hE1
 go_wp2_with fail
 refine (yc2 (E1) _).mono ?_;rintro _ wz ⟨rfl,hbz⟩;have HZ:Hid (wz.heap[w.heap.size+1]?=some (.cells zA.toArray 45 (0,0))):=HBBx.out.below hbz;have HBZ:Hid (Blk wz (w.heap.size+1) 45 zA):=HBBx.out.below hbz;have HHZ:=lh (H7.out.below hbz);have HSZ:=lh (Stp.below HSTx.out hbz);have HOZ:=lh (HOx.out.below hbz);clear hbz
 go_wp2_with (with_reducible refine ybj rfl (.tmp 4) (.tmp 39) rfl rfl (w.heap.size+1) _ rfl rfl _ HZ.out rfl rfl (by simp [Value.oneCell']) ?_)
 refine bodyPost_ret (v:=ansZ (E1)) (results_cell_row (p:=4) (ty:=45) rfl _ _ (w.heap.size+1) 45 _ (0,0) _ rfl (setRow_heap _ _ _ _ _ _ HZ.out) Tryz.underlying45 rfl (by rw [ybp];rfl)) rfl ⟨_,rfl,yfd _,yd3 HHZ.out HSZ.out (fun x hx=>HSUB.out x (List.mem_cons_of_mem _ hx)) (HSUB.out _ (List.mem_cons_self ..)) HBZ.out HOZ.out om _⟩):q:=h
theorem zq2938b5 {q:Prop} (h:q:= by
 have hEo':(Eo != 0)=true:=by simpa using hEo
 have hE2:=hE.out;unfold yda at hE2;rw [HASK.out] at hE2;simp only at hE2;rw [if_pos hEo] at hE2;simp only [Prod.mk.injEq] at hE2;obtain ⟨rfl,rfl⟩:=hE2;clear hEo
 go_wp2_with fail
 refine (yc2 (Eo) _).mono ?_;rintro _ wz ⟨rfl,hbz⟩;have HZ:Hid (wz.heap[w.heap.size+1]?=some (.cells zA.toArray 45 (0,0))):=HBB6.out.below hbz;have HBZ:Hid (Blk wz (w.heap.size+1) 45 zA):=HBB6.out.below hbz;have HHZ:=lh (H6.out.below hbz);have HSZ:=lh (Stp.below HST6.out hbz);have HOZ:=lh (HO6.out.below hbz);clear hbz
 go_wp2_with (with_reducible refine ybj rfl (.tmp 4) (.tmp 44) rfl rfl (w.heap.size+1) _ rfl rfl _ HZ.out rfl rfl (by simp [Value.oneCell']) ?_)
 refine bodyPost_ret (v:=ansZ (Eo)) (results_cell_row (p:=4) (ty:=45) rfl _ _ (w.heap.size+1) 45 _ (0,0) _ rfl (setRow_heap _ _ _ _ _ _ HZ.out) Tryz.underlying45 rfl (by rw [ybp];rfl)) rfl ⟨_,rfl,yfd _,yd3 HHZ.out HSZ.out (fun x hx=>List.mem_cons_of_mem _ hx) (List.mem_cons_self ..) HBZ.out HOZ.out om _⟩):q:=h
theorem yrs (r:Int):Ans 0 (.agg #[iZ,iV r,iZ,iZ,iZ,sZ,iZ,iZ,sZ,sZ,iZ,iZ,iZ,iZ,iZ,sZ,iZ,iZ,iZ,.bool false]):=⟨0+r,0,0,0,_,0,0,_,_,0,0,0,0,0,_,0,0,0,false,by rw [Int.zero_add],⟨_,_,_,rfl⟩,⟨_,_,_,rfl⟩,⟨_,_,_,rfl⟩,⟨_,_,_,rfl⟩⟩
theorem yml (lo g:Nat) (A:Acc) (hA:ycy A) (hsq:A.seq<=99999) (F:List Nat) (V:AV) (c:R5) (hc:1<=c.a/\c.a<=7) (A':Acc) (E:Int) (hE:Hid (yda A c=(A',E))) (w:World) (h:ybe lo g A F w V) :
 Calls Tryz.prog 38 #[pV g,.agg #[iV c.a,iV c.b,iV c.c,iV c.d,iV c.e]] w (yze E lo g A' F w):= by
 have HOK:=lh hA;have HSQ:=lh hsq;have HKC:=lh hc;have HBL:Hid (A.bk.ds.length<=100000):=by have:=hA.bkl;show _<=_;omega
 have HBS:Hid (A.R.p.bs.length=A.t.ts.length/\A.t.ts.length<=1000):=⟨hA.bs,by have:=yci hA.goods.terms;omega⟩
 obtain ⟨W1,hW1,H1,HBC1,HBB1,HST1,HBW1⟩:∃W,((w.alloc (.cells #[iV c.a,iV c.b,iV c.c,iV c.d,iV c.e] 48)).alloc (.cells zA.toArray 45))=W/\Hid (ybe lo g A ((w.heap.size+1)::F) W V)/\Hid (Blk W w.heap.size 48 [iV c.a,iV c.b,iV c.c,iV c.d,iV c.e])/\Hid (Blk W (w.heap.size+1) 45 zA)/\Hid (Stp F w ((w.heap.size+1)::F) W)/\Hid (BW w W/\W.heap.size=w.heap.size+2) :=
  ⟨_,rfl,h.more (yaa (yaa bR _) _) om (by simp only [World.size_alloc];omega),(yae w _ _ _ rfl).below (yaa bR _),ybc _ _ _ _ (World.size_alloc _ _),⟨((yab.refl _ _).alloc _).alloc _,fun x hx=>by
   rcases List.mem_cons.1 hx with rfl | hx
   ·exact .inr om
   ·exact .inl hx⟩,⟨yaa (yaa bR _) _,by simp only [World.size_alloc]⟩⟩
 have c10:W1.cell? (Ad g 10)=some (pV V.gb):=H1.out.blk.cell 10;have kg:=H1.out.blk.lt;clear h hA hsq hc
 go_enter Tryz.func38,Tryz.ntmps38
 go_wp2_with fail
 try with_reducible rw [hW1]
 clear hW1;refine (yi6 0 V.gb V.dv A.bk _ H1.out.rd.now.2.2.1 HBL.out).mono ?_;rintro _ w4 ⟨gb',u',rfl,hbk4,hb4⟩;have HB4:Hid (ya6 w4 (w.heap.size+2) gb' u' A.bk):=by rw [<-HBW1.out.2];exact hbk4
 have HSZ4:Hid (w.heap.size+2<=w4.heap.size):=by rw [<-HBW1.out.2];exact hb4.size
 have HLL:Hid (∀y∈gb'::u'.ownBlock.toList,y<w4.heap.size):=fun y hy=>by
  rcases List.mem_cons.1 hy with rfl | hy
  ·exact hbk4.2.1.lt
  ·exact (hbk4.2.2.lt y (Option.mem_toList.1 hy)).2
 have HBB4:=lh (HBB1.out.below hb4);have HBC4:=lh (HBC1.out.below hb4);have HST4:=lh (Stp.below HST1.out hb4);have HO4:Hid (ybw w w4):=(ybw.of_below HBW1.out.1).below hb4;have HAC:Hid (∀W,Below (w.heap.size+2) w4 W->ybe lo g A ((w.heap.size+1)::F) W V):=fun W hb=>H1.out.below (hb4.trans (by rw [HBW1.out.2];exact hb));clear hbk4 hb4 c10 kg;obtain ⟨d0,d1,d2,d3,d4,-⟩:=HBC4.out.cs [0,1,2,3,4];simp only [gz,gs] at d0 d1 d2 d3 d4;have kdx:=HBC4.out.lt;obtain ⟨x,Eo,B',hA1⟩:∃x Eo B',askS A c=(x,Eo,B'):=⟨_,_,_,rfl⟩;have HASK:=lh hA1
 by_cases hk:c.a=5\/c.a=6
 ·have HK:=lh hk
  by_cases hk5:c.a=5
  ·have hk5':(c.a == 5)=true:=by simpa using hk5
   have hk6':(c.a == 6)=false:=by simp;omega
   unfold askS at hA1;rw [if_pos hk] at hA1;simp only [Prod.mk.injEq] at hA1;obtain ⟨hx,he,hb⟩:=hA1;have HX:=lh hx;have HEO:=lh he;have HBK:=lh hb;clear hx he hb;clear hk hk5;go_upto_region 5 with fail
   go_wp2_with fail
   refine (yis lo g (w.heap.size+2) gb' A ((w.heap.size+1)::F) V u' A.bk c x HX Eo HEO B' HBK HBL.out (gb'::u'.ownBlock.toList) ⟨List.mem_cons_self ..,fun q hq=>List.mem_cons_of_mem _ (Option.mem_toList.2 hq)⟩ _ HLL.out (by have:=HSZ4.out;omega) HB4.out HAC).mono ?_;rintro _ w5 ⟨dv5,rfl,hbk5,hst5⟩
   have HLG:Hid (∀y∈gb'::u'.ownBlock.toList,w.heap.size+2<=y):=fun y hy=>by
    rcases List.mem_cons.1 hy with rfl | hy
    ·exact HB4.out.1
    ·exact (HB4.out.2.2.lt y (Option.mem_toList.1 hy)).1
   have H5:=lh (HAC.out _ hst5.below);have HBB5:Hid (Blk w5 (w.heap.size+1) 45 zA):=HBB4.out.keep hst5.keep (fun hm=>by have:=HLG.out _ hm;omega);have HBC5:Hid (Blk w5 w.heap.size 48 [iV c.a,iV c.b,iV c.c,iV c.d,iV c.e]):=HBC4.out.keep hst5.keep (fun hm=>by have:=HLG.out _ hm;omega);have HBK5:=lh hbk5;have HST5:Hid (Stp F w ((w.heap.size+1)::F) w5):=⟨HST4.out.keep.trans hst5.keep (fun x hx=>.inr (by have:=HLG.out _ hx;omega)),HST4.out.new⟩
   have HO5:Hid (ybw w w5):=fun x e cs hb h1 h2 h3=>((HO4.out x e cs hb h1 h2 h3)).keep hst5.keep (fun hm=>by
    have h4:=HLG.out _ hm;have h5:=hb.lt;omega)
   have HGB5:Hid (∀y∈(w.heap.size+1)::F,y<w.heap.size+2 ):=fun y hy=>by have:=(H1.out.lt y hy).2;have h2:=HBW1.out.2;omega
   clear hbk5 hst5 d0 d1 d2 d3 d4 kdx;go_upto_region 9 with fail
   obtain ⟨W6,hW,HBE6,HB6⟩:∃W,w5.alloc (.cells #[iV x.a,iV x.b,iV x.c,iV x.d,iV x.e] 150)=W/\Hid (Blk W w5.heap.size 150 [iV x.a,iV x.b,iV x.c,iV x.d,iV x.e])/\Hid (BW w5 W):=⟨_,rfl,yae w5 _ _ _ rfl,yaa bR _⟩
   with_reducible rw [hW]
   clear hW;have H6:=lh (H5.out.below HB6.out);have HBB6:=lh (HBB5.out.below HB6.out);have HBC6:=lh (HBC5.out.below HB6.out);have HBK6:=lh (HBK5.out.below HB6.out);have HST6:=lh (Stp.below HST5.out HB6.out);have HO6:=lh (HO5.out.below HB6.out)
   by_cases hEo:Eo=0
   ·subst hEo
    have hk6n:¬c.a=6:=by have h1:=hk6';simpa using h1
    have HXB:Hid (x.b<=A.today):= by
     have h1:=yvu HOK.out (c:=c) (by rw [HASK.out]) hk6n;rw [HASK.out] at h1;exact h1
    obtain ⟨A1,E1,hco⟩:∃A1 E1,yb9 A x=(A1,E1):=⟨_,_,rfl⟩;have HCO:=lh hco
    have HC2:Hid ((if E1≠0 then (A,E1) else ({ A1 with bk:=B' },0))=(A',E)):= by
     exact zq29724a
    clear hco hk6n;obtain ⟨e0,e1,e2,e3,e4,-⟩:=HBE6.out.cs [0,1,2,3,4];simp only [gz,gs] at e0 e1 e2 e3 e4;have kex:=HBE6.out.lt;have d0:=HBC6.out.cell 0;simp only [gz,gs] at d0;have kdx:=HBC6.out.lt
    go_wp2_with fail
    refine (yim lo g A HOK.out (by have:=HSQ.out;omega) ((w.heap.size+1)::F) V x HXB.out A1 E1 HCO _ H6.out).mono ?_;rintro _ w7 ⟨rfl,F2,V2,h7,s7,sub7,o7⟩;have H7:=lh h7;have HSUB:=lh sub7;have HSTx:Hid (Stp F w F2 w7):=HST6.out.trans s7;have HOx:Hid (ybw w w7):=HO6.out.trans o7;have HBBx:Hid (Blk w7 (w.heap.size+1) 45 zA):=o7 _ _ _ HBB6.out (by decide) (by decide) (by decide);have HBCx:Hid (Blk w7 w.heap.size 48 [iV c.a,iV c.b,iV c.c,iV c.d,iV c.e]):=o7 _ _ _ HBC6.out (by decide) (by decide) (by decide);have HBEx:Hid (Blk w7 w5.heap.size 150 [iV x.a,iV x.b,iV x.c,iV x.d,iV x.e]):=o7 _ _ _ HBE6.out (by decide) (by decide) (by decide);have HBKx:Hid (Rd F2 w7 (fun W=>ya6 W 0 gb' dv5 B')):=s7.rd (HBK6.out.rd (fun hm=>by have h1:=HGB5.out _ hm;have h2:=HBK6.out.1;omega) (fun q hq hm=>by have h1:=HGB5.out _ hm;have h2:=(HBK6.out.2.2.lt q hq).1;omega));clear h7 s7 sub7 o7 e0 e1 e2 e3 e4 kex d0 kdx
    by_cases hE1:E1=0
    ·subst hE1
     have h9:=HC2.out;rw [if_neg (by simp)] at h9;simp only [Prod.mk.injEq] at h9;obtain ⟨rfl,rfl⟩:=h9;have hB10:=H7.out.setBook HBKx.out;have c10:w7.cell? (Ad g 10)=some (pV V2.gb):=H7.out.blk.cell 10;have f10:=H7.out.blk.frozen 10;have kg:=H7.out.blk.lt;go_upto_region 14 with fail
     obtain ⟨W8,hW,H8,HBB8,HBC8,HBE8,HST8,HO8⟩:∃W,w7.setCell (Ad g 10) (pV gb')=W/\Hid (ybe lo g { A1 with bk:=B' } F2 W { V2 with gb:=gb',dv:=dv5 })/\Hid (Blk W (w.heap.size+1) 45 zA)/\Hid (Blk W w.heap.size 48 [iV c.a,iV c.b,iV c.c,iV c.d,iV c.e])/\Hid (Blk W w5.heap.size 150 [iV x.a,iV x.b,iV x.c,iV x.d,iV x.e])/\Hid (Stp F w F2 W)/\Hid (ybw w W):= by
      exact zq29a240
     exact zq298bbd
    ·exact zq2942b1
   ·exact zq2938b5
  ·have hk5':(c.a == 5)=false:=by simpa using hk5
   have hk6':(c.a == 6)=true:=by simp;omega
   unfold askS at hA1;rw [if_pos hk] at hA1;simp only [Prod.mk.injEq] at hA1;obtain ⟨hx,he,hb⟩:=hA1;have HX:=lh hx;have HEO:=lh he;have HBK:=lh hb;clear hx he hb;clear hk hk5;go_upto_region 5 with fail
   go_wp2_with fail
   refine (yis lo g (w.heap.size+2) gb' A ((w.heap.size+1)::F) V u' A.bk c x HX Eo HEO B' HBK HBL.out (gb'::u'.ownBlock.toList) ⟨List.mem_cons_self ..,fun q hq=>List.mem_cons_of_mem _ (Option.mem_toList.2 hq)⟩ _ HLL.out (by have:=HSZ4.out;omega) HB4.out HAC).mono ?_;rintro _ w5 ⟨dv5,rfl,hbk5,hst5⟩
   have HLG:Hid (∀y∈gb'::u'.ownBlock.toList,w.heap.size+2<=y):=fun y hy=>by
    rcases List.mem_cons.1 hy with rfl | hy
    ·exact HB4.out.1
    ·exact (HB4.out.2.2.lt y (Option.mem_toList.1 hy)).1
   have H5:=lh (HAC.out _ hst5.below);have HBB5:Hid (Blk w5 (w.heap.size+1) 45 zA):=HBB4.out.keep hst5.keep (fun hm=>by have:=HLG.out _ hm;omega);have HBC5:Hid (Blk w5 w.heap.size 48 [iV c.a,iV c.b,iV c.c,iV c.d,iV c.e]):=HBC4.out.keep hst5.keep (fun hm=>by have:=HLG.out _ hm;omega);have HBK5:=lh hbk5;have HST5:Hid (Stp F w ((w.heap.size+1)::F) w5):=⟨HST4.out.keep.trans hst5.keep (fun x hx=>.inr (by have:=HLG.out _ hx;omega)),HST4.out.new⟩
   have HO5:Hid (ybw w w5):=fun x e cs hb h1 h2 h3=>((HO4.out x e cs hb h1 h2 h3)).keep hst5.keep (fun hm=>by
    have h4:=HLG.out _ hm;have h5:=hb.lt;omega)
   have HGB5:Hid (∀y∈(w.heap.size+1)::F,y<w.heap.size+2 ):=fun y hy=>by have:=(H1.out.lt y hy).2;have h2:=HBW1.out.2;omega
   clear hbk5 hst5 d0 d1 d2 d3 d4 kdx;go_upto_region 9 with fail
   obtain ⟨W6,hW,HBE6,HB6⟩:∃W,w5.alloc (.cells #[iV x.a,iV x.b,iV x.c,iV x.d,iV x.e] 150)=W/\Hid (Blk W w5.heap.size 150 [iV x.a,iV x.b,iV x.c,iV x.d,iV x.e])/\Hid (BW w5 W):=⟨_,rfl,yae w5 _ _ _ rfl,yaa bR _⟩
   with_reducible rw [hW]
   clear hW;have H6:=lh (H5.out.below HB6.out);have HBB6:=lh (HBB5.out.below HB6.out);have HBC6:=lh (HBC5.out.below HB6.out);have HBK6:=lh (HBK5.out.below HB6.out);have HST6:=lh (Stp.below HST5.out HB6.out);have HO6:=lh (HO5.out.below HB6.out)
   by_cases hEo:Eo=0
   ·subst hEo
    have HC2:Hid (({ A with seq:=A.seq+1,bk:=B' },(0:Int))=(A',E)):= by
     have hE2:=hE.out;unfold yda at hE2;rw [HASK.out] at hE2;simp only at hE2;rw [if_neg (by simp),if_pos (by simpa using hk6')] at hE2;exact hE2
    have h9:=HC2.out;simp only [Prod.mk.injEq] at h9;obtain ⟨rfl,rfl⟩:=h9;clear HC2 hE;have d0:=HBC6.out.cell 0;simp only [gz,gs] at d0;have kdx:=HBC6.out.lt;have c8:W6.cell? (Ad g 8)=some (iV A.seq):=H6.out.blk.cell 8;have f8:=H6.out.blk.frozen 8;have kg:=H6.out.blk.lt
    have hsw:IntKind.i64.wrap (A.seq+1)=A.seq+1:= by
     have h1:=HOK.out.seq;have h2:=HSQ.out;exact IntWalk.i64_in _ ⟨by omega,by omega⟩
    go_upto_region 13 with fail
    obtain ⟨F2,hF2⟩:∃F2,F2=(w.heap.size+1)::F:=⟨_,rfl⟩;obtain ⟨V2,hV2⟩:∃V2,V2=V:=⟨_,rfl⟩;have hk:yab [g] W6 (W6.setCell (Ad g 8) (iV (A.seq+1))):=(yab.refl _ _).sg _
    obtain ⟨w7,hW,H7,HBBx,HBCx,HBEx,HBKx,HSTx,HOx⟩:∃W,W6.setCell (Ad g 8) (iV (A.seq+1))=W/\Hid (ybe lo g { A with seq:=A.seq+1 } F2 W V2)/\Hid (Blk W (w.heap.size+1) 45 zA)/\Hid (Blk W w.heap.size 48 [iV c.a,iV c.b,iV c.c,iV c.d,iV c.e])/\Hid (Blk W w5.heap.size 150 [iV x.a,iV x.b,iV x.c,iV x.d,iV x.e])/\Hid (Rd F2 W (fun W=>ya6 W 0 gb' dv5 B'))/\Hid (Stp F w F2 W)/\Hid (ybw w W):= by
     have hs:Stp F2 W6 F2 (W6.setCell (Ad g 8) (iV (A.seq+1))):=⟨hk.mono (fun x hx=>by simp only [ms] at hx;rw [hF2];exact hx▸H6.out.gF),fun _ hx=>.inl hx⟩;refine ⟨_,rfl,by rw [hF2,hV2];exact H6.out.seqUp,HBB6.out.setOther (ybs HBB6.out H6.out.blk (by decide)) _ _,HBC6.out.setOther (ybs HBC6.out H6.out.blk (by decide)) _ _,HBE6.out.setOther (ybs HBE6.out H6.out.blk (by decide)) _ _,hs.rd (HBK6.out.rd (fun hm=>by rw [hF2] at hm;have h1:=HGB5.out _ hm;have h2:=HBK6.out.1;omega) (fun q hq hm=>by rw [hF2] at hm;have h1:=HGB5.out _ hm;have h2:=(HBK6.out.2.2.lt q hq).1;omega)),(by rw [hF2] at hs ⊢;exact HST6.out.trans hs),fun x e cs hb h1 h2 h3=>?_⟩;have h4:=HO6.out x e cs hb h1 h2 h3;exact h4.setOther (ybs h4 H6.out.blk h1) _ _
    have HSUB:Hid (∀x∈(w.heap.size+1)::F,x∈F2):=fun x hx=>by rw [hF2];exact hx
    with_reducible rw [hW]
    clear hW hk hF2 hV2 c8 f8 kg hsw d0 kdx;have hB10:=H7.out.setBook HBKx.out;have c10:w7.cell? (Ad g 10)=some (pV V2.gb):=H7.out.blk.cell 10;have f10:=H7.out.blk.frozen 10;have kg:=H7.out.blk.lt;go_upto_region 14 with fail
    obtain ⟨W8,hW,H8,HBB8,HBC8,HBE8,HST8,HO8⟩:∃W,w7.setCell (Ad g 10) (pV gb')=W/\Hid (ybe lo g { { A with seq:=A.seq+1 } with bk:=B' } F2 W { V2 with gb:=gb',dv:=dv5 })/\Hid (Blk W (w.heap.size+1) 45 zA)/\Hid (Blk W w.heap.size 48 [iV c.a,iV c.b,iV c.c,iV c.d,iV c.e])/\Hid (Blk W w5.heap.size 150 [iV x.a,iV x.b,iV x.c,iV x.d,iV x.e])/\Hid (Stp F w F2 W)/\Hid (ybw w W):= by
     exact zq29a240
    exact zq298bbd
   ·exact zq2938b5
 ·have hk5':(c.a == 5)=false:=by simp;omega
  have hk6':(c.a == 6)=false:=by simp;omega
  have HK:=lh hk;unfold askS at hA1;rw [if_neg hk] at hA1;simp only [Prod.mk.injEq] at hA1;obtain ⟨hx,he,hb⟩:=hA1;have HX:=lh hx;have HEO:=lh he;have HBK:=lh hb;have HKE:Hid (c.a=1\/c.a=2\/c.a=3\/c.a=4\/c.a=7):=by have h1:=HKC.out;show _\/_;omega
  clear hx he hb;clear hk;go_upto_region 5 with fail
  go_wp2_with fail
  refine (yoh lo g (w.heap.size+2) gb' A ((w.heap.size+1)::F) V u' A.bk c HKE.out x HX Eo HEO B' HBK HBS (gb'::u'.ownBlock.toList) ⟨List.mem_cons_self ..,fun q hq=>List.mem_cons_of_mem _ (Option.mem_toList.2 hq)⟩ _ HLL.out (by have:=HSZ4.out;omega) HB4.out HAC).mono ?_;rintro _ w5 ⟨dv5,rfl,hbk5,hst5⟩
  have HLG:Hid (∀y∈gb'::u'.ownBlock.toList,w.heap.size+2<=y):=fun y hy=>by
   rcases List.mem_cons.1 hy with rfl | hy
   ·exact HB4.out.1
   ·exact (HB4.out.2.2.lt y (Option.mem_toList.1 hy)).1
  have H5:=lh (HAC.out _ hst5.below);have HBB5:Hid (Blk w5 (w.heap.size+1) 45 zA):=HBB4.out.keep hst5.keep (fun hm=>by have:=HLG.out _ hm;omega);have HBC5:Hid (Blk w5 w.heap.size 48 [iV c.a,iV c.b,iV c.c,iV c.d,iV c.e]):=HBC4.out.keep hst5.keep (fun hm=>by have:=HLG.out _ hm;omega);have HBK5:=lh hbk5;have HST5:Hid (Stp F w ((w.heap.size+1)::F) w5):=⟨HST4.out.keep.trans hst5.keep (fun x hx=>.inr (by have:=HLG.out _ hx;omega)),HST4.out.new⟩
  have HO5:Hid (ybw w w5):=fun x e cs hb h1 h2 h3=>((HO4.out x e cs hb h1 h2 h3)).keep hst5.keep (fun hm=>by
   have h4:=HLG.out _ hm;have h5:=hb.lt;omega)
  have HGB5:Hid (∀y∈(w.heap.size+1)::F,y<w.heap.size+2 ):=fun y hy=>by have:=(H1.out.lt y hy).2;have h2:=HBW1.out.2;omega
  clear hbk5 hst5 d0 d1 d2 d3 d4 kdx;go_upto_region 9 with fail
  obtain ⟨W6,hW,HBE6,HB6⟩:∃W,w5.alloc (.cells #[iV x.a,iV x.b,iV x.c,iV x.d,iV x.e] 150)=W/\Hid (Blk W w5.heap.size 150 [iV x.a,iV x.b,iV x.c,iV x.d,iV x.e])/\Hid (BW w5 W):=⟨_,rfl,yae w5 _ _ _ rfl,yaa bR _⟩
  with_reducible rw [hW]
  clear hW;have H6:=lh (H5.out.below HB6.out);have HBB6:=lh (HBB5.out.below HB6.out);have HBC6:=lh (HBC5.out.below HB6.out);have HBK6:=lh (HBK5.out.below HB6.out);have HST6:=lh (Stp.below HST5.out HB6.out);have HO6:=lh (HO5.out.below HB6.out)
  by_cases hEo:Eo=0
  ·subst hEo
   have hk6n:¬c.a=6:=by have h1:=hk6';simpa using h1
   have HXB:Hid (x.b<=A.today):= by
    have h1:=yvu HOK.out (c:=c) (by rw [HASK.out]) hk6n;rw [HASK.out] at h1;exact h1
   obtain ⟨A1,E1,hco⟩:∃A1 E1,yb9 A x=(A1,E1):=⟨_,_,rfl⟩;have HCO:=lh hco
   have HC2:Hid ((if E1≠0 then (A,E1) else ({ A1 with bk:=B' },0))=(A',E)):= by
    exact zq29724a
   clear hco hk6n;obtain ⟨e0,e1,e2,e3,e4,-⟩:=HBE6.out.cs [0,1,2,3,4];simp only [gz,gs] at e0 e1 e2 e3 e4;have kex:=HBE6.out.lt;have d0:=HBC6.out.cell 0;simp only [gz,gs] at d0;have kdx:=HBC6.out.lt
   go_wp2_with fail
   refine (yim lo g A HOK.out (by have:=HSQ.out;omega) ((w.heap.size+1)::F) V x HXB.out A1 E1 HCO _ H6.out).mono ?_;rintro _ w7 ⟨rfl,F2,V2,h7,s7,sub7,o7⟩;have H7:=lh h7;have HSUB:=lh sub7;have HSTx:Hid (Stp F w F2 w7):=HST6.out.trans s7;have HOx:Hid (ybw w w7):=HO6.out.trans o7;have HBBx:Hid (Blk w7 (w.heap.size+1) 45 zA):=o7 _ _ _ HBB6.out (by decide) (by decide) (by decide);have HBCx:Hid (Blk w7 w.heap.size 48 [iV c.a,iV c.b,iV c.c,iV c.d,iV c.e]):=o7 _ _ _ HBC6.out (by decide) (by decide) (by decide);have HBEx:Hid (Blk w7 w5.heap.size 150 [iV x.a,iV x.b,iV x.c,iV x.d,iV x.e]):=o7 _ _ _ HBE6.out (by decide) (by decide) (by decide);have HBKx:Hid (Rd F2 w7 (fun W=>ya6 W 0 gb' dv5 B')):=s7.rd (HBK6.out.rd (fun hm=>by have h1:=HGB5.out _ hm;have h2:=HBK6.out.1;omega) (fun q hq hm=>by have h1:=HGB5.out _ hm;have h2:=(HBK6.out.2.2.lt q hq).1;omega));clear h7 s7 sub7 o7 e0 e1 e2 e3 e4 kex d0 kdx
   by_cases hE1:E1=0
   ·subst hE1
    have h9:=HC2.out;rw [if_neg (by simp)] at h9;simp only [Prod.mk.injEq] at h9;obtain ⟨rfl,rfl⟩:=h9;have hB10:=H7.out.setBook HBKx.out;have c10:w7.cell? (Ad g 10)=some (pV V2.gb):=H7.out.blk.cell 10;have f10:=H7.out.blk.frozen 10;have kg:=H7.out.blk.lt;go_upto_region 14 with fail
    obtain ⟨W8,hW,H8,HBB8,HBC8,HBE8,HST8,HO8⟩:∃W,w7.setCell (Ad g 10) (pV gb')=W/\Hid (ybe lo g { A1 with bk:=B' } F2 W { V2 with gb:=gb',dv:=dv5 })/\Hid (Blk W (w.heap.size+1) 45 zA)/\Hid (Blk W w.heap.size 48 [iV c.a,iV c.b,iV c.c,iV c.d,iV c.e])/\Hid (Blk W w5.heap.size 150 [iV x.a,iV x.b,iV x.c,iV x.d,iV x.e])/\Hid (Stp F w F2 W)/\Hid (ybw w W):= by
     exact zq29a240
    with_reducible rw [hW]
    clear hW hB10 c10 f10 kg;have d0:=HBC8.out.cell 0;simp only [gz,gs] at d0;have kdx:=HBC8.out.lt
    by_cases hk4:c.a=4
    ·have hk4':(c.a == 4)=true:=by simpa using hk4
     clear hk4;have e4:W8.cell? (Ad w5.heap.size 4)=some (iV x.e):=HBE8.out.cell 4;have kex:=HBE8.out.lt;have HZ:Hid (W8.heap[w.heap.size+1]?=some (.cells zA.toArray 45 (0,0))):=HBB8.out
     go_wp2_with (with_reducible refine ybj rfl (.tmp 4) (.tmp 65) rfl rfl (w.heap.size+1) #[iZ,iV x.e,iZ,iZ,iZ,sZ,iZ,iZ,sZ,sZ,iZ,iZ,iZ,iZ,iZ,sZ,iZ,iZ,iZ,.bool false] rfl rfl _ HZ.out rfl rfl (by simp [Value.oneCell']) ?_)
     refine bodyPost_ret (v:=.agg #[iZ,iV x.e,iZ,iZ,iZ,sZ,iZ,iZ,sZ,sZ,iZ,iZ,iZ,iZ,iZ,sZ,iZ,iZ,iZ,.bool false]) (results_cell_row (p:=4) (ty:=45) rfl _ _ (w.heap.size+1) 45 _ (0,0) _ rfl (setRow_heap _ _ _ _ _ _ HZ.out) Tryz.underlying45 rfl (by rw [ybp];rfl)) rfl ⟨_,rfl,yrs x.e,yd3 H8.out HST8.out (fun x hx=>HSUB.out x (List.mem_cons_of_mem _ hx)) (HSUB.out _ (List.mem_cons_self ..)) HBB8.out HO8.out om _⟩
    ·have hk4':(c.a == 4)=false:=by simpa using hk4
     clear hk4;exact zq2950cb
   ·exact zq2942b1
  ·exact zq2938b5
theorem ygn {ops:Array Oper} {o:Oper} {a:Act} {w:World} {K:Act->World->Prop} {Q:Exit->Act->World->Prop} {E:Prop} (hgd:o.guard=none) (x y:Operand) (ho:o.op=.store 45 x y)
 (hd:o.dst=none) (g:Nat) (cells:Array Value) (hx:a.eval x=pV g) (hy:a.eval y=.agg cells) (old:Array Value) (hg:w.heap[g]?=some (.cells old 45 (0,0))) (hs:cells.size=20) (hs2:old.size=20)
 (h1:cells.all (·.oneCell')=true) (h:K a (w.setRow g cells)):if Region.wanted o (yielded ops a.tmps)=true then Oper.wp Tryz.prog o a w K Q else E:= by
 have hw:Region.wanted o (yielded ops a.tmps)=true:=by simp [Region.wanted,hgd]
 rw [if_pos hw];obtain ⟨op,dst,ty,pos,after,guard⟩:=o;simp only at ho hd hgd;subst ho;subst hd;unfold Oper.wp execOp;simp only [hx,hy,Instr.storeAt,Instr.sureAddr,Sem.run_bind,Sem.run_pure,Result.andThen_ok,run_storeVar_row w g 45 45 old cells hg (by rw [ybp,hs]) (by rw [hs,hs2]) h1];exact h
theorem yhk (lo g:Nat) (A:Acc) (hA:ycy A) (hsq:A.seq<=99999) (F:List Nat) (V:AV) (c:R5) (A':Acc) (E:Int) (hE:Hid (doS A c=(A',E))) (w:World) (h:ybe lo g A F w V) :
 Calls Tryz.prog 10 #[pV g,.agg #[iV c.a,iV c.b,iV c.c,iV c.d,iV c.e]] w (yze E lo g A' F w):= by
 have HOK:=lh hA;have HSQ:=lh hsq
 obtain ⟨W1,hW1,H1,HBC1,HBB1,HST1,HBW1⟩:∃W,((w.alloc (.cells #[iV c.a,iV c.b,iV c.c,iV c.d,iV c.e] 48)).alloc (.cells zA.toArray 45))=W/\Hid (ybe lo g A ((w.heap.size+1)::F) W V)/\Hid (Blk W w.heap.size 48 [iV c.a,iV c.b,iV c.c,iV c.d,iV c.e])/\Hid (Blk W (w.heap.size+1) 45 zA)/\Hid (Stp F w ((w.heap.size+1)::F) W)/\Hid (BW w W) :=
  ⟨_,rfl,h.more (yaa (yaa bR _) _) om (by simp only [World.size_alloc];omega),(yae w _ _ _ rfl).below (yaa bR _),ybc _ _ _ _ (World.size_alloc _ _),⟨((yab.refl _ _).alloc _).alloc _,fun x hx=>by
   rcases List.mem_cons.1 hx with rfl | hx
   ·exact .inr om
   ·exact .inl hx⟩,yaa (yaa bR _) _⟩
 clear h hA hsq
 go_enter Tryz.func10,Tryz.ntmps10
 go_upto_region 1 with fail
 try with_reducible rw [hW1]
 clear hW1;obtain ⟨d0,d1,d2,d3,d4,-⟩:=HBC1.out.cs [0,1,2,3,4];simp only [gz,gs] at d0 d1 d2 d3 d4;have kdx:=HBC1.out.lt
 by_cases h8:c.a=8
 ·have h8':(c.a == 8)=true:=by simpa using h8
  have hE2:=hE.out;unfold doS at hE2;rw [if_pos h8] at hE2;have HT:=lh hE2;clear hE2 h8
  go_wp2_with fail
  refine (yp3 lo g A HOK.out (by have:=HSQ.out;omega) ((w.heap.size+1)::F) V c.b A' E HT _ H1.out).mono ?_;clear d0 d1 d2 d3 d4 kdx;rintro _ wz ⟨v,rfl,han,F2,V2,h2,s2,sub2,o2⟩;have H2:=lh h2;have HST2:Hid (Stp F w F2 wz):=HST1.out.trans s2;have HSUB:=lh sub2;have HO2:Hid (ybw w wz):=(ybw.of_below HBW1.out).trans o2;have HBz:Hid (Blk wz (w.heap.size+1) 45 zA):=o2 _ _ _ HBB1.out (by decide) (by decide) (by decide);clear h2 s2 sub2 o2;obtain ⟨r,cy,td,cn,bal,cr,du,rt,dp,sq,pn,pf,pt,pd,ln,tt,pc,mn,gr,rfl,i1,i2,i3,i4⟩:=han;have HI:=lh (And.intro i1 (And.intro i2 (And.intro i3 i4)));have HOC:Hid ((#[iV E,iV r,iV cy,iV td,iV cn,bal,iV cr,iV du,rt,dp,iV sq,iV pn,iV pf,iV pt,iV pd,ln,iV tt,iV pc,iV mn,.bool gr]:Array Value).all (·.oneCell')=true):=(ycn HI.out.1 HI.out.2.1 HI.out.2.2.1 HI.out.2.2.2);have HAN:Hid (Ans (E) (.agg #[iV E,iV r,iV cy,iV td,iV cn,bal,iV cr,iV du,rt,dp,iV sq,iV pn,iV pf,iV pt,iV pd,ln,iV tt,iV pc,iV mn,.bool gr])):=⟨r,cy,td,cn,bal,cr,du,rt,dp,sq,pn,pf,pt,pd,ln,tt,pc,mn,gr,rfl,HI.out.1,HI.out.2.1,HI.out.2.2.1,HI.out.2.2.2⟩;have HZ:Hid (wz.heap[w.heap.size+1]?=some (.cells zA.toArray 45 (0,0))):=HBz.out;clear i1 i2 i3 i4
  go_wp2_with (with_reducible refine ybj rfl (.tmp 4) (.tmp 15) rfl rfl (w.heap.size+1) #[iV E,iV r,iV cy,iV td,iV cn,bal,iV cr,iV du,rt,dp,iV sq,iV pn,iV pf,iV pt,iV pd,ln,iV tt,iV pc,iV mn,.bool gr] rfl rfl _ HZ.out rfl rfl HOC.out ?_)
  exact zq293d10
 have h8':(c.a == 8)=false:=by simpa using h8
 by_cases h9:c.a=9
 ·have h9':(c.a == 9)=true:=by simpa using h9
  have hE2:=hE.out;unfold doS at hE2;rw [if_neg h8,if_pos h9] at hE2;simp only [Prod.mk.injEq] at hE2;obtain ⟨rfl,rfl⟩:=hE2;clear h8 h9
  go_wp2_with fail
  refine (yfv lo g A HOK.out ((w.heap.size+1)::F) V _ H1.out).mono ?_;clear d0 d1 d2 d3 d4 kdx;rintro _ wz ⟨cn,bv,rv,dv,rfl,hbv,hrv,hdv,_,hbz⟩;have HISL:=lh (And.intro (show IsSl bv from hbv.shape.elim fun a h=>h.elim fun b h=>⟨_,_,_,h⟩) (And.intro (show IsSl rv from hrv.shape.elim fun a h=>h.elim fun b h=>⟨_,_,_,h⟩) hdv));have HOC:Hid ((#[iZ,iZ,iZ,iV A.today,iV cn,bv,iV A.R.p.c,iV A.R.p.d,rv,dv,iV A.seq,iZ,iZ,iZ,iZ,sZ,iZ,iZ,iZ,.bool false]:Array Value).all (·.oneCell')=true):=(ycn HISL.out.1 HISL.out.2.1 HISL.out.2.2 (isl _ _ _));have HAN:Hid (Ans 0 (.agg #[iZ,iZ,iZ,iV A.today,iV cn,bv,iV A.R.p.c,iV A.R.p.d,rv,dv,iV A.seq,iZ,iZ,iZ,iZ,sZ,iZ,iZ,iZ,.bool false])):=⟨0,0,A.today,cn,bv,A.R.p.c,A.R.p.d,rv,dv,A.seq,0,0,0,0,_,0,0,0,false,rfl,HISL.out.1,HISL.out.2.1,HISL.out.2.2,isl _ _ _⟩;have H2:=lh (H1.out.below hbz);have HST2:Hid (Stp F w ((w.heap.size+1)::F) wz):=Stp.below HST1.out hbz;have HO2:Hid (ybw w wz):=(ybw.of_below HBW1.out).below hbz;have HBz:Hid (Blk wz (w.heap.size+1) 45 zA):=HBB1.out.below hbz;have HZ:Hid (wz.heap[w.heap.size+1]?=some (.cells zA.toArray 45 (0,0))):=HBz.out;clear hbz hbv hrv hdv
  go_wp2_with (with_reducible refine ybj rfl (.tmp 4) (.tmp 20) rfl rfl (w.heap.size+1) #[iZ,iZ,iZ,iV A.today,iV cn,bv,iV A.R.p.c,iV A.R.p.d,rv,dv,iV A.seq,iZ,iZ,iZ,iZ,sZ,iZ,iZ,iZ,.bool false] rfl rfl _ HZ.out rfl rfl HOC.out ?_)
  refine bodyPost_ret (v:=.agg #[iZ,iZ,iZ,iV A.today,iV cn,bv,iV A.R.p.c,iV A.R.p.d,rv,dv,iV A.seq,iZ,iZ,iZ,iZ,sZ,iZ,iZ,iZ,.bool false]) (results_cell_row (p:=4) (ty:=45) rfl _ _ (w.heap.size+1) 45 _ (0,0) _ rfl (setRow_heap _ _ _ _ _ _ HZ.out) Tryz.underlying45 rfl (by rw [ybp];rfl)) rfl ⟨_,rfl,HAN.out,yd3 H2.out HST2.out (fun x hx=>List.mem_cons_of_mem _ hx) (List.mem_cons_self ..) HBz.out HO2.out om _⟩
 have h9':(c.a == 9)=false:=by simpa using h9
 by_cases h10:c.a=10
 ·have h10':(c.a == 10)=true:=by simpa using h10
  have hE2:=hE.out;unfold doS at hE2;rw [if_neg h8,if_neg h9,if_pos h10] at hE2;simp only [Prod.mk.injEq] at hE2;obtain ⟨rfl,hEE⟩:=hE2;have HEL:=lh hEE;obtain ⟨io,ic,hiv⟩:=(StS.of_own H1.out.iss H1.out.rd.now.2.2.2.2.2.2).shape;obtain ⟨ln0,hln0⟩:∃n,A.iss.length=n:=⟨_,rfl⟩;rw [hln0] at hiv;have HIV:=lh hiv;have HLB:Hid (A.iss.length<=300/\∀i,i<A.iss.length->(A.iss.getD i St0).ls.length<=1000):=⟨by have h1:=HOK.out.issl;have h2:=HOK.out.outl;omega,HOK.out.issb⟩
  have HSV:Hid (∀W',BW W1 W'->StV W' (.slice io ln0 ic) A.iss V.ivs):=fun W' hb=>by
   have q:=H1.out.below hb;rw [<-HIV.out];exact ⟨q.rd.now.2.2.2.2.2.2,Fl.of_own q.iss q.rd.now.2.2.2.2.2.2.one⟩
  clear h8 h9 h10 hiv hEE hln0
  have HS:Hid (∀W',BW W1 W'->Ce W' g 16 (.slice io ln0 ic)/\Ce W' w.heap.size 4 (iV c.e)):=fun W' hb=>by
   have q:=H1.out.blk.below hb;have q2:=HBC1.out.below hb;exact ⟨by rw [<-HIV.out];exact q.cell 16,q2.cell 4⟩
  have hsd:=HS.out W1.drew (yaf bR);go_upto_region 9 with fail
  refine yan (fun W'=>Ce W' g 16 (.slice io ln0 ic)/\Ce W' w.heap.size 4 (iV c.e)) 7 kr ?_;refine tK 0 rfl ?_;refine tK 1 rfl ?_;refine tK 2 rfl ?_;refine tK 3 rfl ?_;refine tK 4 rfl ?_;refine tK 5 rfl ?_;refine wo 6 kr rfl fun K hK=>?_;go_simp;refine (yse _ A.iss V.ivs c.e (by have:=HLB.out.1;omega) (lh HLB.out.2) E HEL _ (HSV.out _ (yaf bR))).mono ?_;rintro _ wz ⟨v,rfl,han,hbz'⟩;have hbz:BW W1 wz:=yad (yaf bR) hbz';have hsz:=HS.out wz hbz;have H2:=lh (H1.out.below hbz);have HST2:Hid (Stp F w ((w.heap.size+1)::F) wz):=Stp.below HST1.out hbz;have HO2:Hid (ybw w wz):=(ybw.of_below HBW1.out).below hbz;have HBz:Hid (Blk wz (w.heap.size+1) 45 zA):=HBB1.out.below hbz;obtain ⟨r,cy,td,cn,bal,cr,du,rt,dp,sq,pn,pf,pt,pd,ln,tt,pc,mn,gr,rfl,i1,i2,i3,i4⟩:=han;have HI:=lh (And.intro i1 (And.intro i2 (And.intro i3 i4)));have HOC:Hid ((#[iV E,iV r,iV cy,iV td,iV cn,bal,iV cr,iV du,rt,dp,iV sq,iV pn,iV pf,iV pt,iV pd,ln,iV tt,iV pc,iV mn,.bool gr]:Array Value).all (·.oneCell')=true):=(ycn HI.out.1 HI.out.2.1 HI.out.2.2.1 HI.out.2.2.2);have HAN:Hid (Ans E (.agg #[iV E,iV r,iV cy,iV td,iV cn,bal,iV cr,iV du,rt,dp,iV sq,iV pn,iV pf,iV pt,iV pd,ln,iV tt,iV pc,iV mn,.bool gr])):=⟨r,cy,td,cn,bal,cr,du,rt,dp,sq,pn,pf,pt,pd,ln,tt,pc,mn,gr,rfl,HI.out.1,HI.out.2.1,HI.out.2.2.1,HI.out.2.2.2⟩;have HZ:Hid (wz.heap[w.heap.size+1]?=some (.cells zA.toArray 45 (0,0))):=HBz.out;clear i1 i2 i3 i4 hbz hbz';refine hK.out _ _ (fun hun=>hsz) ?_;clear hK K;try simp only [ap,aq,sa,sb,sc]
  refine wo 7 kr rfl fun K hK=>?_;refine ygn rfl (.tmp 4) (.tmp 29) rfl rfl (w.heap.size+1) #[iV E,iV r,iV cy,iV td,iV cn,bal,iV cr,iV du,rt,dp,iV sq,iV pn,iV pf,iV pt,iV pd,ln,iV tt,iV pc,iV mn,.bool gr] rfl rfl _ HZ.out rfl rfl HOC.out ?_;exact zq29f0cf
 have h10':(c.a == 10)=false:=by simpa using h10
 by_cases h11:c.a=11
 ·have h11':(c.a == 11)=true:=by simpa using h11
  have hE2:=hE.out;unfold doS at hE2;rw [if_neg h8,if_neg h9,if_neg h10,if_pos h11] at hE2;simp only [Prod.mk.injEq] at hE2;obtain ⟨rfl,hEE⟩:=hE2;have HEL:=lh hEE;obtain ⟨io,ic,hiv⟩:=H1.out.rd.now.2.2.2.2.2.1.2.shape;obtain ⟨ln0,hln0⟩:∃n,A.R.out.length=n:=⟨_,rfl⟩;rw [hln0] at hiv;have HIV:=lh hiv;have HLB:Hid (A.R.out.length<=300/\∀i,i<A.R.out.length->(A.R.out.getD i St0).ls.length<=1000):=⟨HOK.out.outl,HOK.out.outb⟩
  have HSV:Hid (∀W',BW W1 W'->StV W' (.slice io ln0 ic) A.R.out V.nvs):=fun W' hb=>by
   have q:=H1.out.below hb;rw [<-HIV.out];exact q.rd.now.2.2.2.2.2.1
  clear h8 h9 h10 h11 hiv hEE hln0
  have HS:Hid (∀W',BW W1 W'->Ce W' g 15 (.slice io ln0 ic)/\Ce W' w.heap.size 4 (iV c.e)):=fun W' hb=>by
   have q:=H1.out.blk.below hb;have q2:=HBC1.out.below hb;exact ⟨by rw [<-HIV.out];exact q.cell 15,q2.cell 4⟩
  have hsd:=HS.out W1.drew (yaf bR);go_upto_region 11 with fail
  refine yan (fun W'=>Ce W' g 15 (.slice io ln0 ic)/\Ce W' w.heap.size 4 (iV c.e)) 7 kr ?_;refine tK 0 rfl ?_;refine tK 1 rfl ?_;refine tK 2 rfl ?_;refine tK 3 rfl ?_;refine tK 4 rfl ?_;refine tK 5 rfl ?_;refine wo 6 kr rfl fun K hK=>?_;go_simp;refine (yse _ A.R.out V.nvs c.e (by have:=HLB.out.1;omega) (lh HLB.out.2) E HEL _ (HSV.out _ (yaf bR))).mono ?_;rintro _ wz ⟨v,rfl,han,hbz'⟩;have hbz:BW W1 wz:=yad (yaf bR) hbz';have hsz:=HS.out wz hbz;have H2:=lh (H1.out.below hbz);have HST2:Hid (Stp F w ((w.heap.size+1)::F) wz):=Stp.below HST1.out hbz;have HO2:Hid (ybw w wz):=(ybw.of_below HBW1.out).below hbz;have HBz:Hid (Blk wz (w.heap.size+1) 45 zA):=HBB1.out.below hbz;obtain ⟨r,cy,td,cn,bal,cr,du,rt,dp,sq,pn,pf,pt,pd,ln,tt,pc,mn,gr,rfl,i1,i2,i3,i4⟩:=han;have HI:=lh (And.intro i1 (And.intro i2 (And.intro i3 i4)));have HOC:Hid ((#[iV E,iV r,iV cy,iV td,iV cn,bal,iV cr,iV du,rt,dp,iV sq,iV pn,iV pf,iV pt,iV pd,ln,iV tt,iV pc,iV mn,.bool gr]:Array Value).all (·.oneCell')=true):=(ycn HI.out.1 HI.out.2.1 HI.out.2.2.1 HI.out.2.2.2);have HAN:Hid (Ans E (.agg #[iV E,iV r,iV cy,iV td,iV cn,bal,iV cr,iV du,rt,dp,iV sq,iV pn,iV pf,iV pt,iV pd,ln,iV tt,iV pc,iV mn,.bool gr])):=⟨r,cy,td,cn,bal,cr,du,rt,dp,sq,pn,pf,pt,pd,ln,tt,pc,mn,gr,rfl,HI.out.1,HI.out.2.1,HI.out.2.2.1,HI.out.2.2.2⟩;have HZ:Hid (wz.heap[w.heap.size+1]?=some (.cells zA.toArray 45 (0,0))):=HBz.out;clear i1 i2 i3 i4 hbz hbz';refine hK.out _ _ (fun hun=>hsz) ?_;clear hK K;try simp only [ap,aq,sa,sb,sc]
  refine wo 7 kr rfl fun K hK=>?_;refine ygn rfl (.tmp 4) (.tmp 38) rfl rfl (w.heap.size+1) #[iV E,iV r,iV cy,iV td,iV cn,bal,iV cr,iV du,rt,dp,iV sq,iV pn,iV pf,iV pt,iV pd,ln,iV tt,iV pc,iV mn,.bool gr] rfl rfl _ HZ.out rfl rfl HOC.out ?_;exact zq29f0cf
 have h11':(c.a == 11)=false:=by simpa using h11
 have hE2:=hE.out;unfold doS at hE2;rw [if_neg h8,if_neg h9,if_neg h10,if_neg h11] at hE2;obtain ⟨ch,hch⟩:∃ch,chg c.a=ch:=⟨_,rfl⟩;have HCH:=lh hch;rw [hch] at hE2;have HE3:=lh hE2;have HN8:=lh h8;clear hE2 h8 h9 h10 h11 hch
 go_wp2_with fail
 refine (yko c _).mono ?_;rintro _ W2 ⟨rfl,hb2⟩;rw [HCH.out];have H2:=lh (H1.out.below hb2);have HBC2:=lh (HBC1.out.below hb2);have HBB2:=lh (HBB1.out.below hb2);have HST2':=lh (Stp.below HST1.out hb2);have HBW2:Hid (BW w W2):=yad HBW1.out hb2;clear hb2 d0 d1 d2 d3 d4 kdx H1 HBC1 HBB1 HST1 HBW1;have H1:=H2;have HBC1:=HBC2;have HBB1:=HBB2;have HST1:=HST2';have HBW1:=HBW2;clear H2 HBC2 HBB2 HST2' HBW2;obtain ⟨d0,d1,d2,d3,d4,-⟩:=HBC1.out.cs [0,1,2,3,4];simp only [gz,gs] at d0 d1 d2 d3 d4;have kdx:=HBC1.out.lt;cases ch with
 | false =>
  have h9:=HE3.out;rw [if_pos rfl] at h9;simp only [Prod.mk.injEq] at h9;obtain ⟨rfl,rfl⟩:=h9
  go_wp2_with fail
  refine (yc2 1 _).mono ?_;clear d0 d1 d2 d3 d4 kdx;rintro _ wz ⟨rfl,hbz⟩;have han:Ans 1 (ansZ 1):=yfd 1
  revert han
  generalize ansZ 1=v;intro han;have H2:=lh (H1.out.below hbz);have HST2:Hid (Stp F w ((w.heap.size+1)::F) wz):=Stp.below HST1.out hbz;have HO2:Hid (ybw w wz):=(ybw.of_below HBW1.out).below hbz;have HBz:Hid (Blk wz (w.heap.size+1) 45 zA):=HBB1.out.below hbz;clear hbz;obtain ⟨r,cy,td,cn,bal,cr,du,rt,dp,sq,pn,pf,pt,pd,ln,tt,pc,mn,gr,rfl,i1,i2,i3,i4⟩:=han;have HI:=lh (And.intro i1 (And.intro i2 (And.intro i3 i4)));have HOC:Hid ((#[iV 1,iV r,iV cy,iV td,iV cn,bal,iV cr,iV du,rt,dp,iV sq,iV pn,iV pf,iV pt,iV pd,ln,iV tt,iV pc,iV mn,.bool gr]:Array Value).all (·.oneCell')=true):=(ycn HI.out.1 HI.out.2.1 HI.out.2.2.1 HI.out.2.2.2);have HAN:Hid (Ans (1) (.agg #[iV 1,iV r,iV cy,iV td,iV cn,bal,iV cr,iV du,rt,dp,iV sq,iV pn,iV pf,iV pt,iV pd,ln,iV tt,iV pc,iV mn,.bool gr])):=⟨r,cy,td,cn,bal,cr,du,rt,dp,sq,pn,pf,pt,pd,ln,tt,pc,mn,gr,rfl,HI.out.1,HI.out.2.1,HI.out.2.2.1,HI.out.2.2.2⟩;have HZ:Hid (wz.heap[w.heap.size+1]?=some (.cells zA.toArray 45 (0,0))):=HBz.out;clear i1 i2 i3 i4
  go_wp2_with (with_reducible refine ybj rfl (.tmp 4) (.tmp 42) rfl rfl (w.heap.size+1) #[iV 1,iV r,iV cy,iV td,iV cn,bal,iV cr,iV du,rt,dp,iV sq,iV pn,iV pf,iV pt,iV pd,ln,iV tt,iV pc,iV mn,.bool gr] rfl rfl _ HZ.out rfl rfl HOC.out ?_)
  refine bodyPost_ret (v:=.agg #[iV 1,iV r,iV cy,iV td,iV cn,bal,iV cr,iV du,rt,dp,iV sq,iV pn,iV pf,iV pt,iV pd,ln,iV tt,iV pc,iV mn,.bool gr]) (results_cell_row (p:=4) (ty:=45) rfl _ _ (w.heap.size+1) 45 _ (0,0) _ rfl (setRow_heap _ _ _ _ _ _ HZ.out) Tryz.underlying45 rfl (by rw [ybp];rfl)) rfl ⟨_,rfl,HAN.out,yd3 H2.out HST2.out (fun x hx=>List.mem_cons_of_mem _ hx) (List.mem_cons_self ..) HBz.out HO2.out om _⟩
 | true =>
  have h9:=HE3.out;rw [if_neg (by simp)] at h9;have HC:=lh h9
  have HK:Hid (1<=c.a/\c.a<=7):= by
   have h1:=HCH.out;have h2:=HN8.out;simp [chg] at h1;show _/\_;omega
  clear h9
  go_wp2_with fail
  refine (yml lo g A HOK.out HSQ.out ((w.heap.size+1)::F) V c HK.out A' E HC _ H1.out).mono ?_;clear d0 d1 d2 d3 d4 kdx;rintro _ wz ⟨v,rfl,han,F2,V2,h2,s2,sub2,o2⟩;have H2:=lh h2;have HST2:Hid (Stp F w F2 wz):=HST1.out.trans s2;have HSUB:=lh sub2;have HO2:Hid (ybw w wz):=(ybw.of_below HBW1.out).trans o2;have HBz:Hid (Blk wz (w.heap.size+1) 45 zA):=o2 _ _ _ HBB1.out (by decide) (by decide) (by decide);clear h2 s2 sub2 o2;obtain ⟨r,cy,td,cn,bal,cr,du,rt,dp,sq,pn,pf,pt,pd,ln,tt,pc,mn,gr,rfl,i1,i2,i3,i4⟩:=han;have HI:=lh (And.intro i1 (And.intro i2 (And.intro i3 i4)));have HOC:Hid ((#[iV E,iV r,iV cy,iV td,iV cn,bal,iV cr,iV du,rt,dp,iV sq,iV pn,iV pf,iV pt,iV pd,ln,iV tt,iV pc,iV mn,.bool gr]:Array Value).all (·.oneCell')=true):=(ycn HI.out.1 HI.out.2.1 HI.out.2.2.1 HI.out.2.2.2);have HAN:Hid (Ans (E) (.agg #[iV E,iV r,iV cy,iV td,iV cn,bal,iV cr,iV du,rt,dp,iV sq,iV pn,iV pf,iV pt,iV pd,ln,iV tt,iV pc,iV mn,.bool gr])):=⟨r,cy,td,cn,bal,cr,du,rt,dp,sq,pn,pf,pt,pd,ln,tt,pc,mn,gr,rfl,HI.out.1,HI.out.2.1,HI.out.2.2.1,HI.out.2.2.2⟩;have HZ:Hid (wz.heap[w.heap.size+1]?=some (.cells zA.toArray 45 (0,0))):=HBz.out;clear i1 i2 i3 i4
  go_wp2_with (with_reducible refine ybj rfl (.tmp 4) (.tmp 45) rfl rfl (w.heap.size+1) #[iV E,iV r,iV cy,iV td,iV cn,bal,iV cr,iV du,rt,dp,iV sq,iV pn,iV pf,iV pt,iV pd,ln,iV tt,iV pc,iV mn,.bool gr] rfl rfl _ HZ.out rfl rfl HOC.out ?_)
  exact zq293d10
end Go.Proofs.YtkongpjpkpfniaaGreat

/- TopTicks: parts of the proof, made small by a program (mini.py). -/
import Derived.Test.YtkongpjpkpfniaaGreatT01
import Derived.Test.YtkongpjpkpfniaaGreatT10
import Derived.Test.YtkongpjpkpfniaaGreatT27
set_option linter.unusedVariables false
set_option linter.unusedSimpArgs false
set_option maxRecDepth 100000
set_option maxHeartbeats 6400000
namespace Go.Proofs.YtkongpjpkpfniaaGreat
open Go.RowKit
theorem zq28ec00 {q:Prop} (h:q:= by
 have hntr:¬(1<=c.c/\c.c<=(A.t.ts.length:Int)):=fun hh=>by have:=HTRI.out.2 hh;cases this
 go_wp2_with fail
 obtain rfl:7=E:= by
  have h9:=HE2.out;rw [if_pos ⟨hk2,hntr⟩] at h9;exact h9
 exact zq282b2d):q:=h
theorem zq285ffc {q:Prop} (h:q:= by
 have hk7:c.a≠7:=by omega
 have k2:(c.a != 2)=false:=by simpa using hk2
 obtain ⟨d0,d1,d2,d3,-⟩:=K1.out.bc.cs [0,1,2,3];simp only [gz,gs] at d0 d1 d2 d3;have kdx:=K1.out.bc.lt;have k7:(c.a == 7)=false:=by simpa using hk7
 by_cases am1:c.d<1
 ·exact zq28d5a1
 ·by_cases am2:1000000000000000<c.d
  ·exact zq28d5a1
  ·exact zq28b947):q:=h
theorem zq28a241 {q:Prop} (h:q:= by
 have hk1:(c.a == 1)=false:=by simp;omega
 have hk2':(c.a == 2)=false:=by simpa using hk2
 have hk3:(c.a == 3)=false:=by simp;omega
 have hk4:(c.a == 4)=false:=by simp;omega
 have k7:(c.a == 7)=true:=by simpa using hk7
 by_cases am1:c.d<0
 ·go_wp2_with fail
  obtain rfl:8=E:= by
   exact zq285903
  exact zq282b2d
 ·by_cases am2:10000000<c.d
  ·go_wp2_with fail
   obtain rfl:8=E:= by
    exact zq285903
   exact zq282b2d
  ·exact zq28b947):q:=h
theorem zq287b32 {q:Prop} (h:q:= by
 go_region
 all_goals
  go_wp2_with fail
  go_meet
  case rel=>exact ⟨_,rfl,(yae W1 _ _ _ rfl).below (yaf bR),Nat.le_refl _,yaf (yaa bR _)⟩):q:=h
theorem zq28b3f3 {q:Prop} (h:q:= by
 have h9:=HE2.out;rw [if_neg (fun h=>h.2 HTR.out),if_neg HAM.out,if_neg hk1n,if_neg hk3n,if_pos hk4,show (c.c-1).toNat=k from by have:=HKC.out;omega,HY.out,if_neg (Int.not_lt.2 HLB.out),HOE.out] at h9;exact h9):q:=h
theorem zq286637 {q:Prop} (h:q:= by
 have h9:=HE2.out;rw [if_neg (fun h=>h.2 HTR.out),if_pos (.inr ⟨hk7,by omega⟩)] at h9;exact h9):q:=h
theorem zq285903 {q:Prop} (h:q:= by
 have h9:=HE2.out;rw [if_neg (fun h=>h.2 HTR.out),if_pos (.inl ⟨hk7,by omega⟩)] at h9;exact h9):q:=h
theorem zq28cd20 {q:Prop} (h:q:= by
 have hz:x=yax:=by rw [<-hx.out];unfold evEv;rw [if_pos (by rw [hE.out];decide)]
 have hbk:B'=b:=by rw [<-hB'.out];unfold evBk;rw [if_neg (fun h=>by have:=h.1;rw [hE.out] at this;exact absurd this (by decide))]
 subst hbk
 go_step3
 exact ⟨rfl,HJ.out _ _ (x10 (x10 (x10 (x10 (x10 (x10 (x10 (x10 (x10 (x10 (x10 (x10 (x10 ⟨_,_,_,_,_,_,_,_,rfl,hz,K4.out.be,⟨_,K4.out.bk⟩,K4.out.st⟩)))))))))))))⟩):q:=h
theorem zq28b947 {q:Prop} (h:q:= by
 have HAM:Hid (¬(c.a=7/\(c.d<0\/10000000<c.d)\/c.a≠7/\(c.d<1\/1000000000000000<c.d))):=(fun h=>by rcases h with h | h <;> omega)
 exact absurd HKK.out om):q:=h
theorem zq288318 {q:Prop} (h:q:= by
 have hz:x=yax:=by rw [<-hx.out];unfold evEv;rw [if_pos (by rw [hE.out];decide)]
 have hbk:B'=b:=by rw [<-hB'.out];unfold evBk;rw [if_neg (fun h=>by have:=h.1;rw [hE.out] at this;exact absurd this (by decide))]
 subst hbk
 go_step3
 exact ⟨rfl,HJ.out _ _ (x10 (x10 (x10 (x10 (x10 (x10 (x10 (x10 (x10 (x10 (x10 (x10 (x10 ⟨_,_,_,_,_,_,_,_,rfl,hz,(K3.out.below (yfn bR _) HBS.out).be,⟨_,(K3.out.below (yfn bR _) HBS.out).bk⟩,(K3.out.below (yfn bR _) HBS.out).st⟩)))))))))))))⟩):q:=h
theorem zq280e9c {q:Prop} (h:q:= by
 intro a1 w1 hJ J' hJ';clear hJ'
 iterate 138 obtain ⟨_,hJ⟩:=hJ
 obtain ⟨rfl,HX0,HBE,HBK,HST⟩:=hJ;obtain ⟨r0,r1,r2,r3,r4,-⟩:=HBE.out.cs [0,1,2,3,4];simp only [gz,gs] at r0 r1 r2 r3 r4;obtain ⟨rf0,rf1,rf2,rf3,rf4,-⟩:=HBE.out.fs [0,1,2,3,4];have kex:=HBE.out.lt
 go_wp2_with fail
 have hf:=(((((HBE.out.set 0 (iZ)).set 1 (iZ)).set 2 (iZ)).set 3 (iZ)).set 4 (iZ));have q0:World.cell? _ (Ad (w.heap.size+1) 0)=some (iZ):=hf.cell 0;have q1:World.cell? _ (Ad (w.heap.size+1) 1)=some (iZ):=hf.cell 1;have q2:World.cell? _ (Ad (w.heap.size+1) 2)=some (iZ):=hf.cell 2;have q3:World.cell? _ (Ad (w.heap.size+1) 3)=some (iZ):=hf.cell 3;have q4:World.cell? _ (Ad (w.heap.size+1) 4)=some (iZ):=hf.cell 4;obtain ⟨dv2,HV2⟩:=HBK.out;have hz:=HX0.out;subst hz;refine bodyPost_ret (v:=.tuple #[.agg #[iZ,iZ,iZ,iZ,iZ],iV E]) (by simp [results,Tryz.results65,go_sem,q0,q1,q2,q3,q4]) rfl ⟨dv2,rfl,ycf (by repeat (first | with_reducible exact yab.refl _ _ | with_reducible refine yab.alloc ?_ _ | with_reducible refine yab.drew ?_ | with_reducible refine yab.setCell ?_ (.inl (List.mem_cons_self ..)) _)) HV2 HST.out HBE.out HBS.out (hLl.out _ hL.out.1)⟩):q:=h
theorem zq28d5a1 {q:Prop} (h:q:= by
 go_wp2_with fail
 obtain rfl:8=E:= by
  have h9:=HE2.out;rw [if_neg (fun h=>h.1 hk2),if_pos (.inr ⟨hk7,by omega⟩)] at h9;exact h9
 have hz:x=yax:=by rw [<-hx.out];unfold evEv;rw [if_pos (by rw [hE.out];decide)]
 have hbk:B'=b:=by rw [<-hB'.out];unfold evBk;rw [if_neg (fun h=>by have:=h.1;rw [hE.out] at this;exact absurd this (by decide))]
 subst hbk
 go_step3
 exact ⟨rfl,HJ.out _ _ (x10 (x10 (x10 (x10 (x10 (x10 (x10 (x10 (x10 (x10 (x10 (x10 (x10 ⟨_,_,_,_,_,_,_,_,rfl,hz,K1.out.be,⟨_,K1.out.bk⟩,K1.out.st⟩)))))))))))))⟩):q:=h
theorem zq282b2d {q:Prop} (h:q:= by
 have hz:x=yax:=by rw [<-hx.out];unfold evEv;rw [if_pos (by rw [hE.out];decide)]
 have hbk:B'=b:=by rw [<-hB'.out];unfold evBk;rw [if_neg (fun h=>by have:=h.1;rw [hE.out] at this;exact absurd this (by decide))]
 subst hbk
 go_step3
 exact ⟨rfl,HJ.out _ _ (x10 (x10 (x10 (x10 (x10 (x10 (x10 (x10 (x10 (x10 (x10 (x10 (x10 ⟨_,_,_,_,_,_,_,_,rfl,hz,K3.out.be,⟨_,K3.out.bk⟩,K3.out.st⟩)))))))))))))⟩):q:=h
theorem ym3 (lo g base gb:Nat) (A:Acc) (F:List Nat) (V:AV) (dv:Value) (b:Bk) (c:R5) (hk:c.a=1\/c.a=3) (x:R5) (hx:Hid (evEv A b c=x)) (E:Int) (hE:Hid (yfz A b c=E)) (B':Bk) (hB':Hid (evBk A b c=B')) (hbs:Hid (A.R.p.bs.length=A.t.ts.length/\A.t.ts.length<=1000)) (L:List Nat) (hL:Hid (gb∈L/\∀q,dv.ownBlock=some q->q∈L)) (w:World) (hLl:Hid (∀y∈L,y<w.heap.size)) (hb:base<=w.heap.size) (hv:ya6 w base gb dv b) (h:Hid (∀W,Below base w W->ybe lo g A F W V)) :
 Calls Tryz.prog 65 #[pV g,.agg #[iV c.a,iV c.b,iV c.c,iV c.d,iV c.e],pV gb] w (yn4 x E base gb B' L w):= by
 have HV:=lh hv;have HBS:=lh hb;have HA0:=lh (h.out w bR);have c7:w.cell? (Ad g 7)=some (iV A.today):=HA0.out.blk.cell 7;have kg:=HA0.out.blk.lt;have HKK:=lh hk;clear hv hb hk
 go_enter Tryz.func65,Tryz.ntmps65
 go_wp2_with fail
 refine yai 0 (fun a' w'=>∃(u0 u1 u2 u3 u4 u5 u7 u8 u10 u11 u12 u13 u14 u15 u16 u17 u18 u19 u20 u21 u22 u23 u24 u25 u26 u27 u28 u29 u30 u31 u32 u33 u34 u35 u36 u37 u38 u39 u40 u41 u42 u43 u44 u45 u46 u47 u48 u49 u50 u51 u52 u53 u54 u55 u56 u57 u58 u59 u60 u61 u62 u63 u64 u65 u66 u67 u68 u69 u70 u71 u72 u73 u74 u75 u76 u77 u78 u79 u80 u81 u82 u83 u84 u85 u86 u87 u88 u89 u90 u91 u92 u93 u94 u95 u96 u97 u98 u99 u100 u101 u102 u103 u104 u105 u106 u107 u108 u109 u110 u111 u112 u113 u114 u115 u116 u117 u118 u119 u120 u121 u122 u123 u124 u125 u126 u127 u128 u129 u130 u131 u132 u133 u134 u135 u136 u137 u138 u139:Value),a'={ tmps:=#[u0,u1,u2,u3,u4,u5,pV (w.heap.size+1),u7,u8,iV E,u10,u11,u12,u13,u14,u15,u16,u17,u18,u19,u20,u21,u22,u23,u24,u25,u26,u27,u28,u29,u30,u31,u32,u33,u34,u35,u36,u37,u38,u39,u40,u41,u42,u43,u44,u45,u46,u47,u48,u49,u50,u51,u52,u53,u54,u55,u56,u57,u58,u59,u60,u61,u62,u63,u64,u65,u66,u67,u68,u69,u70,u71,u72,u73,u74,u75,u76,u77,u78,u79,u80,u81,u82,u83,u84,u85,u86,u87,u88,u89,u90,u91,u92,u93,u94,u95,u96,u97,u98,u99,u100,u101,u102,u103,u104,u105,u106,u107,u108,u109,u110,u111,u112,u113,u114,u115,u116,u117,u118,u119,u120,u121,u122,u123,u124,u125,u126,u127,u128,u129,u130,u131,u132,u133,u134,u135,u136,u137,u138,u139],defers:=[] }/\Hid (x=yax)/\Hid (Blk w' (w.heap.size+1) 150 [iZ,iZ,iZ,iZ,iZ])/\Hid (∃dv',ya6 w' base gb dv' B')/\Hid (DStp base L w w'))
  (fun _ _=>0) rfl ?pass ?first
 case pass =>
  exact zq280e9c
 case first =>
  intro J' hJJ hrest;have HJ:=lh hJJ;clear hJJ hrest;go_upto_region 1 with fail
  obtain ⟨W1,hW1,HBC1,HBE1,HS1,HZ1,HBW1⟩:∃W1,((w.alloc (.cells #[iV c.a,iV c.b,iV c.c,iV c.d,iV c.e] 48)).alloc (.cells #[iZ,iZ,iZ,iZ,iZ] 150))=W1/\Hid (Blk W1 w.heap.size 48 [iV c.a,iV c.b,iV c.c,iV c.d,iV c.e])/\Hid (Blk W1 (w.heap.size+1) 150 [iZ,iZ,iZ,iZ,iZ])/\Hid (DStp base L w W1)/\Hid (W1.heap.size=w.heap.size+2)/\Hid (BW w W1) :=
   ⟨_,rfl,(yae w _ _ _ rfl).below (yaa bR _),ybc _ _ _ _ (World.size_alloc _ _),⟨((Below.refl base w).alloc HBS.out _).alloc (by rw [World.size_alloc];have:=HBS.out;omega) _,((yab.refl _ _).alloc _).alloc _⟩,(show _=_ by simp only [World.size_alloc]),yaa (yaa bR _) _⟩
  with_reducible rw [hW1]
  clear hW1 c7 kg;have HA1:=lh (h.out _ HS1.out.below);have c7:W1.cell? (Ad g 7)=some (iV A.today):=HA1.out.blk.cell 7;have kg:=HA1.out.blk.lt;have d3:W1.cell? (Ad w.heap.size 3)=some (iV c.d):=HBC1.out.cell 3;have kdx:=HBC1.out.lt
  go_cut [8] (fun s8 wx=>∃b8,s8=pV b8/\Hid (Blk wx b8 150 [iZ,iV A.today,iZ,iV c.d,iZ])/\Hid (W1.heap.size<=b8)/\Hid (BW W1 wx))
  case first =>
   exact zq287b32
  case rest =>
   clear c7 kg d3 kdx;obtain ⟨b8,rfl,HB8,HG8,HW8⟩:=hcut
   have K1:Hid (EvW w base gb L c dv b b8 [iZ,iV A.today,iZ,iV c.d,iZ] wc) :=
    ⟨HBC1.out.below HW8.out,HBE1.out.below HW8.out,HB8.out,by have h1:=HG8.out;have h2:=HZ1.out;omega,HV.out.below (yad HBW1.out HW8.out),⟨HS1.out.below.trans (HW8.out.mono (Nat.le_trans HBS.out HS1.out.keep.size)),HS1.out.keep.below HW8.out⟩⟩
   have hE2:=hE.out;unfold yfz at hE2;have HE2:=lh hE2;clear hE2
   by_cases hk2:c.a=2
   ·exact zq285ffc
   ·have k2:(c.a != 2)=true:=by simpa using hk2
    obtain ⟨d0,d1,d2,d3,-⟩:=K1.out.bc.cs [0,1,2,3];simp only [gz,gs] at d0 d1 d2 d3;have kdx:=K1.out.bc.lt;obtain ⟨e0,e1,e2,e3,e4,-⟩:=K1.out.bl.cs [0,1,2,3,4];simp only [gz,gs] at e0 e1 e2 e3 e4;obtain ⟨ef0,ef1,ef2,ef3,ef4,-⟩:=K1.out.bl.fs [0,1,2,3,4];have k8:=K1.out.bl.lt;obtain ⟨r0,r1,r2,r3,r4,-⟩:=K1.out.be.cs [0,1,2,3,4];simp only [gz,gs] at r0 r1 r2 r3 r4;obtain ⟨rf0,rf1,rf2,rf3,rf4,-⟩:=K1.out.be.fs [0,1,2,3,4];have krx:=K1.out.be.lt;obtain ⟨tr,htr⟩:∃tr,decide (1<=c.c/\c.c<=(A.t.ts.length:Int))=tr:=⟨_,rfl⟩
    have HTRI:Hid (tr=true↔1<=c.c/\c.c<=(A.t.ts.length:Int)):= by
     show _↔_;rw [<-htr];exact decide_eq_true_iff
    clear htr;go_upto_region 5 with fail
    obtain ⟨W2,hW,K2⟩:∃W,wc.setCell (Ad b8 2) (iV c.c)=W/\Hid (EvW w base gb L c dv b b8 [iZ,iV A.today,iV c.c,iV c.d,iZ] W):=⟨_,rfl,(K1.out.set HBS.out (hLl.out _ hL.out.1) 2 (iV c.c))⟩
    with_reducible rw [hW]
    clear hW;clear d0 d1 d2 d3 kdx;clear e0 e1 e2 e3 e4 ef0 ef1 ef2 ef3 ef4 k8 r0 r1 r2 r3 r4 rf0 rf1 rf2 rf3 rf4 krx;obtain ⟨d0,d1,d2,d3,-⟩:=K2.out.bc.cs [0,1,2,3];simp only [gz,gs] at d0 d1 d2 d3;have kdx:=K2.out.bc.lt
    go_wp2_with fail
    refine (yeu lo g A F V c.c tr HTRI _ (h.out _ K2.out.st.below)).mono ?_;rintro _ w3 ⟨rfl,hb3⟩;have K3:=lh (K2.out.below hb3 HBS.out);clear hb3;clear d0 d1 d2 d3 kdx;obtain ⟨d0,d1,d2,d3,-⟩:=K3.out.bc.cs [0,1,2,3];simp only [gz,gs] at d0 d1 d2 d3;have kdx:=K3.out.bc.lt;cases tr with
    | false =>
     exact zq28ec00
    | true =>
     have HTR:=lh (HTRI.out.1 rfl);clear HTRI
     by_cases hk7:c.a=7
     ·exact zq28a241
     ·have hk2':(c.a == 2)=false:=by simpa using hk2
      have k7:(c.a == 7)=false:=by simpa using hk7
      by_cases am1:c.d<1
      ·go_wp2_with fail
       obtain rfl:8=E:= by
        exact zq286637
       exact zq282b2d
      ·by_cases am2:1000000000000000<c.d
       ·go_wp2_with fail
        obtain rfl:8=E:= by
         exact zq286637
        exact zq282b2d
       ·have HAM:Hid (¬(c.a=7/\(c.d<0\/10000000<c.d)\/c.a≠7/\(c.d<1\/1000000000000000<c.d))):=(fun h=>by rcases h with h | h <;> omega)
        by_cases hk1:c.a=1
        ·have hk1':(c.a == 1)=true:=by simpa using hk1
         have HA3:=lh (h.out _ K3.out.st.below);obtain ⟨po,pc,hpv⟩:∃po pc,V.pv=.slice po A.R.p.bs.length pc:=HA3.out.rd.now.2.2.2.1.shape;have a0:w3.cell? (Ad g 0)=some (iV A.t.lim):=HA3.out.blk.cell 0;have a11:w3.cell? (Ad g 11)=some (.slice po A.R.p.bs.length pc):=hpv▸HA3.out.blk.cell 11;have a12:w3.cell? (Ad g 12)=some (iV A.R.p.c):=HA3.out.blk.cell 12;have a13:w3.cell? (Ad g 13)=some (iV A.R.p.d):=HA3.out.blk.cell 13;have kg:=HA3.out.blk.lt;have HSP:Hid (Sl .i64 w3 (.slice po A.R.p.bs.length pc) A.R.p.bs):=hpv▸HA3.out.rd.now.2.2.2.1;obtain ⟨T,hT⟩:∃T,yb4 A.R.p.bs A.R.p.c A.R.p.d=T:=⟨_,rfl⟩;have HT:=lh hT;have hlen8:A.R.p.bs.length<=1000000:=by have h1:=hbs.out;omega
         clear hT hpv
         have HS:Hid (∀W',BW w3 W'->Ce W' g 0 (iV A.t.lim)/\Ce W' g 11 (.slice po A.R.p.bs.length pc)/\Ce W' g 12 (iV A.R.p.c)/\Ce W' g 13 (iV A.R.p.d)/\Ce W' w.heap.size 3 (iV c.d)):=fun W' hb=>by
          have q:=HA3.out.blk.below hb;have q2:=K3.out.bc.below hb;exact ⟨q.cell 0,(q.cell 11).trans (by rw [<-a11];exact (HA3.out.blk.cell 11).symm),q.cell 12,q.cell 13,q2.cell 3⟩
         have hs0:=HS.out w3 bR;have hsd:=HS.out w3.drew (yaf bR);obtain ⟨lm,hlm⟩:∃q,decide (A.t.lim<wrap64 (wrap64 (T-A.R.p.c)+c.d))=q:=⟨_,rfl⟩;have HLM:=lh hlm;clear hlm;go_upto_region 13 with fail
         go_cut [70] (fun s70 wx=>s70=.bool lm/\Hid (BW w3 wx))
         case first =>
          go_region_held3 (fun W'=>Ce W' g 0 (iV A.t.lim)/\Ce W' g 11 (.slice po A.R.p.bs.length pc)/\Ce W' g 12 (iV A.R.p.c)/\Ce W' g 13 (iV A.R.p.d)/\Ce W' w.heap.size 3 (iV c.d)) (first | with_reducible exact hs0 | with_reducible exact hsd | exact HS5.out) (first | (go_at_call 111;refine (yhv _ A.R.p.bs A.R.p.c A.R.p.d T HT hlen8 _ (HSP.out.below (by first | exact bR | exact yaf bR))).mono ?_;rintro _ w4 ⟨rfl,hb4⟩;have HB4:Hid (BW w3 w4):=(by first | exact hb4 | exact yad (yaf bR) hb4);have HS5:=lh (HS.out _ HB4.out);have K4:=lh (K3.out.below HB4.out HBS.out);clear hb4))
          go_wp2_with fail
          go_meet
          case rel=>exact ⟨by rw [<-HLM.out,IntWalk.i64_left,IntWalk.i64_left],HB4.out⟩
         case rest =>
          obtain ⟨rfl,HB4⟩:=hcut;have K4:=lh (K3.out.below HB4.out HBS.out);clear hs0 hsd a0 a11 a12 a13 d0 d1 d2 d3 kg kdx;cases lm with
          | true =>
           have hlm:A.t.lim<wrap64 (wrap64 (T-A.R.p.c)+c.d):=of_decide_eq_true HLM.out;have HL2:=lh hlm;clear hlm
           go_wp2_with fail
           obtain rfl:9=E:= by
            have h9:=HE2.out;rw [if_neg (fun h=>h.2 HTR.out),if_neg HAM.out,if_pos hk1,HT.out,if_pos HL2.out] at h9;exact h9
           exact zq28cd20
          | false =>
           have hlm:¬A.t.lim<wrap64 (wrap64 (T-A.R.p.c)+c.d):=of_decide_eq_false HLM.out;have HL2:=lh hlm;clear hlm
           obtain rfl:0=E:= by
            have h9:=HE2.out;rw [if_neg (fun h=>h.2 HTR.out),if_neg HAM.out,if_pos hk1,HT.out,if_neg HL2.out] at h9;exact h9
           have HXX:(⟨1,A.today,c.c,c.d,0⟩:R5)=x:= by
            rw [<-hx.out];unfold evEv;rw [if_neg (by rw [hE.out];simp)];rw [if_pos hk1]
           have hbk:b=B':=by rw [<-hB'.out];unfold evBk;rw [if_neg (fun h=>by have:=h.2;omega)]
           subst hbk;obtain ⟨e0,e1,e2,e3,e4,-⟩:=K4.out.bl.cs [0,1,2,3,4];simp only [gz,gs] at e0 e1 e2 e3 e4;obtain ⟨ef0,ef1,ef2,ef3,ef4,-⟩:=K4.out.bl.fs [0,1,2,3,4];have k8:=K4.out.bl.lt;obtain ⟨r0,r1,r2,r3,r4,-⟩:=K4.out.be.cs [0,1,2,3,4];simp only [gz,gs] at r0 r1 r2 r3 r4;obtain ⟨rf0,rf1,rf2,rf3,rf4,-⟩:=K4.out.be.fs [0,1,2,3,4];have krx:=K4.out.be.lt;go_upto_region 31 with fail
           obtain ⟨W5,hW,K5⟩:∃W,wc.setCell (Ad b8 0) (iV 1)=W/\Hid (EvW w base gb L c dv b b8 [iV 1,iV A.today,iV c.c,iV c.d,iZ] W):=⟨_,rfl,(K4.out.set HBS.out (hLl.out _ hL.out.1) 0 (iV 1))⟩
           with_reducible rw [hW]
           clear hW;clear e0 e1 e2 e3 e4 ef0 ef1 ef2 ef3 ef4 k8 r0 r1 r2 r3 r4 rf0 rf1 rf2 rf3 rf4 krx;obtain ⟨e0,e1,e2,e3,e4,-⟩:=K5.out.bl.cs [0,1,2,3,4];simp only [gz,gs] at e0 e1 e2 e3 e4;obtain ⟨ef0,ef1,ef2,ef3,ef4,-⟩:=K5.out.bl.fs [0,1,2,3,4];have k8:=K5.out.bl.lt;obtain ⟨r0,r1,r2,r3,r4,-⟩:=K5.out.be.cs [0,1,2,3,4];simp only [gz,gs] at r0 r1 r2 r3 r4;obtain ⟨rf0,rf1,rf2,rf3,rf4,-⟩:=K5.out.be.fs [0,1,2,3,4];have krx:=K5.out.be.lt
           go_wp2_with fail
           have hf:=(((((K5.out.be.set 0 (iV (1))).set 1 (iV (A.today))).set 2 (iV (c.c))).set 3 (iV (c.d))).set 4 (iV (0)));have q0:World.cell? _ (Ad (w.heap.size+1) 0)=some (iV (1)):=hf.cell 0;have q1:World.cell? _ (Ad (w.heap.size+1) 1)=some (iV (A.today)):=hf.cell 1;have q2:World.cell? _ (Ad (w.heap.size+1) 2)=some (iV (c.c)):=hf.cell 2;have q3:World.cell? _ (Ad (w.heap.size+1) 3)=some (iV (c.d)):=hf.cell 3;have q4:World.cell? _ (Ad (w.heap.size+1) 4)=some (iV (0)):=hf.cell 4;refine bodyPost_ret (v:=.tuple #[.agg #[iV (1),iV (A.today),iV (c.c),iV (c.d),iV (0)],iZ]) (by simp [results,Tryz.results65,go_sem,q0,q1,q2,q3,q4]) rfl ⟨_,?_,ycf (by repeat (first | with_reducible exact yab.refl _ _ | with_reducible refine yab.alloc ?_ _ | with_reducible refine yab.drew ?_ | with_reducible refine yab.setCell ?_ (.inl (List.mem_cons_self ..)) _)) K5.out.bk K5.out.st K5.out.be HBS.out (hLl.out _ hL.out.1)⟩;rw [<-HXX]
        ·have hk1':(c.a == 1)=false:=by simpa using hk1
         by_cases hk3:c.a=3
         ·have hk3':(c.a == 3)=true:=by simpa using hk3
          have HA3:=lh (h.out _ K3.out.st.below);have a6:w3.cell? (Ad g 6)=some (iV A.t.start):=HA3.out.blk.cell 6;have a7:w3.cell? (Ad g 7)=some (iV A.today):=HA3.out.blk.cell 7;have kg:=HA3.out.blk.lt;have hk1n:¬c.a=1:=by omega
          by_cases hd1:c.b<A.t.start
          ·have hd1':decide (c.b<A.t.start)=true:=by simpa using hd1
           go_upto_region 19 with fail
           go_quiet (fail)
           go_wp2_with fail
           obtain rfl:10=E:= by
            have h9:=HE2.out;rw [if_neg (fun h=>h.2 HTR.out),if_neg HAM.out,if_neg hk1n,if_pos hk3,if_pos (.inl hd1)] at h9;exact h9
           exact zq288318
          ·have hd1':decide (c.b<A.t.start)=false:=decide_eq_false hd1
           by_cases hd2:A.today<c.b
           ·go_upto_region 19 with fail
            go_quiet (fail)
            go_wp2_with fail
            obtain rfl:10=E:= by
             have h9:=HE2.out;rw [if_neg (fun h=>h.2 HTR.out),if_neg HAM.out,if_neg hk1n,if_pos hk3,if_pos (.inr hd2)] at h9;exact h9
            exact zq288318
           ·obtain ⟨od,hod⟩:∃od,decide (oldS A c.b)=od:=⟨_,rfl⟩
            have HOD:Hid (od=true↔oldS A c.b):= by
             show _↔_;rw [<-hod];exact decide_eq_true_iff
            clear hod;go_upto_region 19 with fail
            go_quiet (fail)
            obtain ⟨wq,hwq,HBQ⟩:∃wq,w3.drewN nq=wq/\Hid (BW w3 wq):=⟨_,rfl,yfn bR _⟩;try with_reducible rw [hwq]
            clear hwq a6 a7 kg d0 d1 d2 d3 kdx;have KQ:=lh (K3.out.below HBQ.out HBS.out);obtain ⟨d0,d1,d2,d3,-⟩:=KQ.out.bc.cs [0,1,2,3];simp only [gz,gs] at d0 d1 d2 d3;have kdx:=KQ.out.bc.lt
            go_wp2_with fail
            refine (yk7 lo g A F V c.b od HOD _ (h.out _ KQ.out.st.below)).mono ?_;rintro _ w4 ⟨rfl,hb4⟩;have K4:=lh (KQ.out.below hb4 HBS.out);clear hb4 d0 d1 d2 d3 kdx;cases od with
            | true =>
             have hold:=HOD.out.1 rfl
             go_wp2_with fail
             obtain rfl:11=E:= by
              have h9:=HE2.out;rw [if_neg (fun h=>h.2 HTR.out),if_neg HAM.out,if_neg hk1n,if_pos hk3,if_neg (fun h=>by rcases h with h | h <;> omega),if_pos hold] at h9
              exact h9
             exact zq28cd20
            | false =>
             have hold:¬oldS A c.b:=fun hh=>by have:=HOD.out.2 hh;cases this
             have HOLD:=lh hold;clear hold
             obtain rfl:0=E:= by
              have h9:=HE2.out;rw [if_neg (fun h=>h.2 HTR.out),if_neg HAM.out,if_neg hk1n,if_pos hk3,if_neg (fun h=>by rcases h with h | h <;> omega),if_neg HOLD.out] at h9
              exact h9
             have HXX:(⟨3,c.b,c.c,c.d,0⟩:R5)=x:= by
              rw [<-hx.out];unfold evEv;rw [if_neg (by rw [hE.out];simp)];rw [if_neg hk1n,if_neg hk2,if_pos hk3]
             have hbk:b=B':=by rw [<-hB'.out];unfold evBk;rw [if_neg (fun h=>by have:=h.2;omega)]
             subst hbk;have d1:=K4.out.bc.cell 1;simp only [gz,gs] at d1;have kdx:=K4.out.bc.lt;obtain ⟨e0,e1,e2,e3,e4,-⟩:=K4.out.bl.cs [0,1,2,3,4];simp only [gz,gs] at e0 e1 e2 e3 e4;obtain ⟨ef0,ef1,ef2,ef3,ef4,-⟩:=K4.out.bl.fs [0,1,2,3,4];have k8:=K4.out.bl.lt;obtain ⟨r0,r1,r2,r3,r4,-⟩:=K4.out.be.cs [0,1,2,3,4];simp only [gz,gs] at r0 r1 r2 r3 r4;obtain ⟨rf0,rf1,rf2,rf3,rf4,-⟩:=K4.out.be.fs [0,1,2,3,4];have krx:=K4.out.be.lt;go_upto_region 22 with fail
             go_region
             obtain ⟨W5,hW,K5⟩:∃W,((w4.setCell (Ad b8 0) (iV 3)).setCell (Ad b8 1) (iV c.b)).drew=W/\Hid (EvW w base gb L c dv b b8 [iV 3,iV c.b,iV c.c,iV c.d,iZ] W):=⟨_,rfl,EvW.below (EvW.set (K4.out.set HBS.out (hLl.out _ hL.out.1) 0 (iV 3)) HBS.out (hLl.out _ hL.out.1) 1 (iV c.b)) (yaf bR) HBS.out⟩
             with_reducible rw [hW]
             clear hW;clear d1 kdx;clear e0 e1 e2 e3 e4 ef0 ef1 ef2 ef3 ef4 k8 r0 r1 r2 r3 r4 rf0 rf1 rf2 rf3 rf4 krx;obtain ⟨e0,e1,e2,e3,e4,-⟩:=K5.out.bl.cs [0,1,2,3,4];simp only [gz,gs] at e0 e1 e2 e3 e4;obtain ⟨ef0,ef1,ef2,ef3,ef4,-⟩:=K5.out.bl.fs [0,1,2,3,4];have k8:=K5.out.bl.lt;obtain ⟨r0,r1,r2,r3,r4,-⟩:=K5.out.be.cs [0,1,2,3,4];simp only [gz,gs] at r0 r1 r2 r3 r4;obtain ⟨rf0,rf1,rf2,rf3,rf4,-⟩:=K5.out.be.fs [0,1,2,3,4];have krx:=K5.out.be.lt
             go_wp2_with fail
             have hf:=(((((K5.out.be.set 0 (iV (3))).set 1 (iV (c.b))).set 2 (iV (c.c))).set 3 (iV (c.d))).set 4 (iV (0)));have q0:World.cell? _ (Ad (w.heap.size+1) 0)=some (iV (3)):=hf.cell 0;have q1:World.cell? _ (Ad (w.heap.size+1) 1)=some (iV (c.b)):=hf.cell 1;have q2:World.cell? _ (Ad (w.heap.size+1) 2)=some (iV (c.c)):=hf.cell 2;have q3:World.cell? _ (Ad (w.heap.size+1) 3)=some (iV (c.d)):=hf.cell 3;have q4:World.cell? _ (Ad (w.heap.size+1) 4)=some (iV (0)):=hf.cell 4;refine bodyPost_ret (v:=.tuple #[.agg #[iV (3),iV (c.b),iV (c.c),iV (c.d),iV (0)],iZ]) (by simp [results,Tryz.results65,go_sem,q0,q1,q2,q3,q4]) rfl ⟨_,?_,ycf (by repeat (first | with_reducible exact yab.refl _ _ | with_reducible refine yab.alloc ?_ _ | with_reducible refine yab.drew ?_ | with_reducible refine yab.setCell ?_ (.inl (List.mem_cons_self ..)) _)) K5.out.bk K5.out.st K5.out.be HBS.out (hLl.out _ hL.out.1)⟩;rw [<-HXX]
         ·have hk3':(c.a == 3)=false:=by simpa using hk3
          have hk4:c.a=4:=by have:=HKK.out;omega
          have hk4':(c.a == 4)=true:=by simpa using hk4
          exact absurd HKK.out om
theorem ym4 (lo g base gb:Nat) (A:Acc) (F:List Nat) (V:AV) (dv:Value) (b:Bk) (c:R5) (hk:c.a=4) (x:R5) (hx:Hid (evEv A b c=x)) (E:Int) (hE:Hid (yfz A b c=E)) (B':Bk) (hB':Hid (evBk A b c=B')) (hbs:Hid (A.R.p.bs.length=A.t.ts.length/\A.t.ts.length<=1000)) (L:List Nat) (hL:Hid (gb∈L/\∀q,dv.ownBlock=some q->q∈L)) (w:World) (hLl:Hid (∀y∈L,y<w.heap.size)) (hb:base<=w.heap.size) (hv:ya6 w base gb dv b) (h:Hid (∀W,Below base w W->ybe lo g A F W V)) :
 Calls Tryz.prog 65 #[pV g,.agg #[iV c.a,iV c.b,iV c.c,iV c.d,iV c.e],pV gb] w (yn4 x E base gb B' L w):= by
 have HV:=lh hv;have HBS:=lh hb;have HA0:=lh (h.out w bR);have c7:w.cell? (Ad g 7)=some (iV A.today):=HA0.out.blk.cell 7;have kg:=HA0.out.blk.lt;have HKK:=lh hk;clear hv hb hk
 go_enter Tryz.func65,Tryz.ntmps65
 go_wp2_with fail
 refine yai 0 (fun a' w'=>∃(u0 u1 u2 u3 u4 u5 u7 u8 u10 u11 u12 u13 u14 u15 u16 u17 u18 u19 u20 u21 u22 u23 u24 u25 u26 u27 u28 u29 u30 u31 u32 u33 u34 u35 u36 u37 u38 u39 u40 u41 u42 u43 u44 u45 u46 u47 u48 u49 u50 u51 u52 u53 u54 u55 u56 u57 u58 u59 u60 u61 u62 u63 u64 u65 u66 u67 u68 u69 u70 u71 u72 u73 u74 u75 u76 u77 u78 u79 u80 u81 u82 u83 u84 u85 u86 u87 u88 u89 u90 u91 u92 u93 u94 u95 u96 u97 u98 u99 u100 u101 u102 u103 u104 u105 u106 u107 u108 u109 u110 u111 u112 u113 u114 u115 u116 u117 u118 u119 u120 u121 u122 u123 u124 u125 u126 u127 u128 u129 u130 u131 u132 u133 u134 u135 u136 u137 u138 u139:Value),a'={ tmps:=#[u0,u1,u2,u3,u4,u5,pV (w.heap.size+1),u7,u8,iV E,u10,u11,u12,u13,u14,u15,u16,u17,u18,u19,u20,u21,u22,u23,u24,u25,u26,u27,u28,u29,u30,u31,u32,u33,u34,u35,u36,u37,u38,u39,u40,u41,u42,u43,u44,u45,u46,u47,u48,u49,u50,u51,u52,u53,u54,u55,u56,u57,u58,u59,u60,u61,u62,u63,u64,u65,u66,u67,u68,u69,u70,u71,u72,u73,u74,u75,u76,u77,u78,u79,u80,u81,u82,u83,u84,u85,u86,u87,u88,u89,u90,u91,u92,u93,u94,u95,u96,u97,u98,u99,u100,u101,u102,u103,u104,u105,u106,u107,u108,u109,u110,u111,u112,u113,u114,u115,u116,u117,u118,u119,u120,u121,u122,u123,u124,u125,u126,u127,u128,u129,u130,u131,u132,u133,u134,u135,u136,u137,u138,u139],defers:=[] }/\Hid (x=yax)/\Hid (Blk w' (w.heap.size+1) 150 [iZ,iZ,iZ,iZ,iZ])/\Hid (∃dv',ya6 w' base gb dv' B')/\Hid (DStp base L w w'))
  (fun _ _=>0) rfl ?pass ?first
 case pass =>
  exact zq280e9c
 case first =>
  intro J' hJJ hrest;have HJ:=lh hJJ;clear hJJ hrest;go_upto_region 1 with fail
  obtain ⟨W1,hW1,HBC1,HBE1,HS1,HZ1,HBW1⟩:∃W1,((w.alloc (.cells #[iV c.a,iV c.b,iV c.c,iV c.d,iV c.e] 48)).alloc (.cells #[iZ,iZ,iZ,iZ,iZ] 150))=W1/\Hid (Blk W1 w.heap.size 48 [iV c.a,iV c.b,iV c.c,iV c.d,iV c.e])/\Hid (Blk W1 (w.heap.size+1) 150 [iZ,iZ,iZ,iZ,iZ])/\Hid (DStp base L w W1)/\Hid (W1.heap.size=w.heap.size+2)/\Hid (BW w W1) :=
   ⟨_,rfl,(yae w _ _ _ rfl).below (yaa bR _),ybc _ _ _ _ (World.size_alloc _ _),⟨((Below.refl base w).alloc HBS.out _).alloc (by rw [World.size_alloc];have:=HBS.out;omega) _,((yab.refl _ _).alloc _).alloc _⟩,(show _=_ by simp only [World.size_alloc]),yaa (yaa bR _) _⟩
  with_reducible rw [hW1]
  clear hW1 c7 kg;have HA1:=lh (h.out _ HS1.out.below);have c7:W1.cell? (Ad g 7)=some (iV A.today):=HA1.out.blk.cell 7;have kg:=HA1.out.blk.lt;have d3:W1.cell? (Ad w.heap.size 3)=some (iV c.d):=HBC1.out.cell 3;have kdx:=HBC1.out.lt
  go_cut [8] (fun s8 wx=>∃b8,s8=pV b8/\Hid (Blk wx b8 150 [iZ,iV A.today,iZ,iV c.d,iZ])/\Hid (W1.heap.size<=b8)/\Hid (BW W1 wx))
  case first =>
   exact zq287b32
  case rest =>
   clear c7 kg d3 kdx;obtain ⟨b8,rfl,HB8,HG8,HW8⟩:=hcut
   have K1:Hid (EvW w base gb L c dv b b8 [iZ,iV A.today,iZ,iV c.d,iZ] wc) :=
    ⟨HBC1.out.below HW8.out,HBE1.out.below HW8.out,HB8.out,by have h1:=HG8.out;have h2:=HZ1.out;omega,HV.out.below (yad HBW1.out HW8.out),⟨HS1.out.below.trans (HW8.out.mono (Nat.le_trans HBS.out HS1.out.keep.size)),HS1.out.keep.below HW8.out⟩⟩
   have hE2:=hE.out;unfold yfz at hE2;have HE2:=lh hE2;clear hE2
   by_cases hk2:c.a=2
   ·exact zq285ffc
   ·have k2:(c.a != 2)=true:=by simpa using hk2
    obtain ⟨d0,d1,d2,d3,-⟩:=K1.out.bc.cs [0,1,2,3];simp only [gz,gs] at d0 d1 d2 d3;have kdx:=K1.out.bc.lt;obtain ⟨e0,e1,e2,e3,e4,-⟩:=K1.out.bl.cs [0,1,2,3,4];simp only [gz,gs] at e0 e1 e2 e3 e4;obtain ⟨ef0,ef1,ef2,ef3,ef4,-⟩:=K1.out.bl.fs [0,1,2,3,4];have k8:=K1.out.bl.lt;obtain ⟨r0,r1,r2,r3,r4,-⟩:=K1.out.be.cs [0,1,2,3,4];simp only [gz,gs] at r0 r1 r2 r3 r4;obtain ⟨rf0,rf1,rf2,rf3,rf4,-⟩:=K1.out.be.fs [0,1,2,3,4];have krx:=K1.out.be.lt;obtain ⟨tr,htr⟩:∃tr,decide (1<=c.c/\c.c<=(A.t.ts.length:Int))=tr:=⟨_,rfl⟩
    have HTRI:Hid (tr=true↔1<=c.c/\c.c<=(A.t.ts.length:Int)):= by
     show _↔_;rw [<-htr];exact decide_eq_true_iff
    clear htr;go_upto_region 5 with fail
    obtain ⟨W2,hW,K2⟩:∃W,wc.setCell (Ad b8 2) (iV c.c)=W/\Hid (EvW w base gb L c dv b b8 [iZ,iV A.today,iV c.c,iV c.d,iZ] W):=⟨_,rfl,(K1.out.set HBS.out (hLl.out _ hL.out.1) 2 (iV c.c))⟩
    with_reducible rw [hW]
    clear hW;clear d0 d1 d2 d3 kdx;clear e0 e1 e2 e3 e4 ef0 ef1 ef2 ef3 ef4 k8 r0 r1 r2 r3 r4 rf0 rf1 rf2 rf3 rf4 krx;obtain ⟨d0,d1,d2,d3,-⟩:=K2.out.bc.cs [0,1,2,3];simp only [gz,gs] at d0 d1 d2 d3;have kdx:=K2.out.bc.lt
    go_wp2_with fail
    refine (yeu lo g A F V c.c tr HTRI _ (h.out _ K2.out.st.below)).mono ?_;rintro _ w3 ⟨rfl,hb3⟩;have K3:=lh (K2.out.below hb3 HBS.out);clear hb3;clear d0 d1 d2 d3 kdx;obtain ⟨d0,d1,d2,d3,-⟩:=K3.out.bc.cs [0,1,2,3];simp only [gz,gs] at d0 d1 d2 d3;have kdx:=K3.out.bc.lt;cases tr with
    | false =>
     exact zq28ec00
    | true =>
     have HTR:=lh (HTRI.out.1 rfl);clear HTRI
     by_cases hk7:c.a=7
     ·exact zq28a241
     ·have hk2':(c.a == 2)=false:=by simpa using hk2
      have k7:(c.a == 7)=false:=by simpa using hk7
      by_cases am1:c.d<1
      ·go_wp2_with fail
       obtain rfl:8=E:= by
        exact zq286637
       exact zq282b2d
      ·by_cases am2:1000000000000000<c.d
       ·go_wp2_with fail
        obtain rfl:8=E:= by
         exact zq286637
        exact zq282b2d
       ·have HAM:Hid (¬(c.a=7/\(c.d<0\/10000000<c.d)\/c.a≠7/\(c.d<1\/1000000000000000<c.d))):=(fun h=>by rcases h with h | h <;> omega)
        by_cases hk1:c.a=1
        ·have hk1':(c.a == 1)=true:=by simpa using hk1
         exact absurd HKK.out om
        ·have hk1':(c.a == 1)=false:=by simpa using hk1
         by_cases hk3:c.a=3
         ·have hk3':(c.a == 3)=true:=by simpa using hk3
          exact absurd HKK.out om
         ·have hk3':(c.a == 3)=false:=by simpa using hk3
          have hk4:c.a=4:=by have:=HKK.out;omega
          have hk4':(c.a == 4)=true:=by simpa using hk4
          have HA3:=lh (h.out _ K3.out.st.below);have kg:=HA3.out.blk.lt;have hk1n:¬c.a=1:=by omega
          have hk3n:¬c.a=3:=by omega
          obtain ⟨ao,pc,e,p1,p2,p3⟩:=HA3.out.rd.now.2.2.2.1;obtain ⟨k,hkc⟩:∃k:Nat,c.c=(k:Int)+1:=⟨(c.c-1).toNat,by have:=HTR.out;omega⟩;have hkl:k<A.R.p.bs.length:=by have h1:=hbs.out;have h2:=HTR.out;omega
          obtain ⟨pb,po,rfl,p4⟩:=p3 (List.length_pos_iff.1 om);have HKC:=lh hkc;obtain ⟨y,hy⟩:∃y,A.R.p.bs.getD k 0=y:=⟨_,rfl⟩;have HY:=lh hy;have hck:=p4 k hkl;rw [hy] at hck;obtain ⟨n,hn⟩:∃n,A.R.p.bs.length=n:=⟨_,rfl⟩;have a11:w3.cell? (Ad g 11)=some (.slice (some (Ad pb po)) n pc):=by rw [<-hn,<-e];exact HA3.out.blk.cell 11
          have hkn:k<n:=by omega
          have hkw:IntKind.i64.wrap (c.c-1)=(k:Int):= by
           rw [IntWalk.i64_left,IntWalk.wrap64_in _ ⟨by omega,by have h1:=hbs.out;omega⟩];omega
          have hkw2:wrap64 (c.c-1)=(k:Int):=by rw [<-IntWalk.i64_left];exact hkw
          have hkn2:(k:Int)<(n:Int):=by omega
          have hKB:n<=1000:=by have h1:=hbs.out;omega
          clear hn hy p4 hkl hkc e p1 p2 p3;obtain ⟨Eo,hEo⟩:∃q,yd6 b c.c c.d=q:=⟨_,rfl⟩;obtain ⟨r,hr⟩:∃q,yh6 b c.c c.d=q:=⟨_,rfl⟩;have HOE:=lh hEo;have HOR:=lh hr;clear hEo hr
          by_cases hlb:y<c.d
          ·have hlb':decide (y<c.d)=true:=by simpa using hlb
           go_upto_region 25 with fail
           go_quiet (fail)
           go_wp2_with fail
           obtain rfl:9=E:= by
            have h9:=HE2.out;rw [if_neg (fun h=>h.2 HTR.out),if_neg HAM.out,if_neg hk1n,if_neg hk3n,if_pos hk4,show (c.c-1).toNat=k from by have:=HKC.out;omega,HY.out,if_pos hlb] at h9;exact h9
           exact zq288318
          ·have hlb':decide (y<c.d)=false:=decide_eq_false hlb
           have HLB:=lh hlb;go_upto_region 25 with fail
           go_quiet (fail)
           obtain ⟨wq,hwq,HBQ⟩:∃wq,w3.drewN nq=wq/\Hid (BW w3 wq):=⟨_,rfl,yfn bR _⟩;try with_reducible rw [hwq]
           clear hwq a11 hck hkw hkw2 kg d0 d1 d2 d3 kdx;have KQ:=lh (K3.out.below HBQ.out HBS.out);have HAQ:=lh (h.out _ KQ.out.st.below);have a7:wq.cell? (Ad g 7)=some (iV A.today):=HAQ.out.blk.cell 7;have kg:=HAQ.out.blk.lt;obtain ⟨d2,d3,-⟩:=KQ.out.bc.cs [2,3];simp only [gz,gs] at d2 d3;have kdx:=KQ.out.bc.lt
           have hs0:wq.drew.cell? (Ad w.heap.size 2)=some (iV c.c)/\wq.drew.cell? (Ad w.heap.size 3)=some (iV c.d)/\wq.drew.cell? (Ad g 7)=some (iV A.today):= by
            have q:=KQ.out.below (yaf bR) HBS.out;exact ⟨q.bc.cell 2,q.bc.cell 3,(h.out _ q.st.below).blk.cell 7⟩
           go_upto_region 26 with fail
           refine yan (fun W'=>Ce W' w.heap.size 2 (iV c.c)/\Ce W' w.heap.size 3 (iV c.d)/\Ce W' g 7 (iV A.today)) 13 kr ?_;refine tK 0 rfl ?_;refine tK 1 rfl ?_;refine tK 2 rfl ?_;refine tK 3 rfl ?_;refine tK 4 rfl ?_;refine tK 5 rfl ?_;refine tK 6 rfl ?_;refine tK 7 rfl ?_;refine tK 8 rfl ?_;refine wo 9 kr rfl fun K hK=>?_;go_simp;refine (yon base gb dv b c.c A.today c.d _ (KQ.out.below (yaf bR) HBS.out).bk (Nat.le_trans HBS.out (KQ.out.below (yaf bR) HBS.out).st.keep.size) L hL).mono ?_;rintro _ w5 ⟨dv5,rfl,hv5,hs5⟩;rw [HOE.out,HOR.out];have K5:=lh ((KQ.out.below (yaf bR) HBS.out).open' hs5 hv5 hLl.out);have HA5:=lh (h.out _ K5.out.st.below);have hs5:w5.cell? (Ad w.heap.size 2)=some (iV c.c)/\w5.cell? (Ad w.heap.size 3)=some (iV c.d)/\w5.cell? (Ad g 7)=some (iV A.today):=⟨K5.out.bc.cell 2,K5.out.bc.cell 3,HA5.out.blk.cell 7⟩;clear hv5;obtain ⟨e0,e1,e2,e3,e4,-⟩:=K5.out.bl.cs [0,1,2,3,4];simp only [gz,gs] at e0 e1 e2 e3 e4;obtain ⟨ef0,ef1,ef2,ef3,ef4,-⟩:=K5.out.bl.fs [0,1,2,3,4];have k8:=K5.out.bl.lt;obtain ⟨r0,r1,r2,r3,r4,-⟩:=K5.out.be.cs [0,1,2,3,4];simp only [gz,gs] at r0 r1 r2 r3 r4;obtain ⟨rf0,rf1,rf2,rf3,rf4,-⟩:=K5.out.be.fs [0,1,2,3,4];have krx:=K5.out.be.lt;refine hK.out _ _ (fun hun=>hs5) ?_;clear hK K;try simp only [ap,aq,sa,sb,sc]
           refine tF 10 rfl ?_ (hS:=hs5);refine tF 11 rfl ?_ (hS:=hs5);refine tF 12 rfl ?_ (hS:=hs5);refine wo 13 kr rfl fun K hK=>?_;go_simp;refine hK.out _ _ kd ?_;clear hK K;try simp only [ap,aq,sa,sb,sc]
           refine wo 14 kr rfl fun K hK=>?_;go_simp;refine hK.out _ _ kd ?_;clear hK K;try simp only [ap,aq,sa,sb,sc]
           refine wo 15 kr rfl fun K hK=>?_;go_simp;refine hK.out _ _ kd ?_;clear hK K;try simp only [ap,aq,sa,sb,sc]
           refine yal kr ?_ _;clear hs0 hs5;obtain ⟨W6,hW,KS⟩:∃W,w5.setCell (Ad b8 4) (iV r)=W/\Hid (EvW w base gb L c dv5 (yfp b c.c A.today c.d) b8 [iZ,iV A.today,iV c.c,iV c.d,iV r] W):=⟨_,rfl,K5.out.set HBS.out (hLl.out _ hL.out.1) 4 (iV r)⟩
           with_reducible rw [hW]
           clear hW
           by_cases hEz:Eo=0
           ·subst hEz
            clear a7 kg d2 d3 kdx;clear e0 e1 e2 e3 e4 ef0 ef1 ef2 ef3 ef4 k8 r0 r1 r2 r3 r4 rf0 rf1 rf2 rf3 rf4 krx;obtain ⟨e0,e1,e2,e3,e4,-⟩:=KS.out.bl.cs [0,1,2,3,4];simp only [gz,gs] at e0 e1 e2 e3 e4;obtain ⟨ef0,ef1,ef2,ef3,ef4,-⟩:=KS.out.bl.fs [0,1,2,3,4];have k8:=KS.out.bl.lt;obtain ⟨r0,r1,r2,r3,r4,-⟩:=KS.out.be.cs [0,1,2,3,4];simp only [gz,gs] at r0 r1 r2 r3 r4;obtain ⟨rf0,rf1,rf2,rf3,rf4,-⟩:=KS.out.be.fs [0,1,2,3,4];have krx:=KS.out.be.lt
            obtain rfl:0=E:= by
             exact zq28b3f3
            have HXX:(⟨4,A.today,c.c,c.d,r⟩:R5)=x:= by
             rw [<-hx.out];unfold evEv;rw [if_neg (by rw [hE.out];simp),if_neg hk1n,if_neg hk2,if_neg hk3n,if_pos hk4,HOR.out]
            have hbk:yfp b c.c A.today c.d=B':=by rw [<-hB'.out];unfold evBk;rw [if_pos ⟨hE.out,hk4⟩]
            rw [hbk] at KS;have HK4:=lh hk4;clear hbk;go_upto_region 31 with fail
            obtain ⟨W5,hW,K7⟩:∃W,W6.setCell (Ad b8 0) (iV 4)=W/\Hid (EvW w base gb L c dv5 B' b8 [iV 4,iV A.today,iV c.c,iV c.d,iV r] W):=⟨_,rfl,KS.out.set HBS.out (hLl.out _ hL.out.1) 0 (iV 4)⟩
            with_reducible rw [hW]
            clear hW;clear e0 e1 e2 e3 e4 ef0 ef1 ef2 ef3 ef4 k8 r0 r1 r2 r3 r4 rf0 rf1 rf2 rf3 rf4 krx;obtain ⟨e0,e1,e2,e3,e4,-⟩:=K7.out.bl.cs [0,1,2,3,4];simp only [gz,gs] at e0 e1 e2 e3 e4;obtain ⟨ef0,ef1,ef2,ef3,ef4,-⟩:=K7.out.bl.fs [0,1,2,3,4];have k8:=K7.out.bl.lt;obtain ⟨r0,r1,r2,r3,r4,-⟩:=K7.out.be.cs [0,1,2,3,4];simp only [gz,gs] at r0 r1 r2 r3 r4;obtain ⟨rf0,rf1,rf2,rf3,rf4,-⟩:=K7.out.be.fs [0,1,2,3,4];have krx:=K7.out.be.lt
            go_wp2_with fail
            have hf:=(((((K7.out.be.set 0 (iV (4))).set 1 (iV (A.today))).set 2 (iV (c.c))).set 3 (iV (c.d))).set 4 (iV (r)));have q0:World.cell? _ (Ad (w.heap.size+1) 0)=some (iV (4)):=hf.cell 0;have q1:World.cell? _ (Ad (w.heap.size+1) 1)=some (iV (A.today)):=hf.cell 1;have q2:World.cell? _ (Ad (w.heap.size+1) 2)=some (iV (c.c)):=hf.cell 2;have q3:World.cell? _ (Ad (w.heap.size+1) 3)=some (iV (c.d)):=hf.cell 3;have q4:World.cell? _ (Ad (w.heap.size+1) 4)=some (iV (r)):=hf.cell 4;refine bodyPost_ret (v:=.tuple #[.agg #[iV (4),iV (A.today),iV (c.c),iV (c.d),iV (r)],iZ]) (by simp [results,Tryz.results65,go_sem,q0,q1,q2,q3,q4]) rfl ⟨_,?_,ycf (by repeat (first | with_reducible exact yab.refl _ _ | with_reducible refine yab.alloc ?_ _ | with_reducible refine yab.drew ?_ | with_reducible refine yab.setCell ?_ (.inl (List.mem_cons_self ..)) _)) K7.out.bk K7.out.st K7.out.be HBS.out (hLl.out _ hL.out.1)⟩;rw [<-HXX]
           ·have hEz':(Eo != 0)=true:=by simpa using hEz
            go_wp2_with fail
            obtain rfl:Eo=E:= by
             exact zq28b3f3
            have hz:x=yax:=by rw [<-hx.out];unfold evEv;rw [if_pos (by rw [hE.out];exact hEz)]
            have hbk:B'=b:=by rw [<-hB'.out];unfold evBk;rw [if_neg (fun h=>by have:=h.1;rw [hE.out] at this;exact hEz this)]
            have hob:yfp b c.c A.today c.d=b:=by unfold yfp;rw [if_neg (by rw [HOE.out];exact hEz)]
            subst hbk;have hbk:=KS.out.bk;rw [hob] at hbk
            go_step3
            exact ⟨rfl,HJ.out _ _ (x10 (x10 (x10 (x10 (x10 (x10 (x10 (x10 (x10 (x10 (x10 (x10 (x10 ⟨_,_,_,_,_,_,_,_,rfl,hz,KS.out.be,⟨_,hbk⟩,KS.out.st⟩)))))))))))))⟩
theorem yoh (lo g base gb:Nat) (A:Acc) (F:List Nat) (V:AV) (dv:Value) (b:Bk) (c:R5) (hk:c.a=1\/c.a=2\/c.a=3\/c.a=4\/c.a=7) (x:R5) (hx:Hid (evEv A b c=x)) (E:Int) (hE:Hid (yfz A b c=E)) (B':Bk) (hB':Hid (evBk A b c=B')) (hbs:Hid (A.R.p.bs.length=A.t.ts.length/\A.t.ts.length<=1000)) (L:List Nat) (hL:Hid (gb∈L/\∀q,dv.ownBlock=some q->q∈L)) (w:World) (hLl:Hid (∀y∈L,y<w.heap.size)) (hb:base<=w.heap.size) (hv:ya6 w base gb dv b) (h:Hid (∀W,Below base w W->ybe lo g A F W V)) :
 Calls Tryz.prog 65 #[pV g,.agg #[iV c.a,iV c.b,iV c.c,iV c.d,iV c.e],pV gb] w (yn4 x E base gb B' L w):= by
 by_cases h1:c.a=2\/c.a=7
 ·exact yl2 lo g base gb A F V dv b c h1 x hx E hE B' hB' hbs L hL w hLl hb hv h
 ·by_cases h2:c.a=1\/c.a=3
  ·exact ym3 lo g base gb A F V dv b c h2 x hx E hE B' hB' hbs L hL w hLl hb hv h
  ·exact ym4 lo g base gb A F V dv b c om x hx E hE B' hB' hbs L hL w hLl hb hv h
theorem ybe.store {lo g:Nat} {A A':Acc} {F:List Nat} {w w':World} {V V':AV} (h:ybe lo g A F w V) (hk:yab [g] w w') (hB:Blk w' g 89 (ybu A' V')) (hr:Rd F w (jai A' V')) (hi:A'.iss=A.iss) (h1:V'.iv=V.iv) (h2:V'.ivs=V.ivs) (h3:V'.av=V.av) (hs:A.seq<=A'.seq):ybe lo g A' F w' V':= by
 have hg1:∀x∈[g],x∈F:=fun x hx=>by simp only [ms] at hx;exact hx▸h.gF
 obtain ⟨n0,cs0,hn0,h10,h0⟩:=h.adj;refine ⟨hB,h.gF,fun x hx=>⟨(h.lt x hx).1,Nat.lt_of_lt_of_le (h.lt x hx).2 hk.size⟩,hr.step hk (fun x hx=>.inl (hg1 x hx)) (fun x hx=>.inl hx),?_,fun q hq=>h.issF q (h1▸hq),⟨n0,cs0,?_,h10,?_⟩,fun q hq=>h.adjF q (h3▸hq)⟩
 ·rw [hi,h1,h2]
  exact yap h.iss hk (fun q hq hm=>by
   simp only [ms] at hm;subst hm;exact yaj h.iss h.blk (by decide) hq.symm)
 ·have:A.seq.toNat<=A'.seq.toNat:=by omega
  exact Nat.le_trans hn0 (Nat.mul_le_mul_right _ this)
 ·rw [h3]
  exact yap h0 hk (fun q hq hm=>by
   simp only [ms] at hm;subst hm;exact yaj h0 h.blk (by decide) hq.symm)
theorem ybe.seqUp {lo g:Nat} {A:Acc} {F:List Nat} {w:World} {V:AV} (h:ybe lo g A F w V):ybe lo g { A with seq:=A.seq+1 } F (w.setCell (Ad g 8) (iV (A.seq+1))) V :=
 h.store ((yab.refl _ _).sg _) (h.blk.set 8 _) (h.rd.imp fun W q=>q) rfl rfl rfl rfl (by show A.seq<=A.seq+1;omega)
theorem ybe.setBook {lo g gb':Nat} {A:Acc} {F:List Nat} {w:World} {V:AV} {dv':Value} {b':Bk} (h:ybe lo g A F w V) (hb:Rd F w (fun W=>ya6 W 0 gb' dv' b')):ybe lo g { A with bk:=b' } F (w.setCell (Ad g 10) (pV gb')) { V with gb:=gb',dv:=dv' } :=
 h.store ((yab.refl _ _).sg _) (h.blk.set 10 _) ((h.rd.and hb).imp fun W q=>⟨q.1.1,q.1.2.1,q.2,q.1.2.2.2⟩) rfl rfl rfl rfl (Int.le_refl _)
end Go.Proofs.YtkongpjpkpfniaaGreat

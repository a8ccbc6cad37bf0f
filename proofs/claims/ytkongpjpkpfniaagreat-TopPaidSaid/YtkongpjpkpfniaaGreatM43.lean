/- TopPaid: parts of the proof, made small by a program (mini.py). -/
import Derived.Test.YtkongpjpkpfniaaGreatM01
import Derived.Test.YtkongpjpkpfniaaGreatM41
set_option linter.unusedVariables false
set_option linter.unusedSimpArgs false
set_option maxRecDepth 100000
set_option maxHeartbeats 6400000
namespace Go.Proofs.YtkongpjpkpfniaaGreat
open Go.RowKit
theorem zq43c6eb {q:Prop} (h:q:= by
 go_wp2_with fail
 obtain rfl:8=E:= by
  have h9:=HE2.out;rw [if_neg (fun h=>h.2 HTR.out),if_pos (.inr ⟨hk7,by omega⟩)] at h9;exact h9
 exact zq432b2d):q:=h
theorem zq43ce45 {q:Prop} (h:q:= by
 go_wp2_with fail
 obtain rfl:8=E:= by
  have h9:=HE2.out;rw [if_neg (fun h=>h.2 HTR.out),if_pos (.inl ⟨hk7,by omega⟩)] at h9;exact h9
 exact zq432b2d):q:=h
theorem zq43b947 {q:Prop} (h:q:= by
 have HAM:Hid (¬(c.a=7∧(c.d<0∨10000000<c.d)∨c.a≠7∧(c.d<1∨1000000000000000<c.d))):=(fun h=>by rcases h with h | h <;> omega)
 exact absurd HKK.out om):q:=h
theorem zq43cd20 {q:Prop} (h:q:= by
 have hz:x=yax:=by rw [←hx.out];unfold evEv;rw [if_pos (by rw [hE.out];decide)]
 have hbk:B'=b:=by rw [←hB'.out];unfold evBk;rw [if_neg (fun h=>by have:=h.1;rw [hE.out] at this;exact absurd this (by decide))]
 subst hbk
 go_step3
 exact ⟨rfl,HJ.out _ _ (x10 (x10 (x10 (x10 (x10 (x10 (x10 (x10 (x10 (x10 (x10 (x10 (x10 ⟨_,_,_,_,_,_,_,_,rfl,hz,K4.out.be,⟨_,K4.out.bk⟩,K4.out.st⟩)))))))))))))⟩):q:=h
theorem zq438318 {q:Prop} (h:q:= by
 have hz:x=yax:=by rw [←hx.out];unfold evEv;rw [if_pos (by rw [hE.out];decide)]
 have hbk:B'=b:=by rw [←hB'.out];unfold evBk;rw [if_neg (fun h=>by have:=h.1;rw [hE.out] at this;exact absurd this (by decide))]
 subst hbk
 go_step3
 exact ⟨rfl,HJ.out _ _ (x10 (x10 (x10 (x10 (x10 (x10 (x10 (x10 (x10 (x10 (x10 (x10 (x10 ⟨_,_,_,_,_,_,_,_,rfl,hz,(K3.out.below (yfn bR _) HBS.out).be,⟨_,(K3.out.below (yfn bR _) HBS.out).bk⟩,(K3.out.below (yfn bR _) HBS.out).st⟩)))))))))))))⟩):q:=h
theorem zq43d5a1 {q:Prop} (h:q:= by
 go_wp2_with fail
 obtain rfl:8=E:= by
  have h9:=HE2.out;rw [if_neg (fun h=>h.1 hk2),if_pos (.inr ⟨hk7,by omega⟩)] at h9;exact h9
 have hz:x=yax:=by rw [←hx.out];unfold evEv;rw [if_pos (by rw [hE.out];decide)]
 have hbk:B'=b:=by rw [←hB'.out];unfold evBk;rw [if_neg (fun h=>by have:=h.1;rw [hE.out] at this;exact absurd this (by decide))]
 subst hbk
 go_step3
 exact ⟨rfl,HJ.out _ _ (x10 (x10 (x10 (x10 (x10 (x10 (x10 (x10 (x10 (x10 (x10 (x10 (x10 ⟨_,_,_,_,_,_,_,_,rfl,hz,K1.out.be,⟨_,K1.out.bk⟩,K1.out.st⟩)))))))))))))⟩):q:=h
theorem zq432b2d {q:Prop} (h:q:= by
 have hz:x=yax:=by rw [←hx.out];unfold evEv;rw [if_pos (by rw [hE.out];decide)]
 have hbk:B'=b:=by rw [←hB'.out];unfold evBk;rw [if_neg (fun h=>by have:=h.1;rw [hE.out] at this;exact absurd this (by decide))]
 subst hbk
 go_step3
 exact ⟨rfl,HJ.out _ _ (x10 (x10 (x10 (x10 (x10 (x10 (x10 (x10 (x10 (x10 (x10 (x10 (x10 ⟨_,_,_,_,_,_,_,_,rfl,hz,K3.out.be,⟨_,K3.out.bk⟩,K3.out.st⟩)))))))))))))⟩):q:=h
theorem ym3 (lo g base gb:Nat) (A:Acc) (F:List Nat) (V:AV) (dv:Value) (b:Bk) (c:R5) (hk:c.a=1∨c.a=3) (x:R5) (hx:Hid (evEv A b c=x)) (E:Int) (hE:Hid (yfz A b c=E)) (B':Bk) (hB':Hid (evBk A b c=B')) (hbs:Hid (A.R.p.bs.length=A.t.ts.length∧A.t.ts.length≤1000)) (L:List Nat) (hL:Hid (gb∈L∧∀q,dv.ownBlock=some q→q∈L)) (w:World) (hLl:Hid (∀y∈L,y<w.heap.size)) (hb:base≤w.heap.size) (hv:ya6 w base gb dv b) (h:Hid (∀W,Below base w W→ybe lo g A F W V)) :
 Calls Tryz.prog 65 #[pV g,.agg #[iV c.a,iV c.b,iV c.c,iV c.d,iV c.e],pV gb] w (yn4 x E base gb B' L w):= by
 have HV:=lh hv;have HBS:=lh hb;have HA0:=lh (h.out w bR);have c7:w.cell? ⟨g,7,none⟩=some (iV A.today):=HA0.out.blk.cell 7;have kg:=HA0.out.blk.lt;have HKK:=lh hk;clear hv hb hk
 go_enter Tryz.func65,Tryz.ntmps65
 go_wp2_with fail
 refine yai 0 (fun a' w'=>∃(u0 u1 u2 u3 u4 u5 u7 u8 u10 u11 u12 u13 u14 u15 u16 u17 u18 u19 u20 u21 u22 u23 u24 u25 u26 u27 u28 u29 u30 u31 u32 u33 u34 u35 u36 u37 u38 u39 u40 u41 u42 u43 u44 u45 u46 u47 u48 u49 u50 u51 u52 u53 u54 u55 u56 u57 u58 u59 u60 u61 u62 u63 u64 u65 u66 u67 u68 u69 u70 u71 u72 u73 u74 u75 u76 u77 u78 u79 u80 u81 u82 u83 u84 u85 u86 u87 u88 u89 u90 u91 u92 u93 u94 u95 u96 u97 u98 u99 u100 u101 u102 u103 u104 u105 u106 u107 u108 u109 u110 u111 u112 u113 u114 u115 u116 u117 u118 u119 u120 u121 u122 u123 u124 u125 u126 u127 u128 u129 u130 u131 u132 u133 u134 u135 u136 u137 u138 u139:Value),a'={ tmps:=#[u0,u1,u2,u3,u4,u5,pV (w.heap.size+1),u7,u8,iV E,u10,u11,u12,u13,u14,u15,u16,u17,u18,u19,u20,u21,u22,u23,u24,u25,u26,u27,u28,u29,u30,u31,u32,u33,u34,u35,u36,u37,u38,u39,u40,u41,u42,u43,u44,u45,u46,u47,u48,u49,u50,u51,u52,u53,u54,u55,u56,u57,u58,u59,u60,u61,u62,u63,u64,u65,u66,u67,u68,u69,u70,u71,u72,u73,u74,u75,u76,u77,u78,u79,u80,u81,u82,u83,u84,u85,u86,u87,u88,u89,u90,u91,u92,u93,u94,u95,u96,u97,u98,u99,u100,u101,u102,u103,u104,u105,u106,u107,u108,u109,u110,u111,u112,u113,u114,u115,u116,u117,u118,u119,u120,u121,u122,u123,u124,u125,u126,u127,u128,u129,u130,u131,u132,u133,u134,u135,u136,u137,u138,u139],defers:=[] }∧Hid (x=yax)∧Hid (Blk w' (w.heap.size+1) 150 [iZ,iZ,iZ,iZ,iZ])∧Hid (∃dv',ya6 w' base gb dv' B')∧Hid (DStp base L w w'))
  (fun _ _=>0) rfl ?pass ?first
 case pass =>
  intro a1 w1 hJ J' hJ';clear hJ'
  iterate 138 obtain ⟨_,hJ⟩:=hJ
  obtain ⟨rfl,HX0,HBE,HBK,HST⟩:=hJ;have r0:=HBE.out.cell 0;have r1:=HBE.out.cell 1;have r2:=HBE.out.cell 2;have r3:=HBE.out.cell 3;have r4:=HBE.out.cell 4;simp only [gz,gs] at r0 r1 r2 r3 r4;have rf0:=HBE.out.frozen 0;have rf1:=HBE.out.frozen 1;have rf2:=HBE.out.frozen 2;have rf3:=HBE.out.frozen 3;have rf4:=HBE.out.frozen 4;have kex:=HBE.out.lt
  go_wp2_with fail
  have hf:=(((((HBE.out.set 0 (iZ)).set 1 (iZ)).set 2 (iZ)).set 3 (iZ)).set 4 (iZ));have q0:World.cell? _ ⟨w.heap.size+1,0,none⟩=some (iZ):=hf.cell 0;have q1:World.cell? _ ⟨w.heap.size+1,1,none⟩=some (iZ):=hf.cell 1;have q2:World.cell? _ ⟨w.heap.size+1,2,none⟩=some (iZ):=hf.cell 2;have q3:World.cell? _ ⟨w.heap.size+1,3,none⟩=some (iZ):=hf.cell 3;have q4:World.cell? _ ⟨w.heap.size+1,4,none⟩=some (iZ):=hf.cell 4;obtain ⟨dv2,HV2⟩:=HBK.out;have hz:=HX0.out;subst hz;refine bodyPost_ret (v:=.tuple #[.agg #[iZ,iZ,iZ,iZ,iZ],iV E]) (by simp [results,Tryz.results65,go_sem,q0,q1,q2,q3,q4]) rfl ⟨dv2,rfl,ycf (by repeat (first | with_reducible exact yab.refl _ _ | with_reducible refine yab.alloc ?_ _ | with_reducible refine yab.drew ?_ | with_reducible refine yab.setCell ?_ (.inl (List.mem_cons_self ..)) _)) HV2 HST.out HBE.out HBS.out (hLl.out _ hL.out.1)⟩
 case first =>
  intro J' hJJ hrest;have HJ:=lh hJJ;clear hJJ hrest;go_upto_region 1 with fail
  obtain ⟨W1,hW1,HBC1,HBE1,HS1,HZ1,HBW1⟩:∃W1,((w.alloc (.cells #[iV c.a,iV c.b,iV c.c,iV c.d,iV c.e] 48)).alloc (.cells #[iZ,iZ,iZ,iZ,iZ] 150))=W1∧Hid (Blk W1 w.heap.size 48 [iV c.a,iV c.b,iV c.c,iV c.d,iV c.e])∧Hid (Blk W1 (w.heap.size+1) 150 [iZ,iZ,iZ,iZ,iZ])∧Hid (DStp base L w W1)∧Hid (W1.heap.size=w.heap.size+2)∧Hid (Below w.heap.size w W1) :=
   ⟨_,rfl,(yae w _ _ _ rfl).below (yaa bR _),ybc _ _ _ _ (World.size_alloc _ _),⟨((Below.refl base w).alloc HBS.out _).alloc (by rw [World.size_alloc];have:=HBS.out;omega) _,((yab.refl _ _).alloc _).alloc _⟩,(show _=_ by simp only [World.size_alloc]),yaa (yaa bR _) _⟩
  with_reducible rw [hW1]
  clear hW1 c7 kg;have HA1:=lh (h.out _ HS1.out.below);have c7:W1.cell? ⟨g,7,none⟩=some (iV A.today):=HA1.out.blk.cell 7;have kg:=HA1.out.blk.lt;have d3:W1.cell? ⟨w.heap.size,3,none⟩=some (iV c.d):=HBC1.out.cell 3;have kdx:=HBC1.out.lt
  go_cut [8] (fun s8 wx=>∃b8,s8=pV b8∧Hid (Blk wx b8 150 [iZ,iV A.today,iZ,iV c.d,iZ])∧Hid (W1.heap.size≤b8)∧Hid (Below W1.heap.size W1 wx))
  case first =>
   go_region
   all_goals
    go_wp2_with fail
    go_meet
    case rel=>exact ⟨_,rfl,(yae W1 _ _ _ rfl).below (yaf bR),Nat.le_refl _,yaf (yaa bR _)⟩
  case rest =>
   clear c7 kg d3 kdx;obtain ⟨b8,rfl,HB8,HG8,HW8⟩:=hcut
   have K1:Hid (EvW w base gb L c dv b b8 [iZ,iV A.today,iZ,iV c.d,iZ] wc) :=
    ⟨HBC1.out.below HW8.out,HBE1.out.below HW8.out,HB8.out,by have h1:=HG8.out;have h2:=HZ1.out;omega,HV.out.below (yad HBW1.out HW8.out),⟨HS1.out.below.trans (HW8.out.mono (Nat.le_trans HBS.out HS1.out.keep.size)),HS1.out.keep.below HW8.out⟩⟩
   have hE2:=hE.out;unfold yfz at hE2;have HE2:=lh hE2;clear hE2
   by_cases hk2:c.a=2
   ·have hk7:c.a≠7:=by omega
    have k2:(c.a != 2)=false:=by simpa using hk2
    have d0:=K1.out.bc.cell 0;have d1:=K1.out.bc.cell 1;have d2:=K1.out.bc.cell 2;have d3:=K1.out.bc.cell 3;simp only [gz,gs] at d0 d1 d2 d3;have kdx:=K1.out.bc.lt;have k7:(c.a == 7)=false:=by simpa using hk7
    by_cases am1:c.d<1
    ·exact zq43d5a1
    ·by_cases am2:1000000000000000<c.d
     ·exact zq43d5a1
     ·exact zq43b947
   ·have k2:(c.a != 2)=true:=by simpa using hk2
    have d0:=K1.out.bc.cell 0;have d1:=K1.out.bc.cell 1;have d2:=K1.out.bc.cell 2;have d3:=K1.out.bc.cell 3;simp only [gz,gs] at d0 d1 d2 d3;have kdx:=K1.out.bc.lt;have e0:=K1.out.bl.cell 0;have e1:=K1.out.bl.cell 1;have e2:=K1.out.bl.cell 2;have e3:=K1.out.bl.cell 3;have e4:=K1.out.bl.cell 4;simp only [gz,gs] at e0 e1 e2 e3 e4;have ef0:=K1.out.bl.frozen 0;have ef1:=K1.out.bl.frozen 1;have ef2:=K1.out.bl.frozen 2;have ef3:=K1.out.bl.frozen 3;have ef4:=K1.out.bl.frozen 4;have k8:=K1.out.bl.lt;have r0:=K1.out.be.cell 0;have r1:=K1.out.be.cell 1;have r2:=K1.out.be.cell 2;have r3:=K1.out.be.cell 3;have r4:=K1.out.be.cell 4;simp only [gz,gs] at r0 r1 r2 r3 r4;have rf0:=K1.out.be.frozen 0;have rf1:=K1.out.be.frozen 1;have rf2:=K1.out.be.frozen 2;have rf3:=K1.out.be.frozen 3;have rf4:=K1.out.be.frozen 4;have krx:=K1.out.be.lt;obtain ⟨tr,htr⟩:∃tr,decide (1≤c.c∧c.c≤(A.t.ts.length:Int))=tr:=⟨_,rfl⟩
    have HTRI:Hid (tr=true↔1≤c.c∧c.c≤(A.t.ts.length:Int)):= by
     show _↔_;rw [←htr];exact decide_eq_true_iff
    clear htr;go_upto_region 5 with fail
    obtain ⟨W2,hW,K2⟩:∃W,wc.setCell ⟨b8,2,none⟩ (iV c.c)=W∧Hid (EvW w base gb L c dv b b8 [iZ,iV A.today,iV c.c,iV c.d,iZ] W):=⟨_,rfl,(K1.out.set HBS.out (hLl.out _ hL.out.1) 2 (iV c.c))⟩
    with_reducible rw [hW]
    clear hW;clear d0 d1 d2 d3 kdx;clear e0 e1 e2 e3 e4 ef0 ef1 ef2 ef3 ef4 k8 r0 r1 r2 r3 r4 rf0 rf1 rf2 rf3 rf4 krx;have d0:=K2.out.bc.cell 0;have d1:=K2.out.bc.cell 1;have d2:=K2.out.bc.cell 2;have d3:=K2.out.bc.cell 3;simp only [gz,gs] at d0 d1 d2 d3;have kdx:=K2.out.bc.lt
    go_wp2_with fail
    refine (yeu lo g A F V c.c tr HTRI _ (h.out _ K2.out.st.below)).mono ?_;rintro _ w3 ⟨rfl,hb3⟩;have K3:=lh (K2.out.below hb3 HBS.out);clear hb3;clear d0 d1 d2 d3 kdx;have d0:=K3.out.bc.cell 0;have d1:=K3.out.bc.cell 1;have d2:=K3.out.bc.cell 2;have d3:=K3.out.bc.cell 3;simp only [gz,gs] at d0 d1 d2 d3;have kdx:=K3.out.bc.lt;cases tr with
    | false =>
     have hntr:¬(1≤c.c∧c.c≤(A.t.ts.length:Int)):=fun hh=>by have:=HTRI.out.2 hh;cases this
     go_wp2_with fail
     obtain rfl:7=E:= by
      have h9:=HE2.out;rw [if_pos ⟨hk2,hntr⟩] at h9;exact h9
     exact zq432b2d
    | true =>
     have HTR:=lh (HTRI.out.1 rfl);clear HTRI
     by_cases hk7:c.a=7
     ·have hk1:(c.a == 1)=false:=by simp;omega
      have hk2':(c.a == 2)=false:=by simpa using hk2
      have hk3:(c.a == 3)=false:=by simp;omega
      have hk4:(c.a == 4)=false:=by simp;omega
      have k7:(c.a == 7)=true:=by simpa using hk7
      by_cases am1:c.d<0
      ·exact zq43ce45
      ·by_cases am2:10000000<c.d
       ·exact zq43ce45
       ·exact zq43b947
     ·have hk2':(c.a == 2)=false:=by simpa using hk2
      have k7:(c.a == 7)=false:=by simpa using hk7
      by_cases am1:c.d<1
      ·exact zq43c6eb
      ·by_cases am2:1000000000000000<c.d
       ·exact zq43c6eb
       ·have HAM:Hid (¬(c.a=7∧(c.d<0∨10000000<c.d)∨c.a≠7∧(c.d<1∨1000000000000000<c.d))):=(fun h=>by rcases h with h | h <;> omega)
        by_cases hk1:c.a=1
        ·have hk1':(c.a == 1)=true:=by simpa using hk1
         have HA3:=lh (h.out _ K3.out.st.below);obtain ⟨po,pc,hpv⟩:∃po pc,V.pv=.slice po A.R.p.bs.length pc:=HA3.out.rd.now.2.2.2.1.shape;have a0:w3.cell? ⟨g,0,none⟩=some (iV A.t.lim):=HA3.out.blk.cell 0;have a11:w3.cell? ⟨g,11,none⟩=some (.slice po A.R.p.bs.length pc):=hpv▸HA3.out.blk.cell 11;have a12:w3.cell? ⟨g,12,none⟩=some (iV A.R.p.c):=HA3.out.blk.cell 12;have a13:w3.cell? ⟨g,13,none⟩=some (iV A.R.p.d):=HA3.out.blk.cell 13;have kg:=HA3.out.blk.lt;have HSP:Hid (Sl .i64 w3 (.slice po A.R.p.bs.length pc) A.R.p.bs):=hpv▸HA3.out.rd.now.2.2.2.1;obtain ⟨T,hT⟩:∃T,yb4 A.R.p.bs A.R.p.c A.R.p.d=T:=⟨_,rfl⟩;have HT:=lh hT;have hlen8:A.R.p.bs.length≤1000000:=by have h1:=hbs.out;omega
         clear hT hpv
         have HS:Hid (∀W',Below w3.heap.size w3 W'→W'.cell? ⟨g,0,none⟩=some (iV A.t.lim)∧W'.cell? ⟨g,11,none⟩=some (.slice po A.R.p.bs.length pc)∧W'.cell? ⟨g,12,none⟩=some (iV A.R.p.c)∧W'.cell? ⟨g,13,none⟩=some (iV A.R.p.d)∧W'.cell? ⟨w.heap.size,3,none⟩=some (iV c.d)):=fun W' hb=>by
          have q:=HA3.out.blk.below hb;have q2:=K3.out.bc.below hb;exact ⟨q.cell 0,(q.cell 11).trans (by rw [←a11];exact (HA3.out.blk.cell 11).symm),q.cell 12,q.cell 13,q2.cell 3⟩
         have hs0:=HS.out w3 bR;have hsd:=HS.out w3.drew (yaf bR);obtain ⟨lm,hlm⟩:∃q,decide (A.t.lim<wrap64 (wrap64 (T-A.R.p.c)+c.d))=q:=⟨_,rfl⟩;have HLM:=lh hlm;clear hlm;go_upto_region 13 with fail
         go_cut [70] (fun s70 wx=>s70=.bool lm∧Hid (Below w3.heap.size w3 wx))
         case first =>
          go_region_held3 (fun W'=>W'.cell? ⟨g,0,none⟩=some (iV A.t.lim)∧W'.cell? ⟨g,11,none⟩=some (.slice po A.R.p.bs.length pc)∧W'.cell? ⟨g,12,none⟩=some (iV A.R.p.c)∧W'.cell? ⟨g,13,none⟩=some (iV A.R.p.d)∧W'.cell? ⟨w.heap.size,3,none⟩=some (iV c.d)) (first | with_reducible exact hs0 | with_reducible exact hsd | exact HS5.out) (first | (go_at_call 111;refine (yhv _ A.R.p.bs A.R.p.c A.R.p.d T HT hlen8 _ (HSP.out.below (by first | exact bR | exact yaf bR))).mono ?_;rintro _ w4 ⟨rfl,hb4⟩;have HB4:Hid (Below w3.heap.size w3 w4):=(by first | exact hb4 | exact yad (yaf bR) hb4);have HS5:=lh (HS.out _ HB4.out);have K4:=lh (K3.out.below HB4.out HBS.out);clear hb4))
          go_wp2_with fail
          go_meet
          case rel=>exact ⟨by rw [←HLM.out,IntWalk.i64_left,IntWalk.i64_left],HB4.out⟩
         case rest =>
          obtain ⟨rfl,HB4⟩:=hcut;have K4:=lh (K3.out.below HB4.out HBS.out);clear hs0 hsd a0 a11 a12 a13 d0 d1 d2 d3 kg kdx;cases lm with
          | true =>
           have hlm:A.t.lim<wrap64 (wrap64 (T-A.R.p.c)+c.d):=of_decide_eq_true HLM.out;have HL2:=lh hlm;clear hlm
           go_wp2_with fail
           obtain rfl:9=E:= by
            have h9:=HE2.out;rw [if_neg (fun h=>h.2 HTR.out),if_neg HAM.out,if_pos hk1,HT.out,if_pos HL2.out] at h9;exact h9
           exact zq43cd20
          | false =>
           have hlm:¬A.t.lim<wrap64 (wrap64 (T-A.R.p.c)+c.d):=of_decide_eq_false HLM.out;have HL2:=lh hlm;clear hlm
           obtain rfl:0=E:= by
            have h9:=HE2.out;rw [if_neg (fun h=>h.2 HTR.out),if_neg HAM.out,if_pos hk1,HT.out,if_neg HL2.out] at h9;exact h9
           have HXX:(⟨1,A.today,c.c,c.d,0⟩:R5)=x:= by
            rw [←hx.out];unfold evEv;rw [if_neg (by rw [hE.out];simp)];rw [if_pos hk1]
           have hbk:b=B':=by rw [←hB'.out];unfold evBk;rw [if_neg (fun h=>by have:=h.2;omega)]
           subst hbk;have e0:=K4.out.bl.cell 0;have e1:=K4.out.bl.cell 1;have e2:=K4.out.bl.cell 2;have e3:=K4.out.bl.cell 3;have e4:=K4.out.bl.cell 4;simp only [gz,gs] at e0 e1 e2 e3 e4;have ef0:=K4.out.bl.frozen 0;have ef1:=K4.out.bl.frozen 1;have ef2:=K4.out.bl.frozen 2;have ef3:=K4.out.bl.frozen 3;have ef4:=K4.out.bl.frozen 4;have k8:=K4.out.bl.lt;have r0:=K4.out.be.cell 0;have r1:=K4.out.be.cell 1;have r2:=K4.out.be.cell 2;have r3:=K4.out.be.cell 3;have r4:=K4.out.be.cell 4;simp only [gz,gs] at r0 r1 r2 r3 r4;have rf0:=K4.out.be.frozen 0;have rf1:=K4.out.be.frozen 1;have rf2:=K4.out.be.frozen 2;have rf3:=K4.out.be.frozen 3;have rf4:=K4.out.be.frozen 4;have krx:=K4.out.be.lt;go_upto_region 31 with fail
           obtain ⟨W5,hW,K5⟩:∃W,wc.setCell ⟨b8,0,none⟩ (iV 1)=W∧Hid (EvW w base gb L c dv b b8 [iV 1,iV A.today,iV c.c,iV c.d,iZ] W):=⟨_,rfl,(K4.out.set HBS.out (hLl.out _ hL.out.1) 0 (iV 1))⟩
           with_reducible rw [hW]
           clear hW;clear e0 e1 e2 e3 e4 ef0 ef1 ef2 ef3 ef4 k8 r0 r1 r2 r3 r4 rf0 rf1 rf2 rf3 rf4 krx;have e0:=K5.out.bl.cell 0;have e1:=K5.out.bl.cell 1;have e2:=K5.out.bl.cell 2;have e3:=K5.out.bl.cell 3;have e4:=K5.out.bl.cell 4;simp only [gz,gs] at e0 e1 e2 e3 e4;have ef0:=K5.out.bl.frozen 0;have ef1:=K5.out.bl.frozen 1;have ef2:=K5.out.bl.frozen 2;have ef3:=K5.out.bl.frozen 3;have ef4:=K5.out.bl.frozen 4;have k8:=K5.out.bl.lt;have r0:=K5.out.be.cell 0;have r1:=K5.out.be.cell 1;have r2:=K5.out.be.cell 2;have r3:=K5.out.be.cell 3;have r4:=K5.out.be.cell 4;simp only [gz,gs] at r0 r1 r2 r3 r4;have rf0:=K5.out.be.frozen 0;have rf1:=K5.out.be.frozen 1;have rf2:=K5.out.be.frozen 2;have rf3:=K5.out.be.frozen 3;have rf4:=K5.out.be.frozen 4;have krx:=K5.out.be.lt
           go_wp2_with fail
           have hf:=(((((K5.out.be.set 0 (iV (1))).set 1 (iV (A.today))).set 2 (iV (c.c))).set 3 (iV (c.d))).set 4 (iV (0)));have q0:World.cell? _ ⟨w.heap.size+1,0,none⟩=some (iV (1)):=hf.cell 0;have q1:World.cell? _ ⟨w.heap.size+1,1,none⟩=some (iV (A.today)):=hf.cell 1;have q2:World.cell? _ ⟨w.heap.size+1,2,none⟩=some (iV (c.c)):=hf.cell 2;have q3:World.cell? _ ⟨w.heap.size+1,3,none⟩=some (iV (c.d)):=hf.cell 3;have q4:World.cell? _ ⟨w.heap.size+1,4,none⟩=some (iV (0)):=hf.cell 4;refine bodyPost_ret (v:=.tuple #[.agg #[iV (1),iV (A.today),iV (c.c),iV (c.d),iV (0)],iZ]) (by simp [results,Tryz.results65,go_sem,q0,q1,q2,q3,q4]) rfl ⟨_,?_,ycf (by repeat (first | with_reducible exact yab.refl _ _ | with_reducible refine yab.alloc ?_ _ | with_reducible refine yab.drew ?_ | with_reducible refine yab.setCell ?_ (.inl (List.mem_cons_self ..)) _)) K5.out.bk K5.out.st K5.out.be HBS.out (hLl.out _ hL.out.1)⟩;rw [←HXX]
        ·have hk1':(c.a == 1)=false:=by simpa using hk1
         by_cases hk3:c.a=3
         ·have hk3':(c.a == 3)=true:=by simpa using hk3
          have HA3:=lh (h.out _ K3.out.st.below);have a6:w3.cell? ⟨g,6,none⟩=some (iV A.t.start):=HA3.out.blk.cell 6;have a7:w3.cell? ⟨g,7,none⟩=some (iV A.today):=HA3.out.blk.cell 7;have kg:=HA3.out.blk.lt;have hk1n:¬c.a=1:=by omega
          by_cases hd1:c.b<A.t.start
          ·have hd1':decide (c.b<A.t.start)=true:=by simpa using hd1
           go_upto_region 19 with fail
           go_quiet (fail)
           go_wp2_with fail
           obtain rfl:10=E:= by
            have h9:=HE2.out;rw [if_neg (fun h=>h.2 HTR.out),if_neg HAM.out,if_neg hk1n,if_pos hk3,if_pos (.inl hd1)] at h9;exact h9
           exact zq438318
          ·have hd1':decide (c.b<A.t.start)=false:=decide_eq_false hd1
           by_cases hd2:A.today<c.b
           ·go_upto_region 19 with fail
            go_quiet (fail)
            go_wp2_with fail
            obtain rfl:10=E:= by
             have h9:=HE2.out;rw [if_neg (fun h=>h.2 HTR.out),if_neg HAM.out,if_neg hk1n,if_pos hk3,if_pos (.inr hd2)] at h9;exact h9
            exact zq438318
           ·obtain ⟨od,hod⟩:∃od,decide (oldS A c.b)=od:=⟨_,rfl⟩
            have HOD:Hid (od=true↔oldS A c.b):= by
             show _↔_;rw [←hod];exact decide_eq_true_iff
            clear hod;go_upto_region 19 with fail
            go_quiet (fail)
            obtain ⟨wq,hwq,HBQ⟩:∃wq,w3.drewN nq=wq∧Hid (Below w3.heap.size w3 wq):=⟨_,rfl,yfn bR _⟩;try with_reducible rw [hwq]
            clear hwq a6 a7 kg d0 d1 d2 d3 kdx;have KQ:=lh (K3.out.below HBQ.out HBS.out);have d0:=KQ.out.bc.cell 0;have d1:=KQ.out.bc.cell 1;have d2:=KQ.out.bc.cell 2;have d3:=KQ.out.bc.cell 3;simp only [gz,gs] at d0 d1 d2 d3;have kdx:=KQ.out.bc.lt
            go_wp2_with fail
            refine (yk7 lo g A F V c.b od HOD _ (h.out _ KQ.out.st.below)).mono ?_;rintro _ w4 ⟨rfl,hb4⟩;have K4:=lh (KQ.out.below hb4 HBS.out);clear hb4 d0 d1 d2 d3 kdx;cases od with
            | true =>
             have hold:=HOD.out.1 rfl
             go_wp2_with fail
             obtain rfl:11=E:= by
              have h9:=HE2.out;rw [if_neg (fun h=>h.2 HTR.out),if_neg HAM.out,if_neg hk1n,if_pos hk3,if_neg (fun h=>by rcases h with h | h <;> omega),if_pos hold] at h9
              exact h9
             exact zq43cd20
            | false =>
             have hold:¬oldS A c.b:=fun hh=>by have:=HOD.out.2 hh;cases this
             have HOLD:=lh hold;clear hold
             obtain rfl:0=E:= by
              have h9:=HE2.out;rw [if_neg (fun h=>h.2 HTR.out),if_neg HAM.out,if_neg hk1n,if_pos hk3,if_neg (fun h=>by rcases h with h | h <;> omega),if_neg HOLD.out] at h9
              exact h9
             have HXX:(⟨3,c.b,c.c,c.d,0⟩:R5)=x:= by
              rw [←hx.out];unfold evEv;rw [if_neg (by rw [hE.out];simp)];rw [if_neg hk1n,if_neg hk2,if_pos hk3]
             have hbk:b=B':=by rw [←hB'.out];unfold evBk;rw [if_neg (fun h=>by have:=h.2;omega)]
             subst hbk;have d1:=K4.out.bc.cell 1;simp only [gz,gs] at d1;have kdx:=K4.out.bc.lt;have e0:=K4.out.bl.cell 0;have e1:=K4.out.bl.cell 1;have e2:=K4.out.bl.cell 2;have e3:=K4.out.bl.cell 3;have e4:=K4.out.bl.cell 4;simp only [gz,gs] at e0 e1 e2 e3 e4;have ef0:=K4.out.bl.frozen 0;have ef1:=K4.out.bl.frozen 1;have ef2:=K4.out.bl.frozen 2;have ef3:=K4.out.bl.frozen 3;have ef4:=K4.out.bl.frozen 4;have k8:=K4.out.bl.lt;have r0:=K4.out.be.cell 0;have r1:=K4.out.be.cell 1;have r2:=K4.out.be.cell 2;have r3:=K4.out.be.cell 3;have r4:=K4.out.be.cell 4;simp only [gz,gs] at r0 r1 r2 r3 r4;have rf0:=K4.out.be.frozen 0;have rf1:=K4.out.be.frozen 1;have rf2:=K4.out.be.frozen 2;have rf3:=K4.out.be.frozen 3;have rf4:=K4.out.be.frozen 4;have krx:=K4.out.be.lt;go_upto_region 22 with fail
             go_region
             obtain ⟨W5,hW,K5⟩:∃W,((w4.setCell ⟨b8,0,none⟩ (iV 3)).setCell ⟨b8,1,none⟩ (iV c.b)).drew=W∧Hid (EvW w base gb L c dv b b8 [iV 3,iV c.b,iV c.c,iV c.d,iZ] W):=⟨_,rfl,EvW.below (EvW.set (K4.out.set HBS.out (hLl.out _ hL.out.1) 0 (iV 3)) HBS.out (hLl.out _ hL.out.1) 1 (iV c.b)) (yaf bR) HBS.out⟩
             with_reducible rw [hW]
             clear hW;clear d1 kdx;clear e0 e1 e2 e3 e4 ef0 ef1 ef2 ef3 ef4 k8 r0 r1 r2 r3 r4 rf0 rf1 rf2 rf3 rf4 krx;have e0:=K5.out.bl.cell 0;have e1:=K5.out.bl.cell 1;have e2:=K5.out.bl.cell 2;have e3:=K5.out.bl.cell 3;have e4:=K5.out.bl.cell 4;simp only [gz,gs] at e0 e1 e2 e3 e4;have ef0:=K5.out.bl.frozen 0;have ef1:=K5.out.bl.frozen 1;have ef2:=K5.out.bl.frozen 2;have ef3:=K5.out.bl.frozen 3;have ef4:=K5.out.bl.frozen 4;have k8:=K5.out.bl.lt;have r0:=K5.out.be.cell 0;have r1:=K5.out.be.cell 1;have r2:=K5.out.be.cell 2;have r3:=K5.out.be.cell 3;have r4:=K5.out.be.cell 4;simp only [gz,gs] at r0 r1 r2 r3 r4;have rf0:=K5.out.be.frozen 0;have rf1:=K5.out.be.frozen 1;have rf2:=K5.out.be.frozen 2;have rf3:=K5.out.be.frozen 3;have rf4:=K5.out.be.frozen 4;have krx:=K5.out.be.lt
             go_wp2_with fail
             have hf:=(((((K5.out.be.set 0 (iV (3))).set 1 (iV (c.b))).set 2 (iV (c.c))).set 3 (iV (c.d))).set 4 (iV (0)));have q0:World.cell? _ ⟨w.heap.size+1,0,none⟩=some (iV (3)):=hf.cell 0;have q1:World.cell? _ ⟨w.heap.size+1,1,none⟩=some (iV (c.b)):=hf.cell 1;have q2:World.cell? _ ⟨w.heap.size+1,2,none⟩=some (iV (c.c)):=hf.cell 2;have q3:World.cell? _ ⟨w.heap.size+1,3,none⟩=some (iV (c.d)):=hf.cell 3;have q4:World.cell? _ ⟨w.heap.size+1,4,none⟩=some (iV (0)):=hf.cell 4;refine bodyPost_ret (v:=.tuple #[.agg #[iV (3),iV (c.b),iV (c.c),iV (c.d),iV (0)],iZ]) (by simp [results,Tryz.results65,go_sem,q0,q1,q2,q3,q4]) rfl ⟨_,?_,ycf (by repeat (first | with_reducible exact yab.refl _ _ | with_reducible refine yab.alloc ?_ _ | with_reducible refine yab.drew ?_ | with_reducible refine yab.setCell ?_ (.inl (List.mem_cons_self ..)) _)) K5.out.bk K5.out.st K5.out.be HBS.out (hLl.out _ hL.out.1)⟩;rw [←HXX]
         ·have hk3':(c.a == 3)=false:=by simpa using hk3
          have hk4:c.a=4:=by have:=HKK.out;omega
          have hk4':(c.a == 4)=true:=by simpa using hk4
          exact absurd HKK.out om
end Go.Proofs.YtkongpjpkpfniaaGreat

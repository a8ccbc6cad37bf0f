/- TopPaid: parts of the proof, made small by a program (mini.py). -/
import Derived.Test.YtkongpjpkpfniaaGreatM01
import Derived.Test.YtkongpjpkpfniaaGreatM14
import Derived.Test.YtkongpjpkpfniaaGreatM41
import Derived.Test.YtkongpjpkpfniaaGreatM42
import Derived.Test.YtkongpjpkpfniaaGreatM43
set_option linter.unusedVariables false
set_option linter.unusedSimpArgs false
set_option maxRecDepth 100000
set_option maxHeartbeats 6400000
namespace Go.Proofs.YtkongpjpkpfniaaGreat
open Go.RowKit
theorem zq444c37 {q:Prop} (h:q:= by
 go_wp2_with fail
 obtain rfl:8=E:= by
  have h9:=HE2.out;rw [if_neg (fun h=>h.2 HTR.out),if_pos (.inr ⟨hk7,by omega⟩)] at h9;exact h9
 exact zq442b2d):q:=h
theorem zq44a4a4 {q:Prop} (h:q:= by
 go_wp2_with fail
 obtain rfl:8=E:= by
  have h9:=HE2.out;rw [if_neg (fun h=>h.2 HTR.out),if_pos (.inl ⟨hk7,by omega⟩)] at h9;exact h9
 exact zq442b2d):q:=h
theorem zq44b947 {q:Prop} (h:q:= by
 have HAM:Hid (¬(c.a=7∧(c.d<0∨10000000<c.d)∨c.a≠7∧(c.d<1∨1000000000000000<c.d))):=(fun h=>by rcases h with h | h <;> omega)
 exact absurd HKK.out om):q:=h
theorem zq44b3f3 {q:Prop} (h:q:= by
 have h9:=HE2.out;rw [if_neg (fun h=>h.2 HTR.out),if_neg HAM.out,if_neg hk1n,if_neg hk3n,if_pos hk4,show (c.c-1).toNat=k from by have:=HKC.out;omega,HY.out,if_neg (Int.not_lt.2 HLB.out),HOE.out] at h9;exact h9):q:=h
theorem zq44d5a1 {q:Prop} (h:q:= by
 go_wp2_with fail
 obtain rfl:8=E:= by
  have h9:=HE2.out;rw [if_neg (fun h=>h.1 hk2),if_pos (.inr ⟨hk7,by omega⟩)] at h9;exact h9
 have hz:x=yax:=by rw [←hx.out];unfold evEv;rw [if_pos (by rw [hE.out];decide)]
 have hbk:B'=b:=by rw [←hB'.out];unfold evBk;rw [if_neg (fun h=>by have:=h.1;rw [hE.out] at this;exact absurd this (by decide))]
 subst hbk
 go_step3
 exact ⟨rfl,HJ.out _ _ (x10 (x10 (x10 (x10 (x10 (x10 (x10 (x10 (x10 (x10 (x10 (x10 (x10 ⟨_,_,_,_,_,_,_,_,rfl,hz,K1.out.be,⟨_,K1.out.bk⟩,K1.out.st⟩)))))))))))))⟩):q:=h
theorem zq442b2d {q:Prop} (h:q:= by
 have hz:x=yax:=by rw [←hx.out];unfold evEv;rw [if_pos (by rw [hE.out];decide)]
 have hbk:B'=b:=by rw [←hB'.out];unfold evBk;rw [if_neg (fun h=>by have:=h.1;rw [hE.out] at this;exact absurd this (by decide))]
 subst hbk
 go_step3
 exact ⟨rfl,HJ.out _ _ (x10 (x10 (x10 (x10 (x10 (x10 (x10 (x10 (x10 (x10 (x10 (x10 (x10 ⟨_,_,_,_,_,_,_,_,rfl,hz,K3.out.be,⟨_,K3.out.bk⟩,K3.out.st⟩)))))))))))))⟩):q:=h
theorem ym4 (lo g base gb:Nat) (A:Acc) (F:List Nat) (V:AV) (dv:Value) (b:Bk) (c:R5) (hk:c.a=4) (x:R5) (hx:Hid (evEv A b c=x)) (E:Int) (hE:Hid (yfz A b c=E)) (B':Bk) (hB':Hid (evBk A b c=B')) (hbs:Hid (A.R.p.bs.length=A.t.ts.length∧A.t.ts.length≤1000)) (L:List Nat) (hL:Hid (gb∈L∧∀q,dv.ownBlock=some q→q∈L)) (w:World) (hLl:Hid (∀y∈L,y<w.heap.size)) (hb:base≤w.heap.size) (hv:ya6 w base gb dv b) (h:Hid (∀W,Below base w W→ybe lo g A F W V)) :
 Calls Tryz.prog 65 #[pV g,.agg #[iV c.a,iV c.b,iV c.c,iV c.d,iV c.e],pV gb] w (yn4 x E base gb B' L w):= by
 have HV:=lh hv;have HBS:=lh hb;have HA0:=lh (h.out w bR);have c7:w.cell? ⟨g,7,none⟩=some (iV A.today):=HA0.out.blk.cell 7;have kg:=HA0.out.blk.lt;have HKK:=lh hk;clear hv hb hk
 go_enter Tryz.func65,Tryz.ntmps65
 go_wp2_with fail
 refine yai 0 (fun a' w'=>∃(u0 u1 u2 u3 u4 u5 u7 u8 u10 u11 u12 u13 u14 u15 u16 u17 u18 u19 u20 u21 u22 u23 u24 u25 u26 u27 u28 u29 u30 u31 u32 u33 u34 u35 u36 u37 u38 u39 u40 u41 u42 u43 u44 u45 u46 u47 u48 u49 u50 u51 u52 u53 u54 u55 u56 u57 u58 u59 u60 u61 u62 u63 u64 u65 u66 u67 u68 u69 u70 u71 u72 u73 u74 u75 u76 u77 u78 u79 u80 u81 u82 u83 u84 u85 u86 u87 u88 u89 u90 u91 u92 u93 u94 u95 u96 u97 u98 u99 u100 u101 u102 u103 u104 u105 u106 u107 u108 u109 u110 u111 u112 u113 u114 u115 u116 u117 u118 u119 u120 u121 u122 u123 u124 u125 u126 u127 u128 u129 u130 u131 u132 u133 u134 u135 u136 u137 u138 u139:Value),a'={ tmps:=#[u0,u1,u2,u3,u4,u5,pV (w.heap.size+1),u7,u8,iV E,u10,u11,u12,u13,u14,u15,u16,u17,u18,u19,u20,u21,u22,u23,u24,u25,u26,u27,u28,u29,u30,u31,u32,u33,u34,u35,u36,u37,u38,u39,u40,u41,u42,u43,u44,u45,u46,u47,u48,u49,u50,u51,u52,u53,u54,u55,u56,u57,u58,u59,u60,u61,u62,u63,u64,u65,u66,u67,u68,u69,u70,u71,u72,u73,u74,u75,u76,u77,u78,u79,u80,u81,u82,u83,u84,u85,u86,u87,u88,u89,u90,u91,u92,u93,u94,u95,u96,u97,u98,u99,u100,u101,u102,u103,u104,u105,u106,u107,u108,u109,u110,u111,u112,u113,u114,u115,u116,u117,u118,u119,u120,u121,u122,u123,u124,u125,u126,u127,u128,u129,u130,u131,u132,u133,u134,u135,u136,u137,u138,u139],defers:=[] }∧Hid (x=yax)∧Hid (Blk w' (w.heap.size+1) 150 [iZ,iZ,iZ,iZ,iZ])∧Hid (∃dv',ya6 w' base gb dv' B')∧Hid (DStp base L w w'))
  (fun _ _=>0) rfl ?pass ?first
 case pass =>
  intro a1 w1 hJ J' hJ';clear hJ'
  iterate 138 obtain ⟨_,hJ⟩:=hJ
  obtain ⟨rfl,HX0,HBE,HBK,HST⟩:=hJ;have r0:=HBE.out.cell 0;have r1:=HBE.out.cell 1;have r2:=HBE.out.cell 2;have r3:=HBE.out.cell 3;have r4:=HBE.out.cell 4;simp only [gz,gs] at r0 r1 r2 r3 r4;have rf0:=HBE.out.frozen 0;have rf1:=HBE.out.frozen 1;have rf2:=HBE.out.frozen 2;have rf3:=HBE.out.frozen 3;have rf4:=HBE.out.frozen 4;have kex:=HBE.out.lt
  go_wp2_with fail
  have hf:=(((((HBE.out.set 0 (iZ)).set 1 (iZ)).set 2 (iZ)).set 3 (iZ)).set 4 (iZ));have q0:World.cell? _ ⟨w.heap.size+1,0,none⟩=some (iZ):=hf.cell 0;have q1:World.cell? _ ⟨w.heap.size+1,1,none⟩=some (iZ):=hf.cell 1;have q2:World.cell? _ ⟨w.heap.size+1,2,none⟩=some (iZ):=hf.cell 2;have q3:World.cell? _ ⟨w.heap.size+1,3,none⟩=some (iZ):=hf.cell 3;have q4:World.cell? _ ⟨w.heap.size+1,4,none⟩=some (iZ):=hf.cell 4;obtain ⟨dv2,HV2⟩:=HBK.out;have hz:=HX0.out;subst hz;refine bodyPost_ret (v:=.tuple #[.agg #[iZ,iZ,iZ,iZ,iZ],iV E]) (by simp [results,Tryz.results65,go_sem,q0,q1,q2,q3,q4]) rfl ⟨dv2,rfl,ycf (by repeat (first | with_reducible exact yab.refl _ _ | with_reducible refine yab.alloc ?_ _ | with_reducible refine yab.drew ?_ | with_reducible refine yab.setCell ?_ (.inl (List.mem_cons_self ..)) _)) HV2 HST.out HBE.out HBS.out (hLl.out _ hL.out.1)⟩
 case first =>
  intro J' hJJ hrest;have HJ:=lh hJJ;clear hJJ hrest;go_upto_region 1 with fail
  obtain ⟨W1,hW1,HBC1,HBE1,HS1,HZ1,HBW1⟩:∃W1,((w.alloc (.cells #[iV c.a,iV c.b,iV c.c,iV c.d,iV c.e] 48)).alloc (.cells #[iZ,iZ,iZ,iZ,iZ] 150))=W1∧Hid (Blk W1 w.heap.size 48 [iV c.a,iV c.b,iV c.c,iV c.d,iV c.e])∧Hid (Blk W1 (w.heap.size+1) 150 [iZ,iZ,iZ,iZ,iZ])∧Hid (DStp base L w W1)∧Hid (W1.heap.size=w.heap.size+2)∧Hid (Below w.heap.size w W1) :=
   ⟨_,rfl,(yae w _ _ _ rfl).below (yaa bR _),ybc _ _ _ _ (World.size_alloc _ _),⟨((Below.refl base w).alloc HBS.out _).alloc (by rw [World.size_alloc];have:=HBS.out;omega) _,((yab.refl _ _).alloc _).alloc _⟩,(show _=_ by simp only [World.size_alloc]),yaa (yaa bR _) _⟩
  with_reducible rw [hW1]
  clear hW1 c7 kg;have HA1:=lh (h.out _ HS1.out.below);have c7:W1.cell? ⟨g,7,none⟩=some (iV A.today):=HA1.out.blk.cell 7;have kg:=HA1.out.blk.lt;have d3:W1.cell? ⟨w.heap.size,3,none⟩=some (iV c.d):=HBC1.out.cell 3;have kdx:=HBC1.out.lt
  go_cut [8] (fun s8 wx=>∃b8,s8=pV b8∧Hid (Blk wx b8 150 [iZ,iV A.today,iZ,iV c.d,iZ])∧Hid (W1.heap.size≤b8)∧Hid (Below W1.heap.size W1 wx))
  case first =>
   go_region
   all_goals
    go_wp2_with fail
    go_meet
    case rel=>exact ⟨_,rfl,(yae W1 _ _ _ rfl).below (yaf bR),Nat.le_refl _,yaf (yaa bR _)⟩
  case rest =>
   clear c7 kg d3 kdx;obtain ⟨b8,rfl,HB8,HG8,HW8⟩:=hcut
   have K1:Hid (EvW w base gb L c dv b b8 [iZ,iV A.today,iZ,iV c.d,iZ] wc) :=
    ⟨HBC1.out.below HW8.out,HBE1.out.below HW8.out,HB8.out,by have h1:=HG8.out;have h2:=HZ1.out;omega,HV.out.below (yad HBW1.out HW8.out),⟨HS1.out.below.trans (HW8.out.mono (Nat.le_trans HBS.out HS1.out.keep.size)),HS1.out.keep.below HW8.out⟩⟩
   have hE2:=hE.out;unfold yfz at hE2;have HE2:=lh hE2;clear hE2
   by_cases hk2:c.a=2
   ·have hk7:c.a≠7:=by omega
    have k2:(c.a != 2)=false:=by simpa using hk2
    have d0:=K1.out.bc.cell 0;have d1:=K1.out.bc.cell 1;have d2:=K1.out.bc.cell 2;have d3:=K1.out.bc.cell 3;simp only [gz,gs] at d0 d1 d2 d3;have kdx:=K1.out.bc.lt;have k7:(c.a == 7)=false:=by simpa using hk7
    by_cases am1:c.d<1
    ·exact zq44d5a1
    ·by_cases am2:1000000000000000<c.d
     ·exact zq44d5a1
     ·exact zq44b947
   ·have k2:(c.a != 2)=true:=by simpa using hk2
    have d0:=K1.out.bc.cell 0;have d1:=K1.out.bc.cell 1;have d2:=K1.out.bc.cell 2;have d3:=K1.out.bc.cell 3;simp only [gz,gs] at d0 d1 d2 d3;have kdx:=K1.out.bc.lt;have e0:=K1.out.bl.cell 0;have e1:=K1.out.bl.cell 1;have e2:=K1.out.bl.cell 2;have e3:=K1.out.bl.cell 3;have e4:=K1.out.bl.cell 4;simp only [gz,gs] at e0 e1 e2 e3 e4;have ef0:=K1.out.bl.frozen 0;have ef1:=K1.out.bl.frozen 1;have ef2:=K1.out.bl.frozen 2;have ef3:=K1.out.bl.frozen 3;have ef4:=K1.out.bl.frozen 4;have k8:=K1.out.bl.lt;have r0:=K1.out.be.cell 0;have r1:=K1.out.be.cell 1;have r2:=K1.out.be.cell 2;have r3:=K1.out.be.cell 3;have r4:=K1.out.be.cell 4;simp only [gz,gs] at r0 r1 r2 r3 r4;have rf0:=K1.out.be.frozen 0;have rf1:=K1.out.be.frozen 1;have rf2:=K1.out.be.frozen 2;have rf3:=K1.out.be.frozen 3;have rf4:=K1.out.be.frozen 4;have krx:=K1.out.be.lt;obtain ⟨tr,htr⟩:∃tr,decide (1≤c.c∧c.c≤(A.t.ts.length:Int))=tr:=⟨_,rfl⟩
    have HTRI:Hid (tr=true↔1≤c.c∧c.c≤(A.t.ts.length:Int)):= by
     show _↔_;rw [←htr];exact decide_eq_true_iff
    clear htr;go_upto_region 5 with fail
    obtain ⟨W2,hW,K2⟩:∃W,wc.setCell ⟨b8,2,none⟩ (iV c.c)=W∧Hid (EvW w base gb L c dv b b8 [iZ,iV A.today,iV c.c,iV c.d,iZ] W):=⟨_,rfl,(K1.out.set HBS.out (hLl.out _ hL.out.1) 2 (iV c.c))⟩
    with_reducible rw [hW]
    clear hW;clear d0 d1 d2 d3 kdx;clear e0 e1 e2 e3 e4 ef0 ef1 ef2 ef3 ef4 k8 r0 r1 r2 r3 r4 rf0 rf1 rf2 rf3 rf4 krx;have d0:=K2.out.bc.cell 0;have d1:=K2.out.bc.cell 1;have d2:=K2.out.bc.cell 2;have d3:=K2.out.bc.cell 3;simp only [gz,gs] at d0 d1 d2 d3;have kdx:=K2.out.bc.lt
    go_wp2_with fail
    refine (yeu lo g A F V c.c tr HTRI _ (h.out _ K2.out.st.below)).mono ?_;rintro _ w3 ⟨rfl,hb3⟩;have K3:=lh (K2.out.below hb3 HBS.out);clear hb3;clear d0 d1 d2 d3 kdx;have d0:=K3.out.bc.cell 0;have d1:=K3.out.bc.cell 1;have d2:=K3.out.bc.cell 2;have d3:=K3.out.bc.cell 3;simp only [gz,gs] at d0 d1 d2 d3;have kdx:=K3.out.bc.lt;cases tr with
    | false =>
     have hntr:¬(1≤c.c∧c.c≤(A.t.ts.length:Int)):=fun hh=>by have:=HTRI.out.2 hh;cases this
     go_wp2_with fail
     obtain rfl:7=E:= by
      have h9:=HE2.out;rw [if_pos ⟨hk2,hntr⟩] at h9;exact h9
     exact zq442b2d
    | true =>
     have HTR:=lh (HTRI.out.1 rfl);clear HTRI
     by_cases hk7:c.a=7
     ·have hk1:(c.a == 1)=false:=by simp;omega
      have hk2':(c.a == 2)=false:=by simpa using hk2
      have hk3:(c.a == 3)=false:=by simp;omega
      have hk4:(c.a == 4)=false:=by simp;omega
      have k7:(c.a == 7)=true:=by simpa using hk7
      by_cases am1:c.d<0
      ·exact zq44a4a4
      ·by_cases am2:10000000<c.d
       ·exact zq44a4a4
       ·exact zq44b947
     ·have hk2':(c.a == 2)=false:=by simpa using hk2
      have k7:(c.a == 7)=false:=by simpa using hk7
      by_cases am1:c.d<1
      ·exact zq444c37
      ·by_cases am2:1000000000000000<c.d
       ·exact zq444c37
       ·have HAM:Hid (¬(c.a=7∧(c.d<0∨10000000<c.d)∨c.a≠7∧(c.d<1∨1000000000000000<c.d))):=(fun h=>by rcases h with h | h <;> omega)
        by_cases hk1:c.a=1
        ·have hk1':(c.a == 1)=true:=by simpa using hk1
         exact absurd HKK.out om
        ·have hk1':(c.a == 1)=false:=by simpa using hk1
         by_cases hk3:c.a=3
         ·have hk3':(c.a == 3)=true:=by simpa using hk3
          exact absurd HKK.out om
         ·have hk3':(c.a == 3)=false:=by simpa using hk3
          have hk4:c.a=4:=by have:=HKK.out;omega
          have hk4':(c.a == 4)=true:=by simpa using hk4
          have HA3:=lh (h.out _ K3.out.st.below);have kg:=HA3.out.blk.lt;have hk1n:¬c.a=1:=by omega
          have hk3n:¬c.a=3:=by omega
          obtain ⟨ao,pc,e,p1,p2,p3⟩:=HA3.out.rd.now.2.2.2.1;obtain ⟨k,hkc⟩:∃k:Nat,c.c=(k:Int)+1:=⟨(c.c-1).toNat,by have:=HTR.out;omega⟩;have hkl:k<A.R.p.bs.length:=by have h1:=hbs.out;have h2:=HTR.out;omega
          obtain ⟨pb,po,rfl,p4⟩:=p3 (List.length_pos_iff.1 om);have HKC:=lh hkc;obtain ⟨y,hy⟩:∃y,A.R.p.bs.getD k 0=y:=⟨_,rfl⟩;have HY:=lh hy;have hck:=p4 k hkl;rw [hy] at hck;obtain ⟨n,hn⟩:∃n,A.R.p.bs.length=n:=⟨_,rfl⟩;have a11:w3.cell? ⟨g,11,none⟩=some (.slice (some ⟨pb,po,none⟩) n pc):=by rw [←hn,←e];exact HA3.out.blk.cell 11
          have hkn:k<n:=by omega
          have hkw:IntKind.i64.wrap (c.c-1)=(k:Int):= by
           rw [IntWalk.i64_left,IntWalk.wrap64_in _ ⟨by omega,by have h1:=hbs.out;omega⟩];omega
          have hkw2:wrap64 (c.c-1)=(k:Int):=by rw [←IntWalk.i64_left];exact hkw
          have hkn2:(k:Int)<(n:Int):=by omega
          have hKB:n≤1000:=by have h1:=hbs.out;omega
          clear hn hy p4 hkl hkc e p1 p2 p3;obtain ⟨Eo,hEo⟩:∃q,yd6 b c.c c.d=q:=⟨_,rfl⟩;obtain ⟨r,hr⟩:∃q,yh6 b c.c c.d=q:=⟨_,rfl⟩;have HOE:=lh hEo;have HOR:=lh hr;clear hEo hr
          by_cases hlb:y<c.d
          ·have hlb':decide (y<c.d)=true:=by simpa using hlb
           go_upto_region 25 with fail
           go_quiet (fail)
           go_wp2_with fail
           obtain rfl:9=E:= by
            have h9:=HE2.out;rw [if_neg (fun h=>h.2 HTR.out),if_neg HAM.out,if_neg hk1n,if_neg hk3n,if_pos hk4,show (c.c-1).toNat=k from by have:=HKC.out;omega,HY.out,if_pos hlb] at h9;exact h9
           have hz:x=yax:=by rw [←hx.out];unfold evEv;rw [if_pos (by rw [hE.out];decide)]
           have hbk:B'=b:=by rw [←hB'.out];unfold evBk;rw [if_neg (fun h=>by have:=h.1;rw [hE.out] at this;exact absurd this (by decide))]
           subst hbk
           go_step3
           exact ⟨rfl,HJ.out _ _ (x10 (x10 (x10 (x10 (x10 (x10 (x10 (x10 (x10 (x10 (x10 (x10 (x10 ⟨_,_,_,_,_,_,_,_,rfl,hz,(K3.out.below (yfn bR _) HBS.out).be,⟨_,(K3.out.below (yfn bR _) HBS.out).bk⟩,(K3.out.below (yfn bR _) HBS.out).st⟩)))))))))))))⟩
          ·have hlb':decide (y<c.d)=false:=decide_eq_false hlb
           have HLB:=lh hlb;go_upto_region 25 with fail
           go_quiet (fail)
           obtain ⟨wq,hwq,HBQ⟩:∃wq,w3.drewN nq=wq∧Hid (Below w3.heap.size w3 wq):=⟨_,rfl,yfn bR _⟩;try with_reducible rw [hwq]
           clear hwq a11 hck hkw hkw2 kg d0 d1 d2 d3 kdx;have KQ:=lh (K3.out.below HBQ.out HBS.out);have HAQ:=lh (h.out _ KQ.out.st.below);have a7:wq.cell? ⟨g,7,none⟩=some (iV A.today):=HAQ.out.blk.cell 7;have kg:=HAQ.out.blk.lt;have d2:=KQ.out.bc.cell 2;have d3:=KQ.out.bc.cell 3;simp only [gz,gs] at d2 d3;have kdx:=KQ.out.bc.lt
           have hs0:wq.drew.cell? ⟨w.heap.size,2,none⟩=some (iV c.c)∧wq.drew.cell? ⟨w.heap.size,3,none⟩=some (iV c.d)∧wq.drew.cell? ⟨g,7,none⟩=some (iV A.today):= by
            have q:=KQ.out.below (yaf bR) HBS.out;exact ⟨q.bc.cell 2,q.bc.cell 3,(h.out _ q.st.below).blk.cell 7⟩
           go_upto_region 26 with fail
           refine yan (fun W'=>W'.cell? ⟨w.heap.size,2,none⟩=some (iV c.c)∧W'.cell? ⟨w.heap.size,3,none⟩=some (iV c.d)∧W'.cell? ⟨g,7,none⟩=some (iV A.today)) 13 kr ?_;refine tk 0 rfl kr ke rfl kv ka kp ?_;refine tk 1 rfl kr ke rfl kv ka kp ?_;refine tk 2 rfl kr ke rfl kv ka kp ?_;refine tk 3 rfl kr ke rfl kv ka kp ?_;refine tk 4 rfl kr ke rfl kv ka kp ?_;refine tk 5 rfl kr ke rfl kv ka kp ?_;refine tk 6 rfl kr ke rfl kv ka kp ?_;refine tk 7 rfl kr ke rfl kv ka kp ?_;refine tk 8 rfl kr ke rfl kv ka kp ?_;refine wo 9 kr rfl fun K hK=>?_;go_simp;refine (yon base gb dv b c.c A.today c.d _ (KQ.out.below (yaf bR) HBS.out).bk (Nat.le_trans HBS.out (KQ.out.below (yaf bR) HBS.out).st.keep.size) L hL).mono ?_;rintro _ w5 ⟨dv5,rfl,hv5,hs5⟩;rw [HOE.out,HOR.out];have K5:=lh ((KQ.out.below (yaf bR) HBS.out).open' hs5 hv5 hLl.out);have HA5:=lh (h.out _ K5.out.st.below);have hs5:w5.cell? ⟨w.heap.size,2,none⟩=some (iV c.c)∧w5.cell? ⟨w.heap.size,3,none⟩=some (iV c.d)∧w5.cell? ⟨g,7,none⟩=some (iV A.today):=⟨K5.out.bc.cell 2,K5.out.bc.cell 3,HA5.out.blk.cell 7⟩;clear hv5;have e0:=K5.out.bl.cell 0;have e1:=K5.out.bl.cell 1;have e2:=K5.out.bl.cell 2;have e3:=K5.out.bl.cell 3;have e4:=K5.out.bl.cell 4;simp only [gz,gs] at e0 e1 e2 e3 e4;have ef0:=K5.out.bl.frozen 0;have ef1:=K5.out.bl.frozen 1;have ef2:=K5.out.bl.frozen 2;have ef3:=K5.out.bl.frozen 3;have ef4:=K5.out.bl.frozen 4;have k8:=K5.out.bl.lt;have r0:=K5.out.be.cell 0;have r1:=K5.out.be.cell 1;have r2:=K5.out.be.cell 2;have r3:=K5.out.be.cell 3;have r4:=K5.out.be.cell 4;simp only [gz,gs] at r0 r1 r2 r3 r4;have rf0:=K5.out.be.frozen 0;have rf1:=K5.out.be.frozen 1;have rf2:=K5.out.be.frozen 2;have rf3:=K5.out.be.frozen 3;have rf4:=K5.out.be.frozen 4;have krx:=K5.out.be.lt;refine hK.out _ _ (fun hun=>hs5) ?_;clear hK K;try simp only [ap,aq,sa,sb,sc]
           refine tf 10 rfl kr ke rfl kv hs5 kp ?_;refine tf 11 rfl kr ke rfl kv hs5 kp ?_;refine tf 12 rfl kr ke rfl kv hs5 kp ?_;refine wo 13 kr rfl fun K hK=>?_;go_simp;refine hK.out _ _ kd ?_;clear hK K;try simp only [ap,aq,sa,sb,sc]
           refine wo 14 kr rfl fun K hK=>?_;go_simp;refine hK.out _ _ kd ?_;clear hK K;try simp only [ap,aq,sa,sb,sc]
           refine wo 15 kr rfl fun K hK=>?_;go_simp;refine hK.out _ _ kd ?_;clear hK K;try simp only [ap,aq,sa,sb,sc]
           refine yal kr ?_ _;clear hs0 hs5;obtain ⟨W6,hW,KS⟩:∃W,w5.setCell ⟨b8,4,none⟩ (iV r)=W∧Hid (EvW w base gb L c dv5 (yfp b c.c A.today c.d) b8 [iZ,iV A.today,iV c.c,iV c.d,iV r] W):=⟨_,rfl,K5.out.set HBS.out (hLl.out _ hL.out.1) 4 (iV r)⟩
           with_reducible rw [hW]
           clear hW
           by_cases hEz:Eo=0
           ·subst hEz
            clear a7 kg d2 d3 kdx;clear e0 e1 e2 e3 e4 ef0 ef1 ef2 ef3 ef4 k8 r0 r1 r2 r3 r4 rf0 rf1 rf2 rf3 rf4 krx;have e0:=KS.out.bl.cell 0;have e1:=KS.out.bl.cell 1;have e2:=KS.out.bl.cell 2;have e3:=KS.out.bl.cell 3;have e4:=KS.out.bl.cell 4;simp only [gz,gs] at e0 e1 e2 e3 e4;have ef0:=KS.out.bl.frozen 0;have ef1:=KS.out.bl.frozen 1;have ef2:=KS.out.bl.frozen 2;have ef3:=KS.out.bl.frozen 3;have ef4:=KS.out.bl.frozen 4;have k8:=KS.out.bl.lt;have r0:=KS.out.be.cell 0;have r1:=KS.out.be.cell 1;have r2:=KS.out.be.cell 2;have r3:=KS.out.be.cell 3;have r4:=KS.out.be.cell 4;simp only [gz,gs] at r0 r1 r2 r3 r4;have rf0:=KS.out.be.frozen 0;have rf1:=KS.out.be.frozen 1;have rf2:=KS.out.be.frozen 2;have rf3:=KS.out.be.frozen 3;have rf4:=KS.out.be.frozen 4;have krx:=KS.out.be.lt
            obtain rfl:0=E:= by
             exact zq44b3f3
            have HXX:(⟨4,A.today,c.c,c.d,r⟩:R5)=x:= by
             rw [←hx.out];unfold evEv;rw [if_neg (by rw [hE.out];simp),if_neg hk1n,if_neg hk2,if_neg hk3n,if_pos hk4,HOR.out]
            have hbk:yfp b c.c A.today c.d=B':=by rw [←hB'.out];unfold evBk;rw [if_pos ⟨hE.out,hk4⟩]
            rw [hbk] at KS;have HK4:=lh hk4;clear hbk;go_upto_region 31 with fail
            obtain ⟨W5,hW,K7⟩:∃W,W6.setCell ⟨b8,0,none⟩ (iV 4)=W∧Hid (EvW w base gb L c dv5 B' b8 [iV 4,iV A.today,iV c.c,iV c.d,iV r] W):=⟨_,rfl,KS.out.set HBS.out (hLl.out _ hL.out.1) 0 (iV 4)⟩
            with_reducible rw [hW]
            clear hW;clear e0 e1 e2 e3 e4 ef0 ef1 ef2 ef3 ef4 k8 r0 r1 r2 r3 r4 rf0 rf1 rf2 rf3 rf4 krx;have e0:=K7.out.bl.cell 0;have e1:=K7.out.bl.cell 1;have e2:=K7.out.bl.cell 2;have e3:=K7.out.bl.cell 3;have e4:=K7.out.bl.cell 4;simp only [gz,gs] at e0 e1 e2 e3 e4;have ef0:=K7.out.bl.frozen 0;have ef1:=K7.out.bl.frozen 1;have ef2:=K7.out.bl.frozen 2;have ef3:=K7.out.bl.frozen 3;have ef4:=K7.out.bl.frozen 4;have k8:=K7.out.bl.lt;have r0:=K7.out.be.cell 0;have r1:=K7.out.be.cell 1;have r2:=K7.out.be.cell 2;have r3:=K7.out.be.cell 3;have r4:=K7.out.be.cell 4;simp only [gz,gs] at r0 r1 r2 r3 r4;have rf0:=K7.out.be.frozen 0;have rf1:=K7.out.be.frozen 1;have rf2:=K7.out.be.frozen 2;have rf3:=K7.out.be.frozen 3;have rf4:=K7.out.be.frozen 4;have krx:=K7.out.be.lt
            go_wp2_with fail
            have hf:=(((((K7.out.be.set 0 (iV (4))).set 1 (iV (A.today))).set 2 (iV (c.c))).set 3 (iV (c.d))).set 4 (iV (r)));have q0:World.cell? _ ⟨w.heap.size+1,0,none⟩=some (iV (4)):=hf.cell 0;have q1:World.cell? _ ⟨w.heap.size+1,1,none⟩=some (iV (A.today)):=hf.cell 1;have q2:World.cell? _ ⟨w.heap.size+1,2,none⟩=some (iV (c.c)):=hf.cell 2;have q3:World.cell? _ ⟨w.heap.size+1,3,none⟩=some (iV (c.d)):=hf.cell 3;have q4:World.cell? _ ⟨w.heap.size+1,4,none⟩=some (iV (r)):=hf.cell 4;refine bodyPost_ret (v:=.tuple #[.agg #[iV (4),iV (A.today),iV (c.c),iV (c.d),iV (r)],iZ]) (by simp [results,Tryz.results65,go_sem,q0,q1,q2,q3,q4]) rfl ⟨_,?_,ycf (by repeat (first | with_reducible exact yab.refl _ _ | with_reducible refine yab.alloc ?_ _ | with_reducible refine yab.drew ?_ | with_reducible refine yab.setCell ?_ (.inl (List.mem_cons_self ..)) _)) K7.out.bk K7.out.st K7.out.be HBS.out (hLl.out _ hL.out.1)⟩;rw [←HXX]
           ·have hEz':(Eo != 0)=true:=by simpa using hEz
            go_wp2_with fail
            obtain rfl:Eo=E:= by
             exact zq44b3f3
            have hz:x=yax:=by rw [←hx.out];unfold evEv;rw [if_pos (by rw [hE.out];exact hEz)]
            have hbk:B'=b:=by rw [←hB'.out];unfold evBk;rw [if_neg (fun h=>by have:=h.1;rw [hE.out] at this;exact hEz this)]
            have hob:yfp b c.c A.today c.d=b:=by unfold yfp;rw [if_neg (by rw [HOE.out];exact hEz)]
            subst hbk;have hbk:=KS.out.bk;rw [hob] at hbk
            go_step3
            exact ⟨rfl,HJ.out _ _ (x10 (x10 (x10 (x10 (x10 (x10 (x10 (x10 (x10 (x10 (x10 (x10 (x10 ⟨_,_,_,_,_,_,_,_,rfl,hz,KS.out.be,⟨_,hbk⟩,KS.out.st⟩)))))))))))))⟩
theorem yoh (lo g base gb:Nat) (A:Acc) (F:List Nat) (V:AV) (dv:Value) (b:Bk) (c:R5) (hk:c.a=1∨c.a=2∨c.a=3∨c.a=4∨c.a=7) (x:R5) (hx:Hid (evEv A b c=x)) (E:Int) (hE:Hid (yfz A b c=E)) (B':Bk) (hB':Hid (evBk A b c=B')) (hbs:Hid (A.R.p.bs.length=A.t.ts.length∧A.t.ts.length≤1000)) (L:List Nat) (hL:Hid (gb∈L∧∀q,dv.ownBlock=some q→q∈L)) (w:World) (hLl:Hid (∀y∈L,y<w.heap.size)) (hb:base≤w.heap.size) (hv:ya6 w base gb dv b) (h:Hid (∀W,Below base w W→ybe lo g A F W V)) :
 Calls Tryz.prog 65 #[pV g,.agg #[iV c.a,iV c.b,iV c.c,iV c.d,iV c.e],pV gb] w (yn4 x E base gb B' L w):= by
 by_cases h1:c.a=2∨c.a=7
 ·exact yl2 lo g base gb A F V dv b c h1 x hx E hE B' hB' hbs L hL w hLl hb hv h
 ·by_cases h2:c.a=1∨c.a=3
  ·exact ym3 lo g base gb A F V dv b c h2 x hx E hE B' hB' hbs L hL w hLl hb hv h
  ·exact ym4 lo g base gb A F V dv b c om x hx E hE B' hB' hbs L hL w hLl hb hv h
theorem ybe.store {lo g:Nat} {A A':Acc} {F:List Nat} {w w':World} {V V':AV} (h:ybe lo g A F w V) (hk:yab [g] w w') (hB:Blk w' g 89 (ybu A' V')) (hr:Rd F w (jai A' V')) (hi:A'.iss=A.iss) (h1:V'.iv=V.iv) (h2:V'.ivs=V.ivs) (h3:V'.av=V.av) (hs:A.seq≤A'.seq):ybe lo g A' F w' V':= by
 have hg1:∀x∈[g],x∈F:=fun x hx=>by simp only [ms] at hx;exact hx▸h.gF
 obtain ⟨n0,cs0,hn0,h10,h0⟩:=h.adj;refine ⟨hB,h.gF,fun x hx=>⟨(h.lt x hx).1,Nat.lt_of_lt_of_le (h.lt x hx).2 hk.size⟩,hr.step hk (fun x hx=>.inl (hg1 x hx)) (fun x hx=>.inl hx),?_,fun q hq=>h.issF q (h1▸hq),⟨n0,cs0,?_,h10,?_⟩,fun q hq=>h.adjF q (h3▸hq)⟩
 ·rw [hi,h1,h2]
  exact yap h.iss hk (fun q hq hm=>by
   simp only [ms] at hm;subst hm;exact yaj h.iss h.blk (by decide) hq.symm)
 ·have:A.seq.toNat≤A'.seq.toNat:=by omega
  exact Nat.le_trans hn0 (Nat.mul_le_mul_right _ this)
 ·rw [h3]
  exact yap h0 hk (fun q hq hm=>by
   simp only [ms] at hm;subst hm;exact yaj h0 h.blk (by decide) hq.symm)
theorem ybe.seqUp {lo g:Nat} {A:Acc} {F:List Nat} {w:World} {V:AV} (h:ybe lo g A F w V):ybe lo g { A with seq:=A.seq+1 } F (w.setCell ⟨g,8,none⟩ (iV (A.seq+1))) V :=
 h.store ((yab.refl _ _).sg _) (h.blk.set 8 _) (h.rd.imp fun W q=>q) rfl rfl rfl rfl (by show A.seq≤A.seq+1;omega)
theorem ybe.setBook {lo g gb':Nat} {A:Acc} {F:List Nat} {w:World} {V:AV} {dv':Value} {b':Bk} (h:ybe lo g A F w V) (hb:Rd F w (fun W=>ya6 W 0 gb' dv' b')):ybe lo g { A with bk:=b' } F (w.setCell ⟨g,10,none⟩ (pV gb')) { V with gb:=gb',dv:=dv' } :=
 h.store ((yab.refl _ _).sg _) (h.blk.set 10 _) ((h.rd.and hb).imp fun W q=>⟨q.1.1,q.1.2.1,q.2,q.1.2.2.2⟩) rfl rfl rfl rfl (Int.le_refl _)
end Go.Proofs.YtkongpjpkpfniaaGreat

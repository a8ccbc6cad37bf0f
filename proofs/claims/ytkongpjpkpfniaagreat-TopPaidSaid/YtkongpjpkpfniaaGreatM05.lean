/- TopPaid: parts of the proof, made small by a program (mini.py). -/
import Derived.Deep.CutBlock
import Derived.Deep.DeepCutAuto
import Derived.Test.YtkongpjpkpfniaaGreatM01
import Derived.Test.YtkongpjpkpfniaaGreatM02
import Derived.Test.YtkongpjpkpfniaaGreatM04
set_option linter.unusedVariables false
set_option linter.unusedSimpArgs false
set_option maxRecDepth 100000
set_option maxHeartbeats 6400000
namespace Go.Proofs.YtkongpjpkpfniaaGreat
open Go.RowKit
theorem zq05d4d5 {q:Prop} (h:q:= by
 have HR:=hr;clear hr
 go_wp2_with fail
 refine (yc3 HF.out _).mono ?_;rintro e w2 ⟨rfl,rfl⟩;exact zq05e5c2):q:=h
theorem zq05371c {q:Prop} (h:q:= by
 go_upto_region 10 with fail
 cases d7:decide (day<start) with
 | true =>
  simp [d1,d2,d3,d4,d5,d6,d7] at hr;have HR:=hr;clear hr;exact zq05e5c2
 | false =>
  cases d8:decide (2932896<day) with
  | true =>
   simp [d1,d2,d3,d4,d5,d6,d7,d8] at hr;have HR:=hr;clear hr;exact zq05e5c2
  | false =>
   go_upto_region 12 with fail
   cases d9:ref != 0 with
   | true =>
    simp [d1,d2,d3,d4,d5,d6,d7,d8,d9] at hr;have HR:=hr;clear hr
    go_wp2_with fail
    refine (yc3 HF.out _).mono ?_;rintro e w2 ⟨rfl,rfl⟩
    go_wp2_with fail
    refine (yc3 HF.out _).mono ?_;rintro e w2 ⟨rfl,rfl⟩;exact zq05e5c2
   | false =>
    simp [d1,d2,d3,d4,d5,d6,d7,d8,d9] at hr;exact zq05b32b):q:=h
theorem zq05fb7e {q:Prop} (h:q:= by
 intro a1 w1 hJ J' hJ';clear hJ'
 iterate 106 obtain ⟨_,hJ⟩:=hJ
 obtain ⟨rfl,hb⟩:=hJ;go_wp2
 simp only [Exit.jump];go_ret
 exact ⟨rfl,hb⟩):q:=h
theorem zq05b32b {q:Prop} (h:q:= by
 have HR:=hr;clear hr
 go_wp2_with fail
 refine (yc3 HF.out _).mono ?_;rintro e w2 ⟨rfl,rfl⟩
 go_wp2_with fail
 refine (yc3 HF.out _).mono ?_;rintro e w2 ⟨rfl,rfl⟩;go_wp2
 go_step3
 go_step
 go_step
 exact HREST.out _ _ (x10 (x10 (x10 (x10 (x10 (x10 (x10 (x10 (x10 (x10 ⟨_,_,_,_,_,_,by rw [←HR.out],hb⟩))))))))))):q:=h
theorem zq05e5c2 {q:Prop} (h:q:= by
 go_wp2
 go_step3
 exact ⟨rfl,HJ.out _ _ (x10 (x10 (x10 (x10 (x10 (x10 (x10 (x10 (x10 (x10 ⟨_,_,_,_,_,_,by rw [←HR.out],hb⟩))))))))))⟩):q:=h
def refd (kind:Int):Bool:=kind == 4 || kind == 5
def ygo (lim:Int) (ts:List (Int×Bool)) (cyc dued minf minp start kind day tr am ref:Int):Int :=
 if yaw lim ts cyc dued minf minp start=false then 6
 else if (decide (kind<1) || decide (6<kind))=true then 1
 else if (if kind == 2 then tr != 0 else decide (tr<1) || decide ((ts.length:Int)<tr))=true then 7
 else if (if kind == 6 then decide (am<0) || decide (10000000<am) else decide (am<1) || decide (1000000000000000<am))=true then 8
 else if (decide (day<start) || decide (2932896<day))=true then 10
 else if (if refd kind then decide (ref<1) || decide (2000<ref) else ref != 0)=true then 1
 else 0
theorem yn7 (kind:Int) (w:World):Calls Tryz.prog 178 #[iV kind] w (Ret (.bool (refd kind)) w):= by
 cases h4:kind == 4 with
 | true =>
  go_enter Tryz.func178,Tryz.ntmps178
  go_wp2
  go_ret
  simp [Ret,refd,h4]
 | false =>
  go_enter Tryz.func178,Tryz.ntmps178
  go_wp2
  go_ret
  simp [Ret,refd,h4]
theorem yc3 {kind:Int} {r:Bool} (h:refd kind=r) (w:World):Calls Tryz.prog 178 #[iV kind] w (Ret (.bool r) w):=by rw [←h];exact yn7 kind w
theorem yme (v:Value) (ts:List (Int×Bool)) (lim cyc dued minf minp start kind day tr am ref r:Int) (ht:Hid (yaw lim ts cyc dued minf minp start=false)) (HR:Hid (6=r)) (w:World) (hv:TrS w v ts) :
 Calls Tryz.prog 135 #[.agg #[iV lim,v,iV cyc,iV dued,iV minf,iV minp,iV start],.agg #[iV kind,iV day,iV tr,iV am,iV ref]] w (RetB (iV r) w):= by
 have HV:=lh hv;obtain ⟨ao,cap,rfl,h1,⟨h2,_⟩,h3⟩:=hv;clear h3;unfold maxLen at h2;have hb0:Below w.heap.size w ((w.alloc (.cells #[iV lim,.slice ao ts.length cap,iV cyc,iV dued,iV minf,iV minp,iV start] 24)).alloc (.cells #[iV kind,iV day,iV tr,iV am,iV ref] 150)):=(bR.alloc (Nat.le_refl _) _).alloc (by simp) _
 go_enter Tryz.func135,Tryz.ntmps135
 go_wp2
 refine yai 0 (fun a' w'=>∃(u0 u1 u2 u3 u4 u6 u7 u8 u9 u10 u11 u12 u13 u14 u15 u16 u17 u18 u19 u20 u21 u22 u23 u24 u25 u26 u27 u28 u29 u30 u31 u32 u33 u34 u35 u36 u37 u38 u39 u40 u41 u42 u43 u44 u45 u46 u47 u48 u49 u50 u51 u52 u53 u54 u55 u56 u57 u58 u59 u60 u61 u62 u63 u64 u65 u66 u67 u68 u69 u70 u71 u72 u73 u74 u75 u76 u77 u78 u79 u80 u81 u82 u83 u84 u85 u86 u87 u88 u89 u90 u91 u92 u93 u94 u95 u96 u97 u98 u99 u100 u101 u102 u103 u104 u105 u106:Value),a'={ tmps:=#[u0,u1,u2,u3,u4,iV r,u6,u7,u8,u9,u10,u11,u12,u13,u14,u15,u16,u17,u18,u19,u20,u21,u22,u23,u24,u25,u26,u27,u28,u29,u30,u31,u32,u33,u34,u35,u36,u37,u38,u39,u40,u41,u42,u43,u44,u45,u46,u47,u48,u49,u50,u51,u52,u53,u54,u55,u56,u57,u58,u59,u60,u61,u62,u63,u64,u65,u66,u67,u68,u69,u70,u71,u72,u73,u74,u75,u76,u77,u78,u79,u80,u81,u82,u83,u84,u85,u86,u87,u88,u89,u90,u91,u92,u93,u94,u95,u96,u97,u98,u99,u100,u101,u102,u103,u104,u105,u106],defers:=[] }∧Below w.heap.size w w')
  (fun _ _=>0) rfl ?pass ?first
 case pass =>
  exact zq05fb7e
 case first =>
  intro J' hJJ hrest;have HJ:=lh hJJ;have HREST:=lh hrest;clear hJJ hrest
  go_wp2_with fail
  refine (yar _ ts lim cyc dued minf minp start 6 (lh (by rw [ht.out];rfl)) _ (HV.out.below hb0)).mono ?_;rintro e w1 ⟨rfl,hb1⟩;have hb:Below w.heap.size w w1:=yad hb0 hb1;exact zq05e5c2
theorem ypl (v:Value) (ts:List (Int×Bool)) (lim cyc dued minf minp start kind day tr am ref r:Int) (hr:Hid (ygo lim ts cyc dued minf minp start kind day tr am ref=r)) (ht:Hid (yaw lim ts cyc dued minf minp start=true)) (e2:(kind == 2)=true) (e2':(kind != 2)=false) (e6:(kind == 6)=false) (e6':(kind != 6)=true) (HF:Hid (refd kind=false)) (w:World) (hv:TrS w v ts) :
 Calls Tryz.prog 135 #[.agg #[iV lim,v,iV cyc,iV dued,iV minf,iV minp,iV start],.agg #[iV kind,iV day,iV tr,iV am,iV ref]] w (RetB (iV r) w):= by
 have HV:=lh hv;obtain ⟨ao,cap,rfl,h1,⟨h2,_⟩,h3⟩:=hv;clear h3;unfold maxLen at h2;have hb0:Below w.heap.size w ((w.alloc (.cells #[iV lim,.slice ao ts.length cap,iV cyc,iV dued,iV minf,iV minp,iV start] 24)).alloc (.cells #[iV kind,iV day,iV tr,iV am,iV ref] 150)):=(bR.alloc (Nat.le_refl _) _).alloc (by simp) _
 go_enter Tryz.func135,Tryz.ntmps135
 go_wp2
 refine yai 0 (fun a' w'=>∃(u0 u1 u2 u3 u4 u6 u7 u8 u9 u10 u11 u12 u13 u14 u15 u16 u17 u18 u19 u20 u21 u22 u23 u24 u25 u26 u27 u28 u29 u30 u31 u32 u33 u34 u35 u36 u37 u38 u39 u40 u41 u42 u43 u44 u45 u46 u47 u48 u49 u50 u51 u52 u53 u54 u55 u56 u57 u58 u59 u60 u61 u62 u63 u64 u65 u66 u67 u68 u69 u70 u71 u72 u73 u74 u75 u76 u77 u78 u79 u80 u81 u82 u83 u84 u85 u86 u87 u88 u89 u90 u91 u92 u93 u94 u95 u96 u97 u98 u99 u100 u101 u102 u103 u104 u105 u106:Value),a'={ tmps:=#[u0,u1,u2,u3,u4,iV r,u6,u7,u8,u9,u10,u11,u12,u13,u14,u15,u16,u17,u18,u19,u20,u21,u22,u23,u24,u25,u26,u27,u28,u29,u30,u31,u32,u33,u34,u35,u36,u37,u38,u39,u40,u41,u42,u43,u44,u45,u46,u47,u48,u49,u50,u51,u52,u53,u54,u55,u56,u57,u58,u59,u60,u61,u62,u63,u64,u65,u66,u67,u68,u69,u70,u71,u72,u73,u74,u75,u76,u77,u78,u79,u80,u81,u82,u83,u84,u85,u86,u87,u88,u89,u90,u91,u92,u93,u94,u95,u96,u97,u98,u99,u100,u101,u102,u103,u104,u105,u106],defers:=[] }∧Below w.heap.size w w')
  (fun _ _=>0) rfl ?pass ?first
 case pass =>
  exact zq05fb7e
 case first =>
  intro J' hJJ hrest;have HJ:=lh hJJ;have HREST:=lh hrest;clear hJJ hrest
  go_wp2_with fail
  refine (yar _ ts lim cyc dued minf minp start 0 (lh (by rw [ht.out];rfl)) _ (HV.out.below hb0)).mono ?_;rintro e w1 ⟨rfl,hb1⟩;have hb:Below w.heap.size w w1:=yad hb0 hb1;obtain ⟨hc,hf⟩:=yx7 hb1;clear hb0 hb1;rw [ygo,ht.out,HF.out,e2,e6] at hr;go_upto_region 4 with fail
  cases d1:decide (kind<1) with
  | true =>
   simp [d1] at hr;have HR:=hr;clear hr;exact zq05e5c2
  | false =>
   cases d2:decide (6<kind) with
   | true =>
    simp [d1,d2] at hr;have HR:=hr;clear hr;exact zq05e5c2
   | false =>
    go_upto_region 6 with fail
    cases d3:tr != 0 with
    | true =>
     simp [d1,d2,d3] at hr;have HR:=hr;clear hr;exact zq05e5c2
    | false =>
     go_upto_region 8 with fail
     cases d4:decide (am<1) with
     | true =>
      simp [d1,d2,d3,d4] at hr;have HR:=hr;clear hr;exact zq05e5c2
     | false =>
      cases d5:decide (1000000000000000<am) with
      | true =>
       simp [d1,d2,d3,d4,d5] at hr;have HR:=hr;clear hr;exact zq05e5c2
      | false =>
       go_upto_region 10 with fail
       cases d6:decide (day<start) with
       | true =>
        simp [d1,d2,d3,d4,d5,d6] at hr;have HR:=hr;clear hr;exact zq05e5c2
       | false =>
        cases d7:decide (2932896<day) with
        | true =>
         simp [d1,d2,d3,d4,d5,d6,d7] at hr;have HR:=hr;clear hr;exact zq05e5c2
        | false =>
         go_upto_region 12 with fail
         cases d8:ref != 0 with
         | true =>
          simp [d1,d2,d3,d4,d5,d6,d7,d8] at hr;have HR:=hr;clear hr
          go_wp2_with fail
          refine (yc3 HF.out _).mono ?_;rintro e w2 ⟨rfl,rfl⟩
          go_wp2_with fail
          refine (yc3 HF.out _).mono ?_;rintro e w2 ⟨rfl,rfl⟩;exact zq05e5c2
         | false =>
          simp [d1,d2,d3,d4,d5,d6,d7,d8] at hr;exact zq05b32b
theorem yod (v:Value) (ts:List (Int×Bool)) (lim cyc dued minf minp start kind day tr am ref r:Int) (hr:Hid (ygo lim ts cyc dued minf minp start kind day tr am ref=r)) (ht:Hid (yaw lim ts cyc dued minf minp start=true)) (e2:(kind == 2)=false) (e2':(kind != 2)=true) (e6:(kind == 6)=true) (e6':(kind != 6)=false) (HF:Hid (refd kind=false)) (w:World) (hv:TrS w v ts) :
 Calls Tryz.prog 135 #[.agg #[iV lim,v,iV cyc,iV dued,iV minf,iV minp,iV start],.agg #[iV kind,iV day,iV tr,iV am,iV ref]] w (RetB (iV r) w):= by
 have HV:=lh hv;obtain ⟨ao,cap,rfl,h1,⟨h2,_⟩,h3⟩:=hv;clear h3;unfold maxLen at h2;have hb0:Below w.heap.size w ((w.alloc (.cells #[iV lim,.slice ao ts.length cap,iV cyc,iV dued,iV minf,iV minp,iV start] 24)).alloc (.cells #[iV kind,iV day,iV tr,iV am,iV ref] 150)):=(bR.alloc (Nat.le_refl _) _).alloc (by simp) _
 go_enter Tryz.func135,Tryz.ntmps135
 go_wp2
 refine yai 0 (fun a' w'=>∃(u0 u1 u2 u3 u4 u6 u7 u8 u9 u10 u11 u12 u13 u14 u15 u16 u17 u18 u19 u20 u21 u22 u23 u24 u25 u26 u27 u28 u29 u30 u31 u32 u33 u34 u35 u36 u37 u38 u39 u40 u41 u42 u43 u44 u45 u46 u47 u48 u49 u50 u51 u52 u53 u54 u55 u56 u57 u58 u59 u60 u61 u62 u63 u64 u65 u66 u67 u68 u69 u70 u71 u72 u73 u74 u75 u76 u77 u78 u79 u80 u81 u82 u83 u84 u85 u86 u87 u88 u89 u90 u91 u92 u93 u94 u95 u96 u97 u98 u99 u100 u101 u102 u103 u104 u105 u106:Value),a'={ tmps:=#[u0,u1,u2,u3,u4,iV r,u6,u7,u8,u9,u10,u11,u12,u13,u14,u15,u16,u17,u18,u19,u20,u21,u22,u23,u24,u25,u26,u27,u28,u29,u30,u31,u32,u33,u34,u35,u36,u37,u38,u39,u40,u41,u42,u43,u44,u45,u46,u47,u48,u49,u50,u51,u52,u53,u54,u55,u56,u57,u58,u59,u60,u61,u62,u63,u64,u65,u66,u67,u68,u69,u70,u71,u72,u73,u74,u75,u76,u77,u78,u79,u80,u81,u82,u83,u84,u85,u86,u87,u88,u89,u90,u91,u92,u93,u94,u95,u96,u97,u98,u99,u100,u101,u102,u103,u104,u105,u106],defers:=[] }∧Below w.heap.size w w')
  (fun _ _=>0) rfl ?pass ?first
 case pass =>
  exact zq05fb7e
 case first =>
  intro J' hJJ hrest;have HJ:=lh hJJ;have HREST:=lh hrest;clear hJJ hrest
  go_wp2_with fail
  refine (yar _ ts lim cyc dued minf minp start 0 (lh (by rw [ht.out];rfl)) _ (HV.out.below hb0)).mono ?_;rintro e w1 ⟨rfl,hb1⟩;have hb:Below w.heap.size w w1:=yad hb0 hb1;obtain ⟨hc,hf⟩:=yx7 hb1;clear hb0 hb1;rw [ygo,ht.out,HF.out,e2,e6] at hr;go_upto_region 4 with fail
  cases d1:decide (kind<1) with
  | true =>
   simp [d1] at hr;have HR:=hr;clear hr;exact zq05e5c2
  | false =>
   cases d2:decide (6<kind) with
   | true =>
    simp [d1,d2] at hr;have HR:=hr;clear hr;exact zq05e5c2
   | false =>
    go_upto_region 6 with fail
    cases d3:decide (tr<1) with
    | true =>
     simp [d1,d2,d3] at hr;have HR:=hr;clear hr;exact zq05e5c2
    | false =>
     cases d4:decide ((ts.length:Int)<tr) with
     | true =>
      simp [d1,d2,d3,d4] at hr;have HR:=hr;clear hr;exact zq05e5c2
     | false =>
      go_upto_region 8 with fail
      cases d5:decide (am<0) with
      | true =>
       simp [d1,d2,d3,d4,d5] at hr;have HR:=hr;clear hr;exact zq05e5c2
      | false =>
       cases d6:decide (10000000<am) with
       | true =>
        simp [d1,d2,d3,d4,d5,d6] at hr;have HR:=hr;clear hr;exact zq05e5c2
       | false =>
        exact zq05371c
theorem yo4 (v:Value) (ts:List (Int×Bool)) (lim cyc dued minf minp start kind day tr am ref r:Int) (hr:Hid (ygo lim ts cyc dued minf minp start kind day tr am ref=r)) (ht:Hid (yaw lim ts cyc dued minf minp start=true)) (e2:(kind == 2)=false) (e2':(kind != 2)=true) (e6:(kind == 6)=false) (e6':(kind != 6)=true) (HF:Hid (refd kind=true)) (w:World) (hv:TrS w v ts) :
 Calls Tryz.prog 135 #[.agg #[iV lim,v,iV cyc,iV dued,iV minf,iV minp,iV start],.agg #[iV kind,iV day,iV tr,iV am,iV ref]] w (RetB (iV r) w):= by
 have HV:=lh hv;obtain ⟨ao,cap,rfl,h1,⟨h2,_⟩,h3⟩:=hv;clear h3;unfold maxLen at h2;have hb0:Below w.heap.size w ((w.alloc (.cells #[iV lim,.slice ao ts.length cap,iV cyc,iV dued,iV minf,iV minp,iV start] 24)).alloc (.cells #[iV kind,iV day,iV tr,iV am,iV ref] 150)):=(bR.alloc (Nat.le_refl _) _).alloc (by simp) _
 go_enter Tryz.func135,Tryz.ntmps135
 go_wp2
 refine yai 0 (fun a' w'=>∃(u0 u1 u2 u3 u4 u6 u7 u8 u9 u10 u11 u12 u13 u14 u15 u16 u17 u18 u19 u20 u21 u22 u23 u24 u25 u26 u27 u28 u29 u30 u31 u32 u33 u34 u35 u36 u37 u38 u39 u40 u41 u42 u43 u44 u45 u46 u47 u48 u49 u50 u51 u52 u53 u54 u55 u56 u57 u58 u59 u60 u61 u62 u63 u64 u65 u66 u67 u68 u69 u70 u71 u72 u73 u74 u75 u76 u77 u78 u79 u80 u81 u82 u83 u84 u85 u86 u87 u88 u89 u90 u91 u92 u93 u94 u95 u96 u97 u98 u99 u100 u101 u102 u103 u104 u105 u106:Value),a'={ tmps:=#[u0,u1,u2,u3,u4,iV r,u6,u7,u8,u9,u10,u11,u12,u13,u14,u15,u16,u17,u18,u19,u20,u21,u22,u23,u24,u25,u26,u27,u28,u29,u30,u31,u32,u33,u34,u35,u36,u37,u38,u39,u40,u41,u42,u43,u44,u45,u46,u47,u48,u49,u50,u51,u52,u53,u54,u55,u56,u57,u58,u59,u60,u61,u62,u63,u64,u65,u66,u67,u68,u69,u70,u71,u72,u73,u74,u75,u76,u77,u78,u79,u80,u81,u82,u83,u84,u85,u86,u87,u88,u89,u90,u91,u92,u93,u94,u95,u96,u97,u98,u99,u100,u101,u102,u103,u104,u105,u106],defers:=[] }∧Below w.heap.size w w')
  (fun _ _=>0) rfl ?pass ?first
 case pass =>
  exact zq05fb7e
 case first =>
  intro J' hJJ hrest;have HJ:=lh hJJ;have HREST:=lh hrest;clear hJJ hrest
  go_wp2_with fail
  refine (yar _ ts lim cyc dued minf minp start 0 (lh (by rw [ht.out];rfl)) _ (HV.out.below hb0)).mono ?_;rintro e w1 ⟨rfl,hb1⟩;have hb:Below w.heap.size w w1:=yad hb0 hb1;obtain ⟨hc,hf⟩:=yx7 hb1;clear hb0 hb1;rw [ygo,ht.out,HF.out,e2,e6] at hr;go_upto_region 4 with fail
  cases d1:decide (kind<1) with
  | true =>
   simp [d1] at hr;have HR:=hr;clear hr;exact zq05e5c2
  | false =>
   cases d2:decide (6<kind) with
   | true =>
    simp [d1,d2] at hr;have HR:=hr;clear hr;exact zq05e5c2
   | false =>
    go_upto_region 6 with fail
    cases d3:decide (tr<1) with
    | true =>
     simp [d1,d2,d3] at hr;have HR:=hr;clear hr;exact zq05e5c2
    | false =>
     cases d4:decide ((ts.length:Int)<tr) with
     | true =>
      simp [d1,d2,d3,d4] at hr;have HR:=hr;clear hr;exact zq05e5c2
     | false =>
      go_upto_region 8 with fail
      cases d5:decide (am<1) with
      | true =>
       simp [d1,d2,d3,d4,d5] at hr;have HR:=hr;clear hr;exact zq05e5c2
      | false =>
       cases d6:decide (1000000000000000<am) with
       | true =>
        simp [d1,d2,d3,d4,d5,d6] at hr;have HR:=hr;clear hr;exact zq05e5c2
       | false =>
        go_upto_region 10 with fail
        cases d7:decide (day<start) with
        | true =>
         simp [d1,d2,d3,d4,d5,d6,d7] at hr;have HR:=hr;clear hr;exact zq05e5c2
        | false =>
         cases d8:decide (2932896<day) with
         | true =>
          simp [d1,d2,d3,d4,d5,d6,d7,d8] at hr;have HR:=hr;clear hr;exact zq05e5c2
         | false =>
          go_upto_region 12 with fail
          cases d9:decide (ref<1) with
          | true =>
           simp [d1,d2,d3,d4,d5,d6,d7,d8,d9] at hr;exact zq05d4d5
          | false =>
           cases d10:decide (2000<ref) with
           | true =>
            simp [d1,d2,d3,d4,d5,d6,d7,d8,d9,d10] at hr;exact zq05d4d5
           | false =>
            simp [d1,d2,d3,d4,d5,d6,d7,d8,d9,d10] at hr;exact zq05b32b
theorem ymn (v:Value) (ts:List (Int×Bool)) (lim cyc dued minf minp start kind day tr am ref r:Int) (hr:Hid (ygo lim ts cyc dued minf minp start kind day tr am ref=r)) (ht:Hid (yaw lim ts cyc dued minf minp start=true)) (e2:(kind == 2)=false) (e2':(kind != 2)=true) (e6:(kind == 6)=false) (e6':(kind != 6)=true) (HF:Hid (refd kind=false)) (w:World) (hv:TrS w v ts) :
 Calls Tryz.prog 135 #[.agg #[iV lim,v,iV cyc,iV dued,iV minf,iV minp,iV start],.agg #[iV kind,iV day,iV tr,iV am,iV ref]] w (RetB (iV r) w):= by
 have HV:=lh hv;obtain ⟨ao,cap,rfl,h1,⟨h2,_⟩,h3⟩:=hv;clear h3;unfold maxLen at h2;have hb0:Below w.heap.size w ((w.alloc (.cells #[iV lim,.slice ao ts.length cap,iV cyc,iV dued,iV minf,iV minp,iV start] 24)).alloc (.cells #[iV kind,iV day,iV tr,iV am,iV ref] 150)):=(bR.alloc (Nat.le_refl _) _).alloc (by simp) _
 go_enter Tryz.func135,Tryz.ntmps135
 go_wp2
 refine yai 0 (fun a' w'=>∃(u0 u1 u2 u3 u4 u6 u7 u8 u9 u10 u11 u12 u13 u14 u15 u16 u17 u18 u19 u20 u21 u22 u23 u24 u25 u26 u27 u28 u29 u30 u31 u32 u33 u34 u35 u36 u37 u38 u39 u40 u41 u42 u43 u44 u45 u46 u47 u48 u49 u50 u51 u52 u53 u54 u55 u56 u57 u58 u59 u60 u61 u62 u63 u64 u65 u66 u67 u68 u69 u70 u71 u72 u73 u74 u75 u76 u77 u78 u79 u80 u81 u82 u83 u84 u85 u86 u87 u88 u89 u90 u91 u92 u93 u94 u95 u96 u97 u98 u99 u100 u101 u102 u103 u104 u105 u106:Value),a'={ tmps:=#[u0,u1,u2,u3,u4,iV r,u6,u7,u8,u9,u10,u11,u12,u13,u14,u15,u16,u17,u18,u19,u20,u21,u22,u23,u24,u25,u26,u27,u28,u29,u30,u31,u32,u33,u34,u35,u36,u37,u38,u39,u40,u41,u42,u43,u44,u45,u46,u47,u48,u49,u50,u51,u52,u53,u54,u55,u56,u57,u58,u59,u60,u61,u62,u63,u64,u65,u66,u67,u68,u69,u70,u71,u72,u73,u74,u75,u76,u77,u78,u79,u80,u81,u82,u83,u84,u85,u86,u87,u88,u89,u90,u91,u92,u93,u94,u95,u96,u97,u98,u99,u100,u101,u102,u103,u104,u105,u106],defers:=[] }∧Below w.heap.size w w')
  (fun _ _=>0) rfl ?pass ?first
 case pass =>
  exact zq05fb7e
 case first =>
  intro J' hJJ hrest;have HJ:=lh hJJ;have HREST:=lh hrest;clear hJJ hrest
  go_wp2_with fail
  refine (yar _ ts lim cyc dued minf minp start 0 (lh (by rw [ht.out];rfl)) _ (HV.out.below hb0)).mono ?_;rintro e w1 ⟨rfl,hb1⟩;have hb:Below w.heap.size w w1:=yad hb0 hb1;obtain ⟨hc,hf⟩:=yx7 hb1;clear hb0 hb1;rw [ygo,ht.out,HF.out,e2,e6] at hr;go_upto_region 4 with fail
  cases d1:decide (kind<1) with
  | true =>
   simp [d1] at hr;have HR:=hr;clear hr;exact zq05e5c2
  | false =>
   cases d2:decide (6<kind) with
   | true =>
    simp [d1,d2] at hr;have HR:=hr;clear hr;exact zq05e5c2
   | false =>
    go_upto_region 6 with fail
    cases d3:decide (tr<1) with
    | true =>
     simp [d1,d2,d3] at hr;have HR:=hr;clear hr;exact zq05e5c2
    | false =>
     cases d4:decide ((ts.length:Int)<tr) with
     | true =>
      simp [d1,d2,d3,d4] at hr;have HR:=hr;clear hr;exact zq05e5c2
     | false =>
      go_upto_region 8 with fail
      cases d5:decide (am<1) with
      | true =>
       simp [d1,d2,d3,d4,d5] at hr;have HR:=hr;clear hr;exact zq05e5c2
      | false =>
       cases d6:decide (1000000000000000<am) with
       | true =>
        simp [d1,d2,d3,d4,d5,d6] at hr;have HR:=hr;clear hr;exact zq05e5c2
       | false =>
        exact zq05371c
theorem yfm (v:Value) (ts:List (Int×Bool)) (lim cyc dued minf minp start kind day tr am ref r:Int) (hr:Hid (ygo lim ts cyc dued minf minp start kind day tr am ref=r)) (w:World) (hv:TrS w v ts) :
 Calls Tryz.prog 135 #[.agg #[iV lim,v,iV cyc,iV dued,iV minf,iV minp,iV start],.agg #[iV kind,iV day,iV tr,iV am,iV ref]] w (RetB (iV r) w):= by
 cases ht:yaw lim ts cyc dued minf minp start with
 | false=>exact yme v ts lim cyc dued minf minp start kind day tr am ref r (lh ht) (by have:=hr.out;rw [ygo,ht] at this;exact this) w hv
 | true =>
  by_cases h2:kind=2
  ·subst h2
   exact ypl v ts lim cyc dued minf minp start 2 day tr am ref r hr (lh ht) rfl rfl rfl rfl (lh rfl) w hv
  ·have e2:(kind == 2)=false:=by simpa using h2
   have e2':(kind != 2)=true:=by simpa using h2
   by_cases h6:kind=6
   ·subst h6
    exact yod v ts lim cyc dued minf minp start 6 day tr am ref r hr (lh ht) rfl rfl rfl rfl (lh rfl) w hv
   ·have e6:(kind == 6)=false:=by simpa using h6
    have e6':(kind != 6)=true:=by simpa using h6
    cases hf:refd kind with
    | true=>exact yo4 v ts lim cyc dued minf minp start kind day tr am ref r hr (lh ht) e2 e2' e6 e6' (lh hf) w hv
    | false=>exact ymn v ts lim cyc dued minf minp start kind day tr am ref r hr (lh ht) e2 e2' e6 e6' (lh hf) w hv
def ordT (ks:List Int) (n:Nat):Nat→Bool
 | 0=>true
 | i+1=>ordT ks n i && (decide (1≤ks.getD i 0) && decide (ks.getD i 0≤n) && !(ks.take i).contains (ks.getD i 0))
def ordB (ks:List Int) (n:Nat):Bool:=ordT ks n ks.length
def fill (bal ks:List Int) (amount:Int):Nat→List Int×Int
 | 0=>(List.replicate bal.length 0,amount)
 | i+1=>((fill bal ks amount i).1.set (ks.getD i 0-1).toNat (min (fill bal ks amount i).2 (bal.getD (ks.getD i 0-1).toNat 0)),(fill bal ks amount i).2-min (fill bal ks amount i).2 (bal.getD (ks.getD i 0-1).toNat 0))
def ybq (bal ks:List Int) (amount:Int):List Int×Int:=fill bal ks amount ks.length
theorem ytv {ks:List Int} {n i j:Nat} (h:ordT ks n j=true) (hij:i≤j):ordT ks n i=true:= by
 induction j with
 | zero =>
  obtain rfl:i=0:=by omega
  rfl
 | succ j ih =>
  by_cases e:i=j+1
  ·subst e;exact h
  ·simp only [ordT,Bool.and_eq_true] at h
   exact ih h.1 om
theorem yy2 {ks:List Int} {n i j:Nat} (h:ordT ks n j=true) (hij:i<j):1≤ks.getD i 0∧ks.getD i 0≤n∧(ks.take i).contains (ks.getD i 0)=false:= by
 have h1:=ytv h (show i+1≤j from hij);simp only [ordT,Bool.and_eq_true,decide_eq_true_eq,Bool.not_eq_true'] at h1;exact ⟨h1.2.1.1,h1.2.1.2,h1.2.2⟩
theorem ydi (bal ks:List Int) (amount:Int) (i:Nat):(fill bal ks amount i).1.length=bal.length:= by
 induction i with
 | zero=>simp [fill]
 | succ i ih=>simp [fill,ih]
theorem ydz {bal ks:List Int} {amount:Int} (ha:0≤amount) (hb:∀x∈bal,0≤x) (i:Nat):0≤(fill bal ks amount i).2∧(fill bal ks amount i).2≤amount:= by
 induction i with
 | zero=>simp [fill];omega
 | succ i ih =>
  simp only [fill]
  have h0:0≤bal.getD (ks.getD i 0-1).toNat 0:= by
   by_cases h:(ks.getD i 0-1).toNat<bal.length
   ·have:=hb bal[(ks.getD i 0-1).toNat] (List.getElem_mem h)
    rw [List.getD,List.getElem?_eq_getElem h];exact this
   ·rw [List.getD,List.getElem?_eq_none om]
    exact Int.le_refl _
  omega
def yak (x:Int):Bool:=decide (x<0) || decide (1000000000000000<x)
theorem ypz (x:Int) (w:World):Calls Tryz.prog 244 #[iV x] w (Ret (.bool (yak x)) w):= by
 have hp:yak x=(decide (x<0) || decide (1000000000000000<x)):=rfl;rw [hp];clear hp
 by_cases h1:x<0
 ·have h1':decide (x<0)=true:=by simpa using h1
  go_enter Tryz.func244,Tryz.ntmps244
  go_wp2
  go_ret
  simp only [h1'];exact Ret.mk _ _
 ·have h1':decide (x<0)=false:=by simpa using h1
  by_cases h2:1000000000000000<x
  ·have h2':decide (1000000000000000<x)=true:=by simpa using h2
   go_enter Tryz.func244,Tryz.ntmps244
   go_wp2
   go_ret
   exact Ret.mk _ _
  ·have h2':decide (1000000000000000<x)=false:=by simpa using h2
   go_enter Tryz.func244,Tryz.ntmps244
   go_wp2
   go_ret
   exact Ret.mk _ _
def ys9 (r0:Bool) (w:World) (e:Ending) (w':World):Prop:=∃r:Int,e=.returned (iV r)∧decide (0≤r)=r0∧w=w'
theorem yhq (v:Value) (xs:List Int) (r0:Bool) (hr0:Hid (xs.any (yak)=r0)) (w:World) (hv:Sl .i64 w v xs) :
 Calls Tryz.prog 231 #[v,.func (.func 244) #[] #[]] w (ys9 r0 w):= by
 have HV:=lh hv;obtain ⟨ao,cap,rfl,h1,⟨h2,_⟩,h3⟩:=hv;clear h3;unfold maxLen at h2
 go_enter Tryz.func231,Tryz.ntmps231
 go_wp2
 go_loopg [8] xs.length (fun g i wr=>∃k:Nat,k+g=xs.length∧i=iV k∧w=wr∧Hid (∀j,j<k→(yak) (xs.getD j 0)=false))
 case atStart=>exact ⟨0,by omega,rfl,rfl,fun j hj=>absurd hj om⟩
 case round =>
  obtain ⟨k,hkg,rfl,rfl,HN⟩:=hrel;cases gk with
  | zero =>
   have hlt:¬((k:Int)<(xs.length:Int)):=by omega
   go_wp2
   go_ret
   refine ⟨-1,rfl,?_,rfl⟩;rw [←hr0.out];simp only [show decide ((0:Int) ≤ -1)=false from by decide]
   symm
   rw [List.any_eq_false];intro y hy;obtain ⟨j,hj,rfl⟩:=List.getElem_of_mem hy;have:=HN.out j om
   simpa [List.getD,hj] using this
  | succ g =>
   have hlt:(k:Int)<(xs.length:Int):=by omega
   have hkn:k<xs.length:=by omega
   obtain ⟨b,o,x,rfl,hcell,hx⟩:=HV.out.get (i:=k) hkn;have HC:=ypz x w;cases hp:(yak) x with
   | true =>
    have HC':Calls Tryz.prog 244 #[iV x] w (Ret (.bool true) w):=by rw [←hp];exact HC
    have HP:=lh hp;clear hp HC
    go_wp2_with (go_at_call 244;refine HC'.mono ?_;rintro e w' ⟨rfl,rfl⟩)
    go_ret
    refine ⟨k,rfl,?_,rfl⟩;rw [←hr0.out]
    have e1:xs.any (yak)=true:= by
     rw [List.any_eq_true];refine ⟨x,?_,HP.out⟩;rw [←hx.out];simp [List.getD,hkn]
    rw [e1];simp
   | false =>
    have HC':Calls Tryz.prog 244 #[iV x] w (Ret (.bool false) w):=by rw [←hp];exact HC
    have HP:=lh hp;clear hp HC
    go_wp2_with (go_at_call 244;refine HC'.mono ?_;rintro e w' ⟨rfl,rfl⟩)
    go_roundg g
    case measure=>omega
    case rel=>exact ⟨k+1,by omega,by go_num,rfl,fun j hj=>by
     rcases Nat.lt_succ_iff_lt_or_eq.1 hj with h' | rfl
     ·exact HN.out j h'
     ·rw [hx.out];exact HP.out⟩
theorem yfo (v:Value) (xs:List Int) (r0:Bool) (hr0:Hid (xs.any (yak)=r0)) (w:World) (hv:Sl .i64 w v xs) :
 Calls Tryz.prog 210 #[v,.func (.func 244) #[] #[]] w (Ret (.bool r0) w):= by
 cases r0 with
 | true =>
  go_enter Tryz.func210,Tryz.ntmps210
  go_wp2_with fail
  refine (yhq v xs true hr0 _ hv).mono ?_;rintro e w' ⟨r,rfl,hr,rfl⟩
  go_wp2_with fail
  go_ret
  exact Ret.mk _ _
 | false =>
  go_enter Tryz.func210,Tryz.ntmps210
  go_wp2_with fail
  refine (yhq v xs false hr0 _ hv).mono ?_;rintro e w' ⟨r,rfl,hr,rfl⟩
  go_wp2_with fail
  go_ret
  exact Ret.mk _ _
end Go.Proofs.YtkongpjpkpfniaaGreat

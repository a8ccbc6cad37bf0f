/- TopTicks: parts of the proof, made small by a program (mini.py). -/
import Derived.Deep.CutBlock
import Derived.Deep.DeepCutAuto
import Derived.Test.YtkongpjpkpfniaaGreatT01
import Derived.Test.YtkongpjpkpfniaaGreatT03
set_option linter.unusedVariables false
set_option linter.unusedSimpArgs false
set_option maxRecDepth 100000
set_option maxHeartbeats 6400000
namespace Go.Proofs.YtkongpjpkpfniaaGreat
open Go.RowKit
theorem zq04d377 {q:Prop} (h:q:= by
 have HR:=hr;clear hr
 go_wp2_with fail
 refine (yc3 HF.out _).mono ?_;rintro e w2 ⟨rfl,rfl⟩;exact zq04e5c2):q:=h
theorem zq048797 {q:Prop} (h:q:= by
 go_upto_region 10 with fail
 cases d7:decide (day<start) with
 | true =>
  simp [d1,d2,d3,d4,d5,d6,d7] at hr;have HR:=hr;clear hr;exact zq04e5c2
 | false =>
  cases d8:decide (2932896<day) with
  | true =>
   simp [d1,d2,d3,d4,d5,d6,d7,d8] at hr;have HR:=hr;clear hr;exact zq04e5c2
  | false =>
   go_upto_region 12 with fail
   cases d9:ref != 0 with
   | true =>
    simp [d1,d2,d3,d4,d5,d6,d7,d8,d9] at hr;have HR:=hr;clear hr
    go_wp2_with fail
    refine (yc3 HF.out _).mono ?_;rintro e w2 ⟨rfl,rfl⟩
    go_wp2_with fail
    refine (yc3 HF.out _).mono ?_;rintro e w2 ⟨rfl,rfl⟩;exact zq04e5c2
   | false =>
    simp [d1,d2,d3,d4,d5,d6,d7,d8,d9] at hr;exact zq04b32b):q:=h
theorem zq04fb7e {q:Prop} (h:q:= by
 intro a1 w1 hJ J' hJ';clear hJ'
 iterate 106 obtain ⟨_,hJ⟩:=hJ
 obtain ⟨rfl,hb⟩:=hJ;go_wp2
 simp only [Exit.jump];go_ret
 exact ⟨rfl,hb⟩):q:=h
theorem zq04b32b {q:Prop} (h:q:= by
 have HR:=hr;clear hr
 go_wp2_with fail
 refine (yc3 HF.out _).mono ?_;rintro e w2 ⟨rfl,rfl⟩
 go_wp2_with fail
 refine (yc3 HF.out _).mono ?_;rintro e w2 ⟨rfl,rfl⟩;go_wp2
 go_step3
 go_step
 go_step
 exact HREST.out _ _ (x10 (x10 (x10 (x10 (x10 (x10 (x10 (x10 (x10 (x10 ⟨_,_,_,_,_,_,by rw [<-HR.out],hb⟩))))))))))):q:=h
theorem zq04e5c2 {q:Prop} (h:q:= by
 go_wp2
 go_step3
 exact ⟨rfl,HJ.out _ _ (x10 (x10 (x10 (x10 (x10 (x10 (x10 (x10 (x10 (x10 ⟨_,_,_,_,_,_,by rw [<-HR.out],hb⟩))))))))))⟩):q:=h
def refd (kind:Int):Bool:=kind == 4 || kind == 5
def ygo (lim:Int) (ts:List (Int×Bool)) (cyc dued minf minp start kind day tr am ref:Int):Int :=
 if yaw lim ts cyc dued minf minp start=false then 6
 else if (decide (kind<1) || decide (6<kind))=true then 1
 else if (if kind == 2 then tr != 0 else decide (tr<1) || decide ((ts.length:Int)<tr))=true then 7
 else if (if kind == 6 then decide (am<0) || decide (10000000<am) else decide (am<1) || decide (1000000000000000<am))=true then 8
 else if (decide (day<start) || decide (2932896<day))=true then 10
 else if (if refd kind then decide (ref<1) || decide (2000<ref) else ref != 0)=true then 1
 else 0
theorem yn7 (kind:Int) (w:World):Calls Tryz.prog 178 #[iV kind] w (Ret (.bool (refd kind)) w):= by
 cases h4:kind == 4 with
 | true =>
  go_enter Tryz.func178,Tryz.ntmps178
  go_wp2
  go_ret
  simp [Ret,refd,h4]
 | false =>
  go_enter Tryz.func178,Tryz.ntmps178
  go_wp2
  go_ret
  simp [Ret,refd,h4]
theorem yc3 {kind:Int} {r:Bool} (h:refd kind=r) (w:World):Calls Tryz.prog 178 #[iV kind] w (Ret (.bool r) w):=by rw [<-h];exact yn7 kind w
theorem yme (v:Value) (ts:List (Int×Bool)) (lim cyc dued minf minp start kind day tr am ref r:Int) (ht:Hid (yaw lim ts cyc dued minf minp start=false)) (HR:Hid (6=r)) (w:World) (hv:TrS w v ts) :
 Calls Tryz.prog 135 #[.agg #[iV lim,v,iV cyc,iV dued,iV minf,iV minp,iV start],.agg #[iV kind,iV day,iV tr,iV am,iV ref]] w (RetB (iV r) w):= by
 have HV:=lh hv;obtain ⟨ao,cap,rfl,h1,⟨h2,_⟩,h3⟩:=hv;clear h3;unfold maxLen at h2;have hb0:BW w ((w.alloc (.cells #[iV lim,.slice ao ts.length cap,iV cyc,iV dued,iV minf,iV minp,iV start] 24)).alloc (.cells #[iV kind,iV day,iV tr,iV am,iV ref] 150)):=(bR.alloc (Nat.le_refl _) _).alloc (by simp) _
 go_enter Tryz.func135,Tryz.ntmps135
 go_wp2
 refine yai 0 (fun a' w'=>∃(u0 u1 u2 u3 u4 u6 u7 u8 u9 u10 u11 u12 u13 u14 u15 u16 u17 u18 u19 u20 u21 u22 u23 u24 u25 u26 u27 u28 u29 u30 u31 u32 u33 u34 u35 u36 u37 u38 u39 u40 u41 u42 u43 u44 u45 u46 u47 u48 u49 u50 u51 u52 u53 u54 u55 u56 u57 u58 u59 u60 u61 u62 u63 u64 u65 u66 u67 u68 u69 u70 u71 u72 u73 u74 u75 u76 u77 u78 u79 u80 u81 u82 u83 u84 u85 u86 u87 u88 u89 u90 u91 u92 u93 u94 u95 u96 u97 u98 u99 u100 u101 u102 u103 u104 u105 u106:Value),a'={ tmps:=#[u0,u1,u2,u3,u4,iV r,u6,u7,u8,u9,u10,u11,u12,u13,u14,u15,u16,u17,u18,u19,u20,u21,u22,u23,u24,u25,u26,u27,u28,u29,u30,u31,u32,u33,u34,u35,u36,u37,u38,u39,u40,u41,u42,u43,u44,u45,u46,u47,u48,u49,u50,u51,u52,u53,u54,u55,u56,u57,u58,u59,u60,u61,u62,u63,u64,u65,u66,u67,u68,u69,u70,u71,u72,u73,u74,u75,u76,u77,u78,u79,u80,u81,u82,u83,u84,u85,u86,u87,u88,u89,u90,u91,u92,u93,u94,u95,u96,u97,u98,u99,u100,u101,u102,u103,u104,u105,u106],defers:=[] }/\BW w w')
  (fun _ _=>0) rfl ?pass ?first
 case pass =>
  exact zq04fb7e
 case first =>
  intro J' hJJ hrest;have HJ:=lh hJJ;have HREST:=lh hrest;clear hJJ hrest
  go_wp2_with fail
  refine (yar _ ts lim cyc dued minf minp start 6 (lh (by rw [ht.out];rfl)) _ (HV.out.below hb0)).mono ?_;rintro e w1 ⟨rfl,hb1⟩;have hb:BW w w1:=yad hb0 hb1;exact zq04e5c2
theorem ypl (v:Value) (ts:List (Int×Bool)) (lim cyc dued minf minp start kind day tr am ref r:Int) (hr:Hid (ygo lim ts cyc dued minf minp start kind day tr am ref=r)) (ht:Hid (yaw lim ts cyc dued minf minp start=true)) (e2:(kind == 2)=true) (e2':(kind != 2)=false) (e6:(kind == 6)=false) (e6':(kind != 6)=true) (HF:Hid (refd kind=false)) (w:World) (hv:TrS w v ts) :
 Calls Tryz.prog 135 #[.agg #[iV lim,v,iV cyc,iV dued,iV minf,iV minp,iV start],.agg #[iV kind,iV day,iV tr,iV am,iV ref]] w (RetB (iV r) w):= by
 have HV:=lh hv;obtain ⟨ao,cap,rfl,h1,⟨h2,_⟩,h3⟩:=hv;clear h3;unfold maxLen at h2;have hb0:BW w ((w.alloc (.cells #[iV lim,.slice ao ts.length cap,iV cyc,iV dued,iV minf,iV minp,iV start] 24)).alloc (.cells #[iV kind,iV day,iV tr,iV am,iV ref] 150)):=(bR.alloc (Nat.le_refl _) _).alloc (by simp) _
 go_enter Tryz.func135,Tryz.ntmps135
 go_wp2
 refine yai 0 (fun a' w'=>∃(u0 u1 u2 u3 u4 u6 u7 u8 u9 u10 u11 u12 u13 u14 u15 u16 u17 u18 u19 u20 u21 u22 u23 u24 u25 u26 u27 u28 u29 u30 u31 u32 u33 u34 u35 u36 u37 u38 u39 u40 u41 u42 u43 u44 u45 u46 u47 u48 u49 u50 u51 u52 u53 u54 u55 u56 u57 u58 u59 u60 u61 u62 u63 u64 u65 u66 u67 u68 u69 u70 u71 u72 u73 u74 u75 u76 u77 u78 u79 u80 u81 u82 u83 u84 u85 u86 u87 u88 u89 u90 u91 u92 u93 u94 u95 u96 u97 u98 u99 u100 u101 u102 u103 u104 u105 u106:Value),a'={ tmps:=#[u0,u1,u2,u3,u4,iV r,u6,u7,u8,u9,u10,u11,u12,u13,u14,u15,u16,u17,u18,u19,u20,u21,u22,u23,u24,u25,u26,u27,u28,u29,u30,u31,u32,u33,u34,u35,u36,u37,u38,u39,u40,u41,u42,u43,u44,u45,u46,u47,u48,u49,u50,u51,u52,u53,u54,u55,u56,u57,u58,u59,u60,u61,u62,u63,u64,u65,u66,u67,u68,u69,u70,u71,u72,u73,u74,u75,u76,u77,u78,u79,u80,u81,u82,u83,u84,u85,u86,u87,u88,u89,u90,u91,u92,u93,u94,u95,u96,u97,u98,u99,u100,u101,u102,u103,u104,u105,u106],defers:=[] }/\BW w w')
  (fun _ _=>0) rfl ?pass ?first
 case pass =>
  exact zq04fb7e
 case first =>
  intro J' hJJ hrest;have HJ:=lh hJJ;have HREST:=lh hrest;clear hJJ hrest
  go_wp2_with fail
  refine (yar _ ts lim cyc dued minf minp start 0 (lh (by rw [ht.out];rfl)) _ (HV.out.below hb0)).mono ?_;rintro e w1 ⟨rfl,hb1⟩;have hb:BW w w1:=yad hb0 hb1;obtain ⟨hc,hf⟩:=yx7 hb1;clear hb0 hb1;rw [ygo,ht.out,HF.out,e2,e6] at hr;go_upto_region 4 with fail
  cases d1:decide (kind<1) with
  | true =>
   simp [d1] at hr;have HR:=hr;clear hr;exact zq04e5c2
  | false =>
   cases d2:decide (6<kind) with
   | true =>
    simp [d1,d2] at hr;have HR:=hr;clear hr;exact zq04e5c2
   | false =>
    go_upto_region 6 with fail
    cases d3:tr != 0 with
    | true =>
     simp [d1,d2,d3] at hr;have HR:=hr;clear hr;exact zq04e5c2
    | false =>
     go_upto_region 8 with fail
     cases d4:decide (am<1) with
     | true =>
      simp [d1,d2,d3,d4] at hr;have HR:=hr;clear hr;exact zq04e5c2
     | false =>
      cases d5:decide (1000000000000000<am) with
      | true =>
       simp [d1,d2,d3,d4,d5] at hr;have HR:=hr;clear hr;exact zq04e5c2
      | false =>
       go_upto_region 10 with fail
       cases d6:decide (day<start) with
       | true =>
        simp [d1,d2,d3,d4,d5,d6] at hr;have HR:=hr;clear hr;exact zq04e5c2
       | false =>
        cases d7:decide (2932896<day) with
        | true =>
         simp [d1,d2,d3,d4,d5,d6,d7] at hr;have HR:=hr;clear hr;exact zq04e5c2
        | false =>
         go_upto_region 12 with fail
         cases d8:ref != 0 with
         | true =>
          simp [d1,d2,d3,d4,d5,d6,d7,d8] at hr;have HR:=hr;clear hr
          go_wp2_with fail
          refine (yc3 HF.out _).mono ?_;rintro e w2 ⟨rfl,rfl⟩
          go_wp2_with fail
          refine (yc3 HF.out _).mono ?_;rintro e w2 ⟨rfl,rfl⟩;exact zq04e5c2
         | false =>
          simp [d1,d2,d3,d4,d5,d6,d7,d8] at hr;exact zq04b32b
theorem yod (v:Value) (ts:List (Int×Bool)) (lim cyc dued minf minp start kind day tr am ref r:Int) (hr:Hid (ygo lim ts cyc dued minf minp start kind day tr am ref=r)) (ht:Hid (yaw lim ts cyc dued minf minp start=true)) (e2:(kind == 2)=false) (e2':(kind != 2)=true) (e6:(kind == 6)=true) (e6':(kind != 6)=false) (HF:Hid (refd kind=false)) (w:World) (hv:TrS w v ts) :
 Calls Tryz.prog 135 #[.agg #[iV lim,v,iV cyc,iV dued,iV minf,iV minp,iV start],.agg #[iV kind,iV day,iV tr,iV am,iV ref]] w (RetB (iV r) w):= by
 have HV:=lh hv;obtain ⟨ao,cap,rfl,h1,⟨h2,_⟩,h3⟩:=hv;clear h3;unfold maxLen at h2;have hb0:BW w ((w.alloc (.cells #[iV lim,.slice ao ts.length cap,iV cyc,iV dued,iV minf,iV minp,iV start] 24)).alloc (.cells #[iV kind,iV day,iV tr,iV am,iV ref] 150)):=(bR.alloc (Nat.le_refl _) _).alloc (by simp) _
 go_enter Tryz.func135,Tryz.ntmps135
 go_wp2
 refine yai 0 (fun a' w'=>∃(u0 u1 u2 u3 u4 u6 u7 u8 u9 u10 u11 u12 u13 u14 u15 u16 u17 u18 u19 u20 u21 u22 u23 u24 u25 u26 u27 u28 u29 u30 u31 u32 u33 u34 u35 u36 u37 u38 u39 u40 u41 u42 u43 u44 u45 u46 u47 u48 u49 u50 u51 u52 u53 u54 u55 u56 u57 u58 u59 u60 u61 u62 u63 u64 u65 u66 u67 u68 u69 u70 u71 u72 u73 u74 u75 u76 u77 u78 u79 u80 u81 u82 u83 u84 u85 u86 u87 u88 u89 u90 u91 u92 u93 u94 u95 u96 u97 u98 u99 u100 u101 u102 u103 u104 u105 u106:Value),a'={ tmps:=#[u0,u1,u2,u3,u4,iV r,u6,u7,u8,u9,u10,u11,u12,u13,u14,u15,u16,u17,u18,u19,u20,u21,u22,u23,u24,u25,u26,u27,u28,u29,u30,u31,u32,u33,u34,u35,u36,u37,u38,u39,u40,u41,u42,u43,u44,u45,u46,u47,u48,u49,u50,u51,u52,u53,u54,u55,u56,u57,u58,u59,u60,u61,u62,u63,u64,u65,u66,u67,u68,u69,u70,u71,u72,u73,u74,u75,u76,u77,u78,u79,u80,u81,u82,u83,u84,u85,u86,u87,u88,u89,u90,u91,u92,u93,u94,u95,u96,u97,u98,u99,u100,u101,u102,u103,u104,u105,u106],defers:=[] }/\BW w w')
  (fun _ _=>0) rfl ?pass ?first
 case pass =>
  exact zq04fb7e
 case first =>
  intro J' hJJ hrest;have HJ:=lh hJJ;have HREST:=lh hrest;clear hJJ hrest
  go_wp2_with fail
  refine (yar _ ts lim cyc dued minf minp start 0 (lh (by rw [ht.out];rfl)) _ (HV.out.below hb0)).mono ?_;rintro e w1 ⟨rfl,hb1⟩;have hb:BW w w1:=yad hb0 hb1;obtain ⟨hc,hf⟩:=yx7 hb1;clear hb0 hb1;rw [ygo,ht.out,HF.out,e2,e6] at hr;go_upto_region 4 with fail
  cases d1:decide (kind<1) with
  | true =>
   simp [d1] at hr;have HR:=hr;clear hr;exact zq04e5c2
  | false =>
   cases d2:decide (6<kind) with
   | true =>
    simp [d1,d2] at hr;have HR:=hr;clear hr;exact zq04e5c2
   | false =>
    go_upto_region 6 with fail
    cases d3:decide (tr<1) with
    | true =>
     simp [d1,d2,d3] at hr;have HR:=hr;clear hr;exact zq04e5c2
    | false =>
     cases d4:decide ((ts.length:Int)<tr) with
     | true =>
      simp [d1,d2,d3,d4] at hr;have HR:=hr;clear hr;exact zq04e5c2
     | false =>
      go_upto_region 8 with fail
      cases d5:decide (am<0) with
      | true =>
       simp [d1,d2,d3,d4,d5] at hr;have HR:=hr;clear hr;exact zq04e5c2
      | false =>
       cases d6:decide (10000000<am) with
       | true =>
        simp [d1,d2,d3,d4,d5,d6] at hr;have HR:=hr;clear hr;exact zq04e5c2
       | false =>
        exact zq048797
theorem yo4 (v:Value) (ts:List (Int×Bool)) (lim cyc dued minf minp start kind day tr am ref r:Int) (hr:Hid (ygo lim ts cyc dued minf minp start kind day tr am ref=r)) (ht:Hid (yaw lim ts cyc dued minf minp start=true)) (e2:(kind == 2)=false) (e2':(kind != 2)=true) (e6:(kind == 6)=false) (e6':(kind != 6)=true) (HF:Hid (refd kind=true)) (w:World) (hv:TrS w v ts) :
 Calls Tryz.prog 135 #[.agg #[iV lim,v,iV cyc,iV dued,iV minf,iV minp,iV start],.agg #[iV kind,iV day,iV tr,iV am,iV ref]] w (RetB (iV r) w):= by
 have HV:=lh hv;obtain ⟨ao,cap,rfl,h1,⟨h2,_⟩,h3⟩:=hv;clear h3;unfold maxLen at h2;have hb0:BW w ((w.alloc (.cells #[iV lim,.slice ao ts.length cap,iV cyc,iV dued,iV minf,iV minp,iV start] 24)).alloc (.cells #[iV kind,iV day,iV tr,iV am,iV ref] 150)):=(bR.alloc (Nat.le_refl _) _).alloc (by simp) _
 go_enter Tryz.func135,Tryz.ntmps135
 go_wp2
 refine yai 0 (fun a' w'=>∃(u0 u1 u2 u3 u4 u6 u7 u8 u9 u10 u11 u12 u13 u14 u15 u16 u17 u18 u19 u20 u21 u22 u23 u24 u25 u26 u27 u28 u29 u30 u31 u32 u33 u34 u35 u36 u37 u38 u39 u40 u41 u42 u43 u44 u45 u46 u47 u48 u49 u50 u51 u52 u53 u54 u55 u56 u57 u58 u59 u60 u61 u62 u63 u64 u65 u66 u67 u68 u69 u70 u71 u72 u73 u74 u75 u76 u77 u78 u79 u80 u81 u82 u83 u84 u85 u86 u87 u88 u89 u90 u91 u92 u93 u94 u95 u96 u97 u98 u99 u100 u101 u102 u103 u104 u105 u106:Value),a'={ tmps:=#[u0,u1,u2,u3,u4,iV r,u6,u7,u8,u9,u10,u11,u12,u13,u14,u15,u16,u17,u18,u19,u20,u21,u22,u23,u24,u25,u26,u27,u28,u29,u30,u31,u32,u33,u34,u35,u36,u37,u38,u39,u40,u41,u42,u43,u44,u45,u46,u47,u48,u49,u50,u51,u52,u53,u54,u55,u56,u57,u58,u59,u60,u61,u62,u63,u64,u65,u66,u67,u68,u69,u70,u71,u72,u73,u74,u75,u76,u77,u78,u79,u80,u81,u82,u83,u84,u85,u86,u87,u88,u89,u90,u91,u92,u93,u94,u95,u96,u97,u98,u99,u100,u101,u102,u103,u104,u105,u106],defers:=[] }/\BW w w')
  (fun _ _=>0) rfl ?pass ?first
 case pass =>
  exact zq04fb7e
 case first =>
  intro J' hJJ hrest;have HJ:=lh hJJ;have HREST:=lh hrest;clear hJJ hrest
  go_wp2_with fail
  refine (yar _ ts lim cyc dued minf minp start 0 (lh (by rw [ht.out];rfl)) _ (HV.out.below hb0)).mono ?_;rintro e w1 ⟨rfl,hb1⟩;have hb:BW w w1:=yad hb0 hb1;obtain ⟨hc,hf⟩:=yx7 hb1;clear hb0 hb1;rw [ygo,ht.out,HF.out,e2,e6] at hr;go_upto_region 4 with fail
  cases d1:decide (kind<1) with
  | true =>
   simp [d1] at hr;have HR:=hr;clear hr;exact zq04e5c2
  | false =>
   cases d2:decide (6<kind) with
   | true =>
    simp [d1,d2] at hr;have HR:=hr;clear hr;exact zq04e5c2
   | false =>
    go_upto_region 6 with fail
    cases d3:decide (tr<1) with
    | true =>
     simp [d1,d2,d3] at hr;have HR:=hr;clear hr;exact zq04e5c2
    | false =>
     cases d4:decide ((ts.length:Int)<tr) with
     | true =>
      simp [d1,d2,d3,d4] at hr;have HR:=hr;clear hr;exact zq04e5c2
     | false =>
      go_upto_region 8 with fail
      cases d5:decide (am<1) with
      | true =>
       simp [d1,d2,d3,d4,d5] at hr;have HR:=hr;clear hr;exact zq04e5c2
      | false =>
       cases d6:decide (1000000000000000<am) with
       | true =>
        simp [d1,d2,d3,d4,d5,d6] at hr;have HR:=hr;clear hr;exact zq04e5c2
       | false =>
        go_upto_region 10 with fail
        cases d7:decide (day<start) with
        | true =>
         simp [d1,d2,d3,d4,d5,d6,d7] at hr;have HR:=hr;clear hr;exact zq04e5c2
        | false =>
         cases d8:decide (2932896<day) with
         | true =>
          simp [d1,d2,d3,d4,d5,d6,d7,d8] at hr;have HR:=hr;clear hr;exact zq04e5c2
         | false =>
          go_upto_region 12 with fail
          cases d9:decide (ref<1) with
          | true =>
           simp [d1,d2,d3,d4,d5,d6,d7,d8,d9] at hr;exact zq04d377
          | false =>
           cases d10:decide (2000<ref) with
           | true =>
            simp [d1,d2,d3,d4,d5,d6,d7,d8,d9,d10] at hr;exact zq04d377
           | false =>
            simp [d1,d2,d3,d4,d5,d6,d7,d8,d9,d10] at hr;exact zq04b32b
theorem ymn (v:Value) (ts:List (Int×Bool)) (lim cyc dued minf minp start kind day tr am ref r:Int) (hr:Hid (ygo lim ts cyc dued minf minp start kind day tr am ref=r)) (ht:Hid (yaw lim ts cyc dued minf minp start=true)) (e2:(kind == 2)=false) (e2':(kind != 2)=true) (e6:(kind == 6)=false) (e6':(kind != 6)=true) (HF:Hid (refd kind=false)) (w:World) (hv:TrS w v ts) :
 Calls Tryz.prog 135 #[.agg #[iV lim,v,iV cyc,iV dued,iV minf,iV minp,iV start],.agg #[iV kind,iV day,iV tr,iV am,iV ref]] w (RetB (iV r) w):= by
 have HV:=lh hv;obtain ⟨ao,cap,rfl,h1,⟨h2,_⟩,h3⟩:=hv;clear h3;unfold maxLen at h2;have hb0:BW w ((w.alloc (.cells #[iV lim,.slice ao ts.length cap,iV cyc,iV dued,iV minf,iV minp,iV start] 24)).alloc (.cells #[iV kind,iV day,iV tr,iV am,iV ref] 150)):=(bR.alloc (Nat.le_refl _) _).alloc (by simp) _
 go_enter Tryz.func135,Tryz.ntmps135
 go_wp2
 refine yai 0 (fun a' w'=>∃(u0 u1 u2 u3 u4 u6 u7 u8 u9 u10 u11 u12 u13 u14 u15 u16 u17 u18 u19 u20 u21 u22 u23 u24 u25 u26 u27 u28 u29 u30 u31 u32 u33 u34 u35 u36 u37 u38 u39 u40 u41 u42 u43 u44 u45 u46 u47 u48 u49 u50 u51 u52 u53 u54 u55 u56 u57 u58 u59 u60 u61 u62 u63 u64 u65 u66 u67 u68 u69 u70 u71 u72 u73 u74 u75 u76 u77 u78 u79 u80 u81 u82 u83 u84 u85 u86 u87 u88 u89 u90 u91 u92 u93 u94 u95 u96 u97 u98 u99 u100 u101 u102 u103 u104 u105 u106:Value),a'={ tmps:=#[u0,u1,u2,u3,u4,iV r,u6,u7,u8,u9,u10,u11,u12,u13,u14,u15,u16,u17,u18,u19,u20,u21,u22,u23,u24,u25,u26,u27,u28,u29,u30,u31,u32,u33,u34,u35,u36,u37,u38,u39,u40,u41,u42,u43,u44,u45,u46,u47,u48,u49,u50,u51,u52,u53,u54,u55,u56,u57,u58,u59,u60,u61,u62,u63,u64,u65,u66,u67,u68,u69,u70,u71,u72,u73,u74,u75,u76,u77,u78,u79,u80,u81,u82,u83,u84,u85,u86,u87,u88,u89,u90,u91,u92,u93,u94,u95,u96,u97,u98,u99,u100,u101,u102,u103,u104,u105,u106],defers:=[] }/\BW w w')
  (fun _ _=>0) rfl ?pass ?first
 case pass =>
  exact zq04fb7e
 case first =>
  intro J' hJJ hrest;have HJ:=lh hJJ;have HREST:=lh hrest;clear hJJ hrest
  go_wp2_with fail
  refine (yar _ ts lim cyc dued minf minp start 0 (lh (by rw [ht.out];rfl)) _ (HV.out.below hb0)).mono ?_;rintro e w1 ⟨rfl,hb1⟩;have hb:BW w w1:=yad hb0 hb1;obtain ⟨hc,hf⟩:=yx7 hb1;clear hb0 hb1;rw [ygo,ht.out,HF.out,e2,e6] at hr;go_upto_region 4 with fail
  cases d1:decide (kind<1) with
  | true =>
   simp [d1] at hr;have HR:=hr;clear hr;exact zq04e5c2
  | false =>
   cases d2:decide (6<kind) with
   | true =>
    simp [d1,d2] at hr;have HR:=hr;clear hr;exact zq04e5c2
   | false =>
    go_upto_region 6 with fail
    cases d3:decide (tr<1) with
    | true =>
     simp [d1,d2,d3] at hr;have HR:=hr;clear hr;exact zq04e5c2
    | false =>
     cases d4:decide ((ts.length:Int)<tr) with
     | true =>
      simp [d1,d2,d3,d4] at hr;have HR:=hr;clear hr;exact zq04e5c2
     | false =>
      go_upto_region 8 with fail
      cases d5:decide (am<1) with
      | true =>
       simp [d1,d2,d3,d4,d5] at hr;have HR:=hr;clear hr;exact zq04e5c2
      | false =>
       cases d6:decide (1000000000000000<am) with
       | true =>
        simp [d1,d2,d3,d4,d5,d6] at hr;have HR:=hr;clear hr;exact zq04e5c2
       | false =>
        exact zq048797
theorem yfm (v:Value) (ts:List (Int×Bool)) (lim cyc dued minf minp start kind day tr am ref r:Int) (hr:Hid (ygo lim ts cyc dued minf minp start kind day tr am ref=r)) (w:World) (hv:TrS w v ts) :
 Calls Tryz.prog 135 #[.agg #[iV lim,v,iV cyc,iV dued,iV minf,iV minp,iV start],.agg #[iV kind,iV day,iV tr,iV am,iV ref]] w (RetB (iV r) w):= by
 cases ht:yaw lim ts cyc dued minf minp start with
 | false=>exact yme v ts lim cyc dued minf minp start kind day tr am ref r (lh ht) (by have:=hr.out;rw [ygo,ht] at this;exact this) w hv
 | true =>
  by_cases h2:kind=2
  ·subst h2
   exact ypl v ts lim cyc dued minf minp start 2 day tr am ref r hr (lh ht) rfl rfl rfl rfl (lh rfl) w hv
  ·have e2:(kind == 2)=false:=by simpa using h2
   have e2':(kind != 2)=true:=by simpa using h2
   by_cases h6:kind=6
   ·subst h6
    exact yod v ts lim cyc dued minf minp start 6 day tr am ref r hr (lh ht) rfl rfl rfl rfl (lh rfl) w hv
   ·have e6:(kind == 6)=false:=by simpa using h6
    have e6':(kind != 6)=true:=by simpa using h6
    cases hf:refd kind with
    | true=>exact yo4 v ts lim cyc dued minf minp start kind day tr am ref r hr (lh ht) e2 e2' e6 e6' (lh hf) w hv
    | false=>exact ymn v ts lim cyc dued minf minp start kind day tr am ref r hr (lh ht) e2 e2' e6 e6' (lh hf) w hv
def ordT (ks:List Int) (n:Nat):Nat->Bool
 | 0=>true
 | i+1=>ordT ks n i && (decide (1<=ks.getD i 0) && decide (ks.getD i 0<=n) && !(ks.take i).contains (ks.getD i 0))
def ordB (ks:List Int) (n:Nat):Bool:=ordT ks n ks.length
def fill (bal ks:List Int) (amount:Int):Nat->List Int×Int
 | 0=>(List.replicate bal.length 0,amount)
 | i+1=>((fill bal ks amount i).1.set (ks.getD i 0-1).toNat (min (fill bal ks amount i).2 (bal.getD (ks.getD i 0-1).toNat 0)),(fill bal ks amount i).2-min (fill bal ks amount i).2 (bal.getD (ks.getD i 0-1).toNat 0))
def ybq (bal ks:List Int) (amount:Int):List Int×Int:=fill bal ks amount ks.length
theorem ytv {ks:List Int} {n i j:Nat} (h:ordT ks n j=true) (hij:i<=j):ordT ks n i=true:= by
 induction j with
 | zero =>
  obtain rfl:i=0:=by omega
  rfl
 | succ j ih =>
  by_cases e:i=j+1
  ·subst e;exact h
  ·simp only [ordT,Bool.and_eq_true] at h
   exact ih h.1 om
theorem yy2 {ks:List Int} {n i j:Nat} (h:ordT ks n j=true) (hij:i<j):1<=ks.getD i 0/\ks.getD i 0<=n/\(ks.take i).contains (ks.getD i 0)=false:= by
 have h1:=ytv h (show i+1<=j from hij);simp only [ordT,Bool.and_eq_true,decide_eq_true_eq,Bool.not_eq_true'] at h1;exact ⟨h1.2.1.1,h1.2.1.2,h1.2.2⟩
theorem ydi (bal ks:List Int) (amount:Int) (i:Nat):(fill bal ks amount i).1.length=bal.length:= by
 induction i with
 | zero=>simp [fill]
 | succ i ih=>simp [fill,ih]
theorem ydz {bal ks:List Int} {amount:Int} (ha:0<=amount) (hb:∀x∈bal,0<=x) (i:Nat):0<=(fill bal ks amount i).2/\(fill bal ks amount i).2<=amount:= by
 induction i with
 | zero=>simp [fill];omega
 | succ i ih =>
  simp only [fill]
  have h0:0<=bal.getD (ks.getD i 0-1).toNat 0:= by
   by_cases h:(ks.getD i 0-1).toNat<bal.length
   ·have:=hb bal[(ks.getD i 0-1).toNat] (List.getElem_mem h)
    rw [List.getD,List.getElem?_eq_getElem h];exact this
   ·rw [List.getD,List.getElem?_eq_none om]
    exact Int.le_refl _
  omega
def yak (x:Int):Bool:=decide (x<0) || decide (1000000000000000<x)
theorem ypz (x:Int) (w:World):Calls Tryz.prog 244 #[iV x] w (Ret (.bool (yak x)) w):= by
 have hp:yak x=(decide (x<0) || decide (1000000000000000<x)):=rfl;rw [hp];clear hp
 by_cases h1:x<0
 ·have h1':decide (x<0)=true:=by simpa using h1
  go_enter Tryz.func244,Tryz.ntmps244
  go_wp2
  go_ret
  simp only [h1'];exact Ret.mk _ _
 ·have h1':decide (x<0)=false:=by simpa using h1
  by_cases h2:1000000000000000<x
  ·have h2':decide (1000000000000000<x)=true:=by simpa using h2
   go_enter Tryz.func244,Tryz.ntmps244
   go_wp2
   go_ret
   exact Ret.mk _ _
  ·have h2':decide (1000000000000000<x)=false:=by simpa using h2
   go_enter Tryz.func244,Tryz.ntmps244
   go_wp2
   go_ret
   exact Ret.mk _ _
def ys9 (r0:Bool) (w:World) (e:Ending) (w':World):Prop:=∃r:Int,e=.returned (iV r)/\decide (0<=r)=r0/\w=w'
theorem yhq (v:Value) (xs:List Int) (r0:Bool) (hr0:Hid (xs.any (yak)=r0)) (w:World) (hv:Sl .i64 w v xs) :
 Calls Tryz.prog 231 #[v,.func (.func 244) #[] #[]] w (ys9 r0 w):= by
 have HV:=lh hv;obtain ⟨ao,cap,rfl,h1,⟨h2,_⟩,h3⟩:=hv;clear h3;unfold maxLen at h2
 go_enter Tryz.func231,Tryz.ntmps231
 go_wp2
 go_loopg [8] xs.length (fun g i wr=>∃k:Nat,k+g=xs.length/\i=iV k/\w=wr/\Hid (∀j,j<k->(yak) (xs.getD j 0)=false))
 case atStart=>exact ⟨0,by omega,rfl,rfl,fun j hj=>absurd hj om⟩
 case round =>
  obtain ⟨k,hkg,rfl,rfl,HN⟩:=hrel;cases gk with
  | zero =>
   have hlt:¬((k:Int)<(xs.length:Int)):=by omega
   go_wp2
   go_ret
   refine ⟨-1,rfl,?_,rfl⟩;rw [<-hr0.out];simp only [show decide ((0:Int) <= -1)=false from by decide]
   symm
   rw [List.any_eq_false];intro y hy;obtain ⟨j,hj,rfl⟩:=List.getElem_of_mem hy;have:=HN.out j om
   simpa [List.getD,hj] using this
  | succ g =>
   have hlt:(k:Int)<(xs.length:Int):=by omega
   have hkn:k<xs.length:=by omega
   obtain ⟨b,o,x,rfl,hcell,hx⟩:=HV.out.get (i:=k) hkn;have HC:=ypz x w;cases hp:(yak) x with
   | true =>
    have HC':Calls Tryz.prog 244 #[iV x] w (Ret (.bool true) w):=by rw [<-hp];exact HC
    have HP:=lh hp;clear hp HC
    go_wp2_with (go_at_call 244;refine HC'.mono ?_;rintro e w' ⟨rfl,rfl⟩)
    go_ret
    refine ⟨k,rfl,?_,rfl⟩;rw [<-hr0.out]
    have e1:xs.any (yak)=true:= by
     rw [List.any_eq_true];refine ⟨x,?_,HP.out⟩;rw [<-hx.out];simp [List.getD,hkn]
    rw [e1];simp
   | false =>
    have HC':Calls Tryz.prog 244 #[iV x] w (Ret (.bool false) w):=by rw [<-hp];exact HC
    have HP:=lh hp;clear hp HC
    go_wp2_with (go_at_call 244;refine HC'.mono ?_;rintro e w' ⟨rfl,rfl⟩)
    go_roundg g
    case measure=>omega
    case rel=>exact ⟨k+1,by omega,by go_num,rfl,fun j hj=>by
     rcases Nat.lt_succ_iff_lt_or_eq.1 hj with h' | rfl
     ·exact HN.out j h'
     ·rw [hx.out];exact HP.out⟩
theorem yfo (v:Value) (xs:List Int) (r0:Bool) (hr0:Hid (xs.any (yak)=r0)) (w:World) (hv:Sl .i64 w v xs) :
 Calls Tryz.prog 210 #[v,.func (.func 244) #[] #[]] w (Ret (.bool r0) w):= by
 cases r0 with
 | true =>
  go_enter Tryz.func210,Tryz.ntmps210
  go_wp2_with fail
  refine (yhq v xs true hr0 _ hv).mono ?_;rintro e w' ⟨r,rfl,hr,rfl⟩
  go_wp2_with fail
  go_ret
  exact Ret.mk _ _
 | false =>
  go_enter Tryz.func210,Tryz.ntmps210
  go_wp2_with fail
  refine (yhq v xs false hr0 _ hv).mono ?_;rintro e w' ⟨r,rfl,hr,rfl⟩
  go_wp2_with fail
  go_ret
  exact Ret.mk _ _
theorem yca (v:Value) (xs:List Int) (r0:Bool) (hr0:Hid (xs.any yak=!r0)) (w:World) (hv:Sl .i64 w v xs) :
 Calls Tryz.prog 232 #[v] w (Ret (.bool r0) w):= by
 cases r0 with
 | true =>
  go_enter Tryz.func232,Tryz.ntmps232
  go_wp2_with fail
  refine (yfo v xs false hr0 _ hv).mono ?_;rintro e w' ⟨rfl,rfl⟩
  go_wp2_with fail
  go_ret
  exact Ret.mk _ _
 | false =>
  go_enter Tryz.func232,Tryz.ntmps232
  go_wp2_with fail
  refine (yfo v xs true hr0 _ hv).mono ?_;rintro e w' ⟨rfl,rfl⟩
  go_wp2_with fail
  go_ret
  exact Ret.mk _ _
theorem ytz:(Tryz.prog.info? 4).map (fun i=>(i.zero,i.size,i.bytes))=some (some (.bool false),1,1):=by kernel_rfl
theorem yt1:(Tryz.prog.info? 2).map (fun i=>(i.zero,i.size,i.bytes))=some (some (iZ),1,8):=by kernel_rfl
theorem yfk (v:Value) (ks:List Int) (n:Nat) (r0:Bool) (hr0:Hid (ordB ks n=r0)) (w:World) (hv:Sl .i64 w v ks) (hn:n<=1000) (hk:ks.length<=1000) :
 Calls Tryz.prog 237 #[v,iV n] w (RetB (.bool r0) w):= by
 have HV:=lh hv;obtain ⟨ao,cap,rfl,h1,⟨h2,_⟩,h3⟩:=hv;clear h3;unfold maxLen at h2;obtain ⟨i0,hi,hz0,hz1,hz2⟩:=info_parts ytz
 go_enter Tryz.func237,Tryz.ntmps237
 go_wp2_with (at_make;refine wpList_make_full _ rfl _ _ 306 rfl w.heap.size 4 i0 (.bool false) 1 Tryz.underlying306 hi hz0 hz1 _ _ _ _ n rfl rfl rfl rfl (by rw [hz2];omega) (by unfold maxLen;omega) (Nat.le_refl _) ?_;intro w1 hown1 hgrow1)
 obtain ⟨cur,hB,_,_,hcl,hct,_⟩:=ya8 hown1;have hb1:=yfw hgrow1;have H1:=lh (And.intro hB (And.intro hcl (And.intro hct hb1)));clear hB hcl hct hb1 hown1 hgrow1;go_loopg [12] ks.length (fun g i wr=>∃k:Nat,k+g=ks.length/\i=iV k/\BW w wr/\Hid (ordT ks n k=true)/\∃cur,Blk wr w.heap.size 4 cur/\Hid (cur.length=n)/\Hid (∀j,j<n->cur[j]?=some (.bool ((ks.take k).contains ((j:Int)+1)))))
 case atStart =>
  obtain ⟨hB,hcl,hct,hb1⟩:=H1.out;refine ⟨0,by omega,rfl,hb1,rfl,cur,hB,by show _=_;omega,fun j hj=>?_⟩
  have:cur=List.replicate n (.bool false):= by
   rw [<-List.take_of_length_le (show cur.length<=n*1 by omega),hct];rw [Nat.mul_one];exact toList_madeCells_one _ _
  rw [this];simp [hj]
 case round =>
  obtain ⟨k,hkg,rfl,hb,hord,cur,hB,hcl,hcur⟩:=hrel;clear H1;cases gk with
  | zero =>
   have hlt:¬((k:Int)<(ks.length:Int)):=by omega
   obtain rfl:k=ks.length:=by omega
   obtain rfl:true=r0:=by rw [<-hr0.out];exact hord.out.symm
   go_wp2
   go_ret
   exact ⟨rfl,hb⟩
  | succ g =>
   have hlt:(k:Int)<(ks.length:Int):=by omega
   have hkn:k<ks.length:=by omega
   obtain ⟨b,o,y,rfl,hcell,hy⟩:=(HV.out.below hb).get (i:=k) hkn
   have hno:Hid (ordT ks n (k+1)=false->r0=false):=fun h=>by
    rw [<-hr0.out];cases e:ordB ks n with
    | false=>rfl
    | true =>
     have:=ytv e (show k+1<=ks.length from hkn);rw [h] at this;cases this
   by_cases t1:y<1
   ·obtain rfl:r0=false:=hno.out (by simp only [ordT,hy.out,show decide (1<=y)=false by simp;omega];simp)
    go_wp2
    go_ret
    exact ⟨rfl,hb⟩
   ·by_cases t2:(n:Int)<y
    ·obtain rfl:r0=false:=hno.out (by simp only [ordT,hy.out,show decide (y<=n)=false by simp;omega];simp)
     go_wp2
     go_ret
     exact ⟨rfl,hb⟩
    ·obtain ⟨m,rfl⟩:∃m:Nat,y=(m:Int)+1:=⟨(y-1).toNat,by omega⟩
     have hmn:m<n:=by omega
     have hcm:=hcur.out m hmn;cases hc:(ks.take k).contains ((m:Int)+1) with
     | true =>
      obtain rfl:r0=false:=hno.out (by simp only [ordT,hy.out,hc];simp);have hcb:wr.cell? (Ad w.heap.size m)=some (.bool true):=by rw [hB.cell,hcm,hc]
      clear hcm hc;go_wp2
      go_ret
      exact ⟨rfl,hb⟩
     | false =>
      have hcb:wr.cell? (Ad w.heap.size m)=some (.bool false):=by rw [hB.cell,hcm,hc]
      have hf:=hB.frozen m;have X:=lh (And.intro hB (And.intro hcm hc));clear hB hcm hc;go_wp2
      go_roundg g
      case measure=>omega
      case rel =>
       obtain ⟨hB,hcm,hc⟩:=X.out;refine ⟨k+1,by omega,by go_num,hb.setCell (Nat.le_refl _) _,?_,cur.set m (.bool true),hB.set m _,by show _=_;rw [List.length_set];exact hcl.out,fun j hj=>?_⟩
       ·show _=_
        simp only [ordT,hy.out,hc,hord.out];simp;omega
       ·have e:ks.take (k+1)=ks.take k++[(m:Int)+1]:= by
         rw [List.take_succ_eq_append_getElem hkn]
         congr 2
         rw [<-hy.out];simp [List.getD,hkn]
        rw [e,List.getElem?_set]
        by_cases hj2:m=j
        ·subst hj2
         have:=hcl.out;simp [show m<cur.length by omega]
        ·rw [if_neg hj2,hcur.out j hj]
         congr 2
         have:¬((j:Int)+1=(m:Int)+1):=by omega
         simp [this]
def yyy (xs:List Int) (left:Int) (w:World) (e:Ending) (w':World):Prop:=∃u,e=.returned (.tuple #[u,iV left])/\w'.ownsRow w.heap.size 2 1 u xs.length (xs.map (Value.int .i64))/\BW w w'
theorem yl9 (v u:Value) (bal ks:List Int) (amount:Int) (w:World) (hv:Sl .i64 w v bal) (hu:Sl .i64 w u ks) (hn:bal.length<=1000) (hk:ks.length<=1000)
 (ha:0<=amount/\amount<=1000000000000000) (hb:Hid (∀x∈bal,0<=x/\x<=1000000000000000)) (ho:Hid (∀i,i<ks.length->1<=ks.getD i 0/\ks.getD i 0<=bal.length)) :
 Calls Tryz.prog 233 #[v,u,iV amount] w (yyy (ybq bal ks amount).1 (ybq bal ks amount).2 w):= by
 have HV:=lh hv;have HU:=lh hu;obtain ⟨ao,cap,rfl,h1,⟨h2,_⟩,h3⟩:=hv;obtain ⟨ao',cap',rfl,h1',⟨h2',_⟩,h3'⟩:=hu;clear h3 h3';unfold maxLen at h2 h2';have HF:Hid (∀i,0<=(fill bal ks amount i).2/\(fill bal ks amount i).2<=amount):=fun i=>ydz ha.1 (fun x hx=>(hb.out x hx).1) i;obtain ⟨i0,hi,hz0,hz1,hz2⟩:=info_parts yt1
 go_enter Tryz.func233,Tryz.ntmps233
 go_wp2
 refine yai 0 (fun a' w'=>∃(i:Nat) (cur:List Value) (A:Int) (L:List Int) (u10 u11 u12 u13 u14 u15 u16 u17 u18 u19 u20 u21 u22 u23 u24 u25 u26 u27 u28 u29 u30 u31 u32 u33 u34 u35 u36 u37 u38 u39 u40 u41:Value),a'={ tmps:=#[Value.slice ao bal.length cap,Value.slice ao' ks.length cap',iV A,undef,undef,undef,sZ,iZ,sL w.heap.size 0 bal.length bal.length,iV i,u10,u11,u12,u13,u14,u15,u16,u17,u18,u19,u20,u21,u22,u23,u24,u25,u26,u27,u28,u29,u30,u31,u32,u33,u34,u35,u36,u37,u38,u39,u40,u41],defers:=[] } /\
  i<=ks.length/\Hid (fill bal ks amount i=(L,A))/\Blk w' w.heap.size 2 cur/\Hid (cur=L.map (Value.int .i64))/\BW w w')
  (fun a' _=>ks.length-(intOf (a'.tmps.getD 9 undef)).toNat) rfl ?pass ?first
 case first =>
  intro J' _ hrest;have HR:=lh hrest;clear hrest
  go_wp2_with (at_make;refine wpList_make_full _ rfl _ _ 33 rfl w.heap.size 2 i0 (iZ) 1 Tryz.underlying33 hi hz0 hz1 _ _ _ _ bal.length rfl rfl rfl rfl (by rw [hz2];omega) (by unfold maxLen;omega) (Nat.le_refl _) ?_;intro w1 hown1 hgrow1)
  obtain ⟨cur,hB,_,_,hcl,hct,_⟩:=ya8 hown1;have hb1:=yfw hgrow1
  go_step3
  go_step
  go_step
  refine HR.out _ _ ⟨0,cur,amount,List.replicate bal.length 0,_,_,_,_,_,_,_,_,_,_,_,_,_,_,_,_,_,_,_,_,_,_,_,_,_,_,_,_,_,_,_,_,rfl,Nat.zero_le _,rfl,hB,?_,hb1⟩;show _=_
  have:cur=List.replicate bal.length (iZ):= by
   rw [<-List.take_of_length_le (show cur.length<=bal.length*1 by omega),hct];rw [Nat.mul_one];exact toList_madeCells_one _ _
  rw [this];simp
 case pass =>
  intro a1 w1 hJ J' hJ';obtain ⟨i,cur,A,L,hJ⟩:=hJ
  iterate 32 obtain ⟨_,hJ⟩:=hJ
  obtain ⟨ha',hin,hfill,hB,HC,hbw⟩:=hJ;subst ha';have hfi:=HF.out i;rw [hfill.out] at hfi;simp only at hfi
  have hlen:Hid (cur.length=bal.length):= by
   show _=_;rw [HC.out];have:=ydi bal ks amount i;rw [hfill.out] at this
   simpa using this
  by_cases hlt:i<ks.length
  ·obtain ⟨b',o',y,rfl,hcy,hy⟩:=(HU.out.below hbw).get (i:=i) hlt
   have hyr:=ho.out i hlt;rw [hy.out] at hyr;obtain ⟨m,rfl⟩:∃m:Nat,y=(m:Int)+1:=⟨(y-1).toNat,by omega⟩;have hmn:m<bal.length:=by omega
   obtain ⟨b,o,x,rfl,hcx,hx⟩:=(HV.out.below hbw).get (i:=m) hmn
   have hx0:0<=x/\x<=1000000000000000:= by
    rw [<-hx.out];have:=hb.out bal[m] (List.getElem_mem hmn)
    simpa [List.getD,hmn] using this
   obtain ⟨v0,hc0⟩:=hB.some (j:=m) (by rw [hlen.out];exact hmn);have hf0:=hB.frozen m
   have HST:Hid (fill bal ks amount (i+1)=(L.set m (min A x),A-min A x)):= by
    have e1:((m:Int)+1-1).toNat=m:=by omega
    show _=_;simp only [fill,hy.out,e1,hx.out,hfill.out]
   have X:=lh (And.intro hB hbw);clear hB hbw
   by_cases hmin:A<=x
   ·have HM:=lh (show min A x=A by omega)
    go_wp2
    go_step3
    refine ⟨rfl,hJ' _ _ ⟨i+1,cur.set m (iV A),0,L.set m A,_,_,_,_,_,_,_,_,_,_,_,_,_,_,_,_,_,_,_,_,_,_,_,_,_,_,_,_,_,_,_,_,rfl,by omega,by show _=_;rw [HST.out,HM.out,Int.sub_self],X.out.1.set m _,by show _=_;rw [HC.out];simp [List.map_set],X.out.2.setCell (Nat.le_refl _) _⟩ ?_⟩;simp [intOf];omega
   ·have HM:=lh (show min A x=x by omega)
    go_wp2
    go_step3
    refine ⟨rfl,hJ' _ _ ⟨i+1,cur.set m (iV x),A-x,L.set m x,_,_,_,_,_,_,_,_,_,_,_,_,_,_,_,_,_,_,_,_,_,_,_,_,_,_,_,_,_,_,_,_,rfl,by omega,by show _=_;rw [HST.out,HM.out],X.out.1.set m _,by show _=_;rw [HC.out];simp [List.map_set],X.out.2.setCell (Nat.le_refl _) _⟩ ?_⟩;simp [intOf];omega
  ·obtain rfl:i=ks.length:=by omega
   have hfin:ybq bal ks amount=(L,A):=hfill.out;rw [hfin];have X:=lh (And.intro hB hbw);clear hB hbw hfin;go_wp2
   simp only [Exit.jump]
   go_ret2
   have hLl:L.length=bal.length:= by
    have:=ydi bal ks amount ks.length
    rwa [hfill.out] at this
   refine ⟨_,rfl,?_,X.out.2⟩;rw [hLl];refine yct X.out.1 (Nat.le_refl _) (Nat.le_refl _) (by unfold maxLen;omega) (by rw [hlen.out,Nat.mul_one]) ?_;rw [List.take_of_length_le (by rw [hlen.out,Nat.mul_one];exact Nat.le_refl _),HC.out]
def yia (bal ks:List Int) (amount:Int):List Int×Int×Int :=
 if (ordB ks bal.length && !bal.any yak && !yak amount)=true then ((ybq bal ks amount).1,(ybq bal ks amount).2,0) else ([],0,1)
def ja5 (r:List Int×Int×Int) (w:World) (e:Ending) (w':World):Prop:=∃u,e=.returned (.tuple #[u,iV r.2.1,iV r.2.2])/\w'.ownsRow w.heap.size 2 1 u r.1.length (r.1.map (Value.int .i64))/\BW w w'
theorem jac (k:IntKind) (w:World):Sl k w (sZ) []:=⟨none,0,rfl,Nat.le_refl _,⟨by simp [maxLen],fun _=>rfl⟩,fun h=>absurd rfl h⟩
theorem ylg {xs:List Int} (h:xs.any yak=false):∀x∈xs,0<=x/\x<=1000000000000000:= by
 intro x hx;have:=List.any_eq_false.1 h x hx;simp [yak] at this;omega
theorem yc5 {x:Int} (h:yak x=false):0<=x/\x<=1000000000000000:= by
 simp [yak] at h;omega
theorem yi9 (v u:Value) (bal ks:List Int) (amount:Int) (w:World) (hv:Sl .i64 w v bal) (hu:Sl .i64 w u ks) (hn:bal.length<=1000) (hk:ks.length<=1000) :
 Calls Tryz.prog 218 #[v,u,iV amount] w (ja5 (yia bal ks amount) w):= by
 have HV:=lh hv;have HU:=lh hu;obtain ⟨ao,cap,rfl,h1,⟨h2,_⟩,h3⟩:=hv;clear h3;unfold maxLen at h2
 have hA:∀W:World,Calls Tryz.prog 232 #[sL W.heap.size 0 1 1] (W.alloc (.cells #[iV amount] 2)) (Ret (.bool (!yak amount)) (W.alloc (.cells #[iV amount] 2))):=fun W =>
  yca _ [amount] _ (lh (by simp)) _ (Sl.lit _ _ [amount] 1 rfl _ rfl (by decide))
 have HA:=lh hA;clear hA;cases ho:ordB ks bal.length with
 | false =>
  have hr:yia bal ks amount=([],0,1):=by simp [yia,ho]
  rw [hr];clear hr;have HO:=lh ho;clear ho
  go_enter Tryz.func218,Tryz.ntmps218
  go_wp2_with fail
  refine (yfk _ ks bal.length false HO.out _ HU.out hn hk).mono ?_;rintro e w1 ⟨rfl,hb1⟩
  go_wp2_with fail
  go_ret3
  exact ⟨_,rfl,World.ownsRow_nil _ _ _ _,hb1⟩
 | true =>
  cases hb:bal.any yak with
  | true =>
   have hr:yia bal ks amount=([],0,1):=by simp only [yia,hb];simp
   rw [hr];clear hr;have HO:=lh ho;have HB:=lh hb;clear ho hb
   go_enter Tryz.func218,Tryz.ntmps218
   go_wp2_with fail
   refine (yfk _ ks bal.length true HO.out _ HU.out hn hk).mono ?_;rintro e w1 ⟨rfl,hb1⟩
   go_wp2_with fail
   refine (yca _ bal false HB.out _ (HV.out.below hb1)).mono ?_;rintro e w2 ⟨rfl,rfl⟩
   go_wp2_with fail
   go_ret3
   exact ⟨_,rfl,World.ownsRow_nil _ _ _ _,hb1⟩
  | false =>
   cases hm:yak amount with
   | true =>
    have hr:yia bal ks amount=([],0,1):=by simp only [yia,hm];simp
    rw [hr];clear hr;have HO:=lh ho;have HB:=lh hb;have HM:=lh hm;clear ho hb hm
    go_enter Tryz.func218,Tryz.ntmps218
    go_wp2_with fail
    refine (yfk _ ks bal.length true HO.out _ HU.out hn hk).mono ?_;rintro e w1 ⟨rfl,hb1⟩
    go_wp2_with fail
    refine (yca _ bal true HB.out _ (HV.out.below hb1)).mono ?_;rintro e w2 ⟨rfl,rfl⟩
    go_wp2_with fail
    have h:=HA.out w1;rw [HM.out] at h;refine h.mono ?_;clear h;rintro e w2 ⟨rfl,rfl⟩
    go_wp2_with fail
    go_ret3
    exact ⟨_,rfl,World.ownsRow_nil _ _ _ _,yaa hb1 _⟩
   | false =>
    have hr:yia bal ks amount=((ybq bal ks amount).1,(ybq bal ks amount).2,0):=by simp only [yia,ho,hb,hm];simp
    rw [hr];clear hr;have HO:=lh ho;have HB:=lh hb;have HM:=lh hm;clear ho hb hm
    go_enter Tryz.func218,Tryz.ntmps218
    go_wp2_with fail
    refine (yfk _ ks bal.length true HO.out _ HU.out hn hk).mono ?_;rintro e w1 ⟨rfl,hb1⟩
    go_wp2_with fail
    refine (yca _ bal true HB.out _ (HV.out.below hb1)).mono ?_;rintro e w2 ⟨rfl,rfl⟩
    go_wp2_with fail
    have h:=HA.out w1;rw [HM.out] at h;refine h.mono ?_;clear h;rintro e w2 ⟨rfl,rfl⟩
    go_wp2_with fail
    refine (yl9 _ _ bal ks amount _ ((HV.out.below hb1).alloc _) ((HU.out.below hb1).alloc _) hn hk (yc5 HM.out) (lh (ylg HB.out)) (lh fun i hi=>by have:=yy2 HO.out hi;exact ⟨this.1,this.2.1⟩)).mono ?_;rintro e w3 ⟨u3,rfl,hs3,hb3⟩
    go_wp2_with fail
    go_ret3
    exact ⟨_,rfl,ygc hs3 (by have:=hb1.size;rw [World.size_alloc];omega),bL⟩
def mixL (a b:List Int) (k:Nat):List Int:=a.take k++b.drop k
theorem yfy (a b:List Int):mixL a b 0=b:=by simp [mixL]
theorem ygk {a b:List Int} {n:Nat} (h1:a.length=n) (h2:b.length=n):mixL a b n=a:= by
 subst h1;simp [mixL,List.drop_eq_nil_of_le (show b.length<=a.length by omega)]
theorem yfl {a b:List Int} {n k:Nat} (h1:a.length=n) (h2:b.length=n) (hk:k<=n):(mixL a b k).length=n:= by
 simp [mixL];omega
theorem yjl {a b:List Int} {n k:Nat} (h1:a.length=n) (h2:b.length=n) (hk:k<n):(mixL a b k).getD k 0=b.getD k 0:= by
 have e:(a.take k).length=k:=by rw [List.length_take];omega
 simp only [mixL,List.getD_eq_getElem?_getD];rw [List.getElem?_append_right om,e,List.getElem?_drop];simp
theorem yjp {a b:List Int} {n k:Nat} (h1:a.length=n) (h2:b.length=n) (hk:k<n):(mixL a b k).set k (a.getD k 0)=mixL a b (k+1):= by
 have e:(a.take k).length=k:=by rw [List.length_take];omega
 have e2:a.getD k 0=a[k]:=by simp [List.getD,show k<a.length by omega]
 have e3:b.drop k=b[k]::b.drop (k+1):=List.drop_eq_getElem_cons (show k<b.length by omega);have e4:a.take (k+1)=a.take k++[a[k]]:=List.take_succ_eq_append_getElem om;simp only [mixL];rw [List.set_append_right _ _ om,e,Nat.sub_self,e2,e3,e4];rw [List.set_cons_zero,List.append_assoc]
 rfl
theorem yed {w:World} {base:Nat} {e:TypeId} {v:Value} {n:Nat} {xs:List Value} (h:w.ownsRow base e 1 v n xs) :
 ∃ao cap,v=.slice ao n cap/\n<=cap/\cap<=maxLen/\(0<n->∃g,ao=some (Ad g 0)/\base<=g/\∃cur,Blk w g e cur/\cur.length=cap/\cur.take n=xs):= by
 rcases h.2 with ⟨rfl,rfl⟩ | ⟨g,cap,cur,rfl,hb,hg,hnc,hcm,hcs,htake⟩
 ·exact ⟨none,0,rfl,Nat.le_refl _,by simp [maxLen],fun h=>absurd h om⟩
 ·exact ⟨_,cap,rfl,hnc,hcm,fun _=>⟨g,rfl,hb,cur.toList,by simpa [Blk] using hg,by simpa using hcs,by simpa using htake⟩⟩
def Nums (w:World) (g:Nat) (cap:Nat) (xs:List Int):Prop:=∃cur,Blk w g 2 cur/\cur.length=cap/\cur.take xs.length=xs.map (Value.int .i64)
theorem Nums.below {w w':World} {g cap:Nat} {xs:List Int} (h:Nums w g cap xs) (hb:BW w w'):Nums w' g cap xs:= by
 obtain ⟨cur,h1,h2,h3⟩:=h;exact ⟨cur,h1.below hb,h2,h3⟩
theorem Nums.lt {w:World} {g cap:Nat} {xs:List Int} (h:Nums w g cap xs):g<w.heap.size:=by obtain ⟨cur,h1,_⟩:=h;exact h1.lt
theorem Nums.cell {w:World} {g cap:Nat} {xs:List Int} (h:Nums w g cap xs) {i:Nat} (hi:i<xs.length):w.cell? (Ad g i)=some (iV (xs.getD i 0)):= by
 obtain ⟨cur,h1,h2,h3⟩:=h;rw [h1.cell];exact yfh h3 hi hi
theorem Nums.frozen {w:World} {g cap:Nat} {xs:List Int} (h:Nums w g cap xs) (i:Nat):w.frozen? (Ad g i)=false:=by obtain ⟨cur,h1,_⟩:=h;exact h1.frozen i
theorem Nums.set {w:World} {g cap:Nat} {xs:List Int} (h:Nums w g cap xs) (i:Nat) (x:Int):Nums (w.setCell (Ad g i) (iV x)) g cap (xs.set i x):= by
 obtain ⟨cur,h1,h2,h3⟩:=h;refine ⟨_,h1.set i _,by simpa using h2,?_⟩;rw [List.length_set,List.take_set,h3,List.map_set]
theorem Nums.sl {w:World} {g cap n:Nat} {xs:List Int} (h:Nums w g cap xs) (hn:xs.length=n) (hc:n<=cap) (hm:cap<=maxLen):Sl .i64 w (sL g 0 n cap) xs:= by
 obtain ⟨cur,h1,h2,h3⟩:=h;exact Sl.of_blk h1 hn hc hm (by rw [<-hn];exact h3)
theorem Nums.setOther {w:World} {g g' cap:Nat} {xs:List Int} (h:Nums w g cap xs) (hne:g≠g') (i:Nat) (x:Value):Nums (w.setCell (Ad g' i) x) g cap xs:= by
 obtain ⟨cur,h1,h2,h3⟩:=h;exact ⟨cur,h1.setOther hne i x,h2,h3⟩
def bk (p:Int->Bool) (l:List Int):Nat->Nat
 | 0=>0
 | k+1=>if p (l.getD k 0) then bk p l k else k+1
def mid (l:List Int) (x:Int) (k:Nat):List Int:=l.take k++x::l.drop k
def ins (p:Int->Bool) (l:List Int) (x:Int):List Int:=mid l x (bk p l l.length)
def ya3 (lt:Int->Int->Bool) (xs:List Int):Nat->List Int
 | 0=>[]
 | n+1=>ins (fun y=>lt (xs.getD n 0) (xs.getD (y-1).toNat 0)) (ya3 lt xs n) ((n:Int)+1)
theorem ydo (l:List Int) (x:Int) (k:Nat):(mid l x k).length=l.length+1:= by
 simp [mid];omega
theorem yqn (l:List Int) (x:Int):mid l x l.length=l++[x]:=by simp [mid]
theorem yws (l:List Int) (x:Int) (k:Nat):(mid l x k).Perm (x::l):= by
 unfold mid;exact List.perm_middle.trans (by rw [List.take_append_drop])
theorem ya4 (lt:Int->Int->Bool) (xs:List Int) (n:Nat):(ya3 lt xs n).length=n:= by
 induction n with
 | zero=>rfl
 | succ n ih=>simp [ya3,ins,ydo,ih]
theorem yh8 (lt:Int->Int->Bool) (xs:List Int) (n:Nat):(ya3 lt xs n).Perm ((List.range n).map (fun (i:Nat)=>(i:Int)+1)):= by
 induction n with
 | zero=>simp [ya3]
 | succ n ih =>
  rw [List.range_succ,List.map_append];refine (yws _ _ _).trans ?_;refine (List.Perm.cons _ ih).trans ?_;exact (List.perm_append_comm (l₁:=[(n:Int)+1]) (l₂:=(List.range n).map (fun (i:Nat)=>(i:Int)+1)))
theorem ynu {lt:Int->Int->Bool} {xs:List Int} {n:Nat} {y:Int} (h:y∈ya3 lt xs n):1<=y/\y<=n:= by
 have:=(yh8 lt xs n).mem_iff.1 h;simp at this;omega
theorem yhu {lt:Int->Int->Bool} {xs:List Int} {n i:Nat} (h:i<n):1<=(ya3 lt xs n).getD i 0/\(ya3 lt xs n).getD i 0<=n:= by
 refine ynu (lt:=lt) (xs:=xs) ?_;have hl:=ya4 lt xs n;simp [List.getD,show i<(ya3 lt xs n).length by omega]
theorem yh7 {l:List Int} {x:Int} {k:Nat} (hk:k<=l.length):(mid l x k).getD k 0=x:= by
 simp [mid,List.getD,hk]
theorem yig {l:List Int} {x:Int} {k i:Nat} (hk:k<=l.length) (hi:i<k):(mid l x k).getD i 0=l.getD i 0:= by
 simp [mid,List.getD,List.getElem?_append,hi,hk,show i<l.length by omega]
theorem yop {α:Type} {cur:List α} {n i j:Nat} {a b:α} (_hi:i<n) (_hj:j<n):((cur.set i a).set j b).take n=((cur.take n).set i a).set j b:= by
 rw [List.take_set,List.take_set]
theorem yr3 {l:List Int} {x:Int} {k:Nat} (hk:k<l.length):((mid l x (k+1)).set k x).set (k+1) (l.getD k 0)=mid l x k:= by
 apply List.ext_getElem?
 intro i;simp only [mid,List.getElem?_set,List.getElem?_append,List.length_take,List.length_set,List.length_append,List.length_cons,List.length_drop,List.getD_eq_getElem?_getD];have e1:min (k+1) l.length=k+1:=by omega
 have e2:min k l.length=k:=by omega
 rw [e1,e2]
 by_cases h1:k+1=i
 ·subst h1
  simp [hk,show k+1<k+1+(l.length-(k+1)+1) by omega];intro h;omega
 ·by_cases h2:k=i
  ·subst h2
   simp [show k<k+1+(l.length-(k+1)+1) by omega]
  ·simp [h1,h2]
   by_cases h3:i<k
   ·simp [h3,show i<k+1 by omega]
   ·have h4:¬i<k+1:=by omega
    simp [h3,h4];obtain ⟨j,rfl⟩:∃j,i=k+2+j:=⟨i-(k+2),by omega⟩;have e3:k+2+j-(k+1)=j+1:=by omega
    have e4:k+2+j-k=j+2:=by omega
    rw [e3,e4];simp only [List.getElem?_cons_succ,List.getElem?_drop]
    congr 1
    omega
end Go.Proofs.YtkongpjpkpfniaaGreat

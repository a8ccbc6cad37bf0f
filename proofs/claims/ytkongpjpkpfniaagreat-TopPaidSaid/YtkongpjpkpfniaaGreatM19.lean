/- TopPaid: parts of the proof, made small by a program (mini.py). -/
import Derived.Deep.CutBlock
import Derived.Test.YtkongpjpkpfniaaGreatM01
import Derived.Test.YtkongpjpkpfniaaGreatM02
import Derived.Test.YtkongpjpkpfniaaGreatM03
import Derived.Test.YtkongpjpkpfniaaGreatM18
set_option linter.unusedVariables false
set_option linter.unusedSimpArgs false
set_option maxRecDepth 100000
set_option maxHeartbeats 6400000
namespace Go.Proofs.YtkongpjpkpfniaaGreat
open Go.RowKit
theorem zq1973da {q:Prop} (h:q:= by
 have hA:¬n<1:=by omega
 have hB:¬300<n:=by omega
 have HD1:=lh hd;have HD2:=lh hd2;clear hd hd2 ha;exact zq19747a):q:=h
theorem zq19747a {q:Prop} (h:q:= by
 go_wp2_with (first | (go_at_call 185;refine (yrc _ _ (by first | exact HD1.out | exact HD2.out) _).mono ?_;rintro _ _ ⟨rfl,rfl⟩))
 go_step3
 exact ygu.mk X14.out X15.out XB.out):q:=h
def LnS (w:World) (v:Value) (ls:List (Int×Int×Int)):Prop :=
 ∃ao cap,v=.slice ao ls.length cap∧ls.length≤cap∧(cap≤maxLen∧(ao=none→cap=0)) ∧
  (ls≠[]→∃b o,ao=some ⟨b,o,none⟩∧∀i,i<ls.length→w.cell? ⟨b,o+i*3,none⟩=some (iV (ls.getD i (0,0,0)).1)∧w.cell? ⟨b,o+i*3+1,none⟩=some (iV (ls.getD i (0,0,0)).2.1)∧w.cell? ⟨b,o+i*3+2,none⟩=some (iV (ls.getD i (0,0,0)).2.2))
theorem LnS.nil {w:World}:LnS w (sZ) []:=⟨none,0,rfl,Nat.le_refl _,⟨by simp [maxLen],fun _=>rfl⟩,fun h=>absurd rfl h⟩
theorem LnS.below {w w':World} {v:Value} {ls:List (Int×Int×Int)} (h:LnS w v ls) (hb:Below w.heap.size w w'):LnS w' v ls:= by
 obtain ⟨ao,cap,rfl,h1,h2,h3⟩:=h;refine ⟨ao,cap,rfl,h1,h2,fun hx=>?_⟩;obtain ⟨b,o,rfl,hc⟩:=h3 hx;refine ⟨b,o,rfl,fun i hi=>?_⟩;obtain ⟨c1,c2,c3⟩:=hc i hi;exact ⟨(hb.cell (p:=⟨b,o+i*3,none⟩) (yac c1)).trans c1,(hb.cell (p:=⟨b,o+i*3+1,none⟩) (yac c2)).trans c2,(hb.cell (p:=⟨b,o+i*3+2,none⟩) (yac c3)).trans c3⟩
def yfu (n fr til du:Int) (ls:List (Int×Int×Int)) (tot cr mn:Int) (g:Bool) (bs:List Int) (pc pd e:Int) (w:World) (x:Ending) (w':World):Prop :=
 ∃lv bv,x=.returned (.tuple #[.agg #[iV n,iV fr,iV til,iV du,lv,iV tot,iV cr,iV mn,.bool g],.agg #[bv,iV pc,iV pd],iV e])∧LnS w' lv ls∧Sl .i64 w' bv bs∧(Fr w lv∧Fr w bv)∧Below w.heap.size w w'
def yye (e:Int):World→Ending→World→Prop:=yfu 0 0 0 0 [] 0 0 0 false [] 0 0 e
def dayB (n:Int):Bool:=decide (-135140≤n) && decide (n≤2932896)
theorem yrc (n:Int) (r:Bool) (hr:dayB n=r) (w:World):Calls Tryz.prog 185 #[iV n] w (Ret (.bool r) w):= by
 subst hr;unfold dayB
 by_cases a:-135140≤n
 ·by_cases b:n≤2932896
  ·go_enter Tryz.func185,Tryz.ntmps185
   go_wp2
   go_ret
   exact ⟨by simp [a,b],rfl⟩
  ·have b':decide (n≤2932896)=false:=by simp;omega
   go_enter Tryz.func185,Tryz.ntmps185
   go_wp2
   go_ret
   exact ⟨by simp,rfl⟩
 ·have a':decide (-135140≤n)=false:=by simp;omega
  go_enter Tryz.func185,Tryz.ntmps185
  go_wp2
  go_ret
  exact ⟨by simp,rfl⟩
def ygu (w:World) (E:Int) (l:Nat) (a':Act) (w':World):Prop :=
 l=0∧Blk w' (w.heap.size+1+1+1) 43 [iZ,iZ,iZ,iZ,sZ,iZ,iZ,iZ,.bool false]∧Blk w' (w.heap.size+1+1+1+1) 35 [sZ,iZ,iZ]∧Below w.heap.size w w'∧∃(u0 u1 u2 u3 u4 u5 u6 u7 u8 u9 u10 u11 u12 u13 u16 u17 u19 u20 u21 u22 u23 u24 u25 u26 u27 u28 u29 u30 u31 u32 u33 u34 u35 u36 u37 u38 u39 u40 u41 u42 u43 u44 u45 u46 u47 u48 u49 u50 u51 u52 u53 u54 u55 u56 u57 u58 u59 u60 u61 u62 u63 u64 u65 u66 u67 u68 u69 u70 u71 u72 u73 u74 u75 u76 u77 u78 u79 u80 u81 u82 u83 u84 u85 u86 u87 u88 u89 u90 u91 u92 u93 u94 u95 u96 u97 u98 u99 u100 u101 u102 u103 u104 u105 u106 u107 u108 u109 u110 u111 u112 u113 u114 u115 u116 u117 u118 u119 u120 u121 u122 u123 u124 u125 u126 u127 u128 u129 u130 u131 u132 u133 u134 u135 u136 u137 u138 u139 u140 u141 u142:Value),a'={ tmps:=#[u0,u1,u2,u3,u4,u5,u6,u7,u8,u9,u10,u11,u12,u13,pV (w.heap.size+1+1+1),pV (w.heap.size+1+1+1+1),u16,u17,iV E,u19,u20,u21,u22,u23,u24,u25,u26,u27,u28,u29,u30,u31,u32,u33,u34,u35,u36,u37,u38,u39,u40,u41,u42,u43,u44,u45,u46,u47,u48,u49,u50,u51,u52,u53,u54,u55,u56,u57,u58,u59,u60,u61,u62,u63,u64,u65,u66,u67,u68,u69,u70,u71,u72,u73,u74,u75,u76,u77,u78,u79,u80,u81,u82,u83,u84,u85,u86,u87,u88,u89,u90,u91,u92,u93,u94,u95,u96,u97,u98,u99,u100,u101,u102,u103,u104,u105,u106,u107,u108,u109,u110,u111,u112,u113,u114,u115,u116,u117,u118,u119,u120,u121,u122,u123,u124,u125,u126,u127,u128,u129,u130,u131,u132,u133,u134,u135,u136,u137,u138,u139,u140,u141,u142],defers:=[] }
theorem ygu.mk {w w':World} {E:Int} {u0 u1 u2 u3 u4 u5 u6 u7 u8 u9 u10 u11 u12 u13 u16 u17 u19 u20 u21 u22 u23 u24 u25 u26 u27 u28 u29 u30 u31 u32 u33 u34 u35 u36 u37 u38 u39 u40 u41 u42 u43 u44 u45 u46 u47 u48 u49 u50 u51 u52 u53 u54 u55 u56 u57 u58 u59 u60 u61 u62 u63 u64 u65 u66 u67 u68 u69 u70 u71 u72 u73 u74 u75 u76 u77 u78 u79 u80 u81 u82 u83 u84 u85 u86 u87 u88 u89 u90 u91 u92 u93 u94 u95 u96 u97 u98 u99 u100 u101 u102 u103 u104 u105 u106 u107 u108 u109 u110 u111 u112 u113 u114 u115 u116 u117 u118 u119 u120 u121 u122 u123 u124 u125 u126 u127 u128 u129 u130 u131 u132 u133 u134 u135 u136 u137 u138 u139 u140 u141 u142:Value} (h1:Blk w' (w.heap.size+1+1+1) 43 [iZ,iZ,iZ,iZ,sZ,iZ,iZ,iZ,.bool false]) (h2:Blk w' (w.heap.size+1+1+1+1) 35 [sZ,iZ,iZ]) (h3:Below w.heap.size w w'):ygu w E 0 { tmps:=#[u0,u1,u2,u3,u4,u5,u6,u7,u8,u9,u10,u11,u12,u13,pV (w.heap.size+1+1+1),pV (w.heap.size+1+1+1+1),u16,u17,iV E,u19,u20,u21,u22,u23,u24,u25,u26,u27,u28,u29,u30,u31,u32,u33,u34,u35,u36,u37,u38,u39,u40,u41,u42,u43,u44,u45,u46,u47,u48,u49,u50,u51,u52,u53,u54,u55,u56,u57,u58,u59,u60,u61,u62,u63,u64,u65,u66,u67,u68,u69,u70,u71,u72,u73,u74,u75,u76,u77,u78,u79,u80,u81,u82,u83,u84,u85,u86,u87,u88,u89,u90,u91,u92,u93,u94,u95,u96,u97,u98,u99,u100,u101,u102,u103,u104,u105,u106,u107,u108,u109,u110,u111,u112,u113,u114,u115,u116,u117,u118,u119,u120,u121,u122,u123,u124,u125,u126,u127,u128,u129,u130,u131,u132,u133,u134,u135,u136,u137,u138,u139,u140,u141,u142],defers:=[] } w' :=
 ⟨rfl,h1,h2,h3,u0,u1,u2,u3,u4,u5,u6,u7,u8,u9,u10,u11,u12,u13,u16,u17,u19,u20,u21,u22,u23,u24,u25,u26,u27,u28,u29,u30,u31,u32,u33,u34,u35,u36,u37,u38,u39,u40,u41,u42,u43,u44,u45,u46,u47,u48,u49,u50,u51,u52,u53,u54,u55,u56,u57,u58,u59,u60,u61,u62,u63,u64,u65,u66,u67,u68,u69,u70,u71,u72,u73,u74,u75,u76,u77,u78,u79,u80,u81,u82,u83,u84,u85,u86,u87,u88,u89,u90,u91,u92,u93,u94,u95,u96,u97,u98,u99,u100,u101,u102,u103,u104,u105,u106,u107,u108,u109,u110,u111,u112,u113,u114,u115,u116,u117,u118,u119,u120,u121,u122,u123,u124,u125,u126,u127,u128,u129,u130,u131,u132,u133,u134,u135,u136,u137,u138,u139,u140,u141,u142,rfl⟩
theorem yyr {w w':World} {g:Nat} (h:Below w.heap.size w w') (hg:w.heap.size≤g) (a b c d e f g' i j:Value):Below w.heap.size w (((((((((w'.setCell ⟨g,0,none⟩ a).setCell ⟨g,1,none⟩ b).setCell ⟨g,2,none⟩ c).setCell ⟨g,3,none⟩ d).setCell ⟨g,4,none⟩ e).setCell ⟨g,5,none⟩ f).setCell ⟨g,6,none⟩ g').setCell ⟨g,7,none⟩ i).setCell ⟨g,8,none⟩ j) :=
 ((((((((h.setCell hg _).setCell hg _).setCell hg _).setCell hg _).setCell hg _).setCell hg _).setCell hg _).setCell hg _).setCell hg _
theorem Blk.s9 {w:World} {g' g:Nat} {t:TypeId} {cur:List Value} (h:Blk w g' t cur) (hne:g'≠g) (a b c d e f f' i j:Value):Blk (((((((((w.setCell ⟨g,0,none⟩ a).setCell ⟨g,1,none⟩ b).setCell ⟨g,2,none⟩ c).setCell ⟨g,3,none⟩ d).setCell ⟨g,4,none⟩ e).setCell ⟨g,5,none⟩ f).setCell ⟨g,6,none⟩ f').setCell ⟨g,7,none⟩ i).setCell ⟨g,8,none⟩ j) g' t cur :=
 ((((((((h.setOther hne _ _).setOther hne _ _).setOther hne _ _).setOther hne _ _).setOther hne _ _).setOther hne _ _).setOther hne _ _).setOther hne _ _).setOther hne _ _
theorem yae (w:World) (cs:List Value) (t:TypeId) (z:Nat) (hz:w.heap.size=z):Blk (w.alloc (.cells cs.toArray t)) z t cs:=by subst hz;exact heap_alloc_new w _
theorem yjz (w:World) (lim cyc dued minf minp start fr til c d:Int) (vt vb:Value):∃W,(((((w.alloc (.cells #[iV lim,vt,iV cyc,iV dued,iV minf,iV minp,iV start] 24)).alloc (.cells #[iV fr,iV til] 40)).alloc (.cells #[vb,iV c,iV d] 35)).alloc (.cells #[iZ,iZ,iZ,iZ,sZ,iZ,iZ,iZ,.bool false] 43)).alloc (.cells #[sZ,iZ,iZ] 35))=W∧Hid (Blk W w.heap.size 24 [iV lim,vt,iV cyc,iV dued,iV minf,iV minp,iV start])∧Hid (Blk W (w.heap.size+1) 40 [iV fr,iV til])∧Hid (Blk W (w.heap.size+1+1) 35 [vb,iV c,iV d])∧Hid (Blk W (w.heap.size+1+1+1) 43 [iZ,iZ,iZ,iZ,sZ,iZ,iZ,iZ,.bool false])∧Hid (Blk W (w.heap.size+1+1+1+1) 35 [sZ,iZ,iZ])∧Hid (Below w.heap.size w W)∧Hid (W.heap.size=w.heap.size+5):= by
 exact ⟨_,rfl,Blk.below (yae w _ _ _ rfl) (yaa (yaa (yaa (yaa bR _) _) _) _),Blk.below (yae (w.alloc _) _ _ _ (by simp)) (yaa (yaa (yaa bR _) _) _),Blk.below (yae ((w.alloc _).alloc _) _ _ _ (by simp)) (yaa (yaa bR _) _),Blk.below (yae (((w.alloc _).alloc _).alloc _) _ _ _ (by simp)) (yaa bR _),yae ((((w.alloc _).alloc _).alloc _).alloc _) _ _ _ (by simp),yaa (yaa (yaa (yaa (yaa bR _) _) _) _) _,by show _=_;simp⟩
def ybg (x:Int):Bool:=decide (x<0) || decide (10000000<x)
def yix (nts:Nat) (n fr til:Int) (nb nr:Nat):Bool:=decide (1≤n) && decide (n≤300) && dayB fr && dayB til && decide (fr≤til) && nb == nts && nr == nts
theorem ygh {nts:Nat} {n fr til:Int} {nb nr:Nat}:yix nts n fr til nb nr=true↔1≤n∧n≤300∧dayB fr=true∧dayB til=true∧fr≤til∧nb=nts∧nr=nts:= by
 simp [yix,and_assoc]
theorem yzj {nts:Nat} {n fr til:Int} {nb nr:Nat} (h:yix nts n fr til nb nr=false):n<1∨(1≤n∧300<n)∨((1≤n∧n≤300)∧dayB fr=false)∨((1≤n∧n≤300)∧dayB fr=true∧dayB til=false)∨((1≤n∧n≤300)∧(dayB fr=true∧dayB til=true)∧til<fr)∨((1≤n∧n≤300)∧(dayB fr=true∧dayB til=true)∧fr≤til∧nb≠nts)∨((1≤n∧n≤300)∧(dayB fr=true∧dayB til=true)∧fr≤til∧nb=nts∧nr≠nts):= by
 by_cases a:1≤n
 ·by_cases b:n≤300
  ·cases e:dayB fr with
   | false=>exact .inr (.inr (.inl ⟨⟨a,b⟩,rfl⟩))
   | true =>
    cases e2:dayB til with
    | false=>exact .inr (.inr (.inr (.inl ⟨⟨a,b⟩,rfl,rfl⟩)))
    | true =>
     by_cases c:fr≤til
     ·by_cases d:nb=nts
      ·by_cases f:nr=nts
       ·rw [ygh.2 ⟨a,b,e,e2,c,d,f⟩] at h;cases h
       ·exact .inr (.inr (.inr (.inr (.inr (.inr ⟨⟨a,b⟩,⟨rfl,rfl⟩,c,d,f⟩)))))
      ·exact .inr (.inr (.inr (.inr (.inr (.inl ⟨⟨a,b⟩,⟨rfl,rfl⟩,c,d⟩)))))
     ·exact .inr (.inr (.inr (.inr (.inl ⟨⟨a,b⟩,⟨rfl,rfl⟩,by omega⟩))))
  ·exact .inr (.inl ⟨a,by omega⟩)
 ·exact .inl om
def yu6 (ts:List (Int×Bool)) (lim cyc dued minf minp start n fr til:Int) (bs:List Int) (c d:Int) (rs ns:List Int) (E:Int):Prop :=
 (yaw lim ts cyc dued minf minp start=false∧6=E)∨(yaw lim ts cyc dued minf minp start=true∧yix ts.length n fr til bs.length rs.length=false∧1=E) ∨
 ((yaw lim ts cyc dued minf minp start=true∧yix ts.length n fr til bs.length rs.length=true)∧((rs.any ybg=true∧1=E)∨(rs.any ybg=false∧E≠0∧∃L C D,ye7 bs c d ns=(L,C,D,E))))
theorem yoz {rs:List Int} {k:Nat} (hk:k<rs.length) (h:ybg (rs.getD k 0)=true):rs.any ybg=true:= by
 rw [List.any_eq_true];exact ⟨rs[k],List.getElem_mem _,by simpa [List.getD,hk] using h⟩
theorem ywy {rs:List Int} (h:rs.any ybg=false) {k:Nat} (hk:k<rs.length):0≤rs.getD k 0∧rs.getD k 0≤10000000:= by
 have h2:=List.any_eq_false.1 h (rs.getD k 0) (by rw [List.getD,List.getElem?_eq_getElem hk];exact List.getElem_mem _);simp [ybg] at h2;exact h2
theorem ysl {rs:List Int} (h:∀j,j<rs.length→ybg (rs.getD j 0)=false):rs.any ybg=false:= by
 rw [List.any_eq_false];intro x hx;obtain ⟨j,hj,rfl⟩:=List.getElem_of_mem hx;have:=h j hj
 simpa [List.getD,hj] using this
theorem yv2 (v:Value) (ts:List (Int×Bool)) (lim cyc dued minf minp start n fr til:Int) (bv:Value) (bs:List Int) (c d:Int) (rv:Value) (rs:List Int) (nv:Value) (ns:List Int) (g:Bool) (HLT:ts.length≤1000) (E:Int) (HE:Hid (yu6 ts lim cyc dued minf minp start n fr til bs c d rs ns E)) (w:World) (hv:TrS w v ts) (hb:Sl .i64 w bv bs) (hr:Sl .i64 w rv rs) (hn:Sl .i64 w nv ns) :
 Calls Tryz.prog 141 #[.agg #[iV lim,v,iV cyc,iV dued,iV minf,iV minp,iV start],iV n,.agg #[iV fr,iV til],.agg #[bv,iV c,iV d],rv,nv,.bool g] w (yye E w):= by
 have HV:=lh hv;have HB:=lh hb;have HR:=lh hr;have HN:=lh hn;obtain ⟨ao,cap,rfl,h1,⟨h2,hnn⟩,h3⟩:=hv;clear h3 hnn;obtain ⟨b0,bc,rfl,g1,⟨g2,hnn⟩,h3⟩:=hb;clear h3 hnn;obtain ⟨r0,rc,rfl,i1,⟨i2,hnn⟩,h3⟩:=hr;clear h3 hnn;obtain ⟨n0,nc,rfl,j1,⟨j2,hnn⟩,h3⟩:=hn;clear h3 hnn;unfold maxLen at h2 g2 i2 j2
 go_enter Tryz.func141,Tryz.ntmps141
 go_wp2_with fail
 obtain ⟨W,hW,S7,S9,S10,S14,S15,SB,SZ⟩:=yjz w lim cyc dued minf minp start fr til c d (.slice ao ts.length cap) (.slice b0 bs.length bc)
 with_reducible rw [hW]
 clear hW;refine yd1 (ygu w E) ?first ?pass
 case pass =>
  intro l a1 w1 hJ;obtain ⟨rfl,hA,hC,hbw,hJ⟩:=hJ;refine ⟨_,rfl,?_⟩
  iterate 3 obtain ⟨_,hJ⟩:=hJ
  obtain ⟨u3,hJ⟩:=hJ
  iterate 136 obtain ⟨_,hJ⟩:=hJ
  subst hJ;have c0:=hA.cell 0;have c1:=hA.cell 1;have c2:=hA.cell 2;have c3:=hA.cell 3;have c4:=hA.cell 4;have c5:=hA.cell 5;have c6:=hA.cell 6;have c7:=hA.cell 7;have c8:=hA.cell 8;simp only [gz,gs] at c0 c1 c2 c3 c4 c5 c6 c7 c8;have f0:=hA.frozen 0;have f1:=hA.frozen 1;have f2:=hA.frozen 2;have f3:=hA.frozen 3;have f4:=hA.frozen 4;have f5:=hA.frozen 5;have f6:=hA.frozen 6;have f7:=hA.frozen 7;have f8:=hA.frozen 8;have d0:=hC.cell 0;have d1:=hC.cell 1;have d2:=hC.cell 2;simp only [gz,gs] at d0 d1 d2;have e0:=hC.frozen 0;have e1:=hC.frozen 1;have e2:=hC.frozen 2;have HBW:=lh hbw;have hlt:=hC.lt;clear hA hC hbw;go_wp2
  simp only [ydu];refine bodyPost_ret (v:=.tuple #[.agg #[iZ,iZ,iZ,iZ,sZ,iZ,iZ,iZ,.bool false],.agg #[sZ,iZ,iZ],iV E]) (by simp [results,Tryz.results141,go_sem,c0,c1,c2,c3,c4,c5,c6,c7,c8,d0,d1,d2]) rfl ⟨sZ,sZ,rfl,LnS.nil,Sl.nil,⟨ycz,ycz⟩,?_⟩;have h14:w.heap.size≤w.heap.size+1+1+1:=by omega
  exact yd5 (yyr HBW.out h14 _ _ _ _ _ _ _ _ _) om _ _ _
 case first =>
  have hwt:∃W1,W.alloc (.cells #[iZ,iZ,iZ,iZ,sZ,iZ,iZ,iZ,.bool false] 43)=W1∧Hid (Blk W1 w.heap.size 24 [iV lim,.slice ao ts.length cap,iV cyc,iV dued,iV minf,iV minp,iV start])∧Hid (Blk W1 (w.heap.size+1) 40 [iV fr,iV til])∧Hid (Blk W1 (w.heap.size+1+1) 35 [.slice b0 bs.length bc,iV c,iV d])∧Hid (Blk W1 (w.heap.size+1+1+1) 43 [iZ,iZ,iZ,iZ,sZ,iZ,iZ,iZ,.bool false])∧Hid (Blk W1 (w.heap.size+1+1+1+1) 35 [sZ,iZ,iZ])∧Hid (Below w.heap.size w W1) :=
   ⟨_,rfl,S7.out.below (yaa bR _),S9.out.below (yaa bR _),S10.out.below (yaa bR _),S14.out.below (yaa bR _),S15.out.below (yaa bR _),yaa SB.out _⟩
  go_upto_region 2 with fail
  obtain ⟨W1,hW1,R7,R9,R10,R14,R15,RB⟩:=hwt
  with_reducible rw [hW1]
  clear hW1 S7 S9 S10 S14 S15 SB SZ;have HVW:=lh (HV.out.below RB.out);have t0:=R7.out.cell 0;have t1:=R7.out.cell 1;have t2:=R7.out.cell 2;have t3:=R7.out.cell 3;have t4:=R7.out.cell 4;have t5:=R7.out.cell 5;have t6:=R7.out.cell 6;simp only [gz,gs] at t0 t1 t2 t3 t4 t5 t6;rcases HE.out with ⟨hrt,rfl⟩ | hE
  ·have HRT:Hid ((if yaw lim ts cyc dued minf minp start=true then 0 else 6)=(6:Int)):=by show _=_;rw [hrt];rfl
   clear hrt HE
   go_wp2_with fail
   refine (yar _ ts lim cyc dued minf minp start _ HRT _ HVW.out).mono ?_;rintro _ w2 ⟨rfl,hb2⟩;have X14:=lh (R14.out.below hb2);have X15:=lh (R15.out.below hb2);have XB:=lh (yad RB.out hb2);clear hb2
   go_wp2_with fail
   go_step3
   exact ygu.mk X14.out X15.out XB.out
  ·have hrt:yaw lim ts cyc dued minf minp start=true:=by rcases hE with h | h;exact h.1;exact h.1.1
   have HRT:Hid ((if yaw lim ts cyc dued minf minp start=true then 0 else 6)=(0:Int)):=by show _=_;rw [hrt];rfl
   have HE2:=lh hE;clear hrt HE hE
   go_wp2_with fail
   refine (yar _ ts lim cyc dued minf minp start _ HRT _ HVW.out).mono ?_;rintro _ w2 ⟨rfl,hb2⟩;have X7:=lh (R7.out.below hb2);have X9:=lh (R9.out.below hb2);have X10:=lh (R10.out.below hb2);have X14:=lh (R14.out.below hb2);have X15:=lh (R15.out.below hb2);have XB:=lh (yad RB.out hb2);clear hb2 t0 t1 t2 t3 t4 t5 t6 R7 R9 R10 R14 R15 RB HVW HRT;go_upto_region 5 with fail
   have q9:=X9.out;have s0:=q9.cell 0;have s1:=q9.cell 1;have q7:=X7.out;have t1:=q7.cell 1;have q10:=X10.out;have p0:=q10.cell 0;simp only [gz,gs] at s0 s1 t1 p0;clear q9 q7 q10;rcases HE2.out with ⟨_,ha,rfl⟩ | ⟨⟨_,ha⟩,hE⟩
   ·clear HE2
    rcases yzj ha with h | h | h | h | h | h | h
    ·go_wp2_with fail
     go_step3
     exact ygu.mk X14.out X15.out XB.out
    ·obtain ⟨ha1,ha2⟩:=h
     have hA:¬n<1:=by omega
     go_wp2_with fail
     go_step3
     exact ygu.mk X14.out X15.out XB.out
    ·obtain ⟨⟨ha1,ha2⟩,hd⟩:=h
     have hA:¬n<1:=by omega
     have hB:¬300<n:=by omega
     have HD1:=lh hd;have HD2:=HD1;clear hd ha;exact zq19747a
    ·obtain ⟨⟨ha1,ha2⟩,hd,hd2⟩:=h
     exact zq1973da
    ·obtain ⟨⟨ha1,ha2⟩,⟨hd,hd2⟩,hlt⟩:=h
     exact zq1973da
    ·obtain ⟨⟨ha1,ha2⟩,⟨hd,hd2⟩,hlt,hne⟩:=h
     have hA:¬n<1:=by omega
     have hB:¬300<n:=by omega
     have hC:¬til<fr:=by omega
     have d1:((bs.length:Int) != (ts.length:Int))=true:=by simp;omega
     have HD1:=lh hd;have HD2:=lh hd2;clear hd hd2 ha hne;exact zq19747a
    ·obtain ⟨⟨ha1,ha2⟩,⟨hd,hd2⟩,hlt,heq,hne⟩:=h
     have hA:¬n<1:=by omega
     have hB:¬300<n:=by omega
     have hC:¬til<fr:=by omega
     have d1:((bs.length:Int) != (ts.length:Int))=false:=by simp;omega
     have d2:((rs.length:Int) != (ts.length:Int))=true:=by simp;omega
     have HD1:=lh hd;have HD2:=lh hd2;clear hd hd2 ha hne heq;exact zq19747a
   ·obtain ⟨ha1,ha2,hd,hd2,hlt,heq,heq2⟩:=ygh.1 ha
    have hA:¬n<1:=by omega
    have hB:¬300<n:=by omega
    have hC:¬til<fr:=by omega
    have d1:((bs.length:Int) != (ts.length:Int))=false:=by simp;omega
    have d2:((rs.length:Int) != (ts.length:Int))=false:=by simp;omega
    have HD1:=lh hd;have HD2:=lh hd2;have HEQ:=lh (And.intro heq heq2);have HE3:=lh hE;clear hd hd2 ha heq heq2 HE2 hE hlt ha1 ha2;go_upto_region 6 with (first | (go_at_call 185;refine (yrc _ _ (by first | exact HD1.out | exact HD2.out) _).mono ?_;rintro _ _ ⟨rfl,rfl⟩))
    clear hA hB hC d1 d2 s0 s1 t1 p0;have HRW:=lh (HR.out.below XB.out)
    go_wp2_with fail
    go_loopg [71] rs.length (fun g i wr=>∃k:Nat,k+g=rs.length∧i=iV k∧Hid (∀j,j<k→ybg (rs.getD j 0)=false)∧w2=wr)
    case atStart=>exact ⟨0,by omega,rfl,fun j hj=>absurd hj om,rfl⟩
    case round =>
     obtain ⟨k,hkg,rfl,HK,rfl⟩:=hrel;cases gk with
     | succ g =>
      have hlt:(k:Int)<(rs.length:Int):=by omega
      obtain ⟨b',o',x,rfl,hcell,HX⟩:=HRW.out.get (i:=k) om
      by_cases hx:x<0
      ·have hE1:1=E:= by
        rcases HE3.out with ⟨_,h⟩ | ⟨h,_⟩
        ·exact h
        ·exact absurd h (by rw [yoz (k:=k) om (by rw [HX.out];simp [ybg,hx])];simp)
       subst hE1
       go_wp2_with fail
       go_step3
       exact ygu.mk X14.out X15.out XB.out
      ·by_cases hx2:10000000<x
       ·have hE1:1=E:= by
         rcases HE3.out with ⟨_,h⟩ | ⟨h,_⟩
         ·exact h
         ·exact absurd h (by rw [yoz (k:=k) om (by rw [HX.out];simp [ybg,hx2])];simp)
        subst hE1
        go_wp2_with fail
        go_step3
        exact ygu.mk X14.out X15.out XB.out
       ·have HK2:Hid (∀j,j<k+1→ybg (rs.getD j 0)=false):=fun j hj=>by
         by_cases e:j=k
         ·subst e;rw [HX.out];simp [ybg];omega
         ·exact HK.out j om
        go_wp2_with fail
        go_roundg g
        case measure=>omega
        case rel=>exact ⟨k+1,by omega,by go_num,HK2,rfl⟩
     | zero =>
      have hlt:¬((k:Int)<(rs.length:Int)):=by omega
      have hk:k=rs.length:=by omega
      obtain ⟨L,C,D,HBE⟩:∃L C D,Hid (E≠0∧ye7 bs c d ns=(L,C,D,E)):= by
       rcases HE3.out with ⟨h,_⟩ | ⟨_,h0,L,C,D,h⟩
       ·exact absurd h (by rw [ysl fun j hj=>HK.out j om];simp)
       ·exact ⟨L,C,D,h0,h⟩
      have q10:=X10.out;have p0:=q10.cell 0;have p1:=q10.cell 1;have p2:=q10.cell 2;simp only [gz,gs] at p0 p1 p2;have hE0:(E != 0)=true:=by have:=HBE.out.1;simpa using this
      have HBS:=lh HBE.out.2;clear q10
      go_wp2_with fail
      refine (yoo _ _ bs ns c d _ HBS (by have:=HEQ.out;have:=HLT;omega) _ (HB.out.below XB.out) (HN.out.below XB.out)).mono ?_;rintro _ w3 ⟨u3,rfl,hul,hb3⟩;simp only at hul ⊢;obtain ⟨a3,q3,rfl⟩:=hul.shape;have Y14:=lh (X14.out.below hb3);have Y15:=lh (X15.out.below hb3);have YB:=lh (yad XB.out hb3);have qy:=X10.out.below hb3;clear p0 p1 p2;have p0:=qy.cell 0;have p1:=qy.cell 1;have p2:=qy.cell 2;simp only [gz,gs] at p0 p1 p2;have f0:=qy.frozen 0;have f1:=qy.frozen 1;have f2:=qy.frozen 2;clear qy hul hb3
      go_wp2_with fail
      go_step3
      exact ygu.mk (((Y14.out.setOther om _ _).setOther om _ _).setOther om _ _) (((Y15.out.setOther om _ _).setOther om _ _).setOther om _ _) (yd5 YB.out om _ _ _)
end Go.Proofs.YtkongpjpkpfniaaGreat

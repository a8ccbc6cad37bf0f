/- TopPaid: parts of the proof, made small by a program (mini.py). -/
import Derived.Test.YtkongpjpkpfniaaGreatM01
import Derived.Test.YtkongpjpkpfniaaGreatM02
import Derived.Test.YtkongpjpkpfniaaGreatM04
import Derived.Test.YtkongpjpkpfniaaGreatM17
set_option linter.unusedVariables false
set_option linter.unusedSimpArgs false
set_option maxRecDepth 100000
set_option maxHeartbeats 6400000
namespace Go.Proofs.YtkongpjpkpfniaaGreat
open Go.RowKit
theorem zq18b197 {q:Prop} (h:q:= by
 obtain ⟨rfl,rfl⟩:=HSH.out.1 (Or.inr om);have cq:1000000000000000<q:=by omega
 have cq':decide (1000000000000000<q)=true:=by simp;omega
 clear HSH hq1 hqm;go_wp2
 go_ret2
 exact ⟨rfl,bL⟩):q:=h
theorem zq18cdf8 {q:Prop} (h:q:= by
 intro a1 w1 hJ J' hJ';clear hJ'
 iterate 35 obtain ⟨_,hJ⟩:=hJ
 obtain ⟨rfl,hqb,hb⟩:=hJ;go_wp2
 simp only [Exit.jump]
 go_ret2
 rw [hqb.out];exact ⟨rfl,hb⟩):q:=h
theorem zq18384d {q:Prop} (h:q:= by
 clear h
 go_enter Tryz.func187,Tryz.ntmps187
 go_wp2
 refine yai 0 (fun a' w'=>∃(u0 u1 u2 u3 u4 u5 u6 u7 u9 u10 u11 u12 u13 u14 u15 u16 u17 u18 u19 u20 u21 u22 u23 u24 u25 u26 u27 u28 u29 u30 u31 u32 u33 u34 u35:Value),a'={ tmps:=#[u0,u1,u2,u3,u4,u5,u6,u7,iV 5,u9,u10,u11,u12,u13,u14,u15,u16,u17,u18,u19,u20,u21,u22,u23,u24,u25,u26,u27,u28,u29,u30,u31,u32,u33,u34,u35],defers:=[] }∧Hid (x=0)∧Below w.heap.size w w')
  (fun _ _=>0) rfl ?pass ?first
 case pass =>
  intro a1 w1 hJ J' hJ';clear hJ'
  iterate 35 obtain ⟨_,hJ⟩:=hJ
  obtain ⟨rfl,hqb,hb⟩:=hJ;go_wp2
  simp only [Exit.jump]
  go_ret2
  rw [hqb.out];exact ⟨rfl,hb⟩
 case first =>
  intro J' hJJ hrest;have HJ:=lh hJJ;clear hJJ hrest
  go_wp2_with fail
  refine (yar _ ts lim cyc dued minf minp start _ HR _ (HV.out.below hb0)).mono ?_;rintro _ w1 ⟨rfl,hb1⟩;obtain ⟨t0,t1,t2,t3,t4,t5,t6⟩:=HTB.out.below hb1;go_wp2
  go_step3
  exact ⟨rfl,HJ.out _ _ (x10 (x10 (x10 ⟨_,_,_,_,_,rfl,HX,bL⟩)))⟩):q:=h
theorem zq1896c0 {q:Prop} (h:q:= by
 go_enter Tryz.func221,Tryz.ntmps221
 go_wp2
 refine yai 0 (fun a' w'=>∃(u0 u1 u2 u3 u4 u5 u6 u7 u8 u9 u10 u11 u12 u13 u14 u15 u16 u17 u18 u19 u20 u21 u22 u23 u24 u25 u26 u27 u28 u29 u30 u31 u32 u33 u34 u35 u36 u37 u38 u39 u40 u41 u42:Value),a'={ tmps:=#[u0,u1,u2,u3,u4,u5,u6,u7,u8,u9,u10,u11,u12,u13,u14,u15,u16,u17,u18,u19,u20,u21,u22,u23,u24,u25,u26,u27,u28,u29,u30,u31,u32,u33,u34,u35,u36,u37,u38,u39,u40,u41,u42],defers:=[] }∧Hid (q=0∧b=false)∧Below w.heap.size w w')
  (fun _ _=>0) rfl ?pass ?first
 case pass =>
  intro a1 w1 hJ J' hJ';clear hJ'
  iterate 43 obtain ⟨_,hJ⟩:=hJ
  obtain ⟨rfl,hqb,hb⟩:=hJ;go_wp2
  simp only [Exit.jump]
  go_ret2
  rw [hqb.out.1,hqb.out.2];exact ⟨rfl,hb⟩
 case first =>
  intro J' hJJ hrest;have HJ:=lh hJJ;have HREST:=lh hrest;clear hJJ hrest
  go_wp2_with fail
  refine (yj7 hi lo den hlo hden om q0 r0 HQ0 HR0 _).mono ?_;rintro e w1 ⟨rfl,hb1⟩;go_wp2
  simp only [Exit.jump]
  go_ret2
  rw [HR2.out,HR.out.2];exact ⟨rfl,hb1⟩):q:=h
theorem zq18d8e1 {q:Prop} (h:q:= by
 go_enter Tryz.func221,Tryz.ntmps221
 go_wp2
 refine yai 0 (fun a' w'=>∃(u0 u1 u2 u3 u4 u5 u6 u7 u8 u9 u10 u11 u12 u13 u14 u15 u16 u17 u18 u19 u20 u21 u22 u23 u24 u25 u26 u27 u28 u29 u30 u31 u32 u33 u34 u35 u36 u37 u38 u39 u40 u41 u42:Value),a'={ tmps:=#[u0,u1,u2,u3,u4,u5,u6,u7,u8,u9,u10,u11,u12,u13,u14,u15,u16,u17,u18,u19,u20,u21,u22,u23,u24,u25,u26,u27,u28,u29,u30,u31,u32,u33,u34,u35,u36,u37,u38,u39,u40,u41,u42],defers:=[] }∧Hid (q=0∧b=false)∧Below w.heap.size w w')
  (fun _ _=>0) rfl ?pass ?first
 case pass =>
  intro a1 w1 hJ J' hJ';clear hJ'
  iterate 43 obtain ⟨_,hJ⟩:=hJ
  obtain ⟨rfl,hqb,hb⟩:=hJ;go_wp2
  simp only [Exit.jump]
  go_ret2
  rw [hqb.out.1,hqb.out.2];exact ⟨rfl,hb⟩
 case first =>
  intro J' hJJ hrest;have HJ:=lh hJJ;have HREST:=lh hrest;clear hJJ hrest
  go_wp2_with fail
  refine (yj7 hi lo den hlo hden om q0 r0 HQ0 HR0 _).mono ?_;rintro e w1 ⟨rfl,hb1⟩;go_wp2
  simp only [Exit.jump]
  go_ret2
  rw [HR.out.1,HR.out.2];exact ⟨rfl,hb1⟩):q:=h
theorem zq189679 {q:Prop} (h:q:= by
 go_enter Tryz.func221,Tryz.ntmps221
 go_wp2
 refine yai 0 (fun a' w'=>∃(u0 u1 u2 u3 u4 u5 u6 u7 u8 u9 u10 u11 u12 u13 u14 u15 u16 u17 u18 u19 u20 u21 u22 u23 u24 u25 u26 u27 u28 u29 u30 u31 u32 u33 u34 u35 u36 u37 u38 u39 u40 u41 u42:Value),a'={ tmps:=#[u0,u1,u2,u3,u4,u5,u6,u7,u8,u9,u10,u11,u12,u13,u14,u15,u16,u17,u18,u19,u20,u21,u22,u23,u24,u25,u26,u27,u28,u29,u30,u31,u32,u33,u34,u35,u36,u37,u38,u39,u40,u41,u42],defers:=[] }∧Hid (q=0∧b=false)∧Below w.heap.size w w')
  (fun _ _=>0) rfl ?pass ?first
 case pass =>
  intro a1 w1 hJ J' hJ';clear hJ'
  iterate 43 obtain ⟨_,hJ⟩:=hJ
  obtain ⟨rfl,hqb,hb⟩:=hJ;go_wp2
  simp only [Exit.jump]
  go_ret2
  rw [hqb.out.1,hqb.out.2];exact ⟨rfl,hb⟩
 case first =>
  intro J' hJJ hrest;have HJ:=lh hJJ;have HREST:=lh hrest;clear hJJ hrest
  go_wp2_with fail
  refine (yj7 hi lo den hlo hden om q0 r0 HQ0 HR0 _).mono ?_;rintro e w1 ⟨rfl,hb1⟩;go_wp2
  go_step3
  go_step
  go_step
  exact HREST.out _ _ (x10 (x10 (x10 (x10 ⟨_,_,_,rfl,HR,hb1⟩))))):q:=h
section
open Go.RowKit EvM
theorem jap {hi lo den:Nat} {q:Int} {b:Bool} (h:evQ hi lo den=(q,b)) (hc:den≤hi):q=0∧b=false:= by
 unfold evQ at h;rw [if_pos om] at h;injection h with h1 h2
 exact ⟨h1.symm,h2.symm⟩
theorem yzc {hi lo den n:Nat} {q:Int} {b:Bool} (h:evQ hi lo den=(q,b)) (hc:¬den≤hi) (hn:hi*18446744073709551616+lo=n) :
 (evenN n den<18446744073709551616→q=(evenN n den:Int)∧b=true)∧(¬evenN n den<18446744073709551616→q=0∧b=false):= by
 unfold evQ at h;have e:((hi:Int)*18446744073709551616+(lo:Int))=(n:Int):=by omega
 rw [if_neg om,e,Int.toNat_natCast,Int.toNat_natCast] at h
 split at h
 ·rename_i hx
  injection h with h1 h2
  exact ⟨fun _=>⟨h1.symm,h2.symm⟩,fun h=>absurd hx h⟩
 ·rename_i hx
  injection h with h1 h2
  exact ⟨fun h=>absurd h hx,fun _=>⟨h1.symm,h2.symm⟩⟩
theorem ymm (hi lo den:Nat) (q:Int) (b:Bool) (hlo:lo<18446744073709551616) (hden:den<18446744073709551616) (hq:Hid (evQ hi lo den=(q,b))) (w:World) :
 Calls Tryz.prog 221 #[.int .u64 hi,.int .u64 lo,.int .u64 den] w (RetB (.tuple #[.int .u64 q,.bool b]) w):= by
 by_cases hc:den≤hi
 ·have HQ:=lh (jap hq.out hc)
  have d1:decide ((den:Int)≤(hi:Int))=true:=by simp;omega
  clear hq
  go_enter Tryz.func221,Tryz.ntmps221
  go_wp2
  refine yai 0 (fun a' w'=>∃(u0 u1 u2 u3 u4 u5 u6 u7 u8 u9 u10 u11 u12 u13 u14 u15 u16 u17 u18 u19 u20 u21 u22 u23 u24 u25 u26 u27 u28 u29 u30 u31 u32 u33 u34 u35 u36 u37 u38 u39 u40 u41 u42:Value),a'={ tmps:=#[u0,u1,u2,u3,u4,u5,u6,u7,u8,u9,u10,u11,u12,u13,u14,u15,u16,u17,u18,u19,u20,u21,u22,u23,u24,u25,u26,u27,u28,u29,u30,u31,u32,u33,u34,u35,u36,u37,u38,u39,u40,u41,u42],defers:=[] }∧Hid (q=0∧b=false)∧Below w.heap.size w w')
   (fun _ _=>0) rfl ?pass ?first
  case pass =>
   intro a1 w1 hJ J' hJ';clear hJ'
   iterate 43 obtain ⟨_,hJ⟩:=hJ
   obtain ⟨rfl,hqb,hb⟩:=hJ;go_wp2
   simp only [Exit.jump]
   go_ret2
   rw [hqb.out.1,hqb.out.2];exact ⟨rfl,hb⟩
  case first =>
   intro J' hJJ hrest;have HJ:=lh hJJ;have HREST:=lh hrest;clear hJJ hrest;go_wp2
   go_step3
   exact ⟨rfl,HJ.out _ _ (x10 (x10 (x10 (x10 ⟨_,_,_,rfl,HQ,bR⟩))))⟩
 ·obtain ⟨n,hn⟩:∃n,hi*18446744073709551616+lo=n:=⟨_,rfl⟩
  have HQY:=lh (yzc hq.out hc hn);obtain ⟨q0,hq0⟩:∃x,(hi*18446744073709551616+lo)/den=x:=⟨_,rfl⟩;obtain ⟨r0,hr0⟩:∃x,(hi*18446744073709551616+lo)%den=x:=⟨_,rfl⟩;have HQ0:=lh hq0;have HR0:=lh hr0;have hrl:r0<den:=by rw [←hr0];exact Nat.mod_lt _ om
  have hql:q0<18446744073709551616:= by
   rw [←hq0,Nat.div_lt_iff_lt_mul om];have:(hi+1)*18446744073709551616≤den*18446744073709551616:=Nat.mul_le_mul_right _ om;rw [Nat.mul_comm];omega
  rw [hn] at hq0 hr0
  have HEV:Hid (evenN n den=if r0<den-r0∨(r0=den-r0∧q0%2=0) then q0 else q0+1):= by
   show _=_;unfold evenN;rw [hq0,hr0]
  clear hq hn hq0 hr0;obtain ⟨d2,hd2⟩:∃x,den-r0=x:=⟨_,rfl⟩;obtain ⟨q1,hq1⟩:∃x,(q0+1)%18446744073709551616=x:=⟨_,rfl⟩;rw [hd2] at HEV;have d1:decide ((den:Int)≤(hi:Int))=false:=by simp;omega
  have s1:IntKind.u64.wrap ((den:Int)-(r0:Int))=(d2:Int):=by rw [yav];omega
  have s2:IntKind.u64.wrap ((q0:Int)+1)=(q1:Int):=by rw [yav];omega
  have HQ1:=lh hq1;have HRL:=lh hrl;have HQL:=lh hql;clear hd2 hq1 hrl hql
  by_cases hA:r0<d2
  ·have HR:=lh (HQY.out.1 (by rw [HEV.out,if_pos (Or.inl hA)];exact HQL.out))
   rw [HEV.out,if_pos (Or.inl hA)] at HR;clear HQY HEV;exact zq18d8e1
  ·by_cases hB:r0=d2∧q0%2=0
   ·have HR:=lh (HQY.out.1 (by rw [HEV.out,if_pos (Or.inr hB)];exact HQL.out))
    rw [HEV.out,if_pos (Or.inr hB)] at HR;obtain ⟨hB1,hB2⟩:=hB;have b1:((r0:Int) == (d2:Int))=true:=by simp [hB1]
    have b2:((q0:Int)%2 == 0)=true:=by rw [beq_iff_eq];omega
    have b3:decide (r0=d2)=true:=by simp [hB1]
    have b4:decide (q0%2=0)=true:=by simp [hB2]
    clear HQY HEV hB1 hB2;exact zq18d8e1
   ·have HE2:Hid (evenN n den=q0+1):= by
     show _=_;rw [HEV.out,if_neg om]
    have key:(r0=d2∧¬q0%2=0)∨(¬r0=d2):=by omega
    by_cases hz:q0=18446744073709551615
    ·have HR:=lh (HQY.out.2 (by rw [HE2.out];omega))
     have z1:decide ((0:Int)<(q1:Int))=false:=by have:=HQ1.out;simp;omega
     have z2:decide (0<q1)=false:=by have:=HQ1.out;simp;omega
     clear HQY HEV HE2 hB hz;rcases key with ⟨hB1,hB2⟩ | hB1
     ·have b1:((r0:Int) == (d2:Int))=true:=by simp [hB1]
      have b2:((q0:Int)%2 == 0)=false:=by rw [beq_eq_false_iff_ne];omega
      clear hB1 hB2;exact zq189679
     ·have b1:((r0:Int) == (d2:Int))=false:=by rw [beq_eq_false_iff_ne];omega
      clear hB1;exact zq189679
    ·have HR:=lh (HQY.out.1 (by have:=HQL.out;rw [HE2.out];omega))
     rw [HE2.out] at HR;have HR2:Hid (q=(q1:Int)):=by have h1:=HR.out.1;have h2:=HQ1.out;have h3:=HQL.out;show _=_;omega
     have z1:decide (0<q1)=true:=by have:=HQ1.out;have:=HQL.out;simp;omega
     have z3:0<q1:=by have:=HQ1.out;have:=HQL.out;omega
     clear HQY HEV HE2 hB hz;rcases key with ⟨hB1,hB2⟩ | hB1
     ·have b1:((r0:Int) == (d2:Int))=true:=by simp [hB1]
      have b2:((q0:Int)%2 == 0)=false:=by rw [beq_eq_false_iff_ne];omega
      clear hB1 hB2;exact zq1896c0
     ·have b1:((r0:Int) == (d2:Int))=false:=by rw [beq_eq_false_iff_ne];omega
      clear hB1;exact zq1896c0
end
section
open Go.RowKit EvM
theorem yrx (x y h l:Nat) (hx:x<18446744073709551616) (hy:y<18446744073709551616) (hh:Hid (x*y/18446744073709551616=h)) (hl:Hid (x*y%18446744073709551616=l)) (w:World) :
 Calls Tryz.prog 239 #[.int .u64 x,.int .u64 y] w (RetB (.tuple #[.int .u64 h,.int .u64 l]) w):= by
 have:=yoj x y hx hy w;rw [hh.out,hl.out] at this;exact this.mono fun _ _ h=>h.b
theorem yot {a num den x e:Int} (h:shareR a num den=(x,e)) (hc:num<0∨den≤0):0=x∧1=e:= by
 unfold shareR at h;rw [if_pos hc] at h;injection h with h1 h2
 exact ⟨h1,h2⟩
theorem yp8 {a num den x e:Int} (h:shareR a num den=(x,e)) (h0:¬num<0) (h1:¬den≤0) (hm:mayM a=false):0=x∧5=e:= by
 unfold shareR at h;rw [if_neg om,if_pos hm] at h;injection h with h1 h2
 exact ⟨h1,h2⟩
theorem yut {a num den x e q:Int} {b:Bool} {A n hi lo:Nat} (h:shareR a num den=(x,e)) (h0:¬num<0) (h1:¬den≤0) (hm:mayM a=true) (hA:a.natAbs=A) (hn:num=(n:Int)) (hhi:A*n/18446744073709551616=hi) (hlo:A*n%18446744073709551616=lo)
 (hev:evQ (hi:Int) (lo:Int) den=(q,b)):(b=false∨1000000000000000<q→x=0∧e=5)∧(b=true→0≤q∧(q≤1000000000000000→(x=if a<0 then -q else q)∧e=0)):= by
 subst hA;subst hn;have k:=shQ_ev a n den q b om om (by rw [Int.toNat_natCast,hhi,hlo];exact hev);unfold shareR at h;rw [if_neg om,if_neg (by rw [hm];simp)] at h
 split at h
 ·rename_i hc
  injection h with h1 h2
  refine ⟨fun _=>⟨h1.symm,h2.symm⟩,fun hb=>?_⟩;have:=k.1 hb;exact ⟨by omega,fun hx=>by omega⟩
 ·rename_i hc
  injection h with h1 h2
  refine ⟨fun hx=>?_,fun hb=>?_⟩
  ·rcases hx with hx | hx
   ·exact absurd (k.2 hx) hc
   ·cases b with
    | false=>exact absurd (k.2 rfl) hc
    | true=>have:=k.1 rfl;omega
  ·have:=k.1 hb
   subst this;exact ⟨by omega,fun _=>⟨h1.symm,h2.symm⟩⟩
theorem yvf (a num den x e:Int) (hn:-9223372036854775808≤num∧num<9223372036854775808) (hd:-9223372036854775808≤den∧den<9223372036854775808) (h:Hid (shareR a num den=(x,e))) (w:World) :
 Calls Tryz.prog 223 #[iV a,iV num,iV den] w (RetB (.tuple #[iV x,iV e]) w):= by
 by_cases h0:num<0
 ·obtain ⟨rfl,rfl⟩:=yot h.out (Or.inl h0)
  clear h
  go_enter Tryz.func223,Tryz.ntmps223
  go_wp2
  go_ret2
  exact ⟨rfl,bR⟩
 ·by_cases h1:den≤0
  ·obtain ⟨rfl,rfl⟩:=yot h.out (Or.inr h1)
   clear h
   go_enter Tryz.func223,Tryz.ntmps223
   go_wp2
   go_ret2
   exact ⟨rfl,bR⟩
  ·cases hm:mayM a with
   | false =>
    obtain ⟨rfl,rfl⟩:=yp8 h.out om om hm;have HM:=lh hm;clear h hm
    go_enter Tryz.func223,Tryz.ntmps223
    go_wp2_with fail
    refine (yjd HM.out _).mono ?_;rintro e w1 ⟨rfl,rfl⟩;go_wp2
    go_ret2
    exact ⟨rfl,bR⟩
   | true =>
    have hma:=mayM_iff.1 hm;have HM:=lh hm;obtain ⟨n,rfl⟩:=Int.eq_ofNat_of_zero_le (show 0≤num by omega);obtain ⟨d,rfl⟩:=Int.eq_ofNat_of_zero_le (show 0≤den by omega);obtain ⟨A,hA⟩:∃A,a.natAbs=A:=⟨_,rfl⟩;obtain ⟨hi,hhi⟩:∃x,A*n/18446744073709551616=x:=⟨_,rfl⟩;obtain ⟨lo,hlo⟩:∃x,A*n%18446744073709551616=x:=⟨_,rfl⟩;have hlol:lo<18446744073709551616:=by rw [←hlo];exact Nat.mod_lt _ om
    obtain ⟨q,b,hev⟩:∃q b,evQ (hi:Int) (lo:Int) (d:Int)=(q,b):=⟨_,_,rfl⟩;have HSH:=lh (yut h.out om om hm (A:=A) (n:=n) hA rfl (hi:=hi) (lo:=lo) hhi hlo hev);have HHI:=lh hhi;have HLO:=lh hlo;have HEV:=lh hev;have HLL:=lh hlol;clear h hm hhi hlo hev hlol;have g0:decide ((n:Int)<0)=false:=by simp
    have g1:decide ((d:Int)≤0)=false:=by simp;omega
    have g2:¬d=0:=by omega
    have u1:IntKind.u64.wrap (n:Int)=(n:Int):=by rw [yav];omega
    have u2:IntKind.u64.wrap (d:Int)=(d:Int):=by rw [yav];omega
    have u3:IntKind.u64.wrap (A:Int)=(A:Int):=by rw [yav];omega
    clear h0 h1;have HNL:=lh (show n<18446744073709551616 by omega);have HDL:=lh (show d<18446744073709551616 by omega);have hAm:A≤1000000000000000:=by omega
    have HD:=lh hd;have HN:=lh hn;clear hn hd hma;rcases (show a=(A:Int)∨(a = -(A:Int)∧0<A) by omega) with rfl | ⟨rfl,hApos⟩
    ·have v1:wrap64 (-(A:Int)) = -(A:Int):=by unfold wrap64;omega
     have v2:max (A:Int) (-(A:Int))=(A:Int):=by omega
     have s0:¬(A:Int)<0:=by omega
     have s1:decide ((A:Int)<0)=false:=by simp
     clear hA
     go_enter Tryz.func223,Tryz.ntmps223
     go_wp2_with fail
     refine (yjd HM.out _).mono ?_;rintro e w1 ⟨rfl,rfl⟩
     go_wp2_with fail
     refine (yrx A n hi lo om HNL.out HHI HLO _).mono ?_;rintro e w2 ⟨rfl,hb2⟩
     go_wp2_with fail
     refine (ymm hi lo d q b HLL.out HDL.out HEV _).mono ?_;rintro e w3 ⟨rfl,hb3⟩;cases b with
     | false =>
      obtain ⟨rfl,rfl⟩:=HSH.out.1 (Or.inl rfl);clear HSH;go_wp2
      go_ret2
      exact ⟨rfl,bL⟩
     | true =>
      obtain ⟨hq0,hq1⟩:=HSH.out.2 rfl
      by_cases hqm:q≤1000000000000000
      ·obtain ⟨hx,rfl⟩:=hq1 hqm
       have HX:=lh hx;have cq:¬(1000000000000000<q):=by omega
       have cq':decide (1000000000000000<q)=false:=by simp;omega
       have q1:wrap64 q=q:=by unfold wrap64;omega
       have q2:wrap64 (-q) = -q:=by unfold wrap64;omega
       clear HSH hx hq1;go_wp2
       go_ret2
       refine ⟨?_,bL⟩;rw [HX.out,if_neg om]
       rfl
      ·exact zq18b197
    ·have v1:wrap64 (A:Int)=(A:Int):=by unfold wrap64;omega
     have v2:max (-(A:Int)) (A:Int)=(A:Int):=by omega
     have s0:-(A:Int)<0:=by omega
     have s1:decide (-(A:Int)<0)=true:=by simp;omega
     clear hA
     go_enter Tryz.func223,Tryz.ntmps223
     go_wp2_with fail
     refine (yjd HM.out _).mono ?_;rintro e w1 ⟨rfl,rfl⟩
     go_wp2_with fail
     refine (yrx A n hi lo om HNL.out HHI HLO _).mono ?_;rintro e w2 ⟨rfl,hb2⟩
     go_wp2_with fail
     refine (ymm hi lo d q b HLL.out HDL.out HEV _).mono ?_;rintro e w3 ⟨rfl,hb3⟩;cases b with
     | false =>
      obtain ⟨rfl,rfl⟩:=HSH.out.1 (Or.inl rfl);clear HSH;go_wp2
      go_ret2
      exact ⟨rfl,bL⟩
     | true =>
      obtain ⟨hq0,hq1⟩:=HSH.out.2 rfl
      by_cases hqm:q≤1000000000000000
      ·obtain ⟨hx,rfl⟩:=hq1 hqm
       have HX:=lh hx;have cq:¬(1000000000000000<q):=by omega
       have cq':decide (1000000000000000<q)=false:=by simp;omega
       have q1:wrap64 q=q:=by unfold wrap64;omega
       have q2:wrap64 (-q) = -q:=by unfold wrap64;omega
       clear HSH hx hq1;go_wp2
       go_ret2
       refine ⟨?_,bL⟩;rw [HX.out,if_pos om]
       rfl
      ·exact zq18b197
end
section
open Go.RowKit EvM
def ygx (rt:Bool) (minf minp total:Int):Int×Int :=
 if rt=false then (0,6) else if total<0∨1000000000000000<total then (0,5) else (min total (max minf (shareR total minp 1000).1),0)
theorem yiw {minf minp total x e:Int} (h:ygx false minf minp total=(x,e)):x=0∧e=6:= by
 unfold ygx at h;rw [if_pos rfl] at h;injection h with h1 h2
 exact ⟨h1.symm,h2.symm⟩
theorem yep {minf minp total x e:Int} (h:ygx true minf minp total=(x,e)) (hc:total<0∨1000000000000000<total):x=0∧e=5:= by
 unfold ygx at h;rw [if_neg (by simp),if_pos hc] at h;injection h with h1 h2
 exact ⟨h1.symm,h2.symm⟩
theorem yp5 {minf minp total x e:Int} (h:ygx true minf minp total=(x,e)) (hA:¬total<0) (hB:¬1000000000000000<total) (hm:0≤minp∧minp≤1000):∃p,shareR total minp 1000=(p,0)∧x=min total (max minf p)∧e=0:= by
 obtain ⟨p,hp,_⟩:=share_neg total minp 1000 om om om (mayM_iff.2 om);unfold ygx at h;rw [if_neg (by simp),if_neg om,hp] at h;injection h with h1 h2
 exact ⟨p,hp,h1.symm,h2.symm⟩
theorem yrh {lim:Int} {ts:List (Int×Bool)} {cyc dued minf minp start:Int} (h:yaw lim ts cyc dued minf minp start=true):0≤minp∧minp≤1000:= by
 simp only [yaw,Bool.and_eq_true] at h;exact ydr.1 h.1.2
theorem yt9 (v:Value) (ts:List (Int×Bool)) (lim cyc dued minf minp start total x e:Int) (h:Hid (ygx (yaw lim ts cyc dued minf minp start) minf minp total=(x,e))) (w:World) (hv:TrS w v ts) :
 Calls Tryz.prog 187 #[.agg #[iV lim,v,iV cyc,iV dued,iV minf,iV minp,iV start],iV total] w (RetB (.tuple #[iV x,iV e]) w):= by
 have HV:=lh hv;obtain ⟨ao,cap,rfl,h1,⟨h2,_⟩,h3⟩:=hv;clear h3;unfold maxLen at h2;have hT:=TB.new w 24 lim (.slice ao ts.length cap) cyc dued minf minp start;have hb0:Below w.heap.size w (w.alloc (.cells #[iV lim,.slice ao ts.length cap,iV cyc,iV dued,iV minf,iV minp,iV start] 24)):=yaa bR _;obtain ⟨t0,t1,t2,t3,t4,t5,t6⟩:=hT;have HTB:=lh (TB.new w 24 lim (.slice ao ts.length cap) cyc dued minf minp start);cases hr:yaw lim ts cyc dued minf minp start with
 | false =>
  have HX:Hid (x=0):=(yiw (by rw [←hr];exact h.out)).1;obtain rfl:6=e:=(yiw (by rw [←hr];exact h.out)).2.symm;have HR:Hid ((if yaw lim ts cyc dued minf minp start=true then 0 else 6)=(6:Int)):=by show _=_;rw [hr];rfl
  clear h hr
  go_enter Tryz.func187,Tryz.ntmps187
  go_wp2
  refine yai 0 (fun a' w'=>∃(u0 u1 u2 u3 u4 u5 u6 u7 u9 u10 u11 u12 u13 u14 u15 u16 u17 u18 u19 u20 u21 u22 u23 u24 u25 u26 u27 u28 u29 u30 u31 u32 u33 u34 u35:Value),a'={ tmps:=#[u0,u1,u2,u3,u4,u5,u6,u7,iV 6,u9,u10,u11,u12,u13,u14,u15,u16,u17,u18,u19,u20,u21,u22,u23,u24,u25,u26,u27,u28,u29,u30,u31,u32,u33,u34,u35],defers:=[] }∧Hid (x=0)∧Below w.heap.size w w')
   (fun _ _=>0) rfl ?pass ?first
  case pass =>
   exact zq18cdf8
  case first =>
   intro J' hJJ hrest;have HJ:=lh hJJ;clear hJJ hrest
   go_wp2_with fail
   refine (yar _ ts lim cyc dued minf minp start _ HR _ (HV.out.below hb0)).mono ?_;rintro _ w1 ⟨rfl,hb1⟩;obtain ⟨t0,t1,t2,t3,t4,t5,t6⟩:=HTB.out.below hb1;go_wp2
   go_step3
   exact ⟨rfl,HJ.out _ _ (x10 (x10 (x10 ⟨_,_,_,_,_,rfl,HX,bL⟩)))⟩
 | true =>
  have HR:Hid ((if yaw lim ts cyc dued minf minp start=true then 0 else 6)=(0:Int)):=by show _=_;rw [hr];rfl
  have hmp:=yrh hr;rw [hr] at h;clear hr
  by_cases hA:total<0
  ·have HX:Hid (x=0):=(yep h.out (Or.inl hA)).1
   obtain rfl:5=e:=(yep h.out (Or.inl hA)).2.symm;exact zq18384d
  ·by_cases hB:1000000000000000<total
   ·have HX:Hid (x=0):=(yep h.out (Or.inr hB)).1
    obtain rfl:5=e:=(yep h.out (Or.inr hB)).2.symm;exact zq18384d
   ·obtain ⟨p,hp,hx,he⟩:=yp5 h.out hA hB hmp
    obtain rfl:0=e:=he.symm;have HX:=lh hx;have HP:=lh hp;have HMP:Hid (-9223372036854775808≤minp∧minp<9223372036854775808):=⟨by omega,by omega⟩;clear h hx hp he hmp
    go_enter Tryz.func187,Tryz.ntmps187
    go_wp2
    refine yai 0 (fun a' w'=>∃(u0 u1 u2 u3 u4 u5 u6 u7 u9 u10 u11 u12 u13 u14 u15 u16 u17 u18 u19 u20 u21 u22 u23 u24 u25 u26 u27 u28 u29 u30 u31 u32 u33 u34 u35:Value),a'={ tmps:=#[u0,u1,u2,u3,u4,u5,u6,u7,iZ,u9,u10,u11,u12,u13,u14,u15,u16,u17,u18,u19,u20,u21,u22,u23,u24,u25,u26,u27,u28,u29,u30,u31,u32,u33,u34,u35],defers:=[] }∧Hid (x=0)∧Below w.heap.size w w')
     (fun _ _=>0) rfl ?pass ?first
    case pass =>
     exact zq18cdf8
    case first =>
     intro J' hJJ hrest;have HJ:=lh hJJ;clear hJJ hrest
     go_wp2_with fail
     refine (yar _ ts lim cyc dued minf minp start _ HR _ (HV.out.below hb0)).mono ?_;rintro _ w1 ⟨rfl,hb1⟩;obtain ⟨t0,t1,t2,t3,t4,t5,t6⟩:=HTB.out.below hb1
     go_wp2_with fail
     refine (yvf total minp 1000 p 0 HMP.out ⟨by decide,by decide⟩ HP _).mono ?_;rintro _ w2 ⟨rfl,hb2⟩;obtain ⟨t0,t1,t2,t3,t4,t5,t6⟩:=(HTB.out.below hb1).below hb2;go_wp2
     simp only [Exit.jump]
     go_ret2
     rw [HX.out];exact ⟨rfl,bL⟩
end
end Go.Proofs.YtkongpjpkpfniaaGreat

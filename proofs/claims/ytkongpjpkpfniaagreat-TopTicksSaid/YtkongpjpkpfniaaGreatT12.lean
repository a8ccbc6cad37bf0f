/- TopTicks: parts of the proof, made small by a program (mini.py). -/
import Derived.Deep.CutBlock
import Derived.Test.YtkongpjpkpfniaaGreatT01
import Derived.Test.YtkongpjpkpfniaaGreatT02
import Derived.Test.YtkongpjpkpfniaaGreatT03
import Derived.Test.YtkongpjpkpfniaaGreatT11
set_option linter.unusedVariables false
set_option linter.unusedSimpArgs false
set_option maxRecDepth 100000
set_option maxHeartbeats 6400000
namespace Go.Proofs.YtkongpjpkpfniaaGreat
open Go.RowKit
theorem zq12b8e4 {q:Prop} (h:q:= by
 have hA:¬n<1:=by omega
 have hB:¬300<n:=by omega
 have HD1:=lh hd;have HD2:=lh hd2;clear hd hd2 ha;exact zq12747a):q:=h
theorem zq12b197 {q:Prop} (h:q:= by
 obtain ⟨rfl,rfl⟩:=HSH.out.1 (Or.inr om);have cq:1000000000000000<q:=by omega
 have cq':decide (1000000000000000<q)=true:=by simp;omega
 clear HSH hq1 hqm;go_wp2
 go_ret2
 exact ⟨rfl,bL⟩):q:=h
theorem zq12cdf8 {q:Prop} (h:q:= by
 intro a1 w1 hJ J' hJ';clear hJ'
 iterate 35 obtain ⟨_,hJ⟩:=hJ
 obtain ⟨rfl,hqb,hb⟩:=hJ;go_wp2
 simp only [Exit.jump]
 go_ret2
 rw [hqb.out];exact ⟨rfl,hb⟩):q:=h
theorem zq12747a {q:Prop} (h:q:= by
 go_wp2_with (first | (go_at_call 185;refine (yrc _ _ (by first | exact HD1.out | exact HD2.out) _).mono ?_;rintro _ _ ⟨rfl,rfl⟩))
 go_step3
 exact ygu.mk X14.out X15.out XB.out):q:=h
theorem zq12cea8 {q:Prop} (h:q:= by
 clear h
 go_enter Tryz.func187,Tryz.ntmps187
 go_wp2
 refine yai 0 (fun a' w'=>∃(u0 u1 u2 u3 u4 u5 u6 u7 u9 u10 u11 u12 u13 u14 u15 u16 u17 u18 u19 u20 u21 u22 u23 u24 u25 u26 u27 u28 u29 u30 u31 u32 u33 u34 u35:Value),a'={ tmps:=#[u0,u1,u2,u3,u4,u5,u6,u7,iV 5,u9,u10,u11,u12,u13,u14,u15,u16,u17,u18,u19,u20,u21,u22,u23,u24,u25,u26,u27,u28,u29,u30,u31,u32,u33,u34,u35],defers:=[] }/\Hid (x=0)/\BW w w')
  (fun _ _=>0) rfl ?pass ?first
 case pass =>
  intro a1 w1 hJ J' hJ';clear hJ'
  iterate 35 obtain ⟨_,hJ⟩:=hJ
  obtain ⟨rfl,hqb,hb⟩:=hJ;go_wp2
  simp only [Exit.jump]
  go_ret2
  rw [hqb.out];exact ⟨rfl,hb⟩
 case first =>
  intro J' hJJ hrest;have HJ:=lh hJJ;clear hJJ hrest
  go_wp2_with fail
  refine (yar _ ts lim cyc dued minf minp start _ HR _ (HV.out.below hb0)).mono ?_;rintro _ w1 ⟨rfl,hb1⟩;obtain ⟨t0,t1,t2,t3,t4,t5,t6⟩:=HTB.out.below hb1;go_wp2
  go_step3
  exact ⟨rfl,HJ.out _ _ (x10 (x10 (x10 ⟨_,_,_,_,_,rfl,HX,bL⟩)))⟩):q:=h
theorem zq12a217 {q:Prop} (h:q:= by
 go_enter Tryz.func221,Tryz.ntmps221
 go_wp2
 refine yai 0 (fun a' w'=>∃(u0 u1 u2 u3 u4 u5 u6 u7 u8 u9 u10 u11 u12 u13 u14 u15 u16 u17 u18 u19 u20 u21 u22 u23 u24 u25 u26 u27 u28 u29 u30 u31 u32 u33 u34 u35 u36 u37 u38 u39 u40 u41 u42:Value),a'={ tmps:=#[u0,u1,u2,u3,u4,u5,u6,u7,u8,u9,u10,u11,u12,u13,u14,u15,u16,u17,u18,u19,u20,u21,u22,u23,u24,u25,u26,u27,u28,u29,u30,u31,u32,u33,u34,u35,u36,u37,u38,u39,u40,u41,u42],defers:=[] }/\Hid (q=0/\b=false)/\BW w w')
  (fun _ _=>0) rfl ?pass ?first
 case pass =>
  intro a1 w1 hJ J' hJ';clear hJ'
  iterate 43 obtain ⟨_,hJ⟩:=hJ
  obtain ⟨rfl,hqb,hb⟩:=hJ;go_wp2
  simp only [Exit.jump]
  go_ret2
  rw [hqb.out.1,hqb.out.2];exact ⟨rfl,hb⟩
 case first =>
  intro J' hJJ hrest;have HJ:=lh hJJ;have HREST:=lh hrest;clear hJJ hrest
  go_wp2_with fail
  refine (yj7 hi lo den hlo hden om q0 r0 HQ0 HR0 _).mono ?_;rintro e w1 ⟨rfl,hb1⟩;go_wp2
  simp only [Exit.jump]
  go_ret2
  rw [HR2.out,HR.out.2];exact ⟨rfl,hb1⟩):q:=h
theorem zq127e70 {q:Prop} (h:q:= by
 go_enter Tryz.func221,Tryz.ntmps221
 go_wp2
 refine yai 0 (fun a' w'=>∃(u0 u1 u2 u3 u4 u5 u6 u7 u8 u9 u10 u11 u12 u13 u14 u15 u16 u17 u18 u19 u20 u21 u22 u23 u24 u25 u26 u27 u28 u29 u30 u31 u32 u33 u34 u35 u36 u37 u38 u39 u40 u41 u42:Value),a'={ tmps:=#[u0,u1,u2,u3,u4,u5,u6,u7,u8,u9,u10,u11,u12,u13,u14,u15,u16,u17,u18,u19,u20,u21,u22,u23,u24,u25,u26,u27,u28,u29,u30,u31,u32,u33,u34,u35,u36,u37,u38,u39,u40,u41,u42],defers:=[] }/\Hid (q=0/\b=false)/\BW w w')
  (fun _ _=>0) rfl ?pass ?first
 case pass =>
  intro a1 w1 hJ J' hJ';clear hJ'
  iterate 43 obtain ⟨_,hJ⟩:=hJ
  obtain ⟨rfl,hqb,hb⟩:=hJ;go_wp2
  simp only [Exit.jump]
  go_ret2
  rw [hqb.out.1,hqb.out.2];exact ⟨rfl,hb⟩
 case first =>
  intro J' hJJ hrest;have HJ:=lh hJJ;have HREST:=lh hrest;clear hJJ hrest
  go_wp2_with fail
  refine (yj7 hi lo den hlo hden om q0 r0 HQ0 HR0 _).mono ?_;rintro e w1 ⟨rfl,hb1⟩;go_wp2
  simp only [Exit.jump]
  go_ret2
  rw [HR.out.1,HR.out.2];exact ⟨rfl,hb1⟩):q:=h
theorem zq124d18 {q:Prop} (h:q:= by
 go_enter Tryz.func221,Tryz.ntmps221
 go_wp2
 refine yai 0 (fun a' w'=>∃(u0 u1 u2 u3 u4 u5 u6 u7 u8 u9 u10 u11 u12 u13 u14 u15 u16 u17 u18 u19 u20 u21 u22 u23 u24 u25 u26 u27 u28 u29 u30 u31 u32 u33 u34 u35 u36 u37 u38 u39 u40 u41 u42:Value),a'={ tmps:=#[u0,u1,u2,u3,u4,u5,u6,u7,u8,u9,u10,u11,u12,u13,u14,u15,u16,u17,u18,u19,u20,u21,u22,u23,u24,u25,u26,u27,u28,u29,u30,u31,u32,u33,u34,u35,u36,u37,u38,u39,u40,u41,u42],defers:=[] }/\Hid (q=0/\b=false)/\BW w w')
  (fun _ _=>0) rfl ?pass ?first
 case pass =>
  intro a1 w1 hJ J' hJ';clear hJ'
  iterate 43 obtain ⟨_,hJ⟩:=hJ
  obtain ⟨rfl,hqb,hb⟩:=hJ;go_wp2
  simp only [Exit.jump]
  go_ret2
  rw [hqb.out.1,hqb.out.2];exact ⟨rfl,hb⟩
 case first =>
  intro J' hJJ hrest;have HJ:=lh hJJ;have HREST:=lh hrest;clear hJJ hrest
  go_wp2_with fail
  refine (yj7 hi lo den hlo hden om q0 r0 HQ0 HR0 _).mono ?_;rintro e w1 ⟨rfl,hb1⟩;go_wp2
  go_step3
  go_step
  go_step
  exact HREST.out _ _ (x10 (x10 (x10 (x10 ⟨_,_,_,rfl,HR,hb1⟩))))):q:=h
section
open Go.RowKit EvM
theorem jap {hi lo den:Nat} {q:Int} {b:Bool} (h:evQ hi lo den=(q,b)) (hc:den<=hi):q=0/\b=false:= by
 unfold evQ at h;rw [if_pos om] at h;injection h with h1 h2
 exact ⟨h1.symm,h2.symm⟩
theorem yzc {hi lo den n:Nat} {q:Int} {b:Bool} (h:evQ hi lo den=(q,b)) (hc:¬den<=hi) (hn:hi*18446744073709551616+lo=n) :
 (evenN n den<18446744073709551616->q=(evenN n den:Int)/\b=true)/\(¬evenN n den<18446744073709551616->q=0/\b=false):= by
 unfold evQ at h;have e:((hi:Int)*18446744073709551616+(lo:Int))=(n:Int):=by omega
 rw [if_neg om,e,Int.toNat_natCast,Int.toNat_natCast] at h
 split at h
 ·rename_i hx
  injection h with h1 h2
  exact ⟨fun _=>⟨h1.symm,h2.symm⟩,fun h=>absurd hx h⟩
 ·rename_i hx
  injection h with h1 h2
  exact ⟨fun h=>absurd h hx,fun _=>⟨h1.symm,h2.symm⟩⟩
theorem ymm (hi lo den:Nat) (q:Int) (b:Bool) (hlo:lo<18446744073709551616) (hden:den<18446744073709551616) (hq:Hid (evQ hi lo den=(q,b))) (w:World) :
 Calls Tryz.prog 221 #[.int .u64 hi,.int .u64 lo,.int .u64 den] w (RetB (.tuple #[.int .u64 q,.bool b]) w):= by
 by_cases hc:den<=hi
 ·have HQ:=lh (jap hq.out hc)
  have d1:decide ((den:Int)<=(hi:Int))=true:=by simp;omega
  clear hq
  go_enter Tryz.func221,Tryz.ntmps221
  go_wp2
  refine yai 0 (fun a' w'=>∃(u0 u1 u2 u3 u4 u5 u6 u7 u8 u9 u10 u11 u12 u13 u14 u15 u16 u17 u18 u19 u20 u21 u22 u23 u24 u25 u26 u27 u28 u29 u30 u31 u32 u33 u34 u35 u36 u37 u38 u39 u40 u41 u42:Value),a'={ tmps:=#[u0,u1,u2,u3,u4,u5,u6,u7,u8,u9,u10,u11,u12,u13,u14,u15,u16,u17,u18,u19,u20,u21,u22,u23,u24,u25,u26,u27,u28,u29,u30,u31,u32,u33,u34,u35,u36,u37,u38,u39,u40,u41,u42],defers:=[] }/\Hid (q=0/\b=false)/\BW w w')
   (fun _ _=>0) rfl ?pass ?first
  case pass =>
   intro a1 w1 hJ J' hJ';clear hJ'
   iterate 43 obtain ⟨_,hJ⟩:=hJ
   obtain ⟨rfl,hqb,hb⟩:=hJ;go_wp2
   simp only [Exit.jump]
   go_ret2
   rw [hqb.out.1,hqb.out.2];exact ⟨rfl,hb⟩
  case first =>
   intro J' hJJ hrest;have HJ:=lh hJJ;have HREST:=lh hrest;clear hJJ hrest;go_wp2
   go_step3
   exact ⟨rfl,HJ.out _ _ (x10 (x10 (x10 (x10 ⟨_,_,_,rfl,HQ,bR⟩))))⟩
 ·obtain ⟨n,hn⟩:∃n,hi*18446744073709551616+lo=n:=⟨_,rfl⟩
  have HQY:=lh (yzc hq.out hc hn);obtain ⟨q0,hq0⟩:∃x,(hi*18446744073709551616+lo)/den=x:=⟨_,rfl⟩;obtain ⟨r0,hr0⟩:∃x,(hi*18446744073709551616+lo)%den=x:=⟨_,rfl⟩;have HQ0:=lh hq0;have HR0:=lh hr0;have hrl:r0<den:=by rw [<-hr0];exact Nat.mod_lt _ om
  have hql:q0<18446744073709551616:= by
   rw [<-hq0,Nat.div_lt_iff_lt_mul om];have:(hi+1)*18446744073709551616<=den*18446744073709551616:=Nat.mul_le_mul_right _ om;rw [Nat.mul_comm];omega
  rw [hn] at hq0 hr0
  have HEV:Hid (evenN n den=if r0<den-r0\/(r0=den-r0/\q0%2=0) then q0 else q0+1):= by
   show _=_;unfold evenN;rw [hq0,hr0]
  clear hq hn hq0 hr0;obtain ⟨d2,hd2⟩:∃x,den-r0=x:=⟨_,rfl⟩;obtain ⟨q1,hq1⟩:∃x,(q0+1)%18446744073709551616=x:=⟨_,rfl⟩;rw [hd2] at HEV;have d1:decide ((den:Int)<=(hi:Int))=false:=by simp;omega
  have s1:IntKind.u64.wrap ((den:Int)-(r0:Int))=(d2:Int):=by rw [yav];omega
  have s2:IntKind.u64.wrap ((q0:Int)+1)=(q1:Int):=by rw [yav];omega
  have HQ1:=lh hq1;have HRL:=lh hrl;have HQL:=lh hql;clear hd2 hq1 hrl hql
  by_cases hA:r0<d2
  ·have HR:=lh (HQY.out.1 (by rw [HEV.out,if_pos (Or.inl hA)];exact HQL.out))
   rw [HEV.out,if_pos (Or.inl hA)] at HR;clear HQY HEV;exact zq127e70
  ·by_cases hB:r0=d2/\q0%2=0
   ·have HR:=lh (HQY.out.1 (by rw [HEV.out,if_pos (Or.inr hB)];exact HQL.out))
    rw [HEV.out,if_pos (Or.inr hB)] at HR;obtain ⟨hB1,hB2⟩:=hB;have b1:((r0:Int) == (d2:Int))=true:=by simp [hB1]
    have b2:((q0:Int)%2 == 0)=true:=by rw [beq_iff_eq];omega
    have b3:decide (r0=d2)=true:=by simp [hB1]
    have b4:decide (q0%2=0)=true:=by simp [hB2]
    clear HQY HEV hB1 hB2;exact zq127e70
   ·have HE2:Hid (evenN n den=q0+1):= by
     show _=_;rw [HEV.out,if_neg om]
    have key:(r0=d2/\¬q0%2=0)\/(¬r0=d2):=by omega
    by_cases hz:q0=18446744073709551615
    ·have HR:=lh (HQY.out.2 (by rw [HE2.out];omega))
     have z1:decide ((0:Int)<(q1:Int))=false:=by have:=HQ1.out;simp;omega
     have z2:decide (0<q1)=false:=by have:=HQ1.out;simp;omega
     clear HQY HEV HE2 hB hz;rcases key with ⟨hB1,hB2⟩ | hB1
     ·have b1:((r0:Int) == (d2:Int))=true:=by simp [hB1]
      have b2:((q0:Int)%2 == 0)=false:=by rw [beq_eq_false_iff_ne];omega
      clear hB1 hB2;exact zq124d18
     ·have b1:((r0:Int) == (d2:Int))=false:=by rw [beq_eq_false_iff_ne];omega
      clear hB1;exact zq124d18
    ·have HR:=lh (HQY.out.1 (by have:=HQL.out;rw [HE2.out];omega))
     rw [HE2.out] at HR;have HR2:Hid (q=(q1:Int)):=by have h1:=HR.out.1;have h2:=HQ1.out;have h3:=HQL.out;show _=_;omega
     have z1:decide (0<q1)=true:=by have:=HQ1.out;have:=HQL.out;simp;omega
     have z3:0<q1:=by have:=HQ1.out;have:=HQL.out;omega
     clear HQY HEV HE2 hB hz;rcases key with ⟨hB1,hB2⟩ | hB1
     ·have b1:((r0:Int) == (d2:Int))=true:=by simp [hB1]
      have b2:((q0:Int)%2 == 0)=false:=by rw [beq_eq_false_iff_ne];omega
      clear hB1 hB2;exact zq12a217
     ·have b1:((r0:Int) == (d2:Int))=false:=by rw [beq_eq_false_iff_ne];omega
      clear hB1;exact zq12a217
end
section
open Go.RowKit EvM
theorem yrx (x y h l:Nat) (hx:x<18446744073709551616) (hy:y<18446744073709551616) (hh:Hid (x*y/18446744073709551616=h)) (hl:Hid (x*y%18446744073709551616=l)) (w:World) :
 Calls Tryz.prog 239 #[.int .u64 x,.int .u64 y] w (RetB (.tuple #[.int .u64 h,.int .u64 l]) w):= by
 have:=yoj x y hx hy w;rw [hh.out,hl.out] at this;exact this.mono fun _ _ h=>h.b
theorem yot {a num den x e:Int} (h:shareR a num den=(x,e)) (hc:num<0\/den<=0):0=x/\1=e:= by
 unfold shareR at h;rw [if_pos hc] at h;injection h with h1 h2
 exact ⟨h1,h2⟩
theorem yp8 {a num den x e:Int} (h:shareR a num den=(x,e)) (h0:¬num<0) (h1:¬den<=0) (hm:mayM a=false):0=x/\5=e:= by
 unfold shareR at h;rw [if_neg om,if_pos hm] at h;injection h with h1 h2
 exact ⟨h1,h2⟩
theorem yut {a num den x e q:Int} {b:Bool} {A n hi lo:Nat} (h:shareR a num den=(x,e)) (h0:¬num<0) (h1:¬den<=0) (hm:mayM a=true) (hA:a.natAbs=A) (hn:num=(n:Int)) (hhi:A*n/18446744073709551616=hi) (hlo:A*n%18446744073709551616=lo)
 (hev:evQ (hi:Int) (lo:Int) den=(q,b)):(b=false\/1000000000000000<q->x=0/\e=5)/\(b=true->0<=q/\(q<=1000000000000000->(x=if a<0 then -q else q)/\e=0)):= by
 subst hA;subst hn;have k:=shQ_ev a n den q b om om (by rw [Int.toNat_natCast,hhi,hlo];exact hev);unfold shareR at h;rw [if_neg om,if_neg (by rw [hm];simp)] at h
 split at h
 ·rename_i hc
  injection h with h1 h2
  refine ⟨fun _=>⟨h1.symm,h2.symm⟩,fun hb=>?_⟩;have:=k.1 hb;exact ⟨by omega,fun hx=>by omega⟩
 ·rename_i hc
  injection h with h1 h2
  refine ⟨fun hx=>?_,fun hb=>?_⟩
  ·rcases hx with hx | hx
   ·exact absurd (k.2 hx) hc
   ·cases b with
    | false=>exact absurd (k.2 rfl) hc
    | true=>have:=k.1 rfl;omega
  ·have:=k.1 hb
   subst this;exact ⟨by omega,fun _=>⟨h1.symm,h2.symm⟩⟩
theorem yvf (a num den x e:Int) (hn:-9223372036854775808<=num/\num<9223372036854775808) (hd:-9223372036854775808<=den/\den<9223372036854775808) (h:Hid (shareR a num den=(x,e))) (w:World) :
 Calls Tryz.prog 223 #[iV a,iV num,iV den] w (RetB (.tuple #[iV x,iV e]) w):= by
 by_cases h0:num<0
 ·obtain ⟨rfl,rfl⟩:=yot h.out (Or.inl h0)
  clear h
  go_enter Tryz.func223,Tryz.ntmps223
  go_wp2
  go_ret2
  exact ⟨rfl,bR⟩
 ·by_cases h1:den<=0
  ·obtain ⟨rfl,rfl⟩:=yot h.out (Or.inr h1)
   clear h
   go_enter Tryz.func223,Tryz.ntmps223
   go_wp2
   go_ret2
   exact ⟨rfl,bR⟩
  ·cases hm:mayM a with
   | false =>
    obtain ⟨rfl,rfl⟩:=yp8 h.out om om hm;have HM:=lh hm;clear h hm
    go_enter Tryz.func223,Tryz.ntmps223
    go_wp2_with fail
    refine (yjd HM.out _).mono ?_;rintro e w1 ⟨rfl,rfl⟩;go_wp2
    go_ret2
    exact ⟨rfl,bR⟩
   | true =>
    have hma:=mayM_iff.1 hm;have HM:=lh hm;obtain ⟨n,rfl⟩:=Int.eq_ofNat_of_zero_le (show 0<=num by omega);obtain ⟨d,rfl⟩:=Int.eq_ofNat_of_zero_le (show 0<=den by omega);obtain ⟨A,hA⟩:∃A,a.natAbs=A:=⟨_,rfl⟩;obtain ⟨hi,hhi⟩:∃x,A*n/18446744073709551616=x:=⟨_,rfl⟩;obtain ⟨lo,hlo⟩:∃x,A*n%18446744073709551616=x:=⟨_,rfl⟩;have hlol:lo<18446744073709551616:=by rw [<-hlo];exact Nat.mod_lt _ om
    obtain ⟨q,b,hev⟩:∃q b,evQ (hi:Int) (lo:Int) (d:Int)=(q,b):=⟨_,_,rfl⟩;have HSH:=lh (yut h.out om om hm (A:=A) (n:=n) hA rfl (hi:=hi) (lo:=lo) hhi hlo hev);have HHI:=lh hhi;have HLO:=lh hlo;have HEV:=lh hev;have HLL:=lh hlol;clear h hm hhi hlo hev hlol;have g0:decide ((n:Int)<0)=false:=by simp
    have g1:decide ((d:Int)<=0)=false:=by simp;omega
    have g2:¬d=0:=by omega
    have u1:IntKind.u64.wrap (n:Int)=(n:Int):=by rw [yav];omega
    have u2:IntKind.u64.wrap (d:Int)=(d:Int):=by rw [yav];omega
    have u3:IntKind.u64.wrap (A:Int)=(A:Int):=by rw [yav];omega
    clear h0 h1;have HNL:=lh (show n<18446744073709551616 by omega);have HDL:=lh (show d<18446744073709551616 by omega);have hAm:A<=1000000000000000:=by omega
    have HD:=lh hd;have HN:=lh hn;clear hn hd hma;rcases (show a=(A:Int)\/(a = -(A:Int)/\0<A) by omega) with rfl | ⟨rfl,hApos⟩
    ·have v1:wrap64 (-(A:Int)) = -(A:Int):=by unfold wrap64;omega
     have v2:max (A:Int) (-(A:Int))=(A:Int):=by omega
     have s0:¬(A:Int)<0:=by omega
     have s1:decide ((A:Int)<0)=false:=by simp
     clear hA
     go_enter Tryz.func223,Tryz.ntmps223
     go_wp2_with fail
     refine (yjd HM.out _).mono ?_;rintro e w1 ⟨rfl,rfl⟩
     go_wp2_with fail
     refine (yrx A n hi lo om HNL.out HHI HLO _).mono ?_;rintro e w2 ⟨rfl,hb2⟩
     go_wp2_with fail
     refine (ymm hi lo d q b HLL.out HDL.out HEV _).mono ?_;rintro e w3 ⟨rfl,hb3⟩;cases b with
     | false =>
      obtain ⟨rfl,rfl⟩:=HSH.out.1 (Or.inl rfl);clear HSH;go_wp2
      go_ret2
      exact ⟨rfl,bL⟩
     | true =>
      obtain ⟨hq0,hq1⟩:=HSH.out.2 rfl
      by_cases hqm:q<=1000000000000000
      ·obtain ⟨hx,rfl⟩:=hq1 hqm
       have HX:=lh hx;have cq:¬(1000000000000000<q):=by omega
       have cq':decide (1000000000000000<q)=false:=by simp;omega
       have q1:wrap64 q=q:=by unfold wrap64;omega
       have q2:wrap64 (-q) = -q:=by unfold wrap64;omega
       clear HSH hx hq1;go_wp2
       go_ret2
       refine ⟨?_,bL⟩;rw [HX.out,if_neg om]
       rfl
      ·exact zq12b197
    ·have v1:wrap64 (A:Int)=(A:Int):=by unfold wrap64;omega
     have v2:max (-(A:Int)) (A:Int)=(A:Int):=by omega
     have s0:-(A:Int)<0:=by omega
     have s1:decide (-(A:Int)<0)=true:=by simp;omega
     clear hA
     go_enter Tryz.func223,Tryz.ntmps223
     go_wp2_with fail
     refine (yjd HM.out _).mono ?_;rintro e w1 ⟨rfl,rfl⟩
     go_wp2_with fail
     refine (yrx A n hi lo om HNL.out HHI HLO _).mono ?_;rintro e w2 ⟨rfl,hb2⟩
     go_wp2_with fail
     refine (ymm hi lo d q b HLL.out HDL.out HEV _).mono ?_;rintro e w3 ⟨rfl,hb3⟩;cases b with
     | false =>
      obtain ⟨rfl,rfl⟩:=HSH.out.1 (Or.inl rfl);clear HSH;go_wp2
      go_ret2
      exact ⟨rfl,bL⟩
     | true =>
      obtain ⟨hq0,hq1⟩:=HSH.out.2 rfl
      by_cases hqm:q<=1000000000000000
      ·obtain ⟨hx,rfl⟩:=hq1 hqm
       have HX:=lh hx;have cq:¬(1000000000000000<q):=by omega
       have cq':decide (1000000000000000<q)=false:=by simp;omega
       have q1:wrap64 q=q:=by unfold wrap64;omega
       have q2:wrap64 (-q) = -q:=by unfold wrap64;omega
       clear HSH hx hq1;go_wp2
       go_ret2
       refine ⟨?_,bL⟩;rw [HX.out,if_pos om]
       rfl
      ·exact zq12b197
end
section
open Go.RowKit EvM
def ygx (rt:Bool) (minf minp total:Int):Int×Int :=
 if rt=false then (0,6) else if total<0\/1000000000000000<total then (0,5) else (min total (max minf (shareR total minp 1000).1),0)
theorem yiw {minf minp total x e:Int} (h:ygx false minf minp total=(x,e)):x=0/\e=6:= by
 unfold ygx at h;rw [if_pos rfl] at h;injection h with h1 h2
 exact ⟨h1.symm,h2.symm⟩
theorem yep {minf minp total x e:Int} (h:ygx true minf minp total=(x,e)) (hc:total<0\/1000000000000000<total):x=0/\e=5:= by
 unfold ygx at h;rw [if_neg (by simp),if_pos hc] at h;injection h with h1 h2
 exact ⟨h1.symm,h2.symm⟩
theorem yp5 {minf minp total x e:Int} (h:ygx true minf minp total=(x,e)) (hA:¬total<0) (hB:¬1000000000000000<total) (hm:0<=minp/\minp<=1000):∃p,shareR total minp 1000=(p,0)/\x=min total (max minf p)/\e=0:= by
 obtain ⟨p,hp,_⟩:=share_neg total minp 1000 om om om (mayM_iff.2 om);unfold ygx at h;rw [if_neg (by simp),if_neg om,hp] at h;injection h with h1 h2
 exact ⟨p,hp,h1.symm,h2.symm⟩
theorem yrh {lim:Int} {ts:List (Int×Bool)} {cyc dued minf minp start:Int} (h:yaw lim ts cyc dued minf minp start=true):0<=minp/\minp<=1000:= by
 simp only [yaw,Bool.and_eq_true] at h;exact ydr.1 h.1.2
theorem yt9 (v:Value) (ts:List (Int×Bool)) (lim cyc dued minf minp start total x e:Int) (h:Hid (ygx (yaw lim ts cyc dued minf minp start) minf minp total=(x,e))) (w:World) (hv:TrS w v ts) :
 Calls Tryz.prog 187 #[.agg #[iV lim,v,iV cyc,iV dued,iV minf,iV minp,iV start],iV total] w (RetB (.tuple #[iV x,iV e]) w):= by
 have HV:=lh hv;obtain ⟨ao,cap,rfl,h1,⟨h2,_⟩,h3⟩:=hv;clear h3;unfold maxLen at h2;have hT:=TB.new w 24 lim (.slice ao ts.length cap) cyc dued minf minp start;have hb0:BW w (w.alloc (.cells #[iV lim,.slice ao ts.length cap,iV cyc,iV dued,iV minf,iV minp,iV start] 24)):=yaa bR _;obtain ⟨t0,t1,t2,t3,t4,t5,t6⟩:=hT;have HTB:=lh (TB.new w 24 lim (.slice ao ts.length cap) cyc dued minf minp start);cases hr:yaw lim ts cyc dued minf minp start with
 | false =>
  have HX:Hid (x=0):=(yiw (by rw [<-hr];exact h.out)).1;obtain rfl:6=e:=(yiw (by rw [<-hr];exact h.out)).2.symm;have HR:Hid ((if yaw lim ts cyc dued minf minp start=true then 0 else 6)=(6:Int)):=by show _=_;rw [hr];rfl
  clear h hr
  go_enter Tryz.func187,Tryz.ntmps187
  go_wp2
  refine yai 0 (fun a' w'=>∃(u0 u1 u2 u3 u4 u5 u6 u7 u9 u10 u11 u12 u13 u14 u15 u16 u17 u18 u19 u20 u21 u22 u23 u24 u25 u26 u27 u28 u29 u30 u31 u32 u33 u34 u35:Value),a'={ tmps:=#[u0,u1,u2,u3,u4,u5,u6,u7,iV 6,u9,u10,u11,u12,u13,u14,u15,u16,u17,u18,u19,u20,u21,u22,u23,u24,u25,u26,u27,u28,u29,u30,u31,u32,u33,u34,u35],defers:=[] }/\Hid (x=0)/\BW w w')
   (fun _ _=>0) rfl ?pass ?first
  case pass =>
   exact zq12cdf8
  case first =>
   intro J' hJJ hrest;have HJ:=lh hJJ;clear hJJ hrest
   go_wp2_with fail
   refine (yar _ ts lim cyc dued minf minp start _ HR _ (HV.out.below hb0)).mono ?_;rintro _ w1 ⟨rfl,hb1⟩;obtain ⟨t0,t1,t2,t3,t4,t5,t6⟩:=HTB.out.below hb1;go_wp2
   go_step3
   exact ⟨rfl,HJ.out _ _ (x10 (x10 (x10 ⟨_,_,_,_,_,rfl,HX,bL⟩)))⟩
 | true =>
  have HR:Hid ((if yaw lim ts cyc dued minf minp start=true then 0 else 6)=(0:Int)):=by show _=_;rw [hr];rfl
  have hmp:=yrh hr;rw [hr] at h;clear hr
  by_cases hA:total<0
  ·have HX:Hid (x=0):=(yep h.out (Or.inl hA)).1
   obtain rfl:5=e:=(yep h.out (Or.inl hA)).2.symm;exact zq12cea8
  ·by_cases hB:1000000000000000<total
   ·have HX:Hid (x=0):=(yep h.out (Or.inr hB)).1
    obtain rfl:5=e:=(yep h.out (Or.inr hB)).2.symm;exact zq12cea8
   ·obtain ⟨p,hp,hx,he⟩:=yp5 h.out hA hB hmp
    obtain rfl:0=e:=he.symm;have HX:=lh hx;have HP:=lh hp;have HMP:Hid (-9223372036854775808<=minp/\minp<9223372036854775808):=⟨by omega,by omega⟩;clear h hx hp he hmp
    go_enter Tryz.func187,Tryz.ntmps187
    go_wp2
    refine yai 0 (fun a' w'=>∃(u0 u1 u2 u3 u4 u5 u6 u7 u9 u10 u11 u12 u13 u14 u15 u16 u17 u18 u19 u20 u21 u22 u23 u24 u25 u26 u27 u28 u29 u30 u31 u32 u33 u34 u35:Value),a'={ tmps:=#[u0,u1,u2,u3,u4,u5,u6,u7,iZ,u9,u10,u11,u12,u13,u14,u15,u16,u17,u18,u19,u20,u21,u22,u23,u24,u25,u26,u27,u28,u29,u30,u31,u32,u33,u34,u35],defers:=[] }/\Hid (x=0)/\BW w w')
     (fun _ _=>0) rfl ?pass ?first
    case pass =>
     exact zq12cdf8
    case first =>
     intro J' hJJ hrest;have HJ:=lh hJJ;clear hJJ hrest
     go_wp2_with fail
     refine (yar _ ts lim cyc dued minf minp start _ HR _ (HV.out.below hb0)).mono ?_;rintro _ w1 ⟨rfl,hb1⟩;obtain ⟨t0,t1,t2,t3,t4,t5,t6⟩:=HTB.out.below hb1
     go_wp2_with fail
     refine (yvf total minp 1000 p 0 HMP.out ⟨by decide,by decide⟩ HP _).mono ?_;rintro _ w2 ⟨rfl,hb2⟩;obtain ⟨t0,t1,t2,t3,t4,t5,t6⟩:=(HTB.out.below hb1).below hb2;go_wp2
     simp only [Exit.jump]
     go_ret2
     rw [HX.out];exact ⟨rfl,bL⟩
end
def LnS (w:World) (v:Value) (ls:List (Int×Int×Int)):Prop :=
 ∃ao cap,v=.slice ao ls.length cap/\ls.length<=cap/\(cap<=maxLen/\(ao=none->cap=0)) /\
  (ls≠[]->∃b o,ao=some (Ad b o)/\∀i,i<ls.length->w.cell? (Ad b (o+i*3))=some (iV (ls.getD i (0,0,0)).1)/\w.cell? (Ad b (o+i*3+1))=some (iV (ls.getD i (0,0,0)).2.1)/\w.cell? (Ad b (o+i*3+2))=some (iV (ls.getD i (0,0,0)).2.2))
theorem LnS.nil {w:World}:LnS w (sZ) []:=⟨none,0,rfl,Nat.le_refl _,⟨by simp [maxLen],fun _=>rfl⟩,fun h=>absurd rfl h⟩
theorem LnS.below {w w':World} {v:Value} {ls:List (Int×Int×Int)} (h:LnS w v ls) (hb:BW w w'):LnS w' v ls:= by
 obtain ⟨ao,cap,rfl,h1,h2,h3⟩:=h;refine ⟨ao,cap,rfl,h1,h2,fun hx=>?_⟩;obtain ⟨b,o,rfl,hc⟩:=h3 hx;refine ⟨b,o,rfl,fun i hi=>?_⟩;obtain ⟨c1,c2,c3⟩:=hc i hi;exact ⟨(hb.cell (p:=(Ad b (o+i*3))) (yac c1)).trans c1,(hb.cell (p:=(Ad b (o+i*3+1))) (yac c2)).trans c2,(hb.cell (p:=(Ad b (o+i*3+2))) (yac c3)).trans c3⟩
def yfu (n fr til du:Int) (ls:List (Int×Int×Int)) (tot cr mn:Int) (g:Bool) (bs:List Int) (pc pd e:Int) (w:World) (x:Ending) (w':World):Prop :=
 ∃lv bv,x=.returned (.tuple #[.agg #[iV n,iV fr,iV til,iV du,lv,iV tot,iV cr,iV mn,.bool g],.agg #[bv,iV pc,iV pd],iV e])/\LnS w' lv ls/\Sl .i64 w' bv bs/\(Fr w lv/\Fr w bv)/\BW w w'
def yye (e:Int):World->Ending->World->Prop:=yfu 0 0 0 0 [] 0 0 0 false [] 0 0 e
def dayB (n:Int):Bool:=decide (-135140<=n) && decide (n<=2932896)
theorem yrc (n:Int) (r:Bool) (hr:dayB n=r) (w:World):Calls Tryz.prog 185 #[iV n] w (Ret (.bool r) w):= by
 subst hr;unfold dayB
 by_cases a:-135140<=n
 ·by_cases b:n<=2932896
  ·go_enter Tryz.func185,Tryz.ntmps185
   go_wp2
   go_ret
   exact ⟨by simp [a,b],rfl⟩
  ·have b':decide (n<=2932896)=false:=by simp;omega
   go_enter Tryz.func185,Tryz.ntmps185
   go_wp2
   go_ret
   exact ⟨by simp,rfl⟩
 ·have a':decide (-135140<=n)=false:=by simp;omega
  go_enter Tryz.func185,Tryz.ntmps185
  go_wp2
  go_ret
  exact ⟨by simp,rfl⟩
def ygu (w:World) (E:Int) (l:Nat) (a':Act) (w':World):Prop :=
 l=0/\Blk w' (w.heap.size+1+1+1) 43 [iZ,iZ,iZ,iZ,sZ,iZ,iZ,iZ,.bool false]/\Blk w' (w.heap.size+1+1+1+1) 35 [sZ,iZ,iZ]/\BW w w'/\∃(u0 u1 u2 u3 u4 u5 u6 u7 u8 u9 u10 u11 u12 u13 u16 u17 u19 u20 u21 u22 u23 u24 u25 u26 u27 u28 u29 u30 u31 u32 u33 u34 u35 u36 u37 u38 u39 u40 u41 u42 u43 u44 u45 u46 u47 u48 u49 u50 u51 u52 u53 u54 u55 u56 u57 u58 u59 u60 u61 u62 u63 u64 u65 u66 u67 u68 u69 u70 u71 u72 u73 u74 u75 u76 u77 u78 u79 u80 u81 u82 u83 u84 u85 u86 u87 u88 u89 u90 u91 u92 u93 u94 u95 u96 u97 u98 u99 u100 u101 u102 u103 u104 u105 u106 u107 u108 u109 u110 u111 u112 u113 u114 u115 u116 u117 u118 u119 u120 u121 u122 u123 u124 u125 u126 u127 u128 u129 u130 u131 u132 u133 u134 u135 u136 u137 u138 u139 u140 u141 u142:Value),a'={ tmps:=#[u0,u1,u2,u3,u4,u5,u6,u7,u8,u9,u10,u11,u12,u13,pV (w.heap.size+1+1+1),pV (w.heap.size+1+1+1+1),u16,u17,iV E,u19,u20,u21,u22,u23,u24,u25,u26,u27,u28,u29,u30,u31,u32,u33,u34,u35,u36,u37,u38,u39,u40,u41,u42,u43,u44,u45,u46,u47,u48,u49,u50,u51,u52,u53,u54,u55,u56,u57,u58,u59,u60,u61,u62,u63,u64,u65,u66,u67,u68,u69,u70,u71,u72,u73,u74,u75,u76,u77,u78,u79,u80,u81,u82,u83,u84,u85,u86,u87,u88,u89,u90,u91,u92,u93,u94,u95,u96,u97,u98,u99,u100,u101,u102,u103,u104,u105,u106,u107,u108,u109,u110,u111,u112,u113,u114,u115,u116,u117,u118,u119,u120,u121,u122,u123,u124,u125,u126,u127,u128,u129,u130,u131,u132,u133,u134,u135,u136,u137,u138,u139,u140,u141,u142],defers:=[] }
theorem ygu.mk {w w':World} {E:Int} {u0 u1 u2 u3 u4 u5 u6 u7 u8 u9 u10 u11 u12 u13 u16 u17 u19 u20 u21 u22 u23 u24 u25 u26 u27 u28 u29 u30 u31 u32 u33 u34 u35 u36 u37 u38 u39 u40 u41 u42 u43 u44 u45 u46 u47 u48 u49 u50 u51 u52 u53 u54 u55 u56 u57 u58 u59 u60 u61 u62 u63 u64 u65 u66 u67 u68 u69 u70 u71 u72 u73 u74 u75 u76 u77 u78 u79 u80 u81 u82 u83 u84 u85 u86 u87 u88 u89 u90 u91 u92 u93 u94 u95 u96 u97 u98 u99 u100 u101 u102 u103 u104 u105 u106 u107 u108 u109 u110 u111 u112 u113 u114 u115 u116 u117 u118 u119 u120 u121 u122 u123 u124 u125 u126 u127 u128 u129 u130 u131 u132 u133 u134 u135 u136 u137 u138 u139 u140 u141 u142:Value} (h1:Blk w' (w.heap.size+1+1+1) 43 [iZ,iZ,iZ,iZ,sZ,iZ,iZ,iZ,.bool false]) (h2:Blk w' (w.heap.size+1+1+1+1) 35 [sZ,iZ,iZ]) (h3:BW w w'):ygu w E 0 { tmps:=#[u0,u1,u2,u3,u4,u5,u6,u7,u8,u9,u10,u11,u12,u13,pV (w.heap.size+1+1+1),pV (w.heap.size+1+1+1+1),u16,u17,iV E,u19,u20,u21,u22,u23,u24,u25,u26,u27,u28,u29,u30,u31,u32,u33,u34,u35,u36,u37,u38,u39,u40,u41,u42,u43,u44,u45,u46,u47,u48,u49,u50,u51,u52,u53,u54,u55,u56,u57,u58,u59,u60,u61,u62,u63,u64,u65,u66,u67,u68,u69,u70,u71,u72,u73,u74,u75,u76,u77,u78,u79,u80,u81,u82,u83,u84,u85,u86,u87,u88,u89,u90,u91,u92,u93,u94,u95,u96,u97,u98,u99,u100,u101,u102,u103,u104,u105,u106,u107,u108,u109,u110,u111,u112,u113,u114,u115,u116,u117,u118,u119,u120,u121,u122,u123,u124,u125,u126,u127,u128,u129,u130,u131,u132,u133,u134,u135,u136,u137,u138,u139,u140,u141,u142],defers:=[] } w' :=
 ⟨rfl,h1,h2,h3,u0,u1,u2,u3,u4,u5,u6,u7,u8,u9,u10,u11,u12,u13,u16,u17,u19,u20,u21,u22,u23,u24,u25,u26,u27,u28,u29,u30,u31,u32,u33,u34,u35,u36,u37,u38,u39,u40,u41,u42,u43,u44,u45,u46,u47,u48,u49,u50,u51,u52,u53,u54,u55,u56,u57,u58,u59,u60,u61,u62,u63,u64,u65,u66,u67,u68,u69,u70,u71,u72,u73,u74,u75,u76,u77,u78,u79,u80,u81,u82,u83,u84,u85,u86,u87,u88,u89,u90,u91,u92,u93,u94,u95,u96,u97,u98,u99,u100,u101,u102,u103,u104,u105,u106,u107,u108,u109,u110,u111,u112,u113,u114,u115,u116,u117,u118,u119,u120,u121,u122,u123,u124,u125,u126,u127,u128,u129,u130,u131,u132,u133,u134,u135,u136,u137,u138,u139,u140,u141,u142,rfl⟩
theorem yyr {w w':World} {g:Nat} (h:BW w w') (hg:w.heap.size<=g) (a b c d e f g' i j:Value):BW w (((((((((w'.setCell (Ad g 0) a).setCell (Ad g 1) b).setCell (Ad g 2) c).setCell (Ad g 3) d).setCell (Ad g 4) e).setCell (Ad g 5) f).setCell (Ad g 6) g').setCell (Ad g 7) i).setCell (Ad g 8) j) :=
 ((((((((h.setCell hg _).setCell hg _).setCell hg _).setCell hg _).setCell hg _).setCell hg _).setCell hg _).setCell hg _).setCell hg _
theorem Blk.s9 {w:World} {g' g:Nat} {t:TypeId} {cur:List Value} (h:Blk w g' t cur) (hne:g'≠g) (a b c d e f f' i j:Value):Blk (((((((((w.setCell (Ad g 0) a).setCell (Ad g 1) b).setCell (Ad g 2) c).setCell (Ad g 3) d).setCell (Ad g 4) e).setCell (Ad g 5) f).setCell (Ad g 6) f').setCell (Ad g 7) i).setCell (Ad g 8) j) g' t cur :=
 ((((((((h.setOther hne _ _).setOther hne _ _).setOther hne _ _).setOther hne _ _).setOther hne _ _).setOther hne _ _).setOther hne _ _).setOther hne _ _).setOther hne _ _
theorem yae (w:World) (cs:List Value) (t:TypeId) (z:Nat) (hz:w.heap.size=z):Blk (w.alloc (.cells cs.toArray t)) z t cs:=by subst hz;exact heap_alloc_new w _
theorem yjz (w:World) (lim cyc dued minf minp start fr til c d:Int) (vt vb:Value):∃W,(((((w.alloc (.cells #[iV lim,vt,iV cyc,iV dued,iV minf,iV minp,iV start] 24)).alloc (.cells #[iV fr,iV til] 40)).alloc (.cells #[vb,iV c,iV d] 35)).alloc (.cells #[iZ,iZ,iZ,iZ,sZ,iZ,iZ,iZ,.bool false] 43)).alloc (.cells #[sZ,iZ,iZ] 35))=W/\Hid (Blk W w.heap.size 24 [iV lim,vt,iV cyc,iV dued,iV minf,iV minp,iV start])/\Hid (Blk W (w.heap.size+1) 40 [iV fr,iV til])/\Hid (Blk W (w.heap.size+1+1) 35 [vb,iV c,iV d])/\Hid (Blk W (w.heap.size+1+1+1) 43 [iZ,iZ,iZ,iZ,sZ,iZ,iZ,iZ,.bool false])/\Hid (Blk W (w.heap.size+1+1+1+1) 35 [sZ,iZ,iZ])/\Hid (BW w W)/\Hid (W.heap.size=w.heap.size+5):= by
 exact ⟨_,rfl,Blk.below (yae w _ _ _ rfl) (yaa (yaa (yaa (yaa bR _) _) _) _),Blk.below (yae (w.alloc _) _ _ _ (by simp)) (yaa (yaa (yaa bR _) _) _),Blk.below (yae ((w.alloc _).alloc _) _ _ _ (by simp)) (yaa (yaa bR _) _),Blk.below (yae (((w.alloc _).alloc _).alloc _) _ _ _ (by simp)) (yaa bR _),yae ((((w.alloc _).alloc _).alloc _).alloc _) _ _ _ (by simp),yaa (yaa (yaa (yaa (yaa bR _) _) _) _) _,by show _=_;simp⟩
def ybg (x:Int):Bool:=decide (x<0) || decide (10000000<x)
def yix (nts:Nat) (n fr til:Int) (nb nr:Nat):Bool:=decide (1<=n) && decide (n<=300) && dayB fr && dayB til && decide (fr<=til) && nb == nts && nr == nts
theorem ygh {nts:Nat} {n fr til:Int} {nb nr:Nat}:yix nts n fr til nb nr=true↔1<=n/\n<=300/\dayB fr=true/\dayB til=true/\fr<=til/\nb=nts/\nr=nts:= by
 simp [yix,and_assoc]
theorem yzj {nts:Nat} {n fr til:Int} {nb nr:Nat} (h:yix nts n fr til nb nr=false):n<1\/(1<=n/\300<n)\/((1<=n/\n<=300)/\dayB fr=false)\/((1<=n/\n<=300)/\dayB fr=true/\dayB til=false)\/((1<=n/\n<=300)/\(dayB fr=true/\dayB til=true)/\til<fr)\/((1<=n/\n<=300)/\(dayB fr=true/\dayB til=true)/\fr<=til/\nb≠nts)\/((1<=n/\n<=300)/\(dayB fr=true/\dayB til=true)/\fr<=til/\nb=nts/\nr≠nts):= by
 by_cases a:1<=n
 ·by_cases b:n<=300
  ·cases e:dayB fr with
   | false=>exact .inr (.inr (.inl ⟨⟨a,b⟩,rfl⟩))
   | true =>
    cases e2:dayB til with
    | false=>exact .inr (.inr (.inr (.inl ⟨⟨a,b⟩,rfl,rfl⟩)))
    | true =>
     by_cases c:fr<=til
     ·by_cases d:nb=nts
      ·by_cases f:nr=nts
       ·rw [ygh.2 ⟨a,b,e,e2,c,d,f⟩] at h;cases h
       ·exact .inr (.inr (.inr (.inr (.inr (.inr ⟨⟨a,b⟩,⟨rfl,rfl⟩,c,d,f⟩)))))
      ·exact .inr (.inr (.inr (.inr (.inr (.inl ⟨⟨a,b⟩,⟨rfl,rfl⟩,c,d⟩)))))
     ·exact .inr (.inr (.inr (.inr (.inl ⟨⟨a,b⟩,⟨rfl,rfl⟩,by omega⟩))))
  ·exact .inr (.inl ⟨a,by omega⟩)
 ·exact .inl om
def yu6 (ts:List (Int×Bool)) (lim cyc dued minf minp start n fr til:Int) (bs:List Int) (c d:Int) (rs ns:List Int) (E:Int):Prop :=
 (yaw lim ts cyc dued minf minp start=false/\6=E)\/(yaw lim ts cyc dued minf minp start=true/\yix ts.length n fr til bs.length rs.length=false/\1=E) \/
 ((yaw lim ts cyc dued minf minp start=true/\yix ts.length n fr til bs.length rs.length=true)/\((rs.any ybg=true/\1=E)\/(rs.any ybg=false/\E≠0/\∃L C D,ye7 bs c d ns=(L,C,D,E))))
theorem yoz {rs:List Int} {k:Nat} (hk:k<rs.length) (h:ybg (rs.getD k 0)=true):rs.any ybg=true:= by
 rw [List.any_eq_true];exact ⟨rs[k],List.getElem_mem _,by simpa [List.getD,hk] using h⟩
theorem ywy {rs:List Int} (h:rs.any ybg=false) {k:Nat} (hk:k<rs.length):0<=rs.getD k 0/\rs.getD k 0<=10000000:= by
 have h2:=List.any_eq_false.1 h (rs.getD k 0) (by rw [List.getD,List.getElem?_eq_getElem hk];exact List.getElem_mem _);simp [ybg] at h2;exact h2
theorem ysl {rs:List Int} (h:∀j,j<rs.length->ybg (rs.getD j 0)=false):rs.any ybg=false:= by
 rw [List.any_eq_false];intro x hx;obtain ⟨j,hj,rfl⟩:=List.getElem_of_mem hx;have:=h j hj
 simpa [List.getD,hj] using this
theorem yv2 (v:Value) (ts:List (Int×Bool)) (lim cyc dued minf minp start n fr til:Int) (bv:Value) (bs:List Int) (c d:Int) (rv:Value) (rs:List Int) (nv:Value) (ns:List Int) (g:Bool) (HLT:ts.length<=1000) (E:Int) (HE:Hid (yu6 ts lim cyc dued minf minp start n fr til bs c d rs ns E)) (w:World) (hv:TrS w v ts) (hb:Sl .i64 w bv bs) (hr:Sl .i64 w rv rs) (hn:Sl .i64 w nv ns) :
 Calls Tryz.prog 141 #[.agg #[iV lim,v,iV cyc,iV dued,iV minf,iV minp,iV start],iV n,.agg #[iV fr,iV til],.agg #[bv,iV c,iV d],rv,nv,.bool g] w (yye E w):= by
 have HV:=lh hv;have HB:=lh hb;have HR:=lh hr;have HN:=lh hn;obtain ⟨ao,cap,rfl,h1,⟨h2,hnn⟩,h3⟩:=hv;clear h3 hnn;obtain ⟨b0,bc,rfl,g1,⟨g2,hnn⟩,h3⟩:=hb;clear h3 hnn;obtain ⟨r0,rc,rfl,i1,⟨i2,hnn⟩,h3⟩:=hr;clear h3 hnn;obtain ⟨n0,nc,rfl,j1,⟨j2,hnn⟩,h3⟩:=hn;clear h3 hnn;unfold maxLen at h2 g2 i2 j2
 go_enter Tryz.func141,Tryz.ntmps141
 go_wp2_with fail
 obtain ⟨W,hW,S7,S9,S10,S14,S15,SB,SZ⟩:=yjz w lim cyc dued minf minp start fr til c d (.slice ao ts.length cap) (.slice b0 bs.length bc)
 with_reducible rw [hW]
 clear hW;refine yd1 (ygu w E) ?first ?pass
 case pass =>
  intro l a1 w1 hJ;obtain ⟨rfl,hA,hC,hbw,hJ⟩:=hJ;refine ⟨_,rfl,?_⟩
  iterate 3 obtain ⟨_,hJ⟩:=hJ
  obtain ⟨u3,hJ⟩:=hJ
  iterate 136 obtain ⟨_,hJ⟩:=hJ
  subst hJ;obtain ⟨c0,c1,c2,c3,c4,c5,c6,c7,c8,-⟩:=hA.cs [0,1,2,3,4,5,6,7,8];simp only [gz,gs] at c0 c1 c2 c3 c4 c5 c6 c7 c8;obtain ⟨f0,f1,f2,f3,f4,f5,f6,f7,f8,-⟩:=hA.fs [0,1,2,3,4,5,6,7,8];obtain ⟨d0,d1,d2,-⟩:=hC.cs [0,1,2];simp only [gz,gs] at d0 d1 d2;obtain ⟨e0,e1,e2,-⟩:=hC.fs [0,1,2];have HBW:=lh hbw;have hlt:=hC.lt;clear hA hC hbw;go_wp2
  simp only [ydu];refine bodyPost_ret (v:=.tuple #[.agg #[iZ,iZ,iZ,iZ,sZ,iZ,iZ,iZ,.bool false],.agg #[sZ,iZ,iZ],iV E]) (by simp [results,Tryz.results141,go_sem,c0,c1,c2,c3,c4,c5,c6,c7,c8,d0,d1,d2]) rfl ⟨sZ,sZ,rfl,LnS.nil,Sl.nil,⟨ycz,ycz⟩,?_⟩;have h14:w.heap.size<=w.heap.size+1+1+1:=by omega
  exact yd5 (yyr HBW.out h14 _ _ _ _ _ _ _ _ _) om _ _ _
 case first =>
  have hwt:∃W1,W.alloc (.cells #[iZ,iZ,iZ,iZ,sZ,iZ,iZ,iZ,.bool false] 43)=W1/\Hid (Blk W1 w.heap.size 24 [iV lim,.slice ao ts.length cap,iV cyc,iV dued,iV minf,iV minp,iV start])/\Hid (Blk W1 (w.heap.size+1) 40 [iV fr,iV til])/\Hid (Blk W1 (w.heap.size+1+1) 35 [.slice b0 bs.length bc,iV c,iV d])/\Hid (Blk W1 (w.heap.size+1+1+1) 43 [iZ,iZ,iZ,iZ,sZ,iZ,iZ,iZ,.bool false])/\Hid (Blk W1 (w.heap.size+1+1+1+1) 35 [sZ,iZ,iZ])/\Hid (BW w W1) :=
   ⟨_,rfl,S7.out.below (yaa bR _),S9.out.below (yaa bR _),S10.out.below (yaa bR _),S14.out.below (yaa bR _),S15.out.below (yaa bR _),yaa SB.out _⟩
  go_upto_region 2 with fail
  obtain ⟨W1,hW1,R7,R9,R10,R14,R15,RB⟩:=hwt
  with_reducible rw [hW1]
  clear hW1 S7 S9 S10 S14 S15 SB SZ;have HVW:=lh (HV.out.below RB.out);obtain ⟨t0,t1,t2,t3,t4,t5,t6,-⟩:=R7.out.cs [0,1,2,3,4,5,6];simp only [gz,gs] at t0 t1 t2 t3 t4 t5 t6;rcases HE.out with ⟨hrt,rfl⟩ | hE
  ·have HRT:Hid ((if yaw lim ts cyc dued minf minp start=true then 0 else 6)=(6:Int)):=by show _=_;rw [hrt];rfl
   clear hrt HE
   go_wp2_with fail
   refine (yar _ ts lim cyc dued minf minp start _ HRT _ HVW.out).mono ?_;rintro _ w2 ⟨rfl,hb2⟩;have X14:=lh (R14.out.below hb2);have X15:=lh (R15.out.below hb2);have XB:=lh (yad RB.out hb2);clear hb2
   go_wp2_with fail
   go_step3
   exact ygu.mk X14.out X15.out XB.out
  ·have hrt:yaw lim ts cyc dued minf minp start=true:=by rcases hE with h | h;exact h.1;exact h.1.1
   have HRT:Hid ((if yaw lim ts cyc dued minf minp start=true then 0 else 6)=(0:Int)):=by show _=_;rw [hrt];rfl
   have HE2:=lh hE;clear hrt HE hE
   go_wp2_with fail
   refine (yar _ ts lim cyc dued minf minp start _ HRT _ HVW.out).mono ?_;rintro _ w2 ⟨rfl,hb2⟩;have X7:=lh (R7.out.below hb2);have X9:=lh (R9.out.below hb2);have X10:=lh (R10.out.below hb2);have X14:=lh (R14.out.below hb2);have X15:=lh (R15.out.below hb2);have XB:=lh (yad RB.out hb2);clear hb2 t0 t1 t2 t3 t4 t5 t6 R7 R9 R10 R14 R15 RB HVW HRT;go_upto_region 5 with fail
   have q9:=X9.out;obtain ⟨s0,s1,-⟩:=q9.cs [0,1];have q7:=X7.out;have t1:=q7.cell 1;have q10:=X10.out;have p0:=q10.cell 0;simp only [gz,gs] at s0 s1 t1 p0;clear q9 q7 q10;rcases HE2.out with ⟨_,ha,rfl⟩ | ⟨⟨_,ha⟩,hE⟩
   ·clear HE2
    rcases yzj ha with h | h | h | h | h | h | h
    ·go_wp2_with fail
     go_step3
     exact ygu.mk X14.out X15.out XB.out
    ·obtain ⟨ha1,ha2⟩:=h
     have hA:¬n<1:=by omega
     go_wp2_with fail
     go_step3
     exact ygu.mk X14.out X15.out XB.out
    ·obtain ⟨⟨ha1,ha2⟩,hd⟩:=h
     have hA:¬n<1:=by omega
     have hB:¬300<n:=by omega
     have HD1:=lh hd;have HD2:=HD1;clear hd ha;exact zq12747a
    ·obtain ⟨⟨ha1,ha2⟩,hd,hd2⟩:=h
     exact zq12b8e4
    ·obtain ⟨⟨ha1,ha2⟩,⟨hd,hd2⟩,hlt⟩:=h
     exact zq12b8e4
    ·obtain ⟨⟨ha1,ha2⟩,⟨hd,hd2⟩,hlt,hne⟩:=h
     have hA:¬n<1:=by omega
     have hB:¬300<n:=by omega
     have hC:¬til<fr:=by omega
     have d1:((bs.length:Int) != (ts.length:Int))=true:=by simp;omega
     have HD1:=lh hd;have HD2:=lh hd2;clear hd hd2 ha hne;exact zq12747a
    ·obtain ⟨⟨ha1,ha2⟩,⟨hd,hd2⟩,hlt,heq,hne⟩:=h
     have hA:¬n<1:=by omega
     have hB:¬300<n:=by omega
     have hC:¬til<fr:=by omega
     have d1:((bs.length:Int) != (ts.length:Int))=false:=by simp;omega
     have d2:((rs.length:Int) != (ts.length:Int))=true:=by simp;omega
     have HD1:=lh hd;have HD2:=lh hd2;clear hd hd2 ha hne heq;exact zq12747a
   ·obtain ⟨ha1,ha2,hd,hd2,hlt,heq,heq2⟩:=ygh.1 ha
    have hA:¬n<1:=by omega
    have hB:¬300<n:=by omega
    have hC:¬til<fr:=by omega
    have d1:((bs.length:Int) != (ts.length:Int))=false:=by simp;omega
    have d2:((rs.length:Int) != (ts.length:Int))=false:=by simp;omega
    have HD1:=lh hd;have HD2:=lh hd2;have HEQ:=lh (And.intro heq heq2);have HE3:=lh hE;clear hd hd2 ha heq heq2 HE2 hE hlt ha1 ha2;go_upto_region 6 with (first | (go_at_call 185;refine (yrc _ _ (by first | exact HD1.out | exact HD2.out) _).mono ?_;rintro _ _ ⟨rfl,rfl⟩))
    clear hA hB hC d1 d2 s0 s1 t1 p0;have HRW:=lh (HR.out.below XB.out)
    go_wp2_with fail
    go_loopg [71] rs.length (fun g i wr=>∃k:Nat,k+g=rs.length/\i=iV k/\Hid (∀j,j<k->ybg (rs.getD j 0)=false)/\w2=wr)
    case atStart=>exact ⟨0,by omega,rfl,fun j hj=>absurd hj om,rfl⟩
    case round =>
     obtain ⟨k,hkg,rfl,HK,rfl⟩:=hrel;cases gk with
     | succ g =>
      have hlt:(k:Int)<(rs.length:Int):=by omega
      obtain ⟨b',o',x,rfl,hcell,HX⟩:=HRW.out.get (i:=k) om
      by_cases hx:x<0
      ·have hE1:1=E:= by
        rcases HE3.out with ⟨_,h⟩ | ⟨h,_⟩
        ·exact h
        ·exact absurd h (by rw [yoz (k:=k) om (by rw [HX.out];simp [ybg,hx])];simp)
       subst hE1
       go_wp2_with fail
       go_step3
       exact ygu.mk X14.out X15.out XB.out
      ·by_cases hx2:10000000<x
       ·have hE1:1=E:= by
         rcases HE3.out with ⟨_,h⟩ | ⟨h,_⟩
         ·exact h
         ·exact absurd h (by rw [yoz (k:=k) om (by rw [HX.out];simp [ybg,hx2])];simp)
        subst hE1
        go_wp2_with fail
        go_step3
        exact ygu.mk X14.out X15.out XB.out
       ·have HK2:Hid (∀j,j<k+1->ybg (rs.getD j 0)=false):=fun j hj=>by
         by_cases e:j=k
         ·subst e;rw [HX.out];simp [ybg];omega
         ·exact HK.out j om
        go_wp2_with fail
        go_roundg g
        case measure=>omega
        case rel=>exact ⟨k+1,by omega,by go_num,HK2,rfl⟩
     | zero =>
      have hlt:¬((k:Int)<(rs.length:Int)):=by omega
      have hk:k=rs.length:=by omega
      obtain ⟨L,C,D,HBE⟩:∃L C D,Hid (E≠0/\ye7 bs c d ns=(L,C,D,E)):= by
       rcases HE3.out with ⟨h,_⟩ | ⟨_,h0,L,C,D,h⟩
       ·exact absurd h (by rw [ysl fun j hj=>HK.out j om];simp)
       ·exact ⟨L,C,D,h0,h⟩
      have q10:=X10.out;obtain ⟨p0,p1,p2,-⟩:=q10.cs [0,1,2];simp only [gz,gs] at p0 p1 p2;have hE0:(E != 0)=true:=by have:=HBE.out.1;simpa using this
      have HBS:=lh HBE.out.2;clear q10
      go_wp2_with fail
      refine (yoo _ _ bs ns c d _ HBS (by have:=HEQ.out;have:=HLT;omega) _ (HB.out.below XB.out) (HN.out.below XB.out)).mono ?_;rintro _ w3 ⟨u3,rfl,hul,hb3⟩;simp only at hul ⊢;obtain ⟨a3,q3,rfl⟩:=hul.shape;have Y14:=lh (X14.out.below hb3);have Y15:=lh (X15.out.below hb3);have YB:=lh (yad XB.out hb3);have qy:=X10.out.below hb3;clear p0 p1 p2;obtain ⟨p0,p1,p2,-⟩:=qy.cs [0,1,2];simp only [gz,gs] at p0 p1 p2;obtain ⟨f0,f1,f2,-⟩:=qy.fs [0,1,2];clear qy hul hb3
      go_wp2_with fail
      go_step3
      exact ygu.mk (((Y14.out.setOther om _ _).setOther om _ _).setOther om _ _) (((Y15.out.setOther om _ _).setOther om _ _).setOther om _ _) (yd5 YB.out om _ _ _)
end Go.Proofs.YtkongpjpkpfniaaGreat

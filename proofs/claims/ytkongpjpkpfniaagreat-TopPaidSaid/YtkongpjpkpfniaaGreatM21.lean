/- TopPaid: parts of the proof, made small by a program (mini.py). -/
import Derived.BigQuiet
import Derived.Deep.QuietTactic
import Derived.Laws.Externs
import Derived.Test.YtkongpjpkpfniaaGreatM01
import Derived.Test.YtkongpjpkpfniaaGreatM06
import Derived.Test.YtkongpjpkpfniaaGreatM11
import Derived.Test.YtkongpjpkpfniaaGreatM18
import Derived.Test.YtkongpjpkpfniaaGreatM20
set_option linter.unusedVariables false
set_option linter.unusedSimpArgs false
set_option maxRecDepth 100000
set_option maxHeartbeats 6400000
namespace Go.Proofs.YtkongpjpkpfniaaGreat
open Go.RowKit
theorem zq217544 {q:Prop} (h:q:= by
 clear hno2 e1
 go_enter Tryz.func140,Tryz.ntmps140
 go_wp2_with fail
 refine (yar _ ts lim cyc dued minf minp start _ HRT _ (HV.out.below SB.out)).mono ?_;rintro _ w1 ⟨rfl,hb1⟩;have t1:=(S0.out.below hb1).cell 1;simp only [gz,gs] at t1;have RB:=lh (yad SB.out hb1);clear hb1 S0
 go_wp2_with fail
 go_ret2
 exact ⟨_,rfl,Sl.nil,RB.out⟩):q:=h
theorem zq212229 {q:Prop} (h:q:= by
 go_enter Tryz.func184,Tryz.ntmps184
 go_wp2_with fail
 refine (ygt v u bs rs hi lo 0 HE _ HV.out HU.out).mono ?_;rintro _ w1 ⟨rfl,hb1⟩
 go_wp2_with fail
 refine (HEV.out _).mono ?_;rintro _ w2 ⟨rfl,hb2⟩;go_wp2
 go_ret2
 exact ⟨rfl,yad hb1 hb2⟩):q:=h
section
open Go.RowKit EvM
theorem yno (x y c:Int) (s k:Nat) (hx:0≤x) (hy:0≤y) (hc:0≤c∧c≤1) (hs:Hid ((x+y+c)%18446744073709551616=(s:Int))) (hk:Hid ((x+y+c)/18446744073709551616=(k:Int))) (w:World) :
 (callFunc 240 #[.int .u64 x,.int .u64 y,.int .u64 c]).run Tryz.prog w=.ok (.value (.tuple #[.int .u64 s,.int .u64 k])) w:= by
 rw [run_callFunc_extern (e:=add64Entry) Tryz.func240 kr kr kr kr,run_add64 x y c hx hy hc.1 hc.2,hs.out,hk.out]
 rfl
theorem yzu (x y h l:Nat) (hx:x<18446744073709551616) (hy:y<18446744073709551616) (hh:Hid (x*y/18446744073709551616=h)) (hl:Hid (x*y%18446744073709551616=l)) (w:World) :
 Calls Tryz.prog 239 #[.int .u64 x,.int .u64 y] w (fun e w'=>e=.returned (.tuple #[.int .u64 h,.int .u64 l])∧w'=w):= by
 have:=yoj x y hx hy w;rw [hh.out,hl.out] at this;exact this.mono fun _ _ h=>⟨h.1,h.2.symm⟩
theorem ymt (v u:Value) (bs rs:List Int) (h:okE bs rs=false) (w:World) (hv:Sl .i64 w v bs) (hu:Sl .i64 w u rs) :
 Calls Tryz.prog 220 #[v,u] w (RetB (.tuple #[.int .u64 0,.int .u64 0,iV 1]) w):= by
 have HV:=lh hv;have HU:=lh hu;have HH:=lh h;obtain ⟨ao,cap,rfl,h1,⟨h2,_⟩,h3⟩:=hv;clear h3;obtain ⟨ao',cap',rfl,h1',⟨h2',_⟩,h3⟩:=hu;clear h3 h;unfold maxLen at h2 h2'
 go_enter Tryz.func220,Tryz.ntmps220
 go_wp2
 refine yai 0 (fun _ _=>False) (fun _ _=>0) rfl ?pass ?first
 case pass =>
  intro _ _ hJ;exact hJ.elim
 case first =>
 intro J' hj1 hj2;clear hj1 hj2
 by_cases e1:bs.length=rs.length
 ·have d1:((bs.length:Int) != (rs.length:Int))=false:=by simp [e1]
  by_cases e2:bs.length≤40000
  ·have d2:decide ((40000:Int)<(bs.length:Int))=false:=by simp;omega
   cases e3:bs.any (yef 1000000000000000) with
   | true =>
    have E3:Hid (bs.any (yef 1000000000000000)=!false):=e3;clear e1 e2 e3
    go_wp2_with fail
    refine (ycp _ bs 1000000000000000 false E3 _ HV.out).mono ?_;rintro _ w1 ⟨rfl,hb1⟩;go_wp2
    simp only [Exit.jump]
    go_ret3
    exact ⟨rfl,hb1⟩
   | false =>
    have E3:Hid (bs.any (yef 1000000000000000)=!true):=e3
    have E4:Hid (rs.any (yef 10000000)=!false):= by
     show _=_;have h:=HH.out;unfold okE at h;rw [e3] at h
     simpa [e1,show rs.length≤40000 by omega] using h
    clear e1 e2 e3
    go_wp2_with fail
    refine (ycp _ bs 1000000000000000 true E3 _ HV.out).mono ?_;rintro _ w1 ⟨rfl,hb1⟩
    go_wp2_with fail
    refine (ycp _ rs 10000000 false E4 _ (HU.out.below hb1)).mono ?_;rintro _ w2 ⟨rfl,hb2⟩;go_wp2
    simp only [Exit.jump]
    go_ret3
    exact ⟨rfl,yad hb1 hb2⟩
  ·have d2:decide ((40000:Int)<(bs.length:Int))=true:=by simp;omega
   clear e1;go_wp2
   simp only [Exit.jump]
   go_ret3
   exact ⟨rfl,bR⟩
 ·have d1:((bs.length:Int) != (rs.length:Int))=true:=by simp;omega
  go_wp2
  simp only [Exit.jump]
  go_ret3
  exact ⟨rfl,bR⟩
theorem yk1 (v u:Value) (bs rs:List Int) (h:okE bs rs=true) (S hi lo:Nat) (hS:Hid (sumE bs rs bs.length=S)) (hhi:Hid (S/18446744073709551616=hi)) (hlo:Hid (S%18446744073709551616=lo)) (w:World) (hv:Sl .i64 w v bs) (hu:Sl .i64 w u rs) :
 Calls Tryz.prog 220 #[v,u] w (RetB (.tuple #[.int .u64 hi,.int .u64 lo,iZ]) w):= by
 have HV:=lh hv;have HU:=lh hu;obtain ⟨ao,cap,rfl,h1,⟨h2,_⟩,h3⟩:=hv;clear h3;obtain ⟨ao',cap',rfl,h1',⟨h2',_⟩,h3⟩:=hu;clear h3;unfold maxLen at h2 h2';obtain ⟨e1,e2,e3,e4⟩:=yu4 h;have E3:Hid (bs.any (yef 1000000000000000)=!true):=e3;have E4:Hid (rs.any (yef 10000000)=!true):=e4;have HL:=lh e1;have HL2:=lh e2;have HLE:=lh (fun k=>yzt e3 e4 k);have HB1:=lh (fun k=>yjm e3 om k);have HB2:=lh (fun k=>yjm e4 om k);clear h e1 e2 e3 e4
 go_enter Tryz.func220,Tryz.ntmps220
 go_wp2
 refine yai 0 (fun a' w'=>∃(k ph pl:Nat) (u2 u3 u9 u10 u11 u13 u14 u15 u16 u17 u18 u19 u20 u21 u22 u23 u24 u25 u26 u27 u28 u29 u30 u31 u32 u33 u34 u35 u36 u37 u38 u39 u40 u41 u42 u43 u44 u45 u46 u47 u48 u49 u50 u51 u52 u53 u54 u55 u56 u57 u58 u59 u60 u61 u62 u63 u64 u65 u66 u67:Value),a'={ tmps:=#[Value.slice ao bs.length cap,Value.slice ao' rs.length cap',u2,u3,.int .u64 0,.int .u64 0,iZ,.int .u64 ph,.int .u64 pl,u9,u10,u11,iV k,u13,u14,u15,u16,u17,u18,u19,u20,u21,u22,u23,u24,u25,u26,u27,u28,u29,u30,u31,u32,u33,u34,u35,u36,u37,u38,u39,u40,u41,u42,u43,u44,u45,u46,u47,u48,u49,u50,u51,u52,u53,u54,u55,u56,u57,u58,u59,u60,u61,u62,u63,u64,u65,u66,u67],defers:=[] } ∧
  k≤bs.length∧Hid (sumE bs rs k/18446744073709551616=ph∧sumE bs rs k%18446744073709551616=pl)∧Below w.heap.size w w')
  (fun a' _=>bs.length-(intOf (a'.tmps.getD 12 undef)).toNat) rfl ?pass ?first
 case first =>
  intro J' _ hrest;have HR:=lh hrest;clear hrest;have d1:((bs.length:Int) != (rs.length:Int))=false:=by have:=HL.out;simp [this]
  have d2:decide ((40000:Int)<(bs.length:Int))=false:=by have:=HL2.out;simp;omega
  go_wp2_with fail
  refine (ycp _ bs 1000000000000000 true E3 _ HV.out).mono ?_;rintro _ w1 ⟨rfl,hb1⟩
  go_wp2_with fail
  refine (ycp _ rs 10000000 true E4 _ (HU.out.below hb1)).mono ?_;rintro _ w2 ⟨rfl,hb2⟩
  go_wp2_with fail
  go_step3
  go_step
  go_step
  exact HR.out _ _ ⟨0,0,0,_,_,_,_,_,_,_,_,_,_,_,_,_,_,_,_,_,_,_,_,_,_,_,_,_,_,_,_,_,_,_,_,_,_,_,_,_,_,_,_,_,_,_,_,_,_,_,_,_,_,_,_,_,_,_,_,_,_,_,_,rfl,Nat.zero_le _,by show _∧_;simp [sumE],yad hb1 hb2⟩
 case pass =>
  intro a1 w1 hJ J' hJ';obtain ⟨k,ph,pl,hJ⟩:=hJ
  iterate 60 obtain ⟨_,hJ⟩:=hJ
  obtain ⟨ha',hkn,HP,hbw⟩:=hJ;subst ha'
  by_cases hlt:k<bs.length
  ·have d0:((k:Int) == (bs.length:Int))=false:=by simp;omega
   obtain ⟨b,o,x,rfl,hcx,hx⟩:=(HV.out.below hbw).get (i:=k) hlt;obtain ⟨b',o',y,rfl,hcy,hy⟩:=(HU.out.below hbw).get (i:=k) (by have:=HL.out;omega);have hx0:=HB1.out k;have hy0:=HB2.out k;rw [hx.out] at hx0;rw [hy.out] at hy0;obtain ⟨X,rfl⟩:=Int.eq_ofNat_of_zero_le hx0.1;obtain ⟨Y,rfl⟩:=Int.eq_ofNat_of_zero_le hy0.1;have wX:IntKind.u64.wrap (X:Int)=X:=by rw [IntKind.wrap_u64];omega
   have wY:IntKind.u64.wrap (Y:Int)=Y:=by rw [IntKind.wrap_u64];omega
   obtain ⟨h,hh⟩:∃h,X*Y/18446744073709551616=h:=⟨_,rfl⟩;obtain ⟨l,hl⟩:∃l,X*Y%18446744073709551616=l:=⟨_,rfl⟩;have hn:sumE bs rs (k+1)=sumE bs rs k+X*Y:=by simp only [sumE,hx.out,hy.out,Int.toNat_natCast]
   have hle:=HLE.out (k+1);rw [hn] at hle;obtain ⟨l2,hl2⟩:∃l2,(pl+l)%18446744073709551616=l2:=⟨_,rfl⟩;obtain ⟨c,hc⟩:∃c,(pl+l)/18446744073709551616=c:=⟨_,rfl⟩;obtain ⟨h2,hh2⟩:∃h2,(ph+h+c)%18446744073709551616=h2:=⟨_,rfl⟩;obtain ⟨g1,g2,g3,g4⟩:=yxe (sumE bs rs k) (X*Y) ph pl h l c l2 h2 HP.out.1 HP.out.2 hh hl hl2 hc hh2 (by have:=HL2.out;omega);have A1:=fun W=>yno (pl:Int) (l:Int) 0 l2 c om om om (by show _=_;omega) (by show _=_;omega) W;have A2:=fun W=>yno (ph:Int) (h:Int) (c:Int) h2 0 om om om (by show _=_;omega) (by show _=_;omega) W;have HG:Hid (sumE bs rs (k+1)/18446744073709551616=h2∧sumE bs rs (k+1)%18446744073709551616=l2):=by rw [hn];exact ⟨g1,g2⟩
   have HM:=lh (fun W=>yzu X Y h l om om hh hl W);have HX:=lh hbw;have hi1:(k:Int)<(bs.length:Int):=by omega
   have hi2:(k:Int)<(rs.length:Int):=by have:=HL.out;omega
   clear hx0 hy0 hh hl hn hle hl2 hc hh2 g1 g2 g3 g4 HP hbw
   go_wp2_with fail
   go_quiet ((go_at_call 239;exact Calls.quiet_of_same (HM.out _)))
   go_wp2_with (first | simp only [A1] | simp only [A2])
   go_step3
   refine ⟨rfl,hJ' _ _ ⟨k+1,h2,l2,_,_,_,_,_,_,_,_,_,_,_,_,_,_,_,_,_,_,_,_,_,_,_,_,_,_,_,_,_,_,_,_,_,_,_,_,_,_,_,_,_,_,_,_,_,_,_,_,_,_,_,_,_,_,_,_,_,_,_,_,rfl,by omega,HG,yfn HX.out _⟩ ?_⟩;simp [intOf];omega
  ·obtain rfl:k=bs.length:=by omega
   have d0:((bs.length:Int) == (bs.length:Int))=true:=by simp
   have X:=lh hbw
   have HP2:Hid (ph=hi∧pl=lo):= by
    have h:=HP.out;rw [hS.out,hhi.out,hlo.out] at h;exact ⟨h.1.symm,h.2.symm⟩
   obtain ⟨rfl,rfl⟩:=HP2.out;clear hbw HP HP2;go_wp2
   simp only [Exit.jump]
   go_ret3
   exact ⟨rfl,X.out⟩
theorem ygt (v u:Value) (bs rs:List Int) (hi lo:Nat) (e:Int) (h:Hid (yli bs rs=(hi,lo,e))) (w:World) (hv:Sl .i64 w v bs) (hu:Sl .i64 w u rs) :
 Calls Tryz.prog 220 #[v,u] w (RetB (.tuple #[.int .u64 hi,.int .u64 lo,iV e]) w):= by
 have h:=h.out;unfold yli at h;cases ho:okE bs rs with
 | false =>
  rw [ho,if_neg (by simp)] at h;simp only [Prod.mk.injEq] at h;obtain ⟨rfl,rfl,rfl⟩:=h;exact ymt v u bs rs ho w hv hu
 | true =>
  rw [ho,if_pos rfl] at h;simp only [Prod.mk.injEq] at h;obtain ⟨h1,h2,rfl⟩:=h;exact yk1 v u bs rs ho _ hi lo rfl h1 h2 w hv hu
end
section
open Go.RowKit EvM
theorem jag {hi lo den q:Int} {b:Bool} (h:evQ hi lo den=(q,b)):0≤q:= by
 unfold evQ at h
 split at h
 ·simp only [Prod.mk.injEq] at h;omega
 ·split at h <;> simp only [Prod.mk.injEq] at h <;> omega
theorem yzn {n hi lo:Nat} {q:Int} {b:Bool} (h1:n/18446744073709551616=hi) (h2:n%18446744073709551616=lo) (h:evQ (hi:Int) (lo:Int) 1000000000=(q,b)):ofR2 n=if b=true∧q≤1000000000000000 then (q,0) else (0,5):= by
 unfold ofR2;rw [h1,h2,h]
theorem ypv (v u:Value) (bs rs:List Int) (x e:Int) (h:Hid (yft bs rs=(x,e))) (w:World) (hv:Sl .i64 w v bs) (hu:Sl .i64 w u rs) :
 Calls Tryz.prog 184 #[v,u] w (RetB (.tuple #[iV x,iV e]) w):= by
 have h:=h.out;unfold yft at h;cases ho:okE bs rs with
 | false =>
  rw [ho,if_neg (by simp)] at h;simp only [Prod.mk.injEq] at h;obtain ⟨rfl,rfl⟩:=h;have HE:Hid (yli bs rs=(0,0,1)):=by show _=_;unfold yli;rw [ho,if_neg (by simp)]
  have HV:=lh hv;have HU:=lh hu;clear hv hu ho
  go_enter Tryz.func184,Tryz.ntmps184
  go_wp2_with fail
  refine (ygt v u bs rs 0 0 1 HE _ HV.out HU.out).mono ?_;rintro _ w1 ⟨rfl,hb1⟩;go_wp2
  go_ret2
  exact ⟨rfl,hb1⟩
 | true =>
  rw [ho,if_pos rfl] at h;obtain ⟨hi,hhi⟩:∃hi,sumE bs rs bs.length/18446744073709551616=hi:=⟨_,rfl⟩;obtain ⟨lo,hlo⟩:∃lo,sumE bs rs bs.length%18446744073709551616=lo:=⟨_,rfl⟩;obtain ⟨q,b,hq⟩:∃q b,evQ (hi:Int) (lo:Int) 1000000000=(q,b):=⟨_,_,rfl⟩;rw [yzn hhi hlo hq] at h;have hq0:=jag hq;have HE:Hid (yli bs rs=(hi,lo,0)):=by show _=_;unfold yli;rw [ho,if_pos rfl,hhi,hlo]
  have HLO:Hid (lo<18446744073709551616):=by show _<_;omega
  have HQ:=lh hq;have HV:=lh hv;have HU:=lh hu;have HEV:Hid (∀w,Calls Tryz.prog 221 #[.int .u64 hi,.int .u64 lo,.int .u64 1000000000] w (RetB (.tuple #[.int .u64 q,.bool b]) w)):=fun w=>ymm hi lo 1000000000 q b HLO.out om HQ w;clear hv hu ho hhi hlo hq;cases b with
  | false =>
   rw [if_neg (by simp)] at h;simp only [Prod.mk.injEq] at h;obtain ⟨rfl,rfl⟩:=h;exact zq212229
  | true =>
   by_cases hqm:q≤1000000000000000
   ·rw [if_pos ⟨rfl,hqm⟩] at h
    simp only [Prod.mk.injEq] at h;obtain ⟨rfl,rfl⟩:=h;have d1:decide (1000000000000000<q)=false:=by simp;omega
    have w1:wrap64 q=q:=IntWalk.wrap64_in _ ⟨by omega,by omega⟩;have w2:IntKind.i64.wrap q=q:=IntWalk.i64_in _ ⟨by omega,by omega⟩;exact zq212229
   ·rw [if_neg (by intro h;exact hqm h.2)] at h
    simp only [Prod.mk.injEq] at h;obtain ⟨rfl,rfl⟩:=h;have d1:decide (1000000000000000<q)=true:=by simp;omega
    exact zq212229
end
section
open Go.RowKit EvM
def RwS (w:World) (v:Value) (rows:List (List Int)):Prop :=
 ∃ao cap,v=.slice ao rows.length cap∧rows.length≤cap∧(cap≤maxLen∧(ao=none→cap=0)) ∧
  (rows≠[]→∃b o,ao=some ⟨b,o,none⟩∧∀i,i<rows.length→∃u,w.cell? ⟨b,o+i,none⟩=some u∧Sl .i64 w u (rows.getD i []))
theorem RwS.below {w w':World} {v:Value} {rows:List (List Int)} (h:RwS w v rows) (hb:Below w.heap.size w w'):RwS w' v rows:= by
 obtain ⟨ao,cap,rfl,h1,h2,h3⟩:=h;refine ⟨ao,cap,rfl,h1,h2,fun hx=>?_⟩;obtain ⟨b,o,rfl,hc⟩:=h3 hx;refine ⟨b,o,rfl,fun i hi=>?_⟩;obtain ⟨u,h4,h5⟩:=hc i hi;exact ⟨u,(hb.cell (p:=⟨b,o+i,none⟩) (yac h4)).trans h4,h5.below hb⟩
theorem RwS.get {w:World} {ao:Option Addr} {n cap:Nat} {rows:List (List Int)} (h:RwS w (.slice ao n cap) rows) {i:Nat} (hi:i<rows.length) :
 ∃b o u,ao=some ⟨b,o,none⟩∧w.cell? ⟨b,o+i,none⟩=some u∧Hid (Sl .i64 w u (rows.getD i [])):= by
 obtain ⟨ao',cap',e,h1,h2,h3⟩:=h;cases e;obtain ⟨b,o,rfl,hc⟩:=h3 (by intro h;rw [h] at hi;simp at hi);obtain ⟨u,h4,h5⟩:=hc i hi;exact ⟨b,o,u,rfl,h4,h5⟩
theorem TrS.get18 {w:World} {ao:Option Addr} {n cap:Nat} {ts:List (Int×Bool)} (h:TrS w (.slice ao n cap) ts) {i:Nat} (hi:i<ts.length) :
 ∃b o,ao=some ⟨b,o,none⟩∧w.cell? ⟨b,o+i*2,none⟩=some (iV (ts.getD i (0,false)).1)∧w.cell? ⟨b,o+i*2+1,none⟩=some (.bool (ts.getD i (0,false)).2):= by
 obtain ⟨ao',cap',e,h1,h2,h3⟩:=h;cases e;obtain ⟨b,o,rfl,hc⟩:=h3 (by intro h;rw [h] at hi;simp at hi);exact ⟨b,o,rfl,hc i hi⟩
def yzf (xs:List Int) (e:Int) (w:World) (x:Ending) (w':World):Prop:=∃u,x=.returned (.tuple #[u,iV e])∧Sl .i64 w' u xs∧Below w.heap.size w w'
end
section
open Go.RowKit EvM
def intK (bss rss:List (List Int)) (ts:List (Int×Bool)) (g:Bool):Nat→List Int×Int
 | 0=>([],0)
 | k+1=>if (intK bss rss ts g k).2≠0 then intK bss rss ts g k else
  if (g && (ts.getD k (0,false)).2)=true then ((intK bss rss ts g k).1++[0],0) else
  if (yft (bss.getD k []) (rss.getD k [])).2≠0 then ([],(yft (bss.getD k []) (rss.getD k [])).2) else ((intK bss rss ts g k).1++[(yft (bss.getD k []) (rss.getD k [])).1],0)
def intS (rt:Bool) (ts:List (Int×Bool)) (bss rss:List (List Int)) (g:Bool):List Int×Int :=
 if rt=false then ([],6) else if ¬(bss.length=ts.length∧rss.length=ts.length) then ([],1) else intK bss rss ts g ts.length
section
variable {bss rss:List (List Int)} {ts:List (Int×Bool)} {g:Bool} {k:Nat}
theorem yrv (h:(intK bss rss ts g k).2=0):(intK bss rss ts g k).1.length=k:= by
 induction k with
 | zero=>rfl
 | succ k ih =>
  unfold intK at h ⊢
  by_cases h0:(intK bss rss ts g k).2=0
  ·have:=ih h0
   rw [if_neg (by simpa using h0)] at h ⊢
   by_cases h1:(g && (ts.getD k (0,false)).2)=true
   ·rw [if_pos h1]
    simp [this]
   ·rw [if_neg h1] at h ⊢
    by_cases h2:(yft (bss.getD k []) (rss.getD k [])).2=0
    ·rw [if_neg (by simpa using h2)]
     simp [this]
    ·rw [if_pos h2] at h
     exact absurd h h2
  ·rw [if_pos h0] at h
   exact absurd h h0
theorem ytq (h:(intK bss rss ts g k).2=0) (h1:(g && (ts.getD k (0,false)).2)=true):intK bss rss ts g (k+1)=((intK bss rss ts g k).1++[0],0):= by
 rw [intK,if_neg (by simpa using h),if_pos h1]
theorem ysq {y:Int} (h:(intK bss rss ts g k).2=0) (h1:(g && (ts.getD k (0,false)).2)=false) (h2:yft (bss.getD k []) (rss.getD k [])=(y,0)):intK bss rss ts g (k+1)=((intK bss rss ts g k).1++[y],0):= by
 rw [intK,if_neg (by simpa using h),if_neg (by rw [h1];simp),h2,if_neg (by simp)]
theorem yw3 {y e:Int} (h:(intK bss rss ts g k).2=0) (h1:(g && (ts.getD k (0,false)).2)=false) (h2:yft (bss.getD k []) (rss.getD k [])=(y,e)) (he:e≠0):intK bss rss ts g (k+1)=([],e):= by
 rw [intK,if_neg (by simpa using h),if_neg (by rw [h1];simp),h2,if_pos he]
theorem yti {m:Nat} {r:List Int×Int} (h:intK bss rss ts g k=r) (he:r.2≠0) (hm:k≤m):intK bss rss ts g m=r:= by
 induction m with
 | zero =>
  obtain rfl:k=0:=by omega
  exact h
 | succ m ih =>
  by_cases e:k=m+1
  ·subst e;exact h
  ·have:=ih om
   rw [intK,this,if_pos he]
end
def yf3 (xs:List Int) (n:Nat):List Int:=xs++List.replicate (n-xs.length) 0
theorem yvy {xs:List Int} {n:Nat} (h:xs.length≤n):(yf3 xs n).length=n:=by simp [yf3];omega
theorem ynz {xs:List Int} {n:Nat} (h:xs.length<n):(yf3 xs n).getD xs.length 0=0:= by
 unfold yf3;rw [List.getD_eq_getElem?_getD,List.getElem?_append_right om];simp [show 0<n-xs.length by omega]
theorem yn1 {xs:List Int} {n:Nat} (h:xs.length<n) (y:Int):(yf3 xs n).set xs.length y=yf3 (xs++[y]) n:= by
 unfold yf3;rw [List.set_append_right _ _ om,Nat.sub_self,show n-xs.length=(n-xs.length-1)+1 by omega,List.replicate_succ,List.set_cons_zero];simp [Nat.sub_sub]
theorem ysn {xs:List Int} {n:Nat} (h:xs.length<n):yf3 (xs++[0]) n=yf3 xs n:= by
 rw [←yn1 h 0]
 apply List.ext_getElem (by simp)
 intro j h1 h2;rw [List.getElem_set]
 split
 ·rename_i hj
  subst hj;have:=ynz h;simp only [List.getD,List.getElem?_eq_getElem h2,Option.getD_some] at this;exact this.symm
 ·rfl
theorem yuo {xs:List Int} {n:Nat} (h:xs.length=n):yf3 xs n=xs:=by simp [yf3,h]
theorem ysy (v:Value) (ts:List (Int×Bool)) (lim cyc dued minf minp start:Int) (bv rv:Value) (bss rss:List (List Int)) (g:Bool) (hrt:yaw lim ts cyc dued minf minp start=true) (hl1:bss.length=ts.length) (hl2:rss.length=ts.length) (hts:1≤ts.length∧ts.length≤1000) (w:World) (hv:TrS w v ts) (hb:RwS w bv bss) (hr:RwS w rv rss) :
 Calls Tryz.prog 140 #[.agg #[iV lim,v,iV cyc,iV dued,iV minf,iV minp,iV start],bv,rv,.bool g] w (yzf (intK bss rss ts g ts.length).1 (intK bss rss ts g ts.length).2 w):= by
 have HV:=lh hv;have HB:=lh hb;have HR:=lh hr;obtain ⟨ao,cap,rfl,h1,⟨h2,hnn⟩,h3⟩:=hv;clear h3 hnn;obtain ⟨b0,bc,rfl,g1,⟨g2,hnn⟩,h3⟩:=hb;clear h3 hnn;obtain ⟨r0,rc,rfl,i1,⟨i2,hnn⟩,h3⟩:=hr;clear h3 hnn;unfold maxLen at h2 g2 i2;have HRT:Hid ((if yaw lim ts cyc dued minf minp start=true then 0 else 6)=(0:Int)):=by show _=_;rw [hrt];rfl
 have d1:((bss.length:Int) != (ts.length:Int))=false:=by simp;omega
 have d2:((rss.length:Int) != (ts.length:Int))=false:=by simp;omega
 have HL:=lh (And.intro hl1 (And.intro hl2 hts));have S0:Hid (Blk (w.alloc (.cells #[iV lim,.slice ao ts.length cap,iV cyc,iV dued,iV minf,iV minp,iV start] 24)) w.heap.size 24 [iV lim,.slice ao ts.length cap,iV cyc,iV dued,iV minf,iV minp,iV start]):=heap_alloc_new w _;have SB:Hid (Below w.heap.size w (w.alloc (.cells #[iV lim,.slice ao ts.length cap,iV cyc,iV dued,iV minf,iV minp,iV start] 24))):=yaa bR _;obtain ⟨i0,hi,hz0,hz1,hz2⟩:=info_parts yfa;clear hrt hl1 hl2 hts
 go_enter Tryz.func140,Tryz.ntmps140
 go_wp2_with fail
 refine (yar _ ts lim cyc dued minf minp start _ HRT _ (HV.out.below SB.out)).mono ?_;rintro _ w1 ⟨rfl,hb1⟩;have R0:=lh (S0.out.below hb1);have RB:=lh (yad SB.out hb1);have t1:=R0.out.cell 1;simp only [gz,gs] at t1;clear hb1 S0 SB HRT;go_upto_region 7 with (at_make;refine wpList_make_full _ rfl _ _ 33 rfl w1.heap.size 2 i0 (iZ) 1 Tryz.underlying33 hi hz0 hz1 _ _ _ _ ts.length rfl rfl rfl rfl (by rw [hz2];have:=HL.out;omega) (by unfold maxLen;have:=HL.out;omega) (Nat.le_refl _) ?_;intro w2 hown2 hgrow2)
 obtain ⟨cur0,hG0,_,_,hcl0,hct0,_⟩:=ya8 hown2
 have hc0:cur0=List.replicate ts.length (iZ):= by
  rw [←List.take_of_length_le (show cur0.length≤ts.length*1 by omega),hct0,Nat.mul_one];exact toList_madeCells_one _ _
 have hb12:Below w1.heap.size w1 w2:=yfw hgrow2;have HG:Hid (Nums w2 w1.heap.size ts.length (List.replicate ts.length 0)):=⟨cur0,hG0,by rw [hc0];simp,by rw [hc0];simp⟩;have HZL:Hid ((List.replicate ts.length (0:Int)).length=ts.length):=by show _=_;simp
 have HB2:=lh (yad RB.out hb12);have X0:=lh (R0.out.below hb12);have hzb:=RB.out.size;obtain ⟨G,hG⟩:∃G,w1.heap.size=G:=⟨_,rfl⟩;rw [hG] at HG hzb ⊢;clear hc0 hct0 hcl0 hG0 hown2 hgrow2 hb12 cur0 t1 R0 RB hi hz0 hz1 hz2 hG d1 d2;have t1:=X0.out.cell 1;simp only [gz,gs] at t1
 go_wp2_with fail
 clear t1;go_loopg [42] ts.length (fun gg i wr=>∃k:Nat,k+gg=ts.length∧i=iV k∧Hid (Nums wr G ts.length (yf3 (intK bss rss ts g k).1 ts.length))∧Hid ((intK bss rss ts g k).2=0)∧Below w.heap.size w wr)
 case atStart=>exact ⟨0,by omega,rfl,HG.out,rfl,HB2.out⟩
 case round =>
  obtain ⟨k,hkg,rfl,HI,HK0,hbw⟩:=hrel;cases gk with
  | succ gg =>
   have hlt:(k:Int)<(ts.length:Int):=by omega
   have hkn:k<ts.length:=by omega
   have HBW:=lh hbw;obtain ⟨b,o,e0,hc1,hc2⟩:=(HV.out.below hbw).get18 hkn;subst e0;obtain ⟨x1,x2,hx12⟩:∃x1 x2,ts.getD k (0,false)=(x1,x2):=⟨_,_,rfl⟩;rw [hx12] at hc1 hc2;simp only at hc1 hc2;have HM:=lh hx12;have hlk:=yrv HK0.out;have HLK:=lh hlk;clear hx12 hlk hbw;cases hgr:(g && x2) with
   | true =>
    have hg1:g=true∧x2=true:=by simpa using hgr
    obtain ⟨rfl,rfl⟩:=hg1;have HN:=lh (ytq HK0.out (show (true && (ts.getD k (0,false)).2)=true by rw [HM.out];rfl));clear hgr
    go_wp2_with fail
    go_roundg gg
    case measure=>omega
    case rel =>
     refine ⟨k+1,by omega,by go_num,?_,?_,by exact bL⟩
     ·have hn:=(HI.out.below (yaa bR (.cells #[iV x1,.bool true] 81)))
      show Nums _ _ _ _;rw [HN.out];simp only;rw [ysn (by rw [HLK.out];exact hkn)];exact hn
     ·show _=_
      rw [HN.out]
   | false =>
    obtain ⟨bb,ob,ub,e1,hcb,HSb⟩:=(HB.out.below HBW.out).get (i:=k) (by have:=HL.out;omega);obtain ⟨br,or,ur,e2,hcr,HSr⟩:=(HR.out.below HBW.out).get (i:=k) (by have:=HL.out;omega);subst e1 e2;obtain ⟨aub,qub,rfl⟩:=HSb.out.shape;obtain ⟨aur,qur,rfl⟩:=HSr.out.shape;have hkb:(k:Int)<(bss.length:Int):=by have:=HL.out;omega
    have hkr:(k:Int)<(rss.length:Int):=by have:=HL.out;omega
    obtain ⟨y,e,hint⟩:∃y e,yft (bss.getD k []) (rss.getD k [])=(y,e):=⟨_,_,rfl⟩;have HINT:=lh hint;have HGF:Hid ((g && (ts.getD k (0,false)).2)=false):=by show _=_;rw [HM.out];exact hgr
    have hor:g=false∨(g=true∧x2=false):=by cases g <;> simp_all
    have HZL:Hid (k<(yf3 (intK bss rss ts g k).1 ts.length).length):=by show _<_;rw [yvy (by rw [HLK.out];omega)];exact hkn
    have HZ5:Hid ((yf3 (intK bss rss ts g k).1 ts.length).getD k 0=0):= by
     have:=ynz (xs:=(intK bss rss ts g k).1) (n:=ts.length) (by rw [HLK.out];exact hkn)
     rwa [HLK.out] at this
    have HZS:Hid (∀y,(yf3 (intK bss rss ts g k).1 ts.length).set k y=yf3 ((intK bss rss ts g k).1++[y]) ts.length):=fun y=>by
     have e9:=yn1 (xs:=(intK bss rss ts g k).1) (n:=ts.length) (by rw [HLK.out];exact hkn) y
     rwa [HLK.out] at e9
    clear hint hgr
    have HW:∃W,wr.alloc (.cells #[iV x1,.bool x2] 81)=W∧Hid (W.cell? ⟨bb,ob+k,none⟩=some (.slice aub (bss.getD k []).length qub)∧W.cell? ⟨br,or+k,none⟩=some (.slice aur (rss.getD k []).length qur))∧Hid (Nums W G ts.length (yf3 (intK bss rss ts g k).1 ts.length))∧Hid (Below w.heap.size w W)∧Hid (Sl .i64 W (.slice aub (bss.getD k []).length qub) (bss.getD k []))∧Hid (Sl .i64 W (.slice aur (rss.getD k []).length qur) (rss.getD k [])) :=
     ⟨_,rfl,⟨((yaa (Below.refl wr.heap.size wr) _).cell (p:=⟨bb,ob+k,none⟩) (yac hcb)).trans hcb,((yaa (Below.refl wr.heap.size wr) _).cell (p:=⟨br,or+k,none⟩) (yac hcr)).trans hcr⟩,HI.out.below (yaa bR _),yaa HBW.out _,HSb.out.below (yaa bR _),HSr.out.below (yaa bR _)⟩
    have HWH:=lh HW;clear HW;rcases hor with rfl | ⟨rfl,rfl⟩
    all_goals
     go_upto_region 11 with fail
     obtain ⟨W,hW,SC,SN,SBB,SS1,SS2⟩:=HWH.out
     with_reducible rw [hW]
     clear hW HWH hcb hcr hc1 hc2;have hs0:=SC.out;have hsd:W.drew.cell? ⟨bb,ob+k,none⟩=some (.slice aub (bss.getD k []).length qub)∧W.drew.cell? ⟨br,or+k,none⟩=some (.slice aur (rss.getD k []).length qur):=SC.out
     go_region_held3 (fun W'=>W'.cell? ⟨bb,ob+k,none⟩=some (.slice aub (bss.getD k []).length qub)∧W'.cell? ⟨br,or+k,none⟩=some (.slice aur (rss.getD k []).length qur)) (first | with_reducible assumption | with_reducible exact hs0 | with_reducible exact hsd | with_reducible exact hs5) (first | (go_at_call 184;refine (ypv _ _ (bss.getD k []) (rss.getD k []) y e HINT _ (SS1.out.below (by first | exact bR | exact yaf bR)) (SS2.out.below (by first | exact bR | exact yaf bR))).mono ?_;rintro _ w5 ⟨rfl,hb5⟩;have HB5:Hid (Below W.heap.size W w5):=(by first | exact hb5 | exact yad (yaf bR) hb5);have hs5:w5.cell? ⟨bb,ob+k,none⟩=some (.slice aub (bss.getD k []).length qub)∧w5.cell? ⟨br,or+k,none⟩=some (.slice aur (rss.getD k []).length qur):=⟨(HB5.out.cell (p:=⟨bb,ob+k,none⟩) (yac SC.out.1)).trans SC.out.1,(HB5.out.cell (p:=⟨br,or+k,none⟩) (yac SC.out.2)).trans SC.out.2⟩;clear hb5))
     have hn5:=SN.out.below HB5.out;have c5:=hn5.cell (i:=k) HZL.out;rw [HZ5.out] at c5;have f5:=hn5.frozen k;have HN5:=lh hn5;clear hn5 hs0 hsd hs5
     by_cases he:e=0
     ·subst he
      have HNX:=lh (ysq HK0.out HGF.out HINT.out)
      go_wp2_with fail
      go_roundg gg
      case measure=>omega
      case rel =>
       refine ⟨k+1,by omega,by go_num,?_,?_,(yad SBB.out HB5.out).setCell (show w.heap.size≤G by omega) _⟩
       ·show Nums _ _ _ _
        rw [HNX.out];simp only;rw [←HZS.out y];exact HN5.out.set k y
       ·show _=_
        rw [HNX.out]
     ·have HNX:=lh (yti (yw3 HK0.out HGF.out HINT.out he) he (show k+1≤ts.length from hkn))
      have heb:(e != 0)=true:=by simpa using he
      have HBE:=lh (yad SBB.out HB5.out);clear he c5 f5
      go_wp2_with fail
      go_ret2
      rw [HNX.out];exact ⟨_,rfl,Sl.nil,HBE.out⟩
  | zero =>
   have hlt:¬((k:Int)<(ts.length:Int)):=by omega
   obtain rfl:k=ts.length:=by omega
   have hn:=HI.out;have hlk:=yrv HK0.out;rw [yuo hlk] at hn;have HS:=lh (hn.sl hlk (Nat.le_refl _) (by unfold maxLen;have:=HL.out;omega));clear hn hlk
   go_wp2_with fail
   go_ret2
   rw [HK0.out];exact ⟨_,rfl,HS.out,hbw⟩
theorem ylk (v:Value) (ts:List (Int×Bool)) (lim cyc dued minf minp start:Int) (bv rv:Value) (bss rss:List (List Int)) (g:Bool) (rt:Bool) (hrt:Hid (yaw lim ts cyc dued minf minp start=rt)) (hno:Hid (rt=true→¬(bss.length=ts.length∧rss.length=ts.length))) (w:World) (hv:TrS w v ts) (hb:RwS w bv bss) (hr:RwS w rv rss) :
 Calls Tryz.prog 140 #[.agg #[iV lim,v,iV cyc,iV dued,iV minf,iV minp,iV start],bv,rv,.bool g] w (yzf [] (if rt=true then 1 else 6) w):= by
 have HV:=lh hv;obtain ⟨ao,cap,rfl,h1,⟨h2,hnn⟩,h3⟩:=hv;clear h3 hnn;obtain ⟨b0,bc,rfl,g1,⟨g2,hnn⟩,h3⟩:=hb;clear h3 hnn;obtain ⟨r0,rc,rfl,i1,⟨i2,hnn⟩,h3⟩:=hr;clear h3 hnn;unfold maxLen at h2 g2 i2;have S0:Hid (Blk (w.alloc (.cells #[iV lim,.slice ao ts.length cap,iV cyc,iV dued,iV minf,iV minp,iV start] 24)) w.heap.size 24 [iV lim,.slice ao ts.length cap,iV cyc,iV dued,iV minf,iV minp,iV start]):=heap_alloc_new w _;have SB:Hid (Below w.heap.size w (w.alloc (.cells #[iV lim,.slice ao ts.length cap,iV cyc,iV dued,iV minf,iV minp,iV start] 24))):=yaa bR _;cases rt with
 | false =>
  have HRT:Hid ((if yaw lim ts cyc dued minf minp start=true then 0 else 6)=(6:Int)):=by show _=_;rw [hrt.out];rfl
  go_enter Tryz.func140,Tryz.ntmps140
  go_wp2_with fail
  refine (yar _ ts lim cyc dued minf minp start _ HRT _ (HV.out.below SB.out)).mono ?_;rintro _ w1 ⟨rfl,hb1⟩;have RB:=lh (yad SB.out hb1);clear hb1 S0
  go_wp2_with fail
  go_ret2
  exact ⟨_,rfl,Sl.nil,RB.out⟩
 | true =>
  have HRT:Hid ((if yaw lim ts cyc dued minf minp start=true then 0 else 6)=(0:Int)):=by show _=_;rw [hrt.out];rfl
  have hno2:=hno.out rfl
  by_cases e1:bss.length=ts.length
  ·have d1:((bss.length:Int) != (ts.length:Int))=false:=by simp;omega
   have d2:((rss.length:Int) != (ts.length:Int))=true:=by simp;omega
   exact zq217544
  ·have d1:((bss.length:Int) != (ts.length:Int))=true:=by simp;omega
   exact zq217544
theorem yci {lim:Int} {ts:List (Int×Bool)} {cyc dued minf minp start:Int} (h:yaw lim ts cyc dued minf minp start=true):1≤ts.length∧ts.length≤8:= by
 unfold yaw at h;simp only [Bool.and_eq_true] at h;have:=ydr.1 h.1.1.1.1.1.2;omega
theorem yqm (v:Value) (ts:List (Int×Bool)) (lim cyc dued minf minp start:Int) (bv rv:Value) (bss rss:List (List Int)) (g:Bool) (r:List Int×Int) (hr0:Hid (intS (yaw lim ts cyc dued minf minp start) ts bss rss g=r)) (w:World) (hv:TrS w v ts) (hb:RwS w bv bss) (hr:RwS w rv rss) :
 Calls Tryz.prog 140 #[.agg #[iV lim,v,iV cyc,iV dued,iV minf,iV minp,iV start],bv,rv,.bool g] w (yzf r.1 r.2 w):= by
 have h:=hr0.out;subst h;unfold intS;cases hrt:yaw lim ts cyc dued minf minp start with
 | false =>
  rw [if_pos rfl];exact ylk v ts lim cyc dued minf minp start bv rv bss rss g false hrt (fun h=>by cases h) w hv hb hr
 | true =>
  rw [if_neg (by simp)]
  by_cases hl:bss.length=ts.length∧rss.length=ts.length
  ·rw [if_neg (by simpa using hl)]
   exact ysy v ts lim cyc dued minf minp start bv rv bss rss g hrt hl.1 hl.2 (by have:=yci hrt;omega) w hv hb hr
  ·rw [if_pos hl]
   exact ylk v ts lim cyc dued minf minp start bv rv bss rss g true hrt (fun _=>hl) w hv hb hr
end
end Go.Proofs.YtkongpjpkpfniaaGreat

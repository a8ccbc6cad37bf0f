/- TopTicks: parts of the proof, made small by a program (mini.py). -/
import Derived.Lib.SliceRun
import Derived.BigQuiet
import Derived.BigRegion
import Derived.Deep.DeepCutAuto
import Derived.Deep.QuietTactic
import Derived.Deep.RegionHeld3
import Derived.Deep.RegionLaw
import Derived.ChangeArms
import Derived.Deep.Fields
import Derived.Deep.Slices
import Derived.Lib.SmallJoins
import Derived.OpenShut
import Derived.WideShapes
import Derived.Test.YtkongpjpkpfniaaGreatT01
import Derived.Test.YtkongpjpkpfniaaGreatT02
import Derived.Test.YtkongpjpkpfniaaGreatT04
import Derived.Test.YtkongpjpkpfniaaGreatT05
import Derived.Test.YtkongpjpkpfniaaGreatT06
import Derived.Test.YtkongpjpkpfniaaGreatT07
set_option linter.unusedVariables false
set_option linter.unusedSimpArgs false
set_option maxRecDepth 100000
set_option maxHeartbeats 6400000
namespace Go.Proofs.YtkongpjpkpfniaaGreat
open Go.RowKit
theorem zq088560 {q:Prop} (h:q:= by
 have hbx4:Below (w.heap.size+1) (w.alloc (.cells #[iV lim,sL b o ts.length cap,iV cyc,iV dued,iV minf,iV minp,iV start] 24)) w4:=(hbx3.alloc om _).grown hg4 (by simp;omega) (fun q hq=>(hown3.lt q hq).1)
 have HT4:Hid (w4.ownsRow (w.heap.size+1) 5 1 v1 (yde lim ts cyc dued minf minp start (k+1)).length ((yde lim ts cyc dued minf minp start (k+1)).map (Value.int .u8))):= by
  rw [HLS.out,HS.out];have e:56+9*(k+1)=56+9*k+8+1:=by omega
  rw [e]
  simpa [Hid] using hown4
 clear hown3 hown4 hg4 hbk4 hbx3
 go_wp2_with fail
 go_roundg g
 case measure=>omega
 case rel=>exact ⟨k+1,by omega,by go_num,HT4.out,hbx4⟩):q:=h
def be9 (x:Int×Bool):List Int:=be8 x.1++[if x.2 then 1 else 0]
def yss (lim:Int) (ts:List (Int×Bool)) (cyc dued minf minp start:Int):List Int:=[lim,cyc,dued,minf,minp,start,ts.length].flatMap be8++ts.flatMap be9
def yqv (lim:Int) (ts:List (Int×Bool)) (cyc dued minf minp start:Int):List Int×Int:=if yaw lim ts cyc dued minf minp start=true then (yss lim ts cyc dued minf minp start,0) else ([],6)
def yde (lim:Int) (ts:List (Int×Bool)) (cyc dued minf minp start:Int) (k:Nat):List Int:=[lim,cyc,dued,minf,minp,start,ts.length].flatMap be8++(ts.take k).flatMap be9
def yz0 (k:IntKind) (r:List Int×Int) (w:World) (e:Ending) (w':World):Prop:=∃u,e=.returned (.tuple #[u,iV r.2])/\Sl k w' u r.1/\(∀b o n c,u=sL b o n c->0<n->w.heap.size<=b)/\BW w w'
theorem yst (x:Int×Bool):(be9 x).length=9:=rfl
theorem yoy (l:List (Int×Bool)):(l.flatMap be9).length=9*l.length:= by
 induction l with
 | nil=>rfl
 | cons x l ih=>rw [List.flatMap_cons,List.length_append,ih,yst,List.length_cons];omega
theorem ynw (l:List Int):(l.flatMap be8).length=8*l.length:= by
 induction l with
 | nil=>rfl
 | cons x l ih=>rw [List.flatMap_cons,List.length_append,ih,yie,List.length_cons];omega
theorem yff (lim:Int) (ts:List (Int×Bool)) (cyc dued minf minp start:Int) {k:Nat} (h:k<=ts.length):(yde lim ts cyc dued minf minp start k).length=56+9*k:= by
 rw [yde,List.length_append,yoy,ynw,List.length_take];simp only [List.length_cons,List.length_nil];omega
theorem ypk (lim:Int) (ts:List (Int×Bool)) (cyc dued minf minp start:Int) {k:Nat} (h:k<ts.length) {x:Int} {g:Bool} (he:ts.getD k (0,false)=(x,g)) :
 yde lim ts cyc dued minf minp start (k+1)=yde lim ts cyc dued minf minp start k++be8 x++[if g then 1 else 0]:= by
 unfold yde;rw [List.take_succ_eq_append_getElem h,List.flatMap_append];have:ts[k]=(x,g):=by rw [<-he];simp [List.getD,h]
 rw [this];simp [be9]
theorem yyu (k:IntKind) (w:World):Sl k w (sZ) []:=⟨none,0,rfl,Nat.le_refl _,⟨by simp [maxLen],fun _=>rfl⟩,fun h=>absurd rfl h⟩
theorem Sl.kept {k:IntKind} {w w':World} {g o n cap:Nat} {r:Option Nat} {xs:List Int} (h:Sl k w (sL g o n cap) xs) (hg:w.grownBy w' r) (hne:some g≠r):Sl k w' (sL g o n cap) xs:= by
 obtain ⟨ao,cap',e,h1,h2,h3⟩:=h;cases e;refine ⟨_,_,rfl,h1,h2,fun hx=>?_⟩;obtain ⟨b,o',e,hc⟩:=h3 hx;cases e;exact ⟨g,o,rfl,fun i hi=>hg.cell (hc i hi) hne⟩
theorem yk0 (v:Value) (ts:List (Int×Bool)) (lim cyc dued minf minp start:Int) (w:World) (hv:TrS w v ts) :
 Calls Tryz.prog 55 #[.agg #[iV lim,v,iV cyc,iV dued,iV minf,iV minp,iV start]] w (yz0 .u8 (yqv lim ts cyc dued minf minp start) w):= by
 have HV:=lh hv;obtain ⟨ao,cap,rfl,h1,⟨h2,_⟩,h3⟩:=hv;clear h3;unfold maxLen at h2;obtain ⟨i0,hi,hz0,hz1,hz2⟩:=info_parts yrj;have hT:=TB.new w 24 lim (.slice ao ts.length cap) cyc dued minf minp start;have hb0:BW w (w.alloc (.cells #[iV lim,.slice ao ts.length cap,iV cyc,iV dued,iV minf,iV minp,iV start] 24)):=bR.alloc (Nat.le_refl _) _;cases hr:yaw lim ts cyc dued minf minp start with
 | false =>
  have hR:yqv lim ts cyc dued minf minp start=([],6):=by simp [yqv,hr]
  rw [hR];clear hR;have H6:=lh (show (if yaw lim ts cyc dued minf minp start=true then (0:Int) else 6)=6 from by rw [hr];rfl);clear hr
  go_enter Tryz.func55,Tryz.ntmps55
  go_wp2_with fail
  refine (yar _ ts lim cyc dued minf minp start 6 H6 _ (HV.out.below hb0)).mono ?_;rintro e w1 ⟨rfl,hb1⟩
  go_wp2_with fail
  go_ret2
  exact ⟨_,rfl,yyu _ _,(fun b o n c e _=>by cases e),yad hb0 hb1⟩
 | true =>
  have hR:yqv lim ts cyc dued minf minp start=(yss lim ts cyc dued minf minp start,0):=by simp [yqv,hr]
  rw [hR];clear hR
  have hts:ts.length<=8:= by
   simp only [yaw,betw,Bool.and_eq_true,decide_eq_true_eq] at hr;omega
  have H0:=lh (show (if yaw lim ts cyc dued minf minp start=true then (0:Int) else 6)=0 from by rw [hr];rfl);clear hr
  go_enter Tryz.func55,Tryz.ntmps55
  go_wp2_with fail
  refine (yar _ ts lim cyc dued minf minp start 0 H0 _ (HV.out.below hb0)).mono ?_;rintro e w1 ⟨rfl,hb1⟩;have hT1:=hT.below hb1;have hbw1:BW w w1:=yad hb0 hb1;obtain ⟨t0,t1,t2,t3,t4,t5,t6⟩:=hT1;have hs1:=hbw1.size;have HT:=lh hT;clear hT;have hbx1:Below (w.heap.size+1) (w.alloc (.cells #[iV lim,.slice ao ts.length cap,iV cyc,iV dued,iV minf,iV minp,iV start] 24)) w1:=hb1.mono (by rw [World.size_alloc];exact Nat.le_refl _);have hbs1:w.heap.size+1<=w1.heap.size:=by have:=hbx1.size;rw [World.size_alloc] at this;exact this
  go_wp2_with fail
  refine (yqb _ _ [] [lim,cyc,dued,minf,minp,start,ts.length] (w.heap.size+1) _ (World.ownsRow_nil _ _ _ _) (fun W hW=>(Sl.litAt _ _ _ 7 w1.heap.size rfl _ rfl (by decide) rfl).kept hW (by simp [Value.ownBlock])) (by simp;omega) (by simp)).mono ?_;rintro e w2 ⟨u2,rfl,hown2,hg2,hwh2⟩;have hbx2:Below (w.heap.size+1) (w.alloc (.cells #[iV lim,.slice ao ts.length cap,iV cyc,iV dued,iV minf,iV minp,iV start] 24)) w2:=(hbx1.alloc hbs1 _).grown hg2 (by simp;omega) (fun k hk=>by cases hk)
  have HO2:Hid (w2.ownsRow (w.heap.size+1) 5 1 u2 (yde lim ts cyc dued minf minp start 0).length ((yde lim ts cyc dued minf minp start 0).map (Value.int .u8))):= by
   simpa [yde,ye4,Hid] using hown2
  obtain ⟨t0,t1,t2,t3,t4,t5,t6⟩:=HT.out.below (hbx2.mono (by rw [World.size_alloc];exact Nat.le_refl _));clear hown2 hg2 hwh2 hb1 hbw1 hbx1
  go_wp2_with fail
  go_loopg [5,33] ts.length (fun g c i wr=>∃k:Nat,k+g=ts.length/\i=iV k/\wr.ownsRow (w.heap.size+1) 5 1 c (yde lim ts cyc dued minf minp start k).length ((yde lim ts cyc dued minf minp start k).map (Value.int .u8))/\Below (w.heap.size+1) (w.alloc (.cells #[iV lim,.slice ao ts.length cap,iV cyc,iV dued,iV minf,iV minp,iV start] 24)) wr)
  case atStart=>exact ⟨0,by omega,rfl,HO2.out,hbx2⟩
  case round =>
   obtain ⟨k,hkg,rfl,hown,hbx⟩:=hrel;have hb:BW w wr:=hb0.trans (hbx.mono om);have hbs:w.heap.size+1<=wr.heap.size:=by have:=hbx.size;rw [World.size_alloc] at this;exact this
   cases gk with
   | zero =>
    have hlt:¬((k:Int)<(ts.length:Int)):=by omega
    obtain rfl:k=ts.length:=by omega
    have HO:=lh hown;clear hown;go_wp2
    go_ret2
    refine ⟨_,rfl,?_,fun b o n c e _=>?_,hb⟩
    rotate_left
    ·have h1:=(HO.out.lt b ((congrArg Value.ownBlock e).trans rfl)).1
     omega
    have:=Sl.of_own HO.out rfl
    simpa [yde,yss] using this
   | succ g =>
    have hlt:((k:Int)<(ts.length:Int)):=by omega
    obtain ⟨b,o,x,gr,rfl,hc1,hc2,HX⟩:=(HV.out.below hb).get (i:=k) om;have HLen:=lh (yff lim ts cyc dued minf minp start (k:=k) om)
    go_wp2_with fail
    refine (yqb _ _ (yde lim ts cyc dued minf minp start k) [x] (w.heap.size+1) _ ((hown.alloc _).alloc _) (fun W hW=>(Sl.litAt _ _ [x] 1 (wr.heap.size+1) rfl _ rfl (by decide) (by simp)).kept hW (by intro e;have:=hown.lt _ e.symm;omega)) (by simp;omega) (by rw [HLen.out];simp;omega)).mono ?_;rintro e w3 ⟨u3,rfl,hown3,hg3,hwh3⟩
    have hcg:w3.cell? (Ad wr.heap.size 1)=some (.bool gr):= by
     have hB:Blk (wr.alloc (.cells #[iV x,.bool gr] 81)) wr.heap.size 81 [iV x,.bool gr]:=heap_alloc_new wr _;exact hg3.cell ((hB.below (bR.alloc (Nat.le_refl _) _)).cell 1) (fun e=>Nat.lt_irrefl _ (hown.lt _ e.symm).2)
    have hbx3:Below (w.heap.size+1) (w.alloc (.cells #[iV lim,sL b o ts.length cap,iV cyc,iV dued,iV minf,iV minp,iV start] 24)) w3:=((hbx.alloc hbs _).alloc (by simp;omega) _).grown hg3 (by simp;omega) (fun q hq=>(hown.lt q hq).1);have hs3:=hg3.size;simp only [World.size_alloc] at hs3;have e3:(ye4 (yde lim ts cyc dued minf minp start k) [x] 1)=yde lim ts cyc dued minf minp start k++be8 x:=by simp [ye4]
    have hl3:(yde lim ts cyc dued minf minp start k++be8 x).length=56+9*k+8:=by rw [List.length_append,HLen.out,yie]
    simp only [List.length_cons,List.length_nil,Nat.zero_add] at hown3;rw [e3,hl3] at hown3;have HS:=lh (ypk lim ts cyc dued minf minp start (k:=k) om HX.out);have HLS:=lh (yff lim ts cyc dued minf minp start (k:=k+1) om);clear e3 hl3 hown hg3 hwh3 hc1 hc2 hbx;have hk8:k<=8:=by omega
    cases gr with
    | true =>
     go_wp2_with (at_builtin;refine yas _ rfl (.tmp 44) (.tmp 45) 135 rfl (w.heap.size+1) 5 i0 (.int .u8 0) 1 1 Tryz.underlying135 hi hz0 hz1 hz2 rfl (by decide) _ _ _ rfl (hown3.alloc _) (Ad w3.heap.size 0) 1 1 [_] rfl rfl (cell_one_new _ _ _) (fun x hx=>by simp at hx;subst hx;rfl) (by unfold maxLen;omega) om (by simp;omega) ?_;intro v1 w4 hown4 hg4 hbk4)
     exact zq088560
    | false =>
     go_wp2_with (at_builtin;refine yas _ rfl (.tmp 47) (.tmp 48) 135 rfl (w.heap.size+1) 5 i0 (.int .u8 0) 1 1 Tryz.underlying135 hi hz0 hz1 hz2 rfl (by decide) _ _ _ rfl (hown3.alloc _) (Ad w3.heap.size 0) 1 1 [_] rfl rfl (cell_one_new _ _ _) (fun x hx=>by simp at hx;subst hx;rfl) (by unfold maxLen;omega) om (by simp;omega) ?_;intro v1 w4 hown4 hg4 hbk4)
     exact zq088560
theorem yqe:(Tryz.prog.info? 5).map (fun i=>(i.zero,i.size,i.bytes))=some (some (.int .u8 0),1,1):=by kernel_rfl
def yzz (xs:List Int) (w:World) (e:Ending) (w':World):Prop :=
 ∃u,e=.returned u/\w'.ownsRow w.heap.size 5 1 u xs.length (xs.map (Value.int .u8))/\BW w w'
theorem ysh (v:Value) (xs:List Int) (w:World) (hv:Sl .u8 w v xs) (hn:xs.length<=20000) :
 Calls Tryz.prog 101 #[v] w (yzz xs w):= by
 have HV:=lh hv;obtain ⟨ao,cap,rfl,h1,⟨h2,_⟩,h3⟩:=hv;clear h3;unfold maxLen at h2;have qT:∀(w:World) (a:Option Addr) (n c n' c':Nat),(binOp .eql 135 (.slice a n c) (.slice none n' c')).run Tryz.prog w=.ok (.bool a.isNone) w:=fun w a n c n' c'=>Lib.run_eql_slice_nil w _ _ a n c n' c' Tryz.underlying135;obtain ⟨i0,hi,hz0,hz1,hz2⟩:=info_parts yqe;cases ao with
 | none =>
  obtain rfl:=HV.out.none_len rfl;obtain ⟨_,rfl⟩:=HV.out.none_cap rfl
  go_enter Tryz.func101,Tryz.ntmps101
  go_wp2
  go_ret
  exact ⟨_,rfl,World.ownsRow_nil _ _ _ _,bR⟩
 | some a =>
  have hA:=HV.out.news;have HA:=lh hA;clear hA
  go_enter Tryz.func101,Tryz.ntmps101
  go_wp2_with (at_builtin;refine ya9 _ rfl (.tmp 5) (.tmp 6) 135 rfl w.heap.size 5 i0 (.int .u8 0) 1 1 Tryz.underlying135 hi hz0 hz1 hz2 rfl (by decide) _ 0 [] rfl (yf8 w _) (some a) xs.length cap (xs.map (Value.int .u8)) rfl (by simp) (fun h=>by cases h) (HV.out.alloc _).news (ints_oneCell _ _) (by unfold maxLen;omega) om (by rw [World.size_alloc];omega) ?_;intro v' w1 hown1 hg1 hn1;clear hn1)
  go_ret
  refine ⟨_,rfl,by simpa using hown1,?_⟩;exact (bR.alloc (Nat.le_refl _) _).grown hg1 (by rw [World.size_alloc];omega) (by intro k hk;cases hk;exact Nat.le_refl _)
structure Ord (ks:List Int) (n:Nat):Prop where
 len:ks.length=n
 rng:∀i,i<n->1<=ks.getD i 0/\ks.getD i 0<=n
 ne:∀i j,i<j->j<n->ks.getD i 0≠ks.getD j 0
 all:∀j,j<n->∃i,i<n/\ks.getD i 0=(j:Int)+1
section
variable {bal ks:List Int} {n:Nat} (ho:Ord ks n) (hl:bal.length=n) {a:Int}
end
def sumK (bs:List Int):Nat->Int
 | 0=>0
 | k+1=>sumK bs k+bs.getD k 0
theorem yvb {bs:List Int} (n:Nat) (hn:n<=bs.length) (h:∀j,j<bs.length->may0 (bs.getD j 0)=true) (hs:may0 (sumK bs bs.length)=true):0<=sumK bs n/\sumK bs n<=sumK bs bs.length/\yc0 (sumK bs n) (bs.drop n)=some (sumK bs bs.length):= by
 have mono:∀d m,m+d=bs.length->sumK bs m<=sumK bs bs.length:= by
  intro d
  induction d with
  | zero =>
   intro m hm;have:m=bs.length:=by omega
   rw [this];exact Int.le_refl _
  | succ d ih =>
   intro m hm;have h1:=ih (m+1) om;have h2:=ybv.1 (h m om);simp only [sumK] at h1;omega
 have nn:∀m,m<=bs.length->0<=sumK bs m:= by
  intro m
  induction m with
  | zero=>intro _;exact Int.le_refl _
  | succ m ih =>
   intro hm;have h1:=ih om;have h2:=ybv.1 (h m om);simp only [sumK];omega
 refine ⟨nn n hn,mono (bs.length-n) n om,?_⟩
 have key:∀d m,m+d=bs.length->yc0 (sumK bs m) (bs.drop m)=some (sumK bs bs.length):= by
  intro d
  induction d with
  | zero =>
   intro m hm;have:m=bs.length:=by omega
   rw [this,List.drop_of_length_le (Nat.le_refl _)]
   rfl
  | succ d ih =>
   intro m hm;have hS:=ybv.1 hs;have h1:=nn (m+1) om;have h2:=mono d (m+1) om;rw [yln om,if_pos ⟨h m om,ybv.2 ⟨by simpa [sumK] using h1,by have h2':sumK bs m+bs.getD m 0<=sumK bs bs.length:=h2;omega⟩⟩];exact ih (m+1) om
 exact key (bs.length-n) n om
def yhi (bs:List Int) (c d:Int):Bool:=(decide (1<=bs.length) && decide (bs.length<=8) && may0 c && may0 d) && (List.range bs.length).all (fun j=>may0 (bs.getD j 0)) && (may0 (sumK bs bs.length) && (c == 0 || sumK bs bs.length == 0))
theorem ynv (bs:List Int) (c d:Int):yhi bs c d=yat bs c d:= by
 unfold yhi;cases ha:(List.range bs.length).all (fun j=>may0 (bs.getD j 0)) with
 | false =>
  have hs:yc0 0 bs=none:= by
   cases hs:yc0 0 bs with
   | none=>rfl
   | some s =>
    have:(List.range bs.length).all (fun j=>may0 (bs.getD j 0))=true:= by
     rw [List.all_eq_true];intro j hj;exact ybv.2 (ykd hs j (by simpa using hj))
    rw [this] at ha;cases ha
  unfold yat;rw [hs];simp
 | true =>
  rw [List.all_eq_true] at ha;have h:∀j,j<bs.length->may0 (bs.getD j 0)=true:=fun j hj=>ha j (by simpa using hj);cases hm:may0 (sumK bs bs.length) with
  | true =>
   have:=(yvb 0 (Nat.zero_le _) h hm).2.2;simp only [sumK,List.drop_zero] at this;unfold yat;rw [this];simp
  | false =>
   have hs:yc0 0 bs=none:= by
    cases hs:yc0 0 bs with
    | none=>rfl
    | some s =>
     exfalso;have e:=ynt hs
     have hb:∀n,n<=bs.length->sumK bs n=(bs.take n).sum:= by
      intro n
      induction n with
      | zero=>intro _;simp [sumK]
      | succ n ih =>
       intro hn;rw [sumK,ih om,List.take_succ_eq_append_getElem om,List.sum_append];simp [List.getD,show n<bs.length by omega]
     have hb2:=hb bs.length (Nat.le_refl _);rw [List.take_length] at hb2
     by_cases hne:bs=[]
     ·subst hne
      simp [sumK] at hm;exact absurd hm (by decide)
     ·have hg:=ylm om hs
      have:may0 (sumK bs bs.length)=true:=ybv.2 ⟨by rw [hb2];omega,by have:=hg.2.2 hne;rw [hb2];omega⟩;rw [this] at hm;cases hm
   unfold yat;rw [hs];simp
theorem ysg {bs:List Int} {c d:Int}:yat bs c d=true↔(1<=bs.length/\bs.length<=8)/\(0<=c/\c<=1000000000000000)/\(0<=d/\d<=1000000000000000)/\(∀j,j<bs.length->0<=bs.getD j 0/\bs.getD j 0<=1000000000000000)/\(0<=sumK bs bs.length/\sumK bs bs.length<=1000000000000000)/\(c=0\/sumK bs bs.length=0):= by
 rw [<-ynv];unfold yhi;simp only [Bool.and_eq_true,decide_eq_true_eq,ybv,Bool.or_eq_true,beq_iff_eq,List.all_eq_true,List.mem_range]
 constructor
 ·rintro ⟨⟨⟨⟨⟨h1,h2⟩,h3⟩,h4⟩,h5⟩,h6,h7⟩
  exact ⟨⟨h1,h2⟩,h3,h4,h5,h6,h7⟩
 ·rintro ⟨⟨h1,h2⟩,h3,h4,h5,h6,h7⟩
  exact ⟨⟨⟨⟨⟨h1,h2⟩,h3⟩,h4⟩,h5⟩,h6,h7⟩
section
open Go.RowKit Go.ChangeShapes Go.WideShapes Go.Deep
def yg6 (x:Int):Prop:=-9223372036854775808<=x/\x<=9223372036854775807
theorem yce {n:Int} (h:(Lit.int .i64 n).wf=true):yg6 n:= by
 simp [Lit.wf,IntKind.min,IntKind.max,IntKind.signed,IntKind.bits] at h;exact h
section
variable {H:Type} {enc:TypeId×Value->H} {P:Program} {w:World} {base:Nat} {spare:Nat->Bool} {held:Bool}
theorem yqt {r:Reach} {b0:Nat} {t:TypeId} {fs:Array Field} {v:Value} {d:DataW H} {p:List MemPlace} (hs:P.underlying t=some (.struct fs)) (hone:oneCellFields P fs=true) (hC:P.cellsOf t=fs.size)
 (hv:Value.okWide P w r b0 t v) (h:DataW.Trod enc P w base spare held t v d p) :
 ∃cs:Array Value,v=.agg cs/\cs.size=fs.size/\∀(j:Nat) (f:Field),fs[j]?=some f->∃(c:Value) (n:Nat) (y:DataW H×List MemPlace),cs[j]?=some c/\DataW.trod enc P w base spare held n f.type [c]=some y:= by
 obtain ⟨cs,rfl,hsz⟩:=okWide_struct hs hv;obtain ⟨fuel,hf⟩:=h;obtain ⟨xs,n,_,_,_,hlen,hg⟩:=DataW.trod_struct hs hf;refine ⟨cs,rfl,hsz.trans hC,fun j f hj=>?_⟩;obtain ⟨ho,hk⟩:=hone_of hone j f hj;have hjl:j<fs.size:=(Array.getElem?_eq_some_iff.1 hj).1;have hjc:j<cs.size:=by omega
 have h1:=hg j f hj;rw [ho,hk] at h1
 have e:((Value.agg cs).cells.toList.drop j).take 1=[cs[j]]:= by
  show (cs.toList.drop j).take 1=_;rw [List.drop_eq_getElem_cons (by simpa using hjc)];simp
 rw [e,List.getElem?_eq_getElem om] at h1;exact ⟨cs[j],n,_,by simp [hjc],h1⟩
theorem yc1 {k:IntKind} {t:TypeId} {n:Nat} {c:Value} {y:DataW H×List MemPlace} (ht:P.underlying t=some (.int k)) (h:DataW.trod enc P w base spare held n t [c]=some y):∃x,c=.int k x/\(Lit.int k x).wf=true:= by
 obtain ⟨x,e,_,hw⟩:=DataW.trod_int ht h;exact ⟨x,by simpa using e,hw⟩
end
theorem ynq {w:World} {a:Addr} {v:Value} (h:w.cell? a=some v):a.spot=none:= by
 unfold World.cell? at h
 split at h
 ·split at h
  ·cases h
  ·rename_i hs
   simpa using hs
 ·cases h
section
variable {H:Type} {enc:TypeId×Value->H} {w:World} {base:Nat} {spare:Nat->Bool} {held:Bool}
theorem yq5 {n:Nat} {c:Value} {y:DataW H×List MemPlace} (h:DataW.trod enc Tryz.prog w base spare held n 22 [c]=some y):∃ts:List (Int×Bool),TrS w c ts/\∀x∈ts,yg6 x.1:= by
 rcases open_slice Tryz.underlying22 h with ⟨h0,_⟩ | ⟨a,len,cap,m,n',D,Pl,hcs,_,hl,hm,hmm,_,hi⟩
 ·refine ⟨[],?_,by simp⟩
  obtain rfl:c=sZ:=by simpa using h0
  exact ⟨none,0,rfl,Nat.le_refl _,⟨by simp [maxLen],fun _=>rfl⟩,fun h=>absurd rfl h⟩
 ·obtain rfl:c=.slice (some a) len cap:=by simpa using hcs
  have hlm:len<=m:= by
   rw [hmm]
   split
   ·exact hl
   ·exact Nat.le_refl _
  have hC:Tryz.prog.cellsOf 81=2:=by kernel_rfl
  have key:∀i,i<len->∃(x:Int) (g:Bool),w.cell? (a.add (i*2))=some (iV x)/\w.cell? (a.add (i*2+1))=some (.bool g)/\yg6 x:= by
   intro i hlt;obtain ⟨cs',hc,ht⟩:=hi i om;rw [hC] at hc;obtain ⟨xs,m2,_,_,hlen,hxl,hf⟩:=DataW.trod_struct Tryz.underlying81 ht;obtain ⟨_,hcl,hat⟩:=World.cells?_some hc;have hl2:cs'.length=2:=by rw [hlen,hC]
   match cs',hl2 with
   | [c0,c1],_ =>
    have f0:DataW.trod enc Tryz.prog w base spare held m2 2 (([c0,c1].drop 0).take (Tryz.prog.cellsOf 2))=xs[0]?:=hf 0 _ rfl;have f1:DataW.trod enc Tryz.prog w base spare held m2 4 (([c0,c1].drop 1).take (Tryz.prog.cellsOf 4))=xs[1]?:=hf 1 _ rfl;have hC2:Tryz.prog.cellsOf 2=1:=by kernel_rfl
    have hC4:Tryz.prog.cellsOf 4=1:=by kernel_rfl
    rw [hC2] at f0;rw [hC4] at f1;have hx2:xs.length=2:=hxl
    have g0:DataW.trod enc Tryz.prog w base spare held m2 2 [c0]=some (xs[0]'om):= by
     rw [<-List.getElem?_eq_getElem om];exact f0
    have g1:DataW.trod enc Tryz.prog w base spare held m2 4 [c1]=some (xs[1]'om):= by
     rw [<-List.getElem?_eq_getElem om];exact f1
    obtain ⟨x,rfl,hw⟩:=yc1 Tryz.underlying2 g0;obtain ⟨b,hb,_⟩:=DataW.trod_bool Tryz.underlying4 g1;obtain rfl:c1=.bool b:=by simpa using hb
    refine ⟨x,b,?_,?_,yce hw⟩
    ·have:=hat 0 om
     rw [Go.Deep.add_add] at this
     simpa using this
    ·have:=hat 1 om
     rw [Go.Deep.add_add] at this
     simpa using this
  refine ⟨(List.range len).map fun i=>((match w.cell? (a.add (i*2)) with | some (.int _ x)=>x | _=>0),(match w.cell? (a.add (i*2+1)) with | some (.bool g)=>g | _=>false)),?_,?_⟩
  ·refine ⟨some a,cap,by simp,by simpa using hl,⟨hm,fun e=>by cases e⟩,fun hne=>?_⟩
   have h0:0<len:= by
    rcases Nat.eq_zero_or_pos len with h | h
    ·subst h;simp at hne
    ·exact h
   obtain ⟨x,g,e1,_,_⟩:=key 0 h0
   have hs:a.spot=none:= by
    have e:a.add (0*2)=a:=by simp [Addr.add]
    rw [e] at e1;exact ynq e1
   obtain ⟨b,o,sp⟩:=a;simp only at hs;subst hs;refine ⟨b,o,rfl,fun i hi=>?_⟩;simp only [List.length_map,List.length_range] at hi;obtain ⟨x,g,e1,e2,_⟩:=key i hi;have q1:((Ad b o):Addr).add (i*2)=(Ad b (o+i*2)):=Addr.add_lit _ _ _;have q2:((Ad b o):Addr).add (i*2+1)=(Ad b (o+i*2+1)):=Addr.add_lit _ _ _;rw [q1] at e1;rw [q2] at e2;simp [List.getD,hi,q1,q2,e1,e2]
  ·intro y hy
   simp only [List.mem_map,List.mem_range] at hy;obtain ⟨i,hi,rfl⟩:=hy;obtain ⟨x,g,e1,_,hw⟩:=key i hi
   simpa [e1] using hw
theorem open_terms {r:Reach} {b0:Nat} {v:Value} {d:DataW H} {p:List MemPlace} (hv:Value.okWide Tryz.prog w r b0 24 v) (h:DataW.Trod enc Tryz.prog w base spare held 24 v d p) :
 ∃(lim:Int) (u:Value) (ts:List (Int×Bool)) (c du f pa s:Int),v=.agg #[iV lim,u,iV c,iV du,iV f,iV pa,iV s]/\TrS w u ts/\(∀x∈ts,yg6 x.1)/\yg6 lim/\yg6 c/\yg6 du/\yg6 f/\yg6 pa/\yg6 s:= by
 obtain ⟨cs,rfl,hsz,hf⟩:=yqt Tryz.underlying24 kr kr hv h;obtain ⟨c0,_,_,g0,h0⟩:=hf 0 _ rfl;obtain ⟨c1,_,_,g1,h1⟩:=hf 1 _ rfl;obtain ⟨c2,_,_,g2,h2⟩:=hf 2 _ rfl;obtain ⟨c3,_,_,g3,h3⟩:=hf 3 _ rfl;obtain ⟨c4,_,_,g4,h4⟩:=hf 4 _ rfl;obtain ⟨c5,_,_,g5,h5⟩:=hf 5 _ rfl;obtain ⟨c6,_,_,g6,h6⟩:=hf 6 _ rfl;obtain ⟨x0,rfl,r0⟩:=yc1 Tryz.underlying2 h0;obtain ⟨ts,ht,hr⟩:=yq5 h1;obtain ⟨x2,rfl,r2⟩:=yc1 Tryz.underlying3 h2;obtain ⟨x3,rfl,r3⟩:=yc1 Tryz.underlying3 h3;obtain ⟨x4,rfl,r4⟩:=yc1 Tryz.underlying2 h4;obtain ⟨x5,rfl,r5⟩:=yc1 Tryz.underlying2 h5;obtain ⟨x6,rfl,r6⟩:=yc1 Tryz.underlying3 h6;refine ⟨x0,c1,ts,x2,x3,x4,x5,x6,?_,ht,hr,yce r0,yce r2,yce r3,yce r4,yce r5,yce r6⟩
 congr 1
 apply Array.ext
 ·simpa using hsz
 ·intro j h1 h2
  have hj:j<7:=by simpa using h2
  have:j=0\/j=1\/j=2\/j=3\/j=4\/j=5\/j=6:=by omega
  rcases this with rfl | rfl | rfl | rfl | rfl | rfl | rfl
  ·simpa using (Array.getElem?_eq_some_iff.1 g0).2
  ·simpa using (Array.getElem?_eq_some_iff.1 g1).2
  ·simpa using (Array.getElem?_eq_some_iff.1 g2).2
  ·simpa using (Array.getElem?_eq_some_iff.1 g3).2
  ·simpa using (Array.getElem?_eq_some_iff.1 g4).2
  ·simpa using (Array.getElem?_eq_some_iff.1 g5).2
  ·simpa using (Array.getElem?_eq_some_iff.1 g6).2
end
end
end Go.Proofs.YtkongpjpkpfniaaGreat

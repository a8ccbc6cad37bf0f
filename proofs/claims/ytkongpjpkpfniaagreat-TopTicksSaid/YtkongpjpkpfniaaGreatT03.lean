/- TopTicks: parts of the proof, made small by a program (mini.py). -/
import Derived.Deep.RegionHeld3
import Derived.Test.YtkongpjpkpfniaaGreatT01
set_option linter.unusedVariables false
set_option linter.unusedSimpArgs false
set_option maxRecDepth 100000
set_option maxHeartbeats 6400000
namespace Go.Proofs.YtkongpjpkpfniaaGreat
open Go.RowKit
theorem zq03ffe7 {q:Prop} (h:q:= by
 rw [hx] at HS;have HX2:=lh hx;clear hx
 go_wp2_with fail
 refine (ybk HX2.out _).mono ?_;rintro e w1 ⟨rfl,rfl⟩;go_wp2
 go_roundg g
 case measure=>omega
 case rel=>exact ⟨k+1,by omega,by go_num,by rw [HS.out];rfl,rfl⟩):q:=h
theorem zq036f83 {q:Prop} (h:q:= by
 rw [hcyc,hdued,hminf,hminp,hstart] at hr;have Hcyc:=lh hcyc;have Hdued:=lh hdued;have Hminf:=lh hminf;have Hminp:=lh hminp;have Hstart:=lh hstart;clear hcyc hdued hminf hminp hstart
 go_wp2_with fail
 refine (ybk Hcyc.out _).mono ?_;rintro e w1 ⟨rfl,rfl⟩
 go_wp2_with fail
 refine (ybk Hdued.out _).mono ?_;rintro e w1 ⟨rfl,rfl⟩
 go_wp2_with fail
 refine (ybk Hminf.out _).mono ?_;rintro e w1 ⟨rfl,rfl⟩
 go_wp2_with fail
 refine (ybk Hminp.out _).mono ?_;rintro e w1 ⟨rfl,rfl⟩
 go_wp2_with fail
 refine (ybk Hstart.out _).mono ?_;rintro e w1 ⟨rfl,rfl⟩;go_wp2
 go_ret
 rw [<-hr.out];exact ⟨rfl,hb0⟩):q:=h
theorem ys7 (v a b:Int) (w:World):Calls Tryz.prog 52 #[iV v,iV a,iV b] w (Ret (.bool (betw v a b)) w):= by
 go_enter Tryz.func52,Tryz.ntmps52
 by_cases h1:a<=v
 ·by_cases h2:v<=b
  ·go_wp2
   go_ret
   simp [Ret,betw,h1,h2]
  ·go_wp2
   go_ret
   simp [Ret,betw,h1,h2]
 ·go_wp2
  go_ret
  simp [Ret,betw];omega
theorem ybk {v a b:Int} {r:Bool} (h:betw v a b=r) (w:World):Calls Tryz.prog 52 #[iV v,iV a,iV b] w (Ret (.bool r) w):=by rw [<-h];exact ys7 v a b w
theorem yp2 {ts:List (Int×Bool)} {k:Nat} (h:k<ts.length) {x:Int} {g:Bool} (he:ts.getD k (0,false)=(x,g)):yd7 (ts.take (k+1))=(yd7 (ts.take k) && betw x 0 10000000):= by
 unfold yd7;rw [List.take_succ_eq_append_getElem h,List.all_append];have:ts[k]=(x,g):=by rw [<-he];simp [List.getD,h]
 simp [this]
theorem yre (v:Value) (ts:List (Int×Bool)) (lim cyc dued minf minp start:Int) (hA:(betw lim 0 1000000000000000 && betw ts.length 1 8)=false) (w:World) (hv:TrS w v ts) :
 Calls Tryz.prog 26 #[.agg #[iV lim,v,iV cyc,iV dued,iV minf,iV minp,iV start]] w (RetB (iV 6) w):= by
 have HV:=lh hv;obtain ⟨ao,cap,rfl,h1,⟨h2,_⟩,h3⟩:=hv;clear h3;unfold maxLen at h2;have hT:=TB.new w 24 lim (.slice ao ts.length cap) cyc dued minf minp start;have hb0:BW w (w.alloc (.cells #[iV lim,.slice ao ts.length cap,iV cyc,iV dued,iV minf,iV minp,iV start] 24)):=bR.alloc (Nat.le_refl _) _
 have key:betw lim 0 1000000000000000=false\/(betw lim 0 1000000000000000=true/\decide (1<=(ts.length:Int))=false)\/(betw lim 0 1000000000000000=true/\decide (1<=(ts.length:Int))=true/\decide ((ts.length:Int)<=8)=false):= by
  cases h:betw lim 0 1000000000000000 with
  | false=>exact .inl rfl
  | true =>
   rw [h,Bool.true_and,yty] at hA;simp only [true_and,decide_eq_false_iff_not,decide_eq_true_eq];omega
 clear hA;have HT:=lh hT;clear hT;rcases key with d0 | ⟨d0,d1⟩ | ⟨d0,d1,d2⟩
 all_goals
  have D0:=lh d0;clear d0
  go_enter Tryz.func26,Tryz.ntmps26
  go_wp2_with fail
  refine (ybk D0.out _).mono ?_;rintro e w1 ⟨rfl,rfl⟩
  go_wp2_with fail
  go_loopg [3,4] ts.length (fun g ok i wr=>∃k:Nat,k+g=ts.length/\i=iV k/\ok=.bool false/\wr=(w.alloc (.cells #[iV lim,.slice ao ts.length cap,iV cyc,iV dued,iV minf,iV minp,iV start] 24)))
  case atStart=>exact ⟨0,by omega,rfl,rfl,rfl⟩
  case round =>
   obtain ⟨k,hkg,rfl,rfl,rfl⟩:=hrel;obtain ⟨t0,t1,t2,t3,t4,t5,t6⟩:=HT.out;cases gk with
   | zero =>
    have hlt:¬((k:Int)<(ts.length:Int)):=by omega
    go_wp2
    go_ret
    exact ⟨rfl,hb0⟩
   | succ g =>
    have hlt:(k:Int)<(ts.length:Int):=by omega
    go_wp2
    go_roundg g
    case measure=>omega
    case rel=>exact ⟨k+1,by omega,by go_num,rfl,rfl⟩
theorem yn8 (v:Value) (ts:List (Int×Bool)) (lim cyc dued minf minp start:Int) (hA:(betw lim 0 1000000000000000 && betw ts.length 1 8)=true) (r:Int) (hr:Hid ((if (yd7 ts && (betw cyc 1 28 && betw dued 1 25) && betw minf 0 1000000000000000 && betw minp 0 1000 && betw start (-135140) 2922896)=true then 0 else 6)=r)) (w:World) (hv:TrS w v ts) :
 Calls Tryz.prog 26 #[.agg #[iV lim,v,iV cyc,iV dued,iV minf,iV minp,iV start]] w (RetB (iV r) w):= by
 have HV:=lh hv;obtain ⟨ao,cap,rfl,h1,⟨h2,_⟩,h3⟩:=hv;clear h3;unfold maxLen at h2;have hT:=TB.new w 24 lim (.slice ao ts.length cap) cyc dued minf minp start;have hb0:BW w (w.alloc (.cells #[iV lim,.slice ao ts.length cap,iV cyc,iV dued,iV minf,iV minp,iV start] 24)):=bR.alloc (Nat.le_refl _) _;rw [Bool.and_eq_true] at hA;obtain ⟨hA,hB⟩:=hA;rw [ydr] at hB;have D0:=lh hA;have d1:decide (1<=(ts.length:Int))=true:=by simp;omega
 have d2:decide ((ts.length:Int)<=8)=true:=by simp;omega
 clear hA hB;have HT:=lh hT;clear hT
 go_enter Tryz.func26,Tryz.ntmps26
 go_wp2_with fail
 refine (ybk D0.out _).mono ?_;rintro e w1 ⟨rfl,rfl⟩
 go_wp2_with fail
 go_loopg [3,4] ts.length (fun g ok i wr=>∃k:Nat,k+g=ts.length/\i=iV k/\ok=.bool (yd7 (ts.take k))/\wr=(w.alloc (.cells #[iV lim,.slice ao ts.length cap,iV cyc,iV dued,iV minf,iV minp,iV start] 24)))
 case atStart=>exact ⟨0,by omega,rfl,rfl,rfl⟩
 case round =>
  obtain ⟨k,hkg,rfl,rfl,rfl⟩:=hrel;obtain ⟨t0,t1,t2,t3,t4,t5,t6⟩:=HT.out;cases gk with
  | zero =>
   have hlt:¬((k:Int)<(ts.length:Int)):=by omega
   obtain rfl:k=ts.length:=by omega
   rw [List.take_length];cases hC:yd7 ts with
   | false =>
    rw [hC] at hr;clear hC;go_wp2
    go_ret
    rw [<-hr.out];exact ⟨rfl,hb0⟩
   | true =>
    rw [hC] at hr;clear hC;cases hcyc:betw cyc 1 28 with
    | false =>
     rw [hcyc] at hr;have Hcyc:=lh hcyc;clear hcyc
     go_wp2_with fail
     refine (ybk Hcyc.out _).mono ?_;rintro e w1 ⟨rfl,rfl⟩;go_wp2
     go_ret
     rw [<-hr.out];exact ⟨rfl,hb0⟩
    | true =>
     cases hdued:betw dued 1 25 with
     | false =>
      rw [hcyc,hdued] at hr;have Hcyc:=lh hcyc;have Hdued:=lh hdued;clear hcyc hdued
      go_wp2_with fail
      refine (ybk Hcyc.out _).mono ?_;rintro e w1 ⟨rfl,rfl⟩
      go_wp2_with fail
      refine (ybk Hdued.out _).mono ?_;rintro e w1 ⟨rfl,rfl⟩;go_wp2
      go_ret
      rw [<-hr.out];exact ⟨rfl,hb0⟩
     | true =>
      cases hminf:betw minf 0 1000000000000000 with
      | false =>
       rw [hcyc,hdued,hminf] at hr;have Hcyc:=lh hcyc;have Hdued:=lh hdued;have Hminf:=lh hminf;clear hcyc hdued hminf
       go_wp2_with fail
       refine (ybk Hcyc.out _).mono ?_;rintro e w1 ⟨rfl,rfl⟩
       go_wp2_with fail
       refine (ybk Hdued.out _).mono ?_;rintro e w1 ⟨rfl,rfl⟩
       go_wp2_with fail
       refine (ybk Hminf.out _).mono ?_;rintro e w1 ⟨rfl,rfl⟩;go_wp2
       go_ret
       rw [<-hr.out];exact ⟨rfl,hb0⟩
      | true =>
       cases hminp:betw minp 0 1000 with
       | false =>
        rw [hcyc,hdued,hminf,hminp] at hr;have Hcyc:=lh hcyc;have Hdued:=lh hdued;have Hminf:=lh hminf;have Hminp:=lh hminp;clear hcyc hdued hminf hminp
        go_wp2_with fail
        refine (ybk Hcyc.out _).mono ?_;rintro e w1 ⟨rfl,rfl⟩
        go_wp2_with fail
        refine (ybk Hdued.out _).mono ?_;rintro e w1 ⟨rfl,rfl⟩
        go_wp2_with fail
        refine (ybk Hminf.out _).mono ?_;rintro e w1 ⟨rfl,rfl⟩
        go_wp2_with fail
        refine (ybk Hminp.out _).mono ?_;rintro e w1 ⟨rfl,rfl⟩;go_wp2
        go_ret
        rw [<-hr.out];exact ⟨rfl,hb0⟩
       | true =>
        cases hstart:betw start (-135140) 2922896 with
        | false =>
         exact zq036f83
        | true =>
         exact zq036f83
  | succ g =>
   have hlt:(k:Int)<(ts.length:Int):=by omega
   obtain ⟨b,o,x,gr,rfl,hc1,hc2,HX⟩:=(HV.out.below hb0).get (i:=k) om;have HS:=lh (yp2 om HX.out);cases hR:yd7 (ts.take k) with
   | false =>
    rw [hR] at HS;clear hR;go_wp2
    go_roundg g
    case measure=>omega
    case rel=>exact ⟨k+1,by omega,by go_num,by rw [HS.out];rfl,rfl⟩
   | true =>
    rw [hR] at HS;clear hR;cases hx:betw x 0 10000000 with
    | false =>
     exact zq03ffe7
    | true =>
     exact zq03ffe7
theorem yit (v:Value) (ts:List (Int×Bool)) (lim cyc dued minf minp start:Int) (r:Int) (hr:Hid ((if yaw lim ts cyc dued minf minp start=true then 0 else 6)=r)) (w:World) (hv:TrS w v ts) :
 Calls Tryz.prog 26 #[.agg #[iV lim,v,iV cyc,iV dued,iV minf,iV minp,iV start]] w (RetB (iV r) w):= by
 cases hA:(betw lim 0 1000000000000000 && betw ts.length 1 8) with
 | false =>
  have e:r=6:= by
   rw [<-hr.out];simp [yaw,hA]
  rw [e];exact yre v ts lim cyc dued minf minp start hA w hv
 | true =>
  refine yn8 v ts lim cyc dued minf minp start hA r ?_ w hv;have:=hr.out;simp only [yaw,hA,Bool.true_and] at this;exact this
def yk4 (y:Int):Bool:=(y%4 == 0) && ((y%100 != 0) || (y%400 == 0))
theorem yxt (y:Int) (hy:0<=y/\y<=20000) (r:Bool) (hr:Hid (yk4 y=r)) (w:World):Calls Tryz.prog 191 #[iV y] w (Ret (.bool r) w):= by
 have h4:y.tmod 4=y%4:=Int.tmod_eq_emod_of_nonneg hy.1;have h100:y.tmod 100=y%100:=Int.tmod_eq_emod_of_nonneg hy.1;have h400:y.tmod 400=y%400:=Int.tmod_eq_emod_of_nonneg hy.1
 go_enter Tryz.func191,Tryz.ntmps191
 go_wp2
 all_goals
  go_ret
  exact ⟨yr5 (by rw [<-hr.out];simp [yk4, *]),rfl⟩
def lenM (y m:Int):Int :=
 if m=1\/m=3\/m=5\/m=7\/m=8\/m=10\/m=12 then 31 else if m=4\/m=6\/m=9\/m=11 then 30 else if m=2 then (if yk4 y=true then 29 else 28) else 0
theorem ygj (y m:Int) (hy:0<=y/\y<=20000) (r:Int) (hr:Hid (lenM y m=r)) (w:World):Calls Tryz.prog 151 #[iV y,iV m] w (Ret (iV r) w):= by
 obtain ⟨q,hq⟩:∃q,yk4 y=q:=⟨_,rfl⟩;have HQ:=lh hq;clear hq
 go_enter Tryz.func151,Tryz.ntmps151
 go_wp2_with (first | (go_at_call 191;refine (yxt y hy q HQ _).mono ?_;rintro _ _ ⟨rfl,rfl⟩))
 all_goals
  go_ret
  refine ⟨ype ?_,rfl⟩;clear hy;rw [<-hr.out,lenM,HQ.out];clear hr HQ;simp only [beq_iff_eq,beq_eq_false_iff_ne,ne_eq] at *
  first
   | rw [if_pos om]
   | rw [if_neg om,if_pos om]
   | (rw [if_neg om,if_neg om,if_pos om];simp [*])
   | rw [if_neg om,if_neg om,if_neg om]
def newY (k:Int):Int:=-135140+365*k+(k+3)/4-(k+99)/100+(k+399)/400
theorem yp1 (k:Int) (hk:0<=k/\k<=10000) (r:Int) (hr:Hid (newY k=r)) (w:World):Calls Tryz.prog 190 #[iV (1600+k)] w (Ret (iV r) w):= by
 have h4:(k+3).tdiv 4=(k+3)/4:=Int.tdiv_eq_ediv_of_nonneg om;have h100:(k+99).tdiv 100=(k+99)/100:=Int.tdiv_eq_ediv_of_nonneg om;have h400:(k+399).tdiv 400=(k+399)/400:=Int.tdiv_eq_ediv_of_nonneg om;have h0:wrap64 (1600+k-1600)=k:=by rw [IntWalk.wrap64_in _ ⟨by omega,by omega⟩];omega
 go_enter Tryz.func190,Tryz.ntmps190
 go_wp2
 go_ret
 exact ⟨ype (by rw [<-hr.out];unfold newY;omega),rfl⟩
theorem yh1 (y k:Int) (hyk:y=1600+k) (hk:0<=k/\k<=10000) (r:Int) (hr:Hid (newY k=r)) (w:World):Calls Tryz.prog 190 #[iV y] w (Ret (iV r) w):= by
 subst hyk;exact yp1 k hk r hr w
def sumM (y:Int):Nat->Int
 | 0=>0
 | k+1=>sumM y k+lenM y (k+1:Nat)
theorem yhy (k:Int):newY (k+1)=newY k+365+(if yk4 (1600+k)=true then 1 else 0):= by
 unfold newY yk4
 split
 ·rename_i h
  simp only [Bool.and_eq_true,Bool.or_eq_true,beq_iff_eq,bne_iff_ne,ne_eq] at h;omega
 ·rename_i h
  simp only [Bool.and_eq_true,Bool.or_eq_true,beq_iff_eq,bne_iff_ne,ne_eq] at h;omega
theorem yzg (k:Int):newY k+365<=newY (k+1)/\newY (k+1)<=newY k+366:= by
 rw [yhy k]
 split <;> omega
theorem ytw (k:Int) (j:Nat):newY k+365*(j:Int)<=newY (k+j):= by
 induction j with
 | zero=>simp
 | succ j ih =>
  have:=(yzg (k+j)).1;have e:k+((j+1:Nat):Int)=k+j+1:=by omega
  rw [e];omega
theorem yfq {a b:Int} (h:a<=b):newY a<=newY b:= by
 obtain ⟨j,rfl⟩:=Int.le.dest h;have:=ytw a j;omega
theorem ydb (y:Int) {m:Int} (hm:1<=m/\m<=12):28<=lenM y m/\lenM y m<=31:= by
 unfold lenM
 split
 ·omega
 ·split
  ·omega
  ·split
   ·split <;> omega
   ·omega
theorem ym1 (y:Int):sumM y 12=365+(if yk4 y=true then 1 else 0):= by
 have a1:lenM y 1=31:=rfl;have a2:lenM y 2=if yk4 y=true then 29 else 28:=rfl
 have a3:lenM y 3=31:=rfl;have a4:lenM y 4=30:=rfl;have a5:lenM y 5=31:=rfl;have a6:lenM y 6=30:=rfl;have a7:lenM y 7=31:=rfl;have a8:lenM y 8=31:=rfl;have a9:lenM y 9=30:=rfl;have a10:lenM y 10=31:=rfl;have a11:lenM y 11=30:=rfl;have a12:lenM y 12=31:=rfl;show 0+lenM y 1+lenM y 2+lenM y 3+lenM y 4+lenM y 5+lenM y 6+lenM y 7+lenM y 8+lenM y 9+lenM y 10+lenM y 11+lenM y 12=_;rw [a1,a2,a3,a4,a5,a6,a7,a8,a9,a10,a11,a12]
 split <;> rfl
theorem yeg (y:Int) {i j:Nat} (h:i<=j) (hj:j<=12):sumM y i<=sumM y j:= by
 induction h with
 | refl=>exact Int.le_refl _
 | step h ih =>
  rename_i m;have h1:=ih om;have h2:=ydb y (m:=((m+1:Nat):Int)) om;show _<=sumM y m+lenM y _;omega
structure yhn (n y m d:Int):Prop where
 hy:1600<=y/\y<=9999
 hm:1<=m/\m<=12
 hd:1<=d/\d<=lenM y m
 hn:n=newY (y-1600)+sumM y (m-1).toNat+d-1
theorem ydy {n y m d:Int} (h:yhn n y m d):newY (y-1600)<=n/\n<newY (y-1600+1):= by
 obtain ⟨hy,hm,hd,hn⟩:=h;have e:=yhy (y-1600);have e2:1600+(y-1600)=y:=by omega
 rw [e2] at e;have h12:=ym1 y;obtain ⟨q,hq⟩:∃q:Int,(if yk4 y=true then (1:Int) else 0)=q:=⟨_,rfl⟩;rw [hq] at e h12;obtain ⟨k,hk⟩:∃k:Nat,(m-1).toNat=k:=⟨_,rfl⟩;have hk2:((k+1:Nat):Int)=m:=by omega
 have h1:=yeg y (i:=k+1) (j:=12) om (Nat.le_refl _);have h0:=yeg y (Nat.zero_le k) om;rw [hk] at hn;simp only [sumM] at h0
 have h3:sumM y (k+1)=sumM y k+lenM y m:= by
  show sumM y k+lenM y _=_;rw [hk2]
 constructor
 ·omega
 ·rw [e];omega
theorem yhc {n:Int} (h1:-135140<=n) (h2:n<=2932896):∃y m d,yhn n y m d:= by
 have hy:∀k:Nat,k<=8400->n<newY (k:Int)->∃j:Nat,j<k/\newY (j:Int)<=n/\n<newY ((j:Int)+1):= by
  intro k
  induction k with
  | zero =>
   intro _ h;have:newY ((0:Nat):Int) = -135140:=by decide
   omega
  | succ k ih =>
   intro hk h
   by_cases hc:n<newY (k:Int)
   ·obtain ⟨j,h3,h4⟩:=ih om hc
    exact ⟨j,by omega,h4⟩
   ·exact ⟨k,by omega,by omega,by simpa using h⟩
 obtain ⟨j,hj,h3,h4⟩:=hy 8400 (Nat.le_refl _) (by
  have:newY ((8400:Nat):Int)=2932897:=by decide
  omega)
 have h12:=ym1 (1600+j);rw [yhy (j:Int)] at h4
 have hm:∀k:Nat,k<=12->n-newY j+1<=sumM (1600+j) k->∃i:Nat,i<k/\sumM (1600+j) i<n-newY j+1/\n-newY j+1<=sumM (1600+j) (i+1):= by
  intro k
  induction k with
  | zero=>intro _ h;simp only [sumM] at h;omega
  | succ k ih =>
   intro hk h
   by_cases hc:n-newY j+1<=sumM (1600+j) k
   ·obtain ⟨i,h5,h6⟩:=ih om hc
    exact ⟨i,by omega,h6⟩
   ·exact ⟨k,by omega,by omega,h⟩
 obtain ⟨i,hi,h5,h6⟩:=hm 12 (Nat.le_refl _) (by rw [h12];omega);refine ⟨1600+j,i+1,n-newY j+1-sumM (1600+j) i,⟨by omega,by omega,?_,?_⟩⟩
 ·simp only [sumM] at h6
  have e:((i+1:Nat):Int)=(i:Int)+1:=by omega
  rw [e] at h6;omega
 ·have e1:(1600+(j:Int))-1600=j:=by omega
  have e2:((i:Int)+1-1).toNat=i:=by omega
  rw [e1,e2];omega
theorem yw1 {n y m d y' m' d':Int} (h:yhn n y m d) (h':yhn n y' m' d'):y=y'/\m=m'/\d=d':= by
 have a:=ydy h;have a':=ydy h'
 have hyy:y=y':= by
  rcases Int.lt_trichotomy y y' with c | c | c
  ·have:=yfq (a:=y-1600+1) (b:=y'-1600) om
   omega
  ·exact c
  ·have:=yfq (a:=y'-1600+1) (b:=y-1600) om
   omega
 subst hyy;have b:=h.hn;have b':=h'.hn;have hd:=h.hd;have hd':=h'.hd;have hm:=h.hm;have hm':=h'.hm
 have hmm:m=m':= by
  rcases Int.lt_trichotomy m m' with c | c | c
  ·have h1:=yeg y (i:=(m-1).toNat+1) (j:=(m'-1).toNat) om om
   simp only [sumM] at h1;have e3:(((m-1).toNat+1:Nat):Int)=m:=by omega
   rw [e3] at h1;omega
  ·exact c
  ·have h1:=yeg y (i:=(m'-1).toNat+1) (j:=(m-1).toNat) om om
   simp only [sumM] at h1;have e3:(((m'-1).toNat+1:Nat):Int)=m':=by omega
   rw [e3] at h1;omega
 subst hmm;exact ⟨rfl,rfl,by omega⟩
theorem yy9 (n:Int) (h:n < -135140\/(-135140<=n/\2932896<n)) (w:World):Calls Tryz.prog 150 #[iV n] w (RetB (.tuple #[.agg #[iZ,iZ,iZ],iV 10]) w):= by
 rcases h with h | ⟨h,h2⟩
 all_goals
  go_enter Tryz.func150,Tryz.ntmps150
  go_wp2_with fail
  refine yd1 (fun _ _ _=>False) ?first ?pass
  case pass=>intro l a1 w1 hJ;exact hJ.elim
  case first =>
   go_wp2_with fail
   simp only [ydu];refine bodyPost_ret (v:=.tuple #[.agg #[iZ,iZ,iZ],iV 10]) (by simp [results,Tryz.results150,go_sem]) rfl ⟨rfl,?_⟩;exact bL
theorem ybc (w:World) (cs:List Value) (t:TypeId) (z:Nat) (hz:w.heap.size=z):Blk (w.alloc (.cells cs.toArray t)) z t cs:=by subst hz;exact heap_alloc_new w _
theorem yys {a b:Int} (h:a<b) (hb:0<b):a.toNat<b.toNat:=by omega
def yo1 (y:Int):Option Value->Nat
 | some (.int _ x)=>(y+20-x).toNat
 | _=>0
def ylq:Option Value->Nat
 | some (.int _ x)=>(13-x).toNat
 | _=>0
theorem yfi (y x:Int) (k:IntKind):yo1 y (some (.int k x))=(y+20-x).toNat:=rfl
theorem yev (x:Int) (k:IntKind):ylq (some (.int k x))=(13-x).toNat:=rfl
theorem yk8 {n y m d:Int} (h:yhn n y m d):-135140<=n/\n<=2932896:= by
 have h1:=ydy h;have h2:=h.hy;have h3:=yfq (a:=0) (b:=y-1600) om;have h4:=yfq (a:=y-1600+1) (b:=8400) om;have e3:newY 0 = -135140:=by decide
 have e4:newY 8400=2932897:=by decide
 omega
theorem yjn (n y m d:Int) (h:yhn n y m d) (w:World):Calls Tryz.prog 150 #[iV n] w (RetB (.tuple #[.agg #[iV y,iV m,iV d],iZ]) w):= by
 have h12:=yk8 h;obtain ⟨h1,h2⟩:=h12;have h1':¬n < -135140:=by omega
 have h2':¬2932896<n:=by omega
 obtain ⟨q,hq⟩:∃q,(n+135140)/366=q:=⟨_,rfl⟩;have hq2:(n+135140).tdiv 366=q:=by rw [<-hq];exact Int.tdiv_eq_ediv_of_nonneg om
 have hq3:wrap64 q=q:=IntWalk.wrap64_in _ ⟨by omega,by omega⟩;have hq4:wrap64 (1600+q)=1600+q:=IntWalk.wrap64_in _ ⟨by omega,by omega⟩;have H:=lh h;have HQ:=lh hq;clear h hq;have HD0:Hid ((n-newY (y-1600))+1=sumM y (m-1).toNat+d):=by have:=H.out.hn;show _=_;omega
 go_enter Tryz.func150,Tryz.ntmps150
 go_wp2_with fail
 refine ymb 0 1 (by decide) (fun a' w'=>∃(k:Nat) (u1 u5 u6 u7 u8 u9 u10 u11 u12 u13 u14 u15 u16 u17 u18 u19 u20 u21 u22 u23 u24 u25 u26 u27 u28 u29 u30 u31 u32 u33 u34 u35 u36 u37 u38 u39 u40 u41 u42 u43 u44 u45 u46 u47 u48 u49 u50 u51 u52 u53 u54 u55:Value),a'={ tmps:=#[iV n,u1,pV w.heap.size,iZ,pV (w.heap.size+1),u5,u6,u7,u8,u9,u10,u11,u12,u13,u14,u15,u16,u17,u18,u19,u20,u21,u22,u23,u24,u25,u26,u27,u28,u29,u30,u31,u32,u33,u34,u35,u36,u37,u38,u39,u40,u41,u42,u43,u44,u45,u46,u47,u48,u49,u50,u51,u52,u53,u54,u55],defers:=[] }/\1600+(k:Int)<=y/\Hid (Blk w' w.heap.size 249 [iZ,iZ,iZ])/\Hid (Blk w' (w.heap.size+1) 249 [iV (1600+(k:Int)),iV 1,iV 1])/\Hid (BW w w'))
  (fun a' w'=>∃(k:Nat) (e:Int) (u1 u5 u6 u7 u8 u9 u10 u11 u12 u13 u14 u15 u16 u17 u18 u19 u20 u21 u22 u23 u24 u25 u26 u27 u28 u29 u30 u31 u32 u33 u34 u35 u36 u37 u38 u39 u40 u41 u42 u43 u44 u45 u46 u47 u48 u49 u50 u51 u52 u53 u54 u55:Value),a'={ tmps:=#[iV n,u1,pV w.heap.size,iZ,pV (w.heap.size+1),u5,u6,u7,u8,u9,u10,u11,u12,u13,u14,u15,u16,u17,u18,u19,u20,u21,u22,u23,u24,u25,u26,u27,u28,u29,u30,u31,u32,u33,u34,u35,u36,u37,u38,u39,u40,u41,u42,u43,u44,u45,u46,u47,u48,u49,u50,u51,u52,u53,u54,u55],defers:=[] }/\((k:Int)+1<=m/\sumM y k+e=sumM y (m-1).toNat+d)/\Hid (Blk w' w.heap.size 249 [iZ,iZ,iZ])/\Hid (Blk w' (w.heap.size+1) 249 [iV y,iV ((k:Int)+1),iV e])/\Hid (BW w w'))
  (fun _ w'=>yo1 y (w'.cell? (Ad (w.heap.size+1) 0))) (fun _ w'=>ylq (w'.cell? (Ad (w.heap.size+1) 1))) rfl rfl ?pass0 ?pass1 ?first
 case pass0 =>
  clear hq2 hq3 hq4;intro a1 w1 hJ J' hback hon;obtain ⟨k,hJ⟩:=hJ
  iterate 52 obtain ⟨_,hJ⟩:=hJ
  obtain ⟨rfl,hk,HR,HD,HB⟩:=hJ;have HBACK:=lh hback;have HON:=lh hon;clear hback hon;have hy:=H.out.hy;have hk1:wrap64 (1600+(k:Int)+1)=1600+(k:Int)+1:=IntWalk.wrap64_in _ ⟨by omega,by omega⟩;have c0:=HD.out.cell 0;have f0:=HD.out.frozen 0;have c2:=HD.out.cell 2;have f2:=HD.out.frozen 2;simp only [gz,gs] at c0 c2;obtain ⟨r,hr⟩:∃r,newY ((k:Int)+1)=r:=⟨_,rfl⟩;have HY:=lh hr
  by_cases hc:1600+(k:Int)<y
  ·have hrn:r<=n:= by
    have h5:=yfq (a:=(k:Int)+1) (b:=y-1600) om;have h6:=(ydy H.out).1;omega
   have HC:=lh hc;clear hr hc hy c2 f2
   go_wp2_with (first | (go_at_call 190;refine (yh1 _ ((k:Int)+1) om (by have:=HC.out;have:=H.out.hy;omega) r HY _).mono ?_;rintro _ _ ⟨rfl,rfl⟩))
   go_step3
   clear hk1;have HD':=(HD.out.set 0 (iV (1600+(k:Int)+1)));have c':=HD'.cell 0;simp only [List.set_cons_zero,List.getElem?_cons_zero] at c';refine HBACK.out _ _ ⟨k+1,_,_,_,_,_,_,_,_,_,_,_,_,_,_,_,_,_,_,_,_,_,_,_,_,_,_,_,_,_,_,_,_,_,_,_,_,_,_,_,_,_,_,_,_,_,_,_,_,_,_,_,_,rfl,by have:=HC.out;omega,HR.out.setOther om _ _,?_,HB.out.setCell (show w.heap.size<=w.heap.size+1 by omega) _⟩ ?_
   ·have e:(1600+((k+1:Nat):Int))=1600+(k:Int)+1:=by omega
    rw [e];exact HD'
   ·rw [c',c0,yfi,yfi]
    have:=HC.out;exact yys om om
  ·have hky:y=1600+(k:Int):=by omega
   have hrn:¬r<=n:= by
    have h6:=(ydy H.out).2;have e:y-1600+1=(k:Int)+1:=by omega
    rw [e,hr] at h6;omega
   obtain ⟨r2,hr2⟩:∃r,newY (k:Int)=r:=⟨_,rfl⟩;have HY2:=lh hr2
   have hsub:wrap64 (n-r2)=n-r2:= by
    have h6:=(ydy H.out).1;have e:y-1600=(k:Int):=by omega
    rw [e,hr2] at h6;have h7:=yfq (a:=0) (b:=(k:Int)) om;have e3:newY 0 = -135140:=by decide
    exact IntWalk.wrap64_in _ ⟨by omega,by omega⟩
   have hadd:wrap64 (1+(n-r2))=n-r2+1:= by
    have h6:=(ydy H.out).1;have e:y-1600=(k:Int):=by omega
    rw [e,hr2] at h6;have h7:=yfq (a:=0) (b:=(k:Int)) om;have e3:newY 0 = -135140:=by decide
    rw [IntWalk.wrap64_in _ ⟨by omega,by omega⟩];omega
   have HKY:=lh hky;have HSH:=lh (And.intro hsub hadd);clear hr hr2 hc hy hky
   go_wp2_with (first | (go_at_call 190;refine (yh1 _ ((k:Int)+1) om (by have:=HKY.out;have:=H.out.hy;omega) r HY _).mono ?_;rintro _ _ ⟨rfl,rfl⟩))
   go_region_with (first | (go_at_call 190;refine (yh1 _ (k:Int) om (by have:=HKY.out;have:=H.out.hy;omega) r2 HY2 _).mono ?_;rintro _ _ ⟨rfl,rfl⟩))
   all_goals
    rw [(IntWalk.i64_left (n-r2)).trans HSH.out.1,(IntWalk.i64_left (1+(n-r2))).trans HSH.out.2];clear hk1 hsub hadd
    go_wp2_with fail
    go_step3
    go_step
    go_step
    have HD':=(HD.out.set 2 (iV (n-r2+1)));have c':=HD'.cell 1;simp only [List.set_cons_zero,List.set_cons_succ,List.getElem?_cons_zero,List.getElem?_cons_succ] at c';refine HON.out _ _ ⟨0,n-r2+1,_,_,_,_,_,_,_,_,_,_,_,_,_,_,_,_,_,_,_,_,_,_,_,_,_,_,_,_,_,_,_,_,_,_,_,_,_,_,_,_,_,_,_,_,_,_,_,_,_,_,_,_,rfl,⟨by have:=H.out.hm;omega,?_⟩,(HR.out.setOther om _ _).below (yaf bR),?_,(HB.out.setCell (show w.heap.size<=w.heap.size+1 by omega) _).drew⟩ ?_
    ·have h5:=HD0.out
     have e:y-1600=(k:Int):=by have:=HKY.out;omega
     rw [e,HY2.out] at h5;show 0+_=_;omega
    ·have e:y=1600+(k:Int):=HKY.out
     rw [e];exact HD'.below (yaf bR)
    ·have c'':(w1.setCell (Ad (w.heap.size+1) 2) (iV (n-r2+1))).drew.cell? (Ad (w.heap.size+1) 1)=some (iV 1):=c'
     rw [c'',c0,yfi,yev];have:=HKY.out;exact yys om om
 case pass1 =>
  clear hq2 hq3 hq4;intro a1 w1 hJ J' hback;obtain ⟨k,e,hJ⟩:=hJ
  iterate 52 obtain ⟨_,hJ⟩:=hJ
  obtain ⟨rfl,⟨hk,hs⟩,HR,HD,HB⟩:=hJ;have HBACK:=lh hback;have HS:=lh hs;clear hback hs;obtain ⟨c0,c1,-⟩:=HD.out.cs [0,1];have f1:=HD.out.frozen 1;have c2:=HD.out.cell 2;have f2:=HD.out.frozen 2;simp only [gz,gs] at c0 c1 c2;obtain ⟨r,hr⟩:∃r,lenM y ((k:Int)+1)=r:=⟨_,rfl⟩;have HL:=lh hr;have hm:=H.out.hm;have hd:=H.out.hd;have hr28:=ydb y (m:=(k:Int)+1) om;rw [hr] at hr28
  by_cases hc:(k:Int)+1<m
  ·have hs1:=yeg y (i:=k+1) (j:=(m-1).toNat) om om
   have hs2:sumM y (k+1)=sumM y k+r:= by
    rw [<-hr];rfl
   have hlt:r<e:=by have:=HS.out;omega
   have hen:wrap64 (e-r)=e-r:= by
    have:=HS.out;have h0:=yeg y (Nat.zero_le k) om;have h12:=yeg y (i:=(m-1).toNat) (j:=12) om (Nat.le_refl _);have h13:=ym1 y;have h14:=ydb y hm;have e0:sumM y 0=0:=rfl;exact IntWalk.wrap64_in _ ⟨by omega,by split at h13 <;> omega⟩
   have hmn:wrap64 ((k:Int)+1+1)=(k:Int)+1+1:=IntWalk.wrap64_in _ ⟨by omega,by omega⟩;have HS2:=lh hs2;have HC:=lh hc;clear hr hc hm hd hr28 hs1 hs2
   go_wp2_with (first | (go_at_call 151;refine (ygj _ _ (by have:=H.out.hy;omega) r HL _).mono ?_;rintro _ _ ⟨rfl,rfl⟩))
   go_step3
   clear hen hmn;have HD':=((HD.out.set 2 (iV (e-r))).set 1 (iV ((k:Int)+1+1)));have c':=HD'.cell 1;simp only [List.set_cons_zero,List.set_cons_succ,List.getElem?_cons_zero,List.getElem?_cons_succ] at c';refine HBACK.out _ _ ⟨k+1,e-r,_,_,_,_,_,_,_,_,_,_,_,_,_,_,_,_,_,_,_,_,_,_,_,_,_,_,_,_,_,_,_,_,_,_,_,_,_,_,_,_,_,_,_,_,_,_,_,_,_,_,_,_,rfl,⟨by have:=HC.out;omega,by have:=HS.out;have:=HS2.out;omega⟩,(HR.out.setOther om _ _).setOther om _ _,?_,(HB.out.setCell (show w.heap.size<=w.heap.size+1 by omega) _).setCell (show w.heap.size<=w.heap.size+1 by omega) _⟩ ?_
   ·exact HD'
   ·rw [c',c1,yev,yev]
    have:=HC.out;have:=H.out.hm;exact yys om om
  ·have hkm:m=(k:Int)+1:=by omega
   have hed:e=d:= by
    have:=HS.out;have e0:(m-1).toNat=k:=by omega
    rw [e0] at this;omega
   subst hed;have hlt:¬r<e:=by rw [<-hr,<-hkm];omega
   obtain ⟨d0,d1,d2,-⟩:=HR.out.cs [0,1,2];simp only [gz,gs] at d0 d1 d2;obtain ⟨q0,q1,q2,-⟩:=HR.out.fs [0,1,2];have HKM:=lh hkm;clear hr hc hm hd hr28 hkm
   go_wp2_with (first | (go_at_call 151;refine (ygj _ _ (by have:=H.out.hy;omega) r HL _).mono ?_;rintro _ _ ⟨rfl,rfl⟩))
   simp only [ydu];refine bodyPost_ret (v:=.tuple #[.agg #[iV y,iV ((k:Int)+1),iV e],iZ]) (by simp [results,Tryz.results150,go_sem,d0,d1,d2]) rfl ⟨by rw [HKM.out],?_⟩;exact ((HB.out.setCell (show w.heap.size<=w.heap.size by omega) _).setCell (show w.heap.size<=w.heap.size by omega) _).setCell (show w.heap.size<=w.heap.size by omega) _
 case first =>
  intro J' hrest;have HRE:=lh hrest;clear hrest;obtain ⟨k,rfl⟩:∃k:Nat,q=(k:Int):=⟨q.toNat,by have:=HQ.out;omega⟩
  go_wp2_with fail
  go_step3
  go_step
  go_step
  clear hq2 hq3 hq4
  have hle:1600+(k:Int)<=y:= by
   have h5:=(ydy H.out).2;have h6:=HQ.out
   by_cases hc:1600+(k:Int)<=y
   ·exact hc
   ·have h7:=yfq (a:=y-1600+1) (b:=(k:Int)) om
    have h8:newY (k:Int) <= -135140+366*(k:Int):=by unfold newY;omega
    omega
  refine HRE.out _ _ ⟨k,_,_,_,_,_,_,_,_,_,_,_,_,_,_,_,_,_,_,_,_,_,_,_,_,_,_,_,_,_,_,_,_,_,_,_,_,_,_,_,_,_,_,_,_,_,_,_,_,_,_,_,_,rfl,hle,Blk.below (ybc w _ _ _ rfl) (yaa bR _),ybc (w.alloc _) _ _ _ (by simp),yaa (yaa bR _) _⟩
noncomputable def yc6 (n:Int):Int×Int×Int:= by
 classical
 exact if h:-135140<=n/\n<=2932896 then ((yhc h.1 h.2).choose,(yhc h.1 h.2).choose_spec.choose,(yhc h.1 h.2).choose_spec.choose_spec.choose) else (0,0,0)
theorem yc4 {n:Int} (h:-135140<=n/\n<=2932896):yhn n (yc6 n).1 (yc6 n).2.1 (yc6 n).2.2:= by
 unfold yc6;rw [dif_pos h];exact (yhc h.1 h.2).choose_spec.choose_spec.choose_spec
theorem ytr {n y m d:Int} (h:yhn n y m d):yc6 n=(y,m,d):= by
 obtain ⟨h1,h2,h3⟩:=yw1 (yc4 (yk8 h)) h;rw [<-h1,<-h2,<-h3]
noncomputable def ydd (from' cyc:Int):Int :=
 if from'-(yc6 from').2.2+cyc-1<from' then from'-(yc6 from').2.2+cyc-1+lenM (yc6 from').1 (yc6 from').2.1 else from'-(yc6 from').2.2+cyc-1
noncomputable def yb8 (from' cyc:Int):Int×Int :=
 if cyc<1\/28<cyc then (0,1) else if from' < -135140\/2932896<from' then (0,10) else if 2932896<ydd from' cyc then (0,10) else (ydd from' cyc,0)
theorem yf9 (from' cyc:Int) (r:Int×Int) (hr:Hid (yb8 from' cyc=r)) (w:World):Calls Tryz.prog 108 #[iV from',iV cyc] w (RetB (.tuple #[iV r.1,iV r.2]) w):= by
 by_cases hc:cyc<1\/28<cyc
 ·have hr1:r=(0,1):=by rw [<-hr.out];unfold yb8;rw [if_pos hc]
  subst hr1;rcases hc with hc | hc
  ·go_enter Tryz.func108,Tryz.ntmps108
   go_wp2
   go_ret2
   exact ⟨rfl,bR⟩
  ·have hc2:¬cyc<1:=by omega
   go_enter Tryz.func108,Tryz.ntmps108
   go_wp2
   go_ret2
   exact ⟨rfl,bR⟩
 ·have hc1:¬cyc<1:=by omega
  have hc2:¬28<cyc:=by omega
  by_cases hf:from' < -135140\/2932896<from'
  ·have hr1:r=(0,10):=by rw [<-hr.out];unfold yb8;rw [if_neg hc,if_pos hf]
   subst hr1;have HF:Hid (from' < -135140\/(-135140<=from'/\2932896<from')):=by show _\/_;omega
   clear hc hf hr
   go_enter Tryz.func108,Tryz.ntmps108
   go_wp2_with fail
   refine (yy9 _ HF.out _).mono ?_;rintro _ w9 ⟨rfl,hb1⟩;go_wp2
   go_ret2
   exact ⟨rfl,yaa hb1 _⟩
  ·have hD:=yc4 (n:=from') om
   obtain ⟨y,m,d,hyd⟩:∃y m d,yc6 from'=(y,m,d):=⟨_,_,_,rfl⟩;rw [hyd] at hD;simp only at hD;have HD:=lh hD;have hd31:=ydb y hD.hm;have hd1:=hD.hd;obtain ⟨l0,hl0⟩:∃l0,from'-d+cyc-1=l0:=⟨_,rfl⟩;obtain ⟨ln,hln⟩:∃ln,lenM y m=ln:=⟨_,rfl⟩;have HLN:=lh hln;rw [hln] at hd31
   have hR:Hid ((if 2932896<(if l0<from' then l0+ln else l0) then ((0:Int),(10:Int)) else ((if l0<from' then l0+ln else l0),0))=r):= by
    show _=_;rw [<-hr.out];unfold yb8 ydd;rw [if_neg hc,if_neg hf,hyd];simp only;rw [hl0,hln]
   have w1:wrap64 (from'-d)=from'-d:=IntWalk.wrap64_in _ ⟨by omega,by omega⟩;have w2:wrap64 (from'-d+cyc)=from'-d+cyc:=IntWalk.wrap64_in _ ⟨by omega,by omega⟩;have w3:wrap64 (from'-d+cyc-1)=l0:=by rw [hl0];exact IntWalk.wrap64_in _ ⟨by omega,by omega⟩
   have w4:wrap64 (l0+ln)=l0+ln:=IntWalk.wrap64_in _ ⟨by omega,by omega⟩;have HL0:=lh hl0;clear hc hf hr hD hyd hd31 hd1 hl0 hln
   by_cases c1:l0<from'
   ·rw [if_pos c1] at hR
    by_cases c2:2932896<l0+ln
    ·have hr1:r=(0,10):=by rw [<-hR.out,if_pos c2]
     subst hr1;clear hR
     go_enter Tryz.func108,Tryz.ntmps108
     go_wp2_with fail
     refine (yjn _ y m d HD.out _).mono ?_;rintro _ w9 ⟨rfl,hb1⟩
     go_wp2_with (first | (go_at_call 151;refine (ygj _ _ (by have:=HD.out.hy;omega) ln HLN _).mono ?_;rintro _ _ ⟨rfl,rfl⟩))
     go_ret2
     exact ⟨rfl,yaa hb1 _⟩
    ·have hr1:r=(l0+ln,0):=by rw [<-hR.out,if_neg c2]
     subst hr1;clear hR
     go_enter Tryz.func108,Tryz.ntmps108
     go_wp2_with fail
     refine (yjn _ y m d HD.out _).mono ?_;rintro _ w9 ⟨rfl,hb1⟩
     go_wp2_with (first | (go_at_call 151;refine (ygj _ _ (by have:=HD.out.hy;omega) ln HLN _).mono ?_;rintro _ _ ⟨rfl,rfl⟩))
     go_ret2
     refine ⟨?_,yaa hb1 _⟩;show Ending.returned (.tuple #[iV (wrap64 (l0+ln)),iZ])=_;rw [w4]
   ·rw [if_neg c1] at hR
    by_cases c2:2932896<l0
    ·have hr1:r=(0,10):=by rw [<-hR.out,if_pos c2]
     subst hr1;clear hR
     go_enter Tryz.func108,Tryz.ntmps108
     go_wp2_with fail
     refine (yjn _ y m d HD.out _).mono ?_;rintro _ w9 ⟨rfl,hb1⟩;go_wp2
     go_ret2
     exact ⟨rfl,yaa hb1 _⟩
    ·have hr1:r=(l0,0):=by rw [<-hR.out,if_neg c2]
     subst hr1;clear hR
     go_enter Tryz.func108,Tryz.ntmps108
     go_wp2_with fail
     refine (yjn _ y m d HD.out _).mono ?_;rintro _ w9 ⟨rfl,hb1⟩;go_wp2
     go_ret2
     refine ⟨?_,yaa hb1 _⟩;show Ending.returned (.tuple #[iV (wrap64 (from'-d+cyc-1)),iZ])=_;rw [w3]
theorem yx7 {W w1:World} (hb:BW W w1):(∀b o,b<W.heap.size->w1.cell? (Ad b o)=W.cell? (Ad b o))/\(∀b o,b<W.heap.size->w1.frozen? (Ad b o)=W.frozen? (Ad b o)) :=
 ⟨fun b o h=>hb.cell (p:=(Ad b o)) h,fun b o h=>hb.frozen (p:=(Ad b o)) h⟩
theorem yao {a b:World} {g o:Nat} {v:Value} (h:BW a b) (hg:a.heap.size<=g):BW a (b.setCell (Ad g o) v):=h.setCell (p:=(Ad g o)) hg v
theorem ja1 {a b c:World} {g:Nat} (h:BW a b) (hg:b.grownBy c (some g)) (hge:a.heap.size<=g):BW a c:=h.grown hg h.size (fun k hk=>by cases hk;exact hge)
def yf0 (v:Int) (k:Nat):Int:=v/2 ^ k%256
def be8 (v:Int):List Int:=[yf0 v 56,yf0 v 48,yf0 v 40,yf0 v 32,yf0 v 24,yf0 v 16,yf0 v 8,yf0 v 0]
theorem yie (v:Int):(be8 v).length=8:=rfl
theorem yav (x:Int):IntKind.u64.wrap x=x%18446744073709551616:=by simp [IntKind.wrap,IntKind.bits,IntKind.signed]
theorem yy5 (v:Int) {j:Nat} (hj:j<8):(be8 v)[j]?=some (yf0 v (56-8*j)):= by
 have:j=0\/j=1\/j=2\/j=3\/j=4\/j=5\/j=6\/j=7:=by omega
 rcases this with rfl | rfl | rfl | rfl | rfl | rfl | rfl | rfl <;> rfl
theorem yma (v:Int) {j:Nat} (hj:j<8):(be8 v).take (j+1)=(be8 v).take j++[yf0 v (56-8*j)]:= by
 rw [List.take_add_one,yy5 v hj];rfl
end Go.Proofs.YtkongpjpkpfniaaGreat

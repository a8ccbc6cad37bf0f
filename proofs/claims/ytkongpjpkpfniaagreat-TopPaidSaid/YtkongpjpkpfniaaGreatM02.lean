/- TopPaid: parts of the proof, made small by a program (mini.py). -/
import Derived.IntWalk
import Derived.Deep.QuietTactic
import Derived.Lib.SliceRun
import Derived.Test.YtkongpjpkpfniaaGreatM01
set_option linter.unusedVariables false
set_option linter.unusedSimpArgs false
set_option maxRecDepth 100000
set_option maxHeartbeats 6400000
namespace Go.Proofs.YtkongpjpkpfniaaGreat
open Go.RowKit
theorem zq02e414 {q:Prop} (h:q:= by
 have:=heap_alloc_new (w.alloc (.cells #[.slice ao bs.length cap,iV c,iV d] 35)) (.cells #[sZ,iZ,iZ] 35)
 simpa [Blk,Hid] using this):q:=h
theorem zq02ae3a {q:Prop} (h:q:= by
 rintro e w1 ⟨rfl,rfl⟩;go_wp2
 go_step3
 go_step
 go_step
 exact HREST.out _ _ (x10 (x10 (x10 (x10 (x10 (x10 ⟨_,_,_,_,_,_,_,_,_,rfl,h6,hb⟩))))))):q:=h
theorem zq029664 {q:Prop} (h:q:= by
 go_wp2_with fail
 refine (ybz MC.out _).mono ?_;rintro _ w1 ⟨rfl,rfl⟩
 go_wp2_with fail
 refine (ybz MD.out _).mono ?_;rintro _ w1 ⟨rfl,rfl⟩;go_wp2
 go_ret
 exact ⟨rfl,hb0⟩):q:=h
theorem zq02969b {q:Prop} (h:q:= by
 go_wp2
 go_step3
 exact ⟨rfl,HJ.out _ _ (x10 (x10 (x10 (x10 (x10 (x10 ⟨_,_,_,_,_,_,_,_,_,rfl,h6,hb0⟩))))))⟩):q:=h
def yd7 (ts:List (Int×Bool)):Bool:=ts.all (fun x=>betw x.1 0 10000000)
def yaw (lim:Int) (ts:List (Int×Bool)) (cyc dued minf minp start:Int):Bool :=
 betw lim 0 1000000000000000 && betw ts.length 1 8 && yd7 ts && (betw cyc 1 28 && betw dued 1 25) &&
  betw minf 0 1000000000000000 && betw minp 0 1000 && betw start (-135140) 2922896
theorem ydr {v a b:Int}:betw v a b=true↔a≤v∧v≤b:=by simp [betw]
theorem yty {v a b:Int}:betw v a b=false↔v<a∨b<v:= by
 rw [←Bool.not_eq_true,ydr];omega
theorem yvq {ts:List (Int×Bool)} {k:Nat} (hk:k<ts.length) {x:Int} {g:Bool} (he:ts.getD k (0,false)=(x,g)) (h:betw x 0 10000000=false):yd7 ts=false:= by
 unfold yd7;rw [List.all_eq_false];refine ⟨(x,g),?_,by simp [h]⟩;rw [←he];simp [List.getD,hk]
theorem ytj {ts:List (Int×Bool)} (h:∀j,j<ts.length→betw (ts.getD j (0,false)).1 0 10000000=true):yd7 ts=true:= by
 unfold yd7;rw [List.all_eq_true];intro x hx;obtain ⟨j,hj,rfl⟩:=List.getElem_of_mem hx;have:=h j hj
 simpa [List.getD,hj] using this
def TB (w:World) (g:Nat) (lim:Int) (v:Value) (cyc dued minf minp start:Int):Prop :=
 w.cell? ⟨g,0,none⟩=some (iV lim)∧w.cell? ⟨g,1,none⟩=some v∧w.cell? ⟨g,2,none⟩=some (iV cyc)∧w.cell? ⟨g,3,none⟩=some (iV dued) ∧
  w.cell? ⟨g,4,none⟩=some (iV minf)∧w.cell? ⟨g,5,none⟩=some (iV minp)∧w.cell? ⟨g,6,none⟩=some (iV start)
theorem TB.below {w w':World} {g:Nat} {lim:Int} {v:Value} {cyc dued minf minp start:Int} (h:TB w g lim v cyc dued minf minp start) (hb:Below w.heap.size w w'):TB w' g lim v cyc dued minf minp start:= by
 obtain ⟨h0,h1,h2,h3,h4,h5,h6⟩:=h;have q:∀i x,w.cell? ⟨g,i,none⟩=some x→w'.cell? ⟨g,i,none⟩=some x:=fun i x hx=>(hb.cell (p:=⟨g,i,none⟩) (yac hx)).trans hx;exact ⟨q _ _ h0,q _ _ h1,q _ _ h2,q _ _ h3,q _ _ h4,q _ _ h5,q _ _ h6⟩
theorem TB.new (w:World) (e:TypeId) (lim:Int) (v:Value) (cyc dued minf minp start:Int) :
 TB (w.alloc (.cells #[iV lim,v,iV cyc,iV dued,iV minf,iV minp,iV start] e)) w.heap.size lim v cyc dued minf minp start:= by
 have h:Blk (w.alloc (.cells #[iV lim,v,iV cyc,iV dued,iV minf,iV minp,iV start] e)) w.heap.size e [iV lim,v,iV cyc,iV dued,iV minf,iV minp,iV start]:=heap_alloc_new w _;refine ⟨?_,?_,?_,?_,?_,?_,?_⟩ <;> (rw [h.cell];rfl)
theorem yar (v:Value) (ts:List (Int×Bool)) (lim cyc dued minf minp start:Int) (r:Int) (hr:Hid ((if yaw lim ts cyc dued minf minp start=true then 0 else 6)=r)) (w:World) (hv:TrS w v ts) :
 Calls Tryz.prog 27 #[.agg #[iV lim,v,iV cyc,iV dued,iV minf,iV minp,iV start]] w (RetB (iV r) w):= by
 have HV:=lh hv;obtain ⟨ao,cap,rfl,h1,⟨h2,_⟩,h3⟩:=hv;clear h3;unfold maxLen at h2;have HR6:Hid (yaw lim ts cyc dued minf minp start=false→r=6):=fun h=>by rw [←hr.out,h];rfl
 have HR0:Hid (yaw lim ts cyc dued minf minp start=true→r=0):=fun h=>by rw [←hr.out,h];rfl
 clear hr;have hT:=TB.new w 24 lim (.slice ao ts.length cap) cyc dued minf minp start;have hb0:Below w.heap.size w (w.alloc (.cells #[iV lim,.slice ao ts.length cap,iV cyc,iV dued,iV minf,iV minp,iV start] 24)):=bR.alloc (Nat.le_refl _) _
 go_enter Tryz.func27,Tryz.ntmps27
 go_wp2
 refine yai 0 (fun a' w'=>∃(u0 u1 u2 u3 u4 u5 u6 u7 u8 u9 u10 u11 u12 u13 u14 u15 u16 u17 u18 u19 u20 u21 u22 u23 u24 u25 u26 u27 u28 u29 u30 u31 u32 u33 u34 u35 u36 u37 u38 u39 u40 u41 u42 u43 u44 u45 u46 u47 u48 u49 u50 u51 u52 u53 u54 u55 u56 u57 u58 u59 u60 u61 u62 u63 u64 u65 u66 u67 u68:Value),a'={ tmps:=#[u0,u1,u2,u3,u4,u5,u6,u7,u8,u9,u10,u11,u12,u13,u14,u15,u16,u17,u18,u19,u20,u21,u22,u23,u24,u25,u26,u27,u28,u29,u30,u31,u32,u33,u34,u35,u36,u37,u38,u39,u40,u41,u42,u43,u44,u45,u46,u47,u48,u49,u50,u51,u52,u53,u54,u55,u56,u57,u58,u59,u60,u61,u62,u63,u64,u65,u66,u67,u68],defers:=[] }∧Hid (r=6)∧Below w.heap.size w w')
  (fun _ _=>0) rfl ?pass ?first
 case pass =>
  intro a1 w1 hJ J' hJ';clear hJ'
  iterate 69 obtain ⟨_,hJ⟩:=hJ
  obtain ⟨rfl,h6,hb⟩:=hJ;go_wp2
  simp only [Exit.jump];go_ret
  rw [h6.out];exact ⟨rfl,hb⟩
 case first =>
  intro J' hJJ hrest;have HJ:=lh hJJ;have HREST:=lh hrest;clear hJJ hrest;cases hA:betw lim 0 1000000000000000 with
  | false =>
   have h6:=lh (HR6.out (by simp [yaw,hA]));have HA:=lh hA;clear hA
   go_wp2_with fail
   refine (yb0 HA.out _).mono ?_;rintro e w1 ⟨rfl,rfl⟩;exact zq02969b
  | true =>
   have HA:=lh hA;clear hA;cases hB:betw ts.length 1 8 with
   | false =>
    have h6:=lh (HR6.out (by simp [yaw,hB]));rw [yty] at hB
    go_wp2_with fail
    refine (yb0 HA.out _).mono ?_;rintro e w1 ⟨rfl,rfl⟩
    by_cases hB1:(ts.length:Int)<1
    ·have d1:decide ((ts.length:Int)<1)=true:=by simpa using hB1
     clear hB hB1;exact zq02969b
    ·have d1:decide ((ts.length:Int)<1)=false:=by simpa using hB1
     have d2:decide ((8:Int)<(ts.length:Int))=true:=by simp;omega
     clear hB hB1;exact zq02969b
   | true =>
    have HB:=lh hB;rw [ydr] at hB;have d1:decide ((ts.length:Int)<1)=false:=by simp;omega
    have d2:decide ((8:Int)<(ts.length:Int))=false:=by simp;omega
    clear hB
    go_wp2_with fail
    refine (yb0 HA.out _).mono ?_;rintro e w1 ⟨rfl,rfl⟩
    go_wp2_with fail
    go_loopg [24] ts.length (fun g i wr=>∃k:Nat,k+g=ts.length∧i=iV k∧Hid (∀j,j<k→betw (ts.getD j (0,false)).1 0 10000000=true)∧Below (w.alloc (.cells #[iV lim,.slice ao ts.length cap,iV cyc,iV dued,iV minf,iV minp,iV start] 24)).heap.size (w.alloc (.cells #[iV lim,.slice ao ts.length cap,iV cyc,iV dued,iV minf,iV minp,iV start] 24)) wr)
    case atStart=>exact ⟨0,by omega,rfl,fun j hj=>absurd hj om,bR⟩
    case round =>
     obtain ⟨k,hkg,rfl,HN,hbr⟩:=hrel;have hb:Below w.heap.size w wr:=yad hb0 hbr;have hTr:=hT.below hbr;cases gk with
     | zero =>
      have hlt:¬((k:Int)<(ts.length:Int)):=by omega
      have HC:=lh (ytj fun j hj=>HN.out j om);obtain ⟨t0,t1,t2,t3,t4,t5,t6⟩:=hTr;clear hT hb0 hbr;cases hD:(betw cyc 1 28 && betw dued 1 25) with
      | false =>
       have h6:=lh (HR6.out (by simp only [yaw,hD];simp))
       have key:decide (cyc<1)=true∨(decide (cyc<1)=false∧decide (28<cyc)=true)∨(decide (cyc<1)=false∧decide (28<cyc)=false∧decide (dued<1)=true)∨(decide (cyc<1)=false∧decide (28<cyc)=false∧decide (dued<1)=false∧decide (25<dued)=true):= by
        simp only [betw,Bool.and_eq_false_iff,decide_eq_false_iff_not,decide_eq_true_eq] at hD ⊢;omega
       clear hD;rcases key with d1 | ⟨d1,d2⟩ | ⟨d1,d2,d3⟩ | ⟨d1,d2,d3,d4⟩
       all_goals
        go_wp2
        go_step3
        exact ⟨rfl,HJ.out _ _ (x10 (x10 (x10 (x10 (x10 (x10 ⟨_,_,_,_,_,_,_,_,_,rfl,h6,hb⟩))))))⟩
      | true =>
       have HD:=lh hD
       have key:decide (cyc<1)=false∧decide (28<cyc)=false∧decide (dued<1)=false∧decide (25<dued)=false:= by
        simp only [betw,Bool.and_eq_true,decide_eq_true_eq,decide_eq_false_iff_not] at hD ⊢;omega
       obtain ⟨d1,d2,d3,d4⟩:=key;clear hD;cases hE:betw minf 0 1000000000000000 with
       | false =>
        have h6:=lh (HR6.out (by simp only [yaw,hE];simp));have HE:=lh hE;clear hE
        go_wp2_with fail
        refine (yb0 HE.out _).mono ?_;exact zq02ae3a
       | true =>
        have HE:=lh hE;clear hE;cases hF:betw minp 0 1000 with
        | false =>
         have h6:=lh (HR6.out (by simp only [yaw,hF];simp));have HF:=lh hF;clear hF
         go_wp2_with fail
         refine (yb0 HE.out _).mono ?_;rintro e w1 ⟨rfl,rfl⟩
         go_wp2_with fail
         refine (yb0 HF.out _).mono ?_;exact zq02ae3a
        | true =>
         have HF:=lh hF;clear hF;cases hG:betw start (-135140) 2922896 with
         | false =>
          have h6:=lh (HR6.out (by simp only [yaw,hG];simp))
          have key:decide (-135140≤start)=false∨(decide (-135140≤start)=true∧decide (start≤2922896)=false):= by
           simp only [betw,Bool.and_eq_false_iff,decide_eq_false_iff_not,decide_eq_true_eq] at hG ⊢;omega
          clear hG;rcases key with d5 | ⟨d5,d6⟩
          all_goals
           go_wp2_with fail
           refine (yb0 HE.out _).mono ?_;rintro e w1 ⟨rfl,rfl⟩
           go_wp2_with fail
           refine (yb0 HF.out _).mono ?_;rintro e w1 ⟨rfl,rfl⟩;go_wp2
           go_step3
           go_step
           go_step
           exact HREST.out _ _ (x10 (x10 (x10 (x10 (x10 (x10 ⟨_,_,_,_,_,_,_,_,_,rfl,h6,hb⟩))))))
         | true =>
          have h0:=lh (HR0.out (by simp only [yaw,HA.out,HB.out,HC.out,HD.out,HE.out,HF.out,hG];rfl))
          have key:decide (-135140≤start)=true∧decide (start≤2922896)=true:= by
           simp only [betw,Bool.and_eq_true,decide_eq_true_eq] at hG ⊢;omega
          obtain ⟨d5,d6⟩:=key;clear hG
          go_wp2_with fail
          refine (yb0 HE.out _).mono ?_;rintro e w1 ⟨rfl,rfl⟩
          go_wp2_with fail
          refine (yb0 HF.out _).mono ?_;rintro e w1 ⟨rfl,rfl⟩;go_wp2
          simp only [Exit.jump];go_ret
          rw [h0.out];exact ⟨rfl,hb⟩
     | succ g =>
      have hlt:(k:Int)<(ts.length:Int):=by omega
      obtain ⟨b,o,x,gr,rfl,hc1,hc2,HX⟩:=(HV.out.below hb).get (i:=k) om;obtain ⟨t0,t1,t2,t3,t4,t5,t6⟩:=hTr;clear hT hb0;cases hD:betw x 0 10000000 with
      | false =>
       have h6:=lh (HR6.out (by simp only [yaw,yvq om HX.out hD];simp));have HD:=lh hD;clear hD
       go_wp2_with fail
       refine (yb0 HD.out _).mono ?_;rintro e w1 ⟨rfl,rfl⟩;go_wp2
       go_step3
       exact ⟨rfl,HJ.out _ _ (x10 (x10 (x10 (x10 (x10 (x10 ⟨_,_,_,_,_,_,_,_,_,rfl,h6,bL⟩))))))⟩
      | true =>
       have HD:=lh hD;clear hD
       go_wp2_with fail
       refine (yb0 HD.out _).mono ?_;rintro e w1 ⟨rfl,rfl⟩;go_wp2
       go_roundg g
       case measure=>omega
       case rel=>exact ⟨k+1,by omega,by go_num,fun j hj=>by
        rcases Nat.lt_succ_iff_lt_or_eq.1 hj with h' | rfl
        ·exact HN.out j h'
        ·rw [HX.out];exact HD.out,bL⟩
def may0 (v:Int):Bool:=decide (0≤v) && decide (v≤1000000000000000)
theorem ybv {v:Int}:may0 v=true↔0≤v∧v≤1000000000000000:=by simp [may0]
theorem ypu (v:Int) (w:World):Calls Tryz.prog 192 #[iV v] w (Ret (.bool (may0 v)) w):= by
 by_cases h1:0≤v
 ·by_cases h2:v≤1000000000000000
  ·go_enter Tryz.func192,Tryz.ntmps192
   go_wp2
   go_ret
   simp [Ret,may0,h1,h2]
  ·go_enter Tryz.func192,Tryz.ntmps192
   go_wp2
   go_ret
   simp [Ret,may0,h2]
 ·go_enter Tryz.func192,Tryz.ntmps192
  go_wp2
  go_ret
  simp [Ret,may0];omega
theorem ybz {v:Int} {r:Bool} (h:may0 v=r) (w:World):Calls Tryz.prog 192 #[iV v] w (Ret (.bool r) w):=by rw [←h];exact ypu v w
def yc0 (all:Int):List Int→Option Int
 | []=>some all
 | v::l=>if may0 v=true∧may0 (all+v)=true then yc0 (all+v) l else none
theorem yln {all:Int} {xs:List Int} {k:Nat} (hk:k<xs.length):yc0 all (xs.drop k)=if may0 (xs.getD k 0)=true∧may0 (all+xs.getD k 0)=true then yc0 (all+xs.getD k 0) (xs.drop (k+1)) else none:= by
 rw [List.drop_eq_getElem_cons hk];simp [yc0,List.getD,hk]
def yat (bs:List Int) (c d:Int):Bool :=
 match yc0 0 bs with
 | none=>false
 | some all=>decide (1≤bs.length) && decide (bs.length≤8) && may0 c && may0 d && (c == 0 || all == 0)
def PB (w:World) (g:Nat) (v:Value) (c d:Int):Prop:=w.cell? ⟨g,0,none⟩=some v∧w.cell? ⟨g,1,none⟩=some (iV c)∧w.cell? ⟨g,2,none⟩=some (iV d)
theorem PB.below {w w':World} {g:Nat} {v:Value} {c d:Int} (h:PB w g v c d) (hb:Below w.heap.size w w'):PB w' g v c d:= by
 obtain ⟨h0,h1,h2⟩:=h;have q:∀i x,w.cell? ⟨g,i,none⟩=some x→w'.cell? ⟨g,i,none⟩=some x:=fun i x hx=>(hb.cell (p:=⟨g,i,none⟩) (yac hx)).trans hx;exact ⟨q _ _ h0,q _ _ h1,q _ _ h2⟩
theorem PB.new (w:World) (e:TypeId) (v:Value) (c d:Int):PB (w.alloc (.cells #[v,iV c,iV d] e)) w.heap.size v c d:= by
 have h:Blk (w.alloc (.cells #[v,iV c,iV d] e)) w.heap.size e [v,iV c,iV d]:=heap_alloc_new w _;refine ⟨?_,?_,?_⟩ <;> (rw [h.cell];rfl)
theorem ya0 (v:Value) (bs:List Int) (c d:Int) (r:Bool) (hr:Hid (yat bs c d=r)) (hlen:bs.length≤1000000) (w:World) (hv:Sl .i64 w v bs) :
 Calls Tryz.prog 154 #[.agg #[v,iV c,iV d]] w (RetB (.bool r) w):= by
 have HV:=lh hv;obtain ⟨ao,cap,rfl,h1,⟨h2,_⟩,h3⟩:=hv;clear h3;unfold maxLen at h2;have HP:=lh (PB.new w 35 (.slice ao bs.length cap) c d);obtain ⟨p0,p1,p2⟩:=HP.out;have hb0:Below w.heap.size w (w.alloc (.cells #[.slice ao bs.length cap,iV c,iV d] 35)):=yaa bR _;have HSV:=lh (HV.out.below hb0);clear HP HV
 go_enter Tryz.func154,Tryz.ntmps154
 go_wp2_with fail
 obtain ⟨W,hW,gp0,gp1,gp2,gb0,GSV⟩:∃W,(w.alloc (.cells #[.slice ao bs.length cap,iV c,iV d] 35))=W∧W.cell? ⟨w.heap.size,0,none⟩=some (.slice ao bs.length cap)∧W.cell? ⟨w.heap.size,1,none⟩=some (iV c)∧W.cell? ⟨w.heap.size,2,none⟩=some (iV d)∧Below w.heap.size w W∧Hid (Sl .i64 W (.slice ao bs.length cap) bs):=⟨_,rfl,p0,p1,p2,hb0,HSV⟩
 with_reducible rw [hW]
 clear hW p0 p1 p2 hb0 HSV;have hb0:=gb0;have HSV:=GSV;go_loopg [3,9] bs.length (fun g a i wr=>∃(k:Nat) (all:Int),k+g=bs.length∧i=iV k∧a=iV all∧Hid (yc0 all (bs.drop k)=yc0 0 bs)∧Hid (0≤all∧all≤1000000000000000)∧W=wr)
 case atStart=>exact ⟨0,0,by omega,rfl,rfl,rfl,lh om,rfl⟩
 case round =>
  obtain ⟨k,all,hkg,rfl,rfl,hA,hB,rfl⟩:=hrel;cases gk with
  | zero =>
   have hlt:¬((k:Int)<(bs.length:Int)):=by omega
   have hs:yc0 0 bs=some all:= by
    rw [←hA.out,List.drop_of_length_le om]
    rfl
   have hr2:=hr.out;unfold yat at hr2;rw [hs] at hr2;have HR:=lh hr2;clear hr2 hs hA hr
   by_cases l1:1≤bs.length
   ·have d1:decide ((1:Int)≤(bs.length:Int))=true:=by simp;omega
    by_cases l2:bs.length≤8
    ·have d2:decide ((bs.length:Int)≤8)=true:=by simp;omega
     cases mc:may0 c with
     | false =>
      obtain rfl:false=r:=by rw [←HR.out,mc];simp
      have MC:=lh mc;clear mc HR
      go_wp2_with fail
      refine (ybz MC.out _).mono ?_;rintro _ w1 ⟨rfl,rfl⟩;go_wp2
      go_ret
      exact ⟨rfl,hb0⟩
     | true =>
      have MC:=lh mc;cases md:may0 d with
      | false =>
       obtain rfl:false=r:=by rw [←HR.out,md];simp
       have MD:=lh md;clear mc md HR;exact zq029664
      | true =>
       have MD:=lh md;have HR2:Hid ((c == 0 || all == 0)=r):=by show _=_;rw [←HR.out,mc,md];simp [l1,l2]
       clear mc md HR;rcases (show (c == 0)=true∨((c == 0)=false) by cases c == 0 <;> simp) with e0 | e0
       ·obtain rfl:true=r:=by rw [←HR2.out,e0];rfl
        clear HR2;exact zq029664
       ·have e1:(all == 0)=r:=by rw [←HR2.out,e0];rfl
        clear HR2
        go_wp2_with fail
        refine (ybz MC.out _).mono ?_;rintro _ w1 ⟨rfl,rfl⟩
        go_wp2_with fail
        refine (ybz MD.out _).mono ?_;rintro _ w1 ⟨rfl,rfl⟩;go_wp2
        go_ret
        first | exact ⟨rfl,hb0⟩ | (refine ⟨?_,hb0⟩;rw [←e1];rfl)
    ·have d2:decide ((bs.length:Int)≤8)=false:=by simp;omega
     obtain rfl:false=r:=by rw [←HR.out];simp [l2]
     clear HR;go_wp2
     go_ret
     exact ⟨rfl,hb0⟩
   ·have d1:decide ((1:Int)≤(bs.length:Int))=false:=by simp;omega
    obtain rfl:false=r:=by rw [←HR.out];simp [l1]
    clear HR;go_wp2
    go_ret
    exact ⟨rfl,hb0⟩
  | succ g =>
   have hlt:(k:Int)<(bs.length:Int):=by omega
   obtain ⟨b,o,y,rfl,hcell,HX⟩:=HSV.out.get (i:=k) om;have hst:=yln (all:=all) (xs:=bs) (k:=k) om;rw [HX.out,hA.out] at hst;have HST:=lh hst;clear hA hst;have hno:yc0 0 bs=none→false=r:=fun h=>by rw [←hr.out];unfold yat;rw [h]
   have HNO:=lh hno;clear hno;cases hm:may0 y with
   | false =>
    obtain rfl:false=r:=HNO.out (by rw [HST.out,hm];simp);have HM:=lh hm;clear hm HST HNO
    go_wp2_with fail
    refine (ybz HM.out _).mono ?_;rintro _ w1 ⟨rfl,rfl⟩;go_wp2
    go_ret
    exact ⟨rfl,hb0⟩
   | true =>
    have hy:=ybv.1 hm;have hall:=hB.out;obtain ⟨s,hs⟩:∃s,all+y=s:=⟨_,rfl⟩;have hwr2:wrap64 s=s:=by rw [←hs];unfold wrap64;omega
    have hwr3:wrap64 (all+y)=s:=by rw [hs];exact hwr2
    have HW3:=lh hwr3;rw [hs] at HST;have HM:=lh hm;cases hm2:may0 s with
    | false =>
     obtain rfl:false=r:=HNO.out (by rw [HST.out,hm2];simp);have HM2:=lh hm2;clear hm hm2 HST HNO hy hall hs
     go_wp2_with fail
     refine (ybz HM.out _).mono ?_;rintro _ w1 ⟨rfl,rfl⟩
     go_wp2_with fail
     refine (ybz HM2.out _).mono ?_;rintro _ w1 ⟨rfl,rfl⟩;go_wp2
     go_ret
     exact ⟨rfl,hb0⟩
    | true =>
     have HR:Hid (yc0 s (bs.drop (k+1))=yc0 0 bs):= by
      have:=HST.out;rw [if_pos ⟨hm,hm2⟩] at this;exact this.symm
     have hs2:=ybv.1 hm2;have HM2:=lh hm2;have HS2:=lh hs2;clear hm hm2 HST HNO hy hall hs hs2
     go_wp2_with fail
     refine (ybz HM.out _).mono ?_;rintro _ w1 ⟨rfl,rfl⟩
     go_wp2_with fail
     refine (ybz HM2.out _).mono ?_;rintro _ w1 ⟨rfl,rfl⟩;go_wp2
     go_roundg g
     case measure=>omega
     case rel=>exact ⟨k+1,s,by omega,by go_num,by first | rfl | exact congrArg (Value.int .i64) HW3.out,HR,HS2,rfl⟩
namespace EvM
def evenN (n d:Nat):Nat:=if n%d<d-n%d∨(n%d=d-n%d∧n/d%2=0) then n/d else n/d+1
theorem even_ge (n d:Nat):n/d≤evenN n d:=by unfold evenN;split <;> omega
theorem even_le (n d:Nat):evenN n d≤n/d+1:=by unfold evenN;split <;> omega
theorem even_mul (q d:Nat) (hd:0<d):evenN (q*d) d=q:= by
 unfold evenN;rw [Nat.mul_mod_left,Nat.mul_div_cancel _ hd,if_pos om]
theorem even_mono {m n d:Nat} (hd:0<d) (h:m≤n):evenN m d≤evenN n d:= by
 have h0:m/d≤n/d:=Nat.div_le_div_right h
 by_cases h1:m/d=n/d
 ·have h3:=Nat.div_add_mod' m d
  have h4:=Nat.div_add_mod' n d;have h5:=Nat.mod_lt m hd;have h6:=Nat.mod_lt n hd;unfold evenN;rw [h1] at h3 ⊢;obtain ⟨q,hq⟩:∃q,n/d=q:=⟨_,rfl⟩;obtain ⟨r,hr⟩:∃r,n%d=r:=⟨_,rfl⟩;obtain ⟨s,hs⟩:∃r,m%d=r:=⟨_,rfl⟩;rw [hq,hr] at h4;rw [hq,hs] at h3;rw [hs] at h5;rw [hr] at h6;rw [hq,hr,hs];generalize q*d=A at *
  split <;> split <;> omega
 ·have:=even_le m d;have:=even_ge n d;omega
end EvM
namespace EvM
def evQ (hi lo den:Int):Int×Bool :=
 if den≤hi then (0,false) else
 if evenN (hi*18446744073709551616+lo).toNat den.toNat<18446744073709551616 then ((evenN (hi*18446744073709551616+lo).toNat den.toNat:Int),true) else (0,false)
def mayM (v:Int):Bool:=decide (-1000000000000000≤v) && decide (v≤1000000000000000)
def shQ (a num den:Int):Nat:=evenN (a.natAbs*num.toNat) den.toNat
def shareR (a num den:Int):Int×Int :=
 if num<0∨den≤0 then (0,1) else if mayM a=false then (0,5) else if 1000000000000000<shQ a num den then (0,5) else (if a<0 then -(shQ a num den:Int) else (shQ a num den:Int),0)
theorem mayM_iff {v:Int}:mayM v=true ↔ -1000000000000000≤v∧v≤1000000000000000:=by simp [mayM]
theorem shQ_ev (a num den q:Int) (b:Bool) (_hn:0≤num) (hd:0<den) (h:evQ ((a.natAbs*num.toNat/18446744073709551616:Nat):Int) ((a.natAbs*num.toNat%18446744073709551616:Nat):Int) den=(q,b)) :
 (b=true→q=(shQ a num den:Int))∧(b=false→1000000000000000<shQ a num den):= by
 unfold shQ;obtain ⟨m,hm⟩:∃m,a.natAbs*num.toNat=m:=⟨_,rfl⟩;rw [hm] at h ⊢;obtain ⟨d,rfl⟩:=Int.eq_ofNat_of_zero_le (show 0≤den by omega);rw [Int.toNat_natCast];unfold evQ at h
 split at h
 ·rename_i hc
  injection h with h1 h2
  subst h2;refine ⟨fun h=>by simp at h,fun _=>?_⟩;have h3:=even_ge m d;have h4:m/18446744073709551616*18446744073709551616≤m:=Nat.div_mul_le_self _ _;have h5:d*18446744073709551616≤m:=Nat.le_trans (Nat.mul_le_mul_right _ (Int.ofNat_le.1 hc)) h4;have h6:18446744073709551616≤m/d:=(Nat.le_div_iff_mul_le om).2 (by rw [Nat.mul_comm];with_reducible exact h5);omega
 ·rename_i hc
  have e:((m/18446744073709551616:Nat):Int)*18446744073709551616+((m%18446744073709551616:Nat):Int)=(m:Int):=by omega
  rw [e,Int.toNat_natCast,Int.toNat_natCast] at h
  split at h
  ·injection h with h1 h2
   subst h2;subst h1;exact ⟨fun _=>rfl,fun h=>by simp at h⟩
  ·injection h with h1 h2
   subst h2;refine ⟨fun h=>by simp at h,fun _=>by omega⟩
theorem share_ok (a num den:Int) (hn:0≤num) (hd:0<den) (ha:mayM a=true) (hq:shQ a num den≤1000000000000000):shareR a num den=(if a<0 then -(shQ a num den:Int) else (shQ a num den:Int),0):= by
 unfold shareR;rw [if_neg om,if_neg (by rw [ha];simp),if_neg om]
theorem shQ_le (a num den:Int) (_hn:0≤num) (hd:0<den) (h:num≤den):shQ a num den≤a.natAbs:= by
 unfold shQ;have h1:a.natAbs*num.toNat≤a.natAbs*den.toNat:=Nat.mul_le_mul_left _ om;have h2:=even_mono (d:=den.toNat) om h1
 rwa [even_mul _ _ om] at h2
theorem share_neg (a n d:Int) (hn:0≤n) (hd:0<d) (h:n≤d) (ha:mayM a=true):∃u:Int,shareR a n d=(u,0)∧shareR (-a) n d=(-u,0) ∧ -1000000000000000≤u∧u≤1000000000000000:= by
 have h1:=mayM_iff.1 ha;have e:shQ (-a) n d=shQ a n d:=by unfold shQ;rw [Int.natAbs_neg]
 have hb:=shQ_le a n d hn hd h;have ha':mayM (-a)=true:=mayM_iff.2 om;refine ⟨_,share_ok a n d hn hd ha om,?_,?_⟩
 ·rw [share_ok (-a) n d hn hd ha' (by rw [e];omega),e]
  have hz:a=0→shQ a n d=0:=fun h=>by subst h;simp at hb;omega
  congr 1
  by_cases h0:a=0
  ·have:=hz h0;rw [this];simp
  ·by_cases h2:a<0
   ·rw [if_pos h2,if_neg om];omega
   ·rw [if_neg h2,if_pos om]
 ·constructor <;> split <;> omega
end EvM
section
open Go.RowKit EvM
theorem yyv (v:Int) (w:World):Calls Tryz.prog 193 #[iV v] w (Ret (.bool (mayM v)) w):= by
 by_cases h1:-1000000000000000≤v
 ·by_cases h2:v≤1000000000000000
  ·go_enter Tryz.func193,Tryz.ntmps193
   go_wp2
   go_ret
   simp [Ret,mayM,h1,h2]
  ·go_enter Tryz.func193,Tryz.ntmps193
   go_wp2
   go_ret
   simp [Ret,mayM,h1,h2]
 ·go_enter Tryz.func193,Tryz.ntmps193
  go_wp2
  go_ret
  simp [Ret,mayM];omega
theorem yjd {v:Int} {r:Bool} (h:mayM v=r) (w:World):Calls Tryz.prog 193 #[iV v] w (Ret (.bool r) w):=by rw [←h];exact yyv v w
def addG (all:Int):List Int→Int×Int
 | []=>(all,0)
 | v::l=>if mayM v=true∧mayM (all+v)=true then addG (all+v) l else (0,5)
theorem yt4 {all:Int} {xs:List Int} {k:Nat} (hk:k<xs.length):addG all (xs.drop k)=if mayM (xs.getD k 0)=true∧mayM (all+xs.getD k 0)=true then addG (all+xs.getD k 0) (xs.drop (k+1)) else (0,5):= by
 rw [List.drop_eq_getElem_cons hk];simp [addG,List.getD,hk]
theorem yy1 (v:Value) (xs:List Int) (x e:Int) (hx:Hid (addG 0 xs=(x,e))) (hlen:xs.length≤1000000) (w:World) (hv:Sl .i64 w v xs) :
 Calls Tryz.prog 155 #[v] w (RetB (.tuple #[iV x,iV e]) w):= by
 have HV:=lh hv;obtain ⟨ao,cap,rfl,h1,⟨h2,_⟩,h3⟩:=hv;clear h3;unfold maxLen at h2
 go_enter Tryz.func155,Tryz.ntmps155
 go_wp2
 refine yai 0 (fun a' w'=>∃(u0 u1 u2 u3 u4 u5 u6 u7 u8 u9 u10 u11 u12 u13 u14 u15 u16 u17 u18 u19 u20 u21 u22 u23:Value),a'={ tmps:=#[u0,u1,u2,u3,u4,u5,u6,u7,u8,u9,u10,u11,u12,u13,u14,u15,u16,u17,u18,u19,u20,u21,u22,u23],defers:=[] }∧Hid (x=0∧e=5)∧Below w.heap.size w w')
  (fun _ _=>0) rfl ?pass ?first
 case pass =>
  intro a1 w1 hJ J' hJ';clear hJ'
  iterate 24 obtain ⟨_,hJ⟩:=hJ
  obtain ⟨rfl,hqb,hb⟩:=hJ;go_wp2
  simp only [Exit.jump]
  go_ret2
  rw [hqb.out.1,hqb.out.2];exact ⟨rfl,hb⟩
 case first =>
  intro J' hJJ hrest;have HJ:=lh hJJ;clear hJJ hrest
  go_wp2_with fail
  go_loopg [4,9] xs.length (fun g a i wr=>∃(k:Nat) (all:Int),k+g=xs.length∧i=iV k∧a=iV all∧Hid (addG all (xs.drop k)=(x,e))∧Hid (-1000000000000000≤all∧all≤1000000000000000)∧w=wr)
  case atStart=>exact ⟨0,0,by omega,rfl,rfl,hx,lh om,rfl⟩
  case round =>
   obtain ⟨k,all,hkg,rfl,rfl,hA,hB,rfl⟩:=hrel;cases gk with
   | zero =>
    have hlt:¬((k:Int)<(xs.length:Int)):=by omega
    have HR:Hid (all=x∧0=e):= by
     have:=hA.out;rw [List.drop_of_length_le om] at this;unfold addG at this;injection this with t1 t2
     exact ⟨t1,t2⟩
    clear hA hB;go_wp2
    simp only [Exit.jump]
    go_ret2
    rw [←HR.out.1,←HR.out.2];exact ⟨rfl,bR⟩
   | succ g =>
    have hlt:(k:Int)<(xs.length:Int):=by omega
    obtain ⟨b,o,y,rfl,hcell,HX⟩:=HV.out.get (i:=k) om;have hst:=yt4 (all:=all) (xs:=xs) (k:=k) om;rw [HX.out,hA.out] at hst;have HST:=lh hst;clear hA hst;cases hm:mayM y with
    | false =>
     have HR:Hid (x=0∧e=5):= by
      have:=HST.out;rw [hm] at this;simp at this;exact this
     have HM:=lh hm;clear hm HST
     go_wp2_with fail
     refine (yjd HM.out _).mono ?_;rintro e w1 ⟨rfl,rfl⟩;go_wp2
     go_step3
     exact ⟨rfl,HJ.out _ _ (x10 (x10 ⟨_,_,_,_,rfl,HR,bR⟩))⟩
    | true =>
     have hy:=mayM_iff.1 hm;have hall:=hB.out;have hwr:wrap64 (all+y)=all+y:=by unfold wrap64;omega
     obtain ⟨s,hs⟩:∃s,all+y=s:=⟨_,rfl⟩;rw [hs] at hwr;have hwr2:wrap64 s=s:=by rw [←hs];unfold wrap64;omega
     have hwr3:wrap64 (all+y)=s:=by rw [hs];exact hwr2
     have HS:=lh hs;rw [hs] at HST;have HM:=lh hm;cases hm2:mayM s with
     | false =>
      have HR:Hid (x=0∧e=5):= by
       have:=HST.out;rw [hm2] at this;simp at this;exact this
      have HM2:=lh hm2;clear hm hm2 HST hy hall hs hwr
      go_wp2_with fail
      refine (yjd HM.out _).mono ?_;rintro e w1 ⟨rfl,rfl⟩
      go_wp2_with fail
      refine (yjd HM2.out _).mono ?_;rintro e w1 ⟨rfl,rfl⟩;go_wp2
      go_step3
      exact ⟨rfl,HJ.out _ _ (x10 (x10 ⟨_,_,_,_,rfl,HR,bR⟩))⟩
     | true =>
      have HR:Hid (addG s (xs.drop (k+1))=(x,e)):= by
       have:=HST.out;rw [if_pos ⟨hm,hm2⟩] at this;exact this.symm
      have hs2:=mayM_iff.1 hm2;have HM2:=lh hm2;have HS2:=lh hs2;clear hm hm2 HST hy hall hs hwr hs2
      go_wp2_with fail
      refine (yjd HM.out _).mono ?_;rintro e w1 ⟨rfl,rfl⟩
      go_wp2_with fail
      refine (yjd HM2.out _).mono ?_;rintro e w1 ⟨rfl,rfl⟩;go_wp2
      go_roundg g
      case measure=>omega
      case rel=>exact ⟨k+1,s,by omega,by go_num,rfl,HR,HS2,rfl⟩
end
section
open Go.RowKit EvM
theorem ylm {all:Int} {bs:List Int} (h0:0≤all) {s:Int} (h:yc0 all bs=some s):addG all bs=(s,0)∧0≤s∧(bs≠[]→s≤1000000000000000):= by
 induction bs generalizing all with
 | nil =>
  simp only [yc0,Option.some.injEq] at h;subst h;exact ⟨rfl,h0,fun h=>absurd rfl h⟩
 | cons v l ih =>
  unfold yc0 at h
  by_cases hc:may0 v=true∧may0 (all+v)=true
  ·rw [if_pos hc] at h
   have h1:=ybv.1 hc.1;have h2:=ybv.1 hc.2;obtain ⟨e1,e2,e3⟩:=ih h2.1 h;have m1:mayM v=true:=mayM_iff.2 om;have m2:mayM (all+v)=true:=mayM_iff.2 om;refine ⟨?_,e2,fun _=>?_⟩
   ·unfold addG
    rw [if_pos ⟨m1,m2⟩];exact e1
   ·cases l with
    | nil=>simp only [yc0,Option.some.injEq] at h;omega
    | cons x l=>exact e3 (by simp)
  ·rw [if_neg hc] at h
   cases h
def yb4 (bs:List Int) (c d:Int):Int:=if yat bs c d=true then bs.sum else 0
theorem ynt {all:Int} {bs:List Int} {s:Int} (h:yc0 all bs=some s):s=all+bs.sum:= by
 induction bs generalizing all with
 | nil=>simp only [yc0,Option.some.injEq] at h;simp [h]
 | cons v l ih =>
  unfold yc0 at h
  by_cases hc:may0 v=true∧may0 (all+v)=true
  ·rw [if_pos hc] at h
   rw [ih h,List.sum_cons];omega
  ·rw [if_neg hc] at h
   cases h
theorem yfb {bs:List Int} {c d:Int} (h:yat bs c d=true):yc0 0 bs=some bs.sum:= by
 unfold yat at h;cases hs:yc0 0 bs with
 | none=>rw [hs] at h;simp at h
 | some s=>rw [ynt hs,Int.zero_add]
theorem yhv (v:Value) (bs:List Int) (c d t:Int) (ht:Hid (yb4 bs c d=t)) (hlen:bs.length≤1000000) (w:World) (hv:Sl .i64 w v bs) :
 Calls Tryz.prog 111 #[.agg #[v,iV c,iV d]] w (RetB (iV t) w):= by
 have HV:=lh hv;obtain ⟨ao,cap,rfl,h1,⟨h2,_⟩,h3⟩:=hv;clear h3;unfold maxLen at h2;obtain ⟨r,hr⟩:∃r,yat bs c d=r:=⟨_,rfl⟩;have HR:=lh hr;have HP:=lh (PB.new w 35 (.slice ao bs.length cap) c d);obtain ⟨p0,p1,p2⟩:=HP.out;have hb0:Below w.heap.size w (w.alloc (.cells #[.slice ao bs.length cap,iV c,iV d] 35)):=yaa bR _;cases r with
 | false =>
  obtain rfl:0=t:=by rw [←ht.out];unfold yb4;rw [hr];rfl
  clear ht hr
  go_enter Tryz.func111,Tryz.ntmps111
  go_wp2_with fail
  refine (ya0 _ bs c d _ HR hlen _ (HV.out.below hb0)).mono ?_;rintro _ w1 ⟨rfl,hb1⟩;go_wp2
  go_ret
  exact ⟨rfl,yad hb0 hb1⟩
 | true =>
  have HT:Hid (addG 0 bs=(t,0)):= by
   have h:=(ylm om (yfb hr)).1;show _=_;rw [h,←ht.out];unfold yb4;rw [if_pos hr]
  clear ht hr
  go_enter Tryz.func111,Tryz.ntmps111
  go_wp2_with fail
  refine (ya0 _ bs c d _ HR hlen _ (HV.out.below hb0)).mono ?_;rintro _ w1 ⟨rfl,hb1⟩;obtain ⟨q0,q1,q2⟩:=HP.out.below hb1;have hb2:=yad hb0 hb1;clear p0 p1 p2 hb0 hb1
  go_wp2_with fail
  refine (yy1 _ bs t 0 HT hlen _ (HV.out.below hb2)).mono ?_;rintro _ w2 ⟨rfl,hb3⟩;go_wp2
  go_ret
  exact ⟨rfl,yad hb2 hb3⟩
theorem yd5 {w w':World} {g:Nat} (h:Below w.heap.size w w') (hg:w.heap.size≤g) (x y z:Value):Below w.heap.size w (((w'.setCell ⟨g,0,none⟩ x).setCell ⟨g,1,none⟩ y).setCell ⟨g,2,none⟩ z) :=
 ((h.setCell hg _).setCell hg _).setCell hg _
def ybt (v:Value) (bs:List Int) (c d:Int):Value:=if yat bs c d=true then .tuple #[.agg #[v,iV c,iV d],iZ] else .tuple #[.agg #[sZ,iZ,iZ],iV 5]
theorem ych (v:Value) (bs:List Int) (c d:Int) (r:Value) (hr0:Hid (ybt v bs c d=r)) (hlen:bs.length≤1000000) (w:World) (hv:Sl .i64 w v bs) :
 Calls Tryz.prog 215 #[.agg #[v,iV c,iV d]] w (RetB r w):= by
 have HV:=lh hv;obtain ⟨ao,cap,rfl,h1,⟨h2,_⟩,h3⟩:=hv;clear h3;unfold maxLen at h2;obtain ⟨q,hq⟩:∃q,yat bs c d=q:=⟨_,rfl⟩;have HQ:=lh hq
 have HBLK:Hid (Blk ((w.alloc (.cells #[.slice ao bs.length cap,iV c,iV d] 35)).alloc (.cells #[sZ,iZ,iZ] 35)) (w.heap.size+1) 35 [sZ,iZ,iZ]):= by
  exact zq02e414
 have HPB:=lh ((PB.new w 35 (.slice ao bs.length cap) c d).below (yaa bR (.cells #[sZ,iZ,iZ] 35)));have HW0:Hid (Below w.heap.size w ((w.alloc (.cells #[.slice ao bs.length cap,iV c,iV d] 35)).alloc (.cells #[sZ,iZ,iZ] 35))):=yaa (yaa bR _) _;cases q with
 | false =>
  have hr:r=.tuple #[.agg #[sZ,iZ,iZ],iV 5]:=by rw [←hr0.out];unfold ybt;rw [hq];rfl
  subst hr;clear hr0 hq
  go_enter Tryz.func215,Tryz.ntmps215
  go_wp2_with fail
  refine (ya0 _ bs c d _ HQ hlen _ (HV.out.below HW0.out)).mono ?_;rintro _ w1 ⟨rfl,hb1⟩;have hB:=HBLK.out.below hb1;obtain ⟨q0,q1,q2⟩:=HPB.out.below hb1;have c0:=hB.cell 0;have c1:=hB.cell 1;have c2:=hB.cell 2;simp only [gz,gs] at c0 c1 c2;have f0:=hB.frozen 0;have f1:=hB.frozen 1;have f2:=hB.frozen 2;have hbf:=yad HW0.out hb1;have hlt:=hB.lt;clear hB hb1;go_wp2
  refine bodyPost_ret (v:=.tuple #[.agg #[sZ,iZ,iZ],iV 5]) (by simp [results,Tryz.results215,go_sem,c0,c1,c2]) rfl ⟨rfl,yd5 hbf om _ _ _⟩
 | true =>
  have hr:r=.tuple #[.agg #[.slice ao bs.length cap,iV c,iV d],iZ]:=by rw [←hr0.out];unfold ybt;rw [hq];rfl
  subst hr;clear hr0 hq
  go_enter Tryz.func215,Tryz.ntmps215
  go_wp2_with fail
  refine (ya0 _ bs c d _ HQ hlen _ (HV.out.below HW0.out)).mono ?_;rintro _ w1 ⟨rfl,hb1⟩;have hB:=HBLK.out.below hb1;obtain ⟨q0,q1,q2⟩:=HPB.out.below hb1;have c0:=hB.cell 0;have c1:=hB.cell 1;have c2:=hB.cell 2;simp only [gz,gs] at c0 c1 c2;have f0:=hB.frozen 0;have f1:=hB.frozen 1;have f2:=hB.frozen 2;have hbf:=yad HW0.out hb1;have hlt:=hB.lt;clear hB hb1;go_wp2
  refine bodyPost_ret (v:=.tuple #[.agg #[.slice ao bs.length cap,iV c,iV d],iZ]) (by simp [results,Tryz.results215,go_sem,c0,c1,c2]) rfl ⟨rfl,yd5 hbf om _ _ _⟩
end
theorem yfa:(Tryz.prog.info? 2).map (fun i=>(i.zero,i.size,i.bytes))=some (some (iZ),1,8):=by kernel_rfl
def jas (xs:List Int) (w:World) (e:Ending) (w':World):Prop :=
 ∃u,e=.returned u∧w'.ownsRow w.heap.size 2 1 u xs.length (xs.map (Value.int .i64))∧Below w.heap.size w w'
theorem ydp (v:Value) (xs:List Int) (w:World) (hv:Sl .i64 w v xs) (hn:xs.length≤1000) :
 Calls Tryz.prog 39 #[v] w (jas xs w):= by
 have HV:=lh hv;obtain ⟨ao,cap,rfl,h1,⟨h2,_⟩,h3⟩:=hv;clear h3;unfold maxLen at h2;have qT:∀(w:World) (a:Option Addr) (n c n' c':Nat),(binOp .eql 33 (.slice a n c) (.slice none n' c')).run Tryz.prog w=.ok (.bool a.isNone) w:=fun w a n c n' c'=>Lib.run_eql_slice_nil w _ _ a n c n' c' Tryz.underlying33;obtain ⟨i0,hi,hz0,hz1,hz2⟩:=info_parts yfa;cases ao with
 | none =>
  obtain rfl:=HV.out.none_len rfl;obtain ⟨_,rfl⟩:=HV.out.none_cap rfl
  go_enter Tryz.func39,Tryz.ntmps39
  go_wp2
  go_ret
  exact ⟨_,rfl,World.ownsRow_nil _ _ _ _,bR⟩
 | some a =>
  have hA:=HV.out.news;have HA:=lh hA;clear hA
  go_enter Tryz.func39,Tryz.ntmps39
  go_wp2_with (at_builtin;refine ya9 _ rfl (.tmp 5) (.tmp 6) 33 rfl w.heap.size 2 i0 (iZ) 1 8 Tryz.underlying33 hi hz0 hz1 hz2 rfl (by decide) _ 0 [] rfl (yf8 w _) (some a) xs.length cap (xs.map (Value.int .i64)) rfl (by simp) (fun h=>by cases h) (HV.out.alloc _).news (ints_oneCell _ _) (by unfold maxLen;omega) om (by rw [World.size_alloc];omega) ?_;intro v' w1 hown1 hg1 hn1;clear hn1)
  go_ret
  refine ⟨_,rfl,by simpa using hown1,?_⟩;exact (bR.alloc (Nat.le_refl _) _).grown hg1 (by rw [World.size_alloc];omega) (by intro k hk;cases hk;exact Nat.le_refl _)
theorem yau {w:World} {base g o:Nat} {e:TypeId} {size n:Nat} {v x:Value} {xs:List Value} (h:w.ownsRow base e size v n xs) (hg:g<base):(w.setCell ⟨g,o,none⟩ x).ownsRow base e size v n xs:= by
 obtain ⟨h1,h2⟩:=h;refine ⟨h1,?_⟩;rcases h2 with h2 | ⟨g',cap,cur,hv,hb,hg',r⟩
 ·exact Or.inl h2
 ·exact Or.inr ⟨g',cap,cur,hv,hb,(heap_setCell_other w ⟨g,o,none⟩ g' x (by intro h;simp at h;omega)).trans hg',r⟩
def OwnP (bs:List Int) (c d:Int) (w:World) (e:Ending) (w':World):Prop :=
 ∃u,e=.returned (.agg #[u,iV c,iV d])∧w'.ownsRow (w.heap.size+2) 2 1 u bs.length (bs.map (Value.int .i64))∧Below w.heap.size w w'
theorem yex (v:Value) (bs:List Int) (c d:Int) (hlen:bs.length≤1000) (w:World) (hv:Sl .i64 w v bs) :
 Calls Tryz.prog 213 #[.agg #[v,iV c,iV d]] w (OwnP bs c d w):= by
 have HV:=lh hv;obtain ⟨ao,cap,rfl,h1,⟨h2,_⟩,h3⟩:=hv;clear h3;unfold maxLen at h2
 have HBLK:Hid (Blk ((w.alloc (.cells #[.slice ao bs.length cap,iV c,iV d] 35)).alloc (.cells #[sZ,iZ,iZ] 35)) (w.heap.size+1) 35 [sZ,iZ,iZ]):= by
  exact zq02e414
 have hB0:Blk (w.alloc (.cells #[.slice ao bs.length cap,iV c,iV d] 35)) w.heap.size 35 [.slice ao bs.length cap,iV c,iV d]:=heap_alloc_new w _;have HB0:=lh (hB0.below (yaa bR (.cells #[sZ,iZ,iZ] 35)));have HW0:Hid (Below w.heap.size w ((w.alloc (.cells #[.slice ao bs.length cap,iV c,iV d] 35)).alloc (.cells #[sZ,iZ,iZ] 35))):=yaa (yaa bR _) _;have HSZ:Hid (((w.alloc (.cells #[.slice ao bs.length cap,iV c,iV d] 35)).alloc (.cells #[sZ,iZ,iZ] 35)).heap.size=w.heap.size+2):=by show _=_;simp
 clear hB0
 go_enter Tryz.func213,Tryz.ntmps213
 go_wp2_with fail
 refine (ydp _ bs _ (HV.out.below HW0.out) hlen).mono ?_;rintro _ w1 ⟨u,rfl,hown,hb1⟩;rw [HSZ.out] at hown;have hB:=HB0.out.below hb1;have c0:=hB.cell 0;have c1:=hB.cell 1;have c2:=hB.cell 2;have f0:=hB.frozen 0;have hR:=HBLK.out.below hb1;have r0:=hR.cell 0;have r1:=hR.cell 1;have r2:=hR.cell 2;have g0:=hR.frozen 0;have g1:=hR.frozen 1;have g2:=hR.frozen 2;simp only [gz,gs] at c0 c1 c2 r0 r1 r2;have hbf:=yad HW0.out hb1;have HOWN:=lh hown
 obtain ⟨bo,bn,bc,rfl⟩:∃ao n cap,u=.slice ao n cap:= by
  rcases hown.2 with ⟨h,_⟩ | ⟨g,cap',cur,h,_⟩
  ·exact ⟨_,_,_,h⟩
  ·exact ⟨_,_,_,h⟩
 clear hown hB hR hb1;go_wp2
 refine bodyPost_ret (v:=.agg #[.slice bo bn bc,iV c,iV d]) (by simp [results,Tryz.results213,go_sem,r0,r1,r2]) rfl ⟨_,rfl,?_,?_⟩
 ·exact yau (yau (yau (yau HOWN.out om) om) om) om
 ·exact (((hbf.setCell (by simp) _).setCell (by simp) _).setCell (by simp) _).setCell (by simp) _
end Go.Proofs.YtkongpjpkpfniaaGreat

/- TopTicks: parts of the proof, made small by a program (mini.py). -/
import Derived.Test.YtkongpjpkpfniaaGreatT01
import Derived.Test.YtkongpjpkpfniaaGreatT13
set_option linter.unusedVariables false
set_option linter.unusedSimpArgs false
set_option maxRecDepth 100000
set_option maxHeartbeats 6400000
namespace Go.Proofs.YtkongpjpkpfniaaGreat
open Go.RowKit
theorem zq147544 {q:Prop} (h:q:= by
 clear hno2 e1
 go_enter Tryz.func140,Tryz.ntmps140
 go_wp2_with fail
 refine (yar _ ts lim cyc dued minf minp start _ HRT _ (HV.out.below SB.out)).mono ?_;rintro _ w1 ⟨rfl,hb1⟩;have t1:=(S0.out.below hb1).cell 1;simp only [gz,gs] at t1;have RB:=lh (yad SB.out hb1);clear hb1 S0
 go_wp2_with fail
 go_ret2
 exact ⟨_,rfl,Sl.nil,RB.out⟩):q:=h
section
open Go.RowKit EvM
def intK (bss rss:List (List Int)) (ts:List (Int×Bool)) (g:Bool):Nat->List Int×Int
 | 0=>([],0)
 | k+1=>if (intK bss rss ts g k).2≠0 then intK bss rss ts g k else
  if (g && (ts.getD k (0,false)).2)=true then ((intK bss rss ts g k).1++[0],0) else
  if (yft (bss.getD k []) (rss.getD k [])).2≠0 then ([],(yft (bss.getD k []) (rss.getD k [])).2) else ((intK bss rss ts g k).1++[(yft (bss.getD k []) (rss.getD k [])).1],0)
def intS (rt:Bool) (ts:List (Int×Bool)) (bss rss:List (List Int)) (g:Bool):List Int×Int :=
 if rt=false then ([],6) else if ¬(bss.length=ts.length/\rss.length=ts.length) then ([],1) else intK bss rss ts g ts.length
section
variable {bss rss:List (List Int)} {ts:List (Int×Bool)} {g:Bool} {k:Nat}
theorem yrv (h:(intK bss rss ts g k).2=0):(intK bss rss ts g k).1.length=k:= by
 induction k with
 | zero=>rfl
 | succ k ih =>
  unfold intK at h ⊢
  by_cases h0:(intK bss rss ts g k).2=0
  ·have:=ih h0
   rw [if_neg (by simpa using h0)] at h ⊢
   by_cases h1:(g && (ts.getD k (0,false)).2)=true
   ·rw [if_pos h1]
    simp [this]
   ·rw [if_neg h1] at h ⊢
    by_cases h2:(yft (bss.getD k []) (rss.getD k [])).2=0
    ·rw [if_neg (by simpa using h2)]
     simp [this]
    ·rw [if_pos h2] at h
     exact absurd h h2
  ·rw [if_pos h0] at h
   exact absurd h h0
theorem ytq (h:(intK bss rss ts g k).2=0) (h1:(g && (ts.getD k (0,false)).2)=true):intK bss rss ts g (k+1)=((intK bss rss ts g k).1++[0],0):= by
 rw [intK,if_neg (by simpa using h),if_pos h1]
theorem ysq {y:Int} (h:(intK bss rss ts g k).2=0) (h1:(g && (ts.getD k (0,false)).2)=false) (h2:yft (bss.getD k []) (rss.getD k [])=(y,0)):intK bss rss ts g (k+1)=((intK bss rss ts g k).1++[y],0):= by
 rw [intK,if_neg (by simpa using h),if_neg (by rw [h1];simp),h2,if_neg (by simp)]
theorem yw3 {y e:Int} (h:(intK bss rss ts g k).2=0) (h1:(g && (ts.getD k (0,false)).2)=false) (h2:yft (bss.getD k []) (rss.getD k [])=(y,e)) (he:e≠0):intK bss rss ts g (k+1)=([],e):= by
 rw [intK,if_neg (by simpa using h),if_neg (by rw [h1];simp),h2,if_pos he]
theorem yti {m:Nat} {r:List Int×Int} (h:intK bss rss ts g k=r) (he:r.2≠0) (hm:k<=m):intK bss rss ts g m=r:= by
 induction m with
 | zero =>
  obtain rfl:k=0:=by omega
  exact h
 | succ m ih =>
  by_cases e:k=m+1
  ·subst e;exact h
  ·have:=ih om
   rw [intK,this,if_pos he]
end
def yf3 (xs:List Int) (n:Nat):List Int:=xs++List.replicate (n-xs.length) 0
theorem yvy {xs:List Int} {n:Nat} (h:xs.length<=n):(yf3 xs n).length=n:=by simp [yf3];omega
theorem ynz {xs:List Int} {n:Nat} (h:xs.length<n):(yf3 xs n).getD xs.length 0=0:= by
 unfold yf3;rw [List.getD_eq_getElem?_getD,List.getElem?_append_right om];simp [show 0<n-xs.length by omega]
theorem yn1 {xs:List Int} {n:Nat} (h:xs.length<n) (y:Int):(yf3 xs n).set xs.length y=yf3 (xs++[y]) n:= by
 unfold yf3;rw [List.set_append_right _ _ om,Nat.sub_self,show n-xs.length=(n-xs.length-1)+1 by omega,List.replicate_succ,List.set_cons_zero];simp [Nat.sub_sub]
theorem ysn {xs:List Int} {n:Nat} (h:xs.length<n):yf3 (xs++[0]) n=yf3 xs n:= by
 rw [<-yn1 h 0]
 apply List.ext_getElem (by simp)
 intro j h1 h2;rw [List.getElem_set]
 split
 ·rename_i hj
  subst hj;have:=ynz h;simp only [List.getD,List.getElem?_eq_getElem h2,Option.getD_some] at this;exact this.symm
 ·rfl
theorem yuo {xs:List Int} {n:Nat} (h:xs.length=n):yf3 xs n=xs:=by simp [yf3,h]
theorem ysy (v:Value) (ts:List (Int×Bool)) (lim cyc dued minf minp start:Int) (bv rv:Value) (bss rss:List (List Int)) (g:Bool) (hrt:yaw lim ts cyc dued minf minp start=true) (hl1:bss.length=ts.length) (hl2:rss.length=ts.length) (hts:1<=ts.length/\ts.length<=1000) (w:World) (hv:TrS w v ts) (hb:RwS w bv bss) (hr:RwS w rv rss) :
 Calls Tryz.prog 140 #[.agg #[iV lim,v,iV cyc,iV dued,iV minf,iV minp,iV start],bv,rv,.bool g] w (yzf (intK bss rss ts g ts.length).1 (intK bss rss ts g ts.length).2 w):= by
 have HV:=lh hv;have HB:=lh hb;have HR:=lh hr;obtain ⟨ao,cap,rfl,h1,⟨h2,hnn⟩,h3⟩:=hv;clear h3 hnn;obtain ⟨b0,bc,rfl,g1,⟨g2,hnn⟩,h3⟩:=hb;clear h3 hnn;obtain ⟨r0,rc,rfl,i1,⟨i2,hnn⟩,h3⟩:=hr;clear h3 hnn;unfold maxLen at h2 g2 i2;have HRT:Hid ((if yaw lim ts cyc dued minf minp start=true then 0 else 6)=(0:Int)):=by show _=_;rw [hrt];rfl
 have d1:((bss.length:Int) != (ts.length:Int))=false:=by simp;omega
 have d2:((rss.length:Int) != (ts.length:Int))=false:=by simp;omega
 have HL:=lh (And.intro hl1 (And.intro hl2 hts));have S0:Hid (Blk (w.alloc (.cells #[iV lim,.slice ao ts.length cap,iV cyc,iV dued,iV minf,iV minp,iV start] 24)) w.heap.size 24 [iV lim,.slice ao ts.length cap,iV cyc,iV dued,iV minf,iV minp,iV start]):=heap_alloc_new w _;have SB:Hid (BW w (w.alloc (.cells #[iV lim,.slice ao ts.length cap,iV cyc,iV dued,iV minf,iV minp,iV start] 24))):=yaa bR _;obtain ⟨i0,hi,hz0,hz1,hz2⟩:=info_parts yfa;clear hrt hl1 hl2 hts
 go_enter Tryz.func140,Tryz.ntmps140
 go_wp2_with fail
 refine (yar _ ts lim cyc dued minf minp start _ HRT _ (HV.out.below SB.out)).mono ?_;rintro _ w1 ⟨rfl,hb1⟩;have R0:=lh (S0.out.below hb1);have RB:=lh (yad SB.out hb1);have t1:=R0.out.cell 1;simp only [gz,gs] at t1;clear hb1 S0 SB HRT;go_upto_region 7 with (at_make;refine wpList_make_full _ rfl _ _ 33 rfl w1.heap.size 2 i0 (iZ) 1 Tryz.underlying33 hi hz0 hz1 _ _ _ _ ts.length rfl rfl rfl rfl (by rw [hz2];have:=HL.out;omega) (by unfold maxLen;have:=HL.out;omega) (Nat.le_refl _) ?_;intro w2 hown2 hgrow2)
 obtain ⟨cur0,hG0,_,_,hcl0,hct0,_⟩:=ya8 hown2
 have hc0:cur0=List.replicate ts.length (iZ):= by
  rw [<-List.take_of_length_le (show cur0.length<=ts.length*1 by omega),hct0,Nat.mul_one];exact toList_madeCells_one _ _
 have hb12:BW w1 w2:=yfw hgrow2;have HG:Hid (Nums w2 w1.heap.size ts.length (List.replicate ts.length 0)):=⟨cur0,hG0,by rw [hc0];simp,by rw [hc0];simp⟩;have HZL:Hid ((List.replicate ts.length (0:Int)).length=ts.length):=by show _=_;simp
 have HB2:=lh (yad RB.out hb12);have X0:=lh (R0.out.below hb12);have hzb:=RB.out.size;obtain ⟨G,hG⟩:∃G,w1.heap.size=G:=⟨_,rfl⟩;rw [hG] at HG hzb ⊢;clear hc0 hct0 hcl0 hG0 hown2 hgrow2 hb12 cur0 t1 R0 RB hi hz0 hz1 hz2 hG d1 d2;have t1:=X0.out.cell 1;simp only [gz,gs] at t1
 go_wp2_with fail
 clear t1;go_loopg [42] ts.length (fun gg i wr=>∃k:Nat,k+gg=ts.length/\i=iV k/\Hid (Nums wr G ts.length (yf3 (intK bss rss ts g k).1 ts.length))/\Hid ((intK bss rss ts g k).2=0)/\BW w wr)
 case atStart=>exact ⟨0,by omega,rfl,HG.out,rfl,HB2.out⟩
 case round =>
  obtain ⟨k,hkg,rfl,HI,HK0,hbw⟩:=hrel;cases gk with
  | succ gg =>
   have hlt:(k:Int)<(ts.length:Int):=by omega
   have hkn:k<ts.length:=by omega
   have HBW:=lh hbw;obtain ⟨b,o,e0,hc1,hc2⟩:=(HV.out.below hbw).get18 hkn;subst e0;obtain ⟨x1,x2,hx12⟩:∃x1 x2,ts.getD k (0,false)=(x1,x2):=⟨_,_,rfl⟩;rw [hx12] at hc1 hc2;simp only at hc1 hc2;have HM:=lh hx12;have hlk:=yrv HK0.out;have HLK:=lh hlk;clear hx12 hlk hbw;cases hgr:(g && x2) with
   | true =>
    have hg1:g=true/\x2=true:=by simpa using hgr
    obtain ⟨rfl,rfl⟩:=hg1;have HN:=lh (ytq HK0.out (show (true && (ts.getD k (0,false)).2)=true by rw [HM.out];rfl));clear hgr
    go_wp2_with fail
    go_roundg gg
    case measure=>omega
    case rel =>
     refine ⟨k+1,by omega,by go_num,?_,?_,by exact bL⟩
     ·have hn:=(HI.out.below (yaa bR (.cells #[iV x1,.bool true] 81)))
      show Nums _ _ _ _;rw [HN.out];simp only;rw [ysn (by rw [HLK.out];exact hkn)];exact hn
     ·show _=_
      rw [HN.out]
   | false =>
    obtain ⟨bb,ob,ub,e1,hcb,HSb⟩:=(HB.out.below HBW.out).get (i:=k) (by have:=HL.out;omega);obtain ⟨br,or,ur,e2,hcr,HSr⟩:=(HR.out.below HBW.out).get (i:=k) (by have:=HL.out;omega);subst e1 e2;obtain ⟨aub,qub,rfl⟩:=HSb.out.shape;obtain ⟨aur,qur,rfl⟩:=HSr.out.shape;have hkb:(k:Int)<(bss.length:Int):=by have:=HL.out;omega
    have hkr:(k:Int)<(rss.length:Int):=by have:=HL.out;omega
    obtain ⟨y,e,hint⟩:∃y e,yft (bss.getD k []) (rss.getD k [])=(y,e):=⟨_,_,rfl⟩;have HINT:=lh hint;have HGF:Hid ((g && (ts.getD k (0,false)).2)=false):=by show _=_;rw [HM.out];exact hgr
    have hor:g=false\/(g=true/\x2=false):=by cases g <;> simp_all
    have HZL:Hid (k<(yf3 (intK bss rss ts g k).1 ts.length).length):=by show _<_;rw [yvy (by rw [HLK.out];omega)];exact hkn
    have HZ5:Hid ((yf3 (intK bss rss ts g k).1 ts.length).getD k 0=0):= by
     have:=ynz (xs:=(intK bss rss ts g k).1) (n:=ts.length) (by rw [HLK.out];exact hkn)
     rwa [HLK.out] at this
    have HZS:Hid (∀y,(yf3 (intK bss rss ts g k).1 ts.length).set k y=yf3 ((intK bss rss ts g k).1++[y]) ts.length):=fun y=>by
     have e9:=yn1 (xs:=(intK bss rss ts g k).1) (n:=ts.length) (by rw [HLK.out];exact hkn) y
     rwa [HLK.out] at e9
    clear hint hgr
    have HW:∃W,wr.alloc (.cells #[iV x1,.bool x2] 81)=W/\Hid (W.cell? (Ad bb (ob+k))=some (.slice aub (bss.getD k []).length qub)/\W.cell? (Ad br (or+k))=some (.slice aur (rss.getD k []).length qur))/\Hid (Nums W G ts.length (yf3 (intK bss rss ts g k).1 ts.length))/\Hid (BW w W)/\Hid (Sl .i64 W (.slice aub (bss.getD k []).length qub) (bss.getD k []))/\Hid (Sl .i64 W (.slice aur (rss.getD k []).length qur) (rss.getD k [])) :=
     ⟨_,rfl,⟨((yaa (Below.refl wr.heap.size wr) _).cell (p:=(Ad bb (ob+k))) (yac hcb)).trans hcb,((yaa (Below.refl wr.heap.size wr) _).cell (p:=(Ad br (or+k))) (yac hcr)).trans hcr⟩,HI.out.below (yaa bR _),yaa HBW.out _,HSb.out.below (yaa bR _),HSr.out.below (yaa bR _)⟩
    have HWH:=lh HW;clear HW;rcases hor with rfl | ⟨rfl,rfl⟩
    all_goals
     go_upto_region 11 with fail
     obtain ⟨W,hW,SC,SN,SBB,SS1,SS2⟩:=HWH.out
     with_reducible rw [hW]
     clear hW HWH hcb hcr hc1 hc2;have hs0:=SC.out;have hsd:W.drew.cell? (Ad bb (ob+k))=some (.slice aub (bss.getD k []).length qub)/\W.drew.cell? (Ad br (or+k))=some (.slice aur (rss.getD k []).length qur):=SC.out
     go_region_held3 (fun W'=>Ce W' bb (ob+k) (.slice aub (bss.getD k []).length qub)/\Ce W' br (or+k) (.slice aur (rss.getD k []).length qur)) (first | with_reducible assumption | with_reducible exact hs0 | with_reducible exact hsd | with_reducible exact hs5) (first | (go_at_call 184;refine (ypv _ _ (bss.getD k []) (rss.getD k []) y e HINT _ (SS1.out.below (by first | exact bR | exact yaf bR)) (SS2.out.below (by first | exact bR | exact yaf bR))).mono ?_;rintro _ w5 ⟨rfl,hb5⟩;have HB5:Hid (BW W w5):=(by first | exact hb5 | exact yad (yaf bR) hb5);have hs5:w5.cell? (Ad bb (ob+k))=some (.slice aub (bss.getD k []).length qub)/\w5.cell? (Ad br (or+k))=some (.slice aur (rss.getD k []).length qur):=⟨(HB5.out.cell (p:=(Ad bb (ob+k))) (yac SC.out.1)).trans SC.out.1,(HB5.out.cell (p:=(Ad br (or+k))) (yac SC.out.2)).trans SC.out.2⟩;clear hb5))
     have hn5:=SN.out.below HB5.out;have c5:=hn5.cell (i:=k) HZL.out;rw [HZ5.out] at c5;have f5:=hn5.frozen k;have HN5:=lh hn5;clear hn5 hs0 hsd hs5
     by_cases he:e=0
     ·subst he
      have HNX:=lh (ysq HK0.out HGF.out HINT.out)
      go_wp2_with fail
      go_roundg gg
      case measure=>omega
      case rel =>
       refine ⟨k+1,by omega,by go_num,?_,?_,(yad SBB.out HB5.out).setCell (show w.heap.size<=G by omega) _⟩
       ·show Nums _ _ _ _
        rw [HNX.out];simp only;rw [<-HZS.out y];exact HN5.out.set k y
       ·show _=_
        rw [HNX.out]
     ·have HNX:=lh (yti (yw3 HK0.out HGF.out HINT.out he) he (show k+1<=ts.length from hkn))
      have heb:(e != 0)=true:=by simpa using he
      have HBE:=lh (yad SBB.out HB5.out);clear he c5 f5
      go_wp2_with fail
      go_ret2
      rw [HNX.out];exact ⟨_,rfl,Sl.nil,HBE.out⟩
  | zero =>
   have hlt:¬((k:Int)<(ts.length:Int)):=by omega
   obtain rfl:k=ts.length:=by omega
   have hn:=HI.out;have hlk:=yrv HK0.out;rw [yuo hlk] at hn;have HS:=lh (hn.sl hlk (Nat.le_refl _) (by unfold maxLen;have:=HL.out;omega));clear hn hlk
   go_wp2_with fail
   go_ret2
   rw [HK0.out];exact ⟨_,rfl,HS.out,hbw⟩
theorem ylk (v:Value) (ts:List (Int×Bool)) (lim cyc dued minf minp start:Int) (bv rv:Value) (bss rss:List (List Int)) (g:Bool) (rt:Bool) (hrt:Hid (yaw lim ts cyc dued minf minp start=rt)) (hno:Hid (rt=true->¬(bss.length=ts.length/\rss.length=ts.length))) (w:World) (hv:TrS w v ts) (hb:RwS w bv bss) (hr:RwS w rv rss) :
 Calls Tryz.prog 140 #[.agg #[iV lim,v,iV cyc,iV dued,iV minf,iV minp,iV start],bv,rv,.bool g] w (yzf [] (if rt=true then 1 else 6) w):= by
 have HV:=lh hv;obtain ⟨ao,cap,rfl,h1,⟨h2,hnn⟩,h3⟩:=hv;clear h3 hnn;obtain ⟨b0,bc,rfl,g1,⟨g2,hnn⟩,h3⟩:=hb;clear h3 hnn;obtain ⟨r0,rc,rfl,i1,⟨i2,hnn⟩,h3⟩:=hr;clear h3 hnn;unfold maxLen at h2 g2 i2;have S0:Hid (Blk (w.alloc (.cells #[iV lim,.slice ao ts.length cap,iV cyc,iV dued,iV minf,iV minp,iV start] 24)) w.heap.size 24 [iV lim,.slice ao ts.length cap,iV cyc,iV dued,iV minf,iV minp,iV start]):=heap_alloc_new w _;have SB:Hid (BW w (w.alloc (.cells #[iV lim,.slice ao ts.length cap,iV cyc,iV dued,iV minf,iV minp,iV start] 24))):=yaa bR _;cases rt with
 | false =>
  have HRT:Hid ((if yaw lim ts cyc dued minf minp start=true then 0 else 6)=(6:Int)):=by show _=_;rw [hrt.out];rfl
  go_enter Tryz.func140,Tryz.ntmps140
  go_wp2_with fail
  refine (yar _ ts lim cyc dued minf minp start _ HRT _ (HV.out.below SB.out)).mono ?_;rintro _ w1 ⟨rfl,hb1⟩;have RB:=lh (yad SB.out hb1);clear hb1 S0
  go_wp2_with fail
  go_ret2
  exact ⟨_,rfl,Sl.nil,RB.out⟩
 | true =>
  have HRT:Hid ((if yaw lim ts cyc dued minf minp start=true then 0 else 6)=(0:Int)):=by show _=_;rw [hrt.out];rfl
  have hno2:=hno.out rfl
  by_cases e1:bss.length=ts.length
  ·have d1:((bss.length:Int) != (ts.length:Int))=false:=by simp;omega
   have d2:((rss.length:Int) != (ts.length:Int))=true:=by simp;omega
   exact zq147544
  ·have d1:((bss.length:Int) != (ts.length:Int))=true:=by simp;omega
   exact zq147544
theorem yci {lim:Int} {ts:List (Int×Bool)} {cyc dued minf minp start:Int} (h:yaw lim ts cyc dued minf minp start=true):1<=ts.length/\ts.length<=8:= by
 unfold yaw at h;simp only [Bool.and_eq_true] at h;have:=ydr.1 h.1.1.1.1.1.2;omega
theorem yqm (v:Value) (ts:List (Int×Bool)) (lim cyc dued minf minp start:Int) (bv rv:Value) (bss rss:List (List Int)) (g:Bool) (r:List Int×Int) (hr0:Hid (intS (yaw lim ts cyc dued minf minp start) ts bss rss g=r)) (w:World) (hv:TrS w v ts) (hb:RwS w bv bss) (hr:RwS w rv rss) :
 Calls Tryz.prog 140 #[.agg #[iV lim,v,iV cyc,iV dued,iV minf,iV minp,iV start],bv,rv,.bool g] w (yzf r.1 r.2 w):= by
 have h:=hr0.out;subst h;unfold intS;cases hrt:yaw lim ts cyc dued minf minp start with
 | false =>
  rw [if_pos rfl];exact ylk v ts lim cyc dued minf minp start bv rv bss rss g false hrt (fun h=>by cases h) w hv hb hr
 | true =>
  rw [if_neg (by simp)]
  by_cases hl:bss.length=ts.length/\rss.length=ts.length
  ·rw [if_neg (by simpa using hl)]
   exact ysy v ts lim cyc dued minf minp start bv rv bss rss g hrt hl.1 hl.2 (by have:=yci hrt;omega) w hv hb hr
  ·rw [if_pos hl]
   exact ylk v ts lim cyc dued minf minp start bv rv bss rss g true hrt (fun _=>hl) w hv hb hr
end
end Go.Proofs.YtkongpjpkpfniaaGreat

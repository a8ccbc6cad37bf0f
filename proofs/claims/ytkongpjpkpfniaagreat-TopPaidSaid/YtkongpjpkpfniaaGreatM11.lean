/- TopPaid: parts of the proof, made small by a program (mini.py). -/
import Derived.Lib.SliceRun
import Derived.Test.YtkongpjpkpfniaaGreatM01
import Derived.Test.YtkongpjpkpfniaaGreatM02
import Derived.Test.YtkongpjpkpfniaaGreatM04
import Derived.Test.YtkongpjpkpfniaaGreatM07
import Derived.Test.YtkongpjpkpfniaaGreatM09
set_option linter.unusedVariables false
set_option linter.unusedSimpArgs false
set_option maxRecDepth 100000
set_option maxHeartbeats 6400000
namespace Go.Proofs.YtkongpjpkpfniaaGreat
open Go.RowKit
theorem zq115bce {q:Prop} (h:q:= by
 induction l with
 | nil=>rfl
 | cons x l ih=>rw [List.flatMap_cons,List.length_append,ih,yie,List.length_cons];omega):q:=h
theorem zq11bd97 {q:Prop} (h:q:= by
 have hbx4:Below (w.heap.size+1) (w.alloc (.cells #[iV lim,.slice (some ⟨b,o,none⟩) ts.length cap,iV cyc,iV dued,iV minf,iV minp,iV start] 24)) w4:=(hbx3.alloc om _).grown hg4 (by simp;omega) (fun q hq=>(hown3.lt q hq).1)
 have HT4:Hid (w4.ownsRow (w.heap.size+1) 5 1 v1 (yde lim ts cyc dued minf minp start (k+1)).length ((yde lim ts cyc dued minf minp start (k+1)).map (Value.int .u8))):= by
  rw [HLS.out,HS.out];have e:56+9*(k+1)=56+9*k+8+1:=by omega
  rw [e]
  simpa [Hid] using hown4
 clear hown3 hown4 hg4 hbk4 hbx3
 go_wp2_with fail
 go_roundg g
 case measure=>omega
 case rel=>exact ⟨k+1,by omega,by go_num,HT4.out,hbx4⟩):q:=h
section
open EvM
def yef (most x:Int):Bool:=decide (x<0) || decide (most<x)
def okE (bs rs:List Int):Bool:=(bs.length == rs.length) && decide (bs.length≤40000) && !bs.any (yef 1000000000000000) && !rs.any (yef 10000000)
def sumE (bs rs:List Int):Nat→Nat
 | 0=>0
 | k+1=>sumE bs rs k+(bs.getD k 0).toNat*(rs.getD k 0).toNat
def yli (bs rs:List Int):Nat×Nat×Int:=if okE bs rs=true then (sumE bs rs bs.length/18446744073709551616,sumE bs rs bs.length%18446744073709551616,0) else (0,0,1)
def ofR2 (n:Nat):Int×Int :=
 if (evQ ((n/18446744073709551616:Nat):Int) ((n%18446744073709551616:Nat):Int) 1000000000).2=true∧(evQ ((n/18446744073709551616:Nat):Int) ((n%18446744073709551616:Nat):Int) 1000000000).1≤1000000000000000 then
  ((evQ ((n/18446744073709551616:Nat):Int) ((n%18446744073709551616:Nat):Int) 1000000000).1,0) else (0,5)
def yft (bs rs:List Int):Int×Int:=if okE bs rs=true then ofR2 (sumE bs rs bs.length) else (0,1)
theorem ywm {most x:Int} (h:yef most x=false):0≤x∧x≤most:= by
 simp [yef] at h;omega
theorem yjm {most:Int} {l:List Int} (h:l.any (yef most)=false) (hm:0≤most) (j:Nat):0≤l.getD j 0∧l.getD j 0≤most:= by
 by_cases hj:j<l.length
 ·rw [List.any_eq_false] at h
  have:=h l[j] (List.getElem_mem hj);have e:l.getD j 0=l[j]:=by simp [List.getD,hj]
  rw [e];exact ywm (by simpa using this)
 ·have e:l.getD j 0=0:=by simp [List.getD,Nat.le_of_not_lt hj]
  rw [e];omega
theorem yu4 {bs rs:List Int} (h:okE bs rs=true):bs.length=rs.length∧bs.length≤40000∧bs.any (yef 1000000000000000)=false∧rs.any (yef 10000000)=false:= by
 unfold okE at h;simp only [Bool.and_eq_true,beq_iff_eq,decide_eq_true_eq,Bool.not_eq_true'] at h;exact ⟨h.1.1.1,h.1.1.2,h.1.2,h.2⟩
theorem yzq {a b A B:Nat} (h1:a≤A) (h2:b≤B):a*b≤A*B:=Nat.mul_le_mul h1 h2
theorem yzt {bs rs:List Int} (h1:bs.any (yef 1000000000000000)=false) (h2:rs.any (yef 10000000)=false) (k:Nat):sumE bs rs k≤k*10000000000000000000000:= by
 induction k with
 | zero=>exact Nat.le_refl _
 | succ k ih =>
  have a:=yjm h1 om k;have b:=yjm h2 om k;have c:(bs.getD k 0).toNat*(rs.getD k 0).toNat≤1000000000000000*10000000:=yzq om om;simp only [sumE];generalize (bs.getD k 0).toNat*(rs.getD k 0).toNat=q at c;have c':q≤10000000000000000000000:=c;omega
theorem yxe (S P hi lo h l c lo2 hi2:Nat) (e1:S/18446744073709551616=hi) (e2:S%18446744073709551616=lo) (e3:P/18446744073709551616=h) (e4:P%18446744073709551616=l)
 (e5:(lo+l)%18446744073709551616=lo2) (e6:(lo+l)/18446744073709551616=c) (e7:(hi+h+c)%18446744073709551616=hi2) (hS:S+P<18446744073709551616*18446744073709551616) :
 (S+P)/18446744073709551616=hi2∧(S+P)%18446744073709551616=lo2∧hi+h+c<18446744073709551616∧c≤1:= by
 omega
end
theorem yso (x most:Int) (g:Nat) (w:World) (hg:w.cell? ⟨g,0,none⟩=some (iV most)):Calls Tryz.prog 246 #[iV x,pV g] w (Ret (.bool (yef most x)) w):= by
 have hp:yef most x=(decide (x<0) || decide (most<x)):=rfl;rw [hp];clear hp
 by_cases h1:x<0
 ·have h1':decide (x<0)=true:=by simpa using h1
  go_enter Tryz.func246,Tryz.ntmps246
  go_wp2
  go_ret
  simp only [h1'];exact Ret.mk _ _
 ·have h1':decide (x<0)=false:=by simpa using h1
  by_cases h2:most<x
  ·have h2':decide (most<x)=true:=by simpa using h2
   go_enter Tryz.func246,Tryz.ntmps246
   go_wp2
   go_ret
   exact Ret.mk _ _
  ·have h2':decide (most<x)=false:=by simpa using h2
   go_enter Tryz.func246,Tryz.ntmps246
   go_wp2
   go_ret
   exact Ret.mk _ _
def yvv (r0:Bool) (w:World) (e:Ending) (w':World):Prop:=∃r:Int,e=.returned (iV r)∧decide (0≤r)=r0∧w=w'
theorem yjb (v:Value) (xs:List Int) (most:Int) (gm:Nat) (r0:Bool) (hr0:Hid (xs.any (yef most)=r0)) (w:World) (hv:Sl .i64 w v xs) (hg:w.cell? ⟨gm,0,none⟩=some (iV most)) :
 Calls Tryz.prog 231 #[v,.func (.func 246) #[] #[pV gm]] w (yvv r0 w):= by
 have HV:=lh hv;have HG:=lh hg;clear hg;obtain ⟨ao,cap,rfl,h1,⟨h2,_⟩,h3⟩:=hv;clear h3;unfold maxLen at h2
 go_enter Tryz.func231,Tryz.ntmps231
 go_wp2
 go_loopg [8] xs.length (fun g i wr=>∃k:Nat,k+g=xs.length∧i=iV k∧w=wr∧Hid (∀j,j<k→(yef most) (xs.getD j 0)=false))
 case atStart=>exact ⟨0,by omega,rfl,rfl,fun j hj=>absurd hj om⟩
 case round =>
  obtain ⟨k,hkg,rfl,rfl,HN⟩:=hrel;cases gk with
  | zero =>
   have hlt:¬((k:Int)<(xs.length:Int)):=by omega
   go_wp2
   go_ret
   refine ⟨-1,rfl,?_,rfl⟩;rw [←hr0.out];simp only [show decide ((0:Int) ≤ -1)=false from by decide]
   symm
   rw [List.any_eq_false];intro y hy;obtain ⟨j,hj,rfl⟩:=List.getElem_of_mem hy;have:=HN.out j om
   simpa [List.getD,hj] using this
  | succ g =>
   have hlt:(k:Int)<(xs.length:Int):=by omega
   have hkn:k<xs.length:=by omega
   obtain ⟨b,o,x,rfl,hcell,hx⟩:=HV.out.get (i:=k) hkn;have HC:=yso x most gm w HG.out;cases hp:(yef most) x with
   | true =>
    have HC':Calls Tryz.prog 246 #[iV x,pV gm] w (Ret (.bool true) w):=by rw [←hp];exact HC
    have HP:=lh hp;clear hp HC
    go_wp2_with (go_at_call 246;refine HC'.mono ?_;rintro e w' ⟨rfl,rfl⟩)
    go_ret
    refine ⟨k,rfl,?_,rfl⟩;rw [←hr0.out]
    have e1:xs.any (yef most)=true:= by
     rw [List.any_eq_true];refine ⟨x,?_,HP.out⟩;rw [←hx.out];simp [List.getD,hkn]
    rw [e1];simp
   | false =>
    have HC':Calls Tryz.prog 246 #[iV x,pV gm] w (Ret (.bool false) w):=by rw [←hp];exact HC
    have HP:=lh hp;clear hp HC
    go_wp2_with (go_at_call 246;refine HC'.mono ?_;rintro e w' ⟨rfl,rfl⟩)
    go_roundg g
    case measure=>omega
    case rel=>exact ⟨k+1,by omega,by go_num,rfl,fun j hj=>by
     rcases Nat.lt_succ_iff_lt_or_eq.1 hj with h' | rfl
     ·exact HN.out j h'
     ·rw [hx.out];exact HP.out⟩
theorem yf5 (v:Value) (xs:List Int) (most:Int) (gm:Nat) (r0:Bool) (hr0:Hid (xs.any (yef most)=r0)) (w:World) (hv:Sl .i64 w v xs) (hg:w.cell? ⟨gm,0,none⟩=some (iV most)) :
 Calls Tryz.prog 210 #[v,.func (.func 246) #[] #[pV gm]] w (Ret (.bool r0) w):= by
 have HG:=lh hg;clear hg;cases r0 with
 | true =>
  go_enter Tryz.func210,Tryz.ntmps210
  go_wp2_with fail
  refine (yjb v xs most gm true hr0 _ hv HG.out).mono ?_;rintro e w' ⟨r,rfl,hr,rfl⟩
  go_wp2_with fail
  go_ret
  exact Ret.mk _ _
 | false =>
  go_enter Tryz.func210,Tryz.ntmps210
  go_wp2_with fail
  refine (yjb v xs most gm false hr0 _ hv HG.out).mono ?_;rintro e w' ⟨r,rfl,hr,rfl⟩
  go_wp2_with fail
  go_ret
  exact Ret.mk _ _
theorem ycp (v:Value) (xs:List Int) (most:Int) (r0:Bool) (hr0:Hid (xs.any (yef most)=!r0)) (w:World) (hv:Sl .i64 w v xs) :
 Calls Tryz.prog 238 #[v,iV most] w (RetB (.bool r0) w):= by
 have HV:=lh hv;obtain ⟨ao,cap,rfl,_⟩:=hv;have hb0:Below w.heap.size w (w.alloc (.cells #[iV most] 2)):=yaa bR _
 have hc:(w.alloc (.cells #[iV most] 2)).cell? ⟨w.heap.size,0,none⟩=some (iV most):= by
  have h:Blk (w.alloc (.cells #[iV most] 2)) w.heap.size 2 [iV most]:=heap_alloc_new w _;rw [h.cell];rfl
 have HC:=lh hc;have HB:=lh hb0;clear hc hb0;cases r0 with
 | true =>
  go_enter Tryz.func238,Tryz.ntmps238
  go_wp2_with fail
  refine (yf5 _ xs most _ false hr0 _ (HV.out.below HB.out) HC.out).mono ?_;rintro _ w1 ⟨rfl,rfl⟩;go_wp2
  go_ret
  exact ⟨rfl,HB.out⟩
 | false =>
  go_enter Tryz.func238,Tryz.ntmps238
  go_wp2_with fail
  refine (yf5 _ xs most _ true hr0 _ (HV.out.below HB.out) HC.out).mono ?_;rintro _ w1 ⟨rfl,rfl⟩;go_wp2
  go_ret
  exact ⟨rfl,HB.out⟩
theorem yrj:(Tryz.prog.info? 5).map (fun i=>(i.zero,i.size,i.bytes))=some (some (.int .u8 0),1,1):=by kernel_rfl
theorem yr7 {w w1 w2:World} {r r1:Option Nat} (h:w.grownBy w1 r) (h1:w1.grownBy w2 r1) (hr:r1=none∨r1=r∨∃g,r1=some g∧w.heap.size≤g):w.grownBy w2 r:= by
 refine ⟨h1.os.trans h.os,h1.tape.trans h.tape,h1.output.trans h.output,Nat.le_trans h.size h1.size,fun k hk hne=>?_⟩;rw [h1.block k (Nat.lt_of_lt_of_le hk h.size) ?_,h.block k hk hne];rcases hr with rfl | rfl | ⟨g,rfl,hg⟩
 ·simp
 ·exact hne
 ·intro e;simp at e;omega
def PutR (base:Nat) (b:Value) (xs:List Int) (w:World) (e:Ending) (w':World):Prop :=
 ∃u,e=.returned u∧w'.ownsRow base 5 1 u xs.length (xs.map (Value.int .u8))∧w.grownBy w' b.ownBlock∧(u.ownBlock=b.ownBlock∨∃g,u.ownBlock=some g∧w.heap.size≤g)
def ye4 (bs ls:List Int) (m:Nat):List Int:=bs++(ls.take m).flatMap be8
theorem yf2 (bs ls:List Int) {m:Nat} (h:m≤ls.length):(ye4 bs ls m).length=bs.length+8*m:= by
 have:∀l:List Int,(l.flatMap be8).length=8*l.length:= by
  intro l;exact zq115bce
 rw [ye4,List.length_append,this,List.length_take];omega
theorem ysf (bs ls:List Int) {m:Nat} (h:m<ls.length):ye4 bs ls (m+1)=ye4 bs ls m++be8 (ls.getD m 0):= by
 unfold ye4;rw [List.take_succ_eq_append_getElem h,List.flatMap_append];simp [List.getD,h]
theorem yqb (b l:Value) (bs ls:List Int) (base:Nat) (w:World) (hown:w.ownsRow base 5 1 b bs.length (bs.map (Value.int .u8))) (HL:Hid (∀W,w.grownBy W b.ownBlock→Sl .i64 W l ls)) (hbase:base≤w.heap.size)
 (hn:bs.length+8*ls.length≤100000):Calls Tryz.prog 93 #[b,l] w (PutR base b (ye4 bs ls ls.length) w):= by
 obtain ⟨i0,hi,hz0,hz1,hz2⟩:=info_parts yrj;have hl:=HL.out w (World.grownBy.refl _ _);obtain ⟨ao,cap,rfl,h1,⟨h2,_⟩,_⟩:=hl;unfold maxLen at h2;have HB:=lh hbase;obtain ⟨bb,hbb⟩:∃q,q=b.ownBlock:=⟨_,rfl⟩;rw [←hbb] at HL
 go_enter Tryz.func93,Tryz.ntmps93
 go_wp2
 go_loopg [0,10] ls.length (fun g c i wr=>∃m:Nat,m+g=ls.length∧i=iV m∧wr.ownsRow base 5 1 c (ye4 bs ls m).length ((ye4 bs ls m).map (Value.int .u8))∧w.grownBy wr bb∧Hid (c.ownBlock=bb∨∃g,c.ownBlock=some g∧w.heap.size≤g))
 case atStart=>exact ⟨0,by omega,rfl,by simpa [ye4] using hown,World.grownBy.refl _ _,.inl hbb.symm⟩
 case round =>
  obtain ⟨m,hmg,rfl,hown1,hg1,hwh⟩:=hrel;cases gk with
  | zero =>
   have hlt:¬((m:Int)<(ls.length:Int)):=by omega
   obtain rfl:m=ls.length:=by omega
   have HO:=lh hown1;have HG:=lh hg1;clear hown1 hg1;go_wp2
   go_ret
   exact ⟨_,rfl,HO.out,hbb▸HG.out,hbb▸hwh.out⟩
  | succ g =>
   have hlt:((m:Int)<(ls.length:Int)):=by omega
   obtain ⟨gb,o,x,rfl,hcell,HX⟩:=(HL.out _ hg1).get (i:=m) om;have HLen:=lh (yf2 bs ls (m:=m) om);obtain ⟨wox,hwo⟩:∃wox:World,wox=wr:=⟨_,rfl⟩;subst hwo
   go_wp2_with fail
   go_loopg [0,7] 8 (fun g c i wy=>∃j:Nat,j+g=8∧i=iV (56-8*j)∧wy.ownsRow base 5 1 c ((ye4 bs ls m).length+j) ((ye4 bs ls m++(be8 x).take j).map (Value.int .u8))∧w.grownBy wy bb∧Hid (c.ownBlock=bb∨∃g,c.ownBlock=some g∧w.heap.size≤g))
   case atStart=>exact ⟨0,by omega,rfl,by simpa using hown1,hg1,hwh⟩
   case round =>
    obtain ⟨j,hjg,rfl,hown2,hg2,hwh2⟩:=hrel;cases gk with
    | zero =>
     have hlt:decide ((0:Int)≤56-8*(j:Int))=false:=by simp;omega
     obtain rfl:j=8:=by omega
     have HT:Hid (wr.ownsRow base 5 1 u0 (ye4 bs ls (m+1)).length ((ye4 bs ls (m+1)).map (Value.int .u8))):= by
      rw [ysf bs ls om,HX.out,List.length_append];exact hown2
     clear hown1 hown2
     go_wp2_with fail
     go_roundg g
     case measure=>omega
     case rel=>exact ⟨m+1,by omega,by go_num,HT.out,hg2,hwh2⟩
    | succ g' =>
     have hlt:decide ((0:Int)≤56-8*(j:Int))=true:=by simp;omega
     have hn0:0≤56-8*(j:Int):=by omega
     have hn1:56-8*(j:Int)≤56:=by omega
     have hbs:=hg2.size;have hB2:=HB.out;have hL2:=HLen.out;have hb0:bs.length+8*m+j+1≤100000:=by omega
     have HQ:Hid (x/2 ^ (56-8*j)%256=yf0 x (56-8*j)):=rfl;rw [hL2] at hown2;clear hL2
     go_wp2_with (at_builtin;refine yas _ rfl (.tmp 18) (.tmp 23) 135 rfl base 5 i0 (.int .u8 0) 1 1 Tryz.underlying135 hi hz0 hz1 hz2 rfl (by decide) _ _ _ rfl (hown2.alloc _) ⟨wr.heap.size,0,none⟩ 1 1 [_] rfl rfl (cell_one_new _ _ _) (fun x hx=>by simp at hx;subst hx;rfl) (by unfold maxLen;omega) om (by simp;omega) ?_;intro v1 w1 hown3 hg3 hbk3)
     have hg4:w.grownBy w1 bb:= by
      refine yr7 (yr7 hg2 (World.grownBy_alloc _ _ none) (.inl rfl)) hg3 ?_;rcases hwh2.out with h | h
      ·exact .inr (.inl h)
      ·exact .inr (.inr h)
     have hwh3:Hid (v1.ownBlock=bb∨∃g,v1.ownBlock=some g∧w.heap.size≤g):= by
      rcases hbk3 with h | h
      ·rw [h];exact hwh2
      ·exact .inr ⟨_,h,by simp;omega⟩
     have HT:Hid (w1.ownsRow base 5 1 v1 ((ye4 bs ls m).length+(j+1)) ((ye4 bs ls m++(be8 x).take (j+1)).map (Value.int .u8))):= by
      rw [yma x om,HLen.out,←HQ.out];have e:bs.length+8*m+(j+1)=bs.length+8*m+j+1:=by omega
      rw [e]
      simpa [Hid] using hown3
     clear hown1 hown2 hown3 hg3 hbk3 hwh2;go_roundg g'
     case measure=>omega
     case rel=>exact ⟨j+1,by omega,by go_num,HT.out,hg4,hwh3⟩
theorem Sl.litG {k:IntKind} {w W:World} {e:TypeId} {cs:Array Value} {r:Option Nat} (xs:List Int) (n:Nat) {g:Nat} (hW:(w.alloc (.cells cs e)).grownBy W r) (hn:xs.length=n) (hc:cs=(xs.map (Value.int k)).toArray) (hm:n≤maxLen) (hg:w.heap.size=g) (hne:some g≠r) :
 Sl k W (.slice (some ⟨g,0,none⟩) n n) xs:= by
 subst hc hg;obtain ⟨ao,cap,e,h1,h2,h3⟩:=Sl.lit (k:=k) w e xs n hn _ rfl hm;cases e;refine ⟨_,_,rfl,h1,h2,fun hx=>?_⟩;obtain ⟨b,o,e,hcell⟩:=h3 hx;cases e;exact ⟨_,_,rfl,fun i hi=>hW.cell (hcell i hi) hne⟩
def be9 (x:Int×Bool):List Int:=be8 x.1++[if x.2 then 1 else 0]
def yss (lim:Int) (ts:List (Int×Bool)) (cyc dued minf minp start:Int):List Int:=[lim,cyc,dued,minf,minp,start,ts.length].flatMap be8++ts.flatMap be9
def yqv (lim:Int) (ts:List (Int×Bool)) (cyc dued minf minp start:Int):List Int×Int:=if yaw lim ts cyc dued minf minp start=true then (yss lim ts cyc dued minf minp start,0) else ([],6)
def yde (lim:Int) (ts:List (Int×Bool)) (cyc dued minf minp start:Int) (k:Nat):List Int:=[lim,cyc,dued,minf,minp,start,ts.length].flatMap be8++(ts.take k).flatMap be9
def yz0 (k:IntKind) (r:List Int×Int) (w:World) (e:Ending) (w':World):Prop:=∃u,e=.returned (.tuple #[u,iV r.2])∧Sl k w' u r.1∧(∀b o n c,u=.slice (some ⟨b,o,none⟩) n c→0<n→w.heap.size≤b)∧Below w.heap.size w w'
theorem yst (x:Int×Bool):(be9 x).length=9:=rfl
theorem yoy (l:List (Int×Bool)):(l.flatMap be9).length=9*l.length:= by
 induction l with
 | nil=>rfl
 | cons x l ih=>rw [List.flatMap_cons,List.length_append,ih,yst,List.length_cons];omega
theorem ynw (l:List Int):(l.flatMap be8).length=8*l.length:= by
 exact zq115bce
theorem yff (lim:Int) (ts:List (Int×Bool)) (cyc dued minf minp start:Int) {k:Nat} (h:k≤ts.length):(yde lim ts cyc dued minf minp start k).length=56+9*k:= by
 rw [yde,List.length_append,yoy,ynw,List.length_take];simp only [List.length_cons,List.length_nil];omega
theorem ypk (lim:Int) (ts:List (Int×Bool)) (cyc dued minf minp start:Int) {k:Nat} (h:k<ts.length) {x:Int} {g:Bool} (he:ts.getD k (0,false)=(x,g)) :
 yde lim ts cyc dued minf minp start (k+1)=yde lim ts cyc dued minf minp start k++be8 x++[if g then 1 else 0]:= by
 unfold yde;rw [List.take_succ_eq_append_getElem h,List.flatMap_append];have:ts[k]=(x,g):=by rw [←he];simp [List.getD,h]
 rw [this];simp [be9]
theorem yyu (k:IntKind) (w:World):Sl k w (sZ) []:=⟨none,0,rfl,Nat.le_refl _,⟨by simp [maxLen],fun _=>rfl⟩,fun h=>absurd rfl h⟩
theorem Sl.kept {k:IntKind} {w w':World} {g o n cap:Nat} {r:Option Nat} {xs:List Int} (h:Sl k w (.slice (some ⟨g,o,none⟩) n cap) xs) (hg:w.grownBy w' r) (hne:some g≠r):Sl k w' (.slice (some ⟨g,o,none⟩) n cap) xs:= by
 obtain ⟨ao,cap',e,h1,h2,h3⟩:=h;cases e;refine ⟨_,_,rfl,h1,h2,fun hx=>?_⟩;obtain ⟨b,o',e,hc⟩:=h3 hx;cases e;exact ⟨g,o,rfl,fun i hi=>hg.cell (hc i hi) hne⟩
theorem yk0 (v:Value) (ts:List (Int×Bool)) (lim cyc dued minf minp start:Int) (w:World) (hv:TrS w v ts) :
 Calls Tryz.prog 55 #[.agg #[iV lim,v,iV cyc,iV dued,iV minf,iV minp,iV start]] w (yz0 .u8 (yqv lim ts cyc dued minf minp start) w):= by
 have HV:=lh hv;obtain ⟨ao,cap,rfl,h1,⟨h2,_⟩,h3⟩:=hv;clear h3;unfold maxLen at h2;obtain ⟨i0,hi,hz0,hz1,hz2⟩:=info_parts yrj;have hT:=TB.new w 24 lim (.slice ao ts.length cap) cyc dued minf minp start;have hb0:Below w.heap.size w (w.alloc (.cells #[iV lim,.slice ao ts.length cap,iV cyc,iV dued,iV minf,iV minp,iV start] 24)):=bR.alloc (Nat.le_refl _) _;cases hr:yaw lim ts cyc dued minf minp start with
 | false =>
  have hR:yqv lim ts cyc dued minf minp start=([],6):=by simp [yqv,hr]
  rw [hR];clear hR;have H6:=lh (show (if yaw lim ts cyc dued minf minp start=true then (0:Int) else 6)=6 from by rw [hr];rfl);clear hr
  go_enter Tryz.func55,Tryz.ntmps55
  go_wp2_with fail
  refine (yar _ ts lim cyc dued minf minp start 6 H6 _ (HV.out.below hb0)).mono ?_;rintro e w1 ⟨rfl,hb1⟩
  go_wp2_with fail
  go_ret2
  exact ⟨_,rfl,yyu _ _,(fun b o n c e _=>by cases e),yad hb0 hb1⟩
 | true =>
  have hR:yqv lim ts cyc dued minf minp start=(yss lim ts cyc dued minf minp start,0):=by simp [yqv,hr]
  rw [hR];clear hR
  have hts:ts.length≤8:= by
   simp only [yaw,betw,Bool.and_eq_true,decide_eq_true_eq] at hr;omega
  have H0:=lh (show (if yaw lim ts cyc dued minf minp start=true then (0:Int) else 6)=0 from by rw [hr];rfl);clear hr
  go_enter Tryz.func55,Tryz.ntmps55
  go_wp2_with fail
  refine (yar _ ts lim cyc dued minf minp start 0 H0 _ (HV.out.below hb0)).mono ?_;rintro e w1 ⟨rfl,hb1⟩;have hT1:=hT.below hb1;have hbw1:Below w.heap.size w w1:=yad hb0 hb1;obtain ⟨t0,t1,t2,t3,t4,t5,t6⟩:=hT1;have hs1:=hbw1.size;have HT:=lh hT;clear hT;have hbx1:Below (w.heap.size+1) (w.alloc (.cells #[iV lim,.slice ao ts.length cap,iV cyc,iV dued,iV minf,iV minp,iV start] 24)) w1:=hb1.mono (by rw [World.size_alloc];exact Nat.le_refl _);have hbs1:w.heap.size+1≤w1.heap.size:=by have:=hbx1.size;rw [World.size_alloc] at this;exact this
  go_wp2_with fail
  refine (yqb _ _ [] [lim,cyc,dued,minf,minp,start,ts.length] (w.heap.size+1) _ (World.ownsRow_nil _ _ _ _) (fun W hW=>(Sl.litAt _ _ _ 7 w1.heap.size rfl _ rfl (by decide) rfl).kept hW (by simp [Value.ownBlock])) (by simp;omega) (by simp)).mono ?_;rintro e w2 ⟨u2,rfl,hown2,hg2,hwh2⟩;have hbx2:Below (w.heap.size+1) (w.alloc (.cells #[iV lim,.slice ao ts.length cap,iV cyc,iV dued,iV minf,iV minp,iV start] 24)) w2:=(hbx1.alloc hbs1 _).grown hg2 (by simp;omega) (fun k hk=>by cases hk)
  have HO2:Hid (w2.ownsRow (w.heap.size+1) 5 1 u2 (yde lim ts cyc dued minf minp start 0).length ((yde lim ts cyc dued minf minp start 0).map (Value.int .u8))):= by
   simpa [yde,ye4,Hid] using hown2
  obtain ⟨t0,t1,t2,t3,t4,t5,t6⟩:=HT.out.below (hbx2.mono (by rw [World.size_alloc];exact Nat.le_refl _));clear hown2 hg2 hwh2 hb1 hbw1 hbx1
  go_wp2_with fail
  go_loopg [5,33] ts.length (fun g c i wr=>∃k:Nat,k+g=ts.length∧i=iV k∧wr.ownsRow (w.heap.size+1) 5 1 c (yde lim ts cyc dued minf minp start k).length ((yde lim ts cyc dued minf minp start k).map (Value.int .u8))∧Below (w.heap.size+1) (w.alloc (.cells #[iV lim,.slice ao ts.length cap,iV cyc,iV dued,iV minf,iV minp,iV start] 24)) wr)
  case atStart=>exact ⟨0,by omega,rfl,HO2.out,hbx2⟩
  case round =>
   obtain ⟨k,hkg,rfl,hown,hbx⟩:=hrel;have hb:Below w.heap.size w wr:=hb0.trans (hbx.mono om);have hbs:w.heap.size+1≤wr.heap.size:=by have:=hbx.size;rw [World.size_alloc] at this;exact this
   cases gk with
   | zero =>
    have hlt:¬((k:Int)<(ts.length:Int)):=by omega
    obtain rfl:k=ts.length:=by omega
    have HO:=lh hown;clear hown;go_wp2
    go_ret2
    refine ⟨_,rfl,?_,fun b o n c e _=>?_,hb⟩
    rotate_left
    ·have h1:=(HO.out.lt b ((congrArg Value.ownBlock e).trans rfl)).1
     omega
    have:=Sl.of_own HO.out rfl
    simpa [yde,yss] using this
   | succ g =>
    have hlt:((k:Int)<(ts.length:Int)):=by omega
    obtain ⟨b,o,x,gr,rfl,hc1,hc2,HX⟩:=(HV.out.below hb).get (i:=k) om;have HLen:=lh (yff lim ts cyc dued minf minp start (k:=k) om)
    go_wp2_with fail
    refine (yqb _ _ (yde lim ts cyc dued minf minp start k) [x] (w.heap.size+1) _ ((hown.alloc _).alloc _) (fun W hW=>(Sl.litAt _ _ [x] 1 (wr.heap.size+1) rfl _ rfl (by decide) (by simp)).kept hW (by intro e;have:=hown.lt _ e.symm;omega)) (by simp;omega) (by rw [HLen.out];simp;omega)).mono ?_;rintro e w3 ⟨u3,rfl,hown3,hg3,hwh3⟩
    have hcg:w3.cell? ⟨wr.heap.size,1,none⟩=some (.bool gr):= by
     have hB:Blk (wr.alloc (.cells #[iV x,.bool gr] 81)) wr.heap.size 81 [iV x,.bool gr]:=heap_alloc_new wr _;exact hg3.cell ((hB.below (bR.alloc (Nat.le_refl _) _)).cell 1) (fun e=>Nat.lt_irrefl _ (hown.lt _ e.symm).2)
    have hbx3:Below (w.heap.size+1) (w.alloc (.cells #[iV lim,.slice (some ⟨b,o,none⟩) ts.length cap,iV cyc,iV dued,iV minf,iV minp,iV start] 24)) w3:=((hbx.alloc hbs _).alloc (by simp;omega) _).grown hg3 (by simp;omega) (fun q hq=>(hown.lt q hq).1);have hs3:=hg3.size;simp only [World.size_alloc] at hs3;have e3:(ye4 (yde lim ts cyc dued minf minp start k) [x] 1)=yde lim ts cyc dued minf minp start k++be8 x:=by simp [ye4]
    have hl3:(yde lim ts cyc dued minf minp start k++be8 x).length=56+9*k+8:=by rw [List.length_append,HLen.out,yie]
    simp only [List.length_cons,List.length_nil,Nat.zero_add] at hown3;rw [e3,hl3] at hown3;have HS:=lh (ypk lim ts cyc dued minf minp start (k:=k) om HX.out);have HLS:=lh (yff lim ts cyc dued minf minp start (k:=k+1) om);clear e3 hl3 hown hg3 hwh3 hc1 hc2 hbx;have hk8:k≤8:=by omega
    cases gr with
    | true =>
     go_wp2_with (at_builtin;refine yas _ rfl (.tmp 44) (.tmp 45) 135 rfl (w.heap.size+1) 5 i0 (.int .u8 0) 1 1 Tryz.underlying135 hi hz0 hz1 hz2 rfl (by decide) _ _ _ rfl (hown3.alloc _) ⟨w3.heap.size,0,none⟩ 1 1 [_] rfl rfl (cell_one_new _ _ _) (fun x hx=>by simp at hx;subst hx;rfl) (by unfold maxLen;omega) om (by simp;omega) ?_;intro v1 w4 hown4 hg4 hbk4)
     exact zq11bd97
    | false =>
     go_wp2_with (at_builtin;refine yas _ rfl (.tmp 47) (.tmp 48) 135 rfl (w.heap.size+1) 5 i0 (.int .u8 0) 1 1 Tryz.underlying135 hi hz0 hz1 hz2 rfl (by decide) _ _ _ rfl (hown3.alloc _) ⟨w3.heap.size,0,none⟩ 1 1 [_] rfl rfl (cell_one_new _ _ _) (fun x hx=>by simp at hx;subst hx;rfl) (by unfold maxLen;omega) om (by simp;omega) ?_;intro v1 w4 hown4 hg4 hbk4)
     exact zq11bd97
theorem yqe:(Tryz.prog.info? 5).map (fun i=>(i.zero,i.size,i.bytes))=some (some (.int .u8 0),1,1):=by kernel_rfl
def yzz (xs:List Int) (w:World) (e:Ending) (w':World):Prop :=
 ∃u,e=.returned u∧w'.ownsRow w.heap.size 5 1 u xs.length (xs.map (Value.int .u8))∧Below w.heap.size w w'
theorem ysh (v:Value) (xs:List Int) (w:World) (hv:Sl .u8 w v xs) (hn:xs.length≤20000) :
 Calls Tryz.prog 101 #[v] w (yzz xs w):= by
 have HV:=lh hv;obtain ⟨ao,cap,rfl,h1,⟨h2,_⟩,h3⟩:=hv;clear h3;unfold maxLen at h2;have qT:∀(w:World) (a:Option Addr) (n c n' c':Nat),(binOp .eql 135 (.slice a n c) (.slice none n' c')).run Tryz.prog w=.ok (.bool a.isNone) w:=fun w a n c n' c'=>Lib.run_eql_slice_nil w _ _ a n c n' c' Tryz.underlying135;obtain ⟨i0,hi,hz0,hz1,hz2⟩:=info_parts yqe;cases ao with
 | none =>
  obtain rfl:=HV.out.none_len rfl;obtain ⟨_,rfl⟩:=HV.out.none_cap rfl
  go_enter Tryz.func101,Tryz.ntmps101
  go_wp2
  go_ret
  exact ⟨_,rfl,World.ownsRow_nil _ _ _ _,bR⟩
 | some a =>
  have hA:=HV.out.news;have HA:=lh hA;clear hA
  go_enter Tryz.func101,Tryz.ntmps101
  go_wp2_with (at_builtin;refine ya9 _ rfl (.tmp 5) (.tmp 6) 135 rfl w.heap.size 5 i0 (.int .u8 0) 1 1 Tryz.underlying135 hi hz0 hz1 hz2 rfl (by decide) _ 0 [] rfl (yf8 w _) (some a) xs.length cap (xs.map (Value.int .u8)) rfl (by simp) (fun h=>by cases h) (HV.out.alloc _).news (ints_oneCell _ _) (by unfold maxLen;omega) om (by rw [World.size_alloc];omega) ?_;intro v' w1 hown1 hg1 hn1;clear hn1)
  go_ret
  refine ⟨_,rfl,by simpa using hown1,?_⟩;exact (bR.alloc (Nat.le_refl _) _).grown hg1 (by rw [World.size_alloc];omega) (by intro k hk;cases hk;exact Nat.le_refl _)
structure Ord (ks:List Int) (n:Nat):Prop where
 len:ks.length=n
 rng:∀i,i<n→1≤ks.getD i 0∧ks.getD i 0≤n
 ne:∀i j,i<j→j<n→ks.getD i 0≠ks.getD j 0
 all:∀j,j<n→∃i,i<n∧ks.getD i 0=(j:Int)+1
theorem ymc (lt:Int→Int→Bool) (xs:List Int) (n:Nat):Ord (ya3 lt xs n) n:= by
 have hl:=ya4 lt xs n;refine ⟨hl,fun i hi=>yhu hi,?_,?_⟩
 ·intro i j hij hj e
  have e1:(ya3 lt xs n).getD i 0=(ya3 lt xs n)[i]'om:=by simp [List.getD,hl,show i<n by omega]
  have e2:(ya3 lt xs n).getD j 0=(ya3 lt xs n)[j]'om:=by simp [List.getD,hl,hj]
  rw [e1,e2] at e;have:=(List.getElem_inj (ykq lt xs n)).1 e;omega
 ·intro j hj
  have hm:((j:Int)+1)∈ya3 lt xs n:= by
   refine (yh8 lt xs n).mem_iff.2 ?_;simp;exact ⟨j,hj,rfl⟩
  obtain ⟨i,hi,e⟩:=List.getElem_of_mem hm;refine ⟨i,by omega,?_⟩;rw [←e];simp [List.getD,hi]
section
variable {bal ks:List Int} {n:Nat} (ho:Ord ks n) (hl:bal.length=n) {a:Int}
def at_ (ks:List Int) (i:Nat):Nat:=(ks.getD i 0-1).toNat
def took (bal ks:List Int) (a:Int) (i:Nat):Int:=min (fill bal ks a i).2 (bal.getD (at_ ks i) 0)
include ho in
theorem jah {i:Nat} (hi:i<n):at_ ks i<n:= by
 have:=ho.rng i hi;unfold at_;omega
include ho in
theorem jaj {i j:Nat} (hi:i<n) (hj:j<n) (h:i≠j):at_ ks i≠at_ ks j:= by
 have h1:=ho.rng i hi;have h2:=ho.rng j hj
 have h3:ks.getD i 0≠ks.getD j 0:= by
  rcases Nat.lt_or_gt_of_ne h with h | h
  ·exact ho.ne i j h hj
  ·exact fun e=>ho.ne j i h hi e.symm
 unfold at_;omega
include ho in
theorem jaf {j:Nat} (hj:j<n):∃i,i<n∧at_ ks i=j:= by
 obtain ⟨i,hi,e⟩:=ho.all j hj;exact ⟨i,hi,by unfold at_;omega⟩
theorem ykg (i:Nat):(fill bal ks a (i+1)).2=(fill bal ks a i).2-took bal ks a i:=rfl
theorem yks (i:Nat):(fill bal ks a (i+1)).1=(fill bal ks a i).1.set (at_ ks i) (took bal ks a i):=rfl
include hl in
theorem yxv {j:Nat} (hj:j<n) (i:Nat) (h:∀k,k<i→at_ ks k≠j):(fill bal ks a i).1.getD j 0=0:= by
 induction i with
 | zero=>simp [fill,List.getD,hl,hj]
 | succ i ih =>
  rw [yks,List.getD_eq_getElem?_getD,List.getElem?_set_ne (h i (Nat.lt_succ_self i)),←List.getD_eq_getElem?_getD];exact ih fun k hk=>h k om
include ho hl in
theorem yzk {i:Nat} (j:Nat) (hj:j≤n) (hi:i<j):(fill bal ks a j).1.getD (at_ ks i) 0=took bal ks a i:= by
 induction j with
 | zero=>omega
 | succ j ih =>
  rw [yks];have hlen:=ydi bal ks a j
  by_cases e:i=j
  ·subst e
   have:=jah ho (i:=i) om;rw [List.getD_eq_getElem?_getD,List.getElem?_set_self om]
   rfl
  ·have:=jaj ho (i:=j) (j:=i) om om (fun h=>e h.symm)
   rw [List.getD_eq_getElem?_getD,List.getElem?_set_ne this,←List.getD_eq_getElem?_getD];exact ih om om
theorem yy4 {l:List Int} {k:Nat} {x:Int} (hk:k<l.length) (h0:l.getD k 0=0):(l.set k x).sum=l.sum+x:= by
 induction l generalizing k with
 | nil=>simp at hk
 | cons y l ih =>
  cases k with
  | zero =>
   simp [List.getD] at h0;subst h0;simp;omega
  | succ k =>
   have:=ih (k:=k) (by simpa using hk) (by simpa [List.getD] using h0);simp [this];omega
include ho hl in
theorem yw6 (i:Nat) (hi:i≤n):(fill bal ks a i).1.sum+(fill bal ks a i).2=a:= by
 induction i with
 | zero=>simp [fill]
 | succ i ih =>
  have h1:=ih om;have h2:=jah ho (i:=i) om;have hlen:=ydi bal ks a i;rw [yks,ykg,yy4 om (yxv hl h2 i fun k hk=>jaj ho om om om)];omega
theorem yt6 (hb:∀x∈bal,0≤x) (ha:0≤a) {i j:Nat} (h:i≤j):(fill bal ks a j).2≤(fill bal ks a i).2:= by
 induction j with
 | zero =>
  obtain rfl:i=0:=by omega
  exact Int.le_refl _
 | succ j ih =>
  by_cases e:i=j+1
  ·subst e;exact Int.le_refl _
  ·have h1:=ih om
   have h2:=ydz (ks:=ks) ha hb j;rw [ykg]
   have h3:0≤bal.getD (at_ ks j) 0:= by
    rw [List.getD_eq_getElem?_getD];cases hg:bal[at_ ks j]? with
    | none=>simp
    | some x=>simpa using hb x (List.mem_of_getElem? hg)
   unfold took;omega
include ho hl in
theorem yun {i:Nat} (hi:i<n):(ybq bal ks a).1.getD (at_ ks i) 0=took bal ks a i:= by
 unfold ybq;rw [ho.len];exact yzk ho hl n (Nat.le_refl _) hi
include ho hl in
theorem yll:(ybq bal ks a).1.sum+(ybq bal ks a).2=a:= by
 unfold ybq;exact yw6 ho hl _ (by rw [ho.len];exact Nat.le_refl _)
theorem yvc (hb:∀x∈bal,0≤x) (ha:0≤a) {i j:Nat} (hij:i<j) (h:0<(fill bal ks a j).2):took bal ks a i=bal.getD (at_ ks i) 0:= by
 have h1:=yt6 (ks:=ks) hb ha (show i+1≤j by omega);rw [ykg] at h1;unfold took at h1 ⊢;omega
include ho hl in
theorem ypc (hb:∀x∈bal,0≤x) (ha:0≤a) (h:0<(ybq bal ks a).2) {j:Nat} (hj:j<n):(ybq bal ks a).1.getD j 0=bal.getD j 0:= by
 obtain ⟨i,hi,rfl⟩:=jaf ho hj;rw [yun ho hl hi];refine yvc hb ha (j:=ks.length) (by rw [ho.len];exact hi) h
include ho hl in
end
end Go.Proofs.YtkongpjpkpfniaaGreat

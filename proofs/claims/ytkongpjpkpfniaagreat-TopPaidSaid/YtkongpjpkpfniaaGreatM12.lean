/- TopPaid: parts of the proof, made small by a program (mini.py). -/
import Derived.BigQuiet
import Derived.BigRegion
import Derived.Deep.DeepCutAuto
import Derived.Deep.QuietTactic
import Derived.Deep.RegionHeld3
import Derived.Deep.RegionLaw
import Derived.ChangeArms
import Derived.Deep.Fields
import Derived.Deep.Slices
import Derived.Lib.SmallJoins
import Derived.OpenShut
import Derived.WideShapes
import Derived.Test.YtkongpjpkpfniaaGreatM01
import Derived.Test.YtkongpjpkpfniaaGreatM02
import Derived.Test.YtkongpjpkpfniaaGreatM03
import Derived.Test.YtkongpjpkpfniaaGreatM06
set_option linter.unusedVariables false
set_option linter.unusedSimpArgs false
set_option maxRecDepth 100000
set_option maxHeartbeats 6400000
namespace Go.Proofs.YtkongpjpkpfniaaGreat
open Go.RowKit
theorem zq12efc9 {q:Prop} (h:q:= by
 go_wp2_with fail
 refine (ycc MS.out _).mono ?_;rintro _ w1 ⟨rfl,rfl⟩;go_wp2
 go_ret
 exact ⟨rfl,gb0.out⟩):q:=h
theorem zq12e3a9 {q:Prop} (h:q:= by
 rw [sumK,ih om,List.take_succ_eq_append_getElem om,List.sum_append];simp [List.getD,show n<bs.length by omega]):q:=h
theorem ynk (v:Int) (w:World):Calls Tryz.prog 46 #[iV v] w (Ret (.bool (may0 v)) w):= by
 by_cases h1:0≤v
 ·by_cases h2:v≤1000000000000000
  ·go_enter Tryz.func46,Tryz.ntmps46
   go_wp2
   go_ret
   simp [Ret,may0,h1,h2]
  ·go_enter Tryz.func46,Tryz.ntmps46
   go_wp2
   go_ret
   simp [Ret,may0,h2]
 ·go_enter Tryz.func46,Tryz.ntmps46
  go_wp2
  go_ret
  simp [Ret,may0];omega
theorem ycc {v:Int} {r:Bool} (h:may0 v=r) (w:World):Calls Tryz.prog 46 #[iV v] w (Ret (.bool r) w):=by rw [←h];exact ynk v w
def sumK (bs:List Int):Nat→Int
 | 0=>0
 | k+1=>sumK bs k+bs.getD k 0
theorem yvb {bs:List Int} (n:Nat) (hn:n≤bs.length) (h:∀j,j<bs.length→may0 (bs.getD j 0)=true) (hs:may0 (sumK bs bs.length)=true):0≤sumK bs n∧sumK bs n≤sumK bs bs.length∧yc0 (sumK bs n) (bs.drop n)=some (sumK bs bs.length):= by
 have mono:∀d m,m+d=bs.length→sumK bs m≤sumK bs bs.length:= by
  intro d
  induction d with
  | zero =>
   intro m hm;have:m=bs.length:=by omega
   rw [this];exact Int.le_refl _
  | succ d ih =>
   intro m hm;have h1:=ih (m+1) om;have h2:=ybv.1 (h m om);simp only [sumK] at h1;omega
 have nn:∀m,m≤bs.length→0≤sumK bs m:= by
  intro m
  induction m with
  | zero=>intro _;exact Int.le_refl _
  | succ m ih =>
   intro hm;have h1:=ih om;have h2:=ybv.1 (h m om);simp only [sumK];omega
 refine ⟨nn n hn,mono (bs.length-n) n om,?_⟩
 have key:∀d m,m+d=bs.length→yc0 (sumK bs m) (bs.drop m)=some (sumK bs bs.length):= by
  intro d
  induction d with
  | zero =>
   intro m hm;have:m=bs.length:=by omega
   rw [this,List.drop_of_length_le (Nat.le_refl _)]
   rfl
  | succ d ih =>
   intro m hm;have hS:=ybv.1 hs;have h1:=nn (m+1) om;have h2:=mono d (m+1) om;rw [yln om,if_pos ⟨h m om,ybv.2 ⟨by simpa [sumK] using h1,by have h2':sumK bs m+bs.getD m 0≤sumK bs bs.length:=h2;omega⟩⟩];exact ih (m+1) om
 exact key (bs.length-n) n om
def yhi (bs:List Int) (c d:Int):Bool:=(decide (1≤bs.length) && decide (bs.length≤8) && may0 c && may0 d) && (List.range bs.length).all (fun j=>may0 (bs.getD j 0)) && (may0 (sumK bs bs.length) && (c == 0 || sumK bs bs.length == 0))
theorem ynv (bs:List Int) (c d:Int):yhi bs c d=yat bs c d:= by
 unfold yhi;cases ha:(List.range bs.length).all (fun j=>may0 (bs.getD j 0)) with
 | false =>
  have hs:yc0 0 bs=none:= by
   cases hs:yc0 0 bs with
   | none=>rfl
   | some s =>
    have:(List.range bs.length).all (fun j=>may0 (bs.getD j 0))=true:= by
     rw [List.all_eq_true];intro j hj;exact ybv.2 (ykd hs j (by simpa using hj))
    rw [this] at ha;cases ha
  unfold yat;rw [hs];simp
 | true =>
  rw [List.all_eq_true] at ha;have h:∀j,j<bs.length→may0 (bs.getD j 0)=true:=fun j hj=>ha j (by simpa using hj);cases hm:may0 (sumK bs bs.length) with
  | true =>
   have:=(yvb 0 (Nat.zero_le _) h hm).2.2;simp only [sumK,List.drop_zero] at this;unfold yat;rw [this];simp
  | false =>
   have hs:yc0 0 bs=none:= by
    cases hs:yc0 0 bs with
    | none=>rfl
    | some s =>
     exfalso;have e:=ynt hs
     have hb:∀n,n≤bs.length→sumK bs n=(bs.take n).sum:= by
      intro n
      induction n with
      | zero=>intro _;simp [sumK]
      | succ n ih =>
       intro hn;exact zq12e3a9
     have hb2:=hb bs.length (Nat.le_refl _);rw [List.take_length] at hb2
     by_cases hne:bs=[]
     ·subst hne
      simp [sumK] at hm;exact absurd hm (by decide)
     ·have hg:=ylm om hs
      have:may0 (sumK bs bs.length)=true:=ybv.2 ⟨by rw [hb2];omega,by have:=hg.2.2 hne;rw [hb2];omega⟩;rw [this] at hm;cases hm
   unfold yat;rw [hs];simp
theorem ygp (v:Value) (bs:List Int) (c d:Int) (r:Bool) (hr:Hid (yat bs c d=r)) (w:World) (hv:Sl .i64 w v bs) :
 Calls Tryz.prog 15 #[.agg #[v,iV c,iV d]] w (RetB (.bool r) w):= by
 have HV:=lh hv;have HR:Hid (yhi bs c d=r):=by show _=_;rw [ynv];exact hr.out
 clear hr;obtain ⟨ao,cap,rfl,h1,⟨h2,_⟩,h3⟩:=hv;clear h3;unfold maxLen at h2;have HP:=lh (PB.new w 35 (.slice ao bs.length cap) c d);obtain ⟨p0,p1,p2⟩:=HP.out;have hb0:Below w.heap.size w (w.alloc (.cells #[.slice ao bs.length cap,iV c,iV d] 35)):=yaa bR _;have HSV:=lh (HV.out.below hb0);clear HP HV
 by_cases l1:1≤bs.length
 ·by_cases l2:bs.length≤8
  ·cases mc:may0 c with
   | false =>
    obtain rfl:false=r:=by rw [←HR.out];unfold yhi;rw [mc];simp
    have d1:decide ((bs.length:Int)<1)=false:=by simp;omega
    have d2:decide ((8:Int)<(bs.length:Int))=false:=by simp;omega
    have d3:¬(bs.length:Int)<1:=by omega
    have MC:=lh mc;clear mc HR
    go_enter Tryz.func15,Tryz.ntmps15
    go_wp2_with fail
    refine (ycc MC.out _).mono ?_;rintro _ w1 ⟨rfl,rfl⟩;go_wp2
    go_ret
    exact ⟨rfl,hb0⟩
   | true =>
    cases md:may0 d with
    | false =>
     obtain rfl:false=r:=by rw [←HR.out];unfold yhi;rw [md];simp
     have d1:decide ((bs.length:Int)<1)=false:=by simp;omega
     have d2:decide ((8:Int)<(bs.length:Int))=false:=by simp;omega
     have d3:¬(bs.length:Int)<1:=by omega
     have MC:=lh mc;have MD:=lh md;clear mc md HR
     go_enter Tryz.func15,Tryz.ntmps15
     go_wp2_with fail
     refine (ycc MC.out _).mono ?_;rintro _ w1 ⟨rfl,rfl⟩
     go_wp2_with fail
     refine (ycc MD.out _).mono ?_;rintro _ w1 ⟨rfl,rfl⟩;go_wp2
     go_ret
     exact ⟨rfl,hb0⟩
    | true =>
     have HR2:Hid (((List.range bs.length).all (fun j=>may0 (bs.getD j 0)) && (may0 (sumK bs bs.length) && (c == 0 || sumK bs bs.length == 0)))=r):= by
      show _=_;rw [←HR.out];unfold yhi;rw [mc,md,decide_eq_true l1,decide_eq_true l2];simp
     have d1:decide ((bs.length:Int)<1)=false:=by simp;omega
     have d2:decide ((8:Int)<(bs.length:Int))=false:=by simp;omega
     have d3:¬(bs.length:Int)<1:=by omega
     have MC:=lh mc;have MD:=lh md;have HL:=lh (And.intro l1 l2);clear mc md HR l1
     go_enter Tryz.func15,Tryz.ntmps15
     go_wp2_with fail
     refine (ycc MC.out _).mono ?_;rintro _ w1 ⟨rfl,rfl⟩
     go_wp2_with fail
     refine (ycc MD.out _).mono ?_;rintro _ w1 ⟨rfl,rfl⟩
     go_wp2_with fail
     obtain ⟨W,hW,gp0,gp1,gp2,gb0,GSV⟩:∃W,(w.alloc (.cells #[.slice ao bs.length cap,iV c,iV d] 35))=W∧W.cell? ⟨w.heap.size,0,none⟩=some (.slice ao bs.length cap)∧W.cell? ⟨w.heap.size,1,none⟩=some (iV c)∧W.cell? ⟨w.heap.size,2,none⟩=some (iV d)∧Hid (Below w.heap.size w W)∧Hid (Sl .i64 W (.slice ao bs.length cap) bs):=⟨_,rfl,p0,p1,p2,hb0,HSV⟩
     with_reducible rw [hW]
     clear hW p0 p1 p2 hb0 HSV d1 d2 d3;go_loopg [3,4] bs.length (fun g a i wr=>∃(k:Nat) (all:Int),k+g=bs.length∧i=iV k∧a=iV all∧Hid (sumK bs k=all)∧Hid (0≤all∧all≤1000000000000000*k)∧Hid (∀j,j<k→may0 (bs.getD j 0)=true)∧W=wr)
     case atStart=>exact ⟨0,0,by omega,rfl,rfl,rfl,by show _∧_;omega,fun j hj=>absurd hj om,rfl⟩
     case round =>
      obtain ⟨k,all,hkg,rfl,rfl,HA,HB,HM,rfl⟩:=hrel;cases gk with
      | zero =>
       have hlt:¬((k:Int)<(bs.length:Int)):=by omega
       have hk:k=bs.length:=by omega
       have hall:(List.range bs.length).all (fun j=>may0 (bs.getD j 0))=true:= by
        rw [List.all_eq_true];intro j hj
        exact HM.out j (by
         have:j<bs.length:=by simpa using hj
         omega)
       have hr:=HR2.out;rw [hall,←hk,HA.out,Bool.true_and] at hr;have HRR:=lh hr;clear hr hall hk HR2 HM HA;cases ms:may0 all with
       | false =>
        obtain rfl:false=r:=by rw [←HRR.out,ms];rfl
        have MS:=lh ms;clear ms HRR;exact zq12efc9
       | true =>
        have h:=HRR.out;rw [ms,Bool.true_and] at h;have MS:=lh ms;clear ms HRR;rcases (show (c == 0)=true∨((c == 0)=false) by cases c == 0 <;> simp) with e0 | e0
        ·obtain rfl:true=r:=by rw [←h,e0];rfl
         clear h;exact zq12efc9
        ·rw [e0,Bool.false_or] at h
         have H:=lh h;clear h
         go_wp2_with fail
         refine (ycc MS.out _).mono ?_;rintro _ w1 ⟨rfl,rfl⟩;go_wp2
         go_ret
         refine ⟨?_,gb0.out⟩;rw [←H.out]
         rfl
      | succ g =>
       have hlt:(k:Int)<(bs.length:Int):=by omega
       obtain ⟨b,o,y,rfl,hcell,HX⟩:=GSV.out.get (i:=k) om;cases hm:may0 y with
       | false =>
        obtain rfl:false=r:= by
         rw [←HR2.out]
         have:(List.range bs.length).all (fun j=>may0 (bs.getD j 0))=false:= by
          rw [List.all_eq_false];exact ⟨k,by simp;omega,by rw [HX.out,hm];simp⟩
         rw [this]
         rfl
        have HM2:=lh hm;clear hm HR2
        go_wp2_with fail
        refine (ycc HM2.out _).mono ?_;rintro _ w1 ⟨rfl,rfl⟩;go_wp2
        go_ret
        exact ⟨rfl,gb0.out⟩
       | true =>
        have hy:=ybv.1 hm;have hB:=HB.out;have hk8:k<8:=by have:=HL.out.2;omega
        obtain ⟨s,hs⟩:∃s,all+y=s:=⟨_,rfl⟩;have HS:Hid (sumK bs (k+1)=s):=by show _=_;rw [sumK,HA.out,HX.out,hs]
        have HSB:Hid (0≤s∧s≤1000000000000000*((k+1:Nat):Int)):=by show _∧_;omega
        have HMK:Hid (∀j,j<k+1→may0 (bs.getD j 0)=true):=fun j hj=>by
         by_cases e:j=k
         ·subst e;rw [HX.out];exact hm
         ·exact HM.out j om
        have wS:wrap64 (all+y)=s:=by rw [hs];exact IntWalk.wrap64_in _ ⟨by omega,by omega⟩
        have WS:=lh wS;have HM2:=lh hm;clear hm hy hB hk8 hs wS HM HA HB
        go_wp2_with fail
        refine (ycc HM2.out _).mono ?_;rintro _ w1 ⟨rfl,rfl⟩;go_wp2
        go_roundg g
        case measure=>omega
        case rel=>exact ⟨k+1,s,by omega,by go_num,by first | rfl | exact congrArg (Value.int .i64) WS.out,HS,HSB,HMK,rfl⟩
  ·have d1:decide ((bs.length:Int)<1)=false:=by simp;omega
   have d2:decide ((8:Int)<(bs.length:Int))=true:=by simp;omega
   have d3:¬(bs.length:Int)<1:=by omega
   obtain rfl:false=r:=by rw [←HR.out];unfold yhi;rw [decide_eq_false l2];simp
   clear HR
   go_enter Tryz.func15,Tryz.ntmps15
   go_wp2
   go_ret
   exact ⟨rfl,hb0⟩
 ·have d1:decide ((bs.length:Int)<1)=true:=by simp;omega
  have d3:(bs.length:Int)<1:=by omega
  obtain rfl:false=r:=by rw [←HR.out];unfold yhi;rw [decide_eq_false l1];rfl
  clear HR
  go_enter Tryz.func15,Tryz.ntmps15
  go_wp2
  go_ret
  exact ⟨rfl,hb0⟩
theorem ywl {bs:List Int} (n:Nat) (hn:n≤bs.length):sumK bs n=(bs.take n).sum:= by
 induction n with
 | zero=>simp [sumK]
 | succ n ih =>
  exact zq12e3a9
theorem ysg {bs:List Int} {c d:Int}:yat bs c d=true↔(1≤bs.length∧bs.length≤8)∧(0≤c∧c≤1000000000000000)∧(0≤d∧d≤1000000000000000)∧(∀j,j<bs.length→0≤bs.getD j 0∧bs.getD j 0≤1000000000000000)∧(0≤sumK bs bs.length∧sumK bs bs.length≤1000000000000000)∧(c=0∨sumK bs bs.length=0):= by
 rw [←ynv];unfold yhi;simp only [Bool.and_eq_true,decide_eq_true_eq,ybv,Bool.or_eq_true,beq_iff_eq,List.all_eq_true,List.mem_range]
 constructor
 ·rintro ⟨⟨⟨⟨⟨h1,h2⟩,h3⟩,h4⟩,h5⟩,h6,h7⟩
  exact ⟨⟨h1,h2⟩,h3,h4,h5,h6,h7⟩
 ·rintro ⟨⟨h1,h2⟩,h3,h4,h5,h6,h7⟩
  exact ⟨⟨⟨⟨⟨h1,h2⟩,h3⟩,h4⟩,h5⟩,h6,h7⟩
theorem ygv (v:Value) (bs:List Int) (c d t:Int) (ht:Hid (yb4 bs c d=t)) (w:World) (hv:Sl .i64 w v bs) :
 Calls Tryz.prog 17 #[.agg #[v,iV c,iV d]] w (RetB (iV t) w):= by
 have HV:=lh hv;obtain ⟨ao,cap,rfl,h1,⟨h2,_⟩,h3⟩:=hv;clear h3;unfold maxLen at h2;have HP:=lh (PB.new w 35 (.slice ao bs.length cap) c d);obtain ⟨p0,p1,p2⟩:=HP.out;have hb0:Below w.heap.size w (w.alloc (.cells #[.slice ao bs.length cap,iV c,iV d] 35)):=yaa bR _;cases hr:yat bs c d with
 | false =>
  obtain rfl:0=t:=by rw [←ht.out];unfold yb4;rw [hr];rfl
  have HR:=lh hr;clear ht hr
  go_enter Tryz.func17,Tryz.ntmps17
  go_wp2_with fail
  refine (ygp _ bs c d false HR _ (HV.out.below hb0)).mono ?_;rintro _ w1 ⟨rfl,hb1⟩;go_wp2
  go_ret
  exact ⟨rfl,yad hb0 hb1⟩
 | true =>
  obtain ⟨⟨l1,l8⟩,_,_,hb,hs,_⟩:=ysg.1 hr
  have HT:Hid (sumK bs bs.length=t):= by
   show _=_;rw [←ht.out,ywl _ (Nat.le_refl _),List.take_length];unfold yb4;rw [if_pos hr]
  have HR:=lh hr;have HBB:=lh hb;have HL:=lh l8;clear ht hr hb hs l1 l8
  go_enter Tryz.func17,Tryz.ntmps17
  go_wp2_with fail
  refine (ygp _ bs c d true HR _ (HV.out.below hb0)).mono ?_;rintro _ w1 ⟨rfl,hb1⟩;obtain ⟨q0,q1,q2⟩:=HP.out.below hb1;have HB1:=lh (yad hb0 hb1);have HV1:=lh (HV.out.below (yad hb0 hb1));clear p0 p1 p2 hb0 hb1
  go_wp2_with fail
  go_loopg [3,4] bs.length (fun g a i wr=>∃(k:Nat) (all:Int),k+g=bs.length∧i=iV k∧a=iV all∧Hid (sumK bs k=all)∧Hid (0≤all∧all≤1000000000000000*k)∧w1=wr)
  case atStart=>exact ⟨0,0,by omega,rfl,rfl,rfl,by show _∧_;omega,rfl⟩
  case round =>
   obtain ⟨k,all,hkg,rfl,rfl,HA,HB,rfl⟩:=hrel;cases gk with
   | zero =>
    have hlt:¬((k:Int)<(bs.length:Int)):=by omega
    have hk:k=bs.length:=by omega
    obtain rfl:all=t:=by rw [←HA.out,hk];exact HT.out
    go_wp2
    go_ret
    exact ⟨rfl,HB1.out⟩
   | succ g =>
    have hlt:(k:Int)<(bs.length:Int):=by omega
    obtain ⟨b,o,y,rfl,hcell,HX⟩:=HV1.out.get (i:=k) om;have hy:=HBB.out k om;rw [HX.out] at hy;have hB:=HB.out;have hk8:k<8:=by have:=HL.out;omega
    obtain ⟨s,hs⟩:∃s,all+y=s:=⟨_,rfl⟩;have HS:Hid (sumK bs (k+1)=s):=by show _=_;rw [sumK,HA.out,HX.out,hs]
    have HSB:Hid (0≤s∧s≤1000000000000000*((k+1:Nat):Int)):=by show _∧_;omega
    have wS:wrap64 (all+y)=s:=by rw [hs];exact IntWalk.wrap64_in _ ⟨by omega,by omega⟩
    have WS:=lh wS;clear hy hB hk8 hs wS HA HB
    go_wp2_with fail
    go_roundg g
    case measure=>omega
    case rel=>exact ⟨k+1,s,by omega,by go_num,by first | rfl | exact congrArg (Value.int .i64) WS.out,HS,HSB,rfl⟩
section
open Go.RowKit Go.ChangeShapes Go.WideShapes Go.Deep
def yg6 (x:Int):Prop:=-9223372036854775808≤x∧x≤9223372036854775807
theorem yce {n:Int} (h:(Lit.int .i64 n).wf=true):yg6 n:= by
 simp [Lit.wf,IntKind.min,IntKind.max,IntKind.signed,IntKind.bits] at h;exact h
section
variable {H:Type} {enc:TypeId×Value→H} {P:Program} {w:World} {base:Nat} {spare:Nat→Bool} {held:Bool}
theorem yqt {r:Reach} {b0:Nat} {t:TypeId} {fs:Array Field} {v:Value} {d:DataW H} {p:List MemPlace} (hs:P.underlying t=some (.struct fs)) (hone:oneCellFields P fs=true) (hC:P.cellsOf t=fs.size)
 (hv:Value.okWide P w r b0 t v) (h:DataW.Trod enc P w base spare held t v d p) :
 ∃cs:Array Value,v=.agg cs∧cs.size=fs.size∧∀(j:Nat) (f:Field),fs[j]?=some f→∃(c:Value) (n:Nat) (y:DataW H×List MemPlace),cs[j]?=some c∧DataW.trod enc P w base spare held n f.type [c]=some y:= by
 obtain ⟨cs,rfl,hsz⟩:=okWide_struct hs hv;obtain ⟨fuel,hf⟩:=h;obtain ⟨xs,n,_,_,_,hlen,hg⟩:=DataW.trod_struct hs hf;refine ⟨cs,rfl,hsz.trans hC,fun j f hj=>?_⟩;obtain ⟨ho,hk⟩:=hone_of hone j f hj;have hjl:j<fs.size:=(Array.getElem?_eq_some_iff.1 hj).1;have hjc:j<cs.size:=by omega
 have h1:=hg j f hj;rw [ho,hk] at h1
 have e:((Value.agg cs).cells.toList.drop j).take 1=[cs[j]]:= by
  show (cs.toList.drop j).take 1=_;rw [List.drop_eq_getElem_cons (by simpa using hjc)];simp
 rw [e,List.getElem?_eq_getElem om] at h1;exact ⟨cs[j],n,_,by simp [hjc],h1⟩
theorem yc1 {k:IntKind} {t:TypeId} {n:Nat} {c:Value} {y:DataW H×List MemPlace} (ht:P.underlying t=some (.int k)) (h:DataW.trod enc P w base spare held n t [c]=some y):∃x,c=.int k x∧(Lit.int k x).wf=true:= by
 obtain ⟨x,e,_,hw⟩:=DataW.trod_int ht h;exact ⟨x,by simpa using e,hw⟩
end
theorem ynq {w:World} {a:Addr} {v:Value} (h:w.cell? a=some v):a.spot=none:= by
 unfold World.cell? at h
 split at h
 ·split at h
  ·cases h
  ·rename_i hs
   simpa using hs
 ·cases h
section
variable {H:Type} {enc:TypeId×Value→H} {w:World} {base:Nat} {spare:Nat→Bool} {held:Bool}
theorem yq5 {n:Nat} {c:Value} {y:DataW H×List MemPlace} (h:DataW.trod enc Tryz.prog w base spare held n 22 [c]=some y):∃ts:List (Int×Bool),TrS w c ts∧∀x∈ts,yg6 x.1:= by
 rcases open_slice Tryz.underlying22 h with ⟨h0,_⟩ | ⟨a,len,cap,m,n',D,Pl,hcs,_,hl,hm,hmm,_,hi⟩
 ·refine ⟨[],?_,by simp⟩
  obtain rfl:c=sZ:=by simpa using h0
  exact ⟨none,0,rfl,Nat.le_refl _,⟨by simp [maxLen],fun _=>rfl⟩,fun h=>absurd rfl h⟩
 ·obtain rfl:c=.slice (some a) len cap:=by simpa using hcs
  have hlm:len≤m:= by
   rw [hmm]
   split
   ·exact hl
   ·exact Nat.le_refl _
  have hC:Tryz.prog.cellsOf 81=2:=by kernel_rfl
  have key:∀i,i<len→∃(x:Int) (g:Bool),w.cell? (a.add (i*2))=some (iV x)∧w.cell? (a.add (i*2+1))=some (.bool g)∧yg6 x:= by
   intro i hlt;obtain ⟨cs',hc,ht⟩:=hi i om;rw [hC] at hc;obtain ⟨xs,m2,_,_,hlen,hxl,hf⟩:=DataW.trod_struct Tryz.underlying81 ht;obtain ⟨_,hcl,hat⟩:=World.cells?_some hc;have hl2:cs'.length=2:=by rw [hlen,hC]
   match cs',hl2 with
   | [c0,c1],_ =>
    have f0:DataW.trod enc Tryz.prog w base spare held m2 2 (([c0,c1].drop 0).take (Tryz.prog.cellsOf 2))=xs[0]?:=hf 0 _ rfl;have f1:DataW.trod enc Tryz.prog w base spare held m2 4 (([c0,c1].drop 1).take (Tryz.prog.cellsOf 4))=xs[1]?:=hf 1 _ rfl;have hC2:Tryz.prog.cellsOf 2=1:=by kernel_rfl
    have hC4:Tryz.prog.cellsOf 4=1:=by kernel_rfl
    rw [hC2] at f0;rw [hC4] at f1;have hx2:xs.length=2:=hxl
    have g0:DataW.trod enc Tryz.prog w base spare held m2 2 [c0]=some (xs[0]'om):= by
     rw [←List.getElem?_eq_getElem om];exact f0
    have g1:DataW.trod enc Tryz.prog w base spare held m2 4 [c1]=some (xs[1]'om):= by
     rw [←List.getElem?_eq_getElem om];exact f1
    obtain ⟨x,rfl,hw⟩:=yc1 Tryz.underlying2 g0;obtain ⟨b,hb,_⟩:=DataW.trod_bool Tryz.underlying4 g1;obtain rfl:c1=.bool b:=by simpa using hb
    refine ⟨x,b,?_,?_,yce hw⟩
    ·have:=hat 0 om
     rw [Go.Deep.add_add] at this
     simpa using this
    ·have:=hat 1 om
     rw [Go.Deep.add_add] at this
     simpa using this
  refine ⟨(List.range len).map fun i=>((match w.cell? (a.add (i*2)) with | some (.int _ x)=>x | _=>0),(match w.cell? (a.add (i*2+1)) with | some (.bool g)=>g | _=>false)),?_,?_⟩
  ·refine ⟨some a,cap,by simp,by simpa using hl,⟨hm,fun e=>by cases e⟩,fun hne=>?_⟩
   have h0:0<len:= by
    rcases Nat.eq_zero_or_pos len with h | h
    ·subst h;simp at hne
    ·exact h
   obtain ⟨x,g,e1,_,_⟩:=key 0 h0
   have hs:a.spot=none:= by
    have e:a.add (0*2)=a:=by simp [Addr.add]
    rw [e] at e1;exact ynq e1
   obtain ⟨b,o,sp⟩:=a;simp only at hs;subst hs;refine ⟨b,o,rfl,fun i hi=>?_⟩;simp only [List.length_map,List.length_range] at hi;obtain ⟨x,g,e1,e2,_⟩:=key i hi;have q1:(⟨b,o,none⟩:Addr).add (i*2)=⟨b,o+i*2,none⟩:=Addr.add_lit _ _ _;have q2:(⟨b,o,none⟩:Addr).add (i*2+1)=⟨b,o+i*2+1,none⟩:=Addr.add_lit _ _ _;rw [q1] at e1;rw [q2] at e2;simp [List.getD,hi,q1,q2,e1,e2]
  ·intro y hy
   simp only [List.mem_map,List.mem_range] at hy;obtain ⟨i,hi,rfl⟩:=hy;obtain ⟨x,g,e1,_,hw⟩:=key i hi
   simpa [e1] using hw
theorem open_terms {r:Reach} {b0:Nat} {v:Value} {d:DataW H} {p:List MemPlace} (hv:Value.okWide Tryz.prog w r b0 24 v) (h:DataW.Trod enc Tryz.prog w base spare held 24 v d p) :
 ∃(lim:Int) (u:Value) (ts:List (Int×Bool)) (c du f pa s:Int),v=.agg #[iV lim,u,iV c,iV du,iV f,iV pa,iV s]∧TrS w u ts∧(∀x∈ts,yg6 x.1)∧yg6 lim∧yg6 c∧yg6 du∧yg6 f∧yg6 pa∧yg6 s:= by
 obtain ⟨cs,rfl,hsz,hf⟩:=yqt Tryz.underlying24 kr kr hv h;obtain ⟨c0,_,_,g0,h0⟩:=hf 0 _ rfl;obtain ⟨c1,_,_,g1,h1⟩:=hf 1 _ rfl;obtain ⟨c2,_,_,g2,h2⟩:=hf 2 _ rfl;obtain ⟨c3,_,_,g3,h3⟩:=hf 3 _ rfl;obtain ⟨c4,_,_,g4,h4⟩:=hf 4 _ rfl;obtain ⟨c5,_,_,g5,h5⟩:=hf 5 _ rfl;obtain ⟨c6,_,_,g6,h6⟩:=hf 6 _ rfl;obtain ⟨x0,rfl,r0⟩:=yc1 Tryz.underlying2 h0;obtain ⟨ts,ht,hr⟩:=yq5 h1;obtain ⟨x2,rfl,r2⟩:=yc1 Tryz.underlying3 h2;obtain ⟨x3,rfl,r3⟩:=yc1 Tryz.underlying3 h3;obtain ⟨x4,rfl,r4⟩:=yc1 Tryz.underlying2 h4;obtain ⟨x5,rfl,r5⟩:=yc1 Tryz.underlying2 h5;obtain ⟨x6,rfl,r6⟩:=yc1 Tryz.underlying3 h6;refine ⟨x0,c1,ts,x2,x3,x4,x5,x6,?_,ht,hr,yce r0,yce r2,yce r3,yce r4,yce r5,yce r6⟩
 congr 1
 apply Array.ext
 ·simpa using hsz
 ·intro j h1 h2
  have hj:j<7:=by simpa using h2
  have:j=0∨j=1∨j=2∨j=3∨j=4∨j=5∨j=6:=by omega
  rcases this with rfl | rfl | rfl | rfl | rfl | rfl | rfl
  ·simpa using (Array.getElem?_eq_some_iff.1 g0).2
  ·simpa using (Array.getElem?_eq_some_iff.1 g1).2
  ·simpa using (Array.getElem?_eq_some_iff.1 g2).2
  ·simpa using (Array.getElem?_eq_some_iff.1 g3).2
  ·simpa using (Array.getElem?_eq_some_iff.1 g4).2
  ·simpa using (Array.getElem?_eq_some_iff.1 g5).2
  ·simpa using (Array.getElem?_eq_some_iff.1 g6).2
end
end
end Go.Proofs.YtkongpjpkpfniaaGreat

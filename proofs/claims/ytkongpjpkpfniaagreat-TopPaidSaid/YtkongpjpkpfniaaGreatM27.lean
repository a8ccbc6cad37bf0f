/- TopPaid: parts of the proof, made small by a program (mini.py). -/
import Derived.Test.YtkongpjpkpfniaaGreatM01
import Derived.Test.YtkongpjpkpfniaaGreatM14
import Derived.Test.YtkongpjpkpfniaaGreatM25
import Derived.Test.YtkongpjpkpfniaaGreatM26
set_option linter.unusedVariables false
set_option linter.unusedSimpArgs false
set_option maxRecDepth 100000
set_option maxHeartbeats 6400000
namespace Go.Proofs.YtkongpjpkpfniaaGreat
open Go.RowKit
theorem zq270ea9 {q:Prop} (h:q:= by
 simp only [List.getD,List.getElem?_set]
 by_cases e:i=j
 ·subst e
  by_cases h:i<l.length
  ·simp [h]
  ·simp [h]
 ·simp [e]):q:=h
theorem zq274e01 {q:Prop} (h:q:= by
 rcases List.mem_append.1 hx with hx | hx
 ·have hx':=Option.mem_toList.1 hx
  exact ⟨(hO.lt x hx').1,(hO.lt x hx').2⟩
 ·exact ⟨(h.lt x hx).1,Nat.lt_of_lt_of_le (h.lt x hx).2 hK.size⟩):q:=h
def yzx (bm:Nat):Value:=.func (.func 137) #[] #[pV bm]
theorem yt0 (bm:Nat) (today a b c d e:Int) (hd:b≤today) (w:World) (hb:Blk w bm 3 [iV today]):Calls Tryz.prog 137 #[.agg #[iV a,iV b,iV c,iV d,iV e],pV bm] w (RetB (.bool false) w):= by
 have HB:=lh hb;have c0:=hb.cell 0;have k0:=hb.lt;simp only [List.getElem?_cons_zero] at c0;have hd':decide (today<b)=false:=by simp;omega
 clear hb
 go_enter Tryz.func137,Tryz.ntmps137
 go_wp2_with fail
 go_ret
 exact ⟨rfl,yaa bR _⟩
theorem ypq (v:Value) (l:List R5) (bm:Nat) (today:Int) (HD:Hid (∀x∈l,x.b≤today)) (w:World) (hv:R5S w v l) (hb:Blk w bm 3 [iV today]) :
 Calls Tryz.prog 176 #[v,yzx bm] w (RetB (iV (-1)) w):= by
 have HV:=lh hv;have HB:=lh hb;obtain ⟨ao,cap,rfl⟩:=hv.shape;have hlen:=(Fl.len hv).2;unfold maxLen at hlen;obtain ⟨hlc,hcm,_⟩:=hlen;clear hv hb;unfold yzx
 go_enter Tryz.func176,Tryz.ntmps176
 go_wp2_with fail
 go_loopg [8] l.length (fun g i wr=>∃k:Nat,k+g=l.length∧i=iV k∧Below w.heap.size w wr)
 case atStart=>exact ⟨0,by omega,rfl,bR⟩
 case round =>
  obtain ⟨k,hkg,rfl,hbw⟩:=hrel;cases gk with
  | zero =>
   have hlt:¬((k:Int)<(l.length:Int)):=by omega
   go_wp2
   go_ret
   exact ⟨rfl,hbw⟩
  | succ g =>
   have hlt:(k:Int)<(l.length:Int):=by omega
   obtain ⟨b,o,x,rfl,⟨c0,c1,c2,c3,c4⟩,HX⟩:=(HV.out.below hbw).get (i:=k) om
   have HXD:Hid (x.b≤today):= by
    rw [←HX.out];exact HD.out _ (by simp [List.getD,show k<l.length by omega])
   have HBW:=lh hbw;clear hbw
   go_wp2_with fail
   refine (yt0 bm today x.a x.b x.c x.d x.e HXD.out _ (HB.out.below HBW.out)).mono ?_;rintro _ w1 ⟨rfl,hb1⟩;have HBW2:=lh (yad HBW.out hb1);clear hb1
   go_wp2_with fail
   go_roundg g
   case measure=>omega
   case rel=>exact ⟨k+1,by omega,by go_num,HBW2.out⟩
theorem yok (v:Value) (l:List R5) (bm:Nat) (today:Int) (HD:Hid (∀x∈l,x.b≤today)) (w:World) (hv:R5S w v l) (hb:Blk w bm 3 [iV today]) :
 Calls Tryz.prog 136 #[v,yzx bm] w (RetB (.bool false) w):= by
 have HV:=lh hv;have HB:=lh hb;obtain ⟨ao,cap,rfl⟩:=hv.shape;clear hv hb
 go_enter Tryz.func136,Tryz.ntmps136
 go_wp2_with fail
 refine (ypq _ l bm today HD _ HV.out HB.out).mono ?_;rintro _ w1 ⟨rfl,hb1⟩;go_wp2
 go_ret
 exact ⟨rfl,hb1⟩
noncomputable def ye2 (t:Tm) (today:Int):Int:=if today<t.start∨2932896<today then 10 else if (ofS t.start t.cyc today).2≠0 then 10 else 0
structure yha (t:Tm) (l:List R5) (today:Int):Prop where
 terms:t.right=true
 events:∀x∈l,t.rightE x=0
 late:∀x∈l,x.b≤today
 len:l.length≤2000
theorem ykn {t:Tm} {l:List R5} (h:∀x∈l,t.rightE x=0):yo2 t l=0:= by
 induction l with
 | nil=>rfl
 | cons x l ih=>rw [yo2,if_neg (by rw [h x (List.mem_cons_self ..)];simp)];exact ih fun y hy=>h y (List.mem_cons_of_mem _ hy)
theorem ygz {t:Tm} {l:List R5} {today:Int} (h:yha t l today):yiz t l today=ye2 t today:= by
 unfold yiz ye2;rw [if_neg (by rw [h.terms];simp),if_neg (by rw [ykn h.events];simp),if_neg (by have:=h.len;omega)]
 by_cases h1:today<t.start∨2932896<today
 ·rw [if_pos h1,if_pos h1]
 ·rw [if_neg h1,if_neg h1]
  by_cases h2:(ofS t.start t.cyc today).2≠0
  ·rw [if_pos h2,if_pos h2]
  ·rw [if_neg h2,if_neg h2,if_neg]
   have:=h.late;simp only [List.any_eq_true,decide_eq_true_eq,not_exists,not_and];intro x hx;have:=h.late x hx;omega
theorem ym7 (t:Tm) (tv lv:Value) (l:List R5) (today:Int) (HG:Hid (yha t l today)) (r:Int) (hr:Hid (ye2 t today=r)) (w:World) (ht:TrS w tv t.ts) (hl:R5S w lv l) :
 Calls Tryz.prog 87 #[.agg (t.cells tv).toArray,lv,iV today] w (RetB (iV r) w):= by
 have HT:=lh ht;have HL:=lh hl;obtain ⟨tao,tc,rfl⟩:=ht.shape;obtain ⟨lo,lc,rfl⟩:=hl.shape;clear ht hl;obtain ⟨lim,ts,cyc,dued,minf,minp,start⟩:=t;unfold Tm.cells at *;simp only at HT hr ⊢
 go_enter Tryz.func87,Tryz.ntmps87
 go_wp2_with fail
 refine (yar _ ts lim cyc dued minf minp start 0 (by have:=HG.out.terms;unfold Tm.right at this;simp only at this;show _=_;rw [if_pos this]) _ (HT.out.below bL)).mono ?_;rintro _ w1 ⟨rfl,hb1⟩;have HB1:Hid (Below w.heap.size w w1):=yad (yaa (yaa bR _) _) hb1;have HT1:Hid (Blk w1 w.heap.size 24 [iV lim,.slice tao ts.length tc,iV cyc,iV dued,iV minf,iV minp,iV start]):=((yae w _ _ _ rfl).below (yaa bR _)).below hb1;have HD1:Hid (Blk w1 (w.heap.size+1) 3 [iV today]):=(yae (w.alloc _) [iV today] _ _ (by simp)).below hb1;clear hb1;have HLN:Hid (l.length≤2000):=HG.out.len;have hln:=HLN.out
 go_wp2_with fail
 clear hln;go_loopg [20] l.length (fun gg i wr=>∃k:Nat,k+gg=l.length∧i=iV k∧Hid (Below w1.heap.size w1 wr))
 case atStart=>exact ⟨0,by omega,rfl,bR⟩
 case round =>
  obtain ⟨k,hkg,rfl,HBW⟩:=hrel;have HTW:=lh (HT1.out.below HBW.out);have HDW:=lh (HD1.out.below HBW.out);have HW0:=lh (yad HB1.out HBW.out);have HKG:=lh hkg;have kw1:=HTW.out.lt;have kw2:=HDW.out.lt;cases gk with
  | succ gg =>
   have hlt:(k:Int)<(l.length:Int):=by omega
   have hln:=HLN.out;obtain ⟨b,o,x,rfl,⟨c0,c1,c2,c3,c4⟩,HX⟩:=(HL.out.below HW0.out).get (i:=k) om
   have HE:Hid (ygo lim ts cyc dued minf minp start x.a x.b x.c x.d x.e=0):= by
    have:=HG.out.events _ (show x∈l by rw [←HX.out];simp [List.getD,show k<l.length by omega]);exact this
   have t0:=HTW.out.cell 0;have t1:=HTW.out.cell 1;have t2:=HTW.out.cell 2;have t3:=HTW.out.cell 3;have t4:=HTW.out.cell 4;have t5:=HTW.out.cell 5;have t6:=HTW.out.cell 6;simp only [gz,gs] at t0 t1 t2 t3 t4 t5 t6
   go_wp2_with fail
   refine (yfm _ ts lim cyc dued minf minp start x.a x.b x.c x.d x.e 0 HE _ (HT.out.below (yaa HW0.out _))).mono ?_;rintro _ w3 ⟨rfl,hb3⟩;have HW3:Hid (Below w1.heap.size w1 w3):=yad (yaa HBW.out _) hb3;clear hb3
   go_wp2_with fail
   go_roundg gg
   case measure=>omega
   case rel=>exact ⟨k+1,by have:=HKG.out;omega,by go_num,HW3.out⟩
  | zero =>
   have hlt:¬((k:Int)<(l.length:Int)):=by omega
   have hln:¬(2000:Int)<(l.length:Int):=by have:=HLN.out;omega
   have t0:=HTW.out.cell 0;have t1:=HTW.out.cell 1;have t2:=HTW.out.cell 2;have t3:=HTW.out.cell 3;have t4:=HTW.out.cell 4;have t5:=HTW.out.cell 5;have t6:=HTW.out.cell 6;simp only [gz,gs] at t0 t1 t2 t3 t4 t5 t6;have d0:=HDW.out.cell 0;simp only [gz,gs] at d0
   by_cases h1:today<start∨2932896<today
   ·obtain rfl:10=r:=by rw [←hr.out];unfold ye2;rw [if_pos h1]
    have h1':today<start∨(¬today<start∧2932896<today):=by omega
    clear h1;rcases h1' with h1 | ⟨h1,h1b⟩
    all_goals
     go_wp2_with fail
     go_ret
     exact ⟨rfl,HW0.out⟩
   ·have h1a:¬today<start:=by omega
    have h1b:¬2932896<today:=by omega
    obtain ⟨q1,q2,hq⟩:∃q1 q2,ofS start cyc today=(q1,q2):=⟨_,_,rfl⟩;have HQ:=lh hq
    by_cases hq2:q2=0
    ·subst hq2
     obtain rfl:0=r:=by rw [←hr.out];unfold ye2;simp only;rw [if_neg h1,hq];rfl
     clear hq h1
     go_wp2_with fail
     refine (yr4 start cyc today _ HQ _).mono ?_;rintro _ w3 ⟨rfl,hb3⟩;have HW3:=lh (yad HW0.out hb3);have HD3:=lh (HDW.out.below hb3);clear hb3
     go_wp2_with fail
     refine (yok _ l (w.heap.size+1) today (lh HG.out.late) _ (HL.out.below HW3.out) HD3.out).mono ?_;rintro _ w4 ⟨rfl,hb4⟩
     go_wp2_with fail
     go_ret
     exact ⟨rfl,yad HW3.out hb4⟩
    ·obtain rfl:10=r:=by rw [←hr.out];unfold ye2;simp only;rw [if_neg h1,hq,if_pos hq2]
     have hq3:(q2 != 0)=true:=by simpa using hq2
     clear hq h1 hq2
     go_wp2_with fail
     refine (yr4 start cyc today _ HQ _).mono ?_;rintro _ w3 ⟨rfl,hb3⟩
     go_wp2_with fail
     go_ret
     exact ⟨rfl,yad HW0.out hb3⟩
theorem ybs {W:World} {a b:Nat} {e e':TypeId} {c c':List Value} (h:Blk W a e c) (k:Blk W b e' c') (hne:e≠e'):a≠b:= by
 rintro rfl;unfold Blk at h k;rw [h] at k;simp only [Option.some.injEq,Obj.cells.injEq] at k;exact hne k.2.1
structure ydg (F:List Nat) (W:World) (lo:Nat) (v:Value) (X:List (List Int)) (b:Nat) (xs:List Value):Prop where
 val:v=.slice (some ⟨b,0,none⟩) X.length X.length
 blk:Blk W b 33 xs
 len:xs.length=X.length
 rows:∀k,k<X.length→W.ownsRow lo 2 1 (xs.getD k (sZ)) (X.getD k []).length ((X.getD k []).map (Value.int .i64))
 bF:b∈F
 inF:∀k,k<X.length→∀q,(xs.getD k (sZ)).ownBlock=some q→q∈F
theorem ydg.below {F:List Nat} {W W':World} {lo:Nat} {v:Value} {X:List (List Int)} {b:Nat} {xs:List Value} (h:ydg F W lo v X b xs) (hb:Below W.heap.size W W'):ydg F W' lo v X b xs :=
 ⟨h.val,h.blk.below hb,h.len,fun k hk=>yah (h.rows k hk) hb,h.bF,h.inF⟩
theorem ydg.keep {F:List Nat} {W W':World} {lo g:Nat} {v:Value} {X:List (List Int)} {b:Nat} {xs cs:List Value} {e:TypeId} (h:ydg F W lo v X b xs) (hk:yab [g] W W') (hg:Blk W g e cs) (h1:e≠33) (h2:e≠2):ydg F W' lo v X b xs :=
 ⟨h.val,h.blk.keep hk (by simp only [ms];exact fun e=>ybs hg h.blk h1 e.symm),h.len,fun k hk'=>yap (h.rows k hk') hk (fun q hq hm=>by
  simp only [ms] at hm;subst hm;exact yaj (h.rows k hk') hg h2 hq.symm),h.bF,h.inF⟩
def yz5 (xs ys:List Value):Prop:=∀i j,∀q,(xs.getD i (sZ)).ownBlock=some q→(ys.getD j (sZ)).ownBlock≠some q
def yyi (xs:List Value):Prop:=∀i j,i≠j→∀q,(xs.getD i (sZ)).ownBlock=some q→(xs.getD j (sZ)).ownBlock≠some q
structure RV where
 tv:Value
 lv:Value
 pv:Value
 rv:Value
 xv:Value
 yv:Value
 ov:Value
 bx:Nat
 bz:Nat
 xs:List Value
 ys:List Value
 vs:List Value
def yc9 (t:Tm) (tv lv:Value) (k:Nat) (day:Int) (pv:Value) (p:Ps) (rv xv yv ov:Value):List Value :=
 [iV t.lim,tv,iV t.cyc,iV t.dued,iV t.minf,iV t.minp,iV t.start,lv,iV (k:Int),iV day,pv,iV p.c,iV p.d,rv,xv,yv,ov,.nilFunc,.nilFunc,.nilFunc]
def Hi (lo:Nat) (v:Value):Prop:=∀b o n c,v=.slice (some ⟨b,o,none⟩) n c→0<n→lo≤b
theorem Hi.of_fr {lo:Nat} {w:World} {v:Value} (h:Fr w v) (hl:lo≤w.heap.size):Hi lo v:=fun b o n c e hn=>Nat.le_trans hl (h b o n c e hn)
theorem Hi.nil (lo c:Nat) (ao:Option Addr):Hi lo (.slice ao 0 c):=fun b o n c' e hn=>by cases e;omega
def HiR (lo:Nat) (V:RV):Prop:=Hi lo V.pv∧Hi lo V.rv∧(∀v∈V.vs,Hi lo v)∧OffF [lo-1] V.tv∧OffF [lo-1] V.lv
def yzo (t:Tm) (l:List R5) (s:RS) (V:RV) (W:World):Prop:=TrS W V.tv t.ts∧R5S W V.lv l∧Sl .i64 W V.pv s.p.bs∧Sl .i64 W V.rv s.rs∧LnsS W s.out V.vs
structure yb2 (lo g:Nat) (t:Tm) (l:List R5) (day:Int) (s:RS) (F:List Nat) (W:World) (V:RV):Prop where
 blk:Blk W g 181 (yc9 t V.tv V.lv s.at' day V.pv s.p V.rv V.xv V.yv V.ov)
 gF:g∈F
 lt:∀x∈F,lo≤x∧x<W.heap.size
 rd:Rd F W (yzo t l s V)
 X:ydg F W lo V.xv s.X V.bx V.xs
 Y:ydg F W lo V.yv s.Y V.bz V.ys
 ne:V.bx≠V.bz
 dx:yyi V.xs
 dy:yyi V.ys
 dxy:yz5 V.xs V.ys
 out:W.ownsRow lo 43 9 V.ov s.out.length (yay s.out V.vs)
 outF:∀q,V.ov.ownBlock=some q→q∈F
 hi:HiR lo V
structure Stp (F:List Nat) (W:World) (F':List Nat) (W':World):Prop where
 keep:yab F W W'
 new:∀x∈F',x∈F∨W.heap.size≤x
theorem Stp.refl (F:List Nat) (W:World):Stp F W F W:=⟨yab.refl _ _,fun _ h=>.inl h⟩
theorem Stp.trans {F F' F'':List Nat} {W W' W'':World} (h:Stp F W F' W') (k:Stp F' W' F'' W''):Stp F W F'' W'' :=
 ⟨h.keep.trans k.keep h.new,fun x hx=>by
  rcases k.new x hx with h1 | h1
  ·exact h.new x h1
  ·exact .inr (Nat.le_trans h.keep.size h1)⟩
theorem Stp.below {F F':List Nat} {W W' W'':World} (h:Stp F W F' W') (k:Below W'.heap.size W' W''):Stp F W F' W'':=h.trans ⟨yab.of_below k,fun _ hx=>.inl hx⟩
theorem Stp.rd {F F':List Nat} {W W':World} {φ:World→Prop} (h:Stp F W F' W') (k:Rd F W φ):Rd F' W' φ:=k.step h.keep (fun _ hx=>.inl hx) h.new
theorem Stp.blk {F F':List Nat} {W W':World} {g:Nat} {e:TypeId} {cs:List Value} (h:Stp F W F' W') (k:Blk W g e cs) (hg:g∉F):Blk W' g e cs∧g∉F' :=
 ⟨k.keep h.keep hg,fun hx=>by
  rcases h.new g hx with h1 | h1
  ·exact hg h1
  ·have:=k.lt
   omega⟩
theorem yb2.below {lo g:Nat} {t:Tm} {l:List R5} {day:Int} {s:RS} {F:List Nat} {W W':World} {V:RV} (h:yb2 lo g t l day s F W V) (hb:Below W.heap.size W W'):yb2 lo g t l day s F W' V :=
 ⟨h.blk.below hb,h.gF,fun x hx=>⟨(h.lt x hx).1,Nat.lt_of_lt_of_le (h.lt x hx).2 hb.size⟩,h.rd.below hb (fun x hx=>.inl hx),h.X.below hb,h.Y.below hb,h.ne,h.dx,h.dy,h.dxy,yah h.out hb,h.outF,h.hi⟩
theorem yb2.store {lo g:Nat} {t:Tm} {l:List R5} {day day':Int} {s:RS} {F:List Nat} {W W':World} {V:RV} (h:yb2 lo g t l day s F W V) (hk:yab [g] W W') {k:Nat} {p:Ps} {rs:List Int} {pv rv:Value}
 (hb:Blk W' g 181 (yc9 t V.tv V.lv k day' pv p rv V.xv V.yv V.ov)) (hp:Rd F W (fun W=>Sl .i64 W pv p.bs∧Sl .i64 W rv rs)) (hh:Hi lo pv∧Hi lo rv):yb2 lo g t l day' { s with at':=k,p:=p,rs:=rs } F W' { V with pv:=pv,rv:=rv }:= by
 have hst:Stp F W F W':=⟨hk.mono (fun x hx=>by simp only [ms] at hx;exact hx▸h.gF),fun _ hx=>.inl hx⟩;refine ⟨hb,h.gF,fun x hx=>⟨(h.lt x hx).1,Nat.lt_of_lt_of_le (h.lt x hx).2 hk.size⟩,?_,h.X.keep hk h.blk (by decide) (by decide),h.Y.keep hk h.blk (by decide) (by decide),h.ne,h.dx,h.dy,h.dxy,?_,h.outF,⟨hh.1,hh.2,h.hi.2.2⟩⟩
 ·exact ((hst.rd h.rd).and (hst.rd hp)).imp fun W k=>⟨k.1.1,k.1.2.1,k.2.1,k.2.2,k.1.2.2.2.2⟩
 ·refine yap h.out hk (fun q hq hm=>?_)
  simp only [ms] at hm;subst hm;exact yaj h.out h.blk (by decide) hq.symm
theorem yb2.rdSl {lo g:Nat} {t:Tm} {l:List R5} {day:Int} {s:RS} {F:List Nat} {W:World} {V:RV} (h:yb2 lo g t l day s F W V):Rd F W (fun W=>Sl .i64 W V.pv s.p.bs∧Sl .i64 W V.rv s.rs):=h.rd.imp fun _ k=>⟨k.2.2.1,k.2.2.2.1⟩
theorem yx2:(Tryz.prog.info? 33).map (fun i=>(i.zero,i.size,i.bytes))=some (some (sZ),1,24):=by kernel_rfl
theorem yv1 (n:Nat) (hn:n≤1000) (w:World):(Instr.makeSlice 107 (iV (n:Int)) (iV (n:Int))).run Tryz.prog w=.ok (.slice (some ⟨w.heap.size,0,none⟩) n n) (w.alloc (.cells (List.replicate n (sZ)).toArray 33)):= by
 obtain ⟨i0,hi,hz0,hz1,hz2⟩:=info_parts yx2;have h:=run_make (P:=Tryz.prog) w 107 33 i0 (sZ) Tryz.underlying107 hi hz0 .i64 .i64 n n om (Int.le_refl _) (by rw [hz2];omega) om;rw [h]
 have e:madeCells (sZ).cells ((n:Int).toNat*i0.size)=(List.replicate n (sZ)).toArray:= by
  rw [hz1,Nat.mul_one,Int.toNat_natCast];exact Array.ext' (by rw [show (sZ).cells=#[sZ] from rfl,toList_madeCells_one])
 rw [e];simp
theorem yng (g:Nat) (t:Tm) (tv lv:Value) (k:Nat) (day:Int) (pv:Value) (p:Ps) (rv xv yv ov:Value) (n:Nat) (hn:t.ts.length=n) (h1:n≤1000) (w:World) (hb:Blk w g 181 (yc9 t tv lv k day pv p rv xv yv ov)) (ht:TrS w tv t.ts) :
 Calls Tryz.prog 89 #[pV g] w (fun e w'=>e=.returned (.tuple #[])∧∃bx bz,Blk w' g 181 (yc9 t tv lv k day pv p rv (.slice (some ⟨bx,0,none⟩) n n) (.slice (some ⟨bz,0,none⟩) n n) ov)∧Blk w' bx 33 (List.replicate n (sZ))∧Blk w' bz 33 (List.replicate n (sZ))∧bx≠bz∧w.heap.size≤bx∧w.heap.size≤bz∧yab [g] w w'):= by
 obtain ⟨lim,ts,cyc,dued,minf,minp,start⟩:=t;simp only at hn ht;subst hn;obtain ⟨tao,tc,rfl⟩:=ht.shape;have HB:=lh hb;unfold yc9 at HB;have kg:=HB.out.lt;have c1:=HB.out.cell 1;have c14:=HB.out.cell 14;have c15:=HB.out.cell 15;simp only [gz,gs] at c1 c14 c15;have cf14:=HB.out.frozen 14;have cf15:=HB.out.frozen 15;have hlen:=ht.fl.len.2;unfold maxLen at hlen;obtain ⟨hlc,hcm,_⟩:=hlen;have hmk:=yv1 ts.length h1;clear hb ht
 go_enter Tryz.func89,Tryz.ntmps89
 go_upto_region 1 with fail
 go_region
 all_goals
  go_wp2
  go_end0
  first
   | refine ⟨rfl,w.heap.size,w.heap.size+1,((HB.out.set 14 _).set 15 _).below (yaf (yaa (yaa bR _) _)),Blk.below (yae _ (List.replicate ts.length (sZ)) _ _ (by simp only [World.size_setCell])) (yaf (yaa bR _)),Blk.below (yae _ (List.replicate ts.length (sZ)) _ _ (by simp only [World.size_alloc,World.size_setCell])) (yaf bR),by omega,Nat.le_refl _,by omega,?_⟩;exact ((((((yab.refl [g] w).setCell (.inl (by simp)) _).setCell (.inl (by simp)) _).alloc _).alloc _).drew)
   | refine ⟨rfl,w.heap.size+1,w.heap.size,((HB.out.set 14 _).set 15 _).below (yaf (yaa (yaa bR _) _)),Blk.below (yae _ (List.replicate ts.length (sZ)) _ _ (by simp only [World.size_alloc,World.size_setCell])) (yaf bR),Blk.below (yae _ (List.replicate ts.length (sZ)) _ _ (by simp only [World.size_setCell])) (yaf (yaa bR _)),by omega,by omega,Nat.le_refl _,?_⟩;exact ((((((yab.refl [g] w).setCell (.inl (by simp)) _).setCell (.inl (by simp)) _).alloc _).alloc _).drew)
theorem ydx (l:List Value) (i j:Nat) (a d:Value):(l.set i a).getD j d=if i=j∧j<l.length then a else l.getD j d:= by
 exact zq270ea9
theorem yhz (l:List (List Int)) (i j:Nat) (a:List Int):(l.set i a).getD j []=if i=j∧j<l.length then a else l.getD j []:= by
 exact zq270ea9
theorem yfe {W:World} {lo lo' m m' n n':Nat} {e e':TypeId} {v v':Value} {cs cs':List Value} (h:W.ownsRow lo e m v n cs) (k:W.ownsRow lo' e' m' v' n' cs') (hne:e≠e') {q:Nat} (h1:v.ownBlock=some q) (h2:v'.ownBlock=some q):False:= by
 rcases h.2 with ⟨rfl,_⟩ | ⟨a,c1,r1,rfl,_,ha,_⟩
 ·cases h1
 rcases k.2 with ⟨rfl,_⟩ | ⟨b,c2,r2,rfl,_,hb,_⟩
 ·cases h2
 cases h1;cases h2;rw [ha] at hb;simp only [Option.some.injEq,Obj.cells.injEq] at hb;exact hne hb.2.1
theorem ydg.own_lt {F:List Nat} {W:World} {lo:Nat} {v:Value} {X:List (List Int)} {b:Nat} {xs:List Value} (h:ydg F W lo v X b xs) {i q:Nat} (hq:(xs.getD i (sZ)).ownBlock=some q):q<W.heap.size:= by
 by_cases hi:i<X.length
 ·exact ((h.rows i hi).lt q hq).2
 ·rw [show xs.getD i (sZ)=sZ by simp [List.getD,show ¬i<xs.length by rw [h.len];exact hi]] at hq
  cases hq
theorem yb2.rowX {lo g:Nat} {t:Tm} {l:List R5} {day:Int} {s:RS} {F:List Nat} {W W':World} {V:RV} (h:yb2 lo g t l day s F W V) {k:Nat} (hk:k<s.X.length) {v':Value} {y:List Int}
 (hK:yab (V.bx::(V.xs.getD k (sZ)).ownBlock.toList) W W') (hB:Blk W' V.bx 33 (V.xs.set k v')) (hO:W'.ownsRow lo 2 1 v' y.length (y.map (Value.int .i64)))
 (hv:v'.ownBlock=(V.xs.getD k (sZ)).ownBlock∨∃q,v'.ownBlock=some q∧W.heap.size≤q) :
 yb2 lo g t l day { s with X:=s.X.set k y } (v'.ownBlock.toList++F) W' { V with xs:=V.xs.set k v' }∧Stp F W (v'.ownBlock.toList++F) W':= by
 have hKF:∀x∈(V.bx::(V.xs.getD k (sZ)).ownBlock.toList),x∈F:=fun x hx=>by
  rcases List.mem_cons.1 hx with rfl | hx
  ·exact h.X.bF
  ·exact h.X.inF k hk x (Option.mem_toList.1 hx)
 have hst:Stp F W (v'.ownBlock.toList++F) W':=⟨hK.mono hKF,fun x hx=>by
  rcases List.mem_append.1 hx with hx | hx
  ·have hx':=Option.mem_toList.1 hx
   rcases hv with hv | ⟨z,hv,hz⟩
   ·exact .inl (h.X.inF k hk x (hv▸hx'))
   ·rw [hv] at hx';cases hx';exact .inr hz
  ·exact .inl hx⟩
 have hng:g∉(V.bx::(V.xs.getD k (sZ)).ownBlock.toList):=fun hm=>by
  rcases List.mem_cons.1 hm with e | hm
  ·exact ybs h.blk h.X.blk (by decide) e
  ·exact yaj (h.X.rows k hk) h.blk (by decide) (Option.mem_toList.1 hm).symm
 refine ⟨⟨h.blk.keep hK hng,List.mem_append.2 (.inr h.gF),fun x hx=>?_,hst.rd h.rd,?_,?_,h.ne,?_,?_,?_,?_,fun q hq=>List.mem_append.2 (.inr (h.outF q hq)),h.hi⟩,hst⟩
 ·exact zq274e01
 ·refine ⟨by rw [List.length_set];exact h.X.val,hB,by rw [List.length_set,List.length_set];exact h.X.len,fun j hj=>?_,List.mem_append.2 (.inr h.X.bF),fun j hj q hq=>?_⟩
  ·rw [List.length_set] at hj
   rw [ydx,yhz,h.X.len]
   by_cases e:k=j
   ·rw [if_pos ⟨e,hj⟩,if_pos ⟨e,hj⟩];exact hO
   ·rw [if_neg (fun c=>e c.1),if_neg (fun c=>e c.1)]
    refine yap (h.X.rows j hj) hK (fun q hq hm=>?_);rcases List.mem_cons.1 hm with e' | hm
    ·subst e';exact yaj (h.X.rows j hj) h.X.blk (by decide) hq.symm
    ·exact h.dx j k (fun c=>e c.symm) q hq (Option.mem_toList.1 hm)
  ·rw [List.length_set] at hj
   rw [ydx,h.X.len] at hq
   split at hq
   ·exact List.mem_append.2 (.inl (Option.mem_toList.2 hq))
   ·exact List.mem_append.2 (.inr (h.X.inF j hj q hq))
 ·refine ⟨h.Y.val,h.Y.blk.keep hK (fun hm=>?_),h.Y.len,fun j hj=>yap (h.Y.rows j hj) hK (fun q hq hm=>?_),List.mem_append.2 (.inr h.Y.bF),fun j hj q hq=>List.mem_append.2 (.inr (h.Y.inF j hj q hq))⟩
  ·rcases List.mem_cons.1 hm with e | hm
   ·exact h.ne e.symm
   ·exact yaj (h.X.rows k hk) h.Y.blk (by decide) (Option.mem_toList.1 hm).symm
  ·rcases List.mem_cons.1 hm with e | hm
   ·subst e;exact yaj (h.Y.rows j hj) h.X.blk (by decide) hq.symm
   ·exact (fun q hq hm=>h.dxy k _ q hm hq) q hq (Option.mem_toList.1 hm)
 ·intro i j hij q h1 h2
  rw [ydx] at h1 h2
  split at h1
  ·rename_i c1
   rw [if_neg (fun c=>hij (c1.1.symm.trans c.1))] at h2;rcases hv with hv | ⟨z,hv,hz⟩
   ·exact h.dx k j (fun e=>hij (c1.1.symm.trans e)) q (hv▸h1) h2
   ·have h3:=h.X.own_lt h2
    rw [hv] at h1;cases h1;omega
  ·split at h2
   ·rename_i c2
    rcases hv with hv | ⟨z,hv,hz⟩
    ·exact h.dx i k (fun e=>hij (e.trans c2.1)) q h1 (hv▸h2)
    ·have h3:=h.X.own_lt h1
     rw [hv] at h2;cases h2;omega
   ·exact h.dx i j hij q h1 h2
 ·exact h.dy
 ·exact fun i j q h1=>by
   rw [ydx] at h1
   split at h1
   ·rcases hv with hv | ⟨z,hv,hz⟩
    ·exact h.dxy k j q (hv▸h1)
    ·intro h2
     have h3:=h.Y.own_lt h2;rw [hv] at h1;cases h1;omega
   ·exact h.dxy i j q h1
 ·refine yap h.out hK (fun q hq hm=>?_)
  rcases List.mem_cons.1 hm with e | hm
  ·subst e;exact yaj h.out h.X.blk (by decide) hq.symm
  ·exact yfe h.out (h.X.rows k hk) (by decide) hq (Option.mem_toList.1 hm)
theorem yb2.rowY {lo g:Nat} {t:Tm} {l:List R5} {day:Int} {s:RS} {F:List Nat} {W W':World} {V:RV} (h:yb2 lo g t l day s F W V) {k:Nat} (hk:k<s.Y.length) {v':Value} {y:List Int}
 (hK:yab (V.bz::(V.ys.getD k (sZ)).ownBlock.toList) W W') (hB:Blk W' V.bz 33 (V.ys.set k v')) (hO:W'.ownsRow lo 2 1 v' y.length (y.map (Value.int .i64)))
 (hv:v'.ownBlock=(V.ys.getD k (sZ)).ownBlock∨∃q,v'.ownBlock=some q∧W.heap.size≤q) :
 yb2 lo g t l day { s with Y:=s.Y.set k y } (v'.ownBlock.toList++F) W' { V with ys:=V.ys.set k v' }∧Stp F W (v'.ownBlock.toList++F) W':= by
 have hKF:∀x∈(V.bz::(V.ys.getD k (sZ)).ownBlock.toList),x∈F:=fun x hx=>by
  rcases List.mem_cons.1 hx with rfl | hx
  ·exact h.Y.bF
  ·exact h.Y.inF k hk x (Option.mem_toList.1 hx)
 have hst:Stp F W (v'.ownBlock.toList++F) W':=⟨hK.mono hKF,fun x hx=>by
  rcases List.mem_append.1 hx with hx | hx
  ·have hx':=Option.mem_toList.1 hx
   rcases hv with hv | ⟨z,hv,hz⟩
   ·exact .inl (h.Y.inF k hk x (hv▸hx'))
   ·rw [hv] at hx';cases hx';exact .inr hz
  ·exact .inl hx⟩
 have hng:g∉(V.bz::(V.ys.getD k (sZ)).ownBlock.toList):=fun hm=>by
  rcases List.mem_cons.1 hm with e | hm
  ·exact ybs h.blk h.Y.blk (by decide) e
  ·exact yaj (h.Y.rows k hk) h.blk (by decide) (Option.mem_toList.1 hm).symm
 refine ⟨⟨h.blk.keep hK hng,List.mem_append.2 (.inr h.gF),fun x hx=>?_,hst.rd h.rd,?_,?_,h.ne,?_,?_,?_,?_,fun q hq=>List.mem_append.2 (.inr (h.outF q hq)),h.hi⟩,hst⟩
 ·exact zq274e01
 ·refine ⟨h.X.val,h.X.blk.keep hK (fun hm=>?_),h.X.len,fun j hj=>yap (h.X.rows j hj) hK (fun q hq hm=>?_),List.mem_append.2 (.inr h.X.bF),fun j hj q hq=>List.mem_append.2 (.inr (h.X.inF j hj q hq))⟩
  ·rcases List.mem_cons.1 hm with e | hm
   ·exact h.ne e
   ·exact yaj (h.Y.rows k hk) h.X.blk (by decide) (Option.mem_toList.1 hm).symm
  ·rcases List.mem_cons.1 hm with e | hm
   ·subst e;exact yaj (h.X.rows j hj) h.Y.blk (by decide) hq.symm
   ·exact (fun q hq hm=>h.dxy _ k q hq hm) q hq (Option.mem_toList.1 hm)
 ·refine ⟨by rw [List.length_set];exact h.Y.val,hB,by rw [List.length_set,List.length_set];exact h.Y.len,fun j hj=>?_,List.mem_append.2 (.inr h.Y.bF),fun j hj q hq=>?_⟩
  ·rw [List.length_set] at hj
   rw [ydx,yhz,h.Y.len]
   by_cases e:k=j
   ·rw [if_pos ⟨e,hj⟩,if_pos ⟨e,hj⟩];exact hO
   ·rw [if_neg (fun c=>e c.1),if_neg (fun c=>e c.1)]
    refine yap (h.Y.rows j hj) hK (fun q hq hm=>?_);rcases List.mem_cons.1 hm with e' | hm
    ·subst e';exact yaj (h.Y.rows j hj) h.Y.blk (by decide) hq.symm
    ·exact h.dy j k (fun c=>e c.symm) q hq (Option.mem_toList.1 hm)
  ·rw [List.length_set] at hj
   rw [ydx,h.Y.len] at hq
   split at hq
   ·exact List.mem_append.2 (.inl (Option.mem_toList.2 hq))
   ·exact List.mem_append.2 (.inr (h.Y.inF j hj q hq))
 ·exact h.dx
 ·intro i j hij q h1 h2
  rw [ydx] at h1 h2
  split at h1
  ·rename_i c1
   rw [if_neg (fun c=>hij (c1.1.symm.trans c.1))] at h2;rcases hv with hv | ⟨z,hv,hz⟩
   ·exact h.dy k j (fun e=>hij (c1.1.symm.trans e)) q (hv▸h1) h2
   ·have h3:=h.Y.own_lt h2
    rw [hv] at h1;cases h1;omega
  ·split at h2
   ·rename_i c2
    rcases hv with hv | ⟨z,hv,hz⟩
    ·exact h.dy i k (fun e=>hij (e.trans c2.1)) q h1 (hv▸h2)
    ·have h3:=h.Y.own_lt h1
     rw [hv] at h2;cases h2;omega
   ·exact h.dy i j hij q h1 h2
 ·exact fun i j q h1 h2=>by
   rw [ydx] at h2
   split at h2
   ·rcases hv with hv | ⟨z,hv,hz⟩
    ·exact h.dxy i k q h1 (hv▸h2)
    ·have h3:=h.X.own_lt h1
     rw [hv] at h2;cases h2;omega
   ·exact h.dxy i j q h1 h2
 ·refine yap h.out hK (fun q hq hm=>?_)
  rcases List.mem_cons.1 hm with e | hm
  ·subst e;exact yaj h.out h.Y.blk (by decide) hq.symm
  ·exact yfe h.out (h.Y.rows k hk) (by decide) hq (Option.mem_toList.1 hm)
def endK (X:List (List Int)) (v:List Int) (k:Nat):List (List Int):=(List.range X.length).map fun i=>if i<k then X.getD i []++[v.getD i 0] else X.getD i []
theorem yeq (X:List (List Int)) (v:List Int) (k:Nat):(endK X v k).length=X.length:=by simp [endK]
theorem yhh (X:List (List Int)) (v:List Int) (k i:Nat) (hi:i<X.length):(endK X v k).getD i []=if i<k then X.getD i []++[v.getD i 0] else X.getD i []:=by simp [endK,List.getD,hi]
theorem yrp {X Y:List (List Int)} (h:X.length=Y.length) (hg:∀i,i<X.length→X.getD i []=Y.getD i []):X=Y:= by
 refine List.ext_getElem h fun i h1 h2=>?_;have:=hg i h1
 simpa [List.getD,h1,h2] using this
theorem yog (X:List (List Int)) (v:List Int):endK X v 0=X:=yrp (yeq _ _ _) (fun i hi=>by rw [yhh _ _ _ _ (by rw [yeq] at hi;exact hi),if_neg om])
theorem yrn (X:List (List Int)) (v:List Int):endK X v X.length=ye8 X v:= by
 unfold endK ye8;refine List.map_congr_left fun i hi=>?_;rw [if_pos (List.mem_range.1 hi)]
theorem yoe (X:List (List Int)) (v:List Int) (k:Nat) (hk:k<X.length):(endK X v k).set k (X.getD k []++[v.getD k 0])=endK X v (k+1):= by
 refine yrp (by rw [List.length_set,yeq,yeq]) (fun i hi=>?_);rw [List.length_set,yeq] at hi;rw [yhz,yeq,yhh _ _ _ _ hi,yhh _ _ _ _ hi]
 by_cases e:k=i
 ·subst e;rw [if_pos ⟨rfl,hi⟩,if_pos om]
 ·rw [if_neg (fun c=>e c.1)]
  by_cases h:i<k
  ·rw [if_pos h,if_pos om]
  ·rw [if_neg h,if_neg om]
end Go.Proofs.YtkongpjpkpfniaaGreat

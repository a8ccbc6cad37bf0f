/- TopPaid: parts of the proof, made small by a program (mini.py). -/
import Derived.BigRegion
import Derived.Deep.LoopGhost
import Derived.Outline
import Derived.ScopeJumps
import Derived.Test.YtkongpjpkpfniaaGreatM01
import Derived.Test.YtkongpjpkpfniaaGreatM05
set_option linter.unusedVariables false
set_option linter.unusedSimpArgs false
set_option maxRecDepth 100000
set_option maxHeartbeats 6400000
namespace Go.Proofs.YtkongpjpkpfniaaGreat
open Go.RowKit
theorem zq060625 {q:Prop} (h:q:= by
 have hlt:¬((n:Int)<(xs.length:Int)):=by omega
 obtain rfl:n=xs.length:=by omega
 go_wp2
 go_ret
 exact ⟨_,rfl,Sl.of_own hown (ya4 _ _ _),hb⟩):q:=h
theorem zq06a922 {q:Prop} (h:q:= by
 simp only [Exit.jump];go_wp2
 go_roundg g
 case measure=>omega
 case rel =>
  obtain ⟨hbk,hB,hc3,hc4,hbw,hl,hy⟩:=X.out;refine ⟨n+1,by omega,by go_num,yct hB hg hc1 hc2 om ?_,hbw⟩;rw [Nat.mul_one,hc4];simp only [ya3,ins,hl,HX.out];rw [←hbk];have e1:((m:Int)+1-1).toNat=m:=by omega
  simp only [bk,hy,e1,hz.out,Z.out]
  rfl):q:=h
theorem zq06452b {q:Prop} (h:q:= by
 have X:=lh (And.intro hbk (And.intro hB (And.intro hc3 (And.intro hc4 (And.intro hbw hl)))));clear hbk hB hc3 hc4 hl;have hk0:¬((0:Int)<((0:Nat):Int)):=by omega
 go_wp2
 simp only [Exit.jump];go_wp2
 go_roundg g
 case measure=>omega
 case rel =>
  obtain ⟨hbk,hB,hc3,hc4,hbw,hl⟩:=X.out;refine ⟨n+1,by omega,by go_num,yct hB hg hc1 hc2 om ?_,hbw⟩;rw [Nat.mul_one,hc4];simp only [ya3,ins,hl,HX.out];rw [←hbk]
  rfl):q:=h
theorem zq06bae2 {q:Prop} (h:q:= by
 go_region
 go_wp2
 go_step3
 obtain ⟨hbk,hB,hc3,hc4,hbw,hl,hy⟩:=X.out;refine ⟨rfl,hJ' _ _ ⟨k,gg,cap',(cur.set k (iV ((n:Int)+1))).set (k+1) (iV ((m:Int)+1)),_,_,_,_,_,_,_,_,_,_,_,_,_,_,_,_,_,_,_,_,_,_,_,_,_,_,_,_,_,_,_,_,_,_,_,_,_,_,_,_,_,rfl,by omega,?_,(hB.set k _).set (k+1) _,hg,hc1,hc2,by simpa using hc3,?_,((hbw.setCell hg _).setCell hg _).drew⟩ ?_⟩
 ·have e1:((m:Int)+1-1).toNat=m:=by omega
  rw [←hbk];simp only [bk,hy,e1,hz.out,Z.out,if_true]
 ·rw [←yr3 om,hy]
  simp only [List.map_set,←hc4];rw [yop om om]
 ·simp [intOf]):q:=h
theorem yca (v:Value) (xs:List Int) (r0:Bool) (hr0:Hid (xs.any yak=!r0)) (w:World) (hv:Sl .i64 w v xs) :
 Calls Tryz.prog 232 #[v] w (Ret (.bool r0) w):= by
 cases r0 with
 | true =>
  go_enter Tryz.func232,Tryz.ntmps232
  go_wp2_with fail
  refine (yfo v xs false hr0 _ hv).mono ?_;rintro e w' ⟨rfl,rfl⟩
  go_wp2_with fail
  go_ret
  exact Ret.mk _ _
 | false =>
  go_enter Tryz.func232,Tryz.ntmps232
  go_wp2_with fail
  refine (yfo v xs true hr0 _ hv).mono ?_;rintro e w' ⟨rfl,rfl⟩
  go_wp2_with fail
  go_ret
  exact Ret.mk _ _
theorem ytz:(Tryz.prog.info? 4).map (fun i=>(i.zero,i.size,i.bytes))=some (some (.bool false),1,1):=by kernel_rfl
theorem yt1:(Tryz.prog.info? 2).map (fun i=>(i.zero,i.size,i.bytes))=some (some (iZ),1,8):=by kernel_rfl
theorem yfk (v:Value) (ks:List Int) (n:Nat) (r0:Bool) (hr0:Hid (ordB ks n=r0)) (w:World) (hv:Sl .i64 w v ks) (hn:n≤1000) (hk:ks.length≤1000) :
 Calls Tryz.prog 237 #[v,iV n] w (RetB (.bool r0) w):= by
 have HV:=lh hv;obtain ⟨ao,cap,rfl,h1,⟨h2,_⟩,h3⟩:=hv;clear h3;unfold maxLen at h2;obtain ⟨i0,hi,hz0,hz1,hz2⟩:=info_parts ytz
 go_enter Tryz.func237,Tryz.ntmps237
 go_wp2_with (at_make;refine wpList_make_full _ rfl _ _ 306 rfl w.heap.size 4 i0 (.bool false) 1 Tryz.underlying306 hi hz0 hz1 _ _ _ _ n rfl rfl rfl rfl (by rw [hz2];omega) (by unfold maxLen;omega) (Nat.le_refl _) ?_;intro w1 hown1 hgrow1)
 obtain ⟨cur,hB,_,_,hcl,hct,_⟩:=ya8 hown1;have hb1:=yfw hgrow1;have H1:=lh (And.intro hB (And.intro hcl (And.intro hct hb1)));clear hB hcl hct hb1 hown1 hgrow1;go_loopg [12] ks.length (fun g i wr=>∃k:Nat,k+g=ks.length∧i=iV k∧Below w.heap.size w wr∧Hid (ordT ks n k=true)∧∃cur,Blk wr w.heap.size 4 cur∧Hid (cur.length=n)∧Hid (∀j,j<n→cur[j]?=some (.bool ((ks.take k).contains ((j:Int)+1)))))
 case atStart =>
  obtain ⟨hB,hcl,hct,hb1⟩:=H1.out;refine ⟨0,by omega,rfl,hb1,rfl,cur,hB,by show _=_;omega,fun j hj=>?_⟩
  have:cur=List.replicate n (.bool false):= by
   rw [←List.take_of_length_le (show cur.length≤n*1 by omega),hct];rw [Nat.mul_one];exact toList_madeCells_one _ _
  rw [this];simp [hj]
 case round =>
  obtain ⟨k,hkg,rfl,hb,hord,cur,hB,hcl,hcur⟩:=hrel;clear H1;cases gk with
  | zero =>
   have hlt:¬((k:Int)<(ks.length:Int)):=by omega
   obtain rfl:k=ks.length:=by omega
   obtain rfl:true=r0:=by rw [←hr0.out];exact hord.out.symm
   go_wp2
   go_ret
   exact ⟨rfl,hb⟩
  | succ g =>
   have hlt:(k:Int)<(ks.length:Int):=by omega
   have hkn:k<ks.length:=by omega
   obtain ⟨b,o,y,rfl,hcell,hy⟩:=(HV.out.below hb).get (i:=k) hkn
   have hno:Hid (ordT ks n (k+1)=false→r0=false):=fun h=>by
    rw [←hr0.out];cases e:ordB ks n with
    | false=>rfl
    | true =>
     have:=ytv e (show k+1≤ks.length from hkn);rw [h] at this;cases this
   by_cases t1:y<1
   ·obtain rfl:r0=false:=hno.out (by simp only [ordT,hy.out,show decide (1≤y)=false by simp;omega];simp)
    go_wp2
    go_ret
    exact ⟨rfl,hb⟩
   ·by_cases t2:(n:Int)<y
    ·obtain rfl:r0=false:=hno.out (by simp only [ordT,hy.out,show decide (y≤n)=false by simp;omega];simp)
     go_wp2
     go_ret
     exact ⟨rfl,hb⟩
    ·obtain ⟨m,rfl⟩:∃m:Nat,y=(m:Int)+1:=⟨(y-1).toNat,by omega⟩
     have hmn:m<n:=by omega
     have hcm:=hcur.out m hmn;cases hc:(ks.take k).contains ((m:Int)+1) with
     | true =>
      obtain rfl:r0=false:=hno.out (by simp only [ordT,hy.out,hc];simp);have hcb:wr.cell? ⟨w.heap.size,m,none⟩=some (.bool true):=by rw [hB.cell,hcm,hc]
      clear hcm hc;go_wp2
      go_ret
      exact ⟨rfl,hb⟩
     | false =>
      have hcb:wr.cell? ⟨w.heap.size,m,none⟩=some (.bool false):=by rw [hB.cell,hcm,hc]
      have hf:=hB.frozen m;have X:=lh (And.intro hB (And.intro hcm hc));clear hB hcm hc;go_wp2
      go_roundg g
      case measure=>omega
      case rel =>
       obtain ⟨hB,hcm,hc⟩:=X.out;refine ⟨k+1,by omega,by go_num,hb.setCell (Nat.le_refl _) _,?_,cur.set m (.bool true),hB.set m _,by show _=_;rw [List.length_set];exact hcl.out,fun j hj=>?_⟩
       ·show _=_
        simp only [ordT,hy.out,hc,hord.out];simp;omega
       ·have e:ks.take (k+1)=ks.take k++[(m:Int)+1]:= by
         rw [List.take_succ_eq_append_getElem hkn]
         congr 2
         rw [←hy.out];simp [List.getD,hkn]
        rw [e,List.getElem?_set]
        by_cases hj2:m=j
        ·subst hj2
         have:=hcl.out;simp [show m<cur.length by omega]
        ·rw [if_neg hj2,hcur.out j hj]
         congr 2
         have:¬((j:Int)+1=(m:Int)+1):=by omega
         simp [this]
def yyy (xs:List Int) (left:Int) (w:World) (e:Ending) (w':World):Prop:=∃u,e=.returned (.tuple #[u,iV left])∧w'.ownsRow w.heap.size 2 1 u xs.length (xs.map (Value.int .i64))∧Below w.heap.size w w'
theorem yl9 (v u:Value) (bal ks:List Int) (amount:Int) (w:World) (hv:Sl .i64 w v bal) (hu:Sl .i64 w u ks) (hn:bal.length≤1000) (hk:ks.length≤1000)
 (ha:0≤amount∧amount≤1000000000000000) (hb:Hid (∀x∈bal,0≤x∧x≤1000000000000000)) (ho:Hid (∀i,i<ks.length→1≤ks.getD i 0∧ks.getD i 0≤bal.length)) :
 Calls Tryz.prog 233 #[v,u,iV amount] w (yyy (ybq bal ks amount).1 (ybq bal ks amount).2 w):= by
 have HV:=lh hv;have HU:=lh hu;obtain ⟨ao,cap,rfl,h1,⟨h2,_⟩,h3⟩:=hv;obtain ⟨ao',cap',rfl,h1',⟨h2',_⟩,h3'⟩:=hu;clear h3 h3';unfold maxLen at h2 h2';have HF:Hid (∀i,0≤(fill bal ks amount i).2∧(fill bal ks amount i).2≤amount):=fun i=>ydz ha.1 (fun x hx=>(hb.out x hx).1) i;obtain ⟨i0,hi,hz0,hz1,hz2⟩:=info_parts yt1
 go_enter Tryz.func233,Tryz.ntmps233
 go_wp2
 refine yai 0 (fun a' w'=>∃(i:Nat) (cur:List Value) (A:Int) (L:List Int) (u10 u11 u12 u13 u14 u15 u16 u17 u18 u19 u20 u21 u22 u23 u24 u25 u26 u27 u28 u29 u30 u31 u32 u33 u34 u35 u36 u37 u38 u39 u40 u41:Value),a'={ tmps:=#[Value.slice ao bal.length cap,Value.slice ao' ks.length cap',iV A,undef,undef,undef,sZ,iZ,.slice (some ⟨w.heap.size,0,none⟩) bal.length bal.length,iV i,u10,u11,u12,u13,u14,u15,u16,u17,u18,u19,u20,u21,u22,u23,u24,u25,u26,u27,u28,u29,u30,u31,u32,u33,u34,u35,u36,u37,u38,u39,u40,u41],defers:=[] } ∧
  i≤ks.length∧Hid (fill bal ks amount i=(L,A))∧Blk w' w.heap.size 2 cur∧Hid (cur=L.map (Value.int .i64))∧Below w.heap.size w w')
  (fun a' _=>ks.length-(intOf (a'.tmps.getD 9 undef)).toNat) rfl ?pass ?first
 case first =>
  intro J' _ hrest;have HR:=lh hrest;clear hrest
  go_wp2_with (at_make;refine wpList_make_full _ rfl _ _ 33 rfl w.heap.size 2 i0 (iZ) 1 Tryz.underlying33 hi hz0 hz1 _ _ _ _ bal.length rfl rfl rfl rfl (by rw [hz2];omega) (by unfold maxLen;omega) (Nat.le_refl _) ?_;intro w1 hown1 hgrow1)
  obtain ⟨cur,hB,_,_,hcl,hct,_⟩:=ya8 hown1;have hb1:=yfw hgrow1
  go_step3
  go_step
  go_step
  refine HR.out _ _ ⟨0,cur,amount,List.replicate bal.length 0,_,_,_,_,_,_,_,_,_,_,_,_,_,_,_,_,_,_,_,_,_,_,_,_,_,_,_,_,_,_,_,_,rfl,Nat.zero_le _,rfl,hB,?_,hb1⟩;show _=_
  have:cur=List.replicate bal.length (iZ):= by
   rw [←List.take_of_length_le (show cur.length≤bal.length*1 by omega),hct];rw [Nat.mul_one];exact toList_madeCells_one _ _
  rw [this];simp
 case pass =>
  intro a1 w1 hJ J' hJ';obtain ⟨i,cur,A,L,hJ⟩:=hJ
  iterate 32 obtain ⟨_,hJ⟩:=hJ
  obtain ⟨ha',hin,hfill,hB,HC,hbw⟩:=hJ;subst ha';have hfi:=HF.out i;rw [hfill.out] at hfi;simp only at hfi
  have hlen:Hid (cur.length=bal.length):= by
   show _=_;rw [HC.out];have:=ydi bal ks amount i;rw [hfill.out] at this
   simpa using this
  by_cases hlt:i<ks.length
  ·obtain ⟨b',o',y,rfl,hcy,hy⟩:=(HU.out.below hbw).get (i:=i) hlt
   have hyr:=ho.out i hlt;rw [hy.out] at hyr;obtain ⟨m,rfl⟩:∃m:Nat,y=(m:Int)+1:=⟨(y-1).toNat,by omega⟩;have hmn:m<bal.length:=by omega
   obtain ⟨b,o,x,rfl,hcx,hx⟩:=(HV.out.below hbw).get (i:=m) hmn
   have hx0:0≤x∧x≤1000000000000000:= by
    rw [←hx.out];have:=hb.out bal[m] (List.getElem_mem hmn)
    simpa [List.getD,hmn] using this
   obtain ⟨v0,hc0⟩:=hB.some (j:=m) (by rw [hlen.out];exact hmn);have hf0:=hB.frozen m
   have HST:Hid (fill bal ks amount (i+1)=(L.set m (min A x),A-min A x)):= by
    have e1:((m:Int)+1-1).toNat=m:=by omega
    show _=_;simp only [fill,hy.out,e1,hx.out,hfill.out]
   have X:=lh (And.intro hB hbw);clear hB hbw
   by_cases hmin:A≤x
   ·have HM:=lh (show min A x=A by omega)
    go_wp2
    go_step3
    refine ⟨rfl,hJ' _ _ ⟨i+1,cur.set m (iV A),0,L.set m A,_,_,_,_,_,_,_,_,_,_,_,_,_,_,_,_,_,_,_,_,_,_,_,_,_,_,_,_,_,_,_,_,rfl,by omega,by show _=_;rw [HST.out,HM.out,Int.sub_self],X.out.1.set m _,by show _=_;rw [HC.out];simp [List.map_set],X.out.2.setCell (Nat.le_refl _) _⟩ ?_⟩;simp [intOf];omega
   ·have HM:=lh (show min A x=x by omega)
    go_wp2
    go_step3
    refine ⟨rfl,hJ' _ _ ⟨i+1,cur.set m (iV x),A-x,L.set m x,_,_,_,_,_,_,_,_,_,_,_,_,_,_,_,_,_,_,_,_,_,_,_,_,_,_,_,_,_,_,_,_,rfl,by omega,by show _=_;rw [HST.out,HM.out],X.out.1.set m _,by show _=_;rw [HC.out];simp [List.map_set],X.out.2.setCell (Nat.le_refl _) _⟩ ?_⟩;simp [intOf];omega
  ·obtain rfl:i=ks.length:=by omega
   have hfin:ybq bal ks amount=(L,A):=hfill.out;rw [hfin];have X:=lh (And.intro hB hbw);clear hB hbw hfin;go_wp2
   simp only [Exit.jump]
   go_ret2
   have hLl:L.length=bal.length:= by
    have:=ydi bal ks amount ks.length
    rwa [hfill.out] at this
   refine ⟨_,rfl,?_,X.out.2⟩;rw [hLl];refine yct X.out.1 (Nat.le_refl _) (Nat.le_refl _) (by unfold maxLen;omega) (by rw [hlen.out,Nat.mul_one]) ?_;rw [List.take_of_length_le (by rw [hlen.out,Nat.mul_one];exact Nat.le_refl _),HC.out]
def yia (bal ks:List Int) (amount:Int):List Int×Int×Int :=
 if (ordB ks bal.length && !bal.any yak && !yak amount)=true then ((ybq bal ks amount).1,(ybq bal ks amount).2,0) else ([],0,1)
def ja5 (r:List Int×Int×Int) (w:World) (e:Ending) (w':World):Prop:=∃u,e=.returned (.tuple #[u,iV r.2.1,iV r.2.2])∧w'.ownsRow w.heap.size 2 1 u r.1.length (r.1.map (Value.int .i64))∧Below w.heap.size w w'
theorem jac (k:IntKind) (w:World):Sl k w (sZ) []:=⟨none,0,rfl,Nat.le_refl _,⟨by simp [maxLen],fun _=>rfl⟩,fun h=>absurd rfl h⟩
theorem ylg {xs:List Int} (h:xs.any yak=false):∀x∈xs,0≤x∧x≤1000000000000000:= by
 intro x hx;have:=List.any_eq_false.1 h x hx;simp [yak] at this;omega
theorem yc5 {x:Int} (h:yak x=false):0≤x∧x≤1000000000000000:= by
 simp [yak] at h;omega
theorem yi9 (v u:Value) (bal ks:List Int) (amount:Int) (w:World) (hv:Sl .i64 w v bal) (hu:Sl .i64 w u ks) (hn:bal.length≤1000) (hk:ks.length≤1000) :
 Calls Tryz.prog 218 #[v,u,iV amount] w (ja5 (yia bal ks amount) w):= by
 have HV:=lh hv;have HU:=lh hu;obtain ⟨ao,cap,rfl,h1,⟨h2,_⟩,h3⟩:=hv;clear h3;unfold maxLen at h2
 have hA:∀W:World,Calls Tryz.prog 232 #[.slice (some ⟨W.heap.size,0,none⟩) 1 1] (W.alloc (.cells #[iV amount] 2)) (Ret (.bool (!yak amount)) (W.alloc (.cells #[iV amount] 2))):=fun W =>
  yca _ [amount] _ (lh (by simp)) _ (Sl.lit _ _ [amount] 1 rfl _ rfl (by decide))
 have HA:=lh hA;clear hA;cases ho:ordB ks bal.length with
 | false =>
  have hr:yia bal ks amount=([],0,1):=by simp [yia,ho]
  rw [hr];clear hr;have HO:=lh ho;clear ho
  go_enter Tryz.func218,Tryz.ntmps218
  go_wp2_with fail
  refine (yfk _ ks bal.length false HO.out _ HU.out hn hk).mono ?_;rintro e w1 ⟨rfl,hb1⟩
  go_wp2_with fail
  go_ret3
  exact ⟨_,rfl,World.ownsRow_nil _ _ _ _,hb1⟩
 | true =>
  cases hb:bal.any yak with
  | true =>
   have hr:yia bal ks amount=([],0,1):=by simp only [yia,hb];simp
   rw [hr];clear hr;have HO:=lh ho;have HB:=lh hb;clear ho hb
   go_enter Tryz.func218,Tryz.ntmps218
   go_wp2_with fail
   refine (yfk _ ks bal.length true HO.out _ HU.out hn hk).mono ?_;rintro e w1 ⟨rfl,hb1⟩
   go_wp2_with fail
   refine (yca _ bal false HB.out _ (HV.out.below hb1)).mono ?_;rintro e w2 ⟨rfl,rfl⟩
   go_wp2_with fail
   go_ret3
   exact ⟨_,rfl,World.ownsRow_nil _ _ _ _,hb1⟩
  | false =>
   cases hm:yak amount with
   | true =>
    have hr:yia bal ks amount=([],0,1):=by simp only [yia,hm];simp
    rw [hr];clear hr;have HO:=lh ho;have HB:=lh hb;have HM:=lh hm;clear ho hb hm
    go_enter Tryz.func218,Tryz.ntmps218
    go_wp2_with fail
    refine (yfk _ ks bal.length true HO.out _ HU.out hn hk).mono ?_;rintro e w1 ⟨rfl,hb1⟩
    go_wp2_with fail
    refine (yca _ bal true HB.out _ (HV.out.below hb1)).mono ?_;rintro e w2 ⟨rfl,rfl⟩
    go_wp2_with fail
    have h:=HA.out w1;rw [HM.out] at h;refine h.mono ?_;clear h;rintro e w2 ⟨rfl,rfl⟩
    go_wp2_with fail
    go_ret3
    exact ⟨_,rfl,World.ownsRow_nil _ _ _ _,yaa hb1 _⟩
   | false =>
    have hr:yia bal ks amount=((ybq bal ks amount).1,(ybq bal ks amount).2,0):=by simp only [yia,ho,hb,hm];simp
    rw [hr];clear hr;have HO:=lh ho;have HB:=lh hb;have HM:=lh hm;clear ho hb hm
    go_enter Tryz.func218,Tryz.ntmps218
    go_wp2_with fail
    refine (yfk _ ks bal.length true HO.out _ HU.out hn hk).mono ?_;rintro e w1 ⟨rfl,hb1⟩
    go_wp2_with fail
    refine (yca _ bal true HB.out _ (HV.out.below hb1)).mono ?_;rintro e w2 ⟨rfl,rfl⟩
    go_wp2_with fail
    have h:=HA.out w1;rw [HM.out] at h;refine h.mono ?_;clear h;rintro e w2 ⟨rfl,rfl⟩
    go_wp2_with fail
    refine (yl9 _ _ bal ks amount _ ((HV.out.below hb1).alloc _) ((HU.out.below hb1).alloc _) hn hk (yc5 HM.out) (lh (ylg HB.out)) (lh fun i hi=>by have:=yy2 HO.out hi;exact ⟨this.1,this.2.1⟩)).mono ?_;rintro e w3 ⟨u3,rfl,hs3,hb3⟩
    go_wp2_with fail
    go_ret3
    exact ⟨_,rfl,ygc hs3 (by have:=hb1.size;rw [World.size_alloc];omega),bL⟩
def mixL (a b:List Int) (k:Nat):List Int:=a.take k++b.drop k
theorem yfy (a b:List Int):mixL a b 0=b:=by simp [mixL]
theorem ygk {a b:List Int} {n:Nat} (h1:a.length=n) (h2:b.length=n):mixL a b n=a:= by
 subst h1;simp [mixL,List.drop_eq_nil_of_le (show b.length≤a.length by omega)]
theorem yfl {a b:List Int} {n k:Nat} (h1:a.length=n) (h2:b.length=n) (hk:k≤n):(mixL a b k).length=n:= by
 simp [mixL];omega
theorem yjl {a b:List Int} {n k:Nat} (h1:a.length=n) (h2:b.length=n) (hk:k<n):(mixL a b k).getD k 0=b.getD k 0:= by
 have e:(a.take k).length=k:=by rw [List.length_take];omega
 simp only [mixL,List.getD_eq_getElem?_getD];rw [List.getElem?_append_right om,e,List.getElem?_drop];simp
theorem yjp {a b:List Int} {n k:Nat} (h1:a.length=n) (h2:b.length=n) (hk:k<n):(mixL a b k).set k (a.getD k 0)=mixL a b (k+1):= by
 have e:(a.take k).length=k:=by rw [List.length_take];omega
 have e2:a.getD k 0=a[k]:=by simp [List.getD,show k<a.length by omega]
 have e3:b.drop k=b[k]::b.drop (k+1):=List.drop_eq_getElem_cons (show k<b.length by omega);have e4:a.take (k+1)=a.take k++[a[k]]:=List.take_succ_eq_append_getElem om;simp only [mixL];rw [List.set_append_right _ _ om,e,Nat.sub_self,e2,e3,e4];rw [List.set_cons_zero,List.append_assoc]
 rfl
theorem yed {w:World} {base:Nat} {e:TypeId} {v:Value} {n:Nat} {xs:List Value} (h:w.ownsRow base e 1 v n xs) :
 ∃ao cap,v=.slice ao n cap∧n≤cap∧cap≤maxLen∧(0<n→∃g,ao=some ⟨g,0,none⟩∧base≤g∧∃cur,Blk w g e cur∧cur.length=cap∧cur.take n=xs):= by
 rcases h.2 with ⟨rfl,rfl⟩ | ⟨g,cap,cur,rfl,hb,hg,hnc,hcm,hcs,htake⟩
 ·exact ⟨none,0,rfl,Nat.le_refl _,by simp [maxLen],fun h=>absurd h om⟩
 ·exact ⟨_,cap,rfl,hnc,hcm,fun _=>⟨g,rfl,hb,cur.toList,by simpa [Blk] using hg,by simpa using hcs,by simpa using htake⟩⟩
def Nums (w:World) (g:Nat) (cap:Nat) (xs:List Int):Prop:=∃cur,Blk w g 2 cur∧cur.length=cap∧cur.take xs.length=xs.map (Value.int .i64)
theorem Nums.below {w w':World} {g cap:Nat} {xs:List Int} (h:Nums w g cap xs) (hb:Below w.heap.size w w'):Nums w' g cap xs:= by
 obtain ⟨cur,h1,h2,h3⟩:=h;exact ⟨cur,h1.below hb,h2,h3⟩
theorem Nums.lt {w:World} {g cap:Nat} {xs:List Int} (h:Nums w g cap xs):g<w.heap.size:=by obtain ⟨cur,h1,_⟩:=h;exact h1.lt
theorem Nums.cell {w:World} {g cap:Nat} {xs:List Int} (h:Nums w g cap xs) {i:Nat} (hi:i<xs.length):w.cell? ⟨g,i,none⟩=some (iV (xs.getD i 0)):= by
 obtain ⟨cur,h1,h2,h3⟩:=h;rw [h1.cell];exact yfh h3 hi hi
theorem Nums.frozen {w:World} {g cap:Nat} {xs:List Int} (h:Nums w g cap xs) (i:Nat):w.frozen? ⟨g,i,none⟩=false:=by obtain ⟨cur,h1,_⟩:=h;exact h1.frozen i
theorem Nums.set {w:World} {g cap:Nat} {xs:List Int} (h:Nums w g cap xs) (i:Nat) (x:Int):Nums (w.setCell ⟨g,i,none⟩ (iV x)) g cap (xs.set i x):= by
 obtain ⟨cur,h1,h2,h3⟩:=h;refine ⟨_,h1.set i _,by simpa using h2,?_⟩;rw [List.length_set,List.take_set,h3,List.map_set]
theorem Nums.sl {w:World} {g cap n:Nat} {xs:List Int} (h:Nums w g cap xs) (hn:xs.length=n) (hc:n≤cap) (hm:cap≤maxLen):Sl .i64 w (.slice (some ⟨g,0,none⟩) n cap) xs:= by
 obtain ⟨cur,h1,h2,h3⟩:=h;exact Sl.of_blk h1 hn hc hm (by rw [←hn];exact h3)
theorem Nums.setOther {w:World} {g g' cap:Nat} {xs:List Int} (h:Nums w g cap xs) (hne:g≠g') (i:Nat) (x:Value):Nums (w.setCell ⟨g',i,none⟩ x) g cap xs:= by
 obtain ⟨cur,h1,h2,h3⟩:=h;exact ⟨cur,h1.setOther hne i x,h2,h3⟩
def bk (p:Int→Bool) (l:List Int):Nat→Nat
 | 0=>0
 | k+1=>if p (l.getD k 0) then bk p l k else k+1
def mid (l:List Int) (x:Int) (k:Nat):List Int:=l.take k++x::l.drop k
def ins (p:Int→Bool) (l:List Int) (x:Int):List Int:=mid l x (bk p l l.length)
def ya3 (lt:Int→Int→Bool) (xs:List Int):Nat→List Int
 | 0=>[]
 | n+1=>ins (fun y=>lt (xs.getD n 0) (xs.getD (y-1).toNat 0)) (ya3 lt xs n) ((n:Int)+1)
theorem ydo (l:List Int) (x:Int) (k:Nat):(mid l x k).length=l.length+1:= by
 simp [mid];omega
theorem yqn (l:List Int) (x:Int):mid l x l.length=l++[x]:=by simp [mid]
theorem yws (l:List Int) (x:Int) (k:Nat):(mid l x k).Perm (x::l):= by
 unfold mid;exact List.perm_middle.trans (by rw [List.take_append_drop])
theorem ya4 (lt:Int→Int→Bool) (xs:List Int) (n:Nat):(ya3 lt xs n).length=n:= by
 induction n with
 | zero=>rfl
 | succ n ih=>simp [ya3,ins,ydo,ih]
theorem yh8 (lt:Int→Int→Bool) (xs:List Int) (n:Nat):(ya3 lt xs n).Perm ((List.range n).map (fun (i:Nat)=>(i:Int)+1)):= by
 induction n with
 | zero=>simp [ya3]
 | succ n ih =>
  rw [List.range_succ,List.map_append];refine (yws _ _ _).trans ?_;refine (List.Perm.cons _ ih).trans ?_;exact (List.perm_append_comm (l₁:=[(n:Int)+1]) (l₂:=(List.range n).map (fun (i:Nat)=>(i:Int)+1)))
theorem ynu {lt:Int→Int→Bool} {xs:List Int} {n:Nat} {y:Int} (h:y∈ya3 lt xs n):1≤y∧y≤n:= by
 have:=(yh8 lt xs n).mem_iff.1 h;simp at this;omega
theorem yhu {lt:Int→Int→Bool} {xs:List Int} {n i:Nat} (h:i<n):1≤(ya3 lt xs n).getD i 0∧(ya3 lt xs n).getD i 0≤n:= by
 refine ynu (lt:=lt) (xs:=xs) ?_;have hl:=ya4 lt xs n;simp [List.getD,show i<(ya3 lt xs n).length by omega]
theorem yh7 {l:List Int} {x:Int} {k:Nat} (hk:k≤l.length):(mid l x k).getD k 0=x:= by
 simp [mid,List.getD,hk]
theorem yig {l:List Int} {x:Int} {k i:Nat} (hk:k≤l.length) (hi:i<k):(mid l x k).getD i 0=l.getD i 0:= by
 simp [mid,List.getD,List.getElem?_append,hi,hk,show i<l.length by omega]
theorem yop {α:Type} {cur:List α} {n i j:Nat} {a b:α} (_hi:i<n) (_hj:j<n):((cur.set i a).set j b).take n=((cur.take n).set i a).set j b:= by
 rw [List.take_set,List.take_set]
theorem yr3 {l:List Int} {x:Int} {k:Nat} (hk:k<l.length):((mid l x (k+1)).set k x).set (k+1) (l.getD k 0)=mid l x k:= by
 apply List.ext_getElem?
 intro i;simp only [mid,List.getElem?_set,List.getElem?_append,List.length_take,List.length_set,List.length_append,List.length_cons,List.length_drop,List.getD_eq_getElem?_getD];have e1:min (k+1) l.length=k+1:=by omega
 have e2:min k l.length=k:=by omega
 rw [e1,e2]
 by_cases h1:k+1=i
 ·subst h1
  simp [hk,show k+1<k+1+(l.length-(k+1)+1) by omega];intro h;omega
 ·by_cases h2:k=i
  ·subst h2
   simp [show k<k+1+(l.length-(k+1)+1) by omega]
  ·simp [h1,h2]
   by_cases h3:i<k
   ·simp [h3,show i<k+1 by omega]
   ·have h4:¬i<k+1:=by omega
    simp [h3,h4];obtain ⟨j,rfl⟩:∃j,i=k+2+j:=⟨i-(k+2),by omega⟩;have e3:k+2+j-(k+1)=j+1:=by omega
    have e4:k+2+j-k=j+2:=by omega
    rw [e3,e4];simp only [List.getElem?_cons_succ,List.getElem?_drop]
    congr 1
    omega
def ydt (x y:Int):Bool:=decide (x<y)
theorem yw5 (x y:Int) (w:World):Calls Tryz.prog 245 #[iV x,iV y] w (Ret (.bool (ydt x y)) w):= by
 go_enter Tryz.func245,Tryz.ntmps245
 go_wp2
 all_goals
  go_ret
  exact Ret.mk _ _
theorem ym8:(Tryz.prog.info? 3).map (fun i=>(i.zero,i.size,i.bytes))=some (some (iZ),1,8):=by kernel_rfl
theorem yl5 (v:Value) (xs:List Int) (w:World) (hv:Sl .i64 w v xs) (hn:xs.length≤1000) :
 Calls Tryz.prog 235 #[v,.func (.func 245) #[] #[]] w (yxb .i64 (ya3 ydt xs xs.length) w):= by
 have HV:=lh hv;obtain ⟨ao,cap,rfl,h1,⟨h2,_⟩,h3⟩:=hv;clear h3;unfold maxLen at h2;obtain ⟨i0,hi,hz0,hz1,hz2⟩:=info_parts ym8
 go_enter Tryz.func235,Tryz.ntmps235
 go_wp2
 go_loopg [5,11] xs.length (fun g l i wr=>∃n:Nat,n+g=xs.length∧i=iV n∧wr.ownsRow w.heap.size 3 1 l n ((ya3 ydt xs n).map (Value.int .i64))∧Below w.heap.size w wr)
 case atStart=>exact ⟨0,by omega,rfl,World.ownsRow_nil _ _ _ _,bR⟩
 case round =>
  obtain ⟨n,hng,rfl,hown,hb⟩:=hrel;cases gk with
  | zero =>
   exact zq060625
  | succ g =>
   have hlt:((n:Int)<(xs.length:Int)):=by omega
   obtain ⟨b,o,x,rfl,hcell,HX⟩:=(HV.out.below hb).get (i:=n) om;have hbs:=hb.size;go_wp2
   refine yai 0 (fun a' w'=>∃(k gg cap':Nat) (cur:List Value) (u16 u17 u18 u19 u20 u21 u22 u23 u24 u25 u26 u27 u28 u29 u30 u31 u32 u33 u34 u35 u36 u37 u38 u39 u40 u41 u42 u43 u44 u45 u46 u47 u48 u49 u50 u51 u52 u53 u54 u55 u56:Value),a'={ tmps:=#[Value.slice (some { block:=b,off:=o }) xs.length cap,Value.func (Fn.func 245) #[] #[],undef,undef,sZ,.slice (some ⟨gg,0,none⟩) (n+1) cap',iV n,iV x,iV k,Value.slice (some { block:=b,off:=o }) xs.length cap,Value.int IntKind.i64 ↑xs.length,iV n,.bool true,iV n,Value.pointer (some { block:=b,off:=o+n }),iV x,u16,u17,u18,u19,u20,u21,u22,u23,u24,u25,u26,u27,u28,u29,u30,u31,u32,u33,u34,u35,u36,u37,u38,u39,u40,u41,u42,u43,u44,u45,u46,u47,u48,u49,u50,u51,u52,u53,u54,u55,u56,undef],defers:=[] } ∧
    k≤n∧bk (fun y=>ydt x (xs.getD (y-1).toNat 0)) (ya3 ydt xs n) k=bk (fun y=>ydt x (xs.getD (y-1).toNat 0)) (ya3 ydt xs n) n∧Blk w' gg 3 cur∧w.heap.size≤gg∧n+1≤cap'∧cap'≤maxLen∧cur.length=cap'∧cur.take (n+1)=(mid (ya3 ydt xs n) (n+1) k).map (Value.int .i64)∧Below w.heap.size w w')
    (fun a' _=>(intOf (a'.tmps.getD 8 undef)).toNat) rfl ?pass ?first
   case first =>
    intro J' _ hrest;have HR:=lh hrest;clear hrest
    go_wp2_with (at_builtin;refine wpList_append_own _ rfl (.tmp 16) (.tmp 19) 266 rfl w.heap.size 3 i0 (iZ) 1 8 Tryz.underlying266 hi hz0 hz1 hz2 rfl (by decide) _ _ _ rfl (hown.alloc _) ⟨wr.heap.size,0,none⟩ 1 1 [iV (n+1)] rfl rfl (cell_one_new _ _ _) (fun x hx=>by simp at hx;subst hx;rfl) (by unfold maxLen;omega) om (by simp;omega) ?_;intro v' w1 hown1 hgrow1 hnil1)
    obtain ⟨gg,cap',rfl⟩:=ya5 hown1 om;obtain ⟨cur,hB,hc1,hc2,hc3,hc4,hc5⟩:=ya8 hown1;have hbw:Below w.heap.size w w1:=(hb.alloc hbs _).grown hgrow1 (by simp;omega) (fun k hk=>(hown.lt k hk).1)
    go_step3
    go_step
    go_step
    refine HR.out _ _ ⟨n,gg,cap',cur,_,_,_,_,_,_,_,_,_,_,_,_,_,_,_,_,_,_,_,_,_,_,_,_,_,_,_,_,_,_,_,_,_,_,_,_,_,_,_,_,_,rfl,Nat.le_refl _,rfl,hB,hc5,hc1,hc2,by omega,?_,hbw⟩;have hl:=ya4 ydt xs n
    have e:mid (ya3 ydt xs n) (n+1) n=ya3 ydt xs n++[(n:Int)+1]:= by
     have:=yqn (ya3 ydt xs n) (n+1)
     rwa [hl] at this
    rw [e,List.map_append]
    simpa using hc4
   case pass =>
    intro a1 w1 hJ J' hJ';obtain ⟨k,gg,cap',cur,hJ⟩:=hJ
    iterate 41 obtain ⟨_,hJ⟩:=hJ
    obtain ⟨ha,hk,hbk,hB,hg,hc1,hc2,hc3,hc4,hbw⟩:=hJ;subst ha;have hl:=ya4 ydt xs n;cases k with
    | zero =>
     exact zq06452b
    | succ k =>
     have hk0:(0:Int)<((k+1:Nat):Int):=by omega
     obtain ⟨y,hy⟩:∃y,(ya3 ydt xs n).getD k 0=y:=⟨_,rfl⟩;have hyr:1≤y∧y≤n:=by rw [←hy];exact yhu om
     obtain ⟨m,rfl⟩:∃m:Nat,y=(m:Int)+1:=⟨(y-1).toNat,by omega⟩;obtain ⟨b',o',z,e0,hcz,hz⟩:=(HV.out.below hbw).get (i:=m) om;cases e0
     have hcy:w1.cell? ⟨gg,k,none⟩=some (iV ((m:Int)+1)):= by
      rw [hB.cell,yfh hc4 om (by rw [ydo];omega),yig om om,hy]
     have hcx:w1.cell? ⟨gg,k+1,none⟩=some (iV ((n:Int)+1)):= by
      rw [hB.cell,yfh hc4 om (by rw [ydo];omega),yh7 om]
     have hf1:=hB.frozen k;have hf2:=hB.frozen (k+1);have hcall:=yw5 x z w1;have hm:m<xs.length:=by omega
     have X:=lh (And.intro hbk (And.intro hB (And.intro hc3 (And.intro hc4 (And.intro hbw (And.intro hl hy))))));clear hbk hB hc3 hc4 hl hy;cases hz':ydt x z
     ·rw [hz'] at hcall
      have Z:=lh hz';clear hz'
      go_wp2_with (go_at_call 245;refine hcall.mono ?_;rintro e w' ⟨rfl,rfl⟩)
      exact zq06a922
     ·rw [hz'] at hcall
      have Z:=lh hz';clear hz'
      go_wp2_with (go_at_call 245;refine hcall.mono ?_;rintro e w' ⟨rfl,rfl⟩)
      exact zq06bae2
theorem yyw (v:Value) (xs:List Int) (w:World) (hv:Sl .i64 w v xs) (hn:xs.length≤1000):Calls Tryz.prog 234 #[v] w (yxb .i64 (ya3 ydt xs xs.length) w):= by
 go_enter Tryz.func234,Tryz.ntmps234
 go_wp2_with (go_at_call 235;refine (yl5 _ xs _ hv hn).mono ?_;rintro e w' ⟨u,rfl,hs,hb⟩)
 go_ret
 exact ⟨u,rfl,hs,hb⟩
def ya2 (x y:Int):Bool:=decide (y<x)
theorem yoc (x y:Int) (w:World):Calls Tryz.prog 236 #[iV x,iV y] w (Ret (.bool (ya2 x y)) w):= by
 go_enter Tryz.func236,Tryz.ntmps236
 go_wp2
 all_goals
  go_ret
  exact Ret.mk _ _
theorem yhb:(Tryz.prog.info? 3).map (fun i=>(i.zero,i.size,i.bytes))=some (some (iZ),1,8):=by kernel_rfl
theorem yk5 (v:Value) (xs:List Int) (w:World) (hv:Sl .i64 w v xs) (hn:xs.length≤1000) :
 Calls Tryz.prog 235 #[v,.func (.func 236) #[] #[]] w (yxb .i64 (ya3 ya2 xs xs.length) w):= by
 have HV:=lh hv;obtain ⟨ao,cap,rfl,h1,⟨h2,_⟩,h3⟩:=hv;clear h3;unfold maxLen at h2;obtain ⟨i0,hi,hz0,hz1,hz2⟩:=info_parts yhb
 go_enter Tryz.func235,Tryz.ntmps235
 go_wp2
 go_loopg [5,11] xs.length (fun g l i wr=>∃n:Nat,n+g=xs.length∧i=iV n∧wr.ownsRow w.heap.size 3 1 l n ((ya3 ya2 xs n).map (Value.int .i64))∧Below w.heap.size w wr)
 case atStart=>exact ⟨0,by omega,rfl,World.ownsRow_nil _ _ _ _,bR⟩
 case round =>
  obtain ⟨n,hng,rfl,hown,hb⟩:=hrel;cases gk with
  | zero =>
   exact zq060625
  | succ g =>
   have hlt:((n:Int)<(xs.length:Int)):=by omega
   obtain ⟨b,o,x,rfl,hcell,HX⟩:=(HV.out.below hb).get (i:=n) om;have hbs:=hb.size;go_wp2
   refine yai 0 (fun a' w'=>∃(k gg cap':Nat) (cur:List Value) (u16 u17 u18 u19 u20 u21 u22 u23 u24 u25 u26 u27 u28 u29 u30 u31 u32 u33 u34 u35 u36 u37 u38 u39 u40 u41 u42 u43 u44 u45 u46 u47 u48 u49 u50 u51 u52 u53 u54 u55 u56:Value),a'={ tmps:=#[Value.slice (some { block:=b,off:=o }) xs.length cap,Value.func (Fn.func 236) #[] #[],undef,undef,sZ,.slice (some ⟨gg,0,none⟩) (n+1) cap',iV n,iV x,iV k,Value.slice (some { block:=b,off:=o }) xs.length cap,Value.int IntKind.i64 ↑xs.length,iV n,.bool true,iV n,Value.pointer (some { block:=b,off:=o+n }),iV x,u16,u17,u18,u19,u20,u21,u22,u23,u24,u25,u26,u27,u28,u29,u30,u31,u32,u33,u34,u35,u36,u37,u38,u39,u40,u41,u42,u43,u44,u45,u46,u47,u48,u49,u50,u51,u52,u53,u54,u55,u56,undef],defers:=[] } ∧
    k≤n∧bk (fun y=>ya2 x (xs.getD (y-1).toNat 0)) (ya3 ya2 xs n) k=bk (fun y=>ya2 x (xs.getD (y-1).toNat 0)) (ya3 ya2 xs n) n∧Blk w' gg 3 cur∧w.heap.size≤gg∧n+1≤cap'∧cap'≤maxLen∧cur.length=cap'∧cur.take (n+1)=(mid (ya3 ya2 xs n) (n+1) k).map (Value.int .i64)∧Below w.heap.size w w')
    (fun a' _=>(intOf (a'.tmps.getD 8 undef)).toNat) rfl ?pass ?first
   case first =>
    intro J' _ hrest;have HR:=lh hrest;clear hrest
    go_wp2_with (at_builtin;refine wpList_append_own _ rfl (.tmp 16) (.tmp 19) 266 rfl w.heap.size 3 i0 (iZ) 1 8 Tryz.underlying266 hi hz0 hz1 hz2 rfl (by decide) _ _ _ rfl (hown.alloc _) ⟨wr.heap.size,0,none⟩ 1 1 [iV (n+1)] rfl rfl (cell_one_new _ _ _) (fun x hx=>by simp at hx;subst hx;rfl) (by unfold maxLen;omega) om (by simp;omega) ?_;intro v' w1 hown1 hgrow1 hnil1)
    obtain ⟨gg,cap',rfl⟩:=ya5 hown1 om;obtain ⟨cur,hB,hc1,hc2,hc3,hc4,hc5⟩:=ya8 hown1;have hbw:Below w.heap.size w w1:=(hb.alloc hbs _).grown hgrow1 (by simp;omega) (fun k hk=>(hown.lt k hk).1)
    go_step3
    go_step
    go_step
    refine HR.out _ _ ⟨n,gg,cap',cur,_,_,_,_,_,_,_,_,_,_,_,_,_,_,_,_,_,_,_,_,_,_,_,_,_,_,_,_,_,_,_,_,_,_,_,_,_,_,_,_,_,rfl,Nat.le_refl _,rfl,hB,hc5,hc1,hc2,by omega,?_,hbw⟩;have hl:=ya4 ya2 xs n
    have e:mid (ya3 ya2 xs n) (n+1) n=ya3 ya2 xs n++[(n:Int)+1]:= by
     have:=yqn (ya3 ya2 xs n) (n+1)
     rwa [hl] at this
    rw [e,List.map_append]
    simpa using hc4
   case pass =>
    intro a1 w1 hJ J' hJ';obtain ⟨k,gg,cap',cur,hJ⟩:=hJ
    iterate 41 obtain ⟨_,hJ⟩:=hJ
    obtain ⟨ha,hk,hbk,hB,hg,hc1,hc2,hc3,hc4,hbw⟩:=hJ;subst ha;have hl:=ya4 ya2 xs n;cases k with
    | zero =>
     exact zq06452b
    | succ k =>
     have hk0:(0:Int)<((k+1:Nat):Int):=by omega
     obtain ⟨y,hy⟩:∃y,(ya3 ya2 xs n).getD k 0=y:=⟨_,rfl⟩;have hyr:1≤y∧y≤n:=by rw [←hy];exact yhu om
     obtain ⟨m,rfl⟩:∃m:Nat,y=(m:Int)+1:=⟨(y-1).toNat,by omega⟩;obtain ⟨b',o',z,e0,hcz,hz⟩:=(HV.out.below hbw).get (i:=m) om;cases e0
     have hcy:w1.cell? ⟨gg,k,none⟩=some (iV ((m:Int)+1)):= by
      rw [hB.cell,yfh hc4 om (by rw [ydo];omega),yig om om,hy]
     have hcx:w1.cell? ⟨gg,k+1,none⟩=some (iV ((n:Int)+1)):= by
      rw [hB.cell,yfh hc4 om (by rw [ydo];omega),yh7 om]
     have hf1:=hB.frozen k;have hf2:=hB.frozen (k+1);have hcall:=yoc x z w1;have hm:m<xs.length:=by omega
     have X:=lh (And.intro hbk (And.intro hB (And.intro hc3 (And.intro hc4 (And.intro hbw (And.intro hl hy))))));clear hbk hB hc3 hc4 hl hy;cases hz':ya2 x z
     ·rw [hz'] at hcall
      have Z:=lh hz';clear hz'
      go_wp2_with (go_at_call 236;refine hcall.mono ?_;rintro e w' ⟨rfl,rfl⟩)
      exact zq06a922
     ·rw [hz'] at hcall
      have Z:=lh hz';clear hz'
      go_wp2_with (go_at_call 236;refine hcall.mono ?_;rintro e w' ⟨rfl,rfl⟩)
      exact zq06bae2
theorem ywt (v:Value) (xs:List Int) (w:World) (hv:Sl .i64 w v xs) (hn:xs.length≤1000):Calls Tryz.prog 217 #[v] w (yxb .i64 (ya3 ya2 xs xs.length) w):= by
 go_enter Tryz.func217,Tryz.ntmps217
 go_wp2_with (go_at_call 235;refine (yk5 _ xs _ hv hn).mono ?_;rintro e w' ⟨u,rfl,hs,hb⟩)
 go_ret
 exact ⟨u,rfl,hs,hb⟩
end Go.Proofs.YtkongpjpkpfniaaGreat

/- TopTicks: parts of the proof, made small by a program (mini.py). -/
import Derived.BigRegion
import Derived.Deep.LoopGhost
import Derived.Outline
import Derived.ScopeJumps
import Derived.Deep.CutBlock
import Derived.Deep.DeepCutAuto
import Derived.Deep.RegionHeld3
import Derived.Test.YtkongpjpkpfniaaGreatT01
import Derived.Test.YtkongpjpkpfniaaGreatT02
import Derived.Test.YtkongpjpkpfniaaGreatT04
set_option linter.unusedVariables false
set_option linter.unusedSimpArgs false
set_option maxRecDepth 100000
set_option maxHeartbeats 6400000
namespace Go.Proofs.YtkongpjpkpfniaaGreat
open Go.RowKit
theorem zq05303d {q:Prop} (h:q:= by
 go_wp2_with fail
 refine (ybz HM.out _).mono ?_;rintro _ w2 ⟨rfl,rfl⟩;go_wp2
 go_ret
 exact ⟨rfl,hb2⟩):q:=h
theorem zq05e414 {q:Prop} (h:q:= by
 have:=heap_alloc_new (w.alloc (.cells #[.slice ao bs.length cap,iV c,iV d] 35)) (.cells #[sZ,iZ,iZ] 35)
 simpa [Blk,Hid] using this):q:=h
theorem zq050625 {q:Prop} (h:q:= by
 have hlt:¬((n:Int)<(xs.length:Int)):=by omega
 obtain rfl:n=xs.length:=by omega
 go_wp2
 go_ret
 exact ⟨_,rfl,Sl.of_own hown (ya4 _ _ _),hb⟩):q:=h
theorem zq0587d1 {q:Prop} (h:q:= by
 go_wp2_with fail
 refine bodyPost_ret (yiv rfl _ _ _) rfl ?_;exact ⟨_,rfl,⟨jac _ _,ycz⟩,bL⟩):q:=h
theorem zq05a922 {q:Prop} (h:q:= by
 simp only [Exit.jump];go_wp2
 go_roundg g
 case measure=>omega
 case rel =>
  obtain ⟨hbk,hB,hc3,hc4,hbw,hl,hy⟩:=X.out;refine ⟨n+1,by omega,by go_num,yct hB hg hc1 hc2 om ?_,hbw⟩;rw [Nat.mul_one,hc4];simp only [ya3,ins,hl,HX.out];rw [<-hbk];have e1:((m:Int)+1-1).toNat=m:=by omega
  simp only [bk,hy,e1,hz.out,Z.out]
  rfl):q:=h
theorem zq05452b {q:Prop} (h:q:= by
 have X:=lh (And.intro hbk (And.intro hB (And.intro hc3 (And.intro hc4 (And.intro hbw hl)))));clear hbk hB hc3 hc4 hl;have hk0:¬((0:Int)<((0:Nat):Int)):=by omega
 go_wp2
 simp only [Exit.jump];go_wp2
 go_roundg g
 case measure=>omega
 case rel =>
  obtain ⟨hbk,hB,hc3,hc4,hbw,hl⟩:=X.out;refine ⟨n+1,by omega,by go_num,yct hB hg hc1 hc2 om ?_,hbw⟩;rw [Nat.mul_one,hc4];simp only [ya3,ins,hl,HX.out];rw [<-hbk]
  rfl):q:=h
theorem zq05bae2 {q:Prop} (h:q:= by
 go_region
 go_wp2
 go_step3
 obtain ⟨hbk,hB,hc3,hc4,hbw,hl,hy⟩:=X.out;refine ⟨rfl,hJ' _ _ ⟨k,gg,cap',(cur.set k (iV ((n:Int)+1))).set (k+1) (iV ((m:Int)+1)),_,_,_,_,_,_,_,_,_,_,_,_,_,_,_,_,_,_,_,_,_,_,_,_,_,_,_,_,_,_,_,_,_,_,_,_,_,_,_,_,_,rfl,by omega,?_,(hB.set k _).set (k+1) _,hg,hc1,hc2,by simpa using hc3,?_,((hbw.setCell hg _).setCell hg _).drew⟩ ?_⟩
 ·have e1:((m:Int)+1-1).toNat=m:=by omega
  rw [<-hbk];simp only [bk,hy,e1,hz.out,Z.out,if_true]
 ·rw [<-yr3 om,hy]
  simp only [List.map_set,<-hc4];rw [yop om om]
 ·simp [intOf]):q:=h
def ydt (x y:Int):Bool:=decide (x<y)
theorem yw5 (x y:Int) (w:World):Calls Tryz.prog 245 #[iV x,iV y] w (Ret (.bool (ydt x y)) w):= by
 go_enter Tryz.func245,Tryz.ntmps245
 go_wp2
 all_goals
  go_ret
  exact Ret.mk _ _
theorem ym8:(Tryz.prog.info? 3).map (fun i=>(i.zero,i.size,i.bytes))=some (some (iZ),1,8):=by kernel_rfl
theorem yl5 (v:Value) (xs:List Int) (w:World) (hv:Sl .i64 w v xs) (hn:xs.length<=1000) :
 Calls Tryz.prog 235 #[v,.func (.func 245) #[] #[]] w (yxb .i64 (ya3 ydt xs xs.length) w):= by
 have HV:=lh hv;obtain ⟨ao,cap,rfl,h1,⟨h2,_⟩,h3⟩:=hv;clear h3;unfold maxLen at h2;obtain ⟨i0,hi,hz0,hz1,hz2⟩:=info_parts ym8
 go_enter Tryz.func235,Tryz.ntmps235
 go_wp2
 go_loopg [5,11] xs.length (fun g l i wr=>∃n:Nat,n+g=xs.length/\i=iV n/\wr.ownsRow w.heap.size 3 1 l n ((ya3 ydt xs n).map (Value.int .i64))/\BW w wr)
 case atStart=>exact ⟨0,by omega,rfl,World.ownsRow_nil _ _ _ _,bR⟩
 case round =>
  obtain ⟨n,hng,rfl,hown,hb⟩:=hrel;cases gk with
  | zero =>
   exact zq050625
  | succ g =>
   have hlt:((n:Int)<(xs.length:Int)):=by omega
   obtain ⟨b,o,x,rfl,hcell,HX⟩:=(HV.out.below hb).get (i:=n) om;have hbs:=hb.size;go_wp2
   refine yai 0 (fun a' w'=>∃(k gg cap':Nat) (cur:List Value) (u16 u17 u18 u19 u20 u21 u22 u23 u24 u25 u26 u27 u28 u29 u30 u31 u32 u33 u34 u35 u36 u37 u38 u39 u40 u41 u42 u43 u44 u45 u46 u47 u48 u49 u50 u51 u52 u53 u54 u55 u56:Value),a'={ tmps:=#[Value.slice (some { block:=b,off:=o }) xs.length cap,Value.func (Fn.func 245) #[] #[],undef,undef,sZ,sL gg 0 (n+1) cap',iV n,iV x,iV k,Value.slice (some { block:=b,off:=o }) xs.length cap,Value.int IntKind.i64 ↑xs.length,iV n,.bool true,iV n,Value.pointer (some { block:=b,off:=o+n }),iV x,u16,u17,u18,u19,u20,u21,u22,u23,u24,u25,u26,u27,u28,u29,u30,u31,u32,u33,u34,u35,u36,u37,u38,u39,u40,u41,u42,u43,u44,u45,u46,u47,u48,u49,u50,u51,u52,u53,u54,u55,u56,undef],defers:=[] } /\
    k<=n/\bk (fun y=>ydt x (xs.getD (y-1).toNat 0)) (ya3 ydt xs n) k=bk (fun y=>ydt x (xs.getD (y-1).toNat 0)) (ya3 ydt xs n) n/\Blk w' gg 3 cur/\w.heap.size<=gg/\n+1<=cap'/\cap'<=maxLen/\cur.length=cap'/\cur.take (n+1)=(mid (ya3 ydt xs n) (n+1) k).map (Value.int .i64)/\BW w w')
    (fun a' _=>(intOf (a'.tmps.getD 8 undef)).toNat) rfl ?pass ?first
   case first =>
    intro J' _ hrest;have HR:=lh hrest;clear hrest
    go_wp2_with (at_builtin;refine wpList_append_own _ rfl (.tmp 16) (.tmp 19) 266 rfl w.heap.size 3 i0 (iZ) 1 8 Tryz.underlying266 hi hz0 hz1 hz2 rfl (by decide) _ _ _ rfl (hown.alloc _) (Ad wr.heap.size 0) 1 1 [iV (n+1)] rfl rfl (cell_one_new _ _ _) (fun x hx=>by simp at hx;subst hx;rfl) (by unfold maxLen;omega) om (by simp;omega) ?_;intro v' w1 hown1 hgrow1 hnil1)
    obtain ⟨gg,cap',rfl⟩:=ya5 hown1 om;obtain ⟨cur,hB,hc1,hc2,hc3,hc4,hc5⟩:=ya8 hown1;have hbw:BW w w1:=(hb.alloc hbs _).grown hgrow1 (by simp;omega) (fun k hk=>(hown.lt k hk).1)
    go_step3
    go_step
    go_step
    refine HR.out _ _ ⟨n,gg,cap',cur,_,_,_,_,_,_,_,_,_,_,_,_,_,_,_,_,_,_,_,_,_,_,_,_,_,_,_,_,_,_,_,_,_,_,_,_,_,_,_,_,_,rfl,Nat.le_refl _,rfl,hB,hc5,hc1,hc2,by omega,?_,hbw⟩;have hl:=ya4 ydt xs n
    have e:mid (ya3 ydt xs n) (n+1) n=ya3 ydt xs n++[(n:Int)+1]:= by
     have:=yqn (ya3 ydt xs n) (n+1)
     rwa [hl] at this
    rw [e,List.map_append]
    simpa using hc4
   case pass =>
    intro a1 w1 hJ J' hJ';obtain ⟨k,gg,cap',cur,hJ⟩:=hJ
    iterate 41 obtain ⟨_,hJ⟩:=hJ
    obtain ⟨ha,hk,hbk,hB,hg,hc1,hc2,hc3,hc4,hbw⟩:=hJ;subst ha;have hl:=ya4 ydt xs n;cases k with
    | zero =>
     exact zq05452b
    | succ k =>
     have hk0:(0:Int)<((k+1:Nat):Int):=by omega
     obtain ⟨y,hy⟩:∃y,(ya3 ydt xs n).getD k 0=y:=⟨_,rfl⟩;have hyr:1<=y/\y<=n:=by rw [<-hy];exact yhu om
     obtain ⟨m,rfl⟩:∃m:Nat,y=(m:Int)+1:=⟨(y-1).toNat,by omega⟩;obtain ⟨b',o',z,e0,hcz,hz⟩:=(HV.out.below hbw).get (i:=m) om;cases e0
     have hcy:w1.cell? (Ad gg k)=some (iV ((m:Int)+1)):= by
      rw [hB.cell,yfh hc4 om (by rw [ydo];omega),yig om om,hy]
     have hcx:w1.cell? (Ad gg (k+1))=some (iV ((n:Int)+1)):= by
      rw [hB.cell,yfh hc4 om (by rw [ydo];omega),yh7 om]
     have hf1:=hB.frozen k;have hf2:=hB.frozen (k+1);have hcall:=yw5 x z w1;have hm:m<xs.length:=by omega
     have X:=lh (And.intro hbk (And.intro hB (And.intro hc3 (And.intro hc4 (And.intro hbw (And.intro hl hy))))));clear hbk hB hc3 hc4 hl hy;cases hz':ydt x z
     ·rw [hz'] at hcall
      have Z:=lh hz';clear hz'
      go_wp2_with (go_at_call 245;refine hcall.mono ?_;rintro e w' ⟨rfl,rfl⟩)
      exact zq05a922
     ·rw [hz'] at hcall
      have Z:=lh hz';clear hz'
      go_wp2_with (go_at_call 245;refine hcall.mono ?_;rintro e w' ⟨rfl,rfl⟩)
      exact zq05bae2
theorem yyw (v:Value) (xs:List Int) (w:World) (hv:Sl .i64 w v xs) (hn:xs.length<=1000):Calls Tryz.prog 234 #[v] w (yxb .i64 (ya3 ydt xs xs.length) w):= by
 go_enter Tryz.func234,Tryz.ntmps234
 go_wp2_with (go_at_call 235;refine (yl5 _ xs _ hv hn).mono ?_;rintro e w' ⟨u,rfl,hs,hb⟩)
 go_ret
 exact ⟨u,rfl,hs,hb⟩
def ya2 (x y:Int):Bool:=decide (y<x)
theorem yoc (x y:Int) (w:World):Calls Tryz.prog 236 #[iV x,iV y] w (Ret (.bool (ya2 x y)) w):= by
 go_enter Tryz.func236,Tryz.ntmps236
 go_wp2
 all_goals
  go_ret
  exact Ret.mk _ _
theorem yhb:(Tryz.prog.info? 3).map (fun i=>(i.zero,i.size,i.bytes))=some (some (iZ),1,8):=by kernel_rfl
theorem yk5 (v:Value) (xs:List Int) (w:World) (hv:Sl .i64 w v xs) (hn:xs.length<=1000) :
 Calls Tryz.prog 235 #[v,.func (.func 236) #[] #[]] w (yxb .i64 (ya3 ya2 xs xs.length) w):= by
 have HV:=lh hv;obtain ⟨ao,cap,rfl,h1,⟨h2,_⟩,h3⟩:=hv;clear h3;unfold maxLen at h2;obtain ⟨i0,hi,hz0,hz1,hz2⟩:=info_parts yhb
 go_enter Tryz.func235,Tryz.ntmps235
 go_wp2
 go_loopg [5,11] xs.length (fun g l i wr=>∃n:Nat,n+g=xs.length/\i=iV n/\wr.ownsRow w.heap.size 3 1 l n ((ya3 ya2 xs n).map (Value.int .i64))/\BW w wr)
 case atStart=>exact ⟨0,by omega,rfl,World.ownsRow_nil _ _ _ _,bR⟩
 case round =>
  obtain ⟨n,hng,rfl,hown,hb⟩:=hrel;cases gk with
  | zero =>
   exact zq050625
  | succ g =>
   have hlt:((n:Int)<(xs.length:Int)):=by omega
   obtain ⟨b,o,x,rfl,hcell,HX⟩:=(HV.out.below hb).get (i:=n) om;have hbs:=hb.size;go_wp2
   refine yai 0 (fun a' w'=>∃(k gg cap':Nat) (cur:List Value) (u16 u17 u18 u19 u20 u21 u22 u23 u24 u25 u26 u27 u28 u29 u30 u31 u32 u33 u34 u35 u36 u37 u38 u39 u40 u41 u42 u43 u44 u45 u46 u47 u48 u49 u50 u51 u52 u53 u54 u55 u56:Value),a'={ tmps:=#[Value.slice (some { block:=b,off:=o }) xs.length cap,Value.func (Fn.func 236) #[] #[],undef,undef,sZ,sL gg 0 (n+1) cap',iV n,iV x,iV k,Value.slice (some { block:=b,off:=o }) xs.length cap,Value.int IntKind.i64 ↑xs.length,iV n,.bool true,iV n,Value.pointer (some { block:=b,off:=o+n }),iV x,u16,u17,u18,u19,u20,u21,u22,u23,u24,u25,u26,u27,u28,u29,u30,u31,u32,u33,u34,u35,u36,u37,u38,u39,u40,u41,u42,u43,u44,u45,u46,u47,u48,u49,u50,u51,u52,u53,u54,u55,u56,undef],defers:=[] } /\
    k<=n/\bk (fun y=>ya2 x (xs.getD (y-1).toNat 0)) (ya3 ya2 xs n) k=bk (fun y=>ya2 x (xs.getD (y-1).toNat 0)) (ya3 ya2 xs n) n/\Blk w' gg 3 cur/\w.heap.size<=gg/\n+1<=cap'/\cap'<=maxLen/\cur.length=cap'/\cur.take (n+1)=(mid (ya3 ya2 xs n) (n+1) k).map (Value.int .i64)/\BW w w')
    (fun a' _=>(intOf (a'.tmps.getD 8 undef)).toNat) rfl ?pass ?first
   case first =>
    intro J' _ hrest;have HR:=lh hrest;clear hrest
    go_wp2_with (at_builtin;refine wpList_append_own _ rfl (.tmp 16) (.tmp 19) 266 rfl w.heap.size 3 i0 (iZ) 1 8 Tryz.underlying266 hi hz0 hz1 hz2 rfl (by decide) _ _ _ rfl (hown.alloc _) (Ad wr.heap.size 0) 1 1 [iV (n+1)] rfl rfl (cell_one_new _ _ _) (fun x hx=>by simp at hx;subst hx;rfl) (by unfold maxLen;omega) om (by simp;omega) ?_;intro v' w1 hown1 hgrow1 hnil1)
    obtain ⟨gg,cap',rfl⟩:=ya5 hown1 om;obtain ⟨cur,hB,hc1,hc2,hc3,hc4,hc5⟩:=ya8 hown1;have hbw:BW w w1:=(hb.alloc hbs _).grown hgrow1 (by simp;omega) (fun k hk=>(hown.lt k hk).1)
    go_step3
    go_step
    go_step
    refine HR.out _ _ ⟨n,gg,cap',cur,_,_,_,_,_,_,_,_,_,_,_,_,_,_,_,_,_,_,_,_,_,_,_,_,_,_,_,_,_,_,_,_,_,_,_,_,_,_,_,_,_,rfl,Nat.le_refl _,rfl,hB,hc5,hc1,hc2,by omega,?_,hbw⟩;have hl:=ya4 ya2 xs n
    have e:mid (ya3 ya2 xs n) (n+1) n=ya3 ya2 xs n++[(n:Int)+1]:= by
     have:=yqn (ya3 ya2 xs n) (n+1)
     rwa [hl] at this
    rw [e,List.map_append]
    simpa using hc4
   case pass =>
    intro a1 w1 hJ J' hJ';obtain ⟨k,gg,cap',cur,hJ⟩:=hJ
    iterate 41 obtain ⟨_,hJ⟩:=hJ
    obtain ⟨ha,hk,hbk,hB,hg,hc1,hc2,hc3,hc4,hbw⟩:=hJ;subst ha;have hl:=ya4 ya2 xs n;cases k with
    | zero =>
     exact zq05452b
    | succ k =>
     have hk0:(0:Int)<((k+1:Nat):Int):=by omega
     obtain ⟨y,hy⟩:∃y,(ya3 ya2 xs n).getD k 0=y:=⟨_,rfl⟩;have hyr:1<=y/\y<=n:=by rw [<-hy];exact yhu om
     obtain ⟨m,rfl⟩:∃m:Nat,y=(m:Int)+1:=⟨(y-1).toNat,by omega⟩;obtain ⟨b',o',z,e0,hcz,hz⟩:=(HV.out.below hbw).get (i:=m) om;cases e0
     have hcy:w1.cell? (Ad gg k)=some (iV ((m:Int)+1)):= by
      rw [hB.cell,yfh hc4 om (by rw [ydo];omega),yig om om,hy]
     have hcx:w1.cell? (Ad gg (k+1))=some (iV ((n:Int)+1)):= by
      rw [hB.cell,yfh hc4 om (by rw [ydo];omega),yh7 om]
     have hf1:=hB.frozen k;have hf2:=hB.frozen (k+1);have hcall:=yoc x z w1;have hm:m<xs.length:=by omega
     have X:=lh (And.intro hbk (And.intro hB (And.intro hc3 (And.intro hc4 (And.intro hbw (And.intro hl hy))))));clear hbk hB hc3 hc4 hl hy;cases hz':ya2 x z
     ·rw [hz'] at hcall
      have Z:=lh hz';clear hz'
      go_wp2_with (go_at_call 236;refine hcall.mono ?_;rintro e w' ⟨rfl,rfl⟩)
      exact zq05a922
     ·rw [hz'] at hcall
      have Z:=lh hz';clear hz'
      go_wp2_with (go_at_call 236;refine hcall.mono ?_;rintro e w' ⟨rfl,rfl⟩)
      exact zq05bae2
theorem ywt (v:Value) (xs:List Int) (w:World) (hv:Sl .i64 w v xs) (hn:xs.length<=1000):Calls Tryz.prog 217 #[v] w (yxb .i64 (ya3 ya2 xs xs.length) w):= by
 go_enter Tryz.func217,Tryz.ntmps217
 go_wp2_with (go_at_call 235;refine (yk5 _ xs _ hv hn).mono ?_;rintro e w' ⟨u,rfl,hs,hb⟩)
 go_ret
 exact ⟨u,rfl,hs,hb⟩
def subL (a b:List Int):List Int:=List.zipWith (fun x y=>x-y) a b
def addL (a b:List Int):List Int:=List.zipWith (fun x y=>x+y) a b
def pay1 (bal rates:List Int) (d:Int):List Int×Int:=ybq bal (ya3 ydt rates rates.length) d
def ycj (bal rates:List Int) (d:Int):List Int:=subL bal (pay1 bal rates d).1
def pay2 (bal rates:List Int) (due amount:Int):List Int×Int :=
 ybq (ycj bal rates (min amount due)) (ya3 ya2 rates rates.length) (amount-min amount due+(pay1 bal rates (min amount due)).2)
def payR (bal:List Int) (credit due:Int) (rates:List Int) (amount:Int):List Int×Int×Int×Int :=
 if (rates.length == bal.length && !bal.any yak && !yak credit && !yak due && !yak amount)=true then
  (addL (pay1 bal rates (min amount due)).1 (pay2 bal rates due amount).1,min amount due,(pay2 bal rates due amount).2,0)
 else ([],0,0,1)
theorem yec {a b:List Int} {i:Nat} (h1:i<a.length) (h2:i<b.length):(subL a b).getD i 0=a.getD i 0-b.getD i 0:= by
 simp [subL,List.getD,List.getElem?_zipWith,h1,h2]
theorem yj5 {a b:List Int} {i:Nat} (h1:i<a.length) (h2:i<b.length):(addL a b).getD i 0=a.getD i 0+b.getD i 0:= by
 simp [addL,List.getD,List.getElem?_zipWith,h1,h2]
theorem ya7 (bal ks:List Int) (a:Int):(ybq bal ks a).1.length=bal.length:=ydi bal ks a _
theorem ydl {bal ks:List Int} {amount:Int} (ha:0<=amount) (hb:∀x∈bal,0<=x) (i:Nat):∀j,j<bal.length->0<=(fill bal ks amount i).1.getD j 0/\(fill bal ks amount i).1.getD j 0<=bal.getD j 0:= by
 have hb':∀j,j<bal.length->0<=bal.getD j 0:=fun j hj=>by
  have:=hb bal[j] (List.getElem_mem hj)
  simpa [List.getD,hj] using this
 induction i with
 | zero =>
  intro j hj;have:=hb' j hj;simp only [fill];have e:(List.replicate bal.length (0:Int)).getD j 0=0:=by simp [List.getD,hj]
  rw [e];omega
 | succ i ih =>
  intro j hj;have hl:=ydi bal ks amount i;have h1:=ih j hj;have h2:=ydz (ks:=ks) ha hb i;simp only [fill];generalize hk:(ks.getD i 0-1).toNat=k;generalize hL:(fill bal ks amount i).1=L at hl h1 ⊢;generalize (fill bal ks amount i).2=A at h2 ⊢
  by_cases e:k=j
  ·subst e
   have e2:(L.set k (min A (bal.getD k 0))).getD k 0=min A (bal.getD k 0):=by simp [List.getD,show k<L.length by omega]
   rw [e2];have:=hb' k hj;omega
  ·have e2:(L.set k (min A (bal.getD k 0))).getD j 0=L.getD j 0:=by simp [List.getD,e]
   rw [e2];exact h1
theorem ylo (lt:Int->Int->Bool) (xs:List Int) {n:Nat} (hn:xs.length=n):∀i,i<(ya3 lt xs xs.length).length->1<=(ya3 lt xs xs.length).getD i 0/\(ya3 lt xs xs.length).getD i 0<=n:= by
 intro i hi;rw [ya4] at hi;have:=yhu (lt:=lt) (xs:=xs) hi;omega
theorem yfg {bal rates:List Int} {d:Int} (hd:0<=d) (hb:∀x∈bal,0<=x/\x<=1000000000000000):∀x∈ycj bal rates d,0<=x/\x<=1000000000000000:= by
 intro x hx;obtain ⟨j,hj,rfl⟩:=List.getElem_of_mem hx;have hl:=ya7 bal (ya3 ydt rates rates.length) d
 have hj':j<bal.length:= by
  unfold ycj subL pay1 at hj;rw [List.length_zipWith] at hj;omega
 have h1:=ydl (ks:=ya3 ydt rates rates.length) hd (fun x hx=>(hb x hx).1) (ya3 ydt rates rates.length).length j hj';have h2:=yec (a:=bal) (b:=(pay1 bal rates d).1) hj' (by unfold pay1;omega);have e:(ycj bal rates d)[j]=(ycj bal rates d).getD j 0:=by simp [List.getD,hj]
 rw [e];unfold ycj;rw [h2];have h3:=hb bal[j] (List.getElem_mem hj');have e3:bal[j]=bal.getD j 0:=by simp [List.getD,hj']
 rw [e3] at h3;unfold pay1 ybq;omega
theorem yb3 {bal rates:List Int} {d:Int}:(ycj bal rates d).length=bal.length:= by
 unfold ycj subL;rw [List.length_zipWith];have:=ya7 bal (ya3 ydt rates rates.length) d;unfold pay1;omega
theorem pull {p:Prop} {P:Nat->Prop} (h:p->∃g,P g):∃g,p->P g:= by
 by_cases hp:p
 ·obtain ⟨g,hg⟩:=h hp
  exact ⟨g,fun _=>hg⟩
 ·exact ⟨0,fun h=>absurd h hp⟩
theorem yrq {k:IntKind} {w:World} {ao:Option Addr} {n cap:Nat} {xs:List Int} (hl:xs.length=n) (hn:n=0) (hm:cap<=maxLen) (hc:ao=none->cap=0):Sl k w (.slice ao n cap) xs:= by
 subst hn;obtain rfl:xs=[]:=List.eq_nil_of_length_eq_zero hl;exact ⟨ao,cap,rfl,Nat.zero_le _,⟨hm,hc⟩,fun h=>absurd rfl h⟩
theorem yiv {fn:Func} {t u v x:Tmp} (h:fn.results=#[.tmp t,.tmp u,.tmp v,.tmp x]) (tmps:Array Value) (P:Program) (w:World) :
 (results fn tmps).run P w=.ok (.tuple #[tmps.getD t undef,tmps.getD u undef,tmps.getD v undef,tmps.getD x undef]) w:= by
 simp [results,h]
def yyz (r:List Int×Int×Int×Int) (w:World) (e:Ending) (w':World):Prop :=
 ∃u,e=.returned (.tuple #[u,iV r.2.1,iV r.2.2.1,iV r.2.2.2])/\(Sl .i64 w' u r.1/\Fr w u)/\BW w w'
theorem yto (ao:Option Addr) (n cap:Nat) (u:Value) (bal rates:List Int) (credit due amount:Int) (w:World) (hv:Sl .i64 w (.slice ao n cap) bal) (hu:Sl .i64 w u rates)
 (h:(rates.length == bal.length && !bal.any yak && !yak credit && !yak due && !yak amount)=false) :
 Calls Tryz.prog 216 #[.agg #[.slice ao n cap,iV credit,iV due],u,iV amount] w (yyz ([],0,0,1) w):= by
 have HV:=lh hv;obtain ⟨hn,hcc,hcm⟩:=hv.len;obtain ⟨ao',cap',rfl,h1',⟨h2',_⟩,h3'⟩:=hu;clear h3' hv;unfold maxLen at h2' hcm;subst hn
 by_cases hl:rates.length=bal.length
 ·have d1:((rates.length:Int) != (bal.length:Int))=false:=by simp [hl]
  have d0:(rates.length == bal.length)=true:=by simp [hl]
  rw [d0] at h;clear d0;have HL:=lh hl;clear hl;cases hb:bal.any yak with
  | true =>
   have HB:Hid (bal.any yak=!false):=hb;clear hb h
   go_enter Tryz.func216,Tryz.ntmps216
   go_wp2_with fail
   refine (yca _ bal false HB _ (HV.out.alloc _)).mono ?_;rintro e w1 ⟨rfl,rfl⟩;exact zq0587d1
  | false =>
   have HB:Hid (bal.any yak=!true):=hb
   have HA:Hid ([credit,due,amount].any yak=!false):= by
    show _=_;rw [hb] at h;cases h1:yak credit <;> cases h2:yak due <;> cases h3:yak amount <;> simp_all
   clear hb h
   go_enter Tryz.func216,Tryz.ntmps216
   go_wp2_with fail
   refine (yca _ bal true HB _ (HV.out.alloc _)).mono ?_;rintro e w1 ⟨rfl,rfl⟩
   go_wp2_with fail
   refine (yca _ [credit,due,amount] false HA _ (Sl.litAt _ _ [credit,due,amount] 3 _ rfl _ rfl (by decide) (by simp))).mono ?_;rintro e w2 ⟨rfl,rfl⟩;exact zq0587d1
 ·have d1:((rates.length:Int) != (bal.length:Int))=true:=by simp;omega
  clear h
  go_enter Tryz.func216,Tryz.ntmps216
  exact zq0587d1
theorem yqa (ao:Option Addr) (n cap:Nat) (u:Value) (bal rates:List Int) (credit due amount:Int) (w:World) (hv:Sl .i64 w (.slice ao n cap) bal) (hu:Sl .i64 w u rates)
 (hl:rates.length=bal.length) (hb:Hid (bal.any yak=false)) (h3:Hid (yak credit=false/\yak due=false/\yak amount=false)) (hn1:bal.length<=1000) :
 Calls Tryz.prog 216 #[.agg #[.slice ao n cap,iV credit,iV due],u,iV amount] w
  (yyz (addL (pay1 bal rates (min amount due)).1 (pay2 bal rates due amount).1,min amount due,(pay2 bal rates due amount).2,0) w):= by
 have HV:=lh hv;have HU:=lh hu;obtain ⟨hn,hcc,hcm⟩:=hv.len;obtain ⟨ao',cap',rfl,h1',⟨h2',_⟩,h3'⟩:=hu;clear h3' hv;unfold maxLen at h2' hcm;subst hn;have d1:((rates.length:Int) != (bal.length:Int))=false:=by simp [hl]
 have HL:=lh hl;clear hl;have hdue:=yc5 h3.out.2.1;have ham:=yc5 h3.out.2.2;obtain ⟨d,hd⟩:∃d,min amount due=d:=⟨_,rfl⟩;have hdr:0<=d/\d<=1000000000000000/\d<=amount:=by omega
 have HD:=lh hd
 have HA:Hid ([credit,due,amount].any yak=!true):= by
  show _=_;simp [h3.out.1,h3.out.2.1,h3.out.2.2]
 have HB:Hid (bal.any yak=!true):=hb;have HBR:Hid (∀x∈bal,0<=x/\x<=1000000000000000):=ylg hb.out;obtain ⟨O,hO⟩:∃O,(pay1 bal rates d).1=O:=⟨_,rfl⟩;obtain ⟨L1,hL1⟩:∃L1,(pay1 bal rates d).2=L1:=⟨_,rfl⟩;obtain ⟨M,hM⟩:∃M,(pay2 bal rates due amount).1=M:=⟨_,rfl⟩;obtain ⟨L2,hL2⟩:∃L2,(pay2 bal rates due amount).2=L2:=⟨_,rfl⟩;have hOl:O.length=bal.length:=by rw [<-hO];exact ya7 _ _ _
 have hMl:M.length=bal.length:=by rw [<-hM];unfold pay2;rw [ya7,yb3]
 have hL1r:0<=L1/\L1<=d:=by rw [<-hL1];exact ydz hdr.1 (fun x hx=>(HBR.out x hx).1) _
 have HO2:Hid (ybq bal (ya3 ydt rates rates.length) d=(O,L1)):= by
  show _=_;rw [<-hO,<-hL1];rfl
 have HM2:Hid (ybq (subL bal O) (ya3 ya2 rates rates.length) (amount-d+L1)=(M,L2)):= by
  show _=_;rw [<-hM,<-hL2];unfold pay2 ycj;rw [hd,hO,hL1]
 have HOr:Hid (∀j,j<bal.length->0<=O.getD j 0/\O.getD j 0<=bal.getD j 0):= by
  intro j hj;rw [<-hO];exact ydl hdr.1 (fun x hx=>(HBR.out x hx).1) _ j hj
 have HRR:Hid (∀x∈subL bal O,0<=x/\x<=1000000000000000):= by
  have:=yfg (rates:=rates) hdr.1 HBR.out;unfold ycj at this;rw [hO] at this;exact this
 have hRl:(subL bal O).length=bal.length:=by unfold subL;rw [List.length_zipWith];omega
 have HMr:Hid (∀j,j<bal.length->0<=M.getD j 0/\M.getD j 0<=(subL bal O).getD j 0):= by
  intro j hj;rw [<-hM];unfold pay2 ycj;rw [hd,hO,hL1];exact ydl om (fun x hx=>(HRR.out x hx).1) _ j om
 rw [hd];have HF:=lh (And.intro hOl (And.intro hMl hRl));clear hO hL1 hM hL2 hd hOl hMl hRl
 go_enter Tryz.func216,Tryz.ntmps216
 go_wp2_with fail
 refine (yca _ bal true HB _ (HV.out.alloc _)).mono ?_;rintro e w1 ⟨rfl,rfl⟩
 go_wp2_with fail
 refine (yca _ [credit,due,amount] true HA _ (Sl.litAt _ _ [credit,due,amount] 3 _ rfl _ rfl (by decide) (by simp))).mono ?_;rintro e w2 ⟨rfl,rfl⟩;go_upto_region 4 with fail
 have ed:(if due<amount then due else amount)=d:=by rw [<-HD.out];split <;> omega
 rw [ed];clear ed;have HLR:=lh (ylo ydt rates HL.out);have HHR:=lh (ylo ya2 rates HL.out);have HX:Hid (rates.length<=1000):=by show rates.length<=1000;have:=HL.out;omega
 have HLn:Hid ((ya3 ydt rates rates.length).length<=1000):=by show _<=1000;rw [ya4];exact HX.out
 have HHn:Hid ((ya3 ya2 rates rates.length).length<=1000):=by show _<=1000;rw [ya4];exact HX.out
 have f0:((w.alloc (.cells #[.slice ao bal.length cap,iV credit,iV due] 35)).alloc (.cells #[iV credit,iV due,iV amount] 2)).cell? (Ad w.heap.size 0)=some (.slice ao bal.length cap):=by simp [go_sem,World.cell?_alloc_past]
 have b0:BW w ((w.alloc (.cells #[.slice ao bal.length cap,iV credit,iV due] 35)).alloc (.cells #[iV credit,iV due,iV amount] 2)):=bL;have z0:w.heap.size<((w.alloc (.cells #[.slice ao bal.length cap,iV credit,iV due] 35)).alloc (.cells #[iV credit,iV due,iV amount] 2)).heap.size:=by simp only [World.size_alloc];omega
 generalize ((w.alloc (.cells #[.slice ao bal.length cap,iV credit,iV due] 35)).alloc (.cells #[iV credit,iV due,iV amount] 2))=W0 at f0 b0 z0 ⊢
 go_region_held3 (fun w'=>w'.cell? (Ad w.heap.size 0)=some (.slice ao bal.length cap)) (first | assumption | (simp [go_sem,f0]))
  (first
   | (go_at_call 234;refine (yyw _ rates _ (HU.out.below bL) HX.out).mono ?_;rintro e w3 ⟨u3,rfl,hs3,hb3⟩;have hc3:w3.cell? (Ad w.heap.size 0)=some (.slice ao bal.length cap):=(hb3.cell (p:=(Ad w.heap.size 0)) z0).trans f0)
   | (go_at_call 233;refine (yl9 _ _ bal (ya3 ydt rates rates.length) d _ (HV.out.below bL) hs3 hn1 HLn.out ⟨hdr.1,hdr.2.1⟩ HBR HLR).mono ?_;rintro e w4 ⟨u4,rfl,hown4,hb4⟩;have hc4:w4.cell? (Ad w.heap.size 0)=some (.slice ao bal.length cap):=(hb4.cell (p:=(Ad w.heap.size 0)) (by have:=hb3.size;exact Nat.lt_of_lt_of_le z0 this)).trans hc3))
 rw [HO2.out] at hown4 ⊢;simp only at hown4 ⊢;rw [HF.out.1] at hown4;have hbw4:BW w w4:=bL;have hz4:=hb4.size;have hz3:=hb3.size;have hs4:Sl .i64 w4 u4 O:=Sl.of_own hown4 HF.out.1;obtain ⟨ao4,cap4,rfl,hn4,hm4,hB4⟩:=yed hown4;have HC4:Hid (ao4=none->bal.length=0/\cap4=0):=hs4.none_cap;clear hs4
 have HB4:Hid (0<bal.length->∃g,ao4=some (Ad g 0)/\w.heap.size<=g/\Nums w4 g cap4 O):=fun h=>by
  obtain ⟨g,h1,h2,cur,h5,h6,h7⟩:=hB4 h;exact ⟨g,h1,by have:=hbw4.size;have:w3.heap.size<=g:=h2;have:=b0.size;have:W0.heap.size<=w3.heap.size:=hz3;omega,cur,h5,h6,by rw [HF.out.1];exact h7⟩
 have HZ:=lh (Nat.le_of_lt z0);clear hB4 hown4 hs3 hb3 hb4 hc3 hz3 hz4 b0 f0 z0
 go_wp2_with fail
 refine (ydp _ bal _ (HV.out.below hbw4) hn1).mono ?_;rintro e w5 ⟨u5,rfl,hown5,hb5⟩;have hbw5:BW w w5:=bL;have hz5:=hb5.size;have hs5:Sl .i64 w5 u5 bal:=Sl.of_own hown5 rfl;obtain ⟨ao5,cap5,rfl,hn5,hm5,hB5⟩:=yed hown5;have HC5:Hid (ao5=none->bal.length=0/\cap5=0):=hs5.none_cap;clear hs5
 have HB5:Hid (0<bal.length->∃g,ao5=some (Ad g 0)/\w4.heap.size<=g/\Nums w5 g cap5 bal):=fun h=>by
  obtain ⟨g,h1,h2,cur,h5,h6,h7⟩:=hB5 h;exact ⟨g,h1,h2,cur,h5,h6,h7⟩
 have HB4':Hid (0<bal.length->∃g,ao4=some (Ad g 0)/\w.heap.size<=g/\g<w4.heap.size/\Nums w5 g cap4 O):=fun h=>by
  obtain ⟨g,h1,h2,h3⟩:=HB4.out h;exact ⟨g,h1,h2,h3.lt,h3.below hb5⟩
 have hz45:w.heap.size<=w4.heap.size:=hbw4.size;clear hB5 hown5 HB4 hb5 hc4 hbw4
 go_wp2_with fail
 obtain ⟨g4,H4⟩:=pull HB4'.out;obtain ⟨g5,H5⟩:=pull HB5.out;have K4:=lh H4;have K5:=lh H5;clear H4 H5 HB4' HB5;go_loopg [59] bal.length (fun gg i wr=>∃k:Nat,k+gg=bal.length/\i=iV k/\Hid (0<bal.length->Nums wr g5 cap5 (mixL (subL bal O) bal k)/\Nums wr g4 cap4 O)/\BW w wr)
 case atStart=>exact ⟨0,by omega,rfl,fun h=>⟨by rw [yfy];exact (K5.out h).2.2,(K4.out h).2.2.2⟩,hbw5⟩
 case round =>
  obtain ⟨k,hkg,rfl,HN,hb⟩:=hrel;cases gk with
  | succ gg =>
   have hlt:(k:Int)<(bal.length:Int):=by omega
   have hkn:k<bal.length:=by omega
   have hp:0<bal.length:=by omega
   obtain ⟨rfl,hw4,hl4,_⟩:=K4.out hp;obtain ⟨rfl,hw5,_⟩:=K5.out hp;obtain ⟨N5,N4⟩:=HN.out hp;have hml:=yfl (k:=k) HF.out.2.2 rfl (Nat.le_of_lt hkn);have c5:=N5.cell (i:=k) om;rw [yjl HF.out.2.2 rfl hkn] at c5;have c4:=N4.cell (i:=k) (by have:=HF.out.1;omega);have f5:=N5.frozen k;have hsub:=yec hkn (show k<O.length by have:=HF.out.1;omega);have hor:=HOr.out k hkn;have hbal:=HBR.out bal[k] (List.getElem_mem hkn);have e1:bal[k]=bal.getD k 0:=by simp [List.getD,hkn]
   rw [e1] at hbal;generalize bal.getD k 0=x at c5 hsub hor hbal;generalize O.getD k 0=y at c4 hsub hor;have HS:=lh hsub;have X:=lh (And.intro N5 N4);clear hsub N5 N4 hml e1
   go_wp2_with fail
   go_roundg gg
   case measure=>omega
   case rel =>
    obtain ⟨N5,N4⟩:=X.out;refine ⟨k+1,by omega,by go_num,fun h=>⟨?_,N4.setOther om _ _⟩,hb.setCell (show w.heap.size<=g5 by omega) _⟩;have e:=yjp HF.out.2.2 rfl hkn;rw [HS.out] at e;rw [<-e];exact N5.set k (x-y)
  | zero =>
   have hlt:¬((k:Int)<(bal.length:Int)):=by omega
   obtain rfl:k=bal.length:=by omega
   obtain ⟨w6,hw6⟩:∃w6:World,w6=wr:=⟨_,rfl⟩;subst hw6
   have HN6:Hid (0<bal.length->Nums w6 g5 cap5 (subL bal O)/\Nums w6 g4 cap4 O):=fun h=>by
    have:=HN.out h
    rwa [ygk HF.out.2.2 rfl] at this
   have HR6:Hid (Sl .i64 w6 (.slice ao5 bal.length cap5) (subL bal O)):= by
    by_cases h:0<bal.length
    ·obtain ⟨h1,_,_⟩:=K5.out h
     rw [h1];exact (HN6.out h).1.sl HF.out.2.2 hn5 hm5
    ·exact yrq HF.out.2.2 om hm5 (fun e=>(HC5.out e).2)
   clear HN
   go_wp2_with fail
   refine (ywt _ rates _ (HU.out.below hb) HX.out).mono ?_;rintro e w7 ⟨u7,rfl,hs7,hb7⟩;have hwr1:0<=amount-d+L1/\amount-d+L1<=1000000000000000:=by omega
   go_wp2_with fail
   refine (yl9 _ _ (subL bal O) (ya3 ya2 rates rates.length) (amount-d+L1) _ (HR6.out.below hb7) hs7 (by rw [HF.out.2.2];exact hn1) HHn.out hwr1 HRR (lh fun i hi=>by rw [HF.out.2.2];exact HHR.out i hi)).mono ?_;rintro e w8 ⟨u8,rfl,hown8,hb8⟩;rw [HM2.out] at hown8 ⊢;simp only at hown8 ⊢;rw [HF.out.2.1] at hown8;have hbw8:BW w w8:=bL;have hb68:BW w6 w8:=yad hb7 hb8;obtain ⟨ao8,cap8,rfl,hn8,hm8,hB8⟩:=yed hown8
   have HB8:Hid (0<bal.length->∃g,ao8=some (Ad g 0)/\w7.heap.size<=g/\Nums w8 g cap8 M):=fun h=>by
    obtain ⟨g,h1,h2,cur,h5,h6,h7⟩:=hB8 h;exact ⟨g,h1,h2,cur,h5,h6,by rw [HF.out.2.1];exact h7⟩
   obtain ⟨g8,H8⟩:=pull HB8.out;have K8:=lh H8
   have K4':Hid (0<bal.length->ao4=some (Ad g4 0)/\w.heap.size<=g4/\g4<w7.heap.size/\Nums w8 g4 cap4 O):=fun h=>by
    obtain ⟨h1,h2,h3,_⟩:=K4.out h;have hN:=(HN6.out h).2;exact ⟨h1,h2,Nat.lt_of_lt_of_le hN.lt hb7.size,hN.below hb68⟩
   clear H8 hB8 hown8 HB8 hb7 hb8 hb68 hb hbw5 hs7
   go_wp2_with fail
   have hAl:(addL O M).length=bal.length:=by unfold addL;rw [List.length_zipWith];have:=HF.out;omega
   have HAl:=lh hAl
   have HRES:Hid (addL (pay1 bal rates d).1 (pay2 bal rates due amount).1=addL O M/\(pay2 bal rates due amount).2=L2):= by
    have e1:(pay1 bal rates d).1=O:=congrArg Prod.fst HO2.out
    have e2:pay2 bal rates due amount=(M,L2):= by
     unfold pay2 ycj;rw [HD.out,e1,show (pay1 bal rates d).2=L1 from congrArg Prod.snd HO2.out];exact HM2.out
    rw [e1,e2];exact ⟨rfl,rfl⟩
   clear hAl;go_loopg [86] bal.length (fun gg i wr=>∃k:Nat,k+gg=bal.length/\i=iV k/\Hid (0<bal.length->Nums wr g4 cap4 (mixL (addL O M) O k)/\Nums wr g8 cap8 M)/\BW w wr)
   case atStart=>exact ⟨0,by omega,rfl,fun h=>⟨by rw [yfy];exact (K4'.out h).2.2.2,(K8.out h).2.2⟩,hbw8⟩
   case round =>
    obtain ⟨k,hkg,rfl,HN,hb⟩:=hrel;cases gk with
    | succ gg =>
     have hlt:(k:Int)<(bal.length:Int):=by omega
     have hkn:k<bal.length:=by omega
     have hp:0<bal.length:=by omega
     obtain ⟨rfl,hg4,hl4,_⟩:=K4'.out hp;obtain ⟨rfl,hg8,_⟩:=K8.out hp;obtain ⟨N4,N8⟩:=HN.out hp;have hml:=yfl (k:=k) HAl.out HF.out.1 (Nat.le_of_lt hkn);have c4:=N4.cell (i:=k) om;rw [yjl HAl.out HF.out.1 hkn] at c4;have c8:=N8.cell (i:=k) (by have:=HF.out.2.1;omega);have f4:=N4.frozen k;have hadd:=yj5 (show k<O.length by have:=HF.out.1;omega) (show k<M.length by have:=HF.out.2.1;omega);have hor:=HOr.out k hkn;have hmr:=HMr.out k hkn;rw [yec hkn (show k<O.length by have:=HF.out.1;omega)] at hmr;have hbal:=HBR.out bal[k] (List.getElem_mem hkn);have e1:bal[k]=bal.getD k 0:=by simp [List.getD,hkn]
     rw [e1] at hbal;clear e1;generalize bal.getD k 0=x at hor hbal hmr;generalize O.getD k 0=y at c4 hadd hor hmr;generalize M.getD k 0=z at c8 hadd hmr;have HS:=lh hadd;have X:=lh (And.intro N4 N8);clear hadd N4 N8 hml
     go_wp2_with fail
     go_roundg gg
     case measure=>omega
     case rel =>
      obtain ⟨N4,N8⟩:=X.out;refine ⟨k+1,by omega,by go_num,fun h=>⟨?_,N8.setOther om _ _⟩,hb.setCell (show w.heap.size<=g4 by omega) _⟩;have e:=yjp HAl.out HF.out.1 hkn;rw [HS.out] at e;rw [<-e];exact N4.set k (y+z)
    | zero =>
     have hlt:¬((k:Int)<(bal.length:Int)):=by omega
     obtain rfl:k=bal.length:=by omega
     have HR:Hid (Sl .i64 wr (.slice ao4 bal.length cap4) (addL O M)):= by
      by_cases h:0<bal.length
      ·obtain ⟨h1,_,_⟩:=K4'.out h
       rw [h1];have h2:=(HN.out h).1;rw [ygk HAl.out HF.out.1] at h2;exact h2.sl HAl.out hn4 hm4
      ·exact yrq HAl.out om hm4 (fun e=>(HC4.out e).2)
     clear HN
     go_wp2_with fail
     refine bodyPost_ret (yiv rfl _ _ _) rfl ?_;rw [HRES.out.1,HRES.out.2];exact ⟨_,rfl,⟨HR.out,ys3 fun h=>⟨(K4'.out h).1,(K4'.out h).2.1⟩⟩,hb⟩
theorem ygy (v u:Value) (bal rates:List Int) (credit due amount:Int) (r:List Int×Int×Int×Int) (hr:Hid (payR bal credit due rates amount=r)) (w:World) (hv:Sl .i64 w v bal) (hu:Sl .i64 w u rates) (hn:bal.length<=1000) :
 Calls Tryz.prog 216 #[.agg #[v,iV credit,iV due],u,iV amount] w (yyz r w):= by
 have hv':=hv;obtain ⟨ao,cap,rfl,_⟩:=hv';rw [<-hr.out];cases h:(rates.length == bal.length && !bal.any yak && !yak credit && !yak due && !yak amount) with
 | false =>
  have e:payR bal credit due rates amount=([],0,0,1):=by simp only [payR,h];rfl
  rw [e];exact yto ao _ cap u bal rates credit due amount w hv hu h
 | true =>
  have e:payR bal credit due rates amount=(addL (pay1 bal rates (min amount due)).1 (pay2 bal rates due amount).1,min amount due,(pay2 bal rates due amount).2,0):=by simp only [payR,h];rfl
  rw [e];simp only [Bool.and_eq_true,beq_iff_eq,Bool.not_eq_true'] at h;exact yqa ao _ cap u bal rates credit due amount w hv hu h.1.1.1.1 (lh h.1.1.1.2) (lh ⟨h.1.1.2,h.1.2,h.2⟩) hn
def badK (n:Nat) (ks:List Int):Bool:=ks.any fun k=>decide (k<1) || decide ((n:Int)<k)
def yb1 (bs:List Int) (c d am:Int) (ks:List Int):Int:=if yat bs c d=false then 1 else if badK bs.length ks=true then 7 else if may0 am=false then 8 else 0
theorem yb5 (v:Value) (bs:List Int) (c d am:Int) (u:Value) (ks:List Int) (e:Int) (he:Hid (yb1 bs c d am ks=e)) (hlen:bs.length<=1000000) (hlk:ks.length<=1000000) (w:World) (hv:Sl .i64 w v bs) (hu:Sl .i64 w u ks) :
 Calls Tryz.prog 212 #[.agg #[v,iV c,iV d],iV am,u] w (RetB (iV e) w):= by
 have HV:=lh hv;have HU:=lh hu;obtain ⟨ao,cap,rfl,h1,⟨h2,_⟩,h3⟩:=hv;obtain ⟨bo,bcap,rfl,h1',⟨h2',_⟩,h3'⟩:=hu;clear h3 h3';unfold maxLen at h2 h2';obtain ⟨q,hq⟩:∃q,yat bs c d=q:=⟨_,rfl⟩;have HQ:=lh hq;have HP:=lh (PB.new w 35 (.slice ao bs.length cap) c d);obtain ⟨p0,p1,p2⟩:=HP.out;have hb0:BW w (w.alloc (.cells #[.slice ao bs.length cap,iV c,iV d] 35)):=yaa bR _;cases q with
 | false =>
  obtain rfl:1=e:=by rw [<-he.out];unfold yb1;rw [if_pos hq]
  clear he hq
  go_enter Tryz.func212,Tryz.ntmps212
  go_wp2_with fail
  refine (ya0 _ bs c d _ HQ hlen _ (HV.out.below hb0)).mono ?_;rintro _ w1 ⟨rfl,hb1⟩;go_wp2
  go_ret
  exact ⟨rfl,yad hb0 hb1⟩
 | true =>
  have he2:(if badK bs.length ks=true then 7 else if may0 am=false then (8:Int) else 0)=e:=by rw [<-he.out];unfold yb1;simp only [hq,Bool.true_eq_false,if_false]
  have HE:=lh he2;clear he hq he2
  go_enter Tryz.func212,Tryz.ntmps212
  go_wp2_with fail
  refine (ya0 _ bs c d _ HQ hlen _ (HV.out.below hb0)).mono ?_;rintro _ w1 ⟨rfl,hb1⟩;obtain ⟨q0,q1,q2⟩:=HP.out.below hb1;have hb2:=yad hb0 hb1;have HU2:=lh (HU.out.below hb2);clear p0 p1 p2 hb0 hb1
  go_wp2_with fail
  go_loopg [14] ks.length (fun g i wr=>∃(k:Nat),k+g=ks.length/\i=iV k/\Hid (badK bs.length (ks.drop k)=badK bs.length ks)/\w1=wr)
  case atStart=>exact ⟨0,by omega,rfl,rfl,rfl⟩
  case round =>
   obtain ⟨k,hkg,rfl,hA,rfl⟩:=hrel;cases gk with
   | zero =>
    have hlt:¬((k:Int)<(ks.length:Int)):=by omega
    have hbad:badK bs.length ks=false:= by
     rw [<-hA.out,List.drop_of_length_le om]
     rfl
    have HE2:=HE.out;rw [hbad,if_neg (by simp)] at HE2;obtain ⟨m,hm⟩:∃m,may0 am=m:=⟨_,rfl⟩;have HM:=lh hm;have HE3:=lh HE2;rw [hm] at HE3;clear hA HE2 hbad HE hm;cases m with
    | false =>
     obtain rfl:8=e:=HE3.out;exact zq05303d
    | true =>
     obtain rfl:0=e:=HE3.out;exact zq05303d
   | succ g =>
    have hlt:(k:Int)<(ks.length:Int):=by omega
    obtain ⟨b,o,y,rfl,hcell,HX⟩:=HU2.out.get (i:=k) om;have hk:k<ks.length:=by omega
    have hst:badK bs.length (ks.drop k)=((decide (y<1) || decide ((bs.length:Int)<y)) || badK bs.length (ks.drop (k+1))):= by
     unfold badK;rw [List.drop_eq_getElem_cons hk,List.any_cons];have e1:ks[k]=y:=by rw [<-HX.out];simp [List.getD,hk]
     rw [e1]
    rw [hA.out] at hst;have HST:=lh hst;clear hst hA
    by_cases y1:y<1
    ·obtain rfl:7=e:=by rw [<-HE.out,HST.out];simp [y1]
     clear HST HE;go_wp2
     go_ret
     exact ⟨rfl,hb2⟩
    ·by_cases y2:(bs.length:Int)<y
     ·obtain rfl:7=e:=by rw [<-HE.out,HST.out];simp [y2]
      clear HST HE;go_wp2
      go_ret
      exact ⟨rfl,hb2⟩
     ·have hA2:Hid (badK bs.length (ks.drop (k+1))=badK bs.length ks):= by
       have:=HST.out;simp only [y1,y2,decide_false,Bool.or_self,Bool.false_or] at this;exact this.symm
      clear HST;go_wp2
      go_roundg g
      case measure=>omega
      case rel=>exact ⟨k+1,by omega,by go_num,hA2,rfl⟩
def yh2 (bs:List Int) (c d k am:Int):List Int×Int×Int×Int :=
 if yb1 bs c d am [k]≠0 then ([],0,0,yb1 bs c d am [k]) else
 if yat (bs.set (k-1).toNat (bs.getD (k-1).toNat 0+(am-min am c))) (c-min am c) d=true then (bs.set (k-1).toNat (bs.getD (k-1).toNat 0+(am-min am c)),c-min am c,d,0) else ([],0,0,5)
theorem ymg (v:Value) (bs:List Int) (c d k am e:Int) (he:Hid (yb1 bs c d am [k]=e)) (hne:(e != 0)=true) (hlen:bs.length<=1000) (w:World) (hv:Sl .i64 w v bs) :
 Calls Tryz.prog 180 #[.agg #[v,iV c,iV d],iV k,iV am] w (yb7 ([],0,0,e) w):= by
 have HV:=lh hv;obtain ⟨ao,cap,rfl,h1,⟨h2,_⟩,h3⟩:=hv;clear h3;unfold maxLen at h2
 have HBLK:Hid (Blk ((w.alloc (.cells #[.slice ao bs.length cap,iV c,iV d] 35)).alloc (.cells #[sZ,iZ,iZ] 35)) (w.heap.size+1) 35 [sZ,iZ,iZ]):= by
  exact zq05e414
 have hB0:Blk (w.alloc (.cells #[.slice ao bs.length cap,iV c,iV d] 35)) w.heap.size 35 [.slice ao bs.length cap,iV c,iV d]:=heap_alloc_new w _;have HB0:=lh (hB0.below (yaa bR (.cells #[sZ,iZ,iZ] 35)));have HW0:Hid (BW w ((w.alloc (.cells #[.slice ao bs.length cap,iV c,iV d] 35)).alloc (.cells #[sZ,iZ,iZ] 35))):=yaa (yaa bR _) _;clear hB0
 go_enter Tryz.func180,Tryz.ntmps180
 go_wp2_with fail
 obtain ⟨W,hW,gB,gR,gw,gS,gV⟩:∃W,(((w.alloc (.cells #[.slice ao bs.length cap,iV c,iV d] 35)).alloc (.cells #[sZ,iZ,iZ] 35)).alloc (.cells #[iV k] 3))=W/\Hid (Blk W w.heap.size 35 [.slice ao bs.length cap,iV c,iV d])/\Hid (Blk W (w.heap.size+1) 35 [sZ,iZ,iZ])/\Hid (BW w W)/\Hid (Sl .i64 W (sL (w.heap.size+1+1) 0 1 1) [k])/\Hid (Sl .i64 W (.slice ao bs.length cap) bs) :=
  ⟨_,rfl,HB0.out.below (yaa bR _),HBLK.out.below (yaa bR _),yaa HW0.out _,Sl.litAt _ _ [k] 1 _ rfl _ rfl (by unfold maxLen;omega) (by simp),HV.out.below (yaa HW0.out _)⟩
 with_reducible rw [hW]
 clear hW HB0 HBLK HW0 HV;have hgl:=gw.out.size;refine (yb5 _ bs c d am _ [k] e he om (by simp) _ gV.out gS.out).mono ?_;rintro _ w1 ⟨rfl,hb1⟩;have hR:=gR.out.below hb1;obtain ⟨r0,r1,r2,-⟩:=hR.cs [0,1,2];simp only [gz,gs] at r0 r1 r2;obtain ⟨f0,f1,f2,-⟩:=hR.fs [0,1,2];have hbf:=yad gw.out hb1;have hlt:=hR.lt;clear hR hb1;go_wp2
 refine bodyPost_ret (v:=.tuple #[.agg #[sZ,iZ,iZ],iV e]) (by simp [results,Tryz.results180,go_sem,r0,r1,r2]) rfl ⟨sZ,rfl,⟨Sl.nil,ycz⟩,yd5 hbf om _ _ _⟩
theorem yg5 (v:Value) (bs:List Int) (c d:Int) (i:Nat) (am y c2:Int) (he:Hid (yb1 bs c d am [(i:Int)+1]=0)) (hi:i<bs.length) (hy:Hid (bs.getD i 0=y)) (hle:am<=c) (hc2:c-am=c2) (hw:wrap64 c2=c2) (hy0:wrap64 y=y) (hq:Hid (yat (bs.set i y) c2 d=true)) (hlen:bs.length<=1000) (w:World) (hv:Sl .i64 w v bs) :
 Calls Tryz.prog 180 #[.agg #[v,iV c,iV d],iV ((i:Int)+1),iV am] w (yb7 ((bs.set i y),c2,d,0) w):= by
 have HV:=lh hv;obtain ⟨ao,cap,rfl,h1,⟨h2,_⟩,h3⟩:=hv;clear h3;unfold maxLen at h2
 have HBLK:Hid (Blk ((w.alloc (.cells #[.slice ao bs.length cap,iV c,iV d] 35)).alloc (.cells #[sZ,iZ,iZ] 35)) (w.heap.size+1) 35 [sZ,iZ,iZ]):= by
  exact zq05e414
 have hB0:Blk (w.alloc (.cells #[.slice ao bs.length cap,iV c,iV d] 35)) w.heap.size 35 [.slice ao bs.length cap,iV c,iV d]:=heap_alloc_new w _;have HB0:=lh (hB0.below (yaa bR (.cells #[sZ,iZ,iZ] 35)));have HW0:Hid (BW w ((w.alloc (.cells #[.slice ao bs.length cap,iV c,iV d] 35)).alloc (.cells #[sZ,iZ,iZ] 35))):=yaa (yaa bR _) _;have HARG:=lh (And.intro hi hlen);clear hB0
 go_enter Tryz.func180,Tryz.ntmps180
 go_wp2_with fail
 obtain ⟨W,hW,gB,gR,gw,gS,gV⟩:∃W,(((w.alloc (.cells #[.slice ao bs.length cap,iV c,iV d] 35)).alloc (.cells #[sZ,iZ,iZ] 35)).alloc (.cells #[iV ((i:Int)+1)] 3))=W/\Hid (Blk W w.heap.size 35 [.slice ao bs.length cap,iV c,iV d])/\Hid (Blk W (w.heap.size+1) 35 [sZ,iZ,iZ])/\Hid (BW w W)/\Hid (Sl .i64 W (sL (w.heap.size+1+1) 0 1 1) [(i:Int)+1])/\Hid (Sl .i64 W (.slice ao bs.length cap) bs) :=
  ⟨_,rfl,HB0.out.below (yaa bR _),HBLK.out.below (yaa bR _),yaa HW0.out _,Sl.litAt _ _ [(i:Int)+1] 1 _ rfl _ rfl (by unfold maxLen;omega) (by simp),HV.out.below (yaa HW0.out _)⟩
 with_reducible rw [hW]
 clear hW HB0 HBLK HW0 HV;have hgl:=gR.out.lt;refine (yb5 _ bs c d am _ [(i:Int)+1] 0 he om (by simp) _ gV.out gS.out).mono ?_;rintro _ w1 ⟨rfl,hb1⟩;have hB1:=gB.out.below hb1;obtain ⟨c0,c1,c2',-⟩:=hB1.cs [0,1,2];simp only [gz,gs] at c0 c1 c2';have hz1:=hb1.size
 go_wp2_with fail
 refine (yex _ bs c d HARG.out.2 _ (gV.out.below hb1)).mono ?_;rintro _ w2 ⟨u,rfl,hown,hb2⟩;obtain ⟨gr,capr,rfl⟩:=ya5 hown (by have:=HARG.out.1;omega);obtain ⟨n,hn⟩:∃n,bs.length=n:=⟨_,rfl⟩;rw [hn] at hown ⊢;have HN:=lh hn;have hB2:=hB1.below hb2;obtain ⟨f0,f1,f2,-⟩:=hB2.fs [0,1,2];clear c0 c1 c2';obtain ⟨c0,c1,c2',-⟩:=hB2.cs [0,1,2];simp only [gz,gs] at c0 c1 c2';have HB2:=lh hB2;have HOWN:=lh hown;have hgr:=(hown.lt gr rfl).1;have hz2:=hb2.size;have HBF2:=lh (yad (yad gw.out hb1) hb2);have HR2:=lh ((gR.out.below hb1).below hb2);clear hB1 hB2 hown hb1 hb2 hn
 go_wp2_with fail
 refine (yf7 (w1.heap.size+2) w.heap.size gr n capr i bs c d am y c2 HN (by have:=HARG.out.1;have:=HN.out;omega) (by have:=HARG.out.2;have:=HN.out;omega) hy hle hc2 hw hy0 om _ (((HB2.out.set 0 _).set 1 _).set 2 _) (yau (yau (yau HOWN.out om) om) om)).mono ?_;rintro _ w3 ⟨rfl,hB3,hown3,hsz3,hbel3,hoth3⟩;have hb3:BW w w3:=(((HBF2.out.setCell (p:=(Ad w.heap.size 0)) (Nat.le_refl _) _).setCell (p:=(Ad w.heap.size 1)) (Nat.le_refl _) _).setCell (p:=(Ad w.heap.size 2)) (Nat.le_refl _) _).trans (hbel3 w.heap.size (Nat.le_refl _) om);have hR3:Blk w3 (w.heap.size+1) 35 [sZ,iZ,iZ]:=(hoth3 (w.heap.size+1) om om).trans (((HR2.out.setOther om 0 _).setOther om 1 _).setOther om 2 _);clear c0 c1 c2' f0 f1 f2;obtain ⟨c0,c1,c2',-⟩:=hB3.cs [0,1,2];simp only [gz,gs] at c0 c1 c2';obtain ⟨cur,hBR,hnc,hcm,hcl,htk,_⟩:=ya8 hown3;have HTK:Hid (cur.take n=(bs.set i y).map (Value.int .i64)):=by show _=_;simpa using htk
 have HSL:=lh (Sl.of_own hown3 (show (bs.set i y).length=n by rw [List.length_set];exact HN.out));have HJ:Hid (ybt (sL gr 0 n capr) (bs.set i y) c2 d=.tuple #[.agg #[sL gr 0 n capr,iV c2,iV d],iZ]):=by show _=_;unfold ybt;rw [hq.out];rfl
 have HR3:=lh hR3;have HBR:=lh hBR;have HB3:=lh hb3;clear hB3 hown3 hbel3 hoth3 hb3 hR3 hBR hcl htk HBF2 HR2 HB2 HOWN
 go_wp2_with fail
 refine (ych _ (bs.set i y) c2 d _ HJ (by rw [List.length_set];have:=HARG.out.2;omega) _ HSL.out).mono ?_;rintro _ w4 ⟨rfl,hb4⟩;have hR4:=HR3.out.below hb4;obtain ⟨r0,r1,r2,-⟩:=hR4.cs [0,1,2];simp only [gz,gs] at r0 r1 r2;obtain ⟨e0,e1,e2,-⟩:=hR4.fs [0,1,2];have hbf:=yad HB3.out hb4;have HBR4:=lh (HBR.out.below hb4);clear hR4 hb4 c0 c1 c2';go_wp2
 refine bodyPost_ret (v:=.tuple #[.agg #[sL gr 0 n capr,iV c2,iV d],iZ]) (by simp [results,Tryz.results180,go_sem,r0,r1,r2]) rfl ⟨sL gr 0 n capr,rfl,⟨Sl.of_blk (((HBR4.out.setOther om 0 _).setOther om 1 _).setOther om 2 _) (by rw [List.length_set];exact HN.out) hnc hcm HTK.out,ys3 fun _=>⟨rfl,by omega⟩⟩,yd5 hbf om _ _ _⟩
end Go.Proofs.YtkongpjpkpfniaaGreat

/- TopTicks: parts of the proof, made small by a program (mini.py). -/
import Derived.BigQuiet
import Derived.Deep.QuietTactic
import Derived.Test.YtkongpjpkpfniaaGreatT01
import Derived.Test.YtkongpjpkpfniaaGreatT10
import Derived.Test.YtkongpjpkpfniaaGreatT18
import Derived.Test.YtkongpjpkpfniaaGreatT19
set_option linter.unusedVariables false
set_option linter.unusedSimpArgs false
set_option maxRecDepth 100000
set_option maxHeartbeats 6400000
namespace Go.Proofs.YtkongpjpkpfniaaGreat
open Go.RowKit
theorem zq203dc3 {q:Prop} (h:q:= by
 show ((((List.replicate t.ts.length ([]:List Int)).getD k []).length:Nat):Int)=t.start-(ps.getD 0 (0,0)).1;rw [h1];simp [List.getD,hk]):q:=h
theorem zq20fddf {q:Prop} (h:q:= by
 show ((((List.replicate t.ts.length ([]:List Int)).getD k []).length:Nat):Int)=day+1-(ps.getD (s.out++[x]).length (0,0)).1;rw [e1,hn,he];simp [List.getD,hk]):q:=h
theorem zq203bfd {q:Prop} (h:q:= by
 refine ⟨fun b o n c e hn=>?_,fun b o n c e hn=>?_⟩
 ·have h1:=HF1.out b o n c e hn
  simp only [World.size_drew,World.size_alloc] at h1;omega
 ·have h1:=HF2.out b o n c e hn
  simp only [World.size_drew,World.size_alloc] at h1;omega):q:=h
theorem zq20b08b {q:Prop} (h:q:= by
 have k1:=HU6.out;have k2:=HV6.out;have f1:=HF1.out;have f2:=HF2.out;have hz:=HB6.out.size;refine ⟨fun b o n c e hn hm=>?_,fun b o n c e hn hm=>?_⟩
 ·have h1:=f1 b o n c e hn
  rw [e] at k1;have h2:=k1.blt hn;simp only [World.size_drew,World.size_alloc] at h1;simp only [List.mem_cons,List.not_mem_nil,or_false] at hm;omega
 ·have h1:=f2 b o n c e hn
  rw [e] at k2;have h2:=k2.blt hn;simp only [World.size_drew,World.size_alloc] at h1;simp only [List.mem_cons,List.not_mem_nil,or_false] at hm;omega):q:=h
section
theorem ytb (w:World):(binOp BinOp.neq 129 Value.nilFunc Value.nilFunc).run Tryz.prog w=.ok (.bool false) w:=by kernel_rfl
attribute [local go_sem] ytb
def ja2 (lo g:Nat) (t:Tm) (l:List R5) (day:Int) (s:RS) (k:Nat) (p:Ps) (rs:List Int) (e:Int) (F:List Nat) (w:World) (x:Ending) (w':World):Prop:=yv7 (iV e) lo g t l day (⟨k,p,rs,s.X,s.Y,s.out⟩:RS) F w x w'
theorem ys5 (lo g:Nat) (t:Tm) (l:List R5) (day:Int) (s:RS) (F:List Nat) (V:RV) (hl:l.length<=10000) (hat:s.at'<=l.length) (hbl:s.p.bs.length<=1000) (hrl:s.rs.length<=1000) (kf:Nat) (pf:Ps) (rf:List Int) (ef:Int) (hR:Hid (evS l day (l.length-s.at') s.at' s.p s.rs=(kf,pf,rf,ef))) (w:World) (h:yb2 lo g t l day s F w V) :
 Calls Tryz.prog 90 #[pV g] w (ja2 lo g t l day s kf pf rf ef F w):= by
 have H0:=lh h;have HLL:=lh (And.intro hl (And.intro hat (And.intro hbl hrl)));clear h hl hat hbl hrl
 go_enter Tryz.func90,Tryz.ntmps90
 go_wp2_with fail
 go_loopg [] (l.length-s.at') (fun gg wr=>∃(k:Nat) (p:Ps) (rs:List Int) (F':List Nat) (V':RV),k+gg=l.length/\Hid (yb2 lo g t l day (⟨k,p,rs,s.X,s.Y,s.out⟩:RS) F' wr V')/\Hid (Stp F w F' wr)/\Hid (evS l day gg k p rs=(kf,pf,rf,ef))/\Hid (p.bs.length<=1000/\rs.length<=1000))
 case atStart=>exact ⟨s.at',s.p,s.rs,F,V,by have:=HLL.out.2.1;omega,H0,Stp.refl _ _,hR,HLL.out.2.2⟩
 case round =>
  obtain ⟨k,p,rs,F',V',hkg,HX,HST,HEV,HLB⟩:=hrel;have HKG:=lh hkg;have hl:=HLL.out.1;obtain ⟨WX,hWX⟩:∃WX,WX=wr:=⟨_,rfl⟩;subst hWX;obtain ⟨tv,lv,pv,rv,xv,yv,ov,bx,bz,xs,ys,vs⟩:=V';obtain ⟨lo',ec,rfl⟩:=HX.out.rd.now.2.1.shape;obtain ⟨po,pc,rfl⟩:=HX.out.rd.now.2.2.1.shape;obtain ⟨ro,rc,rfl⟩:=HX.out.rd.now.2.2.2.1.shape;have kg:=HX.out.blk.lt;cases gk with
  | zero =>
   have hlt:¬((k:Int)<(l.length:Int)):=by omega
   have HS0:Hid (∀W',BW WX W'->Ce W' g 8 (iV (k:Int))/\Ce W' g 7 (.slice lo' l.length ec)/\Ce W' g 9 (iV day)):=fun W' hb=>by
    have q:=HX.out.blk.below hb;exact ⟨q.cell 8,q.cell 7,q.cell 9⟩
   have hs0:=HS0.out WX bR;have hsd:=HS0.out WX.drew (yaf bR);unfold evS at HEV;have hev:=HEV.out;simp only [Prod.mk.injEq] at hev;obtain ⟨rfl,rfl,rfl,rfl⟩:=hev;clear hkg;have hdf:decide ((k:Int)<(l.length:Int))=false:=decide_eq_false hlt;obtain ⟨q1,q2,q3⟩:=hs0;go_upto_region 1 with fail
   go_quiet (fail)
   go_wp2_with fail
   go_ret
   exact ⟨rfl,F',_,HX.out.below (yfn bR _),HST.out.below (yfn bR _)⟩
  | succ gg =>
   have hlt:(k:Int)<(l.length:Int):=by omega
   have hk0:(0:Int)<=(k:Int):=by omega
   obtain ⟨eb,eo,x,e1,⟨d0,d1,d2,d3,d4⟩,HXX⟩:=HX.out.rd.now.2.1.get (i:=k) om;subst e1;have HD:=lh (And.intro d0 (And.intro d1 (And.intro d2 (And.intro d3 d4))))
   have cd:∀W',BW WX W'->Ce W' eb (eo+k*5) (iV x.a)/\Ce W' eb (eo+k*5+1) (iV x.b)/\Ce W' eb (eo+k*5+2) (iV x.c)/\Ce W' eb (eo+k*5+3) (iV x.d)/\Ce W' eb (eo+k*5+4) (iV x.e):=fun W' hb=>by
    have cc:∀o y,WX.cell? (Ad eb o)=some y->Ce W' eb o y:=fun o y hx=>(hb.cell (p:=(Ad eb o)) (yac hx)).trans hx;exact ⟨cc _ _ d0,cc _ _ d1,cc _ _ d2,cc _ _ d3,cc _ _ d4⟩
   have CD:=lh cd
   have HS1:Hid (∀W',BW WX W'->Ce W' g 8 (iV (k:Int))/\Ce W' g 7 (sL eb eo l.length ec)/\Ce W' g 9 (iV day)/\Ce W' eb (eo+k*5+1) (iV x.b)):=fun W' hb=>by
    have q:=HX.out.blk.below hb;exact ⟨q.cell 8,q.cell 7,q.cell 9,(cd W' hb).2.1⟩
   have hs1:=HS1.out WX bR;have hsd:=HS1.out WX.drew (yaf bR);clear d0 d1 d2 d3 d4 cd hkg;unfold evS at HEV;have hev:=HEV.out;rw [HXX.out] at hev
   by_cases hxb:x.b=day
   ·have hxe:(x.b == day)=true:=by simpa using hxb
    rw [if_pos hxb] at hev;have HEV2:=lh hev;clear hev HEV hxb;go_upto_region 1 with fail
    go_region_held3 (fun W'=>Ce W' g 8 (iV (k:Int))/\Ce W' g 7 (sL eb eo l.length ec)/\Ce W' g 9 (iV day)/\Ce W' eb (eo+k*5+1) (iV x.b)) (first | with_reducible exact hs1 | with_reducible exact hsd) (fail)
    obtain ⟨W3,hW3,HX3,HBX3⟩:∃W3,(WX.alloc (.cells #[.slice po p.bs.length pc,iV p.c,iV p.d] 35)).drew=W3/\Hid (yb2 lo g t l day (⟨k,p,rs,s.X,s.Y,s.out⟩:RS) F' W3 { tv:=tv,lv:=sL eb eo l.length ec,pv:=.slice po p.bs.length pc,rv:=.slice ro rs.length rc,xv:=xv,yv:=yv,ov:=ov,bx:=bx,bz:=bz,xs:=xs,ys:=ys,vs:=vs })/\Hid (BW WX W3) :=
     ⟨_,rfl,HX.out.below (yaf (yaa bR _)),yaf (yaa bR _)⟩
    have c10:WX.cell? (Ad g 10)=some (.slice po p.bs.length pc):=HX.out.blk.cell 10;have c11:WX.cell? (Ad g 11)=some (iV p.c):=HX.out.blk.cell 11;have c12:WX.cell? (Ad g 12)=some (iV p.d):=HX.out.blk.cell 12;obtain ⟨R,hRx⟩:∃R,ybi p rs x=R:=⟨_,rfl⟩;have HRX:=lh hRx;clear hRx;have HW3:=lh hW3;clear hW3;go_upto_region 3 with fail
    with_reducible rw [HW3.out]
    clear c10 c11 c12 hsd hs1
    have HRD:Hid (∀W',BW W3 W'->Sl .i64 W' (.slice po p.bs.length pc) p.bs/\Sl .i64 W' (.slice ro rs.length rc) rs):=fun W' hb=>by
     have k:=HX3.out.rd.now;exact ⟨k.2.2.1.below hb,k.2.2.2.1.below hb⟩
    have HS3:Hid (∀W',BW W3 W'->(Ce W' g 10 (.slice po p.bs.length pc)/\Ce W' g 11 (iV p.c)/\Ce W' g 12 (iV p.d))/\Ce W' g 13 (.slice ro rs.length rc)/\Ce W' g 7 (sL eb eo l.length ec)/\Ce W' g 8 (iV (k:Int))/\Ce W' eb (eo+k*5) (iV x.a)/\Ce W' eb (eo+k*5+1) (iV x.b)/\Ce W' eb (eo+k*5+2) (iV x.c)/\Ce W' eb (eo+k*5+3) (iV x.d)/\Ce W' eb (eo+k*5+4) (iV x.e)):=fun W' hb=>by
     have q:=HX3.out.blk.below hb;exact ⟨⟨q.cell 10,q.cell 11,q.cell 12⟩,q.cell 13,q.cell 7,q.cell 8,CD.out W' (yad HBX3.out hb)⟩
    have hs3:=HS3.out W3.drew (yaf bR)
    go_cut [4,5,6] (fun s4 s5 s6 wx=>∃b4 u v,s4=pV b4/\s5=v/\s6=iV R.2.2/\Hid (Blk wx b4 35 [u,iV R.1.c,iV R.1.d]/\Sl .i64 wx u R.1.bs/\Sl .i64 wx v R.2.1)/\Hid (W3.heap.size<=b4/\Fr W3 u/\Fr W3 v)/\Hid (BW W3 wx))
    case first =>
     refine yan (fun W'=>(Ce W' g 10 (.slice po p.bs.length pc)/\Ce W' g 11 (iV p.c)/\Ce W' g 12 (iV p.d))/\Ce W' g 13 (.slice ro rs.length rc)/\Ce W' g 7 (sL eb eo l.length ec)/\Ce W' g 8 (iV (k:Int))/\Ce W' eb (eo+k*5) (iV x.a)/\Ce W' eb (eo+k*5+1) (iV x.b)/\Ce W' eb (eo+k*5+2) (iV x.c)/\Ce W' eb (eo+k*5+3) (iV x.d)/\Ce W' eb (eo+k*5+4) (iV x.e)) 24 kr ?_;refine tK 0 rfl ?_;refine tK 1 rfl ?_;refine tK 2 rfl ?_;refine tK 3 rfl ?_;refine tK 4 rfl ?_;refine tK 5 rfl ?_;refine tK 6 rfl ?_;refine tK 7 rfl ?_;refine tK 8 rfl ?_;refine tK 9 rfl ?_;refine tK 10 rfl ?_;refine tK 11 rfl ?_;refine tK 12 rfl ?_;refine tK 13 rfl ?_;refine tK 14 rfl ?_;refine tK 15 rfl ?_;refine tK 16 rfl ?_;refine tK 17 rfl ?_;refine ybo (rs:=[18,23]) kr (by simp) ?_;refine (yam.cons (o:=⟨_,_,_,_,_,_⟩) rfl (fun K hK=>?_) (yam.cons (o:=⟨_,_,_,_,_,_⟩) rfl (fun K hK=>?_) yam.nil))
     ·go_simp
      refine (yo8 p _ _ rs x R HRX HLB.out.1 HLB.out.2 _ (HRD.out _ bM).1 (HRD.out _ bM).2).mono ?_;rintro _ w6 ⟨u',v',rfl,⟨hu',hf1⟩,⟨hv',hf2⟩,hb6⟩;obtain ⟨ua,uc',rfl⟩:=hu'.shape;have HU6:=lh hu';have HV6:=lh hv';have HF1:=lh hf1;have HF2:=lh hf2;have HB60:=lh hb6;have HB6:Hid (BW W3 w6):=yad bM hb6;clear hu' hv' hf1 hf2 hb6;have hs6:=HS3.out w6 HB6.out;refine hK.out _ _ (fun hun=>hs6) ?_;clear hK K;try simp only [ap,aq,sa,sb,sc]
      refine tF 19 rfl ?_ (hS:=hs6);refine tF 20 rfl ?_ (hS:=hs6);refine tF 21 rfl ?_ (hS:=hs6);refine tF 22 rfl ?_ (hS:=hs6);refine wo 23 kr rfl fun K hK=>?_;go_simp;refine hK.out _ _ (fun hun=>HS3.out _ bM) ?_;clear hK K;try simp only [ap,aq,sa,sb,sc]
      obtain ⟨U,hU,UB,ULV,UBL⟩:∃U,w6.alloc (.cells #[sZ,iZ,iZ] 35)=U/\Hid (Blk U w6.heap.size 35 [sZ,iZ,iZ])/\Hid (Sl .i64 U (.slice ua R.1.bs.length uc') R.1.bs/\Sl .i64 U v' R.2.1)/\Hid (BW W3 U) :=
       ⟨_,rfl,yae w6 [sZ,iZ,iZ] _ _ rfl,⟨HU6.out.below (yaa bR _),HV6.out.below (yaa bR _)⟩,yaa HB6.out _⟩
      have UOF:Hid (OffF [w6.heap.size] (.slice ua R.1.bs.length uc')/\OffF [w6.heap.size] v'):= by
       exact zq20b08b
      have UFR:Hid (Fr W3 (.slice ua R.1.bs.length uc')/\Fr W3 v'):= by
       exact zq203bfd
      have UGE:Hid (W3.heap.size<=w6.heap.size):= by
       have hz:=HB6.out.size;show _<=_;omega
      with_reducible rw [hU]
      clear hU;obtain ⟨c0,c1,c2,-⟩:=UB.out.cs [0,1,2];simp only [gz,gs] at c0 c1 c2;obtain ⟨cf0,cf1,cf2,-⟩:=UB.out.fs [0,1,2];have hlt8:=UB.out.lt;refine wo 24 kr rfl fun K hK=>?_;go_simp;refine hK.out _ _ kd ?_;clear hK K;try simp only [ap,aq,sa,sb,sc]
      refine wo 25 kr rfl fun K hK=>?_;go_simp;refine hK.out _ _ kd ?_;clear hK K;try simp only [ap,aq,sa,sb,sc]
      refine wo 26 kr rfl fun K hK=>?_;go_simp;refine hK.out _ _ kd ?_;clear hK K;try simp only [ap,aq,sa,sb,sc]
      clear c0 c1 c2 cf0 cf1 cf2;refine yal kr ?_ _
      go_wp2_with fail
      go_meet
      case rel=>exact ⟨w6.heap.size,_,_,rfl,rfl,rfl,⟨(((UB.out.set 0 _).set 1 _).set 2 _),Sl.keep (F:=[w6.heap.size]) ULV.out.1 (((((yab.refl _ _).sg _).sg _).sg _)) UOF.out.1,Sl.keep (F:=[w6.heap.size]) ULV.out.2 (((((yab.refl _ _).sg _).sg _).sg _)) UOF.out.2⟩,⟨UGE.out,UFR.out.1,UFR.out.2⟩,(((UBL.out.setCell UGE.out _).setCell UGE.out _).setCell UGE.out _)⟩
     ·go_simp
      refine hK.out _ _ (fun hun=>HS3.out _ bM) ?_;clear hK K;try simp only [ap,aq,sa,sb,sc]
      refine wo 18 kr rfl fun K hK=>?_;go_simp;refine (yo8 p _ _ rs x R HRX HLB.out.1 HLB.out.2 _ (HRD.out _ bM).1 (HRD.out _ bM).2).mono ?_;rintro _ w6 ⟨u',v',rfl,⟨hu',hf1⟩,⟨hv',hf2⟩,hb6⟩;obtain ⟨ua,uc',rfl⟩:=hu'.shape;have HU6:=lh hu';have HV6:=lh hv';have HF1:=lh hf1;have HF2:=lh hf2;have HB60:=lh hb6;have HB6:Hid (BW W3 w6):=yad bM hb6;clear hu' hv' hf1 hf2 hb6;have hs6:=HS3.out w6 HB6.out;refine hK.out _ _ (fun hun=>hs6) ?_;clear hK K;try simp only [ap,aq,sa,sb,sc]
      refine tF 19 rfl ?_ (hS:=hs6);refine tF 20 rfl ?_ (hS:=hs6);refine tF 21 rfl ?_ (hS:=hs6);refine tF 22 rfl ?_ (hS:=hs6)
      obtain ⟨U,hU,UB,ULV,UBL⟩:∃U,w6=U/\Hid (Blk U W3.heap.size 35 [sZ,iZ,iZ])/\Hid (Sl .i64 U (.slice ua R.1.bs.length uc') R.1.bs/\Sl .i64 U v' R.2.1)/\Hid (BW W3 U) :=
       ⟨_,rfl,Blk.below (Blk.below (yae W3 [sZ,iZ,iZ] _ _ rfl) (yaf bR)) HB60.out,⟨HU6.out.below bR,HV6.out.below bR⟩,HB6.out⟩
      have UOF:Hid (OffF [W3.heap.size] (.slice ua R.1.bs.length uc')/\OffF [W3.heap.size] v'):= by
       exact zq20b08b
      have UFR:Hid (Fr W3 (.slice ua R.1.bs.length uc')/\Fr W3 v'):= by
       exact zq203bfd
      have UGE:Hid (W3.heap.size<=W3.heap.size):= by
       have hz:=HB6.out.size;show _<=_;omega
      with_reducible rw [hU]
      clear hU;obtain ⟨c0,c1,c2,-⟩:=UB.out.cs [0,1,2];simp only [gz,gs] at c0 c1 c2;obtain ⟨cf0,cf1,cf2,-⟩:=UB.out.fs [0,1,2];have hlt8:=UB.out.lt;refine wo 24 kr rfl fun K hK=>?_;go_simp;refine hK.out _ _ kd ?_;clear hK K;try simp only [ap,aq,sa,sb,sc]
      refine wo 25 kr rfl fun K hK=>?_;go_simp;refine hK.out _ _ kd ?_;clear hK K;try simp only [ap,aq,sa,sb,sc]
      refine wo 26 kr rfl fun K hK=>?_;go_simp;refine hK.out _ _ kd ?_;clear hK K;try simp only [ap,aq,sa,sb,sc]
      clear c0 c1 c2 cf0 cf1 cf2;refine yal kr ?_ _
      go_wp2_with fail
      go_meet
      case rel=>exact ⟨W3.heap.size,_,_,rfl,rfl,rfl,⟨(((UB.out.set 0 _).set 1 _).set 2 _),Sl.keep (F:=[W3.heap.size]) ULV.out.1 (((((yab.refl _ _).sg _).sg _).sg _)) UOF.out.1,Sl.keep (F:=[W3.heap.size]) ULV.out.2 (((((yab.refl _ _).sg _).sg _).sg _)) UOF.out.2⟩,⟨UGE.out,UFR.out.1,UFR.out.2⟩,(((UBL.out.setCell UGE.out _).setCell UGE.out _).setCell UGE.out _)⟩
    case rest =>
     clear hs3;obtain ⟨b4,u,v,rfl,rfl,rfl,HBB,HNE,HBW⟩:=hcut;obtain ⟨q,rs',er⟩:=R;simp only at HBB;obtain ⟨ua,uc,rfl⟩:=HBB.out.2.1.shape;obtain ⟨va,vc,rfl⟩:=HBB.out.2.2.shape;have HRW:=lh (HX3.out.below HBW.out);have HSTW:Hid (Stp F w F' wc):=(HST.out.below HBX3.out).below HBW.out
     by_cases he:er=0
     ·subst he
      have hlen:=yk9 HRX.out rfl;simp only at hlen;have HLEN:=lh hlen;clear hlen;obtain ⟨d0,d1,d2,-⟩:=HBB.out.1.cs [0,1,2];simp only [gz,gs] at d0 d1 d2;have kg:=HRW.out.blk.lt;have c8:wc.cell? (Ad g 8)=some (iV (k:Int)):=HRW.out.blk.cell 8;have c10:wc.cell? (Ad g 10)=some (.slice po p.bs.length pc):=HRW.out.blk.cell 10;have c11:wc.cell? (Ad g 11)=some (iV p.c):=HRW.out.blk.cell 11;have c12:wc.cell? (Ad g 12)=some (iV p.d):=HRW.out.blk.cell 12;have c13:wc.cell? (Ad g 13)=some (.slice ro rs.length rc):=HRW.out.blk.cell 13;have c17:wc.cell? (Ad g 17)=some .nilFunc:=HRW.out.blk.cell 17;obtain ⟨f8,f10,f11,f12,f13,-⟩:=HRW.out.blk.fs [8,10,11,12,13]
      go_wp2_with fail
      go_roundg gg
      case measure=>omega
      case rel =>
       have hev:=HEV2.out;rw [HRX.out] at hev;simp only at hev;rw [if_neg (by simp)] at hev;have hk:yab [g] wc (((((wc.setCell (Ad g 10) (.slice ua q.bs.length uc)).setCell (Ad g 11) (iV q.c)).setCell (Ad g 12) (iV q.d)).setCell (Ad g 13) (.slice va rs'.length vc)).setCell (Ad g 8) (iV (↑k+1))):=(((((yab.refl _ _).sg _).sg _).sg _).sg _).sg _;have hlt:∀x∈F',x<W3.heap.size:=fun x hx=>(HX3.out.lt x hx).2
       have hlo3:lo<=W3.heap.size:= by
        have h1:=HX3.out.lt g HX3.out.gF;omega
       have h:=HRW.out.store hk (k:=k+1) (p:=q) (rs:=rs') (pv:=.slice ua q.bs.length uc) (rv:=.slice va rs'.length vc) (by
        have h1:=((((HRW.out.blk.set 10 (.slice ua q.bs.length uc)).set 11 (iV q.c)).set 12 (iV q.d)).set 13 (.slice va rs'.length vc)).set 8 (iV ((k:Int)+1));exact h1) ((HBB.out.2.1.rd (HNE.out.2.1.off hlt)).and (HBB.out.2.2.rd (HNE.out.2.2.off hlt))) ⟨Hi.of_fr HNE.out.2.1 hlo3,Hi.of_fr HNE.out.2.2 hlo3⟩
       have hst1:Stp F' wc F' (((((wc.setCell (Ad g 10) (.slice ua q.bs.length uc)).setCell (Ad g 11) (iV q.c)).setCell (Ad g 12) (iV q.d)).setCell (Ad g 13) (.slice va rs'.length vc)).setCell (Ad g 8) (iV (↑k+1))):=⟨hk.mono (fun x hx=>by simp only [ms] at hx;exact hx▸HRW.out.gF),fun _ hx=>.inl hx⟩;exact ⟨k+1,q,rs',F',_,by have:=HKG.out;omega,h,HSTW.out.trans hst1,hev,by rw [HLEN.out.1,HLEN.out.2];exact HLB.out⟩
     ·have her:(er != 0)=true:=by simpa using he
      have hev:=HEV2.out;rw [HRX.out] at hev;simp only at hev;rw [if_pos he] at hev;simp only [Prod.mk.injEq] at hev;obtain ⟨rfl,rfl,rfl,rfl⟩:=hev;clear he
      go_wp2_with fail
      go_ret
      exact ⟨rfl,F',_,HRW.out,HSTW.out⟩
   ·have hxe:(x.b == day)=false:=by simpa using hxb
    rw [if_neg hxb] at hev;simp only [Prod.mk.injEq] at hev;obtain ⟨rfl,rfl,rfl,rfl⟩:=hev;clear HEV hxb;go_upto_region 1 with fail
    go_region_held3 (fun W'=>Ce W' g 8 (iV (k:Int))/\Ce W' g 7 (sL eb eo l.length ec)/\Ce W' g 9 (iV day)/\Ce W' eb (eo+k*5+1) (iV x.b)) (first | with_reducible exact hs1 | with_reducible exact hsd) (fail)
    go_wp2_with fail
    go_ret
    exact ⟨rfl,F',_,HX.out.below (yaf bR),HST.out.below (yaf bR)⟩
end
structure yg9 (f day:Int) (ps:List (Int×Int)):Prop where
 pos:0<ps.length
 first:(ps.getD 0 (0,0)).1=f
 le:∀i,i<ps.length->(ps.getD i (0,0)).1<=(ps.getD i (0,0)).2
 next:∀i,i+1<ps.length->(ps.getD (i+1) (0,0)).1=(ps.getD i (0,0)).2+1
 early:∀i,i+1<ps.length->(ps.getD i (0,0)).2<day
 last:(ps.getD (ps.length-1) (0,0)).1<=day/\day<=(ps.getD (ps.length-1) (0,0)).2
 range:∀i,i<ps.length -> -135140<=(ps.getD i (0,0)).1/\(ps.getD i (0,0)).2<=2932896
theorem yik {cyc day:Int} (k:Nat):∀{f:Int} {ps:List (Int×Int)},ybd cyc day k f=(ps,true)->yg9 f day ps:= by
 induction k with
 | zero=>intro f ps h;simp [ybd] at h
 | succ k ih =>
  intro f ps h
  by_cases h0:(yb8 f cyc).2=0
  ·have hge:=yji h0
   have hle:=ymu f cyc;obtain ⟨l,hl⟩:∃l,yb8 f cyc=(l,0):=⟨(yb8 f cyc).1,by rw [<-h0]⟩
   by_cases h1:l<day/\k≠0
   ·rw [ye0 hl h1.1 h1.2] at h
    cases hs:ybd cyc day k (l+1) with
    | mk qs b =>
     rw [hs] at h;simp only [Prod.mk.injEq] at h;obtain ⟨rfl,rfl⟩:=h;have c:=ih hs;have hp:=c.pos;refine ⟨by simp,rfl,fun i hi=>?_,fun i hi=>?_,fun i hi=>?_,?_,fun i hi=>?_⟩
     ·cases i with
      | zero=>simp only [List.getD_cons_zero];rw [hl] at hge;exact hge.1
      | succ i=>simp only [List.getD_cons_succ];exact c.le i (by simpa using hi)
     ·cases i with
      | zero=>simp only [List.getD_cons_succ,List.getD_cons_zero];exact c.first
      | succ i=>simp only [List.getD_cons_succ];exact c.next i (by simpa using hi)
     ·cases i with
      | zero=>exact h1.1
      | succ i=>simp only [List.getD_cons_succ];exact c.early i (by simpa using hi)
     ·simp only [List.length_cons,Nat.add_sub_cancel]
      obtain ⟨m,hm⟩:∃m,qs.length=m+1:=⟨qs.length-1,by omega⟩;rw [hm];simp only [List.getD_cons_succ];have:=c.last;rw [hm] at this;exact this
     ·cases i with
      | zero =>
       simp only [List.getD_cons_zero];rw [hl] at hge hle;exact ⟨hge.2.1,hle⟩
      | succ i=>simp only [List.getD_cons_succ];exact c.range i (by simpa using hi)
   ·rw [yez hl h1] at h
    simp only [Prod.mk.injEq,Bool.and_eq_true,decide_eq_true_eq] at h;obtain ⟨rfl,h2,h3⟩:=h;rw [hl] at hge hle;refine ⟨by simp,rfl,fun i hi=>?_,fun i hi=>?_,fun i hi=>?_,⟨h2,h3⟩,fun i hi=>?_⟩
    ·obtain rfl:i=0:=by simpa using hi
     exact hge.1
    ·simp at hi
    ·simp at hi
    ·obtain rfl:i=0:=by simpa using hi
     exact ⟨hge.2.1,hle⟩
  ·rw [ye3 h0] at h
   cases h
theorem yvz {bs ns:List Int} {c d:Int} {s:List Int×Int×Int×Int} (h:ye7 bs c d ns=s) (h0:s.2.2.2=0):s.1.length=bs.length:= by
 subst h;unfold ye7 at h0 ⊢
 split
 ·rename_i h1;rw [if_pos h1] at h0;simp at h0
 ·rename_i h1
  rw [if_neg h1] at h0
  split
  ·rename_i h2;rw [if_pos h2] at h0;simp at h0
  ·rename_i h2
   rw [if_neg h2] at h0
   split
   ·rename_i h3;rw [if_pos h3] at h0;simp at h0
   ·rename_i h3
    rw [if_neg h3] at h0
    split
    ·exact ye9 _ _ _ _
    ·rename_i h4;rw [if_neg h4] at h0;simp at h0
theorem yls {t:Tm} {n fr til:Int} {p q:Ps} {rs ns:List Int} {g:Bool} {x:St} {e:Int} (h:ycd t n fr til p rs ns g=(some x,q,e)):q.bs.length=p.bs.length:= by
 unfold ycd at h
 split at h
 ·cases h
 split at h
 ·cases h
 split at h
 ·cases h
 split at h
 ·cases h
 ·rename_i h4
  cases h;exact yvz rfl (by simpa using h4)
structure WInv (t:Tm) (l:List R5) (ps:List (Int×Int)) (day:Int) (s:RS):Prop where
 X:s.X.length=t.ts.length
 Y:s.Y.length=t.ts.length
 bs:s.p.bs.length=t.ts.length
 rs:s.rs.length=t.ts.length
 at':s.at'<=l.length
 out:s.out.length<ps.length
 lo:(ps.getD s.out.length (0,0)).1<=day
 hi:day<=(ps.getD s.out.length (0,0)).2
 rowX:∀k,k<t.ts.length->((s.X.getD k []).length:Int)=day-(ps.getD s.out.length (0,0)).1
 rowY:∀k,k<t.ts.length->((s.Y.getD k []).length:Int)=day-(ps.getD s.out.length (0,0)).1
theorem yyl (l:List R5) (day:Int):∀(n k:Nat) (p:Ps) (rs:List Int),k<=(evS l day n k p rs).1/\(evS l day n k p rs).1<=k+n
 | 0,k,p,rs=>⟨Nat.le_refl _,Nat.le_refl _⟩
 | n+1,k,p,rs=>by
  unfold evS
  split
  ·split
   ·exact ⟨Nat.le_refl _,by omega⟩
   ·have:=yyl l day n (k+1) (ybi p rs (l.getD k yax)).1 (ybi p rs (l.getD k yax)).2.1
    omega
  ·exact ⟨Nat.le_refl _,by omega⟩
theorem yup (l:List R5) (day:Int):∀(n k:Nat) (p:Ps) (rs:List Int),(evS l day n k p rs).2.1.bs.length=p.bs.length/\(evS l day n k p rs).2.2.1.length=rs.length
 | 0,k,p,rs=>⟨rfl,rfl⟩
 | n+1,k,p,rs=>by
  unfold evS
  split
  ·split
   ·exact ⟨rfl,rfl⟩
   ·rename_i h
    have h2:=yk9 (p:=p) (rs:=rs) (x:=l.getD k yax) rfl (by simpa using h);have:=yup l day n (k+1) (ybi p rs (l.getD k yax)).1 (ybi p rs (l.getD k yax)).2.1;rw [this.1,this.2,h2.1,h2.2];exact ⟨rfl,rfl⟩
  ·exact ⟨rfl,rfl⟩
theorem WInv.ev {t:Tm} {l:List R5} {ps:List (Int×Int)} {day:Int} {s:RS} (h:WInv t l ps day s):WInv t l ps day (ybh l day s).1:= by
 have h1:=yyl l day (l.length-s.at') s.at' s.p s.rs;have h2:=yup l day (l.length-s.at') s.at' s.p s.rs;refine ⟨h.X,h.Y,h2.1.trans h.bs,h2.2.trans h.rs,?_,h.out,h.lo,h.hi,h.rowX,h.rowY⟩;show (evS l day (l.length-s.at') s.at' s.p s.rs).1<=_;have:=h.at';omega
theorem ygd (X:List (List Int)) (v:List Int):(ye8 X v).length=X.length:=by simp [ye8]
theorem ylu {X:List (List Int)} {v:List Int} {k:Nat} (h:k<X.length):(ye8 X v).getD k []=X.getD k []++[v.getD k 0]:= by
 simp [ye8,List.getD,h]
theorem WInv.endOn {t:Tm} {l:List R5} {ps:List (Int×Int)} {day:Int} {s:RS} (h:WInv t l ps day s) (hne:(ps.getD s.out.length (0,0)).2≠day):WInv t l ps (day+1) (ydh s):= by
 have h1:=h.lo;have h2:=h.hi;refine ⟨(ygd _ _).trans h.X,(ygd _ _).trans h.Y,h.bs,h.rs,h.at',h.out,(show (ps.getD s.out.length (0,0)).1<=day+1 by omega),(show day+1<=(ps.getD s.out.length (0,0)).2 by omega),fun k hk=>?_,fun k hk=>?_⟩
 ·show ((((ye8 s.X s.p.bs).getD k []).length:Nat):Int)=_
  rw [ylu (by rw [h.X];exact hk),List.length_append];have:=h.rowX k hk;simp only [List.length_singleton,ydh];omega
 ·show ((((ye8 s.Y s.rs).getD k []).length:Nat):Int)=_
  rw [ylu (by rw [h.Y];exact hk),List.length_append];have:=h.rowY k hk;simp only [List.length_singleton,ydh];omega
theorem ywo {t:Tm} {l:List R5} {fr til:Int} {s:RS} (h:(ydn t l fr til s).2=0):∃x q,(ydn t l fr til s).1={ s with p:=q,X:=List.replicate t.ts.length [],Y:=List.replicate t.ts.length [],out:=s.out++[x] }/\q.bs.length=s.p.bs.length:= by
 unfold ydn at h ⊢
 split
 ·rename_i h1;rw [if_pos h1] at h;exact absurd h h1
 ·rename_i h1
  rw [if_neg h1] at h
  split
  ·rename_i h2;rw [if_pos h2] at h;exact absurd h h2
  ·rename_i h2
   rw [if_neg h2] at h;cases hc:ycd t ((s.out.length:Int)+1) fr til s.p s.rs (intS t.right t.ts s.X s.Y (yet l s.out fr).1).1 (yet l s.out fr).1 with
   | mk so r =>
    obtain ⟨q,e⟩:=r;rw [hc] at h;cases so with
    | none =>
     have h3:=yek hc;simp only at h;subst h;simp at h3
    | some x=>exact ⟨x,q,rfl,yls hc⟩
theorem WInv.endShut {t:Tm} {l:List R5} {ps:List (Int×Int)} {f day today:Int} {s:RS} (h:WInv t l ps day s) (hc:yg9 f today ps) (hd:day<today) (he:(ps.getD s.out.length (0,0)).2=day) (fr:Int) (h0:(ydn t l fr day (ydh s)).2=0):WInv t l ps (day+1) (ydn t l fr day (ydh s)).1:= by
 obtain ⟨x,q,hs,hq⟩:=ywo h0;rw [hs];have hlast:=hc.last
 have hout:s.out.length+1<ps.length:= by
  rcases Nat.lt_or_ge (s.out.length+1) ps.length with h1 | h1
  ·exact h1
  ·have h2:=h.out
   have e:ps.length-1=s.out.length:=by omega
   rw [e,he] at hlast;omega
 have hn:=hc.next s.out.length hout;have hl:=hc.le (s.out.length+1) hout;have e1:(s.out++[x]).length=s.out.length+1:=by simp
 refine ⟨by simp,by simp,hq.trans h.bs,h.rs,h.at',?_,?_,?_,fun k hk=>?_,fun k hk=>?_⟩
 ·show (s.out++[x]).length<_
  omega
 ·show (ps.getD (s.out++[x]).length (0,0)).1<=_
  rw [e1,hn,he];omega
 ·show _<=(ps.getD (s.out++[x]).length (0,0)).2
  rw [e1];rw [hn,he] at hl;exact hl
 ·exact zq20fddf
 ·exact zq20fddf
theorem WInv.rows {t:Tm} {l:List R5} {ps:List (Int×Int)} {f day today:Int} {s:RS} (h:WInv t l ps day s) (hc:yg9 f today ps):∀k,k<t.ts.length->(s.X.getD k []).length<=4000000/\(s.Y.getD k []).length<=4000000:=fun k hk=>by
 have h1:=h.rowX k hk;have h2:=h.rowY k hk;have h3:=hc.range _ h.out;have h4:=h.hi;omega
theorem WInv.first {t:Tm} {l:List R5} {ps:List (Int×Int)} {today:Int} (hc:yg9 t.start today ps):WInv t l ps t.start (rs0 t):= by
 have h1:=hc.first
 have h2:=hc.le 0 hc.pos;refine ⟨by simp [rs0],by simp [rs0],by simp [rs0],by simp [rs0],Nat.zero_le _,hc.pos,?_,?_,fun k hk=>?_,fun k hk=>?_⟩
 ·show (ps.getD 0 (0,0)).1<=_
  omega
 ·show _<=(ps.getD 0 (0,0)).2
  omega
 ·exact zq203dc3
 ·exact zq203dc3
theorem yiq {P:Program} {a:Act} {w:World} {Q:Exit->Act->World->Prop} {c R0 R1:Code} (l0 l1:Nat) (hne:l0≠l1) (J0 J1:Act->World->Prop) (μ1:Act->World->Nat)
 (hf0:findLabel c l0=some (Code.seq .skip R0)) (hf1:findLabel c l1=some (Code.seq .skip R1))
 (pass0:∀a w,J0 a w->∀J':Nat->Act->World->Prop,R0.wp P (ydu J' Q) a w)
 (pass1:∀a w,J1 a w->∀J':Nat->Act->World->Prop,(∀a' w',J0 a' w'->J' l0 a' w')->(∀a' w',J1 a' w'->μ1 a' w'<μ1 a w->J' l1 a' w')->R1.wp P (ydu J' Q) a w)
 (first:∀J':Nat->Act->World->Prop,(∀a w,J0 a w->J' l0 a w)->(∀a w,J1 a w->R1.wp P (ydu J' Q) a w)->c.wp P (ydu J' Q) a w):(Code.scope c).wp P Q a w:= by
 refine yi5 (fun l a w=>(l=l0/\J0 a w)\/(l=l1/\J1 a w)) (fun l a w=>if l=l0 then 0 else μ1 a w+1) (fun l=>if l=l0 then R0 else R1) ?_ ?_ ?_
 ·intro l a w hJ
  rcases hJ with ⟨rfl,_⟩ | ⟨rfl,_⟩
  ·rw [if_pos rfl];exact hf0
  ·rw [if_neg (Ne.symm hne)];exact hf1
 ·intro l a w hJ J' h1 h2
  rcases hJ with ⟨rfl,hJ⟩ | ⟨rfl,hJ⟩
  ·rw [if_pos rfl]
   exact pass0 a w hJ J'
  ·rw [if_neg (Ne.symm hne)]
   exact pass1 a w hJ J' (fun a' w' h3=>h1 _ a' w' (.inl ⟨rfl,h3⟩) (by rw [if_pos rfl,if_neg (Ne.symm hne)];exact Nat.succ_pos _)) (fun a' w' h3 h4=>h1 _ a' w' (.inr ⟨rfl,h3⟩) (by rw [if_neg (Ne.symm hne),if_neg (Ne.symm hne)];exact Nat.succ_lt_succ h4))
 ·intro J' hJ hrest
  refine first J' (fun a w h=>hJ _ a w (.inl ⟨rfl,h⟩)) (fun a w h=>?_)
  have:=hrest l1 a w (.inr ⟨rfl,h⟩)
  rwa [if_neg (Ne.symm hne)] at this
theorem yqi (l:List (Int×Int)) (i:Nat) (hi:i<l.length):(yby l)[i*2]?=some (iV (l.getD i (0,0)).1)/\(yby l)[i*2+1]?=some (iV (l.getD i (0,0)).2):= by
 induction l generalizing i with
 | nil=>simp at hi
 | cons x l ih =>
  have e:yby (x::l)=iV x.1::iV x.2::yby l:=rfl;rw [e];cases i with
  | zero=>simp
  | succ i =>
   have h:=ih i (by simpa using hi);have e1:(i+1)*2=i*2+1+1:=by omega
   rw [e1]
   simpa using h
theorem yuw {w:World} {ao:Option Addr} {n cap:Nat} {ps:List (Int×Int)} (h:Fl 2 ps.length w (.slice ao n cap) (yby ps)) {i:Nat} (hi:i<ps.length) :
 ∃b o x y,ao=some (Ad b o)/\(w.cell? (Ad b (o+i*2))=some (iV x)/\w.cell? (Ad b (o+i*2+1))=some (iV y))/\ps.getD i (0,0)=(x,y):= by
 obtain ⟨rfl,_⟩:=h.len;obtain ⟨b,o,rfl,h0⟩:=h.at (i:=i*2) om;obtain ⟨_,_,e1,h1⟩:=h.at (i:=i*2+1) om;cases e1;obtain ⟨g0,g1⟩:=yqi ps i hi;exact ⟨b,o,_,_,rfl,⟨h0.trans g0,by rw [Nat.add_assoc];exact h1.trans g1⟩,rfl⟩
theorem yc8 {W:World} {a b o i:Nat} {x v:Value} (h:W.cell? (Ad a o)=some x) (hne:a≠b):(W.setCell (Ad b i) v).cell? (Ad a o)=some x :=
 (World.cell?_of_block (w:=W) (a:=(Ad a o)) (heap_setCell_other W (Ad b i) a v (fun e=>hne e))).trans h
theorem Rd.off {F:List Nat} {W W':World} {b:Nat} {φ:World->Prop} (h:Rd F W φ) (hs:∀W1 W2,yab [b] W1 W2->φ W1->φ W2) (hk:yab [b] W W') (hb:b<W.heap.size):Rd F W' φ:=fun W2 h2=>by
 have e0:W.heap[b]?=some (W.heap[b]'hb):=Array.getElem?_eq_getElem hb;have hsz:W.heap.size<=W2.heap.size:=Nat.le_trans hk.size h2.size
 let W3:World:={ W2 with heap:=W2.heap.setIfInBounds b (W.heap[b]'hb) }
 have h3:yab F W W3:=⟨h2.os.trans hk.os,h2.tape.trans hk.tape,h2.output.trans hk.output,by show _<=(W2.heap.setIfInBounds b _).size;simpa using hsz,fun k hk1 hk2=>by
  show (W2.heap.setIfInBounds b _)[k]?=_
  by_cases e:b=k
  ·subst e
   rw [Array.getElem?_setIfInBounds,if_pos rfl,if_pos om,e0]
  ·rw [Array.getElem?_setIfInBounds,if_neg e,h2.block k (Nat.lt_of_lt_of_le hk1 hk.size) hk2,hk.block k hk1 (by simp only [ms];exact fun c=>e c.symm)]⟩
 refine hs W3 W2 ⟨rfl,rfl,rfl,by show (W2.heap.setIfInBounds b _).size<=_;simp,fun k _ hk2=>?_⟩ (h W3 h3);show _=(W2.heap.setIfInBounds b _)[k]?;rw [Array.getElem?_setIfInBounds,if_neg (by simp only [ms] at hk2;exact fun c=>hk2 c.symm)]
theorem ydg.off {F:List Nat} {W W':World} {lo b0:Nat} {v:Value} {X:List (List Int)} {b:Nat} {xs:List Value} (h:ydg F W lo v X b xs) (hlt:∀x∈F,lo<=x) (hk:yab [b0] W W') (hb:b0<lo):ydg F W' lo v X b xs :=
 ⟨h.val,h.blk.keep hk (by simp only [ms];have:=hlt b h.bF;omega),h.len,fun k hk'=>yap (h.rows k hk') hk (fun q hq=>by simp only [ms];have:=hlt q (h.inF k hk' q hq);omega),h.bF,h.inF⟩
theorem yb2.off {lo g:Nat} {t:Tm} {l:List R5} {day:Int} {s:RS} {F:List Nat} {W W':World} {V:RV} {b:Nat} (h:yb2 lo g t l day s F W V) (hb:b+1=lo) (hk:yab [b] W W'):yb2 lo g t l day s F W' V:= by
 have hlt:∀x∈F,lo<=x:=fun x hx=>(h.lt x hx).1;have hg:=h.lt g h.gF;have eb:lo-1=b:=by omega
 have hbw:b<W.heap.size:=by omega
 have hH:∀v,Hi lo v->OffF [b] v:=fun v hv b' o n c e hn hm=>by
  have h1:=hv b' o n c e hn;simp only [ms] at hm;omega
 have hO1:=h.hi.2.2.2.1;have hO2:=h.hi.2.2.2.2;rw [eb] at hO1 hO2
 refine ⟨h.blk.keep hk (by simp only [ms];omega),h.gF,fun x hx=>⟨(h.lt x hx).1,Nat.lt_of_lt_of_le (h.lt x hx).2 hk.size⟩,h.rd.off (fun W1 W2 hk1 k=>⟨k.1.keep hk1 hO1,k.2.1.keep hk1 hO2,k.2.2.1.keep hk1 (hH _ h.hi.1),k.2.2.2.1.keep hk1 (hH _ h.hi.2.1),k.2.2.2.2.keep hk1 (fun v hv=>hH v (h.hi.2.2.1 v hv))⟩) hk hbw,
  h.X.off hlt hk om,h.Y.off hlt hk om,h.ne,h.dx,h.dy,h.dxy,yap h.out hk (fun q hq=>by simp only [ms];have:=hlt q (h.outF q hq);omega),h.outF,h.hi⟩
theorem yva (n:Nat) (hn:n<=1000) (w:World):(Instr.makeSlice 33 (iV (n:Int)) (iV (n:Int))).run Tryz.prog w=.ok (sL w.heap.size 0 n n) (w.alloc (.cells (Array.replicate n (iZ)) 2)):= by
 obtain ⟨i0,hi,hz0,hz1,hz2⟩:=info_parts yfa;have h:=run_make (P:=Tryz.prog) w 33 2 i0 (iZ) Tryz.underlying33 hi hz0 .i64 .i64 n n om (Int.le_refl _) (by rw [hz2];omega) om;rw [h]
 have e:madeCells (iZ).cells ((n:Int).toNat*i0.size)=Array.replicate n (iZ):= by
  rw [hz1,Nat.mul_one,Int.toNat_natCast];exact Array.ext' (by rw [show (iZ).cells=#[iZ] from rfl,toList_madeCells_one];simp)
 rw [e];simp
theorem Fl.blt {m n:Nat} {w:World} {v:Value} {cs:List Value} (h:Fl m n w v cs) (hm:0<m) {b o k c:Nat} (e:v=sL b o k c) (hk:0<k):b<w.heap.size:= by
 subst e;obtain ⟨rfl,_⟩:=h.len;have hp:=Nat.mul_pos hk hm;obtain ⟨b',o',e2,hc⟩:=h.at (i:=0) hp;cases e2;rw [List.getElem?_eq_getElem (by rw [h.1];exact hp)] at hc;exact yac hc
theorem TrS.keepW {w w1 w2:World} {v:Value} {l:List (Int×Bool)} {G:Nat} (h:TrS w v l) (hb:BW w w1) (hk:yab [G] w1 w2) (hG:w.heap.size<=G):TrS w2 v l :=
 (h.below hb).keep hk (Fl.offNew h.fl om (fun x hx=>by simp only [ms] at hx;omega))
def yz7 (R:Rn) (w:World) (e:Ending) (w':World):Prop :=
 ∃pv rv ov vs,e=.returned (.tuple #[.agg #[pv,iV R.p.c,iV R.p.d],rv,ov,iV R.e])/\Sl .i64 w' pv R.p.bs/\Sl .i64 w' rv R.rs/\StV w' ov R.out vs/\(Fr w pv/\Fr w rv/\Fr w ov/\∀v∈vs,Fr w v)/\BW w w'
def jau (a:Act) (w:World):Option Value:=match (a.tmps[14]?:Option Value) with
 | some (Value.pointer (some p))=>w.cell? ⟨p.block,9,none⟩
 | _=>none
def yul (today:Int):Option Value->Nat
 | some (.int _ d)=>(today-d).toNat
 | _=>0
def rnOf (G:RS×Int):Rn:=if G.2≠0 then rn0 G.2 else ⟨G.1.p,G.1.rs,G.1.out,0⟩
theorem ywi {t:Tm} {l:List R5} {ps:List (Int×Int)} {n:Nat} {day:Int} {s:RS} (h:(ybh l day s).2≠0):ycm t l ps n day s=ybh l day s:= by
 cases n with
 | zero=>rfl
 | succ n=>unfold ycm;rw [if_pos h]
theorem yvo {t:Tm} {l:List R5} {ps:List (Int×Int)} {n:Nat} {day:Int} {s:RS} (h0:(ybh l day s).2=0) (h:(ybb t l ps day (ybh l day s).1).2≠0):ycm t l ps (n+1) day s=ybb t l ps day (ybh l day s).1:= by
 rw [ycm,if_neg (by rw [h0];simp),if_pos h]
theorem yyg {t:Tm} {l:List R5} {ps:List (Int×Int)} {n:Nat} {day:Int} {s:RS} (h0:(ybh l day s).2=0) (h:(ybb t l ps day (ybh l day s).1).2=0):ycm t l ps (n+1) day s=ycm t l ps n (day+1) (ybb t l ps day (ybh l day s).1).1:= by
 rw [ycm,if_neg (by rw [h0];simp),if_neg (by rw [h];simp)]
end Go.Proofs.YtkongpjpkpfniaaGreat

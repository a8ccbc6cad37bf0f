/- TopTicks: parts of the proof, made small by a program (mini.py). -/
import Derived.Test.YtkongpjpkpfniaaGreatT01
import Derived.Test.YtkongpjpkpfniaaGreatT10
import Derived.Test.YtkongpjpkpfniaaGreatT23
set_option linter.unusedVariables false
set_option linter.unusedSimpArgs false
set_option maxRecDepth 100000
set_option maxHeartbeats 6400000
namespace Go.Proofs.YtkongpjpkpfniaaGreat
open Go.RowKit
theorem zq245f90 {q:Prop} (h:q:= by
 go_wp2_with fail
 go_ret
 exact ⟨rfl,F,_,H.out.below HB3.out,Stp.below (Stp.refl _ _) HB3.out,fun _ h=>h,ybw.of_below HB3.out⟩):q:=h
theorem zq246ce8 {q:Prop} (h:q:= by
 have h6:=HB6.out.size;refine ⟨fun b o n c e hn=>?_,fun b o n c e hn=>?_,fun b o n c e hn=>?_,fun v hv b o n c e hn=>?_⟩
 ·have h1:=HFR.out.1 b o n c e hn
  try simp only [World.size_drew,World.size_alloc] at h1
  omega
 ·have h1:=HFR.out.2.1 b o n c e hn
  try simp only [World.size_drew,World.size_alloc] at h1
  omega
 ·have h1:=HFR.out.2.2.1 b o n c e hn
  try simp only [World.size_drew,World.size_alloc] at h1
  omega
 ·have h1:=HFR.out.2.2.2 v hv b o n c e hn
  try simp only [World.size_drew,World.size_alloc] at h1
  omega):q:=h
theorem zq24a7f3 {q:Prop} (h:q:= by
 have h6:=HB6.out.size;have h60:=HB60.out.size;try simp only [World.size_drew,World.size_alloc] at h60
 have k1:=HRES.out.1;have k2:=HRES.out.2.1;have k3:=HRES.out.2.2;refine ⟨fun b o n c e hn hm=>?_,fun b o n c e hn hm=>?_,fun b o n c e hn hm=>?_,fun v hv b o n c e hn hm=>?_⟩
 ·have h1:=HFR.out.1 b o n c e hn
  rw [e] at k1;have h2:=k1.blt hn;try simp only [World.size_drew,World.size_alloc] at h1
  simp only [ms] at hm;omega
 ·have h1:=HFR.out.2.1 b o n c e hn
  rw [e] at k2;have h2:=k2.blt hn;try simp only [World.size_drew,World.size_alloc] at h1
  simp only [ms] at hm;omega
 ·have h1:=HFR.out.2.2.1 b o n c e hn
  have h2:=Fl.blt k3.2 om e hn;try simp only [World.size_drew,World.size_alloc] at h1
  simp only [ms] at hm;omega
 ·have h1:=HFR.out.2.2.2 v hv b o n c e hn
  have h2:=k3.1.blt hv e hn;try simp only [World.size_drew,World.size_alloc] at h1
  simp only [ms] at hm;omega):q:=h
theorem LnsS.blt {w:World}:∀{l:List St} {vs:List Value},LnsS w l vs->∀{v:Value},v∈vs->∀{b o n c:Nat},v=sL b o n c->0<n->b<w.heap.size
 | [],[],_,v,hv,_,_,_,_,_,_=>by cases hv
 | s::l,u::vs,h,v,hv,b,o,n,c,e,hn=>by
  rcases List.mem_cons.1 hv with rfl | hv
  ·have h1:=h.1
   rw [e] at h1;exact h1.blt hn
  ·exact h.2.blt hv e hn
 | [],_::_,h,_,_,_,_,_,_,_,_=>h.elim
 | _::_,[],h,_,_,_,_,_,_,_,_=>h.elim
def yz9 (v:Value) (lo g:Nat) (A:Acc) (F:List Nat) (w:World) (e:Ending) (w':World):Prop:=e=.returned v/\∃F' V',ybe lo g A F' w' V'/\Stp F w F' w'/\(∀x∈F,x∈F')/\ybw w w'
theorem yim (lo g:Nat) (A:Acc) (hA:ycy A) (hsq:A.seq<=100000) (F:List Nat) (V:AV) (x:R5) (hx:x.b<=A.today) (A':Acc) (E:Int) (hE:Hid (yb9 A x=(A',E))) (w:World) (h:ybe lo g A F w V) :
 Calls Tryz.prog 67 #[pV g,.agg #[iV x.a,iV x.b,iV x.c,iV x.d,iV x.e]] w (yz9 (iV E) lo g A' F w):= by
 obtain ⟨tv,gl,ltv,lev,gb,dv,pv,rv,nv,nvs,iv,ivs,av⟩:=V;obtain ⟨tao,tc,rfl⟩:∃ao cap,tv=.slice ao A.t.ts.length cap:=h.rd.now.1.shape;have H:=lh h;have HOK:=lh hA;have HSQ:=lh (And.intro hsq hx);have c9:w.cell? (Ad g 9)=some (pV gl):=h.blk.cell 9;have kg:=h.blk.lt;have HLN:Hid (A.ev.length<=2000):=hA.goods.len
 have HTS:Hid (A.t.ts.length<=1000):= by
  have h1:=yci hA.goods.terms;show _<=_;omega
 clear h hA hsq hx
 go_enter Tryz.func67,Tryz.ntmps67
 go_wp2_with fail
 refine (yhx gl A.t ltv lev A.ev _ ((H.out.rd.now.2.1).below (yaa bR _)) (by have:=HLN.out;omega)).mono ?_;rintro _ w2 ⟨gl',u,rfl,hl2,ho2,hge2,hb2⟩;have HB2:Hid (BW w w2):=yad (yaa bR _) hb2;have HX2:Hid (Blk w2 w.heap.size 150 [iV x.a,iV x.b,iV x.c,iV x.d,iV x.e]):=(yae w _ _ _ rfl).below hb2;have HL2:=lh hl2;have HO2:=lh ho2;have HGE2:Hid (w.heap.size+1<=gl'):=by rw [World.size_alloc] at hge2;exact hge2
 have HGT:Hid (some gl'≠u.ownBlock):=yaj ho2 hl2.1 (by decide);obtain ⟨uo,uc,rfl⟩:=hl2.2.2.shape;clear hl2 ho2 hge2 hb2 c9;obtain ⟨c0,c1,c2,c3,c4,-⟩:=HX2.out.cs [0,1,2,3,4];simp only [gz,gs] at c0 c1 c2 c3 c4;have kx:=HX2.out.lt
 go_wp2_with fail
 obtain ⟨r,hr⟩:∃r,A.t.rightE x=r:=⟨_,rfl⟩;have HRR:=lh hr
 by_cases hr0:r=0
 ·subst hr0
  by_cases hfull:2000<=A.ev.length
  ·refine (yxs gl' A.t ltv _ A.ev x (w.heap.size+1) HRR hfull _ HL2.out (yco HO2.out (by rw [World.size_alloc];omega)) (by have h1:=HB2.out.size;have h2:=HX2.out.lt;omega) HGE2.out HTS.out HGT.out).mono ?_
   rintro _ w3 ⟨rfl,hb3⟩;have e1:yb9 A x=(A,14):=by unfold yb9;rw [if_neg (by rw [hr];simp),if_pos hfull]
   have hE2:=hE.out;rw [e1] at hE2;simp only [Prod.mk.injEq] at hE2;obtain ⟨rfl,rfl⟩:=hE2;have HB3:=lh (yad HB2.out hb3);clear hb3 hfull hr e1;exact zq245f90
  ·have hp:=yj9 x.b A.ev A.ev.length
   have hEL:(ycw A x).length=A.ev.length+1:=yga _ _ _ hp;refine (yzy gl' A.t ltv _ A.ev x (w.heap.size+1) HRR om _ rfl hp ?hoff _ HL2.out (yco HO2.out (by rw [World.size_alloc];omega)) (by have h1:=HB2.out.size;have h2:=HX2.out.lt;omega) HGE2.out HTS.out HGT.out).mono ?_
   case hoff =>
    have h1:=(H.out.rd.now.2.1).2.1
    exact Fl.offNew h1.fl om (fun y hy=>by
     rcases List.mem_cons.1 hy with rfl | hy
     ·have:=HGE2.out;omega
     ·have:=(HO2.out.lt y (Option.mem_toList.1 hy)).1
      rw [World.size_alloc] at this;omega)
   rintro _ w3 ⟨rfl,u',hl3,ho3,hk3⟩
   have hb3:BW w w3:=HB2.out.trans (hk3.to_below (by have:=HB2.out.size;omega) (fun y hy=>by
    rcases List.mem_cons.1 hy with rfl | hy
    ·have:=HGE2.out;omega
    ·have:=(HO2.out.lt y (Option.mem_toList.1 hy)).1
     rw [World.size_alloc] at this;omega))
   obtain ⟨W5,hW5⟩:∃W5,W5=w3:=⟨_,rfl⟩;subst hW5;have HB3:=lh hb3;have H3:=lh (H.out.below hb3);have HL3:=lh hl3;have HO3:=lh ho3;have HEL':=lh hEL;have HGD:=lh (ykf HOK.out hr HSQ.out.2 om);have HASC:Hid (Asc (ycw A x)):=yus HOK.out.asc x;obtain ⟨R',hR''⟩:∃R',runS A.t (ycw A x) A.today=R':=⟨_,rfl⟩;have HR':=lh hR''
   have HCS:Hid (yb9 A x=if R'.e≠0 then (A,R'.e) else if btwE A.R.out R'.out≠0 then (A,btwE A.R.out R'.out) else ({ A with ev:=ycw A x,R:=R',seq:=A.seq+1 },0)):= by
    show _=_;unfold yb9;rw [if_neg (by rw [hr];simp),if_neg hfull,hR'']
   have HRD:Hid (∀W',BW W5 W'->ybn W' gl' A.t ltv u' (ycw A x)/\TrS W' (.slice tao A.t.ts.length tc) A.t.ts):=fun W' hb=>⟨HL3.out.below hb,H3.out.rd.now.1.below hb⟩
   have HS5:Hid (∀W',BW W5 W'->Ce W' g 0 (iV A.t.lim)/\Ce W' g 1 (.slice tao A.t.ts.length tc)/\Ce W' g 2 (iV A.t.cyc)/\Ce W' g 3 (iV A.t.dued)/\Ce W' g 4 (iV A.t.minf)/\Ce W' g 5 (iV A.t.minp)/\Ce W' g 6 (iV A.t.start)/\Ce W' g 7 (iV A.today)):=fun W' hb=>by
    have q:=H3.out.blk.below hb;exact ⟨q.cell 0,q.cell 1,q.cell 2,q.cell 3,q.cell 4,q.cell 5,q.cell 6,q.cell 7⟩
   have hsd:=HS5.out W5.drew (yaf bR);have HGX:Hid (gl'<W5.heap.size/\w.heap.size<=gl'):=⟨hl3.1.lt,by have:=HGE2.out;omega⟩;clear hl3 ho3 hk3 hb3 hfull hp hEL hr hR'' c0 c1 c2 c3 c4 kx;go_upto_region 5 with fail
   go_cut [7,8,9,10] (fun s7 s8 s9 s10 wx=>∃b7 pv rv nv nvs,s7=pV b7/\s8=rv/\s9=nv/\s10=iV R'.e/\Hid (Blk wx b7 35 [pv,iV R'.p.c,iV R'.p.d]/\Sl .i64 wx pv R'.p.bs/\Sl .i64 wx rv R'.rs/\StV wx nv R'.out nvs)/\Hid (W5.heap.size<=b7/\Fr W5 pv/\Fr W5 rv/\Fr W5 nv/\∀v∈nvs,Fr W5 v)/\Hid (BW W5 wx))
   case first =>
    refine yan (fun W'=>Ce W' g 0 (iV A.t.lim)/\Ce W' g 1 (.slice tao A.t.ts.length tc)/\Ce W' g 2 (iV A.t.cyc)/\Ce W' g 3 (iV A.t.dued)/\Ce W' g 4 (iV A.t.minf)/\Ce W' g 5 (iV A.t.minp)/\Ce W' g 6 (iV A.t.start)/\Ce W' g 7 (iV A.today)) 17 kr ?_;refine tK 0 rfl ?_;refine tK 1 rfl ?_;refine tK 2 rfl ?_;refine tK 3 rfl ?_;refine tK 4 rfl ?_;refine tK 6 rfl ?_;refine tK 7 rfl ?_;refine tK 8 rfl ?_;refine tK 9 rfl ?_;refine ybo (rs:=[5,16]) kr (by simp) ?_;refine (yam.cons (o:=⟨_,_,_,_,_,_⟩) rfl (fun K hK=>?_) (yam.cons (o:=⟨_,_,_,_,_,_⟩) rfl (fun K hK=>?_) yam.nil))
    ·go_simp
     refine (yem gl' A.t ltv u' (ycw A x) _ ((HRD.out _ (by repeat (first | with_reducible exact bR | with_reducible refine yaa ?_ _ | with_reducible refine yaf ?_))).1) (by have:=HEL'.out;have:=HLN.out;omega)).mono ?_;rintro _ w6 ⟨u6,rfl,ho6,hb6⟩;obtain ⟨uo6,uc6,rfl⟩:=(R5S.of_own ho6 rfl).shape;have HU6:=lh (R5S.of_own ho6 rfl);have HB60:=lh hb6;have HB6:Hid (BW W5 w6):=yad (by repeat (first | with_reducible exact bR | with_reducible refine yaa ?_ _ | with_reducible refine yaf ?_)) hb6;have hs6:=HS5.out w6 HB6.out;clear ho6 hb6;refine hK.out _ _ (fun hun=>hs6) ?_;clear hK K;try simp only [ap,aq,sa,sb,sc]
     refine ybo (rs:=[10,16]) kr (by simp) ?_;refine (yam.cons (o:=⟨_,_,_,_,_,_⟩) rfl (fun K hK=>?_) (yam.cons (o:=⟨_,_,_,_,_,_⟩) rfl (fun K hK=>?_) yam.nil))
     ·go_simp
      refine (yg4 A.t _ _ (ycw A x) A.today HGD HASC R' HR' _ ((HRD.out _ bM).2) (HU6.out.below (by repeat (first | with_reducible exact bR | with_reducible refine yaa ?_ _)))).mono ?_;rintro _ w7 ⟨pv7,rv7,nv7,vs7,rfl,hp7,hr7,hn7,⟨f1,f2,f3,f4⟩,hb7⟩;obtain ⟨po7,pc7,rfl⟩:=hp7.shape;obtain ⟨ro7,rc7,rfl⟩:=hr7.shape;obtain ⟨no7,nc7,rfl⟩:=hn7.2.shape;have HRES:=lh (And.intro hp7 (And.intro hr7 hn7));have HFR:=lh (And.intro f1 (And.intro f2 (And.intro f3 f4)));have HB70:=lh hb7;have HB7:Hid (BW W5 w7):=yad bM hb7;have hs7:=HS5.out w7 HB7.out;clear hp7 hr7 hn7 f1 f2 f3 f4 hb7;refine hK.out _ _ (fun hun=>hs7) ?_;clear hK K;try simp only [ap,aq,sa,sb,sc]
      refine tF 11 rfl ?_ (hS:=hs7);refine tF 12 rfl ?_ (hS:=hs7);refine tF 13 rfl ?_ (hS:=hs7);refine tF 14 rfl ?_ (hS:=hs7);refine tF 15 rfl ?_ (hS:=hs7);refine wo 16 kr rfl fun K hK=>?_;go_simp;refine hK.out _ _ (fun hun=>HS5.out _ (by repeat (first | with_reducible exact bR | with_reducible exact HB7.out | with_reducible exact HB6.out | with_reducible refine yaa ?_ _ | with_reducible refine yaf ?_))) ?_;clear hK K;try simp only [ap,aq,sa,sb,sc]
      obtain ⟨U,hU,UB,ULV,UBL⟩:∃U,w7.alloc (.cells #[sZ,iZ,iZ] 35)=U/\Hid (Blk U w7.heap.size 35 [sZ,iZ,iZ])/\Hid (Sl .i64 U (.slice po7 R'.p.bs.length pc7) R'.p.bs/\Sl .i64 U (.slice ro7 R'.rs.length rc7) R'.rs/\StV U (.slice no7 R'.out.length nc7) R'.out vs7)/\Hid (BW W5 U) :=
       ⟨_,rfl,yae w7 [sZ,iZ,iZ] _ _ rfl,⟨HRES.out.1.below (yaa bR _),HRES.out.2.1.below (yaa bR _),HRES.out.2.2.below (yaa bR _)⟩,yaa HB7.out _⟩
      have UGE:Hid (W5.heap.size<=w7.heap.size):= by
       have h6:=HB6.out.size;have h7:=HB7.out.size;show _<=_;omega
      have UFR:Hid (Fr W5 (.slice po7 R'.p.bs.length pc7)/\Fr W5 (.slice ro7 R'.rs.length rc7)/\Fr W5 (.slice no7 R'.out.length nc7)/\∀v∈vs7,Fr W5 v):= by
       exact zq246ce8
      have UOF:Hid (OffF [w7.heap.size] (.slice po7 R'.p.bs.length pc7)/\OffF [w7.heap.size] (.slice ro7 R'.rs.length rc7)/\OffF [w7.heap.size] (.slice no7 R'.out.length nc7)/\∀v∈vs7,OffF [w7.heap.size] v):= by
       exact zq24a7f3
      with_reducible rw [hU]
      clear hU;obtain ⟨z0,z1,z2,-⟩:=UB.out.cs [0,1,2];simp only [gz,gs] at z0 z1 z2;obtain ⟨zf0,zf1,zf2,-⟩:=UB.out.fs [0,1,2];have hltz:=UB.out.lt;refine wo 17 kr rfl fun K hK=>?_;go_simp;refine hK.out _ _ kd ?_;clear hK K;try simp only [ap,aq,sa,sb,sc]
      refine wo 18 kr rfl fun K hK=>?_;go_simp;refine hK.out _ _ kd ?_;clear hK K;try simp only [ap,aq,sa,sb,sc]
      refine wo 19 kr rfl fun K hK=>?_;go_simp;refine hK.out _ _ kd ?_;clear hK K;try simp only [ap,aq,sa,sb,sc]
      refine wo 20 kr rfl fun K hK=>?_;go_simp;refine hK.out _ _ kd ?_;clear hK K;try simp only [ap,aq,sa,sb,sc]
      clear z0 z1 z2 zf0 zf1 zf2;refine yal kr ?_ _
      go_wp2_with fail
      go_meet
      case rel=>exact ⟨w7.heap.size,_,_,_,vs7,rfl,rfl,rfl,rfl,⟨(((UB.out.set 0 _).set 1 _).set 2 _),Sl.keep (F:=[w7.heap.size]) ULV.out.1 (((((yab.refl _ _).sg _).sg _).sg _)) UOF.out.1,Sl.keep (F:=[w7.heap.size]) ULV.out.2.1 (((((yab.refl _ _).sg _).sg _).sg _)) UOF.out.2.1,⟨LnsS.keep (F:=[w7.heap.size]) ULV.out.2.2.1 (((((yab.refl _ _).sg _).sg _).sg _)) UOF.out.2.2.2,Fl.keep (F:=[w7.heap.size]) ULV.out.2.2.2 (((((yab.refl _ _).sg _).sg _).sg _)) UOF.out.2.2.1⟩⟩,⟨UGE.out,UFR.out⟩,(((UBL.out.setCell UGE.out _).setCell UGE.out _).setCell UGE.out _)⟩
     ·go_simp
      refine hK.out _ _ (fun hun=>HS5.out _ (by repeat (first | with_reducible exact bR | with_reducible exact HB7.out | with_reducible exact HB6.out | with_reducible refine yaa ?_ _ | with_reducible refine yaf ?_))) ?_;clear hK K;try simp only [ap,aq,sa,sb,sc]
      refine wo 10 kr rfl fun K hK=>?_;go_simp;refine (yg4 A.t _ _ (ycw A x) A.today HGD HASC R' HR' _ ((HRD.out _ bM).2) (HU6.out.below (by repeat (first | with_reducible exact bR | with_reducible refine yaa ?_ _)))).mono ?_;rintro _ w7 ⟨pv7,rv7,nv7,vs7,rfl,hp7,hr7,hn7,⟨f1,f2,f3,f4⟩,hb7⟩;obtain ⟨po7,pc7,rfl⟩:=hp7.shape;obtain ⟨ro7,rc7,rfl⟩:=hr7.shape;obtain ⟨no7,nc7,rfl⟩:=hn7.2.shape;have HRES:=lh (And.intro hp7 (And.intro hr7 hn7));have HFR:=lh (And.intro f1 (And.intro f2 (And.intro f3 f4)));have HB70:=lh hb7;have HB7:Hid (BW W5 w7):=yad bM hb7;have hs7:=HS5.out w7 HB7.out;clear hp7 hr7 hn7 f1 f2 f3 f4 hb7;refine hK.out _ _ (fun hun=>hs7) ?_;clear hK K;try simp only [ap,aq,sa,sb,sc]
      refine tF 11 rfl ?_ (hS:=hs7);refine tF 12 rfl ?_ (hS:=hs7);refine tF 13 rfl ?_ (hS:=hs7);refine tF 14 rfl ?_ (hS:=hs7);refine tF 15 rfl ?_ (hS:=hs7)
      obtain ⟨U,hU,UB,ULV,UBL⟩:∃U,w7=U/\Hid (Blk U w6.heap.size 35 [sZ,iZ,iZ])/\Hid (Sl .i64 U (.slice po7 R'.p.bs.length pc7) R'.p.bs/\Sl .i64 U (.slice ro7 R'.rs.length rc7) R'.rs/\StV U (.slice no7 R'.out.length nc7) R'.out vs7)/\Hid (BW W5 U) :=
       ⟨_,rfl,Blk.below (yae w6 [sZ,iZ,iZ] _ _ rfl) HB70.out,⟨HRES.out.1.below bR,HRES.out.2.1.below bR,HRES.out.2.2.below bR⟩,HB7.out⟩
      have UGE:Hid (W5.heap.size<=w6.heap.size):= by
       have h6:=HB6.out.size;have h7:=HB7.out.size;show _<=_;omega
      have UFR:Hid (Fr W5 (.slice po7 R'.p.bs.length pc7)/\Fr W5 (.slice ro7 R'.rs.length rc7)/\Fr W5 (.slice no7 R'.out.length nc7)/\∀v∈vs7,Fr W5 v):= by
       exact zq246ce8
      have UOF:Hid (OffF [w6.heap.size] (.slice po7 R'.p.bs.length pc7)/\OffF [w6.heap.size] (.slice ro7 R'.rs.length rc7)/\OffF [w6.heap.size] (.slice no7 R'.out.length nc7)/\∀v∈vs7,OffF [w6.heap.size] v):= by
       exact zq24a7f3
      with_reducible rw [hU]
      clear hU;obtain ⟨z0,z1,z2,-⟩:=UB.out.cs [0,1,2];simp only [gz,gs] at z0 z1 z2;obtain ⟨zf0,zf1,zf2,-⟩:=UB.out.fs [0,1,2];have hltz:=UB.out.lt;refine wo 17 kr rfl fun K hK=>?_;go_simp;refine hK.out _ _ kd ?_;clear hK K;try simp only [ap,aq,sa,sb,sc]
      refine wo 18 kr rfl fun K hK=>?_;go_simp;refine hK.out _ _ kd ?_;clear hK K;try simp only [ap,aq,sa,sb,sc]
      refine wo 19 kr rfl fun K hK=>?_;go_simp;refine hK.out _ _ kd ?_;clear hK K;try simp only [ap,aq,sa,sb,sc]
      refine wo 20 kr rfl fun K hK=>?_;go_simp;refine hK.out _ _ kd ?_;clear hK K;try simp only [ap,aq,sa,sb,sc]
      clear z0 z1 z2 zf0 zf1 zf2;refine yal kr ?_ _
      go_wp2_with fail
      go_meet
      case rel=>exact ⟨w6.heap.size,_,_,_,vs7,rfl,rfl,rfl,rfl,⟨(((UB.out.set 0 _).set 1 _).set 2 _),Sl.keep (F:=[w6.heap.size]) ULV.out.1 (((((yab.refl _ _).sg _).sg _).sg _)) UOF.out.1,Sl.keep (F:=[w6.heap.size]) ULV.out.2.1 (((((yab.refl _ _).sg _).sg _).sg _)) UOF.out.2.1,⟨LnsS.keep (F:=[w6.heap.size]) ULV.out.2.2.1 (((((yab.refl _ _).sg _).sg _).sg _)) UOF.out.2.2.2,Fl.keep (F:=[w6.heap.size]) ULV.out.2.2.2 (((((yab.refl _ _).sg _).sg _).sg _)) UOF.out.2.2.1⟩⟩,⟨UGE.out,UFR.out⟩,(((UBL.out.setCell UGE.out _).setCell UGE.out _).setCell UGE.out _)⟩
    ·go_simp
     refine hK.out _ _ (fun hun=>HS5.out _ (by repeat (first | with_reducible exact bR | with_reducible exact HB7.out | with_reducible exact HB6.out | with_reducible refine yaa ?_ _ | with_reducible refine yaf ?_))) ?_;clear hK K;try simp only [ap,aq,sa,sb,sc]
     refine wo 5 kr rfl fun K hK=>?_;go_simp;refine (yem gl' A.t ltv u' (ycw A x) _ ((HRD.out _ (by repeat (first | with_reducible exact bR | with_reducible refine yaa ?_ _ | with_reducible refine yaf ?_))).1) (by have:=HEL'.out;have:=HLN.out;omega)).mono ?_;rintro _ w6 ⟨u6,rfl,ho6,hb6⟩;obtain ⟨uo6,uc6,rfl⟩:=(R5S.of_own ho6 rfl).shape;have HU6:=lh (R5S.of_own ho6 rfl);have HB60:=lh hb6;have HB6:Hid (BW W5 w6):=yad (by repeat (first | with_reducible exact bR | with_reducible refine yaa ?_ _ | with_reducible refine yaf ?_)) hb6;have hs6:=HS5.out w6 HB6.out;clear ho6 hb6;refine hK.out _ _ (fun hun=>hs6) ?_;clear hK K;try simp only [ap,aq,sa,sb,sc]
     refine wo 10 kr rfl fun K hK=>?_;go_simp;refine (yg4 A.t _ _ (ycw A x) A.today HGD HASC R' HR' _ ((HRD.out _ bM).2) (HU6.out.below (by repeat (first | with_reducible exact bR | with_reducible refine yaa ?_ _)))).mono ?_;rintro _ w7 ⟨pv7,rv7,nv7,vs7,rfl,hp7,hr7,hn7,⟨f1,f2,f3,f4⟩,hb7⟩;obtain ⟨po7,pc7,rfl⟩:=hp7.shape;obtain ⟨ro7,rc7,rfl⟩:=hr7.shape;obtain ⟨no7,nc7,rfl⟩:=hn7.2.shape;have HRES:=lh (And.intro hp7 (And.intro hr7 hn7));have HFR:=lh (And.intro f1 (And.intro f2 (And.intro f3 f4)));have HB70:=lh hb7;have HB7:Hid (BW W5 w7):=yad bM hb7;have hs7:=HS5.out w7 HB7.out;clear hp7 hr7 hn7 f1 f2 f3 f4 hb7;refine hK.out _ _ (fun hun=>hs7) ?_;clear hK K;try simp only [ap,aq,sa,sb,sc]
     refine tF 11 rfl ?_ (hS:=hs7);refine tF 12 rfl ?_ (hS:=hs7);refine tF 13 rfl ?_ (hS:=hs7);refine tF 14 rfl ?_ (hS:=hs7);refine tF 15 rfl ?_ (hS:=hs7)
     obtain ⟨U,hU,UB,ULV,UBL⟩:∃U,w7=U/\Hid (Blk U W5.heap.size 35 [sZ,iZ,iZ])/\Hid (Sl .i64 U (.slice po7 R'.p.bs.length pc7) R'.p.bs/\Sl .i64 U (.slice ro7 R'.rs.length rc7) R'.rs/\StV U (.slice no7 R'.out.length nc7) R'.out vs7)/\Hid (BW W5 U) :=
      ⟨_,rfl,Blk.below (Blk.below (Blk.below (yae W5 [sZ,iZ,iZ] _ _ rfl) (yaf bR)) HB60.out) HB70.out,⟨HRES.out.1.below bR,HRES.out.2.1.below bR,HRES.out.2.2.below bR⟩,HB7.out⟩
     have UGE:Hid (W5.heap.size<=W5.heap.size):= by
      have h6:=HB6.out.size;have h7:=HB7.out.size;show _<=_;omega
     have UFR:Hid (Fr W5 (.slice po7 R'.p.bs.length pc7)/\Fr W5 (.slice ro7 R'.rs.length rc7)/\Fr W5 (.slice no7 R'.out.length nc7)/\∀v∈vs7,Fr W5 v):= by
      exact zq246ce8
     have UOF:Hid (OffF [W5.heap.size] (.slice po7 R'.p.bs.length pc7)/\OffF [W5.heap.size] (.slice ro7 R'.rs.length rc7)/\OffF [W5.heap.size] (.slice no7 R'.out.length nc7)/\∀v∈vs7,OffF [W5.heap.size] v):= by
      exact zq24a7f3
     with_reducible rw [hU]
     clear hU;obtain ⟨z0,z1,z2,-⟩:=UB.out.cs [0,1,2];simp only [gz,gs] at z0 z1 z2;obtain ⟨zf0,zf1,zf2,-⟩:=UB.out.fs [0,1,2];have hltz:=UB.out.lt;refine wo 17 kr rfl fun K hK=>?_;go_simp;refine hK.out _ _ kd ?_;clear hK K;try simp only [ap,aq,sa,sb,sc]
     refine wo 18 kr rfl fun K hK=>?_;go_simp;refine hK.out _ _ kd ?_;clear hK K;try simp only [ap,aq,sa,sb,sc]
     refine wo 19 kr rfl fun K hK=>?_;go_simp;refine hK.out _ _ kd ?_;clear hK K;try simp only [ap,aq,sa,sb,sc]
     refine wo 20 kr rfl fun K hK=>?_;go_simp;refine hK.out _ _ kd ?_;clear hK K;try simp only [ap,aq,sa,sb,sc]
     clear z0 z1 z2 zf0 zf1 zf2;refine yal kr ?_ _
     go_wp2_with fail
     go_meet
     case rel=>exact ⟨W5.heap.size,_,_,_,vs7,rfl,rfl,rfl,rfl,⟨(((UB.out.set 0 _).set 1 _).set 2 _),Sl.keep (F:=[W5.heap.size]) ULV.out.1 (((((yab.refl _ _).sg _).sg _).sg _)) UOF.out.1,Sl.keep (F:=[W5.heap.size]) ULV.out.2.1 (((((yab.refl _ _).sg _).sg _).sg _)) UOF.out.2.1,⟨LnsS.keep (F:=[W5.heap.size]) ULV.out.2.2.1 (((((yab.refl _ _).sg _).sg _).sg _)) UOF.out.2.2.2,Fl.keep (F:=[W5.heap.size]) ULV.out.2.2.2 (((((yab.refl _ _).sg _).sg _).sg _)) UOF.out.2.2.1⟩⟩,⟨UGE.out,UFR.out⟩,(((UBL.out.setCell UGE.out _).setCell UGE.out _).setCell UGE.out _)⟩
   case rest =>
    clear hsd;obtain ⟨b7,pv',rv',nv',nvs',rfl,rfl,rfl,rfl,HRES,HFRS,HBW⟩:=hcut;obtain ⟨po,pc,rfl⟩:=HRES.out.2.1.shape;obtain ⟨ro,rc,rfl⟩:=HRES.out.2.2.1.shape;obtain ⟨no,nc,rfl⟩:=HRES.out.2.2.2.2.shape;have HW:=lh (H3.out.below HBW.out);have HBT:Hid (BW w wc):=HB3.out.trans (HBW.out.mono HB3.out.size)
    by_cases hre:R'.e=0
    ·have hcs:=HCS.out
     rw [if_neg (by simpa using hre)] at hcs;have HCS2:=lh hcs;have hre':(R'.e != 0)=false:=by simpa using hre
     clear hcs HCS;obtain ⟨E2,hE2⟩:∃E2,btwE A.R.out R'.out=E2:=⟨_,rfl⟩;have HE2:=lh hE2;rw [hE2] at HCS2;clear hE2;obtain ⟨nao,nac,hnv⟩:=HW.out.rd.now.2.2.2.2.2.1.2.shape;simp only at hnv;subst hnv
     have HS8:Hid (∀W',BW wc W'->Ce W' g 8 (iV A.seq)/\Ce W' g 15 (.slice nao A.R.out.length nac)):=fun W' hb=>by
      have q:=HW.out.blk.below hb;exact ⟨q.cell 8,q.cell 15⟩
     have hs8:=HS8.out wc bR;have hs8d:=HS8.out wc.drew (yaf bR);have hsq0:=HOK.out.seq;have hsq1:=HSQ.out.1;have hwq:IntKind.i64.wrap (A.seq+1)=A.seq+1:=IntWalk.i64_in _ ⟨by omega,by omega⟩;go_upto_region 8 with fail
     go_region_held3 (fun W'=>Ce W' g 8 (iV A.seq)/\Ce W' g 15 (.slice nao A.R.out.length nac)) (first | with_reducible exact hs8 | with_reducible exact hs8d | exact HSB.out) (first | (go_at_call 116;refine (yzb (A.seq+1) _ _ A.R.out R'.out E2 HE2 (by have:=HOK.out.outl;omega) (lh HOK.out.outb) _ ⟨nvs,(HW.out.rd.now.2.2.2.2.2.1).below (by first | exact bR | exact yaf bR)⟩ ⟨nvs',(HRES.out.2.2.2).below (by first | exact bR | exact yaf bR)⟩).mono ?_;rintro _ w8 ⟨mu,rfl,had,hb8⟩;have HAD:=lh had;have HB8:Hid (BW wc w8):=(by first | exact hb8 | exact yad (yaf bR) hb8);have HB80:=lh hb8;have HSB:=lh (HS8.out _ HB8.out);clear hb8 had))
     clear hs8 hs8d hwq
     by_cases he2:E2=0
     ·subst he2
      have hcs:=HCS2.out;rw [if_neg (by simp)] at hcs;have hE2':=hE.out;rw [hcs] at hE2';simp only [Prod.mk.injEq] at hE2';obtain ⟨rfl,rfl⟩:=hE2';have HW8:=lh (HW.out.below HB8.out);have HP8:=lh (HRES.out.1.below HB8.out)
      have hgb:b7≠g:= by
       have h1:=HFRS.out.1;have h2:=(H3.out.lt g H3.out.gF).2;omega
      have kb7:=HP8.out.lt;have kg8:=HW8.out.blk.lt;have c9:w8.cell? (Ad g 9)=some (pV gl):=HW8.out.blk.cell 9;have c11:w8.cell? (Ad g 11)=some pv:=HW8.out.blk.cell 11;have c12:w8.cell? (Ad g 12)=some (iV A.R.p.c):=HW8.out.blk.cell 12;have c13:w8.cell? (Ad g 13)=some (iV A.R.p.d):=HW8.out.blk.cell 13;have c14:w8.cell? (Ad g 14)=some rv:=HW8.out.blk.cell 14;have c15:w8.cell? (Ad g 15)=some (.slice nao A.R.out.length nac):=HW8.out.blk.cell 15;obtain ⟨f9,f11,f12,f13,f14,f15,-⟩:=HW8.out.blk.fs [9,11,12,13,14,15];have HSK:Hid (∀(W':World) (i:Nat) (v:Value),(Ce W' b7 0 (.slice po R'.p.bs.length pc)/\Ce W' b7 1 (iV R'.p.c)/\Ce W' b7 2 (iV R'.p.d))->((W'.setCell (Ad g i) v).cell? (Ad b7 0)=some (.slice po R'.p.bs.length pc)/\(W'.setCell (Ad g i) v).cell? (Ad b7 1)=some (iV R'.p.c)/\(W'.setCell (Ad g i) v).cell? (Ad b7 2)=some (iV R'.p.d))):=fun W' i v h=>⟨yc8 h.1 hgb,yc8 h.2.1 hgb,yc8 h.2.2 hgb⟩;have hp0:w8.cell? (Ad b7 0)=some (.slice po R'.p.bs.length pc)/\w8.cell? (Ad b7 1)=some (iV R'.p.c)/\w8.cell? (Ad b7 2)=some (iV R'.p.d):=⟨HP8.out.cell 0,HP8.out.cell 1,HP8.out.cell 2⟩;have hp1:=HSK.out _ 9 (pV gl') hp0;have hp2:=HSK.out _ 13 (iV R'.p.d) (HSK.out _ 12 (iV R'.p.c) (HSK.out _ 11 (.slice po R'.p.bs.length pc) hp1));have hp3:=HSK.out _ 14 (.slice ro R'.rs.length rc) hp2;have hp4:=HSK.out _ 15 (.slice no R'.out.length nc) hp3;have HP0:=lh hp0;have HP1:=lh hp1;have HP2:=lh hp2;have HP3:=lh hp3;have HP4:=lh hp4;clear hp0 hp1 hp2 hp3 hp4 hcs;go_upto_region 11 with fail
      have HQ0:Hid (∀W',BW w8 W'->Ce W' b7 0 (.slice po R'.p.bs.length pc)/\Ce W' b7 1 (iV R'.p.c)/\Ce W' b7 2 (iV R'.p.d)):=fun W' hb=>by
       have q:=HP8.out.below hb;exact ⟨q.cell 0,q.cell 1,q.cell 2⟩
      have hsd:=HQ0.out w8.drew (yaf bR);have hs00:=HP0.out;refine yan (fun W'=>Ce W' b7 0 (.slice po R'.p.bs.length pc)/\Ce W' b7 1 (iV R'.p.c)/\Ce W' b7 2 (iV R'.p.d)) 13 kr ?_;refine tF 0 rfl ?_ (hS:=hsd);refine tF 1 rfl ?_ (hS:=hsd);refine tF 2 rfl ?_ (hS:=hsd);refine tF 3 rfl ?_ (hS:=hsd);refine tF 4 rfl ?_ (hS:=hsd);refine tK 5 rfl ?_;refine tF 6 rfl ?_ (hS:=hsd);refine tF 7 rfl ?_ (hS:=hsd);refine tF 8 rfl ?_ (hS:=hsd);refine tF 9 rfl ?_ (hS:=hsd);refine wo 10 kr rfl fun K hK=>?_;go_simp;refine hK.out _ _ (fun hun=>HP1.out) ?_;clear hK K;try simp only [ap,aq,sa,sb,sc]
      refine tF 11 rfl ?_ (hS:=HP1.out);refine tF 12 rfl ?_ (hS:=HP1.out);refine wo 13 kr rfl fun K hK=>?_;go_simp;refine hK.out _ _ kd ?_;clear hK K;try simp only [ap,aq,sa,sb,sc]
      refine yd0 (i:=14) (oi:=⟨_,_,_,_,_,_⟩) (v:=?_) rfl kr kr kr (by decide) (fun _ _ _ h=>h) (Or.inl ⟨by rfl,?_⟩) (fun h=>absurd h (by decide)) ?_
      rotate_left
      ·(intro w hSw;(try dsimp only at hSw);go_simp;try with_reducible rfl)
      simp only [ap,aq,sa,sb,sc];refine yd0 (i:=15) (oi:=⟨_,_,_,_,_,_⟩) (v:=?_) rfl kr kr kr (by decide) (fun _ _ _ h=>h) (Or.inl ⟨by rfl,?_⟩) (fun h=>absurd h (by decide)) ?_
      rotate_left
      ·(intro w hSw;(try dsimp only at hSw);go_simp;try with_reducible rfl)
      simp only [ap,aq,sa,sb,sc];refine wo 16 kr rfl fun K hK=>?_;go_simp;refine hK.out _ _ kd ?_;clear hK K;try simp only [ap,aq,sa,sb,sc]
      refine yd0 (i:=17) (oi:=⟨_,_,_,_,_,_⟩) (v:=?_) rfl kr kr kr (by decide) (fun _ _ _ h=>h) (Or.inl ⟨by rfl,?_⟩) (fun h=>absurd h (by decide)) ?_
      rotate_left
      ·(intro w hSw;(try dsimp only at hSw);go_simp;try with_reducible rfl)
      simp only [ap,aq,sa,sb,sc];refine yd0 (i:=18) (oi:=⟨_,_,_,_,_,_⟩) (v:=?_) rfl kr kr kr (by decide) (fun _ _ _ h=>h) (Or.inl ⟨by rfl,?_⟩) (fun h=>absurd h (by decide)) ?_
      rotate_left
      ·(intro w hSw;(try dsimp only at hSw);go_simp;try with_reducible rfl)
      simp only [ap,aq,sa,sb,sc];refine wo 19 kr rfl fun K hK=>?_;go_simp;refine hK.out _ _ kd ?_;clear hK K;try simp only [ap,aq,sa,sb,sc]
      refine yal kr ?_ _;obtain ⟨vo,n0,vc,cs0,hav,hn0,hl0,hnn0,hnw0,h10,hown0⟩:=AdO.form (show AdO w8 lo av (A.seq.toNat*400000) from HW8.out.adj);subst hav;have HN0:=lh (And.intro hn0 h10);have HO0:=lh hown0;obtain ⟨mo,m1,mc,cs1,rfl,hn1,hl1,hnn1,hnw1,h11,hown1⟩:=HAD.out.form;have HN1:=lh (And.intro hn1 (And.intro hl1 (And.intro hnn1 h11)));have HO1:=lh hown1;clear hn0 hl0 hnn0 hnw0 h10 hown0 hn1 hl1 hnn1 hnw1 h11 hown1
      obtain ⟨W9,hW9,HB9,HK9⟩:∃W9,((((((w8.setCell (Ad g 9) (pV gl')).setCell (Ad g 11) (.slice po R'.p.bs.length pc)).setCell (Ad g 12) (iV R'.p.c)).setCell (Ad g 13) (iV R'.p.d)).setCell (Ad g 14) (.slice ro R'.rs.length rc)).setCell (Ad g 15) (.slice no R'.out.length nc)).drew=W9/\Hid (Blk W9 g 89 [iV A.t.lim,.slice tao A.t.ts.length tc,iV A.t.cyc,iV A.t.dued,iV A.t.minf,iV A.t.minp,iV A.t.start,iV A.today,iV A.seq,pV gl',pV gb,.slice po R'.p.bs.length pc,iV R'.p.c,iV R'.p.d,.slice ro R'.rs.length rc,.slice no R'.out.length nc,iv,.slice vo n0 vc])/\Hid (yab [g] w8 W9) :=
       ⟨_,rfl,((((((HW8.out.blk.set 9 _).set 11 _).set 12 _).set 13 _).set 14 _).set 15 _).below (yaf bR),(((((((yab.refl _ _).sg _).sg _).sg _).sg _).sg _).sg _).drew⟩
      with_reducible rw [hW9]
      clear hW9 hs00 hsd c9 c11 c12 c13 c14 c15 f9 f11 f12 f13 f14 f15 kb7 kg8
      have HO09:Hid (W9.ownsRow lo 175 9 (.slice vo n0 vc) n0 cs0):=yap HO0.out HK9.out (fun q hq hm=>by
       simp only [ms] at hm;subst hm;exact yaj HO0.out HW8.out.blk (by decide) hq.symm)
      have HO19:Hid (W9.ownsRow wc.drew.heap.size 175 9 (.slice mo m1 mc) m1 cs1):=yap HO1.out HK9.out (fun q hq hm=>by
       simp only [ms] at hm;subst hm;exact yaj HO1.out HW8.out.blk (by decide) hq.symm)
      have HNG:Hid (some g≠(Value.slice vo n0 vc).ownBlock):=yaj HO0.out HW8.out.blk (by decide);have c8:W9.cell? (Ad g 8)=some (iV A.seq):=HB9.out.cell 8;have c17:W9.cell? (Ad g 17)=some (.slice vo n0 vc):=HB9.out.cell 17;have kg9:=HB9.out.lt;have hsq0:=HOK.out.seq;have hsq1:=HSQ.out.1;have hwq:IntKind.i64.wrap (A.seq+1)=A.seq+1:=IntWalk.i64_in _ ⟨by omega,by omega⟩;obtain ⟨i0,hi,hz0,hz1,hz2⟩:=info_parts yjj
      have HNB:Hid (n0+m1<=(A.seq+1).toNat*400000/\n0+m1<=100000000000):= by
       have h1:=HN0.out.1;have h2:=HN1.out.1;have h3:=HOK.out.outl;exact ⟨by omega,by omega⟩
      have HLO:Hid (lo<=W9.heap.size):= by
       have h1:=(HW8.out.lt g HW8.out.gF).1;have h2:=HB9.out.lt;show _<=_;omega
      clear hsq0 hsq1
      go_wp2_with (at_builtin;refine yen rfl (.tmp 79) (.tmp 80) 87 rfl lo 175 i0 (.agg #[iZ,iZ,iZ,iZ,iZ,iZ,iZ,iZ,iZ]) 9 72 Tryz.underlying87 hi hz0 hz1 hz2 rfl (by decide) (.slice vo n0 vc) n0 cs0 rfl HO09.out mo m1 mc cs1 rfl HN1.out.2.1 HN1.out.2.2.1 (Fl.of_own HO19.out HN1.out.2.2.2).news HN1.out.2.2.2 (by have:=HNB.out;unfold maxLen;omega) (by have:=HNB.out;omega) HLO.out ?_;intro v9 w10 hown10 hg10 hor10;have HO10:=lh hown10;have HG10:=lh hg10;have HR10:=lh hor10;obtain ⟨ao9,cap9,rfl⟩:=(Fl.of_own hown10 (yhw HN0.out.2 HN1.out.2.2.2)).shape;have e17:w10.cell? (Ad g 17)=some (.slice vo n0 vc):=(yaq HB9.out hg10 HNG.out).cell 17;have e8:w10.cell? (Ad g 8)=some (iV A.seq):=(yaq HB9.out hg10 HNG.out).cell 8;have f17:=(yaq HB9.out hg10 HNG.out).frozen 17;have f8:=(yaq HB9.out hg10 HNG.out).frozen 8;have k10:=(yaq HB9.out hg10 HNG.out).lt;clear hown10 hg10 hor10)
      go_ret
      have hB58:BW W5 w8:=HBW.out.trans (HB8.out.mono HBW.out.size);have hlt:∀y∈F,y<W5.heap.size:=fun y hy=>(H3.out.lt y hy).2;have hL8:=(HRD.out _ hB58).1
      have hgl:gl'∉F:=fun hm=>by
       have h1:=(H.out.lt _ hm).2;have h2:=HGX.out.2;omega
      have hou:OffF F u':=fun b o n c e hn hm=>by
       have h1:=(HO3.out.lt b (by rw [e];rfl)).1;have h2:=(H.out.lt b hm).2;omega
      have hrd:Rd F w8 (fun W=>ybn W gl' A.t ltv u' (ycw A x)/\Sl .i64 W (.slice po R'.p.bs.length pc) R'.p.bs/\Sl .i64 W (.slice ro R'.rs.length rc) R'.rs/\StV W (.slice no R'.out.length nc) R'.out nvs'):= by
       have k1:Rd F w8 (fun W=>ybn W gl' A.t ltv u' (ycw A x)):=fun W hW=>⟨hL8.1.keep hW hgl,(HW8.out.rd W hW).2.1.2.1,hL8.2.2.keep hW hou⟩;exact k1.and (((HRES.out.2.1.below HB8.out).rd (HFRS.out.2.1.off hlt)).and (((HRES.out.2.2.1.below HB8.out).rd (HFRS.out.2.2.1.off hlt)).and ((HRES.out.2.2.2.below HB8.out).rd (HFRS.out.2.2.2.1.off hlt) (fun v hv=>(HFRS.out.2.2.2.2 v hv).off hlt))))
      obtain ⟨F',V',h1,h2,h3,h4⟩:=yv4 (gl':=gl') (s:=A.seq+1) HW8.out R' (ycw A x) hrd HK9.out HO10.out HNB.out.1 (yhw HN0.out.2 HN1.out.2.2.2) HG10.out HR10.out (((yab.refl _ _).sg _).sg _) (((yaq HB9.out HG10.out HNG.out).set 17 _).set 8 _);exact ⟨rfl,F',V',h1,(Stp.below (Stp.below (Stp.refl _ _) HBT.out) HB8.out).trans h2,h3,((ybw.of_below HBT.out).below HB8.out).trans h4⟩
     ·have hcs:=HCS2.out
      rw [if_pos he2] at hcs;have hE2':=hE.out;rw [hcs] at hE2';simp only [Prod.mk.injEq] at hE2';obtain ⟨rfl,rfl⟩:=hE2';have he2':(E2 != 0)=true:=by simpa using he2
      clear he2 hcs
      go_wp2_with fail
      go_ret
      exact ⟨rfl,F,_,HW.out.below HB8.out,Stp.below (Stp.below (Stp.refl _ _) HBT.out) HB8.out,fun _ h=>h,(ybw.of_below HBT.out).below HB8.out⟩
    ·have hcs:=HCS.out
     rw [if_pos hre] at hcs;have hE2':=hE.out;rw [hcs] at hE2';simp only [Prod.mk.injEq] at hE2';obtain ⟨rfl,rfl⟩:=hE2';have hre':(R'.e != 0)=true:=by simpa using hre
     clear hre hcs
     go_wp2_with fail
     go_ret
     exact ⟨rfl,F,_,HW.out,Stp.below (Stp.refl _ _) HBT.out,fun _ h=>h,ybw.of_below HBT.out⟩
 ·refine (jab gl' A.t ltv _ A.ev x (w.heap.size+1) r HRR hr0 _ HL2.out (yco HO2.out (by rw [World.size_alloc];omega)) (by have h1:=HB2.out.size;have h2:=HX2.out.lt;omega) HGE2.out HTS.out HGT.out).mono ?_
  rintro _ w3 ⟨rfl,hb3⟩;have e1:yb9 A x=(A,r):=by unfold yb9;rw [hr,if_pos hr0]
  have hE2:=hE.out;rw [e1] at hE2;simp only [Prod.mk.injEq] at hE2;obtain ⟨rfl,rfl⟩:=hE2;have hr0':(r != 0)=true:=by simpa using hr0
  have HB3:=lh (yad HB2.out hb3);clear hb3 hr0 hr e1;exact zq245f90
noncomputable instance (A:Acc) (day:Int):Decidable (oldS A day):=by unfold oldS;infer_instance
noncomputable def yj4 (A:Acc) (b:Bk) (c:R5):R5 :=
 if ydw b c.e≠0 then yax else if c.a=6 then yax else if oldS A (endD b c.e (c.a == 5)).c then yax else ⟨5,(endD b c.e (c.a == 5)).c,(endD b c.e (c.a == 5)).b,(endD b c.e (c.a == 5)).d,(endD b c.e (c.a == 5)).a⟩
noncomputable def yhe (A:Acc) (b:Bk) (c:R5):Int :=
 if ydw b c.e≠0 then ydw b c.e else if c.a=6 then 0 else if oldS A (endD b c.e (c.a == 5)).c then 11 else 0
def yn4 (x:R5) (E:Int) (base gb:Nat) (B':Bk) (L:List Nat) (w:World) (e:Ending) (w':World):Prop :=
 ∃dv',e=.returned (.tuple #[.agg #[iV x.a,iV x.b,iV x.c,iV x.d,iV x.e],iV E])/\ya6 w' base gb dv' B'/\DStp base L w w'
theorem ycf {base gb:Nat} {B':Bk} {dv2:Value} {L:List Nat} {w w2 W:World} {cs:List Value} (hk:yab [w.heap.size+1] w2 W) (hv:ya6 w2 base gb dv2 B') (hs:DStp base L w w2) (hbe:Blk w2 (w.heap.size+1) 150 cs) (hb:base<=w.heap.size) (hgb:gb<w.heap.size):ya6 W base gb dv2 B'/\DStp base L w W :=
 ⟨⟨hv.1,hv.2.1.keep hk (fun hm=>by simp only [ms] at hm;omega),yap hv.2.2 hk (fun q hq hm=>by
  simp only [ms] at hm;subst hm;exact yaj hv.2.2 hbe (by decide) hq.symm)⟩,
  hs.below.trans (hk.to_below (Nat.le_trans hb hs.keep.size) (fun x hx=>by simp only [ms] at hx;omega)),
  hs.keep.trans hk (fun x hx=>by simp only [ms] at hx;exact .inr om)⟩
theorem yis (lo g base gb:Nat) (A:Acc) (F:List Nat) (V:AV) (dv:Value) (b:Bk) (c:R5) (x:R5) (hx:Hid (yj4 A b c=x)) (E:Int) (hE:Hid (yhe A b c=E)) (B':Bk) (hB':Hid (ykw b c.e (c.a == 5)=B')) (hn:b.ds.length<=100000) (L:List Nat) (hL:Hid (gb∈L/\∀q,dv.ownBlock=some q->q∈L)) (w:World) (hLl:Hid (∀y∈L,y<w.heap.size)) (hb:base<=w.heap.size) (hv:ya6 w base gb dv b) (h:Hid (∀W,Below base w W->ybe lo g A F W V)) :
 Calls Tryz.prog 66 #[pV g,.agg #[iV c.a,iV c.b,iV c.c,iV c.d,iV c.e],pV gb] w (yn4 x E base gb B' L w):= by
 have HV:=lh hv;have HBS:=lh hb;obtain ⟨D,hD⟩:∃D,endD b c.e (c.a == 5)=D:=⟨_,rfl⟩;obtain ⟨X,hX⟩:∃X,ydw b c.e=X:=⟨_,rfl⟩;have HD:=lh hD;have HX:=lh hX;have hx2:=hx.out;have hE2:=hE.out;unfold yj4 at hx2;unfold yhe at hE2;rw [hD,hX] at hx2;rw [hD,hX] at hE2;have HX2:=lh hx2;have HE2:=lh hE2;clear hv hb hD hX hx2 hE2 hx hE
 go_enter Tryz.func66,Tryz.ntmps66
 go_wp2_with fail
 refine (yq2 base gb dv b c.e (c.a == 5) _ (HV.out.below (by repeat (first | with_reducible exact bR | with_reducible refine yaa ?_ _))) hn (by simp only [World.size_alloc];have:=HBS.out;omega) D HD X HX B' hB' L hL).mono ?_;rintro _ w2 ⟨dv2,rfl,hv2,hs2⟩;have HV2:=lh hv2;have HBX:Hid (Blk w2 w.heap.size 48 [iV c.a,iV c.b,iV c.c,iV c.d,iV c.e]):=((yae w _ _ _ rfl).below (yaa bR _)).keep hs2.keep (fun hm=>by have:=hLl.out _ hm;omega);have HBE:Hid (Blk w2 (w.heap.size+1) 150 [iZ,iZ,iZ,iZ,iZ]):=(ybc _ _ _ _ (World.size_alloc _ _)).keep hs2.keep (fun hm=>by have:=hLl.out _ hm;omega);have HS2:Hid (DStp base L w w2):=⟨(((Below.refl base w).alloc HBS.out _).alloc (by rw [World.size_alloc];have:=HBS.out;omega) _).trans hs2.below,(((yab.refl _ _).alloc _).alloc _).trans hs2.keep (fun x hx=>.inl hx)⟩;have HSZ:Hid (w.heap.size+1<w2.heap.size):=HBE.out.lt;clear hv2 hs2;have c0:=HBX.out.cell 0;simp only [gz,gs] at c0;obtain ⟨r0,r1,r2,r3,r4,-⟩:=HBE.out.cs [0,1,2,3,4];simp only [gz,gs] at r0 r1 r2 r3 r4;obtain ⟨rf0,rf1,rf2,rf3,rf4,-⟩:=HBE.out.fs [0,1,2,3,4];have kx:=HBX.out.lt;have ke:=HBE.out.lt
 by_cases hX0:X=0
 ·subst hX0
  have hz:¬((0:Int)≠0):=by simp
  by_cases h6:c.a=6
  ·obtain rfl:(⟨0,0,0,0,0⟩:R5)=x:= by
    have h9:=HX2.out;rw [if_neg hz,if_pos h6] at h9;exact h9
   obtain rfl:0=E:= by
    have h9:=HE2.out;rw [if_neg hz,if_pos h6] at h9;exact h9
   have h6':(c.a == 6)=true:=by simpa using h6
   clear h6 hz HX HE2 HX2 HD hB'
   go_wp2_with fail
   have hf:=(((((HBE.out.set 0 (iZ)).set 1 (iZ)).set 2 (iZ)).set 3 (iZ)).set 4 (iZ)).below (yaa bR (.cells #[iV D.a,iV D.b,iV D.c,iV D.d,iV D.e] 155));have q0:World.cell? _ (Ad (w.heap.size+1) 0)=some (iZ):=hf.cell 0;have q1:World.cell? _ (Ad (w.heap.size+1) 1)=some (iZ):=hf.cell 1;have q2:World.cell? _ (Ad (w.heap.size+1) 2)=some (iZ):=hf.cell 2;have q3:World.cell? _ (Ad (w.heap.size+1) 3)=some (iZ):=hf.cell 3;have q4:World.cell? _ (Ad (w.heap.size+1) 4)=some (iZ):=hf.cell 4;refine bodyPost_ret (v:=.tuple #[.agg #[iZ,iZ,iZ,iZ,iZ],iZ]) (by simp [results,Tryz.results66,go_sem,q0,q1,q2,q3,q4]) rfl ⟨dv2,rfl,ycf (by repeat (first | with_reducible exact yab.refl _ _ | with_reducible exact HK3.out | with_reducible refine yab.alloc ?_ _ | with_reducible refine yab.drew ?_ | with_reducible refine yab.setCell ?_ (.inl (List.mem_cons_self ..)) _)) HV2.out HS2.out HBE.out HBS.out (hLl.out _ hL.out.1)⟩
  ·have h6':(c.a == 6)=false:=by simpa using h6
   obtain ⟨od,hod⟩:∃od,decide (oldS A D.c)=od:=⟨_,rfl⟩
   have HOD:Hid (od=true↔oldS A D.c):= by
    show _↔_;rw [<-hod];exact decide_eq_true_iff
   clear hod;have H6:=lh h6;have HZ:=lh hz;clear h6 hz
   go_wp2_with fail
   refine (yk7 lo g A F V D.c od HOD _ (h.out _ (HS2.out.below.alloc (Nat.le_trans HBS.out HS2.out.keep.size) _))).mono ?_;rintro _ w3 ⟨rfl,hb3⟩;have HD3:Hid (Blk w3 w2.heap.size 155 [iV D.a,iV D.b,iV D.c,iV D.d,iV D.e]):=(yae w2 _ _ _ rfl).below hb3;have HBE3:=(HBE.out.below (yaa bR _)).below hb3;have HK3:Hid (yab [w.heap.size+1] w2 w3):=((yab.refl _ _).alloc _).below hb3;clear hb3 r0 r1 r2 r3 r4 rf0 rf1 rf2 rf3 rf4 c0 kx ke;obtain ⟨d0,d1,d2,d3,-⟩:=HD3.out.cs [0,1,2,3];simp only [gz,gs] at d0 d1 d2 d3;obtain ⟨r0,r1,r2,r3,r4,-⟩:=HBE3.cs [0,1,2,3,4];simp only [gz,gs] at r0 r1 r2 r3 r4;obtain ⟨rf0,rf1,rf2,rf3,rf4,-⟩:=HBE3.fs [0,1,2,3,4];have kd:=HD3.out.lt;have ke:=HBE3.lt;clear HBE3;cases od with
   | true =>
    obtain rfl:(⟨0,0,0,0,0⟩:R5)=x:= by
     have h9:=HX2.out;rw [if_neg HZ.out,if_neg H6.out,if_pos (HOD.out.1 rfl)] at h9;exact h9
    obtain rfl:11=E:= by
     have h9:=HE2.out;rw [if_neg HZ.out,if_neg H6.out,if_pos (HOD.out.1 rfl)] at h9;exact h9
    go_wp2_with fail
    refine bodyPost_ret (v:=.tuple #[.agg #[iZ,iZ,iZ,iZ,iZ],iV 11]) (by simp [results,Tryz.results66,go_sem,r0,r1,r2,r3,r4]) rfl ⟨dv2,rfl,ycf (by repeat (first | with_reducible exact yab.refl _ _ | with_reducible exact HK3.out | with_reducible refine yab.alloc ?_ _ | with_reducible refine yab.drew ?_ | with_reducible refine yab.setCell ?_ (.inl (List.mem_cons_self ..)) _)) HV2.out HS2.out HBE.out HBS.out (hLl.out _ hL.out.1)⟩
   | false =>
    have hno:¬oldS A D.c:=fun hh=>by have:=HOD.out.2 hh;cases this
    obtain rfl:(⟨5,D.c,D.b,D.d,D.a⟩:R5)=x:= by
     have h9:=HX2.out;rw [if_neg HZ.out,if_neg H6.out,if_neg hno] at h9;exact h9
    obtain rfl:0=E:= by
     have h9:=HE2.out;rw [if_neg HZ.out,if_neg H6.out,if_neg hno] at h9;exact h9
    go_wp2_with fail
    refine bodyPost_ret (v:=.tuple #[.agg #[iV 5,iV D.c,iV D.b,iV D.d,iV D.a],iZ]) (by simp [results,Tryz.results66,go_sem,r0,r1,r2,r3,r4]) rfl ⟨dv2,rfl,ycf (by repeat (first | with_reducible exact yab.refl _ _ | with_reducible exact HK3.out | with_reducible refine yab.alloc ?_ _ | with_reducible refine yab.drew ?_ | with_reducible refine yab.setCell ?_ (.inl (List.mem_cons_self ..)) _)) HV2.out HS2.out HBE.out HBS.out (hLl.out _ hL.out.1)⟩
 ·obtain rfl:(⟨0,0,0,0,0⟩:R5)=x:= by
   have h9:=HX2.out;rw [if_pos hX0] at h9;exact h9
  obtain rfl:X=E:= by
   have h9:=HE2.out;rw [if_pos hX0] at h9;exact h9
  have hX0':(X != 0)=true:=by simpa using hX0
  clear hX0
  go_wp2_with fail
  have hf:=(((((HBE.out.set 0 (iZ)).set 1 (iZ)).set 2 (iZ)).set 3 (iZ)).set 4 (iZ)).below (yaa bR (.cells #[iV D.a,iV D.b,iV D.c,iV D.d,iV D.e] 155));have q0:World.cell? _ (Ad (w.heap.size+1) 0)=some (iZ):=hf.cell 0;have q1:World.cell? _ (Ad (w.heap.size+1) 1)=some (iZ):=hf.cell 1;have q2:World.cell? _ (Ad (w.heap.size+1) 2)=some (iZ):=hf.cell 2;have q3:World.cell? _ (Ad (w.heap.size+1) 3)=some (iZ):=hf.cell 3;have q4:World.cell? _ (Ad (w.heap.size+1) 4)=some (iZ):=hf.cell 4;refine bodyPost_ret (v:=.tuple #[.agg #[iZ,iZ,iZ,iZ,iZ],iV X]) (by simp [results,Tryz.results66,go_sem,q0,q1,q2,q3,q4]) rfl ⟨dv2,rfl,ycf (by repeat (first | with_reducible exact yab.refl _ _ | with_reducible exact HK3.out | with_reducible refine yab.alloc ?_ _ | with_reducible refine yab.drew ?_ | with_reducible refine yab.setCell ?_ (.inl (List.mem_cons_self ..)) _)) HV2.out HS2.out HBE.out HBS.out (hLl.out _ hL.out.1)⟩
theorem yj0 {cyc day day':Int} (hd:day<=day') (k:Nat):∀f:Int,(ybd cyc day k f).1 <+: (ybd cyc day' k f).1:= by
 induction k with
 | zero=>intro f;exact List.prefix_refl _
 | succ k ih =>
  intro f
  by_cases hb:(yb8 f cyc).2=0
  ·obtain ⟨l,hl⟩:∃l,yb8 f cyc=(l,0):=⟨_,Prod.ext rfl hb⟩
   by_cases h1:l<day/\k≠0
   ·rw [ye0 hl h1.1 h1.2,ye0 hl (by have:=h1.1;omega) h1.2]
    exact List.cons_prefix_cons.2 ⟨rfl,ih _⟩
   ·rw [yez hl h1]
    by_cases h2:l<day'/\k≠0
    ·rw [ye0 hl h2.1 h2.2]
     exact List.cons_prefix_cons.2 ⟨rfl,List.nil_prefix⟩
    ·rw [yez hl h2]
     exact List.prefix_refl _
  ·rw [ye3 hb]
   exact List.nil_prefix
theorem ygq {cyc day day':Int} (hd:day<=day') (k:Nat) (f:Int):(ybd cyc day k f).1.length<=(ybd cyc day' k f).1.length:=(yj0 hd k f).length_le
theorem ynb {t:Tm} {today:Int} (hr:ye2 t today=0):∃ps,ybd t.cyc today 300 t.start=(ps,true)/\yg9 t.start today ps/\ps.length<=300/\t.start<=today/\today<=2932896/\(ofS t.start t.cyc today).2=0:= by
 unfold ye2 at hr
 split at hr
 ·cases hr
 ·split at hr
  ·cases hr
  ·rename_i h1 h2
   have h3:(ofS t.start t.cyc today).2=0:=by simpa using h2
   have h3':=h3;unfold ofS at h3
   split at h3
   ·rename_i h4;exact absurd h3 h4
   ·split at h3
    ·rename_i h5
     refine ⟨_,Prod.ext rfl h5,yik 300 (Prod.ext rfl h5),yib _ _ _ _,by omega,by omega,h3'⟩
    ·cases h3
theorem yv0 {t:Tm} {n fr til:Int} {p q:Ps} {rs ns:List Int} {g:Bool} {x:St} {e:Int} (h:ycd t n fr til p rs ns g=(some x,q,e)):x.ls.length=p.bs.length:= by
 have hl:=yls h;unfold ycd at h
 split at h
 ·cases h
 split at h
 ·cases h
 split at h
 ·cases h
 split at h
 ·cases h
 ·cases h
  rw [<-hl];exact yeh _ _ _
theorem ywj {t:Tm} {l:List R5} {fr til:Int} {s:RS} {x:St} (hx:x∈(ydn t l fr til s).1.out):x∈s.out\/x.ls.length=s.p.bs.length:= by
 unfold ydn at hx
 split at hx
 ·exact .inl hx
 ·split at hx
  ·exact .inl hx
  ·cases hc:ycd t ((s.out.length:Int)+1) fr til s.p s.rs (intS t.right t.ts s.X s.Y (yet l s.out fr).1).1 (yet l s.out fr).1 with
   | mk so r =>
    obtain ⟨q,e⟩:=r;rw [hc] at hx;cases so with
    | none=>exact .inl hx
    | some y =>
     simp only [List.mem_append,ms] at hx;rcases hx with hx | rfl
     ·exact .inl hx
     ·exact .inr (yv0 hc)
theorem yfj {t:Tm} {l:List R5} {ps:List (Int×Int)} {f day today:Int} {s:RS} (h:WInv t l ps day s) (hc:yg9 f today ps) (hd:day<today) (hl:∀x∈s.out,x.ls.length<=t.ts.length) (h0:(ybb t l ps day s).2=0) :
 WInv t l ps (day+1) (ybb t l ps day s).1/\∀x∈(ybb t l ps day s).1.out,x.ls.length<=t.ts.length:= by
 unfold ybb at h0 ⊢
 split
 ·rename_i he
  rw [if_pos he] at h0;refine ⟨h.endShut hc hd he _ h0,fun x hx=>?_⟩;rcases ywj hx with h1 | h1
  ·exact hl x h1
  ·rw [h1];exact Nat.le_of_eq h.bs
 ·rename_i hne
  exact ⟨h.endOn hne,fun x hx=>hl x hx⟩
theorem yv8 {t:Tm} {l:List R5} {ps:List (Int×Int)} {f today:Int} (hc:yg9 f today ps) (k:Nat):∀(day:Int) (s:RS),WInv t l ps day s->day+(k:Int)=today->(∀x∈s.out,x.ls.length<=t.ts.length)->(ycm t l ps k day s).2=0 ->
 WInv t l ps today (ycm t l ps k day s).1/\∀x∈(ycm t l ps k day s).1.out,x.ls.length<=t.ts.length:= by
 induction k with
 | zero =>
  intro day s h hd hl h0;obtain rfl:day=today:=by simpa using hd
  exact ⟨h.ev,fun x hx=>hl x hx⟩
 | succ k ih =>
  intro day s h hd hl h0;unfold ycm at h0 ⊢
  split
  ·rename_i h1;rw [if_pos h1] at h0;exact absurd h0 h1
  ·rename_i h1
   rw [if_neg h1] at h0
   split
   ·rename_i h2;rw [if_pos h2] at h0;exact absurd h0 h2
   ·rename_i h2
    rw [if_neg h2] at h0;have h3:(ybb t l ps day (ybh l day s).1).2=0:=by simpa using h2
    obtain ⟨h4,h5⟩:=yfj h.ev hc om (fun x hx=>hl x hx) h3;exact ih _ _ h4 om h5 h0
theorem jar (e:Int):(rn0 e).e=e:=rfl
theorem ywf {t:Tm} {l:List R5} {today:Int} (h:(runS t l today).e=0):yiz t l today=0/\(goS t l today).2=0/\runS t l today=⟨(goS t l today).1.p,(goS t l today).1.rs,(goS t l today).1.out,0⟩:= by
 by_cases h1:yiz t l today=0
 ·by_cases h2:(goS t l today).2=0
  ·refine ⟨h1,h2,?_⟩
   unfold runS;rw [if_neg (by rw [h1];simp),if_neg (by rw [h2];simp)]
  ·unfold runS at h
   rw [if_neg (by rw [h1];simp),if_pos h2,jar] at h;exact absurd h h2
 ·unfold runS at h
  rw [if_pos h1,jar] at h;exact absurd h h1
structure yqw (t:Tm) (l:List R5) (today:Int) (ps:List (Int×Int)):Prop where
 go:(goS t l today).2=0
 eq:runS t l today=⟨(goS t l today).1.p,(goS t l today).1.rs,(goS t l today).1.out,0⟩
 sp:ybd t.cyc today 300 t.start=(ps,true)
 ch:yg9 t.start today ps
 len:ps.length<=300
 lo:t.start<=today
 hi:today<=2932896
 of':(ofS t.start t.cyc today).2=0
 inv:WInv t l ps today (goS t l today).1
 ls:∀x∈(goS t l today).1.out,x.ls.length<=t.ts.length
theorem yfx {t:Tm} {l:List R5} {today:Int} (hg:yha t l today) (h:(runS t l today).e=0):∃ps,yqw t l today ps:= by
 obtain ⟨h1,h2,h3⟩:=ywf h;rw [ygz hg] at h1;obtain ⟨ps,a1,a2,a3,a4,a5,a6⟩:=ynb h1;have hgo:goS t l today=ycm t l ps (today-t.start).toNat t.start (rs0 t):=by unfold goS;rw [a1]
 have h2':=h2;rw [hgo] at h2';obtain ⟨b1,b2⟩:=yv8 a2 (today-t.start).toNat t.start (rs0 t) (WInv.first a2) om (by simp [rs0]) h2';rw [<-hgo] at b1 b2;exact ⟨ps,h2,h3,a1,a2,a3,a4,a5,a6,b1,b2⟩
theorem yqw.out {t:Tm} {l:List R5} {today:Int} {ps:List (Int×Int)} (h:yqw t l today ps):(runS t l today).out.length+1=ps.length:= by
 rw [h.eq];have h1:=h.inv.out;have h2:=h.inv.hi;rcases Nat.lt_or_ge ((goS t l today).1.out.length+1) ps.length with h3 | h3
 ·have:=h.ch.early _ h3
  omega
 ·show (goS t l today).1.out.length+1=ps.length
  omega
theorem yqw.bs {t:Tm} {l:List R5} {today:Int} {ps:List (Int×Int)} (h:yqw t l today ps):(runS t l today).p.bs.length=t.ts.length/\(runS t l today).rs.length=t.ts.length:= by
 rw [h.eq];exact ⟨h.inv.bs,h.inv.rs⟩
theorem yqw.outb {t:Tm} {l:List R5} {today:Int} {ps:List (Int×Int)} (h:yqw t l today ps):∀x∈(runS t l today).out,x.ls.length<=t.ts.length:= by
 rw [h.eq];exact h.ls
theorem yjk {l:List St} {i:Nat} (h:i<l.length):l.getD i St0∈l:= by
 simp only [List.getD,List.getElem?_eq_getElem h,Option.getD_some];exact List.getElem_mem h
end Go.Proofs.YtkongpjpkpfniaaGreat

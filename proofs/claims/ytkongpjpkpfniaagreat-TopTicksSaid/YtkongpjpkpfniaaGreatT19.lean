/- TopTicks: parts of the proof, made small by a program (mini.py). -/
import Derived.Test.YtkongpjpkpfniaaGreatT01
import Derived.Test.YtkongpjpkpfniaaGreatT10
import Derived.Test.YtkongpjpkpfniaaGreatT17
import Derived.Test.YtkongpjpkpfniaaGreatT18
set_option linter.unusedVariables false
set_option linter.unusedSimpArgs false
set_option maxRecDepth 100000
set_option maxHeartbeats 6400000
namespace Go.Proofs.YtkongpjpkpfniaaGreat
open Go.RowKit
theorem zq193bfd {q:Prop} (h:q:= by
 refine ⟨fun b o n c e hn=>?_,fun b o n c e hn=>?_⟩
 ·have h1:=HF1.out b o n c e hn
  simp only [World.size_drew,World.size_alloc] at h1;omega
 ·have h1:=HF2.out b o n c e hn
  simp only [World.size_drew,World.size_alloc] at h1;omega):q:=h
theorem zq1959e4 {q:Prop} (h:q:= by
 have k1:=HL6.out;have k2:=HV6.out;have f1:=HF1.out;have f2:=HF2.out;refine ⟨fun b o n c e hn hm=>?_,fun b o n c e hn hm=>?_⟩
 ·have h1:=f1 b o n c e hn
  rw [e] at k1;have h2:=k1.blt hn;simp only [World.size_drew,World.size_alloc] at h1;simp only [List.mem_cons,List.not_mem_nil,or_false] at hm;omega
 ·have h1:=f2 b o n c e hn
  rw [e] at k2;have h2:=k2.blt hn;simp only [World.size_drew,World.size_alloc] at h1;simp only [List.mem_cons,List.not_mem_nil,or_false] at hm;omega):q:=h
section
theorem yq1 (w:World):(binOp BinOp.neq 131 Value.nilFunc Value.nilFunc).run Tryz.prog w=.ok (.bool false) w:=by kernel_rfl
attribute [local go_sem] yq1
theorem yyd (lo g:Nat) (t:Tm) (l:List R5) (day:Int) (s:RS) (F:List Nat) (V:RV) (fr til:Int) (n:Nat) (hts:t.ts.length=n) (hn:n<=1000) (hXl:s.X.length=n) (hYl:s.Y.length=n) (hol:s.out.length<=1000) (R:RS×Int) (hR:Hid (ydn t l fr til s=R)) (w:World) (h:yb2 lo g t l day s F w V) :
 Calls Tryz.prog 92 #[pV g,.agg #[iV fr,iV til]] w (yv7 (iV R.2) lo g t l day R.1 F w):= by
 have H0:=lh h;obtain ⟨fb,fe,hf⟩:∃fb fe,yet l s.out fr=(fb,fe):=⟨_,_,rfl⟩;have HF:=lh hf;have HLL:=lh (And.intro hts (And.intro hn (And.intro hXl (And.intro hYl hol))));have HBS:Hid (Blk (w.alloc (.cells #[iV fr,iV til] 40)) w.heap.size 40 [iV fr,iV til]):=yae w _ _ _ rfl;clear h hf hts hn hXl hYl
 go_enter Tryz.func92,Tryz.ntmps92
 go_wp2_with fail
 refine (yx5 lo g t l day s F V fr til fb fe HF hol _ (H0.out.below (yaa bR _))).mono ?_;rintro _ w2 ⟨rfl,hb2⟩;have HB2:Hid (BW w w2):=yad (yaa bR _) hb2;have HS2:=lh (HBS.out.below hb2);have H2:=lh (H0.out.below HB2.out);clear hb2 hol HBS
 by_cases hfe:fe=0
 ·subst hfe
  obtain ⟨nr,ie,hi⟩:∃nr ie,intS t.right t.ts s.X s.Y fb=(nr,ie):=⟨_,_,rfl⟩;have HI:=lh hi;clear hi;obtain ⟨tv,lv,pv,rv,xv,yv,ov,bx,bz,xs,ys,vs⟩:=V;obtain ⟨lim,ts,cyc,dued,minf,minp,start⟩:=t
  obtain ⟨ex,ey⟩:xv=sL bx 0 n n/\yv=sL bz 0 n n:= by
   have h1:=H2.out.X.val;have h2:=H2.out.Y.val;simp only at h1 h2;rw [HLL.out.2.2.1] at h1;rw [HLL.out.2.2.2.1] at h2;exact ⟨h1,h2⟩
  subst ex ey;obtain ⟨tao,tc,rfl⟩:=H2.out.rd.now.1.shape;obtain ⟨po,pc,rfl⟩:=H2.out.rd.now.2.2.1.shape;obtain ⟨ro,rc,rfl⟩:=H2.out.rd.now.2.2.2.1.shape;obtain ⟨oo,oc,rfl⟩:=H2.out.sts.shape;have HB:Hid (Blk w2 g 181 [iV lim,.slice tao ts.length tc,iV cyc,iV dued,iV minf,iV minp,iV start,lv,iV (s.at':Int),iV day,.slice po s.p.bs.length pc,iV s.p.c,iV s.p.d,.slice ro s.rs.length rc,sL bx 0 n n,sL bz 0 n n,.slice oo s.out.length oc,.nilFunc,.nilFunc,.nilFunc]):=H2.out.blk;have kg:=HB.out.lt
  have HS4:Hid (∀W',BW w2 W'->Ce W' g 0 (iV lim)/\Ce W' g 1 (.slice tao ts.length tc)/\Ce W' g 2 (iV cyc)/\Ce W' g 3 (iV dued)/\Ce W' g 4 (iV minf)/\Ce W' g 5 (iV minp)/\Ce W' g 6 (iV start)/\Ce W' g 14 (sL bx 0 n n)/\Ce W' g 15 (sL bz 0 n n)):=fun W' hb=>by
   have q:=HB.out.below hb;exact ⟨q.cell 0,q.cell 1,q.cell 2,q.cell 3,q.cell 4,q.cell 5,q.cell 6,q.cell 14,q.cell 15⟩
  have hs2:=HS4.out w2 bR;have hsd:=HS4.out w2.drew (yaf bR);go_upto_region 4 with fail
  go_region_held3 (fun W'=>Ce W' g 0 (iV lim)/\Ce W' g 1 (.slice tao ts.length tc)/\Ce W' g 2 (iV cyc)/\Ce W' g 3 (iV dued)/\Ce W' g 4 (iV minf)/\Ce W' g 5 (iV minp)/\Ce W' g 6 (iV start)/\Ce W' g 14 (sL bx 0 n n)/\Ce W' g 15 (sL bz 0 n n)) (first | with_reducible exact hs2 | with_reducible exact hsd | exact HS5.out) (first | (go_at_call 140;refine (yqm _ ts lim cyc dued minf minp start _ _ s.X s.Y fb (nr,ie) HI _ (H2.out.rd.now.1.below (by first | exact bR | exact yaf bR)) ((H2.out.X.rows' (by rw [HLL.out.2.2.1];exact HLL.out.2.1)).below (by first | exact bR | exact yaf bR)) ((H2.out.Y.rows' (by rw [HLL.out.2.2.2.1];exact HLL.out.2.1)).below (by first | exact bR | exact yaf bR))).mono ?_;rintro _ w5 ⟨iv,rfl,hiv,hb5⟩;have HIV:=lh hiv;have HB5:Hid (BW w2 w5):=(by first | exact hb5 | exact yad (yaf bR) hb5);have HS5:=lh (HS4.out _ HB5.out);clear hb5 hiv))
  by_cases hie:ie=0
  ·subst hie
   obtain ⟨so,q,e,hc⟩:∃so q e,ycd ⟨lim,ts,cyc,dued,minf,minp,start⟩ ((s.out.length:Int)+1) fr til s.p s.rs nr fb=(so,q,e):=⟨_,_,_,rfl⟩;have HC:=lh hc;obtain ⟨x,hx⟩:∃x,stOr so=x:=⟨_,rfl⟩;have HX:=lh hx;clear hc hx;have HB5':=lh (HB.out.below HB5.out);have HSP5:=lh (HS2.out.below HB5.out);have kg5:=HB5'.out.lt;have hol:=HLL.out.2.2.2.2
   have HS7:Hid (∀W',BW w5 W'->Ce W' g 0 (iV lim)/\Ce W' g 1 (.slice tao ts.length tc)/\Ce W' g 2 (iV cyc)/\Ce W' g 3 (iV dued)/\Ce W' g 4 (iV minf)/\Ce W' g 5 (iV minp)/\Ce W' g 6 (iV start)/\Ce W' g 16 (.slice oo s.out.length oc)/\(Ce W' g 10 (.slice po s.p.bs.length pc)/\Ce W' g 11 (iV s.p.c)/\Ce W' g 12 (iV s.p.d))/\Ce W' g 13 (.slice ro s.rs.length rc)/\Ce W' w.heap.size 0 (iV fr)/\Ce W' w.heap.size 1 (iV til)):=fun W' hb=>by
    have q:=HB5'.out.below hb;have r:=HSP5.out.below hb;exact ⟨q.cell 0,q.cell 1,q.cell 2,q.cell 3,q.cell 4,q.cell 5,q.cell 6,q.cell 16,⟨q.cell 10,q.cell 11,q.cell 12⟩,q.cell 13,r.cell 0,r.cell 1⟩
   have hs5:=HS7.out w5 bR;clear hs2 hsd;go_upto_region 7 with fail
   have hsd:=HS7.out w5.drew (yaf bR);have hw1:IntKind.i64.wrap ((s.out.length:Int)+1)=(s.out.length:Int)+1:=IntWalk.i64_in _ ⟨by omega,by omega⟩
   go_cut [6,8,9] (fun e6 s8 s9 wx=>∃b8 b9 lv' bv',e6=iV e/\s8=pV b8/\s9=pV b9/\Hid (Blk wx b8 43 (ycb x lv')/\Blk wx b9 35 [bv',iV q.c,iV q.d]/\LnS wx lv' x.ls/\Sl .i64 wx bv' q.bs)/\Hid (b8≠b9/\w5.heap.size<=b8/\w5.heap.size<=b9/\Fr w5 lv'/\Fr w5 bv')/\Hid (BW w5 wx))
   case first =>
    have HRD:Hid (∀W',BW w5 W'->TrS W' (.slice tao ts.length tc) ts/\Sl .i64 W' (.slice po s.p.bs.length pc) s.p.bs/\Sl .i64 W' (.slice ro s.rs.length rc) s.rs/\Sl .i64 W' iv nr):=fun W' hb=>by
     have k:=(H2.out.below HB5.out).rd.now;exact ⟨k.1.below hb,k.2.2.1.below hb,k.2.2.2.1.below hb,HIV.out.below hb⟩
    refine yan (fun W'=>Ce W' g 0 (iV lim)/\Ce W' g 1 (.slice tao ts.length tc)/\Ce W' g 2 (iV cyc)/\Ce W' g 3 (iV dued)/\Ce W' g 4 (iV minf)/\Ce W' g 5 (iV minp)/\Ce W' g 6 (iV start)/\Ce W' g 16 (.slice oo s.out.length oc)/\(Ce W' g 10 (.slice po s.p.bs.length pc)/\Ce W' g 11 (iV s.p.c)/\Ce W' g 12 (iV s.p.d))/\Ce W' g 13 (.slice ro s.rs.length rc)/\Ce W' w.heap.size 0 (iV fr)/\Ce W' w.heap.size 1 (iV til)) 28 kr ?_;refine tK 0 rfl ?_;refine tK 1 rfl ?_;refine tK 2 rfl ?_;refine tK 3 rfl ?_;refine tK 4 rfl ?_;refine tK 5 rfl ?_;refine tK 6 rfl ?_;refine tK 7 rfl ?_;refine tK 8 rfl ?_;refine tK 9 rfl ?_;refine tK 10 rfl ?_;refine tK 11 rfl ?_;refine tK 12 rfl ?_;refine tK 13 rfl ?_;refine tK 14 rfl ?_;refine tK 15 rfl ?_;refine tK 16 rfl ?_;refine tK 17 rfl ?_;refine tK 18 rfl ?_;refine tK 19 rfl ?_;refine tK 20 rfl ?_;refine ybo (rs:=[21,26,27]) kr (by simp) ?_;refine (yam.cons (o:=⟨_,_,_,_,_,_⟩) rfl (fun K hK=>?_) (yam.cons (o:=⟨_,_,_,_,_,_⟩) rfl (fun K hK=>?_) (yam.cons (o:=⟨_,_,_,_,_,_⟩) rfl (fun K hK=>?_) yam.nil)))
    ·go_simp
     refine (ye1 ⟨lim,ts,cyc,dued,minf,minp,start⟩ _ _ fr til s.p _ _ iv s.rs nr fb (by simp only;rw [HLL.out.1];exact HLL.out.2.1) so q e HC x HX _ (HRD.out _ bM).1 (HRD.out _ bM).2.1 (HRD.out _ bM).2.2.1 (HRD.out _ bM).2.2.2).mono ?_;rintro _ w6 ⟨lv',bv',rfl,hl',hb',⟨hf1,hf2⟩,hb6⟩;obtain ⟨la,lc',rfl⟩:=hl'.shape;obtain ⟨ba,bc',rfl⟩:=hb'.shape;have HL6:=lh hl';have HV6:=lh hb';have HF1:=lh hf1;have HF2:=lh hf2;have HB60:=lh hb6;have HB6:Hid (BW w5 w6):=yad bM hb6;clear hl' hb' hf1 hf2 hb6;have hs6:=HS7.out w6 HB6.out;refine hK.out _ _ (fun hun=>hs6) ?_;clear hK K;try simp only [ap,aq,sa,sb,sc]
     refine tF 22 rfl ?_ (hS:=hs6);refine tF 23 rfl ?_ (hS:=hs6);refine tF 24 rfl ?_ (hS:=hs6);refine tF 25 rfl ?_ (hS:=hs6);refine ybo (rs:=[26,27]) kr (by simp) ?_;refine (yam.cons (o:=⟨_,_,_,_,_,_⟩) rfl (fun K hK=>?_) (yam.cons (o:=⟨_,_,_,_,_,_⟩) rfl (fun K hK=>?_) yam.nil))
     ·go_simp
      refine hK.out _ _ (fun hun=>HS7.out _ bM) ?_;clear hK K;try simp only [ap,aq,sa,sb,sc]
      refine wo 27 kr rfl fun K hK=>?_;go_simp;refine hK.out _ _ (fun hun=>HS7.out _ bM) ?_;clear hK K;try simp only [ap,aq,sa,sb,sc]
      obtain ⟨U,hU,UB8,UB9,UNE,ULV,UBL⟩:∃U,((w6.alloc (.cells #[iZ,iZ,iZ,iZ,sZ,iZ,iZ,iZ,.bool false] 43)).alloc (.cells #[sZ,iZ,iZ] 35))=U/\Hid (Blk U (w6.heap.size) 43 [iZ,iZ,iZ,iZ,sZ,iZ,iZ,iZ,.bool false])/\Hid (Blk U (w6.heap.size+1) 35 [sZ,iZ,iZ])/\Hid ((w6.heap.size)≠(w6.heap.size+1)/\w5.heap.size<=(w6.heap.size)/\w5.heap.size<=(w6.heap.size+1))/\Hid (LnS U (.slice la x.ls.length lc') x.ls/\Sl .i64 U (.slice ba q.bs.length bc') q.bs)/\Hid (BW w5 U) :=
       ⟨_,rfl,(Blk.below (yae w6 _ _ _ rfl) (yaa bR _)),(yae (w6.alloc _) _ _ _ (by simp)),⟨by have:=HB6.out.size;have:=HB60.out.size;simp only [World.size_drew,World.size_alloc] at this;omega,by have:=HB6.out.size;omega,by have:=HB6.out.size;omega⟩,⟨HL6.out.below ((yaa ((yaa bR _)) _)),HV6.out.below ((yaa ((yaa bR _)) _))⟩,(yaa (yaa HB6.out _) _)⟩
      have UOF:Hid (OffF [(w6.heap.size),(w6.heap.size+1)] (.slice la x.ls.length lc')/\OffF [(w6.heap.size),(w6.heap.size+1)] (.slice ba q.bs.length bc')):= by
       exact zq1959e4
      have UFR:Hid (Fr w5 (.slice la x.ls.length lc')/\Fr w5 (.slice ba q.bs.length bc')):= by
       exact zq193bfd
      with_reducible rw [hU]
      clear hU;obtain ⟨c0,c1,c2,c3,c4,c5,c6,c7,c8,-⟩:=UB8.out.cs [0,1,2,3,4,5,6,7,8];simp only [gz,gs] at c0 c1 c2 c3 c4 c5 c6 c7 c8;obtain ⟨cf0,cf1,cf2,cf3,cf4,cf5,cf6,cf7,cf8,-⟩:=UB8.out.fs [0,1,2,3,4,5,6,7,8];obtain ⟨d0,d1,d2,-⟩:=UB9.out.cs [0,1,2];simp only [gz,gs] at d0 d1 d2;obtain ⟨df0,df1,df2,-⟩:=UB9.out.fs [0,1,2];have hlt8:=UB8.out.lt;have hlt9:=UB9.out.lt;have hne:=UNE.out.1;have hne':=hne.symm;refine wo 28 kr rfl fun K hK=>?_;go_simp;refine hK.out _ _ kd ?_;clear hK K;try simp only [ap,aq,sa,sb,sc]
      refine wo 29 kr rfl fun K hK=>?_;go_simp;refine hK.out _ _ kd ?_;clear hK K;try simp only [ap,aq,sa,sb,sc]
      refine wo 30 kr rfl fun K hK=>?_;go_simp;refine hK.out _ _ kd ?_;clear hK K;try simp only [ap,aq,sa,sb,sc]
      clear c0 c1 c2 c3 c4 c5 c6 c7 c8 cf0 cf1 cf2 cf3 cf4 cf5 cf6 cf7 cf8 d0 d1 d2 df0 df1 df2 hne hne';refine yal kr ?_ _
      go_wp2_with fail
      go_meet
      case rel=>exact ⟨(w6.heap.size),(w6.heap.size+1),_,_,rfl,rfl,rfl,⟨((((((((((((UB8.out.set 0 _).set 1 _).set 2 _).set 3 _).set 4 _).set 5 _).set 6 _).set 7 _).set 8 _).setOther UNE.out.1 0 _).setOther UNE.out.1 1 _).setOther UNE.out.1 2 _),((((((((((((UB9.out.setOther (Ne.symm UNE.out.1) 0 _).setOther (Ne.symm UNE.out.1) 1 _).setOther (Ne.symm UNE.out.1) 2 _).setOther (Ne.symm UNE.out.1) 3 _).setOther (Ne.symm UNE.out.1) 4 _).setOther (Ne.symm UNE.out.1) 5 _).setOther (Ne.symm UNE.out.1) 6 _).setOther (Ne.symm UNE.out.1) 7 _).setOther (Ne.symm UNE.out.1) 8 _).set 0 _).set 1 _).set 2 _),LnS.keep (F:=[(w6.heap.size),(w6.heap.size+1)]) ULV.out.1 ((((((((((((((yab.refl _ _).sg _).sg _).sg _).sg _).sg _).sg _).sg _).sg _).sg _).setCell (.inl (List.mem_cons_of_mem _ (List.mem_cons_self ..))) _).setCell (.inl (List.mem_cons_of_mem _ (List.mem_cons_self ..))) _).setCell (.inl (List.mem_cons_of_mem _ (List.mem_cons_self ..))) _)) UOF.out.1,Sl.keep (F:=[(w6.heap.size),(w6.heap.size+1)]) ULV.out.2 ((((((((((((((yab.refl _ _).sg _).sg _).sg _).sg _).sg _).sg _).sg _).sg _).sg _).setCell (.inl (List.mem_cons_of_mem _ (List.mem_cons_self ..))) _).setCell (.inl (List.mem_cons_of_mem _ (List.mem_cons_self ..))) _).setCell (.inl (List.mem_cons_of_mem _ (List.mem_cons_self ..))) _)) UOF.out.2⟩,⟨UNE.out.1,UNE.out.2.1,UNE.out.2.2,UFR.out.1,UFR.out.2⟩,(yao (yao (yao (yao (yao (yao (yao (yao (yao (yao (yao (yao UBL.out UNE.out.2.1) UNE.out.2.1) UNE.out.2.1) UNE.out.2.1) UNE.out.2.1) UNE.out.2.1) UNE.out.2.1) UNE.out.2.1) UNE.out.2.1) UNE.out.2.2) UNE.out.2.2) UNE.out.2.2)⟩
     ·go_simp
      refine hK.out _ _ (fun hun=>HS7.out _ bM) ?_;clear hK K;try simp only [ap,aq,sa,sb,sc]
      refine wo 26 kr rfl fun K hK=>?_;go_simp;refine hK.out _ _ (fun hun=>HS7.out _ bM) ?_;clear hK K;try simp only [ap,aq,sa,sb,sc]
      obtain ⟨U,hU,UB8,UB9,UNE,ULV,UBL⟩:∃U,((w6.alloc (.cells #[sZ,iZ,iZ] 35)).alloc (.cells #[iZ,iZ,iZ,iZ,sZ,iZ,iZ,iZ,.bool false] 43))=U/\Hid (Blk U (w6.heap.size+1) 43 [iZ,iZ,iZ,iZ,sZ,iZ,iZ,iZ,.bool false])/\Hid (Blk U (w6.heap.size) 35 [sZ,iZ,iZ])/\Hid ((w6.heap.size+1)≠(w6.heap.size)/\w5.heap.size<=(w6.heap.size+1)/\w5.heap.size<=(w6.heap.size))/\Hid (LnS U (.slice la x.ls.length lc') x.ls/\Sl .i64 U (.slice ba q.bs.length bc') q.bs)/\Hid (BW w5 U) :=
       ⟨_,rfl,(yae (w6.alloc _) _ _ _ (by simp)),(Blk.below (yae w6 _ _ _ rfl) (yaa bR _)),⟨by have:=HB6.out.size;have:=HB60.out.size;simp only [World.size_drew,World.size_alloc] at this;omega,by have:=HB6.out.size;omega,by have:=HB6.out.size;omega⟩,⟨HL6.out.below ((yaa ((yaa bR _)) _)),HV6.out.below ((yaa ((yaa bR _)) _))⟩,(yaa (yaa HB6.out _) _)⟩
      have UOF:Hid (OffF [(w6.heap.size+1),(w6.heap.size)] (.slice la x.ls.length lc')/\OffF [(w6.heap.size+1),(w6.heap.size)] (.slice ba q.bs.length bc')):= by
       exact zq1959e4
      have UFR:Hid (Fr w5 (.slice la x.ls.length lc')/\Fr w5 (.slice ba q.bs.length bc')):= by
       exact zq193bfd
      with_reducible rw [hU]
      clear hU;obtain ⟨c0,c1,c2,c3,c4,c5,c6,c7,c8,-⟩:=UB8.out.cs [0,1,2,3,4,5,6,7,8];simp only [gz,gs] at c0 c1 c2 c3 c4 c5 c6 c7 c8;obtain ⟨cf0,cf1,cf2,cf3,cf4,cf5,cf6,cf7,cf8,-⟩:=UB8.out.fs [0,1,2,3,4,5,6,7,8];obtain ⟨d0,d1,d2,-⟩:=UB9.out.cs [0,1,2];simp only [gz,gs] at d0 d1 d2;obtain ⟨df0,df1,df2,-⟩:=UB9.out.fs [0,1,2];have hlt8:=UB8.out.lt;have hlt9:=UB9.out.lt;have hne:=UNE.out.1;have hne':=hne.symm;refine wo 28 kr rfl fun K hK=>?_;go_simp;refine hK.out _ _ kd ?_;clear hK K;try simp only [ap,aq,sa,sb,sc]
      refine wo 29 kr rfl fun K hK=>?_;go_simp;refine hK.out _ _ kd ?_;clear hK K;try simp only [ap,aq,sa,sb,sc]
      refine wo 30 kr rfl fun K hK=>?_;go_simp;refine hK.out _ _ kd ?_;clear hK K;try simp only [ap,aq,sa,sb,sc]
      clear c0 c1 c2 c3 c4 c5 c6 c7 c8 cf0 cf1 cf2 cf3 cf4 cf5 cf6 cf7 cf8 d0 d1 d2 df0 df1 df2 hne hne';refine yal kr ?_ _
      go_wp2_with fail
      go_meet
      case rel=>exact ⟨(w6.heap.size+1),(w6.heap.size),_,_,rfl,rfl,rfl,⟨((((((((((((UB8.out.set 0 _).set 1 _).set 2 _).set 3 _).set 4 _).set 5 _).set 6 _).set 7 _).set 8 _).setOther UNE.out.1 0 _).setOther UNE.out.1 1 _).setOther UNE.out.1 2 _),((((((((((((UB9.out.setOther (Ne.symm UNE.out.1) 0 _).setOther (Ne.symm UNE.out.1) 1 _).setOther (Ne.symm UNE.out.1) 2 _).setOther (Ne.symm UNE.out.1) 3 _).setOther (Ne.symm UNE.out.1) 4 _).setOther (Ne.symm UNE.out.1) 5 _).setOther (Ne.symm UNE.out.1) 6 _).setOther (Ne.symm UNE.out.1) 7 _).setOther (Ne.symm UNE.out.1) 8 _).set 0 _).set 1 _).set 2 _),LnS.keep (F:=[(w6.heap.size+1),(w6.heap.size)]) ULV.out.1 ((((((((((((((yab.refl _ _).sg _).sg _).sg _).sg _).sg _).sg _).sg _).sg _).sg _).setCell (.inl (List.mem_cons_of_mem _ (List.mem_cons_self ..))) _).setCell (.inl (List.mem_cons_of_mem _ (List.mem_cons_self ..))) _).setCell (.inl (List.mem_cons_of_mem _ (List.mem_cons_self ..))) _)) UOF.out.1,Sl.keep (F:=[(w6.heap.size+1),(w6.heap.size)]) ULV.out.2 ((((((((((((((yab.refl _ _).sg _).sg _).sg _).sg _).sg _).sg _).sg _).sg _).sg _).setCell (.inl (List.mem_cons_of_mem _ (List.mem_cons_self ..))) _).setCell (.inl (List.mem_cons_of_mem _ (List.mem_cons_self ..))) _).setCell (.inl (List.mem_cons_of_mem _ (List.mem_cons_self ..))) _)) UOF.out.2⟩,⟨UNE.out.1,UNE.out.2.1,UNE.out.2.2,UFR.out.1,UFR.out.2⟩,(yao (yao (yao (yao (yao (yao (yao (yao (yao (yao (yao (yao UBL.out UNE.out.2.1) UNE.out.2.1) UNE.out.2.1) UNE.out.2.1) UNE.out.2.1) UNE.out.2.1) UNE.out.2.1) UNE.out.2.1) UNE.out.2.1) UNE.out.2.2) UNE.out.2.2) UNE.out.2.2)⟩
    ·go_simp
     refine hK.out _ _ (fun hun=>HS7.out _ bM) ?_;clear hK K;try simp only [ap,aq,sa,sb,sc]
     refine ybo (rs:=[21,27]) kr (by simp) ?_;refine (yam.cons (o:=⟨_,_,_,_,_,_⟩) rfl (fun K hK=>?_) (yam.cons (o:=⟨_,_,_,_,_,_⟩) rfl (fun K hK=>?_) yam.nil))
     ·go_simp
      refine (ye1 ⟨lim,ts,cyc,dued,minf,minp,start⟩ _ _ fr til s.p _ _ iv s.rs nr fb (by simp only;rw [HLL.out.1];exact HLL.out.2.1) so q e HC x HX _ (HRD.out _ bM).1 (HRD.out _ bM).2.1 (HRD.out _ bM).2.2.1 (HRD.out _ bM).2.2.2).mono ?_;rintro _ w6 ⟨lv',bv',rfl,hl',hb',⟨hf1,hf2⟩,hb6⟩;obtain ⟨la,lc',rfl⟩:=hl'.shape;obtain ⟨ba,bc',rfl⟩:=hb'.shape;have HL6:=lh hl';have HV6:=lh hb';have HF1:=lh hf1;have HF2:=lh hf2;have HB60:=lh hb6;have HB6:Hid (BW w5 w6):=yad bM hb6;clear hl' hb' hf1 hf2 hb6;have hs6:=HS7.out w6 HB6.out;refine hK.out _ _ (fun hun=>hs6) ?_;clear hK K;try simp only [ap,aq,sa,sb,sc]
      refine tF 22 rfl ?_ (hS:=hs6);refine tF 23 rfl ?_ (hS:=hs6);refine tF 24 rfl ?_ (hS:=hs6);refine tF 25 rfl ?_ (hS:=hs6);refine wo 27 kr rfl fun K hK=>?_;go_simp;refine hK.out _ _ (fun hun=>HS7.out _ bM) ?_;clear hK K;try simp only [ap,aq,sa,sb,sc]
      obtain ⟨U,hU,UB8,UB9,UNE,ULV,UBL⟩:∃U,(w6.alloc (.cells #[sZ,iZ,iZ] 35))=U/\Hid (Blk U (w5.heap.size) 43 [iZ,iZ,iZ,iZ,sZ,iZ,iZ,iZ,.bool false])/\Hid (Blk U (w6.heap.size) 35 [sZ,iZ,iZ])/\Hid ((w5.heap.size)≠(w6.heap.size)/\w5.heap.size<=(w5.heap.size)/\w5.heap.size<=(w6.heap.size))/\Hid (LnS U (.slice la x.ls.length lc') x.ls/\Sl .i64 U (.slice ba q.bs.length bc') q.bs)/\Hid (BW w5 U) :=
       ⟨_,rfl,(Blk.below (Blk.below (Blk.below (yae w5 _ _ _ rfl) (yaf bR)) HB60.out) (yaa bR _)),(yae w6 _ _ _ rfl),⟨by have:=HB6.out.size;have:=HB60.out.size;simp only [World.size_drew,World.size_alloc] at this;omega,by have:=HB6.out.size;omega,by have:=HB6.out.size;omega⟩,⟨HL6.out.below ((yaa bR _)),HV6.out.below ((yaa bR _))⟩,(yaa HB6.out _)⟩
      have UOF:Hid (OffF [(w5.heap.size),(w6.heap.size)] (.slice la x.ls.length lc')/\OffF [(w5.heap.size),(w6.heap.size)] (.slice ba q.bs.length bc')):= by
       exact zq1959e4
      have UFR:Hid (Fr w5 (.slice la x.ls.length lc')/\Fr w5 (.slice ba q.bs.length bc')):= by
       exact zq193bfd
      with_reducible rw [hU]
      clear hU;obtain ⟨c0,c1,c2,c3,c4,c5,c6,c7,c8,-⟩:=UB8.out.cs [0,1,2,3,4,5,6,7,8];simp only [gz,gs] at c0 c1 c2 c3 c4 c5 c6 c7 c8;obtain ⟨cf0,cf1,cf2,cf3,cf4,cf5,cf6,cf7,cf8,-⟩:=UB8.out.fs [0,1,2,3,4,5,6,7,8];obtain ⟨d0,d1,d2,-⟩:=UB9.out.cs [0,1,2];simp only [gz,gs] at d0 d1 d2;obtain ⟨df0,df1,df2,-⟩:=UB9.out.fs [0,1,2];have hlt8:=UB8.out.lt;have hlt9:=UB9.out.lt;have hne:=UNE.out.1;have hne':=hne.symm;refine wo 28 kr rfl fun K hK=>?_;go_simp;refine hK.out _ _ kd ?_;clear hK K;try simp only [ap,aq,sa,sb,sc]
      refine wo 29 kr rfl fun K hK=>?_;go_simp;refine hK.out _ _ kd ?_;clear hK K;try simp only [ap,aq,sa,sb,sc]
      refine wo 30 kr rfl fun K hK=>?_;go_simp;refine hK.out _ _ kd ?_;clear hK K;try simp only [ap,aq,sa,sb,sc]
      clear c0 c1 c2 c3 c4 c5 c6 c7 c8 cf0 cf1 cf2 cf3 cf4 cf5 cf6 cf7 cf8 d0 d1 d2 df0 df1 df2 hne hne';refine yal kr ?_ _
      go_wp2_with fail
      go_meet
      case rel=>exact ⟨(w5.heap.size),(w6.heap.size),_,_,rfl,rfl,rfl,⟨((((((((((((UB8.out.set 0 _).set 1 _).set 2 _).set 3 _).set 4 _).set 5 _).set 6 _).set 7 _).set 8 _).setOther UNE.out.1 0 _).setOther UNE.out.1 1 _).setOther UNE.out.1 2 _),((((((((((((UB9.out.setOther (Ne.symm UNE.out.1) 0 _).setOther (Ne.symm UNE.out.1) 1 _).setOther (Ne.symm UNE.out.1) 2 _).setOther (Ne.symm UNE.out.1) 3 _).setOther (Ne.symm UNE.out.1) 4 _).setOther (Ne.symm UNE.out.1) 5 _).setOther (Ne.symm UNE.out.1) 6 _).setOther (Ne.symm UNE.out.1) 7 _).setOther (Ne.symm UNE.out.1) 8 _).set 0 _).set 1 _).set 2 _),LnS.keep (F:=[(w5.heap.size),(w6.heap.size)]) ULV.out.1 ((((((((((((((yab.refl _ _).sg _).sg _).sg _).sg _).sg _).sg _).sg _).sg _).sg _).setCell (.inl (List.mem_cons_of_mem _ (List.mem_cons_self ..))) _).setCell (.inl (List.mem_cons_of_mem _ (List.mem_cons_self ..))) _).setCell (.inl (List.mem_cons_of_mem _ (List.mem_cons_self ..))) _)) UOF.out.1,Sl.keep (F:=[(w5.heap.size),(w6.heap.size)]) ULV.out.2 ((((((((((((((yab.refl _ _).sg _).sg _).sg _).sg _).sg _).sg _).sg _).sg _).sg _).setCell (.inl (List.mem_cons_of_mem _ (List.mem_cons_self ..))) _).setCell (.inl (List.mem_cons_of_mem _ (List.mem_cons_self ..))) _).setCell (.inl (List.mem_cons_of_mem _ (List.mem_cons_self ..))) _)) UOF.out.2⟩,⟨UNE.out.1,UNE.out.2.1,UNE.out.2.2,UFR.out.1,UFR.out.2⟩,(yao (yao (yao (yao (yao (yao (yao (yao (yao (yao (yao (yao UBL.out UNE.out.2.1) UNE.out.2.1) UNE.out.2.1) UNE.out.2.1) UNE.out.2.1) UNE.out.2.1) UNE.out.2.1) UNE.out.2.1) UNE.out.2.1) UNE.out.2.2) UNE.out.2.2) UNE.out.2.2)⟩
     ·go_simp
      refine hK.out _ _ (fun hun=>HS7.out _ bM) ?_;clear hK K;try simp only [ap,aq,sa,sb,sc]
      refine wo 21 kr rfl fun K hK=>?_;go_simp;refine (ye1 ⟨lim,ts,cyc,dued,minf,minp,start⟩ _ _ fr til s.p _ _ iv s.rs nr fb (by simp only;rw [HLL.out.1];exact HLL.out.2.1) so q e HC x HX _ (HRD.out _ bM).1 (HRD.out _ bM).2.1 (HRD.out _ bM).2.2.1 (HRD.out _ bM).2.2.2).mono ?_;rintro _ w6 ⟨lv',bv',rfl,hl',hb',⟨hf1,hf2⟩,hb6⟩;obtain ⟨la,lc',rfl⟩:=hl'.shape;obtain ⟨ba,bc',rfl⟩:=hb'.shape;have HL6:=lh hl';have HV6:=lh hb';have HF1:=lh hf1;have HF2:=lh hf2;have HB60:=lh hb6;have HB6:Hid (BW w5 w6):=yad bM hb6;clear hl' hb' hf1 hf2 hb6;have hs6:=HS7.out w6 HB6.out;refine hK.out _ _ (fun hun=>hs6) ?_;clear hK K;try simp only [ap,aq,sa,sb,sc]
      refine tF 22 rfl ?_ (hS:=hs6);refine tF 23 rfl ?_ (hS:=hs6);refine tF 24 rfl ?_ (hS:=hs6);refine tF 25 rfl ?_ (hS:=hs6)
      obtain ⟨U,hU,UB8,UB9,UNE,ULV,UBL⟩:∃U,w6=U/\Hid (Blk U (w5.heap.size) 43 [iZ,iZ,iZ,iZ,sZ,iZ,iZ,iZ,.bool false])/\Hid (Blk U (w5.heap.size+1) 35 [sZ,iZ,iZ])/\Hid ((w5.heap.size)≠(w5.heap.size+1)/\w5.heap.size<=(w5.heap.size)/\w5.heap.size<=(w5.heap.size+1))/\Hid (LnS U (.slice la x.ls.length lc') x.ls/\Sl .i64 U (.slice ba q.bs.length bc') q.bs)/\Hid (BW w5 U) :=
       ⟨_,rfl,(Blk.below (Blk.below (Blk.below (yae w5 _ _ _ rfl) (yaa bR _)) (yaf bR)) HB60.out),(Blk.below (Blk.below (yae (w5.alloc _) _ _ _ (by simp)) (yaf bR)) HB60.out),⟨by have:=HB6.out.size;have:=HB60.out.size;simp only [World.size_drew,World.size_alloc] at this;omega,by have:=HB6.out.size;omega,by have:=HB6.out.size;omega⟩,⟨HL6.out.below bR,HV6.out.below bR⟩,HB6.out⟩
      have UOF:Hid (OffF [(w5.heap.size),(w5.heap.size+1)] (.slice la x.ls.length lc')/\OffF [(w5.heap.size),(w5.heap.size+1)] (.slice ba q.bs.length bc')):= by
       exact zq1959e4
      have UFR:Hid (Fr w5 (.slice la x.ls.length lc')/\Fr w5 (.slice ba q.bs.length bc')):= by
       exact zq193bfd
      with_reducible rw [hU]
      clear hU;obtain ⟨c0,c1,c2,c3,c4,c5,c6,c7,c8,-⟩:=UB8.out.cs [0,1,2,3,4,5,6,7,8];simp only [gz,gs] at c0 c1 c2 c3 c4 c5 c6 c7 c8;obtain ⟨cf0,cf1,cf2,cf3,cf4,cf5,cf6,cf7,cf8,-⟩:=UB8.out.fs [0,1,2,3,4,5,6,7,8];obtain ⟨d0,d1,d2,-⟩:=UB9.out.cs [0,1,2];simp only [gz,gs] at d0 d1 d2;obtain ⟨df0,df1,df2,-⟩:=UB9.out.fs [0,1,2];have hlt8:=UB8.out.lt;have hlt9:=UB9.out.lt;have hne:=UNE.out.1;have hne':=hne.symm;refine wo 28 kr rfl fun K hK=>?_;go_simp;refine hK.out _ _ kd ?_;clear hK K;try simp only [ap,aq,sa,sb,sc]
      refine wo 29 kr rfl fun K hK=>?_;go_simp;refine hK.out _ _ kd ?_;clear hK K;try simp only [ap,aq,sa,sb,sc]
      refine wo 30 kr rfl fun K hK=>?_;go_simp;refine hK.out _ _ kd ?_;clear hK K;try simp only [ap,aq,sa,sb,sc]
      clear c0 c1 c2 c3 c4 c5 c6 c7 c8 cf0 cf1 cf2 cf3 cf4 cf5 cf6 cf7 cf8 d0 d1 d2 df0 df1 df2 hne hne';refine yal kr ?_ _
      go_wp2_with fail
      go_meet
      case rel=>exact ⟨(w5.heap.size),(w5.heap.size+1),_,_,rfl,rfl,rfl,⟨((((((((((((UB8.out.set 0 _).set 1 _).set 2 _).set 3 _).set 4 _).set 5 _).set 6 _).set 7 _).set 8 _).setOther UNE.out.1 0 _).setOther UNE.out.1 1 _).setOther UNE.out.1 2 _),((((((((((((UB9.out.setOther (Ne.symm UNE.out.1) 0 _).setOther (Ne.symm UNE.out.1) 1 _).setOther (Ne.symm UNE.out.1) 2 _).setOther (Ne.symm UNE.out.1) 3 _).setOther (Ne.symm UNE.out.1) 4 _).setOther (Ne.symm UNE.out.1) 5 _).setOther (Ne.symm UNE.out.1) 6 _).setOther (Ne.symm UNE.out.1) 7 _).setOther (Ne.symm UNE.out.1) 8 _).set 0 _).set 1 _).set 2 _),LnS.keep (F:=[(w5.heap.size),(w5.heap.size+1)]) ULV.out.1 ((((((((((((((yab.refl _ _).sg _).sg _).sg _).sg _).sg _).sg _).sg _).sg _).sg _).setCell (.inl (List.mem_cons_of_mem _ (List.mem_cons_self ..))) _).setCell (.inl (List.mem_cons_of_mem _ (List.mem_cons_self ..))) _).setCell (.inl (List.mem_cons_of_mem _ (List.mem_cons_self ..))) _)) UOF.out.1,Sl.keep (F:=[(w5.heap.size),(w5.heap.size+1)]) ULV.out.2 ((((((((((((((yab.refl _ _).sg _).sg _).sg _).sg _).sg _).sg _).sg _).sg _).sg _).setCell (.inl (List.mem_cons_of_mem _ (List.mem_cons_self ..))) _).setCell (.inl (List.mem_cons_of_mem _ (List.mem_cons_self ..))) _).setCell (.inl (List.mem_cons_of_mem _ (List.mem_cons_self ..))) _)) UOF.out.2⟩,⟨UNE.out.1,UNE.out.2.1,UNE.out.2.2,UFR.out.1,UFR.out.2⟩,(yao (yao (yao (yao (yao (yao (yao (yao (yao (yao (yao (yao UBL.out UNE.out.2.1) UNE.out.2.1) UNE.out.2.1) UNE.out.2.1) UNE.out.2.1) UNE.out.2.1) UNE.out.2.1) UNE.out.2.1) UNE.out.2.1) UNE.out.2.2) UNE.out.2.2) UNE.out.2.2)⟩
    ·go_simp
     refine hK.out _ _ (fun hun=>HS7.out _ bM) ?_;clear hK K;try simp only [ap,aq,sa,sb,sc]
     refine ybo (rs:=[21,26]) kr (by simp) ?_;refine (yam.cons (o:=⟨_,_,_,_,_,_⟩) rfl (fun K hK=>?_) (yam.cons (o:=⟨_,_,_,_,_,_⟩) rfl (fun K hK=>?_) yam.nil))
     ·go_simp
      refine (ye1 ⟨lim,ts,cyc,dued,minf,minp,start⟩ _ _ fr til s.p _ _ iv s.rs nr fb (by simp only;rw [HLL.out.1];exact HLL.out.2.1) so q e HC x HX _ (HRD.out _ bM).1 (HRD.out _ bM).2.1 (HRD.out _ bM).2.2.1 (HRD.out _ bM).2.2.2).mono ?_;rintro _ w6 ⟨lv',bv',rfl,hl',hb',⟨hf1,hf2⟩,hb6⟩;obtain ⟨la,lc',rfl⟩:=hl'.shape;obtain ⟨ba,bc',rfl⟩:=hb'.shape;have HL6:=lh hl';have HV6:=lh hb';have HF1:=lh hf1;have HF2:=lh hf2;have HB60:=lh hb6;have HB6:Hid (BW w5 w6):=yad bM hb6;clear hl' hb' hf1 hf2 hb6;have hs6:=HS7.out w6 HB6.out;refine hK.out _ _ (fun hun=>hs6) ?_;clear hK K;try simp only [ap,aq,sa,sb,sc]
      refine tF 22 rfl ?_ (hS:=hs6);refine tF 23 rfl ?_ (hS:=hs6);refine tF 24 rfl ?_ (hS:=hs6);refine tF 25 rfl ?_ (hS:=hs6);refine wo 26 kr rfl fun K hK=>?_;go_simp;refine hK.out _ _ (fun hun=>HS7.out _ bM) ?_;clear hK K;try simp only [ap,aq,sa,sb,sc]
      obtain ⟨U,hU,UB8,UB9,UNE,ULV,UBL⟩:∃U,(w6.alloc (.cells #[iZ,iZ,iZ,iZ,sZ,iZ,iZ,iZ,.bool false] 43))=U/\Hid (Blk U (w6.heap.size) 43 [iZ,iZ,iZ,iZ,sZ,iZ,iZ,iZ,.bool false])/\Hid (Blk U (w5.heap.size) 35 [sZ,iZ,iZ])/\Hid ((w6.heap.size)≠(w5.heap.size)/\w5.heap.size<=(w6.heap.size)/\w5.heap.size<=(w5.heap.size))/\Hid (LnS U (.slice la x.ls.length lc') x.ls/\Sl .i64 U (.slice ba q.bs.length bc') q.bs)/\Hid (BW w5 U) :=
       ⟨_,rfl,(yae w6 _ _ _ rfl),(Blk.below (Blk.below (Blk.below (yae w5 _ _ _ rfl) (yaf bR)) HB60.out) (yaa bR _)),⟨by have:=HB6.out.size;have:=HB60.out.size;simp only [World.size_drew,World.size_alloc] at this;omega,by have:=HB6.out.size;omega,by have:=HB6.out.size;omega⟩,⟨HL6.out.below ((yaa bR _)),HV6.out.below ((yaa bR _))⟩,(yaa HB6.out _)⟩
      have UOF:Hid (OffF [(w6.heap.size),(w5.heap.size)] (.slice la x.ls.length lc')/\OffF [(w6.heap.size),(w5.heap.size)] (.slice ba q.bs.length bc')):= by
       exact zq1959e4
      have UFR:Hid (Fr w5 (.slice la x.ls.length lc')/\Fr w5 (.slice ba q.bs.length bc')):= by
       exact zq193bfd
      with_reducible rw [hU]
      clear hU;obtain ⟨c0,c1,c2,c3,c4,c5,c6,c7,c8,-⟩:=UB8.out.cs [0,1,2,3,4,5,6,7,8];simp only [gz,gs] at c0 c1 c2 c3 c4 c5 c6 c7 c8;obtain ⟨cf0,cf1,cf2,cf3,cf4,cf5,cf6,cf7,cf8,-⟩:=UB8.out.fs [0,1,2,3,4,5,6,7,8];obtain ⟨d0,d1,d2,-⟩:=UB9.out.cs [0,1,2];simp only [gz,gs] at d0 d1 d2;obtain ⟨df0,df1,df2,-⟩:=UB9.out.fs [0,1,2];have hlt8:=UB8.out.lt;have hlt9:=UB9.out.lt;have hne:=UNE.out.1;have hne':=hne.symm;refine wo 28 kr rfl fun K hK=>?_;go_simp;refine hK.out _ _ kd ?_;clear hK K;try simp only [ap,aq,sa,sb,sc]
      refine wo 29 kr rfl fun K hK=>?_;go_simp;refine hK.out _ _ kd ?_;clear hK K;try simp only [ap,aq,sa,sb,sc]
      refine wo 30 kr rfl fun K hK=>?_;go_simp;refine hK.out _ _ kd ?_;clear hK K;try simp only [ap,aq,sa,sb,sc]
      clear c0 c1 c2 c3 c4 c5 c6 c7 c8 cf0 cf1 cf2 cf3 cf4 cf5 cf6 cf7 cf8 d0 d1 d2 df0 df1 df2 hne hne';refine yal kr ?_ _
      go_wp2_with fail
      go_meet
      case rel=>exact ⟨(w6.heap.size),(w5.heap.size),_,_,rfl,rfl,rfl,⟨((((((((((((UB8.out.set 0 _).set 1 _).set 2 _).set 3 _).set 4 _).set 5 _).set 6 _).set 7 _).set 8 _).setOther UNE.out.1 0 _).setOther UNE.out.1 1 _).setOther UNE.out.1 2 _),((((((((((((UB9.out.setOther (Ne.symm UNE.out.1) 0 _).setOther (Ne.symm UNE.out.1) 1 _).setOther (Ne.symm UNE.out.1) 2 _).setOther (Ne.symm UNE.out.1) 3 _).setOther (Ne.symm UNE.out.1) 4 _).setOther (Ne.symm UNE.out.1) 5 _).setOther (Ne.symm UNE.out.1) 6 _).setOther (Ne.symm UNE.out.1) 7 _).setOther (Ne.symm UNE.out.1) 8 _).set 0 _).set 1 _).set 2 _),LnS.keep (F:=[(w6.heap.size),(w5.heap.size)]) ULV.out.1 ((((((((((((((yab.refl _ _).sg _).sg _).sg _).sg _).sg _).sg _).sg _).sg _).sg _).setCell (.inl (List.mem_cons_of_mem _ (List.mem_cons_self ..))) _).setCell (.inl (List.mem_cons_of_mem _ (List.mem_cons_self ..))) _).setCell (.inl (List.mem_cons_of_mem _ (List.mem_cons_self ..))) _)) UOF.out.1,Sl.keep (F:=[(w6.heap.size),(w5.heap.size)]) ULV.out.2 ((((((((((((((yab.refl _ _).sg _).sg _).sg _).sg _).sg _).sg _).sg _).sg _).sg _).setCell (.inl (List.mem_cons_of_mem _ (List.mem_cons_self ..))) _).setCell (.inl (List.mem_cons_of_mem _ (List.mem_cons_self ..))) _).setCell (.inl (List.mem_cons_of_mem _ (List.mem_cons_self ..))) _)) UOF.out.2⟩,⟨UNE.out.1,UNE.out.2.1,UNE.out.2.2,UFR.out.1,UFR.out.2⟩,(yao (yao (yao (yao (yao (yao (yao (yao (yao (yao (yao (yao UBL.out UNE.out.2.1) UNE.out.2.1) UNE.out.2.1) UNE.out.2.1) UNE.out.2.1) UNE.out.2.1) UNE.out.2.1) UNE.out.2.1) UNE.out.2.1) UNE.out.2.2) UNE.out.2.2) UNE.out.2.2)⟩
     ·go_simp
      refine hK.out _ _ (fun hun=>HS7.out _ bM) ?_;clear hK K;try simp only [ap,aq,sa,sb,sc]
      refine wo 21 kr rfl fun K hK=>?_;go_simp;refine (ye1 ⟨lim,ts,cyc,dued,minf,minp,start⟩ _ _ fr til s.p _ _ iv s.rs nr fb (by simp only;rw [HLL.out.1];exact HLL.out.2.1) so q e HC x HX _ (HRD.out _ bM).1 (HRD.out _ bM).2.1 (HRD.out _ bM).2.2.1 (HRD.out _ bM).2.2.2).mono ?_;rintro _ w6 ⟨lv',bv',rfl,hl',hb',⟨hf1,hf2⟩,hb6⟩;obtain ⟨la,lc',rfl⟩:=hl'.shape;obtain ⟨ba,bc',rfl⟩:=hb'.shape;have HL6:=lh hl';have HV6:=lh hb';have HF1:=lh hf1;have HF2:=lh hf2;have HB60:=lh hb6;have HB6:Hid (BW w5 w6):=yad bM hb6;clear hl' hb' hf1 hf2 hb6;have hs6:=HS7.out w6 HB6.out;refine hK.out _ _ (fun hun=>hs6) ?_;clear hK K;try simp only [ap,aq,sa,sb,sc]
      refine tF 22 rfl ?_ (hS:=hs6);refine tF 23 rfl ?_ (hS:=hs6);refine tF 24 rfl ?_ (hS:=hs6);refine tF 25 rfl ?_ (hS:=hs6)
      obtain ⟨U,hU,UB8,UB9,UNE,ULV,UBL⟩:∃U,w6=U/\Hid (Blk U (w5.heap.size+1) 43 [iZ,iZ,iZ,iZ,sZ,iZ,iZ,iZ,.bool false])/\Hid (Blk U (w5.heap.size) 35 [sZ,iZ,iZ])/\Hid ((w5.heap.size+1)≠(w5.heap.size)/\w5.heap.size<=(w5.heap.size+1)/\w5.heap.size<=(w5.heap.size))/\Hid (LnS U (.slice la x.ls.length lc') x.ls/\Sl .i64 U (.slice ba q.bs.length bc') q.bs)/\Hid (BW w5 U) :=
       ⟨_,rfl,(Blk.below (Blk.below (yae (w5.alloc _) _ _ _ (by simp)) (yaf bR)) HB60.out),(Blk.below (Blk.below (Blk.below (yae w5 _ _ _ rfl) (yaa bR _)) (yaf bR)) HB60.out),⟨by have:=HB6.out.size;have:=HB60.out.size;simp only [World.size_drew,World.size_alloc] at this;omega,by have:=HB6.out.size;omega,by have:=HB6.out.size;omega⟩,⟨HL6.out.below bR,HV6.out.below bR⟩,HB6.out⟩
      have UOF:Hid (OffF [(w5.heap.size+1),(w5.heap.size)] (.slice la x.ls.length lc')/\OffF [(w5.heap.size+1),(w5.heap.size)] (.slice ba q.bs.length bc')):= by
       exact zq1959e4
      have UFR:Hid (Fr w5 (.slice la x.ls.length lc')/\Fr w5 (.slice ba q.bs.length bc')):= by
       exact zq193bfd
      with_reducible rw [hU]
      clear hU;obtain ⟨c0,c1,c2,c3,c4,c5,c6,c7,c8,-⟩:=UB8.out.cs [0,1,2,3,4,5,6,7,8];simp only [gz,gs] at c0 c1 c2 c3 c4 c5 c6 c7 c8;obtain ⟨cf0,cf1,cf2,cf3,cf4,cf5,cf6,cf7,cf8,-⟩:=UB8.out.fs [0,1,2,3,4,5,6,7,8];obtain ⟨d0,d1,d2,-⟩:=UB9.out.cs [0,1,2];simp only [gz,gs] at d0 d1 d2;obtain ⟨df0,df1,df2,-⟩:=UB9.out.fs [0,1,2];have hlt8:=UB8.out.lt;have hlt9:=UB9.out.lt;have hne:=UNE.out.1;have hne':=hne.symm;refine wo 28 kr rfl fun K hK=>?_;go_simp;refine hK.out _ _ kd ?_;clear hK K;try simp only [ap,aq,sa,sb,sc]
      refine wo 29 kr rfl fun K hK=>?_;go_simp;refine hK.out _ _ kd ?_;clear hK K;try simp only [ap,aq,sa,sb,sc]
      refine wo 30 kr rfl fun K hK=>?_;go_simp;refine hK.out _ _ kd ?_;clear hK K;try simp only [ap,aq,sa,sb,sc]
      clear c0 c1 c2 c3 c4 c5 c6 c7 c8 cf0 cf1 cf2 cf3 cf4 cf5 cf6 cf7 cf8 d0 d1 d2 df0 df1 df2 hne hne';refine yal kr ?_ _
      go_wp2_with fail
      go_meet
      case rel=>exact ⟨(w5.heap.size+1),(w5.heap.size),_,_,rfl,rfl,rfl,⟨((((((((((((UB8.out.set 0 _).set 1 _).set 2 _).set 3 _).set 4 _).set 5 _).set 6 _).set 7 _).set 8 _).setOther UNE.out.1 0 _).setOther UNE.out.1 1 _).setOther UNE.out.1 2 _),((((((((((((UB9.out.setOther (Ne.symm UNE.out.1) 0 _).setOther (Ne.symm UNE.out.1) 1 _).setOther (Ne.symm UNE.out.1) 2 _).setOther (Ne.symm UNE.out.1) 3 _).setOther (Ne.symm UNE.out.1) 4 _).setOther (Ne.symm UNE.out.1) 5 _).setOther (Ne.symm UNE.out.1) 6 _).setOther (Ne.symm UNE.out.1) 7 _).setOther (Ne.symm UNE.out.1) 8 _).set 0 _).set 1 _).set 2 _),LnS.keep (F:=[(w5.heap.size+1),(w5.heap.size)]) ULV.out.1 ((((((((((((((yab.refl _ _).sg _).sg _).sg _).sg _).sg _).sg _).sg _).sg _).sg _).setCell (.inl (List.mem_cons_of_mem _ (List.mem_cons_self ..))) _).setCell (.inl (List.mem_cons_of_mem _ (List.mem_cons_self ..))) _).setCell (.inl (List.mem_cons_of_mem _ (List.mem_cons_self ..))) _)) UOF.out.1,Sl.keep (F:=[(w5.heap.size+1),(w5.heap.size)]) ULV.out.2 ((((((((((((((yab.refl _ _).sg _).sg _).sg _).sg _).sg _).sg _).sg _).sg _).sg _).setCell (.inl (List.mem_cons_of_mem _ (List.mem_cons_self ..))) _).setCell (.inl (List.mem_cons_of_mem _ (List.mem_cons_self ..))) _).setCell (.inl (List.mem_cons_of_mem _ (List.mem_cons_self ..))) _)) UOF.out.2⟩,⟨UNE.out.1,UNE.out.2.1,UNE.out.2.2,UFR.out.1,UFR.out.2⟩,(yao (yao (yao (yao (yao (yao (yao (yao (yao (yao (yao (yao UBL.out UNE.out.2.1) UNE.out.2.1) UNE.out.2.1) UNE.out.2.1) UNE.out.2.1) UNE.out.2.1) UNE.out.2.1) UNE.out.2.1) UNE.out.2.1) UNE.out.2.2) UNE.out.2.2) UNE.out.2.2)⟩
   case rest =>
    clear hs5 hsd hw1 kg5 hol;obtain ⟨b8,b9,lv',bv',rfl,rfl,rfl,HBB,HNE,HBW⟩:=hcut
    by_cases he:e=0
    ·subst he
     have hsome:=yek HC.out
     obtain ⟨x0,rfl⟩:∃x0,so=some x0:= by
      cases so with
      | none=>simp at hsome
      | some x0=>exact ⟨x0,rfl⟩
     have hx0:x0=x:=HX.out;subst hx0
     have e1:R=({ s with p:=q,X:=List.replicate n [],Y:=List.replicate n [],out:=s.out++[x0] },0):= by
      rw [<-hR.out];unfold ydn;simp only;rw [HF.out];simp only;rw [if_neg (by simp)];rw [HI.out];simp only;rw [if_neg (by simp)];rw [HC.out];simp only;rw [HLL.out.1]
     subst e1;clear hsome hR;have HW2:Hid (BW w2 wc):=yad HB5.out HBW.out;have HRW:=lh (H2.out.below HW2.out);have HBC:=lh (HB.out.below HW2.out);obtain ⟨bo,bc,rfl⟩:=HBB.out.2.2.2.shape;obtain ⟨la,lc',rfl⟩:=HBB.out.2.2.1.shape;have c19:=HBC.out.cell 19;simp only [gz,gs] at c19;obtain ⟨d0,d1,d2,-⟩:=HBB.out.2.1.cs [0,1,2];simp only [gz,gs] at d0 d1 d2;obtain ⟨cf10,cf11,cf12,-⟩:=HBC.out.fs [10,11,12];obtain ⟨c10,c11,c12,-⟩:=HBC.out.cs [10,11,12];simp only [gz,gs] at c10 c11 c12;have kg:=HBC.out.lt;go_upto_region 13 with fail
     obtain ⟨W1,hW1,HR1,HB8,HL8,HST1⟩:∃W1,((wc.setCell (Ad g 10) (.slice bo q.bs.length bc)).setCell (Ad g 11) (iV q.c)).setCell (Ad g 12) (iV q.d)=W1/\Hid (yb2 lo g ⟨lim,ts,cyc,dued,minf,minp,start⟩ l day (⟨s.at',q,s.rs,s.X,s.Y,s.out⟩:RS) F W1 { tv:=.slice tao ts.length tc,lv:=lv,pv:=.slice bo q.bs.length bc,rv:=.slice ro s.rs.length rc,xv:=sL bx 0 n n,yv:=sL bz 0 n n,ov:=.slice oo s.out.length oc,bx:=bx,bz:=bz,xs:=xs,ys:=ys,vs:=vs })/\Hid (Blk W1 b8 43 [iV x0.n,iV x0.fr,iV x0.til,iV x0.du,.slice la x0.ls.length lc',iV x0.tot,iV x0.cr,iV x0.mn,.bool x0.g])/\Hid (Rd F W1 (fun W=>LnS W (.slice la x0.ls.length lc') x0.ls))/\Hid (Stp F w F W1):= by
      have hk:yab [g] wc (((wc.setCell (Ad g 10) (.slice bo q.bs.length bc)).setCell (Ad g 11) (iV q.c)).setCell (Ad g 12) (iV q.d)):=(((yab.refl _ _).sg _).sg _).sg _;have hlt:∀x∈F,x<w5.heap.size:=fun x hx=>Nat.lt_of_lt_of_le (H2.out.lt x hx).2 HB5.out.size
      have hlo5:lo<=w5.heap.size:= by
       have h1:=H2.out.lt g H2.out.gF;have h2:=HB5.out.size;omega
      have hg8:g≠b8:= by
       have h1:=hlt g H2.out.gF;have h2:=HNE.out.2.1;omega
      have hst:Stp F w F wc:=Stp.below (Stp.below (Stp.below (Stp.refl _ _) HB2.out) HB5.out) HBW.out;have hst1:Stp F wc F (((wc.setCell (Ad g 10) (.slice bo q.bs.length bc)).setCell (Ad g 11) (iV q.c)).setCell (Ad g 12) (iV q.d)):=⟨hk.mono (fun x hx=>by simp only [ms] at hx;exact hx▸H2.out.gF),fun _ hx=>.inl hx⟩;exact ⟨_,rfl,HRW.out.store hk (k:=s.at') (p:=q) (rs:=s.rs) (pv:=.slice bo q.bs.length bc) (rv:=.slice ro s.rs.length rc) (((HBC.out.set 10 _).set 11 _).set 12 _) ((HBB.out.2.2.2.rd (HNE.out.2.2.2.2.off hlt)).and (HRW.out.rdSl.imp fun _ k=>k.2)) ⟨Hi.of_fr HNE.out.2.2.2.2 hlo5,HRW.out.hi.2.1⟩,((HBB.out.1.setOther hg8.symm _ _).setOther hg8.symm _ _).setOther hg8.symm _ _,hst1.rd (HBB.out.2.2.1.rd (HNE.out.2.2.2.1.off hlt)),hst.trans hst1⟩
     with_reducible rw [hW1]
     clear hW1 c10 c11 c12 cf10 cf11 cf12 c19 d0 d1 d2 kg
     have HS13:Hid (∀W',BW W1 W'->Ce W' g 16 (.slice oo s.out.length oc)/\Ce W' b8 0 (iV x0.n)/\Ce W' b8 1 (iV x0.fr)/\Ce W' b8 2 (iV x0.til)/\Ce W' b8 3 (iV x0.du)/\Ce W' b8 4 (.slice la x0.ls.length lc')/\Ce W' b8 5 (iV x0.tot)/\Ce W' b8 6 (iV x0.cr)/\Ce W' b8 7 (iV x0.mn)/\Ce W' b8 8 (.bool x0.g)):=fun W' hb=>by
      have q1:=HR1.out.blk.below hb;have q2:=HB8.out.below hb;exact ⟨q1.cell 16,q2.cell 0,q2.cell 1,q2.cell 2,q2.cell 3,q2.cell 4,q2.cell 5,q2.cell 6,q2.cell 7,q2.cell 8⟩
     have hsd:=HS13.out W1.drew (yaf bR);have hsa:=HS13.out (W1.alloc (.cells #[iV x0.n,iV x0.fr,iV x0.til,iV x0.du,.slice la x0.ls.length lc',iV x0.tot,iV x0.cr,iV x0.mn,.bool x0.g] 43)).drew (yaf (yaa bR _));have HOV:=lh HR1.out.out
     have HLOW:Hid (lo<=W1.heap.size):= by
      have h1:=HR1.out.lt g HR1.out.gF;show lo<=_;omega
     obtain ⟨i0,hi,hz0,hz1,hz2⟩:=info_parts yl7;refine yan (fun W'=>Ce W' g 16 (.slice oo s.out.length oc)/\Ce W' b8 0 (iV x0.n)/\Ce W' b8 1 (iV x0.fr)/\Ce W' b8 2 (iV x0.til)/\Ce W' b8 3 (iV x0.du)/\Ce W' b8 4 (.slice la x0.ls.length lc')/\Ce W' b8 5 (iV x0.tot)/\Ce W' b8 6 (iV x0.cr)/\Ce W' b8 7 (iV x0.mn)/\Ce W' b8 8 (.bool x0.g)) 8 kr ?_;refine tK 0 rfl ?_;refine tK 1 rfl ?_;refine tK 2 rfl ?_;refine tK 3 rfl ?_;refine tK 4 rfl ?_;refine tK 5 rfl ?_;refine wo 6 kr rfl fun K hK=>?_;go_simp;refine hK.out _ _ (fun hun=>hsa) ?_;clear hK K;try simp only [ap,aq,sa,sb,sc]
     refine wo 7 kr rfl fun K hK=>?_;refine ycs rfl (.tmp 107) (.tmp 109) 61 rfl lo 43 i0 (.agg #[iZ,iZ,iZ,iZ,sZ,iZ,iZ,iZ,.bool false]) 9 88 Tryz.underlying61 hi hz0 hz1 hz2 rfl (by decide) (.slice oo s.out.length oc) s.out.length (yay s.out vs) (by rfl) (yah HOV.out (yaf (yaa bR _))) (Ad W1.heap.size 0) 1 1 [iV x0.n,iV x0.fr,iV x0.til,iV x0.du,.slice la x0.ls.length lc',iV x0.tot,iV x0.cr,iV x0.mn,.bool x0.g] (by rfl) rfl (ygg W1 _ _) (by intro u hu;simp only [List.mem_cons,List.not_mem_nil,or_false] at hu;rcases hu with rfl | rfl | rfl | rfl | rfl | rfl | rfl | rfl | rfl <;> rfl) (by have:=HLL.out.2.2.2.2;unfold maxLen;omega) (by have:=HLL.out.2.2.2.2;omega) (by rw [World.size_drew,World.size_alloc];exact Nat.le_succ_of_le HLOW.out) ?_
     intro vO wA hownA hgA horA;obtain ⟨gO,cO,rfl⟩:=ya5 hownA om;have HOWA:=lh hownA;have HGA:=lh hgA;have HORA:=lh horA;have HBGA:Hid (Blk wA g 181 [iV lim,.slice tao ts.length tc,iV cyc,iV dued,iV minf,iV minp,iV start,lv,iV (s.at':Int),iV day,.slice bo q.bs.length bc,iV q.c,iV q.d,.slice ro s.rs.length rc,sL bx 0 n n,sL bz 0 n n,.slice oo s.out.length oc,.nilFunc,.nilFunc,.nilFunc]):=yaq (HR1.out.blk.below (yaf (yaa bR _))) hgA (yaj HOV.out HR1.out.blk (by decide));have HKA:Hid (yab (Value.slice oo s.out.length oc).ownBlock.toList W1 wA):=yab.grown (yab.drew ((yab.refl _ _).alloc _)) hgA (fun q hq=>.inl (Option.mem_toList.2 hq))
     have hb8n:b8∉(Value.slice oo s.out.length oc).ownBlock.toList:=fun hm=>by
      have h1:=HR1.out.outF b8 (Option.mem_toList.1 hm);have h2:=(H2.out.lt b8 h1).2;have h3:=HNE.out.2.1;have h4:=HB5.out.size;omega
     have hsA:wA.cell? (Ad g 16)=some (.slice oo s.out.length oc)/\wA.cell? (Ad b8 0)=some (iV x0.n)/\wA.cell? (Ad b8 1)=some (iV x0.fr)/\wA.cell? (Ad b8 2)=some (iV x0.til)/\wA.cell? (Ad b8 3)=some (iV x0.du)/\wA.cell? (Ad b8 4)=some (.slice la x0.ls.length lc')/\wA.cell? (Ad b8 5)=some (iV x0.tot)/\wA.cell? (Ad b8 6)=some (iV x0.cr)/\wA.cell? (Ad b8 7)=some (iV x0.mn)/\wA.cell? (Ad b8 8)=some (.bool x0.g):= by
      have q2:=HB8.out.keep HKA.out hb8n;exact ⟨HBGA.out.cell 16,q2.cell 0,q2.cell 1,q2.cell 2,q2.cell 3,q2.cell 4,q2.cell 5,q2.cell 6,q2.cell 7,q2.cell 8⟩
     clear hownA hgA horA hb8n;refine hK.out _ _ (fun hun=>hsA) ?_;clear hK K;try simp only [ap,aq,sa,sb,sc]
     refine wo 8 kr rfl fun K hK=>?_;go_simp;refine hK.out _ _ kd ?_;clear hK K;try simp only [ap,aq,sa,sb,sc]
     refine wo 9 kr rfl fun K hK=>?_;go_simp;refine hK.out _ _ kd ?_;clear hK K;try simp only [ap,aq,sa,sb,sc]
     have c16:=hsA.1;have f16:=HBGA.out.frozen 16;refine wo 10 kr rfl fun K hK=>?_;go_simp;refine hK.out _ _ kd ?_;clear hK K;try simp only [ap,aq,sa,sb,sc]
     clear c16 f16 hsA hsd hsa hi hz0 hz1 hz2;refine yal kr ?_ _
     have hcells:yay s.out vs++[iV x0.n,iV x0.fr,iV x0.til,iV x0.du,.slice la x0.ls.length lc',iV x0.tot,iV x0.cr,iV x0.mn,.bool x0.g]=yay (s.out++[x0]) (vs++[.slice la x0.ls.length lc']):= by
      rw [yds HR1.out.rd.now.2.2.2.2.length];simp [yay,ycb]
     obtain ⟨FO,hFO⟩:∃FO,(Value.slice (some (Ad gO 0)) (s.out.length+1) cO).ownBlock.toList++F=FO:=⟨_,rfl⟩
     obtain ⟨WO,hWO,HRO,HSTO⟩:∃WO,wA.setCell (Ad g 16) (sL gO 0 (s.out.length+1) cO)=WO/\Hid (yb2 lo g ⟨lim,ts,cyc,dued,minf,minp,start⟩ l day (⟨s.at',q,s.rs,s.X,s.Y,s.out++[x0]⟩:RS) FO WO { tv:=.slice tao ts.length tc,lv:=lv,pv:=.slice bo q.bs.length bc,rv:=.slice ro s.rs.length rc,xv:=sL bx 0 n n,yv:=sL bz 0 n n,ov:=sL gO 0 (s.out.length+1) cO,bx:=bx,bz:=bz,xs:=xs,ys:=ys,vs:=vs++[.slice la x0.ls.length lc'] })/\Hid (Stp F W1 FO WO):= by
      have hK2:yab (g::(Value.slice oo s.out.length oc).ownBlock.toList) W1 (wA.setCell (Ad g 16) (sL gO 0 (s.out.length+1) cO)):=(HKA.out.mono (fun x hx=>List.mem_cons_of_mem _ hx)).sg _
      have h:=HR1.out.grow (v':=sL gO 0 (s.out.length+1) cO) (lv':=.slice la x0.ls.length lc') (x:=x0) hK2 (HBGA.out.set 16 _) (by have h1:=HOWA.out;rw [hcells] at h1;exact yaz h1 (yaj h1 HBGA.out (by decide)) _) (by
       rcases HORA.out with e | e
       ·exact .inl e
       ·refine .inr ⟨_,e,?_⟩
        rw [World.size_drew,World.size_alloc]
        exact Nat.le_succ _) HL8.out (Hi.of_fr HNE.out.2.2.2.1 (by
         have h1:=H2.out.lt g H2.out.gF;have h2:=HB5.out.size;omega))
      rw [hFO] at h;exact ⟨_,rfl,h.1,h.2⟩
     with_reducible rw [hWO]
     clear hWO hcells HBGA HKA HORA HGA HOWA HOV HS13
     go_wp2_with fail
     refine (yng g ⟨lim,ts,cyc,dued,minf,minp,start⟩ _ lv s.at' day _ q _ _ _ _ n HLL.out.1 HLL.out.2.1 _ HRO.out.blk HRO.out.rd.now.1).mono ?_;rintro _ w9 ⟨rfl,bx',bz',k1,k2,k3,k4,k5,k6,k7⟩;have hfin:=yj8 (n:=n) HRO.out.gF HRO.out.lt HRO.out.rd HRO.out.blk HRO.out.out HRO.out.outF k1 k2 k3 k4 k5 k6 k7 HRO.out.hi;have HFIN:=lh hfin;clear hfin k1 k2 k3 k4 k5 k6 k7
     go_wp2_with fail
     go_ret
     exact ⟨rfl,_,_,HFIN.out.1,HST1.out.trans (HSTO.out.trans HFIN.out.2)⟩
    ·have e1:R=(s,e):= by
      have hsome:=yek HC.out;rw [decide_eq_false he] at hsome
      have hso:so=none:=by cases so with
       | none=>rfl
       | some x0=>simp at hsome
      subst hso;rw [<-hR.out];unfold ydn;simp only;rw [HF.out];simp only;rw [if_neg (by simp)];rw [HI.out];simp only;rw [if_neg (by simp)];rw [HC.out]
     subst e1;have he':(e != 0)=true:=by simpa using he
     clear he
     go_wp2_with fail
     go_ret
     exact ⟨rfl,F,_,(H2.out.below HB5.out).below HBW.out,Stp.below (Stp.below (Stp.below (Stp.refl _ _) HB2.out) HB5.out) HBW.out⟩
  ·have e1:R=(s,ie):=by rw [<-hR.out];unfold ydn;simp only;rw [HF.out];simp only;rw [if_neg (by simp)];rw [HI.out];simp only;rw [if_pos hie]
   subst e1;have hie':(ie != 0)=true:=by simpa using hie
   clear hie
   go_wp2_with fail
   go_ret
   exact ⟨rfl,F,_,H2.out.below HB5.out,Stp.below (Stp.below (Stp.refl _ _) HB2.out) HB5.out⟩
 ·have e1:R=(s,fe):=by rw [<-hR.out];unfold ydn;rw [HF.out,if_pos hfe]
  subst e1;have hfe':(fe != 0)=true:=by simpa using hfe
  clear hfe
  go_wp2_with fail
  go_ret
  exact ⟨rfl,F,V,H2.out,Stp.below (Stp.refl _ _) HB2.out⟩
end
theorem yqd {bs:List Int} {c d k am:Int} {s:List Int×Int×Int×Int} (h:yh2 bs c d k am=s) (h0:s.2.2.2=0):s.1.length=bs.length:= by
 subst h;unfold yh2 at h0 ⊢
 split
 ·rename_i h1;rw [if_pos h1] at h0;exact absurd h0 h1
 ·rename_i h1
  rw [if_neg h1] at h0
  split
  ·simp
  ·rename_i h2;rw [if_neg h2] at h0;simp at h0
theorem yof {a b:List Int} (h:b.length=a.length):(subL a b).length=a.length:= by
 unfold subL;rw [List.length_zipWith];omega
theorem ywg {bs rates:List Int} {c d k am:Int} {s:List Int×Int×Int×Int} (h:ytl bs c d rates k am=s) (h0:s.2.2.2=0):s.1.length=bs.length:= by
 subst h;unfold ytl at h0 ⊢
 split
 ·rename_i h1;rw [if_pos h1] at h0;exact absurd h0 h1
 ·rename_i h1
  rw [if_neg h1] at h0
  split
  ·rename_i h2;rw [if_pos h2] at h0;simp at h0
  ·rename_i h2
   rw [if_neg h2] at h0
   split
   ·exact yof (ya7 _ _ _)
   ·rename_i h3;rw [if_neg h3] at h0;simp at h0
theorem ywz {bs rates:List Int} {c d am:Int} {s:List Int×Int×Int×Int} (h:payS bs c d rates am=s) (h0:s.2.2.2=0):s.1.length=bs.length:= by
 subst h;unfold payS at h0 ⊢
 split
 ·rename_i h1;rw [if_pos h1] at h0;exact absurd h0 h1
 ·rename_i h1
  rw [if_neg h1] at h0
  split
  ·rename_i h2;rw [if_pos h2] at h0;exact absurd h0 h2
  ·rename_i h2
   rw [if_neg h2] at h0
   split
   ·refine yof ?_
    unfold payR
    split
    ·unfold addL pay2 pay1
     rw [List.length_zipWith,ya7,ya7,yb3];omega
    ·rename_i h3
     unfold payR at h2;rw [if_neg h3] at h2;simp at h2
   ·rename_i h3;rw [if_neg h3] at h0;simp at h0
theorem yk9 {p:Ps} {rs:List Int} {x:R5} {R:Ps×List Int×Int} (h:ybi p rs x=R) (h0:R.2.2=0):R.1.bs.length=p.bs.length/\R.2.1.length=rs.length:= by
 subst h;unfold ybi at h0 ⊢
 split
 ·rename_i h1;rw [if_pos h1] at h0;simp at h0
 ·rename_i h1
  rw [if_neg h1] at h0
  split
  ·rename_i h2;rw [if_pos h2] at h0;exact absurd h0 h2
  ·rename_i h2
   have h3:(posS p rs x).2.2.2=0:=by simpa using h2
   refine ⟨?_,?_⟩
   ·show (posS p rs x).1.length=_
    unfold posS at h3 ⊢
    split
    ·rename_i h4;rw [if_pos h4] at h3;exact yqd rfl h3
    ·rename_i h4
     rw [if_neg h4] at h3
     split
     ·rename_i h5;rw [if_pos h5] at h3;exact ywz rfl h3
     ·rename_i h5
      rw [if_neg h5] at h3
      split
      ·rename_i h6;rw [if_pos h6] at h3;exact ywg rfl h3
      ·rfl
   ·show (yjc rs x).length=_
    unfold yjc
    split <;> simp
end Go.Proofs.YtkongpjpkpfniaaGreat

/- TopPaid: parts of the proof, made small by a program (mini.py). -/
import Derived.BigQuiet
import Derived.Deep.QuietTactic
import Derived.Test.YtkongpjpkpfniaaGreatM01
import Derived.Test.YtkongpjpkpfniaaGreatM14
import Derived.Test.YtkongpjpkpfniaaGreatM25
import Derived.Test.YtkongpjpkpfniaaGreatM27
import Derived.Test.YtkongpjpkpfniaaGreatM28
import Derived.Test.YtkongpjpkpfniaaGreatM29
set_option linter.unusedVariables false
set_option linter.unusedSimpArgs false
set_option maxRecDepth 100000
set_option maxHeartbeats 6400000
namespace Go.Proofs.YtkongpjpkpfniaaGreat
open Go.RowKit
theorem zq313dc3 {q:Prop} (h:q:= by
 show ((((List.replicate t.ts.length ([]:List Int)).getD k []).length:Nat):Int)=t.start-(ps.getD 0 (0,0)).1;rw [h1];simp [List.getD,hk]):q:=h
theorem zq31fddf {q:Prop} (h:q:= by
 show ((((List.replicate t.ts.length ([]:List Int)).getD k []).length:Nat):Int)=day+1-(ps.getD (s.out++[x]).length (0,0)).1;rw [e1,hn,he];simp [List.getD,hk]):q:=h
theorem zq313bfd {q:Prop} (h:q:= by
 refine ⟨fun b o n c e hn=>?_,fun b o n c e hn=>?_⟩
 ·have h1:=HF1.out b o n c e hn
  simp only [World.size_drew,World.size_alloc] at h1;omega
 ·have h1:=HF2.out b o n c e hn
  simp only [World.size_drew,World.size_alloc] at h1;omega):q:=h
theorem zq31b08b {q:Prop} (h:q:= by
 have k1:=HU6.out;have k2:=HV6.out;have f1:=HF1.out;have f2:=HF2.out;have hz:=HB6.out.size;refine ⟨fun b o n c e hn hm=>?_,fun b o n c e hn hm=>?_⟩
 ·have h1:=f1 b o n c e hn
  rw [e] at k1;have h2:=k1.blt hn;simp only [World.size_drew,World.size_alloc] at h1;simp only [List.mem_cons,List.not_mem_nil,or_false] at hm;omega
 ·have h1:=f2 b o n c e hn
  rw [e] at k2;have h2:=k2.blt hn;simp only [World.size_drew,World.size_alloc] at h1;simp only [List.mem_cons,List.not_mem_nil,or_false] at hm;omega):q:=h
theorem yqd {bs:List Int} {c d k am:Int} {s:List Int×Int×Int×Int} (h:yh2 bs c d k am=s) (h0:s.2.2.2=0):s.1.length=bs.length:= by
 subst h;unfold yh2 at h0 ⊢
 split
 ·rename_i h1;rw [if_pos h1] at h0;exact absurd h0 h1
 ·rename_i h1
  rw [if_neg h1] at h0
  split
  ·simp
  ·rename_i h2;rw [if_neg h2] at h0;simp at h0
theorem yof {a b:List Int} (h:b.length=a.length):(subL a b).length=a.length:= by
 unfold subL;rw [List.length_zipWith];omega
theorem ywg {bs rates:List Int} {c d k am:Int} {s:List Int×Int×Int×Int} (h:ytl bs c d rates k am=s) (h0:s.2.2.2=0):s.1.length=bs.length:= by
 subst h;unfold ytl at h0 ⊢
 split
 ·rename_i h1;rw [if_pos h1] at h0;exact absurd h0 h1
 ·rename_i h1
  rw [if_neg h1] at h0
  split
  ·rename_i h2;rw [if_pos h2] at h0;simp at h0
  ·rename_i h2
   rw [if_neg h2] at h0
   split
   ·exact yof (ya7 _ _ _)
   ·rename_i h3;rw [if_neg h3] at h0;simp at h0
theorem ywz {bs rates:List Int} {c d am:Int} {s:List Int×Int×Int×Int} (h:payS bs c d rates am=s) (h0:s.2.2.2=0):s.1.length=bs.length:= by
 subst h;unfold payS at h0 ⊢
 split
 ·rename_i h1;rw [if_pos h1] at h0;exact absurd h0 h1
 ·rename_i h1
  rw [if_neg h1] at h0
  split
  ·rename_i h2;rw [if_pos h2] at h0;exact absurd h0 h2
  ·rename_i h2
   rw [if_neg h2] at h0
   split
   ·refine yof ?_
    unfold payR
    split
    ·unfold addL pay2 pay1
     rw [List.length_zipWith,ya7,ya7,yb3];omega
    ·rename_i h3
     unfold payR at h2;rw [if_neg h3] at h2;simp at h2
   ·rename_i h3;rw [if_neg h3] at h0;simp at h0
theorem yk9 {p:Ps} {rs:List Int} {x:R5} {R:Ps×List Int×Int} (h:ybi p rs x=R) (h0:R.2.2=0):R.1.bs.length=p.bs.length∧R.2.1.length=rs.length:= by
 subst h;unfold ybi at h0 ⊢
 split
 ·rename_i h1;rw [if_pos h1] at h0;simp at h0
 ·rename_i h1
  rw [if_neg h1] at h0
  split
  ·rename_i h2;rw [if_pos h2] at h0;exact absurd h0 h2
  ·rename_i h2
   have h3:(posS p rs x).2.2.2=0:=by simpa using h2
   refine ⟨?_,?_⟩
   ·show (posS p rs x).1.length=_
    unfold posS at h3 ⊢
    split
    ·rename_i h4;rw [if_pos h4] at h3;exact yqd rfl h3
    ·rename_i h4
     rw [if_neg h4] at h3
     split
     ·rename_i h5;rw [if_pos h5] at h3;exact ywz rfl h3
     ·rename_i h5
      rw [if_neg h5] at h3
      split
      ·rename_i h6;rw [if_pos h6] at h3;exact ywg rfl h3
      ·rfl
   ·show (yjc rs x).length=_
    unfold yjc
    split <;> simp
section
theorem ytb (w:World):(binOp BinOp.neq 129 Value.nilFunc Value.nilFunc).run Tryz.prog w=.ok (.bool false) w:=by kernel_rfl
attribute [local go_sem] ytb
def ja2 (lo g:Nat) (t:Tm) (l:List R5) (day:Int) (s:RS) (k:Nat) (p:Ps) (rs:List Int) (e:Int) (F:List Nat) (w:World) (x:Ending) (w':World):Prop:=yv7 (iV e) lo g t l day (⟨k,p,rs,s.X,s.Y,s.out⟩:RS) F w x w'
theorem ys5 (lo g:Nat) (t:Tm) (l:List R5) (day:Int) (s:RS) (F:List Nat) (V:RV) (hl:l.length≤10000) (hat:s.at'≤l.length) (hbl:s.p.bs.length≤1000) (hrl:s.rs.length≤1000) (kf:Nat) (pf:Ps) (rf:List Int) (ef:Int) (hR:Hid (evS l day (l.length-s.at') s.at' s.p s.rs=(kf,pf,rf,ef))) (w:World) (h:yb2 lo g t l day s F w V) :
 Calls Tryz.prog 90 #[pV g] w (ja2 lo g t l day s kf pf rf ef F w):= by
 have H0:=lh h;have HLL:=lh (And.intro hl (And.intro hat (And.intro hbl hrl)));clear h hl hat hbl hrl
 go_enter Tryz.func90,Tryz.ntmps90
 go_wp2_with fail
 go_loopg [] (l.length-s.at') (fun gg wr=>∃(k:Nat) (p:Ps) (rs:List Int) (F':List Nat) (V':RV),k+gg=l.length∧Hid (yb2 lo g t l day (⟨k,p,rs,s.X,s.Y,s.out⟩:RS) F' wr V')∧Hid (Stp F w F' wr)∧Hid (evS l day gg k p rs=(kf,pf,rf,ef))∧Hid (p.bs.length≤1000∧rs.length≤1000))
 case atStart=>exact ⟨s.at',s.p,s.rs,F,V,by have:=HLL.out.2.1;omega,H0,Stp.refl _ _,hR,HLL.out.2.2⟩
 case round =>
  obtain ⟨k,p,rs,F',V',hkg,HX,HST,HEV,HLB⟩:=hrel;have HKG:=lh hkg;have hl:=HLL.out.1;obtain ⟨WX,hWX⟩:∃WX,WX=wr:=⟨_,rfl⟩;subst hWX;obtain ⟨tv,lv,pv,rv,xv,yv,ov,bx,bz,xs,ys,vs⟩:=V';obtain ⟨lo',ec,rfl⟩:=HX.out.rd.now.2.1.shape;obtain ⟨po,pc,rfl⟩:=HX.out.rd.now.2.2.1.shape;obtain ⟨ro,rc,rfl⟩:=HX.out.rd.now.2.2.2.1.shape;have kg:=HX.out.blk.lt;cases gk with
  | zero =>
   have hlt:¬((k:Int)<(l.length:Int)):=by omega
   have HS0:Hid (∀W',Below WX.heap.size WX W'→W'.cell? ⟨g,8,none⟩=some (iV (k:Int))∧W'.cell? ⟨g,7,none⟩=some (.slice lo' l.length ec)∧W'.cell? ⟨g,9,none⟩=some (iV day)):=fun W' hb=>by
    have q:=HX.out.blk.below hb;exact ⟨q.cell 8,q.cell 7,q.cell 9⟩
   have hs0:=HS0.out WX bR;have hsd:=HS0.out WX.drew (yaf bR);unfold evS at HEV;have hev:=HEV.out;simp only [Prod.mk.injEq] at hev;obtain ⟨rfl,rfl,rfl,rfl⟩:=hev;clear hkg;have hdf:decide ((k:Int)<(l.length:Int))=false:=decide_eq_false hlt;obtain ⟨q1,q2,q3⟩:=hs0;go_upto_region 1 with fail
   go_quiet (fail)
   go_wp2_with fail
   go_ret
   exact ⟨rfl,F',_,HX.out.below (yfn bR _),HST.out.below (yfn bR _)⟩
  | succ gg =>
   have hlt:(k:Int)<(l.length:Int):=by omega
   have hk0:(0:Int)≤(k:Int):=by omega
   obtain ⟨eb,eo,x,e1,⟨d0,d1,d2,d3,d4⟩,HXX⟩:=HX.out.rd.now.2.1.get (i:=k) om;subst e1;have HD:=lh (And.intro d0 (And.intro d1 (And.intro d2 (And.intro d3 d4))))
   have cd:∀W',Below WX.heap.size WX W'→W'.cell? ⟨eb,eo+k*5,none⟩=some (iV x.a)∧W'.cell? ⟨eb,eo+k*5+1,none⟩=some (iV x.b)∧W'.cell? ⟨eb,eo+k*5+2,none⟩=some (iV x.c)∧W'.cell? ⟨eb,eo+k*5+3,none⟩=some (iV x.d)∧W'.cell? ⟨eb,eo+k*5+4,none⟩=some (iV x.e):=fun W' hb=>by
    have cc:∀o y,WX.cell? ⟨eb,o,none⟩=some y→W'.cell? ⟨eb,o,none⟩=some y:=fun o y hx=>(hb.cell (p:=⟨eb,o,none⟩) (yac hx)).trans hx;exact ⟨cc _ _ d0,cc _ _ d1,cc _ _ d2,cc _ _ d3,cc _ _ d4⟩
   have CD:=lh cd
   have HS1:Hid (∀W',Below WX.heap.size WX W'→W'.cell? ⟨g,8,none⟩=some (iV (k:Int))∧W'.cell? ⟨g,7,none⟩=some (.slice (some ⟨eb,eo,none⟩) l.length ec)∧W'.cell? ⟨g,9,none⟩=some (iV day)∧W'.cell? ⟨eb,eo+k*5+1,none⟩=some (iV x.b)):=fun W' hb=>by
    have q:=HX.out.blk.below hb;exact ⟨q.cell 8,q.cell 7,q.cell 9,(cd W' hb).2.1⟩
   have hs1:=HS1.out WX bR;have hsd:=HS1.out WX.drew (yaf bR);clear d0 d1 d2 d3 d4 cd hkg;unfold evS at HEV;have hev:=HEV.out;rw [HXX.out] at hev
   by_cases hxb:x.b=day
   ·have hxe:(x.b == day)=true:=by simpa using hxb
    rw [if_pos hxb] at hev;have HEV2:=lh hev;clear hev HEV hxb;go_upto_region 1 with fail
    go_region_held3 (fun W'=>W'.cell? ⟨g,8,none⟩=some (iV (k:Int))∧W'.cell? ⟨g,7,none⟩=some (.slice (some ⟨eb,eo,none⟩) l.length ec)∧W'.cell? ⟨g,9,none⟩=some (iV day)∧W'.cell? ⟨eb,eo+k*5+1,none⟩=some (iV x.b)) (first | with_reducible exact hs1 | with_reducible exact hsd) (fail)
    obtain ⟨W3,hW3,HX3,HBX3⟩:∃W3,(WX.alloc (.cells #[.slice po p.bs.length pc,iV p.c,iV p.d] 35)).drew=W3∧Hid (yb2 lo g t l day (⟨k,p,rs,s.X,s.Y,s.out⟩:RS) F' W3 { tv:=tv,lv:=.slice (some ⟨eb,eo,none⟩) l.length ec,pv:=.slice po p.bs.length pc,rv:=.slice ro rs.length rc,xv:=xv,yv:=yv,ov:=ov,bx:=bx,bz:=bz,xs:=xs,ys:=ys,vs:=vs })∧Hid (Below WX.heap.size WX W3) :=
     ⟨_,rfl,HX.out.below (yaf (yaa bR _)),yaf (yaa bR _)⟩
    have c10:WX.cell? ⟨g,10,none⟩=some (.slice po p.bs.length pc):=HX.out.blk.cell 10;have c11:WX.cell? ⟨g,11,none⟩=some (iV p.c):=HX.out.blk.cell 11;have c12:WX.cell? ⟨g,12,none⟩=some (iV p.d):=HX.out.blk.cell 12;obtain ⟨R,hRx⟩:∃R,ybi p rs x=R:=⟨_,rfl⟩;have HRX:=lh hRx;clear hRx;have HW3:=lh hW3;clear hW3;go_upto_region 3 with fail
    with_reducible rw [HW3.out]
    clear c10 c11 c12 hsd hs1
    have HRD:Hid (∀W',Below W3.heap.size W3 W'→Sl .i64 W' (.slice po p.bs.length pc) p.bs∧Sl .i64 W' (.slice ro rs.length rc) rs):=fun W' hb=>by
     have k:=HX3.out.rd.now;exact ⟨k.2.2.1.below hb,k.2.2.2.1.below hb⟩
    have HS3:Hid (∀W',Below W3.heap.size W3 W'→(W'.cell? ⟨g,10,none⟩=some (.slice po p.bs.length pc)∧W'.cell? ⟨g,11,none⟩=some (iV p.c)∧W'.cell? ⟨g,12,none⟩=some (iV p.d))∧W'.cell? ⟨g,13,none⟩=some (.slice ro rs.length rc)∧W'.cell? ⟨g,7,none⟩=some (.slice (some ⟨eb,eo,none⟩) l.length ec)∧W'.cell? ⟨g,8,none⟩=some (iV (k:Int))∧W'.cell? ⟨eb,eo+k*5,none⟩=some (iV x.a)∧W'.cell? ⟨eb,eo+k*5+1,none⟩=some (iV x.b)∧W'.cell? ⟨eb,eo+k*5+2,none⟩=some (iV x.c)∧W'.cell? ⟨eb,eo+k*5+3,none⟩=some (iV x.d)∧W'.cell? ⟨eb,eo+k*5+4,none⟩=some (iV x.e)):=fun W' hb=>by
     have q:=HX3.out.blk.below hb;exact ⟨⟨q.cell 10,q.cell 11,q.cell 12⟩,q.cell 13,q.cell 7,q.cell 8,CD.out W' (yad HBX3.out hb)⟩
    have hs3:=HS3.out W3.drew (yaf bR)
    go_cut [4,5,6] (fun s4 s5 s6 wx=>∃b4 u v,s4=pV b4∧s5=v∧s6=iV R.2.2∧Hid (Blk wx b4 35 [u,iV R.1.c,iV R.1.d]∧Sl .i64 wx u R.1.bs∧Sl .i64 wx v R.2.1)∧Hid (W3.heap.size≤b4∧Fr W3 u∧Fr W3 v)∧Hid (Below W3.heap.size W3 wx))
    case first =>
     refine yan (fun W'=>(W'.cell? ⟨g,10,none⟩=some (.slice po p.bs.length pc)∧W'.cell? ⟨g,11,none⟩=some (iV p.c)∧W'.cell? ⟨g,12,none⟩=some (iV p.d))∧W'.cell? ⟨g,13,none⟩=some (.slice ro rs.length rc)∧W'.cell? ⟨g,7,none⟩=some (.slice (some ⟨eb,eo,none⟩) l.length ec)∧W'.cell? ⟨g,8,none⟩=some (iV (k:Int))∧W'.cell? ⟨eb,eo+k*5,none⟩=some (iV x.a)∧W'.cell? ⟨eb,eo+k*5+1,none⟩=some (iV x.b)∧W'.cell? ⟨eb,eo+k*5+2,none⟩=some (iV x.c)∧W'.cell? ⟨eb,eo+k*5+3,none⟩=some (iV x.d)∧W'.cell? ⟨eb,eo+k*5+4,none⟩=some (iV x.e)) 24 kr ?_;refine tk 0 rfl kr ke rfl kv ka kp ?_;refine tk 1 rfl kr ke rfl kv ka kp ?_;refine tk 2 rfl kr ke rfl kv ka kp ?_;refine tk 3 rfl kr ke rfl kv ka kp ?_;refine tk 4 rfl kr ke rfl kv ka kp ?_;refine tk 5 rfl kr ke rfl kv ka kp ?_;refine tk 6 rfl kr ke rfl kv ka kp ?_;refine tk 7 rfl kr ke rfl kv ka kp ?_;refine tk 8 rfl kr ke rfl kv ka kp ?_;refine tk 9 rfl kr ke rfl kv ka kp ?_;refine tk 10 rfl kr ke rfl kv ka kp ?_;refine tk 11 rfl kr ke rfl kv ka kp ?_;refine tk 12 rfl kr ke rfl kv ka kp ?_;refine tk 13 rfl kr ke rfl kv ka kp ?_;refine tk 14 rfl kr ke rfl kv ka kp ?_;refine tk 15 rfl kr ke rfl kv ka kp ?_;refine tk 16 rfl kr ke rfl kv ka kp ?_;refine tk 17 rfl kr ke rfl kv ka kp ?_;refine ybo (rs:=[18,23]) kr (by simp) ?_;refine (yam.cons (o:=⟨_,_,_,_,_,_⟩) rfl (fun K hK=>?_) (yam.cons (o:=⟨_,_,_,_,_,_⟩) rfl (fun K hK=>?_) yam.nil))
     ·go_simp
      refine (yo8 p _ _ rs x R HRX HLB.out.1 HLB.out.2 _ (HRD.out _ bM).1 (HRD.out _ bM).2).mono ?_;rintro _ w6 ⟨u',v',rfl,⟨hu',hf1⟩,⟨hv',hf2⟩,hb6⟩;obtain ⟨ua,uc',rfl⟩:=hu'.shape;have HU6:=lh hu';have HV6:=lh hv';have HF1:=lh hf1;have HF2:=lh hf2;have HB60:=lh hb6;have HB6:Hid (Below W3.heap.size W3 w6):=yad bM hb6;clear hu' hv' hf1 hf2 hb6;have hs6:=HS3.out w6 HB6.out;refine hK.out _ _ (fun hun=>hs6) ?_;clear hK K;try simp only [ap,aq,sa,sb,sc]
      refine tf 19 rfl kr ke rfl kv hs6 kp ?_;refine tf 20 rfl kr ke rfl kv hs6 kp ?_;refine tf 21 rfl kr ke rfl kv hs6 kp ?_;refine tf 22 rfl kr ke rfl kv hs6 kp ?_;refine wo 23 kr rfl fun K hK=>?_;go_simp;refine hK.out _ _ (fun hun=>HS3.out _ bM) ?_;clear hK K;try simp only [ap,aq,sa,sb,sc]
      obtain ⟨U,hU,UB,ULV,UBL⟩:∃U,w6.alloc (.cells #[sZ,iZ,iZ] 35)=U∧Hid (Blk U w6.heap.size 35 [sZ,iZ,iZ])∧Hid (Sl .i64 U (.slice ua R.1.bs.length uc') R.1.bs∧Sl .i64 U v' R.2.1)∧Hid (Below W3.heap.size W3 U) :=
       ⟨_,rfl,yae w6 [sZ,iZ,iZ] _ _ rfl,⟨HU6.out.below (yaa bR _),HV6.out.below (yaa bR _)⟩,yaa HB6.out _⟩
      have UOF:Hid (OffF [w6.heap.size] (.slice ua R.1.bs.length uc')∧OffF [w6.heap.size] v'):= by
       exact zq31b08b
      have UFR:Hid (Fr W3 (.slice ua R.1.bs.length uc')∧Fr W3 v'):= by
       exact zq313bfd
      have UGE:Hid (W3.heap.size≤w6.heap.size):= by
       have hz:=HB6.out.size;show _≤_;omega
      with_reducible rw [hU]
      clear hU;have c0:=UB.out.cell 0;have c1:=UB.out.cell 1;have c2:=UB.out.cell 2;simp only [gz,gs] at c0 c1 c2;have cf0:=UB.out.frozen 0;have cf1:=UB.out.frozen 1;have cf2:=UB.out.frozen 2;have hlt8:=UB.out.lt;refine wo 24 kr rfl fun K hK=>?_;go_simp;refine hK.out _ _ kd ?_;clear hK K;try simp only [ap,aq,sa,sb,sc]
      refine wo 25 kr rfl fun K hK=>?_;go_simp;refine hK.out _ _ kd ?_;clear hK K;try simp only [ap,aq,sa,sb,sc]
      refine wo 26 kr rfl fun K hK=>?_;go_simp;refine hK.out _ _ kd ?_;clear hK K;try simp only [ap,aq,sa,sb,sc]
      clear c0 c1 c2 cf0 cf1 cf2;refine yal kr ?_ _
      go_wp2_with fail
      go_meet
      case rel=>exact ⟨w6.heap.size,_,_,rfl,rfl,rfl,⟨(((UB.out.set 0 _).set 1 _).set 2 _),Sl.keep (F:=[w6.heap.size]) ULV.out.1 (((((yab.refl _ _).sg _).sg _).sg _)) UOF.out.1,Sl.keep (F:=[w6.heap.size]) ULV.out.2 (((((yab.refl _ _).sg _).sg _).sg _)) UOF.out.2⟩,⟨UGE.out,UFR.out.1,UFR.out.2⟩,(((UBL.out.setCell UGE.out _).setCell UGE.out _).setCell UGE.out _)⟩
     ·go_simp
      refine hK.out _ _ (fun hun=>HS3.out _ bM) ?_;clear hK K;try simp only [ap,aq,sa,sb,sc]
      refine wo 18 kr rfl fun K hK=>?_;go_simp;refine (yo8 p _ _ rs x R HRX HLB.out.1 HLB.out.2 _ (HRD.out _ bM).1 (HRD.out _ bM).2).mono ?_;rintro _ w6 ⟨u',v',rfl,⟨hu',hf1⟩,⟨hv',hf2⟩,hb6⟩;obtain ⟨ua,uc',rfl⟩:=hu'.shape;have HU6:=lh hu';have HV6:=lh hv';have HF1:=lh hf1;have HF2:=lh hf2;have HB60:=lh hb6;have HB6:Hid (Below W3.heap.size W3 w6):=yad bM hb6;clear hu' hv' hf1 hf2 hb6;have hs6:=HS3.out w6 HB6.out;refine hK.out _ _ (fun hun=>hs6) ?_;clear hK K;try simp only [ap,aq,sa,sb,sc]
      refine tf 19 rfl kr ke rfl kv hs6 kp ?_;refine tf 20 rfl kr ke rfl kv hs6 kp ?_;refine tf 21 rfl kr ke rfl kv hs6 kp ?_;refine tf 22 rfl kr ke rfl kv hs6 kp ?_
      obtain ⟨U,hU,UB,ULV,UBL⟩:∃U,w6=U∧Hid (Blk U W3.heap.size 35 [sZ,iZ,iZ])∧Hid (Sl .i64 U (.slice ua R.1.bs.length uc') R.1.bs∧Sl .i64 U v' R.2.1)∧Hid (Below W3.heap.size W3 U) :=
       ⟨_,rfl,Blk.below (Blk.below (yae W3 [sZ,iZ,iZ] _ _ rfl) (yaf bR)) HB60.out,⟨HU6.out.below bR,HV6.out.below bR⟩,HB6.out⟩
      have UOF:Hid (OffF [W3.heap.size] (.slice ua R.1.bs.length uc')∧OffF [W3.heap.size] v'):= by
       exact zq31b08b
      have UFR:Hid (Fr W3 (.slice ua R.1.bs.length uc')∧Fr W3 v'):= by
       exact zq313bfd
      have UGE:Hid (W3.heap.size≤W3.heap.size):= by
       have hz:=HB6.out.size;show _≤_;omega
      with_reducible rw [hU]
      clear hU;have c0:=UB.out.cell 0;have c1:=UB.out.cell 1;have c2:=UB.out.cell 2;simp only [gz,gs] at c0 c1 c2;have cf0:=UB.out.frozen 0;have cf1:=UB.out.frozen 1;have cf2:=UB.out.frozen 2;have hlt8:=UB.out.lt;refine wo 24 kr rfl fun K hK=>?_;go_simp;refine hK.out _ _ kd ?_;clear hK K;try simp only [ap,aq,sa,sb,sc]
      refine wo 25 kr rfl fun K hK=>?_;go_simp;refine hK.out _ _ kd ?_;clear hK K;try simp only [ap,aq,sa,sb,sc]
      refine wo 26 kr rfl fun K hK=>?_;go_simp;refine hK.out _ _ kd ?_;clear hK K;try simp only [ap,aq,sa,sb,sc]
      clear c0 c1 c2 cf0 cf1 cf2;refine yal kr ?_ _
      go_wp2_with fail
      go_meet
      case rel=>exact ⟨W3.heap.size,_,_,rfl,rfl,rfl,⟨(((UB.out.set 0 _).set 1 _).set 2 _),Sl.keep (F:=[W3.heap.size]) ULV.out.1 (((((yab.refl _ _).sg _).sg _).sg _)) UOF.out.1,Sl.keep (F:=[W3.heap.size]) ULV.out.2 (((((yab.refl _ _).sg _).sg _).sg _)) UOF.out.2⟩,⟨UGE.out,UFR.out.1,UFR.out.2⟩,(((UBL.out.setCell UGE.out _).setCell UGE.out _).setCell UGE.out _)⟩
    case rest =>
     clear hs3;obtain ⟨b4,u,v,rfl,rfl,rfl,HBB,HNE,HBW⟩:=hcut;obtain ⟨q,rs',er⟩:=R;simp only at HBB;obtain ⟨ua,uc,rfl⟩:=HBB.out.2.1.shape;obtain ⟨va,vc,rfl⟩:=HBB.out.2.2.shape;have HRW:=lh (HX3.out.below HBW.out);have HSTW:Hid (Stp F w F' wc):=(HST.out.below HBX3.out).below HBW.out
     by_cases he:er=0
     ·subst he
      have hlen:=yk9 HRX.out rfl;simp only at hlen;have HLEN:=lh hlen;clear hlen;have d0:=HBB.out.1.cell 0;have d1:=HBB.out.1.cell 1;have d2:=HBB.out.1.cell 2;simp only [gz,gs] at d0 d1 d2;have kg:=HRW.out.blk.lt;have c8:wc.cell? ⟨g,8,none⟩=some (iV (k:Int)):=HRW.out.blk.cell 8;have c10:wc.cell? ⟨g,10,none⟩=some (.slice po p.bs.length pc):=HRW.out.blk.cell 10;have c11:wc.cell? ⟨g,11,none⟩=some (iV p.c):=HRW.out.blk.cell 11;have c12:wc.cell? ⟨g,12,none⟩=some (iV p.d):=HRW.out.blk.cell 12;have c13:wc.cell? ⟨g,13,none⟩=some (.slice ro rs.length rc):=HRW.out.blk.cell 13;have c17:wc.cell? ⟨g,17,none⟩=some .nilFunc:=HRW.out.blk.cell 17;have f8:=HRW.out.blk.frozen 8;have f10:=HRW.out.blk.frozen 10;have f11:=HRW.out.blk.frozen 11;have f12:=HRW.out.blk.frozen 12;have f13:=HRW.out.blk.frozen 13
      go_wp2_with fail
      go_roundg gg
      case measure=>omega
      case rel =>
       have hev:=HEV2.out;rw [HRX.out] at hev;simp only at hev;rw [if_neg (by simp)] at hev;have hk:yab [g] wc (((((wc.setCell ⟨g,10,none⟩ (.slice ua q.bs.length uc)).setCell ⟨g,11,none⟩ (iV q.c)).setCell ⟨g,12,none⟩ (iV q.d)).setCell ⟨g,13,none⟩ (.slice va rs'.length vc)).setCell ⟨g,8,none⟩ (iV (↑k+1))):=(((((yab.refl _ _).sg _).sg _).sg _).sg _).sg _;have hlt:∀x∈F',x<W3.heap.size:=fun x hx=>(HX3.out.lt x hx).2
       have hlo3:lo≤W3.heap.size:= by
        have h1:=HX3.out.lt g HX3.out.gF;omega
       have h:=HRW.out.store hk (k:=k+1) (p:=q) (rs:=rs') (pv:=.slice ua q.bs.length uc) (rv:=.slice va rs'.length vc) (by
        have h1:=((((HRW.out.blk.set 10 (.slice ua q.bs.length uc)).set 11 (iV q.c)).set 12 (iV q.d)).set 13 (.slice va rs'.length vc)).set 8 (iV ((k:Int)+1));exact h1) ((HBB.out.2.1.rd (HNE.out.2.1.off hlt)).and (HBB.out.2.2.rd (HNE.out.2.2.off hlt))) ⟨Hi.of_fr HNE.out.2.1 hlo3,Hi.of_fr HNE.out.2.2 hlo3⟩
       have hst1:Stp F' wc F' (((((wc.setCell ⟨g,10,none⟩ (.slice ua q.bs.length uc)).setCell ⟨g,11,none⟩ (iV q.c)).setCell ⟨g,12,none⟩ (iV q.d)).setCell ⟨g,13,none⟩ (.slice va rs'.length vc)).setCell ⟨g,8,none⟩ (iV (↑k+1))):=⟨hk.mono (fun x hx=>by simp only [ms] at hx;exact hx▸HRW.out.gF),fun _ hx=>.inl hx⟩;exact ⟨k+1,q,rs',F',_,by have:=HKG.out;omega,h,HSTW.out.trans hst1,hev,by rw [HLEN.out.1,HLEN.out.2];exact HLB.out⟩
     ·have her:(er != 0)=true:=by simpa using he
      have hev:=HEV2.out;rw [HRX.out] at hev;simp only at hev;rw [if_pos he] at hev;simp only [Prod.mk.injEq] at hev;obtain ⟨rfl,rfl,rfl,rfl⟩:=hev;clear he
      go_wp2_with fail
      go_ret
      exact ⟨rfl,F',_,HRW.out,HSTW.out⟩
   ·have hxe:(x.b == day)=false:=by simpa using hxb
    rw [if_neg hxb] at hev;simp only [Prod.mk.injEq] at hev;obtain ⟨rfl,rfl,rfl,rfl⟩:=hev;clear HEV hxb;go_upto_region 1 with fail
    go_region_held3 (fun W'=>W'.cell? ⟨g,8,none⟩=some (iV (k:Int))∧W'.cell? ⟨g,7,none⟩=some (.slice (some ⟨eb,eo,none⟩) l.length ec)∧W'.cell? ⟨g,9,none⟩=some (iV day)∧W'.cell? ⟨eb,eo+k*5+1,none⟩=some (iV x.b)) (first | with_reducible exact hs1 | with_reducible exact hsd) (fail)
    go_wp2_with fail
    go_ret
    exact ⟨rfl,F',_,HX.out.below (yaf bR),HST.out.below (yaf bR)⟩
end
structure yg9 (f day:Int) (ps:List (Int×Int)):Prop where
 pos:0<ps.length
 first:(ps.getD 0 (0,0)).1=f
 le:∀i,i<ps.length→(ps.getD i (0,0)).1≤(ps.getD i (0,0)).2
 next:∀i,i+1<ps.length→(ps.getD (i+1) (0,0)).1=(ps.getD i (0,0)).2+1
 early:∀i,i+1<ps.length→(ps.getD i (0,0)).2<day
 last:(ps.getD (ps.length-1) (0,0)).1≤day∧day≤(ps.getD (ps.length-1) (0,0)).2
 range:∀i,i<ps.length → -135140≤(ps.getD i (0,0)).1∧(ps.getD i (0,0)).2≤2932896
theorem yik {cyc day:Int} (k:Nat):∀{f:Int} {ps:List (Int×Int)},ybd cyc day k f=(ps,true)→yg9 f day ps:= by
 induction k with
 | zero=>intro f ps h;simp [ybd] at h
 | succ k ih =>
  intro f ps h
  by_cases h0:(yb8 f cyc).2=0
  ·have hge:=yji h0
   have hle:=ymu f cyc;obtain ⟨l,hl⟩:∃l,yb8 f cyc=(l,0):=⟨(yb8 f cyc).1,by rw [←h0]⟩
   by_cases h1:l<day∧k≠0
   ·rw [ye0 hl h1.1 h1.2] at h
    cases hs:ybd cyc day k (l+1) with
    | mk qs b =>
     rw [hs] at h;simp only [Prod.mk.injEq] at h;obtain ⟨rfl,rfl⟩:=h;have c:=ih hs;have hp:=c.pos;refine ⟨by simp,rfl,fun i hi=>?_,fun i hi=>?_,fun i hi=>?_,?_,fun i hi=>?_⟩
     ·cases i with
      | zero=>simp only [List.getD_cons_zero];rw [hl] at hge;exact hge.1
      | succ i=>simp only [List.getD_cons_succ];exact c.le i (by simpa using hi)
     ·cases i with
      | zero=>simp only [List.getD_cons_succ,List.getD_cons_zero];exact c.first
      | succ i=>simp only [List.getD_cons_succ];exact c.next i (by simpa using hi)
     ·cases i with
      | zero=>exact h1.1
      | succ i=>simp only [List.getD_cons_succ];exact c.early i (by simpa using hi)
     ·simp only [List.length_cons,Nat.add_sub_cancel]
      obtain ⟨m,hm⟩:∃m,qs.length=m+1:=⟨qs.length-1,by omega⟩;rw [hm];simp only [List.getD_cons_succ];have:=c.last;rw [hm] at this;exact this
     ·cases i with
      | zero =>
       simp only [List.getD_cons_zero];rw [hl] at hge hle;exact ⟨hge.2.1,hle⟩
      | succ i=>simp only [List.getD_cons_succ];exact c.range i (by simpa using hi)
   ·rw [yez hl h1] at h
    simp only [Prod.mk.injEq,Bool.and_eq_true,decide_eq_true_eq] at h;obtain ⟨rfl,h2,h3⟩:=h;rw [hl] at hge hle;refine ⟨by simp,rfl,fun i hi=>?_,fun i hi=>?_,fun i hi=>?_,⟨h2,h3⟩,fun i hi=>?_⟩
    ·obtain rfl:i=0:=by simpa using hi
     exact hge.1
    ·simp at hi
    ·simp at hi
    ·obtain rfl:i=0:=by simpa using hi
     exact ⟨hge.2.1,hle⟩
  ·rw [ye3 h0] at h
   cases h
theorem yvz {bs ns:List Int} {c d:Int} {s:List Int×Int×Int×Int} (h:ye7 bs c d ns=s) (h0:s.2.2.2=0):s.1.length=bs.length:= by
 subst h;unfold ye7 at h0 ⊢
 split
 ·rename_i h1;rw [if_pos h1] at h0;simp at h0
 ·rename_i h1
  rw [if_neg h1] at h0
  split
  ·rename_i h2;rw [if_pos h2] at h0;simp at h0
  ·rename_i h2
   rw [if_neg h2] at h0
   split
   ·rename_i h3;rw [if_pos h3] at h0;simp at h0
   ·rename_i h3
    rw [if_neg h3] at h0
    split
    ·exact ye9 _ _ _ _
    ·rename_i h4;rw [if_neg h4] at h0;simp at h0
theorem yls {t:Tm} {n fr til:Int} {p q:Ps} {rs ns:List Int} {g:Bool} {x:St} {e:Int} (h:ycd t n fr til p rs ns g=(some x,q,e)):q.bs.length=p.bs.length:= by
 unfold ycd at h
 split at h
 ·cases h
 split at h
 ·cases h
 split at h
 ·cases h
 split at h
 ·cases h
 ·rename_i h4
  cases h;exact yvz rfl (by simpa using h4)
structure WInv (t:Tm) (l:List R5) (ps:List (Int×Int)) (day:Int) (s:RS):Prop where
 X:s.X.length=t.ts.length
 Y:s.Y.length=t.ts.length
 bs:s.p.bs.length=t.ts.length
 rs:s.rs.length=t.ts.length
 at':s.at'≤l.length
 out:s.out.length<ps.length
 lo:(ps.getD s.out.length (0,0)).1≤day
 hi:day≤(ps.getD s.out.length (0,0)).2
 rowX:∀k,k<t.ts.length→((s.X.getD k []).length:Int)=day-(ps.getD s.out.length (0,0)).1
 rowY:∀k,k<t.ts.length→((s.Y.getD k []).length:Int)=day-(ps.getD s.out.length (0,0)).1
theorem yyl (l:List R5) (day:Int):∀(n k:Nat) (p:Ps) (rs:List Int),k≤(evS l day n k p rs).1∧(evS l day n k p rs).1≤k+n
 | 0,k,p,rs=>⟨Nat.le_refl _,Nat.le_refl _⟩
 | n+1,k,p,rs=>by
  unfold evS
  split
  ·split
   ·exact ⟨Nat.le_refl _,by omega⟩
   ·have:=yyl l day n (k+1) (ybi p rs (l.getD k yax)).1 (ybi p rs (l.getD k yax)).2.1
    omega
  ·exact ⟨Nat.le_refl _,by omega⟩
theorem yup (l:List R5) (day:Int):∀(n k:Nat) (p:Ps) (rs:List Int),(evS l day n k p rs).2.1.bs.length=p.bs.length∧(evS l day n k p rs).2.2.1.length=rs.length
 | 0,k,p,rs=>⟨rfl,rfl⟩
 | n+1,k,p,rs=>by
  unfold evS
  split
  ·split
   ·exact ⟨rfl,rfl⟩
   ·rename_i h
    have h2:=yk9 (p:=p) (rs:=rs) (x:=l.getD k yax) rfl (by simpa using h);have:=yup l day n (k+1) (ybi p rs (l.getD k yax)).1 (ybi p rs (l.getD k yax)).2.1;rw [this.1,this.2,h2.1,h2.2];exact ⟨rfl,rfl⟩
  ·exact ⟨rfl,rfl⟩
theorem WInv.ev {t:Tm} {l:List R5} {ps:List (Int×Int)} {day:Int} {s:RS} (h:WInv t l ps day s):WInv t l ps day (ybh l day s).1:= by
 have h1:=yyl l day (l.length-s.at') s.at' s.p s.rs;have h2:=yup l day (l.length-s.at') s.at' s.p s.rs;refine ⟨h.X,h.Y,h2.1.trans h.bs,h2.2.trans h.rs,?_,h.out,h.lo,h.hi,h.rowX,h.rowY⟩;show (evS l day (l.length-s.at') s.at' s.p s.rs).1≤_;have:=h.at';omega
theorem ygd (X:List (List Int)) (v:List Int):(ye8 X v).length=X.length:=by simp [ye8]
theorem ylu {X:List (List Int)} {v:List Int} {k:Nat} (h:k<X.length):(ye8 X v).getD k []=X.getD k []++[v.getD k 0]:= by
 simp [ye8,List.getD,h]
theorem WInv.endOn {t:Tm} {l:List R5} {ps:List (Int×Int)} {day:Int} {s:RS} (h:WInv t l ps day s) (hne:(ps.getD s.out.length (0,0)).2≠day):WInv t l ps (day+1) (ydh s):= by
 have h1:=h.lo;have h2:=h.hi;refine ⟨(ygd _ _).trans h.X,(ygd _ _).trans h.Y,h.bs,h.rs,h.at',h.out,(show (ps.getD s.out.length (0,0)).1≤day+1 by omega),(show day+1≤(ps.getD s.out.length (0,0)).2 by omega),fun k hk=>?_,fun k hk=>?_⟩
 ·show ((((ye8 s.X s.p.bs).getD k []).length:Nat):Int)=_
  rw [ylu (by rw [h.X];exact hk),List.length_append];have:=h.rowX k hk;simp only [List.length_singleton,ydh];omega
 ·show ((((ye8 s.Y s.rs).getD k []).length:Nat):Int)=_
  rw [ylu (by rw [h.Y];exact hk),List.length_append];have:=h.rowY k hk;simp only [List.length_singleton,ydh];omega
theorem ywo {t:Tm} {l:List R5} {fr til:Int} {s:RS} (h:(ydn t l fr til s).2=0):∃x q,(ydn t l fr til s).1={ s with p:=q,X:=List.replicate t.ts.length [],Y:=List.replicate t.ts.length [],out:=s.out++[x] }∧q.bs.length=s.p.bs.length:= by
 unfold ydn at h ⊢
 split
 ·rename_i h1;rw [if_pos h1] at h;exact absurd h h1
 ·rename_i h1
  rw [if_neg h1] at h
  split
  ·rename_i h2;rw [if_pos h2] at h;exact absurd h h2
  ·rename_i h2
   rw [if_neg h2] at h;cases hc:ycd t ((s.out.length:Int)+1) fr til s.p s.rs (intS t.right t.ts s.X s.Y (yet l s.out fr).1).1 (yet l s.out fr).1 with
   | mk so r =>
    obtain ⟨q,e⟩:=r;rw [hc] at h;cases so with
    | none =>
     have h3:=yek hc;simp only at h;subst h;simp at h3
    | some x=>exact ⟨x,q,rfl,yls hc⟩
theorem WInv.endShut {t:Tm} {l:List R5} {ps:List (Int×Int)} {f day today:Int} {s:RS} (h:WInv t l ps day s) (hc:yg9 f today ps) (hd:day<today) (he:(ps.getD s.out.length (0,0)).2=day) (fr:Int) (h0:(ydn t l fr day (ydh s)).2=0):WInv t l ps (day+1) (ydn t l fr day (ydh s)).1:= by
 obtain ⟨x,q,hs,hq⟩:=ywo h0;rw [hs];have hlast:=hc.last
 have hout:s.out.length+1<ps.length:= by
  rcases Nat.lt_or_ge (s.out.length+1) ps.length with h1 | h1
  ·exact h1
  ·have h2:=h.out
   have e:ps.length-1=s.out.length:=by omega
   rw [e,he] at hlast;omega
 have hn:=hc.next s.out.length hout;have hl:=hc.le (s.out.length+1) hout;have e1:(s.out++[x]).length=s.out.length+1:=by simp
 refine ⟨by simp,by simp,hq.trans h.bs,h.rs,h.at',?_,?_,?_,fun k hk=>?_,fun k hk=>?_⟩
 ·show (s.out++[x]).length<_
  omega
 ·show (ps.getD (s.out++[x]).length (0,0)).1≤_
  rw [e1,hn,he];omega
 ·show _≤(ps.getD (s.out++[x]).length (0,0)).2
  rw [e1];rw [hn,he] at hl;exact hl
 ·exact zq31fddf
 ·exact zq31fddf
theorem WInv.rows {t:Tm} {l:List R5} {ps:List (Int×Int)} {f day today:Int} {s:RS} (h:WInv t l ps day s) (hc:yg9 f today ps):∀k,k<t.ts.length→(s.X.getD k []).length≤4000000∧(s.Y.getD k []).length≤4000000:=fun k hk=>by
 have h1:=h.rowX k hk;have h2:=h.rowY k hk;have h3:=hc.range _ h.out;have h4:=h.hi;omega
theorem WInv.first {t:Tm} {l:List R5} {ps:List (Int×Int)} {today:Int} (hc:yg9 t.start today ps):WInv t l ps t.start (rs0 t):= by
 have h1:=hc.first
 have h2:=hc.le 0 hc.pos;refine ⟨by simp [rs0],by simp [rs0],by simp [rs0],by simp [rs0],Nat.zero_le _,hc.pos,?_,?_,fun k hk=>?_,fun k hk=>?_⟩
 ·show (ps.getD 0 (0,0)).1≤_
  omega
 ·show _≤(ps.getD 0 (0,0)).2
  omega
 ·exact zq313dc3
 ·exact zq313dc3
end Go.Proofs.YtkongpjpkpfniaaGreat

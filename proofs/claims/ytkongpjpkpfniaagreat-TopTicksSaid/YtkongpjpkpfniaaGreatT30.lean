/- TopTicks: parts of the proof, made small by a program (mini.py). -/
import Derived.Laws.ResultCell
import Derived.Deep.MidRow
import Derived.Test.YtkongpjpkpfniaaGreatT01
import Derived.Test.YtkongpjpkpfniaaGreatT07
import Derived.Test.YtkongpjpkpfniaaGreatT08
import Derived.Test.YtkongpjpkpfniaaGreatT10
import Derived.Test.YtkongpjpkpfniaaGreatT29
set_option linter.unusedVariables false
set_option linter.unusedSimpArgs false
set_option maxRecDepth 100000
set_option maxHeartbeats 6400000
namespace Go.Proofs.YtkongpjpkpfniaaGreat
open Go.RowKit
theorem zq3000ec {q:Prop} (h:q:= by
 by_cases e2:i<k/\st i=1
 ·rw [if_pos e2,if_pos ⟨by omega,e2.2⟩]
 ·rw [if_neg e2,if_neg (fun h=>e2 ⟨by omega,h.2⟩)]):q:=h
theorem yka {w:World} {base:Nat} {e:TypeId} {m n:Nat} {v:Value} {cs:List Value} (h:w.ownsRow base e m v n cs):IsSl v:= by
 obtain ⟨_,⟨rfl,_⟩ | ⟨_,_,_,rfl,_⟩⟩:=h
 ·exact ⟨_,_,_,rfl⟩
 ·exact ⟨_,_,_,rfl⟩
def ja4 (c:R5) (w:World) (e:Ending) (w':World):Prop:=∃u,e=.returned u/\w'.ownsRow w.heap.size 5 1 u (ye4 [] [c.a,c.b,c.c,c.d,c.e] 5).length ((ye4 [] [c.a,c.b,c.c,c.d,c.e] 5).map (Value.int .u8))/\BW w w'
theorem ypx (c:R5) (w:World):Calls Tryz.prog 62 #[.agg #[iV c.a,iV c.b,iV c.c,iV c.d,iV c.e]] w (ja4 c w):= by
 go_enter Tryz.func62,Tryz.ntmps62
 go_wp2_with fail
 refine (yqb _ _ [] [c.a,c.b,c.c,c.d,c.e] w.heap.size _ (World.ownsRow_nil _ _ _ _) (fun W hW=>Sl.litG [c.a,c.b,c.c,c.d,c.e] 5 hW rfl rfl (by decide) (World.size_alloc _ _) (by simp [Value.ownBlock])) (by simp only [World.size_alloc];omega) (by simp)).mono ?_;rintro _ w2 ⟨u,rfl,ho,hg,_⟩;obtain ⟨uo,un,uc,rfl⟩:=yka ho
 go_wp2_with fail
 go_ret
 exact ⟨_,rfl,ho,(yaa (yaa bR _) _).trans (bR.grown hg (by simp only [World.size_alloc];omega) (fun k hk=>by cases hk))⟩
theorem ya6.lowerB {w:World} {base base' g:Nat} {dv:Value} {b:Bk} (h:ya6 w base g dv b) (hb:base'<=base):ya6 w base' g dv b:=⟨Nat.le_trans hb h.1,h.2.1,yco h.2.2 hb⟩
theorem ybe.ones {lo g:Nat} {A:Acc} {F:List Nat} {w:World} {V:AV} (h:ybe lo g A F w V):(ybu A V).toArray.all (·.oneCell')=true:= by
 obtain ⟨_,_,h1⟩:=h.rd.now.1.shape;obtain ⟨_,_,h2⟩:=h.rd.now.2.2.2.1.shape;obtain ⟨_,_,h3⟩:=h.rd.now.2.2.2.2.1.shape;obtain ⟨_,_,h4⟩:=h.rd.now.2.2.2.2.2.1.2.shape;obtain ⟨_,_,_,h5⟩:=yka h.iss;obtain ⟨_,_,_,_,h0⟩:=h.adj;obtain ⟨_,_,_,h6⟩:=yka h0;simp [ybu,h1,h2,h3,h4,h5,h6,Value.oneCell']
theorem yr9:(Tryz.prog.info? 89).map (·.size)=some 18:=by kernel_rfl
theorem ja3 (A:Acc) (V:AV):(ybu A V).toArray.size=18:=rfl
theorem yvp {ops:Array Oper} {rest:List Oper} {o:Oper} {a:Act} {w:World} {Q:Exit->Act->World->Prop} (hgd:o.guard=none) (x y:Operand) (ho:o.op=.store 89 x y)
 (hd:o.dst=none) (g:Nat) (cells:Array Value) (hx:a.eval x=pV g) (hy:a.eval y=.agg cells) (old:Array Value) (hg:w.heap[g]?=some (.cells old 89 (0,0))) (hs:cells.size=18) (hs2:old.size=18)
 (h1:cells.all (·.oneCell')=true) (h:wpList Tryz.prog ops Q rest a (w.setRow g cells)):wpList Tryz.prog ops Q (o::rest) a w :=
 wpList_store_rowTo hgd 89 x y ho hd g cells hx hy 89 old hg (by rw [yr9,hs]) (by rw [hs,hs2]) h1 h
def yvn (A:Acc) (V:AV) (B G:Nat) (W3:World) (W:World):Prop:=∃gl u gb dv,Blk W G 89 (ybu A { V with gl:=gl,lev:=u,gb:=gb,dv:=dv })/\ybn W gl A.t V.ltv u A.ev/\W.ownsRow B 150 5 u A.ev.length (yag A.ev)/\B<=gl/\ya6 W B gb dv A.bk/\Below B W3 W
theorem yzm {W:World} {B G m n:Nat} {e t:TypeId} {u:Value} {cs cur:List Value} (ho:W.ownsRow B e m u n cs) (hG:Blk W G t cur) (hne:t≠e):OffF [G] u:=fun b o k c e1 _ hm=>by
 simp only [ms] at hm;subst hm e1;exact yaj ho hG hne rfl
theorem yl8 {W W':World} {gl B G:Nat} {t:Tm} {tv u:Value} {l:List R5} {cur:List Value} (hl:ybn W gl t tv u l) (ho:W.ownsRow B 150 5 u l.length (yag l)) (hG:Blk W G 89 cur) (ht:OffF [G] tv) (hk:yab [G] W W'):ybn W' gl t tv u l/\W'.ownsRow B 150 5 u l.length (yag l) :=
 ⟨hl.keep hk (by simp only [ms];exact ybs hl.1 hG (by decide)) ht (yzm ho hG (by decide)),yap ho hk (fun q hq hm=>by
  simp only [ms] at hm;subst hm;exact yaj ho hG (by decide) hq.symm)⟩
theorem ymi {W W':World} {gb B G:Nat} {dv:Value} {b:Bk} {cur:List Value} (hd:ya6 W B gb dv b) (hG:Blk W G 89 cur) (hk:yab [G] W W'):ya6 W' B gb dv b :=
 ⟨hd.1,hd.2.1.keep hk (by simp only [ms];exact ybs hd.2.1 hG (by decide)),yap hd.2.2 hk (fun q hq hm=>by
  simp only [ms] at hm;subst hm;exact yaj hd.2.2 hG (by decide) hq.symm)⟩
theorem yx6 {A:Acc} {V:AV} {w W3 W5:World} {gl gb:Nat} {u dv:Value} (h3:Blk W3 w.heap.size 89 (ybu A V)) (hb3:BW w W3) (h5:BW W3 W5) (hl:ybn W5 gl A.t V.ltv u A.ev) (ho:W5.ownsRow w.heap.size 150 5 u A.ev.length (yag A.ev)) (hge:w.heap.size<=gl) (hd:ya6 W5 w.heap.size gb dv A.bk) (ht:OffF [w.heap.size] V.ltv) :
 yvn A V w.heap.size w.heap.size W3 ((W5.setCell (Ad w.heap.size 9) (pV gl)).setCell (Ad w.heap.size 10) (pV gb)):= by
 have hk:yab [w.heap.size] W5 ((W5.setCell (Ad w.heap.size 9) (pV gl)).setCell (Ad w.heap.size 10) (pV gb)):=((yab.refl _ _).sg _).sg _;have hG:=h3.below h5;obtain ⟨k1,k2⟩:=yl8 hl ho hG ht hk;exact ⟨gl,u,gb,dv,(hG.set 9 _).set 10 _,k1,k2,hge,ymi hd hG hk,(h5.mono hb3.size).trans (hk.to_below (Nat.le_trans hb3.size h5.size) (fun x hx=>by simp only [ms] at hx;omega))⟩
def ywh (A:Acc) (F0:List Nat) (w:World) (e:Ending) (w':World):Prop:=∃g F V,e=.returned (pV g)/\ybe w.heap.size g A F w' V/\(∀L,(∀x∈L,x∈F0)->Rd (L++F) w' (jai A V))/\BW w w'
theorem yxg {lo g:Nat} {A:Acc} {F:List Nat} {w w':World} {V:AV} (h:ybe lo g A F w V) {gl gb n:Nat} {u dv iv av:Value} {cs:List Value} (hge:w.heap.size<=gl) (hB:BW w w') (hG:Blk w' w.heap.size 89 (ybu A { V with gl:=gl,lev:=u,gb:=gb,dv:=dv,iv:=iv,av:=av }))
 (hl:ybn w' gl A.t V.ltv u A.ev) (ho:w'.ownsRow w.heap.size 150 5 u A.ev.length (yag A.ev)) (hd:ya6 w' w.heap.size gb dv A.bk)
 (hi:w'.ownsRow w.heap.size 43 9 iv A.iss.length (yay A.iss V.ivs)) (ha:w'.ownsRow w.heap.size 175 9 av n cs) (hn:n<=A.seq.toNat*400000) (h1:∀c∈cs,c.oneCell'=true) :
 ywh A F w (.returned (pV w.heap.size)) w':= by
 have hmem:∀x∈w.heap.size::(iv.ownBlock.toList++av.ownBlock.toList),x=w.heap.size\/iv.ownBlock=some x\/av.ownBlock=some x:=fun x hx=>by
  simp only [List.mem_cons,List.mem_append,Option.mem_toList] at hx;exact hx
 have hlt:∀x∈w.heap.size::(iv.ownBlock.toList++av.ownBlock.toList),w.heap.size<=x/\x<w'.heap.size:=fun x hx=>by
  rcases hmem x hx with rfl | e | e
  ·exact ⟨Nat.le_refl _,hG.lt⟩
  ·exact hi.lt _ e
  ·exact ha.lt _ e
 have key:∀L,(∀x∈L,x∈F)->Rd (L++(w.heap.size::(iv.ownBlock.toList++av.ownBlock.toList))) w' (jai A { V with gl:=gl,lev:=u,gb:=gb,dv:=dv,iv:=iv,av:=av }):=fun L hL W hW=>by
  have hold:∀x∈L,x<w.heap.size:=fun x hx=>(h.lt x (hL x hx)).2
  have q:=h.rd W (((yab.of_below hB:yab L w w').trans hW (fun x hx=>by
   rcases List.mem_append.1 hx with h1 | h1
   ·exact .inl h1
   ·exact .inr (hlt x h1).1)).mono hL)
  have hin:∀x,w.heap.size<=x->x∈L++(w.heap.size::(iv.ownBlock.toList++av.ownBlock.toList))->x=w.heap.size\/iv.ownBlock=some x\/av.ownBlock=some x:=fun x h1 hx=>by
   rcases List.mem_append.1 hx with h2 | h2
   ·have:=hold x h2
    omega
   ·exact hmem x h2
  refine ⟨q.1,⟨hl.1.keep hW (fun hm=>?_),q.2.1.2.1,hl.2.2.keep hW (fun b o k c e1 _ hm=>?_)⟩,ya6.rd hd (fun hm=>?_) (fun r hr hm=>?_) W hW,q.2.2.2.1,q.2.2.2.2.1,q.2.2.2.2.2.1,q.2.2.2.2.2.2⟩
  ·rcases hin _ hge hm with e | e | e
   ·exact ybs hl.1 hG (by decide) e
   ·exact yaj hi hl.1 (by decide) e.symm
   ·exact yaj ha hl.1 (by decide) e.symm
  ·subst e1
   rcases hin _ (ho.lt _ rfl).1 hm with e | e | e
   ·subst e
    exact yaj ho hG (by decide) rfl
   ·exact yfe ho hi (by decide) rfl e
   ·exact yfe ho ha (by decide) rfl e
  ·rcases hin _ hd.1 hm with e | e | e
   ·exact ybs hd.2.1 hG (by decide) e
   ·exact yaj hi hd.2.1 (by decide) e.symm
   ·exact yaj ha hd.2.1 (by decide) e.symm
  ·rcases hin _ (hd.2.2.lt _ hr).1 hm with e | e | e
   ·subst e
    exact yaj hd.2.2 hG (by decide) hr.symm
   ·exact yfe hd.2.2 hi (by decide) hr e
   ·exact yfe hd.2.2 ha (by decide) hr e
 refine ⟨_,w.heap.size::(iv.ownBlock.toList++av.ownBlock.toList),_,rfl,⟨hG,List.mem_cons_self ..,hlt,key [] (fun x hx=>by cases hx),hi,fun q hq=>?_,⟨n,cs,hn,h1,ha⟩,fun q hq=>?_⟩,key,hB⟩
 ·simp [hq]
 ·simp [hq]
theorem yqs (lo g:Nat) (A:Acc) (hA:ycy A) (hq:A.seq<=1000) (F:List Nat) (V:AV) (w:World) (h:ybe lo g A F w V) :
 Calls Tryz.prog 48 #[pV g] w (ywh A F w):= by
 have H:=lh h;have HOK:=lh hA;have HQ:=lh hq;have HRG:Hid (w.rangeAt g 0 (ybu A V)):=fun j v hv=>by rw [Nat.zero_add,h.blk.cell];exact hv
 obtain ⟨W3,hW3,HG3,HB3⟩:∃W,(w.alloc (.cells #[iZ,sZ,iZ,iZ,iZ,iZ,iZ,iZ,iZ,.pointer none,.pointer none,sZ,iZ,iZ,sZ,sZ,sZ,sZ] 89)).setRow w.heap.size (ybu A V).toArray=W/\Hid (Blk W w.heap.size 89 (ybu A V))/\Hid (BW w W):=⟨_,rfl,ycu (yae w [iZ,sZ,iZ,iZ,iZ,iZ,iZ,iZ,iZ,.pointer none,.pointer none,sZ,iZ,iZ,sZ,sZ,sZ,sZ] _ _ rfl) _,ybl (yaa bR _) (Nat.le_refl _) _⟩;have HOFF:Hid (OffF [w.heap.size] V.ltv):=Fl.offNew h.rd.now.2.1.2.1.fl om (fun x hx=>by simp only [ms] at hx;omega);have HGL:Hid (g<w.heap.size):=h.blk.lt;clear h hA hq
 go_enter Tryz.func48,Tryz.ntmps48
 go_upto_region 4 with (first | (with_reducible refine wpList_load_mid rfl 89 (.tmp 7) rfl g 0 rfl (ybu A V) _ HRG.out Tryz.underlying89 rfl (yr9.trans rfl) ?_) | (with_reducible refine yvp rfl (.tmp 3) (.tmp 8) rfl rfl w.heap.size (ybu A V).toArray rfl rfl _ (heap_alloc_new _ _) (ja3 A V) rfl H.out.ones ?_))
 with_reducible rw [hW3]
 clear hW3;have H3:Hid (ybe lo g A F W3 V):=H.out.below HB3.out;have HS:Hid (∀W',BW W3 W'->Ce W' g 9 (pV V.gl)/\Ce W' g 10 (pV V.gb)):=fun W' hW=>⟨((H3.out.below hW).blk.cell 9),((H3.out.below hW).blk.cell 10)⟩;have hsd:=HS.out W3.drew (yaf bR)
 go_cut [3] (fun s3 wx=>s3=pV w.heap.size/\yvn A V w.heap.size w.heap.size W3 wx)
 case first =>
  refine yan (fun W'=>Ce W' g 9 (pV V.gl)/\Ce W' g 10 (pV V.gb)) 10 kr ?_;refine tK 0 rfl ?_;refine tK 1 rfl ?_;refine tK 2 rfl ?_;refine tK 3 rfl ?_;refine tF 5 rfl ?_;refine tF 6 rfl ?_;refine tF 7 rfl ?_;refine tK 8 rfl ?_;refine wo 4 kr rfl fun K hK=>?_;go_simp;refine (yhx V.gl A.t V.ltv V.lev A.ev _ (H3.out.below (yaf bR)).rd.now.2.1 (by have:=HOK.out.goods.len;omega)).mono ?_;rintro _ w4 ⟨gl',u,rfl,hl,hu,hge,hb⟩;have HL:=lh (And.intro hl (And.intro hu hge));have HBA:Hid (BW W3 w4):=yad (yaf bR) hb;have HBL:=lh hb;have hsw4:=HS.out w4 HBA.out;clear hl hu hge hb;refine hK.out _ _ (fun hun=>hsw4) ?_;clear hK K;try simp only [ap,aq,sa,sb,sc]
  refine wo 9 kr rfl fun K hK=>?_;go_simp;refine (yi6 0 V.gb V.dv A.bk _ (H3.out.below (HBA.out)).rd.now.2.2.1 (by have:=HOK.out.bkl;omega)).mono ?_;rintro _ w5 ⟨gb',dv',rfl,hd,hb⟩;have HD:=lh hd;have HBB:Hid (BW W3 w5):=yad (HBA.out) hb;have HBD:=lh hb;have hsw5:=HS.out w5 HBB.out;clear hd hb;refine hK.out _ _ (fun hun=>hsw5) ?_;clear hK K;try simp only [ap,aq,sa,sb,sc]
  obtain ⟨W5,hW5,L5,D5,B5⟩:∃W,w5=W/\Hid (ybn W gl' A.t V.ltv u A.ev/\W.ownsRow w.heap.size 150 5 u A.ev.length (yag A.ev)/\w.heap.size<=gl')/\Hid (ya6 W w.heap.size gb' dv' A.bk)/\Hid (BW W3 W):=⟨_,rfl,⟨HL.out.1.below HBD.out,yah (yco HL.out.2.1 (by have h1:=HB3.out.size;exact h1)) HBD.out,by have h1:=HB3.out.size;have h2:=HL.out.2.2;exact Nat.le_trans h1 h2⟩,HD.out.lowerB (by have h1:=HB3.out.size;have h2:=HBA.out.size;omega),HBB.out⟩
  with_reducible rw [hW5]
  clear hW5;have G5:Hid (Blk W5 w.heap.size 89 (ybu A V)):=HG3.out.below B5.out;have g9:=G5.out.cell 9;have g9f:=G5.out.frozen 9;have gk:=G5.out.lt;refine wo 10 kr rfl fun K hK=>?_;go_simp;refine hK.out _ _ kd ?_;clear hK K;try simp only [ap,aq,sa,sb,sc]
  refine wo 11 kr rfl fun K hK=>?_;go_simp;refine hK.out _ _ kd ?_;clear hK K;try simp only [ap,aq,sa,sb,sc]
  clear g9 g9f;have G6:Hid (Blk (W5.setCell (Ad w.heap.size 9) (pV gl')) w.heap.size 89 (ybu A { V with gl:=gl',lev:=u })):=G5.out.set 9 _;have g10:=G6.out.cell 10;have g10f:=G6.out.frozen 10;have gk6:=G6.out.lt;refine wo 12 kr rfl fun K hK=>?_;go_simp;refine hK.out _ _ kd ?_;clear hK K;try simp only [ap,aq,sa,sb,sc]
  refine wo 13 kr rfl fun K hK=>?_;go_simp;refine hK.out _ _ kd ?_;clear hK K;try simp only [ap,aq,sa,sb,sc]
  refine yal kr ?_ _;clear g10 g10f gk6
  go_wp2_with fail
  go_meet
  case rel=>exact ⟨rfl,yx6 HG3.out HB3.out B5.out L5.out.1 L5.out.2.1 L5.out.2.2 D5.out HOFF.out⟩
 case rest =>
  clear hsd;obtain ⟨rfl,gl,u,gb,dv,hg,hl,ho,hge,hd,hb⟩:=hcut;obtain ⟨n0,cs0,hn0,h10,h0⟩:=H.out.adj;have HBC:Hid (BW w wc):=HB3.out.trans hb;have HL:=lh (And.intro hl ho);have HGE:Hid (w.heap.size<=gl):=hge;have HD:=lh hd;have HG:=lh hg;have HN:=lh (And.intro hn0 h10);have HAD:Hid (wc.ownsRow lo 175 9 V.av n0 cs0):=(yah h0 HBC.out);have c17:wc.cell? (Ad g 17)=some V.av:=(H.out.below HBC.out).blk.cell 17;clear hg hl ho hge hd hb hn0 h10 h0
  go_wp2_with fail
  refine (jbs V.av n0 cs0 _ (Fl.of_own HAD.out HN.out.2) (by have:=HN.out.1;have:=HQ.out;omega)).mono ?_;rintro _ w7 ⟨av,rfl,hav,hb7⟩;obtain ⟨ao,an,ac,rfl⟩:=yka hav;have HB7:Hid (BW w w7):=HBC.out.trans (hb7.mono HBC.out.size);have HAV:Hid (w7.ownsRow w.heap.size 175 9 (.slice ao an ac) n0 cs0):=yco hav HBC.out.size;have HG7:=lh (HG.out.below hb7);have HL7:Hid (ybn w7 gl A.t V.ltv u A.ev/\w7.ownsRow w.heap.size 150 5 u A.ev.length (yag A.ev)):=⟨HL.out.1.below hb7,yah HL.out.2 hb7⟩;have HD7:=lh (HD.out.below hb7);have k17:=HG7.out.cell 17;have k17f:=HG7.out.frozen 17;have kl:=HG7.out.lt;clear c17 hav hb7;go_upto_region 6 with fail
  obtain ⟨W8,hW8,HG8,HK8⟩:∃W,w7.setCell (Ad w.heap.size 17) (.slice ao an ac)=W/\Hid (Blk W w.heap.size 89 (ybu A { V with gl:=gl,lev:=u,gb:=gb,dv:=dv,av:=.slice ao an ac }))/\Hid (yab [w.heap.size] w7 W):=⟨_,rfl,HG7.out.set 17 _,(yab.refl _ _).sg _⟩
  with_reducible rw [hW8]
  clear hW8 k17 k17f kl;have HL8:=lh (yl8 HL7.out.1 HL7.out.2 HG7.out HOFF.out HK8.out);have HD8:=lh (ymi HD7.out HG7.out HK8.out)
  have HAV8:Hid (W8.ownsRow w.heap.size 175 9 (.slice ao an ac) n0 cs0):=yap HAV.out HK8.out (fun q hq hm=>by
   simp only [ms] at hm;subst hm;exact yaj HAV.out HG7.out (by decide) hq.symm)
  have HB8:Hid (BW w W8):=HB7.out.trans (HK8.out.to_below HB7.out.size (fun x hx=>by simp only [ms] at hx;omega));have c16:W8.cell? (Ad g 16)=some V.iv:=(H.out.below HB8.out).blk.cell 16
  go_wp2_with fail
  refine (yrg V.iv A.iss.length (yay A.iss V.ivs) _ (Fl.of_own (H.out.below HB8.out).iss (LnsS.one (H.out.below HB8.out).rd.now.2.2.2.2.2.2)) (by have h1:=HOK.out.issl;have h2:=HOK.out.outl;omega)).mono ?_;rintro _ w9 ⟨iv,rfl,hiv,hb9⟩;obtain ⟨io,inn,ic,rfl⟩:=yka hiv;have HIV:Hid (w9.ownsRow w.heap.size 43 9 (.slice io inn ic) A.iss.length (yay A.iss V.ivs)):=yco hiv HB8.out.size;have HG9:=lh (HG8.out.below hb9);have HB9:=lh hb9;have k16:=HG9.out.cell 16;have k16f:=HG9.out.frozen 16;have kl:=HG9.out.lt;clear c16 hiv hb9
  go_wp2_with fail
  go_ret
  have hk:yab [w.heap.size] w9 (w9.setCell (Ad w.heap.size 16) (.slice io inn ic)):=(yab.refl _ _).sg _;have hB9:=HB8.out.trans (HB9.out.mono HB8.out.size);obtain ⟨l1,l2⟩:=yl8 (HL8.out.1.below HB9.out) (yah HL8.out.2 HB9.out) HG9.out HOFF.out hk
  exact yxg H.out HGE.out (hB9.trans (hk.to_below hB9.size (fun x hx=>by simp only [ms] at hx;omega))) (HG9.out.set 16 _) l1 l2 (ymi (HD8.out.below HB9.out) HG9.out hk)
   (yap HIV.out hk (fun q hq hm=>by
    simp only [ms] at hm;subst hm;exact yaj HIV.out HG9.out (by decide) hq.symm))
   (yap (yah HAV8.out HB9.out) hk (fun q hq hm=>by
    simp only [ms] at hm;subst hm;exact yaj (yah HAV8.out HB9.out) HG9.out (by decide) hq.symm)) HN.out.1 HN.out.2
def yd9:List Value:=iZ::List.replicate 48 (.int .u8 0)
theorem yj6:(Tryz.prog.info? 239).map (fun i=>(i.zero,i.size,i.bytes))=some (some (.agg yd9.toArray),49,56):=by kernel_rfl
structure yil (n:Nat) (st:Nat->Int) (cs:List Value):Prop where
 len:cs.length=n*49
 is:∀i,i<n->cs[i*49]?=some (iV (st i))
 by':∀i,i<n->∀j,j<48->∃x,cs[i*49+(1+j)]?=some (.int .u8 x)
def ybm (lo gp ga n:Nat) (st:Nat->Int) (w:World):Prop :=
 ∃cs:List Value,(lo<=gp/\lo<=ga)/\Blk w gp 116 [sL ga 0 n n,iZ,iZ,.bool false]/\Blk w ga 239 cs/\yil n st cs
theorem ybm.below {lo gp ga n:Nat} {st:Nat->Int} {w w':World} (h:ybm lo gp ga n st w) (hb:BW w w'):ybm lo gp ga n st w':= by
 obtain ⟨cs,h1,h2,h3,h4⟩:=h;exact ⟨cs,h1,h2.below hb,h3.below hb,h4⟩
theorem ybm.keep {F:List Nat} {lo gp ga n:Nat} {st:Nat->Int} {w w':World} (h:ybm lo gp ga n st w) (hk:yab F w w') (h1:gp∉F) (h2:ga∉F):ybm lo gp ga n st w':= by
 obtain ⟨cs,k1,k2,k3,k4⟩:=h;exact ⟨cs,k1,k2.keep hk h1,k3.keep hk h2,k4⟩
theorem ybm.blk {lo gp ga n:Nat} {st:Nat->Int} {w:World} (h:ybm lo gp ga n st w):Blk w gp 116 [sL ga 0 n n,iZ,iZ,.bool false]:= by
 obtain ⟨cs,_,h2,_⟩:=h;exact h2
theorem ybm.cell {lo gp ga n:Nat} {st:Nat->Int} {w:World} (h:ybm lo gp ga n st w) {i:Nat} (hi:i<n):w.cell? (Ad ga (i*49))=some (iV (st i))/\w.frozen? (Ad ga (i*49))=false/\ga<w.heap.size:= by
 obtain ⟨cs,_,_,h3,h4⟩:=h;exact ⟨(h3.cell _).trans (h4.is i hi),h3.frozen _,h3.lt⟩
theorem yjt:yd9.length=49:=by simp [yd9]
theorem yp0 (n:Nat):yil n (fun _=>0) (madeCells yd9.toArray (n*49)).toList:= by
 have hs:yd9.toArray.size=49:=by simp [yd9]
 have hg:∀k,k<n*49->(madeCells yd9.toArray (n*49)).toList[k]?=yd9[k%49]?:=fun k hk=>by
  have h49:k%49<49:=Nat.mod_lt _ om;have h1:yd9[k%49]?=some (yd9[k%49]'(by rw [yjt];exact h49)):=List.getElem?_eq_getElem _;rw [h1];simp only [madeCells,hs];simp only [Array.toList_map,Array.toList_range,List.getElem?_map,List.getElem?_range hk,Option.map_some]
  congr 1
  rw [getElem!_pos yd9.toArray (k%49) (by rw [hs];exact h49)];simp
 refine ⟨by simp [size_madeCells],fun i hi=>?_,fun i hi j hj=>⟨0,?_⟩⟩
 ·rw [hg _ om,show i*49%49=0 by omega]
  rfl
 ·rw [hg _ om,show (i*49+(1+j))%49=j+1 by omega]
  show yd9[j+1]?=_;unfold yd9;rw [List.getElem?_cons_succ,List.getElem?_replicate,if_pos hj]
theorem yrk (n:Nat) (hn:n<=20000) (w:World):(Instr.makeSlice 114 (iV (n:Int)) (iV (n:Int))).run Tryz.prog w=.ok (sL w.heap.size 0 n n) (w.alloc (.cells (madeCells yd9.toArray (n*49)) 239)):= by
 obtain ⟨i0,hi,hz0,hz1,hz2⟩:=info_parts yj6;have h:=run_make (P:=Tryz.prog) w 114 239 i0 (.agg yd9.toArray) Tryz.underlying114 hi hz0 .i64 .i64 n n om (Int.le_refl _) (by rw [hz2];omega) om;rw [h]
 have e:madeCells (Value.agg yd9.toArray).cells ((n:Int).toNat*i0.size)=madeCells yd9.toArray (n*49):= by
  rw [hz1,Int.toNat_natCast]
  rfl
 rw [e];simp
def jam (n:Nat) (w:World) (e:Ending) (w':World):Prop:=∃gp ga,e=.returned (pV gp)/\ybm w.heap.size gp ga n (fun _=>0) w'/\BW w w'
theorem yq4 (n:Nat) (h1:1<=n/\n<=20000) (w:World) :
 Calls Tryz.prog 20 #[iV (n:Int)] w (jam n w):= by
 have hmk:=yrk n h1.2;have hm1:max (n:Int) 0=n:=by omega
 have hm2:min (n:Int) 20000=n:=by omega
 have hm3:¬(n:Int)<0:=by omega
 have hm4:¬(20000:Int)<(n:Int):=by omega
 go_enter Tryz.func20,Tryz.ntmps20
 go_wp2_with fail
 go_ret
 have h2:Blk (w.alloc (.cells (madeCells yd9.toArray (n*49)) 239)) w.heap.size 239 (madeCells yd9.toArray (n*49)).toList:= by
  have:=heap_alloc_new w (.cells (madeCells yd9.toArray (n*49)) 239)
  simpa [Blk] using this
 exact ⟨w.heap.size+1,w.heap.size,rfl,⟨_,⟨by omega,Nat.le_refl _⟩,ybc _ _ _ _ (World.size_alloc _ _),h2.below (yaa bR _),yp0 n⟩,yaa (yaa bR _) _⟩
section
variable {lo gp ga n:Nat} {st:Nat->Int} {w:World}
theorem yju (h:ybm lo gp ga n st w):Calls Tryz.prog 94 #[pV gp] w (RetB (.bool false) w):= by
 have c3:w.cell? (Ad gp 3)=some (.bool false):=h.blk.cell 3;have kg:=h.blk.lt;clear h
 go_enter Tryz.func94,Tryz.ntmps94
 go_wp2_with fail
 go_ret
 exact ⟨rfl,bR⟩
theorem yi1 (h:ybm lo gp ga n st w):Calls Tryz.prog 95 #[pV gp] w (RetB (iZ) w):= by
 have c2:w.cell? (Ad gp 2)=some (iZ):=h.blk.cell 2;have kg:=h.blk.lt;clear h
 go_enter Tryz.func95,Tryz.ntmps95
 go_wp2_with fail
 go_ret
 exact ⟨rfl,bR⟩
theorem ylh (h:ybm lo gp ga n st w):Calls Tryz.prog 98 #[pV gp] w (RetB (iV (n:Int)) w):= by
 have c0:w.cell? (Ad gp 0)=some (sL ga 0 n n):=h.blk.cell 0;have kg:=h.blk.lt;clear h
 go_enter Tryz.func98,Tryz.ntmps98
 go_wp2_with fail
 go_ret
 exact ⟨rfl,bR⟩
theorem yiy (h:ybm lo gp ga n st w):Calls Tryz.prog 142 #[pV gp] w (RetB (iZ) w):= by
 have c3:w.cell? (Ad gp 3)=some (.bool false):=h.blk.cell 3;have kg:=h.blk.lt;clear h
 go_enter Tryz.func142,Tryz.ntmps142
 go_wp2_with fail
 go_ret
 exact ⟨rfl,bR⟩
theorem yiu (h:ybm lo gp ga n st w) (i:Nat) (hi:i<n):Calls Tryz.prog 147 #[pV gp,iV (i:Int)] w (RetB (.bool true) w):= by
 have c0:w.cell? (Ad gp 0)=some (sL ga 0 n n):=h.blk.cell 0;have kg:=h.blk.lt;have h1:decide ((i:Int)<(n:Int))=true:=by simp;omega
 have h2:(0:Int)<=(i:Int):=by omega
 clear h
 go_enter Tryz.func147,Tryz.ntmps147
 go_wp2_with fail
 go_ret
 exact ⟨by simp [h1,h2,hi],bR⟩
def ym2 (v:Value) (lo gp ga n:Nat) (st:Nat->Int) (F:List Nat) (w:World) (e:Ending) (w':World):Prop:=e=.returned v/\ybm lo gp ga n st w'/\yab F w w'
theorem yhl (h:ybm lo gp ga n st w):Calls Tryz.prog 143 #[pV gp] w (ym2 (.bool true) lo gp ga n st [gp] w):= by
 have H:=lh h;have c1:w.cell? (Ad gp 1)=some (iZ):=h.blk.cell 1;have f1:=h.blk.frozen 1;have kg:=h.blk.lt;clear h
 go_enter Tryz.func143,Tryz.ntmps143
 go_wp2_with fail
 go_ret
 refine ⟨rfl,?_,((yab.refl _ _).sg _).sg _⟩;obtain ⟨cs,k1,k2,k3,k4⟩:=H.out;have hne:ga≠gp:=ybs k3 k2 (by decide);exact ⟨cs,k1,(k2.set 1 _).set 1 _,(k3.setOther hne _ _).setOther hne _ _,k4⟩
end
def Z48:List Value:=List.replicate 48 (.int .u8 0)
theorem ydv:(Tryz.prog.info? 189).map (·.size)=some 48:=by kernel_rfl
theorem ygi:(Tryz.prog.info? 189).map (·.size)=some Z48.toArray.size:=by rw [ydv];simp [Z48]
theorem ydm {P:Program} {fn:Func} {p u:Tmp} {ty:TypeId} (h:fn.results=#[.cell p ty,.tmp u]) (tmps:Array Value) (w:World) (g:Nat) (t:TypeId) (cs:Array Value) (fr:Nat×Nat) (d:TypeDesc)
 (hp:tmps.getD p undef=pV g) (hg:w.heap[g]?=some (.cells cs t fr))
 (hu:P.underlying ty=some d) (hd:(match d with | .struct _ | .array _ _=>true | _=>false)=true) (hi:(P.info? ty).map (·.size)=some cs.size) (v:Value) (hv:tmps.getD u undef=v) :
 (results fn tmps).run P w=.ok (.tuple #[.agg cs,v]) w:= by
 rw [results_cell_tmp h,hp,hv];simp [asAddr,run_loadVar_row w g t ty cs fr d hg hu hd hi,Result.andThen]
section
variable {lo gp ga n:Nat} {st:Nat->Int} {w:World}
theorem yi8 (h:ybm lo gp ga n st w) (i:Nat) (hi:i<n) (h0:st i=0):Calls Tryz.prog 99 #[pV gp,iV (i:Int)] w (RetB (.tuple #[.agg Z48.toArray,.bool false]) w):= by
 obtain ⟨W1,hW1,H1,HB1,HBW⟩:∃W,w.alloc (.cells Z48.toArray 189)=W/\Hid (ybm lo gp ga n st W)/\Hid (Blk W w.heap.size 189 Z48)/\Hid (BW w W):=⟨_,rfl,h.below (yaa bR _),yae w _ _ _ rfl,yaa bR _⟩;have hi2:(i:Int)<(n:Int):=by omega
 clear h
 go_enter Tryz.func99,Tryz.ntmps99
 go_upto_region 1 with fail
 change Code.wp _ _ _ _ (w.alloc (.cells Z48.toArray 189));rw [hW1];clear hW1
 go_wp2_with fail
 refine (yiu H1.out i hi).mono ?_;rintro _ w2 ⟨rfl,hb2⟩;have H2:=lh (H1.out.below hb2);have HB2:Hid (Blk w2 w.heap.size 189 Z48):=HB1.out.below hb2;have HBW2:Hid (BW w w2):=yad HBW.out hb2;have c0:w2.cell? (Ad gp 0)=some (sL ga 0 n n):=H2.out.blk.cell 0;have kg:=H2.out.blk.lt;obtain ⟨ci,fi,kax⟩:=H2.out.cell hi;rw [h0] at ci;have HZ:Hid (w2.heap[w.heap.size]?=some (.cells Z48.toArray 189 (0,0))):=HB2.out;have HONE:Hid (Z48.toArray.all (·.oneCell')=true):=by show _=_;simp [Z48,Value.oneCell']
 clear hb2 fi
 go_wp2_with (with_reducible refine wpList_store_rowTo rfl 189 (.tmp 4) (.tmp 25) rfl rfl w.heap.size Z48.toArray rfl ?hy 189 Z48.toArray HZ.out ygi rfl HONE.out ?_;case hy=>kernel_rfl)
 refine bodyPost_ret (v:=.tuple #[.agg Z48.toArray,.bool false]) (ydm (p:=4) (u:=5) (ty:=189) rfl _ _ w.heap.size 189 _ (0,0) _ rfl (setRow_heap _ _ _ _ _ _ HZ.out) Tryz.underlying189 rfl ygi _ rfl) rfl ⟨rfl,ybl HBW2.out (Nat.le_refl _) _⟩
end
theorem yil.set {n:Nat} {st:Nat->Int} {cs:List Value} (h:yil n st cs) {i:Nat} (hi:i<n) (v:Int):yil n (fun j=>if j=i then v else st j) (cs.set (i*49) (iV v)):= by
 refine ⟨by rw [List.length_set];exact h.len,fun j hj=>?_,fun j hj k hk=>?_⟩
 ·by_cases e:j=i
  ·subst e
   have hl:=h.len;rw [List.getElem?_set_self om,if_pos rfl]
  ·rw [List.getElem?_set_ne om,if_neg e]
   exact h.is j hj
 ·rw [List.getElem?_set_ne om]
  exact h.by' j hj k hk
theorem ybm.setIs {lo gp ga n:Nat} {st:Nat->Int} {w:World} (h:ybm lo gp ga n st w) {i:Nat} (hi:i<n) (v:Int):ybm lo gp ga n (fun j=>if j=i then v else st j) (w.setCell (Ad ga (i*49)) (iV v)):= by
 obtain ⟨cs,k1,k2,k3,k4⟩:=h;exact ⟨_,k1,k2.setOther (ybs k2 k3 (by decide)) _ _,k3.set _ _,k4.set hi v⟩
theorem ybm.congr {lo gp ga n:Nat} {st st':Nat->Int} {w:World} (h:ybm lo gp ga n st w) (he:∀i,i<n->st i=st' i):ybm lo gp ga n st' w:= by
 obtain ⟨cs,k1,k2,k3,k4⟩:=h;exact ⟨cs,k1,k2,k3,k4.len,fun i hi=>by rw [<-he i hi];exact k4.is i hi,k4.by'⟩
def dryK (st:Nat->Int) (k i:Nat):Int:=if i<k/\st i=1 then 2 else st i
def dryV:Value:=.func (.func 145) #[] #[]
theorem yw9 (m:Int) (ga o:Nat) (x:Value) (w:World) (hc:w.cell? (Ad ga o)=some x) (hf:w.frozen? (Ad ga o)=false) (hk:ga<w.heap.size):Calls Tryz.prog 145 #[iV m,.pointer (some (Ad ga o))] w (fun e w'=>e=.returned (.tuple #[])/\w'=w.setCell (Ad ga o) (iV 2)):= by
 go_enter Tryz.func145,Tryz.ntmps145
 go_wp2_with fail
 go_end0
 exact ⟨rfl,rfl⟩
section
variable {lo gp ga n:Nat} {st:Nat->Int} {w:World}
theorem yqy (hn:n<=20000) (h:ybm lo gp ga n st w):Calls Tryz.prog 144 #[pV gp,dryV] w (ym2 (.tuple #[]) lo gp ga n (dryK st n) [ga] w):= by
 have H:=lh h;have HN:=lh hn;clear h hn;unfold dryV
 go_enter Tryz.func144,Tryz.ntmps144
 go_wp2_with fail
 refine yai 0 (fun a' w'=>∃(k:Nat) (m:Int) (u2 u3 u6 u7 u8 u9 u10 u11 u12 u13 u14 u15 u16 u17 u18 u19 u20 u21 u22 u23 u24 u25 u26 u27 u28 u29 u30 u31 u32 u33 u34:Value),a'={ tmps:=#[pV gp,.func (.func 145) #[] #[],u2,u3,iV (k:Int),iV m,u6,u7,u8,u9,u10,u11,u12,u13,u14,u15,u16,u17,u18,u19,u20,u21,u22,u23,u24,u25,u26,u27,u28,u29,u30,u31,u32,u33,u34],defers:=[] }/\k<=n/\Hid (ybm lo gp ga n (dryK st k) w')/\Hid (yab [ga] w w'))
  (fun a' _=>ylt n a'.tmps[4]?) rfl ?pass ?first
 case first =>
  intro J' hJJ hrest;have HREST:=lh hrest;clear hJJ hrest
  go_wp2_with fail
  go_step3
  go_step
  go_step
  refine HREST.out _ _ ⟨0,0,_,_,_,_,_,_,_,_,_,_,_,_,_,_,_,_,_,_,_,_,_,_,_,_,_,_,_,_,_,_,_,rfl,Nat.zero_le _,H.out.congr (fun i hi=>?_),yab.refl _ _⟩;unfold dryK;rw [if_neg om]
 case pass =>
  intro a1 w1 hJ J' hJ';obtain ⟨k,m,hJ⟩:=hJ
  iterate 31 obtain ⟨_,hJ⟩:=hJ
  obtain ⟨rfl,hk,HP,HB⟩:=hJ;have HJ:=lh hJ';clear hJ';have c0:w1.cell? (Ad gp 0)=some (sL ga 0 n n):=HP.out.blk.cell 0;have kg:=HP.out.blk.lt;have hn2:=HN.out
  by_cases hkn:k=n
  ·subst hkn
   have hlt:¬((k:Int)<(k:Int)):=by omega
   go_wp2_with fail
   simp only [Exit.jump]
   go_end0
   exact ⟨rfl,HP.out,HB.out⟩
  ·have hlt:k<n:=by omega
   have hlt2:(k:Int)<(n:Int):=by omega
   obtain ⟨ci,fi,kax⟩:=HP.out.cell hlt;have hs:dryK st k k=st k:=by unfold dryK;rw [if_neg om]
   rw [hs] at ci;have hk1:wrap64 ((k:Int)+1)=(k:Int)+1:=IntWalk.wrap64_in _ ⟨by omega,by omega⟩;have HK:=lh hlt;clear hs hkn hk
   by_cases h1:st k=1
   ·have h1':(st k == 1)=true:=by simpa using h1
    have H1:=lh h1;clear h1
    go_wp2_with fail
    refine (yw9 m ga (k*49) _ _ ci fi kax).mono ?_;rintro _ w2 ⟨rfl,rfl⟩
    go_wp2_with fail
    go_step3
    refine ⟨rfl,HJ.out _ _ ⟨k+1,_,_,_,_,_,_,_,_,_,_,_,_,_,_,_,_,_,_,_,_,_,_,_,_,_,_,_,_,_,_,_,_,rfl,HK.out,?_,?_⟩ (yi0 HK.out)⟩
    ·refine (HP.out.setIs HK.out 2).congr (fun i hi=>?_)
     unfold dryK
     by_cases e:i=k
     ·subst e
      rw [if_pos rfl,if_pos ⟨by omega,H1.out⟩]
     ·rw [if_neg e]
      exact zq3000ec
    ·exact HB.out.sg _
   ·have h1':(st k == 1)=false:=by simpa using h1
    have H1:=lh h1;clear h1
    go_wp2_with fail
    go_step3
    refine ⟨rfl,HJ.out _ _ ⟨k+1,_,_,_,_,_,_,_,_,_,_,_,_,_,_,_,_,_,_,_,_,_,_,_,_,_,_,_,_,_,_,_,_,rfl,HK.out,?_,?_⟩ (yi0 HK.out)⟩
    ·refine HP.out.congr (fun i hi=>?_)
     unfold dryK
     by_cases e:i=k
     ·subst e
      rw [if_neg om,if_neg (fun h=>H1.out h.2)]
     ·exact zq3000ec
    ·exact HB.out
theorem ylx (hn:n<=20000) (h:ybm lo gp ga n st w):Calls Tryz.prog 96 #[pV gp] w (ym2 (iZ) lo gp ga n (dryK st n) [ga,gp] w):= by
 have H:=lh h;clear h
 go_enter Tryz.func96,Tryz.ntmps96
 go_wp2_with fail
 refine (yiy H.out).mono ?_;rintro _ w1 ⟨rfl,hb1⟩;have H1:=lh (H.out.below hb1);have HB1:=lh hb1;clear hb1
 go_wp2_with fail
 refine (yhl H1.out).mono ?_;rintro _ w2 ⟨rfl,h2,k2⟩;have H2:=lh h2;have HK2:Hid (yab [ga,gp] w w2):=(yab.of_below HB1.out:yab [ga,gp] w w1).trans k2 (fun x hx=>.inl (by simp only [ms] at hx;subst hx;simp));clear h2 k2
 go_wp2_with fail
 refine (yqy hn H2.out).mono ?_;rintro _ w3 ⟨rfl,h3,k3⟩;have H3:=lh h3;have HK3:Hid (yab [ga,gp] w w3):=HK2.out.trans k3 (fun x hx=>.inl (by simp only [ms] at hx;subst hx;simp));clear h3 k3
 go_wp2_with fail
 go_ret
 exact ⟨rfl,H3.out,HK3.out⟩
end
def setL (cs:List Value) (o:Nat):List Value->List Value
 | []=>cs
 | v::vs=>setL (cs.set o v) (o+1) vs
theorem yr0:∀(vs:List Value) (cs:List Value) (o:Nat),(setL cs o vs).length=cs.length
 | [],_,_=>rfl
 | v::vs,cs,o=>by rw [setL,yr0 vs,List.length_set]
theorem ymx:∀(vs:List Value) (cs:List Value) (o:Nat),o+vs.length<=cs.length->∀k,(setL cs o vs)[k]?=if k<o then cs[k]? else if k<o+vs.length then vs[k-o]? else cs[k]?
 | [],cs,o,_,k=>by
  rw [setL]
  by_cases h:k<o
  ·rw [if_pos h]
  ·rw [if_neg h,if_neg (by simpa using h)]
 | v::vs,cs,o,h,k=>by
  simp only [List.length_cons] at h;rw [setL,ymx vs _ _ (by rw [List.length_set];omega)]
  by_cases h1:k<o
  ·rw [if_pos om,if_pos h1,List.getElem?_set_ne om]
  ·rw [if_neg h1]
   by_cases h2:k=o
   ·subst h2
    rw [if_pos om,if_pos (by simp only [List.length_cons];omega),Nat.sub_self,List.getElem?_set_self om]
    rfl
   ·rw [if_neg om]
    by_cases h3:k<o+1+vs.length
    ·rw [if_pos h3,if_pos (by simp only [List.length_cons];omega),show k-o=(k-(o+1))+1 by omega,List.getElem?_cons_succ]
    ·rw [if_neg h3,if_neg (by simp only [List.length_cons];omega),List.getElem?_set_ne om]
theorem yr8 (o:Nat):∀(vs:List Value) (k:Nat) (cs:List Value),(vs.zipIdx k).foldl (fun (cs:Array Value) (x:Value×Nat)=>cs.setIfInBounds (o+x.2) x.1) cs.toArray=(setL cs (o+k) vs).toArray
 | [],_,_=>rfl
 | v::vs,k,cs=>by
  rw [List.zipIdx_cons,List.foldl_cons,List.setIfInBounds_toArray,yr8 o vs (k+1)]
  rfl
theorem ywa {bs:List Value} (h:bs.length=48):setL (yd9.set 0 (iV 1)) 1 bs=iV 1::bs:= by
 have hz:=yjt;refine List.ext_getElem? (fun k=>?_);rw [ymx _ _ _ (by rw [List.length_set];omega)]
 by_cases h1:k<1
 ·obtain rfl:k=0:=by omega
  rw [if_pos h1,List.getElem?_set_self om]
  rfl
 ·obtain ⟨j,rfl⟩:∃j,k=j+1:=⟨k-1,by omega⟩
  rw [if_neg h1,List.getElem?_cons_succ]
  by_cases h2:j+1<1+bs.length
  ·rw [if_pos h2,Nat.add_sub_cancel]
  ·rw [if_neg h2,List.getElem?_eq_none (by rw [List.length_set];omega),List.getElem?_eq_none om]
theorem ywb (bs:List Value) (h:bs.length=48) (zs:List Value) (hz:zs=yd9):Instr.fill (([(0,1),(1,48)]:List (Nat×Nat)).toArray[·]?) zs.toArray [(0,iV 1),(1,.agg bs.toArray)]=some (iV 1::bs).toArray:= by
 have hl:zs.length=49:=by rw [hz];exact yjt
 have e1:(bs.toArray.zipIdx.foldl (fun (cs:Array Value) (x:Value×Nat)=>cs.setIfInBounds (1+x.2) x.1) (zs.toArray.setIfInBounds 0 (iV 1)))=(iV 1::bs).toArray:= by
  rw [List.setIfInBounds_toArray,<-Array.foldl_toList,Array.toList_zipIdx,List.toList_toArray,yr8 1 bs 0,hz,ywa h]
 unfold Instr.fill;simp only [Value.cells,List.size_toArray,hl,h];simp only [Instr.fill,Value.cells,List.size_toArray,h];simp;refine ⟨by omega,?_⟩;rw [List.setIfInBounds_toArray,<-Array.foldl_toList,Array.toList_zipIdx,List.toList_toArray] at e1;exact e1
theorem yl0 (bs:List Value) (h:bs.length=48):Tryz.prog.built 239 [(0,iV 1),(1,.agg bs.toArray)]=some (iV 1::bs).toArray:= by
 obtain ⟨i0,hi,hz0,hz1,hz2⟩:=info_parts yj6;unfold Program.built;rw [hi,Tryz.underlying239];simp only [hz0]
 split
 ·rename_i z places hz hp
  cases hz;have hpp:some places=some [(0,1),(1,48)]:=hp.symm.trans kr;cases hpp;exact ywb bs h yd9 rfl
 ·rename_i hno
  exact (hno (.agg yd9.toArray) [(0,1),(1,48)] rfl kr).elim
theorem ykz {P:Program} {ops:Array Oper} {o:Oper} {a:Act} {w:World} {K:Act->World->Prop} {Q:Exit->Act->World->Prop} {E:Prop} (hgd:o.guard=none) (ty:TypeId) (x y:Operand) (ho:o.op=.store ty x y)
 (hd:o.dst=none) (b c:Nat) (cells:Array Value) (hx:a.eval x=.pointer (some (Ad b c))) (hy:a.eval y=.agg cells) (ht:w.there b c cells.size) (hi:(P.info? ty).map (·.size)=some cells.size) (h1:cells.all (·.oneCell')=true)
 (h:K a (w.setCells b c cells.toList)):if Region.wanted o (yielded ops a.tmps)=true then Oper.wp P o a w K Q else E:= by
 have hw:Region.wanted o (yielded ops a.tmps)=true:=by simp [Region.wanted,hgd]
 rw [if_pos hw];exact wp_store_mid ty x y ho b c cells hx hy ht hi h1 (by rw [hd];exact h)
theorem yil.ink {n:Nat} {st:Nat->Int} {cs bs:List Value} (h:yil n st cs) {i:Nat} (hi:i<n) (hb:bs.length=48) (hu:∀v∈bs,∃x,v=.int .u8 x) (v:Int) :
 yil n (fun j=>if j=i then v else st j) (setL cs (i*49) (iV v::bs)):= by
 have hl:=h.len;have h2:(iV v::bs).length=49:=by simp [hb]
 have hg:=ymx (iV v::bs) cs (i*49) (by rw [h2];omega);rw [h2] at hg;refine ⟨by rw [yr0];exact hl,fun j hj=>?_,fun j hj k hk=>?_⟩
 ·rw [hg]
  by_cases e:j=i
  ·subst e
   rw [if_neg om,if_pos om,if_pos rfl,Nat.sub_self]
   rfl
  ·rw [if_neg e]
   by_cases k1:j<i
   ·rw [if_pos om];exact h.is j hj
   ·rw [if_neg om,if_neg om];exact h.is j hj
 ·rw [hg]
  by_cases e:j=i
  ·subst e
   rw [if_neg om,if_pos om,show j*49+(1+k)-j*49=k+1 by omega,List.getElem?_cons_succ];obtain ⟨x,hx⟩:=hu _ (List.getElem_mem (show k<bs.length by omega));exact ⟨x,by rw [List.getElem?_eq_getElem om,hx]⟩
  ·by_cases k1:j<i
   ·rw [if_pos om];exact h.by' j hj k hk
   ·rw [if_neg om,if_neg om];exact h.by' j hj k hk
theorem Blk.setMid {g:Nat} {e:TypeId}:∀(vs:List Value) {w:World} (o:Nat) {cs:List Value},Blk w g e cs->Blk (w.setCells g o vs) g e (setL cs o vs)
 | [],_,_,_,h=>h
 | v::vs,_,o,_,h=>Blk.setMid vs (o+1) (h.set o v)
theorem yab.setCells {F:List Nat} {a:World} {g:Nat} (hg:g∈F\/a.heap.size<=g):∀(vs:List Value) {b:World} (_:yab F a b) (o:Nat),yab F a (b.setCells g o vs)
 | [],_,h,_=>h
 | v::vs,_,h,o=>yab.setCells hg vs (h.setCell hg v) (o+1)
section
variable {lo gp ga n:Nat} {st:Nat->Int} {w:World}
theorem ybm.ink (h:ybm lo gp ga n st w) {i:Nat} (hi:i<n) {bs:List Value} (hb:bs.length=48) (hu:∀v∈bs,∃x,v=.int .u8 x):ybm lo gp ga n (fun j=>if j=i then 1 else st j) (w.setCells ga (i*49) (iV 1::bs)):= by
 obtain ⟨cs,k1,k2,k3,k4⟩:=h;have h2:(iV 1::bs).length=49:=by simp [hb]
 have hne:gp≠ga:=ybs k2 k3 (by decide);exact ⟨_,k1,k2.keep (yab.setCells (.inl (List.mem_cons_self ..)) _ (yab.refl [ga] w) _) (by simpa using hne),Blk.setMid _ _ k3,k4.ink hi hb hu 1⟩
theorem ylb (h:ybm lo gp ga n st w) (i:Nat) (hi:i<n) (h0:st i=0) (bs:List Value) (hb:bs.length=48) (hu:Hid (∀v∈bs,∃x,v=.int .u8 x)) :
 Calls Tryz.prog 104 #[pV gp,iV (i:Int),.agg bs.toArray] w (ym2 (iZ) lo gp ga n (fun j=>if j=i then 1 else st j) [ga,gp] w):= by
 have H:=lh h;have HBL:=lh hb;have hi2:(i:Int)<(n:Int):=by omega
 have HI:=lh hi;have H0:=lh h0;have HI48:Hid ((Tryz.prog.info? 189).map (·.size)=some bs.length):=by rw [hb];exact ydv
 have HI49:Hid ((Tryz.prog.info? 239).map (·.size)=some (iV 1::bs).toArray.size):= by
  obtain ⟨i0,k1,k2,k3,k4⟩:=info_parts yj6;show _=_;rw [k1];simp [k3,hb]
 have HON:Hid ((iV 1::bs).toArray.all (·.oneCell')=true):=all_oneCell_toArray (fun v hv=>by
  rcases List.mem_cons.1 hv with rfl | hv
  ·rfl
  ·obtain ⟨x,rfl⟩:=hu.out v hv
   rfl)
 clear h hi h0 hb
 go_enter Tryz.func104,Tryz.ntmps104
 go_wp2_with fail
 obtain ⟨W1,hW,H1,HBB,HBW⟩:∃W,w.alloc (.cells bs.toArray 189)=W/\Hid (ybm lo gp ga n st W)/\Hid (Blk W w.heap.size 189 bs)/\Hid (BW w W):=⟨_,rfl,H.out.below (yaa bR _),yae w _ _ _ rfl,yaa bR _⟩;rw [hW];clear hW;refine (yiy H1.out).mono ?_;rintro _ w2 ⟨rfl,hb2⟩;have H2:=lh (H1.out.below hb2);have HBB2:=lh (HBB.out.below hb2);have HBW2:Hid (BW w w2):=yad HBW.out hb2;clear hb2
 go_wp2_with fail
 refine (yiu H2.out i HI.out).mono ?_;rintro _ w3 ⟨rfl,hb3⟩;have H3:=lh (H2.out.below hb3);have HBB3:=lh (HBB2.out.below hb3);have HBW3:Hid (BW w w3):=yad HBW2.out hb3;have c0:w3.cell? (Ad gp 0)=some (sL ga 0 n n):=H3.out.blk.cell 0;have kg:=H3.out.blk.lt;obtain ⟨ci,fi,kax⟩:=H3.out.cell HI.out;rw [H0.out] at ci;clear hb3 fi;go_upto_region 8 with fail
 have HS:Hid (∀W',BW w3 W'->Ce W' gp 0 (sL ga 0 n n)/\W'.rangeAt w.heap.size 0 bs):=fun W' hb=>⟨(H3.out.below hb).blk.cell 0,fun j v hv=>by
  rw [Nat.zero_add,(HBB3.out.below hb).cell];exact hv⟩
 have hsd:=HS.out w3.drew (yaf bR)
 have HTH:Hid (w3.drew.there ga (i*49) (iV 1::bs).toArray.size):=fun j hj=>by
  have h49:(iV 1::bs).toArray.size=49:=by simp [HBL.out]
  rw [h49] at hj;obtain ⟨cs,_,_,k3,k4⟩:=H3.out.below (yaf bR);refine ⟨?_,k3.frozen _⟩;rw [k3.cell,Option.isSome_iff_exists];have hl:=k4.len;have:=HI.out;exact ⟨_,List.getElem?_eq_getElem om⟩
 clear c0 kg ci kax;refine yan (fun W'=>Ce W' gp 0 (sL ga 0 n n)/\W'.rangeAt w.heap.size 0 bs) 7 kr ?_;refine tK 0 rfl ?_;refine tK 1 rfl ?_;refine tK 2 rfl ?_;refine tK 3 rfl ?_;refine tK 4 rfl ?_;refine yea (i:=5) (oi:=⟨_,_,_,_,_,_⟩) (v:=.agg bs.toArray) rfl kr kr kr kr kr (fun _ _ _ h=>h) (yieldsIf_load_mid (by rfl) 189 (.tmp 5) rfl w.heap.size 0 rfl bs _ (fun w hw=>hw.2) Tryz.underlying189 rfl HI48.out) (by assumption) ?_;simp only [ap,aq,sa,sb,sc];refine yea (i:=6) (oi:=⟨_,_,_,_,_,_⟩) (v:=.agg (iV 1::bs).toArray) rfl kr kr kr kr kr (fun _ _ _ h=>h) (.inl ⟨by rfl,fun w hw=>by unfold execOp;simp only [Sem.run_bind];rw [run_build w _ _ _ (by first | exact yl0 bs HBL.out | (simp [Act.eval];exact yl0 bs HBL.out))];rfl⟩) (by assumption) ?_;simp only [ap,aq,sa,sb,sc];refine wo 7 kr rfl fun K hK=>?_;go_simp;refine hK.out _ _ kd ?_;clear hK K;try simp only [ap,aq,sa,sb,sc]
 refine wo 8 kr rfl fun K hK=>?_;refine ykz rfl 239 (.tmp 33) (.tmp 32) rfl rfl ga (i*49) (iV 1::bs).toArray (by rfl) (by rfl) HTH.out HI49.out HON.out ?_;refine hK.out _ _ kd ?_;clear hK K;try simp only [ap,aq,sa,sb,sc]
 refine yal kr ?_ _;obtain ⟨W4,hW,H4,HK4⟩:∃W,w3.drew.setCells ga (i*49) (iV 1::bs)=W/\Hid (ybm lo gp ga n (fun j=>if j=i then 1 else st j) W)/\Hid (yab [ga,gp] w W):=⟨_,rfl,(H3.out.below (yaf bR)).ink HI.out HBL.out hu.out,yab.setCells (.inl (List.mem_cons_self ..)) _ ((yab.of_below HBW3.out).drew) _⟩;try simp only [List.toList_toArray]
 rw [hW];clear hW hsd
 go_wp2_with fail
 refine (yhl H4.out).mono ?_;rintro _ w5 ⟨rfl,h5,k5⟩;have H5:=lh h5;have HK5:Hid (yab [ga,gp] w w5):=HK4.out.trans k5 (fun x hx=>.inl (by simp only [ms] at hx;subst hx;simp));clear h5 k5
 go_wp2_with fail
 go_ret
 exact ⟨rfl,H5.out,HK5.out⟩
end
theorem Sl.at' {k:IntKind} {w:World} {ao:Option Addr} {cap:Nat} {xs:List Int} (h:Sl k w (.slice ao xs.length cap) xs) {i:Nat} (hi:i<xs.length):∃b o,ao=some (Ad b o)/\w.cell? (Ad b (o+i))=some (.int k (xs.getD i 0)):= by
 obtain ⟨ao',cap',e,h1,h2,h3⟩:=h;cases e;obtain ⟨b,o,rfl,hc⟩:=h3 (List.length_pos_iff.1 om);exact ⟨b,o,rfl,hc i hi⟩
def RetU (k:IntKind) (w:World) (e:Ending) (w':World):Prop:=∃x,e=.returned (.int k x)/\BW w w'
theorem ymo (s:Int) (v:Value) (bs:List Int) (hn:bs.length<=100000) (w:World) (hv:Sl .u8 w v bs) :
 Calls Tryz.prog 224 #[.int .u32 s,v] w (RetU .u32 w):= by
 have HV:=lh hv;obtain ⟨ao,cap,rfl⟩:=hv.shape;have HN:=lh hn;clear hv hn
 go_enter Tryz.func224,Tryz.ntmps224
 go_wp2_with fail
 refine yai 0 (fun a' w'=>∃(k:Nat) (x y:Int) (u0 u2 u3 u4 u8 u9 u10 u11 u12 u13 u14 u15 u16 u17 u18 u19 u20 u21 u22 u23 u24 u25 u26 u27 u28 u29 u30 u31 u32 u33 u34 u35:Value),a'={ tmps:=#[u0,.slice ao bs.length cap,u2,u3,u4,.int .u32 x,.int .u32 y,iV (k:Int),u8,u9,u10,u11,u12,u13,u14,u15,u16,u17,u18,u19,u20,u21,u22,u23,u24,u25,u26,u27,u28,u29,u30,u31,u32,u33,u34,u35],defers:=[] }/\k<=bs.length/\Hid (BW w w'))
  (fun a' _=>ylt bs.length a'.tmps[7]?) rfl ?pass ?first
 case first =>
  intro J' hJJ hrest;have HREST:=lh hrest;clear hJJ hrest
  go_wp2_with fail
  go_step3
  go_step
  go_step
  exact HREST.out _ _ ⟨0,_,_,_,_,_,_,_,_,_,_,_,_,_,_,_,_,_,_,_,_,_,_,_,_,_,_,_,_,_,_,_,_,_,_,rfl,Nat.zero_le _,bR⟩
 case pass =>
  intro a1 w1 hJ J' hJ';obtain ⟨k,x,y,hJ⟩:=hJ
  iterate 32 obtain ⟨_,hJ⟩:=hJ
  obtain ⟨rfl,hk,HB⟩:=hJ;have HJ:=lh hJ';clear hJ';have hn2:=HN.out
  by_cases hkn:k=bs.length
  ·have hlt:¬((k:Int)<(bs.length:Int)):=by omega
   have HK:=lh hkn;clear hkn
   go_wp2_with fail
   simp only [Exit.jump];go_ret
   exact ⟨_,rfl,HB.out⟩
  ·have hlt:k<bs.length:=by omega
   have hlt2:(k:Int)<(bs.length:Int):=by omega
   obtain ⟨b,o,rfl,hc⟩:=(HV.out.below HB.out).at' hlt;obtain ⟨z,hz⟩:∃z,bs.getD k 0=z:=⟨_,rfl⟩;rw [hz] at hc;have hk1:wrap64 ((k:Int)+1)=(k:Int)+1:=IntWalk.wrap64_in _ ⟨by omega,by omega⟩;have HK:=lh hlt;clear hz hkn hk
   go_wp2_with fail
   go_step3
   exact ⟨rfl,HJ.out _ _ ⟨k+1,_,_,_,_,_,_,_,_,_,_,_,_,_,_,_,_,_,_,_,_,_,_,_,_,_,_,_,_,_,_,_,_,_,_,rfl,HK.out,HB.out⟩ (yi0 HK.out)⟩
theorem yoi (v:Value) (bs:List Int) (hn:bs.length<=100000) (w:World) (hv:Sl .u8 w v bs) :
 Calls Tryz.prog 189 #[v] w (RetU .u32 w):= by
 have HV:=lh hv;obtain ⟨ao,cap,rfl⟩:=hv.shape;clear hv
 go_enter Tryz.func189,Tryz.ntmps189
 go_wp2_with fail
 refine (ymo 1 _ bs hn _ HV.out).mono ?_;rintro _ w1 ⟨x,rfl,hb1⟩
 go_wp2_with fail
 go_ret
 exact ⟨_,rfl,hb1⟩
def U8s (bs:List Value):Prop:=∀v∈bs,∃x,v=.int .u8 x
theorem U8s.one {bs:List Value} (h:U8s bs):∀v∈bs,v.oneCell'=true:=fun v hv=>by obtain ⟨x,rfl⟩:=h v hv;rfl
def jax (n:Nat) (w:World) (e:Ending) (w':World):Prop:=∃bs:List Value,e=.returned (.agg bs.toArray)/\bs.length=n/\U8s bs/\BW w w'
theorem yph {w:World} {base g n:Nat} {e:TypeId} {cs:List Value} (h:Blk w g e cs) (hb:base<=g) (hl:cs.length=n) (hm:n<=maxLen):w.ownsRow base e 1 (sL g 0 n n) n cs:= by
 refine ⟨by omega,.inr ⟨g,n,cs.toArray,rfl,hb,h,Nat.le_refl _,hm,by simp [hl],?_⟩⟩;rw [List.take_of_length_le (by simp [hl])]
theorem jal {bs:List Value} (h:U8s bs):∃xs:List Int,bs=xs.map (Value.int .u8):= by
 induction bs with
 | nil=>exact ⟨[],rfl⟩
 | cons v bs ih =>
  obtain ⟨x,rfl⟩:=h v (List.mem_cons_self ..);obtain ⟨xs,rfl⟩:=ih fun u hu=>h u (List.mem_cons_of_mem _ hu);exact ⟨x::xs,rfl⟩
theorem yx0 (n:Nat) (bs:List Value) (hb:bs.length=48) (hu:U8s bs) (w:World) :
 Calls Tryz.prog 149 #[iV (n:Int),.agg bs.toArray] w (jax 4 w):= by
 obtain ⟨W1,hW,HBX,HB4,HBW⟩:∃W,((w.alloc (.cells bs.toArray 189)).alloc (.cells #[.int .u8 0,.int .u8 0,.int .u8 0,.int .u8 0] 244))=W/\Hid (Blk W w.heap.size 189 bs)/\Hid (Blk W (w.heap.size+1) 244 [.int .u8 0,.int .u8 0,.int .u8 0,.int .u8 0])/\Hid (BW w W/\W.heap.size=w.heap.size+2):=⟨_,rfl,(yae w _ _ _ rfl).below (yaa bR _),ybc _ _ _ _ (World.size_alloc _ _),yaa (yaa bR _) _,by simp only [World.size_alloc]⟩;have HBL:=lh hb;have HU:=lh hu;clear hb hu
 go_enter Tryz.func149,Tryz.ntmps149
 go_upto_region 2 with fail
 obtain ⟨W2,hW2,y0,y1,y2,y3,HB5,HBX2,HB42,HBW2⟩:∃W,W1.alloc (.cells #[.int .u8 ((n:Int)/16777216%256),.int .u8 ((n:Int)/65536%256),.int .u8 ((n:Int)/256%256),.int .u8 ((n:Int)%256)] 5)=W/\∃y0 y1 y2 y3,Hid (Blk W W1.heap.size 5 [.int .u8 y0,.int .u8 y1,.int .u8 y2,.int .u8 y3])/\Hid (Blk W w.heap.size 189 bs)/\Hid (Blk W (w.heap.size+1) 244 [.int .u8 0,.int .u8 0,.int .u8 0,.int .u8 0])/\Hid (BW w W) :=
  ⟨_,rfl,_,_,_,_,yae W1 _ _ _ rfl,HBX.out.below (yaa bR _),HB4.out.below (yaa bR _),yad HBW.out.1 (yaa bR _)⟩
 try with_reducible rw [hW]
 with_reducible rw [hW2]
 clear hW2 hW;obtain ⟨i0,hi,hz0,hz1,hz2⟩:=info_parts yrj;have HOWN:Hid (W2.ownsRow W1.heap.size 5 1 (sL W1.heap.size 0 4 4) 4 [.int .u8 y0,.int .u8 y1,.int .u8 y2,.int .u8 y3]):=yph HB5.out (Nat.le_refl _) rfl (by unfold maxLen;omega)
 have HNEWS:Hid (∀ad,some ((Ad w.heap.size 4):Addr)=some ad->∀j u,((bs.drop 4).take 43)[j]?=some u->W2.cell? (ad.add j)=some u):=fun ad e j u hj=>by
  cases e
  have hj2:j<43:= by
   have:=(List.getElem?_eq_some_iff.1 hj).1;simp only [List.length_take] at this;omega
  rw [List.getElem?_take_of_lt hj2,List.getElem?_drop] at hj;rw [Addr.add_lit,HBX2.out.cell,hj]
 have HL43:Hid (((bs.drop 4).take 43).length=43*1):= by
  show _=_;rw [List.length_take,List.length_drop,HBL.out]
  rfl
 have HSZ:=HBW.out.2;clear HSZ;go_upto_region 3 with (at_builtin;refine yen rfl (.tmp 19) (.tmp 20) 135 rfl W1.heap.size 5 i0 (.int .u8 0) 1 1 Tryz.underlying135 hi hz0 hz1 hz2 rfl (by decide) (sL W1.heap.size 0 4 4) 4 [.int .u8 y0,.int .u8 y1,.int .u8 y2,.int .u8 y3] rfl HOWN.out (some (Ad w.heap.size 4)) 43 44 ((bs.drop 4).take 43) rfl HL43.out (fun e=>by cases e) HNEWS.out (fun u hu=>HU.out.one u (List.mem_of_mem_drop (List.mem_of_mem_take hu))) (by unfold maxLen;omega) om (by have:=HB5.out.lt;omega) ?_;intro v9 w9 hown9 hg9 hor9)
 obtain ⟨xs,hxs⟩:=jal (bs:=[.int .u8 y0,.int .u8 y1,.int .u8 y2,.int .u8 y3]++(bs.drop 4).take 43) (fun v hv=>by
  rcases List.mem_append.1 hv with h | h
  ·simp only [List.mem_cons,List.not_mem_nil,or_false] at h
   rcases h with rfl | rfl | rfl | rfl <;> exact ⟨_,rfl⟩
  ·exact HU.out v (List.mem_of_mem_drop (List.mem_of_mem_take h)))
 have hl:xs.length=47:= by
  have h1:=congrArg List.length hxs;have h2:=HL43.out;simp only [List.length_append,List.length_map,h2,List.length_cons,List.length_nil] at h1;omega
 rw [hxs,show 4+43=xs.length by omega] at hown9;have HSL:=lh (Sl.of_own hown9 rfl);have HB49:Hid (Blk w9 (w.heap.size+1) 244 [.int .u8 0,.int .u8 0,.int .u8 0,.int .u8 0]):=yaq HB42.out hg9 (yaj HOWN.out HB42.out (by decide))
 have HBW9:Hid (BW w w9):=HBW2.out.grown hg9 HBW2.out.size (fun k hk=>by
  cases hk;have:=HBW.out.1.size;exact this)
 have HL47:Hid (xs.length<=100000):=by show _<=_;omega
 clear hown9 hg9 hor9 hxs hl;refine (yoi _ xs HL47.out _ HSL.out).mono ?_;rintro _ w10 ⟨s,rfl,hb10⟩;have HB410:=lh (HB49.out.below hb10);have HBW10:Hid (BW w w10):=yad HBW9.out hb10;obtain ⟨z0,z1,z2,z3,-⟩:=HB410.out.cs [0,1,2,3];simp only [gz,gs] at z0 z1 z2 z3;obtain ⟨zf0,zf1,zf2,zf3,-⟩:=HB410.out.fs [0,1,2,3];have kz:=HB410.out.lt;clear hb10
 go_wp2_with fail
 obtain ⟨b0,h0⟩:∃x,s/16777216%256=x:=⟨_,rfl⟩;obtain ⟨b1,h1⟩:∃x,s/65536%256=x:=⟨_,rfl⟩;obtain ⟨b2,h2⟩:∃x,s/256%256=x:=⟨_,rfl⟩;obtain ⟨b3,h3⟩:∃x,s%256=x:=⟨_,rfl⟩;rw [h0,h1,h2,h3];have hf:=(((HB410.out.set 0 (.int .u8 b0)).set 1 (.int .u8 b1)).set 2 (.int .u8 b2)).set 3 (.int .u8 b3);have q0:World.cell? _ (Ad (w.heap.size+1) 0)=some (.int .u8 b0):=hf.cell 0;have q1:World.cell? _ (Ad (w.heap.size+1) 1)=some (.int .u8 b1):=hf.cell 1;have q2:World.cell? _ (Ad (w.heap.size+1) 2)=some (.int .u8 b2):=hf.cell 2;have q3:World.cell? _ (Ad (w.heap.size+1) 3)=some (.int .u8 b3):=hf.cell 3;clear h0 h1 h2 h3;refine bodyPost_ret (v:=.agg #[.int .u8 b0,.int .u8 b1,.int .u8 b2,.int .u8 b3]) (by simp [results,Tryz.results149,go_sem,q0,q1,q2,q3]) rfl ⟨[.int .u8 b0,.int .u8 b1,.int .u8 b2,.int .u8 b3],rfl,rfl,fun v hv=>?_,yao (yao (yao (yao HBW10.out om) om) om) om⟩;simp only [List.mem_cons,List.not_mem_nil,or_false] at hv;rcases hv with rfl | rfl | rfl | rfl <;> exact ⟨_,rfl⟩
end Go.Proofs.YtkongpjpkpfniaaGreat

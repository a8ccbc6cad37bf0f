/- TopPaid: parts of the proof, made small by a program (mini.py). -/
import Derived.Deep.RegionHeld
import Derived.OrdersHeld
import Derived.Test.YtkongpjpkpfniaaGreatM01
import Derived.Test.YtkongpjpkpfniaaGreatM04
import Derived.Test.YtkongpjpkpfniaaGreatM13
set_option linter.unusedVariables false
set_option linter.unusedSimpArgs false
set_option maxRecDepth 100000
set_option maxHeartbeats 6400000
namespace Go.Proofs.YtkongpjpkpfniaaGreat
open Go.RowKit
theorem zq14137a {q:Prop} (h:q:= by
 subst hji;exact hy.wpOp hi trivial ⟨fun hp=>hS (by rw [getD_set_ne true (Ne.symm hpi)] at hp;exact hp),H⟩):q:=h
theorem zq140364 {q:Prop} (h:q:= by
 rw [HQ2.out.1,HQ2.out.2] at hst4;obtain ⟨v,h1,h2,h3,h4,h5⟩:=hst4;exact ⟨_,rfl,v,ygc h1 om,h2,h3,h4,h5⟩):q:=h
noncomputable def ybd (cyc day:Int):Nat→Int→List (Int×Int)×Bool
 | 0,_=>([],false)
 | k+1,f=>if (yb8 f cyc).2≠0 then ([],false) else
  if (yb8 f cyc).1<day∧k≠0 then ((f,(yb8 f cyc).1)::(ybd cyc day k ((yb8 f cyc).1+1)).1,(ybd cyc day k ((yb8 f cyc).1+1)).2)
  else ([(f,(yb8 f cyc).1)],decide (f≤day) && decide (day≤(yb8 f cyc).1))
def yby (l:List (Int×Int)):List Value:=l.flatMap fun x=>[iV x.1,iV x.2]
theorem ykx (a b:List (Int×Int)):yby (a++b)=yby a++yby b:=by simp [yby]
theorem yg7 (l:List (Int×Int)):∀c∈yby l,c.oneCell'=true:= by
 intro c hc;simp only [yby,List.mem_flatMap,List.mem_cons,List.not_mem_nil,or_false] at hc;obtain ⟨x,_,rfl | rfl⟩:=hc <;> rfl
theorem yib (cyc day:Int) (k:Nat) (f:Int):(ybd cyc day k f).1.length≤k:= by
 induction k generalizing f with
 | zero=>simp [ybd]
 | succ k ih =>
  unfold ybd
  split
  ·simp
  ·split
   ·simpa using ih _
   ·simp
theorem yuz:(Tryz.prog.info? 40).map (fun i=>(i.zero,i.size,i.bytes))=some (some (.agg #[iZ,iZ]),2,16):=by kernel_rfl
def yer (base ob bd bl bi:Nat) (day:Int) (ps:List (Int×Int)) (is:Bool) (w0 w:World):Prop :=
 ∃v,w.ownsRow ob 40 2 v ps.length (yby ps)∧Blk w bd 3 [iV day]∧Blk w bl 159 [v]∧Blk w bi 4 [.bool is]∧Below base w0 w
theorem yaj {w:World} {base b n m:Nat} {e t:TypeId} {v:Value} {cs:List Value} {cur:List Value} (h:w.ownsRow base e m v n cs) (hc:Blk w b t cur) (hne:t≠e):some b≠v.ownBlock:= by
 rcases h.2 with ⟨rfl,_⟩ | ⟨g,cap,cr,rfl,hb,hg,_⟩
 ·simp [Value.ownBlock]
 ·intro e1
  simp only [Value.ownBlock,Option.some.injEq] at e1;subst e1;unfold Blk at hc;rw [hg] at hc;simp only [Option.some.injEq,Obj.cells.injEq] at hc;exact hne hc.2.1.symm
theorem yah {w w':World} {base:Nat} {e:TypeId} {m n:Nat} {v:Value} {cs:List Value} (h:w.ownsRow base e m v n cs) (hb:Below w.heap.size w w'):w'.ownsRow base e m v n cs:= by
 refine ⟨h.1,?_⟩;rcases h.2 with h1 | ⟨g,cap,cur,hv,hg,hc,r⟩
 ·exact .inl h1
 ·exact .inr ⟨g,cap,cur,hv,hg,(hb.block g (Array.getElem?_eq_some_iff.1 hc).1).trans hc,r⟩
theorem yaq {w w':World} {g:Nat} {r:Option Nat} {e:TypeId} {cur:List Value} (h:Blk w g e cur) (hg:w.grownBy w' r) (hne:some g≠r):Blk w' g e cur:=(hg.block g h.lt hne).trans h
theorem yaz {w:World} {base:Nat} {e:TypeId} {size n:Nat} {v:Value} {xs:List Value} {b i:Nat} (h:w.ownsRow base e size v n xs) (hne:some b≠v.ownBlock) (u:Value):(w.setCell ⟨b,i,none⟩ u).ownsRow base e size v n xs:= by
 refine ⟨h.1,?_⟩;rcases h.2 with h1 | ⟨g,cap,cur,rfl,hb,hg,r⟩
 ·exact .inl h1
 ·refine .inr ⟨g,cap,cur,rfl,hb,?_,r⟩
  rw [heap_setCell_other w ⟨b,i,none⟩ g u (fun e=>hne (by simp [Value.ownBlock];exact e.symm))];exact hg
theorem yne {W:World} {b:Nat} {T:TypeId} {x y z:Bool} (h:Blk W b T [.bool x]) (e:y=z):Blk (W.setCell ⟨b,0,none⟩ (.bool y)) b T [.bool z]:= by
 subst e;exact h.set 0 _
theorem yyc (w:World) (a b:Value) (t:TypeId):∀j u,[a,b][j]?=some u→(w.alloc (.cells #[a,b] t)).cell? ((⟨w.heap.size,0,none⟩:Addr).add j)=some u:= by
 intro j u hu;have h:Blk (w.alloc (.cells #[a,b] t)) w.heap.size t [a,b]:=heap_alloc_new w _;rw [Addr.add_lit,h.cell,Nat.zero_add];exact hu
theorem ynx (n f l day:Int) (base ob bd bl bi:Nat) (ps:List (Int×Int)) (is:Bool) (hps:ps.length≤1000) (hbl:base≤bl) (hbi:base≤bi) (is2:Bool) (h2:Hid ((decide (f≤day) && decide (day≤l))=is2)) (go:Bool) (hgo:Hid ((decide (l<day) && decide (n<300))=go)) (w0 w:World) (hob:base≤ob∧ob≤w.heap.size) (hst:yer base ob bd bl bi day ps is w0 w) :
 Calls Tryz.prog 153 #[iV n,.agg #[iV f,iV l],pV bl,pV bd,pV bi] w (fun e w'=>e=.returned (.bool go)∧yer base ob bd bl bi day (ps++[(f,l)]) is2 w0 w'∧(∀k,k<ob→k≠bl→k≠bi→w'.heap[k]?=w.heap[k]?)∧w.heap.size≤w'.heap.size):= by
 obtain ⟨v,hown,hd,hl,hi',hB⟩:=hst;have NL:=lh (yaj hown hl (by decide));have ND:=lh (yaj hown hd (by decide));have NI:=lh (yaj hown hi' (by decide));obtain ⟨i0,hi,hz0,hz1,hz2⟩:=info_parts yuz;have hdl:bd≠bl:=by rintro rfl;unfold Blk at hd hl;rw [hd] at hl;simp at hl
 have hdi:bd≠bi:=by rintro rfl;unfold Blk at hd hi';rw [hd] at hi';simp at hi'
 have hli:bl≠bi:=by rintro rfl;unfold Blk at hl hi';rw [hl] at hi';simp at hi'
 have HNE:=lh (And.intro hdl (And.intro hdi hli));have HD:=lh hd;have HL:=lh hl;have HI:=lh hi';have HOWN:=lh hown;have HB0:=lh hB;have HBS:Hid (base≤w.heap.size):=by show base≤_;omega
 have HOB:=lh hob;have cl:=HL.out.cell 0;have kl:=HL.out.lt;have cd:=HD.out.cell 0;have kd:=HD.out.lt;simp only [List.getElem?_cons_zero] at cl cd;obtain ⟨m,hm⟩:∃m,ps.length=m:=⟨_,rfl⟩;have HM:=lh hm;have HO2:Hid (w.ownsRow ob 40 2 v m (yby ps)):=by have:=HOWN.out;rwa [hm] at this
 rw [hm] at hps;clear hown hd hl hi' hB hdl hdi hli hm
 go_enter Tryz.func153,Tryz.ntmps153
 have HA0:Hid (Blk ((w.alloc (.cells #[iV f,iV l] 40)).alloc (.cells #[iV f,iV l] 40)) w.heap.size 40 [iV f,iV l]):=Blk.below (ybc w _ _ _ rfl) (yaa bR _)
 have HNA:Hid (some w.heap.size≠v.ownBlock):=fun e=>by
  have:=(HOWN.out.lt _ e.symm).2;omega
 go_upto_region 2 with (at_builtin;refine yas _ rfl (.tmp 8) (.tmp 10) 159 rfl ob 40 i0 (.agg #[iZ,iZ]) 2 16 Tryz.underlying159 hi hz0 hz1 hz2 rfl (by decide) _ m (yby ps) rfl ((HO2.out.alloc _).alloc _) ⟨w.heap.size+1,0,none⟩ 1 1 [iV f,iV l] rfl rfl (by have h:=yyc (w.alloc (.cells #[iV f,iV l] 40)) (iV f) (iV l) 40;simp only [World.size_alloc] at h;exact h) (fun x hx=>by simp at hx;rcases hx with rfl | rfl <;> rfl) (by unfold maxLen;omega) om (by simp only [World.size_alloc];have:=HOB.out;omega) ?_;intro v2 w2 hown2 hg2 hw2;clear hw2;obtain ⟨g2,c2,rfl⟩:=ya5 hown2 om;have HO3:=lh hown2;have HG2:=lh hg2;have e2:w2.cell? ⟨bl,0,none⟩=some v:=(yaq (HL.out.below (yaa (yaa bR _) _)) hg2 NL.out).cell 0;have f2:=(yaq (HL.out.below (yaa (yaa bR _) _)) hg2 NL.out).frozen 0;clear hown2 hg2)
 have BS2:=lh (yaq HA0.out HG2.out HNA.out);have BL2:=lh (yaq (HL.out.below (yaa (yaa bR _) _)) HG2.out NL.out);have BD2:=lh (yaq (HD.out.below (yaa (yaa bR _) _)) HG2.out ND.out);have BI2:=lh (yaq (HI.out.below (yaa (yaa bR _) _)) HG2.out NI.out);have hszz:w.heap.size+2≤w2.heap.size:=by have:=HG2.out.size;simp only [World.size_alloc] at this;omega
 have B2:=lh (Below.grown ((HB0.out.alloc HBS.out _).alloc (by rw [World.size_alloc];have:=HBS.out;omega) _) HG2.out (by simp only [World.size_alloc];have:=HBS.out;omega) (fun q hq=>by have:=(HOWN.out.lt q hq).1;have:=HOB.out;omega));obtain ⟨hdl,hdi,hli⟩:=HNE.out;have hwl:w.heap.size≠bl:=by have:=HL.out.lt;omega
 obtain ⟨W3,hW3,C0,CL,CD,CI,CB,CO,CZ,CK⟩:∃W3,w2.setCell ⟨bl,0,none⟩ (.slice (some ⟨g2,0,none⟩) (m+1) c2)=W3∧Hid (Blk W3 w.heap.size 40 [iV f,iV l])∧Hid (Blk W3 bl 159 [.slice (some ⟨g2,0,none⟩) (m+1) c2])∧Hid (Blk W3 bd 3 [iV day])∧Hid (Blk W3 bi 4 [.bool is])∧Hid (Below base w0 W3)∧Hid (W3.ownsRow ob 40 2 (.slice (some ⟨g2,0,none⟩) (m+1) c2) (m+1) (yby (ps++[(f,l)])))∧Hid (w.heap.size≤W3.heap.size)∧Hid (∀k,k<ob→k≠bl→W3.heap[k]?=w.heap[k]?) :=
  ⟨_,rfl,BS2.out.setOther hwl _ _,BL2.out.set 0 _,BD2.out.setOther hdl _ _,BI2.out.setOther (Ne.symm hli) _ _,B2.out.setCell (show base≤bl from hbl) _,by
   rw [ykx];exact yaz HO3.out (yaj HO3.out BL2.out (by decide)) _,by show w.heap.size≤_;rw [World.size_setCell];omega,fun k hk hne=>by
   have hk1:=HOB.out.2;rw [heap_setCell_other w2 ⟨bl,0,none⟩ k _ (fun e=>hne e),HG2.out.block k (by simp only [World.size_alloc];omega) (fun e=>by have:=(HOWN.out.lt k e.symm).1;omega),Below.heap_alloc _ _ _ (by rw [World.size_alloc];omega),Below.heap_alloc _ _ _ om]⟩
 with_reducible rw [hW3]
 clear hW3 HG2 HO3 e2 f2 BS2 BL2 BD2 BI2 B2 hszz hdl hdi hli hwl cl kl cd kd;have c0:=C0.out.cell 0;have c1:=C0.out.cell 1;have cd:=CD.out.cell 0;have ci:=CI.out.cell 0;have fi:=CI.out.frozen 0;simp only [gz,gs] at c0 c1 cd ci;have hb1:¬bi=bd:=fun e=>HNE.out.2.1 e.symm;have hb2:¬bd=bi:=HNE.out.2.1;have hb3:¬bi=w.heap.size:=by have:=HI.out.lt;omega
 have hb4:¬w.heap.size=bi:=by have:=HI.out.lt;omega
 go_wp2_with fail
 all_goals
  go_ret
  refine ⟨yr5 (by rw [←hgo.out];first | (simp [*];done) | (simp [*];omega) | (simp;omega)),⟨_,?_,CD.out.setOther HNE.out.2.1 _ _,CL.out.setOther HNE.out.2.2 _ _,yne CI.out (by rw [←h2.out];first | (simp [*];done) | (simp [*];omega) | (simp;omega)),CB.out.setCell (show base≤bi from hbi) _⟩,fun k h1 h2 h3=>(heap_setCell_other W3 ⟨bi,0,none⟩ k _ (fun e=>h3 e)).trans (CK.out k h1 h2),by rw [World.size_setCell];exact CZ.out⟩;have e1:(ps++[(f,l)]).length=m+1:=by rw [List.length_append,HM.out];rfl
  rw [e1];exact yaz CO.out (yaj CO.out CI.out (by decide)) _
theorem ymu (f cyc:Int):(yb8 f cyc).1≤2932896:= by
 unfold yb8
 split
 ·simp
 ·split
  ·simp
  ·split
   ·simp
   ·simp;omega
theorem yji {f cyc:Int} (h:(yb8 f cyc).2=0):f≤(yb8 f cyc).1 ∧ -135140≤f∧f≤2932896∧1≤cyc∧cyc≤28:= by
 unfold yb8 at h ⊢
 split
 ·rename_i h1;rw [if_pos h1] at h;cases h
 ·rename_i h1;rw [if_neg h1] at h
  split
  ·rename_i h2;rw [if_pos h2] at h;cases h
  ·rename_i h2;rw [if_neg h2] at h
   split
   ·rename_i h3;rw [if_pos h3] at h;cases h
   ·have hD:=yc4 (n:=f) om
    have h4:=ydb (yc6 f).1 hD.hm;have h5:=hD.hd;refine ⟨?_,by omega⟩;show f≤ydd f cyc;unfold ydd
    split <;> omega
def yy6:Option Value→Nat
 | some (.int _ x)=>(300-x).toNat
 | _=>0
theorem yer.below {base ob bd bl bi:Nat} {day:Int} {ps:List (Int×Int)} {is:Bool} {w0 w w':World} (h:yer base ob bd bl bi day ps is w0 w) (hb:Below w.heap.size w w') (hbase:base≤w.heap.size):yer base ob bd bl bi day ps is w0 w':= by
 obtain ⟨v,h1,h2,h3,h4,h5⟩:=h;exact ⟨v,yah h1 hb,h2.below hb,h3.below hb,h4.below hb,h5.trans (hb.mono hbase)⟩
theorem yer.setOther {base ob bd bl bi:Nat} {day:Int} {ps:List (Int×Int)} {is:Bool} {w0 w:World} (h:yer base ob bd bl bi day ps is w0 w) {g i:Nat} (h1:bd≠g) (h2:bl≠g) (h3:bi≠g) (hg:base≤g) (ho:g<ob) (u:Value):yer base ob bd bl bi day ps is w0 (w.setCell ⟨g,i,none⟩ u):= by
 obtain ⟨v,k1,k2,k3,k4,k5⟩:=h;exact ⟨v,yaz k1 (fun e=>by have:=(k1.lt g e.symm).1;omega) _,k2.setOther h1 _ _,k3.setOther h2 _ _,k4.setOther h3 _ _,k5.setCell (show base≤g from hg) _⟩
theorem ye3 {cyc day f:Int} {k:Nat} (h:(yb8 f cyc).2≠0):ybd cyc day (k+1) f=([],false):= by
 rw [ybd,if_pos h]
theorem ye0 {cyc day f l:Int} {k:Nat} (h:yb8 f cyc=(l,0)) (h1:l<day) (h2:k≠0):ybd cyc day (k+1) f=((f,l)::(ybd cyc day k (l+1)).1,(ybd cyc day k (l+1)).2):= by
 rw [ybd,if_neg (by rw [h];simp),h,if_pos ⟨h1,h2⟩]
theorem yez {cyc day f l:Int} {k:Nat} (h:yb8 f cyc=(l,0)) (h1:¬(l<day∧k≠0)):ybd cyc day (k+1) f=([(f,l)],decide (f≤day) && decide (day≤l)):= by
 rw [ybd,if_neg (by rw [h];simp),h,if_neg h1]
theorem yud (start cyc day:Int) (ps:List (Int×Int)) (is:Bool) (HR:Hid (ybd cyc day 300 start=(ps,is))) (base bd bl bi:Nat) (hbl:base≤bl) (hbi:base≤bi) (w0 w:World) (hbw:base≤w.heap.size) (hst:yer base w.heap.size bd bl bi day [] false w0 w) :
 Calls Tryz.prog 152 #[iV start,iV cyc,(.func (.func 153) #[] #[pV bl,pV bd,pV bi])] w (fun e w'=>∃x,e=.returned (iV x)∧yer base w.heap.size bd bl bi day ps is w0 w'):= by
 have HST:=lh hst
 have hlt:bl<w.heap.size∧bi<w.heap.size∧bd<w.heap.size:= by
  obtain ⟨v,h1,h2,h3,h4,h5⟩:=hst;exact ⟨h3.lt,h4.lt,h2.lt⟩
 have HLT:=lh hlt;clear hst hlt
 go_enter Tryz.func152,Tryz.ntmps152
 go_wp2_with fail
 refine yai 0 (fun a' w'=>∃(k:Nat) (f q:Int) (qs:List (Int×Int)) (u0 u3 u4 u5 u9 u10 u11 u12 u13 u14 u15 u16 u17 u18 u19 u20 u21 u22 u23 u24 u25 u26 u27 u28 u29 u30 u31 u32 u33:Value),a'={ tmps:=#[u0,iV cyc,(.func (.func 153) #[] #[pV bl,pV bd,pV bi]),u3,u4,u5,iZ,iV (300-(k:Int)),pV w.heap.size,u9,u10,u11,u12,u13,u14,u15,u16,u17,u18,u19,u20,u21,u22,u23,u24,u25,u26,u27,u28,u29,u30,u31,u32,u33],defers:=[] }∧(k<300∧qs.length+k≤300)∧Hid (qs++(ybd cyc day (k+1) f).1=ps∧(ybd cyc day (k+1) f).2=is)∧Hid (Blk w' w.heap.size 40 [iV f,iV q])∧Hid (yer base (w.heap.size+1) bd bl bi day qs false w0 w'))
  (fun a' _=>yy6 a'.tmps[7]?) rfl ?pass ?first
 case pass =>
  intro a1 w1 hJ J' hJ';obtain ⟨k,f,q,qs,hJ⟩:=hJ
  iterate 29 obtain ⟨_,hJ⟩:=hJ
  obtain ⟨rfl,⟨hk,hql⟩,HQ,HB,HF⟩:=hJ;have HJ:=lh hJ';clear hJ';obtain ⟨r,hr⟩:∃r,yb8 f cyc=r:=⟨_,rfl⟩;have HL:=lh hr;have c0:=HB.out.cell 0;have c1:=HB.out.cell 1;have f1:=HB.out.frozen 1;simp only [gz,gs] at c0 c1;have hsz:=HB.out.lt
  by_cases hc:r.2=0
  ·obtain ⟨l,e⟩:=r
   simp only at hc;subst hc;have hle:=ymu f cyc;have hge:=yji (f:=f) (cyc:=cyc) (by rw [hr]);rw [hr] at hle hge;simp only at hle hge;have hl1:wrap64 (l+1)=l+1:=IntWalk.wrap64_in _ ⟨by omega,by omega⟩;have hn1:wrap64 (300-(k:Int)+1)=300-(k:Int)+1:=IntWalk.wrap64_in _ ⟨by omega,by omega⟩;obtain ⟨is2,his2⟩:∃b,(decide (f≤day) && decide (day≤l))=b:=⟨_,rfl⟩;obtain ⟨go,hgo⟩:∃b,(decide (l<day) && decide ((300:Int)-(k:Int)<300))=b:=⟨_,rfl⟩;have HI2:=lh his2;have HGO:=lh hgo;have HLR:=lh hr;have HKQ:=lh (And.intro hk hql);have HBW:=lh (And.intro hbw (And.intro hbl hbi));cases go with
   | true =>
    have hld:l<day∧k≠0:= by
     simp at hgo;omega
    have HLD:=lh hld
    have HQ2:Hid ((qs++[(f,l)])++(ybd cyc day k (l+1)).1=ps∧(ybd cyc day k (l+1)).2=is):= by
     have h:=HQ.out;rw [ye0 HLR.out hld.1 hld.2] at h;show _∧_;rw [List.append_assoc];exact h
    have hfalse:is2=false:= by
     rw [←his2];have:=hld.1;simp;omega
    subst hfalse;clear hr his2 hgo hld hle hge hk hql hbw hbl hbi
    go_wp2_with fail
    refine (yf9 f cyc (l,0) HL _).mono ?_;rintro _ w2 ⟨rfl,hb2⟩;simp only;have HB2:=lh (HB.out.below hb2);have HF2:=lh (HF.out.below hb2 (by have:=HBW.out;omega));have hz2:w.heap.size<w2.heap.size:=by have:=hb2.size;omega
    clear hb2 c0 c1 f1 hsz;have c0:=HB2.out.cell 0;have f0:=HB2.out.frozen 0;have c1:=HB2.out.cell 1;have f1:=HB2.out.frozen 1;simp only [gz,gs] at c0 c1;go_upto_region 7 with fail
    have hlt:=HLT.out;have hbw:=HBW.out
    obtain ⟨W3,hW3,HB3,HF3,HZ3⟩:∃W3,w2.setCell ⟨w.heap.size,1,none⟩ (iV l)=W3∧Hid (Blk W3 w.heap.size 40 [iV f,iV l])∧Hid (yer base (w.heap.size+1) bd bl bi day qs false w0 W3)∧Hid (w.heap.size<W3.heap.size) :=
     ⟨_,rfl,HB2.out.set 1 _,HF2.out.setOther om om om om om _,by show _<_;rw [World.size_setCell];exact hz2⟩
    with_reducible rw [hW3]
    clear hW3 HB2 HF2 hz2 c0 f0 c1 f1 hlt hbw;have c0:=HB3.out.cell 0;have c1:=HB3.out.cell 1;simp only [gz,gs] at c0 c1
    go_wp2_with fail
    refine (ynx _ f l day base (w.heap.size+1) bd bl bi qs false (by have:=HKQ.out;omega) HBW.out.2.1 HBW.out.2.2 false HI2 true HGO w0 _ ⟨by have:=HBW.out;omega,HZ3.out⟩ HF3.out).mono ?_;rintro _ w4 ⟨rfl,hst4,hk4,hz4⟩;have HB4:Hid (Blk w4 w.heap.size 40 [iV f,iV l]):=(hk4 _ om (by have:=HLT.out;omega) (by have:=HLT.out;omega)).trans HB3.out;have HST4:=lh hst4;clear hst4 hk4 hz4 c0 c1;have c0:=HB4.out.cell 0;have f0:=HB4.out.frozen 0;have c1:=HB4.out.cell 1;simp only [gz,gs] at c0 c1
    go_wp2_with fail
    go_step3
    obtain ⟨j,rfl⟩:∃j,k=j+1:=⟨k-1,by have:=HLD.out;omega⟩;simp only [hl1,hn1];clear hl1 hn1;have hkq:=HKQ.out;have hlt:=HLT.out;have hbw:=HBW.out;have en:(300-((j+1:Nat):Int)+1)=300-(j:Int):=by omega
    refine ⟨rfl,HJ.out _ _ ⟨j,l+1,l,qs++[(f,l)],_,_,_,_,_,_,_,_,_,_,_,_,_,_,_,_,_,_,_,_,_,_,_,_,_,_,_,_,_,by rw [en],⟨by omega,by simp;omega⟩,HQ2,HB4.out.set 0 _,HST4.out.setOther om om om om om _⟩ ?_⟩;show (300-(300-((j+1:Nat):Int)+1)).toNat<(300-(300-((j+1:Nat):Int))).toNat;omega
   | false =>
    have HQ2:Hid (qs++[(f,l)]=ps∧is2=is):= by
     have h:=HQ.out;rw [yez HLR.out (by simp at hgo;omega),his2] at h;exact h
    clear hr his2 hgo hle hge hk hql hbw hbl hbi
    go_wp2_with fail
    refine (yf9 f cyc (l,0) HL _).mono ?_;rintro _ w2 ⟨rfl,hb2⟩;simp only;have HB2:=lh (HB.out.below hb2);have HF2:=lh (HF.out.below hb2 (by have:=HBW.out;omega));have hz2:w.heap.size<w2.heap.size:=by have:=hb2.size;omega
    clear hb2 c0 c1 f1 hsz;have c0:=HB2.out.cell 0;have f0:=HB2.out.frozen 0;have c1:=HB2.out.cell 1;have f1:=HB2.out.frozen 1;simp only [gz,gs] at c0 c1;go_upto_region 7 with fail
    have hlt:=HLT.out;have hbw:=HBW.out
    obtain ⟨W3,hW3,HB3,HF3,HZ3⟩:∃W3,w2.setCell ⟨w.heap.size,1,none⟩ (iV l)=W3∧Hid (Blk W3 w.heap.size 40 [iV f,iV l])∧Hid (yer base (w.heap.size+1) bd bl bi day qs false w0 W3)∧Hid (w.heap.size<W3.heap.size) :=
     ⟨_,rfl,HB2.out.set 1 _,HF2.out.setOther om om om om om _,by show _<_;rw [World.size_setCell];exact hz2⟩
    with_reducible rw [hW3]
    clear hW3 HB2 HF2 hz2 c0 f0 c1 f1 hlt hbw;have c0:=HB3.out.cell 0;have c1:=HB3.out.cell 1;simp only [gz,gs] at c0 c1
    go_wp2_with fail
    refine (ynx _ f l day base (w.heap.size+1) bd bl bi qs false (by have:=HKQ.out;omega) HBW.out.2.1 HBW.out.2.2 is2 HI2 false HGO w0 _ ⟨by have:=HBW.out;omega,HZ3.out⟩ HF3.out).mono ?_;rintro _ w4 ⟨rfl,hst4,_,_⟩;have HST4:=lh hst4;clear hst4 c0 c1
    go_wp2_with fail
    simp only [Exit.jump];go_ret
    have hst4:=HST4.out;exact zq140364
  ·have HQ2:Hid (qs=ps∧false=is):= by
    have h:=HQ.out;rw [ye3 (by rw [hr];exact hc)] at h;show _∧_
    simpa [eq_comm] using h
   have hne:(r.2 != 0)=true:=by simp [hc]
   clear hr hc;have hlt:=HLT.out;obtain ⟨r1,r2⟩:=r;simp only at hne
   go_wp2_with fail
   refine (yf9 f cyc (r1,r2) HL _).mono ?_;rintro _ w2 ⟨rfl,hb2⟩;simp only;have HB2:=lh (HB.out.below hb2);have HF2:=lh (HF.out.below hb2 om);clear hb2 c0 c1 f1;have c1:=HB2.out.cell 1;have f1:=HB2.out.frozen 1;simp only [gz,gs] at c1
   go_wp2_with fail
   simp only [Exit.jump];go_ret
   have hst4:=HF2.out.setOther (g:=w.heap.size) (i:=1) om om om om om (iV r1);exact zq140364
 case first =>
  intro J' hJJ hrest;have HRE:=lh hrest;clear hJJ hrest
  go_wp2_with fail
  go_step3
  go_step
  go_step
  refine HRE.out _ _ ⟨299,start,0,[],_,_,_,_,_,_,_,_,_,_,_,_,_,_,_,_,_,_,_,_,_,_,_,_,_,_,_,_,_,rfl,by simp,?_,ybc w [iV start,iZ] _ _ rfl,?_⟩
  ·have h:=HR.out
   show _∧_;rw [h];exact ⟨rfl,rfl⟩
  ·obtain ⟨v,h1,h2,h3,h4,h5⟩:=HST.out
   have hb:=yaa (Below.refl w.heap.size w) (.cells #[iV start,iZ] 40);rcases h1.2 with ⟨rfl,_⟩ | ⟨g,cap,cur,rfl,hg,hc,_⟩
   ·exact ⟨sZ,World.ownsRow_nil _ _ _ _,h2.below hb,h3.below hb,h4.below hb,h5.trans (hb.mono hbw)⟩
   ·have:=(Array.getElem?_eq_some_iff.1 hc).1
    omega
theorem yl6 (start cyc day:Int) (ps:List (Int×Int)) (is:Bool) (HR:Hid (ybd cyc day 300 start=(ps,is))) (w:World) :
 Calls Tryz.prog 109 #[iV start,iV cyc,iV day] w (fun e w'=>∃v,e=.returned (.tuple #[v,.bool is])∧w'.ownsRow w.heap.size 40 2 v ps.length (yby ps)∧Below w.heap.size w w'):= by
 go_enter Tryz.func109,Tryz.ntmps109
 go_wp2_with fail
 have hst:yer w.heap.size (((w.alloc (.cells #[iV day] 3)).alloc (.cells #[sZ] 159)).alloc (.cells #[.bool false] 4)).heap.size w.heap.size (w.heap.size+1) (w.heap.size+1+1) day [] false w (((w.alloc (.cells #[iV day] 3)).alloc (.cells #[sZ] 159)).alloc (.cells #[.bool false] 4)) :=
  ⟨sZ,World.ownsRow_nil _ _ _ _,Blk.below (ybc w _ _ _ rfl) (yaa (yaa bR _) _),Blk.below (ybc (w.alloc _) _ _ _ (by simp)) (yaa bR _),ybc ((w.alloc _).alloc _) _ _ _ (by simp),yaa (yaa (yaa bR _) _) _⟩
 refine (yud start cyc day ps is HR w.heap.size w.heap.size (w.heap.size+1) (w.heap.size+1+1) om om w _ (by simp only [World.size_alloc];omega) hst).mono ?_;rintro _ w4 ⟨x,rfl,hst4⟩;clear hst;obtain ⟨v,h1,h2,h3,h4,h5⟩:=hst4;simp only [World.size_alloc] at h1;have HO:=lh h1;have H5:=lh h5;have c0:=h3.cell 0;have c1:=h4.cell 0;simp only [List.getElem?_cons_zero] at c0 c1;clear h1 h2 h3 h4 h5;go_upto_region 4 with fail
 go_region
 all_goals
  go_wp2
  go_ret2
  exact ⟨v,rfl,ygc HO.out om,H5.out.drew⟩
noncomputable def ofS (start cyc day:Int):Int×Int :=
 if (yb8 start cyc).2≠0 then (0,(yb8 start cyc).2) else if (ybd cyc day 300 start).2=true then (((ybd cyc day 300 start).1.length:Nat),0) else (0,10)
theorem yr4 (start cyc day:Int) (r:Int×Int) (HR:Hid (ofS start cyc day=r)) (w:World) :
 Calls Tryz.prog 63 #[iV start,iV cyc,iV day] w (RetB (.tuple #[iV r.1,iV r.2]) w):= by
 obtain ⟨l,hl⟩:∃l,yb8 start cyc=l:=⟨_,rfl⟩;obtain ⟨ps,is,hs⟩:∃ps is,ybd cyc day 300 start=(ps,is):=⟨_,_,rfl⟩;have HL:=lh hl;have HS:=lh hs;have hr:=HR.out;unfold ofS at hr;rw [hl,hs] at hr;simp only at hr;obtain ⟨l1,l2⟩:=l;clear hl hs
 by_cases hc:l2=0
 ·subst hc
  rw [if_neg (by simp)] at hr;cases is with
  | true =>
   rw [if_pos rfl] at hr;subst hr
   go_enter Tryz.func63,Tryz.ntmps63
   go_wp2_with fail
   refine (yf9 _ _ (l1,0) HL _).mono ?_;rintro _ w1 ⟨rfl,hb1⟩;simp only
   go_wp2_with fail
   refine (yl6 _ _ _ ps true HS _).mono ?_;rintro _ w2 ⟨v,rfl,ho,hb2⟩;obtain ⟨ao,cap,rfl⟩:=(Fl.of_own ho (yg7 _)).shape;clear ho;go_wp2
   go_ret2
   exact ⟨rfl,yad hb1 hb2⟩
  | false =>
   rw [if_neg (by simp)] at hr;subst hr
   go_enter Tryz.func63,Tryz.ntmps63
   go_wp2_with fail
   refine (yf9 _ _ (l1,0) HL _).mono ?_;rintro _ w1 ⟨rfl,hb1⟩;simp only
   go_wp2_with fail
   refine (yl6 _ _ _ ps false HS _).mono ?_;rintro _ w2 ⟨v,rfl,ho,hb2⟩;clear ho;go_wp2
   go_ret2
   exact ⟨rfl,yad hb1 hb2⟩
 ·rw [if_pos hc] at hr
  subst hr;have hne:(l2 != 0)=true:=by simp [hc]
  clear hc
  go_enter Tryz.func63,Tryz.ntmps63
  go_wp2_with fail
  refine (yf9 _ _ (l1,l2) HL _).mono ?_;rintro _ w1 ⟨rfl,hb1⟩;simp only;go_wp2
  go_ret2
  exact ⟨rfl,hb1⟩
theorem yyn (start cyc day:Int) (ps:List (Int×Int)) (HR:Hid (ybd cyc day 300 start=(ps,true))) (w:World) :
 Calls Tryz.prog 88 #[iV start,iV cyc,iV day] w (fun e w'=>∃v,e=.returned v∧w'.ownsRow w.heap.size 40 2 v ps.length (yby ps)∧Below w.heap.size w w'):= by
 go_enter Tryz.func88,Tryz.ntmps88
 go_wp2_with fail
 refine (yl6 _ _ _ ps true HR _).mono ?_;rintro _ w2 ⟨v,rfl,ho,hb2⟩;have HO:=lh ho;have HB:=lh hb2;clear ho hb2;go_wp2
 go_ret
 exact ⟨_,rfl,HO.out,HB.out⟩
section
variable {P:Program} {ops:Array Oper} {Q:Exit→Act→World→Prop} {md:Region.Mode} {S:World→Prop} {p:Nat}
def ycg (P:Program) (md:Region.Mode) (ops:Array Oper) (Q:Exit→Act→World→Prop) (S:World→Prop) (p:Nat):Nat→Array Bool→Act→World→Prop
 | 0,listed,a,w=>Region.ready md ops listed=[]∧Q .normal a w
 | fuel+1,listed,a,w =>
  (Region.ready md ops listed=[]→Q .normal a w) ∧
  ∀i∈Region.ready md ops listed,wpOp P ops Q i (fun a' w'=>((listed.setIfInBounds i true).getD p true=false→S w')∧ycg P md ops Q S p fuel (listed.setIfInBounds i true) a' w') a w
theorem yes:∀(fuel:Nat) (listed:Array Bool) (a:Act) (w:World),ycg P md ops Q S p fuel listed a w→wpAny P md ops Q fuel listed a w
 | 0,_,_,_,h=>h
 | fuel+1,_,_,_,h=>⟨h.1,fun i hi=>wpOp_mono (fun a' w' h'=>yes fuel _ a' w' h'.2) (h.2 i hi)⟩
def yp7 (md:Region.Mode) (ops:Array Oper) (p i:Nat):Bool:=((ops[p]?).map (·.after.any fun e=>e.on == i && Region.binds md e)).getD false
theorem ylc {p i:Nat} (h:yp7 md ops p i=true):∃o,ops[p]?=some o∧∃e∈o.after,e.on=i∧Region.binds md e=true:= by
 unfold yp7 at h;cases ho:ops[p]? with
 | none=>rw [ho] at h;cases h
 | some o =>
  rw [ho] at h;simp only [Option.map_some,Option.getD_some,Array.any_eq_true'] at h;obtain ⟨e,he,h2⟩:=h;simp at h2;exact ⟨o,rfl,e,he,h2.1,h2.2⟩
theorem yo5 {i:Nat} {oi:Oper} {v:Value} (hi:ops[i]?=some oi) (hsel:∀(j:Nat) (o:Oper) cs b,ops[j]?=some o→o.op≠.select cs b)
 (hQ:∀c a w,Q (.panic c) (a.put oi.dst v) w→Q (.panic c) a w) (hw:yp7 md ops p i=true) :
 ∀(fuel:Nat) (listed:Array Bool) (a:Act) (w:World),
  (∀j oj,ops[j]?=some oj→j≠i→listed.getD j true=false→(∀e∈oj.after,Region.binds md e=true→e.on≠i)→oi.apart ops oj=true) →
  i∈Region.ready md ops listed→listed.getD p true=false→YieldsIf P ops S oi v a→S w →
  ycg P md ops Q S p fuel (listed.setIfInBounds i true) (a.put oi.dst v) w→ycg P md ops Q S p (fuel+1) listed a w:= by
 obtain ⟨op,hop,e0,he0,hon,hbind⟩:=ylc hw
 have hpi:∀{l:Array Bool} {j:Nat},l.getD i true=false→j∈Region.ready md ops l→j≠p:=fun {l j} hl hj e=>by
  subst e;obtain ⟨_,oj,hoj,hall⟩:=mem_ready.1 hj;rw [hop] at hoj;cases hoj;have h1:=hall e0 he0 hbind;rw [hon] at h1;rcases Nat.lt_or_ge i l.size with h' | h'
  ·simp [h'] at hl h1;rw [hl] at h1;cases h1
  ·simp [Array.getElem?_eq_none h'] at h1
 intro fuel
 induction fuel with
 | zero =>
  intro listed a w _ hr hpu hy hS H;refine ⟨fun h=>(by rw [h] at hr;cases hr),fun j hj=>?_⟩
  by_cases hji:j=i
  ·subst hji;exact hy.wpOp hi hS ⟨fun _=>hS,H⟩
  ·have:=ready_mono hj hji
   rw [H.1] at this;cases this
 | succ fuel ih =>
  intro listed a w hfree hr hpu hy hS H;refine ⟨fun h=>(by rw [h] at hr;cases hr),fun j hj=>?_⟩
  by_cases hji:j=i
  ·subst hji;exact hy.wpOp hi hS ⟨fun _=>hS,H⟩
  ·have h1:=H.2 j (ready_mono hj hji)
   obtain ⟨hjun,oj,hoj,hall⟩:=mem_ready.1 hj
   have hnot:∀e∈oj.after,Region.binds md e=true→e.on≠i:=fun e he hb heq=>by
    have h1:=hall e he hb;have h0:=(mem_ready.1 hr).1;rw [heq] at h1;rcases Nat.lt_or_ge i listed.size with h' | h'
    ·simp [h'] at h0 h1;rw [h0] at h1;cases h1
    ·simp [Array.getElem?_eq_none h'] at h1
   have h2:=wpOp_putIf hoj (hfree j oj hoj hji hjun hnot) (fun cs b=>hsel i oi cs b hi) (fun cs b=>hsel j oj cs b hoj) hQ hy h1
   have hfree':∀k ok,ops[k]?=some ok→k≠i→(listed.setIfInBounds j true).getD k true=false →
    (∀e∈ok.after,Region.binds md e=true→e.on≠i)→oi.apart ops ok=true:=fun k ok hk hki hun hno=>by
    refine hfree k ok hk hki ?_ hno
    by_cases hjk:j=k
    ·subst hjk;exact hjun
    ·rw [getD_set_ne true hjk] at hun;exact hun
   have hjp:=hpi (mem_ready.1 hr).1 hj
   have hps:((listed.setIfInBounds i true).setIfInBounds j true).getD p true=false:= by
    rw [getD_set_ne true hjp,getD_set_ne true (fun e=>hpi (mem_ready.1 hr).1 hr e)];exact hpu
   refine wpOp_mono (fun a' w' h3=>⟨fun _=>h3.2.1 hps,ih (listed.setIfInBounds j true) a' w' hfree' (ready_mono hr (Ne.symm hji)) (by rw [getD_set_ne true hjp];exact hpu) h3.1 (h3.2.1 hps) ?_⟩) h2;rw [Array.setIfInBounds_comm _ _ hji];exact h3.2.2
theorem yea {i:Nat} {oi:Oper} {v:Value} {fuel:Nat} {listed:Array Bool} {a:Act} {w:World} (hi:ops[i]?=some oi)
 (hs:Region.noSelect ops=true) (hf:Region.free md ops listed i=true) (hr:(Region.ready md ops listed).contains i=true) (hw:yp7 md ops p i=true) (hp:listed.getD p true=false)
 (hQ:∀c a w,Q (.panic c) (a.put oi.dst v) w→Q (.panic c) a w) (hy:YieldsIf P ops S oi v a) (hS:S w)
 (h:ycg P md ops Q S p fuel (listed.setIfInBounds i true) (a.put oi.dst v) w):ycg P md ops Q S p (fuel+1) listed a w :=
 yo5 hi (Region.noSelect_spec hs) hQ hw fuel listed a w (Region.free_spec hi hf) (by simpa using hr) hp hy hS h
theorem yl4 {i:Nat} {oi:Oper} {v:Value} (hi:ops[i]?=some oi) (hsel:∀(j:Nat) (o:Oper) cs b,ops[j]?=some o→o.op≠.select cs b)
 (hQ:∀c a w,Q (.panic c) (a.put oi.dst v) w→Q (.panic c) a w) (hpi:p≠i) :
 ∀(fuel:Nat) (listed:Array Bool) (a:Act) (w:World),
  (∀j oj,ops[j]?=some oj→j≠i→listed.getD j true=false→(∀e∈oj.after,Region.binds md e=true→e.on≠i)→oi.apart ops oj=true) →
  i∈Region.ready md ops listed→YieldsIf P ops (fun _=>True) oi v a→(listed.getD p true=false→S w) →
  ycg P md ops Q S p fuel (listed.setIfInBounds i true) (a.put oi.dst v) w→ycg P md ops Q S p (fuel+1) listed a w:= by
 intro fuel
 induction fuel with
 | zero =>
  intro listed a w _ hr hy hS H;refine ⟨fun h=>(by rw [h] at hr;cases hr),fun j hj=>?_⟩
  by_cases hji:j=i
  ·exact zq14137a
  ·have:=ready_mono hj hji
   rw [H.1] at this;cases this
 | succ fuel ih =>
  intro listed a w hfree hr hy hS H;refine ⟨fun h=>(by rw [h] at hr;cases hr),fun j hj=>?_⟩
  by_cases hji:j=i
  ·exact zq14137a
  ·have h1:=H.2 j (ready_mono hj hji)
   obtain ⟨hjun,oj,hoj,hall⟩:=mem_ready.1 hj
   have hnot:∀e∈oj.after,Region.binds md e=true→e.on≠i:=fun e he hb heq=>by
    have h1:=hall e he hb;have h0:=(mem_ready.1 hr).1;rw [heq] at h1;rcases Nat.lt_or_ge i listed.size with h' | h'
    ·simp [h'] at h0 h1;rw [h0] at h1;cases h1
    ·simp [Array.getElem?_eq_none h'] at h1
   have h2:=wpOp_putIf hoj (hfree j oj hoj hji hjun hnot) (fun cs b=>hsel i oi cs b hi) (fun cs b=>hsel j oj cs b hoj) hQ hy h1
   have hfree':∀k ok,ops[k]?=some ok→k≠i→(listed.setIfInBounds j true).getD k true=false →
    (∀e∈ok.after,Region.binds md e=true→e.on≠i)→oi.apart ops ok=true:=fun k ok hk hki hun hno=>by
    refine hfree k ok hk hki ?_ hno
    by_cases hjk:j=k
    ·subst hjk;exact hjun
    ·rw [getD_set_ne true hjk] at hun;exact hun
   refine wpOp_mono (fun a' w' h3=>?_) h2
   have hps:(listed.setIfInBounds j true).getD p true=false→S w':=fun hp=>h3.2.1 (by
    rw [Array.setIfInBounds_comm _ _ (Ne.symm hji),getD_set_ne true (Ne.symm hpi)];exact hp)
   refine ⟨hps,ih (listed.setIfInBounds j true) a' w' hfree' (ready_mono hr (Ne.symm hji)) h3.1 hps ?_⟩;rw [Array.setIfInBounds_comm _ _ hji];exact h3.2.2
theorem yd0 {i:Nat} {oi:Oper} {v:Value} {fuel:Nat} {listed:Array Bool} {a:Act} {w:World} (hi:ops[i]?=some oi)
 (hs:Region.noSelect ops=true) (hf:Region.free md ops listed i=true) (hr:(Region.ready md ops listed).contains i=true) (hp:p≠i)
 (hQ:∀c a w,Q (.panic c) (a.put oi.dst v) w→Q (.panic c) a w) (hy:YieldsIf P ops (fun _=>True) oi v a) (hS:listed.getD p true=false→S w)
 (h:ycg P md ops Q S p fuel (listed.setIfInBounds i true) (a.put oi.dst v) w):ycg P md ops Q S p (fuel+1) listed a w :=
 yl4 hi (Region.noSelect_spec hs) hQ hp fuel listed a w (Region.free_spec hi hf) (by simpa using hr) hy hS h
theorem ysr {i:Nat} {o:Oper} {fuel:Nat} {listed:Array Bool} {a:Act} {w:World} (hr:Region.ready md ops listed=[i]) (ho:ops[i]?=some o)
 (h:∀K':Act→World→Prop,Shut (∀a w,((listed.setIfInBounds i true).getD p true=false→S w)→ycg P md ops Q S p fuel (listed.setIfInBounds i true) a w→K' a w)→if Region.wanted o (yielded ops a.tmps)=true then Oper.wp P o a w K' Q else K' (a.put o.dst undef) w):ycg P md ops Q S p (fuel+1) listed a w:= by
 refine ⟨fun h0=>(by rw [hr] at h0;cases h0),fun j hj=>?_⟩;rw [hr] at hj;obtain rfl:j=i:=by simpa using hj
 exact wpOp_step ho (fun K' hK=>h K' (fun a w hS hW=>hK a w ⟨hS,hW⟩))
def yam (P:Program) (md:Region.Mode) (ops:Array Oper) (Q:Exit→Act→World→Prop) (S:World→Prop) (p:Nat) (fuel:Nat) (listed:Array Bool) (a:Act) (w:World) (rs:List Nat):Prop :=
 ∀i∈rs,wpOp P ops Q i (fun a' w'=>((listed.setIfInBounds i true).getD p true=false→S w')∧ycg P md ops Q S p fuel (listed.setIfInBounds i true) a' w') a w
theorem yam.nil {fuel:Nat} {listed:Array Bool} {a:Act} {w:World}:yam P md ops Q S p fuel listed a w []:=fun _ h=>by cases h
theorem yam.cons {fuel:Nat} {listed:Array Bool} {a:Act} {w:World} {i:Nat} {o:Oper} {rs:List Nat} (ho:ops[i]?=some o)
 (h:∀K':Act→World→Prop,Shut (∀a w,((listed.setIfInBounds i true).getD p true=false→S w)→ycg P md ops Q S p fuel (listed.setIfInBounds i true) a w→K' a w)→if Region.wanted o (yielded ops a.tmps)=true then Oper.wp P o a w K' Q else K' (a.put o.dst undef) w)
 (hs:yam P md ops Q S p fuel listed a w rs):yam P md ops Q S p fuel listed a w (i::rs):=fun j hj=>by
 rcases List.mem_cons.1 hj with rfl | hj
 ·exact wpOp_step ho (fun K' hK=>h K' (fun a w hS hW=>hK a w ⟨hS,hW⟩))
 ·exact hs j hj
theorem ybo {rs:List Nat} {fuel:Nat} {listed:Array Bool} {a:Act} {w:World} (hr:Region.ready md ops listed=rs) (hne:rs≠[])
 (h:yam P md ops Q S p fuel listed a w rs):ycg P md ops Q S p (fuel+1) listed a w :=
 ⟨fun h0=>absurd (hr▸h0) hne,hr▸h⟩
theorem yal {listed:Array Bool} {a:Act} {w:World} (hr:Region.ready md ops listed=[]) (h:Q .normal a w) :
 ∀fuel,ycg P md ops Q S p fuel listed a w
 | 0=>⟨hr,h⟩
 | _+1=>⟨fun _=>h,by rw [hr];simp⟩
theorem yan {id:Nat} {a:Act} {w:World} (S:World→Prop) (p:Nat) (hm:P.follows .mixedOrders=true)
 (h:ycg P .any ops Q S p ops.size (Array.replicate ops.size false) a w.drew):(Code.region id ops true).wp P Q a w :=
 wp_region_any hm (yes _ _ _ _ h)
end
section
variable {P:Program} {ops:Array Oper} {Q:Exit→Act→World→Prop} {md:Region.Mode} {S:World→Prop} {p:Nat}
def tkOk (md:Region.Mode) (ops:Array Oper) (p i:Nat) (listed:Array Bool):Bool :=
 Region.noSelect ops && Region.free md ops listed i && (Region.ready md ops listed).contains i && yp7 md ops p i && (!(listed.getD p true))
theorem tk (i:Nat) {d:Option Tmp} {op:Op} {ty:TypeId} {pos:String} {af:Array Edge} {gd:Option (Nat×Bool)} {v:Value} {fuel:Nat} {listed:Array Bool} {a a':Act} {w:World}
 (hi:ops[i]?=some ⟨d,op,ty,pos,af,gd⟩) (hc:tkOk md ops p i listed=true) (hQ:∀c (a:Act) w,Q (.panic c) (a.put d v) w→Q (.panic c) a w) (hw:Region.wanted ⟨d,op,ty,pos,af,gd⟩ (yielded ops a.tmps)=true)
 (hy:∀w,S w→(execOp a.eval ⟨d,op,ty,pos,af,gd⟩).run P w=.ok (.value v) w) (hS:S w) (ha:a.put d v=a')
 (h:ycg P md ops Q S p fuel (listed.setIfInBounds i true) a' w):ycg P md ops Q S p (fuel+1) listed a w:= by
 unfold tkOk at hc;simp only [Bool.and_eq_true,Bool.not_eq_true'] at hc;subst ha;exact yea hi hc.1.1.1.1 hc.1.1.1.2 hc.1.1.2 hc.1.2 hc.2 hQ (Or.inl ⟨hw,hy⟩) hS h
def tfOk (md:Region.Mode) (ops:Array Oper) (p i:Nat) (listed:Array Bool):Bool :=
 Region.noSelect ops && Region.free md ops listed i && (Region.ready md ops listed).contains i && (!(p == i))
theorem tf (i:Nat) {d:Option Tmp} {op:Op} {ty:TypeId} {pos:String} {af:Array Edge} {gd:Option (Nat×Bool)} {v:Value} {fuel:Nat} {listed:Array Bool} {a a':Act} {w:World}
 (hi:ops[i]?=some ⟨d,op,ty,pos,af,gd⟩) (hc:tfOk md ops p i listed=true) (hQ:∀c (a:Act) w,Q (.panic c) (a.put d v) w→Q (.panic c) a w) (hw:Region.wanted ⟨d,op,ty,pos,af,gd⟩ (yielded ops a.tmps)=true)
 (hy:∀w,True→(execOp a.eval ⟨d,op,ty,pos,af,gd⟩).run P w=.ok (.value v) w) (hS:S w) (ha:a.put d v=a')
 (h:ycg P md ops Q S p fuel (listed.setIfInBounds i true) a' w):ycg P md ops Q S p (fuel+1) listed a w:= by
 unfold tfOk at hc;simp only [Bool.and_eq_true,Bool.not_eq_true',beq_eq_false_iff_ne] at hc;subst ha;exact yd0 hi hc.1.1.1 hc.1.1.2 hc.1.2 hc.2 hQ (Or.inl ⟨hw,hy⟩) (fun _=>hS) h
theorem wo (i:Nat) {d:Option Tmp} {op:Op} {ty:TypeId} {pos:String} {af:Array Edge} {gd:Option (Nat×Bool)} {fuel:Nat} {listed:Array Bool} {a:Act} {w:World} (hr:Region.ready md ops listed=[i]) (ho:ops[i]?=some ⟨d,op,ty,pos,af,gd⟩)
 (h:∀K':Act→World→Prop,Shut (∀a w,((listed.setIfInBounds i true).getD p true=false→S w)→ycg P md ops Q S p fuel (listed.setIfInBounds i true) a w→K' a w)→if Region.wanted ⟨d,op,ty,pos,af,gd⟩ (yielded ops a.tmps)=true then Oper.wp P ⟨d,op,ty,pos,af,gd⟩ a w K' Q else K' (a.put d undef) w):ycg P md ops Q S p (fuel+1) listed a w:=ysr hr ho h
end
end Go.Proofs.YtkongpjpkpfniaaGreat

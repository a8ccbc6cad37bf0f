/- TopTicks: parts of the proof, made small by a program (mini.py). -/
import Derived.Test.YtkongpjpkpfniaaGreatT01
import Derived.Test.YtkongpjpkpfniaaGreatT27
import Derived.Test.YtkongpjpkpfniaaGreatT35
import Derived.Test.YtkongpjpkpfniaaGreatT36
set_option linter.unusedVariables false
set_option linter.unusedSimpArgs false
set_option maxRecDepth 100000
set_option maxHeartbeats 6400000
namespace Go.Proofs.YtkongpjpkpfniaaGreat
open Go.RowKit
theorem zq378896 {q:Prop} (h:q:= by
 clear ht
 go_wp2_with (at_builtin;refine yas _ rfl (.tmp 60) (.tmp 65) 25 rfl w4.heap.size 48 i0 (.agg #[iZ,iZ,iZ,iZ,iZ]) 5 40 Tryz.underlying25 hi hz0 hz1 hz2 rfl (by decide) _ _ _ rfl ((HOW.out).alloc _) (Ad wr.heap.size 0) 1 1 [_,_,_,_,_] rfl rfl (fun j u hu=>by rw [Addr.add_lit,(yae wr _ _ _ rfl).cell,Nat.zero_add];exact hu) (fun u hu=>by simp only [List.mem_cons,List.not_mem_nil,or_false] at hu;rcases hu with rfl | rfl | rfl | rfl | rfl <;> rfl) HBN.out.1 HBN.out.2.1 (HBN.out.2.2 _) ?_;intro v9 w9 hown9 hg9 hbk9;have HO9:=lh hown9;have HG9:=lh hg9;clear hown9 hg9 hbk9)
 go_roundg gg
 case measure=>omega
 case rel =>
  have h5:=HFIN.out _ _ HO9.out;exact ⟨k+1,by have:=HK.out;omega,by go_num,h5.1,h5.2,(yaa HB.out _).grown HG9.out (yaa HB.out _).size (fun k hk=>(HOW.out.lt k hk).1)⟩):q:=h
section
theorem yqq {w:World} {a b c d e:Int} {bv rv dv:Value}:(Instr.field 38 (.agg #[iV a,iV b,bv,iV c,iV d,rv,dv,iV e]) 2).run Tryz.prog w=.ok (.agg #[bv,iV c,iV d]) w:= by
 kernel_rfl
attribute [local go_sem] ynf yqq
theorem yue {W:World} {B:Nat} {v:Value} {ts:List (Int×Bool)} {a b c d e f:Int} {u:Value} (h:TrS W v ts) (hu:IsSl u) (hB:Blk W B 24 [iV a,u,iV b,iV c,iV d,iV e,iV f]):OffF [B] v:=fun b' o n cp e1 hn hm=>by
 simp only [ms] at hm;subst hm e1;obtain ⟨rfl,_⟩:=h.fl.len;obtain ⟨b2,o2,x,g,e2,_,c2,_⟩:=h.get hn;cases e2;rw [hB.cell] at c2;obtain ⟨_,_,_,rfl⟩:=hu;simp only [Nat.zero_mul,Nat.add_zero] at c2
 match o,c2 with
 | 0,c2=>simp at c2
 | 1,c2=>simp at c2
 | 2,c2=>simp at c2
 | 3,c2=>simp at c2
 | 4,c2=>simp at c2
 | 5,c2=>simp at c2
 | k+6,c2=>simp at c2
theorem jbf {l:List R5} {k:Nat} (h:k<l.length):oneL (l.take (k+1))=oneL (l.take k)++oneC (l.getD k yax):= by
 unfold oneL;rw [List.take_succ_eq_append_getElem h,List.flatMap_append];simp [List.getD,h]
theorem jdb (c:R5):(oneC c).length<=40:= by
 unfold oneC
 split
 ·rw [List.length_replicate]
  omega
 ·simp
def jbi (base:Nat) (w:World) (v:Value) (l:List R5):Prop:=w.ownsRow base 48 5 v l.length (yag l)
theorem jbi.more {base:Nat} {w:World} {v:Value} {l:List R5} {x:R5} (h:w.ownsRow base 48 5 v (l.length+1) (yag l++[iV x.a,iV x.b,iV x.c,iV x.d,iV x.e])):jbi base w v (l++[x]):= by
 unfold jbi;rw [List.length_append,ybr];exact h
theorem jbn {l:List R5} {base:Nat} {W:World} (h:l.length<=2000) (hb:base<=W.heap.size):l.length+1<=maxLen/\(l.length+1)*40<=140737488355328/\∀o,base<=(W.alloc o).heap.size:= by
 refine ⟨by unfold maxLen;omega,by omega,fun o=>?_⟩;rw [World.size_alloc];omega
theorem jcf {A:Acc} {l:List R5} (hA:ycy A) (h:∀i,i<l.length->jbb A l i≠5/\jbb A l i≠10):(endS A (oneL l)).today=(endS A l).today/\(endS A (oneL l)).R=(endS A l).R/\(endS A (oneL l)).iss=(endS A l).iss:= by
 have key:∀(l:List R5) (A:Acc),(∀i,i<l.length->jbb A l i≠5/\jbb A l i≠10)->∀e∈errS A l,e≠5/\e≠10:= by
  intro l
  induction l with
  | nil=>intro A _ e he;cases he
  | cons c l ih =>
   intro A h e he;rcases List.mem_cons.1 he with rfl | he
   ·exact h 0 (by simp)
   ·exact ih (doS A c).1 (fun i hi=>by
     have:=h (i+1) (by simpa using hi);exact this) e he
 obtain ⟨m,hm⟩:=jb4 l A.seq hA (key l A h);have e:A.re A.seq=A:=rfl;rw [e] at hm;rw [hm];exact ⟨rfl,rfl,rfl⟩
theorem ticks_law (t:Tm) (tv lv:Value) (l:List R5) (w:World) (hv:TrS w tv t.ts) (hl:R5S w lv l):Calls Tryz.prog 5 #[.agg (t.cells tv).toArray,lv] w (RetB (.bool true) w):= by
 have HV:=lh hv;have HL:=lh hl;obtain ⟨tao,tc,rfl⟩:=hv.shape;clear hv hl;unfold Tm.cells;obtain ⟨W1,hW1,X1,B1⟩:∃W,w.alloc (.cells #[iV t.lim,.slice tao t.ts.length tc,iV t.cyc,iV t.dued,iV t.minf,iV t.minp,iV t.start] 24)=W/\Hid (Blk W w.heap.size 24 [iV t.lim,.slice tao t.ts.length tc,iV t.cyc,iV t.dued,iV t.minf,iV t.minp,iV t.start])/\Hid (BW w W):=⟨_,rfl,yae w _ _ _ rfl,yaa bR _⟩
 go_enter Tryz.func5,Tryz.ntmps5
 go_upto_region 1 with fail
 try with_reducible rw [hW1]
 clear hW1;obtain ⟨c0,c1,c2,c3,c4,c5,c6,-⟩:=X1.out.cs [0,1,2,3,4,5,6];simp only [gz,gs] at c0 c1 c2 c3 c4 c5 c6;have kx:=X1.out.lt
 go_wp2_with fail
 refine (ymv t (.slice tao t.ts.length tc) _ (HV.out.below B1.out)).mono ?_;clear c0 c1 c2 c3 c4 c5 c6 kx;rintro _ w2 ⟨t',tv',rfl,hr,hst,htr,hb2⟩;obtain ⟨tao',tc',rfl⟩:=htr.shape;have HT:=lh (And.intro hr hst);have X2:=lh (X1.out.below hb2);have B2:Hid (BW w w2):=yad B1.out hb2;have T2:=lh htr;have HO:=lh (yue htr (isl _ _ _) X2.out);clear hr hst htr hb2;rw [show (t'.cells (.slice tao' t'.ts.length tc')).toArray=#[iV t'.lim,.slice tao' t'.ts.length tc',iV t'.cyc,iV t'.dued,iV t'.minf,iV t'.minp,iV t'.start] from rfl];have HZ:Hid (w2.heap[w.heap.size]?=some (.cells #[iV t.lim,.slice tao t.ts.length tc,iV t.cyc,iV t.dued,iV t.minf,iV t.minp,iV t.start] 24 (0,0))):=X2.out;go_upto_region 2 with (with_reducible refine yhs rfl (.tmp 2) (.tmp 16) rfl rfl w.heap.size #[iV t'.lim,.slice tao' t'.ts.length tc',iV t'.cyc,iV t'.dued,iV t'.minf,iV t'.minp,iV t'.start] rfl rfl _ HZ.out rfl rfl (by simp [Value.oneCell']) ?_)
 obtain ⟨W3,hW3,X3,T3,B3⟩:∃W,w2.setRow w.heap.size #[iV t'.lim,.slice tao' t'.ts.length tc',iV t'.cyc,iV t'.dued,iV t'.minf,iV t'.minp,iV t'.start]=W/\Hid (Blk W w.heap.size 24 [iV t'.lim,.slice tao' t'.ts.length tc',iV t'.cyc,iV t'.dued,iV t'.minf,iV t'.minp,iV t'.start])/\Hid (TrS W (.slice tao' t'.ts.length tc') t'.ts)/\Hid (BW w W) :=
  ⟨_,rfl,ycu X2.out [iV t'.lim,.slice tao' t'.ts.length tc',iV t'.cyc,iV t'.dued,iV t'.minf,iV t'.minp,iV t'.start],T2.out.keep (F:=[w.heap.size]) ((yab.refl _ _).setRow (.inl (List.mem_cons_self ..)) _) HO.out,ybl B2.out (Nat.le_refl _) _⟩
 try with_reducible rw [hW3]
 clear hW3 HZ
 go_wp2_with fail
 refine (ynd lv l 25 (by decide) _ (HL.out.below B3.out)).mono ?_;rintro _ w4 ⟨u,l',rfl,hl',hl25,hb4⟩;obtain ⟨uo,uc,rfl⟩:=hl'.shape;have L4:=lh hl';have L25:=lh hl25;have X4:=lh (X3.out.below hb4);have T4:=lh (T3.out.below hb4);have B4:Hid (BW w w4):=B3.out.trans (hb4.mono B3.out.size);clear hl' hl25 hb4;obtain ⟨i0,hi,hz0,hz1,hz2⟩:=info_parts yxj
 go_upto_block 0 with fail
 go_cut [5] (fun s5 wx=>Hid ((oneL l').length<=1000)/\Hid (jbi w4.heap.size wx s5 (oneL l'))/\Hid (BW w4 wx))
 case first =>
  go_wp2_with fail
  go_loopg [5,6] l'.length (fun gg x5 x6 wr=>∃k:Nat,k+gg=l'.length/\x6=iV (k:Int)/\Hid ((oneL (l'.take k)).length<=40*k)/\Hid (jbi w4.heap.size wr x5 (oneL (l'.take k)))/\Hid (BW w4 wr))
  case atStart=>exact ⟨0,by omega,rfl,Nat.zero_le _,World.ownsRow_nil _ _ _ _,bR⟩
  case round =>
   obtain ⟨k,hk,rfl,HQ,HO,HB⟩:=hrel;cases gk with
   | zero =>
    have hlt:¬(k:Int)<(l'.length:Int):=by omega
    have HK:Hid (k=l'.length):=by show k=_;omega
    clear hk
    go_wp2_with fail
    go_meet
    case rel =>
     have h1:=HQ.out;have h2:=HO.out;rw [HK.out,List.take_of_length_le (Nat.le_refl _)] at h1 h2;exact ⟨(by show _<=_;have:=L25.out;omega),h2,HB.out⟩
   | succ gg =>
    have hlt:(k:Int)<(l'.length:Int):=by omega
    have HKN:Hid (k<l'.length):=by show k<_;omega
    have HK:=lh hk;have hk1:wrap64 ((k:Int)+1)=(k:Int)+1:=IntWalk.wrap64_in _ ⟨by omega,by have:=L25.out;omega⟩;obtain ⟨b,o,x,rfl,⟨c0,c1,c2,c3,c4⟩,HX⟩:=(L4.out.below HB.out).get HKN.out;obtain ⟨xa,xb,xc,xd,xe⟩:=x;simp only at c0 c1 c2 c3 c4
    have HBD:Hid ((oneL (l'.take k)).length<=1960):= by
     show _<=_;have:=HQ.out;have:=L25.out;have:=HKN.out;omega
    clear hk
    by_cases ht:xa=8/\1<xb/\xb<=40
    ·obtain ⟨rfl,h1,h2⟩:=ht
     obtain ⟨q,rfl⟩:=Int.eq_ofNat_of_zero_le (show 0<=xb by omega);have HQ2:Hid (1<q/\q<=40):=by show _/\_;omega
     go_wp2_with fail
     clear h1 h2 c0 c1 c2 c3 c4;go_loopg [5,7] q (fun g2 y5 y7 wq=>∃j:Nat,j+g2=q/\y7=iV (j:Int)/\Hid (jbi w4.heap.size wq y5 (oneL (l'.take k)++List.replicate j ⟨8,1,0,0,0⟩))/\Hid (BW w4 wq))
     case atStart=>exact ⟨0,by omega,rfl,(by rw [List.replicate_zero,List.append_nil];exact HO.out),HB.out⟩
     case round =>
      obtain ⟨j,hj,rfl,HO2,HB2⟩:=hrel;obtain ⟨b2,o2,x2,e2,⟨d0,d1,d2,d3,d4⟩,HX2⟩:=(L4.out.below HB2.out).get HKN.out;cases e2;obtain rfl:x2=⟨8,q,xc,xd,xe⟩:=HX2.out.symm.trans HX.out;simp only at d0 d1 d2 d3 d4;cases gk with
      | zero =>
       have hlt2:¬(j:Int)<(q:Int):=by omega
       have HJ:Hid (j=q):=by show _=_;omega
       clear hj
       go_wp2_with fail
       go_roundg gg
       case measure=>omega
       case rel =>
        refine ⟨k+1,by have:=HK.out;omega,by go_num,?_,?_,HB2.out⟩
        ·rw [jbf HKN.out,List.length_append]
         have h1:=HQ.out;have h2:=jdb (l'.getD k yax);show _<=_;omega
        ·have h3:=HO2.out
         rw [HJ.out] at h3;rw [jbf HKN.out,HX.out];unfold oneC;rw [if_pos ⟨rfl,by have:=HQ2.out;simp only;omega⟩];exact h3
      | succ g2 =>
       have hlt2:(j:Int)<(q:Int):=by omega
       have hj1:wrap64 ((j:Int)+1)=(j:Int)+1:=IntWalk.wrap64_in _ ⟨by omega,by have:=HQ2.out;omega⟩;have HJ:=lh hj;have HBN:=lh (jbn (l:=oneL (l'.take k)++List.replicate j ⟨8,1,0,0,0⟩) (by rw [List.length_append,List.length_replicate];have:=HBD.out;have:=HQ2.out;omega) HB2.out.size);have HOW:=lh (show World.ownsRow _ _ _ _ _ _ _ from HO2.out);clear hj
       go_wp2_with (at_builtin;refine yas _ rfl (.tmp 56) (.tmp 58) 25 rfl w4.heap.size 48 i0 (.agg #[iZ,iZ,iZ,iZ,iZ]) 5 40 Tryz.underlying25 hi hz0 hz1 hz2 rfl (by decide) _ _ _ rfl ((HOW.out).alloc _) (Ad wr.heap.size 0) 1 1 [_,_,_,_,_] rfl rfl (fun j u hu=>by rw [Addr.add_lit,(yae wr _ _ _ rfl).cell,Nat.zero_add];exact hu) (fun u hu=>by simp only [List.mem_cons,List.not_mem_nil,or_false] at hu;rcases hu with rfl | rfl | rfl | rfl | rfl <;> rfl) HBN.out.1 HBN.out.2.1 (HBN.out.2.2 _) ?_;intro v9 w9 hown9 hg9 hbk9;have HO9:=lh hown9;have HG9:=lh hg9;clear hown9 hg9 hbk9)
       go_roundg g2
       case measure=>omega
       case rel =>
        refine ⟨j+1,by have:=HJ.out;omega,by go_num,?_,(yaa HB2.out _).grown HG9.out (yaa HB2.out _).size (fun k hk=>(HOW.out.lt k hk).1)⟩;have h3:=jbi.more (x:=⟨8,1,0,0,0⟩) HO9.out;rw [List.append_assoc,<-List.replicate_succ'] at h3;exact h3
    ·have HT2:=lh ht
     have HBN:=lh (jbn (l:=oneL (l'.take k)) (by have:=HBD.out;omega) HB.out.size);have HOW:=lh (show World.ownsRow _ _ _ _ _ _ _ from HO.out)
     have HFIN:Hid (∀v9 w9,w9.ownsRow w4.heap.size 48 5 v9 ((oneL (l'.take k)).length+1) (yag (oneL (l'.take k))++[iV xa,iV xb,iV xc,iV xd,iV xe])->(oneL (l'.take (k+1))).length<=40*(k+1)/\jbi w4.heap.size w9 v9 (oneL (l'.take (k+1)))):=fun v9 w9 h9=>by
      have h4:oneL (l'.take (k+1))=oneL (l'.take k)++[⟨xa,xb,xc,xd,xe⟩]:= by
       rw [jbf HKN.out,HX.out];unfold oneC;rw [if_neg HT2.out]
      rw [h4];refine ⟨?_,jbi.more h9⟩;rw [List.length_append];have h1:=HQ.out;simp only [List.length_singleton];omega
     clear HT2
     by_cases h8:xa=8
     ·subst h8
      by_cases h1:1<xb
      ·have h2:¬xb<=40:=by omega
       exact zq378896
      ·exact zq378896
     ·have h8b:(xa == 8)=false:=by simpa using h8
      exact zq378896
 case rest =>
  obtain ⟨HM,HO,HB⟩:=hcut;obtain ⟨m,hm⟩:∃m,(oneL l').length=m:=⟨_,rfl⟩;have h1:=HO.out;unfold jbi at h1;rw [hm] at h1;obtain ⟨so,scx,rfl⟩:=ykj h1;have LC:=lh (R5S.of_own h1 hm);have HMM:Hid (m<=1000):=hm▸HM.out;have HME:=lh hm;have TC:=lh (T4.out.below HB.out);have XC:=lh (X4.out.below HB.out);have LL:=lh (L4.out.below HB.out);have BC:Hid (BW w wc):=B4.out.trans (HB.out.mono B4.out.size);clear hm h1 HO HM
  by_cases h250:250<m
  ·have hI:(250:Int)<(m:Int):=by omega
   go_wp2_with fail
   refine (yrl _).mono ?_;rintro _ w6 ⟨rfl,hb6⟩;have HF:Hid (BW w w6):=BC.out.trans (hb6.mono BC.out.size);clear hb6
   go_wp2_with fail
   go_ret
   exact ⟨rfl,HF.out⟩
  ·have hI:¬(250:Int)<(m:Int):=by omega
   have HM2:Hid (m<=250):=by show m<=250;omega
   have HS:Hid (∀W',BW wc W'->Ce W' w.heap.size 0 (iV t'.lim)/\Ce W' w.heap.size 1 (.slice tao' t'.ts.length tc')/\Ce W' w.heap.size 2 (iV t'.cyc)/\Ce W' w.heap.size 3 (iV t'.dued)/\Ce W' w.heap.size 4 (iV t'.minf)/\Ce W' w.heap.size 5 (iV t'.minp)/\Ce W' w.heap.size 6 (iV t'.start)):=fun W' hW=>by
    have q:=XC.out.below hW;exact ⟨q.cell 0,q.cell 1,q.cell 2,q.cell 3,q.cell 4,q.cell 5,q.cell 6⟩
   clear h250;go_upto_region 15 with fail
   have hsd:=HS.out wc.drew (yaf bR)
   go_region_held3 (fun W'=>Ce W' w.heap.size 0 (iV t'.lim)/\Ce W' w.heap.size 1 (.slice tao' t'.ts.length tc')/\Ce W' w.heap.size 2 (iV t'.cyc)/\Ce W' w.heap.size 3 (iV t'.dued)/\Ce W' w.heap.size 4 (iV t'.minf)/\Ce W' w.heap.size 5 (iV t'.minp)/\Ce W' w.heap.size 6 (iV t'.start)) (first | with_reducible exact hsd | with_reducible exact hs5 | with_reducible exact hs6 | with_reducible assumption)
    (first
     | (go_at_call 20;refine (yq4 400 (by decide) _).mono ?_;rintro _ w5 ⟨gp,ga,rfl,hp,hb⟩;have P5:=lh hp;have HB5:Hid (BW wc w5):=yad (yaf bR) hb;have HG5:Hid (∀x∈[ga,gp],wc.heap.size<=x):=(by intro x hx;have h1:=hp.choose_spec.1;simp only [List.mem_cons,List.not_mem_nil,or_false] at hx;simp only [World.size_drew] at h1;omega);have hs5:=HS.out w5 HB5.out;clear hp hb)
     | (go_at_call 19;refine (jcx _ gp ga 400 t' (.slice tao' t'.ts.length tc') (.slice uo l'.length uc) l' HT.out.1 HT.out.2 (by decide) (by have:=L25.out;omega) _ P5.out (by have:=HB5.out.size;simp only [World.size_drew];exact this) (TC.out.below HB5.out) (Fl.offNew TC.out.fl (by decide) HG5.out) (fun w' hw'=>LL.out.below (HB5.out.trans (by simp only [World.size_drew] at hw';exact hw')))).mono ?_;rintro _ w6 ⟨gs1,N1,v1,F1,rfl,s6,a6,b6⟩;have S6:=lh s6;have A6:=lh a6;have HB6:Hid (BW wc w6):=HB5.out.trans (by simp only [World.size_drew] at b6;exact b6);have hs6:=HS.out w6 HB6.out;clear s6 a6 b6))
   clear hsd;clear hs5 hs6 HS;obtain ⟨xo,xc,rfl⟩:=ykj A6.out.choose_spec.1
   have HS:Hid (∀W',BW w6 W'->Ce W' w.heap.size 0 (iV t'.lim)/\Ce W' w.heap.size 1 (.slice tao' t'.ts.length tc')/\Ce W' w.heap.size 2 (iV t'.cyc)/\Ce W' w.heap.size 3 (iV t'.dued)/\Ce W' w.heap.size 4 (iV t'.minf)/\Ce W' w.heap.size 5 (iV t'.minp)/\Ce W' w.heap.size 6 (iV t'.start)):=fun W' hW=>by
    have q:=(XC.out.below HB6.out).below hW;exact ⟨q.cell 0,q.cell 1,q.cell 2,q.cell 3,q.cell 4,q.cell 5,q.cell 6⟩
   go_upto_region 16 with fail
   have hsd:=HS.out w6.drew (yaf bR)
   go_region_held3 (fun W'=>Ce W' w.heap.size 0 (iV t'.lim)/\Ce W' w.heap.size 1 (.slice tao' t'.ts.length tc')/\Ce W' w.heap.size 2 (iV t'.cyc)/\Ce W' w.heap.size 3 (iV t'.dued)/\Ce W' w.heap.size 4 (iV t'.minf)/\Ce W' w.heap.size 5 (iV t'.minp)/\Ce W' w.heap.size 6 (iV t'.start)) (first | with_reducible exact hsd | with_reducible exact hs7 | with_reducible exact hs8 | with_reducible assumption)
    (first
     | (go_at_call 20;refine (yq4 400 (by decide) _).mono ?_;rintro _ w7 ⟨gp2,ga2,rfl,hp,hb⟩;have P7:=lh hp;have HB7:Hid (BW w6 w7):=yad (yaf bR) hb;have HG7:Hid (∀x∈[ga2,gp2],w6.heap.size<=x):=(by intro x hx;have h1:=hp.choose_spec.1;simp only [List.mem_cons,List.not_mem_nil,or_false] at hx;simp only [World.size_drew] at h1;omega);have hs7:=HS.out w7 HB7.out;clear hp hb)
     | (go_at_call 19;refine (jcx _ gp2 ga2 400 t' (.slice tao' t'.ts.length tc') (.slice so m scx) (oneL l') HT.out.1 HT.out.2 (by decide) (by have:=HME.out;have:=HM2.out;omega) _ P7.out (by have:=HB7.out.size;simp only [World.size_drew];exact this) ((TC.out.below HB6.out).below HB7.out) (Fl.offNew (TC.out.below HB6.out).fl (by decide) HG7.out) (fun w' hw'=>(LC.out.below HB6.out).below (HB7.out.trans (by simp only [World.size_drew] at hw';exact hw')))).mono ?_;rintro _ w8 ⟨gs2,N2,v2,F2,rfl,s8,a8,b8⟩;have S8:=lh s8;have A8:Hid (AnsL _ w8 v2 m _):=HME.out▸a8;have HB8:Hid (BW w6 w8):=HB7.out.trans (by simp only [World.size_drew] at b8;exact b8);have hs8:=HS.out w8 HB8.out;clear s8 a8 b8))
   clear hsd;clear hs7 hs8 HS;obtain ⟨yo,yc,rfl⟩:=ykj A8.out.choose_spec.1;obtain ⟨A1,hA1⟩:∃A,endS (yb6 t') l'=A:=⟨_,rfl⟩;obtain ⟨A2,hA2⟩:∃A,endS (yb6 t') (oneL l')=A:=⟨_,rfl⟩;have HA1:=lh hA1;have HA2:=lh hA2
   have OK1:Hid (ycy A1/\A1.seq<=1000):= by
    have h1:=jbx l' (ynp HT.out.1 HT.out.2);have h2:=L25.out;have h3:(yb6 t').seq=0:=rfl;rw [hA1] at h1;exact ⟨h1.1,by have:=h1.2.2;omega⟩
   have OK2:Hid (ycy A2/\A2.seq<=1000):= by
    have h1:=jbx (oneL l') (ynp HT.out.1 HT.out.2);have h2:=HM2.out;have h4:=HME.out;have h3:(yb6 t').seq=0:=rfl;rw [hA2] at h1;exact ⟨h1.1,by have:=h1.2.2;omega⟩
   have S6':Hid (ja8 _ gs1 A1 400 N1 F1 w8):=(HA1.out▸S6.out).below HB8.out;have S8':Hid (ja8 _ gs2 A2 400 N2 F2 w8):=HA2.out▸S8.out;have B8:Hid (BW w w8):=BC.out.trans ((yad HB6.out HB8.out).mono BC.out.size);clear hA1 hA2
   go_wp2_with fail
   refine (yrl _).mono ?_;rintro _ w9 ⟨rfl,hb9⟩;have S6a:=lh (S6'.out.below hb9);have S8a:=lh (S8'.out.below hb9);have B9:Hid (BW w w9):=B8.out.trans (hb9.mono B8.out.size)
   have ER9:Hid (∀i,i<l'.length->∃b o,xo=some (Ad b o)/\w9.cell? (Ad b (o+i*20))=some (iV (jbb (yb6 t') l' i))):=fun i hi=>by
    obtain ⟨cs,h1,h2,h3,h4⟩:=A6.out;obtain ⟨b,o,e,hc⟩:=(Fl.of_own h1 h3).at (i:=i*20) (show i*20<l'.length*20 by omega);refine ⟨b,o,e,?_⟩;have hc':=hc.trans (h4 i hi);exact (((yad HB8.out hb9)).cell (p:=(Ad b (o+i*20))) (yac hc')).trans hc'
   clear hb9
   go_wp2_with fail
   go_loopg [12] l'.length (fun gg x12 wr=>∃i:Nat,i+gg=l'.length/\x12=iV (i:Int)/\Hid (∀j,j<i->jbb (yb6 t') l' j≠5/\jbb (yb6 t') l' j≠10)/\wr=w9)
   case atStart=>exact ⟨0,by omega,rfl,(fun j hj=>absurd hj (Nat.not_lt_zero j)),rfl⟩
   case round =>
    obtain ⟨i,hi,rfl,HER,rfl⟩:=hrel;cases gk with
    | succ gg =>
     have hlt:(i:Int)<(l'.length:Int):=by omega
     have HIL:Hid (i<l'.length):=by show i<_;omega
     have hk1:wrap64 ((i:Int)+1)=(i:Int)+1:=IntWalk.wrap64_in _ ⟨by omega,by have:=L25.out;omega⟩;obtain ⟨b,o,rfl,c0⟩:=ER9.out i HIL.out;obtain ⟨e,he⟩:∃e,jbb (yb6 t') l' i=e:=⟨_,rfl⟩;rw [he] at c0;have HEE:=lh he;clear he
     by_cases h5:e=5
     ·subst h5
      go_wp2_with fail
      go_ret
      exact ⟨rfl,B9.out⟩
     ·have h5b:(e == 5)=false:=by simpa using h5
      by_cases h10:e=10
      ·subst h10
       go_wp2_with fail
       go_ret
       exact ⟨rfl,B9.out⟩
      ·have h10b:(e == 10)=false:=by simpa using h10
       have HNE:Hid (e≠5/\e≠10):=⟨h5,h10⟩
       go_wp2_with fail
       go_roundg gg
       case measure=>omega
       case rel=>exact ⟨i+1,by omega,by go_num,(fun j hj=>by
        rcases Nat.lt_succ_iff_lt_or_eq.1 hj with h1 | rfl
        ·exact HER.out j h1
        ·rw [HEE.out];exact HNE.out),rfl⟩
    | zero =>
     have hlt:¬(i:Int)<(l'.length:Int):=by omega
     have HSM:Hid (A2.today=A1.today/\A2.R=A1.R/\A2.iss=A1.iss):= by
      have h1:=jcf (l:=l') (ynp HT.out.1 HT.out.2) (fun j hj=>HER.out j om);rw [HA1.out,HA2.out] at h1;exact h1
     clear hi
     go_wp2_with fail
     refine (ja9 OK1.out.1 OK1.out.2 S6a.out).mono ?_;rintro _ w10 ⟨g1,G1,V1,rfl,a10,b10⟩;have A10:=lh a10;have S10:=lh (S8a.out.below b10);have S10a:=lh (S6a.out.below b10);have B10:Hid (BW w w10):=B9.out.trans (b10.mono B9.out.size);clear a10 b10
     go_wp2_with fail
     refine (yfv _ g1 A1 OK1.out.1 G1 V1 _ A10.out).mono ?_;rintro _ w11 ⟨cy1,bv1,rv1,dv1,rfl,hbv,hrv,hdv,_,b11⟩;obtain ⟨bo,bc,rfl⟩:=hbv.shape;obtain ⟨ro,rc,rfl⟩:=hrv.shape;obtain ⟨do1,dn1,dc1,rfl⟩:=hdv;have BV:=lh hbv;have RV:=lh hrv;have S11:=lh (S10.out.below b11);have S11a:=lh (S10a.out.below b11);have B11:Hid (BW w w11):=B10.out.trans (b11.mono B10.out.size);clear hbv hrv b11
     go_wp2_with fail
     refine (ja9 OK2.out.1 OK2.out.2 S11.out).mono ?_;rintro _ w12 ⟨g2,G2,V2,rfl,a12,b12⟩;have A12:=lh a12;have BV12:=lh (BV.out.below b12);have RV12:=lh (RV.out.below b12);have S12:=lh (S11.out.below b12);have S12a:=lh (S11a.out.below b12);have B12:Hid (BW w w12):=B11.out.trans (b12.mono B11.out.size);clear a12 b12
     go_wp2_with fail
     refine (yfv _ g2 A2 OK2.out.1 G2 V2 _ A12.out).mono ?_;rintro _ w13 ⟨cy2,bv2,rv2,dv2,rfl,hbv,hrv,hdv,_,b13⟩;rw [HSM.out.2.1] at hbv hrv;rw [HSM.out.1,HSM.out.2.1];obtain ⟨bo2,bc2,rfl⟩:=hbv.shape;obtain ⟨ro2,rc2,rfl⟩:=hrv.shape;obtain ⟨do2,dn2,dc2,rfl⟩:=hdv;have BV13:=lh (BV12.out.below b13);have RV13:=lh (RV12.out.below b13);have BW13:=lh hbv;have RW13:=lh hrv;have S13:=lh (S12.out.below b13);have S13a:=lh (S12a.out.below b13);have B13:Hid (BW w w13):=B12.out.trans (b13.mono B12.out.size);clear hbv hrv b13;have q1:Blk ((w13.alloc (.cells #[iZ,iZ,sZ,iZ,iZ,sZ,sZ,iZ] 38)).alloc (.cells #[iZ,iZ,sZ,iZ,iZ,sZ,sZ,iZ] 38)) w13.heap.size 38 [iZ,iZ,sZ,iZ,iZ,sZ,sZ,iZ]:=(yae w13 _ _ _ rfl).below (yaa bR _);have q2:Blk ((w13.alloc (.cells #[iZ,iZ,sZ,iZ,iZ,sZ,sZ,iZ] 38)).alloc (.cells #[iZ,iZ,sZ,iZ,iZ,sZ,sZ,iZ] 38)) (w13.heap.size+1) 38 [iZ,iZ,sZ,iZ,iZ,sZ,sZ,iZ]:=ybc _ _ _ _ (World.size_alloc _ _);have k1:yab [w13.heap.size] ((w13.alloc (.cells #[iZ,iZ,sZ,iZ,iZ,sZ,sZ,iZ] 38)).alloc (.cells #[iZ,iZ,sZ,iZ,iZ,sZ,sZ,iZ] 38)) (((w13.alloc (.cells #[iZ,iZ,sZ,iZ,iZ,sZ,sZ,iZ] 38)).alloc (.cells #[iZ,iZ,sZ,iZ,iZ,sZ,sZ,iZ] 38)).setRow w13.heap.size #[iV A1.today,iV cy1,.slice bo A1.R.p.bs.length bc,iV A1.R.p.c,iV A1.R.p.d,.slice ro A1.R.rs.length rc,.slice do1 dn1 dc1,iV A1.seq]):=(yab.refl _ _).setRow (.inl (List.mem_cons_self ..)) _;have q3:=q2.keep k1 (by simp only [ms];omega);have HZ1:Hid (((w13.alloc (.cells #[iZ,iZ,sZ,iZ,iZ,sZ,sZ,iZ] 38)).alloc (.cells #[iZ,iZ,sZ,iZ,iZ,sZ,sZ,iZ] 38)).heap[w13.heap.size]?=some (.cells #[iZ,iZ,sZ,iZ,iZ,sZ,sZ,iZ] 38 (0,0))):=q1;have HZ2:Hid ((((w13.alloc (.cells #[iZ,iZ,sZ,iZ,iZ,sZ,sZ,iZ] 38)).alloc (.cells #[iZ,iZ,sZ,iZ,iZ,sZ,sZ,iZ] 38)).setRow w13.heap.size #[iV A1.today,iV cy1,.slice bo A1.R.p.bs.length bc,iV A1.R.p.c,iV A1.R.p.d,.slice ro A1.R.rs.length rc,.slice do1 dn1 dc1,iV A1.seq]).heap[w13.heap.size+1]?=some (.cells #[iZ,iZ,sZ,iZ,iZ,sZ,sZ,iZ] 38 (0,0))):=q3;obtain ⟨WC,hWC,SA3,SB3,SC3⟩:∃W,(((w13.alloc (.cells #[iZ,iZ,sZ,iZ,iZ,sZ,sZ,iZ] 38)).alloc (.cells #[iZ,iZ,sZ,iZ,iZ,sZ,sZ,iZ] 38)).setRow w13.heap.size #[iV A1.today,iV cy1,.slice bo A1.R.p.bs.length bc,iV A1.R.p.c,iV A1.R.p.d,.slice ro A1.R.rs.length rc,.slice do1 dn1 dc1,iV A1.seq]).setRow (w13.heap.size+1) #[iV A1.today,iV cy2,.slice bo2 A1.R.p.bs.length bc2,iV A1.R.p.c,iV A1.R.p.d,.slice ro2 A1.R.rs.length rc2,.slice do2 dn2 dc2,iV A2.seq]=W/\Hid (Blk W w13.heap.size 38 [iV A1.today,iV cy1,.slice bo A1.R.p.bs.length bc,iV A1.R.p.c,iV A1.R.p.d,.slice ro A1.R.rs.length rc,.slice do1 dn1 dc1,iV A1.seq])/\Hid (Blk W (w13.heap.size+1) 38 [iV A1.today,iV cy2,.slice bo2 A1.R.p.bs.length bc2,iV A1.R.p.c,iV A1.R.p.d,.slice ro2 A1.R.rs.length rc2,.slice do2 dn2 dc2,iV A2.seq])/\Hid (BW w13 W):=⟨_,rfl,(ycu q1 [iV A1.today,iV cy1,.slice bo A1.R.p.bs.length bc,iV A1.R.p.c,iV A1.R.p.d,.slice ro A1.R.rs.length rc,.slice do1 dn1 dc1,iV A1.seq]).keep ((yab.refl [w13.heap.size+1] _).setRow (.inl (List.mem_cons_self ..)) _) (by simp only [ms];omega),ycu q3 [iV A1.today,iV cy2,.slice bo2 A1.R.p.bs.length bc2,iV A1.R.p.c,iV A1.R.p.d,.slice ro2 A1.R.rs.length rc2,.slice do2 dn2 dc2,iV A2.seq],ybl (ybl (yaa (yaa bR _) _) (Nat.le_refl _) _) (Nat.le_succ _) _⟩;clear q1 q2 q3 k1;go_upto_region 25 with (first | (with_reducible refine jbt rfl (.tmp 13) (.tmp 117) rfl rfl w13.heap.size #[iV A1.today,iV cy1,.slice bo A1.R.p.bs.length bc,iV A1.R.p.c,iV A1.R.p.d,.slice ro A1.R.rs.length rc,.slice do1 dn1 dc1,iV A1.seq] rfl rfl _ HZ1.out rfl rfl (by simp [Value.oneCell']) ?_) | (with_reducible refine jbt rfl (.tmp 14) (.tmp 120) rfl rfl (w13.heap.size+1) #[iV A1.today,iV cy2,.slice bo2 A1.R.p.bs.length bc2,iV A1.R.p.c,iV A1.R.p.d,.slice ro2 A1.R.rs.length rc2,.slice do2 dn2 dc2,iV A2.seq] rfl rfl _ HZ2.out rfl rfl (by simp [Value.oneCell']) ?_))
     try with_reducible rw [hWC]
     clear hWC HZ1 HZ2;have BC3:Hid (BW w WC):=B13.out.trans (SC3.out.mono B13.out.size);obtain ⟨s0,s1,s2,s3,s4,s5,-⟩:=SA3.out.cs [0,1,2,3,4,5];simp only [gz,gs] at s0 s1 s2 s3 s4 s5;obtain ⟨r0,r1,r2,r3,r4,r5,-⟩:=SB3.out.cs [0,1,2,3,4,5];simp only [gz,gs] at r0 r1 r2 r3 r4 r5;have ks1:=SA3.out.lt;have ks2:=SB3.out.lt
     go_wp2_with fail
     refine (jbm (.slice bo A1.R.p.bs.length bc) (.slice bo2 A1.R.p.bs.length bc2) A1.R.p.bs A1.R.p.c A1.R.p.d _ (BV13.out.below SC3.out) (BW13.out.below SC3.out)).mono ?_;rintro _ w15 ⟨rfl,b15⟩;have S15:=lh (SA3.out.below b15);have R15:=lh (SB3.out.below b15);have C15:Hid (BW w13 w15):=yad SC3.out b15;have B15:Hid (BW w w15):=BC3.out.trans (b15.mono BC3.out.size);clear s0 s1 s2 s3 s4 s5 r0 r1 r2 r3 r4 r5 ks1 ks2 b15;have s5:=S15.out.cell 5;simp only [gz,gs] at s5;have r5:=R15.out.cell 5;simp only [gz,gs] at r5;have ks1:=S15.out.lt;have ks2:=R15.out.lt;have HEQ:Hid ((A1.R.rs == A1.R.rs)=true):=by show _=_;simp
     go_wp2_with fail
     refine (jbe (.slice ro A1.R.rs.length rc) (.slice ro2 A1.R.rs.length rc2) A1.R.rs A1.R.rs true HEQ _ (RV13.out.below C15.out) (RW13.out.below C15.out)).mono ?_;rintro _ w16 ⟨rfl,b16⟩;have C16:Hid (BW w13 w16):=yad C15.out b16;have B16:Hid (BW w w16):=B15.out.trans (b16.mono B15.out.size);clear s5 r5 ks1 ks2 b16
     go_wp2_with fail
     refine (ja9 OK1.out.1 OK1.out.2 (S13a.out.below C16.out)).mono ?_;rintro _ w17 ⟨g3,G3,V3,rfl,a17,b17⟩;have A17:=lh a17;have C17:Hid (BW w13 w17):=yad C16.out b17;have B17:Hid (BW w w17):=B16.out.trans (b17.mono B16.out.size);clear a17 b17
     go_wp2_with fail
     refine (yhm _ g3 A1 OK1.out.1 G3 V3 _ A17.out).mono ?_;rintro _ w18 ⟨v18,us18,rfl,ho18,hls18,_,b18⟩;have HST1:=lh (StS.of_own ho18 hls18);have C18:Hid (BW w13 w18):=yad C17.out b18;have B18:Hid (BW w w18):=B17.out.trans (b18.mono B17.out.size);clear ho18 hls18 b18
     go_wp2_with fail
     refine (ja9 OK2.out.1 OK2.out.2 (S13.out.below C18.out)).mono ?_;rintro _ w19 ⟨g4,G4,V4,rfl,a19,b19⟩;have A19:=lh a19;have HST2:=lh (HST1.out.below b19);have B19:Hid (BW w w19):=B18.out.trans (b19.mono B18.out.size);clear a19 b19
     go_wp2_with fail
     refine (yhm _ g4 A2 OK2.out.1 G4 V4 _ A19.out).mono ?_;rintro _ w20 ⟨v20,us20,rfl,ho20,hls20,_,b20⟩;have HST3:=lh (HST2.out.below b20);have HST4:Hid (StS w20 v20 A1.iss):=HSM.out.2.2▸StS.of_own ho20 hls20;have B20:Hid (BW w w20):=B19.out.trans (b20.mono B19.out.size);clear ho20 hls20 b20
     go_wp2_with fail
     refine (jb0 v18 v20 A1.iss _ HST3.out HST4.out).mono ?_;rintro _ w21 ⟨rfl,b21⟩;have B21:Hid (BW w w21):=B20.out.trans (b21.mono B20.out.size);clear b21
     go_wp2_with fail
     go_ret
     exact ⟨rfl,B21.out⟩
end
end Go.Proofs.YtkongpjpkpfniaaGreat

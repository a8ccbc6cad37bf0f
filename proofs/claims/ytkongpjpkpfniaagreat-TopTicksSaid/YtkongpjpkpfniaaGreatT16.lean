/- TopTicks: parts of the proof, made small by a program (mini.py). -/
import Derived.Laws.CopyRow
import Derived.Laws.Externs
import Derived.Laws.NewBlocks
import Derived.Lib.AppendZeros
import Derived.Lib.AppendZerosOnto
import Derived.Lib.Overlaps
import Derived.Test.YtkongpjpkpfniaaGreatT01
import Derived.Test.YtkongpjpkpfniaaGreatT04
import Derived.Test.YtkongpjpkpfniaaGreatT10
import Derived.Test.YtkongpjpkpfniaaGreatT15
set_option linter.unusedVariables false
set_option linter.unusedSimpArgs false
set_option maxRecDepth 100000
set_option maxHeartbeats 6400000
namespace Go.Proofs.YtkongpjpkpfniaaGreat
open Go.RowKit
theorem zq162403 {q:Prop} (h:q:= by
 rintro _ w8 ⟨u,rfl,hown8,hk8⟩;have h1l:=yga l p x HPF.out.2.1;obtain ⟨uo,uc,rfl⟩:=(R5S.of_own hown8 h1l).shape;have hs8:=HKX.out _ _ hs7 hk8;have HO8:=lh hown8;have HK8:=lh hk8;clear hown8 hk8 h1l;refine hK.out _ _ (fun hun=>hs8) ?_;clear hK K;try simp only [ap,aq,sa,sb,sc]
 refine wo 15 kr rfl fun K hK=>?_;go_simp;refine hK.out _ _ kd ?_;clear hK K;try simp only [ap,aq,sa,sb,sc]
 refine wo 16 kr rfl fun K hK=>?_;go_simp;refine hK.out _ _ kd ?_;clear hK K;try simp only [ap,aq,sa,sb,sc]
 have HB8:Hid (Blk w8 g 125 [iV lim,.slice tao ts.length tc,iV cyc,iV dued,iV minf,iV minp,iV start,.slice eo l.length ec]):=(HB.out.below HB7.out).keep HK8.out (fun hm=>HG.out.2.2.2 (by simpa using (Option.mem_toList.1 hm).symm));have fz:w8.frozen? (Ad g 7)=false:=(HB8.out).frozen 7;have cz:=hs8.1.2.2.2.2.2.2.2;refine wo 17 kr rfl fun K hK=>?_;go_simp;refine hK.out _ _ kd ?_;clear hK K;try simp only [ap,aq,sa,sb,sc]
 refine yal kr ?_ _;clear fz cz;go_wp2
 go_ret
 have KX:yab (g::(Value.slice eo l.length ec).ownBlock.toList) w w8:=(yab.of_below HB7.out).trans HK8.out (fun y hy=>.inl (List.mem_cons_of_mem _ hy));have h1l:=yga l p x HPF.out.2.1
 have HOFF:OffF [g] (.slice uo (insL l p x).length uc):=fun b o n c e hn hm=>by
  cases e;simp only [ms] at hm;subst hm;rcases HO8.out.2 with ⟨h,_⟩ | ⟨g',cap',cur',h,hb',hg',_⟩
  ·cases h
  ·simp only [Value.slice.injEq,Option.some.injEq,Addr.mk.injEq] at h
   obtain ⟨⟨rfl,_⟩,_⟩:=h;have:=HB8.out;unfold Blk at this;rw [hg'] at this;simp at this
 refine ⟨rfl,.slice uo (insL l p x).length uc,⟨?_,?_,?_⟩,?_,?_⟩
 ·exact HB8.out.set 7 _
 ·exact ((HT.out.keep KX HPF.out.2.2)).keep ((yab.refl [g] _).setCell (.inl (by simp)) _) (HPF.out.2.2.mono (by simp))
 ·exact ((R5S.of_own HO8.out h1l)).keep ((yab.refl [g] _).setCell (.inl (by simp)) _) HOFF
 ·exact yaz HO8.out (yaj HO8.out HB8.out (by decide)) _
 ·exact KX.setCell (.inl (by simp)) _):q:=h
theorem yth (v:Value) (l:List R5) (HA:Hid (Asc l)) (hn:l.length<=10000) (w:World) (hv:R5S w v l) :
 Calls Tryz.prog 177 #[v,iV (l.length:Int),yew] w (RetB (.tuple #[]) w):= by
 have HV:=lh hv;have HN:=lh hn;obtain ⟨ao,cap,rfl⟩:=hv.shape;have INS:=lh (fun a b (h1:a<=b) (h2:b<=l.length) W hW=>yp6 (.slice ao l.length cap) l HA a b h1 h2 hn W hW);have SYM:=lh (fun a m b (h1:a<m) (h2:m<b) (h3:b<=l.length) W hW=>yxm (.slice ao l.length cap) l HA hn a m b h1 h2 h3 W hW);clear hv hn;unfold yew at INS SYM ⊢;obtain ⟨n,hnl⟩:∃n,l.length=n:=⟨_,rfl⟩;have HNL:=lh hnl;rw [hnl] at HV INS SYM ⊢;clear hnl
 go_enter Tryz.func177,Tryz.ntmps177
 go_wp2_with fail
 go_loopg [7,8] (n+20) (fun g a b wr=>∃A B:Nat,a=iV (A:Int)/\b=iV (B:Int)/\Hid (B=A+20/\A<=n/\g=n+20-A)/\Hid (BW w wr))
 case atStart=>exact ⟨0,20,rfl,rfl,lh ⟨rfl,Nat.zero_le _,rfl⟩,bR⟩
 case round =>
  obtain ⟨A,B,rfl,rfl,HK,HBW⟩:=hrel
  by_cases hbn:B<=n
  ·have hlt:(B:Int)<=(n:Int):=by omega
   obtain ⟨C,hC⟩:∃C,B+20=C:=⟨_,rfl⟩;have hCb:C<=1000000:=by have:=HN.out;have:=HNL.out;omega
   have HC:=lh (And.intro hC hbn);have e1:wrap64 ((B:Int)+20)=(C:Int):=yqp (j:=20) hC hCb;clear hbn hC hCb
   go_wp2_with fail
   refine (INS.out A B (by have:=HK.out;omega) HC.out.2 _ (HV.out.below HBW.out)).mono ?_;rintro _ w1 ⟨rfl,hb1⟩;have HB1:=lh (yad HBW.out hb1);clear hb1
   go_wp2_with fail
   go_roundg (n+20-B)
   case measure=>have:=HK.out;have:=HC.out;omega
   case rel=>exact ⟨B,C,rfl,by first | rfl | simp only [e1],lh ⟨HC.out.1.symm,HC.out.2,rfl⟩,HB1.out⟩
  ·have hlt:¬(B:Int)<=(n:Int):=by omega
   clear hbn
   go_wp2_with fail
   refine (INS.out A n HK.out.2.1 (Nat.le_refl _) _ (HV.out.below HBW.out)).mono ?_;rintro _ w1 ⟨rfl,hb1⟩;have HB1:=lh (yad HBW.out hb1);clear hb1 hlt
   go_wp2_with fail
   go_loopg [6] (n+1) (fun g t wr=>∃S:Nat,t=iV (S:Int)/\Hid (1<=S/\S<=2*n+40/\n+1<=S+g)/\Hid (BW w wr))
   case atStart=>exact ⟨20,rfl,lh ⟨by omega,by omega,by omega⟩,HB1.out⟩
   case round =>
    obtain ⟨S,rfl,HS,HBS⟩:=hrel;obtain ⟨g2,hg2⟩:∃g2,g2=gk:=⟨_,rfl⟩;subst hg2
    by_cases hsn:S<n
    ·have hlt:(S:Int)<(n:Int):=by omega
     obtain ⟨S2,hS2⟩:∃S2,S*2=S2:=⟨_,rfl⟩;have hS2':(2:Int)*(S:Int)=(S2:Int):=by omega
     have hS2'':(S:Int)*2=(S2:Int):=by omega
     have hSb:-9223372036854775808<=(S2:Int)/\(S2:Int)<=9223372036854775807:=by have:=HN.out;have:=HNL.out;omega
     have HSS:=lh (And.intro hS2 (And.intro hsn hSb));have e1:wrap64 ((2:Int)*(S:Int))=(S2:Int):=by rw [hS2'];exact IntWalk.wrap64_in _ hSb
     have e2:wrap64 ((S:Int)*2)=(S2:Int):=by rw [hS2''];exact IntWalk.wrap64_in _ hSb
     clear hS2 hS2' hS2'' hSb hsn
     go_wp2_with fail
     try simp only [e1]
     go_loopg [7,8] (n+1) (fun g a b wr=>∃A B:Nat,a=iV (A:Int)/\b=iV (B:Int)/\Hid (B=A+S2/\A<=n/\n+1<=A+g)/\Hid (BW w wr))
     case atStart=>exact ⟨0,S2,rfl,by first | rfl | simp only [e1],lh ⟨by omega,Nat.zero_le _,by omega⟩,HBS.out⟩
     case round =>
      obtain ⟨A,B,rfl,rfl,HK2,HBW2⟩:=hrel
      by_cases hbn2:B<=n
      ·have hlt2:(B:Int)<=(n:Int):=by omega
       obtain ⟨C,hC⟩:∃C,B+S2=C:=⟨_,rfl⟩;obtain ⟨M,hM⟩:∃M,A+S=M:=⟨_,rfl⟩;have hCb:C<=1000000:=by have:=HN.out;have:=HNL.out;have:=HSS.out;omega
       have hMb:M<=1000000:=by have:=HN.out;have:=HNL.out;have:=HSS.out;have:=HK2.out;omega
       have HC:=lh (And.intro hC (And.intro hbn2 hM));have e3:wrap64 ((B:Int)+(S2:Int))=(C:Int):=yqp hC hCb;have e4:wrap64 ((A:Int)+(S:Int))=(M:Int):=yqp hM hMb;clear hbn2 hC hCb hM hMb
       go_wp2_with fail
       refine (SYM.out A M B (by have:=HC.out;have:=HS.out;omega) (by have:=HC.out;have:=HK2.out;have:=HSS.out;have:=HS.out;omega) HC.out.2.1 _ (HV.out.below HBW2.out)).mono ?_;rintro _ w1 ⟨rfl,hb1⟩;have HB2:=lh (yad HBW2.out hb1);clear hb1
       go_wp2_with fail
       go_roundg (gk-1)
       case measure=>have:=HK2.out;have:=HC.out;omega
       case rel=>exact ⟨B,C,rfl,by first | rfl | simp only [e1,e3],lh ⟨HC.out.1.symm,HC.out.2.1,by have:=HK2.out;have:=HC.out;have:=HSS.out;have:=HS.out;omega⟩,HB2.out⟩
      ·have hlt2:¬(B:Int)<=(n:Int):=by omega
       obtain ⟨M,hM⟩:∃M,A+S=M:=⟨_,rfl⟩;have hMb:M<=1000000:=by have:=HN.out;have:=HNL.out;have:=HSS.out;have:=HK2.out;omega
       have HM:=lh hM;have e4:wrap64 ((A:Int)+(S:Int))=(M:Int):=yqp hM hMb;clear hM hMb hbn2
       by_cases hmn:M<n
       ·have hlt3:(M:Int)<(n:Int):=by omega
        have HMN:=lh hmn;clear hmn
        go_wp2_with fail
        refine (SYM.out A M n (by have:=HM.out;have:=HS.out;omega) HMN.out (Nat.le_refl _) _ (HV.out.below HBW2.out)).mono ?_;rintro _ w1 ⟨rfl,hb1⟩;have HB2:=lh (yad HBW2.out hb1);clear hb1
        go_wp2_with fail
        go_roundg (g2-1)
        case measure=>have:=HS.out;have:=HSS.out;omega
        case rel=>exact ⟨S2,by first | rfl | simp only [e2],lh ⟨by have:=HS.out;have:=HSS.out;omega,by have:=HS.out;have:=HSS.out;have:=HN.out;have:=HNL.out;omega,by have:=HS.out;have:=HSS.out;omega⟩,HB2.out⟩
       ·have hlt3:¬(M:Int)<(n:Int):=by omega
        clear hmn
        go_wp2_with fail
        go_roundg (g2-1)
        case measure=>have:=HS.out;have:=HSS.out;omega
        case rel=>exact ⟨S2,by first | rfl | simp only [e2],lh ⟨by have:=HS.out;have:=HSS.out;omega,by have:=HS.out;have:=HSS.out;have:=HN.out;have:=HNL.out;omega,by have:=HS.out;have:=HSS.out;omega⟩,HBW2.out⟩
    ·have hlt:¬(S:Int)<(n:Int):=by omega
     clear hsn;go_wp2
     go_end0
     exact ⟨rfl,HBS.out⟩
theorem yk2 (v:Value) (l:List R5) (HA:Hid (Asc l)) (hn:l.length<=10000) (w:World) (hv:R5S w v l) :
 Calls Tryz.prog 133 #[v,yew] w (RetB (.tuple #[]) w):= by
 have ST:=lh (fun W hW=>yth v l HA hn W hW);have HV:=lh hv;obtain ⟨ao,cap,rfl⟩:=hv.shape;clear hv;unfold yew at ST ⊢
 go_enter Tryz.func133,Tryz.ntmps133
 go_wp2_with fail
 refine (ST.out _ (HV.out.below bL)).mono ?_;rintro _ w1 ⟨rfl,hb1⟩;have HB1:=lh (yad bR hb1);clear hb1;go_wp2
 go_end0
 exact ⟨rfl,HB1.out⟩
theorem yht (v:Value) (l:List R5) (HA:Hid (Asc l)) (hn:l.length<=10000) (w:World) (hv:R5S w v l) :
 Calls Tryz.prog 86 #[v] w (fun e w'=>∃u,e=.returned u/\w'.ownsRow w.heap.size 150 5 u l.length (yag l)/\BW w w'):= by
 have ST:=lh (fun u W hW=>yk2 u l HA hn W hW);have HV:=lh hv;obtain ⟨ao,cap,rfl⟩:=hv.shape;clear hv;unfold yew at ST
 go_enter Tryz.func86,Tryz.ntmps86
 go_wp2_with fail
 refine (yg1 _ l _ HV.out om).mono ?_;rintro _ w1 ⟨u,rfl,ho,hb1⟩;have HO:=lh ho;have HB1:=lh hb1;have HU:=lh (R5S.of_own ho rfl);obtain ⟨uo,uc,rfl⟩:=(R5S.of_own ho rfl).shape;clear ho hb1
 go_wp2_with fail
 refine (ST.out _ _ (HU.out.below bL)).mono ?_;rintro _ w2 ⟨rfl,hb2⟩;have HO2:=lh (yah HO.out hb2);have HB2:=lh (yad HB1.out hb2);clear hb2;go_wp2
 go_ret
 exact ⟨_,rfl,HO2.out,HB2.out⟩
section
variable {P:Program}
theorem yd8 (w:World) (dT sT ty elem:TypeId) (m g o dLen dCap:Nat) (a:Addr) (sLen sCap:Nat) (cur:List Value) (t:TypeId) (cs:List Value)
 (hu:P.underlying dT=some (.slice elem)) (hs:(P.info? elem).map (·.size)=some m)
 (hg:Blk w g t cur) (hn:cs.length=Nat.min sLen dLen*m)
 (hsrc:∀j v,cs[j]?=some v->w.cell? (a.add j)=some v) (hfit:o+cs.length<=cur.length) (h1:∀v∈cs,v.oneCell'=true) :
 (Builtin.copy_ #[dT,sT] ty #[sL g o dLen dCap,.slice (some a) sLen sCap]).run P w =
  .ok (goInt (Nat.min sLen dLen)) (w.setRow g (cur.take o++cs++cur.drop (o+cs.length)).toArray):= by
 have hl:=run_loadCells_list (P:=P) w a cs hsrc;have hst:=run_storeCells_at P g o t cs 0 cur.toArray w hg (by simpa using hfit) h1;cases hq:P.info? elem with
 | none=>simp [hq] at hs
 | some i =>
  have hi:i.size=m:=by simpa [hq] using hs
  simp [Builtin.copy_,run_underlying hu,Builtin.lenOf,Builtin.firstCells,sizeOf,typeInfo,hq,hi,<-hn,hl,hst]
theorem yhr {ops:Array Oper} {o:Oper} {a:Act} {w:World} {K:Act->World->Prop} {Q:Exit->Act->World->Prop} {E:Prop}
 (hg:o.guard=none) (d x:Operand) (dT sT:TypeId) (hop:o.op=Op.call { callee:=Callee.builtin Builtin.copy,args:=#[d,x],argTypes:=#[dT,sT] })
 (v u:Value) (hd:a.eval d=v) (hx:a.eval x=u) {v':Value} {w':World} (hr:(Builtin.copy_ #[dT,sT] o.type #[v,u]).run P w=.ok v' w') (hK:K (a.put o.dst v') w') :
 if Region.wanted o (yielded ops a.tmps)=true then Oper.wp P o a w K Q else E:= by
 have hw:Region.wanted o (yielded ops a.tmps)=true:=by simp [Region.wanted,hg]
 rw [if_pos hw];unfold Oper.wp;simp [execOp,hop,resolve,invoke,builtin,hd,hx,hr,Result.andThen];exact hK
end
theorem ycu {w:World} {g:Nat} {t:TypeId} {cur:List Value} (h:Blk w g t cur) (X:List Value):Blk (w.setRow g X.toArray) g t X:=setRow_heap w g cur.toArray X.toArray t (0,0) h
theorem yc7 {w:World} {g k:Nat} (X:Array Value) (h:k≠g):(w.setRow g X).heap[k]?=w.heap[k]?:= by
 unfold World.setRow;simp [Array.getElem?_modify,Ne.symm h]
theorem yjq:(Tryz.prog.info? 150).map (·.size)=some 5:=by kernel_rfl
def insL (l:List R5) (i:Nat) (x:R5):List R5:=l.take i++[x]++l.drop i
theorem yga (l:List R5) (i:Nat) (x:R5) (hi:i<=l.length):(insL l i x).length=l.length+1:=by simp [insL];omega
theorem ymd (v:Value) (l:List R5) (x:R5) (base vb:Nat) (w:World) (hown:w.ownsRow base 150 5 v l.length (yag l)) (hbase:base<=w.heap.size) (hv:Blk w vb 150 x.cells) (hn:l.length<=10000) :
 Calls Tryz.prog 156 #[v,iV (l.length:Int),sL vb 0 1 1] w (fun e w'=>∃u,e=.returned u/\w'.ownsRow base 150 5 u (l.length+1) (yag (insL l l.length x))/\w.grownBy w' v.ownBlock):= by
 have HO:=lh hown;have HV:=lh hv;obtain ⟨ao,cap,rfl⟩:=(R5S.of_own hown rfl).shape;have hlen:=(Fl.len (R5S.of_own hown rfl)).2;unfold maxLen at hlen;obtain ⟨hlc,hcm,_⟩:=hlen;obtain ⟨i0,hi,hz0,hz1,hz2⟩:=info_parts ymh;have HL:=lh (And.intro (ybf [x]) (And.intro (ye6 [x]) hbase))
 have hnews:∀ad,some ((Ad vb 0):Addr)=some ad->∀j u,(yag [x])[j]?=some u->w.cell? (ad.add j)=some u:= by
  intro ad had j u hu;cases had;rw [Addr.add_lit,HV.out.cell,Nat.zero_add];have e:yag [x]=x.cells:=by simp [yag]
  rwa [e] at hu
 have HN:=lh hnews;clear hown hv hnews hbase
 go_enter Tryz.func156,Tryz.ntmps156
 go_wp2_with (at_builtin;refine ya9 _ rfl (.tmp 23) (.tmp 24) 53 rfl base 150 i0 (.agg #[iZ,iZ,iZ,iZ,iZ]) 5 40 Tryz.underlying53 hi hz0 hz1 hz2 rfl (by decide) (.slice ao l.length cap) l.length (yag l) rfl HO.out (some (Ad vb 0)) 1 1 (yag [x]) rfl HL.out.1 (fun h=>by cases h) HN.out HL.out.2.1 (by unfold maxLen;omega) om HL.out.2.2 ?_;intro v' w1 hown1 hg1 hn1;clear hn1)
 all_goals
  go_ret
  refine ⟨_,rfl,?_,by first | exact hg1 | (cases ao <;> exact hg1)⟩
  have e:yag (insL l l.length x)=yag l++yag [x]:= by
   unfold insL;rw [List.take_length,List.drop_length,List.append_nil,ybr]
  rw [e];exact hown1
theorem yn3 {w:World} {g:Nat} {t:TypeId} {cur:List Value} (h:Blk w g t cur):w.shape? g=some (t,cur.length):= by
 unfold World.shape?;unfold Blk at h;rw [h];simp
theorem yzl (w:World):(Go.sizeOf 150).run Tryz.prog w=.ok 5 w:= by
 obtain ⟨i0,hi,hz0,hz1,hz2⟩:=info_parts ymh;simp [Go.sizeOf,typeInfo,hi,hz1]
theorem yqc {w:World} {vb g o:Nat} {cur cv:List Value} (hv:Blk w vb 150 cv) (hg:Blk w g 150 cur) (hne:vb≠g) (hcur:cur.length≠0) (la ca lb cb:Nat) :
 (callFunc 194 #[sL vb 0 la ca,sL g o lb cb]).run Tryz.prog w=.ok (.value (.bool false)) w:= by
 rw [run_callFunc_extern (e:=Extern.SlicesOverlaps.overlaps #[53,53] #[4]) Tryz.func194 kr kr kr kr,
  Lib.run_overlaps_apart w 53 4 150 Tryz.underlying53 5 yzl (Ad vb 0) (Ad g o) la ca lb cb hne _ _ _ _ (yn3 hv) (yn3 hg) hcur (hv.frozen 0) (hv.frozen _)]
 rfl
theorem yy3 {l:List R5} {cur:List Value} {i cap:Nat} (h:cur.take (l.length*5)=yag l) (hc:cur.length=cap*5) (hcap:l.length+1<=cap) (hi:i<l.length) (x:R5) :
 ((cur.take ((i+1)*5)++yag (l.drop i)++cur.drop ((i+1)*5+(yag (l.drop i)).length)).take (i*5)++x.cells++(cur.take ((i+1)*5)++yag (l.drop i)++cur.drop ((i+1)*5+(yag (l.drop i)).length)).drop (i*5+x.cells.length)).take ((l.length+1)*5)=yag (insL l i x):= by
 have hdl:(yag (l.drop i)).length=(l.length-i)*5:=by rw [ybf,List.length_drop]
 have hx:x.cells.length=5:=rfl;have h1:(cur.take ((i+1)*5)).length=(i+1)*5:=by rw [List.length_take,hc];omega
 have h2:cur.take (i*5)=yag (l.take i):= by
  rw [<-ykk,<-h,List.take_take]
  congr 1
  omega
 have h3:(cur.take ((i+1)*5)++yag (l.drop i)++cur.drop ((i+1)*5+(yag (l.drop i)).length)).take (i*5)=yag (l.take i):= by
  rw [List.append_assoc,List.take_append_of_le_length om,List.take_take,<-h2]
  congr 1
  omega
 have h4:(cur.take ((i+1)*5)++yag (l.drop i)++cur.drop ((i+1)*5+(yag (l.drop i)).length)).drop (i*5+x.cells.length)=yag (l.drop i)++cur.drop ((i+1)*5+(yag (l.drop i)).length):= by
  have e:i*5+x.cells.length=(cur.take ((i+1)*5)).length:=by rw [h1,hx];omega
  rw [List.append_assoc,e,List.drop_left]
 have h5:(yag (l.take i)).length=i*5:=by rw [ybf,List.length_take];congr 1;omega
 rw [h3,h4];unfold insL;rw [ybr,ybr];have e6:yag [x]=x.cells:=by simp [yag]
 rw [e6,<-List.append_assoc];refine List.take_left' ?_;simp only [List.length_append,h5,hx,hdl];omega
theorem yk3 (g cap:Nat) (l:List R5) (x:R5) (i vb:Nat) (cur:List Value) (w:World) (hB:Blk w g 150 cur) (hnc:l.length+1<=cap) (hcl:cur.length=cap*5) (hcur:cur.take (l.length*5)=yag l) (hcm:cap<=maxLen) (hi:i<l.length) (hv:Blk w vb 150 x.cells) (hne:vb≠g) (hn:l.length<=10000) :
 Calls Tryz.prog 156 #[sL g 0 l.length cap,iV (i:Int),sL vb 0 1 1] w (fun e w'=>e=.returned (sL g 0 (l.length+1) cap)/\(∃cur',Blk w' g 150 cur'/\cur'.length=cap*5/\cur'.take ((l.length+1)*5)=yag (insL l i x))/\yab [g] w w'):= by
 unfold maxLen at hcm;have hz2:¬((i:Int)=(l.length:Int)):=by omega
 have hb2:¬(cap=i+1):=by omega
 have hb4:¬(cap=i):=by omega
 have hle:¬((cap:Int)<(l.length:Int)+1):=by omega
 have hle2:(i:Int)<=(l.length:Int):=by omega
 have hov:=fun lb cb=>yqc (o:=(i+1)*5) hv hB hne om 1 1 lb cb;have hi2:(i:Int)+1<=(l.length:Int)+1:=by omega
 have hdl:(yag (l.drop i)).length=(l.length-i)*5:=by rw [ybf,List.length_drop]
 have hsrc:∀j u,(yag (l.drop i))[j]?=some u->w.cell? (((Ad g (i*5)):Addr).add j)=some u:=fun j u hj=>by
  rw [Addr.add_lit,hB.cell];rw [<-yjv,List.getElem?_drop,<-hcur,List.getElem?_take] at hj
  split at hj
  ·exact hj
  ·cases hj
 have HB:=lh hB;have HV:=lh hv;have HL:=lh (And.intro hdl (And.intro hcl hcur));have HSRC:=lh hsrc;clear hB hv hdl hcl hcur hsrc;obtain ⟨X1,hX1⟩:∃X,cur.take ((i+1)*5)++yag (l.drop i)++cur.drop ((i+1)*5+(yag (l.drop i)).length)=X:=⟨_,rfl⟩
 have hcp1:∀ty dc sc,(Builtin.copy_ #[53,53] ty #[.slice (some (Ad g ((i+1)*5))) (l.length-i) dc,sL g (i*5) (l.length+1-i) sc]).run Tryz.prog w.drew=.ok (goInt (Nat.min (l.length+1-i) (l.length-i))) (w.drew.setRow g X1.toArray):=fun ty dc sc=>by
  have h:=yd8 (P:=Tryz.prog) w.drew 53 53 ty 150 5 g ((i+1)*5) (l.length-i) dc (Ad g (i*5)) (l.length+1-i) sc cur 150 (yag (l.drop i)) Tryz.underlying53 yjq HB.out (by rw [HL.out.1,show Nat.min (l.length+1-i) (l.length-i)=l.length-i from Nat.min_eq_right om]) HSRC.out (by rw [HL.out.1,HL.out.2.1];omega) (ye6 _);rw [hX1] at h;exact h
 have HX1:=lh hX1;clear hX1;obtain ⟨X2,hX2⟩:∃X,X1.take (i*5)++x.cells++X1.drop (i*5+x.cells.length)=X:=⟨_,rfl⟩;have HX2:=lh hX2
 have hX1l:X1.length=cap*5:= by
  rw [<-HX1.out];simp only [List.length_append,List.length_take,List.length_drop,HL.out.1,HL.out.2.1];omega
 have hcp2:∀W',Blk W' g 150 X1->Blk W' vb 150 x.cells->∀ty dc,(Builtin.copy_ #[53,53] ty #[sL g (i*5) (l.length+1-i) dc,sL vb 0 1 1]).run Tryz.prog W'=.ok (goInt (Nat.min 1 (l.length+1-i))) (W'.setRow g X2.toArray):=fun W' hb hv ty dc=>by
  have h:=yd8 (P:=Tryz.prog) W' 53 53 ty 150 5 g (i*5) (l.length+1-i) dc (Ad vb 0) 1 1 X1 150 x.cells Tryz.underlying53 yjq hb (by rw [show Nat.min 1 (l.length+1-i)=1 from Nat.min_eq_left om];rfl) (fun j u hj=>by rw [Addr.add_lit,hv.cell,Nat.zero_add];exact hj) (by rw [hX1l];show i*5+5<=_;omega) (fun c hc=>by simp only [R5.cells,List.mem_cons,List.not_mem_nil,or_false] at hc;rcases hc with rfl | rfl | rfl | rfl | rfl <;> rfl)
  rw [HX2.out] at h;exact h
 have HB1:Hid (Blk (w.drew.setRow g X1.toArray) g 150 X1):=ycu (w:=w.drew) HB.out X1;have HV1:Hid (Blk (w.drew.setRow g X1.toArray) vb 150 x.cells):=(yc7 (w:=w.drew) X1.toArray hne).trans HV.out;have HX1l:=lh hX1l;have hw1:IntKind.i64.wrap ((i:Int)+1)=(i:Int)+1:=IntWalk.i64_in _ ⟨by omega,by omega⟩;have hw2:(0:Int)<=(i:Int)+1:=by omega
 have htn:((i:Int)+1).toNat=i+1:=by omega
 have hi3:(i:Int)<=(l.length:Int)+1:=by omega
 clear hX2 hX1l
 go_enter Tryz.func156,Tryz.ntmps156
 go_wp2_with (simp only [hov])
 go_region_law (refine yhr rfl _ _ 53 53 rfl _ _ (by simp [Act.eval,Act.put]) (by simp [Act.eval,Act.put]) (hcp1 _ _ _) ?_)
 all_goals
  have hcp3:=hcp2 _ HB1.out HV1.out
  go_wp2_with (simp only [hcp3])
  go_ret
  refine ⟨rfl,⟨X2,ycu HB1.out X2,?_,?_⟩,?_⟩
  ·rw [<-HX2.out]
   simp only [List.length_append,List.length_take,List.length_drop,HX1l.out];show min (i*5) (cap*5)+5+(cap*5-(i*5+5))=cap*5;omega
  ·rw [<-HX2.out,<-HX1.out]
   exact yy3 HL.out.2.2 HL.out.2.1 hnc hi x
  ·exact ⟨rfl,rfl,rfl,Nat.le_of_eq (by simp only [World.setRow,Array.size_modify];rfl),fun k hk hn=>by
    have hkg:k≠g:=fun e=>hn (by simp [e]);rw [yc7 X2.toArray hkg,yc7 (w:=w.drew) X1.toArray hkg]
    rfl⟩
theorem yxq {l:List R5} {ROW:List Value} {i:Nat} (h:ROW.take (i*5)=yag (l.take i)) (hR:(l.length+1)*5<=ROW.length) (hi:i<l.length) (x:R5) (X1 X2:List Value) (h1:ROW.take (i*5)++x.cells++ROW.drop (i*5+x.cells.length)=X1)
 (h2:X1.take ((i+1)*5)++yag (l.drop i)++X1.drop ((i+1)*5+(yag (l.drop i)).length)=X2):X1.length=ROW.length/\X2.length=ROW.length/\X2.take ((l.length+1)*5)=yag (insL l i x):= by
 have hx:x.cells.length=5:=rfl;have hdl:(yag (l.drop i)).length=(l.length-i)*5:=by rw [ybf,List.length_drop]
 have hX1:X1.length=ROW.length:= by
  rw [<-h1];simp only [List.length_append,List.length_take,List.length_drop,hx];omega
 have hX2:X2.length=ROW.length:= by
  rw [<-h2];simp only [List.length_append,List.length_take,List.length_drop,hX1,hdl];omega
 refine ⟨hX1,hX2,?_⟩;have h5:(yag (l.take i)).length=i*5:=by rw [ybf,List.length_take];congr 1;omega
 have h3:X1.take ((i+1)*5)=yag (l.take i)++x.cells:= by
  rw [<-h1,h];refine List.take_left' ?_;simp only [List.length_append,h5,hx];omega
 rw [<-h2,h3];unfold insL;rw [ybr,ybr];have e6:yag [x]=x.cells:=by simp [yag]
 rw [e6];refine List.take_left' ?_;simp only [List.length_append,h5,hx,hdl];omega
theorem yky (g cap:Nat) (l:List R5) (x:R5) (i vb:Nat) (w:World) (hS:R5S w (sL g 0 l.length cap) l) (hnc:cap<l.length+1) (hi:i<l.length) (hv:Blk w vb 150 x.cells) (hn:l.length<=10000) :
 Calls Tryz.prog 156 #[sL g 0 l.length cap,iV (i:Int),sL vb 0 1 1] w (fun e w'=>∃cap' cur,e=.returned (sL w.heap.size 0 (l.length+1) cap')/\(Blk w' w.heap.size 150 cur/\cur.length=cap'*5/\l.length+1<=cap'/\cap'<=maxLen/\cur.take ((l.length+1)*5)=yag (insL l i x))/\BW w w'):= by
 have hlen:=(Fl.len hS).2;unfold maxLen at hlen;obtain ⟨hlc,hcm,_⟩:=hlen;have hz2:¬((i:Int)=(l.length:Int)):=by omega
 have hle:(cap:Int)<(l.length:Int)+1:=by omega
 have hle2:(i:Int)<=(l.length:Int):=by omega
 obtain ⟨i0,hi0,hz0,hz1,hzb⟩:=info_parts ymh;have hkk:(l.length:Int)+1-(i:Int)=((l.length+1-i:Nat):Int):=by omega
 have hik:i+(l.length+1-i)=l.length+1:=by omega
 have hgw:g<w.heap.size:= by
  obtain ⟨b,o,e,hc⟩:=Fl.at hS (i:=0) om;cases e;rw [(yh9 l 0 om).1] at hc;exact yac hc
 have hold:(Builtin.firstCells i0.size i (sL g 0 i cap)).run Tryz.prog w.drew=.ok (yag (l.take i)).toArray w.drew:= by
  rw [hz1];refine run_firstCells_some w.drew 5 i (Ad g 0) i cap (yag (l.take i)) (by rw [ybf,List.length_take];congr 1;omega) (fun j u hj=>?_);rw [Addr.add_lit];rw [<-ykk,List.getElem?_take] at hj
  split at hj
  ·obtain ⟨b,o,e,hc⟩:=Fl.at hS (i:=j) om
   cases e;exact hc.trans hj
  ·cases hj
 have hrz:∀ty,(Builtin.append_ #[53,3] ty #[sL g 0 i cap,iV ((l.length:Int)+1-(i:Int))]).run Tryz.prog w =
  .ok (sL w.heap.size 0 (l.length+1) (grownCap w (l.length+1) cap 150)) (w.drew.alloc (.cells ((yag (l.take i)).toArray++Builtin.zeroCells (Value.agg #[iZ,iZ,iZ,iZ,iZ]).cells (l.length+1-i)++Builtin.zeroCells (Value.agg #[iZ,iZ,iZ,iZ,iZ]).cells (grownCap w (l.length+1) cap 150-(l.length+1))) 150)):=fun ty=>by
  have h:=Lib.run_append_grow_zeros w 53 3 ty 150 i0 _ .i64 .i64 Tryz.underlying53 Tryz.underlying3 hi0 hz0 (some (Ad g 0)) i cap (yag (l.take i)) hold (l.length+1-i) om om om om (by rw [hzb];omega) (by rw [hzb,hik];exact growslice_fits om om);rw [hik] at h;rw [hkk];exact h
 obtain ⟨G,hG⟩:∃G,G=grownCap w (l.length+1) cap 150:=⟨_,rfl⟩;obtain ⟨ROW,hROW⟩:∃ROW:List Value,((yag (l.take i)).toArray++Builtin.zeroCells (Value.agg #[iZ,iZ,iZ,iZ,iZ]).cells (l.length+1-i)++Builtin.zeroCells (Value.agg #[iZ,iZ,iZ,iZ,iZ]).cells (G-(l.length+1))).toList=ROW:=⟨_,rfl⟩;rw [<-hG] at hrz;have hGn:l.length+1<=G:=by rw [hG];exact grownCap_ge w _ _ _
 have hGm:G<=maxLen:=by rw [hG];exact grownCap_le_maxLen w _ _ _ (by unfold maxLen;omega)
 have hzs:(Value.agg #[iZ,iZ,iZ,iZ,iZ]).cells.size=5:=rfl;have h5:(yag (l.take i)).length=i*5:=by rw [ybf,List.length_take];congr 1;omega
 have hRl:ROW.length=G*5:= by
  rw [<-hROW];simp only [Array.length_toList,Array.size_append,size_zeroCells,hzs,List.size_toArray,h5];omega
 have hRt:ROW.take (i*5)=yag (l.take i):= by
  rw [<-hROW];simp only [Array.toList_append,List.append_assoc];exact List.take_left' h5
 rw [show ((yag (l.take i)).toArray++Builtin.zeroCells (Value.agg #[iZ,iZ,iZ,iZ,iZ]).cells (l.length+1-i)++Builtin.zeroCells (Value.agg #[iZ,iZ,iZ,iZ,iZ]).cells (G-(l.length+1)))=ROW.toArray by rw [<-hROW]] at hrz;obtain ⟨X1,hX1⟩:∃X,ROW.take (i*5)++x.cells++ROW.drop (i*5+x.cells.length)=X:=⟨_,rfl⟩;obtain ⟨X2,hX2⟩:∃X,X1.take ((i+1)*5)++yag (l.drop i)++X1.drop ((i+1)*5+(yag (l.drop i)).length)=X:=⟨_,rfl⟩;obtain ⟨hX1l,hX2l,hX2t⟩:=yxq hRt om hi x X1 X2 hX1 hX2;have hvw:=hv.lt
 have hcpA:∀W,Blk W w.heap.size 150 ROW->Blk W vb 150 x.cells->∀ty dc,(Builtin.copy_ #[53,53] ty #[sL w.heap.size (i*5) (l.length+1-i) dc,sL vb 0 1 1]).run Tryz.prog W=.ok (goInt (Nat.min 1 (l.length+1-i))) (W.setRow w.heap.size X1.toArray):=fun W hb hv ty dc=>by
  have h:=yd8 (P:=Tryz.prog) W 53 53 ty 150 5 w.heap.size (i*5) (l.length+1-i) dc (Ad vb 0) 1 1 ROW 150 x.cells Tryz.underlying53 yjq hb (by rw [show Nat.min 1 (l.length+1-i)=1 from Nat.min_eq_left om];rfl) (fun j u hj=>by rw [Addr.add_lit,hv.cell,Nat.zero_add];exact hj) (by rw [hRl];show i*5+5<=_;omega) (fun c hc=>by simp only [R5.cells,List.mem_cons,List.not_mem_nil,or_false] at hc;rcases hc with rfl | rfl | rfl | rfl | rfl <;> rfl)
  rw [hX1] at h;exact h
 have hdl:(yag (l.drop i)).length=(l.length-i)*5:=by rw [ybf,List.length_drop]
 have hcpB:∀W,Blk W w.heap.size 150 X1->R5S W (sL g 0 l.length cap) l->∀ty dc sc,(Builtin.copy_ #[53,53] ty #[.slice (some (Ad w.heap.size ((i+1)*5))) (l.length-i) dc,sL g (i*5) (l.length-i) sc]).run Tryz.prog W=.ok (goInt (Nat.min (l.length-i) (l.length-i))) (W.setRow w.heap.size X2.toArray):=fun W hb hs ty dc sc=>by
  have h:=yd8 (P:=Tryz.prog) W 53 53 ty 150 5 w.heap.size ((i+1)*5) (l.length-i) dc (Ad g (i*5)) (l.length-i) sc X1 150 (yag (l.drop i)) Tryz.underlying53 yjq hb (by rw [hdl,show Nat.min (l.length-i) (l.length-i)=l.length-i from Nat.min_self _]) (fun j u hj=>by
   rw [Addr.add_lit];have hj2:=(List.getElem?_eq_some_iff.1 hj).1;rw [hdl] at hj2;obtain ⟨b,o,e,hc⟩:=Fl.at hs (i:=i*5+j) om;cases e;rw [<-yjv,List.getElem?_drop] at hj;rw [Nat.zero_add] at hc;exact hc.trans hj) (by rw [hX1l,hRl,hdl];omega) (ye6 _)
  rw [hX2] at h;exact h
 have hbN:g≠w.heap.size:=by omega
 have hvN:vb≠w.heap.size:=by omega
 have hci:¬(cap=i):=by omega
 have hGi:¬(G=i):=by omega
 have hGim:¬(G=i+1):=by omega
 have hw1:IntKind.i64.wrap ((i:Int)+1)=(i:Int)+1:=IntWalk.i64_in _ ⟨by omega,by omega⟩;have hw2:(0:Int)<=(i:Int)+1:=by omega
 have htn:((i:Int)+1).toNat=i+1:=by omega
 have hi3:(i:Int)<=(l.length:Int)+1:=by omega
 have HCA:=lh hcpA;have HCB:=lh hcpB;have HSS:=lh hS;have HVV:=lh hv;have HFIN:=lh (And.intro hX2l (And.intro hX2t (And.intro hRl (And.intro hGn hGm))));clear hcpA hcpB hS hv hX1 hX2 hX1l hX2l hX2t hROW hRl hRt hold hkk hik hzs h5 hdl hG
 go_enter Tryz.func156,Tryz.ntmps156
 go_upto_region 10 with (at_builtin;refine Lib.wpList_append_run _ rfl (.tmp 34) (.tmp 39) 53 3 rfl _ _ rfl rfl _ _ (hrz _) ?_)
 obtain ⟨W1,hW1,B1,V1,S1,BE1⟩:∃W1,(w.alloc (.cells ROW.toArray 150)).drew=W1/\Hid (Blk W1 w.heap.size 150 ROW)/\Hid (Blk W1 vb 150 x.cells)/\Hid (R5S W1 (sL g 0 l.length cap) l)/\Hid (BW w W1) :=
  ⟨_,rfl,(yae w ROW _ _ rfl).below (yaf bR),HVV.out.below (yaf (yaa bR _)),HSS.out.below (yaf (yaa bR _)),yaf (yaa bR _)⟩
 with_reducible rw [hW1]
 clear hW1 hrz;have hca:=HCA.out W1 B1.out V1.out;go_upto_region 11 with (simp only [hca])
 obtain ⟨W2,hW2,B2,S2,BE2⟩:∃W2,W1.setRow w.heap.size X1.toArray=W2/\Hid (Blk W2 w.heap.size 150 X1)/\Hid (R5S W2 (sL g 0 l.length cap) l)/\Hid (BW w W2):= by
  refine ⟨_,rfl,ycu B1.out X1,?_,?_⟩
  ·have hk:yab [w.heap.size] W1 (W1.setRow w.heap.size X1.toArray):=⟨rfl,rfl,rfl,Nat.le_of_eq (by simp only [World.setRow,Array.size_modify]),fun k _ hn=>yc7 _ (fun e=>hn (by simp [e]))⟩
   exact S1.out.keep hk (fun b o n c e hn hm=>by cases e;simp at hm;omega)
  ·exact ⟨BE1.out.os,BE1.out.tape,BE1.out.output,by have:=BE1.out.size;simp only [World.setRow,Array.size_modify];exact this,fun k hk=>(yc7 _ om).trans (BE1.out.block k hk)⟩
 with_reducible rw [hW2]
 clear hW2 hca B1 V1 S1 BE1;have hcb:=HCB.out W2.drew B2.out S2.out
 go_region_law (refine yhr rfl _ _ 53 53 rfl _ _ (by simp [Act.eval,Act.put]) (by simp [Act.eval,Act.put]) (hcb _ _ _) ?_)
 all_goals
  go_wp2
  go_ret
  refine ⟨G,X2,rfl,⟨ycu (w:=W2.drew) B2.out X2,?_,HFIN.out.2.2.2.1,HFIN.out.2.2.2.2,HFIN.out.2.1⟩,?_⟩
  ·have h:=HFIN.out
   rw [h.1,h.2.2.1]
  ·exact ⟨BE2.out.os,BE2.out.tape,BE2.out.output,by have:=BE2.out.size;simp only [World.setRow,Array.size_modify];exact this,fun k hk=>(yc7 (w:=W2.drew) _ om).trans (BE2.out.block k hk)⟩
theorem yld (v:Value) (l:List R5) (x:R5) (i base vb:Nat) (w:World) (hown:w.ownsRow base 150 5 v l.length (yag l)) (hbase:base<=w.heap.size) (hv:Blk w vb 150 x.cells) (hne:some vb≠v.ownBlock) (hi:i<=l.length) (hn:l.length<=10000) :
 Calls Tryz.prog 156 #[v,iV (i:Int),sL vb 0 1 1] w (fun e w'=>∃u,e=.returned u/\w'.ownsRow base 150 5 u (l.length+1) (yag (insL l i x))/\yab v.ownBlock.toList w w'):= by
 by_cases h:i=l.length
 ·subst h
  refine (ymd v l x base vb w hown hbase hv hn).mono fun e w' ⟨u,he,ho,hg⟩=>⟨u,he,ho,(yab.refl _ w).grown hg (fun k hk=>.inl (by rw [hk];simp))⟩
 ·have hlt:i<l.length:=by omega
  have h1l:=yga l i x hi;rcases hown.2 with ⟨rfl,h0⟩ | ⟨g,cap,cur,rfl,hb,hg,hnc,hcm,hcs,htake⟩
  ·omega
  ·have hB:Blk w g 150 cur.toList:=by simpa [Blk] using hg
   by_cases hroom:l.length+1<=cap
   ·refine (yk3 g cap l x i vb cur.toList w hB hroom (by simpa using hcs) htake hcm hlt hv (fun e=>hne (by rw [e];rfl)) hn).mono ?_
    rintro _ w' ⟨rfl,⟨cur',h1,h2,h3⟩,hk⟩;exact ⟨_,rfl,yct h1 hb hroom hcm h2 h3,hk⟩
   ·refine (yky g cap l x i vb w (R5S.of_own hown rfl) om hlt hv hn).mono ?_
    rintro _ w' ⟨cap',cur',rfl,⟨h1,h2,h3,h4,h5⟩,hk⟩;exact ⟨_,rfl,yct h1 hbase h3 h4 h2 h5,yab.of_below hk⟩
def Tm.rightE (t:Tm) (x:R5):Int:=ygo t.lim t.ts t.cyc t.dued t.minf t.minp t.start x.a x.b x.c x.d x.e
theorem jab (g:Nat) (t:Tm) (tv ev:Value) (l:List R5) (x:R5) (base:Nat) (r:Int) (HR:Hid (t.rightE x=r)) (hr:r≠0) (w:World) (hv:ybn w g t tv ev l) (hown:w.ownsRow base 150 5 ev l.length (yag l)) (hbase:base<=w.heap.size) (hg:base<=g) (hts:t.ts.length<=1000) (hgt:some g≠ev.ownBlock) :
 Calls Tryz.prog 115 #[pV g,.agg #[iV x.a,iV x.b,iV x.c,iV x.d,iV x.e]] w (RetB (iV r) w):= by
 obtain ⟨hB,hT,hE⟩:=hv;have HB:=lh hB;have HT:=lh hT;have HE:=lh hE;have HO:=lh hown;obtain ⟨eo,ec,rfl⟩:=hE.shape;obtain ⟨tao,tc,rfl⟩:=hT.shape;obtain ⟨lim,ts,cyc,dued,minf,minp,start⟩:=t;simp only [Tm.cells,List.cons_append,List.nil_append] at *;have HG:=lh (And.intro hbase (And.intro hg (And.intro hts hgt)));have hglt:=hB.lt;have HGLT:=lh hglt;clear hB hT hE hown hbase hg hts hgt;have hbx:Blk (w.alloc (.cells #[iV x.a,iV x.b,iV x.c,iV x.d,iV x.e] 150)) w.heap.size 150 x.cells:=yae w x.cells _ _ rfl;have HBX:=lh hbx
 have hS:∀W',Below (w.heap.size+1) (w.alloc (.cells #[iV x.a,iV x.b,iV x.c,iV x.d,iV x.e] 150)) W'->((Ce W' g 0 (iV lim)/\Ce W' g 1 (.slice tao ts.length tc)/\Ce W' g 2 (iV cyc)/\Ce W' g 3 (iV dued)/\Ce W' g 4 (iV minf)/\Ce W' g 5 (iV minp)/\Ce W' g 6 (iV start)/\Ce W' g 7 (.slice eo l.length ec))/\(Ce W' w.heap.size 0 (iV x.a)/\Ce W' w.heap.size 1 (iV x.b)/\Ce W' w.heap.size 2 (iV x.c)/\Ce W' w.heap.size 3 (iV x.d)/\Ce W' w.heap.size 4 (iV x.e))):=fun W' h =>
  have q:Blk W' g _ _:=(h.block g om).trans (HB.out.below (yaa bR _));have r:Blk W' w.heap.size _ _:=(h.block w.heap.size om).trans HBX.out
  ⟨⟨q.cell 0,q.cell 1,q.cell 2,q.cell 3,q.cell 4,q.cell 5,q.cell 6,q.cell 7⟩,r.cell 0,r.cell 1,r.cell 2,r.cell 3,r.cell 4⟩
 have HS:=lh hS;clear hbx hS;have hne:(r != 0)=true:=by simp [hr]
 clear hr;simp only [Tm.rightE] at HR
 go_enter Tryz.func115,Tryz.ntmps115
 go_upto_region 3 with fail
 obtain ⟨W1,hW1,HW1,BW1⟩:∃W1,w.alloc (.cells #[iV x.a,iV x.b,iV x.c,iV x.d,iV x.e] 150)=W1/\Hid (∀W',BW W1 W'->((Ce W' g 0 (iV lim)/\Ce W' g 1 (.slice tao ts.length tc)/\Ce W' g 2 (iV cyc)/\Ce W' g 3 (iV dued)/\Ce W' g 4 (iV minf)/\Ce W' g 5 (iV minp)/\Ce W' g 6 (iV start)/\Ce W' g 7 (.slice eo l.length ec))/\(Ce W' w.heap.size 0 (iV x.a)/\Ce W' w.heap.size 1 (iV x.b)/\Ce W' w.heap.size 2 (iV x.c)/\Ce W' w.heap.size 3 (iV x.d)/\Ce W' w.heap.size 4 (iV x.e))))/\Hid (BW w W1/\W1.heap.size=w.heap.size+1) :=
  ⟨_,rfl,fun W' h=>HS.out W' (h.mono (by rw [World.size_alloc];omega)),yaa bR _,by rw [World.size_alloc]⟩
 have HBX1:Hid (Blk W1 w.heap.size 150 x.cells):=by rw [<-hW1];exact HBX.out
 with_reducible rw [hW1]
 clear hW1;have hs0:=HW1.out W1 bR;have hsd:=HW1.out W1.drew (yaf bR)
 go_region_held3 (fun W'=>((Ce W' g 0 (iV lim)/\Ce W' g 1 (.slice tao ts.length tc)/\Ce W' g 2 (iV cyc)/\Ce W' g 3 (iV dued)/\Ce W' g 4 (iV minf)/\Ce W' g 5 (iV minp)/\Ce W' g 6 (iV start)/\Ce W' g 7 (.slice eo l.length ec))/\(Ce W' w.heap.size 0 (iV x.a)/\Ce W' w.heap.size 1 (iV x.b)/\Ce W' w.heap.size 2 (iV x.c)/\Ce W' w.heap.size 3 (iV x.d)/\Ce W' w.heap.size 4 (iV x.e)))) (first | with_reducible exact hs0 | with_reducible exact hsd | with_reducible exact hs5 | with_reducible assumption) (first | (go_at_call 135;refine (yfm _ ts lim cyc dued minf minp start x.a x.b x.c x.d x.e r HR _ (HT.out.below (yaf BW1.out.1))).mono ?_;rintro _ w5 ⟨rfl,hb5⟩;have HB5:Hid (BW W1 w5):=yad (yaf bR) hb5;have hs5:=HW1.out w5 HB5.out;clear hb5))
 all_goals
  go_wp2
  go_ret
  exact ⟨rfl,yad BW1.out.1 HB5.out⟩
theorem yxs (g:Nat) (t:Tm) (tv ev:Value) (l:List R5) (x:R5) (base:Nat) (HR:Hid (t.rightE x=0)) (hfull:2000<=l.length) (w:World) (hv:ybn w g t tv ev l) (hown:w.ownsRow base 150 5 ev l.length (yag l)) (hbase:base<=w.heap.size) (hg:base<=g) (hts:t.ts.length<=1000) (hgt:some g≠ev.ownBlock) :
 Calls Tryz.prog 115 #[pV g,.agg #[iV x.a,iV x.b,iV x.c,iV x.d,iV x.e]] w (RetB (iV 14) w):= by
 obtain ⟨hB,hT,hE⟩:=hv;have HB:=lh hB;have HT:=lh hT;have HE:=lh hE;have HO:=lh hown;obtain ⟨eo,ec,rfl⟩:=hE.shape;obtain ⟨tao,tc,rfl⟩:=hT.shape;obtain ⟨lim,ts,cyc,dued,minf,minp,start⟩:=t;simp only [Tm.cells,List.cons_append,List.nil_append] at *;have HG:=lh (And.intro hbase (And.intro hg (And.intro hts hgt)));have hglt:=hB.lt;have HGLT:=lh hglt;clear hB hT hE hown hbase hg hts hgt;have hbx:Blk (w.alloc (.cells #[iV x.a,iV x.b,iV x.c,iV x.d,iV x.e] 150)) w.heap.size 150 x.cells:=yae w x.cells _ _ rfl;have HBX:=lh hbx
 have hS:∀W',Below (w.heap.size+1) (w.alloc (.cells #[iV x.a,iV x.b,iV x.c,iV x.d,iV x.e] 150)) W'->((Ce W' g 0 (iV lim)/\Ce W' g 1 (.slice tao ts.length tc)/\Ce W' g 2 (iV cyc)/\Ce W' g 3 (iV dued)/\Ce W' g 4 (iV minf)/\Ce W' g 5 (iV minp)/\Ce W' g 6 (iV start)/\Ce W' g 7 (.slice eo l.length ec))/\(Ce W' w.heap.size 0 (iV x.a)/\Ce W' w.heap.size 1 (iV x.b)/\Ce W' w.heap.size 2 (iV x.c)/\Ce W' w.heap.size 3 (iV x.d)/\Ce W' w.heap.size 4 (iV x.e))):=fun W' h =>
  have q:Blk W' g _ _:=(h.block g om).trans (HB.out.below (yaa bR _));have r:Blk W' w.heap.size _ _:=(h.block w.heap.size om).trans HBX.out
  ⟨⟨q.cell 0,q.cell 1,q.cell 2,q.cell 3,q.cell 4,q.cell 5,q.cell 6,q.cell 7⟩,r.cell 0,r.cell 1,r.cell 2,r.cell 3,r.cell 4⟩
 have HS:=lh hS;clear hbx hS;have hff:(2000:Int)<=(l.length:Int):=by omega
 obtain ⟨r,hr⟩:∃r:Int,r=0:=⟨0,rfl⟩;simp only [Tm.rightE] at HR;rw [<-hr] at HR;have hr1:(r != 0)=false:=by simp [hr]
 clear hr
 go_enter Tryz.func115,Tryz.ntmps115
 go_upto_region 3 with fail
 obtain ⟨W1,hW1,HW1,BW1⟩:∃W1,w.alloc (.cells #[iV x.a,iV x.b,iV x.c,iV x.d,iV x.e] 150)=W1/\Hid (∀W',BW W1 W'->((Ce W' g 0 (iV lim)/\Ce W' g 1 (.slice tao ts.length tc)/\Ce W' g 2 (iV cyc)/\Ce W' g 3 (iV dued)/\Ce W' g 4 (iV minf)/\Ce W' g 5 (iV minp)/\Ce W' g 6 (iV start)/\Ce W' g 7 (.slice eo l.length ec))/\(Ce W' w.heap.size 0 (iV x.a)/\Ce W' w.heap.size 1 (iV x.b)/\Ce W' w.heap.size 2 (iV x.c)/\Ce W' w.heap.size 3 (iV x.d)/\Ce W' w.heap.size 4 (iV x.e))))/\Hid (BW w W1/\W1.heap.size=w.heap.size+1) :=
  ⟨_,rfl,fun W' h=>HS.out W' (h.mono (by rw [World.size_alloc];omega)),yaa bR _,by rw [World.size_alloc]⟩
 have HBX1:Hid (Blk W1 w.heap.size 150 x.cells):=by rw [<-hW1];exact HBX.out
 with_reducible rw [hW1]
 clear hW1;have hs0:=HW1.out W1 bR;have hsd:=HW1.out W1.drew (yaf bR)
 go_region_held3 (fun W'=>((Ce W' g 0 (iV lim)/\Ce W' g 1 (.slice tao ts.length tc)/\Ce W' g 2 (iV cyc)/\Ce W' g 3 (iV dued)/\Ce W' g 4 (iV minf)/\Ce W' g 5 (iV minp)/\Ce W' g 6 (iV start)/\Ce W' g 7 (.slice eo l.length ec))/\(Ce W' w.heap.size 0 (iV x.a)/\Ce W' w.heap.size 1 (iV x.b)/\Ce W' w.heap.size 2 (iV x.c)/\Ce W' w.heap.size 3 (iV x.d)/\Ce W' w.heap.size 4 (iV x.e)))) (first | with_reducible exact hs0 | with_reducible exact hsd | with_reducible exact hs5 | with_reducible assumption) (first | (go_at_call 135;refine (yfm _ ts lim cyc dued minf minp start x.a x.b x.c x.d x.e r HR _ (HT.out.below (yaf BW1.out.1))).mono ?_;rintro _ w5 ⟨rfl,hb5⟩;have HB5:Hid (BW W1 w5):=yad (yaf bR) hb5;have hs5:=HW1.out w5 HB5.out;clear hb5))
 all_goals
  obtain ⟨⟨q0,q1,q2,q3,q4,q5,q6,q7⟩,_⟩:=hs5;go_wp2
  go_ret
  exact ⟨rfl,yad BW1.out.1 HB5.out⟩
theorem yzy (g:Nat) (t:Tm) (tv ev:Value) (l:List R5) (x:R5) (base:Nat) (HR:Hid (t.rightE x=0)) (hfull:l.length<2000) (p:Nat) (HP:Hid (ydc x.b l l.length=p)) (hpl:p<=l.length) (hgtv:OffF (g::ev.ownBlock.toList) tv) (w:World) (hv:ybn w g t tv ev l) (hown:w.ownsRow base 150 5 ev l.length (yag l)) (hbase:base<=w.heap.size) (hg:base<=g) (hts:t.ts.length<=1000) (hgt:some g≠ev.ownBlock) :
 Calls Tryz.prog 115 #[pV g,.agg #[iV x.a,iV x.b,iV x.c,iV x.d,iV x.e]] w (fun e w'=>e=.returned (iZ)/\∃u,ybn w' g t tv u (insL l p x)/\w'.ownsRow base 150 5 u (l.length+1) (yag (insL l p x))/\yab (g::ev.ownBlock.toList) w w'):= by
 obtain ⟨hB,hT,hE⟩:=hv;have HB:=lh hB;have HT:=lh hT;have HE:=lh hE;have HO:=lh hown;obtain ⟨eo,ec,rfl⟩:=hE.shape;obtain ⟨tao,tc,rfl⟩:=hT.shape;obtain ⟨lim,ts,cyc,dued,minf,minp,start⟩:=t;simp only [Tm.cells,List.cons_append,List.nil_append] at *;have HG:=lh (And.intro hbase (And.intro hg (And.intro hts hgt)));have hglt:=hB.lt;have HGLT:=lh hglt;clear hB hT hE hown hbase hg hts hgt;have hbx:Blk (w.alloc (.cells #[iV x.a,iV x.b,iV x.c,iV x.d,iV x.e] 150)) w.heap.size 150 x.cells:=yae w x.cells _ _ rfl;have HBX:=lh hbx
 have hS:∀W',Below (w.heap.size+1) (w.alloc (.cells #[iV x.a,iV x.b,iV x.c,iV x.d,iV x.e] 150)) W'->((Ce W' g 0 (iV lim)/\Ce W' g 1 (.slice tao ts.length tc)/\Ce W' g 2 (iV cyc)/\Ce W' g 3 (iV dued)/\Ce W' g 4 (iV minf)/\Ce W' g 5 (iV minp)/\Ce W' g 6 (iV start)/\Ce W' g 7 (.slice eo l.length ec))/\(Ce W' w.heap.size 0 (iV x.a)/\Ce W' w.heap.size 1 (iV x.b)/\Ce W' w.heap.size 2 (iV x.c)/\Ce W' w.heap.size 3 (iV x.d)/\Ce W' w.heap.size 4 (iV x.e))):=fun W' h =>
  have q:Blk W' g _ _:=(h.block g om).trans (HB.out.below (yaa bR _));have r:Blk W' w.heap.size _ _:=(h.block w.heap.size om).trans HBX.out
  ⟨⟨q.cell 0,q.cell 1,q.cell 2,q.cell 3,q.cell 4,q.cell 5,q.cell 6,q.cell 7⟩,r.cell 0,r.cell 1,r.cell 2,r.cell 3,r.cell 4⟩
 have HS:=lh hS;clear hbx hS;have hff:¬(2000:Int)<=(l.length:Int):=by omega
 obtain ⟨r,hr⟩:∃r:Int,r=0:=⟨0,rfl⟩;simp only [Tm.rightE] at HR;rw [<-hr] at HR;have hr1:(r != 0)=false:=by simp [hr]
 have HPF:=lh (And.intro hfull (And.intro hpl hgtv));have HOW:Hid (∀q,(Value.slice eo l.length ec).ownBlock=some q->q<w.heap.size/\base<=q):=fun q hq=>⟨(HO.out.lt q hq).2,(HO.out.lt q hq).1⟩;clear hr hfull hpl hgtv
 go_enter Tryz.func115,Tryz.ntmps115
 go_upto_region 3 with fail
 obtain ⟨W1,hW1,HW1,BW1⟩:∃W1,w.alloc (.cells #[iV x.a,iV x.b,iV x.c,iV x.d,iV x.e] 150)=W1/\Hid (∀W',BW W1 W'->((Ce W' g 0 (iV lim)/\Ce W' g 1 (.slice tao ts.length tc)/\Ce W' g 2 (iV cyc)/\Ce W' g 3 (iV dued)/\Ce W' g 4 (iV minf)/\Ce W' g 5 (iV minp)/\Ce W' g 6 (iV start)/\Ce W' g 7 (.slice eo l.length ec))/\(Ce W' w.heap.size 0 (iV x.a)/\Ce W' w.heap.size 1 (iV x.b)/\Ce W' w.heap.size 2 (iV x.c)/\Ce W' w.heap.size 3 (iV x.d)/\Ce W' w.heap.size 4 (iV x.e))))/\Hid (BW w W1/\W1.heap.size=w.heap.size+1) :=
  ⟨_,rfl,fun W' h=>HS.out W' (h.mono (by rw [World.size_alloc];omega)),yaa bR _,by rw [World.size_alloc]⟩
 have HBX1:Hid (Blk W1 w.heap.size 150 x.cells):=by rw [<-hW1];exact HBX.out
 with_reducible rw [hW1]
 clear hW1;have hs0:=HW1.out W1 bR;have hsd:=HW1.out W1.drew (yaf bR)
 go_region_held3 (fun W'=>((Ce W' g 0 (iV lim)/\Ce W' g 1 (.slice tao ts.length tc)/\Ce W' g 2 (iV cyc)/\Ce W' g 3 (iV dued)/\Ce W' g 4 (iV minf)/\Ce W' g 5 (iV minp)/\Ce W' g 6 (iV start)/\Ce W' g 7 (.slice eo l.length ec))/\(Ce W' w.heap.size 0 (iV x.a)/\Ce W' w.heap.size 1 (iV x.b)/\Ce W' w.heap.size 2 (iV x.c)/\Ce W' w.heap.size 3 (iV x.d)/\Ce W' w.heap.size 4 (iV x.e)))) (first | with_reducible exact hs0 | with_reducible exact hsd | with_reducible exact hs5 | with_reducible assumption) (first | (go_at_call 135;refine (yfm _ ts lim cyc dued minf minp start x.a x.b x.c x.d x.e r HR _ (HT.out.below (yaf BW1.out.1))).mono ?_;rintro _ w5 ⟨rfl,hb5⟩;have HB5:Hid (BW W1 w5):=yad (yaf bR) hb5;have hs5:=HW1.out w5 HB5.out;clear hb5))
 all_goals
  have HKX:Hid (∀W W',(((W.cell? (Ad g 0)=some (iV lim)/\W.cell? (Ad g 1)=some (.slice tao ts.length tc)/\W.cell? (Ad g 2)=some (iV cyc)/\W.cell? (Ad g 3)=some (iV dued)/\W.cell? (Ad g 4)=some (iV minf)/\W.cell? (Ad g 5)=some (iV minp)/\W.cell? (Ad g 6)=some (iV start)/\W.cell? (Ad g 7)=some (.slice eo l.length ec))/\(W.cell? (Ad w.heap.size 0)=some (iV x.a)/\W.cell? (Ad w.heap.size 1)=some (iV x.b)/\W.cell? (Ad w.heap.size 2)=some (iV x.c)/\W.cell? (Ad w.heap.size 3)=some (iV x.d)/\W.cell? (Ad w.heap.size 4)=some (iV x.e))))->yab (Value.slice eo l.length ec).ownBlock.toList W W'->(((Ce W' g 0 (iV lim)/\Ce W' g 1 (.slice tao ts.length tc)/\Ce W' g 2 (iV cyc)/\Ce W' g 3 (iV dued)/\Ce W' g 4 (iV minf)/\Ce W' g 5 (iV minp)/\Ce W' g 6 (iV start)/\Ce W' g 7 (.slice eo l.length ec))/\(Ce W' w.heap.size 0 (iV x.a)/\Ce W' w.heap.size 1 (iV x.b)/\Ce W' w.heap.size 2 (iV x.c)/\Ce W' w.heap.size 3 (iV x.d)/\Ce W' w.heap.size 4 (iV x.e))))):= by
   intro W W' h hk;have n1:g∉(Value.slice eo l.length ec).ownBlock.toList:=fun hm=>HG.out.2.2.2 (by simpa using (Option.mem_toList.1 hm).symm);have n2:w.heap.size∉(Value.slice eo l.length ec).ownBlock.toList:=fun hm=>by have:=(HOW.out _ (Option.mem_toList.1 hm)).1;omega
   obtain ⟨⟨q0,q1,q2,q3,q4,q5,q6,q7⟩,r0,r1,r2,r3,r4⟩:=h;exact ⟨⟨hk.cell q0 n1,hk.cell q1 n1,hk.cell q2 n1,hk.cell q3 n1,hk.cell q4 n1,hk.cell q5 n1,hk.cell q6 n1,hk.cell q7 n1⟩,hk.cell r0 n2,hk.cell r1 n2,hk.cell r2 n2,hk.cell r3 n2,hk.cell r4 n2⟩
  have HW5:Hid (∀W',BW w5 W'->((Ce W' g 0 (iV lim)/\Ce W' g 1 (.slice tao ts.length tc)/\Ce W' g 2 (iV cyc)/\Ce W' g 3 (iV dued)/\Ce W' g 4 (iV minf)/\Ce W' g 5 (iV minp)/\Ce W' g 6 (iV start)/\Ce W' g 7 (.slice eo l.length ec))/\(Ce W' w.heap.size 0 (iV x.a)/\Ce W' w.heap.size 1 (iV x.b)/\Ce W' w.heap.size 2 (iV x.c)/\Ce W' w.heap.size 3 (iV x.d)/\Ce W' w.heap.size 4 (iV x.e)))):=fun W' h=>HW1.out W' (yad HB5.out h);have hq:=hs5;obtain ⟨⟨q0,q1,q2,q3,q4,q5,q6,q7⟩,_⟩:=hq;go_upto_region 8 with fail
  clear q0 q1 q2 q3 q4 q5 q6 q7;have hs5d:=HW5.out w5.drew (yaf bR);refine yan (fun W'=>((Ce W' g 0 (iV lim)/\Ce W' g 1 (.slice tao ts.length tc)/\Ce W' g 2 (iV cyc)/\Ce W' g 3 (iV dued)/\Ce W' g 4 (iV minf)/\Ce W' g 5 (iV minp)/\Ce W' g 6 (iV start)/\Ce W' g 7 (.slice eo l.length ec))/\(Ce W' w.heap.size 0 (iV x.a)/\Ce W' w.heap.size 1 (iV x.b)/\Ce W' w.heap.size 2 (iV x.c)/\Ce W' w.heap.size 3 (iV x.d)/\Ce W' w.heap.size 4 (iV x.e)))) 15 kr ?_;refine tK 0 rfl ?_;refine tK 1 rfl ?_;refine tK 2 rfl ?_;refine tK 3 rfl ?_;refine tK 4 rfl ?_;refine tK 5 rfl ?_;refine tK 6 rfl ?_;refine tK 7 rfl ?_;refine tK 8 rfl ?_;refine tK 9 rfl ?_;refine tK 10 rfl ?_;refine tK 12 rfl ?_;refine ybo (rs:=[11,13]) kr (by simp) ?_;refine yam.cons (o:=⟨_,_,_,_,_,_⟩) rfl (fun K hK=>?_) (yam.cons (o:=⟨_,_,_,_,_,_⟩) rfl (fun K hK=>?_) yam.nil)
  ·have HBD:Hid (BW w5 w5.drew):=yaf bR
   go_simp;refine (yna _ l x.b p HP _ (HE.out.below (by first | exact yad BW1.out.1 (yad HB5.out HBD.out)))).mono ?_;rintro _ w6 ⟨rfl,hb6⟩;have HB6:Hid (BW w5 w6):=yad (yaf bR) hb6;clear hb6;refine hK.out _ _ (fun hun=>HW5.out w6 HB6.out) ?_;clear hK K;try simp only [ap,aq,sa,sb,sc]
   refine wo 13 kr rfl fun K hK=>?_;go_simp;refine hK.out _ _ (fun hun=>HW5.out _ (yaa HB6.out _)) ?_;clear hK K;try simp only [ap,aq,sa,sb,sc]
   obtain ⟨W7,hW7,HB7,HX7,HV7,hs7⟩:∃W7,w6.alloc (.cells #[iV x.a,iV x.b,iV x.c,iV x.d,iV x.e] 150)=W7/\Hid (BW w W7)/\Hid (Blk W7 w6.heap.size 150 x.cells)/\Hid (w.heap.size<=w6.heap.size)/\(((W7.cell? (Ad g 0)=some (iV lim)/\W7.cell? (Ad g 1)=some (.slice tao ts.length tc)/\W7.cell? (Ad g 2)=some (iV cyc)/\W7.cell? (Ad g 3)=some (iV dued)/\W7.cell? (Ad g 4)=some (iV minf)/\W7.cell? (Ad g 5)=some (iV minp)/\W7.cell? (Ad g 6)=some (iV start)/\W7.cell? (Ad g 7)=some (.slice eo l.length ec))/\(W7.cell? (Ad w.heap.size 0)=some (iV x.a)/\W7.cell? (Ad w.heap.size 1)=some (iV x.b)/\W7.cell? (Ad w.heap.size 2)=some (iV x.c)/\W7.cell? (Ad w.heap.size 3)=some (iV x.d)/\W7.cell? (Ad w.heap.size 4)=some (iV x.e)))):=⟨_,rfl,yaa (yad (yad BW1.out.1 HB5.out) HB6.out) _,yae w6 x.cells _ _ rfl,by have:=BW1.out.1.size;have:=HB5.out.size;have:=HB6.out.size;show _<=_;omega,HW5.out _ (yaa HB6.out _)⟩
   with_reducible rw [hW7]
   obtain ⟨VB,hVB⟩:∃VB,w6.heap.size=VB:=⟨_,rfl⟩
   with_reducible rw [hVB]
   rw [hVB] at HX7 HV7;clear hW7 hVB;refine wo 14 kr rfl fun K hK=>?_;go_simp;refine (yld (.slice eo l.length ec) l x p base VB W7 (yah HO.out HB7.out) (by have:=HB7.out.size;have:=HG.out.1;omega) HX7.out (fun e=>by have:=(HOW.out _ e.symm).1;have:=HV7.out;omega) HPF.out.2.1 (by have:=HPF.out.1;omega)).mono ?_;exact zq162403
  ·go_simp
   refine hK.out _ _ (fun hun=>HW5.out _ (yaa (yaf bR) _)) ?_;clear hK K;try simp only [ap,aq,sa,sb,sc]
   refine wo 11 kr rfl fun K hK=>?_;have HBD:Hid (BW w5 (w5.drew.alloc (.cells #[iV x.a,iV x.b,iV x.c,iV x.d,iV x.e] 150))):=yaa (yaf bR) _;have HN7:Hid (Blk (w5.drew.alloc (.cells #[iV x.a,iV x.b,iV x.c,iV x.d,iV x.e] 150)) w5.heap.size 150 x.cells):=yae w5.drew x.cells _ _ rfl;go_simp;refine (yna _ l x.b p HP _ (HE.out.below (by first | exact yad BW1.out.1 (yad HB5.out HBD.out)))).mono ?_;rintro _ w6 ⟨rfl,hb6⟩;have HB6:Hid (BW w5 w6):=yad HBD.out hb6;have HX6:=lh (HN7.out.below hb6);clear hb6;refine hK.out _ _ (fun hun=>HW5.out w6 HB6.out) ?_;clear hK K;try simp only [ap,aq,sa,sb,sc]
   have HB7:Hid (BW w w6):=yad (yad BW1.out.1 HB5.out) HB6.out;have hs7:=HW5.out w6 HB6.out;obtain ⟨VB,hVB⟩:∃VB,w5.heap.size=VB:=⟨_,rfl⟩
   with_reducible rw [hVB]
   have HX7:Hid (Blk w6 VB 150 x.cells):=by rw [<-hVB];exact HX6.out
   have HV7:Hid (w.heap.size<=VB):=by rw [<-hVB];have:=BW1.out.1.size;have:=HB5.out.size;show _<=_;omega
   clear hVB;refine wo 14 kr rfl fun K hK=>?_;go_simp;refine (yld (.slice eo l.length ec) l x p base VB w6 (yah HO.out HB7.out) (by have:=HB7.out.size;have:=HG.out.1;omega) HX7.out (fun e=>by have:=(HOW.out _ e.symm).1;have:=HV7.out;omega) HPF.out.2.1 (by have:=HPF.out.1;omega)).mono ?_;exact zq162403
end Go.Proofs.YtkongpjpkpfniaaGreat

/- TopPaid: parts of the proof, made small by a program (mini.py). -/
import Derived.Laws.StructEq
import Derived.Test.YtkongpjpkpfniaaGreatM01
import Derived.Test.YtkongpjpkpfniaaGreatM34
set_option linter.unusedVariables false
set_option linter.unusedSimpArgs false
set_option maxRecDepth 100000
set_option maxHeartbeats 6400000
namespace Go.Proofs.YtkongpjpkpfniaaGreat
open Go.RowKit
theorem zq35bc13 {q:Prop} (h:q:= by
 show Blk _ g 127 [.slice (some ⟨q,0,none⟩) ds.length ec,iV (wrap64 (held-X.d))]
 with_reducible exact ((((((hB0.setOther hgw 0 _).setOther hgw 1 _).setOther hgw 2 _).setOther hgw 3 _).setOther hgw 4 _).below (yaf bR))):q:=h
theorem zq3506d8 {q:Prop} (h:q:= by
 simp only [el];have h1:=yaz (i:=1) HA2 hq2 (iV (wrap64 (held-X.d)))
 with_reducible exact yah (yaz (yaz (yaz (yaz (yaz h1 hq _) hq _) hq _) hq _) hq _) (yaf bR)):q:=h
theorem zq355e14 {q:Prop} (h:q:= by
 exact ((((((A3.out.setCell (show base≤g from HG.out) (.inl hL.out.1) _).setCell (show base≤w.heap.size from HBS.out) (.inr (Nat.le_refl _)) _).setCell (show base≤w.heap.size from HBS.out) (.inr (Nat.le_refl _)) _).setCell (show base≤w.heap.size from HBS.out) (.inr (Nat.le_refl _)) _).setCell (show base≤w.heap.size from HBS.out) (.inr (Nat.le_refl _)) _).setCell (show base≤w.heap.size from HBS.out) (.inr (Nat.le_refl _)) _).drew):q:=h
def R5.withE (x:R5) (v:Int):R5:=⟨x.a,x.b,x.c,x.d,v⟩
theorem ypn (l:List R5) (i:Nat) (v:Int) (hi:i<l.length):(yag l).set (i*5+4) (iV v)=yag (l.set i ((l.getD i yax).withE v)):= by
 induction l generalizing i with
 | nil=>simp at hi
 | cons x l ih =>
  have e:∀(y:R5) (m:List R5),yag (y::m)=iV y.a::iV y.b::iV y.c::iV y.d::iV y.e::yag m:=fun _ _=>rfl;cases i with
  | zero=>rfl
  | succ i =>
   have h:=ih i (by simpa using hi);obtain ⟨k,hk⟩:∃k,i*5+4=k:=⟨_,rfl⟩;have e1:(i+1)*5+4=k+1+1+1+1+1:=by omega
   rw [hk] at h;rw [e1,e];simp only [List.set_cons_succ,List.getD_cons_succ];rw [h,e]
theorem ymj {w:World} {base q n cap:Nat} {e:TypeId} {l:List R5} (h:w.ownsRow base e 5 (.slice (some ⟨q,0,none⟩) n cap) n (yag l)) (hn:l.length=n) {i:Nat} (hi:i<l.length) (v:Int) :
 (w.setCell ⟨q,i*5+4,none⟩ (iV v)).ownsRow base e 5 (.slice (some ⟨q,0,none⟩) n cap) n (yag (l.set i ((l.getD i yax).withE v))):= by
 refine ⟨by rw [ybf,List.length_set,hn],?_⟩;rcases h.2 with ⟨h1,_⟩ | ⟨g,cap',cur,hv,hb,hg,hnc,hcm,hcs,htake⟩
 ·cases h1
 ·cases hv
  have hB:Blk w q e cur.toList:=by simpa [Blk] using hg
  have hS:=hB.set (i*5+4) (iV v);refine .inr ⟨q,cap,(cur.toList.set (i*5+4) (iV v)).toArray,rfl,hb,hS,hnc,hcm,by simpa using hcs,?_⟩;rw [←ypn l i v hi,←htake,List.take_set]
theorem yvi {w:World} {base q n cap:Nat} {e:TypeId} {l:List R5} (h:w.ownsRow base e 5 (.slice (some ⟨q,0,none⟩) n cap) n (yag l)) (hn:l.length=n) {i:Nat} (hi:i<l.length) (u v:Int) :
 ((w.setCell ⟨q,i*5+4,none⟩ (iV u)).setCell ⟨q,i*5+4,none⟩ (iV v)).ownsRow base e 5 (.slice (some ⟨q,0,none⟩) n cap) n (yag (l.set i ((l.getD i yax).withE v))):= by
 have h2:=ymj (ymj h hn hi u) (by rw [List.length_set];exact hn) (i:=i) (by rw [List.length_set];exact hi) v;have e1:(l.set i ((l.getD i yax).withE u)).getD i yax=(l.getD i yax).withE u:=by simp [List.getD,hi]
 rw [e1,List.set_set] at h2;exact h2
def ydw (b:Bk) (ref:Int):Int :=
 if ref<1∨(b.ds.length:Int)<ref then 12 else if (b.ds.getD (ref-1).toNat yax).e≠1 then 13 else 0
def yi4 (b:Bk) (ref:Int) (lost:Bool):R5:=(b.ds.getD (ref-1).toNat yax).withE (if lost then 2 else 3)
def ykw (b:Bk) (ref:Int) (lost:Bool):Bk :=
 if ydw b ref=0 then ⟨b.ds.set (ref-1).toNat (yi4 b ref lost),wrap64 (b.held-(yi4 b ref lost).d)⟩ else b
def endD (b:Bk) (ref:Int) (lost:Bool):R5:=if ydw b ref=0 then yi4 b ref lost else yax
theorem yq2 (base g:Nat) (dv:Value) (b:Bk) (ref:Int) (lost:Bool) (w:World) (hv:ya6 w base g dv b) (hn:b.ds.length≤100000) (hb:base≤w.heap.size) (D:R5) (hD:Hid (endD b ref lost=D)) (x:Int) (hx:Hid (ydw b ref=x)) (B':Bk) (hB':Hid (ykw b ref lost=B')) (L:List Nat) (hL:Hid (g∈L∧∀q,dv.ownBlock=some q→q∈L)) :
 Calls Tryz.prog 114 #[pV g,iV ref,.bool lost] w (fun e w'=>∃dv',e=.returned (.tuple #[.agg #[iV D.a,iV D.b,iV D.c,iV D.d,iV D.e],iV x])∧ya6 w' base g dv' B'∧DStp base L w w'):= by
 have HV:=lh hv;obtain ⟨ds,held⟩:=b;obtain ⟨hg,hB,hO⟩:=hv;simp only at hg hB hO hn;have HB:=lh hB;have HO:=lh hO;have HG:=lh hg;have HE:=lh (R5S.of_own hO rfl);obtain ⟨eo,ec,rfl⟩:=(R5S.of_own hO rfl).shape;have c0:=HB.out.cell 0;have c1:=HB.out.cell 1;have f1:=HB.out.frozen 1;have kg:=HB.out.lt;simp only [gz,gs] at c0 c1;have HBS:=lh hb;clear hB hO hb hg
 go_enter Tryz.func114,Tryz.ntmps114
 by_cases h1:ref<1∨(ds.length:Int)<ref
 ·have e1:ydw ⟨ds,held⟩ ref=12:=by unfold ydw;rw [if_pos h1]
  obtain rfl:12=x:=by rw [←hx.out,e1]
  obtain rfl:⟨ds,held⟩=B':=by rw [←hB'.out];unfold ykw;rw [e1];rfl
  obtain rfl:yax=D:=by rw [←hD.out];unfold endD;rw [e1];rfl
  clear hx hB' hD;rcases h1 with h1 | h1
  all_goals
   go_wp2_with fail
   refine bodyPost_ret (v:=.tuple #[.agg #[iZ,iZ,iZ,iZ,iZ],iV 12]) (by simp [results,Tryz.results114,go_sem]) rfl ⟨_,rfl,HV.out.below ?_,(DStp.refl base L w).alloc HBS.out _⟩;exact bL
 ·obtain ⟨k,rfl⟩:∃k:Nat,ref=(k:Int)+1:=⟨(ref-1).toNat,by omega⟩
  have hk:k<ds.length:=by omega
  have h1a:¬(k:Int)+1<1:=by omega
  have h1b:¬(ds.length:Int)<(k:Int)+1:=by omega
  have e0:((k:Int)+1-1).toNat=k:=by omega
  have w1:wrap64 ((k:Int)+1-1)=(k:Int):=by rw [show (k:Int)+1-1=(k:Int) by omega];exact IntWalk.wrap64_in _ ⟨by omega,by omega⟩
  obtain ⟨q,cap,he⟩:=ya5 HO.out om;cases he;obtain ⟨b1,o1,X,he,⟨x0,x1,x2,x3,x4⟩,HXX⟩:=HE.out.get hk;cases he;simp only [Nat.zero_add] at x0 x1 x2 x3 x4;have kq:=yac x0;have HK:=lh hk;obtain ⟨cur,hC,_⟩:=ya8 HO.out;have fz:=hC.frozen (k*5+4);have HNE:Hid (g≠q):=fun e=>yaj HO.out HB.out (by decide) (by rw [e];rfl);clear hC
  by_cases h2:X.e=1
  ·have e1:ydw ⟨ds,held⟩ ((k:Int)+1)=0:=by unfold ydw;rw [if_neg h1,e0];simp only;rw [HXX.out,if_neg om]
   obtain rfl:0=x:=by rw [←hx.out,e1]
   clear h1;cases lost with
   | false =>
    go_upto_region 11 with fail
    obtain ⟨W,hW,A0,A1,A2,A3⟩:∃W,(w.setCell ⟨q,k*5+4,none⟩ (iV 3)).alloc (.cells #[iZ,iZ,iZ,iZ,iZ] 155)=W∧Hid (Blk W g 127 [.slice (some ⟨q,0,none⟩) ds.length ec,iV held])∧Hid (Blk W w.heap.size 155 [iZ,iZ,iZ,iZ,iZ])∧Hid (W.ownsRow base 155 5 (.slice (some ⟨q,0,none⟩) ds.length ec) ds.length (yag (ds.set k ((ds.getD k yax).withE 3))))∧Hid (DStp base L w W) :=
     ⟨_,rfl,(HB.out.setOther HNE.out _ _).below (yaa bR _),ybc _ _ _ _ (World.size_setCell _ _ _),yah (ymj HO.out rfl hk 3) (yaa bR _),((DStp.refl base L w).setCell (ya1 HO.out _ _ _ _ rfl) (.inl (hL.out.2 _ rfl)) _).alloc (by rw [World.size_setCell];exact HBS.out) _⟩
    with_reducible rw [hW]
    have HXW:Hid (W.cell? ⟨q,k*5,none⟩=some (iV X.a)∧W.cell? ⟨q,k*5+1,none⟩=some (iV X.b)∧W.cell? ⟨q,k*5+2,none⟩=some (iV X.c)∧W.cell? ⟨q,k*5+3,none⟩=some (iV X.d)∧W.cell? ⟨q,k*5+4,none⟩=some (iV 3)):= by
     obtain ⟨b2,o2,Y,he2,⟨y0,y1,y2,y3,y4⟩,hY⟩:=(R5S.of_own A2.out (by simp)).get (i:=k) (by simpa using HK.out);cases he2
     have:Y=X.withE 3:= by
      rw [←hY.out,HXX.out];simp [List.getD,HK.out]
     subst this;simp only [Nat.zero_add] at y0 y1 y2 y3 y4;exact ⟨y0,y1,y2,y3,y4⟩
    have hx3:=HXW.out.2.2.2.1;clear hW c0 c1 f1 x0 x1 x2 x3 x4 fz;have c1:=A0.out.cell 1;have f1:=A0.out.frozen 1;simp only [gz,gs] at c1
    go_region
    obtain ⟨hx0,hx1,hx2,hx3,hx4⟩:=HXW.out;have r0:=A1.out.cell 0;have z0:=A1.out.frozen 0;have r1:=A1.out.cell 1;have z1:=A1.out.frozen 1;have r2:=A1.out.cell 2;have z2:=A1.out.frozen 2;have r3:=A1.out.cell 3;have z3:=A1.out.frozen 3;have r4:=A1.out.cell 4;have z4:=A1.out.frozen 4;simp only [gz,gs] at r0 r1 r2 r3 r4;have hgq:¬g=q:=HNE.out;have hgw:¬g=w.heap.size:=by omega
    go_wp2_with fail
    have hD1:X.withE 3=D:=by rw [←hD.out];unfold endD;rw [e1,if_pos rfl];unfold yi4;rw [e0];simp only;rw [HXX.out];rfl
    have hB1:(⟨ds.set k (X.withE 3),wrap64 (held-X.d)⟩:Bk)=B':=by rw [←hB'.out];unfold ykw;rw [e1,if_pos rfl];unfold yi4;rw [e0];simp only;rw [HXX.out];rfl
    rw [←hD1,←hB1];have hgw':¬w.heap.size=g:=by omega
    have hB0:Blk (W.setCell ⟨g,1,none⟩ (iV (wrap64 (held-X.d)))) g 127 [.slice (some ⟨q,0,none⟩) ds.length ec,iV (wrap64 (held-X.d))]:=A0.out.set 1 _;have HA2:=A2.out;refine bodyPost_ret (v:=.tuple #[.agg #[iV X.a,iV X.b,iV X.c,iV X.d,iV 3],iZ]) (by simp [results,Tryz.results114,go_sem,hgw,hgw',r0,r1,r2,r3,r4]) rfl ⟨rfl,⟨.slice (some ⟨q,0,none⟩) ds.length ec,HG.out,?_,?_⟩,?_⟩
    ·exact zq35bc13
    ·have hq:some w.heap.size≠(Value.slice (some ⟨q,0,none⟩) ds.length ec).ownBlock:=fun e=>by
      have e':=Option.some.inj (show some w.heap.size=some q from e);omega
     have hq2:some g≠(Value.slice (some ⟨q,0,none⟩) ds.length ec).ownBlock:=fun e=>hgq (Option.some.inj (show some g=some q from e));rw [HXX.out] at HA2;have el:(ds.set k (X.withE 3)).length=ds.length:=List.length_set;exact zq3506d8
    ·exact zq355e14
   | true =>
    go_upto_region 11 with fail
    obtain ⟨W,hW,A0,A1,A2,A3⟩:∃W,((w.setCell ⟨q,k*5+4,none⟩ (iV 3)).setCell ⟨q,k*5+4,none⟩ (iV 2)).alloc (.cells #[iZ,iZ,iZ,iZ,iZ] 155)=W∧Hid (Blk W g 127 [.slice (some ⟨q,0,none⟩) ds.length ec,iV held])∧Hid (Blk W w.heap.size 155 [iZ,iZ,iZ,iZ,iZ])∧Hid (W.ownsRow base 155 5 (.slice (some ⟨q,0,none⟩) ds.length ec) ds.length (yag (ds.set k ((ds.getD k yax).withE 2))))∧Hid (DStp base L w W) :=
     ⟨_,rfl,((HB.out.setOther HNE.out _ _).setOther HNE.out _ _).below (yaa bR _),ybc _ _ _ _ (by rw [World.size_setCell,World.size_setCell]),yah (yvi HO.out rfl hk 3 2) (yaa bR _),(((DStp.refl base L w).setCell (ya1 HO.out _ _ _ _ rfl) (.inl (hL.out.2 _ rfl)) _).setCell (ya1 HO.out _ _ _ _ rfl) (.inl (hL.out.2 _ rfl)) _).alloc (by rw [World.size_setCell,World.size_setCell];exact HBS.out) _⟩
    with_reducible rw [hW]
    have HXW:Hid (W.cell? ⟨q,k*5,none⟩=some (iV X.a)∧W.cell? ⟨q,k*5+1,none⟩=some (iV X.b)∧W.cell? ⟨q,k*5+2,none⟩=some (iV X.c)∧W.cell? ⟨q,k*5+3,none⟩=some (iV X.d)∧W.cell? ⟨q,k*5+4,none⟩=some (iV 2)):= by
     obtain ⟨b2,o2,Y,he2,⟨y0,y1,y2,y3,y4⟩,hY⟩:=(R5S.of_own A2.out (by simp)).get (i:=k) (by simpa using HK.out);cases he2
     have:Y=X.withE 2:= by
      rw [←hY.out,HXX.out];simp [List.getD,HK.out]
     subst this;simp only [Nat.zero_add] at y0 y1 y2 y3 y4;exact ⟨y0,y1,y2,y3,y4⟩
    have hx3:=HXW.out.2.2.2.1;clear hW c0 c1 f1 x0 x1 x2 x3 x4 fz;have c1:=A0.out.cell 1;have f1:=A0.out.frozen 1;simp only [gz,gs] at c1
    go_region
    obtain ⟨hx0,hx1,hx2,hx3,hx4⟩:=HXW.out;have r0:=A1.out.cell 0;have z0:=A1.out.frozen 0;have r1:=A1.out.cell 1;have z1:=A1.out.frozen 1;have r2:=A1.out.cell 2;have z2:=A1.out.frozen 2;have r3:=A1.out.cell 3;have z3:=A1.out.frozen 3;have r4:=A1.out.cell 4;have z4:=A1.out.frozen 4;simp only [gz,gs] at r0 r1 r2 r3 r4;have hgq:¬g=q:=HNE.out;have hgw:¬g=w.heap.size:=by omega
    go_wp2_with fail
    have hD1:X.withE 2=D:=by rw [←hD.out];unfold endD;rw [e1,if_pos rfl];unfold yi4;rw [e0];simp only;rw [HXX.out];rfl
    have hB1:(⟨ds.set k (X.withE 2),wrap64 (held-X.d)⟩:Bk)=B':=by rw [←hB'.out];unfold ykw;rw [e1,if_pos rfl];unfold yi4;rw [e0];simp only;rw [HXX.out];rfl
    rw [←hD1,←hB1];have hgw':¬w.heap.size=g:=by omega
    have hB0:Blk (W.setCell ⟨g,1,none⟩ (iV (wrap64 (held-X.d)))) g 127 [.slice (some ⟨q,0,none⟩) ds.length ec,iV (wrap64 (held-X.d))]:=A0.out.set 1 _;have HA2:=A2.out;refine bodyPost_ret (v:=.tuple #[.agg #[iV X.a,iV X.b,iV X.c,iV X.d,iV 2],iZ]) (by simp [results,Tryz.results114,go_sem,hgw,hgw',r0,r1,r2,r3,r4]) rfl ⟨rfl,⟨.slice (some ⟨q,0,none⟩) ds.length ec,HG.out,?_,?_⟩,?_⟩
    ·exact zq35bc13
    ·have hq:some w.heap.size≠(Value.slice (some ⟨q,0,none⟩) ds.length ec).ownBlock:=fun e=>by
      have e':=Option.some.inj (show some w.heap.size=some q from e);omega
     have hq2:some g≠(Value.slice (some ⟨q,0,none⟩) ds.length ec).ownBlock:=fun e=>hgq (Option.some.inj (show some g=some q from e));rw [HXX.out] at HA2;have el:(ds.set k (X.withE 2)).length=ds.length:=List.length_set;exact zq3506d8
    ·exact zq355e14
  ·have e1:ydw ⟨ds,held⟩ ((k:Int)+1)=13:=by unfold ydw;rw [if_neg h1,e0];simp only;rw [HXX.out,if_pos h2]
   obtain rfl:13=x:=by rw [←hx.out,e1]
   obtain rfl:⟨ds,held⟩=B':=by rw [←hB'.out];unfold ykw;rw [e1];rfl
   obtain rfl:yax=D:=by rw [←hD.out];unfold endD;rw [e1];rfl
   clear hx hB' hD h1
   go_wp2_with fail
   refine bodyPost_ret (v:=.tuple #[.agg #[iZ,iZ,iZ,iZ,iZ],iV 13]) (by simp [results,Tryz.results114,go_sem]) rfl ⟨rfl,⟨_,HV.out.below ?_⟩,(DStp.refl base L w).alloc HBS.out _⟩;exact bL
section
theorem yu5 (op:BinOp) (x y:Operand) (xs ys:Array Value) (W:World):(eqGuard op 175 x y (.agg xs) (.agg ys)).run Tryz.prog W=.ok () W:=run_eqGuard_agg W op _ x y xs ys kr
attribute [local go_sem] yu5
theorem yjj:(Tryz.prog.info? 175).map (fun i=>(i.zero,i.size,i.bytes))=some (some (.agg #[iZ,iZ,iZ,iZ,iZ,iZ,iZ,iZ,iZ]),9,72):=by kernel_rfl
theorem yn0 (w:World) (cs:List Value) (t:TypeId):∀j u,cs[j]?=some u→(w.alloc (.cells cs.toArray t)).cell? ((⟨w.heap.size,0,none⟩:Addr).add j)=some u:= by
 intro j u hu;have h:Blk (w.alloc (.cells cs.toArray t)) w.heap.size t cs:=heap_alloc_new w _;rw [Addr.add_lit,h.cell,Nat.zero_add];exact hu
theorem yhw {a b:List Value} (h:∀c∈a,c.oneCell'=true) (k:∀c∈b,c.oneCell'=true):∀c∈a++b,c.oneCell'=true:=fun c hc=>by
 rcases List.mem_append.1 hc with h1 | h1
 ·exact h c h1
 ·exact k c h1
def AdO (w:World) (base:Nat) (v:Value) (m:Nat):Prop:=∃n cs,n≤m∧(∀c∈cs,c.oneCell'=true)∧w.ownsRow base 175 9 v n cs
theorem yzr (seq:Int) (a b:St) (av bv:Value) (hll:a.ls.length=b.ls.length) (hle:a.ls.length≤1000) (w:World) (ha:LnS w av a.ls) (hb:LnS w bv b.ls) :
 Calls Tryz.prog 161 #[iV seq,ynn a av,ynn b bv] w (fun e w'=>∃u,e=.returned u∧AdO w' w.heap.size u (a.ls.length+1)∧Below w.heap.size w w'):= by
 have HA:=lh ha;have HB:=lh hb;obtain ⟨ao,ac,rfl,-⟩:=ha;obtain ⟨bo,bc,rfl,-⟩:=hb;obtain ⟨n,fr,til,du,ls,tot,cr,mn,g⟩:=a;obtain ⟨n',fr',til',du',ls',tot',cr',mn',g'⟩:=b;unfold ynn at *;simp only at *;have HLL:=lh (And.intro hll hle);clear hll hle
 go_enter Tryz.func161,Tryz.ntmps161
 go_wp2
 obtain ⟨W,hW,X1,X2,XB,XS⟩:∃W,(w.alloc (.cells #[iV n,iV fr,iV til,iV du,.slice ao ls.length ac,iV tot,iV cr,iV mn,.bool g] 43)).alloc (.cells #[iV n',iV fr',iV til',iV du',.slice bo ls'.length bc,iV tot',iV cr',iV mn',.bool g'] 43)=W∧Hid (Blk W w.heap.size 43 [iV n,iV fr,iV til,iV du,.slice ao ls.length ac,iV tot,iV cr,iV mn,.bool g])∧Hid (Blk W (w.heap.size+1) 43 [iV n',iV fr',iV til',iV du',.slice bo ls'.length bc,iV tot',iV cr',iV mn',.bool g'])∧Hid (Below w.heap.size w W)∧Hid (W.heap.size=w.heap.size+2) :=
  ⟨_,rfl,(yae w _ _ _ rfl).below (yaa bR _),yae _ _ _ _ (by simp),yaa (yaa bR _) _,by show _=_;simp⟩
 with_reducible rw [hW]
 clear hW
 refine yai 0 (fun a' w'=>∃(k wb:Nat) (lv:Value) (u1 u2 u3 u6 u10 u11 u12 u13 u14 u15 u16 u17 u18 u19 u20 u21 u22 u23 u24 u25 u26 u27 u28 u29 u30 u31 u32 u33 u34 u35 u36 u37 u38 u39 u40 u41 u42 u43 u44 u45 u46 u47 u48 u49 u50 u51 u52 u53 u54 u55 u56 u57 u58 u59 u60 u61 u62 u63 u64 u65 u66 u67 u68 u69 u70 u71 u72 u73 u74 u75 u76 u77 u78 u79 u80 u81 u82 u83 u84 u85 u86 u87 u88 u89 u90 u91 u92 u93:Value),a'={ tmps:=#[iV seq,u1,u2,u3,pV w.heap.size,pV (w.heap.size+1),u6,lv,iV (k:Int),pV wb,u10,u11,u12,u13,u14,u15,u16,u17,u18,u19,u20,u21,u22,u23,u24,u25,u26,u27,u28,u29,u30,u31,u32,u33,u34,u35,u36,u37,u38,u39,u40,u41,u42,u43,u44,u45,u46,u47,u48,u49,u50,u51,u52,u53,u54,u55,u56,u57,u58,u59,u60,u61,u62,u63,u64,u65,u66,u67,u68,u69,u70,u71,u72,u73,u74,u75,u76,u77,u78,u79,u80,u81,u82,u83,u84,u85,u86,u87,u88,u89,u90,u91,u92,u93],defers:=[] }∧k≤ls.length∧Hid (AdO w' (wb+1) lv k∧w.heap.size≤wb∧wb<w'.heap.size)∧Hid (Blk w' w.heap.size 43 [iV n,iV fr,iV til,iV du,.slice ao ls.length ac,iV tot,iV cr,iV mn,.bool g]∧Blk w' (w.heap.size+1) 43 [iV n',iV fr',iV til',iV du',.slice bo ls'.length bc,iV tot',iV cr',iV mn',.bool g'])∧Hid (∃x0 x1 x2 x3 x4 x5 x6 x7 x8,Blk w' wb 175 [iV x0,iV x1,iV x2,iV x3,iV x4,iV x5,iV x6,iV x7,iV x8])∧Below w.heap.size w w')
  (fun a' _=>ylt ls.length a'.tmps[8]?) rfl ?pass ?first
 case pass =>
  intro a1 w1 hJ J' hJ';obtain ⟨k,wb,lv,hJ⟩:=hJ
  iterate 88 obtain ⟨_,hJ⟩:=hJ
  obtain ⟨rfl,hk,HO,HX,HWB,hbw⟩:=hJ;have HJ:=lh hJ';clear hJ';have HBW:=lh hbw;obtain ⟨hX1,hX2⟩:=HX.out;have b0:=hX1.cell 0;have b4:=hX1.cell 4;have d4:=hX2.cell 4;have kx1:=hX1.lt;have kx2:=hX2.lt;simp only [gz,gs] at b0 b4 d4;have HK:=lh hk;have HX1:=lh hX1;have HX2:=lh hX2;obtain ⟨x0,x1,x2,x3,x4,x5,x6,x7,x8,hWB⟩:=HWB.out;have HWC:=lh hWB;clear hX1 hX2 hbw hWB
  obtain ⟨lao,lc,hlv⟩:∃lao lc m,lv=.slice lao m lc:= by
   obtain ⟨⟨m,cs,_,_,h⟩,_⟩:=HO.out;rcases h.2 with ⟨rfl,rfl⟩ | ⟨g,cap,cur,rfl,_⟩
   ·exact ⟨_,_,_,rfl⟩
   ·exact ⟨_,_,_,rfl⟩
  obtain ⟨lm,rfl⟩:=hlv
  by_cases hlt:k<ls.length
  ·have hlt1:(k:Int)<(ls.length:Int):=by omega
   have hlt2:(k:Int)<(ls'.length:Int):=by have:=HLL.out;omega
   have hw1:wrap64 ((k:Int)+1)=(k:Int)+1:=IntWalk.wrap64_in _ ⟨by omega,by have:=HLL.out;omega⟩;obtain ⟨ba,oa,x,y,z,rfl,⟨p0,p1,p2⟩,HP⟩:=(HA.out.below HBW.out).get hlt;obtain ⟨bb,ob,x',y',z',rfl,⟨q0,q1,q2⟩,HQ⟩:=(HB.out.below HBW.out).get (i:=k) (by have:=HLL.out;omega);have kba:=yac p0;have kbb:=yac q0;clear hk
   go_wp2_with fail
   have hne:(x=x'∧y=y')∨(x≠x'∨(x=x'∧y≠y')):=by omega
   have HNE:=lh hne;clear hne
   go_region
   all_goals
    first
     | (obtain ⟨W2,hW2,P10,P11,PB⟩:∃W2,((w1.alloc (.cells #[iV x,iV y,iV z] 65)).alloc (.cells #[iV x',iV y',iV z'] 65)).drew=W2∧Hid (Blk W2 (w1.heap.size) 65 [iV x,iV y,iV z])∧Hid (Blk W2 (w1.heap.size+1) 65 [iV x',iV y',iV z'])∧Hid (Below w1.heap.size w1 W2):=⟨_,rfl,(yae w1 _ _ _ rfl).below (yaf (yaa bR _)),(yae (w1.alloc _) _ _ _ (by simp)).below (yaf bR),yaf (yaa (yaa bR _) _)⟩;with_reducible rw [hW2])
     | (obtain ⟨W2,hW2,P10,P11,PB⟩:∃W2,((w1.alloc (.cells #[iV x',iV y',iV z'] 65)).alloc (.cells #[iV x,iV y,iV z] 65)).drew=W2∧Hid (Blk W2 (w1.heap.size+1) 65 [iV x,iV y,iV z])∧Hid (Blk W2 (w1.heap.size) 65 [iV x',iV y',iV z'])∧Hid (Below w1.heap.size w1 W2):=⟨_,rfl,(yae (w1.alloc _) _ _ _ (by simp)).below (yaf bR),(yae w1 _ _ _ rfl).below (yaf (yaa bR _)),yaf (yaa (yaa bR _) _)⟩;with_reducible rw [hW2])
    clear hW2 b0 b4 d4 p0 p1 p2 q0 q1 q2;have a0:=P10.out.cell 0;have a1:=P10.out.cell 1;have e0:=P11.out.cell 0;have e1:=P11.out.cell 1;have b0:=(HX1.out.below PB.out).cell 0;simp only [gz,gs] at a0 a1 b0 e0 e1;obtain ⟨⟨lm',cs,hle,hone,hown⟩,hwb1,hwb2⟩:=HO.out
    obtain rfl:lm=lm':= by
     rcases hown.2 with ⟨h1,h2⟩ | ⟨g,cap,cur,h1,_⟩
     ·cases h1;exact h2.symm
     ·cases h1;rfl
    have HOC:=lh (yah hown PB.out);clear hown;obtain ⟨i0,hi,hz0,hz1,hz2⟩:=info_parts yjj;rcases HNE.out with ⟨rfl,rfl⟩ | h | ⟨rfl,h⟩
    ·go_wp2_with fail
     go_step3
     exact ⟨rfl,HJ.out _ _ ⟨k+1,wb,_,_,_,_,_,_,_,_,_,_,_,_,_,_,_,_,_,_,_,_,_,_,_,_,_,_,_,_,_,_,_,_,_,_,_,_,_,_,_,_,_,_,_,_,_,_,_,_,_,_,_,_,_,_,_,_,_,_,_,_,_,_,_,_,_,_,_,_,_,_,_,_,_,_,_,_,_,_,_,_,_,_,_,_,_,_,_,_,_,rfl,hlt,⟨⟨lm,cs,by omega,hone,HOC.out⟩,hwb1,by have:=PB.out.size;omega⟩,⟨HX1.out.below PB.out,HX2.out.below PB.out⟩,⟨_,_,_,_,_,_,_,_,_,HWC.out.below PB.out⟩,yad HBW.out PB.out⟩ (yi0 hlt)⟩
    all_goals
     go_upto_region 8 with fail
     go_wp2_with (at_builtin;refine yas _ rfl (.tmp 65) (.tmp 81) 87 rfl (wb+1) 175 i0 (.agg #[iZ,iZ,iZ,iZ,iZ,iZ,iZ,iZ,iZ]) 9 72 Tryz.underlying87 hi hz0 hz1 hz2 rfl (by decide) _ lm cs rfl (yah HOC.out (yaa bR _)) ⟨W2.heap.size,0,none⟩ 1 1 _ rfl rfl (yn0 W2 _ _) (fun x hx=>by simp at hx;rcases hx with rfl | rfl | rfl | rfl | rfl | rfl | rfl | rfl | rfl <;> rfl) (by have:=HLL.out;unfold maxLen;omega) (by have:=HLL.out;omega) (by rw [World.size_alloc];have:=PB.out.size;omega) ?_;intro v2 w2 hown2 hg2 hw2;clear hw2;obtain ⟨g2,c2,rfl⟩:=ya5 hown2 om;have HO2:=lh hown2;have HG2:=lh hg2;clear hown2 hg2)
     go_step3
     have gr:∀g' e' cur',e'≠175→Blk w1 g' e' cur'→Blk w2 g' e' cur':=fun g' e' cur' hne' h=>by
      exact yaq (h.below (yaa PB.out _)) HG2.out (yaj HOC.out (h.below PB.out) hne')
     have hnw:some wb≠Value.ownBlock (.slice lao lm lc):=fun e=>by have:=(HOC.out.lt wb e.symm).1;omega
     have hbel:Below w.heap.size w w2:=Below.grown (yaa (yad HBW.out PB.out) _) HG2.out (by rw [World.size_alloc];have:=PB.out.size;have:=HBW.out.size;omega) (fun q hq=>by have:=(HOC.out.lt q hq).1;omega);exact ⟨rfl,HJ.out _ _ ⟨k+1,wb,_,_,_,_,_,_,_,_,_,_,_,_,_,_,_,_,_,_,_,_,_,_,_,_,_,_,_,_,_,_,_,_,_,_,_,_,_,_,_,_,_,_,_,_,_,_,_,_,_,_,_,_,_,_,_,_,_,_,_,_,_,_,_,_,_,_,_,_,_,_,_,_,_,_,_,_,_,_,_,_,_,_,_,_,_,_,_,_,_,rfl,hlt,⟨⟨lm+1,_,by omega,yhw hone (by intro c hc;simp at hc;rcases hc with rfl | rfl | rfl | rfl | rfl | rfl | rfl | rfl | rfl <;> rfl),HO2.out⟩,hwb1,by have:=PB.out.size;have:=HG2.out.size;simp only [World.size_alloc] at this;omega⟩,⟨gr _ _ _ (by decide) HX1.out,gr _ _ _ (by decide) HX2.out⟩,⟨_,_,_,_,_,_,_,_,_,yaq (HWC.out.below (yaa PB.out _)) HG2.out hnw⟩,hbel⟩ (yi0 hlt)⟩
  ·have hlt1:¬(k:Int)<(ls.length:Int):=by omega
   have c0:=HWC.out.cell 0;have c1:=HWC.out.cell 1;have c2:=HWC.out.cell 2;have c3:=HWC.out.cell 3;have c4:=HWC.out.cell 4;have c5:=HWC.out.cell 5;have c6:=HWC.out.cell 6;have c7:=HWC.out.cell 7;have c8:=HWC.out.cell 8;simp only [gz,gs] at c0 c1 c2 c3 c4 c5 c6 c7 c8;obtain ⟨⟨lm',cs,hle,hone,hown⟩,hwb1,hwb2⟩:=HO.out
   obtain rfl:lm=lm':= by
    rcases hown.2 with ⟨h1,h2⟩ | ⟨g,cap,cur,h1,_⟩
    ·cases h1;exact h2.symm
    ·cases h1;rfl
   have HOC:=lh hown;clear hown;obtain ⟨i0,hi,hz0,hz1,hz2⟩:=info_parts yjj;clear hk;go_upto_region 9 with fail
   go_wp2_with (at_builtin;refine yas _ rfl (.tmp 89) (.tmp 91) 87 rfl (wb+1) 175 i0 (.agg #[iZ,iZ,iZ,iZ,iZ,iZ,iZ,iZ,iZ]) 9 72 Tryz.underlying87 hi hz0 hz1 hz2 rfl (by decide) _ lm cs rfl (yah HOC.out (yaa bR _)) ⟨w1.heap.size,0,none⟩ 1 1 _ rfl rfl (yn0 w1 _ _) (fun x hx=>by simp at hx;rcases hx with rfl | rfl | rfl | rfl | rfl | rfl | rfl | rfl | rfl <;> rfl) (by have:=HLL.out;have:=HK.out;unfold maxLen;omega) (by have:=HLL.out;have:=HK.out;omega) (by rw [World.size_alloc];omega) ?_;intro v2 w2 hown2 hg2 hw2;clear hw2;have HO2:=lh hown2;have HG2:=lh hg2;clear hown2 hg2)
   all_goals
    simp only [Exit.jump];go_ret
    first
     | exact ⟨_,rfl,⟨_,_,by have:=HK.out;omega,hone,yco HOC.out om⟩,HBW.out⟩
     | exact ⟨_,rfl,⟨lm+1,_,by have:=HK.out;omega,yhw hone (by intro c hc;simp at hc;rcases hc with rfl | rfl | rfl | rfl | rfl | rfl | rfl | rfl | rfl <;> rfl),yco HO2.out om⟩,Below.grown (yaa HBW.out _) HG2.out (by rw [World.size_alloc];have:=HBW.out.size;omega) (fun q hq=>by have:=(HOC.out.lt q hq).1;omega)⟩
 case first =>
  intro J' hJJ hrest;have HRE:=lh hrest;clear hJJ hrest;go_upto_region 3 with fail
  have hS:∀W',Below W.heap.size W W'→((W'.cell? ⟨w.heap.size,0,none⟩=some (iV n)∧W'.cell? ⟨w.heap.size,5,none⟩=some (iV tot)∧W'.cell? ⟨w.heap.size,6,none⟩=some (iV cr)∧W'.cell? ⟨w.heap.size,7,none⟩=some (iV mn)∧W'.cell? ⟨w.heap.size,8,none⟩=some (.bool g))∧(W'.cell? ⟨w.heap.size+1,5,none⟩=some (iV tot')∧W'.cell? ⟨w.heap.size+1,6,none⟩=some (iV cr')∧W'.cell? ⟨w.heap.size+1,7,none⟩=some (iV mn')∧W'.cell? ⟨w.heap.size+1,8,none⟩=some (.bool g'))):=fun W' h =>
   have q:=X1.out.below h;have r:=X2.out.below h
   ⟨⟨q.cell 0,q.cell 5,q.cell 6,q.cell 7,q.cell 8⟩,r.cell 5,r.cell 6,r.cell 7,r.cell 8⟩
  have HS:=lh hS;have hs0:=hS W bR;have hsd:=hS W.drew (yaf bR);clear hS
  go_region_held3 (fun W'=>(W'.cell? ⟨w.heap.size,0,none⟩=some (iV n)∧W'.cell? ⟨w.heap.size,5,none⟩=some (iV tot)∧W'.cell? ⟨w.heap.size,6,none⟩=some (iV cr)∧W'.cell? ⟨w.heap.size,7,none⟩=some (iV mn)∧W'.cell? ⟨w.heap.size,8,none⟩=some (.bool g))∧(W'.cell? ⟨w.heap.size+1,5,none⟩=some (iV tot')∧W'.cell? ⟨w.heap.size+1,6,none⟩=some (iV cr')∧W'.cell? ⟨w.heap.size+1,7,none⟩=some (iV mn')∧W'.cell? ⟨w.heap.size+1,8,none⟩=some (.bool g'))) (first | with_reducible exact hs0 | with_reducible exact hsd | with_reducible exact HS.out _ (yaa (yaf bR) _) | with_reducible exact HS.out _ (yaf (yaa bR _)) | with_reducible assumption) (first | (go_at_call 197;refine (ysk g g' _).mono ?_;rintro _ w5 ⟨rfl,rfl⟩))
  all_goals
   go_wp2_with fail
   go_step3
   go_step
   go_step
   exact HRE.out _ _ ⟨0,_,_,_,_,_,_,_,_,_,_,_,_,_,_,_,_,_,_,_,_,_,_,_,_,_,_,_,_,_,_,_,_,_,_,_,_,_,_,_,_,_,_,_,_,_,_,_,_,_,_,_,_,_,_,_,_,_,_,_,_,_,_,_,_,_,_,_,_,_,_,_,_,_,_,_,_,_,_,_,_,_,_,_,_,_,_,_,_,_,_,rfl,Nat.zero_le _,⟨⟨0,[],Nat.le_refl _,by simp,yel _ _ _ _⟩,XB.out.size,by show _<(World.drew _).heap.size;simp⟩,⟨X1.out.below (by exact bL),X2.out.below (by exact bL)⟩,⟨_,_,_,_,_,_,_,_,_,(yae W _ _ _ rfl).below (by exact bL)⟩,yad XB.out (by exact bL)⟩
end
end Go.Proofs.YtkongpjpkpfniaaGreat

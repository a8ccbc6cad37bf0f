/- TopPaid: parts of the proof, made small by a program (mini.py). -/
import Derived.Test.YtkongpjpkpfniaaGreatM01
import Derived.Test.YtkongpjpkpfniaaGreatM11
import Derived.Test.YtkongpjpkpfniaaGreatM14
import Derived.Test.YtkongpjpkpfniaaGreatM45
set_option linter.unusedVariables false
set_option linter.unusedSimpArgs false
set_option maxRecDepth 100000
set_option maxHeartbeats 6400000
namespace Go.Proofs.YtkongpjpkpfniaaGreat
open Go.RowKit
theorem zq463d10 {q:Prop} (h:q:= by
 refine bodyPost_ret (v:=.agg #[iV E,iV r,iV cy,iV td,iV cn,bal,iV cr,iV du,rt,dp,iV sq,iV pn,iV pf,iV pt,iV pd,ln,iV tt,iV pc,iV mn,.bool gr]) (results_cell_row (p:=4) (ty:=45) rfl _ _ (w.heap.size+1) 45 _ (0,0) _ rfl (setRow_heap _ _ _ _ _ _ HZ.out) Tryz.underlying45 rfl (by rw [ybp];rfl)) rfl ⟨_,rfl,HAN.out,yd3 H2.out HST2.out (fun x hx=>HSUB.out x (List.mem_cons_of_mem _ hx)) (HSUB.out _ (List.mem_cons_self ..)) HBz.out HO2.out om _⟩):q:=h
theorem zq46f0cf {q:Prop} (h:q:= by
 refine hK.out _ _ kd ?_;clear hK K;try simp only [ap,aq,sa,sb,sc]
 refine yal kr ?_ _
 go_wp2_with fail
 refine bodyPost_ret (v:=.agg #[iV E,iV r,iV cy,iV td,iV cn,bal,iV cr,iV du,rt,dp,iV sq,iV pn,iV pf,iV pt,iV pd,ln,iV tt,iV pc,iV mn,.bool gr]) (results_cell_row (p:=4) (ty:=45) rfl _ _ (w.heap.size+1) 45 _ (0,0) _ rfl (setRow_heap _ _ _ _ _ _ HZ.out) Tryz.underlying45 rfl (by rw [ybp];rfl)) rfl ⟨_,rfl,HAN.out,yd3 H2.out HST2.out (fun x hx=>List.mem_cons_of_mem _ hx) (List.mem_cons_self ..) HBz.out HO2.out om _⟩):q:=h
theorem ygn {ops:Array Oper} {o:Oper} {a:Act} {w:World} {K:Act→World→Prop} {Q:Exit→Act→World→Prop} {E:Prop} (hgd:o.guard=none) (x y:Operand) (ho:o.op=.store 45 x y)
 (hd:o.dst=none) (g:Nat) (cells:Array Value) (hx:a.eval x=pV g) (hy:a.eval y=.agg cells) (old:Array Value) (hg:w.heap[g]?=some (.cells old 45 (0,0))) (hs:cells.size=20) (hs2:old.size=20)
 (h1:cells.all (·.oneCell')=true) (h:K a (w.setRow g cells)):if Region.wanted o (yielded ops a.tmps)=true then Oper.wp Tryz.prog o a w K Q else E:= by
 have hw:Region.wanted o (yielded ops a.tmps)=true:=by simp [Region.wanted,hgd]
 rw [if_pos hw];obtain ⟨op,dst,ty,pos,after,guard⟩:=o;simp only at ho hd hgd;subst ho;subst hd;unfold Oper.wp execOp;simp only [hx,hy,Instr.storeAt,Instr.sureAddr,Sem.run_bind,Sem.run_pure,Result.andThen_ok,run_storeVar_row w g 45 45 old cells hg (by rw [ybp,hs]) (by rw [hs,hs2]) h1];exact h
theorem yhk (lo g:Nat) (A:Acc) (hA:ycy A) (hsq:A.seq≤99999) (F:List Nat) (V:AV) (c:R5) (A':Acc) (E:Int) (hE:Hid (doS A c=(A',E))) (w:World) (h:ybe lo g A F w V) :
 Calls Tryz.prog 10 #[pV g,.agg #[iV c.a,iV c.b,iV c.c,iV c.d,iV c.e]] w (yze E lo g A' F w):= by
 have HOK:=lh hA;have HSQ:=lh hsq
 obtain ⟨W1,hW1,H1,HBC1,HBB1,HST1,HBW1⟩:∃W,((w.alloc (.cells #[iV c.a,iV c.b,iV c.c,iV c.d,iV c.e] 48)).alloc (.cells zA.toArray 45))=W∧Hid (ybe lo g A ((w.heap.size+1)::F) W V)∧Hid (Blk W w.heap.size 48 [iV c.a,iV c.b,iV c.c,iV c.d,iV c.e])∧Hid (Blk W (w.heap.size+1) 45 zA)∧Hid (Stp F w ((w.heap.size+1)::F) W)∧Hid (Below w.heap.size w W) :=
  ⟨_,rfl,h.more (yaa (yaa bR _) _) om (by simp only [World.size_alloc];omega),(yae w _ _ _ rfl).below (yaa bR _),ybc _ _ _ _ (World.size_alloc _ _),⟨((yab.refl _ _).alloc _).alloc _,fun x hx=>by
   rcases List.mem_cons.1 hx with rfl | hx
   ·exact .inr om
   ·exact .inl hx⟩,yaa (yaa bR _) _⟩
 clear h hA hsq
 go_enter Tryz.func10,Tryz.ntmps10
 go_upto_region 1 with fail
 try with_reducible rw [hW1]
 clear hW1;have d0:=HBC1.out.cell 0;have d1:=HBC1.out.cell 1;have d2:=HBC1.out.cell 2;have d3:=HBC1.out.cell 3;have d4:=HBC1.out.cell 4;simp only [gz,gs] at d0 d1 d2 d3 d4;have kdx:=HBC1.out.lt
 by_cases h8:c.a=8
 ·have h8':(c.a == 8)=true:=by simpa using h8
  have hE2:=hE.out;unfold doS at hE2;rw [if_pos h8] at hE2;have HT:=lh hE2;clear hE2 h8
  go_wp2_with fail
  refine (yp3 lo g A HOK.out (by have:=HSQ.out;omega) ((w.heap.size+1)::F) V c.b A' E HT _ H1.out).mono ?_;clear d0 d1 d2 d3 d4 kdx;rintro _ wz ⟨v,rfl,han,F2,V2,h2,s2,sub2,o2⟩;have H2:=lh h2;have HST2:Hid (Stp F w F2 wz):=HST1.out.trans s2;have HSUB:=lh sub2;have HO2:Hid (ybw w wz):=(ybw.of_below HBW1.out).trans o2;have HBz:Hid (Blk wz (w.heap.size+1) 45 zA):=o2 _ _ _ HBB1.out (by decide) (by decide) (by decide);clear h2 s2 sub2 o2;obtain ⟨r,cy,td,cn,bal,cr,du,rt,dp,sq,pn,pf,pt,pd,ln,tt,pc,mn,gr,rfl,i1,i2,i3,i4⟩:=han;have HI:=lh (And.intro i1 (And.intro i2 (And.intro i3 i4)));have HOC:Hid ((#[iV E,iV r,iV cy,iV td,iV cn,bal,iV cr,iV du,rt,dp,iV sq,iV pn,iV pf,iV pt,iV pd,ln,iV tt,iV pc,iV mn,.bool gr]:Array Value).all (·.oneCell')=true):=(ycn HI.out.1 HI.out.2.1 HI.out.2.2.1 HI.out.2.2.2);have HAN:Hid (Ans (E) (.agg #[iV E,iV r,iV cy,iV td,iV cn,bal,iV cr,iV du,rt,dp,iV sq,iV pn,iV pf,iV pt,iV pd,ln,iV tt,iV pc,iV mn,.bool gr])):=⟨r,cy,td,cn,bal,cr,du,rt,dp,sq,pn,pf,pt,pd,ln,tt,pc,mn,gr,rfl,HI.out.1,HI.out.2.1,HI.out.2.2.1,HI.out.2.2.2⟩;have HZ:Hid (wz.heap[w.heap.size+1]?=some (.cells zA.toArray 45 (0,0))):=HBz.out;clear i1 i2 i3 i4
  go_wp2_with (with_reducible refine ybj rfl (.tmp 4) (.tmp 15) rfl rfl (w.heap.size+1) #[iV E,iV r,iV cy,iV td,iV cn,bal,iV cr,iV du,rt,dp,iV sq,iV pn,iV pf,iV pt,iV pd,ln,iV tt,iV pc,iV mn,.bool gr] rfl rfl _ HZ.out rfl rfl HOC.out ?_)
  exact zq463d10
 have h8':(c.a == 8)=false:=by simpa using h8
 by_cases h9:c.a=9
 ·have h9':(c.a == 9)=true:=by simpa using h9
  have hE2:=hE.out;unfold doS at hE2;rw [if_neg h8,if_pos h9] at hE2;simp only [Prod.mk.injEq] at hE2;obtain ⟨rfl,rfl⟩:=hE2;clear h8 h9
  go_wp2_with fail
  refine (yfv lo g A HOK.out ((w.heap.size+1)::F) V _ H1.out).mono ?_;clear d0 d1 d2 d3 d4 kdx;rintro _ wz ⟨cn,bv,rv,dv,rfl,hbv,hrv,hdv,_,hbz⟩;have HISL:=lh (And.intro (show IsSl bv from hbv.shape.elim fun a h=>h.elim fun b h=>⟨_,_,_,h⟩) (And.intro (show IsSl rv from hrv.shape.elim fun a h=>h.elim fun b h=>⟨_,_,_,h⟩) hdv));have HOC:Hid ((#[iZ,iZ,iZ,iV A.today,iV cn,bv,iV A.R.p.c,iV A.R.p.d,rv,dv,iV A.seq,iZ,iZ,iZ,iZ,sZ,iZ,iZ,iZ,.bool false]:Array Value).all (·.oneCell')=true):=(ycn HISL.out.1 HISL.out.2.1 HISL.out.2.2 (isl _ _ _));have HAN:Hid (Ans 0 (.agg #[iZ,iZ,iZ,iV A.today,iV cn,bv,iV A.R.p.c,iV A.R.p.d,rv,dv,iV A.seq,iZ,iZ,iZ,iZ,sZ,iZ,iZ,iZ,.bool false])):=⟨0,0,A.today,cn,bv,A.R.p.c,A.R.p.d,rv,dv,A.seq,0,0,0,0,_,0,0,0,false,rfl,HISL.out.1,HISL.out.2.1,HISL.out.2.2,isl _ _ _⟩;have H2:=lh (H1.out.below hbz);have HST2:Hid (Stp F w ((w.heap.size+1)::F) wz):=Stp.below HST1.out hbz;have HO2:Hid (ybw w wz):=(ybw.of_below HBW1.out).below hbz;have HBz:Hid (Blk wz (w.heap.size+1) 45 zA):=HBB1.out.below hbz;have HZ:Hid (wz.heap[w.heap.size+1]?=some (.cells zA.toArray 45 (0,0))):=HBz.out;clear hbz hbv hrv hdv
  go_wp2_with (with_reducible refine ybj rfl (.tmp 4) (.tmp 20) rfl rfl (w.heap.size+1) #[iZ,iZ,iZ,iV A.today,iV cn,bv,iV A.R.p.c,iV A.R.p.d,rv,dv,iV A.seq,iZ,iZ,iZ,iZ,sZ,iZ,iZ,iZ,.bool false] rfl rfl _ HZ.out rfl rfl HOC.out ?_)
  refine bodyPost_ret (v:=.agg #[iZ,iZ,iZ,iV A.today,iV cn,bv,iV A.R.p.c,iV A.R.p.d,rv,dv,iV A.seq,iZ,iZ,iZ,iZ,sZ,iZ,iZ,iZ,.bool false]) (results_cell_row (p:=4) (ty:=45) rfl _ _ (w.heap.size+1) 45 _ (0,0) _ rfl (setRow_heap _ _ _ _ _ _ HZ.out) Tryz.underlying45 rfl (by rw [ybp];rfl)) rfl ⟨_,rfl,HAN.out,yd3 H2.out HST2.out (fun x hx=>List.mem_cons_of_mem _ hx) (List.mem_cons_self ..) HBz.out HO2.out om _⟩
 have h9':(c.a == 9)=false:=by simpa using h9
 by_cases h10:c.a=10
 ·have h10':(c.a == 10)=true:=by simpa using h10
  have hE2:=hE.out;unfold doS at hE2;rw [if_neg h8,if_neg h9,if_pos h10] at hE2;simp only [Prod.mk.injEq] at hE2;obtain ⟨rfl,hEE⟩:=hE2;have HEL:=lh hEE;obtain ⟨io,ic,hiv⟩:=(StS.of_own H1.out.iss H1.out.rd.now.2.2.2.2.2.2).shape;obtain ⟨ln0,hln0⟩:∃n,A.iss.length=n:=⟨_,rfl⟩;rw [hln0] at hiv;have HIV:=lh hiv;have HLB:Hid (A.iss.length≤300∧∀i,i<A.iss.length→(A.iss.getD i St0).ls.length≤1000):=⟨by have h1:=HOK.out.issl;have h2:=HOK.out.outl;omega,HOK.out.issb⟩
  have HSV:Hid (∀W',Below W1.heap.size W1 W'→StV W' (.slice io ln0 ic) A.iss V.ivs):=fun W' hb=>by
   have q:=H1.out.below hb;rw [←HIV.out];exact ⟨q.rd.now.2.2.2.2.2.2,Fl.of_own q.iss q.rd.now.2.2.2.2.2.2.one⟩
  clear h8 h9 h10 hiv hEE hln0
  have HS:Hid (∀W',Below W1.heap.size W1 W'→W'.cell? ⟨g,16,none⟩=some (.slice io ln0 ic)∧W'.cell? ⟨w.heap.size,4,none⟩=some (iV c.e)):=fun W' hb=>by
   have q:=H1.out.blk.below hb;have q2:=HBC1.out.below hb;exact ⟨by rw [←HIV.out];exact q.cell 16,q2.cell 4⟩
  have hsd:=HS.out W1.drew (yaf bR);go_upto_region 9 with fail
  refine yan (fun W'=>W'.cell? ⟨g,16,none⟩=some (.slice io ln0 ic)∧W'.cell? ⟨w.heap.size,4,none⟩=some (iV c.e)) 7 kr ?_;refine tk 0 rfl kr ke rfl kv ka kp ?_;refine tk 1 rfl kr ke rfl kv ka kp ?_;refine tk 2 rfl kr ke rfl kv ka kp ?_;refine tk 3 rfl kr ke rfl kv ka kp ?_;refine tk 4 rfl kr ke rfl kv ka kp ?_;refine tk 5 rfl kr ke rfl kv ka kp ?_;refine wo 6 kr rfl fun K hK=>?_;go_simp;refine (yse _ A.iss V.ivs c.e (by have:=HLB.out.1;omega) (lh HLB.out.2) E HEL _ (HSV.out _ (yaf bR))).mono ?_;rintro _ wz ⟨v,rfl,han,hbz'⟩;have hbz:Below W1.heap.size W1 wz:=yad (yaf bR) hbz';have hsz:=HS.out wz hbz;have H2:=lh (H1.out.below hbz);have HST2:Hid (Stp F w ((w.heap.size+1)::F) wz):=Stp.below HST1.out hbz;have HO2:Hid (ybw w wz):=(ybw.of_below HBW1.out).below hbz;have HBz:Hid (Blk wz (w.heap.size+1) 45 zA):=HBB1.out.below hbz;obtain ⟨r,cy,td,cn,bal,cr,du,rt,dp,sq,pn,pf,pt,pd,ln,tt,pc,mn,gr,rfl,i1,i2,i3,i4⟩:=han;have HI:=lh (And.intro i1 (And.intro i2 (And.intro i3 i4)));have HOC:Hid ((#[iV E,iV r,iV cy,iV td,iV cn,bal,iV cr,iV du,rt,dp,iV sq,iV pn,iV pf,iV pt,iV pd,ln,iV tt,iV pc,iV mn,.bool gr]:Array Value).all (·.oneCell')=true):=(ycn HI.out.1 HI.out.2.1 HI.out.2.2.1 HI.out.2.2.2);have HAN:Hid (Ans E (.agg #[iV E,iV r,iV cy,iV td,iV cn,bal,iV cr,iV du,rt,dp,iV sq,iV pn,iV pf,iV pt,iV pd,ln,iV tt,iV pc,iV mn,.bool gr])):=⟨r,cy,td,cn,bal,cr,du,rt,dp,sq,pn,pf,pt,pd,ln,tt,pc,mn,gr,rfl,HI.out.1,HI.out.2.1,HI.out.2.2.1,HI.out.2.2.2⟩;have HZ:Hid (wz.heap[w.heap.size+1]?=some (.cells zA.toArray 45 (0,0))):=HBz.out;clear i1 i2 i3 i4 hbz hbz';refine hK.out _ _ (fun hun=>hsz) ?_;clear hK K;try simp only [ap,aq,sa,sb,sc]
  refine wo 7 kr rfl fun K hK=>?_;refine ygn rfl (.tmp 4) (.tmp 29) rfl rfl (w.heap.size+1) #[iV E,iV r,iV cy,iV td,iV cn,bal,iV cr,iV du,rt,dp,iV sq,iV pn,iV pf,iV pt,iV pd,ln,iV tt,iV pc,iV mn,.bool gr] rfl rfl _ HZ.out rfl rfl HOC.out ?_;exact zq46f0cf
 have h10':(c.a == 10)=false:=by simpa using h10
 by_cases h11:c.a=11
 ·have h11':(c.a == 11)=true:=by simpa using h11
  have hE2:=hE.out;unfold doS at hE2;rw [if_neg h8,if_neg h9,if_neg h10,if_pos h11] at hE2;simp only [Prod.mk.injEq] at hE2;obtain ⟨rfl,hEE⟩:=hE2;have HEL:=lh hEE;obtain ⟨io,ic,hiv⟩:=H1.out.rd.now.2.2.2.2.2.1.2.shape;obtain ⟨ln0,hln0⟩:∃n,A.R.out.length=n:=⟨_,rfl⟩;rw [hln0] at hiv;have HIV:=lh hiv;have HLB:Hid (A.R.out.length≤300∧∀i,i<A.R.out.length→(A.R.out.getD i St0).ls.length≤1000):=⟨HOK.out.outl,HOK.out.outb⟩
  have HSV:Hid (∀W',Below W1.heap.size W1 W'→StV W' (.slice io ln0 ic) A.R.out V.nvs):=fun W' hb=>by
   have q:=H1.out.below hb;rw [←HIV.out];exact q.rd.now.2.2.2.2.2.1
  clear h8 h9 h10 h11 hiv hEE hln0
  have HS:Hid (∀W',Below W1.heap.size W1 W'→W'.cell? ⟨g,15,none⟩=some (.slice io ln0 ic)∧W'.cell? ⟨w.heap.size,4,none⟩=some (iV c.e)):=fun W' hb=>by
   have q:=H1.out.blk.below hb;have q2:=HBC1.out.below hb;exact ⟨by rw [←HIV.out];exact q.cell 15,q2.cell 4⟩
  have hsd:=HS.out W1.drew (yaf bR);go_upto_region 11 with fail
  refine yan (fun W'=>W'.cell? ⟨g,15,none⟩=some (.slice io ln0 ic)∧W'.cell? ⟨w.heap.size,4,none⟩=some (iV c.e)) 7 kr ?_;refine tk 0 rfl kr ke rfl kv ka kp ?_;refine tk 1 rfl kr ke rfl kv ka kp ?_;refine tk 2 rfl kr ke rfl kv ka kp ?_;refine tk 3 rfl kr ke rfl kv ka kp ?_;refine tk 4 rfl kr ke rfl kv ka kp ?_;refine tk 5 rfl kr ke rfl kv ka kp ?_;refine wo 6 kr rfl fun K hK=>?_;go_simp;refine (yse _ A.R.out V.nvs c.e (by have:=HLB.out.1;omega) (lh HLB.out.2) E HEL _ (HSV.out _ (yaf bR))).mono ?_;rintro _ wz ⟨v,rfl,han,hbz'⟩;have hbz:Below W1.heap.size W1 wz:=yad (yaf bR) hbz';have hsz:=HS.out wz hbz;have H2:=lh (H1.out.below hbz);have HST2:Hid (Stp F w ((w.heap.size+1)::F) wz):=Stp.below HST1.out hbz;have HO2:Hid (ybw w wz):=(ybw.of_below HBW1.out).below hbz;have HBz:Hid (Blk wz (w.heap.size+1) 45 zA):=HBB1.out.below hbz;obtain ⟨r,cy,td,cn,bal,cr,du,rt,dp,sq,pn,pf,pt,pd,ln,tt,pc,mn,gr,rfl,i1,i2,i3,i4⟩:=han;have HI:=lh (And.intro i1 (And.intro i2 (And.intro i3 i4)));have HOC:Hid ((#[iV E,iV r,iV cy,iV td,iV cn,bal,iV cr,iV du,rt,dp,iV sq,iV pn,iV pf,iV pt,iV pd,ln,iV tt,iV pc,iV mn,.bool gr]:Array Value).all (·.oneCell')=true):=(ycn HI.out.1 HI.out.2.1 HI.out.2.2.1 HI.out.2.2.2);have HAN:Hid (Ans E (.agg #[iV E,iV r,iV cy,iV td,iV cn,bal,iV cr,iV du,rt,dp,iV sq,iV pn,iV pf,iV pt,iV pd,ln,iV tt,iV pc,iV mn,.bool gr])):=⟨r,cy,td,cn,bal,cr,du,rt,dp,sq,pn,pf,pt,pd,ln,tt,pc,mn,gr,rfl,HI.out.1,HI.out.2.1,HI.out.2.2.1,HI.out.2.2.2⟩;have HZ:Hid (wz.heap[w.heap.size+1]?=some (.cells zA.toArray 45 (0,0))):=HBz.out;clear i1 i2 i3 i4 hbz hbz';refine hK.out _ _ (fun hun=>hsz) ?_;clear hK K;try simp only [ap,aq,sa,sb,sc]
  refine wo 7 kr rfl fun K hK=>?_;refine ygn rfl (.tmp 4) (.tmp 38) rfl rfl (w.heap.size+1) #[iV E,iV r,iV cy,iV td,iV cn,bal,iV cr,iV du,rt,dp,iV sq,iV pn,iV pf,iV pt,iV pd,ln,iV tt,iV pc,iV mn,.bool gr] rfl rfl _ HZ.out rfl rfl HOC.out ?_;exact zq46f0cf
 have h11':(c.a == 11)=false:=by simpa using h11
 have hE2:=hE.out;unfold doS at hE2;rw [if_neg h8,if_neg h9,if_neg h10,if_neg h11] at hE2;obtain ⟨ch,hch⟩:∃ch,chg c.a=ch:=⟨_,rfl⟩;have HCH:=lh hch;rw [hch] at hE2;have HE3:=lh hE2;have HN8:=lh h8;clear hE2 h8 h9 h10 h11 hch
 go_wp2_with fail
 refine (yko c _).mono ?_;rintro _ W2 ⟨rfl,hb2⟩;rw [HCH.out];have H2:=lh (H1.out.below hb2);have HBC2:=lh (HBC1.out.below hb2);have HBB2:=lh (HBB1.out.below hb2);have HST2':=lh (Stp.below HST1.out hb2);have HBW2:Hid (Below w.heap.size w W2):=yad HBW1.out hb2;clear hb2 d0 d1 d2 d3 d4 kdx H1 HBC1 HBB1 HST1 HBW1;have H1:=H2;have HBC1:=HBC2;have HBB1:=HBB2;have HST1:=HST2';have HBW1:=HBW2;clear H2 HBC2 HBB2 HST2' HBW2;have d0:=HBC1.out.cell 0;have d1:=HBC1.out.cell 1;have d2:=HBC1.out.cell 2;have d3:=HBC1.out.cell 3;have d4:=HBC1.out.cell 4;simp only [gz,gs] at d0 d1 d2 d3 d4;have kdx:=HBC1.out.lt;cases ch with
 | false =>
  have h9:=HE3.out;rw [if_pos rfl] at h9;simp only [Prod.mk.injEq] at h9;obtain ⟨rfl,rfl⟩:=h9
  go_wp2_with fail
  refine (yc2 1 _).mono ?_;clear d0 d1 d2 d3 d4 kdx;rintro _ wz ⟨rfl,hbz⟩;have han:Ans 1 (ansZ 1):=yfd 1
  revert han
  generalize ansZ 1=v;intro han;have H2:=lh (H1.out.below hbz);have HST2:Hid (Stp F w ((w.heap.size+1)::F) wz):=Stp.below HST1.out hbz;have HO2:Hid (ybw w wz):=(ybw.of_below HBW1.out).below hbz;have HBz:Hid (Blk wz (w.heap.size+1) 45 zA):=HBB1.out.below hbz;clear hbz;obtain ⟨r,cy,td,cn,bal,cr,du,rt,dp,sq,pn,pf,pt,pd,ln,tt,pc,mn,gr,rfl,i1,i2,i3,i4⟩:=han;have HI:=lh (And.intro i1 (And.intro i2 (And.intro i3 i4)));have HOC:Hid ((#[iV 1,iV r,iV cy,iV td,iV cn,bal,iV cr,iV du,rt,dp,iV sq,iV pn,iV pf,iV pt,iV pd,ln,iV tt,iV pc,iV mn,.bool gr]:Array Value).all (·.oneCell')=true):=(ycn HI.out.1 HI.out.2.1 HI.out.2.2.1 HI.out.2.2.2);have HAN:Hid (Ans (1) (.agg #[iV 1,iV r,iV cy,iV td,iV cn,bal,iV cr,iV du,rt,dp,iV sq,iV pn,iV pf,iV pt,iV pd,ln,iV tt,iV pc,iV mn,.bool gr])):=⟨r,cy,td,cn,bal,cr,du,rt,dp,sq,pn,pf,pt,pd,ln,tt,pc,mn,gr,rfl,HI.out.1,HI.out.2.1,HI.out.2.2.1,HI.out.2.2.2⟩;have HZ:Hid (wz.heap[w.heap.size+1]?=some (.cells zA.toArray 45 (0,0))):=HBz.out;clear i1 i2 i3 i4
  go_wp2_with (with_reducible refine ybj rfl (.tmp 4) (.tmp 42) rfl rfl (w.heap.size+1) #[iV 1,iV r,iV cy,iV td,iV cn,bal,iV cr,iV du,rt,dp,iV sq,iV pn,iV pf,iV pt,iV pd,ln,iV tt,iV pc,iV mn,.bool gr] rfl rfl _ HZ.out rfl rfl HOC.out ?_)
  refine bodyPost_ret (v:=.agg #[iV 1,iV r,iV cy,iV td,iV cn,bal,iV cr,iV du,rt,dp,iV sq,iV pn,iV pf,iV pt,iV pd,ln,iV tt,iV pc,iV mn,.bool gr]) (results_cell_row (p:=4) (ty:=45) rfl _ _ (w.heap.size+1) 45 _ (0,0) _ rfl (setRow_heap _ _ _ _ _ _ HZ.out) Tryz.underlying45 rfl (by rw [ybp];rfl)) rfl ⟨_,rfl,HAN.out,yd3 H2.out HST2.out (fun x hx=>List.mem_cons_of_mem _ hx) (List.mem_cons_self ..) HBz.out HO2.out om _⟩
 | true =>
  have h9:=HE3.out;rw [if_neg (by simp)] at h9;have HC:=lh h9
  have HK:Hid (1≤c.a∧c.a≤7):= by
   have h1:=HCH.out;have h2:=HN8.out;simp [chg] at h1;show _∧_;omega
  clear h9
  go_wp2_with fail
  refine (yml lo g A HOK.out HSQ.out ((w.heap.size+1)::F) V c HK.out A' E HC _ H1.out).mono ?_;clear d0 d1 d2 d3 d4 kdx;rintro _ wz ⟨v,rfl,han,F2,V2,h2,s2,sub2,o2⟩;have H2:=lh h2;have HST2:Hid (Stp F w F2 wz):=HST1.out.trans s2;have HSUB:=lh sub2;have HO2:Hid (ybw w wz):=(ybw.of_below HBW1.out).trans o2;have HBz:Hid (Blk wz (w.heap.size+1) 45 zA):=o2 _ _ _ HBB1.out (by decide) (by decide) (by decide);clear h2 s2 sub2 o2;obtain ⟨r,cy,td,cn,bal,cr,du,rt,dp,sq,pn,pf,pt,pd,ln,tt,pc,mn,gr,rfl,i1,i2,i3,i4⟩:=han;have HI:=lh (And.intro i1 (And.intro i2 (And.intro i3 i4)));have HOC:Hid ((#[iV E,iV r,iV cy,iV td,iV cn,bal,iV cr,iV du,rt,dp,iV sq,iV pn,iV pf,iV pt,iV pd,ln,iV tt,iV pc,iV mn,.bool gr]:Array Value).all (·.oneCell')=true):=(ycn HI.out.1 HI.out.2.1 HI.out.2.2.1 HI.out.2.2.2);have HAN:Hid (Ans (E) (.agg #[iV E,iV r,iV cy,iV td,iV cn,bal,iV cr,iV du,rt,dp,iV sq,iV pn,iV pf,iV pt,iV pd,ln,iV tt,iV pc,iV mn,.bool gr])):=⟨r,cy,td,cn,bal,cr,du,rt,dp,sq,pn,pf,pt,pd,ln,tt,pc,mn,gr,rfl,HI.out.1,HI.out.2.1,HI.out.2.2.1,HI.out.2.2.2⟩;have HZ:Hid (wz.heap[w.heap.size+1]?=some (.cells zA.toArray 45 (0,0))):=HBz.out;clear i1 i2 i3 i4
  go_wp2_with (with_reducible refine ybj rfl (.tmp 4) (.tmp 45) rfl rfl (w.heap.size+1) #[iV E,iV r,iV cy,iV td,iV cn,bal,iV cr,iV du,rt,dp,iV sq,iV pn,iV pf,iV pt,iV pd,ln,iV tt,iV pc,iV mn,.bool gr] rfl rfl _ HZ.out rfl rfl HOC.out ?_)
  exact zq463d10
theorem yka {w:World} {base:Nat} {e:TypeId} {m n:Nat} {v:Value} {cs:List Value} (h:w.ownsRow base e m v n cs):IsSl v:= by
 obtain ⟨_,⟨rfl,_⟩ | ⟨_,_,_,rfl,_⟩⟩:=h
 ·exact ⟨_,_,_,rfl⟩
 ·exact ⟨_,_,_,rfl⟩
def ja4 (c:R5) (w:World) (e:Ending) (w':World):Prop:=∃u,e=.returned u∧w'.ownsRow w.heap.size 5 1 u (ye4 [] [c.a,c.b,c.c,c.d,c.e] 5).length ((ye4 [] [c.a,c.b,c.c,c.d,c.e] 5).map (Value.int .u8))∧Below w.heap.size w w'
theorem ypx (c:R5) (w:World):Calls Tryz.prog 62 #[.agg #[iV c.a,iV c.b,iV c.c,iV c.d,iV c.e]] w (ja4 c w):= by
 go_enter Tryz.func62,Tryz.ntmps62
 go_wp2_with fail
 refine (yqb _ _ [] [c.a,c.b,c.c,c.d,c.e] w.heap.size _ (World.ownsRow_nil _ _ _ _) (fun W hW=>Sl.litG [c.a,c.b,c.c,c.d,c.e] 5 hW rfl rfl (by decide) (World.size_alloc _ _) (by simp [Value.ownBlock])) (by simp only [World.size_alloc];omega) (by simp)).mono ?_;rintro _ w2 ⟨u,rfl,ho,hg,_⟩;obtain ⟨uo,un,uc,rfl⟩:=yka ho
 go_wp2_with fail
 go_ret
 exact ⟨_,rfl,ho,(yaa (yaa bR _) _).trans (bR.grown hg (by simp only [World.size_alloc];omega) (fun k hk=>by cases hk))⟩
theorem ya6.lowerB {w:World} {base base' g:Nat} {dv:Value} {b:Bk} (h:ya6 w base g dv b) (hb:base'≤base):ya6 w base' g dv b:=⟨Nat.le_trans hb h.1,h.2.1,yco h.2.2 hb⟩
theorem ybe.ones {lo g:Nat} {A:Acc} {F:List Nat} {w:World} {V:AV} (h:ybe lo g A F w V):(ybu A V).toArray.all (·.oneCell')=true:= by
 obtain ⟨_,_,h1⟩:=h.rd.now.1.shape;obtain ⟨_,_,h2⟩:=h.rd.now.2.2.2.1.shape;obtain ⟨_,_,h3⟩:=h.rd.now.2.2.2.2.1.shape;obtain ⟨_,_,h4⟩:=h.rd.now.2.2.2.2.2.1.2.shape;obtain ⟨_,_,_,h5⟩:=yka h.iss;obtain ⟨_,_,_,_,h0⟩:=h.adj;obtain ⟨_,_,_,h6⟩:=yka h0;simp [ybu,h1,h2,h3,h4,h5,h6,Value.oneCell']
theorem yr9:(Tryz.prog.info? 89).map (·.size)=some 18:=by kernel_rfl
theorem ja3 (A:Acc) (V:AV):(ybu A V).toArray.size=18:=rfl
theorem yvp {ops:Array Oper} {rest:List Oper} {o:Oper} {a:Act} {w:World} {Q:Exit→Act→World→Prop} (hgd:o.guard=none) (x y:Operand) (ho:o.op=.store 89 x y)
 (hd:o.dst=none) (g:Nat) (cells:Array Value) (hx:a.eval x=pV g) (hy:a.eval y=.agg cells) (old:Array Value) (hg:w.heap[g]?=some (.cells old 89 (0,0))) (hs:cells.size=18) (hs2:old.size=18)
 (h1:cells.all (·.oneCell')=true) (h:wpList Tryz.prog ops Q rest a (w.setRow g cells)):wpList Tryz.prog ops Q (o::rest) a w :=
 wpList_store_rowTo hgd 89 x y ho hd g cells hx hy 89 old hg (by rw [yr9,hs]) (by rw [hs,hs2]) h1 h
def yvn (A:Acc) (V:AV) (B G:Nat) (W3:World) (W:World):Prop:=∃gl u gb dv,Blk W G 89 (ybu A { V with gl:=gl,lev:=u,gb:=gb,dv:=dv })∧ybn W gl A.t V.ltv u A.ev∧W.ownsRow B 150 5 u A.ev.length (yag A.ev)∧B≤gl∧ya6 W B gb dv A.bk∧Below B W3 W
theorem yzm {W:World} {B G m n:Nat} {e t:TypeId} {u:Value} {cs cur:List Value} (ho:W.ownsRow B e m u n cs) (hG:Blk W G t cur) (hne:t≠e):OffF [G] u:=fun b o k c e1 _ hm=>by
 simp only [ms] at hm;subst hm e1;exact yaj ho hG hne rfl
theorem yl8 {W W':World} {gl B G:Nat} {t:Tm} {tv u:Value} {l:List R5} {cur:List Value} (hl:ybn W gl t tv u l) (ho:W.ownsRow B 150 5 u l.length (yag l)) (hG:Blk W G 89 cur) (ht:OffF [G] tv) (hk:yab [G] W W'):ybn W' gl t tv u l∧W'.ownsRow B 150 5 u l.length (yag l) :=
 ⟨hl.keep hk (by simp only [ms];exact ybs hl.1 hG (by decide)) ht (yzm ho hG (by decide)),yap ho hk (fun q hq hm=>by
  simp only [ms] at hm;subst hm;exact yaj ho hG (by decide) hq.symm)⟩
theorem ymi {W W':World} {gb B G:Nat} {dv:Value} {b:Bk} {cur:List Value} (hd:ya6 W B gb dv b) (hG:Blk W G 89 cur) (hk:yab [G] W W'):ya6 W' B gb dv b :=
 ⟨hd.1,hd.2.1.keep hk (by simp only [ms];exact ybs hd.2.1 hG (by decide)),yap hd.2.2 hk (fun q hq hm=>by
  simp only [ms] at hm;subst hm;exact yaj hd.2.2 hG (by decide) hq.symm)⟩
theorem yx6 {A:Acc} {V:AV} {w W3 W5:World} {gl gb:Nat} {u dv:Value} (h3:Blk W3 w.heap.size 89 (ybu A V)) (hb3:Below w.heap.size w W3) (h5:Below W3.heap.size W3 W5) (hl:ybn W5 gl A.t V.ltv u A.ev) (ho:W5.ownsRow w.heap.size 150 5 u A.ev.length (yag A.ev)) (hge:w.heap.size≤gl) (hd:ya6 W5 w.heap.size gb dv A.bk) (ht:OffF [w.heap.size] V.ltv) :
 yvn A V w.heap.size w.heap.size W3 ((W5.setCell ⟨w.heap.size,9,none⟩ (pV gl)).setCell ⟨w.heap.size,10,none⟩ (pV gb)):= by
 have hk:yab [w.heap.size] W5 ((W5.setCell ⟨w.heap.size,9,none⟩ (pV gl)).setCell ⟨w.heap.size,10,none⟩ (pV gb)):=((yab.refl _ _).sg _).sg _;have hG:=h3.below h5;obtain ⟨k1,k2⟩:=yl8 hl ho hG ht hk;exact ⟨gl,u,gb,dv,(hG.set 9 _).set 10 _,k1,k2,hge,ymi hd hG hk,(h5.mono hb3.size).trans (hk.to_below (Nat.le_trans hb3.size h5.size) (fun x hx=>by simp only [ms] at hx;omega))⟩
def ywh (A:Acc) (w:World) (e:Ending) (w':World):Prop:=∃g F V,e=.returned (pV g)∧ybe w.heap.size g A F w' V∧Below w.heap.size w w'
theorem yxg {lo g:Nat} {A:Acc} {F:List Nat} {w w':World} {V:AV} (h:ybe lo g A F w V) {gl gb n:Nat} {u dv iv av:Value} {cs:List Value} (hB:Below w.heap.size w w') (hG:Blk w' w.heap.size 89 (ybu A { V with gl:=gl,lev:=u,gb:=gb,dv:=dv,iv:=iv,av:=av }))
 (hl:ybn w' gl A.t V.ltv u A.ev) (ho:w'.ownsRow w.heap.size 150 5 u A.ev.length (yag A.ev)) (hd:ya6 w' w.heap.size gb dv A.bk)
 (hi:w'.ownsRow w.heap.size 43 9 iv A.iss.length (yay A.iss V.ivs)) (ha:w'.ownsRow w.heap.size 175 9 av n cs) (hn:n≤A.seq.toNat*400000) (h1:∀c∈cs,c.oneCell'=true) :
 ywh A w (.returned (pV w.heap.size)) w':= by
 have hmem:∀x∈w.heap.size::(iv.ownBlock.toList++av.ownBlock.toList),x=w.heap.size∨iv.ownBlock=some x∨av.ownBlock=some x:=fun x hx=>by
  simp only [List.mem_cons,List.mem_append,Option.mem_toList] at hx;exact hx
 have hlt:∀x∈w.heap.size::(iv.ownBlock.toList++av.ownBlock.toList),w.heap.size≤x∧x<w'.heap.size:=fun x hx=>by
  rcases hmem x hx with rfl | e | e
  ·exact ⟨Nat.le_refl _,hG.lt⟩
  ·exact hi.lt _ e
  ·exact ha.lt _ e
 refine ⟨_,w.heap.size::(iv.ownBlock.toList++av.ownBlock.toList),_,rfl,⟨hG,List.mem_cons_self ..,hlt,fun W hW=>?_,hi,fun q hq=>?_,⟨n,cs,hn,h1,ha⟩,fun q hq=>?_⟩,hB⟩
 ·have hbW:Below w.heap.size w W:=hB.trans (hW.to_below hB.size (fun x hx=>(hlt x hx).1))
  have q:=h.rd.now;refine ⟨q.1.below hbW,hl.keep hW (fun hm=>?_) (Fl.offNew q.2.1.2.1.fl om (fun x hx=>(hlt x hx).1)) (fun b o k c e1 _ hm=>?_),ya6.rd hd (fun hm=>?_) (fun r hr hm=>?_) W hW,q.2.2.2.1.below hbW,q.2.2.2.2.1.below hbW,q.2.2.2.2.2.1.below hbW,q.2.2.2.2.2.2.below hbW⟩
  ·rcases hmem _ hm with e | e | e
   ·exact ybs hl.1 hG (by decide) e
   ·exact yaj hi hl.1 (by decide) e.symm
   ·exact yaj ha hl.1 (by decide) e.symm
  ·subst e1
   rcases hmem _ hm with e | e | e
   ·subst e
    exact yaj ho hG (by decide) rfl
   ·exact yfe ho hi (by decide) rfl e
   ·exact yfe ho ha (by decide) rfl e
  ·rcases hmem _ hm with e | e | e
   ·exact ybs hd.2.1 hG (by decide) e
   ·exact yaj hi hd.2.1 (by decide) e.symm
   ·exact yaj ha hd.2.1 (by decide) e.symm
  ·rcases hmem _ hm with e | e | e
   ·subst e
    exact yaj hd.2.2 hG (by decide) hr.symm
   ·exact yfe hd.2.2 hi (by decide) hr e
   ·exact yfe hd.2.2 ha (by decide) hr e
 ·simp [hq]
 ·simp [hq]
theorem yqs (lo g:Nat) (A:Acc) (hA:ycy A) (hq:A.seq.toNat*400000≤100000) (F:List Nat) (V:AV) (w:World) (h:ybe lo g A F w V) :
 Calls Tryz.prog 48 #[pV g] w (ywh A w):= by
 have H:=lh h;have HOK:=lh hA;have HQ:=lh hq;have HRG:Hid (w.rangeAt g 0 (ybu A V)):=fun j v hv=>by rw [Nat.zero_add,h.blk.cell];exact hv
 obtain ⟨W3,hW3,HG3,HB3⟩:∃W,(w.alloc (.cells #[iZ,sZ,iZ,iZ,iZ,iZ,iZ,iZ,iZ,.pointer none,.pointer none,sZ,iZ,iZ,sZ,sZ,sZ,sZ] 89)).setRow w.heap.size (ybu A V).toArray=W∧Hid (Blk W w.heap.size 89 (ybu A V))∧Hid (Below w.heap.size w W):=⟨_,rfl,ycu (yae w [iZ,sZ,iZ,iZ,iZ,iZ,iZ,iZ,iZ,.pointer none,.pointer none,sZ,iZ,iZ,sZ,sZ,sZ,sZ] _ _ rfl) _,ybl (yaa bR _) (Nat.le_refl _) _⟩;have HOFF:Hid (OffF [w.heap.size] V.ltv):=Fl.offNew h.rd.now.2.1.2.1.fl om (fun x hx=>by simp only [ms] at hx;omega);have HGL:Hid (g<w.heap.size):=h.blk.lt;clear h hA hq
 go_enter Tryz.func48,Tryz.ntmps48
 go_upto_region 4 with (first | (with_reducible refine wpList_load_mid rfl 89 (.tmp 7) rfl g 0 rfl (ybu A V) _ HRG.out Tryz.underlying89 rfl (yr9.trans rfl) ?_) | (with_reducible refine yvp rfl (.tmp 3) (.tmp 8) rfl rfl w.heap.size (ybu A V).toArray rfl rfl _ (heap_alloc_new _ _) (ja3 A V) rfl H.out.ones ?_))
 with_reducible rw [hW3]
 clear hW3;have H3:Hid (ybe lo g A F W3 V):=H.out.below HB3.out;have HS:Hid (∀W',Below W3.heap.size W3 W'→W'.cell? ⟨g,9,none⟩=some (pV V.gl)∧W'.cell? ⟨g,10,none⟩=some (pV V.gb)):=fun W' hW=>⟨((H3.out.below hW).blk.cell 9),((H3.out.below hW).blk.cell 10)⟩;have hsd:=HS.out W3.drew (yaf bR)
 go_cut [3] (fun s3 wx=>s3=pV w.heap.size∧yvn A V w.heap.size w.heap.size W3 wx)
 case first =>
  refine yan (fun W'=>W'.cell? ⟨g,9,none⟩=some (pV V.gl)∧W'.cell? ⟨g,10,none⟩=some (pV V.gb)) 10 kr ?_;refine tk 0 rfl kr ke rfl kv ka kp ?_;refine tk 1 rfl kr ke rfl kv ka kp ?_;refine tk 2 rfl kr ke rfl kv ka kp ?_;refine tk 3 rfl kr ke rfl kv ka kp ?_;refine tf 5 rfl kr ke rfl kv ka kp ?_;refine tf 6 rfl kr ke rfl kv ka kp ?_;refine tf 7 rfl kr ke rfl kv ka kp ?_;refine tk 8 rfl kr ke rfl kv ka kp ?_;refine wo 4 kr rfl fun K hK=>?_;go_simp;refine (yhx V.gl A.t V.ltv V.lev A.ev _ (H3.out.below (yaf bR)).rd.now.2.1 (by have:=HOK.out.goods.len;omega)).mono ?_;rintro _ w4 ⟨gl',u,rfl,hl,hu,hge,hb⟩;have HL:=lh (And.intro hl (And.intro hu hge));have HBA:Hid (Below W3.heap.size W3 w4):=yad (yaf bR) hb;have HBL:=lh hb;have hsw4:=HS.out w4 HBA.out;clear hl hu hge hb;refine hK.out _ _ (fun hun=>hsw4) ?_;clear hK K;try simp only [ap,aq,sa,sb,sc]
  refine wo 9 kr rfl fun K hK=>?_;go_simp;refine (yi6 0 V.gb V.dv A.bk _ (H3.out.below (HBA.out)).rd.now.2.2.1 (by have:=HOK.out.bkl;omega)).mono ?_;rintro _ w5 ⟨gb',dv',rfl,hd,hb⟩;have HD:=lh hd;have HBB:Hid (Below W3.heap.size W3 w5):=yad (HBA.out) hb;have HBD:=lh hb;have hsw5:=HS.out w5 HBB.out;clear hd hb;refine hK.out _ _ (fun hun=>hsw5) ?_;clear hK K;try simp only [ap,aq,sa,sb,sc]
  obtain ⟨W5,hW5,L5,D5,B5⟩:∃W,w5=W∧Hid (ybn W gl' A.t V.ltv u A.ev∧W.ownsRow w.heap.size 150 5 u A.ev.length (yag A.ev)∧w.heap.size≤gl')∧Hid (ya6 W w.heap.size gb' dv' A.bk)∧Hid (Below W3.heap.size W3 W):=⟨_,rfl,⟨HL.out.1.below HBD.out,yah (yco HL.out.2.1 (by have h1:=HB3.out.size;exact h1)) HBD.out,by have h1:=HB3.out.size;have h2:=HL.out.2.2;exact Nat.le_trans h1 h2⟩,HD.out.lowerB (by have h1:=HB3.out.size;have h2:=HBA.out.size;omega),HBB.out⟩
  with_reducible rw [hW5]
  clear hW5;have G5:Hid (Blk W5 w.heap.size 89 (ybu A V)):=HG3.out.below B5.out;have g9:=G5.out.cell 9;have g9f:=G5.out.frozen 9;have gk:=G5.out.lt;refine wo 10 kr rfl fun K hK=>?_;go_simp;refine hK.out _ _ kd ?_;clear hK K;try simp only [ap,aq,sa,sb,sc]
  refine wo 11 kr rfl fun K hK=>?_;go_simp;refine hK.out _ _ kd ?_;clear hK K;try simp only [ap,aq,sa,sb,sc]
  clear g9 g9f;have G6:Hid (Blk (W5.setCell ⟨w.heap.size,9,none⟩ (pV gl')) w.heap.size 89 (ybu A { V with gl:=gl',lev:=u })):=G5.out.set 9 _;have g10:=G6.out.cell 10;have g10f:=G6.out.frozen 10;have gk6:=G6.out.lt;refine wo 12 kr rfl fun K hK=>?_;go_simp;refine hK.out _ _ kd ?_;clear hK K;try simp only [ap,aq,sa,sb,sc]
  refine wo 13 kr rfl fun K hK=>?_;go_simp;refine hK.out _ _ kd ?_;clear hK K;try simp only [ap,aq,sa,sb,sc]
  refine yal kr ?_ _;clear g10 g10f gk6
  go_wp2_with fail
  go_meet
  case rel=>exact ⟨rfl,yx6 HG3.out HB3.out B5.out L5.out.1 L5.out.2.1 L5.out.2.2 D5.out HOFF.out⟩
 case rest =>
  clear hsd;obtain ⟨rfl,gl,u,gb,dv,hg,hl,ho,hge,hd,hb⟩:=hcut;obtain ⟨n0,cs0,hn0,h10,h0⟩:=H.out.adj;have HBC:Hid (Below w.heap.size w wc):=HB3.out.trans hb;have HL:=lh (And.intro hl ho);have HD:=lh hd;have HG:=lh hg;have HN:=lh (And.intro hn0 h10);have HAD:Hid (wc.ownsRow lo 175 9 V.av n0 cs0):=(yah h0 HBC.out);have c17:wc.cell? ⟨g,17,none⟩=some V.av:=(H.out.below HBC.out).blk.cell 17;clear hg hl ho hge hd hb hn0 h10 h0
  go_wp2_with fail
  refine (yrf V.av n0 cs0 _ (Fl.of_own HAD.out HN.out.2) (by have:=HN.out.1;have:=HQ.out;omega)).mono ?_;rintro _ w7 ⟨av,rfl,hav,hb7⟩;obtain ⟨ao,an,ac,rfl⟩:=yka hav;have HB7:Hid (Below w.heap.size w w7):=HBC.out.trans (hb7.mono HBC.out.size);have HAV:Hid (w7.ownsRow w.heap.size 175 9 (.slice ao an ac) n0 cs0):=yco hav HBC.out.size;have HG7:=lh (HG.out.below hb7);have HL7:Hid (ybn w7 gl A.t V.ltv u A.ev∧w7.ownsRow w.heap.size 150 5 u A.ev.length (yag A.ev)):=⟨HL.out.1.below hb7,yah HL.out.2 hb7⟩;have HD7:=lh (HD.out.below hb7);have k17:=HG7.out.cell 17;have k17f:=HG7.out.frozen 17;have kl:=HG7.out.lt;clear c17 hav hb7;go_upto_region 6 with fail
  obtain ⟨W8,hW8,HG8,HK8⟩:∃W,w7.setCell ⟨w.heap.size,17,none⟩ (.slice ao an ac)=W∧Hid (Blk W w.heap.size 89 (ybu A { V with gl:=gl,lev:=u,gb:=gb,dv:=dv,av:=.slice ao an ac }))∧Hid (yab [w.heap.size] w7 W):=⟨_,rfl,HG7.out.set 17 _,(yab.refl _ _).sg _⟩
  with_reducible rw [hW8]
  clear hW8 k17 k17f kl;have HL8:=lh (yl8 HL7.out.1 HL7.out.2 HG7.out HOFF.out HK8.out);have HD8:=lh (ymi HD7.out HG7.out HK8.out)
  have HAV8:Hid (W8.ownsRow w.heap.size 175 9 (.slice ao an ac) n0 cs0):=yap HAV.out HK8.out (fun q hq hm=>by
   simp only [ms] at hm;subst hm;exact yaj HAV.out HG7.out (by decide) hq.symm)
  have HB8:Hid (Below w.heap.size w W8):=HB7.out.trans (HK8.out.to_below HB7.out.size (fun x hx=>by simp only [ms] at hx;omega));have c16:W8.cell? ⟨g,16,none⟩=some V.iv:=(H.out.below HB8.out).blk.cell 16
  go_wp2_with fail
  refine (yrg V.iv A.iss.length (yay A.iss V.ivs) _ (Fl.of_own (H.out.below HB8.out).iss (LnsS.one (H.out.below HB8.out).rd.now.2.2.2.2.2.2)) (by have h1:=HOK.out.issl;have h2:=HOK.out.outl;omega)).mono ?_;rintro _ w9 ⟨iv,rfl,hiv,hb9⟩;obtain ⟨io,inn,ic,rfl⟩:=yka hiv;have HIV:Hid (w9.ownsRow w.heap.size 43 9 (.slice io inn ic) A.iss.length (yay A.iss V.ivs)):=yco hiv HB8.out.size;have HG9:=lh (HG8.out.below hb9);have HB9:=lh hb9;have k16:=HG9.out.cell 16;have k16f:=HG9.out.frozen 16;have kl:=HG9.out.lt;clear c16 hiv hb9
  go_wp2_with fail
  go_ret
  have hk:yab [w.heap.size] w9 (w9.setCell ⟨w.heap.size,16,none⟩ (.slice io inn ic)):=(yab.refl _ _).sg _;have hB9:=HB8.out.trans (HB9.out.mono HB8.out.size);obtain ⟨l1,l2⟩:=yl8 (HL8.out.1.below HB9.out) (yah HL8.out.2 HB9.out) HG9.out HOFF.out hk
  exact yxg H.out (hB9.trans (hk.to_below hB9.size (fun x hx=>by simp only [ms] at hx;omega))) (HG9.out.set 16 _) l1 l2 (ymi (HD8.out.below HB9.out) HG9.out hk)
   (yap HIV.out hk (fun q hq hm=>by
    simp only [ms] at hm;subst hm;exact yaj HIV.out HG9.out (by decide) hq.symm))
   (yap (yah HAV8.out HB9.out) hk (fun q hq hm=>by
    simp only [ms] at hm;subst hm;exact yaj (yah HAV8.out HB9.out) HG9.out (by decide) hq.symm)) HN.out.1 HN.out.2
end Go.Proofs.YtkongpjpkpfniaaGreat

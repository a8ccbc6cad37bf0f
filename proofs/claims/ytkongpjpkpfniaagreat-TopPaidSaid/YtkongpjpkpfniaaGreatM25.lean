/- TopPaid: parts of the proof, made small by a program (mini.py). -/
import Derived.Test.YtkongpjpkpfniaaGreatM01
import Derived.Test.YtkongpjpkpfniaaGreatM05
import Derived.Test.YtkongpjpkpfniaaGreatM10
import Derived.Test.YtkongpjpkpfniaaGreatM14
import Derived.Test.YtkongpjpkpfniaaGreatM21
import Derived.Test.YtkongpjpkpfniaaGreatM24
set_option linter.unusedVariables false
set_option linter.unusedSimpArgs false
set_option maxRecDepth 100000
set_option maxHeartbeats 6400000
namespace Go.Proofs.YtkongpjpkpfniaaGreat
open Go.RowKit
theorem zq25e312 {q:Prop} (h:q:= by
 rintro _ w8 ⟨u,rfl,hown8,hk8⟩;have h1l:=yga l p x HPF.out.2.1;obtain ⟨uo,uc,rfl⟩:=(R5S.of_own hown8 h1l).shape;have hs8:=HKX.out _ _ hs7 hk8;have HO8:=lh hown8;have HK8:=lh hk8;clear hown8 hk8 h1l;refine hK.out _ _ (fun hun=>hs8) ?_;clear hK K;try simp only [ap,aq,sa,sb,sc]
 refine wo 15 kr rfl fun K hK=>?_;go_simp;refine hK.out _ _ kd ?_;clear hK K;try simp only [ap,aq,sa,sb,sc]
 refine wo 16 kr rfl fun K hK=>?_;go_simp;refine hK.out _ _ kd ?_;clear hK K;try simp only [ap,aq,sa,sb,sc]
 have HB8:Hid (Blk w8 g 125 [iV lim,.slice tao ts.length tc,iV cyc,iV dued,iV minf,iV minp,iV start,.slice eo l.length ec]):=(HB.out.below HB7.out).keep HK8.out (fun hm=>HG.out.2.2.2 (by simpa using (Option.mem_toList.1 hm).symm));have fz:w8.frozen? ⟨g,7,none⟩=false:=(HB8.out).frozen 7;have cz:=hs8.1.2.2.2.2.2.2.2;refine wo 17 kr rfl fun K hK=>?_;go_simp;refine hK.out _ _ kd ?_;clear hK K;try simp only [ap,aq,sa,sb,sc]
 refine yal kr ?_ _;clear fz cz;go_wp2
 go_ret
 have KX:yab (g::(Value.slice eo l.length ec).ownBlock.toList) w w8:=(yab.of_below HB7.out).trans HK8.out (fun y hy=>.inl (List.mem_cons_of_mem _ hy));have h1l:=yga l p x HPF.out.2.1
 have HOFF:OffF [g] (.slice uo (insL l p x).length uc):=fun b o n c e hn hm=>by
  cases e;simp only [ms] at hm;subst hm;rcases HO8.out.2 with ⟨h,_⟩ | ⟨g',cap',cur',h,hb',hg',_⟩
  ·cases h
  ·simp only [Value.slice.injEq,Option.some.injEq,Addr.mk.injEq] at h
   obtain ⟨⟨rfl,_⟩,_⟩:=h;have:=HB8.out;unfold Blk at this;rw [hg'] at this;simp at this
 refine ⟨rfl,.slice uo (insL l p x).length uc,⟨?_,?_,?_⟩,?_,?_⟩
 ·exact HB8.out.set 7 _
 ·exact ((HT.out.keep KX HPF.out.2.2)).keep ((yab.refl [g] _).setCell (.inl (by simp)) _) (HPF.out.2.2.mono (by simp))
 ·exact ((R5S.of_own HO8.out h1l)).keep ((yab.refl [g] _).setCell (.inl (by simp)) _) HOFF
 ·exact yaz HO8.out (yaj HO8.out HB8.out (by decide)) _
 ·exact KX.setCell (.inl (by simp)) _):q:=h
def Tm.rightE (t:Tm) (x:R5):Int:=ygo t.lim t.ts t.cyc t.dued t.minf t.minp t.start x.a x.b x.c x.d x.e
theorem jab (g:Nat) (t:Tm) (tv ev:Value) (l:List R5) (x:R5) (base:Nat) (r:Int) (HR:Hid (t.rightE x=r)) (hr:r≠0) (w:World) (hv:ybn w g t tv ev l) (hown:w.ownsRow base 150 5 ev l.length (yag l)) (hbase:base≤w.heap.size) (hg:base≤g) (hts:t.ts.length≤1000) (hgt:some g≠ev.ownBlock) :
 Calls Tryz.prog 115 #[pV g,.agg #[iV x.a,iV x.b,iV x.c,iV x.d,iV x.e]] w (RetB (iV r) w):= by
 obtain ⟨hB,hT,hE⟩:=hv;have HB:=lh hB;have HT:=lh hT;have HE:=lh hE;have HO:=lh hown;obtain ⟨eo,ec,rfl⟩:=hE.shape;obtain ⟨tao,tc,rfl⟩:=hT.shape;obtain ⟨lim,ts,cyc,dued,minf,minp,start⟩:=t;simp only [Tm.cells,List.cons_append,List.nil_append] at *;have HG:=lh (And.intro hbase (And.intro hg (And.intro hts hgt)));have hglt:=hB.lt;have HGLT:=lh hglt;clear hB hT hE hown hbase hg hts hgt;have hbx:Blk (w.alloc (.cells #[iV x.a,iV x.b,iV x.c,iV x.d,iV x.e] 150)) w.heap.size 150 x.cells:=yae w x.cells _ _ rfl;have HBX:=lh hbx
 have hS:∀W',Below (w.heap.size+1) (w.alloc (.cells #[iV x.a,iV x.b,iV x.c,iV x.d,iV x.e] 150)) W'→((W'.cell? ⟨g,0,none⟩=some (iV lim)∧W'.cell? ⟨g,1,none⟩=some (.slice tao ts.length tc)∧W'.cell? ⟨g,2,none⟩=some (iV cyc)∧W'.cell? ⟨g,3,none⟩=some (iV dued)∧W'.cell? ⟨g,4,none⟩=some (iV minf)∧W'.cell? ⟨g,5,none⟩=some (iV minp)∧W'.cell? ⟨g,6,none⟩=some (iV start)∧W'.cell? ⟨g,7,none⟩=some (.slice eo l.length ec))∧(W'.cell? ⟨w.heap.size,0,none⟩=some (iV x.a)∧W'.cell? ⟨w.heap.size,1,none⟩=some (iV x.b)∧W'.cell? ⟨w.heap.size,2,none⟩=some (iV x.c)∧W'.cell? ⟨w.heap.size,3,none⟩=some (iV x.d)∧W'.cell? ⟨w.heap.size,4,none⟩=some (iV x.e))):=fun W' h =>
  have q:Blk W' g _ _:=(h.block g om).trans (HB.out.below (yaa bR _));have r:Blk W' w.heap.size _ _:=(h.block w.heap.size om).trans HBX.out
  ⟨⟨q.cell 0,q.cell 1,q.cell 2,q.cell 3,q.cell 4,q.cell 5,q.cell 6,q.cell 7⟩,r.cell 0,r.cell 1,r.cell 2,r.cell 3,r.cell 4⟩
 have HS:=lh hS;clear hbx hS;have hne:(r != 0)=true:=by simp [hr]
 clear hr;simp only [Tm.rightE] at HR
 go_enter Tryz.func115,Tryz.ntmps115
 go_upto_region 3 with fail
 obtain ⟨W1,hW1,HW1,BW1⟩:∃W1,w.alloc (.cells #[iV x.a,iV x.b,iV x.c,iV x.d,iV x.e] 150)=W1∧Hid (∀W',Below W1.heap.size W1 W'→((W'.cell? ⟨g,0,none⟩=some (iV lim)∧W'.cell? ⟨g,1,none⟩=some (.slice tao ts.length tc)∧W'.cell? ⟨g,2,none⟩=some (iV cyc)∧W'.cell? ⟨g,3,none⟩=some (iV dued)∧W'.cell? ⟨g,4,none⟩=some (iV minf)∧W'.cell? ⟨g,5,none⟩=some (iV minp)∧W'.cell? ⟨g,6,none⟩=some (iV start)∧W'.cell? ⟨g,7,none⟩=some (.slice eo l.length ec))∧(W'.cell? ⟨w.heap.size,0,none⟩=some (iV x.a)∧W'.cell? ⟨w.heap.size,1,none⟩=some (iV x.b)∧W'.cell? ⟨w.heap.size,2,none⟩=some (iV x.c)∧W'.cell? ⟨w.heap.size,3,none⟩=some (iV x.d)∧W'.cell? ⟨w.heap.size,4,none⟩=some (iV x.e))))∧Hid (Below w.heap.size w W1∧W1.heap.size=w.heap.size+1) :=
  ⟨_,rfl,fun W' h=>HS.out W' (h.mono (by rw [World.size_alloc];omega)),yaa bR _,by rw [World.size_alloc]⟩
 have HBX1:Hid (Blk W1 w.heap.size 150 x.cells):=by rw [←hW1];exact HBX.out
 with_reducible rw [hW1]
 clear hW1;have hs0:=HW1.out W1 bR;have hsd:=HW1.out W1.drew (yaf bR)
 go_region_held3 (fun W'=>((W'.cell? ⟨g,0,none⟩=some (iV lim)∧W'.cell? ⟨g,1,none⟩=some (.slice tao ts.length tc)∧W'.cell? ⟨g,2,none⟩=some (iV cyc)∧W'.cell? ⟨g,3,none⟩=some (iV dued)∧W'.cell? ⟨g,4,none⟩=some (iV minf)∧W'.cell? ⟨g,5,none⟩=some (iV minp)∧W'.cell? ⟨g,6,none⟩=some (iV start)∧W'.cell? ⟨g,7,none⟩=some (.slice eo l.length ec))∧(W'.cell? ⟨w.heap.size,0,none⟩=some (iV x.a)∧W'.cell? ⟨w.heap.size,1,none⟩=some (iV x.b)∧W'.cell? ⟨w.heap.size,2,none⟩=some (iV x.c)∧W'.cell? ⟨w.heap.size,3,none⟩=some (iV x.d)∧W'.cell? ⟨w.heap.size,4,none⟩=some (iV x.e)))) (first | with_reducible exact hs0 | with_reducible exact hsd | with_reducible exact hs5 | with_reducible assumption) (first | (go_at_call 135;refine (yfm _ ts lim cyc dued minf minp start x.a x.b x.c x.d x.e r HR _ (HT.out.below (yaf BW1.out.1))).mono ?_;rintro _ w5 ⟨rfl,hb5⟩;have HB5:Hid (Below W1.heap.size W1 w5):=yad (yaf bR) hb5;have hs5:=HW1.out w5 HB5.out;clear hb5))
 all_goals
  go_wp2
  go_ret
  exact ⟨rfl,yad BW1.out.1 HB5.out⟩
theorem yxs (g:Nat) (t:Tm) (tv ev:Value) (l:List R5) (x:R5) (base:Nat) (HR:Hid (t.rightE x=0)) (hfull:2000≤l.length) (w:World) (hv:ybn w g t tv ev l) (hown:w.ownsRow base 150 5 ev l.length (yag l)) (hbase:base≤w.heap.size) (hg:base≤g) (hts:t.ts.length≤1000) (hgt:some g≠ev.ownBlock) :
 Calls Tryz.prog 115 #[pV g,.agg #[iV x.a,iV x.b,iV x.c,iV x.d,iV x.e]] w (RetB (iV 14) w):= by
 obtain ⟨hB,hT,hE⟩:=hv;have HB:=lh hB;have HT:=lh hT;have HE:=lh hE;have HO:=lh hown;obtain ⟨eo,ec,rfl⟩:=hE.shape;obtain ⟨tao,tc,rfl⟩:=hT.shape;obtain ⟨lim,ts,cyc,dued,minf,minp,start⟩:=t;simp only [Tm.cells,List.cons_append,List.nil_append] at *;have HG:=lh (And.intro hbase (And.intro hg (And.intro hts hgt)));have hglt:=hB.lt;have HGLT:=lh hglt;clear hB hT hE hown hbase hg hts hgt;have hbx:Blk (w.alloc (.cells #[iV x.a,iV x.b,iV x.c,iV x.d,iV x.e] 150)) w.heap.size 150 x.cells:=yae w x.cells _ _ rfl;have HBX:=lh hbx
 have hS:∀W',Below (w.heap.size+1) (w.alloc (.cells #[iV x.a,iV x.b,iV x.c,iV x.d,iV x.e] 150)) W'→((W'.cell? ⟨g,0,none⟩=some (iV lim)∧W'.cell? ⟨g,1,none⟩=some (.slice tao ts.length tc)∧W'.cell? ⟨g,2,none⟩=some (iV cyc)∧W'.cell? ⟨g,3,none⟩=some (iV dued)∧W'.cell? ⟨g,4,none⟩=some (iV minf)∧W'.cell? ⟨g,5,none⟩=some (iV minp)∧W'.cell? ⟨g,6,none⟩=some (iV start)∧W'.cell? ⟨g,7,none⟩=some (.slice eo l.length ec))∧(W'.cell? ⟨w.heap.size,0,none⟩=some (iV x.a)∧W'.cell? ⟨w.heap.size,1,none⟩=some (iV x.b)∧W'.cell? ⟨w.heap.size,2,none⟩=some (iV x.c)∧W'.cell? ⟨w.heap.size,3,none⟩=some (iV x.d)∧W'.cell? ⟨w.heap.size,4,none⟩=some (iV x.e))):=fun W' h =>
  have q:Blk W' g _ _:=(h.block g om).trans (HB.out.below (yaa bR _));have r:Blk W' w.heap.size _ _:=(h.block w.heap.size om).trans HBX.out
  ⟨⟨q.cell 0,q.cell 1,q.cell 2,q.cell 3,q.cell 4,q.cell 5,q.cell 6,q.cell 7⟩,r.cell 0,r.cell 1,r.cell 2,r.cell 3,r.cell 4⟩
 have HS:=lh hS;clear hbx hS;have hff:(2000:Int)≤(l.length:Int):=by omega
 obtain ⟨r,hr⟩:∃r:Int,r=0:=⟨0,rfl⟩;simp only [Tm.rightE] at HR;rw [←hr] at HR;have hr1:(r != 0)=false:=by simp [hr]
 clear hr
 go_enter Tryz.func115,Tryz.ntmps115
 go_upto_region 3 with fail
 obtain ⟨W1,hW1,HW1,BW1⟩:∃W1,w.alloc (.cells #[iV x.a,iV x.b,iV x.c,iV x.d,iV x.e] 150)=W1∧Hid (∀W',Below W1.heap.size W1 W'→((W'.cell? ⟨g,0,none⟩=some (iV lim)∧W'.cell? ⟨g,1,none⟩=some (.slice tao ts.length tc)∧W'.cell? ⟨g,2,none⟩=some (iV cyc)∧W'.cell? ⟨g,3,none⟩=some (iV dued)∧W'.cell? ⟨g,4,none⟩=some (iV minf)∧W'.cell? ⟨g,5,none⟩=some (iV minp)∧W'.cell? ⟨g,6,none⟩=some (iV start)∧W'.cell? ⟨g,7,none⟩=some (.slice eo l.length ec))∧(W'.cell? ⟨w.heap.size,0,none⟩=some (iV x.a)∧W'.cell? ⟨w.heap.size,1,none⟩=some (iV x.b)∧W'.cell? ⟨w.heap.size,2,none⟩=some (iV x.c)∧W'.cell? ⟨w.heap.size,3,none⟩=some (iV x.d)∧W'.cell? ⟨w.heap.size,4,none⟩=some (iV x.e))))∧Hid (Below w.heap.size w W1∧W1.heap.size=w.heap.size+1) :=
  ⟨_,rfl,fun W' h=>HS.out W' (h.mono (by rw [World.size_alloc];omega)),yaa bR _,by rw [World.size_alloc]⟩
 have HBX1:Hid (Blk W1 w.heap.size 150 x.cells):=by rw [←hW1];exact HBX.out
 with_reducible rw [hW1]
 clear hW1;have hs0:=HW1.out W1 bR;have hsd:=HW1.out W1.drew (yaf bR)
 go_region_held3 (fun W'=>((W'.cell? ⟨g,0,none⟩=some (iV lim)∧W'.cell? ⟨g,1,none⟩=some (.slice tao ts.length tc)∧W'.cell? ⟨g,2,none⟩=some (iV cyc)∧W'.cell? ⟨g,3,none⟩=some (iV dued)∧W'.cell? ⟨g,4,none⟩=some (iV minf)∧W'.cell? ⟨g,5,none⟩=some (iV minp)∧W'.cell? ⟨g,6,none⟩=some (iV start)∧W'.cell? ⟨g,7,none⟩=some (.slice eo l.length ec))∧(W'.cell? ⟨w.heap.size,0,none⟩=some (iV x.a)∧W'.cell? ⟨w.heap.size,1,none⟩=some (iV x.b)∧W'.cell? ⟨w.heap.size,2,none⟩=some (iV x.c)∧W'.cell? ⟨w.heap.size,3,none⟩=some (iV x.d)∧W'.cell? ⟨w.heap.size,4,none⟩=some (iV x.e)))) (first | with_reducible exact hs0 | with_reducible exact hsd | with_reducible exact hs5 | with_reducible assumption) (first | (go_at_call 135;refine (yfm _ ts lim cyc dued minf minp start x.a x.b x.c x.d x.e r HR _ (HT.out.below (yaf BW1.out.1))).mono ?_;rintro _ w5 ⟨rfl,hb5⟩;have HB5:Hid (Below W1.heap.size W1 w5):=yad (yaf bR) hb5;have hs5:=HW1.out w5 HB5.out;clear hb5))
 all_goals
  obtain ⟨⟨q0,q1,q2,q3,q4,q5,q6,q7⟩,_⟩:=hs5;go_wp2
  go_ret
  exact ⟨rfl,yad BW1.out.1 HB5.out⟩
theorem yzy (g:Nat) (t:Tm) (tv ev:Value) (l:List R5) (x:R5) (base:Nat) (HR:Hid (t.rightE x=0)) (hfull:l.length<2000) (p:Nat) (HP:Hid (ydc x.b l l.length=p)) (hpl:p≤l.length) (hgtv:OffF (g::ev.ownBlock.toList) tv) (w:World) (hv:ybn w g t tv ev l) (hown:w.ownsRow base 150 5 ev l.length (yag l)) (hbase:base≤w.heap.size) (hg:base≤g) (hts:t.ts.length≤1000) (hgt:some g≠ev.ownBlock) :
 Calls Tryz.prog 115 #[pV g,.agg #[iV x.a,iV x.b,iV x.c,iV x.d,iV x.e]] w (fun e w'=>e=.returned (iZ)∧∃u,ybn w' g t tv u (insL l p x)∧w'.ownsRow base 150 5 u (l.length+1) (yag (insL l p x))∧yab (g::ev.ownBlock.toList) w w'):= by
 obtain ⟨hB,hT,hE⟩:=hv;have HB:=lh hB;have HT:=lh hT;have HE:=lh hE;have HO:=lh hown;obtain ⟨eo,ec,rfl⟩:=hE.shape;obtain ⟨tao,tc,rfl⟩:=hT.shape;obtain ⟨lim,ts,cyc,dued,minf,minp,start⟩:=t;simp only [Tm.cells,List.cons_append,List.nil_append] at *;have HG:=lh (And.intro hbase (And.intro hg (And.intro hts hgt)));have hglt:=hB.lt;have HGLT:=lh hglt;clear hB hT hE hown hbase hg hts hgt;have hbx:Blk (w.alloc (.cells #[iV x.a,iV x.b,iV x.c,iV x.d,iV x.e] 150)) w.heap.size 150 x.cells:=yae w x.cells _ _ rfl;have HBX:=lh hbx
 have hS:∀W',Below (w.heap.size+1) (w.alloc (.cells #[iV x.a,iV x.b,iV x.c,iV x.d,iV x.e] 150)) W'→((W'.cell? ⟨g,0,none⟩=some (iV lim)∧W'.cell? ⟨g,1,none⟩=some (.slice tao ts.length tc)∧W'.cell? ⟨g,2,none⟩=some (iV cyc)∧W'.cell? ⟨g,3,none⟩=some (iV dued)∧W'.cell? ⟨g,4,none⟩=some (iV minf)∧W'.cell? ⟨g,5,none⟩=some (iV minp)∧W'.cell? ⟨g,6,none⟩=some (iV start)∧W'.cell? ⟨g,7,none⟩=some (.slice eo l.length ec))∧(W'.cell? ⟨w.heap.size,0,none⟩=some (iV x.a)∧W'.cell? ⟨w.heap.size,1,none⟩=some (iV x.b)∧W'.cell? ⟨w.heap.size,2,none⟩=some (iV x.c)∧W'.cell? ⟨w.heap.size,3,none⟩=some (iV x.d)∧W'.cell? ⟨w.heap.size,4,none⟩=some (iV x.e))):=fun W' h =>
  have q:Blk W' g _ _:=(h.block g om).trans (HB.out.below (yaa bR _));have r:Blk W' w.heap.size _ _:=(h.block w.heap.size om).trans HBX.out
  ⟨⟨q.cell 0,q.cell 1,q.cell 2,q.cell 3,q.cell 4,q.cell 5,q.cell 6,q.cell 7⟩,r.cell 0,r.cell 1,r.cell 2,r.cell 3,r.cell 4⟩
 have HS:=lh hS;clear hbx hS;have hff:¬(2000:Int)≤(l.length:Int):=by omega
 obtain ⟨r,hr⟩:∃r:Int,r=0:=⟨0,rfl⟩;simp only [Tm.rightE] at HR;rw [←hr] at HR;have hr1:(r != 0)=false:=by simp [hr]
 have HPF:=lh (And.intro hfull (And.intro hpl hgtv));have HOW:Hid (∀q,(Value.slice eo l.length ec).ownBlock=some q→q<w.heap.size∧base≤q):=fun q hq=>⟨(HO.out.lt q hq).2,(HO.out.lt q hq).1⟩;clear hr hfull hpl hgtv
 go_enter Tryz.func115,Tryz.ntmps115
 go_upto_region 3 with fail
 obtain ⟨W1,hW1,HW1,BW1⟩:∃W1,w.alloc (.cells #[iV x.a,iV x.b,iV x.c,iV x.d,iV x.e] 150)=W1∧Hid (∀W',Below W1.heap.size W1 W'→((W'.cell? ⟨g,0,none⟩=some (iV lim)∧W'.cell? ⟨g,1,none⟩=some (.slice tao ts.length tc)∧W'.cell? ⟨g,2,none⟩=some (iV cyc)∧W'.cell? ⟨g,3,none⟩=some (iV dued)∧W'.cell? ⟨g,4,none⟩=some (iV minf)∧W'.cell? ⟨g,5,none⟩=some (iV minp)∧W'.cell? ⟨g,6,none⟩=some (iV start)∧W'.cell? ⟨g,7,none⟩=some (.slice eo l.length ec))∧(W'.cell? ⟨w.heap.size,0,none⟩=some (iV x.a)∧W'.cell? ⟨w.heap.size,1,none⟩=some (iV x.b)∧W'.cell? ⟨w.heap.size,2,none⟩=some (iV x.c)∧W'.cell? ⟨w.heap.size,3,none⟩=some (iV x.d)∧W'.cell? ⟨w.heap.size,4,none⟩=some (iV x.e))))∧Hid (Below w.heap.size w W1∧W1.heap.size=w.heap.size+1) :=
  ⟨_,rfl,fun W' h=>HS.out W' (h.mono (by rw [World.size_alloc];omega)),yaa bR _,by rw [World.size_alloc]⟩
 have HBX1:Hid (Blk W1 w.heap.size 150 x.cells):=by rw [←hW1];exact HBX.out
 with_reducible rw [hW1]
 clear hW1;have hs0:=HW1.out W1 bR;have hsd:=HW1.out W1.drew (yaf bR)
 go_region_held3 (fun W'=>((W'.cell? ⟨g,0,none⟩=some (iV lim)∧W'.cell? ⟨g,1,none⟩=some (.slice tao ts.length tc)∧W'.cell? ⟨g,2,none⟩=some (iV cyc)∧W'.cell? ⟨g,3,none⟩=some (iV dued)∧W'.cell? ⟨g,4,none⟩=some (iV minf)∧W'.cell? ⟨g,5,none⟩=some (iV minp)∧W'.cell? ⟨g,6,none⟩=some (iV start)∧W'.cell? ⟨g,7,none⟩=some (.slice eo l.length ec))∧(W'.cell? ⟨w.heap.size,0,none⟩=some (iV x.a)∧W'.cell? ⟨w.heap.size,1,none⟩=some (iV x.b)∧W'.cell? ⟨w.heap.size,2,none⟩=some (iV x.c)∧W'.cell? ⟨w.heap.size,3,none⟩=some (iV x.d)∧W'.cell? ⟨w.heap.size,4,none⟩=some (iV x.e)))) (first | with_reducible exact hs0 | with_reducible exact hsd | with_reducible exact hs5 | with_reducible assumption) (first | (go_at_call 135;refine (yfm _ ts lim cyc dued minf minp start x.a x.b x.c x.d x.e r HR _ (HT.out.below (yaf BW1.out.1))).mono ?_;rintro _ w5 ⟨rfl,hb5⟩;have HB5:Hid (Below W1.heap.size W1 w5):=yad (yaf bR) hb5;have hs5:=HW1.out w5 HB5.out;clear hb5))
 all_goals
  have HKX:Hid (∀W W',(((W.cell? ⟨g,0,none⟩=some (iV lim)∧W.cell? ⟨g,1,none⟩=some (.slice tao ts.length tc)∧W.cell? ⟨g,2,none⟩=some (iV cyc)∧W.cell? ⟨g,3,none⟩=some (iV dued)∧W.cell? ⟨g,4,none⟩=some (iV minf)∧W.cell? ⟨g,5,none⟩=some (iV minp)∧W.cell? ⟨g,6,none⟩=some (iV start)∧W.cell? ⟨g,7,none⟩=some (.slice eo l.length ec))∧(W.cell? ⟨w.heap.size,0,none⟩=some (iV x.a)∧W.cell? ⟨w.heap.size,1,none⟩=some (iV x.b)∧W.cell? ⟨w.heap.size,2,none⟩=some (iV x.c)∧W.cell? ⟨w.heap.size,3,none⟩=some (iV x.d)∧W.cell? ⟨w.heap.size,4,none⟩=some (iV x.e))))→yab (Value.slice eo l.length ec).ownBlock.toList W W'→(((W'.cell? ⟨g,0,none⟩=some (iV lim)∧W'.cell? ⟨g,1,none⟩=some (.slice tao ts.length tc)∧W'.cell? ⟨g,2,none⟩=some (iV cyc)∧W'.cell? ⟨g,3,none⟩=some (iV dued)∧W'.cell? ⟨g,4,none⟩=some (iV minf)∧W'.cell? ⟨g,5,none⟩=some (iV minp)∧W'.cell? ⟨g,6,none⟩=some (iV start)∧W'.cell? ⟨g,7,none⟩=some (.slice eo l.length ec))∧(W'.cell? ⟨w.heap.size,0,none⟩=some (iV x.a)∧W'.cell? ⟨w.heap.size,1,none⟩=some (iV x.b)∧W'.cell? ⟨w.heap.size,2,none⟩=some (iV x.c)∧W'.cell? ⟨w.heap.size,3,none⟩=some (iV x.d)∧W'.cell? ⟨w.heap.size,4,none⟩=some (iV x.e))))):= by
   intro W W' h hk;have n1:g∉(Value.slice eo l.length ec).ownBlock.toList:=fun hm=>HG.out.2.2.2 (by simpa using (Option.mem_toList.1 hm).symm);have n2:w.heap.size∉(Value.slice eo l.length ec).ownBlock.toList:=fun hm=>by have:=(HOW.out _ (Option.mem_toList.1 hm)).1;omega
   obtain ⟨⟨q0,q1,q2,q3,q4,q5,q6,q7⟩,r0,r1,r2,r3,r4⟩:=h;exact ⟨⟨hk.cell q0 n1,hk.cell q1 n1,hk.cell q2 n1,hk.cell q3 n1,hk.cell q4 n1,hk.cell q5 n1,hk.cell q6 n1,hk.cell q7 n1⟩,hk.cell r0 n2,hk.cell r1 n2,hk.cell r2 n2,hk.cell r3 n2,hk.cell r4 n2⟩
  have HW5:Hid (∀W',Below w5.heap.size w5 W'→((W'.cell? ⟨g,0,none⟩=some (iV lim)∧W'.cell? ⟨g,1,none⟩=some (.slice tao ts.length tc)∧W'.cell? ⟨g,2,none⟩=some (iV cyc)∧W'.cell? ⟨g,3,none⟩=some (iV dued)∧W'.cell? ⟨g,4,none⟩=some (iV minf)∧W'.cell? ⟨g,5,none⟩=some (iV minp)∧W'.cell? ⟨g,6,none⟩=some (iV start)∧W'.cell? ⟨g,7,none⟩=some (.slice eo l.length ec))∧(W'.cell? ⟨w.heap.size,0,none⟩=some (iV x.a)∧W'.cell? ⟨w.heap.size,1,none⟩=some (iV x.b)∧W'.cell? ⟨w.heap.size,2,none⟩=some (iV x.c)∧W'.cell? ⟨w.heap.size,3,none⟩=some (iV x.d)∧W'.cell? ⟨w.heap.size,4,none⟩=some (iV x.e)))):=fun W' h=>HW1.out W' (yad HB5.out h);have hq:=hs5;obtain ⟨⟨q0,q1,q2,q3,q4,q5,q6,q7⟩,_⟩:=hq;go_upto_region 8 with fail
  clear q0 q1 q2 q3 q4 q5 q6 q7;have hs5d:=HW5.out w5.drew (yaf bR);refine yan (fun W'=>((W'.cell? ⟨g,0,none⟩=some (iV lim)∧W'.cell? ⟨g,1,none⟩=some (.slice tao ts.length tc)∧W'.cell? ⟨g,2,none⟩=some (iV cyc)∧W'.cell? ⟨g,3,none⟩=some (iV dued)∧W'.cell? ⟨g,4,none⟩=some (iV minf)∧W'.cell? ⟨g,5,none⟩=some (iV minp)∧W'.cell? ⟨g,6,none⟩=some (iV start)∧W'.cell? ⟨g,7,none⟩=some (.slice eo l.length ec))∧(W'.cell? ⟨w.heap.size,0,none⟩=some (iV x.a)∧W'.cell? ⟨w.heap.size,1,none⟩=some (iV x.b)∧W'.cell? ⟨w.heap.size,2,none⟩=some (iV x.c)∧W'.cell? ⟨w.heap.size,3,none⟩=some (iV x.d)∧W'.cell? ⟨w.heap.size,4,none⟩=some (iV x.e)))) 15 kr ?_;refine tk 0 rfl kr ke rfl kv ka kp ?_;refine tk 1 rfl kr ke rfl kv ka kp ?_;refine tk 2 rfl kr ke rfl kv ka kp ?_;refine tk 3 rfl kr ke rfl kv ka kp ?_;refine tk 4 rfl kr ke rfl kv ka kp ?_;refine tk 5 rfl kr ke rfl kv ka kp ?_;refine tk 6 rfl kr ke rfl kv ka kp ?_;refine tk 7 rfl kr ke rfl kv ka kp ?_;refine tk 8 rfl kr ke rfl kv ka kp ?_;refine tk 9 rfl kr ke rfl kv ka kp ?_;refine tk 10 rfl kr ke rfl kv ka kp ?_;refine tk 12 rfl kr ke rfl kv ka kp ?_;refine ybo (rs:=[11,13]) kr (by simp) ?_;refine yam.cons (o:=⟨_,_,_,_,_,_⟩) rfl (fun K hK=>?_) (yam.cons (o:=⟨_,_,_,_,_,_⟩) rfl (fun K hK=>?_) yam.nil)
  ·have HBD:Hid (Below w5.heap.size w5 w5.drew):=yaf bR
   go_simp;refine (yna _ l x.b p HP _ (HE.out.below (by first | exact yad BW1.out.1 (yad HB5.out HBD.out)))).mono ?_;rintro _ w6 ⟨rfl,hb6⟩;have HB6:Hid (Below w5.heap.size w5 w6):=yad (yaf bR) hb6;clear hb6;refine hK.out _ _ (fun hun=>HW5.out w6 HB6.out) ?_;clear hK K;try simp only [ap,aq,sa,sb,sc]
   refine wo 13 kr rfl fun K hK=>?_;go_simp;refine hK.out _ _ (fun hun=>HW5.out _ (yaa HB6.out _)) ?_;clear hK K;try simp only [ap,aq,sa,sb,sc]
   obtain ⟨W7,hW7,HB7,HX7,HV7,hs7⟩:∃W7,w6.alloc (.cells #[iV x.a,iV x.b,iV x.c,iV x.d,iV x.e] 150)=W7∧Hid (Below w.heap.size w W7)∧Hid (Blk W7 w6.heap.size 150 x.cells)∧Hid (w.heap.size≤w6.heap.size)∧(((W7.cell? ⟨g,0,none⟩=some (iV lim)∧W7.cell? ⟨g,1,none⟩=some (.slice tao ts.length tc)∧W7.cell? ⟨g,2,none⟩=some (iV cyc)∧W7.cell? ⟨g,3,none⟩=some (iV dued)∧W7.cell? ⟨g,4,none⟩=some (iV minf)∧W7.cell? ⟨g,5,none⟩=some (iV minp)∧W7.cell? ⟨g,6,none⟩=some (iV start)∧W7.cell? ⟨g,7,none⟩=some (.slice eo l.length ec))∧(W7.cell? ⟨w.heap.size,0,none⟩=some (iV x.a)∧W7.cell? ⟨w.heap.size,1,none⟩=some (iV x.b)∧W7.cell? ⟨w.heap.size,2,none⟩=some (iV x.c)∧W7.cell? ⟨w.heap.size,3,none⟩=some (iV x.d)∧W7.cell? ⟨w.heap.size,4,none⟩=some (iV x.e)))):=⟨_,rfl,yaa (yad (yad BW1.out.1 HB5.out) HB6.out) _,yae w6 x.cells _ _ rfl,by have:=BW1.out.1.size;have:=HB5.out.size;have:=HB6.out.size;show _≤_;omega,HW5.out _ (yaa HB6.out _)⟩
   with_reducible rw [hW7]
   obtain ⟨VB,hVB⟩:∃VB,w6.heap.size=VB:=⟨_,rfl⟩
   with_reducible rw [hVB]
   rw [hVB] at HX7 HV7;clear hW7 hVB;refine wo 14 kr rfl fun K hK=>?_;go_simp;refine (yld (.slice eo l.length ec) l x p base VB W7 (yah HO.out HB7.out) (by have:=HB7.out.size;have:=HG.out.1;omega) HX7.out (fun e=>by have:=(HOW.out _ e.symm).1;have:=HV7.out;omega) HPF.out.2.1 (by have:=HPF.out.1;omega)).mono ?_;exact zq25e312
  ·go_simp
   refine hK.out _ _ (fun hun=>HW5.out _ (yaa (yaf bR) _)) ?_;clear hK K;try simp only [ap,aq,sa,sb,sc]
   refine wo 11 kr rfl fun K hK=>?_;have HBD:Hid (Below w5.heap.size w5 (w5.drew.alloc (.cells #[iV x.a,iV x.b,iV x.c,iV x.d,iV x.e] 150))):=yaa (yaf bR) _;have HN7:Hid (Blk (w5.drew.alloc (.cells #[iV x.a,iV x.b,iV x.c,iV x.d,iV x.e] 150)) w5.heap.size 150 x.cells):=yae w5.drew x.cells _ _ rfl;go_simp;refine (yna _ l x.b p HP _ (HE.out.below (by first | exact yad BW1.out.1 (yad HB5.out HBD.out)))).mono ?_;rintro _ w6 ⟨rfl,hb6⟩;have HB6:Hid (Below w5.heap.size w5 w6):=yad HBD.out hb6;have HX6:=lh (HN7.out.below hb6);clear hb6;refine hK.out _ _ (fun hun=>HW5.out w6 HB6.out) ?_;clear hK K;try simp only [ap,aq,sa,sb,sc]
   have HB7:Hid (Below w.heap.size w w6):=yad (yad BW1.out.1 HB5.out) HB6.out;have hs7:=HW5.out w6 HB6.out;obtain ⟨VB,hVB⟩:∃VB,w5.heap.size=VB:=⟨_,rfl⟩
   with_reducible rw [hVB]
   have HX7:Hid (Blk w6 VB 150 x.cells):=by rw [←hVB];exact HX6.out
   have HV7:Hid (w.heap.size≤VB):=by rw [←hVB];have:=BW1.out.1.size;have:=HB5.out.size;show _≤_;omega
   clear hVB;refine wo 14 kr rfl fun K hK=>?_;go_simp;refine (yld (.slice eo l.length ec) l x p base VB w6 (yah HO.out HB7.out) (by have:=HB7.out.size;have:=HG.out.1;omega) HX7.out (fun e=>by have:=(HOW.out _ e.symm).1;have:=HV7.out;omega) HPF.out.2.1 (by have:=HPF.out.1;omega)).mono ?_;exact zq25e312
structure Ps where
 bs:List Int
 c:Int
 d:Int
structure St where
 n:Int
 fr:Int
 til:Int
 du:Int
 ls:List (Int×Int×Int)
 tot:Int
 cr:Int
 mn:Int
 g:Bool
def ps0:Ps:=⟨[],0,0⟩
def psOf (s:List Int×Int×Int×Int):Ps:=⟨s.1,s.2.1,s.2.2.1⟩
def mayA (p:Ps) (rs:List Int) (x:R5):Bool :=
 yat p.bs p.c p.d && (rs.length == p.bs.length) && !rs.any ybg && (decide (1≤x.a) && decide (x.a≤6)) && (x.a == 2 || (decide (1≤x.c) && decide (x.c≤(rs.length:Int)))) && (x.a != 6 || (decide (0≤x.d) && decide (x.d≤10000000)))
def posS (p:Ps) (rs:List Int) (x:R5):List Int×Int×Int×Int :=
 if x.a=1∨x.a=5 then yh2 p.bs p.c p.d x.c x.d
 else if x.a=2 then payS p.bs p.c p.d rs x.d
 else if x.a=3∨x.a=4 then ytl p.bs p.c p.d rs x.c x.d
 else (p.bs,p.c,p.d,0)
def yjc (rs:List Int) (x:R5):List Int:=if x.a=6 then rs.set (x.c-1).toNat x.d else rs
def ybi (p:Ps) (rs:List Int) (x:R5):Ps×List Int×Int :=
 if mayA p rs x=false then (ps0,[],1)
 else if (posS p rs x).2.2.2≠0 then (ps0,[],(posS p rs x).2.2.2)
 else (psOf (posS p rs x),yjc rs x,0)
def yo2 (t:Tm):List R5→Int
 | []=>0
 | x::l=>if t.rightE x≠0 then t.rightE x else yo2 t l
noncomputable def yiz (t:Tm) (l:List R5) (today:Int):Int :=
 if t.right=false then 6
 else if yo2 t l≠0 then yo2 t l
 else if 2000<l.length then 14
 else if today<t.start∨2932896<today then 10
 else if (ofS t.start t.cyc today).2≠0 then 10
 else if l.any (fun x=>decide (today<x.b))=true then 10
 else 0
structure RS where
 at':Nat
 p:Ps
 rs:List Int
 X:List (List Int)
 Y:List (List Int)
 out:List St
def evS (l:List R5) (day:Int):Nat→Nat→Ps→List Int→Nat×Ps×List Int×Int
 | 0,k,p,rs=>(k,p,rs,0)
 | n+1,k,p,rs =>
  if (l.getD k yax).b=day then
   if (ybi p rs (l.getD k yax)).2.2≠0 then (k,p,rs,(ybi p rs (l.getD k yax)).2.2)
   else evS l day n (k+1) (ybi p rs (l.getD k yax)).1 (ybi p rs (l.getD k yax)).2.1
  else (k,p,rs,0)
def ye8 (X:List (List Int)) (v:List Int):List (List Int):=(List.range X.length).map fun k=>X.getD k []++[v.getD k 0]
def yet (l:List R5) (out:List St) (fr:Int):Bool×Int :=
 match out.getLast? with
 | none=>(true,0)
 | some s=>hasR s.tot fr s.du l
def ycd (t:Tm) (n fr til:Int) (p:Ps) (rs ns:List Int) (g:Bool):Option St×Ps×Int :=
 if t.right=false then (none,ps0,6)
 else if yix t.ts.length n fr til p.bs.length rs.length=false then (none,ps0,1)
 else if rs.any ybg=true then (none,ps0,1)
 else if (ye7 p.bs p.c p.d ns).2.2.2≠0 then (none,ps0,(ye7 p.bs p.c p.d ns).2.2.2)
 else
  let q:=psOf (ye7 p.bs p.c p.d ns)
  let tot:=yb4 q.bs q.c q.d
  let mn:=(ygx t.right t.minf t.minp tot).1
  (some ⟨n,fr,til,til+t.dued,zip3 q.bs ns rs,tot,q.c,mn,g⟩,⟨q.bs,q.c,mn⟩,0)
def ydn (t:Tm) (l:List R5) (fr til:Int) (s:RS):RS×Int :=
 if (yet l s.out fr).2≠0 then (s,(yet l s.out fr).2)
 else if (intS t.right t.ts s.X s.Y (yet l s.out fr).1).2≠0 then (s,(intS t.right t.ts s.X s.Y (yet l s.out fr).1).2)
 else
  match ycd t ((s.out.length:Int)+1) fr til s.p s.rs (intS t.right t.ts s.X s.Y (yet l s.out fr).1).1 (yet l s.out fr).1 with
  | (some x,q,_)=>({ s with p:=q,X:=List.replicate t.ts.length [],Y:=List.replicate t.ts.length [],out:=s.out++[x] },0)
  | (none,_,e)=>(s,e)
def ybh (l:List R5) (day:Int) (s:RS):RS×Int :=
 let r:=evS l day (l.length-s.at') s.at' s.p s.rs
 ({ s with at':=r.1,p:=r.2.1,rs:=r.2.2.1 },r.2.2.2)
def ydh (s:RS):RS:={ s with X:=ye8 s.X s.p.bs,Y:=ye8 s.Y s.rs }
def ybb (t:Tm) (l:List R5) (ps:List (Int×Int)) (day:Int) (s:RS):RS×Int :=
 if (ps.getD s.out.length (0,0)).2=day then ydn t l (ps.getD s.out.length (0,0)).1 day (ydh s) else (ydh s,0)
def ycm (t:Tm) (l:List R5) (ps:List (Int×Int)):Nat→Int→RS→RS×Int
 | 0,day,s=>ybh l day s
 | k+1,day,s =>
  if (ybh l day s).2≠0 then ybh l day s
  else if (ybb t l ps day (ybh l day s).1).2≠0 then ybb t l ps day (ybh l day s).1
  else ycm t l ps k (day+1) (ybb t l ps day (ybh l day s).1).1
def rs0 (t:Tm):RS:=⟨0,⟨List.replicate t.ts.length 0,0,0⟩,t.ts.map (·.1),List.replicate t.ts.length [],List.replicate t.ts.length [],[]⟩
noncomputable def goS (t:Tm) (l:List R5) (today:Int):RS×Int:=ycm t l (ybd t.cyc today 300 t.start).1 (today-t.start).toNat t.start (rs0 t)
structure Rn where
 p:Ps
 rs:List Int
 out:List St
 e:Int
def rn0 (e:Int):Rn:=⟨ps0,[],[],e⟩
noncomputable def runS (t:Tm) (l:List R5) (today:Int):Rn :=
 if yiz t l today≠0 then rn0 (yiz t l today)
 else if (goS t l today).2≠0 then rn0 (goS t l today).2
 else ⟨(goS t l today).1.p,(goS t l today).1.rs,(goS t l today).1.out,0⟩
end Go.Proofs.YtkongpjpkpfniaaGreat

/- TopTicks: parts of the proof, made small by a program (mini.py). -/
import Derived.Test.YtkongpjpkpfniaaGreatT01
import Derived.Test.YtkongpjpkpfniaaGreatT09
import Derived.Test.YtkongpjpkpfniaaGreatT13
set_option linter.unusedVariables false
set_option linter.unusedSimpArgs false
set_option maxRecDepth 100000
set_option maxHeartbeats 6400000
namespace Go.Proofs.YtkongpjpkpfniaaGreat
open Go.RowKit
theorem zq157027 {q:Prop} (h:q:= by
 intro c hc;simp only [ycq,List.mem_flatMap,List.mem_cons,List.not_mem_nil,or_false] at hc;obtain ⟨x,_,rfl | rfl | rfl⟩:=hc <;> rfl):q:=h
theorem zq1575a5 {q:Prop} (h:q:= by
 subst hkm;have hlt:¬(k:Int)<(k:Int):=by omega
 clear hkb;have f7:=F7.out
 go_wp2_with fail
 refine (IH.out _ (HV.out.below HBW.out)).mono ?_;rintro _ w9 ⟨rfl,hb9⟩;have HBF:=lh (yad HBW.out hb9);clear hb9;go_wp2
 go_end0
 exact ⟨rfl,HBF.out⟩):q:=h
theorem zq15b02f {q:Prop} (h:q:= by
 obtain ⟨s,hs⟩:∃s,k+m=s:=⟨_,rfl⟩;obtain ⟨h,hh⟩:∃h,s/2=h:=⟨_,rfl⟩;obtain ⟨pc,hpc⟩:∃pc,p-h=pc:=⟨_,rfl⟩;have HH:=lh (And.intro hs (And.intro hh (And.intro hkb hpc)));have hlt:(k:Int)<(m:Int):=by omega
 have hpl:(pc:Int)<(l.length:Int):=by have:=HAB.out;have:=HK.out;have:=HP.out;omega
 have hhl:(h:Int)<(l.length:Int):=by have:=HAB.out;have:=HK.out;omega
 have hsb:s<=1000000:=by have:=HAB.out;have:=HK.out;have:=HN.out;omega
 have hhb:h<=1000000:=by omega
 have hph:h<=p:=by have:=HAB.out;have:=HK.out;have:=HP.out;omega
 have hpb:p<=1000000:=by have:=HAB.out;have:=HP.out;have:=HN.out;omega
 clear hkb;obtain ⟨bb,o,x,rfl,⟨c0,c1,c2,c3,c4⟩,HX⟩:=(HV.out.below HBW.out).get (i:=pc) (by have:=HAB.out;have:=HK.out;have:=HH.out;have:=HP.out;omega);obtain ⟨bb',o',y,e,⟨d0,d1,d2,d3,d4⟩,HY⟩:=(HV.out.below HBW.out).get (i:=h) (by have:=HAB.out;have:=HK.out;have:=HH.out;have:=HP.out;omega);cases e;obtain ⟨r,hr,hr0⟩:=yjs HA.out (i:=h) (j:=pc) (by have:=HAB.out;have:=HK.out;have:=HH.out;have:=HP.out;omega) (by have:=HAB.out;have:=HK.out;have:=HH.out;have:=HP.out;omega) HX.out HY.out;have HRR:=lh hr
 have hS:∀W',BW wr W'->(Ce W' bb (o+pc*5) (iV x.a)/\Ce W' bb (o+pc*5+1) (iV x.b)/\Ce W' bb (o+pc*5+2) (iV x.c)/\Ce W' bb (o+pc*5+3) (iV x.d)/\Ce W' bb (o+pc*5+4) (iV x.e)/\Ce W' bb (o+h*5) (iV y.a)/\Ce W' bb (o+h*5+1) (iV y.b)/\Ce W' bb (o+h*5+2) (iV y.c)/\Ce W' bb (o+h*5+3) (iV y.d)/\Ce W' bb (o+h*5+4) (iV y.e)):=fun W' h =>
  have q:=El.below ⟨c0,c1,c2,c3,c4⟩ h;have q':=El.below ⟨d0,d1,d2,d3,d4⟩ h
  ⟨q.1,q.2.1,q.2.2.1,q.2.2.2.1,q.2.2.2.2,q'.1,q'.2.1,q'.2.2.1,q'.2.2.2.1,q'.2.2.2.2⟩
 have HS:=lh hS;clear hS hr c0 c1 c2 c3 c4 d0 d1 d2 d3 d4;obtain ⟨e1,e2,e3⟩:=ypt hs hh hsb;have e4:wrap64 ((h:Int)+1)=((h+1:Nat):Int):=yo7 hhb;have e5:IntKind.i64.wrap ((p:Int)-(h:Int))=(pc:Int):=jaq hph hpc hpb;clear hs hh hsb hhb hph hpc hpb;go_upto_region 35 with fail
 have hs0:=HS.out _ bR;have hsd:=HS.out _ (yaf bR)
 go_region_held3 (fun W'=>Ce W' bb (o+pc*5) (iV x.a)/\Ce W' bb (o+pc*5+1) (iV x.b)/\Ce W' bb (o+pc*5+2) (iV x.c)/\Ce W' bb (o+pc*5+3) (iV x.d)/\Ce W' bb (o+pc*5+4) (iV x.e)/\Ce W' bb (o+h*5) (iV y.a)/\Ce W' bb (o+h*5+1) (iV y.b)/\Ce W' bb (o+h*5+2) (iV y.c)/\Ce W' bb (o+h*5+3) (iV y.d)/\Ce W' bb (o+h*5+4) (iV y.e)) (first | with_reducible exact hs0 | with_reducible exact hsd | with_reducible exact hs5 | with_reducible assumption) (first | (go_at_call 134;refine (yg8 x y r HRR _).mono ?_;rintro _ w5 ⟨rfl,hb5⟩;have HB5:Hid (BW wr w5):=yad (yaf bR) hb5;have hs5:=HS.out w5 HB5.out;clear hb5))
 have HB6:=lh (yad HBW.out HB5.out);clear hs0 hsd hs5;clear e1 e2 e3 e5
 go_wp2_with fail
 any_goals (exfalso;rename_i hbad;simp at hbad;omega)
 go_roundg (m-(h+1))
 case measure=>have:=HH.out;have:=HK.out;omega
 case rel=>exact ⟨h+1,by first | rfl | simp only [e4],rfl,lh ⟨by have:=HH.out;have:=HK.out;omega,by have:=HH.out;have:=HK.out;omega,rfl⟩,HB6.out⟩):q:=h
structure Tm where
 lim:Int
 ts:List (Int×Bool)
 cyc:Int
 dued:Int
 minf:Int
 minp:Int
 start:Int
def Tm.cells (t:Tm) (v:Value):List Value:=[iV t.lim,v,iV t.cyc,iV t.dued,iV t.minf,iV t.minp,iV t.start]
def Tm.right (t:Tm):Bool:=yaw t.lim t.ts t.cyc t.dued t.minf t.minp t.start
def yck (l:List (Int×Bool)):List Value:=l.flatMap fun x=>[iV x.1,.bool x.2]
theorem yei (l:List (Int×Bool)):∀c∈yck l,c.oneCell'=true:= by
 intro c hc;simp only [yck,List.mem_flatMap,List.mem_cons,List.not_mem_nil,or_false] at hc;obtain ⟨x,_,rfl | rfl⟩:=hc <;> rfl
theorem yk6 (l:List (Int×Bool)):(yck l).length=l.length*2:= by
 induction l with
 | nil=>rfl
 | cons x l ih =>
  have e:yck (x::l)=iV x.1::.bool x.2::yck l:=rfl;rw [e];simp only [List.length_cons,ih];omega
theorem ykv (l:List (Int×Bool)) (i:Nat) (hi:i<l.length):(yck l)[i*2]?=some (iV (l.getD i (0,false)).1)/\(yck l)[i*2+1]?=some (.bool (l.getD i (0,false)).2):= by
 induction l generalizing i with
 | nil=>simp at hi
 | cons x l ih =>
  have e:yck (x::l)=iV x.1::.bool x.2::yck l:=rfl;rw [e];cases i with
  | zero=>simp
  | succ i =>
   have h:=ih i (by simpa using hi);have e1:(i+1)*2=i*2+1+1:=by omega
   rw [e1]
   simpa using h
theorem TrS.fl {w:World} {v:Value} {l:List (Int×Bool)} (h:TrS w v l):Fl 2 l.length w v (yck l):= by
 obtain ⟨ao,cap,rfl,h1,h2,h3⟩:=h;refine ⟨yk6 l,yei l,ao,cap,rfl,h1,h2,fun hx=>?_⟩;obtain ⟨b,o,rfl,hc⟩:=h3 (by intro e;subst e;simp at hx);refine ⟨b,o,rfl,fun i hi=>?_⟩;obtain ⟨h4,h5⟩:=hc (i/2) om;obtain ⟨h6,h7⟩:=ykv l (i/2) om;rcases Nat.mod_two_eq_zero_or_one i with e | e
 ·have e2:i=i/2*2:=by omega
  rw [e2,h4,h6]
 ·have e2:i=i/2*2+1:=by omega
  rw [e2,<-Nat.add_assoc,h5,h7]
theorem TrS.of_fl {w:World} {v:Value} {l:List (Int×Bool)} (h:Fl 2 l.length w v (yck l)):TrS w v l:= by
 obtain ⟨_,_,ao,cap,rfl,h1,h2,h3⟩:=h;refine ⟨ao,cap,rfl,h1,h2,fun hx=>?_⟩;obtain ⟨b,o,rfl,hc⟩:=h3 (List.length_pos_iff.2 hx);refine ⟨b,o,rfl,fun i hi=>?_⟩;obtain ⟨h6,h7⟩:=ykv l i hi;exact ⟨(hc (i*2) om).trans h6,by rw [Nat.add_assoc];exact (hc (i*2+1) om).trans h7⟩
theorem TrS.keep {F:List Nat} {w w':World} {v:Value} {l:List (Int×Bool)} (h:TrS w v l) (hk:yab F w w') (ho:OffF F v):TrS w' v l:=TrS.of_fl (Fl.keep h.fl hk ho)
theorem TrS.shape {w:World} {v:Value} {l:List (Int×Bool)} (h:TrS w v l):∃ao cap,v=.slice ao l.length cap:= by
 obtain ⟨ao,cap,rfl,_⟩:=h;exact ⟨ao,cap,rfl⟩
theorem yio (v:Value) (l:List (Int×Bool)) (w:World) (hv:TrS w v l) (hn:l.length<=100000) :
 Calls Tryz.prog 28 #[v] w (fun e w'=>∃u,e=.returned u/\TrS w' u l/\Fr w u/\BW w w') :=
 (yri v l.length (yck l) w hv.fl hn).mono fun e w' ⟨u,he,ho,hb⟩=>⟨u,he,TrS.of_fl (Fl.of_own ho (yei l)),fun b o n c ev _=>ya1 ho b o n c ev,hb⟩
theorem LnS.fl {w:World} {v:Value} {l:List (Int×Int×Int)} (h:LnS w v l):Fl 3 l.length w v (ycq l):= by
 obtain ⟨ao,cap,rfl,h1,h2,h3⟩:=h;refine ⟨yhj l,?_,ao,cap,rfl,h1,h2,fun hx=>?_⟩
 ·exact zq157027
 obtain ⟨b,o,rfl,hc⟩:=h3 (by intro e;subst e;simp at hx);refine ⟨b,o,rfl,fun i hi=>?_⟩;obtain ⟨h4,h5,h5'⟩:=hc (i/3) om;obtain ⟨h6,h7,h7'⟩:=yh4 l (i/3) om;have hm:i%3=0\/i%3=1\/i%3=2:=by omega
 rcases hm with e | e | e
 ·have e2:i=i/3*3:=by omega
  rw [e2,h4,h6]
 ·have e2:i=i/3*3+1:=by omega
  rw [e2,<-Nat.add_assoc,h5,h7]
 ·have e2:i=i/3*3+2:=by omega
  rw [e2,<-Nat.add_assoc,h5',h7']
theorem LnS.of_fl {w:World} {v:Value} {l:List (Int×Int×Int)} (h:Fl 3 l.length w v (ycq l)):LnS w v l:= by
 obtain ⟨_,_,ao,cap,rfl,h1,h2,h3⟩:=h;refine ⟨ao,cap,rfl,h1,h2,fun hx=>?_⟩;obtain ⟨b,o,rfl,hc⟩:=h3 (List.length_pos_iff.2 hx);refine ⟨b,o,rfl,fun i hi=>?_⟩;obtain ⟨h6,h7,h8⟩:=yh4 l i hi;exact ⟨(hc (i*3) om).trans h6,by rw [Nat.add_assoc];exact (hc (i*3+1) om).trans h7,by rw [Nat.add_assoc];exact (hc (i*3+2) om).trans h8⟩
theorem LnS.keep {F:List Nat} {w w':World} {v:Value} {l:List (Int×Int×Int)} (h:LnS w v l) (hk:yab F w w') (ho:OffF F v):LnS w' v l:=LnS.of_fl (Fl.keep h.fl hk ho)
theorem ytg (l:List (Int×Int×Int)):∀c∈ycq l,c.oneCell'=true:= by
 exact zq157027
theorem yol (v:Value) (l:List (Int×Int×Int)) (w:World) (hv:LnS w v l) (hn:l.length<=100000) :
 Calls Tryz.prog 80 #[v] w (fun e w'=>∃u,e=.returned u/\LnS w' u l/\Fr w u/\BW w w') :=
 (ypb v l.length (ycq l) w hv.fl hn).mono fun e w' ⟨u,he,ho,hb⟩=>⟨u,he,LnS.of_fl (Fl.of_own ho (ytg l)),fun b o n c ev _=>ya1 ho b o n c ev,hb⟩
theorem yg1 (v:Value) (l:List R5) (w:World) (hv:R5S w v l) (hn:l.length<=100000) :
 Calls Tryz.prog 130 #[v] w (fun e w'=>∃u,e=.returned u/\w'.ownsRow w.heap.size 150 5 u l.length (yag l)/\BW w w') :=
 (ypp v l.length (yag l) w hv hn).mono fun e w' ⟨u,he,ho,hb⟩=>⟨u,he,ho,hb⟩
theorem yij (v:Value) (l:List R5) (w:World) (hv:R5S w v l) (hn:l.length<=100000) :
 Calls Tryz.prog 68 #[v] w (fun e w'=>∃u,e=.returned u/\w'.ownsRow w.heap.size 155 5 u l.length (yag l)/\BW w w') :=
 (yqf v l.length (yag l) w hv hn).mono fun e w' ⟨u,he,ho,hb⟩=>⟨u,he,ho,hb⟩
def ybn (w:World) (g:Nat) (t:Tm) (tv ev:Value) (l:List R5):Prop :=
 Blk w g 125 (t.cells tv++[ev])/\TrS w tv t.ts/\R5S w ev l
theorem ybn.below {w w':World} {g:Nat} {t:Tm} {tv ev:Value} {l:List R5} (h:ybn w g t tv ev l) (hb:BW w w'):ybn w' g t tv ev l :=
 ⟨h.1.below hb,h.2.1.below hb,h.2.2.below hb⟩
theorem ybn.keep {F:List Nat} {w w':World} {g:Nat} {t:Tm} {tv ev:Value} {l:List R5} (h:ybn w g t tv ev l) (hk:yab F w w') (h1:g∉F) (h2:OffF F tv) (h3:OffF F ev):ybn w' g t tv ev l :=
 ⟨h.1.keep hk h1,h.2.1.keep hk h2,h.2.2.keep hk h3⟩
def yzi:Option Value->Nat
 | some (.int _ x)=>x.toNat
 | _=>0
theorem jad (k:Nat):yzi (some (iV (k:Int)))<yzi (some (iV ((k+1:Nat):Int))):= by
 show (k:Int).toNat<((k+1:Nat):Int).toNat;omega
theorem yn9 (t:Tm) (tv:Value) (w:World) (hv:TrS w tv t.ts) (hn:t.ts.length<=1000) :
 Calls Tryz.prog 29 #[.agg (t.cells tv).toArray] w (fun e w'=>∃g u,e=.returned (pV g)/\ybn w' g t u (sZ) []/\w.heap.size<=g/\Fr w u/\BW w w'):= by
 have HV:=lh hv;obtain ⟨tao,tc,rfl⟩:=hv.shape;clear hv;obtain ⟨lim,ts,cyc,dued,minf,minp,start⟩:=t;simp only [Tm.cells] at *
 go_enter Tryz.func29,Tryz.ntmps29
 go_wp2_with fail
 refine (yio _ ts _ (HV.out.below (yaa bR _)) om).mono ?_;rintro _ w2 ⟨u,rfl,ht,hf,hb⟩;obtain ⟨uo,uc,rfl⟩:=ht.shape;have HT:=lh ht;have HF:=lh hf;have HB:=lh hb;have HBX:=lh ((yae w [iV lim,.slice tao ts.length tc,iV cyc,iV dued,iV minf,iV minp,iV start] 24 _ rfl).below hb);clear ht hf hb;obtain ⟨c0,c1,c2,c3,c4,c5,c6,-⟩:=HBX.out.cs [0,1,2,3,4,5,6];simp only [gz,gs] at c0 c1 c2 c3 c4 c5 c6;have f1:=HBX.out.frozen 1
 go_wp2_with fail
 go_ret
 have hk:yab [w.heap.size] w2 (w2.setCell (Ad w.heap.size 1) (.slice uo ts.length uc)):=(yab.refl _ _).setCell (.inl (ms.2 rfl)) _;have hfr:Fr w (.slice uo ts.length uc):=fun b o n c e hn=>by have:=HF.out b o n c e hn;rw [World.size_alloc] at this;omega
 have hoff:OffF [w.heap.size] (.slice uo ts.length uc):=fun b o n c e hn hm=>by
  have:=HF.out b o n c e hn;rw [World.size_alloc] at this;simp only [ms] at hm;omega
 refine ⟨_,.slice uo ts.length uc,rfl,⟨yae _ _ _ _ (by rw [World.size_setCell]),(HT.out.keep hk hoff).below (yaa bR _),R5S.nil⟩,?_,hfr,?_⟩
 ·have:=HB.out.size
  rw [World.size_alloc] at this;omega
 ·exact yaa ((yad (yaa bR _) HB.out).setCell (show w.heap.size<=w.heap.size from Nat.le_refl _) _) _
def ydc (day:Int) (l:List R5):Nat->Nat
 | 0=>0
 | k+1=>if day<(l.getD k yax).b then ydc day l k else k+1
theorem yna (v:Value) (l:List R5) (day:Int) (p:Nat) (HP:Hid (ydc day l l.length=p)) (w:World) (hv:R5S w v l) :
 Calls Tryz.prog 157 #[v,iV day] w (RetB (iV (p:Int)) w):= by
 have HV:=lh hv;obtain ⟨ao,cap,rfl⟩:=hv.shape;have hlen:=(Fl.len hv).2;unfold maxLen at hlen;obtain ⟨hlc,hcm,_⟩:=hlen;clear hv
 go_enter Tryz.func157,Tryz.ntmps157
 go_wp2_with fail
 refine yai 0 (fun a' w'=>∃(k:Nat) (u2 u3 u4 u6 u7 u8 u9 u10 u11 u12 u13 u14 u15 u16 u17 u18 u19 u20 u21 u22:Value),a'={ tmps:=#[.slice ao l.length cap,iV day,u2,u3,u4,iV (k:Int),u6,u7,u8,u9,u10,u11,u12,u13,u14,u15,u16,u17,u18,u19,u20,u21,u22],defers:=[] }/\k<=l.length/\Hid (ydc day l k=p)/\w=w')
  (fun a' _=>yzi a'.tmps[5]?) rfl ?pass ?first
 case pass =>
  intro a1 w1 hJ J' hJ';obtain ⟨k,hJ⟩:=hJ
  iterate 20 obtain ⟨_,hJ⟩:=hJ
  obtain ⟨rfl,hk,HQ,rfl⟩:=hJ;have HJ:=lh hJ';clear hJ';cases k with
  | zero =>
   have h0:Hid (p=0):=HQ.out.symm
   go_wp2_with fail
   simp only [Exit.jump];go_ret
   exact ⟨by rw [h0.out];rfl,bR⟩
  | succ k =>
   have hpos:(0:Int)<((k+1:Nat):Int):=by omega
   have hsub:wrap64 (((k+1:Nat):Int)-1)=(k:Int):=by rw [IntWalk.wrap64_in _ ⟨by omega,by omega⟩];omega
   have hkl:(k:Int)<(l.length:Int):=by omega
   obtain ⟨b,o,x,rfl,⟨c0,c1,c2,c3,c4⟩,HX⟩:=HV.out.get (i:=k) om;have HK:=lh hk
   by_cases hd:day<x.b
   ·have HQ2:Hid (ydc day l k=p):= by
     have h:=HQ.out;rw [ydc,HX.out,if_pos hd] at h;exact h
    clear hk HQ
    go_wp2_with fail
    go_step3
    exact ⟨rfl,HJ.out _ _ ⟨k,_,_,_,_,_,_,_,_,_,_,_,_,_,_,_,_,_,_,_,_,rfl,by have:=HK.out;omega,HQ2,rfl⟩ (jad k)⟩
   ·have HQ2:Hid (p=k+1):= by
     have h:=HQ.out;rw [ydc,HX.out,if_neg hd] at h;exact h.symm
    clear hk HQ
    go_wp2_with fail
    simp only [Exit.jump];go_ret
    exact ⟨by rw [HQ2.out];rfl,bR⟩
 case first =>
  intro J' hJJ hrest;have HRE:=lh hrest;clear hJJ hrest
  go_wp2_with fail
  go_step3
  go_step
  go_step
  exact HRE.out _ _ ⟨l.length,_,_,_,_,_,_,_,_,_,_,_,_,_,_,_,_,_,_,_,_,rfl,Nat.le_refl _,HP.out,rfl⟩
theorem yhx (g:Nat) (t:Tm) (tv ev:Value) (l:List R5) (w:World) (hv:ybn w g t tv ev l) (hn:l.length<=100000) :
 Calls Tryz.prog 81 #[pV g] w (fun e w'=>∃g' u,e=.returned (pV g')/\ybn w' g' t tv u l/\w'.ownsRow w.heap.size 150 5 u l.length (yag l)/\w.heap.size<=g'/\BW w w'):= by
 obtain ⟨hB,hT,hE⟩:=hv;have HB:=lh hB;have HT:=lh hT;have HE:=lh hE;obtain ⟨eo,ec,rfl⟩:=hE.shape;obtain ⟨tao,tc,rfl⟩:=hT.shape;obtain ⟨lim,ts,cyc,dued,minf,minp,start⟩:=t;simp only [Tm.cells,List.cons_append,List.nil_append] at *;obtain ⟨c0,c1,c2,c3,c4,c5,c6,c7,-⟩:=HB.out.cs [0,1,2,3,4,5,6,7];simp only [gz,gs] at c0 c1 c2 c3 c4 c5 c6 c7;clear hB hT hE
 have hS:∀W',BW w W'->(Ce W' g 0 (iV lim)/\Ce W' g 1 (.slice tao ts.length tc)/\Ce W' g 2 (iV cyc)/\Ce W' g 3 (iV dued)/\Ce W' g 4 (iV minf)/\Ce W' g 5 (iV minp)/\Ce W' g 6 (iV start)/\Ce W' g 7 (.slice eo l.length ec)):=fun W' h =>
  have q:=HB.out.below h
  ⟨q.cell 0,q.cell 1,q.cell 2,q.cell 3,q.cell 4,q.cell 5,q.cell 6,q.cell 7⟩
 have HS:=lh hS;have hs0:=hS w bR;have hsd:=hS w.drew (yaf bR);clear hS
 go_enter Tryz.func81,Tryz.ntmps81
 go_upto_region 3 with fail
 clear c0 c1 c2 c3 c4 c5 c6 c7
 go_region_held3 (fun W'=>(Ce W' g 0 (iV lim)/\Ce W' g 1 (.slice tao ts.length tc)/\Ce W' g 2 (iV cyc)/\Ce W' g 3 (iV dued)/\Ce W' g 4 (iV minf)/\Ce W' g 5 (iV minp)/\Ce W' g 6 (iV start)/\Ce W' g 7 (.slice eo l.length ec))) (first | with_reducible exact hs0 | with_reducible exact hsd | with_reducible exact hs5 | with_reducible exact HS.out _ (yaa HB5.out _) | with_reducible assumption) (first | (go_at_call 130;refine (yg1 _ l _ (HE.out.below (yaf bR)) hn).mono ?_;rintro _ w5 ⟨u,rfl,ho,hb5⟩;obtain ⟨uo,uc,rfl⟩:=(R5S.of_own ho rfl).shape;have HO:=lh ho;have HB5:Hid (BW w w5):=yad (yaf bR) hb5;have hs5:=HS.out w5 HB5.out;clear ho hb5))
 all_goals
  go_wp2
  go_ret
  refine ⟨_,.slice uo l.length uc,rfl,⟨yae _ _ _ _ rfl,HT.out.below (yaa HB5.out _),(R5S.of_own HO.out rfl).below (yaa bR _)⟩,yah HO.out (yaa bR _),HB5.out.size,yaa HB5.out _⟩
def yni:Value:=.func (.func 78) #[] #[]
def yjy (bm:Nat):Value:=.func (.func 131) #[] #[pV bm]
theorem yx3 (a b c d e:Int) (w:World):Calls Tryz.prog 78 #[.agg #[iV a,iV b,iV c,iV d,iV e]] w (RetB (.bool true) w):= by
 go_enter Tryz.func78,Tryz.ntmps78
 go_wp2
 go_ret
 exact ⟨rfl,bL⟩
theorem yvd (bm:Nat) (a b c d e:Int) (w:World) (hb:Blk w bm 167 [yni]):Calls Tryz.prog 131 #[.agg #[iV a,iV b,iV c,iV d,iV e],pV bm] w (RetB (.bool false) w):= by
 have HB:=lh hb;have c0:=hb.cell 0;have k0:=hb.lt;simp only [List.getElem?_cons_zero,yni] at c0;clear hb
 go_enter Tryz.func131,Tryz.ntmps131
 go_wp2_with fail
 refine (yx3 a b c d e _).mono ?_;rintro _ w1 ⟨rfl,hb1⟩;go_wp2
 go_ret
 exact ⟨rfl,yad (yaa bR _) hb1⟩
theorem yq9 (v:Value) (l:List R5) (bm:Nat) (w:World) (hv:R5S w v l) (hb:Blk w bm 167 [yni]) :
 Calls Tryz.prog 176 #[v,yjy bm] w (RetB (iV (-1)) w):= by
 have HV:=lh hv;have HB:=lh hb;obtain ⟨ao,cap,rfl⟩:=hv.shape;have hlen:=(Fl.len hv).2;unfold maxLen at hlen;obtain ⟨hlc,hcm,_⟩:=hlen;clear hv hb;unfold yjy
 go_enter Tryz.func176,Tryz.ntmps176
 go_wp2_with fail
 go_loopg [8] l.length (fun g i wr=>∃k:Nat,k+g=l.length/\i=iV k/\BW w wr)
 case atStart=>exact ⟨0,by omega,rfl,bR⟩
 case round =>
  obtain ⟨k,hkg,rfl,hbw⟩:=hrel;cases gk with
  | zero =>
   have hlt:¬((k:Int)<(l.length:Int)):=by omega
   go_wp2
   go_ret
   exact ⟨rfl,hbw⟩
  | succ g =>
   have hlt:(k:Int)<(l.length:Int):=by omega
   obtain ⟨b,o,x,rfl,⟨c0,c1,c2,c3,c4⟩,HX⟩:=(HV.out.below hbw).get (i:=k) om;have HBW:=lh hbw;clear hbw
   go_wp2_with fail
   refine (yvd bm x.a x.b x.c x.d x.e _ (HB.out.below HBW.out)).mono ?_;rintro _ w1 ⟨rfl,hb1⟩;have HBW2:=lh (yad HBW.out hb1);clear hb1
   go_wp2_with fail
   go_roundg g
   case measure=>omega
   case rel=>exact ⟨k+1,by omega,by go_num,HBW2.out⟩
theorem ypg (v:Value) (l:List R5) (bm:Nat) (w:World) (hv:R5S w v l) (hb:Blk w bm 167 [yni]) :
 Calls Tryz.prog 129 #[v,yjy bm] w (RetB v w):= by
 have HV:=lh hv;have HB:=lh hb;obtain ⟨ao,cap,rfl⟩:=hv.shape;clear hv hb
 go_enter Tryz.func129,Tryz.ntmps129
 go_wp2_with fail
 refine (yq9 _ l bm _ HV.out HB.out).mono ?_;rintro _ w1 ⟨rfl,hb1⟩;go_wp2
 go_ret
 exact ⟨rfl,hb1⟩
theorem ymk (g:Nat) (t:Tm) (tv ev:Value) (l:List R5) (w:World) (hv:ybn w g t tv ev l) (hn:l.length<=100000) :
 Calls Tryz.prog 77 #[pV g,.func (.func 78) #[] #[]] w (fun e w'=>∃u,e=.returned u/\w'.ownsRow w.heap.size 150 5 u l.length (yag l)/\BW w w'):= by
 obtain ⟨hB,hT,hE⟩:=hv;have HB:=lh hB;have HE:=lh hE;obtain ⟨eo,ec,rfl⟩:=hE.shape;have c7:=hB.cell 7;have k7:=hB.lt;simp only [Tm.cells,List.cons_append,List.nil_append,List.getElem?_cons_zero,List.getElem?_cons_succ] at c7;clear hB hT hE
 go_enter Tryz.func77,Tryz.ntmps77
 go_wp2_with fail
 have hbm:Blk (w.alloc (.cells #[.func (.func 78) #[] #[]] 167)) w.heap.size 167 [yni]:=yae w _ _ _ rfl;have HBM:=lh hbm;clear hbm;refine (yg1 _ l _ (HE.out.below (yaa bR _)) hn).mono ?_;rintro _ w2 ⟨u,rfl,ho,hb2⟩;have HO:=lh ho;have HB2:=lh hb2;clear ho hb2
 go_wp2_with fail
 refine (ypg _ l w.heap.size _ (R5S.of_own HO.out rfl) (HBM.out.below HB2.out)).mono ?_;rintro _ w3 ⟨rfl,hb3⟩;have HB3:=lh hb3;clear hb3;go_wp2
 go_ret
 exact ⟨u,rfl,ygc (yah HO.out HB3.out) (by rw [World.size_alloc];omega),yad (yad (yaa bR _) HB2.out) HB3.out⟩
theorem yem (g:Nat) (t:Tm) (tv ev:Value) (l:List R5) (w:World) (hv:ybn w g t tv ev l) (hn:l.length<=100000) :
 Calls Tryz.prog 44 #[pV g] w (fun e w'=>∃u,e=.returned u/\w'.ownsRow w.heap.size 150 5 u l.length (yag l)/\BW w w'):= by
 go_enter Tryz.func44,Tryz.ntmps44
 go_wp2_with fail
 refine (ymk g t tv ev l w hv hn).mono ?_;rintro _ w2 ⟨u,rfl,ho,hb2⟩;have HO:=lh ho;clear ho;go_wp2
 go_ret
 exact ⟨u,rfl,HO.out,hb2⟩
theorem yz1 {k:Nat} (h:0<k) (h2:k<=1000000):wrap64 ((k:Int)-1)=((k-1:Nat):Int):=by rw [IntWalk.wrap64_in _ ⟨by omega,by omega⟩];omega
theorem yz8 {k:Nat} (h:0<k) (h2:k<=1000000):IntKind.i64.wrap ((k:Int)-1)=((k-1:Nat):Int):=by rw [IntWalk.i64_in _ ⟨by omega,by omega⟩];omega
theorem yo7 {k:Nat} (h2:k<=1000000):wrap64 ((k:Int)+1)=((k+1:Nat):Int):=by rw [IntWalk.wrap64_in _ ⟨by omega,by omega⟩];omega
def yew:Value:=.func (.func 134) #[] #[]
def cmpD (x y:R5):Int:=if x.b<y.b then -1 else if y.b<x.b then 1 else 0
def Asc (l:List R5):Prop:=∀i j,i<=j->j<l.length->(l.getD i yax).b<=(l.getD j yax).b
theorem yg8 (x y:R5) (r:Int) (hr:Hid (cmpD x y=r)) (w:World):Calls Tryz.prog 134 #[.agg #[iV x.a,iV x.b,iV x.c,iV x.d,iV x.e],.agg #[iV y.a,iV y.b,iV y.c,iV y.d,iV y.e]] w (RetB (iV r) w):= by
 have h:=hr.out;unfold cmpD at h
 by_cases h1:x.b<y.b
 ·rw [if_pos h1] at h
  subst h
  go_enter Tryz.func134,Tryz.ntmps134
  go_wp2
  go_ret
  exact ⟨rfl,bL⟩
 ·rw [if_neg h1] at h
  by_cases h2:y.b<x.b
  ·rw [if_pos h2] at h
   subst h
   go_enter Tryz.func134,Tryz.ntmps134
   go_wp2
   go_ret
   exact ⟨rfl,bL⟩
  ·rw [if_neg h2] at h
   subst h
   go_enter Tryz.func134,Tryz.ntmps134
   go_wp2
   go_ret
   exact ⟨rfl,bL⟩
theorem yjs {l:List R5} (h:Asc l) {i j:Nat} {x y:R5} (hij:i<=j) (hj:j<l.length) (hx:l.getD j yax=x) (hy:l.getD i yax=y):∃r:Int,cmpD x y=r/\¬r<0:= by
 refine ⟨_,rfl,?_⟩;have:=h i j hij hj;rw [hx,hy] at this;unfold cmpD;rw [if_neg om]
 split <;> omega
def El (w:World) (b k:Nat) (x:R5):Prop:=w.cell? (Ad b k)=some (iV x.a)/\w.cell? (Ad b (k+1))=some (iV x.b)/\w.cell? (Ad b (k+2))=some (iV x.c)/\w.cell? (Ad b (k+3))=some (iV x.d)/\w.cell? (Ad b (k+4))=some (iV x.e)
theorem El.below {w w':World} {b k:Nat} {x:R5} (h:El w b k x) (hb:BW w w'):El w' b k x:= by
 obtain ⟨h0,h1,h2,h3,h4⟩:=h;exact ⟨(hb.cell (p:=(Ad b k)) (yac h0)).trans h0,(hb.cell (p:=(Ad b (k+1))) (yac h1)).trans h1,(hb.cell (p:=(Ad b (k+2))) (yac h2)).trans h2,(hb.cell (p:=(Ad b (k+3))) (yac h3)).trans h3,(hb.cell (p:=(Ad b (k+4))) (yac h4)).trans h4⟩
theorem yp6 (v:Value) (l:List R5) (HA:Hid (Asc l)) (a b:Nat) (hab:a<=b) (hb:b<=l.length) (hn:l.length<=10000) (w:World) (hv:R5S w v l) :
 Calls Tryz.prog 208 #[v,iV (a:Int),iV (b:Int),yew] w (RetB (.tuple #[]) w):= by
 have HV:=lh hv;obtain ⟨ao,cap,rfl⟩:=hv.shape;have hlen:=(Fl.len hv).2;unfold maxLen at hlen;obtain ⟨hlc,hcm,_⟩:=hlen;clear hv;unfold yew;have HAB:=lh (And.intro hab hb);have hw0:wrap64 ((a:Int)+1)=((a+1:Nat):Int):=yo7 om;clear hab hb
 go_enter Tryz.func208,Tryz.ntmps208
 go_wp2_with fail
 go_loopg [8] (b-(a+1)) (fun g i wr=>∃k:Nat,i=iV (k:Int)/\(a+1<=k/\g=b-k)/\Hid (BW w wr))
 case atStart=>exact ⟨a+1,by simp only [hw0],⟨by omega,rfl⟩,bR⟩
 case round =>
  obtain ⟨k,rfl,⟨hk,hgk⟩,HBW⟩:=hrel;clear hw0
  by_cases hkb:k<b
  ·have hlt:(k:Int)<(b:Int):=by omega
   have hkl:k<l.length:=by have:=HAB.out;omega
   have hkli:(k:Int)<(l.length:Int):=by omega
   obtain ⟨bb,o,x,rfl,⟨c0,c1,c2,c3,c4⟩,HX⟩:=(HV.out.below HBW.out).get (i:=k) hkl;obtain ⟨bb',o',y,e,⟨d0,d1,d2,d3,d4⟩,HY⟩:=(HV.out.below HBW.out).get (i:=k-1) om;cases e;obtain ⟨r,hr,hr0⟩:=yjs HA.out (i:=k-1) (j:=k) om hkl HX.out HY.out;have HRR:=lh hr;have hka:(a:Int)<(k:Int):=by omega
   have hkk:((k-1:Nat):Int)<(l.length:Int):=by omega
   have hkk0:(0:Int)<=((k-1:Nat):Int):=by omega
   have hkp:0<k:=by omega
   have hkm:k<=1000000:=by omega
   have hk1:wrap64 ((k:Int)-1)=((k-1:Nat):Int):=yz1 hkp hkm;have hk2:IntKind.i64.wrap ((k:Int)-1)=((k-1:Nat):Int):=yz8 hkp hkm;have hk3:wrap64 ((k:Int)+1)=((k+1:Nat):Int):=yo7 hkm
   have hS:∀W',BW wr W'->(Ce W' bb (o+k*5) (iV x.a)/\Ce W' bb (o+k*5+1) (iV x.b)/\Ce W' bb (o+k*5+2) (iV x.c)/\Ce W' bb (o+k*5+3) (iV x.d)/\Ce W' bb (o+k*5+4) (iV x.e)/\Ce W' bb (o+(k-1)*5) (iV y.a)/\Ce W' bb (o+(k-1)*5+1) (iV y.b)/\Ce W' bb (o+(k-1)*5+2) (iV y.c)/\Ce W' bb (o+(k-1)*5+3) (iV y.d)/\Ce W' bb (o+(k-1)*5+4) (iV y.e)):=fun W' h =>
    have q:=El.below ⟨c0,c1,c2,c3,c4⟩ h;have q':=El.below ⟨d0,d1,d2,d3,d4⟩ h
    ⟨q.1,q.2.1,q.2.2.1,q.2.2.2.1,q.2.2.2.2,q'.1,q'.2.1,q'.2.2.1,q'.2.2.2.1,q'.2.2.2.2⟩
   have HS:=lh hS;have HK:=lh (And.intro hk (And.intro hgk hkb));clear hS hr c0 c1 c2 c3 c4 d0 d1 d2 d3 d4 hk hgk
   go_wp2_with fail
   obtain ⟨wz,hwz⟩:∃wz,wr=wz:=⟨_,rfl⟩;subst hwz;go_loopg [9] 0 (fun g j ws=>g=0/\j=iV (k:Int)/\wr=ws)
   case atStart=>exact ⟨rfl,rfl,rfl⟩
   case round =>
    obtain ⟨hg0,rfl,rfl⟩:=hrel;have hs0:=HS.out _ bR;have hsd:=HS.out _ (yaf bR);go_upto_region 4 with fail
    go_region_held3 (fun W'=>Ce W' bb (o+k*5) (iV x.a)/\Ce W' bb (o+k*5+1) (iV x.b)/\Ce W' bb (o+k*5+2) (iV x.c)/\Ce W' bb (o+k*5+3) (iV x.d)/\Ce W' bb (o+k*5+4) (iV x.e)/\Ce W' bb (o+(k-1)*5) (iV y.a)/\Ce W' bb (o+(k-1)*5+1) (iV y.b)/\Ce W' bb (o+(k-1)*5+2) (iV y.c)/\Ce W' bb (o+(k-1)*5+3) (iV y.d)/\Ce W' bb (o+(k-1)*5+4) (iV y.e)) (first | with_reducible exact hs0 | with_reducible exact hsd | with_reducible exact hs5 | with_reducible assumption) (first | (go_at_call 134;refine (yg8 x y r HRR _).mono ?_;rintro _ w5 ⟨rfl,hb5⟩;have HB5:Hid (BW wr w5):=yad (yaf bR) hb5;have hs5:=HS.out w5 HB5.out;clear hb5))
    have HB6:=lh (yad HBW.out HB5.out);clear hs0 hsd hs5 hk1 hk2
    go_wp2_with fail
    go_roundg (b-(k+1))
    case measure=>have:=HK.out;omega
    case rel=>exact ⟨k+1,by first | rfl | simp only [hk3],⟨by have:=HK.out;omega,rfl⟩,HB6.out⟩
  ·have hlt:¬(k:Int)<(b:Int):=by omega
   go_wp2
   go_end0
   exact ⟨rfl,HBW.out⟩
theorem ypt {i j s h:Nat} (hs:i+j=s) (hh:s/2=h) (hb:s<=1000000):wrap64 ((i:Int)+(j:Int))=(s:Int)/\IntKind.u64.wrap (s:Int)=(s:Int)/\wrap64 ((s:Int)/2)=(h:Int):= by
 subst hs hh;refine ⟨by rw [IntWalk.wrap64_in _ ⟨by omega,by omega⟩];omega,by rw [IntKind.wrap_u64];omega,by rw [IntWalk.wrap64_in _ ⟨by omega,by omega⟩];omega⟩
theorem ywu (v:Value) (l:List R5) (HA:Hid (Asc l)) (a m b:Nat) (HAB:Hid (m=a+1/\m<b/\b<=l.length)) (hn:l.length<=10000) (w:World) (hv:R5S w v l) :
 Calls Tryz.prog 209 #[v,iV (a:Int),iV (m:Int),iV (b:Int),yew] w (RetB (.tuple #[]) w):= by
 have HV:=lh hv;obtain ⟨ao,cap,rfl⟩:=hv.shape;have hlen:=(Fl.len hv).2;unfold maxLen at hlen;obtain ⟨hlc,hcm,_⟩:=hlen;have HN:=lh hn;clear hv hlc hn;unfold yew;have h1:(m:Int)-(a:Int)=1:=by have:=HAB.out;omega
 have hp:(m:Int)-1=(a:Int):=by have:=HAB.out;omega
 have ha1:wrap64 ((m:Int)-(a:Int))=1:=by rw [h1];exact IntWalk.wrap64_in _ ⟨by omega,by omega⟩
 have hm1:wrap64 ((m:Int)-1)=(a:Int):=by rw [hp];have:=HAB.out;have:=HN.out;exact IntWalk.wrap64_in _ ⟨by omega,by omega⟩
 clear h1 hp
 go_enter Tryz.func209,Tryz.ntmps209
 go_wp2_with fail
 simp only [ha1];clear ha1;go_loopg [10,11] (b-m) (fun g i j wr=>∃k:Nat,i=iV (m:Int)/\j=iV (k:Int)/\Hid (m<=k/\k<=b/\g=k-m)/\Hid (BW w wr))
 case atStart=>exact ⟨b,rfl,rfl,lh ⟨by have:=HAB.out;omega,Nat.le_refl _,rfl⟩,bR⟩
 case round =>
  obtain ⟨k,rfl,rfl,HK,HBW⟩:=hrel;obtain ⟨hb0,hb1⟩:(m<k\/¬m<k)/\True:=⟨by omega,trivial⟩;rcases hb0 with hkb | hkb
  ·obtain ⟨s,hs⟩:∃s,m+k=s:=⟨_,rfl⟩
   obtain ⟨h,hh⟩:∃h,s/2=h:=⟨_,rfl⟩;have HH:=lh (And.intro hs (And.intro hh hkb));have hlt:(m:Int)<(k:Int):=by omega
   have hal:(a:Int)<(l.length:Int):=by have:=HAB.out;omega
   have hhl:(h:Int)<(l.length:Int):=by have:=HAB.out;have:=HK.out;omega
   have hsb:s<=1000000:=by have:=HAB.out;have:=HK.out;have:=HN.out;omega
   clear hkb;obtain ⟨bb,o,x,rfl,⟨c0,c1,c2,c3,c4⟩,HX⟩:=(HV.out.below HBW.out).get (i:=h) (by have:=HAB.out;have:=HK.out;have:=HH.out;omega);obtain ⟨bb',o',y,e,⟨d0,d1,d2,d3,d4⟩,HY⟩:=(HV.out.below HBW.out).get (i:=a) (by have:=HAB.out;have:=HK.out;have:=HH.out;omega);cases e;obtain ⟨r,hr,hr0⟩:=yjs HA.out (i:=a) (j:=h) (by have:=HAB.out;have:=HK.out;have:=HH.out;omega) (by have:=HAB.out;have:=HK.out;have:=HH.out;omega) HX.out HY.out;have HRR:=lh hr
   have hS:∀W',BW wr W'->(Ce W' bb (o+h*5) (iV x.a)/\Ce W' bb (o+h*5+1) (iV x.b)/\Ce W' bb (o+h*5+2) (iV x.c)/\Ce W' bb (o+h*5+3) (iV x.d)/\Ce W' bb (o+h*5+4) (iV x.e)/\Ce W' bb (o+a*5) (iV y.a)/\Ce W' bb (o+a*5+1) (iV y.b)/\Ce W' bb (o+a*5+2) (iV y.c)/\Ce W' bb (o+a*5+3) (iV y.d)/\Ce W' bb (o+a*5+4) (iV y.e)):=fun W' h =>
    have q:=El.below ⟨c0,c1,c2,c3,c4⟩ h;have q':=El.below ⟨d0,d1,d2,d3,d4⟩ h
    ⟨q.1,q.2.1,q.2.2.1,q.2.2.2.1,q.2.2.2.2,q'.1,q'.2.1,q'.2.2.1,q'.2.2.2.1,q'.2.2.2.2⟩
   have HS:=lh hS;clear hS hr c0 c1 c2 c3 c4 d0 d1 d2 d3 d4;obtain ⟨e1,e2,e3⟩:=ypt hs hh hsb;clear hs hh hsb;go_upto_region 5 with fail
   have hs0:=HS.out _ bR;have hsd:=HS.out _ (yaf bR)
   go_region_held3 (fun W'=>Ce W' bb (o+h*5) (iV x.a)/\Ce W' bb (o+h*5+1) (iV x.b)/\Ce W' bb (o+h*5+2) (iV x.c)/\Ce W' bb (o+h*5+3) (iV x.d)/\Ce W' bb (o+h*5+4) (iV x.e)/\Ce W' bb (o+a*5) (iV y.a)/\Ce W' bb (o+a*5+1) (iV y.b)/\Ce W' bb (o+a*5+2) (iV y.c)/\Ce W' bb (o+a*5+3) (iV y.d)/\Ce W' bb (o+a*5+4) (iV y.e)) (first | with_reducible exact hs0 | with_reducible exact hsd | with_reducible exact hs5 | with_reducible assumption) (first | (go_at_call 134;refine (yg8 x y r HRR _).mono ?_;rintro _ w5 ⟨rfl,hb5⟩;have HB5:Hid (BW wr w5):=yad (yaf bR) hb5;have hs5:=HS.out w5 HB5.out;clear hb5))
   have HB6:=lh (yad HBW.out HB5.out);clear hs0 hsd hs5;clear e1 e2 e3
   go_wp2_with fail
   go_roundg (h-m)
   case measure=>have:=HH.out;have:=HK.out;omega
   case rel=>exact ⟨h,rfl,rfl,lh ⟨by have:=HH.out;omega,by have:=HH.out;have:=HK.out;omega,rfl⟩,HB6.out⟩
  ·have hlt:¬(m:Int)<(k:Int):=by omega
   have hxx:¬(a:Int)<(a:Int):=by omega
   clear hkb
   go_wp2_with fail
   go_loopg [13] 0 (fun g q ws=>g=0/\q=iV (a:Int)/\wr=ws)
   case atStart=>exact ⟨rfl,rfl,rfl⟩
   case round =>
    obtain ⟨hg0,rfl,rfl⟩:=hrel;go_wp2
    go_end0
    exact ⟨rfl,HBW.out⟩
theorem yjg {i j d:Nat} (h:j<=i) (hd:i-j=d) (hb:i<=1000000):wrap64 ((i:Int)-(j:Int))=(d:Int):= by
 subst hd;rw [IntWalk.wrap64_in _ ⟨by omega,by omega⟩];omega
theorem jaq {i j d:Nat} (h:j<=i) (hd:i-j=d) (hb:i<=1000000):IntKind.i64.wrap ((i:Int)-(j:Int))=(d:Int):= by
 subst hd;rw [IntWalk.i64_in _ ⟨by omega,by omega⟩];omega
theorem yqp {i j d:Nat} (hd:i+j=d) (hb:d<=1000000):wrap64 ((i:Int)+(j:Int))=(d:Int):= by
 subst hd;rw [IntWalk.wrap64_in _ ⟨by omega,by omega⟩];omega
theorem yww (v:Value) (l:List R5) (HA:Hid (Asc l)) (a m b:Nat) (HAB:Hid (a+2<=m/\b=m+1/\b<=l.length)) (hn:l.length<=10000) (w:World) (hv:R5S w v l) :
 Calls Tryz.prog 209 #[v,iV (a:Int),iV (m:Int),iV (b:Int),yew] w (RetB (.tuple #[]) w):= by
 have HV:=lh hv;obtain ⟨ao,cap,rfl⟩:=hv.shape;have hlen:=(Fl.len hv).2;unfold maxLen at hlen;obtain ⟨hlc,hcm,_⟩:=hlen;have HN:=lh hn;clear hv hlc hn;unfold yew;obtain ⟨d,hd⟩:∃d,m-a=d:=⟨_,rfl⟩;obtain ⟨d2,hd2⟩:∃d2,b-m=d2:=⟨_,rfl⟩;have hdf:¬((d:Int)=1):=by have:=HAB.out;omega
 have hdf2:((d:Int) == 1)=false:=by simp;have:=HAB.out;omega
 have hd21:(d2:Int)=1:=by have:=HAB.out;omega
 have hda:wrap64 ((m:Int)-(a:Int))=(d:Int):=yjg (by have:=HAB.out;omega) hd (by have:=HAB.out;have:=HN.out;omega);have hdb:wrap64 ((b:Int)-(m:Int))=1:=by rw [yjg (by have:=HAB.out;omega) hd2 (by have:=HAB.out;have:=HN.out;omega)];exact hd21
 clear hd hd2 hd21
 go_enter Tryz.func209,Tryz.ntmps209
 go_wp2_with fail
 simp only [hda,hdb];clear hda hdb;go_loopg [14,15] (m-a) (fun g i j wr=>∃k:Nat,i=iV (k:Int)/\j=iV (m:Int)/\Hid (a<=k/\k<=m/\g=m-k)/\Hid (BW w wr))
 case atStart=>exact ⟨a,rfl,rfl,lh ⟨Nat.le_refl _,by have:=HAB.out;omega,rfl⟩,bR⟩
 case round =>
  obtain ⟨k,rfl,rfl,HK,HBW⟩:=hrel
  by_cases hkb:k<m
  ·obtain ⟨s,hs⟩:∃s,k+m=s:=⟨_,rfl⟩
   obtain ⟨h,hh⟩:∃h,s/2=h:=⟨_,rfl⟩;have HH:=lh (And.intro hs (And.intro hh hkb));have hlt:(k:Int)<(m:Int):=by omega
   have hal:(m:Int)<(l.length:Int):=by have:=HAB.out;omega
   have hhl:(h:Int)<(l.length:Int):=by have:=HAB.out;have:=HK.out;omega
   have hsb:s<=1000000:=by have:=HAB.out;have:=HK.out;have:=HN.out;omega
   have hhb:h<=1000000:=by omega
   clear hkb;obtain ⟨bb,o,x,rfl,⟨c0,c1,c2,c3,c4⟩,HX⟩:=(HV.out.below HBW.out).get (i:=m) (by have:=HAB.out;have:=HK.out;have:=HH.out;omega);obtain ⟨bb',o',y,e,⟨d0,d1,d2,d3,d4⟩,HY⟩:=(HV.out.below HBW.out).get (i:=h) (by have:=HAB.out;have:=HK.out;have:=HH.out;omega);cases e;obtain ⟨r,hr,hr0⟩:=yjs HA.out (i:=h) (j:=m) (by have:=HAB.out;have:=HK.out;have:=HH.out;omega) (by have:=HAB.out;have:=HK.out;have:=HH.out;omega) HX.out HY.out;have HRR:=lh hr
   have hS:∀W',BW wr W'->(Ce W' bb (o+m*5) (iV x.a)/\Ce W' bb (o+m*5+1) (iV x.b)/\Ce W' bb (o+m*5+2) (iV x.c)/\Ce W' bb (o+m*5+3) (iV x.d)/\Ce W' bb (o+m*5+4) (iV x.e)/\Ce W' bb (o+h*5) (iV y.a)/\Ce W' bb (o+h*5+1) (iV y.b)/\Ce W' bb (o+h*5+2) (iV y.c)/\Ce W' bb (o+h*5+3) (iV y.d)/\Ce W' bb (o+h*5+4) (iV y.e)):=fun W' h =>
    have q:=El.below ⟨c0,c1,c2,c3,c4⟩ h;have q':=El.below ⟨d0,d1,d2,d3,d4⟩ h
    ⟨q.1,q.2.1,q.2.2.1,q.2.2.2.1,q.2.2.2.2,q'.1,q'.2.1,q'.2.2.1,q'.2.2.2.1,q'.2.2.2.2⟩
   have HS:=lh hS;clear hS hr c0 c1 c2 c3 c4 d0 d1 d2 d3 d4;obtain ⟨e1,e2,e3⟩:=ypt hs hh hsb;have e4:wrap64 ((h:Int)+1)=((h+1:Nat):Int):=yo7 hhb;clear hs hh hsb hhb;go_upto_region 17 with fail
   have hs0:=HS.out _ bR;have hsd:=HS.out _ (yaf bR)
   go_region_held3 (fun W'=>Ce W' bb (o+m*5) (iV x.a)/\Ce W' bb (o+m*5+1) (iV x.b)/\Ce W' bb (o+m*5+2) (iV x.c)/\Ce W' bb (o+m*5+3) (iV x.d)/\Ce W' bb (o+m*5+4) (iV x.e)/\Ce W' bb (o+h*5) (iV y.a)/\Ce W' bb (o+h*5+1) (iV y.b)/\Ce W' bb (o+h*5+2) (iV y.c)/\Ce W' bb (o+h*5+3) (iV y.d)/\Ce W' bb (o+h*5+4) (iV y.e)) (first | with_reducible exact hs0 | with_reducible exact hsd | with_reducible exact hs5 | with_reducible assumption) (first | (go_at_call 134;refine (yg8 x y r HRR _).mono ?_;rintro _ w5 ⟨rfl,hb5⟩;have HB5:Hid (BW wr w5):=yad (yaf bR) hb5;have hs5:=HS.out w5 HB5.out;clear hb5))
   have HB6:=lh (yad HBW.out HB5.out);clear hs0 hsd hs5;clear e1 e2 e3
   go_wp2_with fail
   any_goals (exfalso;rename_i hbad;simp at hbad;omega)
   go_roundg (m-(h+1))
   case measure=>have:=HH.out;have:=HK.out;omega
   case rel=>exact ⟨h+1,by first | rfl | simp only [e4],rfl,lh ⟨by have:=HH.out;have:=HK.out;omega,by have:=HH.out;have:=HK.out;omega,rfl⟩,HB6.out⟩
  ·have hkm:k=m:=by have:=HK.out;omega
   subst hkm;have hlt:¬(k:Int)<(k:Int):=by omega
   clear hkb
   go_wp2_with fail
   go_loopg [17] 0 (fun g q ws=>g=0/\q=iV (k:Int)/\wr=ws)
   case atStart=>exact ⟨rfl,rfl,rfl⟩
   case round =>
    obtain ⟨hg0,rfl,rfl⟩:=hrel;go_wp2
    go_end0
    exact ⟨rfl,HBW.out⟩
theorem ys1 (v:Value) (l:List R5) (HA:Hid (Asc l)) (a m b mid:Nat) (HAB:Hid (mid<m/\a+2<=m/\m+2<=b/\b<=l.length/\(a+b)/2=mid)) (hn:l.length<=10000) (IH:Hid (∀w',R5S w' v l->Calls Tryz.prog 209 #[v,iV (mid:Int),iV (m:Int),iV (b:Int),yew] w' (RetB (.tuple #[]) w'))) (w:World) (hv:R5S w v l) :
 Calls Tryz.prog 209 #[v,iV (a:Int),iV (m:Int),iV (b:Int),yew] w (RetB (.tuple #[]) w):= by
 have HV:=lh hv;obtain ⟨ao,cap,rfl⟩:=hv.shape;have hlen:=(Fl.len hv).2;unfold maxLen at hlen;obtain ⟨hlc,hcm,_⟩:=hlen;have HN:=lh hn;clear hv hlc hn;unfold yew at IH ⊢;obtain ⟨d,hd⟩:∃d,m-a=d:=⟨_,rfl⟩;obtain ⟨d2,hd2⟩:∃d2,b-m=d2:=⟨_,rfl⟩;have hdf:¬((d:Int)=1):=by have:=HAB.out;omega
 have hdf2:((d:Int) == 1)=false:=by simp;have:=HAB.out;omega
 have hdg:¬((d2:Int)=1):=by have:=HAB.out;omega
 have hdg2:((d2:Int) == 1)=false:=by simp;have:=HAB.out;omega
 obtain ⟨s0,hs0⟩:∃s0,a+b=s0:=⟨_,rfl⟩;obtain ⟨nn,hnn⟩:∃nn,mid+m=nn:=⟨_,rfl⟩;obtain ⟨p,hp⟩:∃p,nn-1=p:=⟨_,rfl⟩;have hp1:(nn:Int)-1=(p:Int):=by have:=HAB.out;omega
 obtain ⟨st,hst⟩:∃st,nn-b=st:=⟨_,rfl⟩;have hmt:(mid:Int)<(m:Int):=by have:=HAB.out;omega
 have ham:(a:Int)<(mid:Int):=by have:=HAB.out;omega
 have hmb:(m:Int)<(b:Int):=by have:=HAB.out;omega
 have g1:b<=nn:=by have:=HAB.out;omega
 have g2:mid<=nn:=by have:=HAB.out;omega
 have g3:nn-mid=m:=by have:=HAB.out;omega
 have HST:=lh hst;have hs0b:s0<=1000000:=by have:=HAB.out;have:=HN.out;omega
 have hnnb:nn<=1000000:=by have:=HAB.out;have:=HN.out;omega
 have hs0h:s0/2=mid:=by rw [<-hs0];exact HAB.out.2.2.2.2
 have hma:a<=m:=by have:=HAB.out;omega
 have hbm:m<=b:=by have:=HAB.out;omega
 have hmM:m<=1000000:=by have:=HAB.out;have:=HN.out;omega
 have hbM:b<=1000000:=by have:=HAB.out;have:=HN.out;omega
 have hpM:-9223372036854775808<=(p:Int)/\(p:Int)<=9223372036854775807:=by omega
 have HP:=lh (And.intro hs0 (And.intro hnn hp));obtain ⟨f1,f2,f3⟩:=ypt hs0 hs0h hs0b;have f4:wrap64 ((mid:Int)+(m:Int))=(nn:Int):=yqp hnn hnnb;have f5:wrap64 ((nn:Int)-1)=(p:Int):=by rw [hp1];exact IntWalk.wrap64_in _ hpM
 have hda:wrap64 ((m:Int)-(a:Int))=(d:Int):=yjg hma hd hmM;have hdb:wrap64 ((b:Int)-(m:Int))=(d2:Int):=yjg hbm hd2 hbM;have f6:wrap64 ((nn:Int)-(b:Int))=(st:Int):=yjg g1 hst hnnb;have F7:Hid (wrap64 ((nn:Int)-(mid:Int))=(m:Int)):=yjg g2 g3 hnnb;clear g1 g2 g3 hst;clear hd hd2 hs0 hnn hp hp1 hs0b hnnb hs0h hma hbm hmM hbM hpM
 go_enter Tryz.func209,Tryz.ntmps209
 go_wp2_with fail
 try simp only [hda,hdb,f1,f2,f3,f4,f5,f6]
 clear hda hdb f1 f2 f3 f4 f5  f6;go_loopg [20,21] (mid-st) (fun g i j wr=>∃k:Nat,i=iV (k:Int)/\j=iV (mid:Int)/\Hid (st<=k/\k<=mid/\g=mid-k)/\Hid (BW w wr))
 case atStart=>exact ⟨st,rfl,rfl,lh ⟨Nat.le_refl _,by have:=HAB.out;have:=HP.out;have:=HST.out;omega,rfl⟩,bR⟩
 case round =>
  obtain ⟨k,rfl,rfl,HK,HBW⟩:=hrel
  by_cases hkb:k<mid
  ·obtain ⟨s,hs⟩:∃s,k+mid=s:=⟨_,rfl⟩
   obtain ⟨h,hh⟩:∃h,s/2=h:=⟨_,rfl⟩;obtain ⟨pc,hpc⟩:∃pc,p-h=pc:=⟨_,rfl⟩;have HH:=lh (And.intro hs (And.intro hh (And.intro hkb hpc)));have hlt:(k:Int)<(mid:Int):=by omega
   have hpl:(pc:Int)<(l.length:Int):=by have:=HAB.out;have:=HK.out;have:=HP.out;have:=HST.out;omega
   have hhl:(h:Int)<(l.length:Int):=by have:=HAB.out;have:=HK.out;omega
   have hsb:s<=1000000:=by have:=HAB.out;have:=HK.out;have:=HN.out;omega
   have hhb:h<=1000000:=by omega
   have hph:h<=p:=by have:=HAB.out;have:=HK.out;have:=HP.out;have:=HST.out;omega
   have hpb:p<=1000000:=by have:=HAB.out;have:=HP.out;have:=HN.out;omega
   clear hkb;obtain ⟨bb,o,x,rfl,⟨c0,c1,c2,c3,c4⟩,HX⟩:=(HV.out.below HBW.out).get (i:=pc) (by have:=HAB.out;have:=HK.out;have:=HH.out;have:=HP.out;have:=HST.out;omega);obtain ⟨bb',o',y,e,⟨d0,d1,d2,d3,d4⟩,HY⟩:=(HV.out.below HBW.out).get (i:=h) (by have:=HAB.out;have:=HK.out;have:=HH.out;have:=HP.out;have:=HST.out;omega);cases e;obtain ⟨r,hr,hr0⟩:=yjs HA.out (i:=h) (j:=pc) (by have:=HAB.out;have:=HK.out;have:=HH.out;have:=HP.out;have:=HST.out;omega) (by have:=HAB.out;have:=HK.out;have:=HH.out;have:=HP.out;have:=HST.out;omega) HX.out HY.out;have HRR:=lh hr
   have hS:∀W',BW wr W'->(Ce W' bb (o+pc*5) (iV x.a)/\Ce W' bb (o+pc*5+1) (iV x.b)/\Ce W' bb (o+pc*5+2) (iV x.c)/\Ce W' bb (o+pc*5+3) (iV x.d)/\Ce W' bb (o+pc*5+4) (iV x.e)/\Ce W' bb (o+h*5) (iV y.a)/\Ce W' bb (o+h*5+1) (iV y.b)/\Ce W' bb (o+h*5+2) (iV y.c)/\Ce W' bb (o+h*5+3) (iV y.d)/\Ce W' bb (o+h*5+4) (iV y.e)):=fun W' h =>
    have q:=El.below ⟨c0,c1,c2,c3,c4⟩ h;have q':=El.below ⟨d0,d1,d2,d3,d4⟩ h
    ⟨q.1,q.2.1,q.2.2.1,q.2.2.2.1,q.2.2.2.2,q'.1,q'.2.1,q'.2.2.1,q'.2.2.2.1,q'.2.2.2.2⟩
   have HS:=lh hS;clear hS hr c0 c1 c2 c3 c4 d0 d1 d2 d3 d4;obtain ⟨e1,e2,e3⟩:=ypt hs hh hsb;have e4:wrap64 ((h:Int)+1)=((h+1:Nat):Int):=yo7 hhb;have e5:IntKind.i64.wrap ((p:Int)-(h:Int))=(pc:Int):=jaq hph hpc hpb;clear hs hh hsb hhb hph hpc hpb;go_upto_region 35 with fail
   have hs0:=HS.out _ bR;have hsd:=HS.out _ (yaf bR)
   go_region_held3 (fun W'=>Ce W' bb (o+pc*5) (iV x.a)/\Ce W' bb (o+pc*5+1) (iV x.b)/\Ce W' bb (o+pc*5+2) (iV x.c)/\Ce W' bb (o+pc*5+3) (iV x.d)/\Ce W' bb (o+pc*5+4) (iV x.e)/\Ce W' bb (o+h*5) (iV y.a)/\Ce W' bb (o+h*5+1) (iV y.b)/\Ce W' bb (o+h*5+2) (iV y.c)/\Ce W' bb (o+h*5+3) (iV y.d)/\Ce W' bb (o+h*5+4) (iV y.e)) (first | with_reducible exact hs0 | with_reducible exact hsd | with_reducible exact hs5 | with_reducible assumption) (first | (go_at_call 134;refine (yg8 x y r HRR _).mono ?_;rintro _ w5 ⟨rfl,hb5⟩;have HB5:Hid (BW wr w5):=yad (yaf bR) hb5;have hs5:=HS.out w5 HB5.out;clear hb5))
   have HB6:=lh (yad HBW.out HB5.out);clear hs0 hsd hs5;clear e1 e2 e3 e5
   go_wp2_with fail
   any_goals (exfalso;rename_i hbad;simp at hbad;omega)
   go_roundg (mid-(h+1))
   case measure=>have:=HH.out;have:=HK.out;omega
   case rel=>exact ⟨h+1,by first | rfl | simp only [e4],rfl,lh ⟨by have:=HH.out;have:=HK.out;omega,by have:=HH.out;have:=HK.out;omega,rfl⟩,HB6.out⟩
  ·have hkm:k=mid:=by have:=HK.out;omega
   exact zq1575a5
theorem yt5 (v:Value) (l:List R5) (HA:Hid (Asc l)) (a m b mid:Nat) (HAB:Hid (m<mid/\a+2<=m/\m+2<=b/\b<=l.length/\(a+b)/2=mid)) (hn:l.length<=10000) (IH:Hid (∀w',R5S w' v l->Calls Tryz.prog 209 #[v,iV (a:Int),iV (m:Int),iV (mid:Int),yew] w' (RetB (.tuple #[]) w'))) (w:World) (hv:R5S w v l) :
 Calls Tryz.prog 209 #[v,iV (a:Int),iV (m:Int),iV (b:Int),yew] w (RetB (.tuple #[]) w):= by
 have HV:=lh hv;obtain ⟨ao,cap,rfl⟩:=hv.shape;have hlen:=(Fl.len hv).2;unfold maxLen at hlen;obtain ⟨hlc,hcm,_⟩:=hlen;have HN:=lh hn;clear hv hlc hn;unfold yew at IH ⊢;obtain ⟨d,hd⟩:∃d,m-a=d:=⟨_,rfl⟩;obtain ⟨d2,hd2⟩:∃d2,b-m=d2:=⟨_,rfl⟩;have hdf:¬((d:Int)=1):=by have:=HAB.out;omega
 have hdf2:((d:Int) == 1)=false:=by simp;have:=HAB.out;omega
 have hdg:¬((d2:Int)=1):=by have:=HAB.out;omega
 have hdg2:((d2:Int) == 1)=false:=by simp;have:=HAB.out;omega
 obtain ⟨s0,hs0⟩:∃s0,a+b=s0:=⟨_,rfl⟩;obtain ⟨nn,hnn⟩:∃nn,mid+m=nn:=⟨_,rfl⟩;obtain ⟨p,hp⟩:∃p,nn-1=p:=⟨_,rfl⟩;have hp1:(nn:Int)-1=(p:Int):=by have:=HAB.out;omega
 have hmt:¬(mid:Int)<(m:Int):=by have:=HAB.out;omega
 have ham:(a:Int)<(m:Int):=by have:=HAB.out;omega
 have hmm:(m:Int)<(mid:Int):=by have:=HAB.out;omega
 have g2:m<=nn:=by have:=HAB.out;omega
 have g3:nn-m=mid:=by have:=HAB.out;omega
 have hs0b:s0<=1000000:=by have:=HAB.out;have:=HN.out;omega
 have hnnb:nn<=1000000:=by have:=HAB.out;have:=HN.out;omega
 have hs0h:s0/2=mid:=by rw [<-hs0];exact HAB.out.2.2.2.2
 have hma:a<=m:=by have:=HAB.out;omega
 have hbm:m<=b:=by have:=HAB.out;omega
 have hmM:m<=1000000:=by have:=HAB.out;have:=HN.out;omega
 have hbM:b<=1000000:=by have:=HAB.out;have:=HN.out;omega
 have hpM:-9223372036854775808<=(p:Int)/\(p:Int)<=9223372036854775807:=by omega
 have HP:=lh (And.intro hs0 (And.intro hnn hp));obtain ⟨f1,f2,f3⟩:=ypt hs0 hs0h hs0b;have f4:wrap64 ((mid:Int)+(m:Int))=(nn:Int):=yqp hnn hnnb;have f5:wrap64 ((nn:Int)-1)=(p:Int):=by rw [hp1];exact IntWalk.wrap64_in _ hpM
 have hda:wrap64 ((m:Int)-(a:Int))=(d:Int):=yjg hma hd hmM;have hdb:wrap64 ((b:Int)-(m:Int))=(d2:Int):=yjg hbm hd2 hbM;have F7:Hid (wrap64 ((nn:Int)-(m:Int))=(mid:Int)):=yjg g2 g3 hnnb;clear g2 g3;clear hd hd2 hs0 hnn hp hp1 hs0b hnnb hs0h hma hbm hmM hbM hpM
 go_enter Tryz.func209,Tryz.ntmps209
 go_wp2_with fail
 try simp only [hda,hdb,f1,f2,f3,f4,f5]
 clear hda hdb f1 f2 f3 f4 f5;go_loopg [20,21] (m-a) (fun g i j wr=>∃k:Nat,i=iV (k:Int)/\j=iV (m:Int)/\Hid (a<=k/\k<=m/\g=m-k)/\Hid (BW w wr))
 case atStart=>exact ⟨a,rfl,rfl,lh ⟨Nat.le_refl _,by have:=HAB.out;have:=HP.out;omega,rfl⟩,bR⟩
 case round =>
  obtain ⟨k,rfl,rfl,HK,HBW⟩:=hrel
  by_cases hkb:k<m
  ·exact zq15b02f
  ·have hkm:k=m:=by have:=HK.out;omega
   exact zq1575a5
theorem ywr (v:Value) (l:List R5) (HA:Hid (Asc l)) (a m b mid:Nat) (HAB:Hid (m=mid/\a+2<=m/\m+2<=b/\b<=l.length/\(a+b)/2=mid)) (hn:l.length<=10000) (w:World) (hv:R5S w v l) :
 Calls Tryz.prog 209 #[v,iV (a:Int),iV (m:Int),iV (b:Int),yew] w (RetB (.tuple #[]) w):= by
 have HV:=lh hv;obtain ⟨ao,cap,rfl⟩:=hv.shape;have hlen:=(Fl.len hv).2;unfold maxLen at hlen;obtain ⟨hlc,hcm,_⟩:=hlen;have HN:=lh hn;clear hv hlc hn;unfold yew;obtain ⟨d,hd⟩:∃d,m-a=d:=⟨_,rfl⟩;obtain ⟨d2,hd2⟩:∃d2,b-m=d2:=⟨_,rfl⟩;have hdf:¬((d:Int)=1):=by have:=HAB.out;omega
 have hdf2:((d:Int) == 1)=false:=by simp;have:=HAB.out;omega
 have hdg:¬((d2:Int)=1):=by have:=HAB.out;omega
 have hdg2:((d2:Int) == 1)=false:=by simp;have:=HAB.out;omega
 obtain ⟨s0,hs0⟩:∃s0,a+b=s0:=⟨_,rfl⟩;obtain ⟨nn,hnn⟩:∃nn,mid+m=nn:=⟨_,rfl⟩;obtain ⟨p,hp⟩:∃p,nn-1=p:=⟨_,rfl⟩;have hp1:(nn:Int)-1=(p:Int):=by have:=HAB.out;omega
 have hmt:¬(mid:Int)<(m:Int):=by have:=HAB.out;omega
 have ham:(a:Int)<(m:Int):=by have:=HAB.out;omega
 have hmm:¬(m:Int)<(mid:Int):=by have:=HAB.out;omega
 have g2:m<=nn:=by have:=HAB.out;omega
 have g3:nn-m=mid:=by have:=HAB.out;omega
 have hs0b:s0<=1000000:=by have:=HAB.out;have:=HN.out;omega
 have hnnb:nn<=1000000:=by have:=HAB.out;have:=HN.out;omega
 have hs0h:s0/2=mid:=by rw [<-hs0];exact HAB.out.2.2.2.2
 have hma:a<=m:=by have:=HAB.out;omega
 have hbm:m<=b:=by have:=HAB.out;omega
 have hmM:m<=1000000:=by have:=HAB.out;have:=HN.out;omega
 have hbM:b<=1000000:=by have:=HAB.out;have:=HN.out;omega
 have hpM:-9223372036854775808<=(p:Int)/\(p:Int)<=9223372036854775807:=by omega
 have HP:=lh (And.intro hs0 (And.intro hnn hp));obtain ⟨f1,f2,f3⟩:=ypt hs0 hs0h hs0b;have f4:wrap64 ((mid:Int)+(m:Int))=(nn:Int):=yqp hnn hnnb;have f5:wrap64 ((nn:Int)-1)=(p:Int):=by rw [hp1];exact IntWalk.wrap64_in _ hpM
 have hda:wrap64 ((m:Int)-(a:Int))=(d:Int):=yjg hma hd hmM;have hdb:wrap64 ((b:Int)-(m:Int))=(d2:Int):=yjg hbm hd2 hbM;have F7:Hid (wrap64 ((nn:Int)-(m:Int))=(mid:Int)):=yjg g2 g3 hnnb;clear g2 g3;clear hd hd2 hs0 hnn hp hp1 hs0b hnnb hs0h hma hbm hmM hbM hpM
 go_enter Tryz.func209,Tryz.ntmps209
 go_wp2_with fail
 try simp only [hda,hdb,f1,f2,f3,f4,f5]
 clear hda hdb f1 f2 f3 f4 f5;go_loopg [20,21] (m-a) (fun g i j wr=>∃k:Nat,i=iV (k:Int)/\j=iV (m:Int)/\Hid (a<=k/\k<=m/\g=m-k)/\Hid (BW w wr))
 case atStart=>exact ⟨a,rfl,rfl,lh ⟨Nat.le_refl _,by have:=HAB.out;have:=HP.out;omega,rfl⟩,bR⟩
 case round =>
  obtain ⟨k,rfl,rfl,HK,HBW⟩:=hrel
  by_cases hkb:k<m
  ·exact zq15b02f
  ·have hkm:k=m:=by have:=HK.out;omega
   subst hkm;have hlt:¬(k:Int)<(k:Int):=by omega
   clear hkb;have f7:=F7.out;go_wp2
   go_end0
   exact ⟨rfl,HBW.out⟩
theorem yw8 (v:Value) (l:List R5) (HA:Hid (Asc l)) (hn:l.length<=10000):∀(n a m b:Nat),b-a<=n->a<m->m<b->b<=l.length->∀(w:World),R5S w v l ->
 Calls Tryz.prog 209 #[v,iV (a:Int),iV (m:Int),iV (b:Int),yew] w (RetB (.tuple #[]) w):= by
 intro n
 induction n with
 | zero=>intro a m b h h1 h2;omega
 | succ n ih =>
  intro a m b h h1 h2 h3 w hv
  by_cases c1:m=a+1
  ·exact ywu v l HA a m b ⟨c1,h2,h3⟩ hn w hv
  ·by_cases c2:b=m+1
   ·exact yww v l HA a m b ⟨by omega,c2,h3⟩ hn w hv
   ·obtain ⟨mid,hmid⟩:∃mid,(a+b)/2=mid:=⟨_,rfl⟩
    by_cases c3:mid<m
    ·exact ys1 v l HA a m b mid ⟨c3,by omega,by omega,h3,hmid⟩ hn (fun w' hv'=>ih mid m b om c3 h2 h3 w' hv') w hv
    ·by_cases c4:m<mid
     ·exact yt5 v l HA a m b mid ⟨c4,by omega,by omega,h3,hmid⟩ hn (fun w' hv'=>ih a m mid om h1 c4 om w' hv') w hv
     ·exact ywr v l HA a m b mid ⟨by omega,by omega,by omega,h3,hmid⟩ hn w hv
theorem yxm (v:Value) (l:List R5) (HA:Hid (Asc l)) (hn:l.length<=10000) (a m b:Nat) (h1:a<m) (h2:m<b) (h3:b<=l.length) (w:World) (hv:R5S w v l) :
 Calls Tryz.prog 209 #[v,iV (a:Int),iV (m:Int),iV (b:Int),yew] w (RetB (.tuple #[]) w):=yw8 v l HA hn _ a m b (Nat.le_refl _) h1 h2 h3 w hv
end Go.Proofs.YtkongpjpkpfniaaGreat

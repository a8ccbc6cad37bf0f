/- TopPaid: parts of the proof, made small by a program (mini.py). -/
import Derived.Test.YtkongpjpkpfniaaGreatM01
import Derived.Test.YtkongpjpkpfniaaGreatM14
import Derived.Test.YtkongpjpkpfniaaGreatM38
set_option linter.unusedVariables false
set_option linter.unusedSimpArgs false
set_option maxRecDepth 100000
set_option maxHeartbeats 6400000
namespace Go.Proofs.YtkongpjpkpfniaaGreat
open Go.RowKit
theorem zq39cfb9 {q:Prop} (h:q:= by
 have h3:=Option.mem_toList.1 h2;rcases hor with h4 | h4
 ·exact .inl (H.issF x (h4▸h3))
 ·have h5:some WA.heap.size=some x:=h4▸h3
  simp only [Option.some.injEq] at h5;exact .inr om):q:=h
noncomputable instance (A:Acc) (day:Int):Decidable (oldS A day):=by unfold oldS;infer_instance
noncomputable def yj4 (A:Acc) (b:Bk) (c:R5):R5 :=
 if ydw b c.e≠0 then yax else if c.a=6 then yax else if oldS A (endD b c.e (c.a == 5)).c then yax else ⟨5,(endD b c.e (c.a == 5)).c,(endD b c.e (c.a == 5)).b,(endD b c.e (c.a == 5)).d,(endD b c.e (c.a == 5)).a⟩
noncomputable def yhe (A:Acc) (b:Bk) (c:R5):Int :=
 if ydw b c.e≠0 then ydw b c.e else if c.a=6 then 0 else if oldS A (endD b c.e (c.a == 5)).c then 11 else 0
def yn4 (x:R5) (E:Int) (base gb:Nat) (B':Bk) (L:List Nat) (w:World) (e:Ending) (w':World):Prop :=
 ∃dv',e=.returned (.tuple #[.agg #[iV x.a,iV x.b,iV x.c,iV x.d,iV x.e],iV E])∧ya6 w' base gb dv' B'∧DStp base L w w'
theorem ycf {base gb:Nat} {B':Bk} {dv2:Value} {L:List Nat} {w w2 W:World} {cs:List Value} (hk:yab [w.heap.size+1] w2 W) (hv:ya6 w2 base gb dv2 B') (hs:DStp base L w w2) (hbe:Blk w2 (w.heap.size+1) 150 cs) (hb:base≤w.heap.size) (hgb:gb<w.heap.size):ya6 W base gb dv2 B'∧DStp base L w W :=
 ⟨⟨hv.1,hv.2.1.keep hk (fun hm=>by simp only [ms] at hm;omega),yap hv.2.2 hk (fun q hq hm=>by
  simp only [ms] at hm;subst hm;exact yaj hv.2.2 hbe (by decide) hq.symm)⟩,
  hs.below.trans (hk.to_below (Nat.le_trans hb hs.keep.size) (fun x hx=>by simp only [ms] at hx;omega)),
  hs.keep.trans hk (fun x hx=>by simp only [ms] at hx;exact .inr om)⟩
theorem yis (lo g base gb:Nat) (A:Acc) (F:List Nat) (V:AV) (dv:Value) (b:Bk) (c:R5) (x:R5) (hx:Hid (yj4 A b c=x)) (E:Int) (hE:Hid (yhe A b c=E)) (B':Bk) (hB':Hid (ykw b c.e (c.a == 5)=B')) (hn:b.ds.length≤100000) (L:List Nat) (hL:Hid (gb∈L∧∀q,dv.ownBlock=some q→q∈L)) (w:World) (hLl:Hid (∀y∈L,y<w.heap.size)) (hb:base≤w.heap.size) (hv:ya6 w base gb dv b) (h:Hid (∀W,Below base w W→ybe lo g A F W V)) :
 Calls Tryz.prog 66 #[pV g,.agg #[iV c.a,iV c.b,iV c.c,iV c.d,iV c.e],pV gb] w (yn4 x E base gb B' L w):= by
 have HV:=lh hv;have HBS:=lh hb;obtain ⟨D,hD⟩:∃D,endD b c.e (c.a == 5)=D:=⟨_,rfl⟩;obtain ⟨X,hX⟩:∃X,ydw b c.e=X:=⟨_,rfl⟩;have HD:=lh hD;have HX:=lh hX;have hx2:=hx.out;have hE2:=hE.out;unfold yj4 at hx2;unfold yhe at hE2;rw [hD,hX] at hx2;rw [hD,hX] at hE2;have HX2:=lh hx2;have HE2:=lh hE2;clear hv hb hD hX hx2 hE2 hx hE
 go_enter Tryz.func66,Tryz.ntmps66
 go_wp2_with fail
 refine (yq2 base gb dv b c.e (c.a == 5) _ (HV.out.below (by repeat (first | with_reducible exact bR | with_reducible refine yaa ?_ _))) hn (by simp only [World.size_alloc];have:=HBS.out;omega) D HD X HX B' hB' L hL).mono ?_;rintro _ w2 ⟨dv2,rfl,hv2,hs2⟩;have HV2:=lh hv2;have HBX:Hid (Blk w2 w.heap.size 48 [iV c.a,iV c.b,iV c.c,iV c.d,iV c.e]):=((yae w _ _ _ rfl).below (yaa bR _)).keep hs2.keep (fun hm=>by have:=hLl.out _ hm;omega);have HBE:Hid (Blk w2 (w.heap.size+1) 150 [iZ,iZ,iZ,iZ,iZ]):=(ybc _ _ _ _ (World.size_alloc _ _)).keep hs2.keep (fun hm=>by have:=hLl.out _ hm;omega);have HS2:Hid (DStp base L w w2):=⟨(((Below.refl base w).alloc HBS.out _).alloc (by rw [World.size_alloc];have:=HBS.out;omega) _).trans hs2.below,(((yab.refl _ _).alloc _).alloc _).trans hs2.keep (fun x hx=>.inl hx)⟩;have HSZ:Hid (w.heap.size+1<w2.heap.size):=HBE.out.lt;clear hv2 hs2;have c0:=HBX.out.cell 0;simp only [gz,gs] at c0;have r0:=HBE.out.cell 0;have r1:=HBE.out.cell 1;have r2:=HBE.out.cell 2;have r3:=HBE.out.cell 3;have r4:=HBE.out.cell 4;simp only [gz,gs] at r0 r1 r2 r3 r4;have rf0:=HBE.out.frozen 0;have rf1:=HBE.out.frozen 1;have rf2:=HBE.out.frozen 2;have rf3:=HBE.out.frozen 3;have rf4:=HBE.out.frozen 4;have kx:=HBX.out.lt;have ke:=HBE.out.lt
 by_cases hX0:X=0
 ·subst hX0
  have hz:¬((0:Int)≠0):=by simp
  by_cases h6:c.a=6
  ·obtain rfl:(⟨0,0,0,0,0⟩:R5)=x:= by
    have h9:=HX2.out;rw [if_neg hz,if_pos h6] at h9;exact h9
   obtain rfl:0=E:= by
    have h9:=HE2.out;rw [if_neg hz,if_pos h6] at h9;exact h9
   have h6':(c.a == 6)=true:=by simpa using h6
   clear h6 hz HX HE2 HX2 HD hB'
   go_wp2_with fail
   have hf:=(((((HBE.out.set 0 (iZ)).set 1 (iZ)).set 2 (iZ)).set 3 (iZ)).set 4 (iZ)).below (yaa bR (.cells #[iV D.a,iV D.b,iV D.c,iV D.d,iV D.e] 155));have q0:World.cell? _ ⟨w.heap.size+1,0,none⟩=some (iZ):=hf.cell 0;have q1:World.cell? _ ⟨w.heap.size+1,1,none⟩=some (iZ):=hf.cell 1;have q2:World.cell? _ ⟨w.heap.size+1,2,none⟩=some (iZ):=hf.cell 2;have q3:World.cell? _ ⟨w.heap.size+1,3,none⟩=some (iZ):=hf.cell 3;have q4:World.cell? _ ⟨w.heap.size+1,4,none⟩=some (iZ):=hf.cell 4;refine bodyPost_ret (v:=.tuple #[.agg #[iZ,iZ,iZ,iZ,iZ],iZ]) (by simp [results,Tryz.results66,go_sem,q0,q1,q2,q3,q4]) rfl ⟨dv2,rfl,ycf (by repeat (first | with_reducible exact yab.refl _ _ | with_reducible exact HK3.out | with_reducible refine yab.alloc ?_ _ | with_reducible refine yab.drew ?_ | with_reducible refine yab.setCell ?_ (.inl (List.mem_cons_self ..)) _)) HV2.out HS2.out HBE.out HBS.out (hLl.out _ hL.out.1)⟩
  ·have h6':(c.a == 6)=false:=by simpa using h6
   obtain ⟨od,hod⟩:∃od,decide (oldS A D.c)=od:=⟨_,rfl⟩
   have HOD:Hid (od=true↔oldS A D.c):= by
    show _↔_;rw [←hod];exact decide_eq_true_iff
   clear hod;have H6:=lh h6;have HZ:=lh hz;clear h6 hz
   go_wp2_with fail
   refine (yk7 lo g A F V D.c od HOD _ (h.out _ (HS2.out.below.alloc (Nat.le_trans HBS.out HS2.out.keep.size) _))).mono ?_;rintro _ w3 ⟨rfl,hb3⟩;have HD3:Hid (Blk w3 w2.heap.size 155 [iV D.a,iV D.b,iV D.c,iV D.d,iV D.e]):=(yae w2 _ _ _ rfl).below hb3;have HBE3:=(HBE.out.below (yaa bR _)).below hb3;have HK3:Hid (yab [w.heap.size+1] w2 w3):=((yab.refl _ _).alloc _).below hb3;clear hb3 r0 r1 r2 r3 r4 rf0 rf1 rf2 rf3 rf4 c0 kx ke;have d0:=HD3.out.cell 0;have d1:=HD3.out.cell 1;have d2:=HD3.out.cell 2;have d3:=HD3.out.cell 3;simp only [gz,gs] at d0 d1 d2 d3;have r0:=HBE3.cell 0;have r1:=HBE3.cell 1;have r2:=HBE3.cell 2;have r3:=HBE3.cell 3;have r4:=HBE3.cell 4;simp only [gz,gs] at r0 r1 r2 r3 r4;have rf0:=HBE3.frozen 0;have rf1:=HBE3.frozen 1;have rf2:=HBE3.frozen 2;have rf3:=HBE3.frozen 3;have rf4:=HBE3.frozen 4;have kd:=HD3.out.lt;have ke:=HBE3.lt;clear HBE3;cases od with
   | true =>
    obtain rfl:(⟨0,0,0,0,0⟩:R5)=x:= by
     have h9:=HX2.out;rw [if_neg HZ.out,if_neg H6.out,if_pos (HOD.out.1 rfl)] at h9;exact h9
    obtain rfl:11=E:= by
     have h9:=HE2.out;rw [if_neg HZ.out,if_neg H6.out,if_pos (HOD.out.1 rfl)] at h9;exact h9
    go_wp2_with fail
    refine bodyPost_ret (v:=.tuple #[.agg #[iZ,iZ,iZ,iZ,iZ],iV 11]) (by simp [results,Tryz.results66,go_sem,r0,r1,r2,r3,r4]) rfl ⟨dv2,rfl,ycf (by repeat (first | with_reducible exact yab.refl _ _ | with_reducible exact HK3.out | with_reducible refine yab.alloc ?_ _ | with_reducible refine yab.drew ?_ | with_reducible refine yab.setCell ?_ (.inl (List.mem_cons_self ..)) _)) HV2.out HS2.out HBE.out HBS.out (hLl.out _ hL.out.1)⟩
   | false =>
    have hno:¬oldS A D.c:=fun hh=>by have:=HOD.out.2 hh;cases this
    obtain rfl:(⟨5,D.c,D.b,D.d,D.a⟩:R5)=x:= by
     have h9:=HX2.out;rw [if_neg HZ.out,if_neg H6.out,if_neg hno] at h9;exact h9
    obtain rfl:0=E:= by
     have h9:=HE2.out;rw [if_neg HZ.out,if_neg H6.out,if_neg hno] at h9;exact h9
    go_wp2_with fail
    refine bodyPost_ret (v:=.tuple #[.agg #[iV 5,iV D.c,iV D.b,iV D.d,iV D.a],iZ]) (by simp [results,Tryz.results66,go_sem,r0,r1,r2,r3,r4]) rfl ⟨dv2,rfl,ycf (by repeat (first | with_reducible exact yab.refl _ _ | with_reducible exact HK3.out | with_reducible refine yab.alloc ?_ _ | with_reducible refine yab.drew ?_ | with_reducible refine yab.setCell ?_ (.inl (List.mem_cons_self ..)) _)) HV2.out HS2.out HBE.out HBS.out (hLl.out _ hL.out.1)⟩
 ·obtain rfl:(⟨0,0,0,0,0⟩:R5)=x:= by
   have h9:=HX2.out;rw [if_pos hX0] at h9;exact h9
  obtain rfl:X=E:= by
   have h9:=HE2.out;rw [if_pos hX0] at h9;exact h9
  have hX0':(X != 0)=true:=by simpa using hX0
  clear hX0
  go_wp2_with fail
  have hf:=(((((HBE.out.set 0 (iZ)).set 1 (iZ)).set 2 (iZ)).set 3 (iZ)).set 4 (iZ)).below (yaa bR (.cells #[iV D.a,iV D.b,iV D.c,iV D.d,iV D.e] 155));have q0:World.cell? _ ⟨w.heap.size+1,0,none⟩=some (iZ):=hf.cell 0;have q1:World.cell? _ ⟨w.heap.size+1,1,none⟩=some (iZ):=hf.cell 1;have q2:World.cell? _ ⟨w.heap.size+1,2,none⟩=some (iZ):=hf.cell 2;have q3:World.cell? _ ⟨w.heap.size+1,3,none⟩=some (iZ):=hf.cell 3;have q4:World.cell? _ ⟨w.heap.size+1,4,none⟩=some (iZ):=hf.cell 4;refine bodyPost_ret (v:=.tuple #[.agg #[iZ,iZ,iZ,iZ,iZ],iV X]) (by simp [results,Tryz.results66,go_sem,q0,q1,q2,q3,q4]) rfl ⟨dv2,rfl,ycf (by repeat (first | with_reducible exact yab.refl _ _ | with_reducible exact HK3.out | with_reducible refine yab.alloc ?_ _ | with_reducible refine yab.drew ?_ | with_reducible refine yab.setCell ?_ (.inl (List.mem_cons_self ..)) _)) HV2.out HS2.out HBE.out HBS.out (hLl.out _ hL.out.1)⟩
theorem yj0 {cyc day day':Int} (hd:day≤day') (k:Nat):∀f:Int,(ybd cyc day k f).1 <+: (ybd cyc day' k f).1:= by
 induction k with
 | zero=>intro f;exact List.prefix_refl _
 | succ k ih =>
  intro f
  by_cases hb:(yb8 f cyc).2=0
  ·obtain ⟨l,hl⟩:∃l,yb8 f cyc=(l,0):=⟨_,Prod.ext rfl hb⟩
   by_cases h1:l<day∧k≠0
   ·rw [ye0 hl h1.1 h1.2,ye0 hl (by have:=h1.1;omega) h1.2]
    exact List.cons_prefix_cons.2 ⟨rfl,ih _⟩
   ·rw [yez hl h1]
    by_cases h2:l<day'∧k≠0
    ·rw [ye0 hl h2.1 h2.2]
     exact List.cons_prefix_cons.2 ⟨rfl,List.nil_prefix⟩
    ·rw [yez hl h2]
     exact List.prefix_refl _
  ·rw [ye3 hb]
   exact List.nil_prefix
theorem ygq {cyc day day':Int} (hd:day≤day') (k:Nat) (f:Int):(ybd cyc day k f).1.length≤(ybd cyc day' k f).1.length:=(yj0 hd k f).length_le
theorem ynb {t:Tm} {today:Int} (hr:ye2 t today=0):∃ps,ybd t.cyc today 300 t.start=(ps,true)∧yg9 t.start today ps∧ps.length≤300∧t.start≤today∧today≤2932896∧(ofS t.start t.cyc today).2=0:= by
 unfold ye2 at hr
 split at hr
 ·cases hr
 ·split at hr
  ·cases hr
  ·rename_i h1 h2
   have h3:(ofS t.start t.cyc today).2=0:=by simpa using h2
   have h3':=h3;unfold ofS at h3
   split at h3
   ·rename_i h4;exact absurd h3 h4
   ·split at h3
    ·rename_i h5
     refine ⟨_,Prod.ext rfl h5,yik 300 (Prod.ext rfl h5),yib _ _ _ _,by omega,by omega,h3'⟩
    ·cases h3
theorem yv0 {t:Tm} {n fr til:Int} {p q:Ps} {rs ns:List Int} {g:Bool} {x:St} {e:Int} (h:ycd t n fr til p rs ns g=(some x,q,e)):x.ls.length=p.bs.length:= by
 have hl:=yls h;unfold ycd at h
 split at h
 ·cases h
 split at h
 ·cases h
 split at h
 ·cases h
 split at h
 ·cases h
 ·cases h
  rw [←hl];exact yeh _ _ _
theorem ywj {t:Tm} {l:List R5} {fr til:Int} {s:RS} {x:St} (hx:x∈(ydn t l fr til s).1.out):x∈s.out∨x.ls.length=s.p.bs.length:= by
 unfold ydn at hx
 split at hx
 ·exact .inl hx
 ·split at hx
  ·exact .inl hx
  ·cases hc:ycd t ((s.out.length:Int)+1) fr til s.p s.rs (intS t.right t.ts s.X s.Y (yet l s.out fr).1).1 (yet l s.out fr).1 with
   | mk so r =>
    obtain ⟨q,e⟩:=r;rw [hc] at hx;cases so with
    | none=>exact .inl hx
    | some y =>
     simp only [List.mem_append,ms] at hx;rcases hx with hx | rfl
     ·exact .inl hx
     ·exact .inr (yv0 hc)
theorem yfj {t:Tm} {l:List R5} {ps:List (Int×Int)} {f day today:Int} {s:RS} (h:WInv t l ps day s) (hc:yg9 f today ps) (hd:day<today) (hl:∀x∈s.out,x.ls.length≤t.ts.length) (h0:(ybb t l ps day s).2=0) :
 WInv t l ps (day+1) (ybb t l ps day s).1∧∀x∈(ybb t l ps day s).1.out,x.ls.length≤t.ts.length:= by
 unfold ybb at h0 ⊢
 split
 ·rename_i he
  rw [if_pos he] at h0;refine ⟨h.endShut hc hd he _ h0,fun x hx=>?_⟩;rcases ywj hx with h1 | h1
  ·exact hl x h1
  ·rw [h1];exact Nat.le_of_eq h.bs
 ·rename_i hne
  exact ⟨h.endOn hne,fun x hx=>hl x hx⟩
theorem yv8 {t:Tm} {l:List R5} {ps:List (Int×Int)} {f today:Int} (hc:yg9 f today ps) (k:Nat):∀(day:Int) (s:RS),WInv t l ps day s→day+(k:Int)=today→(∀x∈s.out,x.ls.length≤t.ts.length)→(ycm t l ps k day s).2=0 →
 WInv t l ps today (ycm t l ps k day s).1∧∀x∈(ycm t l ps k day s).1.out,x.ls.length≤t.ts.length:= by
 induction k with
 | zero =>
  intro day s h hd hl h0;obtain rfl:day=today:=by simpa using hd
  exact ⟨h.ev,fun x hx=>hl x hx⟩
 | succ k ih =>
  intro day s h hd hl h0;unfold ycm at h0 ⊢
  split
  ·rename_i h1;rw [if_pos h1] at h0;exact absurd h0 h1
  ·rename_i h1
   rw [if_neg h1] at h0
   split
   ·rename_i h2;rw [if_pos h2] at h0;exact absurd h0 h2
   ·rename_i h2
    rw [if_neg h2] at h0;have h3:(ybb t l ps day (ybh l day s).1).2=0:=by simpa using h2
    obtain ⟨h4,h5⟩:=yfj h.ev hc om (fun x hx=>hl x hx) h3;exact ih _ _ h4 om h5 h0
theorem jar (e:Int):(rn0 e).e=e:=rfl
theorem ywf {t:Tm} {l:List R5} {today:Int} (h:(runS t l today).e=0):yiz t l today=0∧(goS t l today).2=0∧runS t l today=⟨(goS t l today).1.p,(goS t l today).1.rs,(goS t l today).1.out,0⟩:= by
 by_cases h1:yiz t l today=0
 ·by_cases h2:(goS t l today).2=0
  ·refine ⟨h1,h2,?_⟩
   unfold runS;rw [if_neg (by rw [h1];simp),if_neg (by rw [h2];simp)]
  ·unfold runS at h
   rw [if_neg (by rw [h1];simp),if_pos h2,jar] at h;exact absurd h h2
 ·unfold runS at h
  rw [if_pos h1,jar] at h;exact absurd h h1
structure yqw (t:Tm) (l:List R5) (today:Int) (ps:List (Int×Int)):Prop where
 go:(goS t l today).2=0
 eq:runS t l today=⟨(goS t l today).1.p,(goS t l today).1.rs,(goS t l today).1.out,0⟩
 sp:ybd t.cyc today 300 t.start=(ps,true)
 ch:yg9 t.start today ps
 len:ps.length≤300
 lo:t.start≤today
 hi:today≤2932896
 of':(ofS t.start t.cyc today).2=0
 inv:WInv t l ps today (goS t l today).1
 ls:∀x∈(goS t l today).1.out,x.ls.length≤t.ts.length
theorem yfx {t:Tm} {l:List R5} {today:Int} (hg:yha t l today) (h:(runS t l today).e=0):∃ps,yqw t l today ps:= by
 obtain ⟨h1,h2,h3⟩:=ywf h;rw [ygz hg] at h1;obtain ⟨ps,a1,a2,a3,a4,a5,a6⟩:=ynb h1;have hgo:goS t l today=ycm t l ps (today-t.start).toNat t.start (rs0 t):=by unfold goS;rw [a1]
 have h2':=h2;rw [hgo] at h2';obtain ⟨b1,b2⟩:=yv8 a2 (today-t.start).toNat t.start (rs0 t) (WInv.first a2) om (by simp [rs0]) h2';rw [←hgo] at b1 b2;exact ⟨ps,h2,h3,a1,a2,a3,a4,a5,a6,b1,b2⟩
theorem yqw.out {t:Tm} {l:List R5} {today:Int} {ps:List (Int×Int)} (h:yqw t l today ps):(runS t l today).out.length+1=ps.length:= by
 rw [h.eq];have h1:=h.inv.out;have h2:=h.inv.hi;rcases Nat.lt_or_ge ((goS t l today).1.out.length+1) ps.length with h3 | h3
 ·have:=h.ch.early _ h3
  omega
 ·show (goS t l today).1.out.length+1=ps.length
  omega
theorem yqw.bs {t:Tm} {l:List R5} {today:Int} {ps:List (Int×Int)} (h:yqw t l today ps):(runS t l today).p.bs.length=t.ts.length∧(runS t l today).rs.length=t.ts.length:= by
 rw [h.eq];exact ⟨h.inv.bs,h.inv.rs⟩
theorem yqw.outb {t:Tm} {l:List R5} {today:Int} {ps:List (Int×Int)} (h:yqw t l today ps):∀x∈(runS t l today).out,x.ls.length≤t.ts.length:= by
 rw [h.eq];exact h.ls
theorem yjk {l:List St} {i:Nat} (h:i<l.length):l.getD i St0∈l:= by
 simp only [List.getD,List.getElem?_eq_getElem h,Option.getD_some];exact List.getElem_mem h
noncomputable def yfz (A:Acc) (b:Bk) (c:R5):Int :=
 if c.a≠2∧¬(1≤c.c∧c.c≤(A.t.ts.length:Int)) then 7
 else if (c.a=7∧(c.d<0∨10000000<c.d))∨(c.a≠7∧(c.d<1∨1000000000000000<c.d)) then 8
 else if c.a=1 then (if A.t.lim<wrap64 (wrap64 (yb4 A.R.p.bs A.R.p.c A.R.p.d-A.R.p.c)+c.d) then 9 else 0)
 else if c.a=3 then (if c.b<A.t.start∨A.today<c.b then 10 else if oldS A c.b then 11 else 0)
 else if c.a=4 then (if A.R.p.bs.getD (c.c-1).toNat 0<c.d then 9 else yd6 b c.c c.d)
 else 0
noncomputable def evEv (A:Acc) (b:Bk) (c:R5):R5 :=
 if yfz A b c≠0 then yax
 else if c.a=1 then ⟨1,A.today,c.c,c.d,0⟩
 else if c.a=2 then ⟨2,A.today,0,c.d,0⟩
 else if c.a=3 then ⟨3,c.b,c.c,c.d,0⟩
 else if c.a=4 then ⟨4,A.today,c.c,c.d,yh6 b c.c c.d⟩
 else ⟨6,A.today,c.c,c.d,0⟩
noncomputable def evBk (A:Acc) (b:Bk) (c:R5):Bk:=if yfz A b c=0∧c.a=4 then yfp b c.c A.today c.d else b
noncomputable def askS (A:Acc) (c:R5):R5×Int×Bk :=
 if c.a=5∨c.a=6 then (yj4 A A.bk c,yhe A A.bk c,ykw A.bk c.e (c.a == 5)) else (evEv A A.bk c,yfz A A.bk c,evBk A A.bk c)
noncomputable def yda (A:Acc) (c:R5):Acc×Int :=
 if (askS A c).2.1≠0 then (A,(askS A c).2.1)
 else if c.a=6 then ({ A with seq:=A.seq+1,bk:=(askS A c).2.2 },0)
 else if (yb9 A (askS A c).1).2≠0 then (A,(yb9 A (askS A c).1).2)
 else ({ (yb9 A (askS A c).1).1 with bk:=(askS A c).2.2 },0)
noncomputable def yh3 (A:Acc) (d:Int):Acc×Int :=
 if d<1∨400<d then (A,1)
 else if (ofS A.t.start A.t.cyc (A.today+d)).2≠0 then (A,10)
 else if (runS A.t A.ev (A.today+d)).e≠0 then (A,(runS A.t A.ev (A.today+d)).e)
 else ({ A with today:=A.today+d,R:=runS A.t A.ev (A.today+d),seq:=A.seq+1,iss:=A.iss++(runS A.t A.ev (A.today+d)).out.drop A.R.out.length },0)
noncomputable def doS (A:Acc) (c:R5):Acc×Int :=
 if c.a=8 then yh3 A c.b
 else if c.a=9 then (A,0)
 else if c.a=10 then (A,if c.e<1∨(A.iss.length:Int)<c.e then 12 else 0)
 else if c.a=11 then (A,if c.e<1∨(A.R.out.length:Int)<c.e then 12 else 0)
 else if chg c.a=false then (A,1)
 else yda A c
theorem yjx {α:Type} {p:α×Int} (h:p.2=0):p=(p.1,0):=by rw [←h]
theorem yi7 (A:Acc) (x:R5):(∃e,e≠0∧yb9 A x=(A,e))∨(A.t.rightE x=0∧A.ev.length<2000∧(runS A.t (ycw A x) A.today).e=0∧yb9 A x=({ A with ev:=ycw A x,R:=runS A.t (ycw A x) A.today,seq:=A.seq+1 },0)):= by
 unfold yb9;generalize A.t.rightE x=r;generalize runS A.t (ycw A x) A.today=R;generalize btwE A.R.out R.out=b
 by_cases h1:r≠0
 ·rw [if_pos h1];exact .inl ⟨_,h1,rfl⟩
 ·rw [if_neg h1]
  by_cases h2:2000≤A.ev.length
  ·rw [if_pos h2];exact .inl ⟨_,by decide,rfl⟩
  ·rw [if_neg h2]
   by_cases h3:R.e≠0
   ·rw [if_pos h3];exact .inl ⟨_,h3,rfl⟩
   ·rw [if_neg h3]
    by_cases h4:b≠0
    ·rw [if_pos h4];exact .inl ⟨_,h4,rfl⟩
    ·rw [if_neg h4];exact .inr ⟨by simpa using h1,by omega,by simpa using h3,rfl⟩
theorem yn2 {A A':Acc} {x:R5} (hA:ycy A) (hx:x.b≤A.today) (h:yb9 A x=(A',0)) :
 A'={ A with ev:=ycw A x,R:=runS A.t (ycw A x) A.today,seq:=A.seq+1 }∧ycy A'∧A.t.rightE x=0∧A.ev.length<2000:= by
 rcases yi7 A x with ⟨e,h1,h2⟩ | ⟨hr,hl,he,h2⟩
 ·rw [h] at h2
  simp only [Prod.mk.injEq] at h2;exact absurd h2.2.symm h1
 rw [h] at h2;simp only [Prod.mk.injEq,and_true] at h2;subst h2;have hg:=ykf hA hr hx hl;obtain ⟨ps,hp⟩:=yfx hg he;obtain ⟨qs,hq⟩:=yfx hA.goods (by rw [hA.run];exact hA.e);have hts:=yci hA.goods.terms;have e1:=hp.out;have e2:=hq.out;have e3:=hp.sp;have e4:=hp.len;rw [hq.sp] at e3
 obtain rfl:qs=ps:= by
  simp only [Prod.mk.injEq,and_true] at e3;exact e3
 have e5:=hA.run;rw [e5] at e2;refine ⟨rfl,⟨hg,yus hA.asc x,rfl,he,?_,hA.issb,?_,?_,hp.bs.1,hp.bs.2,?_,hA.bkd,hA.bkl⟩,hr,hl⟩
 ·show A.iss.length=(runS A.t (ycw A x) A.today).out.length
  rw [hA.issl];omega
 ·show (runS A.t (ycw A x) A.today).out.length≤300
  omega
 ·intro i hi
  have:=hp.outb _ (yjk hi);show ((runS A.t (ycw A x) A.today).out.getD i St0).ls.length≤1000;omega
 ·show 0≤A.seq+1
  have:=hA.seq;omega
theorem ycy.book {A:Acc} (h:ycy A) {b:Bk} (hd:∀d∈b.ds,d.c≤A.today) (hl:b.ds.length≤2000):ycy { A with bk:=b } :=
 ⟨h.goods,h.asc,h.run,h.e,h.issl,h.issb,h.outl,h.outb,h.bs,h.rs,h.seq,hd,hl⟩
theorem ycy.more {A:Acc} (h:ycy A):ycy { A with seq:=A.seq+1 } :=
 ⟨h.goods,h.asc,h.run,h.e,h.issl,h.issb,h.outl,h.outb,h.bs,h.rs,(show 0≤A.seq+1 by have:=h.seq;omega),h.bkd,h.bkl⟩
theorem yux {b:Bk} {tr day am today:Int} (hd:∀d∈b.ds,d.c≤today) (hl:b.ds.length≤2000) (h:day≤today):(∀d∈(yfp b tr day am).ds,d.c≤today)∧(yfp b tr day am).ds.length≤2000:= by
 unfold yfp
 split
 ·rename_i h1
  refine ⟨fun d hd'=>?_,?_⟩
  ·simp only [List.mem_append,ms] at hd'
   rcases hd' with h2 | rfl
   ·exact hd d h2
   ·exact h
  ·have h2:¬2000≤b.ds.length:= by
    unfold yd6 at h1
    split at h1
    ·cases h1
    split at h1
    ·cases h1
    split at h1
    ·cases h1
    split at h1
    ·cases h1
    ·assumption
   simp only [List.length_append,List.length_singleton];omega
 ·exact ⟨hd,hl⟩
theorem ysb (b:Bk) (ref:Int) (lost:Bool):(yi4 b ref lost).c=(b.ds.getD (ref-1).toNat yax).c:=rfl
theorem yn6 {b:Bk} {ref:Int} (h:ydw b ref=0):(ref-1).toNat<b.ds.length:= by
 unfold ydw at h
 split at h
 ·cases h
 ·omega
theorem ykb {l:List R5} {i:Nat} (h:i<l.length):l.getD i yax∈l:= by
 simp only [List.getD,List.getElem?_eq_getElem h,Option.getD_some];exact List.getElem_mem h
theorem yxu {b:Bk} {ref today:Int} {lost:Bool} (hd:∀d∈b.ds,d.c≤today) (hl:b.ds.length≤2000):(∀d∈(ykw b ref lost).ds,d.c≤today)∧(ykw b ref lost).ds.length≤2000:= by
 unfold ykw
 split
 ·rename_i h1
  refine ⟨fun d hd'=>?_,by simpa using hl⟩;rcases List.mem_or_eq_of_mem_set hd' with h2 | rfl
  ·exact hd d h2
  ·rw [ysb]
   exact hd _ (ykb (yn6 h1))
 ·exact ⟨hd,hl⟩
theorem yu7 {A:Acc} (hA:ycy A) (c:R5):(∀d∈(askS A c).2.2.ds,d.c≤A.today)∧(askS A c).2.2.ds.length≤2000:= by
 unfold askS
 split
 ·exact yxu hA.bkd hA.bkl
 ·show (∀d∈(evBk A A.bk c).ds,d.c≤A.today)∧(evBk A A.bk c).ds.length≤2000
  unfold evBk
  split
  ·exact yux hA.bkd hA.bkl (Int.le_refl _)
  ·exact ⟨hA.bkd,hA.bkl⟩
theorem yua {A:Acc} (hA:ycy A) {c:R5} (h0:yhe A A.bk c=0) (h6:c.a≠6):(yj4 A A.bk c).b≤A.today:= by
 unfold yhe at h0;unfold yj4
 by_cases h1:ydw A.bk c.e≠0
 ·rw [if_pos h1] at h0;exact absurd h0 h1
 ·rw [if_neg h1,if_neg h6] at h0 ⊢
  by_cases h2:oldS A (endD A.bk c.e (c.a == 5)).c
  ·rw [if_pos h2] at h0;cases h0
  ·rw [if_neg h2]
   have h1':ydw A.bk c.e=0:=by simpa using h1
   show (endD A.bk c.e (c.a == 5)).c≤_;unfold endD;rw [if_pos h1',ysb];exact hA.bkd _ (ykb (yn6 h1'))
theorem yvt {A:Acc} {b:Bk} {c:R5} (h0:yfz A b c=0) (h3:c.a=3):c.b≤A.today:= by
 unfold yfz at h0
 by_cases k1:c.a≠2∧¬(1≤c.c∧c.c≤(A.t.ts.length:Int))
 ·rw [if_pos k1] at h0;cases h0
 rw [if_neg k1] at h0
 by_cases k2:(c.a=7∧(c.d<0∨10000000<c.d))∨(c.a≠7∧(c.d<1∨1000000000000000<c.d))
 ·rw [if_pos k2] at h0;cases h0
 rw [if_neg k2,if_neg om,if_pos h3] at h0
 by_cases k3:c.b<A.t.start∨A.today<c.b
 ·rw [if_pos k3] at h0;cases h0
 ·omega
theorem jao {A:Acc} {b:Bk} {c:R5} (h0:yfz A b c=0):(evEv A b c).b≤A.today:= by
 unfold evEv;rw [if_neg (by rw [h0];simp)]
 by_cases h1:c.a=1
 ·rw [if_pos h1];exact Int.le_refl _
 rw [if_neg h1]
 by_cases h2:c.a=2
 ·rw [if_pos h2];exact Int.le_refl _
 rw [if_neg h2]
 by_cases h3:c.a=3
 ·rw [if_pos h3];show c.b≤A.today;exact yvt h0 h3
 rw [if_neg h3]
 by_cases h4:c.a=4
 ·rw [if_pos h4];exact Int.le_refl _
 ·rw [if_neg h4];exact Int.le_refl _
theorem yvu {A:Acc} (hA:ycy A) {c:R5} (h0:(askS A c).2.1=0) (h6:c.a≠6):(askS A c).1.b≤A.today:= by
 unfold askS at h0 ⊢
 split
 ·rename_i h1
  rw [if_pos h1] at h0;exact yua hA h0 h6
 ·rename_i h1
  rw [if_neg h1] at h0;exact jao h0
theorem ysp {A:Acc} (hA:ycy A) (c:R5):ycy (yda A c).1∧(yda A c).1.t=A.t∧(yda A c).1.today=A.today∧(yda A c).1.seq≤A.seq+1∧(yda A c).1.iss=A.iss:= by
 have hb:=yu7 hA c;have hseq:A.seq≤A.seq+1:=by omega
 unfold yda
 split
 ·exact ⟨hA,rfl,rfl,hseq,rfl⟩
 rename_i h1;have h1':(askS A c).2.1=0:=by simpa using h1
 split
 ·exact ⟨hA.more.book hb.1 hb.2,rfl,rfl,Int.le_refl _,rfl⟩
 rename_i h2
 split
 ·exact ⟨hA,rfl,rfl,hseq,rfl⟩
 rename_i h3;have h3':(yb9 A (askS A c).1).2=0:=by simpa using h3
 obtain ⟨e1,e2,e3,e4⟩:=yn2 hA (yvu hA h1' h2) (A':=(yb9 A (askS A c).1).1) (yjx h3');have et:(yb9 A (askS A c).1).1.t=A.t:=by rw [e1]
 have ed:(yb9 A (askS A c).1).1.today=A.today:=by rw [e1]
 have es:(yb9 A (askS A c).1).1.seq=A.seq+1:=by rw [e1]
 have ei:(yb9 A (askS A c).1).1.iss=A.iss:=by rw [e1]
 exact ⟨e2.book (by rw [ed];exact hb.1) hb.2,et,ed,Int.le_of_eq es,ei⟩
theorem yxo {A:Acc} (hA:ycy A) (d:Int):ycy (yh3 A d).1∧(yh3 A d).1.t=A.t∧(yh3 A d).1.seq≤A.seq+1:= by
 have hseq:A.seq≤A.seq+1:=by omega
 unfold yh3
 split
 ·exact ⟨hA,rfl,hseq⟩
 rename_i hd
 split
 ·exact ⟨hA,rfl,hseq⟩
 split
 ·exact ⟨hA,rfl,hseq⟩
 rename_i h2 h3;have he:(runS A.t A.ev (A.today+d)).e=0:=by simpa using h3
 have hg:yha A.t A.ev (A.today+d):=⟨hA.goods.terms,hA.goods.events,fun x hx=>by have:=hA.goods.late x hx;omega,hA.goods.len⟩;obtain ⟨ps,hp⟩:=yfx hg he;obtain ⟨qs,hq⟩:=yfx hA.goods (by rw [hA.run];exact hA.e);have hts:=yci hA.goods.terms;have e1:=hp.out;have e2:=hq.out;have e3:=hp.len
 have e4:qs.length≤ps.length:= by
  have h:=ygq (cyc:=A.t.cyc) (day:=A.today) (day':=A.today+d) om 300 A.t.start;rw [hp.sp,hq.sp] at h;exact h
 rw [hA.run] at e2;refine ⟨⟨hg,hA.asc,rfl,he,?_,?_,?_,?_,hp.bs.1,hp.bs.2,?_,fun x hx=>?_,hA.bkl⟩,rfl,Int.le_refl _⟩
 ·show (A.iss++(runS A.t A.ev (A.today+d)).out.drop A.R.out.length).length=_
  rw [List.length_append,List.length_drop,hA.issl];show _=(runS A.t A.ev (A.today+d)).out.length;omega
 ·intro i hi
  have hm:=yjk hi;rcases List.mem_append.1 hm with h | h
  ·obtain ⟨j,hj,hje⟩:=List.getElem_of_mem h
   have:=hA.issb j hj;simp only [List.getD,List.getElem?_eq_getElem hj,Option.getD_some,hje] at this;exact this
  ·have:=hp.outb _ (List.mem_of_mem_drop h)
   omega
 ·show (runS A.t A.ev (A.today+d)).out.length≤300
  omega
 ·intro i hi
  have:=hp.outb _ (yjk hi);show ((runS A.t A.ev (A.today+d)).out.getD i St0).ls.length≤1000;omega
 ·show 0≤A.seq+1
  have:=hA.seq;omega
 ·show x.c≤A.today+d
  have:=hA.bkd x hx;omega
theorem yyh {A:Acc} (hA:ycy A) (c:R5):ycy (doS A c).1∧(doS A c).1.t=A.t∧(doS A c).1.seq≤A.seq+1:= by
 have hseq:A.seq≤A.seq+1:=by omega
 unfold doS
 split
 ·exact yxo hA _
 split
 ·exact ⟨hA,rfl,hseq⟩
 split
 ·exact ⟨hA,rfl,hseq⟩
 split
 ·exact ⟨hA,rfl,hseq⟩
 split
 ·exact ⟨hA,rfl,hseq⟩
 ·have h:=ysp hA c
  exact ⟨h.1,h.2.1,h.2.2.2.1⟩
theorem Fl.reslice {m n cap k:Nat} {ao:Option Addr} {w:World} {cs:List Value} (h:Fl m n w (.slice ao n cap) cs) (hk:k≤n) :
 Fl m (n-k) w (.slice (if cap=k then ao else ao.map (fun x=>x.add (k*m))) (n-k) (cap-k)) (cs.drop (k*m)):= by
 obtain ⟨hl,h1c,ao',cap',e,h1,h2,h3⟩:=h;cases e;refine ⟨by rw [List.length_drop,hl,Nat.sub_mul],fun c hc=>h1c c (List.mem_of_mem_drop hc),_,_,rfl,by omega,⟨by omega,fun e=>?_⟩,fun hn=>?_⟩
 ·by_cases hck:cap=k
  ·omega
  ·rw [if_neg hck] at e
   cases ao with
   | none=>have:=h2.2 rfl;omega
   | some a=>simp at e
 ·obtain ⟨b,o,rfl,hc⟩:=h3 om
  rw [if_neg om];refine ⟨b,o+k*m,by simp [Addr.add_lit],fun i hi=>?_⟩
  have hi2:k*m+i<n*m:= by
   have:=Nat.sub_mul n k m;have h4:k*m≤n*m:=Nat.mul_le_mul_right _ hk;omega
  rw [Nat.add_assoc,hc _ hi2,List.getElem?_drop]
theorem StV.reslice {n cap k:Nat} {ao:Option Addr} {w:World} {l:List St} {vs:List Value} (h:StV w (.slice ao n cap) l vs) (hn:l.length=n) (hk:k≤n) :
 StV w (.slice (if cap=k then ao else ao.map (fun x=>x.add (k*9))) (n-k) (cap-k)) (l.drop k) (vs.drop k):= by
 subst hn;refine ⟨h.1.drop k,?_⟩;rw [List.length_drop,←yny h.1.length];exact h.2.reslice hk
theorem ybe.more {lo g:Nat} {A:Acc} {F:List Nat} {w w':World} {V:AV} (h:ybe lo g A F w V) (hb:Below w.heap.size w w') {b:Nat} (hge:w.heap.size≤b) (hlt:b<w'.heap.size):ybe lo g A (b::F) w' V:= by
 have h1:=h.below hb;have hg:=(h.lt g h.gF);refine ⟨h1.blk,List.mem_cons_of_mem _ h.gF,fun x hx=>?_,h.rd.below hb (fun x hx=>?_),h1.iss,fun q hq=>List.mem_cons_of_mem _ (h.issF q hq),h1.adj,fun q hq=>List.mem_cons_of_mem _ (h.adjF q hq)⟩
 ·rcases List.mem_cons.1 hx with rfl | hx
  ·exact ⟨by omega,hlt⟩
  ·exact h1.lt x hx
 ·rcases List.mem_cons.1 hx with rfl | hx
  ·exact .inr hge
  ·exact .inl hx
theorem ybe.put {lo g b:Nat} {A:Acc} {F:List Nat} {w w':World} {V:AV} {e:TypeId} {cs:List Value} (h:ybe lo g A F w V) (hk:yab [b] w w') (hb:b∈F) (hB:Blk w b e cs) (h1:e≠89) (h2:e≠43) (h3:e≠175):ybe lo g A F w' V:= by
 refine ⟨h.blk.keep hk (fun hm=>?_),h.gF,fun x hx=>⟨(h.lt x hx).1,Nat.lt_of_lt_of_le (h.lt x hx).2 hk.size⟩,h.rd.step hk (fun x hx=>.inl (by simp only [ms] at hx;exact hx▸hb)) (fun x hx=>.inl hx),yap h.iss hk (fun q hq hm=>?_),h.issF,?_,h.adjF⟩
 ·simp only [ms] at hm
  exact ybs h.blk hB (Ne.symm h1) hm
 ·simp only [ms] at hm
  subst hm;exact yaj h.iss hB h2 hq.symm
 ·obtain ⟨n,cs0,k1,k2,k3⟩:=h.adj
  refine ⟨n,cs0,k1,k2,yap k3 hk (fun q hq hm=>?_)⟩;simp only [ms] at hm;subst hm;exact yaj k3 hB h3 hq.symm
theorem yxc {lo g:Nat} {A:Acc} {F:List Nat} {V:AV} {w8 WA w10 WB:World} (H:ybe lo g A F w8 V) (R':Rn) (d s:Int) (iss':List St) {pv' rv' nv' iv':Value} {nvs' ivs':List Value} {n:Nat} {cs:List Value}
 (hs:A.seq≤s) (hRd:Rd F w8 (fun W=>Sl .i64 W pv' R'.p.bs∧Sl .i64 W rv' R'.rs∧StV W nv' R'.out nvs')) (hRi:Rd F WA (fun W=>LnsS W iss' ivs'))
 (hKA:Below w8.heap.size w8 WA) (hown:w10.ownsRow lo 43 9 iv' n cs) (hn:n=iss'.length) (hcs:cs=yay iss' ivs')
 (hg:WA.grownBy w10 V.iv.ownBlock) (hor:iv'.ownBlock=V.iv.ownBlock∨iv'.ownBlock=some WA.heap.size)
 (hKB:yab [g] w10 WB)
 (hB:Blk WB g 89 (ybu { A with today:=d,R:=R',seq:=s,iss:=iss' } { V with pv:=pv',rv:=rv',nv:=nv',nvs:=nvs',iv:=iv',ivs:=ivs' })) :
 ync lo g { A with today:=d,R:=R',seq:=s,iss:=iss' } F w8 WB:= by
 subst hn;subst hcs;obtain ⟨n0,cs0,hn0,h10,h0⟩:=H.adj;have hsz:w8.heap.size≤WA.heap.size:=hKA.size;have hsz2:WA.heap.size≤w10.heap.size:=hg.size;have hg1:∀x∈[g],x∈F:=fun x hx=>by simp only [ms] at hx;exact hx▸H.gF
 have hnew:∀x∈iv'.ownBlock.toList++F,x∈F∨w8.heap.size≤x:=fun x hx=>by
  rcases List.mem_append.1 hx with h2 | h2
  ·exact zq39cfb9
  ·exact .inl h2
 have hnewA:∀x∈iv'.ownBlock.toList++F,x∈F∨WA.heap.size≤x:=fun x hx=>by
  rcases List.mem_append.1 hx with h2 | h2
  ·exact zq39cfb9
  ·exact .inl h2
 have hKA8:yab F w8 WA:=yab.of_below hKA;have hK10A:yab F WA w10:=(yab.refl _ _).grown hg (fun k hk=>.inl (H.issF k hk));have hK10:yab F w8 w10:=hKA8.trans hK10A (fun x hx=>.inl hx);have hst:Stp F w8 (iv'.ownBlock.toList++F) WB:=⟨hK10.trans hKB (fun x hx=>.inl (hg1 x hx)),hnew⟩;have hstA:Stp F WA (iv'.ownBlock.toList++F) WB:=⟨hK10A.trans hKB (fun x hx=>.inl (hg1 x hx)),hnewA⟩
 have hKS:yab (g::V.iv.ownBlock.toList) w8 WB:= by
  refine (((yab.of_below hKA:yab (g::V.iv.ownBlock.toList) w8 WA)).grown hg (fun k hk=>.inl (List.mem_cons_of_mem _ (Option.mem_toList.2 hk)))).trans hKB (fun x hx=>.inl ?_);simp only [ms] at hx;exact hx▸List.mem_cons_self ..
 have hgw:g<w8.heap.size:=H.blk.lt
 have hown':WB.ownsRow lo 43 9 iv' iss'.length (yay iss' ivs'):=yap hown hKB (fun q hq hm=>by
  simp only [ms] at hm;subst hm;rcases hor with h4 | h4
  ·exact yaj H.iss H.blk (by decide) (h4▸hq).symm
  ·have h5:some WA.heap.size=some q:=h4▸hq
   simp only [Option.some.injEq] at h5;omega)
 refine ⟨iv'.ownBlock.toList++F,_,⟨hB,List.mem_append_right _ H.gF,fun x hx=>⟨?_,?_⟩,?_,hown',fun q hq=>List.mem_append_left _ (Option.mem_toList.2 hq),⟨n0,cs0,?_,h10,?_⟩,fun q hq=>List.mem_append_right _ (H.adjF q hq)⟩,hst,fun x hx=>List.mem_append_right _ hx,fun b e cb hb e1 e2 e3=>hb.keep hKS (fun hm=>?_)⟩
 ·rcases hnew x hx with h2 | h2
  ·exact (H.lt x h2).1
  ·have:=(H.lt g H.gF)
   omega
 ·rcases List.mem_append.1 hx with h2 | h2
  ·have h3:=(hown'.lt x (Option.mem_toList.1 h2))
   exact h3.2
  ·exact Nat.lt_of_lt_of_le (H.lt x h2).2 hst.keep.size
 ·exact ((hst.rd (H.rd.and hRd)).and (hstA.rd hRi)).imp fun W q=>⟨q.1.1.1,q.1.1.2.1,q.1.1.2.2.1,q.1.2.1,q.1.2.2.1,q.1.2.2.2,q.2⟩
 ·show n0≤s.toNat*400000
  have:A.seq.toNat≤s.toNat:=by omega
  exact Nat.le_trans hn0 (Nat.mul_le_mul_right _ this)
 ·exact yap h0 hKS (fun q hq hm=>by
   rcases List.mem_cons.1 hm with rfl | hm
   ·exact yaj h0 H.blk (by decide) hq.symm
   ·exact yfe h0 H.iss (by decide) hq (Option.mem_toList.1 hm))
 ·rcases List.mem_cons.1 hm with rfl | hm
  ·exact ybs hb H.blk e1 rfl
  ·exact yaj H.iss hb e2 (Option.mem_toList.1 hm).symm
theorem yab.setRow {F:List Nat} {a b:World} (h:yab F a b) {g:Nat} (hg:g∈F∨a.heap.size≤g) (cs:Array Value):yab F a (b.setRow g cs) :=
 ⟨h.os,h.tape,h.output,by rw [size_setRow];exact h.size,fun k hk hn=>(yhp b g k cs (fun e=>by
  subst e;rcases hg with h1 | h1
  ·exact hn h1
  ·omega)).trans (h.block k hk hn)⟩
theorem yd3 {lo g b:Nat} {A:Acc} {F F2:List Nat} {w w2:World} {V:AV} {cs:List Value} (H:ybe lo g A F2 w2 V) (hs:Stp F w F2 w2) (hsub:∀x∈F,x∈F2) (hb:b∈F2) (hB:Blk w2 b 45 cs) (hO:ybw w w2) (hw:w.heap.size≤b) (cells:Array Value):ync lo g A F w (w2.setRow b cells) :=
 ⟨F2,V,H.put ((yab.refl _ _).setRow (.inl (List.mem_cons_self ..)) cells) hb hB (by decide) (by decide) (by decide),⟨hs.keep.setRow (hs.new b hb) cells,hs.new⟩,hsub,fun x e cx hx e1 e2 e3=>(hO x e cx hx e1 e2 e3).keep ((yab.refl [b] w2).setRow (.inl (List.mem_cons_self ..)) cells) (fun hm=>by
  simp only [ms] at hm;have:=hx.lt;omega)⟩
def yze (E:Int) (lo g:Nat) (A:Acc) (F:List Nat) (w:World) (e:Ending) (w':World):Prop:=∃v,e=.returned v∧Ans E v∧ync lo g A F w w'
end Go.Proofs.YtkongpjpkpfniaaGreat

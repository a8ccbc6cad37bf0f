/- TopTicks: parts of the proof, made small by a program (mini.py). -/
import Derived.Test.YtkongpjpkpfniaaGreatT01
import Derived.Test.YtkongpjpkpfniaaGreatT08
import Derived.Test.YtkongpjpkpfniaaGreatT10
import Derived.Test.YtkongpjpkpfniaaGreatT25
import Derived.Test.YtkongpjpkpfniaaGreatT33
set_option linter.unusedVariables false
set_option linter.unusedSimpArgs false
set_option maxRecDepth 100000
set_option maxHeartbeats 6400000
namespace Go.Proofs.YtkongpjpkpfniaaGreat
open Go.RowKit
theorem yyk {ga gp gsx gj B x:Nat} {lv:Value} (h:ga<B/\gp<B/\gsx<B/\gj<B/\∀q,lv.ownBlock=some q->q<B) (hm:x∈gj::ga::gp::ownL lv):x<B:= by
 rcases List.mem_cons.1 hm with e | hm
 ·omega
 rcases List.mem_cons.1 hm with e | hm
 ·omega
 rcases List.mem_cons.1 hm with e | hm
 ·omega
 ·unfold ownL at hm
  split at hm
  ·rename_i b hb
   simp only [ms] at hm;exact hm▸h.2.2.2.2 b hb
  ·cases hm
theorem yzw {B ga gp m n:Nat} {e:TypeId} {u:Value} {cs:List Value} {W:World} (h:W.ownsRow B e m u n cs) (hb:ga<B/\gp<B):OffF [ga,gp] u:=fun b o k c e1 _ hm=>by
 have h1:=(h.lt b (by rw [e1];rfl)).1;simp only [List.mem_cons,List.not_mem_nil,or_false] at hm;omega
theorem yxr {ga gp gsx gj B g:Nat} {lv:Value} {w7 w8:World} {c:R5} (h:ga<B/\gp<B/\gsx<B/\gj<B/\∀q,lv.ownBlock=some q->q<B) (hs:Blk w7 gsx 119 [pV gp,pV gj,pV g]) (hc:Blk w7 B 48 [iV c.a,iV c.b,iV c.c,iV c.d,iV c.e]) (hg:gsx∉gj::ga::gp::ownL lv) (hk:yab (gj::ga::gp::ownL lv) w7 w8) :
 w8.cell? (Ad gsx 1)=some (pV gj)/\w8.cell? (Ad B 0)=some (iV c.a)/\w8.cell? (Ad B 1)=some (iV c.b)/\w8.cell? (Ad B 2)=some (iV c.c)/\w8.cell? (Ad B 3)=some (iV c.d)/\w8.cell? (Ad B 4)=some (iV c.e):= by
 have h1:=hs.keep hk hg;have h2:=hc.keep hk (fun hm=>Nat.lt_irrefl _ (yyk h hm));exact ⟨h1.cell 1,h2.cell 0,h2.cell 1,h2.cell 2,h2.cell 3,h2.cell 4⟩
section
variable {lo gsx gj ga gp g n N k:Nat} {lv:Value} {st:Nat->Int} {A A':Acc} {F:List Nat} {w w':World} {V:AV}
theorem SrvX.more (h:SrvX lo gsx gj ga gp g n N k lv st A F w V) (hb:BW w w') {xs:List Nat} (hx:∀x∈xs,w.heap.size<=x/\x<w'.heap.size):SrvX lo gsx gj ga gp g n N k lv st A (xs++F) w' V:= by
 have hb':=h.below hb;refine ⟨hb'.s,hb'.j,hb'.k,hb'.p,hb'.z,h.a.step (L:=[]) (yab.of_below hb) (fun x hx=>by cases hx) (fun x hm=>?_) (fun x hm=>List.mem_append_right _ hm) (fun hm=>by cases hm) (fun _ _ hm=>by cases hm) (fun _ _ hm=>by cases hm),fun x hm=>List.mem_append_right _ (h.sF x hm)⟩;rcases List.mem_append.1 hm with h1 | h1
 ·exact .inr (hx x h1)
 ·exact .inl h1
theorem SrvX.putL (h:SrvX lo gsx gj ga gp g n N k lv st A F w V) {L F':List Nat} (hk:yab L w w') (hL:∀b∈L,b∈F/\∃cs,Blk w b 45 cs) (hF:∀x∈F',x∈F\/(w.heap.size<=x/\x<w'.heap.size)) (hs:∀x∈F,x∈F'):SrvX lo gsx gj ga gp g n N k lv st A F' w' V:= by
 have hn:∀x∈gsx::gj::ga::gp::ownL lv,x∉L:=fun x hx hm=>by
  obtain ⟨e,c2,h1,_,_,_,h5⟩:=h.kinds x hx;obtain ⟨cs,hB⟩:=(hL x hm).2;exact ybs h1 hB h5 rfl
 obtain ⟨n0,cs0,_,_,h0⟩:=h.a.adj;refine ⟨h.s.keep hk (hn _ (by simp)),h.j.off hk (hn _ (by simp)) (fun q hq=>hn _ (by simp [yx4 hq])),h.k,h.p.keep hk (hn _ (by simp)) (hn _ (by simp)),h.z,h.a.step hk (fun x hx=>.inl (hL x hx).1) hF hs (fun hm=>?_) (fun q hq hm=>?_) (fun q hq hm=>?_),fun x hx=>hs x (h.sF x hx)⟩
 ·obtain ⟨cs,hB⟩:=(hL _ hm).2
  exact ybs h.a.blk hB (by decide) rfl
 ·obtain ⟨cs,hB⟩:=(hL _ hm).2
  exact yaj h.a.iss hB (by decide) hq.symm
 ·obtain ⟨cs,hB⟩:=(hL _ hm).2
  exact yaj h0 hB (by decide) hq.symm
theorem SrvX.put (h:SrvX lo gsx gj ga gp g n N k lv st A F w V) {b:Nat} {cs:List Value} (hk:yab [b] w w') (hb:b∈F) (hB:Blk w b 45 cs):SrvX lo gsx gj ga gp g n N k lv st A F w' V :=
 h.putL hk (fun x hx=>by simp only [ms] at hx;subst hx;exact ⟨hb,_,hB⟩) (fun _ hx=>.inl hx) (fun _ hx=>hx)
theorem SrvX.did (h:SrvX lo gsx gj ga gp g n N k lv st A F w V) {F':List Nat} {V':AV} (h1:ybe lo g A' F' w' V') (h2:Stp F w F' w') (h3:∀x∈F,x∈F') (h4:ybw w w'):SrvX lo gsx gj ga gp g n N k lv st A' F' w' V':= by
 obtain ⟨a,b,c⟩:=h.acc h2.keep h4;exact ⟨a,b,h.k,c,h.z,h1,fun x hx=>h3 x (h.sF x hx)⟩
theorem SrvX.low (h:SrvX lo gsx gj ga gp g n N k lv st A F w V):∀x∈gsx::gj::ga::gp::ownL lv,lo<=x/\x<w.heap.size:=fun x hx=>h.a.lt x (h.sF x hx)
theorem SrvX.next (h:SrvX lo gsx gj ga gp g n N k lv st A F w V) {g4:Nat} {F5:List Nat} {V5:AV} {w7 w8 W9:World} {lv8:Value} {st8:Nat->Int} (ha:ybe lo g4 A' F5 w V5) (hF:∀x∈gsx::gj::ga::gp::ownL lv,x∈F5) (hb:BW w w7) (k8:yab (gj::ga::gp::ownL lv) w7 w8)
 (j8:ycl lo gj gp lv8 (k+1) (N+1) w8) (p8:ybm lo gp ga n st8 w8) (z8:∀i,N+1<=i->st8 i=0) (o8:∀x∈ownL lv8,x∈ownL lv\/w7.heap.size<=x) (k9:yab [gsx] w8 W9) (hs9:Blk W9 gsx 119 [pV gp,pV gj,pV g4]) :
 SrvX lo gsx gj ga gp g4 n (N+1) (k+1) lv8 st8 A' (ownL lv8++F5) W9 V5:= by
 have a7:=ha.below hb;have hx7:=h.below hb;have hK:yab (gsx::gj::ga::gp::ownL lv) w7 W9:=(k8.mono (fun x hx=>List.mem_cons_of_mem _ hx)).trans k9 (fun x hx=>.inl (by simp only [ms] at hx;exact hx▸List.mem_cons_self ..));have own8:=j8.2.2.choose_spec.1
 have hne:∀{t:TypeId} {x:Nat} {cs:List Value},Blk w7 x t cs->(t=89\/t=43\/t=175)->x∉gsx::gj::ga::gp::ownL lv:=fun hx ht hm=>by
  obtain ⟨e,c2,h1,e1,e2,e3,_⟩:=hx7.kinds _ hm;refine ybs hx h1 (fun e0=>?_) rfl;subst e0;rcases ht with e4 | e4 | e4
  ·exact e1 e4
  ·exact e2 e4
  ·exact e3 e4
 have hjs:∀x∈gj::ga::gp::ownL lv8,x∉[gsx]:=fun x hx hm=>by
  simp only [ms] at hm;subst hm;obtain ⟨cs0,pl,p1,p2,_⟩:=p8
  have hsB:Blk w8 x 119 _:=hx7.s.keep k8 (fun hm=>by
   obtain ⟨cs1,_,q1,q2,_⟩:=hx7.p;rcases List.mem_cons.1 hm with e | hm
   ·exact ybs hx7.s hx7.j.2.1 (by decide) e
   rcases List.mem_cons.1 hm with e | hm
   ·exact ybs hx7.s q2 (by decide) e
   rcases List.mem_cons.1 hm with e | hm
   ·exact ybs hx7.s q1 (by decide) e
   ·exact yaj hx7.j.2.2.choose_spec.1 hx7.s (by decide) (yxf hm).symm)
  rcases List.mem_cons.1 hx with e | hm
  ·exact ybs hsB j8.2.1 (by decide) e
  rcases List.mem_cons.1 hm with e | hm
  ·exact ybs hsB p2 (by decide) e
  rcases List.mem_cons.1 hm with e | hm
  ·exact ybs hsB p1 (by decide) e
  ·exact yaj own8 hsB (by decide) (yxf hm).symm
 obtain ⟨n0,cs0,_,_,h0⟩:=a7.adj;refine ⟨hs9,j8.off k9 (hjs _ (by simp)) (fun q hq=>hjs _ (by simp [yx4 hq])),Nat.succ_le_succ h.k,p8.keep k9 (hjs _ (by simp)) (hjs _ (by simp)),z8,a7.step hK (fun x hx=>.inl (hF x hx)) (fun x hx=>?_) (fun x hx=>List.mem_append_right _ hx) (hne a7.blk (.inl rfl)) (fun q hq=>?_) (fun q hq=>?_),fun x hx=>?_⟩
 ·rcases List.mem_append.1 hx with h1 | h1
  ·rcases o8 x h1 with h2 | h2
   ·exact .inl (hF x (by simp [h2]))
   ·exact .inr ⟨h2,Nat.lt_of_lt_of_le (own8.lt _ (yxf h1)).2 k9.size⟩
  ·exact .inl h1
 ·obtain ⟨cur,hb⟩:=yry a7.iss hq
  exact hne hb (.inr (.inl rfl))
 ·obtain ⟨cur,hb⟩:=yry h0 hq
  exact hne hb (.inr (.inr rfl))
 ·rcases List.mem_cons.1 hx with e | hx
  ·exact List.mem_append_right _ (hF x (by simp [e]))
  rcases List.mem_cons.1 hx with e | hx
  ·exact List.mem_append_right _ (hF x (by simp [e]))
  rcases List.mem_cons.1 hx with e | hx
  ·exact List.mem_append_right _ (hF x (by simp [e]))
  rcases List.mem_cons.1 hx with e | hx
  ·exact List.mem_append_right _ (hF x (by simp [e]))
  ·exact List.mem_append_left _ hx
theorem ybe.add {la:Nat} {L:List Nat} (h:ybe la g A F w V) (hr:Rd (L++F) w (jai A V)) (hlo:lo<=la) (hL:∀x∈L,lo<=x/\x<w.heap.size):ybe lo g A (L++F) w V:= by
 obtain ⟨n,cs,k1,k2,k3⟩:=h.adj;refine ⟨h.blk,List.mem_append_right _ h.gF,fun x hx=>?_,hr,yco h.iss hlo,fun q hq=>List.mem_append_right _ (h.issF q hq),⟨n,cs,k1,k2,yco k3 hlo⟩,fun q hq=>List.mem_append_right _ (h.adjF q hq)⟩;rcases List.mem_append.1 hx with h1 | h1
 ·exact hL x h1
 ·exact ⟨Nat.le_trans hlo (h.lt x h1).1,(h.lt x h1).2⟩
theorem jcd {L F4 F5:List Nat} {w3 w4 w5:World} (hk:∀x∈L,∃e cs,Blk w4 x e cs/\e≠89/\e≠43/\e≠175) (hb:BW w3 w4) (hs:Stp (L++F4) w4 F5 w5) (hO:ybw w4 w5) (h4:∀x∈F4,w3.heap.size<=x):BW w3 w5 :=
 hb.trans ((hs.keep.less (L:=L) (fun x hx _=>by
  obtain ⟨e,cs,h1,e1,e2,e3⟩:=hk x hx;exact hO.same h1 e1 e2 e3)).to_below hb.size (fun x hx=>by
  have h1:=List.mem_filter.1 hx;simp only [decide_eq_true_eq] at h1;rcases List.mem_append.1 h1.1 with h2 | h2
  ·exact absurd h2 h1.2
  ·exact h4 x h2))
end
theorem jbl {A:Acc} {d:Int} (h:(yh3 A d).2≠0):(yh3 A d).1=A:= by
 unfold yh3 at h ⊢
 split
 ·rfl
 rename_i h1;rw [if_neg h1] at h
 split
 ·rfl
 rename_i h2;rw [if_neg h2] at h
 split
 ·rfl
 ·rename_i h3
  rw [if_neg h3] at h;exact absurd rfl h
theorem jbg {A:Acc} {c:R5} (h:(yda A c).2≠0):(yda A c).1=A:= by
 unfold yda at h ⊢
 split
 ·rfl
 rename_i h1;rw [if_neg h1] at h
 split
 ·rename_i h2
  rw [if_pos h2] at h;exact absurd rfl h
 rename_i h2;rw [if_neg h2] at h
 split
 ·rfl
 ·rename_i h3
  rw [if_neg h3] at h;exact absurd rfl h
theorem jbw {A A':Acc} {c:R5} {E:Int} (h:doS A c=(A',E)) (h0:E≠0):A'=A:= by
 have e1:A'=(doS A c).1:=by rw [h]
 have e2:(doS A c).2≠0:=by rw [h];exact h0
 rw [e1];unfold doS at e2 ⊢
 split
 ·rename_i k1
  rw [if_pos k1] at e2;exact jbl e2
 rename_i k1;rw [if_neg k1] at e2
 split
 ·rfl
 rename_i k2;rw [if_neg k2] at e2
 split
 ·rfl
 rename_i k3;rw [if_neg k3] at e2
 split
 ·rfl
 rename_i k4;rw [if_neg k4] at e2
 split
 ·rfl
 ·rename_i k5
  rw [if_neg k5] at e2;exact jbg e2
def jan (lo gsx:Nat) (A:Acc) (n N:Nat) (F X:List Nat) (E:Int) (w:World) (e:Ending) (w':World):Prop:=∃v N' F',e=.returned v/\Ans E v/\ja8 lo gsx A n N' F' w'/\N'<=N+1/\Stp F w F' w'/\(∀x∈X,x∈F')/\∀b cs,Blk w b 45 cs->Blk w' b 45 cs
theorem yuf {lo gsx n N:Nat} {A A':Acc} {E:Int} {w:World} (c:R5) (hA:ycy A) (hq:A.seq<=1000) (hE:Hid (doS A c=(A',E))) (hn:n<=20000) (hN:N+1<=n) (hN2:N<=999) (F:List Nat) (hs:ja8 lo gsx A n N F w) (X:List Nat) (hX:∀x∈X,x∈F/\∃cs,Blk w x 45 cs) :
 Calls Tryz.prog 33 #[pV gsx,.agg #[iV c.a,iV c.b,iV c.c,iV c.d,iV c.e]] w (jan lo gsx A' n N F X E w):= by
 obtain ⟨gj,ga,gp,g,k,lv,st,V,h⟩:=hs;have HX:=lh h;have HOK:=lh hA;have HQ:=lh hq;have HXX:=lh hX;have HN:=lh (And.intro hn (And.intro hN hN2))
 have HLO:Hid (lo<=w.heap.size):= by
  have:=h.a.lt _ h.a.gF;show _<=_;omega
 have HLT:Hid (ga<w.heap.size/\gp<w.heap.size/\gsx<w.heap.size/\gj<w.heap.size/\∀q,lv.ownBlock=some q->q<w.heap.size):=⟨(h.low _ (by simp)).2,(h.low _ (by simp)).2,(h.low _ (by simp)).2,(h.low _ (by simp)).2,fun q hq=>(h.low _ (by simp [yx4 hq])).2⟩
 have HNE:Hid (gsx∉gj::ga::gp::ownL lv):= by
  obtain ⟨cs0,_,g2,g3,_⟩:=h.p;obtain ⟨_,j2,cs,own,_⟩:=h.j;intro hm;rcases List.mem_cons.1 hm with e | hm
  ·exact ybs h.s j2 (by decide) e
  rcases List.mem_cons.1 hm with e | hm
  ·exact ybs h.s g3 (by decide) e
  rcases List.mem_cons.1 hm with e | hm
  ·exact ybs h.s g2 (by decide) e
  ·exact yaj own h.s (by decide) (yxf hm).symm
 clear h hA hq hn hN hN2 hX
 obtain ⟨W1,hW1,C1,R1,O1,B1⟩:∃W,(((w.alloc (.cells #[iV c.a,iV c.b,iV c.c,iV c.d,iV c.e] 48)).alloc (.cells zA.toArray 45)).alloc (.cells zA.toArray 45))=W/\Hid (Blk W w.heap.size 48 [iV c.a,iV c.b,iV c.c,iV c.d,iV c.e])/\Hid (Blk W (w.heap.size+1) 45 zA)/\Hid (Blk W (w.heap.size+1+1) 45 zA)/\Hid (BW w W) :=
  ⟨_,rfl,((yae w _ _ _ rfl).below (yaa bR _)).below (yaa bR _),(ybc _ _ _ _ (World.size_alloc _ _)).below (yaa bR _),ybc _ _ _ _ (by simp only [World.size_alloc]),yaa (yaa (yaa bR _) _) _⟩
 have X1:Hid (SrvX lo gsx gj ga gp g n N k lv st A ([w.heap.size+1,w.heap.size+1+1]++F) W1 V):=HX.out.more B1.out (fun x hx=>by
  have:=O1.out.lt;simp only [List.mem_cons,List.not_mem_nil,or_false] at hx;omega)
 go_enter Tryz.func33,Tryz.ntmps33
 go_upto_region 1 with fail
 refine yd1 (fun _ _ _=>False) ?first ?pass
 case pass=>exact fun _ _ _ h=>h.elim
 go_upto_region 4 with fail
 try with_reducible rw [hW1]
 clear hW1;obtain ⟨c0,c1,c2,c3,c4,-⟩:=C1.out.cs [0,1,2,3,4];simp only [gz,gs] at c0 c1 c2 c3 c4;have kc:=C1.out.lt
 go_wp2_with fail
 have hch:=yko c W1;cases hc:chg c.a with
 | false =>
  rw [hc] at hch;refine hch.mono ?_;clear hch hc c0 c1 c2 c3 c4 kc;rintro _ w2 ⟨rfl,hb2⟩;have B2:Hid (BW w w2):=yad B1.out hb2;have X2:=lh (X1.out.below hb2);have R2:=lh (R1.out.below hb2);have C2:=lh (C1.out.below hb2);clear hb2;go_upto_region 6 with fail
  have hsd:w2.drew.cell? (Ad gsx 2)=some (pV g)/\w2.drew.cell? (Ad w.heap.size 0)=some (iV c.a)/\w2.drew.cell? (Ad w.heap.size 1)=some (iV c.b)/\w2.drew.cell? (Ad w.heap.size 2)=some (iV c.c)/\w2.drew.cell? (Ad w.heap.size 3)=some (iV c.d)/\w2.drew.cell? (Ad w.heap.size 4)=some (iV c.e):=⟨(X2.out.s.below (yaf bR)).cell 2,(C2.out.below (yaf bR)).cell 0,(C2.out.below (yaf bR)).cell 1,(C2.out.below (yaf bR)).cell 2,(C2.out.below (yaf bR)).cell 3,(C2.out.below (yaf bR)).cell 4⟩;refine yan (fun W'=>Ce W' gsx 2 (pV g)/\Ce W' w.heap.size 0 (iV c.a)/\Ce W' w.heap.size 1 (iV c.b)/\Ce W' w.heap.size 2 (iV c.c)/\Ce W' w.heap.size 3 (iV c.d)/\Ce W' w.heap.size 4 (iV c.e)) 6 kr ?_;refine tK 0 rfl ?_;refine tK 1 rfl ?_;refine tK 2 rfl ?_;refine tK 3 rfl ?_;refine tK 4 rfl ?_;clear hsd;refine wo 5 kr rfl fun K hK=>?_;go_simp;refine (yhk lo g A HOK.out (by have:=HQ.out;omega) _ V c A' E hE _ (X2.out.a.below (yaf bR))).mono ?_;rintro _ w3 ⟨v,rfl,han,F3,V3,a3,s3,f3,o3⟩;have X3:=lh ((X2.out.below (yaf bR)).did a3 s3 f3 o3);have R3:Hid (Blk w3 (w.heap.size+1) 45 zA):=o3 _ _ _ (R2.out.below (yaf bR)) (by decide) (by decide) (by decide)
  have B3:Hid (Stp F w F3 w3):=⟨(yab.of_below (yaf B2.out):yab F w w2.drew).trans s3.keep (fun x hx=>by
   rcases List.mem_append.1 hx with h1 | h1
   ·simp only [List.mem_cons,List.not_mem_nil,or_false] at h1
    exact .inr om
   ·exact .inl h1),fun x hx=>by
   rcases s3.new x hx with h1 | h1
   ·rcases List.mem_append.1 h1 with h1 | h1
    ·simp only [List.mem_cons,List.not_mem_nil,or_false] at h1
     exact .inr om
    ·exact .inl h1
   ·have:=B2.out.size
    simp only [World.size_drew] at h1;exact .inr om⟩
  have C3:Blk w3 w.heap.size 48 [iV c.a,iV c.b,iV c.c,iV c.d,iV c.e]:=o3 _ _ _ (C2.out.below (yaf bR)) (by decide) (by decide) (by decide);have hs3:w3.cell? (Ad gsx 2)=some (pV g)/\w3.cell? (Ad w.heap.size 0)=some (iV c.a)/\w3.cell? (Ad w.heap.size 1)=some (iV c.b)/\w3.cell? (Ad w.heap.size 2)=some (iV c.c)/\w3.cell? (Ad w.heap.size 3)=some (iV c.d)/\w3.cell? (Ad w.heap.size 4)=some (iV c.e):=⟨X3.out.s.cell 2,C3.cell 0,C3.cell 1,C3.cell 2,C3.cell 3,C3.cell 4⟩;have P3:Hid (∀b cs,Blk w b 45 cs->Blk w3 b 45 cs):=fun b cs hb=>o3 b _ cs (hb.below (yaf B2.out)) (by decide) (by decide) (by decide);have H3X:Hid (∀x∈[w.heap.size+1,w.heap.size+1+1]++F,x∈F3):=f3;have H3:Hid (w.heap.size+1∈F3):=f3 _ (by simp);clear a3 s3 f3 o3;obtain ⟨r,cy,td,cn,bal,cr,du,rt,dp,sq,pn,pf,pt,pd,ln,tt,pc,mn,gr,rfl,i1,i2,i3,i4⟩:=han;have HI:=lh (And.intro i1 (And.intro i2 (And.intro i3 i4)));have HOC:Hid ((#[iV E,iV r,iV cy,iV td,iV cn,bal,iV cr,iV du,rt,dp,iV sq,iV pn,iV pf,iV pt,iV pd,ln,iV tt,iV pc,iV mn,.bool gr]:Array Value).all (·.oneCell')=true):=ycn HI.out.1 HI.out.2.1 HI.out.2.2.1 HI.out.2.2.2;have HAN:Hid (Ans E (.agg #[iV E,iV r,iV cy,iV td,iV cn,bal,iV cr,iV du,rt,dp,iV sq,iV pn,iV pf,iV pt,iV pd,ln,iV tt,iV pc,iV mn,.bool gr])):=⟨r,cy,td,cn,bal,cr,du,rt,dp,sq,pn,pf,pt,pd,ln,tt,pc,mn,gr,rfl,HI.out.1,HI.out.2.1,HI.out.2.2.1,HI.out.2.2.2⟩;clear i1 i2 i3 i4;have HZ:Hid (w3.heap[w.heap.size+1]?=some (.cells zA.toArray 45 (0,0))):=R3.out;refine hK.out _ _ (fun hun=>hs3) ?_;clear hK K;clear hs3 C3;try simp only [ap,aq,sa,sb,sc]
  refine wo 6 kr rfl fun K hK=>?_;refine Eq.mpr (if_pos ?_) ?_
  ·kernel_rfl
  refine wp_store_row 45 (.tmp 4) (.tmp 18) rfl (w.heap.size+1) #[iV E,iV r,iV cy,iV td,iV cn,bal,iV cr,iV du,rt,dp,iV sq,iV pn,iV pf,iV pt,iV pd,ln,iV tt,iV pc,iV mn,.bool gr] rfl rfl 45 _ HZ.out (by rw [ybp];rfl) rfl HOC.out ?_;refine hK.out _ _ kd ?_;clear hK K;try simp only [ap,aq,sa,sb,sc]
  refine yal kr ?_ _
  go_wp2_with fail
  refine bodyPost_ret (v:=.agg #[iV E,iV r,iV cy,iV td,iV cn,bal,iV cr,iV du,rt,dp,iV sq,iV pn,iV pf,iV pt,iV pd,ln,iV tt,iV pc,iV mn,.bool gr]) (results_cell_row (p:=4) (ty:=45) rfl _ _ (w.heap.size+1) 45 _ (0,0) _ rfl (setRow_heap _ _ _ _ _ _ HZ.out) Tryz.underlying45 rfl (by rw [ybp];rfl)) rfl ?_;have hk:yab [w.heap.size+1] w3 (w3.setRow (w.heap.size+1) #[iV E,iV r,iV cy,iV td,iV cn,bal,iV cr,iV du,rt,dp,iV sq,iV pn,iV pf,iV pt,iV pd,ln,iV tt,iV pc,iV mn,.bool gr]):=(yab.refl _ _).setRow (.inl (List.mem_cons_self ..)) _;exact ⟨_,N,_,rfl,HAN.out,⟨_,_,_,_,_,_,_,_,X3.out.put hk H3.out R3.out⟩,Nat.le_succ _,⟨B3.out.keep.trans hk (fun x hx=>.inr (by simp only [ms] at hx;omega)),B3.out.new⟩,fun x hx=>H3X.out x (List.mem_append_right _ (HXX.out x hx).1),fun b cs hb=>(P3.out b cs hb).keep hk (by have:=hb.lt;simp only [ms];omega)⟩
 | true =>
  rw [hc] at hch;refine hch.mono ?_;clear hch hc c0 c1 c2 c3 c4 kc;rintro _ w2 ⟨rfl,hb2⟩;have B2:Hid (BW w w2):=yad B1.out hb2;have C2:=lh (C1.out.below hb2);have R2:=lh (R1.out.below hb2);have O2:=lh (O1.out.below hb2);have X2:=lh (X1.out.below hb2);clear hb2;have s1:=X2.out.s.cell 1;have ks:=X2.out.s.lt
  go_wp2_with fail
  refine (ytx X2.out.j X2.out.p).mono ?_;clear s1 ks;rintro _ w3 ⟨rfl,hb3⟩;have B3:Hid (BW w w3):=yad B2.out hb3;have C3:=lh (C2.out.below hb3);have R3:=lh (R2.out.below hb3);have O3:=lh (O2.out.below hb3);have X3:=lh (X2.out.below hb3);clear hb3;have s2:=X3.out.s.cell 2;have ks:=X3.out.s.lt
  go_wp2_with fail
  refine (yqs lo g A HOK.out HQ.out _ V _ X3.out.a).mono ?_;clear s2 ks;rintro _ w4 ⟨g4,F4,V4,rfl,a4,r4,hb4⟩
  have A4:Hid (ybe lo g4 A ((([w.heap.size+1,w.heap.size+1+1]++X)++(gsx::gj::ga::gp::ownL lv))++F4) w4 V4):=a4.add (r4 _ (fun x hx=>by
   rcases List.mem_append.1 hx with h1 | h1
   ·rcases List.mem_append.1 h1 with h1 | h1
    ·exact List.mem_append_left _ h1
    ·exact List.mem_append_right _ (HXX.out x h1).1
   ·exact X3.out.sF x h1)) (by have:=HLO.out;have:=B3.out.size;omega) (fun x hx=>by
   rcases List.mem_append.1 hx with h1 | h1
   ·rcases List.mem_append.1 h1 with h1 | h1
    ·have h2:=HLO.out
     have h3:=O3.out.lt;have h4:=hb4.size;simp only [List.mem_cons,List.not_mem_nil,or_false] at h1;omega
    ·have h2:=X3.out.a.lt x (List.mem_append_right _ (HXX.out x h1).1)
     have h4:=hb4.size;omega
   ·have h2:=X3.out.low x h1
    have h4:=hb4.size;omega)
  have H4:Hid (∀x∈F4,w3.heap.size<=x):=fun x hx=>(a4.lt x hx).1;have HB34:=lh hb4;have C4:=lh (C3.out.below hb4);clear a4 r4 hb4;obtain ⟨c0,c1,c2,c3,c4,-⟩:=C4.out.cs [0,1,2,3,4];simp only [gz,gs] at c0 c1 c2 c3 c4;have kc:=C4.out.lt
  go_wp2_with fail
  refine (yhk lo g4 A HOK.out (by have:=HQ.out;omega) _ V4 c A' E hE _ A4.out).mono ?_;clear c0 c1 c2 c3 c4 kc;rintro _ w5 ⟨v,rfl,han,F5,V5,h5,st5,f5,o5⟩
  have HB35:Hid (BW w3 w5):=jcd (L:=([w.heap.size+1,w.heap.size+1+1]++X)++(gsx::gj::ga::gp::ownL lv)) (fun x hx=>by
   rcases List.mem_append.1 hx with h1 | h1
   ·rcases List.mem_append.1 h1 with h1 | h1
    ·simp only [List.mem_cons,List.not_mem_nil,or_false] at h1
     rcases h1 with rfl | rfl
     ·exact ⟨_,_,R3.out.below HB34.out,by decide,by decide,by decide⟩
     ·exact ⟨_,_,O3.out.below HB34.out,by decide,by decide,by decide⟩
    ·obtain ⟨cs,hB⟩:=(HXX.out x h1).2
     exact ⟨_,_,hB.below (yad B3.out HB34.out),by decide,by decide,by decide⟩
   ·obtain ⟨e,cs,k1,k2,k3,k4,_⟩:=(X3.out.below HB34.out).kinds x h1
    exact ⟨e,cs,k1,k2,k3,k4⟩) HB34.out st5 o5 H4.out
  have B5:Hid (BW w w5):=yad B3.out HB35.out;have C5:=lh (C3.out.below HB35.out);have R5:=lh (R3.out.below HB35.out);have O5:=lh (O3.out.below HB35.out);have X5:=lh (X3.out.below HB35.out);have A5:=lh h5
  have N5:Hid (∀x∈F5,x∈F\/w.heap.size<=x):=fun x hx=>by
   rcases st5.new x hx with h1 | h1
   ·rcases List.mem_append.1 h1 with h1 | h1
    ·rcases List.mem_append.1 h1 with h1 | h1
     ·rcases List.mem_append.1 h1 with h1 | h1
      ·simp only [List.mem_cons,List.not_mem_nil,or_false] at h1
       exact .inr om
      ·exact .inl (HXX.out x h1).1
     ·rcases List.mem_append.1 (X3.out.sF x h1) with h2 | h2
      ·simp only [List.mem_cons,List.not_mem_nil,or_false] at h2
       exact .inr om
      ·exact .inl h2
    ·have h2:=H4.out x h1
     have:=B3.out.size;exact .inr om
   ·have h2:=HB34.out.size
    have:=B3.out.size;exact .inr om
  have F5':Hid (∀x∈([w.heap.size+1,w.heap.size+1+1]++X)++(gsx::gj::ga::gp::ownL lv),x∈F5):=fun x hx=>f5 x (List.mem_append_left _ hx);clear h5 st5 f5 o5;obtain ⟨r,cy,td,cn,bal,cr,du,rt,dp,sq,pn,pf,pt,pd,ln,tt,pc,mn,gr,rfl,i1,i2,i3,i4⟩:=han;have HI:=lh (And.intro i1 (And.intro i2 (And.intro i3 i4)));have HOC:Hid ((#[iV E,iV r,iV cy,iV td,iV cn,bal,iV cr,iV du,rt,dp,iV sq,iV pn,iV pf,iV pt,iV pd,ln,iV tt,iV pc,iV mn,.bool gr]:Array Value).all (·.oneCell')=true):=ycn HI.out.1 HI.out.2.1 HI.out.2.2.1 HI.out.2.2.2;have HAN:Hid (Ans E (.agg #[iV E,iV r,iV cy,iV td,iV cn,bal,iV cr,iV du,rt,dp,iV sq,iV pn,iV pf,iV pt,iV pd,ln,iV tt,iV pc,iV mn,.bool gr])):=⟨r,cy,td,cn,bal,cr,du,rt,dp,sq,pn,pf,pt,pd,ln,tt,pc,mn,gr,rfl,HI.out.1,HI.out.2.1,HI.out.2.2.1,HI.out.2.2.2⟩;clear i1 i2 i3 i4;have HZ:Hid (w5.heap[w.heap.size+1+1]?=some (.cells zA.toArray 45 (0,0))):=O5.out;go_upto_region 11 with (with_reducible refine ybj rfl (.tmp 6) (.tmp 33) rfl rfl (w.heap.size+1+1) #[iV E,iV r,iV cy,iV td,iV cn,bal,iV cr,iV du,rt,dp,iV sq,iV pn,iV pf,iV pt,iV pd,ln,iV tt,iV pc,iV mn,.bool gr] rfl rfl _ HZ.out rfl rfl HOC.out ?_)
  obtain ⟨W6,hW6,O6,k6⟩:∃W,w5.setRow (w.heap.size+1+1) #[iV E,iV r,iV cy,iV td,iV cn,bal,iV cr,iV du,rt,dp,iV sq,iV pn,iV pf,iV pt,iV pd,ln,iV tt,iV pc,iV mn,.bool gr]=W/\Hid (Blk W (w.heap.size+1+1) 45 [iV E,iV r,iV cy,iV td,iV cn,bal,iV cr,iV du,rt,dp,iV sq,iV pn,iV pf,iV pt,iV pd,ln,iV tt,iV pc,iV mn,.bool gr])/\yab [w.heap.size+1+1] w5 W:=⟨_,rfl,ycu O5.out [iV E,iV r,iV cy,iV td,iV cn,bal,iV cr,iV du,rt,dp,iV sq,iV pn,iV pf,iV pt,iV pd,ln,iV tt,iV pc,iV mn,.bool gr],(yab.refl _ _).setRow (.inl (List.mem_cons_self ..)) _⟩;try with_reducible rw [hW6]
  clear hW6 HZ;have X6:=lh (X5.out.put k6 (by simp) O5.out);have A6:Hid (ybe lo g4 A' F5 W6 V5):=A5.out.put k6 (F5'.out _ (by simp)) O5.out (by decide) (by decide) (by decide);have C6:=lh (C5.out.keep k6 (by simp only [ms];omega));have R6:=lh (R5.out.keep k6 (by simp only [ms];omega));have K6:Hid (BW w W6):=B5.out.trans (k6.to_below B5.out.size (fun x hx=>by simp only [ms] at hx;omega));clear k6;have o0:=O6.out.cell 0;have ko:=O6.out.lt
  by_cases hE0:E=0
  ·subst hE0
   go_upto_region 13 with fail
   clear o0 ko;have HS:Hid (∀W',BW W6 W'->Ce W' gsx 1 (pV gj)/\Ce W' w.heap.size 0 (iV c.a)/\Ce W' w.heap.size 1 (iV c.b)/\Ce W' w.heap.size 2 (iV c.c)/\Ce W' w.heap.size 3 (iV c.d)/\Ce W' w.heap.size 4 (iV c.e)):=fun W' hW=>⟨(X6.out.s.below hW).cell 1,(C6.out.below hW).cell 0,(C6.out.below hW).cell 1,(C6.out.below hW).cell 2,(C6.out.below hW).cell 3,(C6.out.below hW).cell 4⟩;have hsd:=HS.out W6.drew (yaf bR)
   go_region_held3 (fun W'=>Ce W' gsx 1 (pV gj)/\Ce W' w.heap.size 0 (iV c.a)/\Ce W' w.heap.size 1 (iV c.b)/\Ce W' w.heap.size 2 (iV c.c)/\Ce W' w.heap.size 3 (iV c.d)/\Ce W' w.heap.size 4 (iV c.e)) (first | with_reducible exact hsd | with_reducible exact hs7 | with_reducible exact hs8 | with_reducible assumption)
    (first
     | (go_at_call 62;refine (ypx c _).mono ?_;rintro _ w7 ⟨u,rfl,hu,hb7⟩;have U7:Hid (w7.ownsRow W6.heap.size 5 1 u _ _):=hu;have B7:Hid (BW W6 w7):=yad (yaf bR) hb7;have hs7:=HS.out w7 B7.out;clear hu hb7)
     | (go_at_call 58;refine (yrr (N:=1) _ _ (by have:=HN.out;omega) (X6.out.j.below B7.out) (X6.out.p.below B7.out) X6.out.z (Sl.of_own U7.out rfl) (yzw U7.out (by have:=HLT.out;have:=K6.out.size;omega)) (by rw [yf2 _ _ (Nat.le_refl 5)];decide) (by rw [yf2 _ _ (Nat.le_refl 5)];decide) HN.out.2.1 (by have:=HN.out;have:=X6.out.k;omega)).mono ?_;rintro _ w8 ⟨rfl,lv8,st8,j8,p8,z8,k8,o8⟩;have J8:=lh (And.intro j8 (And.intro p8 (And.intro z8 o8)));have K8:=lh k8;have S8:=lh ((X6.out.s.below B7.out).keep k8 HNE.out);have hs8:=yxr HLT.out (X6.out.s.below B7.out) (C6.out.below B7.out) HNE.out k8;clear j8 p8 z8 k8 o8))
   clear hsd
   have hnL:∀x,w.heap.size<=x->x∉gj::ga::gp::ownL lv:=fun x hx hm=>by
    have h1:=yyk HLT.out hm;omega
   have O8:=lh ((O6.out.below B7.out).keep K8.out (hnL _ om));have R8:=lh ((R6.out.below B7.out).keep K8.out (hnL _ om));clear hnL;have s2:=S8.out.cell 2;simp only [gz,gs] at s2;have sf2:=S8.out.frozen 2;have ks:=S8.out.lt;go_upto_region 16 with fail
   obtain ⟨W9,hW9,S9,k9⟩:∃W,w8.setCell (Ad gsx 2) (pV g4)=W/\Hid (Blk W gsx 119 [pV gp,pV gj,pV g4])/\yab [gsx] w8 W:=⟨_,rfl,S8.out.set 2 _,(yab.refl _ _).sg _⟩;try with_reducible rw [hW9]
   clear hW9 s2 sf2 ks;have O9:=lh (O8.out.keep k9 (by simp only [ms];have:=HLT.out;omega));have R9:=lh (R8.out.keep k9 (by simp only [ms];have:=HLT.out;omega));have X9:=lh (X6.out.next A6.out (fun x hx=>F5'.out x (List.mem_append_right _ hx)) B7.out K8.out J8.out.1 J8.out.2.1 J8.out.2.2.1 J8.out.2.2.2 k9 S9.out)
   have B9:Hid (Stp F w (ownL lv8++F5) W9):=⟨((yab.of_below (yad K6.out B7.out):yab F w w7).trans K8.out (fun x hx=>.inl (HX.out.sF x (List.mem_cons_of_mem _ hx)))).trans k9 (fun x hx=>.inl (by
    simp only [ms] at hx;exact hx▸HX.out.sF gsx (by simp))),fun x hx=>by
    rcases List.mem_append.1 hx with h1 | h1
    ·rcases J8.out.2.2.2 x h1 with h2 | h2
     ·exact .inl (HX.out.sF x (by simp [h2]))
     ·have:=K6.out.size
      have:=B7.out.size;exact .inr om
    ·exact N5.out x h1⟩
   have P9:Hid (∀b cs,Blk w b 45 cs->Blk W9 b 45 cs):=fun b cs hb=>by
    have hn:∀x∈gsx::gj::ga::gp::ownL lv,b≠x:=fun x hx e=>by
     obtain ⟨t,c2,h1,_,_,_,h5⟩:=HX.out.kinds x hx;exact ybs h1 hb h5 e.symm
    exact ((hb.below (yad K6.out B7.out)).keep K8.out (fun hm=>hn _ (List.mem_cons_of_mem _ hm) rfl)).keep k9 (by simp only [ms];exact hn gsx (by simp))
   clear k9;have HRG:Hid (W9.rangeAt (w.heap.size+1+1) 0 [iZ,iV r,iV cy,iV td,iV cn,bal,iV cr,iV du,rt,dp,iV sq,iV pn,iV pf,iV pt,iV pd,ln,iV tt,iV pc,iV mn,.bool gr]):=fun j v hv=>by rw [Nat.zero_add,O9.out.cell];exact hv
   have HZ:Hid (W9.heap[w.heap.size+1]?=some (.cells zA.toArray 45 (0,0))):=R9.out
   go_wp2_with (first | (with_reducible refine wpList_load_mid rfl 45 (.tmp 6) rfl (w.heap.size+1+1) 0 rfl [iZ,iV r,iV cy,iV td,iV cn,bal,iV cr,iV du,rt,dp,iV sq,iV pn,iV pf,iV pt,iV pd,ln,iV tt,iV pc,iV mn,.bool gr] _ HRG.out Tryz.underlying45 rfl (ybp.trans rfl) ?_) | (with_reducible refine ybj rfl (.tmp 4) (.tmp 51) rfl rfl (w.heap.size+1) #[iZ,iV r,iV cy,iV td,iV cn,bal,iV cr,iV du,rt,dp,iV sq,iV pn,iV pf,iV pt,iV pd,ln,iV tt,iV pc,iV mn,.bool gr] rfl rfl _ HZ.out rfl rfl HOC.out ?_))
   refine bodyPost_ret (v:=.agg #[iZ,iV r,iV cy,iV td,iV cn,bal,iV cr,iV du,rt,dp,iV sq,iV pn,iV pf,iV pt,iV pd,ln,iV tt,iV pc,iV mn,.bool gr]) (results_cell_row (p:=4) (ty:=45) rfl _ _ (w.heap.size+1) 45 _ (0,0) _ rfl (setRow_heap _ _ _ _ _ _ HZ.out) Tryz.underlying45 rfl (by rw [ybp];rfl)) rfl ?_;have hk:yab [w.heap.size+1] W9 (W9.setRow (w.heap.size+1) #[iZ,iV r,iV cy,iV td,iV cn,bal,iV cr,iV du,rt,dp,iV sq,iV pn,iV pf,iV pt,iV pd,ln,iV tt,iV pc,iV mn,.bool gr]):=(yab.refl _ _).setRow (.inl (List.mem_cons_self ..)) _;exact ⟨_,N+1,_,rfl,HAN.out,⟨_,_,_,_,_,_,_,_,X9.out.put hk (List.mem_append_right _ (F5'.out _ (by simp))) R9.out⟩,Nat.le_refl _,⟨B9.out.keep.trans hk (fun x hx=>.inr (by simp only [ms] at hx;omega)),B9.out.new⟩,fun x hx=>List.mem_append_right _ (F5'.out x (List.mem_append_left _ (List.mem_append_right _ hx))),fun b cs hb=>(P9.out b cs hb).keep hk (by have:=hb.lt;simp only [ms];omega)⟩
  ·have hne:(E != 0)=true:=by simpa using hE0
   have HA:Hid (A'=A):=jbw hE.out hE0;have O9:=O6;have R9:=R6;go_upto_region 12 with fail
   clear o0 ko;have HRG:Hid (W6.rangeAt (w.heap.size+1+1) 0 [iV E,iV r,iV cy,iV td,iV cn,bal,iV cr,iV du,rt,dp,iV sq,iV pn,iV pf,iV pt,iV pd,ln,iV tt,iV pc,iV mn,.bool gr]):=fun j v hv=>by rw [Nat.zero_add,O9.out.cell];exact hv
   have HZ:Hid (W6.heap[w.heap.size+1]?=some (.cells zA.toArray 45 (0,0))):=R9.out
   go_wp2_with (first | (with_reducible refine wpList_load_mid rfl 45 (.tmp 6) rfl (w.heap.size+1+1) 0 rfl [iV E,iV r,iV cy,iV td,iV cn,bal,iV cr,iV du,rt,dp,iV sq,iV pn,iV pf,iV pt,iV pd,ln,iV tt,iV pc,iV mn,.bool gr] _ HRG.out Tryz.underlying45 rfl (ybp.trans rfl) ?_) | (with_reducible refine ybj rfl (.tmp 4) (.tmp 37) rfl rfl (w.heap.size+1) #[iV E,iV r,iV cy,iV td,iV cn,bal,iV cr,iV du,rt,dp,iV sq,iV pn,iV pf,iV pt,iV pd,ln,iV tt,iV pc,iV mn,.bool gr] rfl rfl _ HZ.out rfl rfl HOC.out ?_))
   refine bodyPost_ret (v:=.agg #[iV E,iV r,iV cy,iV td,iV cn,bal,iV cr,iV du,rt,dp,iV sq,iV pn,iV pf,iV pt,iV pd,ln,iV tt,iV pc,iV mn,.bool gr]) (results_cell_row (p:=4) (ty:=45) rfl _ _ (w.heap.size+1) 45 _ (0,0) _ rfl (setRow_heap _ _ _ _ _ _ HZ.out) Tryz.underlying45 rfl (by rw [ybp];rfl)) rfl ?_;have hk:yab [w.heap.size+1] W6 (W6.setRow (w.heap.size+1) #[iV E,iV r,iV cy,iV td,iV cn,bal,iV cr,iV du,rt,dp,iV sq,iV pn,iV pf,iV pt,iV pd,ln,iV tt,iV pc,iV mn,.bool gr]):=(yab.refl _ _).setRow (.inl (List.mem_cons_self ..)) _;rw [HA.out]
   exact ⟨_,N,_,rfl,HAN.out,⟨_,_,_,_,_,_,_,_,X6.out.put hk (by simp) R6.out⟩,Nat.le_succ _,⟨(yab.of_below K6.out:yab F w W6).trans hk (fun x hx=>.inr (by simp only [ms] at hx;omega)),fun x hx=>by
    rcases List.mem_append.1 hx with h1 | h1
    ·simp only [List.mem_cons,List.not_mem_nil,or_false] at h1
     exact .inr om
    ·exact .inl h1⟩,fun x hx=>List.mem_append_right _ (HXX.out x hx).1,fun b cs hb=>(hb.below K6.out).keep hk (by have:=hb.lt;simp only [ms];omega)⟩
section
theorem ynf {w:World} {e r cy td cn:Int} {bal:Value} {cr du:Int} {rt dp:Value} {sq pn pf pt pd:Int} {ln:Value} {tt pc mn:Int} {g:Bool}:(Instr.field 45 (.agg #[iV e,iV r,iV cy,iV td,iV cn,bal,iV cr,iV du,rt,dp,iV sq,iV pn,iV pf,iV pt,iV pd,ln,iV tt,iV pc,iV mn,.bool g]) 0).run Tryz.prog w=.ok (iV e) w:= by
 kernel_rfl
attribute [local go_sem] ynf
theorem jae {W:World} {g:Nat} (h:Blk W g 81 [iV 5,.bool false]):TrS W (sL g 0 1 1) [(5,false)]:= by
 refine TrS.of_fl (l:=[(5,false)]) ⟨rfl,yei _,_,_,rfl,Nat.le_refl _,⟨by simp [maxLen],fun e=>by cases e⟩,fun _=>⟨g,0,rfl,fun i _=>?_⟩⟩;rw [h.cell,Nat.zero_add]
 rfl
theorem ysi {w W2 w3 w4:World} {ga gp:Nat} (h:Blk W2 (w.heap.size+1) 24 [iV 1000,sL w.heap.size 0 1 1,iV 1,iV 1,iZ,iZ,iV 10957]) (hb:BW W2 w3) (hk:yab [ga,gp] w3 w4) (hg:W2.heap.size<=ga/\W2.heap.size<=gp) (hl:w.heap.size+1<W2.heap.size) :
 w4.cell? (Ad (w.heap.size+1) 0)=some (iV 1000)/\w4.cell? (Ad (w.heap.size+1) 1)=some (sL w.heap.size 0 1 1)/\w4.cell? (Ad (w.heap.size+1) 2)=some (iV 1)/\w4.cell? (Ad (w.heap.size+1) 3)=some (iV 1)/\w4.cell? (Ad (w.heap.size+1) 4)=some (iZ)/\w4.cell? (Ad (w.heap.size+1) 5)=some (iZ)/\w4.cell? (Ad (w.heap.size+1) 6)=some (iV 10957):= by
 have q:=(h.below hb).keep hk (by simp only [List.mem_cons,List.not_mem_nil,or_false];omega);exact ⟨q.cell 0,q.cell 1,q.cell 2,q.cell 3,q.cell 4,q.cell 5,q.cell 6⟩
theorem yrl (w:World):Calls Tryz.prog 9 #[] w (RetB (.bool true) w):= by
 obtain ⟨W2,hW2,T2,X2,B2⟩:∃W,((w.alloc (.cells #[iV 5,.bool false] 81)).alloc (.cells #[iV 1000,sL w.heap.size 0 1 1,iV 1,iV 1,iZ,iZ,iV 10957] 24))=W/\Hid (Blk W w.heap.size 81 [iV 5,.bool false])/\Hid (Blk W (w.heap.size+1) 24 [iV 1000,sL w.heap.size 0 1 1,iV 1,iV 1,iZ,iZ,iV 10957])/\Hid (BW w W) :=
  ⟨_,rfl,(yae w _ _ _ rfl).below (yaa bR _),ybc _ _ _ _ (World.size_alloc _ _),yaa (yaa bR _) _⟩
 go_enter Tryz.func9,Tryz.ntmps9
 go_upto_region 2 with fail
 try with_reducible rw [hW2]
 clear hW2;have HS:Hid (∀W',BW W2 W'->Ce W' (w.heap.size+1) 0 (iV 1000)/\Ce W' (w.heap.size+1) 1 (sL w.heap.size 0 1 1)/\Ce W' (w.heap.size+1) 2 (iV 1)/\Ce W' (w.heap.size+1) 3 (iV 1)/\Ce W' (w.heap.size+1) 4 (iZ)/\Ce W' (w.heap.size+1) 5 (iZ)/\Ce W' (w.heap.size+1) 6 (iV 10957)):=fun W' hW=>⟨(X2.out.below hW).cell 0,(X2.out.below hW).cell 1,(X2.out.below hW).cell 2,(X2.out.below hW).cell 3,(X2.out.below hW).cell 4,(X2.out.below hW).cell 5,(X2.out.below hW).cell 6⟩;have hsd:=HS.out W2.drew (yaf bR);have HLT:Hid (w.heap.size+1<W2.heap.size):=X2.out.lt
 go_region_held3 (fun W'=>Ce W' (w.heap.size+1) 0 (iV 1000)/\Ce W' (w.heap.size+1) 1 (sL w.heap.size 0 1 1)/\Ce W' (w.heap.size+1) 2 (iV 1)/\Ce W' (w.heap.size+1) 3 (iV 1)/\Ce W' (w.heap.size+1) 4 (iZ)/\Ce W' (w.heap.size+1) 5 (iZ)/\Ce W' (w.heap.size+1) 6 (iV 10957)) (first | with_reducible exact hsd | with_reducible exact hs3 | with_reducible exact hs4 | with_reducible assumption)
  (first
   | (go_at_call 20;refine (yq4 100 (by decide) _).mono ?_;rintro _ w3 ⟨gp,ga,rfl,hp,hb⟩;have P3:=lh hp;have HB3:Hid (BW W2 w3):=yad (yaf bR) hb;have hs3:=HS.out w3 HB3.out;have HGG:Hid (W2.heap.size<=ga/\W2.heap.size<=gp):=(by obtain ⟨_,q,_⟩:=hp;exact ⟨q.2,q.1⟩);clear hp hb)
   | (go_at_call 32;refine (yqu _ gp ga 100 tm5 (.slice (some ⟨w.heap.size,0,none⟩) 1 1) ykl (by decide) (by decide) _ P3.out (jae (T2.out.below HB3.out)) (fun b o n c e hn hm=>by cases e;have h1:=HGG.out;have h2:=HLT.out;simp only [List.mem_cons,List.not_mem_nil,or_false] at hm;omega) (by have:=HB3.out.size;simp only [World.size_drew];exact this)).mono ?_;rintro _ w4 ⟨gsx,N,F,rfl,s4,n4,k4⟩;have S4:=lh s4;have N4:=lh n4;have K4:=lh k4;have hs4:=ysi X2.out HB3.out k4 HGG.out HLT.out;clear s4 n4 k4))
 clear hsd
 go_wp2_with fail
 refine (yuf ⟨1,0,1,5,0⟩ (ynp ykl (by decide)) (by decide) (yjx jaw) (by decide) (by have:=N4.out;omega) (by have:=N4.out;omega) F S4.out [] (fun x hx=>by cases hx)).mono ?_;rintro _ w5 ⟨v,N5,F5,rfl,han,_,_,k5,_,_⟩;obtain ⟨r,cy,td,cn,bal,cr,du,rt,dp,sq,pn,pf,pt,pd,ln,tt,pc,mn,gr,rfl,⟨_,_,_,rfl⟩,⟨_,_,_,rfl⟩,⟨_,_,_,rfl⟩,⟨_,_,_,rfl⟩⟩:=han
 have HF:Hid (BW w w5):= by
  have h34:Below w.heap.size w3 w4:=K4.out.to_below (by have:=HB3.out.size;have:=HLT.out;omega) (fun x hx=>by
   have h1:=HGG.out;have h2:=HLT.out;simp only [List.mem_cons,List.not_mem_nil,or_false] at hx;omega)
  exact ((yad B2.out HB3.out).trans h34).trans (k5.keep.to_below (by have:=h34.size;have:=HB3.out.size;have:=HLT.out;omega) (fun x hx=>by have h1:=(S4.out.low x hx).1;have h2:=HLT.out;simp only [World.size_drew] at h1;omega))
 clear k5
 go_wp2_with fail
 go_ret
 exact ⟨rfl,HF.out⟩
end
theorem jb8 {cyc d d':Int} (hd:d<=d') (k:Nat):∀{f:Int},f<=d->(ybd cyc d' k f).2=true->(ybd cyc d k f).2=true:= by
 induction k with
 | zero=>intro f _ h;simp [ybd] at h
 | succ k ih =>
  intro f hf h
  by_cases h0:(yb8 f cyc).2=0
  ·obtain ⟨l,hl⟩:∃l,yb8 f cyc=(l,0):=⟨_,Prod.ext rfl h0⟩
   by_cases h1:l<d/\k≠0
   ·rw [ye0 hl om h1.2] at h
    rw [ye0 hl h1.1 h1.2];exact ih om h
   ·rw [yez hl h1]
    by_cases h2:l<d'/\k≠0
    ·have:d<=l:=by omega
     simp [hf,this]
    ·rw [yez hl h2] at h
     simp only [Bool.and_eq_true,decide_eq_true_eq] at h ⊢;omega
  ·rw [ye3 h0] at h
   cases h
theorem jb6 {start cyc d d':Int} (hs:start<=d) (hd:d<=d') (h:(ofS start cyc d').2=0):(ofS start cyc d).2=0:= by
 unfold ofS at h ⊢
 split at h
 ·rename_i h1;exact absurd h h1
 ·rename_i h1
  rw [if_neg h1]
  split at h
  ·rename_i h2
   rw [if_pos (jb8 hd 300 hs h2)]
  ·cases h
theorem jc1 {l:List R5} {day:Int} (n:Nat):∀(k:Nat) (p:Ps) (rs:List Int),k+n=l.length->(evS l day n k p rs).2.2.2=0->∀p' rs',evS l day (l.length-(evS l day n k p rs).1) (evS l day n k p rs).1 p' rs'=((evS l day n k p rs).1,p',rs',0):= by
 induction n with
 | zero=>intro k p rs hk h0 p' rs';simp only [evS];rw [show l.length-k=0 by omega];rfl
 | succ n ih =>
  intro k p rs hk h0 p' rs';rw [yfc l day n k p rs] at h0 ⊢
  by_cases hb:(l.getD k yax).b=day
  ·rw [if_pos hb] at h0 ⊢
   by_cases he:(ybi p rs (l.getD k yax)).2.2≠0
   ·rw [if_pos he] at h0;exact absurd h0 he
   ·rw [if_neg he] at h0 ⊢
    exact ih _ _ _ om h0 _ _
  ·rw [if_neg hb]
   show evS l day (l.length-k) k p' rs'=(k,p',rs',0);rw [show l.length-k=n+1 by omega,yfc,if_neg hb]
section
variable {t:Tm} {l:List R5} {ps qs:List (Int×Int)} {day:Int} {s:RS} {j k:Nat}
theorem jb3 (hat:s.at'<=l.length) (h0:(ybh l day s).2=0):ybh l day (ybh l day s).1=((ybh l day s).1,0):= by
 have h:=jc1 (l.length-s.at') s.at' s.p s.rs om h0
 conv=>lhs;unfold ybh
 simp only [ybh];rw [h]
theorem dSe1 (e1:(ybh l day s).2≠0):ycm t l ps (k+1) day s=ybh l day s:=by rw [yge,if_pos e1]
theorem dSe2 (e1:(ybh l day s).2=0) (e2:(ybb t l ps day (ybh l day s).1).2≠0):ycm t l ps (k+1) day s=ybb t l ps day (ybh l day s).1:= by
 rw [yge,if_neg (by rw [e1];simp),if_pos e2]
theorem jb5 (hat:s.at'<=l.length) (h0:(ybh l day s).2=0):ycm t l qs j day (ybh l day s).1=ycm t l qs j day s:= by
 have h:=jb3 hat h0;cases j with
 | zero=>show ybh l day (ybh l day s).1=ybh l day s;rw [h];exact (yjx h0).symm
 | succ j=>simp only [yge,h,h0,ne_eq,not_true_eq_false,if_false]
theorem jbu (hp:ps <+: qs) (ho:s.out.length<ps.length):ybb t l qs day s=ybb t l ps day s:= by
 unfold ybb;rw [yyt hp ho]
theorem jbc {f today:Int} (hc:yg9 f today ps) (hp:ps <+: qs) (j k:Nat):∀(day:Int) (s:RS),WInv t l ps day s->day+(k:Int)=today->(∀x∈s.out,x.ls.length<=t.ts.length) ->
 ((ycm t l ps k day s).2=0->ycm t l qs (k+j) day s=ycm t l qs j today (ycm t l ps k day s).1)/\((ycm t l ps k day s).2≠0->(ycm t l qs (k+j) day s).2≠0):= by
 induction k with
 | zero =>
  intro day s h hd hl;obtain rfl:day=today:=by simpa using hd
  rw [Nat.zero_add];show ((ybh l day s).2=0->ycm t l qs j day s=ycm t l qs j day (ybh l day s).1)/\((ybh l day s).2≠0->(ycm t l qs j day s).2≠0);refine ⟨fun h0=>(jb5 h.at' h0).symm,fun h0=>?_⟩;cases j with
  | zero=>exact h0
  | succ j=>rw [dSe1 h0];exact h0
 | succ k ih =>
  intro day s h hd hl;rw [show k+1+j=(k+j)+1 by omega]
  by_cases e1:(ybh l day s).2=0
  ·have e3:ybb t l qs day (ybh l day s).1=ybb t l ps day (ybh l day s).1:=jbu hp h.ev.out
   by_cases e2:(ybb t l ps day (ybh l day s).1).2=0
   ·rw [yyg e1 e2,yyg e1 (by rw [e3];exact e2),e3]
    obtain ⟨h4,h5⟩:=yfj h.ev hc om (fun x hx=>hl x hx) e2;exact ih _ _ h4 om h5
   ·rw [dSe2 e1 e2,dSe2 e1 (by rw [e3];exact e2),e3]
    exact ⟨fun h=>absurd h e2,fun _=>e2⟩
  ·rw [dSe1 e1,dSe1 e1]
   exact ⟨fun h=>absurd h e1,fun _=>e1⟩
theorem jcn {fr til:Int}:s.out <+: (ydn t l fr til s).1.out:= by
 unfold ydn
 split
 ·exact List.prefix_refl _
 split
 ·exact List.prefix_refl _
 split
 ·exact List.prefix_append _ _
 ·exact List.prefix_refl _
theorem jb2:s.out <+: (ybb t l ps day s).1.out:= by
 unfold ybb
 split
 ·exact jcn (s:=ydh s)
 ·exact List.prefix_refl _
end
theorem jcu {t:Tm} {l:List R5} {ps:List (Int×Int)} (k:Nat):∀(day:Int) (s:RS),s.out <+: (ycm t l ps k day s).1.out:= by
 induction k with
 | zero=>intro day s;exact List.prefix_refl _
 | succ k ih =>
  intro day s
  by_cases e1:(ybh l day s).2=0
  ·have h1:s.out <+: (ybb t l ps day (ybh l day s).1).1.out:=jb2 (s:=(ybh l day s).1)
   by_cases e2:(ybb t l ps day (ybh l day s).1).2=0
   ·rw [yyg e1 e2]
    exact h1.trans (ih _ _)
   ·rw [dSe2 e1 e2]
    exact h1
  ·rw [dSe1 e1]
   exact List.prefix_refl _
theorem yha.on {t:Tm} {l:List R5} {a b:Int} (hg:yha t l a) (h:a<=b):yha t l b:=⟨hg.terms,hg.events,fun x hx=>by have:=hg.late x hx;omega,hg.len⟩
theorem jbh {t:Tm} {l:List R5} {a b:Int} (hg:yha t l a) (hs:t.start<=a) (hab:a<=b) (h:(runS t l b).e=0):(runS t l a).e=0/\(runS t l a).out <+: (runS t l b).out:= by
 obtain ⟨qs,hq⟩:=yfx (hg.on hab) h
 have hta:ye2 t a=0:= by
  unfold ye2;rw [if_neg (by have:=hq.hi;omega),if_neg];rw [jb6 hs hab hq.of'];simp
 obtain ⟨ps,a1,a2,a3,a4,a5,a6⟩:=ynb hta
 have hpre:ps <+: qs:= by
  have:=yj0 (cyc:=t.cyc) hab 300 t.start;rw [a1,hq.sp] at this;exact this
 have e1:goS t l a=ycm t l ps (a-t.start).toNat t.start (rs0 t):=by unfold goS;rw [a1]
 have e2:goS t l b=ycm t l qs ((a-t.start).toNat+(b-a).toNat) t.start (rs0 t):= by
  unfold goS;rw [hq.sp,show (b-t.start).toNat=(a-t.start).toNat+(b-a).toNat by omega]
 obtain ⟨k1,k2⟩:=jbc (t:=t) (l:=l) a2 hpre (b-a).toNat (a-t.start).toNat t.start (rs0 t) (WInv.first a2) om (by simp [rs0])
 have h0:(ycm t l ps (a-t.start).toNat t.start (rs0 t)).2=0:= by
  by_cases h:(ycm t l ps (a-t.start).toNat t.start (rs0 t)).2=0
  ·exact h
  ·have:=k2 h
   rw [<-e2,hq.go] at this;exact absurd rfl this
 have hr:runS t l a=⟨(goS t l a).1.p,(goS t l a).1.rs,(goS t l a).1.out,0⟩:= by
  unfold runS;rw [if_neg (by rw [ygz hg,hta];simp),if_neg (by rw [e1,h0];simp)]
 rw [hr,hq.eq];refine ⟨rfl,?_⟩;show (goS t l a).1.out <+: (goS t l b).1.out;rw [e1,e2,k1 h0];exact jcu _ _ _
def Acc.re (A:Acc) (n:Int):Acc:={ A with seq:=n }
theorem jdd {A A':Acc} {d:Int} (h:yh3 A d=(A',0)):(1<=d/\d<=400)/\(ofS A.t.start A.t.cyc (A.today+d)).2=0/\(runS A.t A.ev (A.today+d)).e=0 /\
 A'={ A with today:=A.today+d,R:=runS A.t A.ev (A.today+d),seq:=A.seq+1,iss:=A.iss++(runS A.t A.ev (A.today+d)).out.drop A.R.out.length }:= by
 unfold yh3 at h
 split at h
 ·cases h
 rename_i h1
 split at h
 ·cases h
 rename_i h2
 split at h
 ·rename_i h3
  simp only [Prod.mk.injEq] at h;exact absurd h.2 h3
 rename_i h3;simp only [Prod.mk.injEq,and_true] at h;exact ⟨by omega,by simpa using h2,by simpa using h3,h.symm⟩
theorem jb7 {A:Acc} {d:Int} (h1:1<=d/\d<=400) (h2:(ofS A.t.start A.t.cyc (A.today+d)).2=0) (h3:(runS A.t A.ev (A.today+d)).e=0) :
 yh3 A d=({ A with today:=A.today+d,R:=runS A.t A.ev (A.today+d),seq:=A.seq+1,iss:=A.iss++(runS A.t A.ev (A.today+d)).out.drop A.R.out.length },0):= by
 unfold yh3;rw [if_neg om,if_neg (by rw [h2];simp),if_neg (by rw [h3];simp)]
theorem ycy.start {A:Acc} (hA:ycy A):A.t.start<=A.today:= by
 obtain ⟨ps,hp⟩:=yfx hA.goods (by rw [hA.run];exact hA.e);exact hp.lo
theorem jcy {A A':Acc} (hA:ycy A) {a b:Int} (ha:1<=a) (hb:1<=b) (h:yh3 A (a+b)=(A',0)):∃A1,yh3 A a=(A1,0)/\yh3 A1 b=(A'.re (A'.seq+1),0):= by
 obtain ⟨h1,h2,h3,rfl⟩:=jdd h;have hs:=hA.start;obtain ⟨r1,r2⟩:=jbh (a:=A.today) hA.goods hs (show A.today<=A.today+a by omega) (jbh (hA.goods.on (show A.today<=A.today+a by omega)) om (show A.today+a<=A.today+(a+b) by omega) h3).1;obtain ⟨r3,r4⟩:=jbh (a:=A.today+a) (hA.goods.on om) om (show A.today+a<=A.today+(a+b) by omega) h3;rw [hA.run] at r2;refine ⟨_,jb7 ⟨ha,by omega⟩ (jb6 om (show A.today+a<=A.today+(a+b) by omega) h2) r3,?_⟩;rw [jb7 ⟨hb,by omega⟩ (by rw [show A.today+a+b=A.today+(a+b) by omega];exact h2) (by show (runS A.t A.ev (A.today+a+b)).e=0;rw [show A.today+a+b=A.today+(a+b) by omega];exact h3)];simp only [show A.today+a+b=A.today+(a+b) by omega,Acc.re];obtain ⟨u,hu⟩:=r2;obtain ⟨v,hv⟩:=r4;rw [<-hv,<-hu];simp
theorem ja6 (A:Acc) (n:Int):A.re n=A.re (A.seq-A.seq+n):=by rw [Int.sub_self,Int.zero_add]
theorem jb1 (A:Acc) (d n:Int):yh3 (A.re n) d=((yh3 A d).1.re ((yh3 A d).1.seq-A.seq+n),(yh3 A d).2):= by
 have e:yh3 (A.re n) d=if d<1\/400<d then (A.re n,1)
  else if (ofS A.t.start A.t.cyc (A.today+d)).2≠0 then (A.re n,10)
  else if (runS A.t A.ev (A.today+d)).e≠0 then (A.re n,(runS A.t A.ev (A.today+d)).e)
  else ({ A with today:=A.today+d,R:=runS A.t A.ev (A.today+d),seq:=n+1,iss:=A.iss++(runS A.t A.ev (A.today+d)).out.drop A.R.out.length },0):=rfl
 rw [e];unfold yh3
 by_cases h1:d<1\/400<d
 ·rw [if_pos h1,if_pos h1,<-ja6]
 rw [if_neg h1,if_neg h1]
 by_cases h2:(ofS A.t.start A.t.cyc (A.today+d)).2≠0
 ·rw [if_pos h2,if_pos h2,<-ja6]
 rw [if_neg h2,if_neg h2]
 by_cases h3:(runS A.t A.ev (A.today+d)).e≠0
 ·rw [if_pos h3,if_pos h3,<-ja6]
 rw [if_neg h3,if_neg h3];simp only [Acc.re,Prod.mk.injEq,Acc.mk.injEq,true_and,and_true];omega
theorem jcw (k:Nat):∀{A A':Acc} (n:Int),ycy A->yh3 A (k+1:Nat)=(A',0)->∃m,(List.replicate (k+1) (⟨8,1,0,0,0⟩:R5)).foldl (fun a c=>(doS a c).1) (A.re n)=A'.re m:= by
 induction k with
 | zero =>
  intro A A' n hA h;have e:doS (A.re n) ⟨8,1,0,0,0⟩=yh3 (A.re n) 1:=by unfold doS;rw [if_pos rfl]
  have h':yh3 A 1=(A',0):=h;refine ⟨A'.seq-A.seq+n,?_⟩;show (doS (A.re n) ⟨8,1,0,0,0⟩).1=_;rw [e,jb1,h']
 | succ k ih =>
  intro A A' n hA h;obtain ⟨A1,h1,h2⟩:=jcy hA (a:=1) (b:=(k+1:Nat)) (Int.le_refl _) om (by rw [show (1:Int)+(k+1:Nat)=(k+1+1:Nat) by omega];exact h);have hA1:=(yxo hA 1).1;rw [h1] at hA1;have e:doS (A.re n) ⟨8,1,0,0,0⟩=yh3 (A.re n) 1:=by unfold doS;rw [if_pos rfl]
  obtain ⟨m,hm⟩:=ih (A1.seq-A.seq+n) hA1 h2;refine ⟨m,?_⟩;rw [List.replicate_succ,List.foldl_cons,e,jb1,h1,hm]
  rfl
end Go.Proofs.YtkongpjpkpfniaaGreat

/- TopPaid: parts of the proof, made small by a program (mini.py). -/
import Derived.Laws.CopyOwn
import Derived.Test.YtkongpjpkpfniaaGreatM01
import Derived.Test.YtkongpjpkpfniaaGreatM14
import Derived.Test.YtkongpjpkpfniaaGreatM47
set_option linter.unusedVariables false
set_option linter.unusedSimpArgs false
set_option maxRecDepth 100000
set_option maxHeartbeats 6400000
namespace Go.Proofs.YtkongpjpkpfniaaGreat
open Go.RowKit
theorem zq48391d {q:Prop} (h:q:= by
 obtain ⟨fv,fc⟩:=(K1.out.choose_spec).at' (j:=4) om;have ff:=(K1.out.choose_spec).x.frozen 4;have fk:=(K1.out.choose_spec).x.lt;go_upto_region 8 with fail
 obtain ⟨W3,hW,K3⟩:∃W,W1.setCell ⟨(w.heap.size+1),4,none⟩ (.int .u8 ((fv+2)%256))=W∧Hid (∃cs,PgW w W cs):=⟨_,rfl,by obtain ⟨cs,k⟩:=K1.out;exact ⟨_,k.set 4 _⟩⟩;exact zq4897f6):q:=h
theorem zq480afc {q:Prop} (h:q:= by
 obtain ⟨fv,fc⟩:=(K1.out.choose_spec).at' (j:=4) om;have ff:=(K1.out.choose_spec).x.frozen 4;have fk:=(K1.out.choose_spec).x.lt;go_upto_region 6 with fail
 obtain ⟨W2,hW,K2⟩:∃W,W1.setCell ⟨(w.heap.size+1),4,none⟩ (.int .u8 ((fv+1)%256))=W∧Hid (∃cs,PgW w W cs):=⟨_,rfl,by obtain ⟨cs,k⟩:=K1.out;exact ⟨_,k.set 4 _⟩⟩;try with_reducible rw [hW]
 clear hW;clear fc ff fk;obtain ⟨fv,fc⟩:=(K2.out.choose_spec).at' (j:=4) om;have ff:=(K2.out.choose_spec).x.frozen 4;have fk:=(K2.out.choose_spec).x.lt;go_upto_region 8 with fail
 obtain ⟨W3,hW,K3⟩:∃W,W2.setCell ⟨(w.heap.size+1),4,none⟩ (.int .u8 ((fv+2)%256))=W∧Hid (∃cs,PgW w W cs):=⟨_,rfl,by obtain ⟨cs,k⟩:=K2.out;exact ⟨_,k.set 4 _⟩⟩;exact zq4897f6):q:=h
theorem zq4897f6 {q:Prop} (h:q:= by
 try with_reducible rw [hW]
 clear hW;clear fc ff fk;obtain ⟨ev,ec⟩:=(K3.out.choose_spec).at' (j:=5) om;have ef:=(K3.out.choose_spec).x.frozen 5;have ek:=(K3.out.choose_spec).x.lt;go_upto_region 9 with fail
 obtain ⟨W5,hW,K5⟩:∃W,W3.setCell ⟨(w.heap.size+1),5,none⟩ (.int .u8 (bs.length:Int))=W∧Hid (∃cs,PgW w W cs):=⟨_,rfl,by obtain ⟨cs,k⟩:=K3.out;exact ⟨_,k.set 5 _⟩⟩;exact zq48339f):q:=h
theorem zq48339f {q:Prop} (h:q:= by
 with_reducible rw [hW]
 clear hW;clear ec ef ek;obtain ⟨c5,k5⟩:=K5.out;have P5:=lh k5;have HV5:=lh (HV.out.below k5.bel);have HZ5:Hid (W5.heap[w.heap.size+1]?=some (.cells c5.toArray 189 (0,0))):=k5.x
 have HPOS:Hid (0<(bs.map (Value.int .u8)).length→some (⟨w.heap.size+1,6,none⟩:Addr)=some ⟨w.heap.size+1,6,none⟩∧∃ad,ao=some ad∧∀j v,(bs.map (Value.int .u8))[j]?=some v→W5.cell? (ad.add j)=some v):=fun _=>⟨rfl,by
  obtain ⟨q,o,e,_⟩:=HV5.out.at' (i:=0) (by have:=HL.out;omega);refine ⟨⟨q,o,none⟩,e,fun j v hj=>?_⟩;have hj2:j<bs.length:=by simpa using (List.getElem?_eq_some_iff.1 hj).1
  obtain ⟨q',o',e',hc⟩:=HV5.out.at' hj2;rw [e] at e';cases e';rw [Addr.add_lit,hc];rw [List.getElem?_map,List.getElem?_eq_getElem hj2] at hj;simp only [Option.map_some,Option.some.injEq] at hj;rw [←hj];simp [List.getD,hj2]⟩
 have HMIN:Hid ((bs.map (Value.int .u8)).length=Nat.min bs.length 42):= by
  show _=_;rw [List.length_map];exact (Nat.min_eq_left (by have:=HL.out;omega)).symm
 have HFIT:Hid (6+(bs.map (Value.int .u8)).length≤c5.length):= by
  show _≤_;rw [List.length_map,k5.len];have:=HL.out;omega
 have HB0:Hid (Below (w.heap.size+1) W5 W5):=bR;have HONES:Hid (∀v∈bs.map (Value.int .u8),v.oneCell'=true):=by intro v hv;simp only [List.mem_map] at hv;obtain ⟨x,_,rfl⟩:=hv;rfl
 clear k5;go_upto_region 10 with (refine wpList_copy_splice (o:=⟨some 54,_,_,_,_,_⟩) rfl (.tmp 52) (.tmp 53) 135 135 rfl 5 Tryz.underlying135 yug (some ⟨w.heap.size+1,6,none⟩) ao 42 42 bs.length cap ?hd ?hs (w.heap.size+1) 6 c5 189 HZ5.out (bs.map (Value.int .u8)) HMIN.out HPOS.out HFIT.out HONES.out (w.heap.size+1) W5 HB0.out (Nat.le_refl _) ?_;(case hd=>rfl);(case hs=>rfl);intro W6 hx6 hb6)
 have P6:Hid (∃cs,PgW w W6 cs):=⟨_,P5.out.spliced hx6.out hb6 (by simpa using HFIT.out) (fun v hv=>by simp only [List.mem_map] at hv;obtain ⟨x,_,rfl⟩:=hv;exact ⟨x,rfl⟩)⟩;clear hx6 hb6;obtain ⟨mv,mc⟩:=(P6.out.choose_spec).at' (j:=47) om;have mf:=(P6.out.choose_spec).x.frozen 47;have mk:=(P6.out.choose_spec).x.lt;go_upto_region 11 with fail
 obtain ⟨W7,hW,K7⟩:∃W,W6.setCell ⟨(w.heap.size+1),47,none⟩ (.int .u8 (90))=W∧Hid (∃cs,PgW w W cs):=⟨_,rfl,by obtain ⟨cs,k⟩:=P6.out;exact ⟨_,k.set 47 _⟩⟩
 with_reducible rw [hW]
 clear hW;clear mc mf mk;obtain ⟨c7,k7⟩:=K7.out;have P7:=lh k7;clear k7;have HR7:Hid (W7.rangeAt (w.heap.size+1) 0 c7):=fun j v hv=>by rw [Nat.zero_add,P7.out.x.cell];exact hv
 have HI7:Hid ((Tryz.prog.info? 189).map (·.size)=some c7.length):=by rw [P7.out.len];exact ydv
 go_wp2_with (with_reducible refine wpList_load_mid rfl 189 (.tmp 10) rfl (w.heap.size+1) 0 rfl c7 _ HR7.out Tryz.underlying189 rfl HI7.out ?_)
 refine (yx0 n c7 P7.out.len P7.out.u8 _).mono ?_;rintro _ W8 ⟨s4,rfl,hs4,hu4,hb8⟩
 obtain ⟨s0,s1,s2,s3,rfl⟩:∃a b c d,s4=[a,b,c,d]:= by
  match s4,hs4 with
  | [a,b,c,d],_=>exact ⟨a,b,c,d,rfl⟩
 obtain ⟨x0,rfl⟩:=hu4 s0 (by simp);obtain ⟨x1,rfl⟩:=hu4 s1 (by simp);obtain ⟨x2,rfl⟩:=hu4 s2 (by simp);obtain ⟨x3,rfl⟩:=hu4 s3 (by simp);have HU4:=lh hu4;have P8:=lh (P7.out.below hb8);clear hb8 hu4 hs4;simp only [List.toArray];go_upto_region 12 with fail
 obtain ⟨W9,hW,P9,HS9⟩:∃W,W8.alloc (.cells #[.int .u8 x0,.int .u8 x1,.int .u8 x2,.int .u8 x3] 244)=W∧Hid (PgW w W c7)∧Hid (Blk W W8.heap.size 244 [.int .u8 x0,.int .u8 x1,.int .u8 x2,.int .u8 x3]):=⟨_,rfl,P8.out.below (yaa bR _),yae W8 _ _ _ rfl⟩
 with_reducible rw [hW]
 clear hW;have HS12:Hid (∀W',Below W9.heap.size W9 W'→True):=fun _ _=>trivial;have P9d:=lh (P9.out.below (yaf bR));have HZ9:Hid (W9.drew.heap[w.heap.size+1]?=some (.cells c7.toArray 189 (0,0))):=P9d.out.x;have HS9d:=lh (HS9.out.below (yaf bR));have HP12:Hid (0<([.int .u8 x0,.int .u8 x1,.int .u8 x2,.int .u8 x3]:List Value).length→some (⟨w.heap.size+1,0,none⟩:Addr)=some ⟨w.heap.size+1,0,none⟩∧∃ad,some (⟨W8.heap.size,0,none⟩:Addr)=some ad∧∀j v,([.int .u8 x0,.int .u8 x1,.int .u8 x2,.int .u8 x3]:List Value)[j]?=some v→W9.drew.cell? (ad.add j)=some v):=fun _=>⟨rfl,_,rfl,fun j v hj=>by rw [Addr.add_lit,Nat.zero_add,HS9d.out.cell];exact hj⟩;have HB12:Hid (Below (w.heap.size+1) W9.drew W9.drew):=bR;have hsd:True:=trivial;refine yan (fun _=>True) 2 kr ?_;refine tk 0 rfl kr ke rfl kv ka kp ?_;refine tk 1 rfl kr ke rfl kv ka kp ?_;refine wo 2 kr rfl fun K hK=>?_;refine step_copy_splice rfl (.tmp 59) (.tmp 60) 135 135 rfl 5 Tryz.underlying135 yug (some ⟨w.heap.size+1,0,none⟩) (some ⟨W8.heap.size,0,none⟩) 48 48 4 4 (by rfl) (by rfl) (w.heap.size+1) 0 c7 189 HZ9.out ([.int .u8 x0,.int .u8 x1,.int .u8 x2,.int .u8 x3]:List Value) rfl HP12.out (by rw [P9.out.len];simp) (HU4.out.one) (w.heap.size+1) W9.drew HB12.out (Nat.le_refl _) ?_;intro W10 hx10 hb10;have K10:Hid (∃cs,PgW w W10 cs):=⟨_,P9d.out.spliced hx10.out hb10 (by rw [P9.out.len];simp) HU4.out⟩;clear hx10 hb10;refine hK.out _ _ (fun hun=>trivial) ?_;clear hK K;try simp only [ap,aq,sa,sb,sc]
 refine yal kr ?_ _;clear hsd HP12 HZ9;obtain ⟨c9,k9⟩:=K10.out;have P10:=lh k9;have HR10:Hid (W10.rangeAt (w.heap.size+1) 0 c9):=fun j v hv=>by rw [Nat.zero_add,P10.out.x.cell];exact hv
 have HI10:Hid ((Tryz.prog.info? 189).map (·.size)=some c9.length):=by rw [P10.out.len];exact ydv
 have HI10b:Hid ((Tryz.prog.info? 189).map (·.size)=some c9.toArray.size):=by rw [List.size_toArray];exact HI10.out
 have HZ10:Hid (W10.heap[w.heap.size]?=some (.cells Z48.toArray 189 (0,0))):=P10.out.r;have HO10:Hid (c9.toArray.all (·.oneCell')=true):=all_oneCell_toArray P10.out.u8.one
 have HSZ10:Hid (Z48.toArray.size=c9.toArray.size):= by
  have h1:=P10.out.len;show _=_;simp [Z48,h1]
 clear k9
 go_wp2_with (first | (with_reducible refine wpList_load_mid rfl 189 (.tmp 10) rfl (w.heap.size+1) 0 rfl c9 _ HR10.out Tryz.underlying189 rfl HI10.out ?_) | (with_reducible refine wpList_store_rowTo rfl 189 (.tmp 8) (.tmp 62) rfl rfl w.heap.size c9.toArray rfl rfl 189 Z48.toArray HZ10.out HI10b.out HSZ10.out HO10.out ?_))
 refine bodyPost_ret (v:=.tuple #[.agg c9.toArray,iZ]) (ydm (p:=8) (u:=9) (ty:=189) rfl _ _ w.heap.size 189 _ (0,0) _ rfl (setRow_heap _ _ _ _ _ _ HZ10.out) Tryz.underlying189 rfl HI10b.out _ rfl) rfl ⟨c9,0,rfl,P10.out.len,P10.out.u8,ybl P10.out.bel (Nat.le_refl _) _⟩):q:=h
theorem yug:(Tryz.prog.info? 5).map (·.size)=some 1:=by kernel_rfl
structure PgW (w W:World) (cs:List Value):Prop where
 x:Blk W (w.heap.size+1) 189 cs
 len:cs.length=48
 u8:U8s cs
 r:Blk W w.heap.size 189 Z48
 bel:Below w.heap.size w W
section
variable {w W W':World} {cs:List Value}
theorem PgW.below (h:PgW w W cs) (hb:Below W.heap.size W W'):PgW w W' cs:=⟨h.x.below hb,h.len,h.u8,h.r.below hb,yad h.bel hb⟩
theorem PgW.set (h:PgW w W cs) (j:Nat) (x:Int):PgW w (W.setCell ⟨w.heap.size+1,j,none⟩ (.int .u8 x)) (cs.set j (.int .u8 x)) :=
 ⟨h.x.set _ _,by rw [List.length_set];exact h.len,fun v hv=>by
  rcases List.mem_or_eq_of_mem_set hv with h1 | h1
  ·exact h.u8 v h1
  ·exact ⟨x,h1⟩,h.r.setOther om _ _,yao h.bel om⟩
theorem PgW.at' (h:PgW w W cs) {j:Nat} (hj:j<48):∃x,W.cell? ⟨w.heap.size+1,j,none⟩=some (.int .u8 x):= by
 have hl:=h.len;obtain ⟨x,hx⟩:=h.u8 _ (List.getElem_mem (show j<cs.length by omega));exact ⟨x,by rw [h.x.cell,List.getElem?_eq_getElem om,hx]⟩
theorem PgW.spliced {o:Nat} {vs:List Value} (h:PgW w W cs) (hx:W'.heap[w.heap.size+1]?=some (.cells (splice cs o vs).toArray 189 (0,0))) (hb:Below (w.heap.size+1) W W') (hl:o+vs.length≤cs.length) (hu:U8s vs):PgW w W' (splice cs o vs) :=
 ⟨hx,by rw [length_splice _ _ _ hl];exact h.len,fun v hv=>by
  unfold splice at hv;simp only [List.mem_append] at hv;rcases hv with h1 | h1 | h1
  ·exact h.u8 v (List.mem_of_mem_take h1)
  ·exact hu v h1
  ·exact h.u8 v (List.mem_of_mem_drop h1),(hb.block _ (Nat.lt_succ_self _)).trans h.r,h.bel.trans (hb.mono (Nat.le_succ _))⟩
end
def yq0 (w:World) (e:Ending) (w':World):Prop:=∃(cs:List Value) (x:Int),e=.returned (.tuple #[.agg cs.toArray,iV x])∧cs.length=48∧U8s cs∧Below w.heap.size w w'
theorem ywv (n:Nat) (hn:n≤20000) (first last:Bool) (v:Value) (bs:List Int) (hl:1≤bs.length∧bs.length≤41) (hlast:bs.length<41→last=true) (w:World) (hv:Sl .u8 w v bs) :
 Calls Tryz.prog 103 #[iV (n:Int),.bool first,.bool last,v] w (yq0 w):= by
 have HV:=lh hv;obtain ⟨ao,cap,rfl⟩:=hv.shape;have HL:=lh hl;obtain ⟨W1,hW1,K1⟩:∃W,((w.alloc (.cells Z48.toArray 189)).alloc (.cells Z48.toArray 189))=W∧Hid (∃cs,PgW w W cs):=⟨_,rfl,Z48,ybc _ _ _ _ (World.size_alloc _ _),by simp [Z48],fun v hv=>⟨0,List.eq_of_mem_replicate hv⟩,(yae w _ _ _ rfl).below (yaa bR _),yaa (yaa bR _) _⟩;have n1:¬(n:Int)<0:=by omega
 have n2:¬(20000:Int)<(n:Int):=by omega
 have n3:¬(bs.length:Int)<1:=by omega
 have n4:¬(41:Int)<(bs.length:Int):=by omega
 have hlq:last=true∨¬(bs.length:Int)<41:= by
  by_cases h:bs.length<41
  ·exact .inl (hlast h)
  ·exact .inr om
 clear hv hlast hl
 go_enter Tryz.func103,Tryz.ntmps103
 go_upto_region 2 with fail
 change Code.wp _ _ _ _ ((w.alloc (.cells Z48.toArray 189)).alloc (.cells Z48.toArray 189));rw [hW1];clear hW1
 by_cases h41:(bs.length:Int)<41
 ·obtain rfl:last=true:= by
   rcases hlq with h | h
   ·exact h
   ·exact absurd h41 h
  clear hlq;cases first with
  | true =>
   exact zq480afc
  | false =>
   exact zq48391d
 ·clear hlq
  cases first with
  | true =>
   cases last with
   | true =>
    exact zq480afc
   | false =>
    obtain ⟨fv,fc⟩:=(K1.out.choose_spec).at' (j:=4) om;have ff:=(K1.out.choose_spec).x.frozen 4;have fk:=(K1.out.choose_spec).x.lt;go_upto_region 6 with fail
    obtain ⟨W2,hW,K2⟩:∃W,W1.setCell ⟨(w.heap.size+1),4,none⟩ (.int .u8 ((fv+1)%256))=W∧Hid (∃cs,PgW w W cs):=⟨_,rfl,by obtain ⟨cs,k⟩:=K1.out;exact ⟨_,k.set 4 _⟩⟩;try with_reducible rw [hW]
    clear hW;clear fc ff fk;obtain ⟨ev,ec⟩:=(K2.out.choose_spec).at' (j:=5) om;have ef:=(K2.out.choose_spec).x.frozen 5;have ek:=(K2.out.choose_spec).x.lt;go_upto_region 9 with fail
    obtain ⟨W5,hW,K5⟩:∃W,W2.setCell ⟨(w.heap.size+1),5,none⟩ (.int .u8 (bs.length:Int))=W∧Hid (∃cs,PgW w W cs):=⟨_,rfl,by obtain ⟨cs,k⟩:=K2.out;exact ⟨_,k.set 5 _⟩⟩;exact zq48339f
  | false =>
   cases last with
   | true =>
    exact zq48391d
   | false =>
    obtain ⟨ev,ec⟩:=(K1.out.choose_spec).at' (j:=5) om;have ef:=(K1.out.choose_spec).x.frozen 5;have ek:=(K1.out.choose_spec).x.lt;go_upto_region 9 with fail
    obtain ⟨W5,hW,K5⟩:∃W,W1.setCell ⟨(w.heap.size+1),5,none⟩ (.int .u8 (bs.length:Int))=W∧Hid (∃cs,PgW w W cs):=⟨_,rfl,by obtain ⟨cs,k⟩:=K1.out;exact ⟨_,k.set 5 _⟩⟩;exact zq48339f
end Go.Proofs.YtkongpjpkpfniaaGreat

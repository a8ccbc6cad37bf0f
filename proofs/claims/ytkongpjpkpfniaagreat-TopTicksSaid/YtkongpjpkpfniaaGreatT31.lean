/- TopTicks: parts of the proof, made small by a program (mini.py). -/
import Derived.Laws.CopyOwn
import Derived.Test.YtkongpjpkpfniaaGreatT01
import Derived.Test.YtkongpjpkpfniaaGreatT10
import Derived.Test.YtkongpjpkpfniaaGreatT30
set_option linter.unusedVariables false
set_option linter.unusedSimpArgs false
set_option maxRecDepth 100000
set_option maxHeartbeats 6400000
namespace Go.Proofs.YtkongpjpkpfniaaGreat
open Go.RowKit
theorem zq31a1a5 {q:Prop} (h:q:= by
 obtain ⟨fv,fc⟩:=(K1.out.choose_spec).at' (j:=4) om;have ff:=(K1.out.choose_spec).x.frozen 4;have fk:=(K1.out.choose_spec).x.lt;go_upto_region 8 with fail
 obtain ⟨W3,hW,K3⟩:∃W,W1.setCell (Ad (w.heap.size+1) 4) (.int .u8 ((fv+2)%256))=W/\Hid (∃cs,PgW w W cs):=⟨_,rfl,by obtain ⟨cs,k⟩:=K1.out;exact ⟨_,k.set 4 _⟩⟩;exact zq3131d1):q:=h
theorem zq315251 {q:Prop} (h:q:= by
 obtain ⟨fv,fc⟩:=(K1.out.choose_spec).at' (j:=4) om;have ff:=(K1.out.choose_spec).x.frozen 4;have fk:=(K1.out.choose_spec).x.lt;go_upto_region 6 with fail
 obtain ⟨W2,hW,K2⟩:∃W,W1.setCell (Ad (w.heap.size+1) 4) (.int .u8 ((fv+1)%256))=W/\Hid (∃cs,PgW w W cs):=⟨_,rfl,by obtain ⟨cs,k⟩:=K1.out;exact ⟨_,k.set 4 _⟩⟩;try with_reducible rw [hW]
 clear hW;clear fc ff fk;obtain ⟨fv,fc⟩:=(K2.out.choose_spec).at' (j:=4) om;have ff:=(K2.out.choose_spec).x.frozen 4;have fk:=(K2.out.choose_spec).x.lt;go_upto_region 8 with fail
 obtain ⟨W3,hW,K3⟩:∃W,W2.setCell (Ad (w.heap.size+1) 4) (.int .u8 ((fv+2)%256))=W/\Hid (∃cs,PgW w W cs):=⟨_,rfl,by obtain ⟨cs,k⟩:=K2.out;exact ⟨_,k.set 4 _⟩⟩;exact zq3131d1):q:=h
theorem zq3131d1 {q:Prop} (h:q:= by
 try with_reducible rw [hW]
 clear hW;clear fc ff fk;obtain ⟨ev,ec⟩:=(K3.out.choose_spec).at' (j:=5) om;have ef:=(K3.out.choose_spec).x.frozen 5;have ek:=(K3.out.choose_spec).x.lt;go_upto_region 9 with fail
 obtain ⟨W5,hW,K5⟩:∃W,W3.setCell (Ad (w.heap.size+1) 5) (.int .u8 (bs.length:Int))=W/\Hid (∃cs,PgW w W cs):=⟨_,rfl,by obtain ⟨cs,k⟩:=K3.out;exact ⟨_,k.set 5 _⟩⟩;exact zq318cfc):q:=h
theorem zq318cfc {q:Prop} (h:q:= by
 with_reducible rw [hW]
 clear hW;clear ec ef ek;obtain ⟨c5,k5⟩:=K5.out;have P5:=lh k5;have HV5:=lh (HV.out.below k5.bel);have HZ5:Hid (W5.heap[w.heap.size+1]?=some (.cells c5.toArray 189 (0,0))):=k5.x
 have HPOS:Hid (0<(bs.map (Value.int .u8)).length->some ((Ad (w.heap.size+1) 6):Addr)=some (Ad (w.heap.size+1) 6)/\∃ad,ao=some ad/\∀j v,(bs.map (Value.int .u8))[j]?=some v->W5.cell? (ad.add j)=some v):=fun _=>⟨rfl,by
  obtain ⟨q,o,e,_⟩:=HV5.out.at' (i:=0) (by have:=HL.out;omega);refine ⟨(Ad q o),e,fun j v hj=>?_⟩;have hj2:j<bs.length:=by simpa using (List.getElem?_eq_some_iff.1 hj).1
  obtain ⟨q',o',e',hc⟩:=HV5.out.at' hj2;rw [e] at e';cases e';rw [Addr.add_lit,hc];rw [List.getElem?_map,List.getElem?_eq_getElem hj2] at hj;simp only [Option.map_some,Option.some.injEq] at hj;rw [<-hj];simp [List.getD,hj2]⟩
 have HMIN:Hid ((bs.map (Value.int .u8)).length=Nat.min bs.length 42):= by
  show _=_;rw [List.length_map];exact (Nat.min_eq_left (by have:=HL.out;omega)).symm
 have HFIT:Hid (6+(bs.map (Value.int .u8)).length<=c5.length):= by
  show _<=_;rw [List.length_map,k5.len];have:=HL.out;omega
 have HB0:Hid (Below (w.heap.size+1) W5 W5):=bR;have HONES:Hid (∀v∈bs.map (Value.int .u8),v.oneCell'=true):=by intro v hv;simp only [List.mem_map] at hv;obtain ⟨x,_,rfl⟩:=hv;rfl
 clear k5;go_upto_region 10 with (refine wpList_copy_splice (o:=⟨some 54,_,_,_,_,_⟩) rfl (.tmp 52) (.tmp 53) 135 135 rfl 5 Tryz.underlying135 yug (some (Ad (w.heap.size+1) 6)) ao 42 42 bs.length cap ?hd ?hs (w.heap.size+1) 6 c5 189 HZ5.out (bs.map (Value.int .u8)) HMIN.out HPOS.out HFIT.out HONES.out (w.heap.size+1) W5 HB0.out (Nat.le_refl _) ?_;(case hd=>rfl);(case hs=>rfl);intro W6 hx6 hb6)
 have P6:Hid (∃cs,PgW w W6 cs):=⟨_,P5.out.spliced hx6.out hb6 (by simpa using HFIT.out) (fun v hv=>by simp only [List.mem_map] at hv;obtain ⟨x,_,rfl⟩:=hv;exact ⟨x,rfl⟩)⟩;clear hx6 hb6;obtain ⟨mv,mc⟩:=(P6.out.choose_spec).at' (j:=47) om;have mf:=(P6.out.choose_spec).x.frozen 47;have mk:=(P6.out.choose_spec).x.lt;go_upto_region 11 with fail
 obtain ⟨W7,hW,K7⟩:∃W,W6.setCell (Ad (w.heap.size+1) 47) (.int .u8 (90))=W/\Hid (∃cs,PgW w W cs):=⟨_,rfl,by obtain ⟨cs,k⟩:=P6.out;exact ⟨_,k.set 47 _⟩⟩
 with_reducible rw [hW]
 clear hW;clear mc mf mk;obtain ⟨c7,k7⟩:=K7.out;have P7:=lh k7;clear k7;have HR7:Hid (W7.rangeAt (w.heap.size+1) 0 c7):=fun j v hv=>by rw [Nat.zero_add,P7.out.x.cell];exact hv
 have HI7:Hid ((Tryz.prog.info? 189).map (·.size)=some c7.length):=by rw [P7.out.len];exact ydv
 go_wp2_with (with_reducible refine wpList_load_mid rfl 189 (.tmp 10) rfl (w.heap.size+1) 0 rfl c7 _ HR7.out Tryz.underlying189 rfl HI7.out ?_)
 refine (yx0 n c7 P7.out.len P7.out.u8 _).mono ?_;rintro _ W8 ⟨s4,rfl,hs4,hu4,hb8⟩
 obtain ⟨s0,s1,s2,s3,rfl⟩:∃a b c d,s4=[a,b,c,d]:= by
  match s4,hs4 with
  | [a,b,c,d],_=>exact ⟨a,b,c,d,rfl⟩
 obtain ⟨x0,rfl⟩:=hu4 s0 (by simp);obtain ⟨x1,rfl⟩:=hu4 s1 (by simp);obtain ⟨x2,rfl⟩:=hu4 s2 (by simp);obtain ⟨x3,rfl⟩:=hu4 s3 (by simp);have HU4:=lh hu4;have P8:=lh (P7.out.below hb8);clear hb8 hu4 hs4;simp only [List.toArray];go_upto_region 12 with fail
 obtain ⟨W9,hW,P9,HS9⟩:∃W,W8.alloc (.cells #[.int .u8 x0,.int .u8 x1,.int .u8 x2,.int .u8 x3] 244)=W/\Hid (PgW w W c7)/\Hid (Blk W W8.heap.size 244 [.int .u8 x0,.int .u8 x1,.int .u8 x2,.int .u8 x3]):=⟨_,rfl,P8.out.below (yaa bR _),yae W8 _ _ _ rfl⟩
 with_reducible rw [hW]
 clear hW;have HS12:Hid (∀W',BW W9 W'->True):=fun _ _=>trivial;have P9d:=lh (P9.out.below (yaf bR));have HZ9:Hid (W9.drew.heap[w.heap.size+1]?=some (.cells c7.toArray 189 (0,0))):=P9d.out.x;have HS9d:=lh (HS9.out.below (yaf bR));have HP12:Hid (0<([.int .u8 x0,.int .u8 x1,.int .u8 x2,.int .u8 x3]:List Value).length->some ((Ad (w.heap.size+1) 0):Addr)=some (Ad (w.heap.size+1) 0)/\∃ad,some ((Ad W8.heap.size 0):Addr)=some ad/\∀j v,([.int .u8 x0,.int .u8 x1,.int .u8 x2,.int .u8 x3]:List Value)[j]?=some v->W9.drew.cell? (ad.add j)=some v):=fun _=>⟨rfl,_,rfl,fun j v hj=>by rw [Addr.add_lit,Nat.zero_add,HS9d.out.cell];exact hj⟩;have HB12:Hid (Below (w.heap.size+1) W9.drew W9.drew):=bR;have hsd:True:=trivial;refine yan (fun _=>True) 2 kr ?_;refine tK 0 rfl ?_;refine tK 1 rfl ?_;refine wo 2 kr rfl fun K hK=>?_;refine step_copy_splice rfl (.tmp 59) (.tmp 60) 135 135 rfl 5 Tryz.underlying135 yug (some (Ad (w.heap.size+1) 0)) (some (Ad W8.heap.size 0)) 48 48 4 4 (by rfl) (by rfl) (w.heap.size+1) 0 c7 189 HZ9.out ([.int .u8 x0,.int .u8 x1,.int .u8 x2,.int .u8 x3]:List Value) rfl HP12.out (by rw [P9.out.len];simp) (HU4.out.one) (w.heap.size+1) W9.drew HB12.out (Nat.le_refl _) ?_;intro W10 hx10 hb10;have K10:Hid (∃cs,PgW w W10 cs):=⟨_,P9d.out.spliced hx10.out hb10 (by rw [P9.out.len];simp) HU4.out⟩;clear hx10 hb10;refine hK.out _ _ (fun hun=>trivial) ?_;clear hK K;try simp only [ap,aq,sa,sb,sc]
 refine yal kr ?_ _;clear hsd HP12 HZ9;obtain ⟨c9,k9⟩:=K10.out;have P10:=lh k9;have HR10:Hid (W10.rangeAt (w.heap.size+1) 0 c9):=fun j v hv=>by rw [Nat.zero_add,P10.out.x.cell];exact hv
 have HI10:Hid ((Tryz.prog.info? 189).map (·.size)=some c9.length):=by rw [P10.out.len];exact ydv
 have HI10b:Hid ((Tryz.prog.info? 189).map (·.size)=some c9.toArray.size):=by rw [List.size_toArray];exact HI10.out
 have HZ10:Hid (W10.heap[w.heap.size]?=some (.cells Z48.toArray 189 (0,0))):=P10.out.r;have HO10:Hid (c9.toArray.all (·.oneCell')=true):=all_oneCell_toArray P10.out.u8.one
 have HSZ10:Hid (Z48.toArray.size=c9.toArray.size):= by
  have h1:=P10.out.len;show _=_;simp [Z48,h1]
 clear k9
 go_wp2_with (first | (with_reducible refine wpList_load_mid rfl 189 (.tmp 10) rfl (w.heap.size+1) 0 rfl c9 _ HR10.out Tryz.underlying189 rfl HI10.out ?_) | (with_reducible refine wpList_store_rowTo rfl 189 (.tmp 8) (.tmp 62) rfl rfl w.heap.size c9.toArray rfl rfl 189 Z48.toArray HZ10.out HI10b.out HSZ10.out HO10.out ?_))
 refine bodyPost_ret (v:=.tuple #[.agg c9.toArray,iZ]) (ydm (p:=8) (u:=9) (ty:=189) rfl _ _ w.heap.size 189 _ (0,0) _ rfl (setRow_heap _ _ _ _ _ _ HZ10.out) Tryz.underlying189 rfl HI10b.out _ rfl) rfl ⟨c9,0,rfl,P10.out.len,P10.out.u8,ybl P10.out.bel (Nat.le_refl _) _⟩):q:=h
theorem yug:(Tryz.prog.info? 5).map (·.size)=some 1:=by kernel_rfl
structure PgW (w W:World) (cs:List Value):Prop where
 x:Blk W (w.heap.size+1) 189 cs
 len:cs.length=48
 u8:U8s cs
 r:Blk W w.heap.size 189 Z48
 bel:BW w W
section
variable {w W W':World} {cs:List Value}
theorem PgW.below (h:PgW w W cs) (hb:BW W W'):PgW w W' cs:=⟨h.x.below hb,h.len,h.u8,h.r.below hb,yad h.bel hb⟩
theorem PgW.set (h:PgW w W cs) (j:Nat) (x:Int):PgW w (W.setCell (Ad (w.heap.size+1) j) (.int .u8 x)) (cs.set j (.int .u8 x)) :=
 ⟨h.x.set _ _,by rw [List.length_set];exact h.len,fun v hv=>by
  rcases List.mem_or_eq_of_mem_set hv with h1 | h1
  ·exact h.u8 v h1
  ·exact ⟨x,h1⟩,h.r.setOther om _ _,yao h.bel om⟩
theorem PgW.at' (h:PgW w W cs) {j:Nat} (hj:j<48):∃x,W.cell? (Ad (w.heap.size+1) j)=some (.int .u8 x):= by
 have hl:=h.len;obtain ⟨x,hx⟩:=h.u8 _ (List.getElem_mem (show j<cs.length by omega));exact ⟨x,by rw [h.x.cell,List.getElem?_eq_getElem om,hx]⟩
theorem PgW.spliced {o:Nat} {vs:List Value} (h:PgW w W cs) (hx:W'.heap[w.heap.size+1]?=some (.cells (splice cs o vs).toArray 189 (0,0))) (hb:Below (w.heap.size+1) W W') (hl:o+vs.length<=cs.length) (hu:U8s vs):PgW w W' (splice cs o vs) :=
 ⟨hx,by rw [length_splice _ _ _ hl];exact h.len,fun v hv=>by
  unfold splice at hv;simp only [List.mem_append] at hv;rcases hv with h1 | h1 | h1
  ·exact h.u8 v (List.mem_of_mem_take h1)
  ·exact hu v h1
  ·exact h.u8 v (List.mem_of_mem_drop h1),(hb.block _ (Nat.lt_succ_self _)).trans h.r,h.bel.trans (hb.mono (Nat.le_succ _))⟩
end
def yq0 (w:World) (e:Ending) (w':World):Prop:=∃(cs:List Value) (x:Int),e=.returned (.tuple #[.agg cs.toArray,iV x])/\cs.length=48/\U8s cs/\BW w w'
theorem ywv (n:Nat) (hn:n<=20000) (first last:Bool) (v:Value) (bs:List Int) (hl:1<=bs.length/\bs.length<=41) (hlast:bs.length<41->last=true) (w:World) (hv:Sl .u8 w v bs) :
 Calls Tryz.prog 103 #[iV (n:Int),.bool first,.bool last,v] w (yq0 w):= by
 have HV:=lh hv;obtain ⟨ao,cap,rfl⟩:=hv.shape;have HL:=lh hl;obtain ⟨W1,hW1,K1⟩:∃W,((w.alloc (.cells Z48.toArray 189)).alloc (.cells Z48.toArray 189))=W/\Hid (∃cs,PgW w W cs):=⟨_,rfl,Z48,ybc _ _ _ _ (World.size_alloc _ _),by simp [Z48],fun v hv=>⟨0,List.eq_of_mem_replicate hv⟩,(yae w _ _ _ rfl).below (yaa bR _),yaa (yaa bR _) _⟩;have n1:¬(n:Int)<0:=by omega
 have n2:¬(20000:Int)<(n:Int):=by omega
 have n3:¬(bs.length:Int)<1:=by omega
 have n4:¬(41:Int)<(bs.length:Int):=by omega
 have hlq:last=true\/¬(bs.length:Int)<41:= by
  by_cases h:bs.length<41
  ·exact .inl (hlast h)
  ·exact .inr om
 clear hv hlast hl
 go_enter Tryz.func103,Tryz.ntmps103
 go_upto_region 2 with fail
 change Code.wp _ _ _ _ ((w.alloc (.cells Z48.toArray 189)).alloc (.cells Z48.toArray 189));rw [hW1];clear hW1
 by_cases h41:(bs.length:Int)<41
 ·obtain rfl:last=true:= by
   rcases hlq with h | h
   ·exact h
   ·exact absurd h41 h
  clear hlq;cases first with
  | true =>
   exact zq315251
  | false =>
   exact zq31a1a5
 ·clear hlq
  cases first with
  | true =>
   cases last with
   | true =>
    exact zq315251
   | false =>
    obtain ⟨fv,fc⟩:=(K1.out.choose_spec).at' (j:=4) om;have ff:=(K1.out.choose_spec).x.frozen 4;have fk:=(K1.out.choose_spec).x.lt;go_upto_region 6 with fail
    obtain ⟨W2,hW,K2⟩:∃W,W1.setCell (Ad (w.heap.size+1) 4) (.int .u8 ((fv+1)%256))=W/\Hid (∃cs,PgW w W cs):=⟨_,rfl,by obtain ⟨cs,k⟩:=K1.out;exact ⟨_,k.set 4 _⟩⟩;try with_reducible rw [hW]
    clear hW;clear fc ff fk;obtain ⟨ev,ec⟩:=(K2.out.choose_spec).at' (j:=5) om;have ef:=(K2.out.choose_spec).x.frozen 5;have ek:=(K2.out.choose_spec).x.lt;go_upto_region 9 with fail
    obtain ⟨W5,hW,K5⟩:∃W,W2.setCell (Ad (w.heap.size+1) 5) (.int .u8 (bs.length:Int))=W/\Hid (∃cs,PgW w W cs):=⟨_,rfl,by obtain ⟨cs,k⟩:=K2.out;exact ⟨_,k.set 5 _⟩⟩;exact zq318cfc
  | false =>
   cases last with
   | true =>
    exact zq31a1a5
   | false =>
    obtain ⟨ev,ec⟩:=(K1.out.choose_spec).at' (j:=5) om;have ef:=(K1.out.choose_spec).x.frozen 5;have ek:=(K1.out.choose_spec).x.lt;go_upto_region 9 with fail
    obtain ⟨W5,hW,K5⟩:∃W,W1.setCell (Ad (w.heap.size+1) 5) (.int .u8 (bs.length:Int))=W/\Hid (∃cs,PgW w W cs):=⟨_,rfl,by obtain ⟨cs,k⟩:=K1.out;exact ⟨_,k.set 5 _⟩⟩;exact zq318cfc
theorem yqr {lo gp ga n:Nat} {st:Nat->Int} {w:World} (h:ybm lo gp ga n st w) (i:Nat) (hi:i<n) (h0:st i=0):Calls Tryz.prog 97 #[pV gp,iV (i:Int)] w (RetB (.tuple #[sZ,iZ,.bool false]) w):= by
 have H:=lh h;clear h
 go_enter Tryz.func97,Tryz.ntmps97
 go_wp2_with fail
 go_loopg [1] 0 (fun g x wr=>x=iV (i:Int)/\BW w wr)
 case atStart=>exact ⟨rfl,bR⟩
 case round =>
  obtain ⟨rfl,hbw⟩:=hrel;have H1:=lh (H.out.below hbw);have HBW:=lh hbw;clear hbw
  go_wp2_with fail
  refine (yi8 H1.out i hi h0).mono ?_;rintro _ w2 ⟨rfl,hb2⟩;have HB2:Hid (BW w w2):=yad HBW.out hb2;clear hb2
  go_wp2_with (with_reducible refine wpList_store_rowTo rfl 189 (.tmp 9) (.tmp 22) rfl rfl w2.heap.size Z48.toArray rfl rfl 189 _ (heap_alloc_new _ _) ygi (by simp [Z48]) (by simp [Z48,Value.oneCell']) ?_)
  refine bodyPost_ret (results_tmp3 rfl _ _ _) rfl ⟨rfl,ybl (yaa HB2.out _) HB2.out.size _⟩
def ycl (lo gj gp:Nat) (lv:Value) (k:Nat) (used:Nat) (w:World):Prop :=
 lo<=gj/\Blk w gj 186 [pV gp,iZ,lv,iV (used:Int)]/\∃cs:List Value,w.ownsRow lo 135 1 lv k cs/\∀c∈cs,c.oneCell'=true
theorem ycl.below {lo gj gp k used:Nat} {lv:Value} {w w':World} (h:ycl lo gj gp lv k used w) (hb:BW w w'):ycl lo gj gp lv k used w':= by
 obtain ⟨h1,h2,cs,h3,h4⟩:=h;exact ⟨h1,h2.below hb,cs,yah h3 hb,h4⟩
def yxk (lo gp ga n:Nat) (F:List Nat) (w:World) (e:Ending) (w':World):Prop:=∃gj,e=.returned (.tuple #[pV gj,iZ])/\ycl w.heap.size gj gp (sZ) 0 0 w'/\ybm lo gp ga n (fun _=>0) w'/\yab F w w'
theorem yu2 {lo gp ga n:Nat} {w:World} (hn:1<=n/\n<=20000) (h:ybm lo gp ga n (fun _=>0) w):Calls Tryz.prog 56 #[pV gp] w (yxk lo gp ga n [ga,gp] w):= by
 have H:=lh h;have HN:=lh hn;clear h hn
 go_enter Tryz.func56,Tryz.ntmps56
 go_wp2_with fail
 refine (yju H.out).mono ?_;rintro _ w1 ⟨rfl,hb1⟩;have H1:=lh (H.out.below hb1);have HB1:=lh hb1;clear hb1
 go_wp2_with fail
 refine (yi1 H1.out).mono ?_;rintro _ w2 ⟨rfl,hb2⟩;have H2:=lh (H1.out.below hb2);have HB2:Hid (BW w w2):=yad HB1.out hb2;clear hb2
 go_wp2_with fail
 obtain ⟨W3,hW,H3,HJ3,HB3⟩:∃W,w2.alloc (.cells #[pV gp,iZ,sZ,iZ] 186)=W/\Hid (ybm lo gp ga n (fun _=>0) W)/\Hid (ycl w.heap.size w2.heap.size gp (sZ) 0 0 W)/\Hid (BW w W):=⟨_,rfl,H2.out.below (yaa bR _),⟨HB2.out.size,yae w2 _ _ _ rfl,[],yel _ _ _ _,by simp⟩,yaa HB2.out _⟩
 with_reducible rw [hW]
 clear hW;refine (ylx HN.out.2 H3.out).mono ?_;rintro _ w4 ⟨rfl,h4,k4⟩;have H4:Hid (ybm lo gp ga n (fun _=>0) w4):=h4.congr (fun i _=>by unfold dryK;rw [if_neg (by simp)]);have HK4:Hid (yab [ga,gp] w w4):=(yab.of_below HB3.out:yab [ga,gp] w W3).trans k4 (fun x hx=>.inl hx)
 have HJ4:Hid (ycl w.heap.size w2.heap.size gp (sZ) 0 0 w4):= by
  obtain ⟨j1,j2,cs,j3,j5⟩:=HJ3.out;have hgp:=H2.out.blk.lt;have hga:ga<w2.heap.size:=by obtain ⟨_,_,_,q,_⟩:=H2.out;exact q.lt
  exact ⟨j1,j2.keep k4 (fun hm=>by simp only [List.mem_cons,List.not_mem_nil,or_false] at hm;omega),cs,yap j3 k4 (fun b hb=>by cases hb),j5⟩
 clear h4 k4
 go_wp2_with fail
 go_loopg [8] 0 (fun g x wr=>ybm lo gp ga n (fun _=>0) wr/\ycl w.heap.size w2.heap.size gp (sZ) 0 0 wr/\yab [ga,gp] w wr)
 case atStart=>exact ⟨H4.out,HJ4.out,HK4.out⟩
 case round =>
  obtain ⟨h5,j5,k5⟩:=hrel;have H5:=lh h5;have HJ5:=lh j5;have HK5:=lh k5;have c3:wr.cell? (Ad w2.heap.size 3)=some (iZ):=j5.2.1.cell 3;have kj:=j5.2.1.lt;clear h5 j5 k5
  go_wp2_with fail
  refine (yqr H5.out 0 HN.out.1 rfl).mono ?_;rintro _ w6 ⟨rfl,hb6⟩;have H6:=lh (H5.out.below hb6);have HJ6:=lh (HJ5.out.below hb6);have HK6:=lh (HK5.out.below hb6);clear hb6 c3 kj;have c3:w6.cell? (Ad w2.heap.size 3)=some (iZ):=HJ6.out.2.1.cell 3;have kj:=HJ6.out.2.1.lt
  go_wp2_with fail
  clear c3 kj;go_loopg [9] n (fun g x wr=>∃k:Nat,k+g=n/\x=iV (k:Int)/\ybm lo gp ga n (fun _=>0) wr/\ycl w.heap.size w2.heap.size gp (sZ) 0 0 wr/\yab [ga,gp] w wr)
  case atStart=>exact ⟨0,by omega,rfl,H6.out,HJ6.out,HK6.out⟩
  case round =>
   obtain ⟨k,hk,rfl,h7,j7,k7⟩:=hrel;have H7:=lh h7;have HJ7:=lh j7;have HK7:=lh k7;have HKG:=lh hk;clear h7 j7 k7
   go_wp2_with fail
   refine (ylh H7.out).mono ?_;rintro _ w8 ⟨rfl,hb8⟩;have H8:=lh (H7.out.below hb8);have HJ8:=lh (HJ7.out.below hb8);have HK8:=lh (HK7.out.below hb8);clear hb8;cases gk with
   | zero =>
    have hlt:¬((k:Int)<(n:Int)):=by omega
    go_wp2_with fail
    go_ret2
    exact ⟨_,rfl,HJ8.out,H8.out,HK8.out⟩
   | succ gg =>
    have hlt:(k:Int)<(n:Int):=by omega
    have hk1:wrap64 ((k:Int)+1)=(k:Int)+1:=IntWalk.wrap64_in _ ⟨by omega,by have:=HN.out.2;omega⟩;clear hk
    go_wp2_with fail
    refine (yi8 H8.out k (by have:=HKG.out;omega) rfl).mono ?_;rintro _ w9 ⟨rfl,hb9⟩;have H9:=lh (H8.out.below hb9);have HJ9:=lh (HJ8.out.below hb9);have HK9:=lh (HK8.out.below hb9);clear hb9
    go_wp2_with (with_reducible refine wpList_store_rowTo rfl 189 (.tmp 10) (.tmp 69) rfl rfl w9.heap.size Z48.toArray rfl rfl 189 _ (heap_alloc_new _ _) ygi (by simp [Z48]) (by simp [Z48,Value.oneCell']) ?_)
    go_roundg gg
    case measure=>omega
    case rel =>
     have hb:BW w9 ((w9.alloc (.cells #[.int .u8 0,.int .u8 0,.int .u8 0,.int .u8 0,.int .u8 0,.int .u8 0,.int .u8 0,.int .u8 0,.int .u8 0,.int .u8 0,.int .u8 0,.int .u8 0,.int .u8 0,.int .u8 0,.int .u8 0,.int .u8 0,.int .u8 0,.int .u8 0,.int .u8 0,.int .u8 0,.int .u8 0,.int .u8 0,.int .u8 0,.int .u8 0,.int .u8 0,.int .u8 0,.int .u8 0,.int .u8 0,.int .u8 0,.int .u8 0,.int .u8 0,.int .u8 0,.int .u8 0,.int .u8 0,.int .u8 0,.int .u8 0,.int .u8 0,.int .u8 0,.int .u8 0,.int .u8 0,.int .u8 0,.int .u8 0,.int .u8 0,.int .u8 0,.int .u8 0,.int .u8 0,.int .u8 0,.int .u8 0] 189)).setRow w9.heap.size Z48.toArray):=ybl (yaa bR _) (Nat.le_refl _) _;exact ⟨k+1,by have:=HKG.out;omega,by go_num,H9.out.below hb,HJ9.out.below hb,HK9.out.below hb⟩
theorem ytx {lo lp gj gp ga n k used:Nat} {st:Nat->Int} {lv:Value} {w:World} (hj:ycl lo gj gp lv k used w) (hp:ybm lp gp ga n st w):Calls Tryz.prog 61 #[pV gj] w (RetB (iZ) w):= by
 have HJ:=lh hj;have HP:=lh hp;clear hj hp;have HS:Hid (∀W',BW w W'->Ce W' gj 0 (pV gp)/\Ce W' gj 1 (iZ)):=fun W' hW=>⟨(HJ.out.2.1.below hW).cell 0,(HJ.out.2.1.below hW).cell 1⟩;have hs0:=HS.out w bR;have hsd:=HS.out w.drew (yaf bR)
 go_enter Tryz.func61,Tryz.ntmps61
 go_wp2_with fail
 go_region_held3 (fun W'=>Ce W' gj 0 (pV gp)/\Ce W' gj 1 (iZ)) (first | with_reducible exact hs0 | with_reducible exact hsd | with_reducible exact hs4 | with_reducible exact hs5 | with_reducible assumption)
  (first
   | (go_at_call 94;refine (yju (HP.out.below (yaf bR))).mono ?_;rintro _ w4 ⟨rfl,hb4⟩;have HB4:Hid (BW w w4):=yad (yaf bR) hb4;have hs4:=HS.out w4 HB4.out;clear hb4)
   | (go_at_call 95;refine (yi1 (HP.out.below HB4.out)).mono ?_;rintro _ w5 ⟨rfl,hb5⟩;have HB5:Hid (BW w w5):=yad HB4.out hb5;have hs5:=HS.out w5 HB5.out;clear hb5))
 all_goals
  go_wp2_with fail
  go_ret
  exact ⟨rfl,HB5.out⟩
theorem ymf {lo gj gp used:Nat} {w:World} (hj:ycl lo gj gp (sZ) 0 used w):Calls Tryz.prog 57 #[pV gj] w (RetB (sZ) w):= by
 have HJ:=lh hj;have c2:=hj.2.1.cell 2;clear hj
 go_enter Tryz.func57,Tryz.ntmps57
 go_wp2_with fail
 go_loopg [3,13] 0 (fun g y x wr=>y=sZ/\x=iZ/\wr=w)
 case atStart=>exact ⟨rfl,rfl,rfl⟩
 case round =>
  obtain ⟨rfl,rfl,rfl⟩:=hrel
  go_wp2_with fail
  go_ret
  exact ⟨rfl,bR⟩
end Go.Proofs.YtkongpjpkpfniaaGreat

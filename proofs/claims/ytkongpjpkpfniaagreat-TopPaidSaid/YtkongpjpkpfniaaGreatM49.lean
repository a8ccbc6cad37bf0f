/- TopPaid: parts of the proof, made small by a program (mini.py). -/
import Derived.Test.YtkongpjpkpfniaaGreatM01
import Derived.Test.YtkongpjpkpfniaaGreatM46
import Derived.Test.YtkongpjpkpfniaaGreatM48
set_option linter.unusedVariables false
set_option linter.unusedSimpArgs false
set_option maxRecDepth 100000
set_option maxHeartbeats 6400000
namespace Go.Proofs.YtkongpjpkpfniaaGreat
open Go.RowKit
theorem yqr {lo gp ga n:Nat} {st:Nat→Int} {w:World} (h:ybm lo gp ga n st w) (i:Nat) (hi:i<n) (h0:st i=0):Calls Tryz.prog 97 #[pV gp,iV (i:Int)] w (RetB (.tuple #[sZ,iZ,.bool false]) w):= by
 have H:=lh h;clear h
 go_enter Tryz.func97,Tryz.ntmps97
 go_wp2_with fail
 go_loopg [1] 0 (fun g x wr=>x=iV (i:Int)∧Below w.heap.size w wr)
 case atStart=>exact ⟨rfl,bR⟩
 case round =>
  obtain ⟨rfl,hbw⟩:=hrel;have H1:=lh (H.out.below hbw);have HBW:=lh hbw;clear hbw
  go_wp2_with fail
  refine (yi8 H1.out i hi h0).mono ?_;rintro _ w2 ⟨rfl,hb2⟩;have HB2:Hid (Below w.heap.size w w2):=yad HBW.out hb2;clear hb2
  go_wp2_with (with_reducible refine wpList_store_rowTo rfl 189 (.tmp 9) (.tmp 22) rfl rfl w2.heap.size Z48.toArray rfl rfl 189 _ (heap_alloc_new _ _) ygi (by simp [Z48]) (by simp [Z48,Value.oneCell']) ?_)
  refine bodyPost_ret (results_tmp3 rfl _ _ _) rfl ⟨rfl,ybl (yaa HB2.out _) HB2.out.size _⟩
def ycl (lo gj gp:Nat) (lv:Value) (k:Nat) (used:Nat) (w:World):Prop :=
 lo≤gj∧Blk w gj 186 [pV gp,iZ,lv,iV (used:Int)]∧∃cs:List Value,w.ownsRow lo 135 1 lv k cs∧∀c∈cs,c.oneCell'=true
theorem ycl.below {lo gj gp k used:Nat} {lv:Value} {w w':World} (h:ycl lo gj gp lv k used w) (hb:Below w.heap.size w w'):ycl lo gj gp lv k used w':= by
 obtain ⟨h1,h2,cs,h3,h4⟩:=h;exact ⟨h1,h2.below hb,cs,yah h3 hb,h4⟩
def yxk (lo gp ga n:Nat) (F:List Nat) (w:World) (e:Ending) (w':World):Prop:=∃gj,e=.returned (.tuple #[pV gj,iZ])∧ycl w.heap.size gj gp (sZ) 0 0 w'∧ybm lo gp ga n (fun _=>0) w'∧yab F w w'
theorem yu2 {lo gp ga n:Nat} {w:World} (hn:1≤n∧n≤20000) (h:ybm lo gp ga n (fun _=>0) w):Calls Tryz.prog 56 #[pV gp] w (yxk lo gp ga n [ga,gp] w):= by
 have H:=lh h;have HN:=lh hn;clear h hn
 go_enter Tryz.func56,Tryz.ntmps56
 go_wp2_with fail
 refine (yju H.out).mono ?_;rintro _ w1 ⟨rfl,hb1⟩;have H1:=lh (H.out.below hb1);have HB1:=lh hb1;clear hb1
 go_wp2_with fail
 refine (yi1 H1.out).mono ?_;rintro _ w2 ⟨rfl,hb2⟩;have H2:=lh (H1.out.below hb2);have HB2:Hid (Below w.heap.size w w2):=yad HB1.out hb2;clear hb2
 go_wp2_with fail
 obtain ⟨W3,hW,H3,HJ3,HB3⟩:∃W,w2.alloc (.cells #[pV gp,iZ,sZ,iZ] 186)=W∧Hid (ybm lo gp ga n (fun _=>0) W)∧Hid (ycl w.heap.size w2.heap.size gp (sZ) 0 0 W)∧Hid (Below w.heap.size w W):=⟨_,rfl,H2.out.below (yaa bR _),⟨HB2.out.size,yae w2 _ _ _ rfl,[],yel _ _ _ _,by simp⟩,yaa HB2.out _⟩
 with_reducible rw [hW]
 clear hW;refine (ylx HN.out.2 H3.out).mono ?_;rintro _ w4 ⟨rfl,h4,k4⟩;have H4:Hid (ybm lo gp ga n (fun _=>0) w4):=h4.congr (fun i _=>by unfold dryK;rw [if_neg (by simp)]);have HK4:Hid (yab [ga,gp] w w4):=(yab.of_below HB3.out:yab [ga,gp] w W3).trans k4 (fun x hx=>.inl hx)
 have HJ4:Hid (ycl w.heap.size w2.heap.size gp (sZ) 0 0 w4):= by
  obtain ⟨j1,j2,cs,j3,j5⟩:=HJ3.out;have hgp:=H2.out.blk.lt;have hga:ga<w2.heap.size:=by obtain ⟨_,_,_,q,_⟩:=H2.out;exact q.lt
  exact ⟨j1,j2.keep k4 (fun hm=>by simp only [List.mem_cons,List.not_mem_nil,or_false] at hm;omega),cs,yap j3 k4 (fun b hb=>by cases hb),j5⟩
 clear h4 k4
 go_wp2_with fail
 go_loopg [8] 0 (fun g x wr=>ybm lo gp ga n (fun _=>0) wr∧ycl w.heap.size w2.heap.size gp (sZ) 0 0 wr∧yab [ga,gp] w wr)
 case atStart=>exact ⟨H4.out,HJ4.out,HK4.out⟩
 case round =>
  obtain ⟨h5,j5,k5⟩:=hrel;have H5:=lh h5;have HJ5:=lh j5;have HK5:=lh k5;have c3:wr.cell? ⟨w2.heap.size,3,none⟩=some (iZ):=j5.2.1.cell 3;have kj:=j5.2.1.lt;clear h5 j5 k5
  go_wp2_with fail
  refine (yqr H5.out 0 HN.out.1 rfl).mono ?_;rintro _ w6 ⟨rfl,hb6⟩;have H6:=lh (H5.out.below hb6);have HJ6:=lh (HJ5.out.below hb6);have HK6:=lh (HK5.out.below hb6);clear hb6 c3 kj;have c3:w6.cell? ⟨w2.heap.size,3,none⟩=some (iZ):=HJ6.out.2.1.cell 3;have kj:=HJ6.out.2.1.lt
  go_wp2_with fail
  clear c3 kj;go_loopg [9] n (fun g x wr=>∃k:Nat,k+g=n∧x=iV (k:Int)∧ybm lo gp ga n (fun _=>0) wr∧ycl w.heap.size w2.heap.size gp (sZ) 0 0 wr∧yab [ga,gp] w wr)
  case atStart=>exact ⟨0,by omega,rfl,H6.out,HJ6.out,HK6.out⟩
  case round =>
   obtain ⟨k,hk,rfl,h7,j7,k7⟩:=hrel;have H7:=lh h7;have HJ7:=lh j7;have HK7:=lh k7;have HKG:=lh hk;clear h7 j7 k7
   go_wp2_with fail
   refine (ylh H7.out).mono ?_;rintro _ w8 ⟨rfl,hb8⟩;have H8:=lh (H7.out.below hb8);have HJ8:=lh (HJ7.out.below hb8);have HK8:=lh (HK7.out.below hb8);clear hb8;cases gk with
   | zero =>
    have hlt:¬((k:Int)<(n:Int)):=by omega
    go_wp2_with fail
    go_ret2
    exact ⟨_,rfl,HJ8.out,H8.out,HK8.out⟩
   | succ gg =>
    have hlt:(k:Int)<(n:Int):=by omega
    have hk1:wrap64 ((k:Int)+1)=(k:Int)+1:=IntWalk.wrap64_in _ ⟨by omega,by have:=HN.out.2;omega⟩;clear hk
    go_wp2_with fail
    refine (yi8 H8.out k (by have:=HKG.out;omega) rfl).mono ?_;rintro _ w9 ⟨rfl,hb9⟩;have H9:=lh (H8.out.below hb9);have HJ9:=lh (HJ8.out.below hb9);have HK9:=lh (HK8.out.below hb9);clear hb9
    go_wp2_with (with_reducible refine wpList_store_rowTo rfl 189 (.tmp 10) (.tmp 69) rfl rfl w9.heap.size Z48.toArray rfl rfl 189 _ (heap_alloc_new _ _) ygi (by simp [Z48]) (by simp [Z48,Value.oneCell']) ?_)
    go_roundg gg
    case measure=>omega
    case rel =>
     have hb:Below w9.heap.size w9 ((w9.alloc (.cells #[.int .u8 0,.int .u8 0,.int .u8 0,.int .u8 0,.int .u8 0,.int .u8 0,.int .u8 0,.int .u8 0,.int .u8 0,.int .u8 0,.int .u8 0,.int .u8 0,.int .u8 0,.int .u8 0,.int .u8 0,.int .u8 0,.int .u8 0,.int .u8 0,.int .u8 0,.int .u8 0,.int .u8 0,.int .u8 0,.int .u8 0,.int .u8 0,.int .u8 0,.int .u8 0,.int .u8 0,.int .u8 0,.int .u8 0,.int .u8 0,.int .u8 0,.int .u8 0,.int .u8 0,.int .u8 0,.int .u8 0,.int .u8 0,.int .u8 0,.int .u8 0,.int .u8 0,.int .u8 0,.int .u8 0,.int .u8 0,.int .u8 0,.int .u8 0,.int .u8 0,.int .u8 0,.int .u8 0,.int .u8 0] 189)).setRow w9.heap.size Z48.toArray):=ybl (yaa bR _) (Nat.le_refl _) _;exact ⟨k+1,by have:=HKG.out;omega,by go_num,H9.out.below hb,HJ9.out.below hb,HK9.out.below hb⟩
theorem ytx {lo lp gj gp ga n k used:Nat} {st:Nat→Int} {lv:Value} {w:World} (hj:ycl lo gj gp lv k used w) (hp:ybm lp gp ga n st w):Calls Tryz.prog 61 #[pV gj] w (RetB (iZ) w):= by
 have HJ:=lh hj;have HP:=lh hp;clear hj hp;have HS:Hid (∀W',Below w.heap.size w W'→W'.cell? ⟨gj,0,none⟩=some (pV gp)∧W'.cell? ⟨gj,1,none⟩=some (iZ)):=fun W' hW=>⟨(HJ.out.2.1.below hW).cell 0,(HJ.out.2.1.below hW).cell 1⟩;have hs0:=HS.out w bR;have hsd:=HS.out w.drew (yaf bR)
 go_enter Tryz.func61,Tryz.ntmps61
 go_wp2_with fail
 go_region_held3 (fun W'=>W'.cell? ⟨gj,0,none⟩=some (pV gp)∧W'.cell? ⟨gj,1,none⟩=some (iZ)) (first | with_reducible exact hs0 | with_reducible exact hsd | with_reducible exact hs4 | with_reducible exact hs5 | with_reducible assumption)
  (first
   | (go_at_call 94;refine (yju (HP.out.below (yaf bR))).mono ?_;rintro _ w4 ⟨rfl,hb4⟩;have HB4:Hid (Below w.heap.size w w4):=yad (yaf bR) hb4;have hs4:=HS.out w4 HB4.out;clear hb4)
   | (go_at_call 95;refine (yi1 (HP.out.below HB4.out)).mono ?_;rintro _ w5 ⟨rfl,hb5⟩;have HB5:Hid (Below w.heap.size w w5):=yad HB4.out hb5;have hs5:=HS.out w5 HB5.out;clear hb5))
 all_goals
  go_wp2_with fail
  go_ret
  exact ⟨rfl,HB5.out⟩
theorem ymf {lo gj gp used:Nat} {w:World} (hj:ycl lo gj gp (sZ) 0 used w):Calls Tryz.prog 57 #[pV gj] w (RetB (sZ) w):= by
 have HJ:=lh hj;have c2:=hj.2.1.cell 2;clear hj
 go_enter Tryz.func57,Tryz.ntmps57
 go_wp2_with fail
 go_loopg [3,13] 0 (fun g y x wr=>y=sZ∧x=iZ∧wr=w)
 case atStart=>exact ⟨rfl,rfl,rfl⟩
 case round =>
  obtain ⟨rfl,rfl,rfl⟩:=hrel
  go_wp2_with fail
  go_ret
  exact ⟨rfl,bR⟩
theorem Rd.offL {F L:List Nat} {W W':World} {φ:World→Prop} (h:Rd F W φ) (hs:∀W1 W2,yab L W1 W2→φ W1→φ W2) (hk:yab L W W'):Rd F W' φ:=fun W2 h2=>by
 have hsz:W.heap.size≤W2.heap.size:=Nat.le_trans hk.size h2.size
 let W3:World:={ W2 with heap:=W2.heap.mapIdx fun k o=>if k∈L then (W.heap[k]?).getD o else o }
 have e3:∀k,W3.heap[k]?=(W2.heap[k]?).map fun o=>if k∈L then (W.heap[k]?).getD o else o:=fun k=>by
  show (Array.mapIdx _ _)[k]?=_;rw [Array.getElem?_mapIdx]
 have h3:yab F W W3:=⟨h2.os.trans hk.os,h2.tape.trans hk.tape,h2.output.trans hk.output,by show _≤(Array.mapIdx _ _).size;simpa using hsz,fun k hk1 hk2=>by
  rw [e3]
  by_cases e:k∈L
  ·rw [Array.getElem?_eq_getElem (Nat.lt_of_lt_of_le hk1 hsz),Array.getElem?_eq_getElem hk1]
   simp [e]
  ·rw [h2.block k (Nat.lt_of_lt_of_le hk1 hk.size) hk2,hk.block k hk1 e]
   simp [e]⟩
 refine hs W3 W2 ⟨rfl,rfl,rfl,by show (Array.mapIdx _ _).size≤_;simp,fun k _ hk2=>?_⟩ (h W3 h3);rw [e3];simp [hk2]
theorem ybe.off {lo g B:Nat} {A:Acc} {F L:List Nat} {w w':World} {V:AV} (h:ybe lo g A F w V) (hi:yyo B V) (hF:∀x∈F,B≤x) (hL:∀x∈L,x<B) (hk:yab L w w'):ybe lo g A F w' V:= by
 have hO:∀v,Hi B v→OffF L v:=fun v hv b o n c e hn hm=>by
  have h1:=hv b o n c e hn;have h2:=hL b hm;omega
 have hN:∀x,B≤x→x∉L:=fun x hx hm=>by
  have h2:=hL x hm;omega
 obtain ⟨i1,i2,i3,i4,i5,i6,i7,i8,i9,i10,i11⟩:=hi;obtain ⟨n0,cs0,hn0,h10,h0⟩:=h.adj
 exact ⟨h.blk.keep hk (hN _ (hF _ h.gF)),h.gF,fun x hx=>⟨(h.lt x hx).1,Nat.lt_of_lt_of_le (h.lt x hx).2 hk.size⟩,
  h.rd.offL (fun W1 W2 k q=>⟨q.1.keep k (hO _ i1),q.2.1.keep k (hN _ i2) (hO _ i3) (hO _ i4),⟨Nat.zero_le _,q.2.2.1.2.1.keep k (hN _ i5),yap q.2.2.1.2.2 k (fun r hr=>hN _ (i6 r hr))⟩,q.2.2.2.1.keep k (hO _ i7),q.2.2.2.2.1.keep k (hO _ i8),⟨q.2.2.2.2.2.1.1.keep k (fun v hv=>hO v (i10 v hv)),Fl.keep q.2.2.2.2.2.1.2 k (hO _ i9)⟩,q.2.2.2.2.2.2.keep k (fun v hv=>hO v (i11 v hv))⟩) hk,
  yap h.iss hk (fun q hq=>hN _ (hF _ (h.issF q hq))),h.issF,⟨n0,cs0,hn0,h10,yap h0 hk (fun q hq=>hN _ (hF _ (h.adjF q hq)))⟩,h.adjF⟩
theorem ycl.off {lo gj gp k used:Nat} {lv:Value} {L:List Nat} {w w':World} (h:ycl lo gj gp lv k used w) (hk:yab L w w') (h1:gj∉L) (h2:∀q,lv.ownBlock=some q→q∉L):ycl lo gj gp lv k used w':= by
 obtain ⟨a,b,cs,c,d⟩:=h;exact ⟨a,b.keep hk h1,cs,yap c hk h2,d⟩
theorem ysu (n:Nat) (hn:n≤20000) (first:Bool) (v:Value) (bs:List Int) (hl:1≤bs.length∧bs.length<41) (w:World) (hv:Sl .u8 w v bs) :
 Calls Tryz.prog 103 #[iV (n:Int),.bool first,.bool false,v] w (yq0 w):= by
 obtain ⟨ao,cap,rfl⟩:=hv.shape;obtain ⟨W1,hW1,K1⟩:∃W,((w.alloc (.cells Z48.toArray 189)).alloc (.cells Z48.toArray 189))=W∧Hid (PgW w W Z48):=⟨_,rfl,ybc _ _ _ _ (World.size_alloc _ _),by simp [Z48],fun v hv=>⟨0,List.eq_of_mem_replicate hv⟩,(yae w _ _ _ rfl).below (yaa bR _),yaa (yaa bR _) _⟩;have n1:¬(n:Int)<0:=by omega
 have n2:¬(20000:Int)<(n:Int):=by omega
 have n3:¬(bs.length:Int)<1:=by omega
 have n4:¬(41:Int)<(bs.length:Int):=by omega
 have h41:(bs.length:Int)<41:=by omega
 clear hv hl
 go_enter Tryz.func103,Tryz.ntmps103
 go_upto_region 2 with fail
 change Code.wp _ _ _ _ ((w.alloc (.cells Z48.toArray 189)).alloc (.cells Z48.toArray 189));rw [hW1];clear hW1;have P10:=K1;have HR10:Hid (W1.rangeAt (w.heap.size+1) 0 Z48):=fun j v hv=>by rw [Nat.zero_add,P10.out.x.cell];exact hv
 have HI10:Hid ((Tryz.prog.info? 189).map (·.size)=some Z48.length):=by rw [P10.out.len];exact ydv
 have HI10b:Hid ((Tryz.prog.info? 189).map (·.size)=some Z48.toArray.size):=by rw [List.size_toArray];exact HI10.out
 have HZ10:Hid (W1.heap[w.heap.size]?=some (.cells Z48.toArray 189 (0,0))):=P10.out.r;have HO10:Hid (Z48.toArray.all (·.oneCell')=true):=all_oneCell_toArray P10.out.u8.one
 go_wp2_with (first | (with_reducible refine wpList_load_mid rfl 189 (.tmp 10) rfl (w.heap.size+1) 0 rfl Z48 _ HR10.out Tryz.underlying189 rfl HI10.out ?_) | (with_reducible refine wpList_store_rowTo rfl 189 (.tmp 8) (.tmp 37) rfl rfl w.heap.size Z48.toArray rfl rfl 189 Z48.toArray HZ10.out HI10b.out rfl HO10.out ?_))
 refine bodyPost_ret (v:=.tuple #[.agg Z48.toArray,iV 1]) (ydm (p:=8) (u:=9) (ty:=189) rfl _ _ w.heap.size 189 _ (0,0) _ rfl (setRow_heap _ _ _ _ _ _ HZ10.out) Tryz.underlying189 rfl HI10b.out _ rfl) rfl ⟨Z48,1,rfl,P10.out.len,P10.out.u8,ybl P10.out.bel (Nat.le_refl _) _⟩
theorem yns (n:Nat) (hn:n≤20000) (first last:Bool) (v:Value) (bs:List Int) (hl:1≤bs.length∧bs.length≤41) (w:World) (hv:Sl .u8 w v bs) :
 Calls Tryz.prog 103 #[iV (n:Int),.bool first,.bool last,v] w (yq0 w):= by
 by_cases h:bs.length<41∧last=false
 ·obtain ⟨h1,rfl⟩:=h
  exact ysu n hn first v bs ⟨hl.1,h1⟩ w hv
 ·refine ywv n hn first last v bs hl (fun h1=>?_) w hv
  cases last with
  | true=>rfl
  | false=>exact absurd ⟨h1,rfl⟩ h
end Go.Proofs.YtkongpjpkpfniaaGreat

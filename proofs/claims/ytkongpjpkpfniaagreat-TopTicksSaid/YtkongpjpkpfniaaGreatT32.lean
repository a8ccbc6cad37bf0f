/- TopTicks: parts of the proof, made small by a program (mini.py). -/
import Derived.Test.YtkongpjpkpfniaaGreatT01
import Derived.Test.YtkongpjpkpfniaaGreatT08
import Derived.Test.YtkongpjpkpfniaaGreatT10
import Derived.Test.YtkongpjpkpfniaaGreatT24
import Derived.Test.YtkongpjpkpfniaaGreatT30
import Derived.Test.YtkongpjpkpfniaaGreatT31
set_option linter.unusedVariables false
set_option linter.unusedSimpArgs false
set_option maxRecDepth 100000
set_option maxHeartbeats 6400000
namespace Go.Proofs.YtkongpjpkpfniaaGreat
open Go.RowKit
theorem zq32a9bf {q:Prop} (h:q:= by
 clear h9 k9;refine hK.out _ _ (fun hun=>hs9) ?_;clear hK K;try simp only [ap,aq,sa,sb,sc]
 refine wo 7 kr rfl fun K hK=>?_;go_simp;refine hK.out _ _ kd ?_;clear hK K;try simp only [ap,aq,sa,sb,sc]
 refine yal kr ?_ _;clear hs9 htd;have cn:=N9.out.cell 0;have cf:=N9.out.frozen 0;have cl:=N9.out.lt;have hw64:wrap64 ((q:Int)+1)=(q:Int)+1:=yl1 (by have:=HQ.out;omega)
 gi_wp2
 exact yuc HGP.out GBL.out GBN.out GBC.out HQE.out H5.out XBL.out HK9.out HP9.out N9.out x):q:=h
theorem Rd.offL {F L:List Nat} {W W':World} {φ:World->Prop} (h:Rd F W φ) (hs:∀W1 W2,yab L W1 W2->φ W1->φ W2) (hk:yab L W W'):Rd F W' φ:=fun W2 h2=>by
 have hsz:W.heap.size<=W2.heap.size:=Nat.le_trans hk.size h2.size
 let W3:World:={ W2 with heap:=W2.heap.mapIdx fun k o=>if k∈L then (W.heap[k]?).getD o else o }
 have e3:∀k,W3.heap[k]?=(W2.heap[k]?).map fun o=>if k∈L then (W.heap[k]?).getD o else o:=fun k=>by
  show (Array.mapIdx _ _)[k]?=_;rw [Array.getElem?_mapIdx]
 have h3:yab F W W3:=⟨h2.os.trans hk.os,h2.tape.trans hk.tape,h2.output.trans hk.output,by show _<=(Array.mapIdx _ _).size;simpa using hsz,fun k hk1 hk2=>by
  rw [e3]
  by_cases e:k∈L
  ·rw [Array.getElem?_eq_getElem (Nat.lt_of_lt_of_le hk1 hsz),Array.getElem?_eq_getElem hk1]
   simp [e]
  ·rw [h2.block k (Nat.lt_of_lt_of_le hk1 hk.size) hk2,hk.block k hk1 e]
   simp [e]⟩
 refine hs W3 W2 ⟨rfl,rfl,rfl,by show (Array.mapIdx _ _).size<=_;simp,fun k _ hk2=>?_⟩ (h W3 h3);rw [e3];simp [hk2]
theorem ybe.off {lo g B:Nat} {A:Acc} {F L:List Nat} {w w':World} {V:AV} (h:ybe lo g A F w V) (hi:yyo B V) (hF:∀x∈F,B<=x) (hL:∀x∈L,x<B) (hk:yab L w w'):ybe lo g A F w' V:= by
 have hO:∀v,Hi B v->OffF L v:=fun v hv b o n c e hn hm=>by
  have h1:=hv b o n c e hn;have h2:=hL b hm;omega
 have hN:∀x,B<=x->x∉L:=fun x hx hm=>by
  have h2:=hL x hm;omega
 obtain ⟨i1,i2,i3,i4,i5,i6,i7,i8,i9,i10,i11⟩:=hi;obtain ⟨n0,cs0,hn0,h10,h0⟩:=h.adj
 exact ⟨h.blk.keep hk (hN _ (hF _ h.gF)),h.gF,fun x hx=>⟨(h.lt x hx).1,Nat.lt_of_lt_of_le (h.lt x hx).2 hk.size⟩,
  h.rd.offL (fun W1 W2 k q=>⟨q.1.keep k (hO _ i1),q.2.1.keep k (hN _ i2) (hO _ i3) (hO _ i4),⟨Nat.zero_le _,q.2.2.1.2.1.keep k (hN _ i5),yap q.2.2.1.2.2 k (fun r hr=>hN _ (i6 r hr))⟩,q.2.2.2.1.keep k (hO _ i7),q.2.2.2.2.1.keep k (hO _ i8),⟨q.2.2.2.2.2.1.1.keep k (fun v hv=>hO v (i10 v hv)),Fl.keep q.2.2.2.2.2.1.2 k (hO _ i9)⟩,q.2.2.2.2.2.2.keep k (fun v hv=>hO v (i11 v hv))⟩) hk,
  yap h.iss hk (fun q hq=>hN _ (hF _ (h.issF q hq))),h.issF,⟨n0,cs0,hn0,h10,yap h0 hk (fun q hq=>hN _ (hF _ (h.adjF q hq)))⟩,h.adjF⟩
theorem ycl.off {lo gj gp k used:Nat} {lv:Value} {L:List Nat} {w w':World} (h:ycl lo gj gp lv k used w) (hk:yab L w w') (h1:gj∉L) (h2:∀q,lv.ownBlock=some q->q∉L):ycl lo gj gp lv k used w':= by
 obtain ⟨a,b,cs,c,d⟩:=h;exact ⟨a,b.keep hk h1,cs,yap c hk h2,d⟩
theorem ysu (n:Nat) (hn:n<=20000) (first:Bool) (v:Value) (bs:List Int) (hl:1<=bs.length/\bs.length<41) (w:World) (hv:Sl .u8 w v bs) :
 Calls Tryz.prog 103 #[iV (n:Int),.bool first,.bool false,v] w (yq0 w):= by
 obtain ⟨ao,cap,rfl⟩:=hv.shape;obtain ⟨W1,hW1,K1⟩:∃W,((w.alloc (.cells Z48.toArray 189)).alloc (.cells Z48.toArray 189))=W/\Hid (PgW w W Z48):=⟨_,rfl,ybc _ _ _ _ (World.size_alloc _ _),by simp [Z48],fun v hv=>⟨0,List.eq_of_mem_replicate hv⟩,(yae w _ _ _ rfl).below (yaa bR _),yaa (yaa bR _) _⟩;have n1:¬(n:Int)<0:=by omega
 have n2:¬(20000:Int)<(n:Int):=by omega
 have n3:¬(bs.length:Int)<1:=by omega
 have n4:¬(41:Int)<(bs.length:Int):=by omega
 have h41:(bs.length:Int)<41:=by omega
 clear hv hl
 go_enter Tryz.func103,Tryz.ntmps103
 go_upto_region 2 with fail
 change Code.wp _ _ _ _ ((w.alloc (.cells Z48.toArray 189)).alloc (.cells Z48.toArray 189));rw [hW1];clear hW1;have P10:=K1;have HR10:Hid (W1.rangeAt (w.heap.size+1) 0 Z48):=fun j v hv=>by rw [Nat.zero_add,P10.out.x.cell];exact hv
 have HI10:Hid ((Tryz.prog.info? 189).map (·.size)=some Z48.length):=by rw [P10.out.len];exact ydv
 have HI10b:Hid ((Tryz.prog.info? 189).map (·.size)=some Z48.toArray.size):=by rw [List.size_toArray];exact HI10.out
 have HZ10:Hid (W1.heap[w.heap.size]?=some (.cells Z48.toArray 189 (0,0))):=P10.out.r;have HO10:Hid (Z48.toArray.all (·.oneCell')=true):=all_oneCell_toArray P10.out.u8.one
 go_wp2_with (first | (with_reducible refine wpList_load_mid rfl 189 (.tmp 10) rfl (w.heap.size+1) 0 rfl Z48 _ HR10.out Tryz.underlying189 rfl HI10.out ?_) | (with_reducible refine wpList_store_rowTo rfl 189 (.tmp 8) (.tmp 37) rfl rfl w.heap.size Z48.toArray rfl rfl 189 Z48.toArray HZ10.out HI10b.out rfl HO10.out ?_))
 refine bodyPost_ret (v:=.tuple #[.agg Z48.toArray,iV 1]) (ydm (p:=8) (u:=9) (ty:=189) rfl _ _ w.heap.size 189 _ (0,0) _ rfl (setRow_heap _ _ _ _ _ _ HZ10.out) Tryz.underlying189 rfl HI10b.out _ rfl) rfl ⟨Z48,1,rfl,P10.out.len,P10.out.u8,ybl P10.out.bel (Nat.le_refl _) _⟩
theorem yns (n:Nat) (hn:n<=20000) (first last:Bool) (v:Value) (bs:List Int) (hl:1<=bs.length/\bs.length<=41) (w:World) (hv:Sl .u8 w v bs) :
 Calls Tryz.prog 103 #[iV (n:Int),.bool first,.bool last,v] w (yq0 w):= by
 by_cases h:bs.length<41/\last=false
 ·obtain ⟨h1,rfl⟩:=h
  exact ysu n hn first v bs ⟨hl.1,h1⟩ w hv
 ·refine ywv n hn first last v bs hl (fun h1=>?_) w hv
  cases last with
  | true=>rfl
  | false=>exact absurd ⟨h1,rfl⟩ h
section
open Go.RowKit Go.Shelf
attribute [local go_sem] Oper.semAt_some
theorem yl1 {x:Int} (h:0<=x/\x<=100000):wrap64 x=x:=IntWalk.wrap64_in _ ⟨by omega,by omega⟩
theorem ywd {len used N n L d:Nat} (hl:1<=len/\len<=20000) (hN:N=(len+40)/41) (hroom:used+N<=n) (hn:n<=20000) (hd:d=(len-1)/41) (hL:L=used+d) :
 wrap64 ((len:Int)-1)=(len:Int)-1/\((len:Int)-1).tdiv 41=(d:Int)/\wrap64 (d:Int)=(d:Int)/\wrap64 ((used:Int)+(d:Int))=(L:Int)/\¬(n:Int)<=(L:Int):= by
 have hd2:d+1=N:=by omega
 have h3:((len:Int)-1).tdiv 41=(d:Int):= by
  rw [Int.tdiv_eq_ediv_of_nonneg om];omega
 refine ⟨yl1 om,h3,yl1 om,?_,by omega⟩;have h4:(used:Int)+(d:Int)=(L:Int):=by omega
 rw [h4];exact yl1 om
def yxx (a:Act) (p d:Nat) (v:Value):Act:={ tmps:=(a.tmps.setIfInBounds p v).setIfInBounds d v,defers:=[] }
theorem yum {α:Type} {n:Nat} {P:Program} {g:Operand} {p d:Nat} {assign body:Code} {Q:Exit->Act->World->Prop} {a:Act} {w:World}
 (h1:1<=n) {gf:Nat} {lb:Array Value} (hg:a.eval g=.func (.func gf) #[] lb) (eg:∀args w,(callFunc gf args).run P w=.ok (.enter gf args) w)
 {enc:α->Value} {Kp:World->World->Prop} {S Sp:List α->Prop} {N:Nat} (hseq:SeqStopsK Fence.wide (n-1) P gf lb (fun x=>#[enc x]) Kp S Sp N w)
 (hKt:∀{A B C:World},Kp A B->Kp B C->Kp A C) (hKb:∀(W:World) (l:Nat) (o o':Obj),w.heap.size<=l->W.heap[l]?=some o->o.isCells=false->o.isWalk=false->Kp W (W.putObj l o'))
 (I:List α->World->Prop) (hI:OwnFrom w.heap.size I) (h0:I [] w)
 (hassign:∀(l:Nat) (x:α) (W:World) (K:Act->World->Prop),K (yxx a p d (enc x)) W ->
  assign.wpIn (Fence.wide.inRound l) (n-1-1) P (Exit.then K (fun _ _ _=>False)) { tmps:=a.tmps.setIfInBounds p (enc x),defers:=[] } W)
 (hbody:∀(l:Nat) (pre:List α) (x:α) (W:World),I pre W->pre.length<N->body.wpIn (Fence.wide.inRound l) (n-1-1) P (ownPostG w.heap.size Kp I (fun _ _ _=>False) (pre++[x]) W) (yxx a p d (enc x)) W)
 (hdone:∀(D:Nat) (xs:List α) (W:World),w.heap.size<=D->S xs->I xs W->W.heap[D]?=some (.deferred (some []))->Q .normal { a with defers:={ target:=.collected D,args:=#[] }::a.defers } W) :
 (Code.rangeFunc g #[p] assign body).wp P Q a w :=
 (wpIn_wide (n:=n)).1 (wpIn_rangeFunc_ownG rfl h1 hg trivial eg hseq (fun h k=>hKt h k) hKb bR (fun _=>rfl) I (fun _ _ _=>False) hI (fun _ _ _ _ _ hs _ _=>hs) h0 (fun x=>yxx a p d (enc x)) (fun l x W K hK=>by have:=hassign l x W K hK;simpa using this) hbody (fun D xs W hD hS hi hk=>hdone D xs W hD hS hi hk) (fun _ _ _ _ _ _ h _=>h.elim))
def JInv (lo gj gp ga n used L bn bl:Nat) (w:World) (m:Nat) (W:World):Prop:=∃(q:Nat) (st':Nat->Int),q=used+m/\Blk W bn 3 [iV (q:Int)]/\Blk W bl 3 [iV (L:Int)]/\Blk W w.heap.size 117 [pV gj]/\Blk W (w.heap.size+1) 29 [iZ]/\ybm lo gp ga n st' W/\(∀i,q<=i->st' i=0)/\yab [ga,gp] w W
theorem ye5 {W W':World} {row:Option Nat} {g:Nat} {e:TypeId} {cs:List Value} (h:Blk W g e cs) (hg:W.grownBy W' row) (hr:∀r,row=some r->∃o:Obj,W.heap[r]?=some o/\o.isCells=false):Blk W' g e cs:=(grownBy_keeps_cells hg hr h rfl).trans h
theorem JInv.grown {lo gj gp ga n used L bn bl m:Nat} {w W W':World} {row:Option Nat} (h:JInv lo gj gp ga n used L bn bl w m W) (hg:W.grownBy W' row) (hr:∀r,row=some r->w.heap.size<=r/\∃o:Obj,W.heap[r]?=some o/\o.isCells=false):JInv lo gj gp ga n used L bn bl w m W':= by
 obtain ⟨q,st',h1,h2,h3,h4,h5,⟨cs,p1,p2,p3,p4⟩,h7,h8⟩:=h;have hr2:∀r,row=some r->∃o:Obj,W.heap[r]?=some o/\o.isCells=false:=fun r e=>(hr r e).2;exact ⟨q,st',h1,ye5 h2 hg hr2,ye5 h3 hg hr2,ye5 h4 hg hr2,ye5 h5 hg hr2,⟨cs,p1,ye5 p2 hg hr2,ye5 p3 hg hr2,p4⟩,h7,h8.grown hg (fun k e=>.inr (hr k e).1)⟩
theorem yja {ops:Array Oper} {o:Oper} {a:Act} {w:World} {K:Act->World->Prop} {Q:Exit->Act->World->Prop} {E:Prop} (hgd:o.guard=none) (x y:Operand) (ho:o.op=.store 189 x y)
 (hd:o.dst=none) (g:Nat) (cells:Array Value) (hx:a.eval x=pV g) (hy:a.eval y=.agg cells) (old:Array Value) (hg:w.heap[g]?=some (.cells old 189 (0,0))) (hs:cells.size=48) (hs2:old.size=48)
 (h1:cells.all (·.oneCell')=true) (h:K a (w.setRow g cells)):if Region.wanted o (yielded ops a.tmps)=true then Oper.wp Tryz.prog o a w K Q else E:= by
 have hw:Region.wanted o (yielded ops a.tmps)=true:=by simp [Region.wanted,hgd]
 rw [if_pos hw];obtain ⟨op,dst,ty,pos,after,guard⟩:=o;simp only at ho hd hgd;subst ho;subst hd;unfold Oper.wp execOp;simp only [hx,hy,Instr.storeAt,Instr.sureAddr,Sem.run_bind,Sem.run_pure,Result.andThen_ok,run_storeVar_row w g 189 189 old cells hg (by rw [ydv,hs]) (by rw [hs,hs2]) h1];exact h
theorem yy7 {w:World} {b off:Nat} {bs:List Int} (h:∀i,i<bs.length->w.cell? (Ad b (off+i))=some (.int .u8 (bs.getD i 0))) (k:Nat):Sl .u8 w (yj1 b off bs.length k) ((bs.drop (41*k)).take 41):= by
 have hl:((bs.drop (41*k)).take 41).length=min 41 (bs.length-41*k):=by simp
 refine ⟨_,min 41 (bs.length-41*k),by rw [hl];rfl,by rw [hl];exact Nat.le_refl _,⟨by unfold maxLen;omega,fun e=>by cases e⟩,fun _=>⟨b,off+41*k,rfl,fun i hi=>?_⟩⟩;rw [hl] at hi;rw [show off+41*k+i=off+(41*k+i) by omega,h (41*k+i) om];simp only [List.getD_eq_getElem?_getD];rw [List.getElem?_take_of_lt om,List.getElem?_drop]
theorem yry {w:World} {base:Nat} {e:TypeId} {m n b:Nat} {v:Value} {cs:List Value} (h:w.ownsRow base e m v n cs) (hb:v.ownBlock=some b):∃cur,Blk w b e cur:= by
 obtain ⟨_,⟨rfl,_⟩ | ⟨g,cap,cur,rfl,_,hc,_⟩⟩:=h
 ·cases hb
 ·cases hb
  exact ⟨cur.toList,by simpa [Blk] using hc⟩
theorem ywq:(Tryz.prog.info? 135).map (fun i=>(i.zero,i.size,i.bytes))=some (some (sZ),1,24):=by kernel_rfl
theorem yy8 (w:World) (x:Value) (t:TypeId) (j:Nat) (u:Value) (hu:[x][j]?=some u):(w.alloc (.cells #[x] t)).cell? (((Ad w.heap.size 0):Addr).add j)=some u:= by
 cases j with
 | zero =>
  have:x=u:=by simpa using hu
  subst this;have h:=(yae w [x] t _ rfl).cell 0;simp only [Addr.add];exact h
 | succ j=>simp at hu
def ownL (v:Value):List Nat:=match v.ownBlock with | some b=>[b] | none=>[]
def yu3 (lo lp gj gp ga n k:Nat) (lv:Value) (used:Nat) (w:World) (e:Ending) (w':World):Prop:=e=.returned (iZ)/\∃lv' st',ycl lo gj gp lv' (k+1) used w'/\ybm lp gp ga n st' w'/\(∀i,used<=i->st' i=0)/\yab (gj::ga::gp::ownL lv) w w'/\∀x∈ownL lv',x∈ownL lv\/w.heap.size<=x
theorem yj3 {F:List Nat} {w W:World} {D:Nat} (h:yab F w W) (hD:D∈F\/w.heap.size<=D) (o:Obj):yab F w (W.putObj D o) :=
 ⟨h.os,h.tape,h.output,by rw [World.putObj_size];exact h.size,fun k hk hn=>(World.putObj_heap_other (fun e=>by
  subst e;rcases hD with h1 | h1
  ·exact hn h1
  ·omega)).trans (h.block k hk hn)⟩
theorem yx4 {v:Value} {x:Nat} (h:v.ownBlock=some x):x∈ownL v:= by
 unfold ownL;rw [h];exact ms.2 rfl
theorem yxf {v:Value} {x:Nat} (h:x∈ownL v):v.ownBlock=some x:= by
 unfold ownL at h
 split at h
 ·rename_i b hb
  simp only [ms] at h;rw [hb,h]
 ·cases h
theorem yw2 {lo lp gj gp ga n k used N q D:Nat} {lv lv2:Value} {st':Nat->Int} {w w9 wA w11 W13:World} {cs:List Value} (h9:yab [ga,gp] w w9) (hb:BW w9 wA) (hg:wA.grownBy w11 lv.ownBlock) (h13:yab [gj] w11 W13)
 (hG:Blk W13 gj 186 [pV gp,iZ,lv2,iV (q:Int)]) (ho:w11.ownsRow lo 135 1 lv2 (k+1) cs) (h1:∀c∈cs,c.oneCell'=true)
 (hc:∀x,lv2.ownBlock=some x->lv.ownBlock=some x\/w9.heap.size<=x) (hD:w.heap.size+1<D/\D<w9.heap.size) (hl:∀x,lv.ownBlock=some x->x<w.heap.size/\x≠gj/\x≠ga/\x≠gp) (hj:lo<=gj/\gj<w.heap.size/\gj≠ga/\gj≠gp) (hgp:ga<w.heap.size/\gp<w.heap.size)
 (hp:ybm lp gp ga n (dryK st' n) w9) (hz:∀i,q<=i->st' i=0) (hq:q=used+N) :
 yu3 lo lp gj gp ga n k lv (used+N) w (.returned (iZ)) ((W13.setCell (Ad (w.heap.size+1) 0) (iZ)).putObj D (.deferred none)):= by
 have k1:yab [w.heap.size+1,D] W13 ((W13.setCell (Ad (w.heap.size+1) 0) (iZ)).putObj D (.deferred none)):=yj3 ((yab.refl _ _).sg _) (.inl (by simp)) _;have k2:yab (ownL lv) w9 w11:=(yab.of_below hb).grown hg (fun x e=>.inl (yx4 e));have k3:yab [gj,w.heap.size+1,D] w11 ((W13.setCell (Ad (w.heap.size+1) 0) (iZ)).putObj D (.deferred none)):=(h13.mono (fun x hx=>by simp only [ms] at hx;simp [hx])).trans k1 (fun x hx=>.inl (List.mem_cons_of_mem _ hx));have k4:yab (gj::(w.heap.size+1)::D::ownL lv) w9 ((W13.setCell (Ad (w.heap.size+1) 0) (iZ)).putObj D (.deferred none)):=(k2.mono (fun x hx=>by simp [hx])).trans k3 (fun x hx=>.inl (by simp only [List.mem_cons,List.not_mem_nil,or_false] at hx ⊢;omega))
 have hn:∀x,(x=ga\/x=gp)->x∉gj::(w.heap.size+1)::D::ownL lv:=fun x hx hm=>by
  simp only [List.mem_cons] at hm;rcases hm with e | e | e | e
  ·omega
  ·omega
  ·omega
  ·have:=hl x (yxf e)
   omega
 refine ⟨rfl,lv2,dryK st' n,⟨hj.1,?_,cs,yap ho k3 (fun x e hm=>?_),h1⟩,hp.keep k4 (hn _ (.inr rfl)) (hn _ (.inl rfl)),fun i hi=>?_,(h9.mono (fun x hx=>by simp only [List.mem_cons,List.not_mem_nil,or_false] at hx ⊢;omega)).trans k4 (fun x hx=>?_),fun x hx=>(hc x (yxf hx)).imp yx4 (fun h=>by have:=h9.size;omega)⟩
 ·have:=hG.keep k1 (by simp only [List.mem_cons,List.not_mem_nil,or_false];omega)
  rw [hq] at this;exact this
 ·simp only [List.mem_cons,List.not_mem_nil,or_false] at hm
  rcases hc x e with h | h
  ·have:=hl x h
   omega
  ·omega
 ·unfold dryK
  rw [hz i om,if_neg (by simp)]
 ·simp only [List.mem_cons] at hx ⊢
  rcases hx with e | e | e | e
  ·exact .inl (.inl e)
  ·exact .inr om
  ·exact .inr om
  ·exact .inl (.inr (.inr (.inr e)))
theorem yuc {α:Type} {lo gj gp ga n used L bn bl BC B q:Nat} {st':Nat->Int} {w W X w9:World} {pre:List α} (hgp:ga<w.heap.size/\gp<w.heap.size) (h1:w.heap.size+1<bl) (h2:bl<bn) (h3:bn<BC) (hq:q=used+pre.length)
 (h5:Blk W bn 3 [iV (q:Int)]/\Blk W bl 3 [iV (L:Int)]/\Blk W w.heap.size 117 [pV gj]/\Blk W (w.heap.size+1) 29 [iZ]/\ybm lo gp ga n st' W/\(∀i,q<=i->st' i=0)/\yab [ga,gp] w W)
 (hx:BW W X) (hk:yab [ga,gp] X.drew w9) (hp:ybm lo gp ga n (fun j=>if j=q then 1 else st' j) w9) (hn:Blk w9 bn 3 [iV (q:Int)]) (x:α) :
 KeepsFrom B W (w9.setCell (Ad bn 0) (iV ((q:Int)+1)))/\KpC BC W (w9.setCell (Ad bn 0) (iV ((q:Int)+1)))/\JInv lo gj gp ga n used L bn bl w (pre++[x]).length (w9.setCell (Ad bn 0) (iV ((q:Int)+1))):= by
 obtain ⟨a1,a2,a3,a4,a5,a6,a7⟩:=h5;have kA:yab [ga,gp] W w9:=(yab.of_below (yaf hx):yab [ga,gp] W X.drew).trans hk (fun _ h=>.inl h);have kB:yab [ga,gp,bn] W (w9.setCell (Ad bn 0) (iV ((q:Int)+1))):=(kA.mono (fun y hy=>by simp only [List.mem_cons,List.not_mem_nil,or_false] at hy ⊢;omega)).setCell (.inl (by simp)) _;have kC:yab [bn] w9 (w9.setCell (Ad bn 0) (iV ((q:Int)+1))):=(yab.refl _ _).setCell (.inl (by simp)) _;have hW:=a7.size;have hbn:=a1.lt;obtain ⟨cs,p1,p2,p3,p4⟩:=a5;refine ⟨⟨kB.size,fun k o _ ho hc=>(kB.block k (Array.getElem?_eq_some_iff.1 ho).1 (fun hm=>?_)).trans ho⟩,⟨kB.size,fun hs=>⟨kB.block BC om (by simp only [List.mem_cons,List.not_mem_nil,or_false];omega),kB.block (BC+1) hs (by simp only [List.mem_cons,List.not_mem_nil,or_false];omega)⟩⟩,q+1,_,by rw [List.length_append,hq];simp [Nat.add_assoc],?_,?_,?_,?_,hp.keep kC ?_ ?_,fun i hi=>?_,?_⟩
 ·simp only [List.mem_cons,List.not_mem_nil,or_false] at hm
  rcases hm with rfl | rfl | rfl
  ·rw [show W.heap[k]?=_ from p3] at ho;cases ho;cases hc
  ·rw [show W.heap[k]?=_ from p2] at ho;cases ho;cases hc
  ·rw [show W.heap[k]?=_ from a1] at ho;cases ho;cases hc
 ·have:=hn.set 0 (iV ((q:Int)+1))
  simpa using this
 ·exact (a2.keep kA (by simp only [List.mem_cons,List.not_mem_nil,or_false];omega)).keep kC (by simp only [ms];omega)
 ·exact (a3.keep kA (by simp only [List.mem_cons,List.not_mem_nil,or_false];omega)).keep kC (by simp only [ms];omega)
 ·exact (a4.keep kA (by simp only [List.mem_cons,List.not_mem_nil,or_false];omega)).keep kC (by simp only [ms];omega)
 ·simp only [ms];omega
 ·simp only [ms];omega
 ·rw [if_neg om]
  exact a6 i om
 ·exact (a7.trans kA (fun y hy=>.inl hy)).setCell (.inr om) _
theorem yrr {lo lp gj gp ga n k used N:Nat} {st:Nat->Int} {lv:Value} {w:World} (v:Value) (bs:List Int) (hn:1<=n/\n<=20000) (hj:ycl lo gj gp lv k used w) (hp:ybm lp gp ga n st w) (hst:∀i,used<=i->st i=0) (hv:Sl .u8 w v bs) (hof:OffF [ga,gp] v) (hl:1<=bs.length/\bs.length<=20000) (hN:N=(bs.length+40)/41) (hroom:used+N<=n) (hk:k<=1000) :
 Calls Tryz.prog 58 #[pV gj,v] w (yu3 lo lp gj gp ga n k lv (used+N) w):= by
 have HV:=lh hv;have HOF:=lh hof;clear hof
 have HGP:Hid (ga<w.heap.size/\gp<w.heap.size):= by
  obtain ⟨cs0,_,g2,g3,_⟩:=hp;exact ⟨g3.lt,g2.lt⟩
 have HGJ:Hid (gj∉[ga,gp]):= by
  obtain ⟨cs0,_,g2,g3,_⟩:=hp;have n1:gj≠ga:=ybs hj.2.1 g3 (by decide);have n2:gj≠gp:=ybs hj.2.1 g2 (by decide);have n3:gj∉[ga,gp]:=by simp [n1,n2]
  exact n3
 have HJ:=lh hj;have HP:=lh hp;have HST:=lh hst;have HNN:=lh (And.intro hn (And.intro hl (And.intro hN (And.intro hroom hk))));obtain ⟨ao,cap,rfl,h1,⟨h2,h2b⟩,h3⟩:=hv;obtain ⟨b,off,rfl,h4⟩:=h3 (by intro e;rw [e] at hl;simp at hl);have HC:=lh (And.intro h1 h4);obtain ⟨d,hd⟩:∃d:Nat,d=(bs.length-1)/41:=⟨_,rfl⟩;obtain ⟨L,hL⟩:∃L:Nat,L=used+d:=⟨_,rfl⟩;obtain ⟨e1,e3,e4,e5,e6⟩:=ywd hl hN hroom hn.2 hd hL;have e2:¬(bs.length:Int)=0:=by omega
 have HL:=lh (And.intro hd hL);clear h1 h2 h2b h3 h4 hj hp hst hd hL hN hroom hk hn hl;refine (callsIn_wide (n:=3)).1 ?_;refine callsIn_of_wp_marks Tryz.func58 rfl trivial ?_ rfl;simp only [Tryz.ntmps58,List.size_toArray,List.length_cons,List.length_nil,Nat.reduceAdd,Nat.reduceSub,Array.replicate_succ,Array.replicate_zero,List.push_toArray,List.append_toArray,List.nil_append,List.cons_append];refine wpIn_wide.2 ?_
 go_wp2_with fail
 obtain ⟨W1,hW1,J1,R1,B1⟩:∃W,((w.alloc (.cells #[pV gj] 117)).alloc (.cells #[iZ] 29))=W/\Hid (Blk W w.heap.size 117 [pV gj])/\Hid (Blk W (w.heap.size+1) 29 [iZ])/\Hid (BW w W) :=
  ⟨_,rfl,(yae w [_] _ _ rfl).below (yaa bR _),ybc _ [_] _ _ (World.size_alloc _ _),yaa (yaa bR _) _⟩
 rw [hW1];clear hW1;refine (ytx (HJ.out.below B1.out) (HP.out.below B1.out)).mono ?_;rintro _ w2 ⟨rfl,hb2⟩;have J2:=lh (J1.out.below hb2);have R2:=lh (R1.out.below hb2);have B2:Hid (BW w w2):=yad B1.out hb2;clear hb2;have cj:=J2.out.cell 0;have c3:=(HJ.out.2.1.below B2.out).cell 3
 go_wp2_with fail
 obtain ⟨W3,hW3,L3,B3,J3,R3⟩:∃W,w2.alloc (.cells #[iV (L:Int)] 3)=W/\Hid (Blk W w2.heap.size 3 [iV (L:Int)])/\Hid (BW w W)/\Hid (Blk W w.heap.size 117 [pV gj])/\Hid (Blk W (w.heap.size+1) 29 [iZ]) :=
  ⟨_,rfl,yae w2 [_] _ _ rfl,yaa B2.out _,J2.out.below (yaa bR _),R2.out.below (yaa bR _)⟩
 rw [hW3];clear hW3 cj c3;obtain ⟨bl,hbl⟩:∃bl,w2.heap.size=bl:=⟨_,rfl⟩;simp only [hbl] at L3 ⊢
 have GBL:Hid (w.heap.size+1<bl):= by
  have:=R2.out.lt;show _<_;omega
 clear hbl J2 R2 B2 J1 R1 B1;have HS:Hid (∀W',BW W3 W'->Ce W' bl 0 (iV (L:Int))/\Ce W' w.heap.size 0 (pV gj)/\Ce W' gj 0 (pV gp)):=fun W' hW=>⟨(L3.out.below hW).cell 0,(J3.out.below hW).cell 0,((HJ.out.2.1.below B3.out).below hW).cell 0⟩;have hs0:=HS.out W3 bR;have hsd:=HS.out W3.drew (yaf bR)
 go_region_held3 (fun W'=>Ce W' bl 0 (iV (L:Int))/\Ce W' w.heap.size 0 (pV gj)/\Ce W' gj 0 (pV gp)) (first | with_reducible exact hs0 | with_reducible exact hsd | with_reducible exact hs4 | with_reducible assumption)
  (first
   | (go_at_call 98;refine (ylh ((HP.out.below B3.out).below (yaf bR))).mono ?_;rintro _ w4 ⟨rfl,hb4⟩;have HB4:Hid (BW W3 w4):=yad (yaf bR) hb4;have hs4:=HS.out w4 HB4.out;clear hb4))
 have B4:Hid (BW w w4):=yad B3.out HB4.out;have L4:=lh (L3.out.below HB4.out);have J4:=lh (J3.out.below HB4.out);have R4:=lh (R3.out.below HB4.out);clear hs0 hsd hs4 HS L3 B3 J3 R3;have cj:=J4.out.cell 0;have c3:=(HJ.out.2.1.below B4.out).cell 3
 go_wp2_with fail
 obtain ⟨W5,hW5,N5,L5,B5,J5,R5⟩:∃W,w4.alloc (.cells #[iV (used:Int)] 3)=W/\Hid (Blk W w4.heap.size 3 [iV (used:Int)])/\Hid (Blk W bl 3 [iV (L:Int)])/\Hid (BW w W)/\Hid (Blk W w.heap.size 117 [pV gj])/\Hid (Blk W (w.heap.size+1) 29 [iZ]) :=
  ⟨_,rfl,yae w4 [_] _ _ rfl,L4.out.below (yaa bR _),yaa B4.out _,J4.out.below (yaa bR _),R4.out.below (yaa bR _)⟩
 rw [hW5];clear hW5 cj c3;obtain ⟨bn,hbn⟩:∃bn,w4.heap.size=bn:=⟨_,rfl⟩;simp only [hbn] at N5 ⊢
 have GBN:Hid (bl<bn):= by
  have:=L4.out.lt;show _<_;omega
 clear hbn L4 B4 J4 R4 HB4;refine (yvl _ _ _ _).mono ?_;rintro _ w6 ⟨rfl,rfl⟩
 go_wp2_with fail
 obtain ⟨W7,hW7,C7,D7,Z7,I7⟩:∃W,((W5.alloc (.cells #[sL b off bs.length cap] 135)).alloc (.cells #[iV 41] 3))=W/\Hid (Blk W W5.heap.size 135 [sL b off bs.length cap])/\Hid (Blk W (W5.heap.size+1) 3 [iV 41])/\Hid (W5.heap.size+1<W.heap.size)/\Hid (JInv lp gj gp ga n used L bn bl w 0 W) :=
  have hb:BW W5 ((W5.alloc (.cells #[sL b off bs.length cap] 135)).alloc (.cells #[iV 41] 3)):=yaa (yaa bR _) _
  ⟨_,rfl,(yae W5 [_] _ _ rfl).below (yaa bR _),ybc _ [_] _ _ (World.size_alloc _ _),by show _<_;simp only [World.size_alloc];omega,
   used,st,rfl,N5.out.below hb,L5.out.below hb,J5.out.below hb,R5.out.below hb,HP.out.below (yad B5.out hb),HST.out,yab.of_below (yad B5.out hb)⟩
 rw [hW7];clear hW7;obtain ⟨BC,hBC⟩:∃BC,W5.heap.size=BC:=⟨_,rfl⟩
 have GBC:Hid (bn<BC):= by
  have:=N5.out.lt;show _<_;omega
 simp only [hBC] at C7 D7 Z7 ⊢;clear hBC N5 L5 B5 J5 R5;refine yum (n:=3) (by decide) (gf:=148) (lb:=#[pV BC,pV (BC+1)]) rfl (enters_of Tryz.func148 kr rfl) (ypw 2 BC b off bs.length cap N HC.out.1 HNN.out.2.1.2 HNN.out.2.2.1 W7 C7.out D7.out) (fun h k=>KpC.t h k) (KpC.b Z7.out) (fun pre W=>JInv lp gj gp ga n used L bn bl w pre.length W) (d:=8) ?own I7.out ?assign ?body ?done
 case own =>
  intro s A A' row hs hg hr;refine hs.grown hg (fun r e=>⟨?_,(hr r e).2⟩);have h1:=(hr r e).1;have h2:=Z7.out;have h3:=GBC.out;have h4:=GBN.out;have h5:=GBL.out;omega
 case assign =>
  intro l x W K hK;simp only [List.setIfInBounds_toArray,List.set_cons_succ,List.set_cons_zero]
  gi_wp2
  exact hK
 case body =>
  rintro l pre x W ⟨q,st',hq,hn5,hl5,hj5,hr5,hp5,hs5,hk5⟩ hlt
  have HQ:Hid (q+1<=n/\q<=20000):= by
   have h1:=HNN.out;show _/\_;omega
  have HQE:=lh hq
  have HPL:Hid (1<=((bs.drop (41*x.1)).take 41).length/\((bs.drop (41*x.1)).take 41).length<=41):= by
   have h1:=HNN.out.2.2.1;have h2:=x.2;show _/\_;simp only [List.length_take,List.length_drop];omega
  have HVW:Hid (Sl .u8 W (sL b off bs.length cap) bs):=HV.out.keep hk5 HOF.out
  have HPV:Hid (Sl .u8 W (yj1 b off bs.length x.1) ((bs.drop (41*x.1)).take 41)):= by
   obtain ⟨ao',cap',e1,_,_,e4⟩:=HVW.out;obtain ⟨b',o',e5,e6⟩:=e4 (by intro e;have:=HNN.out.2.1.1;rw [e] at this;simp at this);subst e5;injection e1 with e1
   injection e1 with e1
   injection e1 with e7 e8
   subst e7;subst e8;exact yy7 e6 x.1
  have HGW:Hid (Blk W gj 186 [pV gp,iZ,lv,iV (used:Int)]):=HJ.out.2.1.keep hk5 HGJ.out;have H5:=lh (And.intro hn5 (And.intro hl5 (And.intro hj5 (And.intro hr5 (And.intro hp5 (And.intro hs5 hk5))))));have HS:Hid (∀W',BW W W'->Ce W' bn 0 (iV (q:Int))/\Ce W' w.heap.size 0 (pV gj)/\Ce W' gj 3 (iV (used:Int))/\Ce W' bl 0 (iV (L:Int))):=fun W' hW=>⟨(H5.out.1.below hW).cell 0,(H5.out.2.2.1.below hW).cell 0,(HGW.out.below hW).cell 3,(H5.out.2.1.below hW).cell 0⟩;have hsd:=HS.out W.drew (yaf bR);clear hq hn5 hl5 hj5 hr5 hp5 hs5 hk5;simp only [yxx,List.setIfInBounds_toArray,List.set_cons_succ,List.set_cons_zero]
  gi_wp2
  refine ydk (fun W'=>Ce W' bn 0 (iV (q:Int))/\Ce W' w.heap.size 0 (pV gj)/\Ce W' gj 3 (iV (used:Int))/\Ce W' bl 0 (iV (L:Int))) 16 kr kr ?_;refine tK 0 rfl ?_;refine tK 1 rfl ?_;refine tK 2 rfl ?_;refine tK 3 rfl ?_;refine tK 4 rfl ?_;refine tK 5 rfl ?_;refine tK 6 rfl ?_;refine tK 7 rfl ?_;refine tK 8 rfl ?_;refine tK 9 rfl ?_;refine tK 10 rfl ?_;refine ybo (rs:=[11,15]) kr (by simp) ?_;refine (yam.cons (o:=⟨_,_,_,_,_,_⟩) rfl (fun K hK=>?_) (yam.cons (o:=⟨_,_,_,_,_,_⟩) rfl (fun K hK=>?_) yam.nil))
  ·go_simp
   refine (yns q HQ.out.2 _ _ (yj1 b off bs.length x.1) ((bs.drop (41*x.1)).take 41) HPL.out _ (HPV.out.below (yaf bR))).mono ?_;rintro _ w8 ⟨cs,er,rfl,hcs,hu8,hb8⟩;have HCS:=lh (And.intro hcs hu8);have HB80:=lh hb8;have HB8:Hid (BW W w8):=yad (yaf bR) hb8;have hs8:=HS.out w8 HB8.out;clear hcs hu8 hb8;refine hK.out _ _ (fun hun=>hs8) ?_;clear hK K;try simp only [ap,aq,sa,sb,sc]
   refine tF 12 rfl ?_ (hS:=hs8);refine tF 13 rfl ?_ (hS:=hs8);refine tF 14 rfl ?_ (hS:=hs8);refine wo 15 kr rfl fun K hK=>?_;go_simp;refine hK.out _ _ (fun hun=>HS.out _ (yaa HB8.out _)) ?_;clear hK K;try simp only [ap,aq,sa,sb,sc]
   obtain ⟨U,hU,UB,UBL,UGE⟩:∃U,w8.alloc (.cells Z48.toArray 189)=U/\Hid (Blk U w8.heap.size 189 Z48)/\Hid (BW W U)/\Hid (W.heap.size<=w8.heap.size):=⟨_,rfl,yae w8 Z48 _ _ rfl,yaa HB8.out _,by first | exact Nat.le_refl _ | exact HB8.out.size⟩;change ycg _ _ _ _ _ _ _ _ _ (w8.alloc (.cells Z48.toArray 189))
   with_reducible rw [hU]
   clear hU hs8 hsd;refine wo 16 kr rfl fun K hK=>?_;refine yja rfl (.tmp 9) (.tmp 57) rfl rfl w8.heap.size cs.toArray rfl rfl Z48.toArray UB.out (by rw [List.size_toArray];exact HCS.out.1) (by simp [Z48]) (all_oneCell_toArray HCS.out.2.one) ?_;refine hK.out _ _ kd ?_;clear hK K;try simp only [ap,aq,sa,sb,sc]
   refine wo 17 kr rfl fun K hK=>?_;go_simp;refine hK.out _ _ kd ?_;clear hK K;try simp only [ap,aq,sa,sb,sc]
   refine yal kr ?_ _;obtain ⟨X,hX,XB,XBL⟩:∃X,U.setRow w8.heap.size cs.toArray=X/\Hid (Blk X w8.heap.size 189 cs)/\Hid (BW W X):=⟨_,rfl,ycu UB.out cs,ybl UBL.out UGE.out _⟩;try with_reducible rw [hX]
   clear hX
   gi_wp2
   have HT:Hid (∀W',BW X W'->Ce W' w.heap.size 0 (pV gj)/\Ce W' gj 0 (pV gp)/\Ce W' bn 0 (iV (q:Int))/\W'.rangeAt w8.heap.size 0 cs):=fun W' hW=>⟨((H5.out.2.2.1.below XBL.out).below hW).cell 0,((HGW.out.below XBL.out).below hW).cell 0,((H5.out.1.below XBL.out).below hW).cell 0,fun j v hv=>by rw [Nat.zero_add,(XB.out.below hW).cell];exact hv⟩;have htd:=HT.out X.drew (yaf bR);refine ydk (fun W'=>Ce W' w.heap.size 0 (pV gj)/\Ce W' gj 0 (pV gp)/\Ce W' bn 0 (iV (q:Int))/\W'.rangeAt w8.heap.size 0 cs) 7 kr kr ?_;refine tK 0 rfl ?_;refine tK 1 rfl ?_;refine tK 2 rfl ?_;refine tK 3 rfl ?_;refine tK 4 rfl ?_;refine yea (i:=5) (oi:=⟨_,_,_,_,_,_⟩) (v:=.agg cs.toArray) rfl kr kr kr kr kr (fun _ _ _ h=>h) (yieldsIf_load_mid (by rfl) 189 (.tmp 9) rfl w8.heap.size 0 (by rfl) cs _ (fun w' hw'=>hw'.2.2.2) Tryz.underlying189 rfl (by rw [HCS.out.1];exact ydv)) (by assumption) ?_;simp only [ap,aq,sa,sb,sc];refine wo 6 kr rfl fun K hK=>?_;go_simp;refine (ylb ((H5.out.2.2.2.2.1.below XBL.out).below (yaf bR)) q (by have:=HQ.out;omega) (H5.out.2.2.2.2.2.1 q (Nat.le_refl _)) cs HCS.out.1 HCS.out.2).mono ?_;rintro _ w9 ⟨rfl,h9,k9⟩;have HP9:=lh h9;have HK9:=lh k9
   have HOFF:Hid (w.heap.size∉[ga,gp]/\bn∉[ga,gp]/\w8.heap.size∉[ga,gp]/\bl∉[ga,gp]/\w.heap.size+1∉[ga,gp]):= by
    have u1:=HGP.out;have u2:=GBN.out;have u3:=GBL.out;have u4:=UGE.out;have u5:=H5.out.2.2.2.2.2.2.size
    have u6:w.heap.size∉[ga,gp]/\bn∉[ga,gp]/\w8.heap.size∉[ga,gp]/\bl∉[ga,gp]/\w.heap.size+1∉[ga,gp]:= by
     simp only [List.mem_cons,List.not_mem_nil,or_false];omega
    exact u6
   have J9:Hid (Blk w9 w.heap.size 117 [pV gj]):=((H5.out.2.2.1.below XBL.out).below (yaf bR)).keep HK9.out HOFF.out.1;have G9:Hid (Blk w9 gj 186 [pV gp,iZ,lv,iV (used:Int)]):=((HGW.out.below XBL.out).below (yaf bR)).keep HK9.out HGJ.out;have N9:Hid (Blk w9 bn 3 [iV (q:Int)]):=((H5.out.1.below XBL.out).below (yaf bR)).keep HK9.out HOFF.out.2.1;have X9:Hid (Blk w9 w8.heap.size 189 cs):=(XB.out.below (yaf bR)).keep HK9.out HOFF.out.2.2.1;have hs9:w9.cell? (Ad w.heap.size 0)=some (pV gj)/\w9.cell? (Ad gj 0)=some (pV gp)/\w9.cell? (Ad bn 0)=some (iV (q:Int))/\w9.rangeAt w8.heap.size 0 cs:=⟨J9.out.cell 0,G9.out.cell 0,N9.out.cell 0,fun j v hv=>by rw [Nat.zero_add,X9.out.cell];exact hv⟩;exact zq32a9bf
  ·go_simp
   refine hK.out _ _ (fun hun=>HS.out _ (yaa (yaf bR) _)) ?_;clear hK K;try simp only [ap,aq,sa,sb,sc]
   refine wo 11 kr rfl fun K hK=>?_;go_simp;refine (yns q HQ.out.2 _ _ (yj1 b off bs.length x.1) ((bs.drop (41*x.1)).take 41) HPL.out _ (HPV.out.below (yaa (yaf bR) _))).mono ?_;rintro _ w8 ⟨cs,er,rfl,hcs,hu8,hb8⟩;have HCS:=lh (And.intro hcs hu8);have HB80:=lh hb8;have HB8:Hid (BW W w8):=yad (yaa (yaf bR) _) hb8;have hs8:=HS.out w8 HB8.out;clear hcs hu8 hb8;refine hK.out _ _ (fun hun=>hs8) ?_;clear hK K;try simp only [ap,aq,sa,sb,sc]
   refine tF 12 rfl ?_ (hS:=hs8);refine tF 13 rfl ?_ (hS:=hs8);refine tF 14 rfl ?_ (hS:=hs8);obtain ⟨U,hU,UB,UBL,UGE⟩:∃U,w8=U/\Hid (Blk U W.heap.size 189 Z48)/\Hid (BW W U)/\Hid (W.heap.size<=W.heap.size):=⟨_,rfl,Blk.below (yae W.drew Z48 _ _ rfl) HB80.out,HB8.out,by first | exact Nat.le_refl _ | exact HB8.out.size⟩
   with_reducible rw [hU]
   clear hU hs8 hsd;refine wo 16 kr rfl fun K hK=>?_;refine yja rfl (.tmp 9) (.tmp 57) rfl rfl W.heap.size cs.toArray rfl rfl Z48.toArray UB.out (by rw [List.size_toArray];exact HCS.out.1) (by simp [Z48]) (all_oneCell_toArray HCS.out.2.one) ?_;refine hK.out _ _ kd ?_;clear hK K;try simp only [ap,aq,sa,sb,sc]
   refine wo 17 kr rfl fun K hK=>?_;go_simp;refine hK.out _ _ kd ?_;clear hK K;try simp only [ap,aq,sa,sb,sc]
   refine yal kr ?_ _;obtain ⟨X,hX,XB,XBL⟩:∃X,U.setRow W.heap.size cs.toArray=X/\Hid (Blk X W.heap.size 189 cs)/\Hid (BW W X):=⟨_,rfl,ycu UB.out cs,ybl UBL.out UGE.out _⟩;try with_reducible rw [hX]
   clear hX
   gi_wp2
   have HT:Hid (∀W',BW X W'->Ce W' w.heap.size 0 (pV gj)/\Ce W' gj 0 (pV gp)/\Ce W' bn 0 (iV (q:Int))/\W'.rangeAt W.heap.size 0 cs):=fun W' hW=>⟨((H5.out.2.2.1.below XBL.out).below hW).cell 0,((HGW.out.below XBL.out).below hW).cell 0,((H5.out.1.below XBL.out).below hW).cell 0,fun j v hv=>by rw [Nat.zero_add,(XB.out.below hW).cell];exact hv⟩;have htd:=HT.out X.drew (yaf bR);refine ydk (fun W'=>Ce W' w.heap.size 0 (pV gj)/\Ce W' gj 0 (pV gp)/\Ce W' bn 0 (iV (q:Int))/\W'.rangeAt W.heap.size 0 cs) 7 kr kr ?_;refine tK 0 rfl ?_;refine tK 1 rfl ?_;refine tK 2 rfl ?_;refine tK 3 rfl ?_;refine tK 4 rfl ?_;refine yea (i:=5) (oi:=⟨_,_,_,_,_,_⟩) (v:=.agg cs.toArray) rfl kr kr kr kr kr (fun _ _ _ h=>h) (yieldsIf_load_mid (by rfl) 189 (.tmp 9) rfl W.heap.size 0 (by rfl) cs _ (fun w' hw'=>hw'.2.2.2) Tryz.underlying189 rfl (by rw [HCS.out.1];exact ydv)) (by assumption) ?_;simp only [ap,aq,sa,sb,sc];refine wo 6 kr rfl fun K hK=>?_;go_simp;refine (ylb ((H5.out.2.2.2.2.1.below XBL.out).below (yaf bR)) q (by have:=HQ.out;omega) (H5.out.2.2.2.2.2.1 q (Nat.le_refl _)) cs HCS.out.1 HCS.out.2).mono ?_;rintro _ w9 ⟨rfl,h9,k9⟩;have HP9:=lh h9;have HK9:=lh k9
   have HOFF:Hid (w.heap.size∉[ga,gp]/\bn∉[ga,gp]/\W.heap.size∉[ga,gp]/\bl∉[ga,gp]/\w.heap.size+1∉[ga,gp]):= by
    have u1:=HGP.out;have u2:=GBN.out;have u3:=GBL.out;have u4:=UGE.out;have u5:=H5.out.2.2.2.2.2.2.size
    have u6:w.heap.size∉[ga,gp]/\bn∉[ga,gp]/\W.heap.size∉[ga,gp]/\bl∉[ga,gp]/\w.heap.size+1∉[ga,gp]:= by
     simp only [List.mem_cons,List.not_mem_nil,or_false];omega
    exact u6
   have J9:Hid (Blk w9 w.heap.size 117 [pV gj]):=((H5.out.2.2.1.below XBL.out).below (yaf bR)).keep HK9.out HOFF.out.1;have G9:Hid (Blk w9 gj 186 [pV gp,iZ,lv,iV (used:Int)]):=((HGW.out.below XBL.out).below (yaf bR)).keep HK9.out HGJ.out;have N9:Hid (Blk w9 bn 3 [iV (q:Int)]):=((H5.out.1.below XBL.out).below (yaf bR)).keep HK9.out HOFF.out.2.1;have X9:Hid (Blk w9 W.heap.size 189 cs):=(XB.out.below (yaf bR)).keep HK9.out HOFF.out.2.2.1;have hs9:w9.cell? (Ad w.heap.size 0)=some (pV gj)/\w9.cell? (Ad gj 0)=some (pV gp)/\w9.cell? (Ad bn 0)=some (iV (q:Int))/\w9.rangeAt W.heap.size 0 cs:=⟨J9.out.cell 0,G9.out.cell 0,N9.out.cell 0,fun j v hv=>by rw [Nat.zero_add,X9.out.cell];exact hv⟩;exact zq32a9bf
 case done =>
  rintro D xs W hD hxs ⟨q,st',hq,hn5,hl5,hj5,hr5,hp5,hs5,hk5⟩ hK;have HQE:=lh hq;have H5:=lh (And.intro hn5 (And.intro hl5 (And.intro hj5 (And.intro hr5 (And.intro hp5 (And.intro hs5 hk5))))));have HXS:=lh hxs;have HK:=lh hK;have HD:=lh hD;have HGW:Hid (Blk W gj 186 [pV gp,iZ,lv,iV (used:Int)]):=HJ.out.2.1.keep hk5 HGJ.out;have cj:=hj5.cell 0;have c0:=HGW.out.cell 0;clear hq hn5 hl5 hj5 hr5 hp5 hs5 hk5 hxs hK hD
  go_wp2_with fail
  refine (ylx HNN.out.1.2 H5.out.2.2.2.2.1).mono ?_;rintro _ w9 ⟨rfl,h9,k9⟩;have HP9:=lh h9;have HK9:Hid (yab [ga,gp] W w9):=k9;have HKW:Hid (yab [ga,gp] w w9):=H5.out.2.2.2.2.2.2.trans k9 (fun _ h=>.inl h)
  have HOFF:Hid (w.heap.size∉[ga,gp]/\bn∉[ga,gp]/\w.heap.size+1∉[ga,gp]):= by
   have u1:=HGP.out;have u2:=GBN.out;have u3:=GBL.out
   have u6:w.heap.size∉[ga,gp]/\bn∉[ga,gp]/\w.heap.size+1∉[ga,gp]:= by
    simp only [List.mem_cons,List.not_mem_nil,or_false];omega
   exact u6
  have J9:Hid (Blk w9 w.heap.size 117 [pV gj]):=H5.out.2.2.1.keep k9 HOFF.out.1;have R9:Hid (Blk w9 (w.heap.size+1) 29 [iZ]):=H5.out.2.2.2.1.keep k9 HOFF.out.2.2;have N9:Hid (Blk w9 bn 3 [iV (q:Int)]):=H5.out.1.keep k9 HOFF.out.2.1;have G9:Hid (Blk w9 gj 186 [pV gp,iZ,lv,iV (used:Int)]):=HGW.out.keep k9 HGJ.out;have V9:Hid (Sl .u8 w9 (sL b off bs.length cap) bs):=HV.out.keep HKW.out HOF.out
  have K9:Hid (w9.heap[D]?=some (.deferred (some []))):= by
   have hlt:=(Array.getElem?_eq_some_iff.1 HK.out).1;refine (k9.block D hlt (fun hm=>?_)).trans HK.out;obtain ⟨cs0,_,g2,g3,_⟩:=H5.out.2.2.2.2.1;have hh:=HK.out;simp only [List.mem_cons,List.not_mem_nil,or_false] at hm;rcases hm with rfl | rfl
   ·rw [show W.heap[D]?=_ from g3] at hh;cases hh
   ·rw [show W.heap[D]?=_ from g2] at hh;cases hh
  have HLV:Hid (∃cs,w9.ownsRow lo 135 1 lv k cs/\(∀c∈cs,c.oneCell'=true)/\(∀x,lv.ownBlock=some x->x<w.heap.size/\x≠gj/\x≠ga/\x≠gp)):= by
   obtain ⟨_,j2,cs,j3,j4⟩:=HJ.out;obtain ⟨cs0,_,g2,g3,_⟩:=HP.out
   have hx:∀x,lv.ownBlock=some x->x<w.heap.size/\x≠gj/\x≠ga/\x≠gp:=fun x hx=>by
    obtain ⟨cur,hb⟩:=yry j3 hx;exact ⟨hb.lt,ybs hb j2 (by decide),ybs hb g3 (by decide),ybs hb g2 (by decide)⟩
   exact ⟨cs,yap j3 HKW.out (fun x e=>by have:=hx x e;simp only [List.mem_cons,List.not_mem_nil,or_false];omega),j4,hx⟩
  clear h9 k9 cj c0
  go_wp2_with fail
  have HS:Hid (∀W',BW w9 W'->Ce W' w.heap.size 0 (pV gj)/\Ce W' gj 2 lv/\Ce W' bn 0 (iV (q:Int))):=fun W' hW=>⟨(J9.out.below hW).cell 0,(G9.out.below hW).cell 2,(N9.out.below hW).cell 0⟩;have hsd:=HS.out w9.drew (yaf bR);have htd:=And.intro hsd.1 hsd.2.2;obtain ⟨lcs,hl1,hl2,hl3⟩:=HLV.out;have HL1:=lh hl1;have HL2:=lh hl2;have HL3:=lh hl3;clear hl1 hl2 hl3;obtain ⟨i0,hi,hz0,hz1,hz2⟩:=info_parts ywq;refine yjf (fun W'=>Ce W' w.heap.size 0 (pV gj)/\Ce W' gj 2 lv/\Ce W' bn 0 (iV (q:Int))) (fun W'=>Ce W' w.heap.size 0 (pV gj)/\Ce W' bn 0 (iV (q:Int))) 11 kr ?_;refine ydj (i:=0) (oi:=⟨_,_,_,_,_,_⟩) (v:=?_) rfl kr kr kr kr kr (fun _ _ _ h=>h) (Or.inl ⟨by rfl,?_⟩) hsd htd ?_
  rotate_left
  ·(intro w hSw;(try dsimp only at hSw);go_simp;try with_reducible rfl)
  simp only [ap,aq,sa,sb,sc];refine yii (i:=1) (oi:=⟨_,_,_,_,_,_⟩) (v:=?_) rfl kr kr kr (by decide) (fun _ _ _ h=>h) (Or.inl ⟨by rfl,?_⟩) (fun _=>hsd) htd ?_
  rotate_left
  ·(intro w hSw;(try dsimp only at hSw);go_simp;try with_reducible rfl)
  simp only [ap,aq,sa,sb,sc];refine ydj (i:=2) (oi:=⟨_,_,_,_,_,_⟩) (v:=?_) rfl kr kr kr kr kr (fun _ _ _ h=>h) (Or.inl ⟨by rfl,?_⟩) hsd htd ?_
  rotate_left
  ·(intro w hSw;(try dsimp only at hSw);go_simp;try with_reducible rfl)
  simp only [ap,aq,sa,sb,sc];refine ydj (i:=3) (oi:=⟨_,_,_,_,_,_⟩) (v:=?_) rfl kr kr kr kr kr (fun _ _ _ h=>h) (Or.inl ⟨by rfl,?_⟩) hsd htd ?_
  rotate_left
  ·(intro w hSw;(try dsimp only at hSw);go_simp;try with_reducible rfl)
  simp only [ap,aq,sa,sb,sc];refine ydj (i:=4) (oi:=⟨_,_,_,_,_,_⟩) (v:=?_) rfl kr kr kr kr kr (fun _ _ _ h=>h) (Or.inl ⟨by rfl,?_⟩) hsd htd ?_
  rotate_left
  ·(intro w hSw;(try dsimp only at hSw);go_simp;try with_reducible rfl)
  simp only [ap,aq,sa,sb,sc];refine ydj (i:=5) (oi:=⟨_,_,_,_,_,_⟩) (v:=?_) rfl kr kr kr kr kr (fun _ _ _ h=>h) (Or.inl ⟨by rfl,?_⟩) hsd htd ?_
  rotate_left
  ·(intro w hSw;(try dsimp only at hSw);go_simp;try with_reducible rfl)
  simp only [ap,aq,sa,sb,sc];refine ydj (i:=6) (oi:=⟨_,_,_,_,_,_⟩) (v:=?_) rfl kr kr kr kr kr (fun _ _ _ h=>h) (Or.inl ⟨by rfl,?_⟩) hsd htd ?_
  rotate_left
  ·(intro w hSw;(try dsimp only at hSw);go_simp;try with_reducible rfl)
  simp only [ap,aq,sa,sb,sc];refine yii (i:=10) (oi:=⟨_,_,_,_,_,_⟩) (v:=?_) rfl kr kr kr (by decide) (fun _ _ _ h=>h) (Or.inl ⟨by rfl,?_⟩) (fun _=>hsd) htd ?_
  rotate_left
  ·(intro w hSw;(try dsimp only at hSw);go_simp;try with_reducible rfl)
  simp only [ap,aq,sa,sb,sc];refine ycv (i:=7) (o:=⟨_,_,_,_,_,_⟩) kr rfl (fun K hK=>?_);go_simp;refine (ysh _ bs _ (V9.out.below (yaf bR)) HNN.out.2.1.2).mono ?_;rintro _ w10 ⟨uv,rfl,ho10,hb10⟩;have HB10:Hid (BW w9 w10):=yad (yaf bR) hb10;have hs10:=HS.out w10 HB10.out
  obtain ⟨uo,uc,rfl⟩:∃uo uc,uv=.slice uo bs.length uc:= by
   obtain ⟨_,⟨rfl,e⟩ | ⟨g,cap',cur,rfl,_⟩⟩:=ho10
   ·exact ⟨none,0,by rw [e]⟩
   ·exact ⟨_,_,rfl⟩
  clear ho10 hb10;refine hK.out _ _ (fun hun=>hs10) ⟨hs10.1,hs10.2.2⟩ ?_;clear hK K;try simp only [ap,aq,sa,sb,sc]
  refine ycv (i:=8) (o:=⟨_,_,_,_,_,_⟩) kr rfl (fun K hK=>?_);go_simp;refine hK.out _ _ (fun hun=>HS.out _ (yaa HB10.out _)) ⟨(HS.out _ (yaa HB10.out _)).1,(HS.out _ (yaa HB10.out _)).2.2⟩ ?_;clear hK K;try simp only [ap,aq,sa,sb,sc]
  refine ycv (i:=9) (o:=⟨_,_,_,_,_,_⟩) kr rfl (fun K hK=>?_);refine yd2 rfl (.tmp 84) (.tmp 87) 134 rfl lo 135 i0 (sZ) 1 24 Tryz.underlying134 hi hz0 hz1 hz2 rfl (by decide) lv k lcs (by rfl) (yah HL1.out (yaa HB10.out _)) (some (Ad w10.heap.size 0)) 1 1 [.slice uo bs.length uc] (by rfl) rfl (fun e=>by cases e) (fun ad e j u hu=>by cases e;exact yy8 w10 _ _ j u hu) (by intro u hu;simp only [ms] at hu;subst hu;rfl) (by have:=HNN.out.2.2.2.2;unfold maxLen;omega) (by have:=HNN.out.2.2.2.2;omega) (by have h1:=HJ.out.1;have h2:=HJ.out.2.1.lt;have h3:=HKW.out.size;have h4:=HB10.out.size;rw [World.size_alloc];omega) ?_;intro lv2 w11 hown2 hg2 hc2
  obtain ⟨x2,cap2,rfl⟩:∃x2 cap2,lv2=sL x2 0 (k+1) cap2:= by
   obtain ⟨_,⟨_,e⟩ | ⟨g,cap',cur,rfl,_⟩⟩:=hown2
   ·omega
   ·exact ⟨_,_,rfl⟩
  have HOWN2:=lh hown2;have HG2:=lh hg2
  have HC2:Hid (∀x,(Value.slice (some (Ad x2 0)) (k+1) cap2).ownBlock=some x->(lv.ownBlock=some x)\/x=w10.heap.size+1):=fun x hx=>by
   rcases hc2 with h | h
   ·exact .inl (h▸hx)
   ·rw [hx] at h
    cases h;exact .inr (World.size_alloc _ _)
  have hne:∀x,(x=w.heap.size\/x=gj\/x=bn\/x=w.heap.size+1\/x=ga\/x=gp\/x=D)->some x≠lv.ownBlock:=fun x hx e=>by
   have h1:=J9.out.lt;have h2:=N9.out.lt;have h3:=G9.out.lt;have h4:=R9.out.lt;have h5:=HB10.out.size;have h6:=(Array.getElem?_eq_some_iff.1 K9.out).1;have h7:=HGP.out;have h8:=HKW.out.size;have h9:=GBL.out;have h10:=GBN.out;have h11:=HD.out;have h12:=Z7.out;have h13:=GBC.out;have:=HL3.out x e.symm;omega
  have HNE:=lh hne;have bAll:∀g e cur,(g=w.heap.size\/g=gj\/g=bn\/g=w.heap.size+1\/g=ga\/g=gp\/g=D)->Blk w9 g e cur->Blk w11 g e cur:=fun g e cur hg hb=>yaq (hb.below (yaa HB10.out _)) hg2 (hne g hg);have BALL:=lh bAll;have hD9:=(Array.getElem?_eq_some_iff.1 K9.out).1;have K11:Hid (w11.heap[D]?=some (.deferred (some []))):=(hg2.block D (Nat.lt_of_lt_of_le hD9 (yaa HB10.out _).size) (hne D (by simp))).trans (((yaa HB10.out _).block D hD9).trans K9.out);clear hD9;have hs11:w11.cell? (Ad w.heap.size 0)=some (pV gj)/\w11.cell? (Ad gj 2)=some lv/\w11.cell? (Ad bn 0)=some (iV (q:Int)):=⟨(bAll _ _ _ (by simp) J9.out).cell 0,(bAll _ _ _ (by simp) G9.out).cell 2,(bAll _ _ _ (by simp) N9.out).cell 0⟩;clear hown2 hg2 hc2 hne bAll;refine hK.out _ _ (fun hun=>hs11) ⟨hs11.1,hs11.2.2⟩ ?_;clear hK K;try simp only [ap,aq,sa,sb,sc]
  refine ycv (i:=11) (o:=⟨_,_,_,_,_,_⟩) kr rfl (fun K hK=>?_);go_simp;refine hK.out _ _ kd ⟨hs11.1,hs11.2.2⟩ ?_;clear hK K;try simp only [ap,aq,sa,sb,sc]
  refine ycv (i:=12) (o:=⟨_,_,_,_,_,_⟩) kr rfl (fun K hK=>?_);go_simp;refine hK.out _ _ kd ⟨hs11.1,hs11.2.2⟩ ?_;clear hK K;try simp only [ap,aq,sa,sb,sc]
  have J11:Hid (Blk w11 w.heap.size 117 [pV gj]):=BALL.out _ _ _ (by simp) J9.out;have N11:Hid (Blk w11 bn 3 [iV (q:Int)]):=BALL.out _ _ _ (by simp) N9.out;have G11:Hid (Blk w11 gj 186 [pV gp,iZ,lv,iV (used:Int)]):=BALL.out _ _ _ (by simp) G9.out;have g2:=G11.out.cell 2;have g2f:=G11.out.frozen 2;have gl:=G11.out.lt
  have hgj:w.heap.size≠gj/\bn≠gj:= by
   have h1:=HJ.out.2.1.lt;have h2:=GBL.out;have h3:=GBN.out;omega
  have t12:(w11.setCell (Ad gj 2) (sL x2 0 (k+1) cap2)).cell? (Ad w.heap.size 0)=some (pV gj)/\(w11.setCell (Ad gj 2) (sL x2 0 (k+1) cap2)).cell? (Ad bn 0)=some (iV (q:Int)):=⟨(J11.out.setOther hgj.1 2 _).cell 0,(N11.out.setOther hgj.2 2 _).cell 0⟩;refine ycv (i:=13) (o:=⟨_,_,_,_,_,_⟩) kr rfl (fun K hK=>?_);go_simp;refine hK.out _ _ kd t12 ?_;clear hK K;try simp only [ap,aq,sa,sb,sc]
  obtain ⟨W12,hW12,G12,B12⟩:∃W,w11.setCell (Ad gj 2) (sL x2 0 (k+1) cap2)=W/\Hid (Blk W gj 186 [pV gp,iZ,sL x2 0 (k+1) cap2,iV (used:Int)])/\Hid (yab [gj] w11 W):=⟨_,rfl,G11.out.set 2 _,(yab.refl _ _).setCell (.inl (by simp)) _⟩
  with_reducible rw [hW12]
  rw [hW12] at t12;clear hW12 g2 g2f gl;have g3:=G12.out.cell 3;have g3f:=G12.out.frozen 3;have gl:=G12.out.lt;refine ycv (i:=14) (o:=⟨_,_,_,_,_,_⟩) kr rfl (fun K hK=>?_);go_simp;refine hK.out _ _ kd t12 ?_;clear hK K;try simp only [ap,aq,sa,sb,sc]
  refine ycv (i:=15) (o:=⟨_,_,_,_,_,_⟩) kr rfl (fun K hK=>?_);go_simp;refine hK.out _ _ kd t12 ?_;clear hK K;try simp only [ap,aq,sa,sb,sc]
  have t13:(W12.setCell (Ad gj 3) (iV (q:Int))).cell? (Ad w.heap.size 0)=some (pV gj)/\(W12.setCell (Ad gj 3) (iV (q:Int))).cell? (Ad bn 0)=some (iV (q:Int)):=⟨((J11.out.keep B12.out (by simp only [ms];exact hgj.1)).setOther hgj.1 3 _).cell 0,((N11.out.keep B12.out (by simp only [ms];exact hgj.2)).setOther hgj.2 3 _).cell 0⟩;refine ycv (i:=16) (o:=⟨_,_,_,_,_,_⟩) kr rfl (fun K hK=>?_);go_simp;refine hK.out _ _ kd t13 ?_;clear hK K;try simp only [ap,aq,sa,sb,sc]
  refine yql kr ?_ _;have R11:Hid (Blk w11 (w.heap.size+1) 29 [iZ]):=BALL.out _ _ _ (by simp) R9.out;obtain ⟨W13,hW13,G13,B13⟩:∃W,W12.setCell (Ad gj 3) (iV (q:Int))=W/\Hid (Blk W gj 186 [pV gp,iZ,sL x2 0 (k+1) cap2,iV (q:Int)])/\Hid (yab [gj] w11 W):=⟨_,rfl,G12.out.set 3 _,B12.out.setCell (.inl (by simp)) _⟩
  have hgr:w.heap.size+1≠gj:= by
   have h1:=HJ.out.2.1.lt;omega
  have R13:Hid (Blk W13 (w.heap.size+1) 29 [iZ]):=R11.out.keep B13.out (by simp only [ms];exact hgr);clear t12 t13 g3 g3f gl hs11 hs10 hsd htd
  with_reducible rw [hW13]
  clear hW13;have r0:=R13.out.cell 0;have rf:=R13.out.frozen 0;have rl:=R13.out.lt
  go_wp2_with fail
  have hk:yab [gj,w.heap.size+1] w11 (W13.setCell (Ad (w.heap.size+1) 0) (iZ)):=(B13.out.mono (fun x hx=>by simp only [ms] at hx;simp [hx])).setCell (.inl (by simp)) _;have hD:w11.heap[D]?=some (.deferred (some [])):=K11.out
  have hKD:(W13.setCell (Ad (w.heap.size+1) 0) (iZ)).heap[D]?=some (.deferred (some [])):=(hk.block D (Array.getElem?_eq_some_iff.1 hD).1 (fun hm=>by
   simp only [List.mem_cons,List.not_mem_nil,or_false] at hm;rcases hm with rfl | rfl
   ·have:=hD.symm.trans G11.out;cases this
   ·have:=hD.symm.trans R11.out;cases this)).trans hD
  refine ⟨by simp,.inl ⟨_,_,rfl,run_takeDeferred hKD,iZ,?_,?_⟩⟩
  ·have hf:((W13.setCell (Ad (w.heap.size+1) 0) (iZ)).putObj D (.deferred none)).cell? (Ad (w.heap.size+1) 0)=some (iZ):= by
    have:=((R13.out.set 0 (iZ)).keep (yj3 (F:=[D]) (D:=D) (yab.refl _ _) (.inl (by simp)) (.deferred none)) (by
     simp only [ms];rintro rfl;have:=hD.symm.trans R11.out;cases this)).cell 0
    simpa using this
   simp [results,Tryz.results58,go_sem,hf]
  ·exact yw2 HKW.out (yaa HB10.out _) HG2.out B13.out G13.out HOWN2.out (fun c hc=>by
    rcases List.mem_append.1 hc with h | h
    ·exact HL2.out c h
    ·simp only [ms] at h
     subst h
     rfl) (fun x e=>(HC2.out x e).imp id (fun h=>by have:=HB10.out.size;omega)) ⟨by have:=HD.out;have:=Z7.out;have:=GBC.out;have:=GBN.out;have:=GBL.out;omega,(Array.getElem?_eq_some_iff.1 K9.out).1⟩ HL3.out ⟨HJ.out.1,HJ.out.2.1.lt,by have:=HGJ.out;simp only [List.mem_cons,List.not_mem_nil,or_false] at this;omega,by have:=HGJ.out;simp only [List.mem_cons,List.not_mem_nil,or_false] at this;omega⟩ HGP.out HP9.out H5.out.2.2.2.2.2.1 (by rw [HQE.out,HXS.out])
end
theorem ykh {f cyc l:Int} (h:yb8 f cyc=(l,0)):1<=cyc/\cyc<=28 /\ -135140<=f/\f<=2932896/\l=ydd f cyc/\l<=2932896:= by
 have h0:(yb8 f cyc).2=0:=by rw [h]
 obtain ⟨_,h1,h2,h3,h4⟩:=yji h0;have h5:=ymu f cyc;rw [h] at h5;unfold yb8 at h;rw [if_neg om,if_neg om] at h
 split at h
 ·cases h
 ·simp only [Prod.mk.injEq,and_true] at h
  exact ⟨h3,h4,h1,h2,h.symm,h5⟩
theorem yxn {f cyc l:Int} (h:yb8 f cyc=(l,0)):f<=l/\l<=f+30:= by
 obtain ⟨h1,h2,h3,h4,h5,_⟩:=ykh h;have hD:=yc4 (n:=f) ⟨h3,h4⟩;have h6:=ydb (yc6 f).1 hD.hm;have h7:=hD.hd;subst h5;unfold ydd
 split <;> omega
theorem yow {f cyc l:Int} (h:yb8 f cyc=(l,0)) (hd:(yc6 f).2.2=cyc):f+27<=l:= by
 obtain ⟨h1,h2,h3,h4,h5,_⟩:=ykh h;have hD:=yc4 (n:=f) ⟨h3,h4⟩;have h6:=ydb (yc6 f).1 hD.hm;subst h5;unfold ydd;rw [if_pos om];omega
theorem yt3 {f cyc l:Int} (h:yb8 f cyc=(l,0)) (hl:l+1<=2932896):(yc6 (l+1)).2.2=cyc:= by
 obtain ⟨h1,h2,h3,h4,h5,_⟩:=ykh h;have hD:=yc4 (n:=f) ⟨h3,h4⟩;obtain ⟨y,m,d,hyd⟩:∃y m d,yc6 f=(y,m,d):=⟨_,_,_,rfl⟩;unfold ydd at h5;rw [hyd] at hD h5;simp only at hD h5;have hm28:=ydb y hD.hm;have hy:=hD.hy;have hm:=hD.hm;have hd:=hD.hd;have hn:=hD.hn;have fin:∀y' m',yhn (l+1) y' m' cyc->(yc6 (l+1)).2.2=cyc:=fun y' m' k=>by rw [ytr k]
 by_cases hw:f-d+cyc-1<f
 ·rw [if_pos hw] at h5
  obtain ⟨k,hk⟩:∃k:Nat,(m-1).toNat=k:=⟨_,rfl⟩;have hk2:((k+1:Nat):Int)=m:=by omega
  have h9:sumM y (k+1)=sumM y k+lenM y m:= by
   show sumM y k+lenM y _=_;rw [hk2]
  rw [hk] at hn
  by_cases h12:m=12
  ·have hk11:k=11:=by omega
   subst hk11;have hs:=ym1 y;have h9':sumM y 12=sumM y 11+lenM y m:=h9;have hy1:=yhy (y-1600);have e2:1600+(y-1600)=y:=by omega
   rw [e2] at hy1;obtain ⟨q,hq⟩:∃q:Int,(if yk4 y=true then (1:Int) else 0)=q:=⟨_,rfl⟩;rw [hq] at hs hy1;have e3:y-1600+1=(y+1)-1600:=by omega
   rw [e3] at hy1;have hlast:newY (8400:Int)=2932897:=by decide
   have hyy:y<9999:= by
    by_cases h:y<9999
    ·exact h
    ·have hyq:y+1-1600=8400:=by omega
     rw [hyq,hlast] at hy1;omega
   have h28:=ydb (y+1) (m:=1) om;refine fin (y+1) 1 ⟨by omega,by omega,by omega,?_⟩;rw [hy1];show _=_+sumM (y+1) 0+cyc-1;have hs0:sumM (y+1) 0=0:=rfl;rw [hs0];omega
  ·have h28:=ydb y (m:=m+1) om
   refine fin y (m+1) ⟨hy,by omega,by omega,?_⟩;have e4:(m+1-1).toNat=k+1:=by omega
   rw [e4,h9];omega
 ·rw [if_neg hw] at h5
  exact fin y m ⟨hy,hm,by omega,by omega⟩
theorem yj2 {cyc day:Int} (k:Nat):∀{f:Int} {ps:List (Int×Int)} {b:Bool},ybd cyc day k f=(ps,b) ->
 (∀i,i<ps.length->(ps.getD i (0,0)).2<=(ps.getD i (0,0)).1+30)/\(∀i,1<=i\/(yc6 f).2.2=cyc->i<ps.length->(ps.getD i (0,0)).1+27<=(ps.getD i (0,0)).2):= by
 induction k with
 | zero =>
  intro f ps b h;simp only [ybd,Prod.mk.injEq] at h;obtain ⟨rfl,_⟩:=h;exact ⟨fun i hi=>absurd hi (by simp),fun i _ hi=>absurd hi (by simp)⟩
 | succ k ih =>
  intro f ps b h
  by_cases h0:(yb8 f cyc).2=0
  ·obtain ⟨l,hl⟩:∃l,yb8 f cyc=(l,0):=⟨(yb8 f cyc).1,by rw [<-h0]⟩
   have hlen:=yxn hl
   by_cases h1:l<day/\k≠0
   ·rw [ye0 hl h1.1 h1.2] at h
    cases hs:ybd cyc day k (l+1) with
    | mk qs b' =>
     rw [hs] at h;simp only [Prod.mk.injEq] at h;obtain ⟨rfl,rfl⟩:=h;obtain ⟨c1,c2⟩:=ih hs;refine ⟨fun i hi=>?_,fun i ho hi=>?_⟩
     ·cases i with
      | zero=>simp only [List.getD_cons_zero];exact hlen.2
      | succ i=>simp only [List.getD_cons_succ];exact c1 i (by simpa using hi)
     ·cases i with
      | zero =>
       simp only [List.getD_cons_zero];rcases ho with ho | ho
       ·omega
       ·exact yow hl ho
      | succ i =>
       simp only [List.getD_cons_succ];have hi':i<qs.length:=by simpa using hi
       refine c2 i (.inr ?_) hi'
       by_cases hr:l+1<=2932896
       ·exact yt3 hl hr
       ·exfalso
        cases k with
        | zero=>exact h1.2 rfl
        | succ k =>
         have hbad:(yb8 (l+1) cyc).2≠0:=fun hz=>by
          have:=(yji hz).2.2.1;omega
         rw [ye3 hbad] at hs;simp only [Prod.mk.injEq] at hs;rw [<-hs.1] at hi';simp at hi'
   ·rw [yez hl h1] at h
    simp only [Prod.mk.injEq] at h;obtain ⟨rfl,_⟩:=h;refine ⟨fun i hi=>?_,fun i ho hi=>?_⟩
    ·obtain rfl:i=0:=by simpa using hi
     exact hlen.2
    ·obtain rfl:i=0:=by simpa using hi
     simp only [List.getD_cons_zero];rcases ho with ho | ho
     ·omega
     ·exact yow hl ho
  ·rw [ye3 h0] at h
   simp only [Prod.mk.injEq] at h;obtain ⟨rfl,_⟩:=h;exact ⟨fun i hi=>absurd hi (by simp),fun i _ hi=>absurd hi (by simp)⟩
end Go.Proofs.YtkongpjpkpfniaaGreat

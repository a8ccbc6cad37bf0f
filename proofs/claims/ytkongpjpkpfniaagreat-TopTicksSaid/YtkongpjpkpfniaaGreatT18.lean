/- TopTicks: parts of the proof, made small by a program (mini.py). -/
import Derived.Test.YtkongpjpkpfniaaGreatT01
import Derived.Test.YtkongpjpkpfniaaGreatT10
import Derived.Test.YtkongpjpkpfniaaGreatT13
import Derived.Test.YtkongpjpkpfniaaGreatT15
import Derived.Test.YtkongpjpkpfniaaGreatT17
set_option linter.unusedVariables false
set_option linter.unusedSimpArgs false
set_option maxRecDepth 100000
set_option maxHeartbeats 6400000
namespace Go.Proofs.YtkongpjpkpfniaaGreat
open Go.RowKit
theorem zq180ea9 {q:Prop} (h:q:= by
 simp only [List.getD,List.getElem?_set]
 by_cases e:i=j
 ·subst e
  by_cases h:i<l.length
  ·simp [h]
  ·simp [h]
 ·simp [e]):q:=h
theorem zq184e01 {q:Prop} (h:q:= by
 rcases List.mem_append.1 hx with hx | hx
 ·have hx':=Option.mem_toList.1 hx
  exact ⟨(hO.lt x hx').1,(hO.lt x hx').2⟩
 ·exact ⟨(h.lt x hx).1,Nat.lt_of_lt_of_le (h.lt x hx).2 hK.size⟩):q:=h
theorem yx2:(Tryz.prog.info? 33).map (fun i=>(i.zero,i.size,i.bytes))=some (some (sZ),1,24):=by kernel_rfl
theorem yv1 (n:Nat) (hn:n<=1000) (w:World):(Instr.makeSlice 107 (iV (n:Int)) (iV (n:Int))).run Tryz.prog w=.ok (sL w.heap.size 0 n n) (w.alloc (.cells (List.replicate n (sZ)).toArray 33)):= by
 obtain ⟨i0,hi,hz0,hz1,hz2⟩:=info_parts yx2;have h:=run_make (P:=Tryz.prog) w 107 33 i0 (sZ) Tryz.underlying107 hi hz0 .i64 .i64 n n om (Int.le_refl _) (by rw [hz2];omega) om;rw [h]
 have e:madeCells (sZ).cells ((n:Int).toNat*i0.size)=(List.replicate n (sZ)).toArray:= by
  rw [hz1,Nat.mul_one,Int.toNat_natCast];exact Array.ext' (by rw [show (sZ).cells=#[sZ] from rfl,toList_madeCells_one])
 rw [e];simp
theorem yng (g:Nat) (t:Tm) (tv lv:Value) (k:Nat) (day:Int) (pv:Value) (p:Ps) (rv xv yv ov:Value) (n:Nat) (hn:t.ts.length=n) (h1:n<=1000) (w:World) (hb:Blk w g 181 (yc9 t tv lv k day pv p rv xv yv ov)) (ht:TrS w tv t.ts) :
 Calls Tryz.prog 89 #[pV g] w (fun e w'=>e=.returned (.tuple #[])/\∃bx bz,Blk w' g 181 (yc9 t tv lv k day pv p rv (sL bx 0 n n) (sL bz 0 n n) ov)/\Blk w' bx 33 (List.replicate n (sZ))/\Blk w' bz 33 (List.replicate n (sZ))/\bx≠bz/\w.heap.size<=bx/\w.heap.size<=bz/\yab [g] w w'):= by
 obtain ⟨lim,ts,cyc,dued,minf,minp,start⟩:=t;simp only at hn ht;subst hn;obtain ⟨tao,tc,rfl⟩:=ht.shape;have HB:=lh hb;unfold yc9 at HB;have kg:=HB.out.lt;obtain ⟨c1,c14,c15,-⟩:=HB.out.cs [1,14,15];simp only [gz,gs] at c1 c14 c15;obtain ⟨cf14,cf15,-⟩:=HB.out.fs [14,15];have hlen:=ht.fl.len.2;unfold maxLen at hlen;obtain ⟨hlc,hcm,_⟩:=hlen;have hmk:=yv1 ts.length h1;clear hb ht
 go_enter Tryz.func89,Tryz.ntmps89
 go_upto_region 1 with fail
 go_region
 all_goals
  go_wp2
  go_end0
  first
   | refine ⟨rfl,w.heap.size,w.heap.size+1,((HB.out.set 14 _).set 15 _).below (yaf (yaa (yaa bR _) _)),Blk.below (yae _ (List.replicate ts.length (sZ)) _ _ (by simp only [World.size_setCell])) (yaf (yaa bR _)),Blk.below (yae _ (List.replicate ts.length (sZ)) _ _ (by simp only [World.size_alloc,World.size_setCell])) (yaf bR),by omega,Nat.le_refl _,by omega,?_⟩;exact ((((((yab.refl [g] w).setCell (.inl (by simp)) _).setCell (.inl (by simp)) _).alloc _).alloc _).drew)
   | refine ⟨rfl,w.heap.size+1,w.heap.size,((HB.out.set 14 _).set 15 _).below (yaf (yaa (yaa bR _) _)),Blk.below (yae _ (List.replicate ts.length (sZ)) _ _ (by simp only [World.size_alloc,World.size_setCell])) (yaf bR),Blk.below (yae _ (List.replicate ts.length (sZ)) _ _ (by simp only [World.size_setCell])) (yaf (yaa bR _)),by omega,by omega,Nat.le_refl _,?_⟩;exact ((((((yab.refl [g] w).setCell (.inl (by simp)) _).setCell (.inl (by simp)) _).alloc _).alloc _).drew)
theorem ydx (l:List Value) (i j:Nat) (a d:Value):(l.set i a).getD j d=if i=j/\j<l.length then a else l.getD j d:= by
 exact zq180ea9
theorem yhz (l:List (List Int)) (i j:Nat) (a:List Int):(l.set i a).getD j []=if i=j/\j<l.length then a else l.getD j []:= by
 exact zq180ea9
theorem yfe {W:World} {lo lo' m m' n n':Nat} {e e':TypeId} {v v':Value} {cs cs':List Value} (h:W.ownsRow lo e m v n cs) (k:W.ownsRow lo' e' m' v' n' cs') (hne:e≠e') {q:Nat} (h1:v.ownBlock=some q) (h2:v'.ownBlock=some q):False:= by
 rcases h.2 with ⟨rfl,_⟩ | ⟨a,c1,r1,rfl,_,ha,_⟩
 ·cases h1
 rcases k.2 with ⟨rfl,_⟩ | ⟨b,c2,r2,rfl,_,hb,_⟩
 ·cases h2
 cases h1;cases h2;rw [ha] at hb;simp only [Option.some.injEq,Obj.cells.injEq] at hb;exact hne hb.2.1
theorem ydg.own_lt {F:List Nat} {W:World} {lo:Nat} {v:Value} {X:List (List Int)} {b:Nat} {xs:List Value} (h:ydg F W lo v X b xs) {i q:Nat} (hq:(xs.getD i (sZ)).ownBlock=some q):q<W.heap.size:= by
 by_cases hi:i<X.length
 ·exact ((h.rows i hi).lt q hq).2
 ·rw [show xs.getD i (sZ)=sZ by simp [List.getD,show ¬i<xs.length by rw [h.len];exact hi]] at hq
  cases hq
theorem yb2.rowX {lo g:Nat} {t:Tm} {l:List R5} {day:Int} {s:RS} {F:List Nat} {W W':World} {V:RV} (h:yb2 lo g t l day s F W V) {k:Nat} (hk:k<s.X.length) {v':Value} {y:List Int}
 (hK:yab (V.bx::(V.xs.getD k (sZ)).ownBlock.toList) W W') (hB:Blk W' V.bx 33 (V.xs.set k v')) (hO:W'.ownsRow lo 2 1 v' y.length (y.map (Value.int .i64)))
 (hv:v'.ownBlock=(V.xs.getD k (sZ)).ownBlock\/∃q,v'.ownBlock=some q/\W.heap.size<=q) :
 yb2 lo g t l day { s with X:=s.X.set k y } (v'.ownBlock.toList++F) W' { V with xs:=V.xs.set k v' }/\Stp F W (v'.ownBlock.toList++F) W':= by
 have hKF:∀x∈(V.bx::(V.xs.getD k (sZ)).ownBlock.toList),x∈F:=fun x hx=>by
  rcases List.mem_cons.1 hx with rfl | hx
  ·exact h.X.bF
  ·exact h.X.inF k hk x (Option.mem_toList.1 hx)
 have hst:Stp F W (v'.ownBlock.toList++F) W':=⟨hK.mono hKF,fun x hx=>by
  rcases List.mem_append.1 hx with hx | hx
  ·have hx':=Option.mem_toList.1 hx
   rcases hv with hv | ⟨z,hv,hz⟩
   ·exact .inl (h.X.inF k hk x (hv▸hx'))
   ·rw [hv] at hx';cases hx';exact .inr hz
  ·exact .inl hx⟩
 have hng:g∉(V.bx::(V.xs.getD k (sZ)).ownBlock.toList):=fun hm=>by
  rcases List.mem_cons.1 hm with e | hm
  ·exact ybs h.blk h.X.blk (by decide) e
  ·exact yaj (h.X.rows k hk) h.blk (by decide) (Option.mem_toList.1 hm).symm
 refine ⟨⟨h.blk.keep hK hng,List.mem_append.2 (.inr h.gF),fun x hx=>?_,hst.rd h.rd,?_,?_,h.ne,?_,?_,?_,?_,fun q hq=>List.mem_append.2 (.inr (h.outF q hq)),h.hi⟩,hst⟩
 ·exact zq184e01
 ·refine ⟨by rw [List.length_set];exact h.X.val,hB,by rw [List.length_set,List.length_set];exact h.X.len,fun j hj=>?_,List.mem_append.2 (.inr h.X.bF),fun j hj q hq=>?_⟩
  ·rw [List.length_set] at hj
   rw [ydx,yhz,h.X.len]
   by_cases e:k=j
   ·rw [if_pos ⟨e,hj⟩,if_pos ⟨e,hj⟩];exact hO
   ·rw [if_neg (fun c=>e c.1),if_neg (fun c=>e c.1)]
    refine yap (h.X.rows j hj) hK (fun q hq hm=>?_);rcases List.mem_cons.1 hm with e' | hm
    ·subst e';exact yaj (h.X.rows j hj) h.X.blk (by decide) hq.symm
    ·exact h.dx j k (fun c=>e c.symm) q hq (Option.mem_toList.1 hm)
  ·rw [List.length_set] at hj
   rw [ydx,h.X.len] at hq
   split at hq
   ·exact List.mem_append.2 (.inl (Option.mem_toList.2 hq))
   ·exact List.mem_append.2 (.inr (h.X.inF j hj q hq))
 ·refine ⟨h.Y.val,h.Y.blk.keep hK (fun hm=>?_),h.Y.len,fun j hj=>yap (h.Y.rows j hj) hK (fun q hq hm=>?_),List.mem_append.2 (.inr h.Y.bF),fun j hj q hq=>List.mem_append.2 (.inr (h.Y.inF j hj q hq))⟩
  ·rcases List.mem_cons.1 hm with e | hm
   ·exact h.ne e.symm
   ·exact yaj (h.X.rows k hk) h.Y.blk (by decide) (Option.mem_toList.1 hm).symm
  ·rcases List.mem_cons.1 hm with e | hm
   ·subst e;exact yaj (h.Y.rows j hj) h.X.blk (by decide) hq.symm
   ·exact (fun q hq hm=>h.dxy k _ q hm hq) q hq (Option.mem_toList.1 hm)
 ·intro i j hij q h1 h2
  rw [ydx] at h1 h2
  split at h1
  ·rename_i c1
   rw [if_neg (fun c=>hij (c1.1.symm.trans c.1))] at h2;rcases hv with hv | ⟨z,hv,hz⟩
   ·exact h.dx k j (fun e=>hij (c1.1.symm.trans e)) q (hv▸h1) h2
   ·have h3:=h.X.own_lt h2
    rw [hv] at h1;cases h1;omega
  ·split at h2
   ·rename_i c2
    rcases hv with hv | ⟨z,hv,hz⟩
    ·exact h.dx i k (fun e=>hij (e.trans c2.1)) q h1 (hv▸h2)
    ·have h3:=h.X.own_lt h1
     rw [hv] at h2;cases h2;omega
   ·exact h.dx i j hij q h1 h2
 ·exact h.dy
 ·exact fun i j q h1=>by
   rw [ydx] at h1
   split at h1
   ·rcases hv with hv | ⟨z,hv,hz⟩
    ·exact h.dxy k j q (hv▸h1)
    ·intro h2
     have h3:=h.Y.own_lt h2;rw [hv] at h1;cases h1;omega
   ·exact h.dxy i j q h1
 ·refine yap h.out hK (fun q hq hm=>?_)
  rcases List.mem_cons.1 hm with e | hm
  ·subst e;exact yaj h.out h.X.blk (by decide) hq.symm
  ·exact yfe h.out (h.X.rows k hk) (by decide) hq (Option.mem_toList.1 hm)
theorem yb2.rowY {lo g:Nat} {t:Tm} {l:List R5} {day:Int} {s:RS} {F:List Nat} {W W':World} {V:RV} (h:yb2 lo g t l day s F W V) {k:Nat} (hk:k<s.Y.length) {v':Value} {y:List Int}
 (hK:yab (V.bz::(V.ys.getD k (sZ)).ownBlock.toList) W W') (hB:Blk W' V.bz 33 (V.ys.set k v')) (hO:W'.ownsRow lo 2 1 v' y.length (y.map (Value.int .i64)))
 (hv:v'.ownBlock=(V.ys.getD k (sZ)).ownBlock\/∃q,v'.ownBlock=some q/\W.heap.size<=q) :
 yb2 lo g t l day { s with Y:=s.Y.set k y } (v'.ownBlock.toList++F) W' { V with ys:=V.ys.set k v' }/\Stp F W (v'.ownBlock.toList++F) W':= by
 have hKF:∀x∈(V.bz::(V.ys.getD k (sZ)).ownBlock.toList),x∈F:=fun x hx=>by
  rcases List.mem_cons.1 hx with rfl | hx
  ·exact h.Y.bF
  ·exact h.Y.inF k hk x (Option.mem_toList.1 hx)
 have hst:Stp F W (v'.ownBlock.toList++F) W':=⟨hK.mono hKF,fun x hx=>by
  rcases List.mem_append.1 hx with hx | hx
  ·have hx':=Option.mem_toList.1 hx
   rcases hv with hv | ⟨z,hv,hz⟩
   ·exact .inl (h.Y.inF k hk x (hv▸hx'))
   ·rw [hv] at hx';cases hx';exact .inr hz
  ·exact .inl hx⟩
 have hng:g∉(V.bz::(V.ys.getD k (sZ)).ownBlock.toList):=fun hm=>by
  rcases List.mem_cons.1 hm with e | hm
  ·exact ybs h.blk h.Y.blk (by decide) e
  ·exact yaj (h.Y.rows k hk) h.blk (by decide) (Option.mem_toList.1 hm).symm
 refine ⟨⟨h.blk.keep hK hng,List.mem_append.2 (.inr h.gF),fun x hx=>?_,hst.rd h.rd,?_,?_,h.ne,?_,?_,?_,?_,fun q hq=>List.mem_append.2 (.inr (h.outF q hq)),h.hi⟩,hst⟩
 ·exact zq184e01
 ·refine ⟨h.X.val,h.X.blk.keep hK (fun hm=>?_),h.X.len,fun j hj=>yap (h.X.rows j hj) hK (fun q hq hm=>?_),List.mem_append.2 (.inr h.X.bF),fun j hj q hq=>List.mem_append.2 (.inr (h.X.inF j hj q hq))⟩
  ·rcases List.mem_cons.1 hm with e | hm
   ·exact h.ne e
   ·exact yaj (h.Y.rows k hk) h.X.blk (by decide) (Option.mem_toList.1 hm).symm
  ·rcases List.mem_cons.1 hm with e | hm
   ·subst e;exact yaj (h.X.rows j hj) h.Y.blk (by decide) hq.symm
   ·exact (fun q hq hm=>h.dxy _ k q hq hm) q hq (Option.mem_toList.1 hm)
 ·refine ⟨by rw [List.length_set];exact h.Y.val,hB,by rw [List.length_set,List.length_set];exact h.Y.len,fun j hj=>?_,List.mem_append.2 (.inr h.Y.bF),fun j hj q hq=>?_⟩
  ·rw [List.length_set] at hj
   rw [ydx,yhz,h.Y.len]
   by_cases e:k=j
   ·rw [if_pos ⟨e,hj⟩,if_pos ⟨e,hj⟩];exact hO
   ·rw [if_neg (fun c=>e c.1),if_neg (fun c=>e c.1)]
    refine yap (h.Y.rows j hj) hK (fun q hq hm=>?_);rcases List.mem_cons.1 hm with e' | hm
    ·subst e';exact yaj (h.Y.rows j hj) h.Y.blk (by decide) hq.symm
    ·exact h.dy j k (fun c=>e c.symm) q hq (Option.mem_toList.1 hm)
  ·rw [List.length_set] at hj
   rw [ydx,h.Y.len] at hq
   split at hq
   ·exact List.mem_append.2 (.inl (Option.mem_toList.2 hq))
   ·exact List.mem_append.2 (.inr (h.Y.inF j hj q hq))
 ·exact h.dx
 ·intro i j hij q h1 h2
  rw [ydx] at h1 h2
  split at h1
  ·rename_i c1
   rw [if_neg (fun c=>hij (c1.1.symm.trans c.1))] at h2;rcases hv with hv | ⟨z,hv,hz⟩
   ·exact h.dy k j (fun e=>hij (c1.1.symm.trans e)) q (hv▸h1) h2
   ·have h3:=h.Y.own_lt h2
    rw [hv] at h1;cases h1;omega
  ·split at h2
   ·rename_i c2
    rcases hv with hv | ⟨z,hv,hz⟩
    ·exact h.dy i k (fun e=>hij (e.trans c2.1)) q h1 (hv▸h2)
    ·have h3:=h.Y.own_lt h1
     rw [hv] at h2;cases h2;omega
   ·exact h.dy i j hij q h1 h2
 ·exact fun i j q h1 h2=>by
   rw [ydx] at h2
   split at h2
   ·rcases hv with hv | ⟨z,hv,hz⟩
    ·exact h.dxy i k q h1 (hv▸h2)
    ·have h3:=h.X.own_lt h1
     rw [hv] at h2;cases h2;omega
   ·exact h.dxy i j q h1 h2
 ·refine yap h.out hK (fun q hq hm=>?_)
  rcases List.mem_cons.1 hm with e | hm
  ·subst e;exact yaj h.out h.Y.blk (by decide) hq.symm
  ·exact yfe h.out (h.Y.rows k hk) (by decide) hq (Option.mem_toList.1 hm)
def endK (X:List (List Int)) (v:List Int) (k:Nat):List (List Int):=(List.range X.length).map fun i=>if i<k then X.getD i []++[v.getD i 0] else X.getD i []
theorem yeq (X:List (List Int)) (v:List Int) (k:Nat):(endK X v k).length=X.length:=by simp [endK]
theorem yhh (X:List (List Int)) (v:List Int) (k i:Nat) (hi:i<X.length):(endK X v k).getD i []=if i<k then X.getD i []++[v.getD i 0] else X.getD i []:=by simp [endK,List.getD,hi]
theorem yrp {X Y:List (List Int)} (h:X.length=Y.length) (hg:∀i,i<X.length->X.getD i []=Y.getD i []):X=Y:= by
 refine List.ext_getElem h fun i h1 h2=>?_;have:=hg i h1
 simpa [List.getD,h1,h2] using this
theorem yog (X:List (List Int)) (v:List Int):endK X v 0=X:=yrp (yeq _ _ _) (fun i hi=>by rw [yhh _ _ _ _ (by rw [yeq] at hi;exact hi),if_neg om])
theorem yrn (X:List (List Int)) (v:List Int):endK X v X.length=ye8 X v:= by
 unfold endK ye8;refine List.map_congr_left fun i hi=>?_;rw [if_pos (List.mem_range.1 hi)]
theorem yoe (X:List (List Int)) (v:List Int) (k:Nat) (hk:k<X.length):(endK X v k).set k (X.getD k []++[v.getD k 0])=endK X v (k+1):= by
 refine yrp (by rw [List.length_set,yeq,yeq]) (fun i hi=>?_);rw [List.length_set,yeq] at hi;rw [yhz,yeq,yhh _ _ _ _ hi,yhh _ _ _ _ hi]
 by_cases e:k=i
 ·subst e;rw [if_pos ⟨rfl,hi⟩,if_pos om]
 ·rw [if_neg (fun c=>e c.1)]
  by_cases h:i<k
  ·rw [if_pos h,if_pos om]
  ·rw [if_neg h,if_neg om]
section
theorem yx8 (w:World):(binOp BinOp.neq 130 Value.nilFunc Value.nilFunc).run Tryz.prog w=.ok (.bool false) w:=by kernel_rfl
attribute [local go_sem] yx8
theorem ycs {P:Program} {w:World} {ops:Array Oper} {o:Oper} {a:Act} {K:Act->World->Prop} {Q:Exit->Act->World->Prop} {E:Prop} (hgd:o.guard=none) (s x:Operand) (t:TypeId)
 (ho:o.op=.call { callee:=.builtin .append,args:=#[s,x],argTypes:=#[t,t] })
 (base:Nat) (e:TypeId) (i:TypeInfo) (z:Value) (size bytes:Nat) (ht:P.underlying t=some (.slice e)) (hi:P.info? e=some i) (hz:i.zero=some z)
 (hsize:i.size=size) (hby:i.bytes=bytes) (hzs:z.cells.size=size) (hsz:0<size)
 (v:Value) (n:Nat) (xs:List Value) (hs:a.eval s=v) (hown:w.ownsRow base e size v n xs)
 (ad:Addr) (m c:Nat) (news:List Value) (hx:a.eval x=.slice (some ad) m c) (hl:news.length=m*size) (hnews:∀j u,news[j]?=some u->w.cell? (ad.add j)=some u) (h1:∀u∈news,u.oneCell'=true)
 (h63:n+m<=maxLen) (hbytes:(n+m)*bytes<=140737488355328) (hbase:base<=w.heap.size)
 (h:∀v' w',w'.ownsRow base e size v' (n+m) (xs++news)->w.grownBy w' v.ownBlock->(v'.ownBlock=v.ownBlock\/v'.ownBlock=some w.heap.size)->K (a.put o.dst v') w') :
 if Region.wanted o (yielded ops a.tmps)=true then Oper.wp P o a w K Q else E:= by
 have hw:Region.wanted o (yielded ops a.tmps)=true:=by simp [Region.wanted,hgd]
 rw [if_pos hw];exact yee w s x t ho base e i z size bytes ht hi hz hsize hby hzs hsz v n xs hs hown ad m c news hx hl hnews h1 h63 hbytes hbase h
theorem yly (w:World) (cs:List Value) (t:TypeId):∀j u,cs[j]?=some u->(w.alloc (.cells cs.toArray t)).cell? (((Ad w.heap.size 0):Addr).add j)=some u:= by
 intro j u hu;have h:Blk (w.alloc (.cells cs.toArray t)) w.heap.size t cs:=heap_alloc_new w _;rw [Addr.add_lit,h.cell,Nat.zero_add];exact hu
theorem ygg (w:World) (cs:List Value) (t:TypeId):∀j u,cs[j]?=some u->(w.alloc (.cells cs.toArray t)).drew.cell? (((Ad w.heap.size 0):Addr).add j)=some u:=yly w cs t
theorem yb2.lookX {lo g:Nat} {t:Tm} {l:List R5} {day:Int} {s:RS} {F:List Nat} {W:World} {V:RV} (h:yb2 lo g t l day s F W V) {n k:Nat} (hX:s.X.length=n) (hb:s.p.bs.length=n) (hk:k<n) :
 ∃ro rc pc q f z,V.xv=sL V.bx 0 n n/\V.pv=sL q f n pc/\V.xs.getD k (sZ)=.slice ro (s.X.getD k []).length rc/\W.cell? (Ad V.bx k)=some (.slice ro (s.X.getD k []).length rc)/\W.frozen? (Ad V.bx k)=false/\W.cell? (Ad q (f+k))=some (iV z)/\s.p.bs.getD k 0=z/\W.ownsRow lo 2 1 (.slice ro (s.X.getD k []).length rc) (s.X.getD k []).length ((s.X.getD k []).map (Value.int .i64)):= by
 subst hX;have ho:=h.X.rows k hk;obtain ⟨ro,rc,he⟩:=(Sl.of_own ho rfl).shape;obtain ⟨po,pc,hp⟩:=(h.rd.now.2.2.1).shape;have hs:=h.rd.now.2.2.1;rw [hp] at hs;obtain ⟨q,f,z,hq,hz,hzz⟩:=hs.get (i:=k) om;refine ⟨ro,rc,pc,q,f,z,h.X.val,by rw [hp,hq,hb],he,?_,h.X.blk.frozen k,hz,hzz,he▸ho⟩;rw [h.X.blk.cell,<-he];simp [List.getD,show k<V.xs.length by rw [h.X.len];exact hk]
theorem yb2.lookY {lo g:Nat} {t:Tm} {l:List R5} {day:Int} {s:RS} {F:List Nat} {W:World} {V:RV} (h:yb2 lo g t l day s F W V) {n k:Nat} (hX:s.Y.length=n) (hb:s.rs.length=n) (hk:k<n) :
 ∃ro rc pc q f z,V.yv=sL V.bz 0 n n/\V.rv=sL q f n pc/\V.ys.getD k (sZ)=.slice ro (s.Y.getD k []).length rc/\W.cell? (Ad V.bz k)=some (.slice ro (s.Y.getD k []).length rc)/\W.frozen? (Ad V.bz k)=false/\W.cell? (Ad q (f+k))=some (iV z)/\s.rs.getD k 0=z/\W.ownsRow lo 2 1 (.slice ro (s.Y.getD k []).length rc) (s.Y.getD k []).length ((s.Y.getD k []).map (Value.int .i64)):= by
 subst hX;have ho:=h.Y.rows k hk;obtain ⟨ro,rc,he⟩:=(Sl.of_own ho rfl).shape;obtain ⟨po,pc,hp⟩:=(h.rd.now.2.2.2.1).shape;have hs:=h.rd.now.2.2.2.1;rw [hp] at hs;obtain ⟨q,f,z,hq,hz,hzz⟩:=hs.get (i:=k) om;refine ⟨ro,rc,pc,q,f,z,h.Y.val,by rw [hp,hq,hb],he,?_,h.Y.blk.frozen k,hz,hzz,he▸ho⟩;rw [h.Y.blk.cell,<-he];simp [List.getD,show k<V.ys.length by rw [h.Y.len];exact hk]
def yv7 (v:Value) (lo g:Nat) (t:Tm) (l:List R5) (day:Int) (s:RS) (F:List Nat) (w:World) (e:Ending) (w':World):Prop:=e=.returned v/\∃F' V',yb2 lo g t l day s F' w' V'/\Stp F w F' w'
theorem yym (lo g:Nat) (t:Tm) (l:List R5) (day:Int) (s:RS) (F:List Nat) (V:RV) (n:Nat) (hXl:s.X.length=n) (hYl:s.Y.length=n) (hbl:s.p.bs.length=n) (hrl:s.rs.length=n) (hn:n<=1000) (HLX:Hid (∀k,k<n->(s.X.getD k []).length<=10000000)) (HLY:Hid (∀k,k<n->(s.Y.getD k []).length<=10000000)) (w:World) (h:yb2 lo g t l day s F w V) :
 Calls Tryz.prog 91 #[pV g] w (yv7 (.tuple #[]) lo g t l day (ydh s) F w):= by
 have H0:=lh h;have HL:=lh (And.intro hXl (And.intro hYl (And.intro hbl (And.intro hrl hn))));have c0:w.cell? (Ad g 13)=some V.rv:=h.blk.cell 13;have kg:=h.blk.lt
 obtain ⟨rvo,rvc,hrv⟩:∃ao cap,V.rv=.slice ao n cap:= by
  have:=(h.rd.now.2.2.2.1).shape;rw [hrl] at this;exact this
 rw [hrv] at c0;clear h hXl hYl hbl hrl hrv;obtain ⟨i0,hi,hz0,hz1,hz2⟩:=info_parts yfa
 go_enter Tryz.func91,Tryz.ntmps91
 go_wp2_with fail
 clear c0 kg;go_loopg [8] n (fun gg i wr=>∃k:Nat,k+gg=n/\i=iV k/\∃F' V',Hid (yb2 lo g t l day { s with X:=endK s.X s.p.bs k,Y:=endK s.Y s.rs k } F' wr V')/\Hid (Stp F w F' wr))
 case atStart=>exact ⟨0,by omega,rfl,F,V,by rw [yog,yog];exact H0,Stp.refl _ _⟩
 case round =>
  obtain ⟨k,hkg,rfl,F',V',HX,HST⟩:=hrel;have HKG:=lh hkg;have hn:=HL.out.2.2.2.2;cases gk with
  | zero =>
   have hlt:¬((k:Int)<(n:Int)):=by omega
   obtain rfl:k=n:=by omega
   have cw:=HX.out.blk.cell 18;have kg:=HX.out.blk.lt;simp only [yc9,List.getElem?_cons_zero,List.getElem?_cons_succ] at cw;clear hkg
   go_wp2_with fail
   go_end0
   refine ⟨rfl,F',V',?_,HST.out⟩;have e:=HX.out;rw [show endK s.X s.p.bs k=ye8 s.X s.p.bs by rw [<-HL.out.1];exact yrn _ _,show endK s.Y s.rs k=ye8 s.Y s.rs by rw [<-HL.out.2.1];exact yrn _ _] at e;exact e
  | succ gg =>
   have hlt:(k:Int)<(n:Int):=by omega
   have hk0:(0:Int)<=(k:Int):=by omega
   have HKN:Hid (k<n):=by show k<n;omega
   obtain ⟨tv,lv,pv,rv,xv,yv,ov,bx,bz,xs,ys,vs⟩:=V';obtain ⟨sX,hsX⟩:∃sX:RS,{ s with X:=endK s.X s.p.bs k,Y:=endK s.Y s.rs k }=sX:=⟨_,rfl⟩;have HSX:=lh hsX;rw [hsX] at HX;have HXLX:Hid (sX.X.length=n):=by rw [<-hsX];show (endK _ _ _).length=n;rw [yeq];exact HL.out.1
   have HYLX:Hid (sX.Y.length=n):=by rw [<-hsX];show (endK _ _ _).length=n;rw [yeq];exact HL.out.2.1
   have HBLX:Hid (sX.p.bs.length=n):=by rw [<-hsX];exact HL.out.2.2.1
   have HRLX0:Hid (sX.rs.length=n):=by rw [<-hsX];exact HL.out.2.2.2.1
   have HGX:Hid (sX.X.getD k []=s.X.getD k []):=by rw [<-hsX];show (endK _ _ _).getD k []=_;rw [yhh _ _ _ _ (by rw [HL.out.1];exact HKN.out),if_neg om]
   have HGY:Hid (sX.Y.getD k []=s.Y.getD k []):=by rw [<-hsX];show (endK _ _ _).getD k []=_;rw [yhh _ _ _ _ (by rw [HL.out.2.1];exact HKN.out),if_neg om]
   clear hsX hkg;have hkX:=HKN.out;have HRLX:Hid ((s.X.getD k []).length<=10000000):=HLX.out k HKN.out;obtain ⟨roX,rcX,pcX,qX,fX,zX,e1,e2,HEX,HCX,fzX,HZX,HZZX,HOX⟩:=HX.out.lookX (n:=n) (k:=k) HXLX.out HBLX.out HKN.out;simp only at e1 e2 HEX HCX fzX HOX;subst e1 e2;rw [HGX.out] at HEX HCX HOX;obtain ⟨rwX,hrwX⟩:∃rw',s.X.getD k []=rw':=⟨_,rfl⟩;rw [hrwX] at HEX HCX HOX HRLX HGX;obtain ⟨rlX,hrlX⟩:∃rl,rwX.length=rl:=⟨_,rfl⟩;rw [hrlX] at HEX HCX HOX HRLX;have HRWX:=lh hrwX;have HRLLX:=lh hrlX;have HCX:=lh HCX;have HZX:=lh HZX;have HEX:=lh HEX;have HOX:=lh HOX;have HZZX:=lh HZZX
   have HLOX:Hid (lo<=wr.heap.size):= by
    have h1:=HX.out.lt g HX.out.gF;show lo<=_;omega
   clear fzX hrwX hrlX hkX;obtain ⟨FX,hFX⟩:∃FX,FX=F':=⟨_,rfl⟩;subst hFX;obtain ⟨WX,hWX⟩:∃WX,WX=wr:=⟨_,rfl⟩;subst hWX
   have hSX:∀W',BW WX W'->((Ce W' g 14 (sL bx 0 n n))/\(Ce W' bx k (.slice roX rlX rcX))/\(Ce W' g 10 (sL qX fX n pcX))/\(Ce W' qX (fX+k) (iV zX))):=fun W' hb =>
    ⟨(HX.out.blk.below hb).cell 14,(hb.cell (p:=(Ad bx k)) (yac HCX.out)).trans HCX.out,(HX.out.blk.below hb).cell 10,(hb.cell (p:=(Ad qX (fX+k))) (yac HZX.out)).trans HZX.out⟩
   have HSX:=lh hSX;have hsdX:=hSX WX.drew (yaf bR);have hsaX:=hSX (WX.alloc (.cells #[iV zX] 2)).drew (yaf (yaa bR _));clear hSX;go_upto_region 3 with fail
   refine yan (fun W'=>(Ce W' g 14 (sL bx 0 n n))/\(Ce W' bx k (.slice roX rlX rcX))/\(Ce W' g 10 (sL qX fX n pcX))/\(Ce W' qX (fX+k) (iV zX))) 24 kr ?_;refine tK 0 rfl ?_;refine tK 1 rfl ?_;refine tK 2 rfl ?_;refine tK 3 rfl ?_;refine tK 4 rfl ?_;refine tK 5 rfl ?_;refine tK 6 rfl ?_;refine tK 7 rfl ?_;refine tK 8 rfl ?_;refine tK 9 rfl ?_;refine tK 10 rfl ?_;refine tK 11 rfl ?_;refine tK 12 rfl ?_;refine tK 13 rfl ?_;refine tK 14 rfl ?_;refine tK 15 rfl ?_;refine tK 16 rfl ?_;refine tK 17 rfl ?_;refine tK 18 rfl ?_;refine tK 19 rfl ?_;refine tK 20 rfl ?_;refine tK 21 rfl ?_;refine wo 22 kr rfl fun K hK=>?_;go_simp;refine hK.out _ _ (fun hun=>hsaX) ?_;clear hK K;try simp only [ap,aq,sa,sb,sc]
   refine wo 23 kr rfl fun K hK=>?_;refine ycs rfl (.tmp 24) (.tmp 33) 33 rfl lo 2 i0 (iZ) 1 8 Tryz.underlying33 hi hz0 hz1 hz2 rfl (by decide) (.slice roX rlX rcX) rlX (rwX.map (Value.int .i64)) (by rfl) (yah HOX.out (yaf (yaa bR _))) (Ad WX.heap.size 0) 1 1 [iV zX] (by rfl) rfl (ygg WX _ _) (by intro u hu;simp at hu;subst hu;rfl) (by have:=HRLX.out;unfold maxLen;omega) (by have:=HRLX.out;omega) (by rw [World.size_drew,World.size_alloc];exact Nat.le_succ_of_le HLOX.out) ?_;intro vX wX hownX hgX horX;obtain ⟨gX,cX,rfl⟩:=ya5 hownX om;have HOWX:=lh hownX;have HGX:=lh hgX;have HORX:=lh horX;have HNX:Hid (∀b e cs,Blk WX b e cs->e≠2->Blk wX b e cs):=fun b e cs hb he=>yaq (hb.below (yaf (yaa bR _))) hgX (yaj HOX.out hb he);have HBBX:=lh (HNX.out _ _ _ HX.out.X.blk (by decide));have hbcX:wX.cell? (Ad bx k)=some (.slice roX rlX rcX):=by rw [HBBX.out.cell,<-HX.out.X.blk.cell];exact HCX.out
   have hbfX:=HBBX.out.frozen k
   have hswX:(wX.cell? (Ad g 14)=some (sL bx 0 n n))/\(wX.cell? (Ad bx k)=some (.slice roX rlX rcX))/\(wX.cell? (Ad g 10)=some (sL qX fX n pcX))/\(wX.cell? (Ad qX (fX+k))=some (iV zX)):= by
    have hk:yab FX WX wX:=yab.grown (yab.drew ((yab.refl _ _).alloc _)) hgX (fun x hx=>.inl (HX.out.X.inF k (by rw [HXLX.out];exact HKN.out) x (by rw [HEX.out];exact hx)));have hsl:=((HX.out.rd _ hk).2.2.1);obtain ⟨q',f',z',e',hz',hzz'⟩:=hsl.get (i:=k) (by rw [HBLX.out];exact HKN.out);cases e';rw [hzz'.symm.trans HZZX.out] at hz';exact ⟨(HNX.out _ _ _ HX.out.blk (by decide)).cell 14,hbcX,(HNX.out _ _ _ HX.out.blk (by decide)).cell 10,hz'⟩
   clear hownX hgX horX;refine hK.out _ _ (fun hun=>hswX) ?_;clear hK K;try simp only [ap,aq,sa,sb,sc]
   refine wo 24 kr rfl fun K hK=>?_;go_simp;refine hK.out _ _ kd ?_;clear hK K hswX;try simp only [ap,aq,sa,sb,sc]
   refine wo 25 kr rfl fun K hK=>?_;go_simp;refine hK.out _ _ kd ?_;clear hK K hbcX hbfX hsdX hsaX;try simp only [ap,aq,sa,sb,sc]
   refine yal kr ?_ _;obtain ⟨FNX,hFNX⟩:∃FN,(Value.slice (some (Ad gX 0)) (rlX+1) cX).ownBlock.toList++FX=FN:=⟨_,rfl⟩;obtain ⟨aNX,haNX⟩:∃aN,xs.set k (sL gX 0 (rlX+1) cX)=aN:=⟨_,rfl⟩;obtain ⟨sNX,hsNX⟩:∃sN:RS,{ sX with X:=sX.X.set k (rwX++[zX]) }=sN:=⟨_,rfl⟩
   obtain ⟨WY,hWX,HRX,HSTX⟩:∃W2,wX.setCell (Ad bx k) (sL gX 0 (rlX+1) cX)=W2/\Hid (yb2 lo g t l day sNX FNX W2 { tv:=tv,lv:=lv,pv:=sL qX fX n pcX,rv:=rv,xv:=sL bx 0 n n,yv:=yv,ov:=ov,bx:=bx,bz:=bz,xs:=aNX,ys:=ys,vs:=vs })/\Hid (Stp FX WX FNX W2):= by
    have hlen:(rwX++[zX]).length=rlX+1:=by rw [List.length_append,HRLLX.out];rfl
    have hK1:yab (Value.slice roX rlX rcX).ownBlock.toList WX wX:=yab.grown (yab.drew ((yab.refl _ _).alloc _)) HGX.out (fun q hq=>.inl (Option.mem_toList.2 hq));have hK2:yab (bx::(Value.slice roX rlX rcX).ownBlock.toList) WX (wX.setCell (Ad bx k) (sL gX 0 (rlX+1) cX)):=(hK1.mono (fun x hx=>List.mem_cons_of_mem _ hx)).sg _
    have h:=HX.out.rowX (k:=k) (v':=sL gX 0 (rlX+1) cX) (y:=rwX++[zX]) (by rw [HXLX.out];exact HKN.out) (by simp only [HEX.out];exact hK2) (HBBX.out.set k _) (by rw [hlen,List.map_append];exact yaz HOWX.out (yaj HOWX.out HBBX.out (by decide)) _) (by
     simp only [HEX.out];rcases HORX.out with e | e
     ·exact .inl e
     ·refine .inr ⟨_,e,?_⟩
      rw [World.size_drew,World.size_alloc];exact Nat.le_succ _)
    rw [hFNX,hsNX] at h;simp only [haNX] at h;exact ⟨_,rfl,h.1,h.2⟩
   with_reducible rw [hWX]
   have HSNX:=lh hsNX;clear hWX hFNX haNX hsNX HOWX HGX HORX HNX HBBX HSX HOX;have HYLY:Hid (sNX.Y.length=n):=by rw [<-HSNX.out];exact HYLX.out
   have HRLY0:Hid (sNX.rs.length=n):=by rw [<-HSNX.out];exact HRLX0.out
   have HGY2:Hid (sNX.Y.getD k []=s.Y.getD k []):=by rw [<-HSNX.out];exact HGY.out
   have HRLY:Hid ((s.Y.getD k []).length<=10000000):=HLY.out k HKN.out;obtain ⟨roY,rcY,pcY,qY,fY,zY,e1,e2,HEY,HCY,fzY,HZY,HZZY,HOY⟩:=HRX.out.lookY (n:=n) (k:=k) HYLY.out HRLY0.out HKN.out;simp only at e1 e2 HEY HCY fzY HOY;subst e1 e2;rw [HGY2.out] at HEY HCY HOY;obtain ⟨rwY,hrwY⟩:∃rw',s.Y.getD k []=rw':=⟨_,rfl⟩;rw [hrwY] at HEY HCY HOY HRLY HGY2;obtain ⟨rlY,hrlY⟩:∃rl,rwY.length=rl:=⟨_,rfl⟩;rw [hrlY] at HEY HCY HOY HRLY;have HRWY:=lh hrwY;have HRLLY:=lh hrlY;have HCY:=lh HCY;have HZY:=lh HZY;have HEY:=lh HEY;have HOY:=lh HOY;have HZZY:=lh HZZY
   have HLOY:Hid (lo<=WY.heap.size):= by
    have h1:=HRX.out.lt g HRX.out.gF;show lo<=_;omega
   have HXLY:=HYLY;have HBLY:=HRLY0;obtain ⟨FY,hFY⟩:∃FY,FY=FNX:=⟨_,rfl⟩;subst hFY;obtain ⟨sY,hsY⟩:∃sY,sY=sNX:=⟨_,rfl⟩;subst hsY;have HY:=HRX;clear fzY hrwY hrlY
   have hSY:∀W',BW WY W'->((Ce W' g 15 (sL bz 0 n n))/\(Ce W' bz k (.slice roY rlY rcY))/\(Ce W' g 13 (sL qY fY n pcY))/\(Ce W' qY (fY+k) (iV zY))):=fun W' hb =>
    ⟨(HY.out.blk.below hb).cell 15,(hb.cell (p:=(Ad bz k)) (yac HCY.out)).trans HCY.out,(HY.out.blk.below hb).cell 13,(hb.cell (p:=(Ad qY (fY+k))) (yac HZY.out)).trans HZY.out⟩
   have HSY:=lh hSY;have hsdY:=hSY WY.drew (yaf bR);have hsaY:=hSY (WY.alloc (.cells #[iV zY] 2)).drew (yaf (yaa bR _));clear hSY;go_upto_region 4 with fail
   refine yan (fun W'=>(Ce W' g 15 (sL bz 0 n n))/\(Ce W' bz k (.slice roY rlY rcY))/\(Ce W' g 13 (sL qY fY n pcY))/\(Ce W' qY (fY+k) (iV zY))) 23 kr ?_;refine tK 0 rfl ?_;refine tK 1 rfl ?_;refine tK 2 rfl ?_;refine tK 3 rfl ?_;refine tK 4 rfl ?_;refine tK 5 rfl ?_;refine tK 6 rfl ?_;refine tK 7 rfl ?_;refine tK 8 rfl ?_;refine tK 9 rfl ?_;refine tK 10 rfl ?_;refine tK 11 rfl ?_;refine tK 12 rfl ?_;refine tK 13 rfl ?_;refine tK 14 rfl ?_;refine tK 15 rfl ?_;refine tK 16 rfl ?_;refine tK 17 rfl ?_;refine tK 18 rfl ?_;refine tK 19 rfl ?_;refine tK 20 rfl ?_;refine wo 21 kr rfl fun K hK=>?_;go_simp;refine hK.out _ _ (fun hun=>hsaY) ?_;clear hK K;try simp only [ap,aq,sa,sb,sc]
   refine wo 22 kr rfl fun K hK=>?_;refine ycs rfl (.tmp 49) (.tmp 57) 33 rfl lo 2 i0 (iZ) 1 8 Tryz.underlying33 hi hz0 hz1 hz2 rfl (by decide) (.slice roY rlY rcY) rlY (rwY.map (Value.int .i64)) (by rfl) (yah HOY.out (yaf (yaa bR _))) (Ad WY.heap.size 0) 1 1 [iV zY] (by rfl) rfl (ygg WY _ _) (by intro u hu;simp at hu;subst hu;rfl) (by have:=HRLY.out;unfold maxLen;omega) (by have:=HRLY.out;omega) (by rw [World.size_drew,World.size_alloc];exact Nat.le_succ_of_le HLOY.out) ?_;intro vY wY hownY hgY horY;obtain ⟨gY,cY,rfl⟩:=ya5 hownY om;have HOWY:=lh hownY;have HGY:=lh hgY;have HORY:=lh horY;have HNY:Hid (∀b e cs,Blk WY b e cs->e≠2->Blk wY b e cs):=fun b e cs hb he=>yaq (hb.below (yaf (yaa bR _))) hgY (yaj HOY.out hb he);have HBBY:=lh (HNY.out _ _ _ HY.out.Y.blk (by decide));have hbcY:wY.cell? (Ad bz k)=some (.slice roY rlY rcY):=by rw [HBBY.out.cell,<-HY.out.Y.blk.cell];exact HCY.out
   have hbfY:=HBBY.out.frozen k
   have hswY:(wY.cell? (Ad g 15)=some (sL bz 0 n n))/\(wY.cell? (Ad bz k)=some (.slice roY rlY rcY))/\(wY.cell? (Ad g 13)=some (sL qY fY n pcY))/\(wY.cell? (Ad qY (fY+k))=some (iV zY)):= by
    have hk:yab FY WY wY:=yab.grown (yab.drew ((yab.refl _ _).alloc _)) hgY (fun x hx=>.inl (HY.out.Y.inF k (by rw [HXLY.out];exact HKN.out) x (by rw [HEY.out];exact hx)));have hsl:=((HY.out.rd _ hk).2.2.2.1);obtain ⟨q',f',z',e',hz',hzz'⟩:=hsl.get (i:=k) (by rw [HBLY.out];exact HKN.out);cases e';rw [hzz'.symm.trans HZZY.out] at hz';exact ⟨(HNY.out _ _ _ HY.out.blk (by decide)).cell 15,hbcY,(HNY.out _ _ _ HY.out.blk (by decide)).cell 13,hz'⟩
   clear hownY hgY horY;refine hK.out _ _ (fun hun=>hswY) ?_;clear hK K;try simp only [ap,aq,sa,sb,sc]
   refine wo 23 kr rfl fun K hK=>?_;go_simp;refine hK.out _ _ kd ?_;clear hK K hswY;try simp only [ap,aq,sa,sb,sc]
   refine wo 24 kr rfl fun K hK=>?_;go_simp;refine hK.out _ _ kd ?_;clear hK K hbcY hbfY hsdY hsaY;try simp only [ap,aq,sa,sb,sc]
   refine yal kr ?_ _;obtain ⟨FNY,hFNY⟩:∃FN,(Value.slice (some (Ad gY 0)) (rlY+1) cY).ownBlock.toList++FY=FN:=⟨_,rfl⟩;obtain ⟨aNY,haNY⟩:∃aN,ys.set k (sL gY 0 (rlY+1) cY)=aN:=⟨_,rfl⟩;obtain ⟨sNY,hsNY⟩:∃sN:RS,{ sY with Y:=sY.Y.set k (rwY++[zY]) }=sN:=⟨_,rfl⟩
   obtain ⟨WZ,hWY,HRY,HSTY⟩:∃W2,wY.setCell (Ad bz k) (sL gY 0 (rlY+1) cY)=W2/\Hid (yb2 lo g t l day sNY FNY W2 { tv:=tv,lv:=lv,pv:=sL qX fX n pcX,rv:=sL qY fY n pcY,xv:=sL bx 0 n n,yv:=sL bz 0 n n,ov:=ov,bx:=bx,bz:=bz,xs:=aNX,ys:=aNY,vs:=vs })/\Hid (Stp FY WY FNY W2):= by
    have hlen:(rwY++[zY]).length=rlY+1:=by rw [List.length_append,HRLLY.out];rfl
    have hK1:yab (Value.slice roY rlY rcY).ownBlock.toList WY wY:=yab.grown (yab.drew ((yab.refl _ _).alloc _)) HGY.out (fun q hq=>.inl (Option.mem_toList.2 hq));have hK2:yab (bz::(Value.slice roY rlY rcY).ownBlock.toList) WY (wY.setCell (Ad bz k) (sL gY 0 (rlY+1) cY)):=(hK1.mono (fun x hx=>List.mem_cons_of_mem _ hx)).sg _
    have h:=HY.out.rowY (k:=k) (v':=sL gY 0 (rlY+1) cY) (y:=rwY++[zY]) (by rw [HXLY.out];exact HKN.out) (by simp only [HEY.out];exact hK2) (HBBY.out.set k _) (by rw [hlen,List.map_append];exact yaz HOWY.out (yaj HOWY.out HBBY.out (by decide)) _) (by
     simp only [HEY.out];rcases HORY.out with e | e
     ·exact .inl e
     ·refine .inr ⟨_,e,?_⟩
      rw [World.size_drew,World.size_alloc];exact Nat.le_succ _)
    rw [hFNY,hsNY] at h;simp only [haNY] at h;exact ⟨_,rfl,h.1,h.2⟩
   with_reducible rw [hWY]
   have HSNY:=lh hsNY;clear hWY hFNY haNY hsNY HOWY HGY HORY HNY HBBY HSY HOY
   go_wp2_with fail
   go_roundg gg
   case measure=>omega
   case rel =>
    have e:sNY={ s with X:=endK s.X s.p.bs (k+1),Y:=endK s.Y s.rs (k+1) }:= by
     rw [<-HSNY.out,<-HSNX.out];have eX:=yoe s.X s.p.bs k (by rw [HL.out.1];exact HKN.out);have eY:=yoe s.Y s.rs k (by rw [HL.out.2.1];exact HKN.out);have zx:s.p.bs.getD k 0=zX:=by rw [<-HZZX.out,<-HSX.out]
     have zy:s.rs.getD k 0=zY:=by rw [<-HZZY.out,<-HSNX.out,<-HSX.out]
     rw [<-eX,<-eY,HRWX.out,HRWY.out,zx,zy,<-HSX.out]
    have hfin:=HRY.out;rw [e] at hfin;exact ⟨k+1,by have:=HKG.out;omega,by go_num,FNY,_,hfin,HST.out.trans (HSTX.out.trans HSTY.out)⟩
end
theorem yb2.sts {lo g:Nat} {t:Tm} {l:List R5} {day:Int} {s:RS} {F:List Nat} {W:World} {V:RV} (h:yb2 lo g t l day s F W V):StS W V.ov s.out:=StS.of_own h.out h.rd.now.2.2.2.2
theorem yom {l:List St} {m:Nat} (h:l.length=m+1):l.getLast?=some (l.getD m St0):= by
 rw [List.getLast?_eq_getElem?,h];simp [List.getD,h]
theorem yx5 (lo g:Nat) (t:Tm) (l:List R5) (day:Int) (s:RS) (F:List Nat) (V:RV) (fr til:Int) (b:Bool) (e:Int) (hR:Hid (yet l s.out fr=(b,e))) (hn:s.out.length<=1000) (w:World) (h:yb2 lo g t l day s F w V) :
 Calls Tryz.prog 139 #[pV g,.agg #[iV fr,iV til]] w (RetB (.tuple #[.bool b,iV e]) w):= by
 have H0:=lh h;obtain ⟨tv,lv,pv,rv,xv,yv,ov,bx,bz,xs,ys,vs⟩:=V;have hO:=h.sts;have hL:=h.rd.now.2.1;simp only at hO hL;obtain ⟨oo,oc,rfl⟩:=hO.shape;obtain ⟨lo',lc,rfl⟩:=hL.shape;have HO:=lh hO;have HL:=lh hL;have hb:=h.blk;unfold yc9 at hb;simp only at hb;have HB:=lh hb;have kg:=h.blk.lt;clear hO hL hb h;cases hm:s.out.length with
 | zero =>
  have he:s.out=[]:=List.eq_nil_of_length_eq_zero hm;have hR2:=hR.out;unfold yet at hR2;rw [he] at hR2;simp only [List.getLast?_nil] at hR2;cases hR2;rw [hm] at HB HO H0;have c16:=HB.out.cell 16;simp only [gz,gs] at c16;clear hR he hm
  go_enter Tryz.func139,Tryz.ntmps139
  go_wp2_with fail
  go_ret2
  exact ⟨rfl,yaa bR _⟩
 | succ m =>
  have hR2:=hR.out;unfold yet at hR2;rw [yom hm] at hR2;simp only at hR2;obtain ⟨b1,o1,x,lv1,e1,⟨d0,d1,d2,d3,d4,d5,d6,d7,d8⟩,HLx,HX⟩:=HO.out.get (i:=m) om;rw [HX.out] at hR2;have HR:=lh hR2;subst e1;obtain ⟨a1,q1,rfl,-⟩:=HLx;rw [hm] at HB HO H0;clear hR hR2 HO H0;have HBX:Hid (Blk (w.alloc (.cells #[iV fr,iV til] 40)) w.heap.size 40 [iV fr,iV til]):=yae w _ _ _ rfl;have kb:=yac d0;obtain ⟨W,hW,HBW,HBS,HBB⟩:∃W,w.alloc (.cells #[iV fr,iV til] 40)=W/\Hid (BW w W)/\Hid (Blk W w.heap.size 40 [iV fr,iV til])/\Hid (W.heap.size=w.heap.size+1):=⟨_,rfl,yaa bR _,HBX.out,by show _=_;simp⟩
  go_enter Tryz.func139,Tryz.ntmps139
  go_upto_region 1 with fail
  clear hW;have HBr:=lh (HB.out.below HBW.out);have cellW:∀o x,w.cell? (Ad b1 o)=some x->W.cell? (Ad b1 o)=some x:=fun o x h=>(HBW.out.cell (p:=(Ad b1 o)) (yac h)).trans h
  replace d0:=cellW _ _ d0
  replace d1:=cellW _ _ d1
  replace d2:=cellW _ _ d2
  replace d3:=cellW _ _ d3
  replace d4:=cellW _ _ d4
  replace d5:=cellW _ _ d5
  replace d6:=cellW _ _ d6
  replace d7:=cellW _ _ d7
  replace d8:=cellW _ _ d8
  have kg:=HBr.out.lt;have kb:=yac d0;clear cellW;obtain ⟨c7,c16,-⟩:=HBr.out.cs [7,16];simp only [gz,gs] at c7 c16;have hm1:(m:Int)+1<=1000:=by omega
  have hm2:(m:Int)<(m:Int)+1:=by omega
  have hm3:(0:Int)<=(m:Int):=by omega
  have hne:(((m:Int)+1) == 0)=false:=by simp;omega
  go_upto_region 3 with fail
  go_region
  obtain ⟨W2,hW2,HB2,HS2⟩:∃W2,(W.alloc (.cells #[iV x.n,iV x.fr,iV x.til,iV x.du,.slice a1 x.ls.length q1,iV x.tot,iV x.cr,iV x.mn,.bool x.g] 43)).drew=W2/\Hid (BW W W2)/\Hid (∀W',BW W2 W'->Ce W' W.heap.size 5 (iV x.tot)/\Ce W' W.heap.size 3 (iV x.du)/\Ce W' w.heap.size 0 (iV fr)/\Ce W' g 7 (.slice lo' l.length lc)):= by
   refine ⟨_,rfl,yaf (yaa bR _),fun W' hb=>?_⟩;have q1:Blk W' W.heap.size 43 [iV x.n,iV x.fr,iV x.til,iV x.du,.slice a1 x.ls.length q1,iV x.tot,iV x.cr,iV x.mn,.bool x.g]:=Blk.below (Blk.below (yae W _ _ _ rfl) (yaf bR)) hb;have q2:Blk W' w.heap.size 40 [iV fr,iV til]:=Blk.below (Blk.below HBS.out (yaf (yaa bR _))) hb;have q3:=Blk.below (Blk.below HBr.out (yaf (yaa bR _))) hb;exact ⟨q1.cell 5,q1.cell 3,q2.cell 0,q3.cell 7⟩
  with_reducible rw [hW2]
  clear hW2 d0 d1 d2 d3 d4 d5 d6 d7 d8 c7 c16;have hs2:=HS2.out W2 bR;have hsd:=HS2.out W2.drew (yaf bR);go_upto_region 4 with fail
  go_region_held3 (fun W'=>Ce W' W.heap.size 5 (iV x.tot)/\Ce W' W.heap.size 3 (iV x.du)/\Ce W' w.heap.size 0 (iV fr)/\Ce W' g 7 (.slice lo' l.length lc)) (first | with_reducible exact hs2 | with_reducible exact hsd | exact HS5.out) (first | (go_at_call 183;refine (yza x.tot fr x.du _ l _ HR _ (HL.out.below (by first | exact yad HBW.out (yaf HB2.out) | exact yad HBW.out HB2.out))).mono ?_;rintro _ w5 ⟨rfl,hb5⟩;have HB5:Hid (BW W2 w5):=(by first | exact hb5 | exact yad (yaf bR) hb5);have HS5:=lh (HS2.out _ HB5.out);clear hb5))
  go_wp2_with fail
  go_ret2
  exact ⟨rfl,yad HBW.out (yad HB2.out HB5.out)⟩
def stOr (o:Option St):St:=o.getD St0
theorem ysj (t:Tm) (tv:Value) (n fr til:Int) (p:Ps) (pv rv nv:Value) (rs ns:List Int) (g:Bool) (hts:t.ts.length<=1000) (so:Option St) (q:Ps) (e:Int) (hR:Hid (ycd t n fr til p rs ns g=(so,q,e))) (w:World) (hv:TrS w tv t.ts) (hb:Sl .i64 w pv p.bs) (hr:Sl .i64 w rv rs) (hn:Sl .i64 w nv ns) :
 Calls Tryz.prog 141 #[.agg #[iV t.lim,tv,iV t.cyc,iV t.dued,iV t.minf,iV t.minp,iV t.start],iV n,.agg #[iV fr,iV til],.agg #[pv,iV p.c,iV p.d],rv,nv,.bool g] w
  (yfu (stOr so).n (stOr so).fr (stOr so).til (stOr so).du (stOr so).ls (stOr so).tot (stOr so).cr (stOr so).mn (stOr so).g q.bs q.c q.d e w):= by
 obtain ⟨lim,ts,cyc,dued,minf,minp,start⟩:=t;obtain ⟨bs,c,d⟩:=p;simp only at hts hv hb ⊢
 have no:∀E,yu6 ts lim cyc dued minf minp start n fr til bs c d rs ns E->ycd ⟨lim,ts,cyc,dued,minf,minp,start⟩ n fr til ⟨bs,c,d⟩ rs ns g=(none,ps0,E)->Calls Tryz.prog 141 #[.agg #[iV lim,tv,iV cyc,iV dued,iV minf,iV minp,iV start],iV n,.agg #[iV fr,iV til],.agg #[pv,iV c,iV d],rv,nv,.bool g] w
  (yfu (stOr so).n (stOr so).fr (stOr so).til (stOr so).du (stOr so).ls (stOr so).tot (stOr so).cr (stOr so).mn (stOr so).g q.bs q.c q.d e w):=fun E hE hcs=>by
  have hR:=hR.out;rw [hcs] at hR;cases hR;exact yv2 tv ts lim cyc dued minf minp start n fr til pv bs c d rv rs nv ns g hts _ hE w hv hb hr hn
 cases hrt:yaw lim ts cyc dued minf minp start with
 | false=>exact no 6 (.inl ⟨hrt,rfl⟩) (by unfold ycd Tm.right;rw [if_pos hrt])
 | true =>
  cases ha:yix ts.length n fr til bs.length rs.length with
  | false=>exact no 1 (.inr (.inl ⟨hrt,ha,rfl⟩)) (by unfold ycd Tm.right;simp only;rw [if_neg (by rw [hrt];simp),if_pos ha])
  | true =>
   cases hra:rs.any ybg with
   | true=>exact no 1 (.inr (.inr ⟨⟨hrt,ha⟩,.inl ⟨hra,rfl⟩⟩)) (by unfold ycd Tm.right;simp only;rw [if_neg (by rw [hrt];simp),if_neg (by rw [ha];simp),if_pos hra])
   | false =>
    obtain ⟨L,C,D,E,hbs⟩:∃L C D E,ye7 bs c d ns=(L,C,D,E):=⟨_,_,_,_,rfl⟩
    by_cases hE:E=0
    ·subst hE
     have hlen:L.length=bs.length/\ns.length=bs.length:= by
      unfold ye7 at hbs
      split at hbs
      ·injection hbs with _ h;injection h with _ h;injection h with _ h;cases h
      ·split at hbs
       ·injection hbs with _ h;injection h with _ h;injection h with _ h;cases h
       ·rename_i hln
        split at hbs
        ·injection hbs with _ h;injection h with _ h;injection h with _ h;cases h
        ·split at hbs
         ·injection hbs with h _
          exact ⟨by rw [<-h,ye9],by simpa using hln⟩
         ·injection hbs with _ h;injection h with _ h;injection h with _ h;cases h
     obtain ⟨mn,x,hmn⟩:∃mn x,ygx (yaw lim ts cyc dued minf minp start) minf minp (yb4 L C D)=(mn,x):=⟨_,_,rfl⟩
     have hdu:-9000000000<=til+dued/\til+dued<=9000000000:= by
      obtain ⟨_,_,_,h4,_⟩:=ygh.1 ha;have h5:=hrt;unfold yaw at h5;simp only [Bool.and_eq_true,ydr] at h5;unfold dayB at h4;simp at h4;omega
     have hcs:ycd ⟨lim,ts,cyc,dued,minf,minp,start⟩ n fr til ⟨bs,c,d⟩ rs ns g=(some ⟨n,fr,til,til+dued,zip3 L ns rs,yb4 L C D,C,mn,g⟩,⟨L,C,mn⟩,0):= by
      unfold ycd Tm.right;simp only;rw [if_neg (by rw [hrt];simp),if_neg (by rw [ha];simp),if_neg (by rw [hra];simp),hbs,if_neg (by simp)];simp only [psOf,hmn]
     have hR:=hR.out;rw [hcs] at hR;cases hR;exact ytm tv ts lim cyc dued minf minp start n fr til pv bs c d rv rs nv ns g hts hrt ha hra L C D hbs hlen.1 hlen.2 _ rfl mn x hmn _ rfl hdu w hv hb hr hn
    ·exact no E (.inr (.inr ⟨⟨hrt,ha⟩,.inr ⟨hra,hE,L,C,D,hbs⟩⟩)) (by unfold ycd Tm.right;simp only;rw [if_neg (by rw [hrt];simp),if_neg (by rw [ha];simp),if_neg (by rw [hra];simp),hbs,if_pos hE])
theorem LnS.blt {w:World} {b o n c:Nat} {ls:List (Int×Int×Int)} (h:LnS w (sL b o n c) ls) (hn:0<n):b<w.heap.size:= by
 obtain ⟨ao,cap,e,_,_,h3⟩:=h;cases e;obtain ⟨b',o',e',hc⟩:=h3 (List.length_pos_iff.1 hn);cases e';exact yac (hc 0 hn).1
theorem Sl.blt {k:IntKind} {w:World} {b o n c:Nat} {xs:List Int} (h:Sl k w (sL b o n c) xs) (hn:0<n):b<w.heap.size:= by
 obtain ⟨ao,cap,e,_,_,h3⟩:=h;cases e;obtain ⟨b',o',e',hc⟩:=h3 (List.length_pos_iff.1 hn);cases e';exact yac (hc 0 hn)
theorem ye1 (t:Tm) (tv:Value) (n fr til:Int) (p:Ps) (pv rv nv:Value) (rs ns:List Int) (g:Bool) (hts:t.ts.length<=1000) (so:Option St) (q:Ps) (e:Int) (hR:Hid (ycd t n fr til p rs ns g=(so,q,e))) (x:St) (hx:Hid (stOr so=x)) (w:World) (hv:TrS w tv t.ts) (hb:Sl .i64 w pv p.bs) (hr:Sl .i64 w rv rs) (hn:Sl .i64 w nv ns) :
 Calls Tryz.prog 141 #[.agg #[iV t.lim,tv,iV t.cyc,iV t.dued,iV t.minf,iV t.minp,iV t.start],iV n,.agg #[iV fr,iV til],.agg #[pv,iV p.c,iV p.d],rv,nv,.bool g] w
  (yfu x.n x.fr x.til x.du x.ls x.tot x.cr x.mn x.g q.bs q.c q.d e w):= by
 have h:=hx.out;subst h;exact ysj t tv n fr til p pv rv nv rs ns g hts so q e hR w hv hb hr hn
theorem ydg.rows' {F:List Nat} {W:World} {lo:Nat} {v:Value} {X:List (List Int)} {b:Nat} {xs:List Value} (h:ydg F W lo v X b xs) (hn:X.length<=1000):RwS W v X:= by
 rw [h.val];refine ⟨_,_,rfl,Nat.le_refl _,⟨by unfold maxLen;omega,fun e=>by cases e⟩,fun _=>⟨b,0,rfl,fun i hi=>?_⟩⟩;refine ⟨xs.getD i (sZ),?_,Sl.of_own (h.rows i hi) rfl⟩;rw [h.blk.cell];simp [List.getD,show i<xs.length by rw [h.len];exact hi]
theorem yek {t:Tm} {n fr til:Int} {p q:Ps} {rs ns:List Int} {g:Bool} {so:Option St} {e:Int} (h:ycd t n fr til p rs ns g=(so,q,e)):so.isSome=decide (e=0):= by
 unfold ycd at h
 split at h
 ·cases h;rfl
 split at h
 ·cases h;rfl
 split at h
 ·cases h;rfl
 split at h
 ·rename_i h1
  cases h
  symm
  simpa using h1
 ·cases h;rfl
structure Bk where
 ds:List R5
 held:Int
def ya6 (w:World) (base g:Nat) (dv:Value) (b:Bk):Prop :=
 base<=g/\Blk w g 127 [dv,iV b.held]/\w.ownsRow base 155 5 dv b.ds.length (yag b.ds)
theorem ya6.below {w w':World} {base g:Nat} {dv:Value} {b:Bk} (h:ya6 w base g dv b) (hb:BW w w'):ya6 w' base g dv b :=
 ⟨h.1,h.2.1.below hb,yah h.2.2 hb⟩
theorem yco {w:World} {base base':Nat} {e:TypeId} {m n:Nat} {v:Value} {cs:List Value} (h:w.ownsRow base e m v n cs) (hb:base'<=base):w.ownsRow base' e m v n cs:= by
 refine ⟨h.1,?_⟩;rcases h.2 with h1 | ⟨g,cap,cur,hv,hg,r⟩
 ·exact .inl h1
 ·exact .inr ⟨g,cap,cur,hv,Nat.le_trans hb hg,r⟩
theorem yel (w:World) (base:Nat) (e:TypeId) (m:Nat):w.ownsRow base e m (sZ) 0 []:=⟨by simp,.inl ⟨rfl,rfl⟩⟩
theorem yrd (w:World) :
 Calls Tryz.prog 30 #[] w (fun e w'=>∃g dv,e=.returned (pV g)/\ya6 w' w.heap.size g dv ⟨[],0⟩/\BW w w'):= by
 go_enter Tryz.func30,Tryz.ntmps30
 go_wp2
 go_ret
 exact ⟨_,_,rfl,⟨Nat.le_refl _,yae _ _ _ _ rfl,yel _ _ _ _⟩,bL⟩
theorem yqh (base g:Nat) (dv:Value) (b:Bk) (w:World) (hv:ya6 w base g dv b) (hn:b.ds.length<=100000) :
 Calls Tryz.prog 41 #[pV g] w (fun e w'=>∃u,e=.returned u/\w'.ownsRow w.heap.size 155 5 u b.ds.length (yag b.ds)/\BW w w'):= by
 obtain ⟨ds,held⟩:=b;obtain ⟨hg,hB,hD⟩:=hv;simp only at *;have HD:=lh (R5S.of_own hD rfl);obtain ⟨ao,cap,rfl⟩:=(R5S.of_own hD rfl).shape;have c0:=hB.cell 0;simp only [List.getElem?_cons_zero] at c0;have HN:=lh hn;clear hB hD hn
 go_enter Tryz.func41,Tryz.ntmps41
 go_wp2_with fail
 refine (yij _ ds _ HD.out HN.out).mono ?_;rintro _ w1 ⟨u,rfl,ho,hb1⟩;have HO:=lh ho;have HB1:=lh hb1;clear ho hb1;go_wp2
 go_ret
 exact ⟨_,rfl,HO.out,HB1.out⟩
theorem yi6 (base g:Nat) (dv:Value) (b:Bk) (w:World) (hv:ya6 w base g dv b) (hn:b.ds.length<=100000) :
 Calls Tryz.prog 64 #[pV g] w (fun e w'=>∃g' u,e=.returned (pV g')/\ya6 w' w.heap.size g' u b/\BW w w'):= by
 obtain ⟨ds,held⟩:=b;obtain ⟨hg,hB,hD⟩:=hv;simp only at *;have HB:=lh hB;have HE:=lh (R5S.of_own hD rfl);obtain ⟨eo,ec,rfl⟩:=(R5S.of_own hD rfl).shape;obtain ⟨c0,c1,-⟩:=HB.out.cs [0,1];simp only [gz,gs] at c0 c1;clear hB hD
 have hS:∀W',BW w W'->(Ce W' g 0 (.slice eo ds.length ec)/\Ce W' g 1 (iV held)):=fun W' h =>
  have q:=HB.out.below h
  ⟨q.cell 0,q.cell 1⟩
 have HS:=lh hS;have hs0:=hS w bR;have hsd:=hS w.drew (yaf bR);clear hS
 go_enter Tryz.func64,Tryz.ntmps64
 go_upto_region 3 with fail
 clear c0 c1
 go_region_held3 (fun W'=>(Ce W' g 0 (.slice eo ds.length ec)/\Ce W' g 1 (iV held))) (first | with_reducible exact hs0 | with_reducible exact hsd | with_reducible exact hs5 | with_reducible exact HS.out _ (yaa HB5.out _) | with_reducible assumption) (first | (go_at_call 68;refine (yij _ ds _ (HE.out.below (yaf bR)) hn).mono ?_;rintro _ w5 ⟨u,rfl,ho,hb5⟩;obtain ⟨uo,uc,rfl⟩:=(R5S.of_own ho rfl).shape;have HO:=lh ho;have HB5:Hid (BW w w5):=yad (yaf bR) hb5;have hs5:=HS.out w5 HB5.out;clear ho hb5))
 all_goals
  go_wp2
  go_ret
  refine ⟨_,.slice uo ds.length uc,rfl,⟨HB5.out.size,yae _ _ _ _ rfl,yah HO.out (yaa bR _)⟩,yaa HB5.out _⟩
theorem yb2.grow {lo g:Nat} {t:Tm} {l:List R5} {day:Int} {s:RS} {F:List Nat} {W W':World} {V:RV} (h:yb2 lo g t l day s F W V) {v' lv':Value} {x:St}
 (hK:yab (g::V.ov.ownBlock.toList) W W') (hB:Blk W' g 181 (yc9 t V.tv V.lv s.at' day V.pv s.p V.rv V.xv V.yv v')) (hO:W'.ownsRow lo 43 9 v' (s.out.length+1) (yay (s.out++[x]) (V.vs++[lv'])))
 (hv:v'.ownBlock=V.ov.ownBlock\/∃q,v'.ownBlock=some q/\W.heap.size<=q) (hl:Rd F W (fun W=>LnS W lv' x.ls)) (hh:Hi lo lv') :
 yb2 lo g t l day { s with out:=s.out++[x] } (v'.ownBlock.toList++F) W' { V with ov:=v',vs:=V.vs++[lv'] }/\Stp F W (v'.ownBlock.toList++F) W':= by
 have hKF:∀x∈(g::V.ov.ownBlock.toList),x∈F:=fun x hx=>by
  rcases List.mem_cons.1 hx with rfl | hx
  ·exact h.gF
  ·exact h.outF x (Option.mem_toList.1 hx)
 have hst:Stp F W (v'.ownBlock.toList++F) W':=⟨hK.mono hKF,fun x hx=>by
  rcases List.mem_append.1 hx with hx | hx
  ·have hx':=Option.mem_toList.1 hx
   rcases hv with hv | ⟨z,hv,hz⟩
   ·exact .inl (h.outF x (hv▸hx'))
   ·rw [hv] at hx';cases hx';exact .inr hz
  ·exact .inl hx⟩
 have keepR:∀{v:Value} {X:List (List Int)} {b:Nat} {xs:List Value},ydg F W lo v X b xs->ydg (v'.ownBlock.toList++F) W' lo v X b xs:=fun {v X b xs} k=>by
  refine ⟨k.val,k.blk.keep hK (fun hm=>?_),k.len,fun j hj=>yap (k.rows j hj) hK (fun q hq hm=>?_),List.mem_append.2 (.inr k.bF),fun j hj q hq=>List.mem_append.2 (.inr (k.inF j hj q hq))⟩
  ·rcases List.mem_cons.1 hm with e | hm
   ·exact ybs h.blk k.blk (by decide) e.symm
   ·exact yaj h.out k.blk (by decide) (Option.mem_toList.1 hm).symm
  ·rcases List.mem_cons.1 hm with e | hm
   ·subst e;exact yaj (k.rows j hj) h.blk (by decide) hq.symm
   ·exact yfe (k.rows j hj) h.out (by decide) hq (Option.mem_toList.1 hm)
 refine ⟨⟨hB,List.mem_append.2 (.inr h.gF),fun x hx=>?_,?_,keepR h.X,keepR h.Y,h.ne,h.dx,h.dy,h.dxy,by rw [List.length_append];exact hO,fun q hq=>List.mem_append.2 (.inl (Option.mem_toList.2 hq)),⟨h.hi.1,h.hi.2.1,fun v hv=>(List.mem_append.1 hv).elim (h.hi.2.2.1 v) (fun k=>by rw [ms] at k;subst k;exact hh),h.hi.2.2.2⟩⟩,hst⟩
 ·exact zq184e01
 ·exact ((hst.rd h.rd).and (hst.rd hl)).imp fun W k=>⟨k.1.1,k.1.2.1,k.1.2.2.1,k.1.2.2.2.1,k.1.2.2.2.2.append ⟨k.2,trivial⟩⟩
theorem yf1 (n i:Nat):(List.replicate n (sZ)).getD i (sZ)=sZ:= by
 simp only [List.getD,List.getElem?_replicate]
 split <;> rfl
theorem yvg (n i:Nat):(List.replicate n ([]:List Int)).getD i []=[]:= by
 simp only [List.getD,List.getElem?_replicate]
 split <;> rfl
theorem yj8 {lo g:Nat} {t:Tm} {l:List R5} {day:Int} {s:RS} {F:List Nat} {W W':World} {V:RV} {n bx bz:Nat} (hg:g∈F) (hlt:∀x∈F,lo<=x/\x<W.heap.size) (hrd:Rd F W (yzo t l s V))
 (hb0:Blk W g 181 (yc9 t V.tv V.lv s.at' day V.pv s.p V.rv V.xv V.yv V.ov)) (hout:W.ownsRow lo 43 9 V.ov s.out.length (yay s.out V.vs)) (houtF:∀q,V.ov.ownBlock=some q->q∈F)
 (hb:Blk W' g 181 (yc9 t V.tv V.lv s.at' day V.pv s.p V.rv (sL bx 0 n n) (sL bz 0 n n) V.ov))
 (h1:Blk W' bx 33 (List.replicate n (sZ))) (h2:Blk W' bz 33 (List.replicate n (sZ))) (hne:bx≠bz) (hx:W.heap.size<=bx) (hz:W.heap.size<=bz) (hK:yab [g] W W') (hhi:HiR lo V) :
 yb2 lo g t l day { s with X:=List.replicate n [],Y:=List.replicate n [] } (bx::bz::F) W' { V with xv:=sL bx 0 n n,yv:=sL bz 0 n n,bx:=bx,bz:=bz,xs:=List.replicate n (sZ),ys:=List.replicate n (sZ) }/\Stp F W (bx::bz::F) W':= by
 have hst:Stp F W (bx::bz::F) W':=⟨hK.mono (fun x hx=>by simp only [ms] at hx;exact hx▸hg),fun x hm=>by
  rcases List.mem_cons.1 hm with rfl | hm
  ·exact .inr hx
  rcases List.mem_cons.1 hm with rfl | hm
  ·exact .inr hz
  exact .inl hm⟩
 have rows:∀{b:Nat},Blk W' b 33 (List.replicate n (sZ))->b∈bx::bz::F->ydg (bx::bz::F) W' lo (sL b 0 n n) (List.replicate n []) b (List.replicate n (sZ)):=fun {b} hb hm=>by
  refine ⟨by simp,hb,by simp,fun k _=>?_,hm,fun k _ q hq=>?_⟩
  ·rw [yf1,yvg]
   exact yel _ _ _ _
  ·rw [yf1] at hq
   cases hq
 have lo0:lo<=W.heap.size:=by have:=hlt g hg;omega
 refine ⟨⟨hb,List.mem_cons_of_mem _ (List.mem_cons_of_mem _ hg),fun x hm=>?_,hst.rd hrd,rows h1 (List.mem_cons_self ..),rows h2 (List.mem_cons_of_mem _ (List.mem_cons_self ..)),hne,?_,?_,?_,?_,fun q hq=>List.mem_cons_of_mem _ (List.mem_cons_of_mem _ (houtF q hq)),hhi⟩,hst⟩
 ·rcases List.mem_cons.1 hm with rfl | hm
  ·exact ⟨by omega,h1.lt⟩
  rcases List.mem_cons.1 hm with rfl | hm
  ·exact ⟨by omega,h2.lt⟩
  exact ⟨(hlt x hm).1,Nat.lt_of_lt_of_le (hlt x hm).2 hK.size⟩
 ·intro i j _ q h1
  simp only [yf1] at h1;cases h1
 ·intro i j _ q h1
  simp only [yf1] at h1;cases h1
 ·intro i j q h1
  simp only [yf1] at h1;cases h1
 ·refine yap hout hK (fun q hq hm=>?_)
  simp only [ms] at hm;subst hm;exact yaj hout hb0 (by decide) hq.symm
end Go.Proofs.YtkongpjpkpfniaaGreat

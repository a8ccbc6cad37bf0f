/- TopPaid: parts of the proof, made small by a program (mini.py). -/
import Derived.Test.YtkongpjpkpfniaaGreatM01
import Derived.Test.YtkongpjpkpfniaaGreatM28
set_option linter.unusedVariables false
set_option linter.unusedSimpArgs false
set_option maxRecDepth 100000
set_option maxHeartbeats 6400000
namespace Go.Proofs.YtkongpjpkpfniaaGreat
open Go.RowKit
theorem yb2.grow {lo g:Nat} {t:Tm} {l:List R5} {day:Int} {s:RS} {F:List Nat} {W W':World} {V:RV} (h:yb2 lo g t l day s F W V) {v' lv':Value} {x:St}
 (hK:yab (g::V.ov.ownBlock.toList) W W') (hB:Blk W' g 181 (yc9 t V.tv V.lv s.at' day V.pv s.p V.rv V.xv V.yv v')) (hO:W'.ownsRow lo 43 9 v' (s.out.length+1) (yay (s.out++[x]) (V.vs++[lv'])))
 (hv:v'.ownBlock=V.ov.ownBlock∨∃q,v'.ownBlock=some q∧W.heap.size≤q) (hl:Rd F W (fun W=>LnS W lv' x.ls)) (hh:Hi lo lv') :
 yb2 lo g t l day { s with out:=s.out++[x] } (v'.ownBlock.toList++F) W' { V with ov:=v',vs:=V.vs++[lv'] }∧Stp F W (v'.ownBlock.toList++F) W':= by
 have hKF:∀x∈(g::V.ov.ownBlock.toList),x∈F:=fun x hx=>by
  rcases List.mem_cons.1 hx with rfl | hx
  ·exact h.gF
  ·exact h.outF x (Option.mem_toList.1 hx)
 have hst:Stp F W (v'.ownBlock.toList++F) W':=⟨hK.mono hKF,fun x hx=>by
  rcases List.mem_append.1 hx with hx | hx
  ·have hx':=Option.mem_toList.1 hx
   rcases hv with hv | ⟨z,hv,hz⟩
   ·exact .inl (h.outF x (hv▸hx'))
   ·rw [hv] at hx';cases hx';exact .inr hz
  ·exact .inl hx⟩
 have keepR:∀{v:Value} {X:List (List Int)} {b:Nat} {xs:List Value},ydg F W lo v X b xs→ydg (v'.ownBlock.toList++F) W' lo v X b xs:=fun {v X b xs} k=>by
  refine ⟨k.val,k.blk.keep hK (fun hm=>?_),k.len,fun j hj=>yap (k.rows j hj) hK (fun q hq hm=>?_),List.mem_append.2 (.inr k.bF),fun j hj q hq=>List.mem_append.2 (.inr (k.inF j hj q hq))⟩
  ·rcases List.mem_cons.1 hm with e | hm
   ·exact ybs h.blk k.blk (by decide) e.symm
   ·exact yaj h.out k.blk (by decide) (Option.mem_toList.1 hm).symm
  ·rcases List.mem_cons.1 hm with e | hm
   ·subst e;exact yaj (k.rows j hj) h.blk (by decide) hq.symm
   ·exact yfe (k.rows j hj) h.out (by decide) hq (Option.mem_toList.1 hm)
 refine ⟨⟨hB,List.mem_append.2 (.inr h.gF),fun x hx=>?_,?_,keepR h.X,keepR h.Y,h.ne,h.dx,h.dy,h.dxy,by rw [List.length_append];exact hO,fun q hq=>List.mem_append.2 (.inl (Option.mem_toList.2 hq)),⟨h.hi.1,h.hi.2.1,fun v hv=>(List.mem_append.1 hv).elim (h.hi.2.2.1 v) (fun k=>by rw [ms] at k;subst k;exact hh),h.hi.2.2.2⟩⟩,hst⟩
 ·rcases List.mem_append.1 hx with hx | hx
  ·have hx':=Option.mem_toList.1 hx
   exact ⟨(hO.lt x hx').1,(hO.lt x hx').2⟩
  ·exact ⟨(h.lt x hx).1,Nat.lt_of_lt_of_le (h.lt x hx).2 hK.size⟩
 ·exact ((hst.rd h.rd).and (hst.rd hl)).imp fun W k=>⟨k.1.1,k.1.2.1,k.1.2.2.1,k.1.2.2.2.1,k.1.2.2.2.2.append ⟨k.2,trivial⟩⟩
theorem yf1 (n i:Nat):(List.replicate n (sZ)).getD i (sZ)=sZ:= by
 simp only [List.getD,List.getElem?_replicate]
 split <;> rfl
theorem yvg (n i:Nat):(List.replicate n ([]:List Int)).getD i []=[]:= by
 simp only [List.getD,List.getElem?_replicate]
 split <;> rfl
theorem yj8 {lo g:Nat} {t:Tm} {l:List R5} {day:Int} {s:RS} {F:List Nat} {W W':World} {V:RV} {n bx bz:Nat} (hg:g∈F) (hlt:∀x∈F,lo≤x∧x<W.heap.size) (hrd:Rd F W (yzo t l s V))
 (hb0:Blk W g 181 (yc9 t V.tv V.lv s.at' day V.pv s.p V.rv V.xv V.yv V.ov)) (hout:W.ownsRow lo 43 9 V.ov s.out.length (yay s.out V.vs)) (houtF:∀q,V.ov.ownBlock=some q→q∈F)
 (hb:Blk W' g 181 (yc9 t V.tv V.lv s.at' day V.pv s.p V.rv (.slice (some ⟨bx,0,none⟩) n n) (.slice (some ⟨bz,0,none⟩) n n) V.ov))
 (h1:Blk W' bx 33 (List.replicate n (sZ))) (h2:Blk W' bz 33 (List.replicate n (sZ))) (hne:bx≠bz) (hx:W.heap.size≤bx) (hz:W.heap.size≤bz) (hK:yab [g] W W') (hhi:HiR lo V) :
 yb2 lo g t l day { s with X:=List.replicate n [],Y:=List.replicate n [] } (bx::bz::F) W' { V with xv:=.slice (some ⟨bx,0,none⟩) n n,yv:=.slice (some ⟨bz,0,none⟩) n n,bx:=bx,bz:=bz,xs:=List.replicate n (sZ),ys:=List.replicate n (sZ) }∧Stp F W (bx::bz::F) W':= by
 have hst:Stp F W (bx::bz::F) W':=⟨hK.mono (fun x hx=>by simp only [ms] at hx;exact hx▸hg),fun x hm=>by
  rcases List.mem_cons.1 hm with rfl | hm
  ·exact .inr hx
  rcases List.mem_cons.1 hm with rfl | hm
  ·exact .inr hz
  exact .inl hm⟩
 have rows:∀{b:Nat},Blk W' b 33 (List.replicate n (sZ))→b∈bx::bz::F→ydg (bx::bz::F) W' lo (.slice (some ⟨b,0,none⟩) n n) (List.replicate n []) b (List.replicate n (sZ)):=fun {b} hb hm=>by
  refine ⟨by simp,hb,by simp,fun k _=>?_,hm,fun k _ q hq=>?_⟩
  ·rw [yf1,yvg]
   exact yel _ _ _ _
  ·rw [yf1] at hq
   cases hq
 have lo0:lo≤W.heap.size:=by have:=hlt g hg;omega
 refine ⟨⟨hb,List.mem_cons_of_mem _ (List.mem_cons_of_mem _ hg),fun x hm=>?_,hst.rd hrd,rows h1 (List.mem_cons_self ..),rows h2 (List.mem_cons_of_mem _ (List.mem_cons_self ..)),hne,?_,?_,?_,?_,fun q hq=>List.mem_cons_of_mem _ (List.mem_cons_of_mem _ (houtF q hq)),hhi⟩,hst⟩
 ·rcases List.mem_cons.1 hm with rfl | hm
  ·exact ⟨by omega,h1.lt⟩
  rcases List.mem_cons.1 hm with rfl | hm
  ·exact ⟨by omega,h2.lt⟩
  exact ⟨(hlt x hm).1,Nat.lt_of_lt_of_le (hlt x hm).2 hK.size⟩
 ·intro i j _ q h1
  simp only [yf1] at h1;cases h1
 ·intro i j _ q h1
  simp only [yf1] at h1;cases h1
 ·intro i j q h1
  simp only [yf1] at h1;cases h1
 ·refine yap hout hK (fun q hq hm=>?_)
  simp only [ms] at hm;subst hm;exact yaj hout hb0 (by decide) hq.symm
end Go.Proofs.YtkongpjpkpfniaaGreat

/- TopPaid: parts of the proof, made small by a program (mini.py). -/
import Derived.Test.YtkongpjpkpfniaaGreatM01
import Derived.Test.YtkongpjpkpfniaaGreatM19
import Derived.Test.YtkongpjpkpfniaaGreatM25
set_option linter.unusedVariables false
set_option linter.unusedSimpArgs false
set_option maxRecDepth 100000
set_option maxHeartbeats 6400000
namespace Go.Proofs.YtkongpjpkpfniaaGreat
open Go.RowKit
theorem zq264e20 {q:Prop} (h:q:= by
 have e:ybg x=true:=by simp [ybg];omega
 rw [e]
 go_enter Tryz.func211,Tryz.ntmps211
 go_wp2_with fail
 go_ret
 exact Ret.mk _ _):q:=h
theorem zq268983 {q:Prop} (h:q:= by
 have hse1:(se != 0)=true:=by simpa using hse
 rw [if_neg hse] at HRR;have hRR:=HRR.out;subst hRR;clear hse
 go_wp2_with fail
 refine bodyPost_ret (v:=.tuple #[.agg #[sZ,iZ,iZ],sZ,iV se]) (by simp [results,Tryz.results138,go_sem,r0,r1,r2]) rfl ⟨_,_,rfl,⟨Sl.nil,ycz⟩,⟨Sl.nil,ycz⟩,yao (yao (yao (yao (yao (yao HBW5.out om) om) om) om) om) om⟩):q:=h
theorem zq267f1f {q:Prop} (h:q:= by
 subst hse;rw [if_pos rfl] at HRR;have hRR:=HRR.out;subst hRR
 go_wp2_with fail
 have kr:w.heap.size+1+1<W.heap.size:=A3.out.lt;refine bodyPost_ret (v:=.tuple #[.agg #[.slice uo sb.length uc,iV sc,iV sd],.slice o1 rs.length cp1,iZ]) (by simp [results,Tryz.results138,go_sem,r0,r1,r2]) rfl ⟨_,_,rfl,⟨HU.out.set33 (fun b o n c e hn=>by have:=HFR.out b o n c e hn;omega),fun b o n c e hn=>by have:=HFR.out b o n c e hn;omega⟩,⟨(Sl.of_own HO5.out rfl).set33 (fun b o n c e hn=>by have:=F1.out b o n c e hn;omega),fun b o n c e hn=>by have:=F1.out b o n c e hn;omega⟩,yao (yao (yao (yao (yao (yao HBW5.out om) om) om) om) om) om⟩):q:=h
theorem yab.upto {F G:List Nat} {w w':World} (h:yab G w w') (hG:∀x∈G,x∈F∨w.heap.size≤x):yab F w w' :=
 ⟨h.os,h.tape,h.output,h.size,fun k hk hn=>h.block k hk (fun hm=>by
  rcases hG k hm with h1 | h1
  ·exact hn h1
  ·omega)⟩
def Rd (F:List Nat) (w:World) (φ:World→Prop):Prop:=∀W,yab F w W→φ W
theorem Rd.now {F:List Nat} {w:World} {φ:World→Prop} (h:Rd F w φ):φ w:=h w (yab.refl _ _)
theorem Rd.step {F F' G:List Nat} {w w':World} {φ:World→Prop} (h:Rd F w φ) (hk:yab G w w') (hG:∀x∈G,x∈F∨w.heap.size≤x) (hF:∀x∈F',x∈F∨w.heap.size≤x):Rd F' w' φ :=
 fun W hW=>h W ((hk.upto hG).trans hW hF)
theorem Rd.below {F F':List Nat} {w w':World} {φ:World→Prop} (h:Rd F w φ) (hb:Below w.heap.size w w') (hF:∀x∈F',x∈F∨w.heap.size≤x):Rd F' w' φ :=
 h.step (G:=[]) (yab.of_below hb) (fun x hx=>by cases hx) hF
theorem Rd.imp {F:List Nat} {w:World} {φ ψ:World→Prop} (h:Rd F w φ) (hi:∀W,φ W→ψ W):Rd F w ψ:=fun W hW=>hi W (h W hW)
theorem Rd.and {F:List Nat} {w:World} {φ ψ:World→Prop} (h:Rd F w φ) (k:Rd F w ψ):Rd F w (fun W=>φ W∧ψ W):=fun W hW=>⟨h W hW,k W hW⟩
theorem Sl.rd {F:List Nat} {k:IntKind} {w:World} {v:Value} {xs:List Int} (h:Sl k w v xs) (ho:OffF F v):Rd F w (fun W=>Sl k W v xs):=fun _ hW=>h.keep hW ho
theorem TrS.rd {F:List Nat} {w:World} {v:Value} {l:List (Int×Bool)} (h:TrS w v l) (ho:OffF F v):Rd F w (fun W=>TrS W v l):=fun _ hW=>h.keep hW ho
theorem LnS.rd {F:List Nat} {w:World} {v:Value} {l:List (Int×Int×Int)} (h:LnS w v l) (ho:OffF F v):Rd F w (fun W=>LnS W v l):=fun _ hW=>h.keep hW ho
theorem R5S.rd {F:List Nat} {w:World} {v:Value} {l:List R5} (h:R5S w v l) (ho:OffF F v):Rd F w (fun W=>R5S W v l):=fun _ hW=>Fl.keep h hW ho
theorem Fl.rd {F:List Nat} {m n:Nat} {w:World} {v:Value} {cs:List Value} (h:Fl m n w v cs) (ho:OffF F v):Rd F w (fun W=>Fl m n W v cs):=fun _ hW=>h.keep hW ho
theorem yap {F:List Nat} {w w':World} {base:Nat} {e:TypeId} {m n:Nat} {v:Value} {cs:List Value} (h:w.ownsRow base e m v n cs) (hk:yab F w w') (ho:∀b,v.ownBlock=some b→b∉F):w'.ownsRow base e m v n cs:= by
 refine ⟨h.1,?_⟩;rcases h.2 with h1 | ⟨g,cap,cur,rfl,hb,hg,r⟩
 ·exact .inl h1
 ·exact .inr ⟨g,cap,cur,rfl,hb,(hk.block g (Array.getElem?_eq_some_iff.1 hg).1 (ho g rfl)).trans hg,r⟩
theorem Fr.off {F:List Nat} {w:World} {v:Value} (h:Fr w v) (hF:∀x∈F,x<w.heap.size):OffF F v:=fun b o n c e hn hb=>by have:=h b o n c e hn;have:=hF b hb;omega
theorem yvm {w w':World} {e:TypeId} {m n:Nat} {v:Value} {cs:List Value} (h:w'.ownsRow w.heap.size e m v n cs):Fr w v:=fun b o k c ev _=>ya1 h b o k c ev
theorem Fl.offNew {m n':Nat} {w:World} {v:Value} {cs:List Value} (h:Fl m n' w v cs) (hm:0<m) {F:List Nat} (hF:∀x∈F,w.heap.size≤x):OffF F v:=fun b o n c e hn hb=>by
 obtain ⟨hl,_,ao,cap,e2,h1,h2,h3⟩:=h;rw [e] at e2;cases e2;obtain ⟨b',o',e3,hc⟩:=h3 hn;cases e3;have hp:=Nat.mul_pos hn hm;have h4:=hc 0 hp;rw [List.getElem?_eq_getElem (by rw [hl];exact hp)] at h4;have:=yac h4;have:=hF b hb;omega
def ycb (s:St) (lv:Value):List Value:=[iV s.n,iV s.fr,iV s.til,iV s.du,lv,iV s.tot,iV s.cr,iV s.mn,.bool s.g]
def yay:List St→List Value→List Value
 | s::l,v::vs=>ycb s v++yay l vs
 | _,_=>[]
def LnsS (w:World):List St→List Value→Prop
 | [],[]=>True
 | s::l,v::vs=>LnS w v s.ls∧LnsS w l vs
 | _,_=>False
def St0:St:=⟨0,0,0,0,[],0,0,0,false⟩
theorem LnsS.length {w:World}:∀{l:List St} {vs:List Value},LnsS w l vs→vs.length=l.length
 | [],[],_=>rfl
 | _::_,_::_,h=>by simp [h.2.length]
 | [],_::_,h=>h.elim
 | _::_,[],h=>h.elim
theorem LnsS.imp {w w':World}:∀{l:List St} {vs:List Value},LnsS w l vs→(∀v∈vs,∀ls,LnS w v ls→LnS w' v ls)→LnsS w' l vs
 | [],[],_,_=>trivial
 | _::_,v::_,h,k=>⟨k v (List.mem_cons_self ..) _ h.1,h.2.imp fun u hu=>k u (List.mem_cons_of_mem _ hu)⟩
 | [],_::_,h,_=>h.elim
 | _::_,[],h,_=>h.elim
theorem LnsS.below {w w':World} {l:List St} {vs:List Value} (h:LnsS w l vs) (hb:Below w.heap.size w w'):LnsS w' l vs:=h.imp fun _ _ _ k=>k.below hb
theorem LnsS.keep {F:List Nat} {w w':World} {l:List St} {vs:List Value} (h:LnsS w l vs) (hk:yab F w w') (ho:∀v∈vs,OffF F v):LnsS w' l vs:=h.imp fun v hv _ k=>k.keep hk (ho v hv)
theorem LnsS.rd {F:List Nat} {w:World} {l:List St} {vs:List Value} (h:LnsS w l vs) (ho:∀v∈vs,OffF F v):Rd F w (fun W=>LnsS W l vs):=fun _ hW=>h.keep hW ho
theorem LnsS.append {w:World}:∀{l m:List St} {vs us:List Value},LnsS w l vs→LnsS w m us→LnsS w (l++m) (vs++us)
 | [],_,[],_,_,k=>k
 | _::_,_,_::_,_,h,k=>⟨h.1,h.2.append k⟩
 | [],_,_::_,_,h,_=>h.elim
 | _::_,_,[],_,h,_=>h.elim
theorem LnsS.get {w:World}:∀{l:List St} {vs:List Value},LnsS w l vs→∀{i:Nat},i<l.length→LnS w (vs.getD i (sZ)) (l.getD i St0).ls
 | [],[],_,i,hi=>absurd hi (Nat.not_lt_zero i)
 | _::_,_::_,h,0,_=>h.1
 | _::l,_::vs,h,i+1,hi=>by simpa using h.2.get (i:=i) (by simpa using hi)
 | [],_::_,h,_,_=>h.elim
 | _::_,[],h,_,_=>h.elim
theorem LnsS.drop {w:World}:∀{l:List St} {vs:List Value} (k:Nat),LnsS w l vs→LnsS w (l.drop k) (vs.drop k)
 | _,_,0,h=>h
 | [],[],_+1,_=>trivial
 | _::_,_::_,k+1,h=>LnsS.drop k h.2
 | [],_::_,_,h=>h.elim
 | _::_,[],_,h=>h.elim
theorem yds:∀{l m:List St} {vs us:List Value},vs.length=l.length→yay (l++m) (vs++us)=yay l vs++yay m us
 | [],_,[],_,_=>rfl
 | _::_,_,_::_,_,h=>by simp [yay,yds (by simpa using h)]
 | [],_,_::_,_,h=>by simp at h
 | _::_,_,[],_,h=>by simp at h
theorem LnS.one {w:World} {v:Value} {l:List (Int×Int×Int)} (h:LnS w v l):v.oneCell'=true:= by
 obtain ⟨ao,cap,rfl,_⟩:=h;rfl
theorem LnsS.one {w:World}:∀{l:List St} {vs:List Value},LnsS w l vs→∀c∈yay l vs,c.oneCell'=true
 | [],[],_,c,hc=>by simp [yay] at hc
 | s::l,v::vs,h,c,hc=>by
  simp only [yay,List.mem_append] at hc;rcases hc with hc | hc
  ·simp only [ycb,List.mem_cons,List.not_mem_nil,or_false] at hc
   rcases hc with rfl | rfl | rfl | rfl | rfl | rfl | rfl | rfl | rfl <;> first | rfl | exact h.1.one
  ·exact h.2.one c hc
 | [],_::_,h,_,_=>h.elim
 | _::_,[],h,_,_=>h.elim
theorem ykc {l:List St} {vs:List Value} (h:vs.length=l.length) {i:Nat} (hi:i<l.length) (j:Nat) (hj:j<9):(yay l vs)[i*9+j]?=(ycb (l.getD i St0) (vs.getD i (sZ)))[j]?:= by
 induction l generalizing vs i with
 | nil=>simp at hi
 | cons s l ih =>
  cases vs with
  | nil=>simp at h
  | cons v vs =>
   have hl:(ycb s v).length=9:=rfl;cases i with
   | zero =>
    simp only [yay,Nat.zero_mul,Nat.zero_add,List.getD_cons_zero];exact List.getElem?_append_left om
   | succ i =>
    have h2:=ih (vs:=vs) (by simpa using h) (i:=i) (by simpa using hi);simp only [yay,List.getD_cons_succ];rw [List.getElem?_append_right om,hl,show (i+1)*9+j-9=i*9+j by omega];exact h2
theorem yny {l:List St} {vs:List Value} (h:vs.length=l.length) (k:Nat):(yay l vs).drop (k*9)=yay (l.drop k) (vs.drop k):= by
 induction l generalizing vs k with
 | nil=>cases vs <;> simp [yay] at *
 | cons s l ih =>
  cases vs with
  | nil=>simp at h
  | cons v vs =>
   cases k with
   | zero=>simp
   | succ k =>
    have hl:(ycb s v).length=9:=rfl;have e:(k+1)*9=(ycb s v).length+k*9:=by rw [hl];omega
    simp only [yay,List.drop_succ_cons];rw [e,←List.drop_drop,List.drop_left];exact ih (by simpa using h) k
def StV (w:World) (v:Value) (l:List St) (vs:List Value):Prop:=LnsS w l vs∧Fl 9 l.length w v (yay l vs)
def StS (w:World) (v:Value) (l:List St):Prop:=∃vs,StV w v l vs
theorem StV.below {w w':World} {v:Value} {l:List St} {vs:List Value} (h:StV w v l vs) (hb:Below w.heap.size w w'):StV w' v l vs:=⟨h.1.below hb,h.2.below hb⟩
theorem StS.below {w w':World} {v:Value} {l:List St} (h:StS w v l) (hb:Below w.heap.size w w'):StS w' v l:=⟨h.choose,h.choose_spec.below hb⟩
theorem StV.rd {F:List Nat} {w:World} {v:Value} {l:List St} {vs:List Value} (h:StV w v l vs) (ho:OffF F v) (hv:∀u∈vs,OffF F u):Rd F w (fun W=>StV W v l vs):=(h.1.rd hv).and (h.2.rd ho)
theorem StS.shape {w:World} {v:Value} {l:List St} (h:StS w v l):∃ao cap,v=.slice ao l.length cap:=h.choose_spec.2.shape
theorem StS.get {w:World} {ao:Option Addr} {n cap:Nat} {l:List St} (h:StS w (.slice ao n cap) l) {i:Nat} (hi:i<l.length) :
 ∃b o s lv,ao=some ⟨b,o,none⟩∧(w.cell? ⟨b,o+i*9,none⟩=some (iV s.n)∧w.cell? ⟨b,o+i*9+1,none⟩=some (iV s.fr)∧w.cell? ⟨b,o+i*9+2,none⟩=some (iV s.til)∧w.cell? ⟨b,o+i*9+3,none⟩=some (iV s.du)∧w.cell? ⟨b,o+i*9+4,none⟩=some lv∧w.cell? ⟨b,o+i*9+5,none⟩=some (iV s.tot)∧w.cell? ⟨b,o+i*9+6,none⟩=some (iV s.cr)∧w.cell? ⟨b,o+i*9+7,none⟩=some (iV s.mn)∧w.cell? ⟨b,o+i*9+8,none⟩=some (.bool s.g))∧LnS w lv s.ls∧Hid (l.getD i St0=s):= by
 obtain ⟨vs,h1,h2⟩:=h;obtain rfl:=h2.len.1;have hg:=fun j hj=>ykc h1.length hi j hj;obtain ⟨b,o,e,_⟩:=h2.at (i:=i*9) (show i*9<l.length*9 by omega);refine ⟨b,o,_,vs.getD i (sZ),e,?_,h1.get hi,rfl⟩
 have hc:∀j,j<9→w.cell? ⟨b,o+(i*9+j),none⟩=(ycb (l.getD i St0) (vs.getD i (sZ)))[j]?:=fun j hj=>by
  obtain ⟨b',o',e',hc⟩:=h2.at (i:=i*9+j) (show i*9+j<l.length*9 by omega);rw [e] at e';cases e';exact hc.trans (hg j hj)
 refine ⟨?_,?_,?_,?_,?_,?_,?_,?_,?_⟩
 ·simpa [ycb] using hc 0 om
 ·simpa [ycb,Nat.add_assoc] using hc 1 om
 ·simpa [ycb,Nat.add_assoc] using hc 2 om
 ·simpa [ycb,Nat.add_assoc] using hc 3 om
 ·simpa [ycb,Nat.add_assoc] using hc 4 om
 ·simpa [ycb,Nat.add_assoc] using hc 5 om
 ·simpa [ycb,Nat.add_assoc] using hc 6 om
 ·simpa [ycb,Nat.add_assoc] using hc 7 om
 ·simpa [ycb,Nat.add_assoc] using hc 8 om
theorem StS.of_own {w:World} {base:Nat} {e:TypeId} {v:Value} {l:List St} {vs:List Value} (h:w.ownsRow base e 9 v l.length (yay l vs)) (hl:LnsS w l vs):StS w v l:=⟨vs,hl,Fl.of_own h hl.one⟩
theorem yz2 {P : Program} {f : FuncId} {fn : Func} (hf : P.funcs[f]? = some fn) (hn : (fn.name == "runtime.NumGoroutine") = false) (hb : fn.body.isNone = false) : ∀ args w, (callFunc f args).run P w = .ok (.enter f args) w := by
 intro args w;simp [callFunc,go_sem,hf];simp at hn;simp [hn];intro h;rw [h] at hb;cases hb
theorem yuj (f:Nat) (ts:Int→Bool) (HE:∀args w,(callFunc f args).run Tryz.prog w=.ok (.enter f args) w) (HC:∀x w,Calls Tryz.prog f #[iV x] w (Ret (.bool (ts x)) w)) (v:Value) (xs:List Int) (r0:Bool) (hr0:Hid (xs.any ts=r0)) (w:World) (hv:Sl .i64 w v xs) :
 Calls Tryz.prog 231 #[v,.func (.func f) #[] #[]] w (fun e w'=>∃r:Int,e=.returned (iV r)∧decide (0≤r)=r0∧w=w'):= by
 have HV:=lh hv;obtain ⟨ao,cap,rfl,h1,⟨h2,_⟩,h3⟩:=hv;clear h3;unfold maxLen at h2;have HCH:=lh HC;have HEE:=lh HE;clear HE;clear HC
 go_enter Tryz.func231,Tryz.ntmps231
 go_wp2
 go_loopg [8] xs.length (fun g i wr=>∃k:Nat,k+g=xs.length∧i=iV k∧w=wr∧Hid (∀j,j<k→ts (xs.getD j 0)=false))
 case atStart=>exact ⟨0,by omega,rfl,rfl,fun j hj=>absurd hj om⟩
 case round =>
  obtain ⟨k,hkg,rfl,rfl,HN⟩:=hrel;cases gk with
  | zero =>
   have hlt:¬((k:Int)<(xs.length:Int)):=by omega
   go_wp2
   go_ret
   refine ⟨-1,rfl,?_,rfl⟩;rw [←hr0.out];simp only [show decide ((0:Int) ≤ -1)=false from by decide]
   symm
   rw [List.any_eq_false];intro y hy;obtain ⟨j,hj,rfl⟩:=List.getElem_of_mem hy;have:=HN.out j om
   simpa [List.getD,hj] using this
  | succ g =>
   have hlt:(k:Int)<(xs.length:Int):=by omega
   have hkn:k<xs.length:=by omega
   obtain ⟨b,o,x,rfl,hcell,hx⟩:=HV.out.get (i:=k) hkn
   go_wp2_with fail
   rw [HEE.out,Oper.upon_enter];refine (HCH.out x w).mono ?_;rintro _ w' ⟨rfl,rfl⟩;cases hp:ts x with
   | true =>
    have HP:=lh hp;clear hp
    go_wp2_with fail
    go_ret
    refine ⟨k,rfl,?_,rfl⟩;rw [←hr0.out]
    have e1:xs.any ts=true:= by
     rw [List.any_eq_true];refine ⟨x,?_,HP.out⟩;rw [←hx.out];simp [List.getD,hkn]
    rw [e1];simp
   | false =>
    have HP:=lh hp;clear hp
    go_wp2_with fail
    go_roundg g
    case measure=>omega
    case rel=>exact ⟨k+1,by omega,by go_num,rfl,fun j hj=>by
     rcases Nat.lt_succ_iff_lt_or_eq.1 hj with h' | rfl
     ·exact HN.out j h'
     ·rw [hx.out];exact HP.out⟩
theorem yey (f:Nat) (ts:Int→Bool) (HE:∀args w,(callFunc f args).run Tryz.prog w=.ok (.enter f args) w) (HC:∀x w,Calls Tryz.prog f #[iV x] w (Ret (.bool (ts x)) w)) (v:Value) (xs:List Int) (r0:Bool) (hr0:Hid (xs.any ts=r0)) (w:World) (hv:Sl .i64 w v xs) :
 Calls Tryz.prog 210 #[v,.func (.func f) #[] #[]] w (Ret (.bool r0) w):= by
 cases r0
 all_goals
  go_enter Tryz.func210,Tryz.ntmps210
  go_wp2_with fail
  refine (yuj f ts HE HC v xs _ hr0 _ hv).mono ?_;rintro e w' ⟨r,rfl,hr,rfl⟩
  go_wp2_with fail
  go_ret
  exact Ret.mk _ _
theorem ykr (x:Int) (w:World):Calls Tryz.prog 211 #[iV x] w (Ret (.bool (ybg x)) w):= by
 by_cases h1:x<0
 ·exact zq264e20
 ·by_cases h2:10000000<x
  ·exact zq264e20
  ·have e:ybg x=false:=by simp [ybg];omega
   rw [e]
   go_enter Tryz.func211,Tryz.ntmps211
   go_wp2_with fail
   go_ret
   exact Ret.mk _ _
theorem yru:∀args w,(callFunc 211 args).run Tryz.prog w=.ok (.enter 211 args) w:=yz2 Tryz.func211 kr kr
theorem yr6 {bs rs:List Int} {cr du a b c d e:Int} {r:Bool} (h:mayA ⟨bs,cr,du⟩ rs ⟨a,b,c,d,e⟩=r) :
 (yat bs cr du=false∧r=false)∨(yat bs cr du=true∧rs.length≠bs.length∧r=false)∨(yat bs cr du=true∧rs.length=bs.length∧rs.any ybg=true∧r=false) ∨
 (yat bs cr du=true∧rs.length=bs.length∧rs.any ybg=false∧((a<1∧r=false)∨(6<a∧r=false)∨(a=2∧r=true)∨(1≤a∧a≤6∧a≠2∧c<1∧r=false)∨(1≤a∧a≤6∧a≠2∧1≤c∧(rs.length:Int)<c∧r=false) ∨
  (1≤a∧a≤5∧a≠2∧1≤c∧c≤(rs.length:Int)∧r=true)∨(a=6∧1≤c∧c≤(rs.length:Int)∧d<0∧r=false)∨(a=6∧1≤c∧c≤(rs.length:Int)∧10000000<d∧r=false)∨(a=6∧1≤c∧c≤(rs.length:Int)∧0≤d∧d≤10000000∧r=true))):= by
 unfold mayA at h;simp only at h;cases h1:yat bs cr du with
 | false=>rw [h1] at h;exact .inl ⟨rfl,by rw [←h];rfl⟩
 | true =>
  refine .inr ?_
  by_cases h2:rs.length=bs.length
  ·refine .inr ?_
   cases h3:rs.any ybg with
   | true=>exact .inl ⟨rfl,h2,rfl,by rw [←h,h3];simp⟩
   | false =>
    refine .inr ⟨rfl,h2,rfl,?_⟩;rw [h1,h3] at h;simp only [h2,beq_self_eq_true,Bool.true_and,Bool.not_false] at h ⊢
    by_cases k1:a<1
    ·exact .inl ⟨k1,by rw [←h];simp;omega⟩
    ·by_cases k2:6<a
     ·exact .inr (.inl ⟨k2,by rw [←h];simp;omega⟩)
     ·by_cases k3:a=2
      ·exact .inr (.inr (.inl ⟨k3,by rw [←h,k3];simp⟩))
      ·by_cases k4:c<1
       ·exact .inr (.inr (.inr (.inl ⟨by omega,by omega,k3,k4,by rw [←h];simp;omega⟩)))
       ·by_cases k5:(bs.length:Int)<c
        ·exact .inr (.inr (.inr (.inr (.inl ⟨by omega,by omega,k3,by omega,k5,by rw [←h];simp;omega⟩))))
        ·by_cases k6:a=6
         ·by_cases k7:d<0
          ·exact .inr (.inr (.inr (.inr (.inr (.inr (.inl ⟨k6,by omega,by omega,k7,by rw [←h];simp;omega⟩))))))
          ·by_cases k8:10000000<d
           ·exact .inr (.inr (.inr (.inr (.inr (.inr (.inr (.inl ⟨k6,by omega,by omega,k8,by rw [←h];simp;omega⟩)))))))
           ·exact .inr (.inr (.inr (.inr (.inr (.inr (.inr (.inr ⟨k6,by omega,by omega,by omega,by omega,by rw [←h];simp;omega⟩)))))))
         ·exact .inr (.inr (.inr (.inr (.inr (.inl ⟨by omega,by omega,k3,by omega,by omega,by rw [←h];simp;omega⟩)))))
  ·exact .inl ⟨rfl,h2,by rw [←h];simp [h2]⟩
theorem yw4 (p:Ps) (pv rv:Value) (rs:List Int) (x:R5) (r:Bool) (hr:Hid (mayA p rs x=r)) (hlen:p.bs.length≤1000) (w:World) (hp:Sl .i64 w pv p.bs) (hv:Sl .i64 w rv rs) :
 Calls Tryz.prog 179 #[.agg #[pv,iV p.c,iV p.d],rv,.agg #[iV x.a,iV x.b,iV x.c,iV x.d,iV x.e]] w (RetB (.bool r) w):= by
 obtain ⟨bs,cr,du⟩:=p;obtain ⟨a,b,c,d,e⟩:=x;simp only at hr hlen hp ⊢;have hways:=yr6 hr.out;clear hr;have HP:=lh hp;have HR:=lh hv;obtain ⟨po,pc,rfl,_⟩:=hp;obtain ⟨ro,rc,rfl,rl1,⟨rl2,_⟩,_⟩:=hv;unfold maxLen at rl2;rcases hways with ⟨h1,rfl⟩ | ⟨h1,h2,rfl⟩ | ⟨h1,h2,h3,rfl⟩ | ⟨h1,h2,h3,hw⟩
 ·have H1:=lh h1
  clear h1
  go_enter Tryz.func179,Tryz.ntmps179
  go_wp2_with fail
  refine (ya0 _ bs cr du _ H1 om _ (HP.out.below bL)).mono ?_;rintro _ w1 ⟨rfl,hb1⟩;have HB:=lh (yad (yaa (yaa bR _) _) hb1);clear hb1
  go_wp2_with fail
  go_ret
  exact ⟨rfl,HB.out⟩
 ·have H1:=lh h1
  have hne:((rs.length:Int) != (bs.length:Int))=true:=by simp;omega
  clear h1 h2
  go_enter Tryz.func179,Tryz.ntmps179
  go_wp2_with fail
  refine (ya0 _ bs cr du _ H1 om _ (HP.out.below bL)).mono ?_;rintro _ w1 ⟨rfl,hb1⟩;have HB:=lh (yad (yaa (yaa bR _) _) hb1);have hcell:w1.cell? ⟨w.heap.size,0,none⟩=some (.slice po bs.length pc):=(((yae w [.slice po bs.length pc,iV cr,iV du] 35 _ rfl).below (yaa bR _)).below hb1).cell 0;clear hb1
  go_wp2_with fail
  go_ret
  exact ⟨rfl,HB.out⟩
 ·have H1:=lh h1
  have H3:=lh h3;have hne:((rs.length:Int) != (bs.length:Int))=false:=by simp;omega
  clear h1 h2 h3
  go_enter Tryz.func179,Tryz.ntmps179
  go_wp2_with fail
  refine (ya0 _ bs cr du _ H1 om _ (HP.out.below bL)).mono ?_;rintro _ w1 ⟨rfl,hb1⟩;have HB:=lh (yad (yaa (yaa bR _) _) hb1);have hcell:w1.cell? ⟨w.heap.size,0,none⟩=some (.slice po bs.length pc):=(((yae w [.slice po bs.length pc,iV cr,iV du] 35 _ rfl).below (yaa bR _)).below hb1).cell 0;clear hb1
  go_wp2_with fail
  refine (yey _ ybg yru ykr _ rs _ H3 _ (HR.out.below HB.out)).mono ?_;rintro _ w2 ⟨rfl,rfl⟩
  go_wp2_with fail
  go_ret
  exact ⟨rfl,HB.out⟩
 ·have H1:=lh h1
  have H3:=lh h3;have hne:((rs.length:Int) != (bs.length:Int))=false:=by simp;omega
  clear h1 h2 h3
  go_enter Tryz.func179,Tryz.ntmps179
  go_wp2_with fail
  refine (ya0 _ bs cr du _ H1 om _ (HP.out.below bL)).mono ?_;rintro _ w1 ⟨rfl,hb1⟩;have HB:=lh (yad (yaa (yaa bR _) _) hb1);have hcell:w1.cell? ⟨w.heap.size,0,none⟩=some (.slice po bs.length pc):=(((yae w [.slice po bs.length pc,iV cr,iV du] 35 _ rfl).below (yaa bR _)).below hb1).cell 0;have HE:Hid (Blk w1 (w.heap.size+1) 150 [iV a,iV b,iV c,iV d,iV e]):=(yae (w.alloc _) [iV a,iV b,iV c,iV d,iV e] 150 _ (by simp)).below hb1;clear hb1
  go_wp2_with fail
  refine (yey _ ybg yru ykr _ rs _ H3 _ (HR.out.below HB.out)).mono ?_;rintro _ w2 ⟨rfl,rfl⟩;have e0:=HE.out.cell 0;have e2:=HE.out.cell 2;have e3:=HE.out.cell 3;simp only [gz,gs] at e0 e2 e3;rcases hw with ⟨k1,rfl⟩ | ⟨k1,rfl⟩ | ⟨rfl,rfl⟩ | ⟨k1,k2,k3,k4,rfl⟩ | ⟨k1,k2,k3,k4,k5,rfl⟩ | ⟨k1,k2,k3,k4,k5,rfl⟩ | ⟨rfl,k4,k5,k6,rfl⟩ | ⟨rfl,k4,k5,k6,rfl⟩ | ⟨rfl,k4,k5,k6,k7,rfl⟩
  all_goals
   try have hd10:decide (d≤10000000)=false:=(by simp;omega)
   try have hn2:(a != 2)=true:=(by simpa using k3)
   try have hn6:(a != 6)=true:=(by simp;omega)
   go_wp2_with fail
   go_ret
   exact ⟨rfl,HB.out⟩
def ywp (R:Ps×List Int×Int) (w:World) (e:Ending) (w':World):Prop :=
 ∃u v,e=.returned (.tuple #[.agg #[u,iV R.1.c,iV R.1.d],v,iV R.2.2])∧(Sl .i64 w' u R.1.bs∧Fr w u)∧(Sl .i64 w' v R.2.1∧Fr w v)∧Below w.heap.size w w'
theorem yxi {w:World} {base q n cap:Nat} {e:TypeId} {l:List Int} (h:w.ownsRow base e 1 (.slice (some ⟨q,0,none⟩) n cap) n (l.map (Value.int .i64))) (i:Nat) (v:Int) :
 (w.setCell ⟨q,i,none⟩ (iV v)).ownsRow base e 1 (.slice (some ⟨q,0,none⟩) n cap) n ((l.set i v).map (Value.int .i64)):= by
 obtain ⟨cur,hC,h1,h2,h3,h4,h5⟩:=ya8 h;refine yct (hC.set i (iV v)) h5 h1 h2 (by rw [List.length_set];exact h3) ?_;rw [List.take_set,h4,List.map_set]
theorem Sl.set33 {w:World} {v:Value} {xs:List Int} {g1 g2:Nat} {x0 x1 x2 y0 y1 y2:Value} (h:Sl .i64 w v xs) (h1:∀b o n c,v=.slice (some ⟨b,o,none⟩) n c→0<n→g1<b∧g2<b) :
 Sl .i64 ((((((w.setCell ⟨g1,0,none⟩ x0).setCell ⟨g1,1,none⟩ x1).setCell ⟨g1,2,none⟩ x2).setCell ⟨g2,0,none⟩ y0).setCell ⟨g2,1,none⟩ y1).setCell ⟨g2,2,none⟩ y2) v xs:= by
 have k1:∀b o n c,v=.slice (some ⟨b,o,none⟩) n c→0<n→b≠g1:=fun b o n c e hn=>by have:=h1 b o n c e hn;omega
 have k2:∀b o n c,v=.slice (some ⟨b,o,none⟩) n c→0<n→b≠g2:=fun b o n c e hn=>by have:=h1 b o n c e hn;omega
 exact (((((h.setCell k1 _).setCell k1 _).setCell k1 _).setCell k2 _).setCell k2 _).setCell k2 _
theorem ywx {p:Ps} {rs:List Int} {x:R5} (h:mayA p rs x=true):rs.length=p.bs.length∧rs.any ybg=false∧(x.a=1∨x.a=5∨x.a=2∨x.a=3∨x.a=4∨(x.a=6∧1≤x.c∧x.c≤(rs.length:Int))):= by
 rcases yr6 h with ⟨_,h0⟩ | ⟨_,_,h0⟩ | ⟨_,_,_,h0⟩ | ⟨_,h2,h3,hw⟩
 ·cases h0
 ·cases h0
 ·cases h0
 refine ⟨h2,h3,?_⟩;rcases hw with ⟨_,h0⟩ | ⟨_,h0⟩ | ⟨k,_⟩ | ⟨_,_,_,_,h0⟩ | ⟨_,_,_,_,_,h0⟩ | ⟨k1,k2,k3,_⟩ | ⟨_,_,_,_,h0⟩ | ⟨_,_,_,_,h0⟩ | ⟨k,k2,k3,_⟩
 all_goals first | (cases h0;done) | (right;right;right;right;right;exact ⟨k,k2,k3⟩) | omega
theorem yvw {p:Ps} {rs:List Int} {x:R5} (h:mayA p rs x=true) {sb:List Int} {sc sd se:Int} (hs:posS p rs x=(sb,sc,sd,se)) :
 ybi p rs x=if se=0 then (⟨sb,sc,sd⟩,yjc rs x,0) else (ps0,[],se):= by
 unfold ybi;rw [if_neg (by rw [h];simp),hs]
 by_cases e:se=0
 ·rw [if_neg (by simpa using e),if_pos e];rfl
 ·rw [if_pos e,if_neg e]
theorem yo8 (p:Ps) (pv rv:Value) (rs:List Int) (x:R5) (R:Ps×List Int×Int) (hR:Hid (ybi p rs x=R)) (hlen:p.bs.length≤1000) (hrl:rs.length≤1000) (w:World) (hp:Sl .i64 w pv p.bs) (hv:Sl .i64 w rv rs) :
 Calls Tryz.prog 138 #[.agg #[pv,iV p.c,iV p.d],rv,.agg #[iV x.a,iV x.b,iV x.c,iV x.d,iV x.e]] w (ywp R w):= by
 have HP:=lh hp;have HR:=lh hv;obtain ⟨m,hm⟩:∃m,mayA p rs x=m:=⟨_,rfl⟩;have HM:=lh hm;clear hm;obtain ⟨po,pc,rfl⟩:=hp.shape;obtain ⟨ro,rc,rfl⟩:=hv.shape;clear hp hv
 go_enter Tryz.func138,Tryz.ntmps138
 go_wp2_with fail
 refine (yw4 p _ _ rs x m HM hlen _ (HP.out.below bL) (HR.out.below bL)).mono ?_;rintro _ w1 ⟨rfl,hb1⟩;have HB1:Hid (Below w.heap.size w w1):=yad (yaa (yaa (yaa bR _) _) _) hb1;have HX1:Hid (Blk w1 w.heap.size 35 [.slice po p.bs.length pc,iV p.c,iV p.d]):=((yae w [.slice po p.bs.length pc,iV p.c,iV p.d] 35 _ rfl).below (yaa (yaa bR _) _)).below hb1;have HX2:Hid (Blk w1 (w.heap.size+1) 150 [iV x.a,iV x.b,iV x.c,iV x.d,iV x.e]):=((yae (w.alloc _) [iV x.a,iV x.b,iV x.c,iV x.d,iV x.e] 150 _ (by simp)).below (yaa bR _)).below hb1;have HX3:Hid (Blk w1 (w.heap.size+1+1) 35 [sZ,iZ,iZ]):=(yae ((w.alloc _).alloc _) [sZ,iZ,iZ] 35 _ (by simp)).below hb1;clear hb1;cases m with
 | false =>
  have e:R=(ps0,[],1):=by rw [←hR.out];unfold ybi;rw [if_pos HM.out]
  subst e;have r0:=HX3.out.cell 0;have rf0:=HX3.out.frozen 0;have r1:=HX3.out.cell 1;have rf1:=HX3.out.frozen 1;have r2:=HX3.out.cell 2;have rf2:=HX3.out.frozen 2;simp only [gz,gs] at r0 r1 r2
  go_wp2_with fail
  refine bodyPost_ret (v:=.tuple #[.agg #[sZ,iZ,iZ],sZ,iV 1]) (by simp [results,Tryz.results138,go_sem,r0,r1,r2]) rfl ⟨_,_,rfl,⟨Sl.nil,ycz⟩,⟨Sl.nil,ycz⟩,yao (yao (yao HB1.out om) om) om⟩
 | true =>
  have x0:=HX1.out.cell 0;have xf0:=HX1.out.frozen 0;have x1:=HX1.out.cell 1;have xf1:=HX1.out.frozen 1;have x2:=HX1.out.cell 2;have xf2:=HX1.out.frozen 2;simp only [gz,gs] at x0 x1 x2
  go_wp2_with fail
  refine (ydp _ rs _ (HR.out.below HB1.out) hrl).mono ?_;rintro _ w2 ⟨v1,rfl,ho1,hb2⟩;obtain ⟨o1,cp1,rfl⟩:=(Sl.of_own ho1 rfl).shape;have HO1:=lh ho1;have HB2:=lh hb2;have HY1:=lh (HX1.out.below hb2);clear ho1 hb2 x0 x1 x2 xf0 xf1 xf2;have x0:=HY1.out.cell 0;simp only [gz,gs] at x0
  go_wp2_with fail
  refine (ydp _ p.bs _ (HP.out.below (yad HB1.out HB2.out)) hlen).mono ?_;rintro _ w3 ⟨v2,rfl,ho2,hb3⟩;obtain ⟨o2,cp2,rfl⟩:=(Sl.of_own ho2 rfl).shape;have HO2:=lh ho2;have HB3:=lh hb3;have HZ1:=lh (HY1.out.below hb3);have HZ2:=lh ((HX2.out.below HB2.out).below hb3);clear ho2 hb3 x0;have x0:=HZ1.out.cell 0;have xf0:=HZ1.out.frozen 0;simp only [gz,gs] at x0;have e0:=HZ2.out.cell 0;simp only [gz,gs] at e0;go_upto_region 5 with fail
  obtain ⟨W,hW,A1,A2,A3,S1,S2,HBW,F1⟩:∃W,w3.setCell ⟨w.heap.size,0,none⟩ (.slice o2 p.bs.length cp2)=W∧Hid (Blk W w.heap.size 35 [.slice o2 p.bs.length cp2,iV p.c,iV p.d])∧Hid (Blk W (w.heap.size+1) 150 [iV x.a,iV x.b,iV x.c,iV x.d,iV x.e])∧Hid (Blk W (w.heap.size+1+1) 35 [sZ,iZ,iZ])∧Hid (W.ownsRow (w.heap.size+1+1) 2 1 (.slice o1 rs.length cp1) rs.length (rs.map (Value.int .i64)))∧Hid (Sl .i64 W (.slice o2 p.bs.length cp2) p.bs)∧Hid (Below w.heap.size w W)∧Hid (∀b o n c,(.slice o1 rs.length cp1:Value)=.slice (some ⟨b,o,none⟩) n c→0<n→w.heap.size+1+1<b):= by
   refine ⟨_,rfl,HZ1.out.set 0 _,HZ2.out.setOther om _ _,((HX3.out.below HB2.out).below HB3.out).setOther om _ _,?_,?_,yao (yad (yad HB1.out HB2.out) HB3.out) (Nat.le_refl _),fun b o n c e _=>by have:=ya1 HO1.out b o n c e;have:=HX3.out.lt;omega⟩
   ·have k:=HX3.out.lt
    refine yaz (yah (ygc HO1.out om) HB3.out) ?_ _;intro e;have:=(HO1.out.lt _ e.symm).1;omega
   ·refine (Sl.of_own HO2.out rfl).setCell ?_ _
    intro b o n c e _ hb;have:=ya1 HO2.out b o n c e;have:=HZ1.out.lt;have:=HY1.out.lt;omega
  with_reducible rw [hW]
  clear hW x0 xf0 e0;have e0:=A2.out.cell 0;have e2:=A2.out.cell 2;have e3:=A2.out.cell 3;have x0:=A1.out.cell 0;have x1:=A1.out.cell 1;have x2:=A1.out.cell 2;simp only [gz,gs] at e0 e2 e3 x0 x1 x2;obtain ⟨hlen2,hra,hkind⟩:=ywx HM.out;have HRA:=lh hra;have HLE:=lh hlen2;clear hra hlen2;obtain ⟨sb,sc,sd,se,hs⟩:∃sb sc sd se,posS p rs x=(sb,sc,sd,se):=⟨_,_,_,_,rfl⟩;have hRR:=hR.out;rw [yvw HM.out hs] at hRR;have HRR:=lh hRR;clear hRR hR;have HKK:=lh hkind
  by_cases h6:x.a=6
  ·have hs6:posS p rs x=(p.bs,p.c,p.d,0):= by
    unfold posS;rw [if_neg om,if_neg om,if_neg om]
   rw [hs] at hs6;cases hs6;have hrates:yjc rs x=rs.set (x.c-1).toNat x.d:=by unfold yjc;rw [if_pos h6]
   rw [hrates,if_pos rfl] at HRR;obtain ⟨NR,hNR⟩:∃NR,rs.set (x.c-1).toNat x.d=NR:=⟨_,rfl⟩;rw [hNR] at HRR;have hRR:=HRR.out;subst hRR;obtain ⟨k,hk⟩:∃k:Nat,x.c=(k:Int)+1:=⟨(x.c-1).toNat,by omega⟩;have hkl:k<rs.length:=by omega
   obtain ⟨q,cap,he⟩:=ya5 S1.out om;cases he;have ek:(x.c-1).toNat=k:=by omega
   rw [ek] at hNR;have HNR:=lh hNR;have HKL:=lh hkl;obtain ⟨cur,hC,hC1,hC2,hC3,hC4,hC5⟩:=ya8 S1.out;obtain ⟨vq,hq⟩:=hC.some (j:=k) om;have fq:=hC.frozen k;have kq:=hC.lt;have hqn:w.heap.size+1+1<q:=F1.out q 0 _ _ rfl om;rw [h6] at e0;rw [hk] at e2;have w1':wrap64 ((k:Int)+1-1)=(k:Int):=by rw [show (k:Int)+1-1=(k:Int) by omega];exact IntWalk.wrap64_in _ ⟨by omega,by omega⟩
   have hki:(k:Int)<(rs.length:Int):=by omega
   have xf0:=A1.out.frozen 0;have xf1:=A1.out.frozen 1;have xf2:=A1.out.frozen 2;have r0:=A3.out.cell 0;have r1:=A3.out.cell 1;have r2:=A3.out.cell 2;have rf0:=A3.out.frozen 0;have rf1:=A3.out.frozen 1;have rf2:=A3.out.frozen 2;simp only [gz,gs] at r0 r1 r2;have kr:w.heap.size+1+1<W.heap.size:=A3.out.lt;clear hNR hk h6 hkind hs hrates ek hC hC1 hC2 hC3 hC4 hC5 hkl;have ne1:¬q=w.heap.size:=by omega
   have ne2:¬q=w.heap.size+1+1:=by omega
   have ne3:¬w.heap.size=q:=by omega
   have ne4:¬w.heap.size+1+1=q:=by omega
   go_wp2_with fail
   have hSr:Sl .i64 ((((W.setCell ⟨q,k,none⟩ (iV x.d)).setCell ⟨w.heap.size+1+1,0,none⟩ (.slice o2 p.bs.length cp2)).setCell ⟨w.heap.size+1+1,1,none⟩ (iV p.c)).setCell ⟨w.heap.size+1+1,2,none⟩ (iV p.d)) (.slice (some ⟨q,0,none⟩) rs.length cp1) NR:= by
    rw [←HNR.out];have nq:∀b o n c,(.slice (some ⟨q,0,none⟩) rs.length cp1:Value)=.slice (some ⟨b,o,none⟩) n c→0<n→b≠w.heap.size+1+1:=fun b o n c e _=>by cases e;exact ne2
    exact (((Sl.of_own (yxi S1.out k x.d) (by simp)).setCell nq _).setCell nq _).setCell nq _
   have n2:∀b o n c,(.slice o2 p.bs.length cp2:Value)=.slice (some ⟨b,o,none⟩) n c→0<n→b≠w.heap.size+1+1∧b≠q:=fun b o n c e _=>by
    have h1:=ya1 HO2.out b o n c e;have h2:=HY1.out.lt;have h3:=HX3.out.below HB2.out;have h4:=h3.lt;have h5:=(HO1.out.lt q rfl).2;omega
   refine bodyPost_ret (v:=.tuple #[.agg #[.slice o2 p.bs.length cp2,iV p.c,iV p.d],.slice (some ⟨q,0,none⟩) rs.length cp1,iZ]) (by simp [results,Tryz.results138,go_sem,r0,r1,r2]) rfl ⟨_,_,rfl,⟨(((S2.out.setCell (fun b o n c e hn=>(n2 b o n c e hn).2) _).setCell (fun b o n c e hn=>(n2 b o n c e hn).1) _).setCell (fun b o n c e hn=>(n2 b o n c e hn).1) _).setCell (fun b o n c e hn=>(n2 b o n c e hn).1) _,fun b o n c e hn=>by have:=ya1 HO2.out b o n c e;have:=(HO1.out.lt q rfl).2;omega⟩,⟨hSr,fun b o n c e hn=>by cases e;omega⟩,yao (yao (yao (yao HBW.out om) om) om) om⟩
  ·have hsx:(x.a=1∨x.a=5)∧yh2 p.bs p.c p.d x.c x.d=(sb,sc,sd,se)∨x.a=2∧payS p.bs p.c p.d rs x.d=(sb,sc,sd,se)∨(x.a=3∨x.a=4)∧ytl p.bs p.c p.d rs x.c x.d=(sb,sc,sd,se):= by
    unfold posS at hs;rcases hkind with h | h | h | h | h | h
    ·rw [if_pos (.inl h)] at hs;exact .inl ⟨.inl h,hs⟩
    ·rw [if_pos (.inr h)] at hs;exact .inl ⟨.inr h,hs⟩
    ·rw [if_neg om,if_pos h] at hs;exact .inr (.inl ⟨h,hs⟩)
    ·rw [if_neg om,if_neg om,if_pos (.inl h)] at hs;exact .inr (.inr ⟨.inl h,hs⟩)
    ·rw [if_neg om,if_neg om,if_pos (.inr h)] at hs;exact .inr (.inr ⟨.inr h,hs⟩)
    ·exact absurd h.1 h6
   have hrates:yjc rs x=rs:=by unfold yjc;rw [if_neg h6]
   rw [hrates] at HRR;clear hs hrates h6 hkind;rcases hsx with ⟨hk,hs⟩ | ⟨hk,hs⟩ | ⟨hk,hs⟩
   ·have HS:=lh hs
    clear hs;rcases hk with hk | hk
    all_goals
     rw [hk] at e0;clear hk
     go_wp2_with fail
     refine (ykm _ p.bs p.c p.d x.c x.d _ HS hlen _ S2.out).mono ?_;rintro _ w5 ⟨u,rfl,⟨hu,hfr⟩,hb5⟩;simp only at hu;obtain ⟨uo,uc,rfl⟩:=hu.shape;have HU:=lh hu;have HFR:=lh hfr;have HB5:=lh hb5;have HP5:=lh (A1.out.below hb5);have HR5:=lh (A3.out.below hb5);have HO5:=lh (yah S1.out hb5);have HBW5:Hid (Below w.heap.size w w5):=yad HBW.out hb5;clear hu hfr hb5 e0 e2 e3 x0 x1 x2;have x0:=HP5.out.cell 0;have x1:=HP5.out.cell 1;have x2:=HP5.out.cell 2;have xf0:=HP5.out.frozen 0;have xf1:=HP5.out.frozen 1;have xf2:=HP5.out.frozen 2;have r0:=HR5.out.cell 0;have r1:=HR5.out.cell 1;have r2:=HR5.out.cell 2;have rf0:=HR5.out.frozen 0;have rf1:=HR5.out.frozen 1;have rf2:=HR5.out.frozen 2;simp only [gz,gs] at x0 x1 x2 r0 r1 r2
     by_cases hse:se=0
     ·exact zq267f1f
     ·exact zq268983
   ·have HS:=lh hs
    clear hs
    all_goals
     rw [hk] at e0;clear hk
     go_wp2_with fail
     refine (yoa _ _ p.bs rs p.c p.d x.d _ HS hlen _ S2.out (Sl.of_own S1.out rfl)).mono ?_;rintro _ w5 ⟨u,rfl,⟨hu,hfr⟩,hb5⟩;simp only at hu;obtain ⟨uo,uc,rfl⟩:=hu.shape;have HU:=lh hu;have HFR:=lh hfr;have HB5:=lh hb5;have HP5:=lh (A1.out.below hb5);have HR5:=lh (A3.out.below hb5);have HO5:=lh (yah S1.out hb5);have HBW5:Hid (Below w.heap.size w w5):=yad HBW.out hb5;clear hu hfr hb5 e0 e2 e3 x0 x1 x2;have x0:=HP5.out.cell 0;have x1:=HP5.out.cell 1;have x2:=HP5.out.cell 2;have xf0:=HP5.out.frozen 0;have xf1:=HP5.out.frozen 1;have xf2:=HP5.out.frozen 2;have r0:=HR5.out.cell 0;have r1:=HR5.out.cell 1;have r2:=HR5.out.cell 2;have rf0:=HR5.out.frozen 0;have rf1:=HR5.out.frozen 1;have rf2:=HR5.out.frozen 2;simp only [gz,gs] at x0 x1 x2 r0 r1 r2
     by_cases hse:se=0
     ·exact zq267f1f
     ·exact zq268983
   ·have HS:=lh hs
    clear hs;rcases hk with hk | hk
    all_goals
     rw [hk] at e0;clear hk
     go_wp2_with fail
     refine (ymz _ _ p.bs rs p.c p.d x.c x.d _ HS hlen _ S2.out (Sl.of_own S1.out rfl)).mono ?_;rintro _ w5 ⟨u,rfl,⟨hu,hfr⟩,hb5⟩;simp only at hu;obtain ⟨uo,uc,rfl⟩:=hu.shape;have HU:=lh hu;have HFR:=lh hfr;have HB5:=lh hb5;have HP5:=lh (A1.out.below hb5);have HR5:=lh (A3.out.below hb5);have HO5:=lh (yah S1.out hb5);have HBW5:Hid (Below w.heap.size w w5):=yad HBW.out hb5;clear hu hfr hb5 e0 e2 e3 x0 x1 x2;have x0:=HP5.out.cell 0;have x1:=HP5.out.cell 1;have x2:=HP5.out.cell 2;have xf0:=HP5.out.frozen 0;have xf1:=HP5.out.frozen 1;have xf2:=HP5.out.frozen 2;have r0:=HR5.out.cell 0;have r1:=HR5.out.cell 1;have r2:=HR5.out.cell 2;have rf0:=HR5.out.frozen 0;have rf1:=HR5.out.frozen 1;have rf2:=HR5.out.frozen 2;simp only [gz,gs] at x0 x1 x2 r0 r1 r2
     by_cases hse:se=0
     ·exact zq267f1f
     ·exact zq268983
end Go.Proofs.YtkongpjpkpfniaaGreat

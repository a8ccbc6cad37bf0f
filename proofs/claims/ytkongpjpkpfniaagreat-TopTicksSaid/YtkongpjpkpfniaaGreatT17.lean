/- TopTicks: parts of the proof, made small by a program (mini.py). -/
import Derived.Test.YtkongpjpkpfniaaGreatT01
import Derived.Test.YtkongpjpkpfniaaGreatT07
import Derived.Test.YtkongpjpkpfniaaGreatT09
import Derived.Test.YtkongpjpkpfniaaGreatT12
import Derived.Test.YtkongpjpkpfniaaGreatT14
import Derived.Test.YtkongpjpkpfniaaGreatT16
set_option linter.unusedVariables false
set_option linter.unusedSimpArgs false
set_option maxRecDepth 100000
set_option maxHeartbeats 6400000
namespace Go.Proofs.YtkongpjpkpfniaaGreat
open Go.RowKit
theorem zq174e20 {q:Prop} (h:q:= by
 have e:ybg x=true:=by simp [ybg];omega
 rw [e]
 go_enter Tryz.func211,Tryz.ntmps211
 go_wp2_with fail
 go_ret
 exact Ret.mk _ _):q:=h
theorem zq178983 {q:Prop} (h:q:= by
 have hse1:(se != 0)=true:=by simpa using hse
 rw [if_neg hse] at HRR;have hRR:=HRR.out;subst hRR;clear hse
 go_wp2_with fail
 refine bodyPost_ret (v:=.tuple #[.agg #[sZ,iZ,iZ],sZ,iV se]) (by simp [results,Tryz.results138,go_sem,r0,r1,r2]) rfl ⟨_,_,rfl,⟨Sl.nil,ycz⟩,⟨Sl.nil,ycz⟩,yao (yao (yao (yao (yao (yao HBW5.out om) om) om) om) om) om⟩):q:=h
theorem zq177f1f {q:Prop} (h:q:= by
 subst hse;rw [if_pos rfl] at HRR;have hRR:=HRR.out;subst hRR
 go_wp2_with fail
 have kr:w.heap.size+1+1<W.heap.size:=A3.out.lt;refine bodyPost_ret (v:=.tuple #[.agg #[.slice uo sb.length uc,iV sc,iV sd],.slice o1 rs.length cp1,iZ]) (by simp [results,Tryz.results138,go_sem,r0,r1,r2]) rfl ⟨_,_,rfl,⟨HU.out.set33 (fun b o n c e hn=>by have:=HFR.out b o n c e hn;omega),fun b o n c e hn=>by have:=HFR.out b o n c e hn;omega⟩,⟨(Sl.of_own HO5.out rfl).set33 (fun b o n c e hn=>by have:=F1.out b o n c e hn;omega),fun b o n c e hn=>by have:=F1.out b o n c e hn;omega⟩,yao (yao (yao (yao (yao (yao HBW5.out om) om) om) om) om) om⟩):q:=h
structure Ps where
 bs:List Int
 c:Int
 d:Int
structure St where
 n:Int
 fr:Int
 til:Int
 du:Int
 ls:List (Int×Int×Int)
 tot:Int
 cr:Int
 mn:Int
 g:Bool
def ps0:Ps:=⟨[],0,0⟩
def psOf (s:List Int×Int×Int×Int):Ps:=⟨s.1,s.2.1,s.2.2.1⟩
def mayA (p:Ps) (rs:List Int) (x:R5):Bool :=
 yat p.bs p.c p.d && (rs.length == p.bs.length) && !rs.any ybg && (decide (1<=x.a) && decide (x.a<=6)) && (x.a == 2 || (decide (1<=x.c) && decide (x.c<=(rs.length:Int)))) && (x.a != 6 || (decide (0<=x.d) && decide (x.d<=10000000)))
def posS (p:Ps) (rs:List Int) (x:R5):List Int×Int×Int×Int :=
 if x.a=1\/x.a=5 then yh2 p.bs p.c p.d x.c x.d
 else if x.a=2 then payS p.bs p.c p.d rs x.d
 else if x.a=3\/x.a=4 then ytl p.bs p.c p.d rs x.c x.d
 else (p.bs,p.c,p.d,0)
def yjc (rs:List Int) (x:R5):List Int:=if x.a=6 then rs.set (x.c-1).toNat x.d else rs
def ybi (p:Ps) (rs:List Int) (x:R5):Ps×List Int×Int :=
 if mayA p rs x=false then (ps0,[],1)
 else if (posS p rs x).2.2.2≠0 then (ps0,[],(posS p rs x).2.2.2)
 else (psOf (posS p rs x),yjc rs x,0)
def yo2 (t:Tm):List R5->Int
 | []=>0
 | x::l=>if t.rightE x≠0 then t.rightE x else yo2 t l
noncomputable def yiz (t:Tm) (l:List R5) (today:Int):Int :=
 if t.right=false then 6
 else if yo2 t l≠0 then yo2 t l
 else if 2000<l.length then 14
 else if today<t.start\/2932896<today then 10
 else if (ofS t.start t.cyc today).2≠0 then 10
 else if l.any (fun x=>decide (today<x.b))=true then 10
 else 0
structure RS where
 at':Nat
 p:Ps
 rs:List Int
 X:List (List Int)
 Y:List (List Int)
 out:List St
def evS (l:List R5) (day:Int):Nat->Nat->Ps->List Int->Nat×Ps×List Int×Int
 | 0,k,p,rs=>(k,p,rs,0)
 | n+1,k,p,rs =>
  if (l.getD k yax).b=day then
   if (ybi p rs (l.getD k yax)).2.2≠0 then (k,p,rs,(ybi p rs (l.getD k yax)).2.2)
   else evS l day n (k+1) (ybi p rs (l.getD k yax)).1 (ybi p rs (l.getD k yax)).2.1
  else (k,p,rs,0)
def ye8 (X:List (List Int)) (v:List Int):List (List Int):=(List.range X.length).map fun k=>X.getD k []++[v.getD k 0]
def yet (l:List R5) (out:List St) (fr:Int):Bool×Int :=
 match out.getLast? with
 | none=>(true,0)
 | some s=>hasR s.tot fr s.du l
def ycd (t:Tm) (n fr til:Int) (p:Ps) (rs ns:List Int) (g:Bool):Option St×Ps×Int :=
 if t.right=false then (none,ps0,6)
 else if yix t.ts.length n fr til p.bs.length rs.length=false then (none,ps0,1)
 else if rs.any ybg=true then (none,ps0,1)
 else if (ye7 p.bs p.c p.d ns).2.2.2≠0 then (none,ps0,(ye7 p.bs p.c p.d ns).2.2.2)
 else
  let q:=psOf (ye7 p.bs p.c p.d ns)
  let tot:=yb4 q.bs q.c q.d
  let mn:=(ygx t.right t.minf t.minp tot).1
  (some ⟨n,fr,til,til+t.dued,zip3 q.bs ns rs,tot,q.c,mn,g⟩,⟨q.bs,q.c,mn⟩,0)
def ydn (t:Tm) (l:List R5) (fr til:Int) (s:RS):RS×Int :=
 if (yet l s.out fr).2≠0 then (s,(yet l s.out fr).2)
 else if (intS t.right t.ts s.X s.Y (yet l s.out fr).1).2≠0 then (s,(intS t.right t.ts s.X s.Y (yet l s.out fr).1).2)
 else
  match ycd t ((s.out.length:Int)+1) fr til s.p s.rs (intS t.right t.ts s.X s.Y (yet l s.out fr).1).1 (yet l s.out fr).1 with
  | (some x,q,_)=>({ s with p:=q,X:=List.replicate t.ts.length [],Y:=List.replicate t.ts.length [],out:=s.out++[x] },0)
  | (none,_,e)=>(s,e)
def ybh (l:List R5) (day:Int) (s:RS):RS×Int :=
 let r:=evS l day (l.length-s.at') s.at' s.p s.rs
 ({ s with at':=r.1,p:=r.2.1,rs:=r.2.2.1 },r.2.2.2)
def ydh (s:RS):RS:={ s with X:=ye8 s.X s.p.bs,Y:=ye8 s.Y s.rs }
def ybb (t:Tm) (l:List R5) (ps:List (Int×Int)) (day:Int) (s:RS):RS×Int :=
 if (ps.getD s.out.length (0,0)).2=day then ydn t l (ps.getD s.out.length (0,0)).1 day (ydh s) else (ydh s,0)
def ycm (t:Tm) (l:List R5) (ps:List (Int×Int)):Nat->Int->RS->RS×Int
 | 0,day,s=>ybh l day s
 | k+1,day,s =>
  if (ybh l day s).2≠0 then ybh l day s
  else if (ybb t l ps day (ybh l day s).1).2≠0 then ybb t l ps day (ybh l day s).1
  else ycm t l ps k (day+1) (ybb t l ps day (ybh l day s).1).1
def rs0 (t:Tm):RS:=⟨0,⟨List.replicate t.ts.length 0,0,0⟩,t.ts.map (·.1),List.replicate t.ts.length [],List.replicate t.ts.length [],[]⟩
noncomputable def goS (t:Tm) (l:List R5) (today:Int):RS×Int:=ycm t l (ybd t.cyc today 300 t.start).1 (today-t.start).toNat t.start (rs0 t)
structure Rn where
 p:Ps
 rs:List Int
 out:List St
 e:Int
def rn0 (e:Int):Rn:=⟨ps0,[],[],e⟩
noncomputable def runS (t:Tm) (l:List R5) (today:Int):Rn :=
 if yiz t l today≠0 then rn0 (yiz t l today)
 else if (goS t l today).2≠0 then rn0 (goS t l today).2
 else ⟨(goS t l today).1.p,(goS t l today).1.rs,(goS t l today).1.out,0⟩
theorem yab.upto {F G:List Nat} {w w':World} (h:yab G w w') (hG:∀x∈G,x∈F\/w.heap.size<=x):yab F w w' :=
 ⟨h.os,h.tape,h.output,h.size,fun k hk hn=>h.block k hk (fun hm=>by
  rcases hG k hm with h1 | h1
  ·exact hn h1
  ·omega)⟩
def Rd (F:List Nat) (w:World) (φ:World->Prop):Prop:=∀W,yab F w W->φ W
theorem Rd.now {F:List Nat} {w:World} {φ:World->Prop} (h:Rd F w φ):φ w:=h w (yab.refl _ _)
theorem Rd.step {F F' G:List Nat} {w w':World} {φ:World->Prop} (h:Rd F w φ) (hk:yab G w w') (hG:∀x∈G,x∈F\/w.heap.size<=x) (hF:∀x∈F',x∈F\/w.heap.size<=x):Rd F' w' φ :=
 fun W hW=>h W ((hk.upto hG).trans hW hF)
theorem Rd.below {F F':List Nat} {w w':World} {φ:World->Prop} (h:Rd F w φ) (hb:BW w w') (hF:∀x∈F',x∈F\/w.heap.size<=x):Rd F' w' φ :=
 h.step (G:=[]) (yab.of_below hb) (fun x hx=>by cases hx) hF
theorem Rd.imp {F:List Nat} {w:World} {φ ψ:World->Prop} (h:Rd F w φ) (hi:∀W,φ W->ψ W):Rd F w ψ:=fun W hW=>hi W (h W hW)
theorem Rd.and {F:List Nat} {w:World} {φ ψ:World->Prop} (h:Rd F w φ) (k:Rd F w ψ):Rd F w (fun W=>φ W/\ψ W):=fun W hW=>⟨h W hW,k W hW⟩
theorem Sl.rd {F:List Nat} {k:IntKind} {w:World} {v:Value} {xs:List Int} (h:Sl k w v xs) (ho:OffF F v):Rd F w (fun W=>Sl k W v xs):=fun _ hW=>h.keep hW ho
theorem TrS.rd {F:List Nat} {w:World} {v:Value} {l:List (Int×Bool)} (h:TrS w v l) (ho:OffF F v):Rd F w (fun W=>TrS W v l):=fun _ hW=>h.keep hW ho
theorem LnS.rd {F:List Nat} {w:World} {v:Value} {l:List (Int×Int×Int)} (h:LnS w v l) (ho:OffF F v):Rd F w (fun W=>LnS W v l):=fun _ hW=>h.keep hW ho
theorem R5S.rd {F:List Nat} {w:World} {v:Value} {l:List R5} (h:R5S w v l) (ho:OffF F v):Rd F w (fun W=>R5S W v l):=fun _ hW=>Fl.keep h hW ho
theorem Fl.rd {F:List Nat} {m n:Nat} {w:World} {v:Value} {cs:List Value} (h:Fl m n w v cs) (ho:OffF F v):Rd F w (fun W=>Fl m n W v cs):=fun _ hW=>h.keep hW ho
theorem yap {F:List Nat} {w w':World} {base:Nat} {e:TypeId} {m n:Nat} {v:Value} {cs:List Value} (h:w.ownsRow base e m v n cs) (hk:yab F w w') (ho:∀b,v.ownBlock=some b->b∉F):w'.ownsRow base e m v n cs:= by
 refine ⟨h.1,?_⟩;rcases h.2 with h1 | ⟨g,cap,cur,rfl,hb,hg,r⟩
 ·exact .inl h1
 ·exact .inr ⟨g,cap,cur,rfl,hb,(hk.block g (Array.getElem?_eq_some_iff.1 hg).1 (ho g rfl)).trans hg,r⟩
theorem Fr.off {F:List Nat} {w:World} {v:Value} (h:Fr w v) (hF:∀x∈F,x<w.heap.size):OffF F v:=fun b o n c e hn hb=>by have:=h b o n c e hn;have:=hF b hb;omega
theorem yvm {w w':World} {e:TypeId} {m n:Nat} {v:Value} {cs:List Value} (h:w'.ownsRow w.heap.size e m v n cs):Fr w v:=fun b o k c ev _=>ya1 h b o k c ev
theorem Fl.offNew {m n':Nat} {w:World} {v:Value} {cs:List Value} (h:Fl m n' w v cs) (hm:0<m) {F:List Nat} (hF:∀x∈F,w.heap.size<=x):OffF F v:=fun b o n c e hn hb=>by
 obtain ⟨hl,_,ao,cap,e2,h1,h2,h3⟩:=h;rw [e] at e2;cases e2;obtain ⟨b',o',e3,hc⟩:=h3 hn;cases e3;have hp:=Nat.mul_pos hn hm;have h4:=hc 0 hp;rw [List.getElem?_eq_getElem (by rw [hl];exact hp)] at h4;have:=yac h4;have:=hF b hb;omega
def ycb (s:St) (lv:Value):List Value:=[iV s.n,iV s.fr,iV s.til,iV s.du,lv,iV s.tot,iV s.cr,iV s.mn,.bool s.g]
def yay:List St->List Value->List Value
 | s::l,v::vs=>ycb s v++yay l vs
 | _,_=>[]
def LnsS (w:World):List St->List Value->Prop
 | [],[]=>True
 | s::l,v::vs=>LnS w v s.ls/\LnsS w l vs
 | _,_=>False
def St0:St:=⟨0,0,0,0,[],0,0,0,false⟩
theorem LnsS.length {w:World}:∀{l:List St} {vs:List Value},LnsS w l vs->vs.length=l.length
 | [],[],_=>rfl
 | _::_,_::_,h=>by simp [h.2.length]
 | [],_::_,h=>h.elim
 | _::_,[],h=>h.elim
theorem LnsS.imp {w w':World}:∀{l:List St} {vs:List Value},LnsS w l vs->(∀v∈vs,∀ls,LnS w v ls->LnS w' v ls)->LnsS w' l vs
 | [],[],_,_=>trivial
 | _::_,v::_,h,k=>⟨k v (List.mem_cons_self ..) _ h.1,h.2.imp fun u hu=>k u (List.mem_cons_of_mem _ hu)⟩
 | [],_::_,h,_=>h.elim
 | _::_,[],h,_=>h.elim
theorem LnsS.below {w w':World} {l:List St} {vs:List Value} (h:LnsS w l vs) (hb:BW w w'):LnsS w' l vs:=h.imp fun _ _ _ k=>k.below hb
theorem LnsS.keep {F:List Nat} {w w':World} {l:List St} {vs:List Value} (h:LnsS w l vs) (hk:yab F w w') (ho:∀v∈vs,OffF F v):LnsS w' l vs:=h.imp fun v hv _ k=>k.keep hk (ho v hv)
theorem LnsS.rd {F:List Nat} {w:World} {l:List St} {vs:List Value} (h:LnsS w l vs) (ho:∀v∈vs,OffF F v):Rd F w (fun W=>LnsS W l vs):=fun _ hW=>h.keep hW ho
theorem LnsS.append {w:World}:∀{l m:List St} {vs us:List Value},LnsS w l vs->LnsS w m us->LnsS w (l++m) (vs++us)
 | [],_,[],_,_,k=>k
 | _::_,_,_::_,_,h,k=>⟨h.1,h.2.append k⟩
 | [],_,_::_,_,h,_=>h.elim
 | _::_,_,[],_,h,_=>h.elim
theorem LnsS.get {w:World}:∀{l:List St} {vs:List Value},LnsS w l vs->∀{i:Nat},i<l.length->LnS w (vs.getD i (sZ)) (l.getD i St0).ls
 | [],[],_,i,hi=>absurd hi (Nat.not_lt_zero i)
 | _::_,_::_,h,0,_=>h.1
 | _::l,_::vs,h,i+1,hi=>by simpa using h.2.get (i:=i) (by simpa using hi)
 | [],_::_,h,_,_=>h.elim
 | _::_,[],h,_,_=>h.elim
theorem LnsS.drop {w:World}:∀{l:List St} {vs:List Value} (k:Nat),LnsS w l vs->LnsS w (l.drop k) (vs.drop k)
 | _,_,0,h=>h
 | [],[],_+1,_=>trivial
 | _::_,_::_,k+1,h=>LnsS.drop k h.2
 | [],_::_,_,h=>h.elim
 | _::_,[],_,h=>h.elim
theorem yds:∀{l m:List St} {vs us:List Value},vs.length=l.length->yay (l++m) (vs++us)=yay l vs++yay m us
 | [],_,[],_,_=>rfl
 | _::_,_,_::_,_,h=>by simp [yay,yds (by simpa using h)]
 | [],_,_::_,_,h=>by simp at h
 | _::_,_,[],_,h=>by simp at h
theorem LnS.one {w:World} {v:Value} {l:List (Int×Int×Int)} (h:LnS w v l):v.oneCell'=true:= by
 obtain ⟨ao,cap,rfl,_⟩:=h;rfl
theorem LnsS.one {w:World}:∀{l:List St} {vs:List Value},LnsS w l vs->∀c∈yay l vs,c.oneCell'=true
 | [],[],_,c,hc=>by simp [yay] at hc
 | s::l,v::vs,h,c,hc=>by
  simp only [yay,List.mem_append] at hc;rcases hc with hc | hc
  ·simp only [ycb,List.mem_cons,List.not_mem_nil,or_false] at hc
   rcases hc with rfl | rfl | rfl | rfl | rfl | rfl | rfl | rfl | rfl <;> first | rfl | exact h.1.one
  ·exact h.2.one c hc
 | [],_::_,h,_,_=>h.elim
 | _::_,[],h,_,_=>h.elim
theorem ykc {l:List St} {vs:List Value} (h:vs.length=l.length) {i:Nat} (hi:i<l.length) (j:Nat) (hj:j<9):(yay l vs)[i*9+j]?=(ycb (l.getD i St0) (vs.getD i (sZ)))[j]?:= by
 induction l generalizing vs i with
 | nil=>simp at hi
 | cons s l ih =>
  cases vs with
  | nil=>simp at h
  | cons v vs =>
   have hl:(ycb s v).length=9:=rfl;cases i with
   | zero =>
    simp only [yay,Nat.zero_mul,Nat.zero_add,List.getD_cons_zero];exact List.getElem?_append_left om
   | succ i =>
    have h2:=ih (vs:=vs) (by simpa using h) (i:=i) (by simpa using hi);simp only [yay,List.getD_cons_succ];rw [List.getElem?_append_right om,hl,show (i+1)*9+j-9=i*9+j by omega];exact h2
theorem yny {l:List St} {vs:List Value} (h:vs.length=l.length) (k:Nat):(yay l vs).drop (k*9)=yay (l.drop k) (vs.drop k):= by
 induction l generalizing vs k with
 | nil=>cases vs <;> simp [yay] at *
 | cons s l ih =>
  cases vs with
  | nil=>simp at h
  | cons v vs =>
   cases k with
   | zero=>simp
   | succ k =>
    have hl:(ycb s v).length=9:=rfl;have e:(k+1)*9=(ycb s v).length+k*9:=by rw [hl];omega
    simp only [yay,List.drop_succ_cons];rw [e,<-List.drop_drop,List.drop_left];exact ih (by simpa using h) k
def StV (w:World) (v:Value) (l:List St) (vs:List Value):Prop:=LnsS w l vs/\Fl 9 l.length w v (yay l vs)
def StS (w:World) (v:Value) (l:List St):Prop:=∃vs,StV w v l vs
theorem StV.below {w w':World} {v:Value} {l:List St} {vs:List Value} (h:StV w v l vs) (hb:BW w w'):StV w' v l vs:=⟨h.1.below hb,h.2.below hb⟩
theorem StS.below {w w':World} {v:Value} {l:List St} (h:StS w v l) (hb:BW w w'):StS w' v l:=⟨h.choose,h.choose_spec.below hb⟩
theorem StV.rd {F:List Nat} {w:World} {v:Value} {l:List St} {vs:List Value} (h:StV w v l vs) (ho:OffF F v) (hv:∀u∈vs,OffF F u):Rd F w (fun W=>StV W v l vs):=(h.1.rd hv).and (h.2.rd ho)
theorem StS.shape {w:World} {v:Value} {l:List St} (h:StS w v l):∃ao cap,v=.slice ao l.length cap:=h.choose_spec.2.shape
theorem StS.get {w:World} {ao:Option Addr} {n cap:Nat} {l:List St} (h:StS w (.slice ao n cap) l) {i:Nat} (hi:i<l.length) :
 ∃b o s lv,ao=some (Ad b o)/\(w.cell? (Ad b (o+i*9))=some (iV s.n)/\w.cell? (Ad b (o+i*9+1))=some (iV s.fr)/\w.cell? (Ad b (o+i*9+2))=some (iV s.til)/\w.cell? (Ad b (o+i*9+3))=some (iV s.du)/\w.cell? (Ad b (o+i*9+4))=some lv/\w.cell? (Ad b (o+i*9+5))=some (iV s.tot)/\w.cell? (Ad b (o+i*9+6))=some (iV s.cr)/\w.cell? (Ad b (o+i*9+7))=some (iV s.mn)/\w.cell? (Ad b (o+i*9+8))=some (.bool s.g))/\LnS w lv s.ls/\Hid (l.getD i St0=s):= by
 obtain ⟨vs,h1,h2⟩:=h;obtain rfl:=h2.len.1;have hg:=fun j hj=>ykc h1.length hi j hj;obtain ⟨b,o,e,_⟩:=h2.at (i:=i*9) (show i*9<l.length*9 by omega);refine ⟨b,o,_,vs.getD i (sZ),e,?_,h1.get hi,rfl⟩
 have hc:∀j,j<9->w.cell? (Ad b (o+(i*9+j)))=(ycb (l.getD i St0) (vs.getD i (sZ)))[j]?:=fun j hj=>by
  obtain ⟨b',o',e',hc⟩:=h2.at (i:=i*9+j) (show i*9+j<l.length*9 by omega);rw [e] at e';cases e';exact hc.trans (hg j hj)
 refine ⟨?_,?_,?_,?_,?_,?_,?_,?_,?_⟩
 ·simpa [ycb] using hc 0 om
 ·simpa [ycb,Nat.add_assoc] using hc 1 om
 ·simpa [ycb,Nat.add_assoc] using hc 2 om
 ·simpa [ycb,Nat.add_assoc] using hc 3 om
 ·simpa [ycb,Nat.add_assoc] using hc 4 om
 ·simpa [ycb,Nat.add_assoc] using hc 5 om
 ·simpa [ycb,Nat.add_assoc] using hc 6 om
 ·simpa [ycb,Nat.add_assoc] using hc 7 om
 ·simpa [ycb,Nat.add_assoc] using hc 8 om
theorem StS.of_own {w:World} {base:Nat} {e:TypeId} {v:Value} {l:List St} {vs:List Value} (h:w.ownsRow base e 9 v l.length (yay l vs)) (hl:LnsS w l vs):StS w v l:=⟨vs,hl,Fl.of_own h hl.one⟩
theorem yz2 {P : Program} {f : FuncId} {fn : Func} (hf : P.funcs[f]? = some fn) (hn : (fn.name == "runtime.NumGoroutine") = false) (hb : fn.body.isNone = false) : ∀ args w, (callFunc f args).run P w = .ok (.enter f args) w := by
 intro args w;simp [callFunc,go_sem,hf];simp at hn;simp [hn];intro h;rw [h] at hb;cases hb
theorem yuj (f:Nat) (ts:Int->Bool) (HE:∀args w,(callFunc f args).run Tryz.prog w=.ok (.enter f args) w) (HC:∀x w,Calls Tryz.prog f #[iV x] w (Ret (.bool (ts x)) w)) (v:Value) (xs:List Int) (r0:Bool) (hr0:Hid (xs.any ts=r0)) (w:World) (hv:Sl .i64 w v xs) :
 Calls Tryz.prog 231 #[v,.func (.func f) #[] #[]] w (fun e w'=>∃r:Int,e=.returned (iV r)/\decide (0<=r)=r0/\w=w'):= by
 have HV:=lh hv;obtain ⟨ao,cap,rfl,h1,⟨h2,_⟩,h3⟩:=hv;clear h3;unfold maxLen at h2;have HCH:=lh HC;have HEE:=lh HE;clear HE;clear HC
 go_enter Tryz.func231,Tryz.ntmps231
 go_wp2
 go_loopg [8] xs.length (fun g i wr=>∃k:Nat,k+g=xs.length/\i=iV k/\w=wr/\Hid (∀j,j<k->ts (xs.getD j 0)=false))
 case atStart=>exact ⟨0,by omega,rfl,rfl,fun j hj=>absurd hj om⟩
 case round =>
  obtain ⟨k,hkg,rfl,rfl,HN⟩:=hrel;cases gk with
  | zero =>
   have hlt:¬((k:Int)<(xs.length:Int)):=by omega
   go_wp2
   go_ret
   refine ⟨-1,rfl,?_,rfl⟩;rw [<-hr0.out];simp only [show decide ((0:Int) <= -1)=false from by decide]
   symm
   rw [List.any_eq_false];intro y hy;obtain ⟨j,hj,rfl⟩:=List.getElem_of_mem hy;have:=HN.out j om
   simpa [List.getD,hj] using this
  | succ g =>
   have hlt:(k:Int)<(xs.length:Int):=by omega
   have hkn:k<xs.length:=by omega
   obtain ⟨b,o,x,rfl,hcell,hx⟩:=HV.out.get (i:=k) hkn
   go_wp2_with fail
   rw [HEE.out,Oper.upon_enter];refine (HCH.out x w).mono ?_;rintro _ w' ⟨rfl,rfl⟩;cases hp:ts x with
   | true =>
    have HP:=lh hp;clear hp
    go_wp2_with fail
    go_ret
    refine ⟨k,rfl,?_,rfl⟩;rw [<-hr0.out]
    have e1:xs.any ts=true:= by
     rw [List.any_eq_true];refine ⟨x,?_,HP.out⟩;rw [<-hx.out];simp [List.getD,hkn]
    rw [e1];simp
   | false =>
    have HP:=lh hp;clear hp
    go_wp2_with fail
    go_roundg g
    case measure=>omega
    case rel=>exact ⟨k+1,by omega,by go_num,rfl,fun j hj=>by
     rcases Nat.lt_succ_iff_lt_or_eq.1 hj with h' | rfl
     ·exact HN.out j h'
     ·rw [hx.out];exact HP.out⟩
theorem yey (f:Nat) (ts:Int->Bool) (HE:∀args w,(callFunc f args).run Tryz.prog w=.ok (.enter f args) w) (HC:∀x w,Calls Tryz.prog f #[iV x] w (Ret (.bool (ts x)) w)) (v:Value) (xs:List Int) (r0:Bool) (hr0:Hid (xs.any ts=r0)) (w:World) (hv:Sl .i64 w v xs) :
 Calls Tryz.prog 210 #[v,.func (.func f) #[] #[]] w (Ret (.bool r0) w):= by
 cases r0
 all_goals
  go_enter Tryz.func210,Tryz.ntmps210
  go_wp2_with fail
  refine (yuj f ts HE HC v xs _ hr0 _ hv).mono ?_;rintro e w' ⟨r,rfl,hr,rfl⟩
  go_wp2_with fail
  go_ret
  exact Ret.mk _ _
theorem ykr (x:Int) (w:World):Calls Tryz.prog 211 #[iV x] w (Ret (.bool (ybg x)) w):= by
 by_cases h1:x<0
 ·exact zq174e20
 ·by_cases h2:10000000<x
  ·exact zq174e20
  ·have e:ybg x=false:=by simp [ybg];omega
   rw [e]
   go_enter Tryz.func211,Tryz.ntmps211
   go_wp2_with fail
   go_ret
   exact Ret.mk _ _
theorem yru:∀args w,(callFunc 211 args).run Tryz.prog w=.ok (.enter 211 args) w:=yz2 Tryz.func211 kr kr
theorem yr6 {bs rs:List Int} {cr du a b c d e:Int} {r:Bool} (h:mayA ⟨bs,cr,du⟩ rs ⟨a,b,c,d,e⟩=r) :
 (yat bs cr du=false/\r=false)\/(yat bs cr du=true/\rs.length≠bs.length/\r=false)\/(yat bs cr du=true/\rs.length=bs.length/\rs.any ybg=true/\r=false) \/
 (yat bs cr du=true/\rs.length=bs.length/\rs.any ybg=false/\((a<1/\r=false)\/(6<a/\r=false)\/(a=2/\r=true)\/(1<=a/\a<=6/\a≠2/\c<1/\r=false)\/(1<=a/\a<=6/\a≠2/\1<=c/\(rs.length:Int)<c/\r=false) \/
  (1<=a/\a<=5/\a≠2/\1<=c/\c<=(rs.length:Int)/\r=true)\/(a=6/\1<=c/\c<=(rs.length:Int)/\d<0/\r=false)\/(a=6/\1<=c/\c<=(rs.length:Int)/\10000000<d/\r=false)\/(a=6/\1<=c/\c<=(rs.length:Int)/\0<=d/\d<=10000000/\r=true))):= by
 unfold mayA at h;simp only at h;cases h1:yat bs cr du with
 | false=>rw [h1] at h;exact .inl ⟨rfl,by rw [<-h];rfl⟩
 | true =>
  refine .inr ?_
  by_cases h2:rs.length=bs.length
  ·refine .inr ?_
   cases h3:rs.any ybg with
   | true=>exact .inl ⟨rfl,h2,rfl,by rw [<-h,h3];simp⟩
   | false =>
    refine .inr ⟨rfl,h2,rfl,?_⟩;rw [h1,h3] at h;simp only [h2,beq_self_eq_true,Bool.true_and,Bool.not_false] at h ⊢
    by_cases k1:a<1
    ·exact .inl ⟨k1,by rw [<-h];simp;omega⟩
    ·by_cases k2:6<a
     ·exact .inr (.inl ⟨k2,by rw [<-h];simp;omega⟩)
     ·by_cases k3:a=2
      ·exact .inr (.inr (.inl ⟨k3,by rw [<-h,k3];simp⟩))
      ·by_cases k4:c<1
       ·exact .inr (.inr (.inr (.inl ⟨by omega,by omega,k3,k4,by rw [<-h];simp;omega⟩)))
       ·by_cases k5:(bs.length:Int)<c
        ·exact .inr (.inr (.inr (.inr (.inl ⟨by omega,by omega,k3,by omega,k5,by rw [<-h];simp;omega⟩))))
        ·by_cases k6:a=6
         ·by_cases k7:d<0
          ·exact .inr (.inr (.inr (.inr (.inr (.inr (.inl ⟨k6,by omega,by omega,k7,by rw [<-h];simp;omega⟩))))))
          ·by_cases k8:10000000<d
           ·exact .inr (.inr (.inr (.inr (.inr (.inr (.inr (.inl ⟨k6,by omega,by omega,k8,by rw [<-h];simp;omega⟩)))))))
           ·exact .inr (.inr (.inr (.inr (.inr (.inr (.inr (.inr ⟨k6,by omega,by omega,by omega,by omega,by rw [<-h];simp;omega⟩)))))))
         ·exact .inr (.inr (.inr (.inr (.inr (.inl ⟨by omega,by omega,k3,by omega,by omega,by rw [<-h];simp;omega⟩)))))
  ·exact .inl ⟨rfl,h2,by rw [<-h];simp [h2]⟩
theorem yw4 (p:Ps) (pv rv:Value) (rs:List Int) (x:R5) (r:Bool) (hr:Hid (mayA p rs x=r)) (hlen:p.bs.length<=1000) (w:World) (hp:Sl .i64 w pv p.bs) (hv:Sl .i64 w rv rs) :
 Calls Tryz.prog 179 #[.agg #[pv,iV p.c,iV p.d],rv,.agg #[iV x.a,iV x.b,iV x.c,iV x.d,iV x.e]] w (RetB (.bool r) w):= by
 obtain ⟨bs,cr,du⟩:=p;obtain ⟨a,b,c,d,e⟩:=x;simp only at hr hlen hp ⊢;have hways:=yr6 hr.out;clear hr;have HP:=lh hp;have HR:=lh hv;obtain ⟨po,pc,rfl,_⟩:=hp;obtain ⟨ro,rc,rfl,rl1,⟨rl2,_⟩,_⟩:=hv;unfold maxLen at rl2;rcases hways with ⟨h1,rfl⟩ | ⟨h1,h2,rfl⟩ | ⟨h1,h2,h3,rfl⟩ | ⟨h1,h2,h3,hw⟩
 ·have H1:=lh h1
  clear h1
  go_enter Tryz.func179,Tryz.ntmps179
  go_wp2_with fail
  refine (ya0 _ bs cr du _ H1 om _ (HP.out.below bL)).mono ?_;rintro _ w1 ⟨rfl,hb1⟩;have HB:=lh (yad (yaa (yaa bR _) _) hb1);clear hb1
  go_wp2_with fail
  go_ret
  exact ⟨rfl,HB.out⟩
 ·have H1:=lh h1
  have hne:((rs.length:Int) != (bs.length:Int))=true:=by simp;omega
  clear h1 h2
  go_enter Tryz.func179,Tryz.ntmps179
  go_wp2_with fail
  refine (ya0 _ bs cr du _ H1 om _ (HP.out.below bL)).mono ?_;rintro _ w1 ⟨rfl,hb1⟩;have HB:=lh (yad (yaa (yaa bR _) _) hb1);have hcell:w1.cell? (Ad w.heap.size 0)=some (.slice po bs.length pc):=(((yae w [.slice po bs.length pc,iV cr,iV du] 35 _ rfl).below (yaa bR _)).below hb1).cell 0;clear hb1
  go_wp2_with fail
  go_ret
  exact ⟨rfl,HB.out⟩
 ·have H1:=lh h1
  have H3:=lh h3;have hne:((rs.length:Int) != (bs.length:Int))=false:=by simp;omega
  clear h1 h2 h3
  go_enter Tryz.func179,Tryz.ntmps179
  go_wp2_with fail
  refine (ya0 _ bs cr du _ H1 om _ (HP.out.below bL)).mono ?_;rintro _ w1 ⟨rfl,hb1⟩;have HB:=lh (yad (yaa (yaa bR _) _) hb1);have hcell:w1.cell? (Ad w.heap.size 0)=some (.slice po bs.length pc):=(((yae w [.slice po bs.length pc,iV cr,iV du] 35 _ rfl).below (yaa bR _)).below hb1).cell 0;clear hb1
  go_wp2_with fail
  refine (yey _ ybg yru ykr _ rs _ H3 _ (HR.out.below HB.out)).mono ?_;rintro _ w2 ⟨rfl,rfl⟩
  go_wp2_with fail
  go_ret
  exact ⟨rfl,HB.out⟩
 ·have H1:=lh h1
  have H3:=lh h3;have hne:((rs.length:Int) != (bs.length:Int))=false:=by simp;omega
  clear h1 h2 h3
  go_enter Tryz.func179,Tryz.ntmps179
  go_wp2_with fail
  refine (ya0 _ bs cr du _ H1 om _ (HP.out.below bL)).mono ?_;rintro _ w1 ⟨rfl,hb1⟩;have HB:=lh (yad (yaa (yaa bR _) _) hb1);have hcell:w1.cell? (Ad w.heap.size 0)=some (.slice po bs.length pc):=(((yae w [.slice po bs.length pc,iV cr,iV du] 35 _ rfl).below (yaa bR _)).below hb1).cell 0;have HE:Hid (Blk w1 (w.heap.size+1) 150 [iV a,iV b,iV c,iV d,iV e]):=(yae (w.alloc _) [iV a,iV b,iV c,iV d,iV e] 150 _ (by simp)).below hb1;clear hb1
  go_wp2_with fail
  refine (yey _ ybg yru ykr _ rs _ H3 _ (HR.out.below HB.out)).mono ?_;rintro _ w2 ⟨rfl,rfl⟩;obtain ⟨e0,e2,e3,-⟩:=HE.out.cs [0,2,3];simp only [gz,gs] at e0 e2 e3;rcases hw with ⟨k1,rfl⟩ | ⟨k1,rfl⟩ | ⟨rfl,rfl⟩ | ⟨k1,k2,k3,k4,rfl⟩ | ⟨k1,k2,k3,k4,k5,rfl⟩ | ⟨k1,k2,k3,k4,k5,rfl⟩ | ⟨rfl,k4,k5,k6,rfl⟩ | ⟨rfl,k4,k5,k6,rfl⟩ | ⟨rfl,k4,k5,k6,k7,rfl⟩
  all_goals
   try have hd10:decide (d<=10000000)=false:=(by simp;omega)
   try have hn2:(a != 2)=true:=(by simpa using k3)
   try have hn6:(a != 6)=true:=(by simp;omega)
   go_wp2_with fail
   go_ret
   exact ⟨rfl,HB.out⟩
def ywp (R:Ps×List Int×Int) (w:World) (e:Ending) (w':World):Prop :=
 ∃u v,e=.returned (.tuple #[.agg #[u,iV R.1.c,iV R.1.d],v,iV R.2.2])/\(Sl .i64 w' u R.1.bs/\Fr w u)/\(Sl .i64 w' v R.2.1/\Fr w v)/\BW w w'
theorem yxi {w:World} {base q n cap:Nat} {e:TypeId} {l:List Int} (h:w.ownsRow base e 1 (sL q 0 n cap) n (l.map (Value.int .i64))) (i:Nat) (v:Int) :
 (w.setCell (Ad q i) (iV v)).ownsRow base e 1 (sL q 0 n cap) n ((l.set i v).map (Value.int .i64)):= by
 obtain ⟨cur,hC,h1,h2,h3,h4,h5⟩:=ya8 h;refine yct (hC.set i (iV v)) h5 h1 h2 (by rw [List.length_set];exact h3) ?_;rw [List.take_set,h4,List.map_set]
theorem Sl.set33 {w:World} {v:Value} {xs:List Int} {g1 g2:Nat} {x0 x1 x2 y0 y1 y2:Value} (h:Sl .i64 w v xs) (h1:∀b o n c,v=sL b o n c->0<n->g1<b/\g2<b) :
 Sl .i64 ((((((w.setCell (Ad g1 0) x0).setCell (Ad g1 1) x1).setCell (Ad g1 2) x2).setCell (Ad g2 0) y0).setCell (Ad g2 1) y1).setCell (Ad g2 2) y2) v xs:= by
 have k1:∀b o n c,v=sL b o n c->0<n->b≠g1:=fun b o n c e hn=>by have:=h1 b o n c e hn;omega
 have k2:∀b o n c,v=sL b o n c->0<n->b≠g2:=fun b o n c e hn=>by have:=h1 b o n c e hn;omega
 exact (((((h.setCell k1 _).setCell k1 _).setCell k1 _).setCell k2 _).setCell k2 _).setCell k2 _
theorem ywx {p:Ps} {rs:List Int} {x:R5} (h:mayA p rs x=true):rs.length=p.bs.length/\rs.any ybg=false/\(x.a=1\/x.a=5\/x.a=2\/x.a=3\/x.a=4\/(x.a=6/\1<=x.c/\x.c<=(rs.length:Int))):= by
 rcases yr6 h with ⟨_,h0⟩ | ⟨_,_,h0⟩ | ⟨_,_,_,h0⟩ | ⟨_,h2,h3,hw⟩
 ·cases h0
 ·cases h0
 ·cases h0
 refine ⟨h2,h3,?_⟩;rcases hw with ⟨_,h0⟩ | ⟨_,h0⟩ | ⟨k,_⟩ | ⟨_,_,_,_,h0⟩ | ⟨_,_,_,_,_,h0⟩ | ⟨k1,k2,k3,_⟩ | ⟨_,_,_,_,h0⟩ | ⟨_,_,_,_,h0⟩ | ⟨k,k2,k3,_⟩
 all_goals first | (cases h0;done) | (right;right;right;right;right;exact ⟨k,k2,k3⟩) | omega
theorem yvw {p:Ps} {rs:List Int} {x:R5} (h:mayA p rs x=true) {sb:List Int} {sc sd se:Int} (hs:posS p rs x=(sb,sc,sd,se)) :
 ybi p rs x=if se=0 then (⟨sb,sc,sd⟩,yjc rs x,0) else (ps0,[],se):= by
 unfold ybi;rw [if_neg (by rw [h];simp),hs]
 by_cases e:se=0
 ·rw [if_neg (by simpa using e),if_pos e];rfl
 ·rw [if_pos e,if_neg e]
theorem yo8 (p:Ps) (pv rv:Value) (rs:List Int) (x:R5) (R:Ps×List Int×Int) (hR:Hid (ybi p rs x=R)) (hlen:p.bs.length<=1000) (hrl:rs.length<=1000) (w:World) (hp:Sl .i64 w pv p.bs) (hv:Sl .i64 w rv rs) :
 Calls Tryz.prog 138 #[.agg #[pv,iV p.c,iV p.d],rv,.agg #[iV x.a,iV x.b,iV x.c,iV x.d,iV x.e]] w (ywp R w):= by
 have HP:=lh hp;have HR:=lh hv;obtain ⟨m,hm⟩:∃m,mayA p rs x=m:=⟨_,rfl⟩;have HM:=lh hm;clear hm;obtain ⟨po,pc,rfl⟩:=hp.shape;obtain ⟨ro,rc,rfl⟩:=hv.shape;clear hp hv
 go_enter Tryz.func138,Tryz.ntmps138
 go_wp2_with fail
 refine (yw4 p _ _ rs x m HM hlen _ (HP.out.below bL) (HR.out.below bL)).mono ?_;rintro _ w1 ⟨rfl,hb1⟩;have HB1:Hid (BW w w1):=yad (yaa (yaa (yaa bR _) _) _) hb1;have HX1:Hid (Blk w1 w.heap.size 35 [.slice po p.bs.length pc,iV p.c,iV p.d]):=((yae w [.slice po p.bs.length pc,iV p.c,iV p.d] 35 _ rfl).below (yaa (yaa bR _) _)).below hb1;have HX2:Hid (Blk w1 (w.heap.size+1) 150 [iV x.a,iV x.b,iV x.c,iV x.d,iV x.e]):=((yae (w.alloc _) [iV x.a,iV x.b,iV x.c,iV x.d,iV x.e] 150 _ (by simp)).below (yaa bR _)).below hb1;have HX3:Hid (Blk w1 (w.heap.size+1+1) 35 [sZ,iZ,iZ]):=(yae ((w.alloc _).alloc _) [sZ,iZ,iZ] 35 _ (by simp)).below hb1;clear hb1;cases m with
 | false =>
  have e:R=(ps0,[],1):=by rw [<-hR.out];unfold ybi;rw [if_pos HM.out]
  subst e;have r0:=HX3.out.cell 0;have rf0:=HX3.out.frozen 0;have r1:=HX3.out.cell 1;have rf1:=HX3.out.frozen 1;have r2:=HX3.out.cell 2;have rf2:=HX3.out.frozen 2;simp only [gz,gs] at r0 r1 r2
  go_wp2_with fail
  refine bodyPost_ret (v:=.tuple #[.agg #[sZ,iZ,iZ],sZ,iV 1]) (by simp [results,Tryz.results138,go_sem,r0,r1,r2]) rfl ⟨_,_,rfl,⟨Sl.nil,ycz⟩,⟨Sl.nil,ycz⟩,yao (yao (yao HB1.out om) om) om⟩
 | true =>
  have x0:=HX1.out.cell 0;have xf0:=HX1.out.frozen 0;have x1:=HX1.out.cell 1;have xf1:=HX1.out.frozen 1;have x2:=HX1.out.cell 2;have xf2:=HX1.out.frozen 2;simp only [gz,gs] at x0 x1 x2
  go_wp2_with fail
  refine (ydp _ rs _ (HR.out.below HB1.out) hrl).mono ?_;rintro _ w2 ⟨v1,rfl,ho1,hb2⟩;obtain ⟨o1,cp1,rfl⟩:=(Sl.of_own ho1 rfl).shape;have HO1:=lh ho1;have HB2:=lh hb2;have HY1:=lh (HX1.out.below hb2);clear ho1 hb2 x0 x1 x2 xf0 xf1 xf2;have x0:=HY1.out.cell 0;simp only [gz,gs] at x0
  go_wp2_with fail
  refine (ydp _ p.bs _ (HP.out.below (yad HB1.out HB2.out)) hlen).mono ?_;rintro _ w3 ⟨v2,rfl,ho2,hb3⟩;obtain ⟨o2,cp2,rfl⟩:=(Sl.of_own ho2 rfl).shape;have HO2:=lh ho2;have HB3:=lh hb3;have HZ1:=lh (HY1.out.below hb3);have HZ2:=lh ((HX2.out.below HB2.out).below hb3);clear ho2 hb3 x0;have x0:=HZ1.out.cell 0;have xf0:=HZ1.out.frozen 0;simp only [gz,gs] at x0;have e0:=HZ2.out.cell 0;simp only [gz,gs] at e0;go_upto_region 5 with fail
  obtain ⟨W,hW,A1,A2,A3,S1,S2,HBW,F1⟩:∃W,w3.setCell (Ad w.heap.size 0) (.slice o2 p.bs.length cp2)=W/\Hid (Blk W w.heap.size 35 [.slice o2 p.bs.length cp2,iV p.c,iV p.d])/\Hid (Blk W (w.heap.size+1) 150 [iV x.a,iV x.b,iV x.c,iV x.d,iV x.e])/\Hid (Blk W (w.heap.size+1+1) 35 [sZ,iZ,iZ])/\Hid (W.ownsRow (w.heap.size+1+1) 2 1 (.slice o1 rs.length cp1) rs.length (rs.map (Value.int .i64)))/\Hid (Sl .i64 W (.slice o2 p.bs.length cp2) p.bs)/\Hid (BW w W)/\Hid (∀b o n c,(.slice o1 rs.length cp1:Value)=sL b o n c->0<n->w.heap.size+1+1<b):= by
   refine ⟨_,rfl,HZ1.out.set 0 _,HZ2.out.setOther om _ _,((HX3.out.below HB2.out).below HB3.out).setOther om _ _,?_,?_,yao (yad (yad HB1.out HB2.out) HB3.out) (Nat.le_refl _),fun b o n c e _=>by have:=ya1 HO1.out b o n c e;have:=HX3.out.lt;omega⟩
   ·have k:=HX3.out.lt
    refine yaz (yah (ygc HO1.out om) HB3.out) ?_ _;intro e;have:=(HO1.out.lt _ e.symm).1;omega
   ·refine (Sl.of_own HO2.out rfl).setCell ?_ _
    intro b o n c e _ hb;have:=ya1 HO2.out b o n c e;have:=HZ1.out.lt;have:=HY1.out.lt;omega
  with_reducible rw [hW]
  clear hW x0 xf0 e0;obtain ⟨e0,e2,e3,-⟩:=A2.out.cs [0,2,3];obtain ⟨x0,x1,x2,-⟩:=A1.out.cs [0,1,2];simp only [gz,gs] at e0 e2 e3 x0 x1 x2;obtain ⟨hlen2,hra,hkind⟩:=ywx HM.out;have HRA:=lh hra;have HLE:=lh hlen2;clear hra hlen2;obtain ⟨sb,sc,sd,se,hs⟩:∃sb sc sd se,posS p rs x=(sb,sc,sd,se):=⟨_,_,_,_,rfl⟩;have hRR:=hR.out;rw [yvw HM.out hs] at hRR;have HRR:=lh hRR;clear hRR hR;have HKK:=lh hkind
  by_cases h6:x.a=6
  ·have hs6:posS p rs x=(p.bs,p.c,p.d,0):= by
    unfold posS;rw [if_neg om,if_neg om,if_neg om]
   rw [hs] at hs6;cases hs6;have hrates:yjc rs x=rs.set (x.c-1).toNat x.d:=by unfold yjc;rw [if_pos h6]
   rw [hrates,if_pos rfl] at HRR;obtain ⟨NR,hNR⟩:∃NR,rs.set (x.c-1).toNat x.d=NR:=⟨_,rfl⟩;rw [hNR] at HRR;have hRR:=HRR.out;subst hRR;obtain ⟨k,hk⟩:∃k:Nat,x.c=(k:Int)+1:=⟨(x.c-1).toNat,by omega⟩;have hkl:k<rs.length:=by omega
   obtain ⟨q,cap,he⟩:=ya5 S1.out om;cases he;have ek:(x.c-1).toNat=k:=by omega
   rw [ek] at hNR;have HNR:=lh hNR;have HKL:=lh hkl;obtain ⟨cur,hC,hC1,hC2,hC3,hC4,hC5⟩:=ya8 S1.out;obtain ⟨vq,hq⟩:=hC.some (j:=k) om;have fq:=hC.frozen k;have kq:=hC.lt;have hqn:w.heap.size+1+1<q:=F1.out q 0 _ _ rfl om;rw [h6] at e0;rw [hk] at e2;have w1':wrap64 ((k:Int)+1-1)=(k:Int):=by rw [show (k:Int)+1-1=(k:Int) by omega];exact IntWalk.wrap64_in _ ⟨by omega,by omega⟩
   have hki:(k:Int)<(rs.length:Int):=by omega
   obtain ⟨xf0,xf1,xf2,-⟩:=A1.out.fs [0,1,2];obtain ⟨r0,r1,r2,-⟩:=A3.out.cs [0,1,2];obtain ⟨rf0,rf1,rf2,-⟩:=A3.out.fs [0,1,2];simp only [gz,gs] at r0 r1 r2;have kr:w.heap.size+1+1<W.heap.size:=A3.out.lt;clear hNR hk h6 hkind hs hrates ek hC hC1 hC2 hC3 hC4 hC5 hkl;have ne1:¬q=w.heap.size:=by omega
   have ne2:¬q=w.heap.size+1+1:=by omega
   have ne3:¬w.heap.size=q:=by omega
   have ne4:¬w.heap.size+1+1=q:=by omega
   go_wp2_with fail
   have hSr:Sl .i64 ((((W.setCell (Ad q k) (iV x.d)).setCell (Ad (w.heap.size+1+1) 0) (.slice o2 p.bs.length cp2)).setCell (Ad (w.heap.size+1+1) 1) (iV p.c)).setCell (Ad (w.heap.size+1+1) 2) (iV p.d)) (sL q 0 rs.length cp1) NR:= by
    rw [<-HNR.out];have nq:∀b o n c,(sL q 0 rs.length cp1:Value)=sL b o n c->0<n->b≠w.heap.size+1+1:=fun b o n c e _=>by cases e;exact ne2
    exact (((Sl.of_own (yxi S1.out k x.d) (by simp)).setCell nq _).setCell nq _).setCell nq _
   have n2:∀b o n c,(.slice o2 p.bs.length cp2:Value)=sL b o n c->0<n->b≠w.heap.size+1+1/\b≠q:=fun b o n c e _=>by
    have h1:=ya1 HO2.out b o n c e;have h2:=HY1.out.lt;have h3:=HX3.out.below HB2.out;have h4:=h3.lt;have h5:=(HO1.out.lt q rfl).2;omega
   refine bodyPost_ret (v:=.tuple #[.agg #[.slice o2 p.bs.length cp2,iV p.c,iV p.d],sL q 0 rs.length cp1,iZ]) (by simp [results,Tryz.results138,go_sem,r0,r1,r2]) rfl ⟨_,_,rfl,⟨(((S2.out.setCell (fun b o n c e hn=>(n2 b o n c e hn).2) _).setCell (fun b o n c e hn=>(n2 b o n c e hn).1) _).setCell (fun b o n c e hn=>(n2 b o n c e hn).1) _).setCell (fun b o n c e hn=>(n2 b o n c e hn).1) _,fun b o n c e hn=>by have:=ya1 HO2.out b o n c e;have:=(HO1.out.lt q rfl).2;omega⟩,⟨hSr,fun b o n c e hn=>by cases e;omega⟩,yao (yao (yao (yao HBW.out om) om) om) om⟩
  ·have hsx:(x.a=1\/x.a=5)/\yh2 p.bs p.c p.d x.c x.d=(sb,sc,sd,se)\/x.a=2/\payS p.bs p.c p.d rs x.d=(sb,sc,sd,se)\/(x.a=3\/x.a=4)/\ytl p.bs p.c p.d rs x.c x.d=(sb,sc,sd,se):= by
    unfold posS at hs;rcases hkind with h | h | h | h | h | h
    ·rw [if_pos (.inl h)] at hs;exact .inl ⟨.inl h,hs⟩
    ·rw [if_pos (.inr h)] at hs;exact .inl ⟨.inr h,hs⟩
    ·rw [if_neg om,if_pos h] at hs;exact .inr (.inl ⟨h,hs⟩)
    ·rw [if_neg om,if_neg om,if_pos (.inl h)] at hs;exact .inr (.inr ⟨.inl h,hs⟩)
    ·rw [if_neg om,if_neg om,if_pos (.inr h)] at hs;exact .inr (.inr ⟨.inr h,hs⟩)
    ·exact absurd h.1 h6
   have hrates:yjc rs x=rs:=by unfold yjc;rw [if_neg h6]
   rw [hrates] at HRR;clear hs hrates h6 hkind;rcases hsx with ⟨hk,hs⟩ | ⟨hk,hs⟩ | ⟨hk,hs⟩
   ·have HS:=lh hs
    clear hs;rcases hk with hk | hk
    all_goals
     rw [hk] at e0;clear hk
     go_wp2_with fail
     refine (ykm _ p.bs p.c p.d x.c x.d _ HS hlen _ S2.out).mono ?_;rintro _ w5 ⟨u,rfl,⟨hu,hfr⟩,hb5⟩;simp only at hu;obtain ⟨uo,uc,rfl⟩:=hu.shape;have HU:=lh hu;have HFR:=lh hfr;have HB5:=lh hb5;have HP5:=lh (A1.out.below hb5);have HR5:=lh (A3.out.below hb5);have HO5:=lh (yah S1.out hb5);have HBW5:Hid (BW w w5):=yad HBW.out hb5;clear hu hfr hb5 e0 e2 e3 x0 x1 x2;obtain ⟨x0,x1,x2,-⟩:=HP5.out.cs [0,1,2];obtain ⟨xf0,xf1,xf2,-⟩:=HP5.out.fs [0,1,2];obtain ⟨r0,r1,r2,-⟩:=HR5.out.cs [0,1,2];obtain ⟨rf0,rf1,rf2,-⟩:=HR5.out.fs [0,1,2];simp only [gz,gs] at x0 x1 x2 r0 r1 r2
     by_cases hse:se=0
     ·exact zq177f1f
     ·exact zq178983
   ·have HS:=lh hs
    clear hs
    all_goals
     rw [hk] at e0;clear hk
     go_wp2_with fail
     refine (yoa _ _ p.bs rs p.c p.d x.d _ HS hlen _ S2.out (Sl.of_own S1.out rfl)).mono ?_;rintro _ w5 ⟨u,rfl,⟨hu,hfr⟩,hb5⟩;simp only at hu;obtain ⟨uo,uc,rfl⟩:=hu.shape;have HU:=lh hu;have HFR:=lh hfr;have HB5:=lh hb5;have HP5:=lh (A1.out.below hb5);have HR5:=lh (A3.out.below hb5);have HO5:=lh (yah S1.out hb5);have HBW5:Hid (BW w w5):=yad HBW.out hb5;clear hu hfr hb5 e0 e2 e3 x0 x1 x2;obtain ⟨x0,x1,x2,-⟩:=HP5.out.cs [0,1,2];obtain ⟨xf0,xf1,xf2,-⟩:=HP5.out.fs [0,1,2];obtain ⟨r0,r1,r2,-⟩:=HR5.out.cs [0,1,2];obtain ⟨rf0,rf1,rf2,-⟩:=HR5.out.fs [0,1,2];simp only [gz,gs] at x0 x1 x2 r0 r1 r2
     by_cases hse:se=0
     ·exact zq177f1f
     ·exact zq178983
   ·have HS:=lh hs
    clear hs;rcases hk with hk | hk
    all_goals
     rw [hk] at e0;clear hk
     go_wp2_with fail
     refine (ymz _ _ p.bs rs p.c p.d x.c x.d _ HS hlen _ S2.out (Sl.of_own S1.out rfl)).mono ?_;rintro _ w5 ⟨u,rfl,⟨hu,hfr⟩,hb5⟩;simp only at hu;obtain ⟨uo,uc,rfl⟩:=hu.shape;have HU:=lh hu;have HFR:=lh hfr;have HB5:=lh hb5;have HP5:=lh (A1.out.below hb5);have HR5:=lh (A3.out.below hb5);have HO5:=lh (yah S1.out hb5);have HBW5:Hid (BW w w5):=yad HBW.out hb5;clear hu hfr hb5 e0 e2 e3 x0 x1 x2;obtain ⟨x0,x1,x2,-⟩:=HP5.out.cs [0,1,2];obtain ⟨xf0,xf1,xf2,-⟩:=HP5.out.fs [0,1,2];obtain ⟨r0,r1,r2,-⟩:=HR5.out.cs [0,1,2];obtain ⟨rf0,rf1,rf2,-⟩:=HR5.out.fs [0,1,2];simp only [gz,gs] at x0 x1 x2 r0 r1 r2
     by_cases hse:se=0
     ·exact zq177f1f
     ·exact zq178983
def yzx (bm:Nat):Value:=.func (.func 137) #[] #[pV bm]
theorem yt0 (bm:Nat) (today a b c d e:Int) (hd:b<=today) (w:World) (hb:Blk w bm 3 [iV today]):Calls Tryz.prog 137 #[.agg #[iV a,iV b,iV c,iV d,iV e],pV bm] w (RetB (.bool false) w):= by
 have HB:=lh hb;have c0:=hb.cell 0;have k0:=hb.lt;simp only [List.getElem?_cons_zero] at c0;have hd':decide (today<b)=false:=by simp;omega
 clear hb
 go_enter Tryz.func137,Tryz.ntmps137
 go_wp2_with fail
 go_ret
 exact ⟨rfl,yaa bR _⟩
theorem ypq (v:Value) (l:List R5) (bm:Nat) (today:Int) (HD:Hid (∀x∈l,x.b<=today)) (w:World) (hv:R5S w v l) (hb:Blk w bm 3 [iV today]) :
 Calls Tryz.prog 176 #[v,yzx bm] w (RetB (iV (-1)) w):= by
 have HV:=lh hv;have HB:=lh hb;obtain ⟨ao,cap,rfl⟩:=hv.shape;have hlen:=(Fl.len hv).2;unfold maxLen at hlen;obtain ⟨hlc,hcm,_⟩:=hlen;clear hv hb;unfold yzx
 go_enter Tryz.func176,Tryz.ntmps176
 go_wp2_with fail
 go_loopg [8] l.length (fun g i wr=>∃k:Nat,k+g=l.length/\i=iV k/\BW w wr)
 case atStart=>exact ⟨0,by omega,rfl,bR⟩
 case round =>
  obtain ⟨k,hkg,rfl,hbw⟩:=hrel;cases gk with
  | zero =>
   have hlt:¬((k:Int)<(l.length:Int)):=by omega
   go_wp2
   go_ret
   exact ⟨rfl,hbw⟩
  | succ g =>
   have hlt:(k:Int)<(l.length:Int):=by omega
   obtain ⟨b,o,x,rfl,⟨c0,c1,c2,c3,c4⟩,HX⟩:=(HV.out.below hbw).get (i:=k) om
   have HXD:Hid (x.b<=today):= by
    rw [<-HX.out];exact HD.out _ (by simp [List.getD,show k<l.length by omega])
   have HBW:=lh hbw;clear hbw
   go_wp2_with fail
   refine (yt0 bm today x.a x.b x.c x.d x.e HXD.out _ (HB.out.below HBW.out)).mono ?_;rintro _ w1 ⟨rfl,hb1⟩;have HBW2:=lh (yad HBW.out hb1);clear hb1
   go_wp2_with fail
   go_roundg g
   case measure=>omega
   case rel=>exact ⟨k+1,by omega,by go_num,HBW2.out⟩
theorem yok (v:Value) (l:List R5) (bm:Nat) (today:Int) (HD:Hid (∀x∈l,x.b<=today)) (w:World) (hv:R5S w v l) (hb:Blk w bm 3 [iV today]) :
 Calls Tryz.prog 136 #[v,yzx bm] w (RetB (.bool false) w):= by
 have HV:=lh hv;have HB:=lh hb;obtain ⟨ao,cap,rfl⟩:=hv.shape;clear hv hb
 go_enter Tryz.func136,Tryz.ntmps136
 go_wp2_with fail
 refine (ypq _ l bm today HD _ HV.out HB.out).mono ?_;rintro _ w1 ⟨rfl,hb1⟩;go_wp2
 go_ret
 exact ⟨rfl,hb1⟩
noncomputable def ye2 (t:Tm) (today:Int):Int:=if today<t.start\/2932896<today then 10 else if (ofS t.start t.cyc today).2≠0 then 10 else 0
structure yha (t:Tm) (l:List R5) (today:Int):Prop where
 terms:t.right=true
 events:∀x∈l,t.rightE x=0
 late:∀x∈l,x.b<=today
 len:l.length<=2000
theorem ykn {t:Tm} {l:List R5} (h:∀x∈l,t.rightE x=0):yo2 t l=0:= by
 induction l with
 | nil=>rfl
 | cons x l ih=>rw [yo2,if_neg (by rw [h x (List.mem_cons_self ..)];simp)];exact ih fun y hy=>h y (List.mem_cons_of_mem _ hy)
theorem ygz {t:Tm} {l:List R5} {today:Int} (h:yha t l today):yiz t l today=ye2 t today:= by
 unfold yiz ye2;rw [if_neg (by rw [h.terms];simp),if_neg (by rw [ykn h.events];simp),if_neg (by have:=h.len;omega)]
 by_cases h1:today<t.start\/2932896<today
 ·rw [if_pos h1,if_pos h1]
 ·rw [if_neg h1,if_neg h1]
  by_cases h2:(ofS t.start t.cyc today).2≠0
  ·rw [if_pos h2,if_pos h2]
  ·rw [if_neg h2,if_neg h2,if_neg]
   have:=h.late;simp only [List.any_eq_true,decide_eq_true_eq,not_exists,not_and];intro x hx;have:=h.late x hx;omega
theorem ym7 (t:Tm) (tv lv:Value) (l:List R5) (today:Int) (HG:Hid (yha t l today)) (r:Int) (hr:Hid (ye2 t today=r)) (w:World) (ht:TrS w tv t.ts) (hl:R5S w lv l) :
 Calls Tryz.prog 87 #[.agg (t.cells tv).toArray,lv,iV today] w (RetB (iV r) w):= by
 have HT:=lh ht;have HL:=lh hl;obtain ⟨tao,tc,rfl⟩:=ht.shape;obtain ⟨lo,lc,rfl⟩:=hl.shape;clear ht hl;obtain ⟨lim,ts,cyc,dued,minf,minp,start⟩:=t;unfold Tm.cells at *;simp only at HT hr ⊢
 go_enter Tryz.func87,Tryz.ntmps87
 go_wp2_with fail
 refine (yar _ ts lim cyc dued minf minp start 0 (by have:=HG.out.terms;unfold Tm.right at this;simp only at this;show _=_;rw [if_pos this]) _ (HT.out.below bL)).mono ?_;rintro _ w1 ⟨rfl,hb1⟩;have HB1:Hid (BW w w1):=yad (yaa (yaa bR _) _) hb1;have HT1:Hid (Blk w1 w.heap.size 24 [iV lim,.slice tao ts.length tc,iV cyc,iV dued,iV minf,iV minp,iV start]):=((yae w _ _ _ rfl).below (yaa bR _)).below hb1;have HD1:Hid (Blk w1 (w.heap.size+1) 3 [iV today]):=(yae (w.alloc _) [iV today] _ _ (by simp)).below hb1;clear hb1;have HLN:Hid (l.length<=2000):=HG.out.len;have hln:=HLN.out
 go_wp2_with fail
 clear hln;go_loopg [20] l.length (fun gg i wr=>∃k:Nat,k+gg=l.length/\i=iV k/\Hid (BW w1 wr))
 case atStart=>exact ⟨0,by omega,rfl,bR⟩
 case round =>
  obtain ⟨k,hkg,rfl,HBW⟩:=hrel;have HTW:=lh (HT1.out.below HBW.out);have HDW:=lh (HD1.out.below HBW.out);have HW0:=lh (yad HB1.out HBW.out);have HKG:=lh hkg;have kw1:=HTW.out.lt;have kw2:=HDW.out.lt;cases gk with
  | succ gg =>
   have hlt:(k:Int)<(l.length:Int):=by omega
   have hln:=HLN.out;obtain ⟨b,o,x,rfl,⟨c0,c1,c2,c3,c4⟩,HX⟩:=(HL.out.below HW0.out).get (i:=k) om
   have HE:Hid (ygo lim ts cyc dued minf minp start x.a x.b x.c x.d x.e=0):= by
    have:=HG.out.events _ (show x∈l by rw [<-HX.out];simp [List.getD,show k<l.length by omega]);exact this
   obtain ⟨t0,t1,t2,t3,t4,t5,t6,-⟩:=HTW.out.cs [0,1,2,3,4,5,6];simp only [gz,gs] at t0 t1 t2 t3 t4 t5 t6
   go_wp2_with fail
   refine (yfm _ ts lim cyc dued minf minp start x.a x.b x.c x.d x.e 0 HE _ (HT.out.below (yaa HW0.out _))).mono ?_;rintro _ w3 ⟨rfl,hb3⟩;have HW3:Hid (BW w1 w3):=yad (yaa HBW.out _) hb3;clear hb3
   go_wp2_with fail
   go_roundg gg
   case measure=>omega
   case rel=>exact ⟨k+1,by have:=HKG.out;omega,by go_num,HW3.out⟩
  | zero =>
   have hlt:¬((k:Int)<(l.length:Int)):=by omega
   have hln:¬(2000:Int)<(l.length:Int):=by have:=HLN.out;omega
   obtain ⟨t0,t1,t2,t3,t4,t5,t6,-⟩:=HTW.out.cs [0,1,2,3,4,5,6];simp only [gz,gs] at t0 t1 t2 t3 t4 t5 t6;have d0:=HDW.out.cell 0;simp only [gz,gs] at d0
   by_cases h1:today<start\/2932896<today
   ·obtain rfl:10=r:=by rw [<-hr.out];unfold ye2;rw [if_pos h1]
    have h1':today<start\/(¬today<start/\2932896<today):=by omega
    clear h1;rcases h1' with h1 | ⟨h1,h1b⟩
    all_goals
     go_wp2_with fail
     go_ret
     exact ⟨rfl,HW0.out⟩
   ·have h1a:¬today<start:=by omega
    have h1b:¬2932896<today:=by omega
    obtain ⟨q1,q2,hq⟩:∃q1 q2,ofS start cyc today=(q1,q2):=⟨_,_,rfl⟩;have HQ:=lh hq
    by_cases hq2:q2=0
    ·subst hq2
     obtain rfl:0=r:=by rw [<-hr.out];unfold ye2;simp only;rw [if_neg h1,hq];rfl
     clear hq h1
     go_wp2_with fail
     refine (yr4 start cyc today _ HQ _).mono ?_;rintro _ w3 ⟨rfl,hb3⟩;have HW3:=lh (yad HW0.out hb3);have HD3:=lh (HDW.out.below hb3);clear hb3
     go_wp2_with fail
     refine (yok _ l (w.heap.size+1) today (lh HG.out.late) _ (HL.out.below HW3.out) HD3.out).mono ?_;rintro _ w4 ⟨rfl,hb4⟩
     go_wp2_with fail
     go_ret
     exact ⟨rfl,yad HW3.out hb4⟩
    ·obtain rfl:10=r:=by rw [<-hr.out];unfold ye2;simp only;rw [if_neg h1,hq,if_pos hq2]
     have hq3:(q2 != 0)=true:=by simpa using hq2
     clear hq h1 hq2
     go_wp2_with fail
     refine (yr4 start cyc today _ HQ _).mono ?_;rintro _ w3 ⟨rfl,hb3⟩
     go_wp2_with fail
     go_ret
     exact ⟨rfl,yad HW0.out hb3⟩
theorem ybs {W:World} {a b:Nat} {e e':TypeId} {c c':List Value} (h:Blk W a e c) (k:Blk W b e' c') (hne:e≠e'):a≠b:= by
 rintro rfl;unfold Blk at h k;rw [h] at k;simp only [Option.some.injEq,Obj.cells.injEq] at k;exact hne k.2.1
structure ydg (F:List Nat) (W:World) (lo:Nat) (v:Value) (X:List (List Int)) (b:Nat) (xs:List Value):Prop where
 val:v=sL b 0 X.length X.length
 blk:Blk W b 33 xs
 len:xs.length=X.length
 rows:∀k,k<X.length->W.ownsRow lo 2 1 (xs.getD k (sZ)) (X.getD k []).length ((X.getD k []).map (Value.int .i64))
 bF:b∈F
 inF:∀k,k<X.length->∀q,(xs.getD k (sZ)).ownBlock=some q->q∈F
theorem ydg.below {F:List Nat} {W W':World} {lo:Nat} {v:Value} {X:List (List Int)} {b:Nat} {xs:List Value} (h:ydg F W lo v X b xs) (hb:BW W W'):ydg F W' lo v X b xs :=
 ⟨h.val,h.blk.below hb,h.len,fun k hk=>yah (h.rows k hk) hb,h.bF,h.inF⟩
theorem ydg.keep {F:List Nat} {W W':World} {lo g:Nat} {v:Value} {X:List (List Int)} {b:Nat} {xs cs:List Value} {e:TypeId} (h:ydg F W lo v X b xs) (hk:yab [g] W W') (hg:Blk W g e cs) (h1:e≠33) (h2:e≠2):ydg F W' lo v X b xs :=
 ⟨h.val,h.blk.keep hk (by simp only [ms];exact fun e=>ybs hg h.blk h1 e.symm),h.len,fun k hk'=>yap (h.rows k hk') hk (fun q hq hm=>by
  simp only [ms] at hm;subst hm;exact yaj (h.rows k hk') hg h2 hq.symm),h.bF,h.inF⟩
def yz5 (xs ys:List Value):Prop:=∀i j,∀q,(xs.getD i (sZ)).ownBlock=some q->(ys.getD j (sZ)).ownBlock≠some q
def yyi (xs:List Value):Prop:=∀i j,i≠j->∀q,(xs.getD i (sZ)).ownBlock=some q->(xs.getD j (sZ)).ownBlock≠some q
structure RV where
 tv:Value
 lv:Value
 pv:Value
 rv:Value
 xv:Value
 yv:Value
 ov:Value
 bx:Nat
 bz:Nat
 xs:List Value
 ys:List Value
 vs:List Value
def yc9 (t:Tm) (tv lv:Value) (k:Nat) (day:Int) (pv:Value) (p:Ps) (rv xv yv ov:Value):List Value :=
 [iV t.lim,tv,iV t.cyc,iV t.dued,iV t.minf,iV t.minp,iV t.start,lv,iV (k:Int),iV day,pv,iV p.c,iV p.d,rv,xv,yv,ov,.nilFunc,.nilFunc,.nilFunc]
def Hi (lo:Nat) (v:Value):Prop:=∀b o n c,v=sL b o n c->0<n->lo<=b
theorem Hi.of_fr {lo:Nat} {w:World} {v:Value} (h:Fr w v) (hl:lo<=w.heap.size):Hi lo v:=fun b o n c e hn=>Nat.le_trans hl (h b o n c e hn)
theorem Hi.nil (lo c:Nat) (ao:Option Addr):Hi lo (.slice ao 0 c):=fun b o n c' e hn=>by cases e;omega
def HiR (lo:Nat) (V:RV):Prop:=Hi lo V.pv/\Hi lo V.rv/\(∀v∈V.vs,Hi lo v)/\OffF [lo-1] V.tv/\OffF [lo-1] V.lv
def yzo (t:Tm) (l:List R5) (s:RS) (V:RV) (W:World):Prop:=TrS W V.tv t.ts/\R5S W V.lv l/\Sl .i64 W V.pv s.p.bs/\Sl .i64 W V.rv s.rs/\LnsS W s.out V.vs
structure yb2 (lo g:Nat) (t:Tm) (l:List R5) (day:Int) (s:RS) (F:List Nat) (W:World) (V:RV):Prop where
 blk:Blk W g 181 (yc9 t V.tv V.lv s.at' day V.pv s.p V.rv V.xv V.yv V.ov)
 gF:g∈F
 lt:∀x∈F,lo<=x/\x<W.heap.size
 rd:Rd F W (yzo t l s V)
 X:ydg F W lo V.xv s.X V.bx V.xs
 Y:ydg F W lo V.yv s.Y V.bz V.ys
 ne:V.bx≠V.bz
 dx:yyi V.xs
 dy:yyi V.ys
 dxy:yz5 V.xs V.ys
 out:W.ownsRow lo 43 9 V.ov s.out.length (yay s.out V.vs)
 outF:∀q,V.ov.ownBlock=some q->q∈F
 hi:HiR lo V
structure Stp (F:List Nat) (W:World) (F':List Nat) (W':World):Prop where
 keep:yab F W W'
 new:∀x∈F',x∈F\/W.heap.size<=x
theorem Stp.refl (F:List Nat) (W:World):Stp F W F W:=⟨yab.refl _ _,fun _ h=>.inl h⟩
theorem Stp.trans {F F' F'':List Nat} {W W' W'':World} (h:Stp F W F' W') (k:Stp F' W' F'' W''):Stp F W F'' W'' :=
 ⟨h.keep.trans k.keep h.new,fun x hx=>by
  rcases k.new x hx with h1 | h1
  ·exact h.new x h1
  ·exact .inr (Nat.le_trans h.keep.size h1)⟩
theorem Stp.below {F F':List Nat} {W W' W'':World} (h:Stp F W F' W') (k:BW W' W''):Stp F W F' W'':=h.trans ⟨yab.of_below k,fun _ hx=>.inl hx⟩
theorem Stp.rd {F F':List Nat} {W W':World} {φ:World->Prop} (h:Stp F W F' W') (k:Rd F W φ):Rd F' W' φ:=k.step h.keep (fun _ hx=>.inl hx) h.new
theorem Stp.blk {F F':List Nat} {W W':World} {g:Nat} {e:TypeId} {cs:List Value} (h:Stp F W F' W') (k:Blk W g e cs) (hg:g∉F):Blk W' g e cs/\g∉F' :=
 ⟨k.keep h.keep hg,fun hx=>by
  rcases h.new g hx with h1 | h1
  ·exact hg h1
  ·have:=k.lt
   omega⟩
theorem yb2.below {lo g:Nat} {t:Tm} {l:List R5} {day:Int} {s:RS} {F:List Nat} {W W':World} {V:RV} (h:yb2 lo g t l day s F W V) (hb:BW W W'):yb2 lo g t l day s F W' V :=
 ⟨h.blk.below hb,h.gF,fun x hx=>⟨(h.lt x hx).1,Nat.lt_of_lt_of_le (h.lt x hx).2 hb.size⟩,h.rd.below hb (fun x hx=>.inl hx),h.X.below hb,h.Y.below hb,h.ne,h.dx,h.dy,h.dxy,yah h.out hb,h.outF,h.hi⟩
theorem yb2.store {lo g:Nat} {t:Tm} {l:List R5} {day day':Int} {s:RS} {F:List Nat} {W W':World} {V:RV} (h:yb2 lo g t l day s F W V) (hk:yab [g] W W') {k:Nat} {p:Ps} {rs:List Int} {pv rv:Value}
 (hb:Blk W' g 181 (yc9 t V.tv V.lv k day' pv p rv V.xv V.yv V.ov)) (hp:Rd F W (fun W=>Sl .i64 W pv p.bs/\Sl .i64 W rv rs)) (hh:Hi lo pv/\Hi lo rv):yb2 lo g t l day' { s with at':=k,p:=p,rs:=rs } F W' { V with pv:=pv,rv:=rv }:= by
 have hst:Stp F W F W':=⟨hk.mono (fun x hx=>by simp only [ms] at hx;exact hx▸h.gF),fun _ hx=>.inl hx⟩;refine ⟨hb,h.gF,fun x hx=>⟨(h.lt x hx).1,Nat.lt_of_lt_of_le (h.lt x hx).2 hk.size⟩,?_,h.X.keep hk h.blk (by decide) (by decide),h.Y.keep hk h.blk (by decide) (by decide),h.ne,h.dx,h.dy,h.dxy,?_,h.outF,⟨hh.1,hh.2,h.hi.2.2⟩⟩
 ·exact ((hst.rd h.rd).and (hst.rd hp)).imp fun W k=>⟨k.1.1,k.1.2.1,k.2.1,k.2.2,k.1.2.2.2.2⟩
 ·refine yap h.out hk (fun q hq hm=>?_)
  simp only [ms] at hm;subst hm;exact yaj h.out h.blk (by decide) hq.symm
theorem yb2.rdSl {lo g:Nat} {t:Tm} {l:List R5} {day:Int} {s:RS} {F:List Nat} {W:World} {V:RV} (h:yb2 lo g t l day s F W V):Rd F W (fun W=>Sl .i64 W V.pv s.p.bs/\Sl .i64 W V.rv s.rs):=h.rd.imp fun _ k=>⟨k.2.2.1,k.2.2.2.1⟩
end Go.Proofs.YtkongpjpkpfniaaGreat

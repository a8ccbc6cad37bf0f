/- TopBooks, a part. -/
import Derived.Deep.LoopGhost
import Derived.Lib.Hide
import Derived.Outline
import Derived.ScopeJumps
import Derived.WalkKit
import Derived.WalkLawsBesides
import Derived.WalkSpells
import Derived.Deep.RegionLaw
import Derived.Deep.QuietTactic
import Derived.Test.YtkongpjpkpfniaaGreatRows
set_option linter.unusedVariables false
set_option linter.unusedSimpArgs false
set_option maxRecDepth 100000
set_option maxHeartbeats 6400000
namespace Go.Proofs.YtkongpjpkpfniaaGreat
open Go.RowKit Go.Proofs.Tryz
theorem xg {α:Sort _} (x:α):∃y,x=y:=⟨_,rfl⟩
theorem xh {α β:Type} (x:α×β):∃y z,x=(y,z):=⟨_,_,rfl⟩
theorem An {a b:Prop} (x:a) (y:b):a/\b:=⟨x,y⟩
theorem wa (w:World) (o:Obj):(w.alloc o).heap.size=w.heap.size+1:=World.size_alloc w o
theorem wd (w:World):w.drew.heap.size=w.heap.size:=World.size_drew w
theorem nr (n:Nat):n<=n:=Nat.le_refl n
theorem mc {α:Type} {b:α} {l:List α} {a:α}:a∈b::l↔a=b\/a∈l:=List.mem_cons
theorem me {α:Type} {a:α} {l:List α}:a∈a::l:=List.mem_cons_self
theorem mo {α:Type} (y:α) {a:α} {l:List α}:a∈l->a∈y::l:=List.mem_cons_of_mem y
theorem wi (n:Int):-9223372036854775808<=n/\n<=9223372036854775807->wrap64 n=n:=IntWalk.wrap64_in n
theorem tl {α:Type} {a:α} {o:Option α}:a∈o.toList↔o=some a:=Option.mem_toList
theorem nn {α:Type} {a:α}:¬a∈([]:List α):=List.not_mem_nil
theorem la {α:Type} {s t:List α}:(s++t).length=s.length+t.length:=List.length_append
theorem ma {α:Type} {a:α} {s t:List α}:a∈s++t↔a∈s\/a∈t:=List.mem_append
theorem nt {n m k:Nat}:n<=m->m<=k->n<=k:=Nat.le_trans
theorem ba (a b:Bool):((a && b)=true)=(a=true/\b=true):=Bool.and_eq_true a b
theorem oo {p q:Prop} (h:p) (k:p->q:=by(intro h;omega)):q:=k h
theorem o2 {p r q:Prop} (h:p) (i:r) (k:p->r->q:=by(intro h i;omega)):q:=k h i
theorem o3 {p r s q:Prop} (h:p) (i:r) (j:s) (k:p->r->s->q:=by(intro h i j;omega)):q:=k h i j
theorem de {q:Prop} (h:q:=by decide):q:=h
theorem sm {q:Prop} (h:q:=by simp):q:=h
theorem ml {q:Prop} (h:q:=by unfold maxLen;omega):q:=h
theorem rf {q:Prop} (h:q:=by rfl):q:=h
theorem ss {p q:Prop} (h:p) (k:p->q:=by(intro h;simpa using h)):q:=k h
abbrev Aw (w:World) (i:Nat):Addr:=⟨w.heap.size,i,none⟩
abbrev Ax (w:World) (i:Nat):Addr:=⟨w.heap.size+1,i,none⟩
abbrev Cw (w x:World) (i:Nat) (v:Value):Prop:=w.cell? ⟨x.heap.size,i,none⟩=some v
abbrev Cx (w x:World) (i:Nat) (v:Value):Prop:=w.cell? ⟨x.heap.size+1,i,none⟩=some v
structure Kk (p:Prop):Prop where
 o:p
def Hd (p:Prop):Prop:=p
theorem Hd.o {p:Prop} (h:Hd p):p:=h
theorem DX {q:Prop} (h:q:=by have:=mH.o;omega):q:=h
theorem hM {q:Prop} (h:q:=by rw[<-a9];exact h.o):q:=h
theorem hE {q:Prop} (h:q:=by rw[eq.o];simp):q:=h
theorem FP {q:Prop} (h:q:=by simp[Act.eval,Act.put]):q:=h
theorem IV {q:Prop} (h:q:=by simp only[List.length_cons];omega):q:=h
theorem Rq {q:Prop} (h:q:=by have:=au.lt;simp only[ms];omega):q:=h
theorem I0 {q:Prop} (h:q:=by simp only[ms]at aj;subst aj;simp):q:=h
theorem Oy {q:Prop} (h:q:=by first | exact ow.o | exact pD.o):q:=h
theorem QV {q:Prop} (h:q:=by simp[I]):q:=h
theorem PX {q:Prop} (h:q:=by have:=ig.o;omega):q:=h
theorem BE {q:Prop} (h:q:=by rw[er];omega):q:=h
theorem ln {q:Prop} (h:q:=by rw[wa];exact Nat.le_succ _):q:=h
theorem Jv {q:Prop} (h:q:=by simpa using h):q:=h
theorem M7 {q:Prop} (h:q:=by simp[results,results114,go_sem,mI,sx,aR,bg,be,ei,ej]):q:=h
theorem E9 {q:Prop} (h:q:=by rw[wd,wa];exact Nat.le_succ_of_le ul.o):q:=h
theorem FX {q:Prop} (h:q:=by simp only[o1,bq.o,show decide (1<=aG)=false by simp;omega];simp):q:=h
theorem DE {q:Prop} (h:q:=by have:=ce.o;have:=cT.o;omega):q:=h
theorem Gx {q:Prop} (h:q:=by simp[results,results174,go_sem,aR,bg,be]):q:=h
theorem Dt {q:Prop} (h:q:=by simp[results,results186,go_sem,aR,bg,be]):q:=h
theorem Hw {q:Prop} (h:q:=by simpa using cx):q:=h
theorem QR {q:Prop} (h:q:=by rw[jdn];exact tl.1 a0):q:=h
theorem GP {q:Prop} (h:q:=by have Z:=cA.size;have ag:=mJ.lt;omega):q:=h
theorem ME {q:Prop} (h:q:=by first | exact hB cA.o _ | exact hB (hG cA.o) _ | exact hG (hB cA.o _)):q:=h
theorem O9 {q:Prop} (h:q:=by simpa using fo):q:=h
theorem NE {q:Prop} (h:q:=by simp only[ms];have:=mj.2.2;omega):q:=h
theorem Js {q:Prop} (h:q:=by intro c cH;simp at cH;rcases cH with rfl | rfl | rfl | rfl | rfl | rfl | rfl | rfl | rfl <;> rfl):q:=h
theorem Ic {q:Prop} (h:q:=by simp only[ms];omega):q:=h
theorem E2 {q:Prop} (h:q:=by rw[List.length_set];have:=ey.2;omega):q:=h
theorem Bg {q:Prop} (h:q:=by rw[um.o];unfold GG;rw[aJ.o,show(bo.length == bs.length)=true by simp[bp.1]];rfl):q:=h
theorem BO {q:Prop} (h:q:=by have:=ey.1;omega):q:=h
theorem HH {q:Prop} (h:q:=by have:=mm.o;omega):q:=h
theorem AW {q:Prop} (h:q:=by simp[results,results138,go_sem,aR,bg,be]):q:=h
theorem HT {q:Prop} (h:q:=by simp[results,results182,go_sem,aR,bg,be]):q:=h
theorem C8 {q:Prop} (h:q:=by simp[results,results181,go_sem,aR,bg,be]):q:=h
theorem Eh {q:Prop} (h:q:=by simp[results,results180,go_sem,aR,bg,be]):q:=h
theorem Hj {q:Prop} (h:q:=by rw[wd,wa];exact Nat.le_succ_of_le sy.o):q:=h
theorem Id {q:Prop} (h:q:=by first | exact n7.B (hB bR _) | exact n7.B (hB (hG bR) _) | exact n7.B (hG (hB bR _))):q:=h
theorem HX {q:Prop} (h:q:=by first | exact ox.B (hB bR _) | exact ox.B (hB (hG bR) _) | exact ox.B (hG (hB bR _))):q:=h
theorem Eg {q:Prop} (h:q:=by first | exact oy.B (hB bR _) | exact oy.B (hB (hG bR) _) | exact oy.B (hG (hB bR _))):q:=h
theorem Rr {q:Prop} (h:q:=by first | exact oz.B (hB bR _) | exact oz.B (hB (hG bR) _) | exact oz.B (hG (hB bR _))):q:=h
theorem Ia {q:Prop} (h:q:=by first | exact gQ.B (hB bR _) | exact gQ.B (hB (hG bR) _) | exact gQ.B (hG (hB bR _))):q:=h
theorem Gh {q:Prop} (h:q:=by rw[wa];have:=bY.o;omega):q:=h
theorem IO {q:Prop} (h:q:=by first | (rw[wa];exact Nat.le_succ_of_le un) | (rw[wd,wa];exact Nat.le_succ_of_le un)):q:=h
theorem M3 {q:Prop} (h:q:=by simp only[wa];omega):q:=h
theorem MV {q:Prop} (h:q:=by simpa using aA):q:=h
theorem J4 {q:Prop} (h:q:=by have:=bB.o;have:=bz.o;have:=ii.o;have:=cK.o;omega):q:=h
theorem RQ {q:Prop} (h:q:=by rw[En];rfl):q:=h
theorem Fe {q:Prop} (h:q:=by have:=bp.o;omega):q:=h
theorem JF {q:Prop} (h:q:=by rfl):q:=h
theorem Rl {q:Prop} (h:q:=by first | (rw[wa];exact Nat.le_succ_of_le cA.size) | exact cA.size | (rw[wd,wa];exact Nat.le_succ_of_le cA.size)):q:=h
theorem Sf {q:Prop} (h:q:=by have:=bB.o;have:=bz.o;have:=ii.o;have:=cK.o;have:=fp.o;omega):q:=h
theorem L2 {q:Prop} (h:q:=by intro cU cE;simp at cE;subst cE;rfl):q:=h
theorem Nq {q:Prop} (h:q:=by simp[results,results65,go_sem,dJ,bQ,cB,bF,ez]):q:=h
theorem GK {q:Prop} (h:q:=by simp;omega):q:=h
theorem IA {q:Prop} (h:q:=by simp[Value.oneCell']):q:=h
theorem G8 {q:Prop} (h:q:=by intro cU cE;simp only[mc,nn,or_false]at cE;rcases cE with rfl | rfl | rfl | rfl | rfl | rfl | rfl | rfl | rfl <;> rfl):q:=h
theorem HS {q:Prop} (h:q:=by first | exact bR | exact hG bR):q:=h
theorem Pz {q:Prop} (h:q:=by have:=bd.o;omega):q:=h
theorem Jh {q:Prop} (h:q:=by have:=bB.o;have:=bz.o;have:=ii.o;omega):q:=h
theorem MR {q:Prop} (h:q:=by first | exact ea | exact hJ (hG bR) ea):q:=h
theorem Pf {q:Prop} (h:q:=by simp only[mc,nn,or_false];omega):q:=h
theorem Ff {q:Prop} (h:q:=by repeat (first | with_reducible exact bR | with_reducible refine hB ?_ _ | with_reducible refine hG ?_)):q:=h
theorem I6 {q:Prop} (h:q:=by repeat (first | with_reducible exact bR | with_reducible refine hB ?_ _)):q:=h
theorem x1 {q:Prop} (h:q:=by rw[wa];omega):q:=h
theorem E4 {q:Prop} (h:q:=by repeat (first | with_reducible exact hC.refl _ _ | with_reducible exact yg.o | with_reducible refine hC.alloc ?_ _ | with_reducible refine hC.drew ?_ | with_reducible refine hC.setCell ?_ (.inl (me ..)) _)):q:=h
theorem QF {q:Prop} (h:q:=by repeat (first | with_reducible exact bR | with_reducible exact dS.o | with_reducible exact HB6.o | with_reducible refine hB ?_ _ | with_reducible refine hG ?_)):q:=h
theorem w6 {q:Prop} (h:q:=by repeat (first | with_reducible exact hC.refl _ _ | with_reducible refine hC.alloc ?_ _ | with_reducible refine hC.drew ?_ | with_reducible refine hC.setCell ?_ (.inl (me ..)) _)):q:=h
theorem RD {q:Prop} (h:q:=by unfold maxLen;omega):q:=h
theorem Is {q:Prop} (h:q:=by simp):q:=h
theorem Iv {q:Prop} (h:q:=by decide):q:=h
theorem K2 {p q:Prop} (k:p) (h:Kk p->q:=by
 intro kk;have Z:=H.2 a8 (ready_mono di eG);obtain⟨mp,fq,lE,n8⟩:=mem_ready.1 di;have pE:∀I∈fq.after,Region.binds md I=true->I.on≠i:=fun I fo au yh=>by exact QB
 refine If ?_;intro ag;revert Z mp fq lE n8 pE ag;exact kk.o):q:=h ⟨k⟩
theorem Ik {p q:Prop} (k:p) (h:Kk p->q:=by intro kk;have dK:=mK.o dL aJ.bel;refine Ma ?_;show _;refine HQ ?_;show _;refine tF 17 rfl ?_ (hS:=dK);clear dK;exact kk.o):q:=h ⟨k⟩
theorem Od {p q:Prop} (k:p) (h:Kk p->q:=by intro kk;have dJ:World.cell? _ (Ad (w.heap.size+1) 0)=some (iZ):=db.cell 0;have bQ:World.cell? _ (Ad (w.heap.size+1) 1)=some (iZ):=db.cell 1;have cB:World.cell? _ (Ad (w.heap.size+1) 2)=some (iZ):=db.cell 2;have bF:World.cell? _ (Ad (w.heap.size+1) 3)=some (iZ):=db.cell 3;have ez:World.cell? _ (Ad (w.heap.size+1) 4)=some (iZ):=db.cell 4;revert dJ bQ cB bF ez;exact kk.o):q:=h ⟨k⟩
theorem IX {p q:Prop} (k:p) (h:Kk p->q:=by intro kk;have jk:=lh jl;have ij:=lh jX;have lF:=lh fX;have gE:=lh gT;have eI:=lh bZ;have HB6:Hd (BW cg aY):=hJ bM bZ;have dK:=jm.o aY HB6.o;refine Ma ?_;show _;refine tF 19 rfl ?_ (hS:=dK);refine tF 20 rfl ?_ (hS:=dK);refine tF 21 rfl ?_ (hS:=dK);refine tF 22 rfl ?_ (hS:=dK);revert jk ij lF gE eI HB6 dK;exact kk.o):q:=h ⟨k⟩
theorem O7 {p q:Prop} (k:p) (h:Kk p->q:=by intro kk;refine Kn ?_;show _;refine NT ?_;show _;refine tK 18 rfl ?_;refine tK 19 rfl ?_;exact kk.o):q:=h ⟨k⟩
theorem On {p q:Prop} (k:p) (h:Kk p->q:=by
 intro kk;have bJ:Hd (hA ((w.alloc (.cells #[.slice aF bs.length aC,iV c,iV aa] 35)).alloc (.cells #[sZ,iZ,iZ] 35)) (w.heap.size+1) 35 [sZ,iZ,iZ]):=by exact QM
 revert bJ;exact kk.o):q:=h ⟨k⟩
theorem Gj {p q:Prop} (k:p) (h:Kk p->q:=by
 intro kk;have n9:Hd (∀aG∈jA::lm.ownBlock.toList,w.heap.size+2<=aG):=fun aG bq=>by exact QG
 refine NW ?_;revert n9;exact kk.o):q:=h ⟨k⟩
theorem IC {p q:Prop} (k:p) (h:Kk p->q:=by
 intro kk;refine RK ?_;intro gt;refine OD ?_;intro aM;have aP:((rss.length:Int) != (ts.length:Int))=false:=by simp;omega
 have bp:=lh (An pF (An lq sz));refine K8 ?_;intro lr gu;obtain⟨jn,aA,iA,gU,er⟩:=info_parts Ch;revert gt aM aP bp lr gu jn aA iA gU er;exact kk.o):q:=h ⟨k⟩
theorem Ot {q:Prop} (h:q:=by
 unfold s0 at iB;split at iB;·exact OL
 ·split at iB;·exact OL
  ·rename_i gW;split at iB;·exact OL
   ·split at iB;·injection iB with h _;exact⟨by rw[<-h,Cz],by simpa using gW⟩
    ·exact OL):q:=h
theorem G9 {q:Prop} (h:q:=by
 try simp only[wd,wa]at Z
 simp only[ms]at a0;omega):q:=h
theorem Nu {p q:Prop} (k:p) (h:Kk p->q:=by
 intro kk;obtain⟨aa,dn⟩:=xg (ah-aB);obtain⟨aP,fc⟩:=xg (b-ah);have up:¬((aa:Int)=1):=oo bB.o;have uq:((aa:Int) == 1)=false:=by simp;have:=bB.o;omega
 revert aa dn aP fc up uq;exact kk.o):q:=h ⟨k⟩
theorem Ga {p q:Prop} (k:p) (h:Kk p->q:=by intro kk;refine(Df _ bs c aa _ dj om _ (br.B bi.o)).mono ?_;refine Ej ?_;exact kk.o):q:=h ⟨k⟩
theorem Gn {p q:Prop} (k:p) (h:Kk p->q:=by
 intro kk;have jB:Hd (k<l.length):=by have:=bz.o;have:=bp.o;show _<_;omega
 refine Pp ?_;intro dO;revert jB dO;exact kk.o):q:=h ⟨k⟩
theorem QL {p q:Prop} (k:p) (h:Kk p->q:=by
 intro kk;have bJ:Hd (hA ((w.alloc (.cells #[.slice aF bs.length aC,iV c,iV aa] 35)).alloc (.cells #[sZ,iZ,iZ] 35)) (w.heap.size+1) 35 [sZ,iZ,iZ]):=by exact QM
 refine PC ?_;intro ct cj bi;revert bJ ct cj bi;exact kk.o):q:=h ⟨k⟩
theorem FB {p q:Prop} (k:p) (h:Kk p->q:=by
 intro kk;have bJ:Hd (hA ((w.alloc (.cells #[.slice aF bs.length aC,iV c,iV aa] 35)).alloc (.cells #[sZ,iZ,iZ] 35)) (w.heap.size+1) 35 [sZ,iZ,iZ]):=by exact QM
 refine PC ?_;intro ct cj bi;revert bJ ct cj bi;exact kk.o):q:=h ⟨k⟩
theorem Ge {p q:Prop} (k:p) (h:Kk p->q:=by intro kk;refine tK 10 rfl ?_;refine tK 11 rfl ?_;refine tK 12 rfl ?_;refine tK 13 rfl ?_;refine tK 14 rfl ?_;exact kk.o):q:=h ⟨k⟩
theorem Rz {q:Prop} (h:q:=by
 go_wp2_with fail;obtain rfl:8=bt:=by exact Q4
 refine H1 ?_;intro eO cu;exact MQ):q:=h
theorem Sm {q:Prop} (h:q:=by intro fd nA mL;have dM:=lh nA;clear nA mL;go_wp2_with fail;refine Lo ?_;intro a7 aH iO cM iP iQ iR iS iT;exact J9):q:=h
theorem Ry {q:Prop} (h:q:=by simp only[wd,wa]at Z;simp only[mc,nn,or_false]at a0;omega):q:=h
theorem Sw {q:Prop} (h:q:=by obtain⟨rfl,s5,au⟩:=J;go_wp2;simp only[Exit.jump];go_ret2;rw[s5.o.1,s5.o.2];exact⟨rfl,au⟩):q:=h
theorem PC {p q:Prop} (k:p) (h:Kk p->q:=by intro kk;have ct:hA (w.alloc (.cells #[.slice aF bs.length aC,iV c,iV aa] 35)) w.heap.size 35 [.slice aF bs.length aC,iV c,iV aa]:=heap_alloc_new w _;have cj:=lh (ct.B (hB bR (.cells #[sZ,iZ,iZ] 35)));have bi:Hd (BW w ((w.alloc (.cells #[.slice aF bs.length aC,iV c,iV aa] 35)).alloc (.cells #[sZ,iZ,iZ] 35))):=hB (hB bR _) _;revert ct cj bi;exact kk.o):q:=h ⟨k⟩
theorem Kn {p q:Prop} (k:p) (h:Kk p->q:=by intro kk;refine tK 0 rfl ?_;refine tK 1 rfl ?_;refine tK 2 rfl ?_;refine tK 3 rfl ?_;refine tK 4 rfl ?_;refine tK 5 rfl ?_;refine tK 6 rfl ?_;refine tK 7 rfl ?_;refine tK 8 rfl ?_;exact kk.o):q:=h ⟨k⟩
theorem GV {p q:Prop} (k:p) (h:Kk p->q:=by
 intro kk;rintro _ bG ⟨qE,qF,qG,fY,rfl,iU,iW,iX,⟨cC,dr,gX,fQ⟩,fF⟩;obtain⟨gY,gZ,rfl⟩:=iU.shape;obtain⟨h8,hD,rfl⟩:=iW.shape;obtain⟨hF,hH,rfl⟩:=iX.2.shape;have cN:=lh (An iU (An iW iX));have gF:=lh (An cC (An dr (An gX fQ)));have lG:=lh fF;have dS:Hd (BW bj bG):=hJ bM fF;have fZ:=jo.o bG dS.o;clear iU iW iX cC dr gX fQ fF;refine ac.out _ _ (fun hun=>fZ) ?_;try simp only[ap,aq,sa,sb,sc]
 try revert fZ
 try revert dS
 try revert lG
 try revert gF
 try revert cN
 try revert hH
 try revert hF
 try revert hD
 try revert h8
 try revert gZ
 try revert gY
 try revert fY
 try revert qG
 try revert qF
 try revert qE
 try revert bG
 exact kk.o):q:=h ⟨k⟩
theorem Ck {p q:Prop} (k:p) (h:Kk p->q:=by intro kk;refine tK 0 rfl ?_;refine tK 1 rfl ?_;refine tK 2 rfl ?_;refine tK 3 rfl ?_;refine tK 4 rfl ?_;exact kk.o):q:=h ⟨k⟩
theorem IS {q:Prop} (h:q:=by
 intro jY a7 J fd lH;clear lH;iterate 138 obtain⟨_,J⟩:=J
 obtain⟨rfl,yi,qH,pG,fp⟩:=J;obtain⟨aR,bg,be,ei,ej,-⟩:=qH.cS [0,1,2,3,4];obtain⟨eP,eQ,eR,eS,eT,-⟩:=qH.fs [0,1,2,3,4];have o0:=qH.lt;go_wp2_with fail;have db:=(((((qH.set 0 (iZ)).set 1 (iZ)).set 2 (iZ)).set 3 (iZ)).set 4 (iZ));refine Od ?_;intro dJ bQ cB bF ez;obtain⟨yj,yk⟩:=pG.o;have eO:=yi.o;subst eO;refine bodyPost_ret (v:=.tuple #[.agg #[iZ,iZ,iZ,iZ,iZ],iV bt]) Nq rfl ⟨yj,rfl,Cr w6 yk fp.o qH.o bY.o (iC.o _ e7.o.1)⟩):q:=h
theorem Er {p q:Prop} (k:p) (h:Kk p->q:=by
 intro kk;have wm:hA (w.alloc (.cells #[iV x.a,iV x.b,iV x.c,iV x.d,iV x.e] 150)) w.heap.size 150 x.cells:=hR w x.cells _ _ rfl;have jC:=lh wm;have bS:∀W',Below (w.heap.size+1) (w.alloc (.cells #[iV x.a,iV x.b,iV x.c,iV x.d,iV x.e] 150)) W'->((Ce W' g 0 (iV ay)/\Ce W' g 1 (.slice bH ts.length bC)/\Ce W' g 2 (iV al)/\Ce W' g 3 (iV an)/\Ce W' g 4 (iV az)/\Ce W' g 5 (iV ar)/\Ce W' g 6 (iV ax)/\Ce W' g 7 (.slice f' l.length dP))/\(Ce W' w.heap.size 0 (iV x.a)/\Ce W' w.heap.size 1 (iV x.b)/\Ce W' w.heap.size 2 (iV x.c)/\Ce W' w.heap.size 3 (iV x.d)/\Ce W' w.heap.size 4 (iV x.e))):=fun W' h =>
  have q:hA W' g _ _:=(h.block g om).trans (dc.B (hB bR _));have bu:hA W' w.heap.size _ _:=(h.block w.heap.size om).trans jC.o
  ⟨⟨q.cell 0,q.cell 1,q.cell 2,q.cell 3,q.cell 4,q.cell 5,q.cell 6,q.cell 7⟩,bu.cell 0,bu.cell 1,bu.cell 2,bu.cell 3,bu.cell 4⟩
 have ce:=lh bS;clear wm bS;revert jC ce;exact kk.o):q:=h ⟨k⟩
theorem OZ {p q:Prop} (k:p) (h:Kk p->q:=by
 intro kk;have qI:c'<=1000000:=o2 bB.o bd.o;have mM:fe<=1000000:=o2 bB.o bd.o;have qJ:c'/2=i3:=by rw[<-jZ];exact bB.2.2.2.2
 have qK:aB<=ah:=oo bB.o;have qL:ah<=b:=oo bB.o;have qM:ah<=1000000:=o2 bB.o bd.o;have qN:b<=1000000:=o2 bB.o bd.o;have qO:-9223372036854775808<=(p:Int)/\(p:Int)<=9223372036854775807:=om;have cK:=lh (An jZ (An mq es));obtain⟨cC,dr,gX⟩:=Gk jZ qJ qI;have fQ:wrap64 ((i3:Int)+(ah:Int))=(fe:Int):=GR mq mM;have lI:wrap64 ((fe:Int)-1)=(p:Int):=by rw[qP];exact wi _ qO
 have o4:wrap64 ((ah:Int)-(aB:Int))=(aa:Int):=EA qK dn qM;have o5:wrap64 ((b:Int)-(ah:Int))=(aP:Int):=EA qL fc qN;revert qI mM qJ qK qL qM qN qO cK cC dr gX fQ lI o4 o5;exact kk.o):q:=h ⟨k⟩
theorem H1 {p q:Prop} (k:p) (h:Kk p->q:=by
 intro kk;have eO:x=Sk:=by rw[<-aj.o];unfold r3;rw[if_pos (by rw[eq.o];decide)]
 have cu:eU=b:=by rw[<-pH.o];unfold us;rw[if_neg (fun h=>by have:=h.1;rw[eq.o]at this;exact absurd this (by decide))]
 revert eO cu;exact kk.o):q:=h ⟨k⟩
theorem Lr {p q:Prop} (k:p) (h:Kk p->q:=by intro kk;rintro _ bU ⟨rfl,j',fs,ur,mN,mO⟩;have jD:BW w bU:=(((pI.setCell (p:=(Ad w.heap.size 0)) (nr _) _).setCell (p:=(Ad w.heap.size 1)) (nr _) _).setCell (p:=(Ad w.heap.size 2)) (nr _) _).trans (mN w.heap.size (nr _) om);have mP:hA bU (w.heap.size+1) 35 [sZ,iZ,iZ]:=(mO (w.heap.size+1) om om).trans (((lJ.setOther om 0 _).setOther om 1 _).setOther om 2 _);obtain⟨aI,aN,fG,-⟩:=j'.cS [0,1,2];obtain⟨cV,o6,ut,ik,qQ,o7,il⟩:=B0 fs;revert bU j' fs ur mN mO jD mP aI aN fG cV o6 ut ik qQ o7 il;exact kk.o):q:=h ⟨k⟩
theorem NW {p q:Prop} (k:p) (h:Kk p->q:=by
 intro kk;have eV:=lh (uu.o _ lK.B);have s6:Hd (hA aT (w.heap.size+1) 45 zA):=yl.keep lK.keep (fun a0=>oo (n9.o _ a0));have s8:Hd (hA aT w.heap.size 48 [iV c.a,iV c.b,iV c.c,iV c.d,iV c.e]):=uv.keep lK.keep (fun a0=>oo (n9.o _ a0));have s9:=lh o8;have sA:Hd (hT aZ w ((w.heap.size+1)::aZ) aT):=⟨wn.keep.trans lK.keep (fun x aj=>.inr (oo (n9.o _ aj))),wn.new⟩;have nB:Hd (q0 w aT):=fun x I cs au Z ag bK=>((ym.o x I cs au Z ag bK)).keep lK.keep (fun a0=>by
  have dX:=n9.o _ a0;have fH:=au.lt
  omega)
 have o9:Hd (∀aG∈(w.heap.size+1)::aZ,aG<w.heap.size+2 ):=fun aG bq=>by have:=(e8.lt aG bq).2;have ag:=eb.2;omega
 revert eV s6 s8 s9 sA nB o9;exact kk.o):q:=h ⟨k⟩
theorem OV {p q:Prop} (k:p) (h:Kk p->q:=by
 intro kk;have ls:=lh et;have ij:=lh ed;have lF:=lh fX;have gE:=lh gT;have eI:=lh bZ;have HB6:Hd (BW aT aY):=hJ bM bZ;have dK:=uw.o aY HB6.o;refine ac.out _ _ (fun hun=>dK) ?_;try simp only[ap,aq,sa,sb,sc]
 refine tF 22 rfl ?_ (hS:=dK);refine tF 23 rfl ?_ (hS:=dK);refine tF 24 rfl ?_ (hS:=dK);refine tF 25 rfl ?_ (hS:=dK);revert ls ij lF gE eI HB6 dK;exact kk.o):q:=h ⟨k⟩
theorem Nk {p q:Prop} (k:p) (h:Kk p->q:=by
 intro kk;have cN:=lh (An iU (An iW iX));have gF:=lh (An cC (An dr (An gX fQ)));have lG:=lh fF;have dS:Hd (BW bj bG):=hJ bM fF;have fZ:=jo.o bG dS.o;refine ac.out _ _ (fun hun=>fZ) ?_;try simp only[ap,aq,sa,sb,sc]
 revert cN gF lG dS fZ;exact kk.o):q:=h ⟨k⟩
theorem Ma {p q:Prop} (k:p) (h:Kk p->q:=by
 intro kk;refine ac.out _ _ (fun hun=>dK) ?_;try simp only[ap,aq,sa,sb,sc]
 exact kk.o):q:=h ⟨k⟩
theorem HZ {p q:Prop} (k:p) (h:Kk p->q:=by
 intro kk;obtain⟨cv,dT⟩:=xg ((k7 ai b3 aa).1);obtain⟨im,oA⟩:=xg ((k7 ai b3 aa).2);obtain⟨fI,oB⟩:=xg ((k4 ai b3 cc ca).1);obtain⟨nC,qR⟩:=xg ((k4 ai b3 cc ca).2);have qS:cv.length=ai.length:=by rw[<-dT];exact Cv _ _ _
 have qT:fI.length=ai.length:=by rw[<-oB];unfold k4;rw[Cv,Hv]
 have yn:0<=im/\im<=aa:=by rw[<-oA];exact DI nD.1 (fun x aj=>(ft.o x aj).1) _
 have hI:Hd (k2 ai (hX td b3 b3.length) aa=(cv,im)):=by show _=_;rw[<-dT,<-oA];rfl
 have qU:Hd (k2 (hU ai cv) (hX i4 b3 b3.length) (ca-aa+im)=(fI,nC)):=by show _=_;rw[<-oB,<-qR];unfold k4 B8;rw[dn,dT,oA]
 have sB:Hd (∀a8,a8<ai.length->0<=cv.getD a8 0/\cv.getD a8 0<=ai.getD a8 0):=by intro a8 di;rw[<-dT];exact ER nD.1 (fun x aj=>(ft.o x aj).1) _ a8 di
 have gc:Hd (∀x∈hU ai cv,0<=x/\x<=1000000000000000):=by have:=Pw (rates:=b3) nD.1 ft.o;unfold B8 at this;rw[dT]at this;exact this
 have pJ:(hU ai cv).length=ai.length:=by unfold hU;rw[List.length_zipWith];omega
 have wp:Hd (∀a8,a8<ai.length->0<=fI.getD a8 0/\fI.getD a8 0<=(hU ai cv).getD a8 0):=by intro a8 di;rw[<-oB];unfold k4 B8;rw[dn,dT,oA];exact ER om (fun x aj=>(gc.o x aj).1) _ a8 om
 revert cv dT im oA fI oB nC qR qS qT yn hI qU sB gc pJ wp;exact kk.o):q:=h ⟨k⟩
theorem Kz {p q:Prop} (k:p) (h:Kk p->q:=by intro kk;refine Od ?_;intro dJ bQ cB bF ez;revert dJ bQ cB bF ez;exact kk.o):q:=h ⟨k⟩
theorem Qd {p q:Prop} (k:p) (h:Kk p->q:=by
 intro kk;have da:(c.a != 2)=true:=ss eB;obtain⟨b6,aM,aP,bA,-⟩:=dY.bc.cS [0,1,2,3];have cI:=dY.bc.lt;obtain⟨bh,aX,bf,cF,dt,-⟩:=dY.bl.cS [0,1,2,3,4];obtain⟨ff,fg,fh,fi,fj,-⟩:=dY.bl.fs [0,1,2,3,4];have fk:=dY.bl.lt;obtain⟨aR,bg,be,ei,ej,-⟩:=dY.be.cS [0,1,2,3,4];obtain⟨eP,eQ,eR,eS,eT,-⟩:=dY.be.fs [0,1,2,3,4];have fl:=dY.be.lt;obtain⟨el,wq⟩:=xg (decide (1<=c.c/\c.c<=(ab.t.ts.length:Int)));have lt:Hd (el=true↔1<=c.c/\c.c<=(ab.t.ts.length:Int)):=by show _↔_;rw[<-wq];exact decide_eq_true_iff
 clear wq;revert da b6 aM aP bA cI bh aX bf cF dt ff fg fh fi fj fk aR bg be ei ej eP eQ eR eS eT fl el lt;exact kk.o):q:=h ⟨k⟩
theorem Ii {p q:Prop} (k:p) (h:Kk p->q:=by intro kk;obtain⟨bh,aX,bf,cF,dt,-⟩:=ee.bl.cS [0,1,2,3,4];obtain⟨ff,fg,fh,fi,fj,-⟩:=ee.bl.fs [0,1,2,3,4];have fk:=ee.bl.lt;obtain⟨aR,bg,be,ei,ej,-⟩:=ee.be.cS [0,1,2,3,4];obtain⟨eP,eQ,eR,eS,eT,-⟩:=ee.be.fs [0,1,2,3,4];have fl:=ee.be.lt;revert bh aX bf cF dt ff fg fh fi fj fk aR bg be ei ej eP eQ eR eS eT fl;exact kk.o):q:=h ⟨k⟩
theorem SJ {p q:Prop} (k:p) (h:Kk p->q:=by intro kk;go_simp;refine(Xd ⟨ay,ts,al,an,az,ar,ax⟩ _ _ cb bV aw.p _ _ qV aw.rs lu fb (by simp only;rw[em.1];exact em.2.1) nE q I kc x aV _ (mQ.o _ bM).1 (mQ.o _ bM).2.1 (mQ.o _ bM).2.2.1 (mQ.o _ bM).2.2.2).mono ?_;rintro _ aY ⟨lv',ge,rfl,et,ed,⟨fX,gT⟩,bZ⟩;revert bZ;revert gT;revert fX;revert ed;revert et;revert ge;revert lv';revert aY;exact kk.o):q:=h ⟨k⟩
theorem NT {p q:Prop} (k:p) (h:Kk p->q:=by intro kk;refine tK 9 rfl ?_;refine Ge ?_;show _;refine tK 15 rfl ?_;refine tK 16 rfl ?_;refine tK 17 rfl ?_;exact kk.o):q:=h ⟨k⟩
theorem MO {p q:Prop} (k:p) (h:Kk p->q:=by
 intro kk;refine Nu ?_;intro aa dn aP fc up uq;have yo:¬((aP:Int)=1):=oo bB.o;have yp:((aP:Int) == 1)=false:=by simp;have:=bB.o;omega
 obtain⟨c',jZ⟩:=xg (aB+b);obtain⟨fe,mq⟩:=xg (i3+ah);obtain⟨p,es⟩:=xg (fe-1);have qP:(fe:Int)-1=(p:Int):=oo bB.o;revert aa dn aP fc up uq yo yp c' jZ fe mq p es qP;exact kk.o):q:=h ⟨k⟩
theorem Qt {p q:Prop} (k:p) (h:Kk p->q:=by
 intro kk;obtain⟨cg,ws,mR,oC,sE,ux,sF,nF,sG,sH⟩:∃cg,aT.alloc (.cells #[iV O.lim,.slice bH O.ts.length bC,iV O.cyc,iV O.dued,iV O.minf,iV O.minp,iV O.start,.slice fu l.length fv,iZ,iV O.start,sZ,iZ,iZ,sZ,sZ,sZ,sZ,.nilFunc,.nilFunc,.nilFunc] 181)=cg/\Hd (hA cg aT.heap.size 181 [iV O.lim,.slice bH O.ts.length bC,iV O.cyc,iV O.dued,iV O.minf,iV O.minp,iV O.start,.slice fu l.length fv,iZ,iV O.start,sZ,iZ,iZ,sZ,sZ,sZ,sZ,.nilFunc,.nilFunc,.nilFunc])/\Hd (hA cg w.heap.size 24 [iV O.lim,.slice bH O.ts.length bC,iV O.cyc,iV O.dued,iV O.minf,iV O.minp,iV O.start])/\Hd (hA cg (w.heap.size+1+1) 35 [sZ,iZ,iZ])/\Hd (hA cg (w.heap.size+1+1+1) 40 [iZ,iZ])/\Hd (cg.ownsRow (w.heap.size+1+1+1+1) 150 5 (.slice fu l.length fv) l.length (k8 l))/\Hd (BW w cg)/\Hd (w.heap.size+1+1+1+1<=aT.heap.size)/\Hd (cg.heap.size=aT.heap.size+1):=by exact Qx
 with_reducible rw[ws]
 clear ws;obtain⟨dZ,sI⟩:=xg aT.heap.size;rw[sI]at mR sG sH ⊢;obtain⟨iO,cM,iP,iQ,iR,iS,iT,-⟩:=oC.cS [0,1,2,3,4,5,6];revert iT;revert iS;revert iR;revert iQ;revert iP;revert cM;revert iO;revert sH;revert sG;revert mR;revert sI;revert dZ;revert nF;revert sF;revert ux;revert sE;revert oC;revert cg;exact kk.o):q:=h ⟨k⟩
theorem K8 {p q:Prop} (k:p) (h:Kk p->q:=by intro kk;have lr:Hd (hA (w.alloc (.cells #[iV ay,.slice aF ts.length aC,iV al,iV an,iV az,iV ar,iV ax] 24)) w.heap.size 24 [iV ay,.slice aF ts.length aC,iV al,iV an,iV az,iV ar,iV ax]):=heap_alloc_new w _;have gu:Hd (BW w (w.alloc (.cells #[iV ay,.slice aF ts.length aC,iV al,iV an,iV az,iV ar,iV ax] 24))):=hB bR _;revert lr gu;exact kk.o):q:=h ⟨k⟩
theorem QM {q:Prop} (h:q:=by have:=heap_alloc_new (w.alloc (.cells #[.slice aF bs.length aC,iV c,iV aa] 35)) (.cells #[sZ,iZ,iZ] 35);simpa[hA,Hd] using this):q:=h
theorem Ow {p q:Prop} (k:p) (h:Kk p->q:=by intro kk;go_simp;refine(Ti ⟨ay,ts,al,an,az,ar,ax⟩ _ _ cb bV p _ _ qV a6 lu fb (by simp only;rw[em.1];exact em.2.1) x q kc _ (mQ.o _ aJ.bel).1 (mQ.o _ aJ.bel).2.1 (mQ.o _ aJ.bel).2.2.1 (mQ.o _ aJ.bel).2.2.2).mono ?_;rintro _ dL ⟨lv',ge,rfl,et,ed,db,bZ⟩;have aJ:=lh (aJ.call et ed db bZ);revert dL lv' ge et ed db bZ aJ;exact kk.o):q:=h ⟨k⟩
theorem MM {q:Prop} (h:q:=by
 intro fd _ mL;have aJ:=lh mL;clear mL
 go_wp2_with (at_builtin;refine wpList_append_own _ rfl (.tmp 16) (.tmp 19) 266 rfl w.heap.size 3 jn (iZ) 1 8 underlying266 aA iA gU er rfl Iv _ _ _ rfl (cJ.alloc _) (Ad wr.heap.size 0) 1 1 [iV (n+1)] rfl rfl (cell_one_new _ _ _) (fun x aj=>by simp at aj;subst aj;rfl) RD om GK ?_;intro qW a7 lL yq A9)
 obtain⟨eg,fw,rfl⟩:=ro lL om;obtain⟨cV,bx,jp,ip,gh,gi,yr⟩:=B0 lL;have eW:BW w a7:=(au.alloc iB _).grown yq GK (fun k b4=>(cJ.lt k b4).1);go_step3;go_step;go_step;refine aJ.o _ _ ⟨n,eg,fw,cV,_,_,_,_,_,_,_,_,_,_,_,_,_,_,_,_,_,_,_,_,_,_,_,_,_,_,_,_,_,_,_,_,_,_,_,_,_,_,_,_,_,rfl,nr _,rfl,bx,yr,jp,ip,by omega,?_,eW⟩;have cx:=A2 i4 aD n;have I:i3 (hX i4 aD n) (n+1) n=hX i4 aD n++[(n:Int)+1]:=by have:=R6 (hX i4 aD n) (n+1);rwa [cx]at this
 rw[I,List.map_append];simpa using gi):q:=h
theorem KF {p q:Prop} (k:p) (h:Kk p->q:=by
 intro kk;obtain⟨ab,eJ⟩:=xg aB.natAbs;obtain⟨aA,mr⟩:=xg (ab*n/18446744073709551616);obtain⟨bw,jq⟩:=xg (ab*n%18446744073709551616);have wt:bw<18446744073709551616:=by rw[<-jq];exact Nat.mod_lt _ om
 obtain⟨q,b,uy⟩:=xh (evQ (aA:Int) (bw:Int) (aa:Int));have mS:=lh (Un h.o om om a0 (A:=ab) (n:=n) eJ rfl (hi:=aA) (lo:=bw) mr jq uy);have qX:=lh mr;have kf:=lh jq;have nG:=lh uy;have em:=lh wt;clear mr jq uy wt;have g0:decide ((n:Int)<0)=false:=by simp
 have qY:¬aa=0:=om;have jr:IntKind.u64.wrap (n:Int)=n:=by rw[n2];omega
 have js:IntKind.u64.wrap (aa:Int)=aa:=by rw[n2];omega
 have jt:IntKind.u64.wrap (ab:Int)=ab:=by rw[n2];omega
 have qZ:=lh (show n<18446744073709551616 by omega);have lw:=lh (show aa<18446744073709551616 by omega);have yt:ab<=1000000000000000:=om;revert ab eJ aA bw q b mS qX kf nG em g0 qY jr js jt qZ lw yt;exact kk.o):q:=h ⟨k⟩
theorem N7 {p q:Prop} (k:p) (h:Kk p->q:=by
 intro kk;obtain⟨jE,aW,nH,HB6⟩:∃W,aT.alloc (.cells #[iV x.a,iV x.b,iV x.c,iV x.d,iV x.e] 150)=W/\Hd (hA W aT.heap.size 150 [iV x.a,iV x.b,iV x.c,iV x.d,iV x.e])/\Hd (BW aT W):=⟨_,rfl,hR aT _ _ _ rfl,hB bR _⟩;with_reducible rw[aW]
 clear aW;have jF:=lh (eV.B HB6.o);have lM:=lh (s6.B HB6.o);have mt:=lh (s8.B HB6.o);have mT:=lh (s9.B HB6.o);have pK:=lh (hT.B sA.o HB6.o);have pL:=lh (nB.B HB6.o);revert jE nH HB6 jF lM mt mT pK pL;exact kk.o):q:=h ⟨k⟩
theorem Gi {p q:Prop} (k:p) (h:Kk p->q:=by intro kk;have bd:=lh aK;have sJ:=kh.B bT;obtain⟨gm,cC,dr,-⟩:=sJ.fs [0,1,2];obtain⟨aI,aN,fG,-⟩:=sJ.cS [0,1,2];have cA:=lh sJ;have oD:=lh cJ;have mu:=(cJ.lt aE rfl).1;have pI:=lh (hJ (hJ ki.o aH) bT);have lJ:=lh ((kj.o.B aH).B bT);clear sJ;revert bd gm cC dr aI aN fG cA oD mu pI lJ;exact kk.o):q:=h ⟨k⟩
theorem QP {p q:Prop} (k:p) (h:Kk p->q:=by
 intro kk;go_simp;refine ac.out _ _ (fun hun=>mK.o _ (hB aJ.bel _)) ?_;try simp only[ap,aq,sa,sb,sc]
 obtain⟨b8,au⟩:=xg dL.heap.size;obtain⟨iY,eK⟩:=xg (dL.alloc (.cells #[iZ,iZ,iZ,iZ,sZ,iZ,iZ,iZ,.bool false] 43));have aJ:=lh (aJ.al8 au eK);revert b8 au iY eK aJ;exact kk.o):q:=h ⟨k⟩
theorem KW {p q:Prop} (k:p) (h:Kk p->q:=by intro kk;have iq:Hd (¬(c.a=7/\(c.d<0\/10000000<c.d)\/c.a≠7/\(c.d<1\/1000000000000000<c.d))):=(fun h=>by rcases h with h | h <;> omega);revert iq;exact kk.o):q:=h ⟨k⟩
theorem S1 {p q:Prop} (k:p) (h:Kk p->q:=by intro kk;have mU:=(Fl.len aQ).2;unfold maxLen at mU;obtain⟨gv,ik,il⟩:=mU;revert il;revert ik;revert gv;exact kk.o):q:=h ⟨k⟩
theorem Ra {q:Prop} (h:q:=by
 have ch:¬((k:Int)<aD.length):=om;go_wp2;go_ret;refine⟨-1,rfl,?_,rfl⟩;rw[<-iD.o];simp only[show decide ((0:Int) <= -1)=false from by decide]
 symm
 rw[List.any_eq_false];intro aG bq;obtain⟨a8,di,rfl⟩:=List.getElem_of_mem bq;have:=bd.o a8 om;simpa[List.getD,di] using this):q:=h
theorem Ls {p q:Prop} (k:p) (h:Kk p->q:=by intro kk;refine(yim bw g ab kl.o (oo sK.o) ((w.heap.size+1)::aZ) hV x sM.o gx km pM _ jF.o).mono ?_;rintro _ bG ⟨rfl,gn,kn,mv,uz,wu,ra⟩;have ko:=lh mv;have jG:=lh wu;have rb:Hd (hT aZ w gn bG):=pK.trans uz;have rd:Hd (q0 w bG):=pL.trans ra;have oE:Hd (hA bG (w.heap.size+1) 45 zA):=ra _ _ _ lM.o Iv Iv Iv;have re:Hd (hA bG w.heap.size 48 [iV c.a,iV c.b,iV c.c,iV c.d,iV c.e]):=ra _ _ _ mt.o Iv Iv Iv;have rg:Hd (hA bG aT.heap.size 150 [iV x.a,iV x.b,iV x.c,iV x.d,iV x.e]):=ra _ _ _ nH.o Iv Iv Iv;have sN:Hd (Rd gn bG (fun W=>m1 W 0 jA oF eU)):=uz.rd (mT.rd (fun a0=>by have Z:=o9.o _ a0;have ag:=mT.1;omega) (fun q eC a0=>by have Z:=o9.o _ a0;have ag:=(mT.2.2.lt q eC).1;omega));clear mv uz wu ra;revert bG gn kn ko jG rb rd oE re rg sN;exact kk.o):q:=h ⟨k⟩
theorem NK {q:Prop} (h:q:=by
 have cG:=HB6.size;have yu:=eI.size;try simp only[wd,wa]at yu
 have ju:=cN.1;have da:=cN.2.1;have nI:=cN.2.2;refine⟨fun b ae n c I aK a0=>?_,fun b ae n c I aK a0=>?_,fun b ae n c I aK a0=>?_,fun ak aQ b ae n c I aK a0=>?_⟩;·have Z:=gF.1 b ae n c I aK;rw[I]at ju;have ag:=ju.blt aK;exact G9
 ·have Z:=gF.2.1 b ae n c I aK;rw[I]at da;have ag:=da.blt aK;exact G9
 ·have Z:=gF.2.2.1 b ae n c I aK;have ag:=Fl.blt nI.2 om I aK;exact G9
 ·have Z:=gF.2.2.2 ak aQ b ae n c I aK;have ag:=nI.1.blt aQ I aK;exact G9):q:=h
theorem Nn {p q:Prop} (k:p) (h:Kk p->q:=by
 intro kk;obtain⟨il,yw,yx,dX⟩:=br.len;obtain⟨rfl,rfl⟩:=dX rfl;clear dX;have i':cs=[]:=List.eq_nil_of_length_eq_zero (ss bp.1);have lx:=lh i';clear i';try revert lx
 try revert yx
 try revert yw
 try revert il
 exact kk.o):q:=h ⟨k⟩
theorem De {p q:Prop} (k:p) (h:Kk p->q:=by intro kk;have bO:=lh (An gG (An gH (An gI gJ)));have gy:Hd ((#[iV bt,iV bu,iV cd,iV dw,iV cO,ai,iV dd,iV b2,dx,dy,iV dz,iV dA,iV dB,iV dC,iV dD,dE,iV dF,iV bl,iV dG,.bool aE]:Array Value).all (·.oneCell')=true):=(HC bO.1 bO.2.1 bO.2.2.1 bO.2.2.2);revert bO gy;exact kk.o):q:=h ⟨k⟩
theorem MZ {p q:Prop} (k:p) (h:Kk p->q:=by intro kk;obtain⟨aR,bg,be,-⟩:=cP.cS [0,1,2];obtain⟨gm,cC,dr,-⟩:=cP.fs [0,1,2];revert aR bg be gm cC dr;exact kk.o):q:=h ⟨k⟩
theorem Oj {p q:Prop} (k:p) (h:Kk p->q:=by intro kk;have bm:BW w ((w.alloc (.cells #[iV ay,.slice aF ts.length aC,iV al,iV an,iV az,iV ar,iV ax] 24)).alloc (.cells #[iV dk,iV aU,iV el,iV bW,iV iu] 150)):=(bR.alloc (nr _) _).alloc Is _;revert bm;exact kk.o):q:=h ⟨k⟩
theorem Mg {p q:Prop} (k:p) (h:Kk p->q:=by
 intro kk;have gc:=lh a9;have bS:∀W',BW wr W'->(Ce W' e9 (ae+bl*5) (iV x.a)/\Ce W' e9 (ae+bl*5+1) (iV x.b)/\Ce W' e9 (ae+bl*5+2) (iV x.c)/\Ce W' e9 (ae+bl*5+3) (iV x.d)/\Ce W' e9 (ae+bl*5+4) (iV x.e)/\Ce W' e9 (ae+h*5) (iV aG.a)/\Ce W' e9 (ae+h*5+1) (iV aG.b)/\Ce W' e9 (ae+h*5+2) (iV aG.c)/\Ce W' e9 (ae+h*5+3) (iV aG.d)/\Ce W' e9 (ae+h*5+4) (iV aG.e)):=fun W' h =>
  have q:=El.B ⟨aI,aN,aL,eL,dU⟩ h;have pN:=El.B ⟨b6,aM,aP,bA,fJ⟩ h
  ⟨q.1,q.2.1,q.2.2.1,q.2.2.2.1,q.2.2.2.2,pN.1,pN.2.1,pN.2.2.1,pN.2.2.2.1,pN.2.2.2.2⟩
 have ce:=lh bS;clear bS;obtain⟨aX,bf,cF⟩:=Gk ck gK ly;have dt:wrap64 ((h:Int)+1)=((h+1:Nat):Int):=H4 sO;have sP:IntKind.i64.wrap ((p:Int)-(h:Int))=(bl:Int):=Yv sQ pO sR;revert gc ce aX bf cF dt sP;exact kk.o):q:=h ⟨k⟩
theorem PS {p q:Prop} (k:p) (h:Kk p->q:=by
 intro kk;go_simp;refine ac.out _ _ (fun hun=>uw.o _ bM) ?_;try simp only[ap,aq,sa,sb,sc]
 exact kk.o):q:=h ⟨k⟩
theorem OQ {p q:Prop} (k:p) (h:Kk p->q:=by intro kk;have cK:=lh (PB.new w 35 (.slice aF bs.length aC) c aa);obtain⟨dN,jv,fK⟩:=cK.o;have bm:BW w (w.alloc (.cells #[.slice aF bs.length aC,iV c,iV aa] 35)):=hB bR _;revert cK dN jv fK bm;exact kk.o):q:=h ⟨k⟩
theorem Sr {p q:Prop} (k:p) (h:Kk p->q:=by intro kk;have iw:Hd (Cc bt (.agg #[iV bt,iV bu,iV cd,iV dw,iV cO,ai,iV dd,iV b2,dx,dy,iV dz,iV dA,iV dB,iV dC,iV dD,dE,iV dF,iV bl,iV dG,.bool aE])):=⟨bu,cd,dw,cO,ai,dd,b2,dx,dy,dz,dA,dB,dC,dD,dE,dF,bl,dG,aE,rfl,bO.1,bO.2.1,bO.2.2.1,bO.2.2.2⟩;revert iw;exact kk.o):q:=h ⟨k⟩
theorem DY {p q:Prop} (k:p) (h:Kk p->q:=by
 intro kk;go_simp;refine ac.out _ _ (fun hun=>mK.o _ (hB aJ.bel _)) ?_;try simp only[ap,aq,sa,sb,sc]
 obtain⟨dH,au⟩:=xg dL.heap.size;obtain⟨iY,eK⟩:=xg (dL.alloc (.cells #[sZ,iZ,iZ] 35));have aJ:=lh (aJ.al9 au eK);revert dH au iY eK aJ;exact kk.o):q:=h ⟨k⟩
theorem QU {p q:Prop} (k:p) (h:Kk p->q:=by intro kk;rintro _ lz ⟨rfl,hZ⟩;have iE:=pP.B hZ;obtain⟨aR,bg,be,-⟩:=iE.cS [0,1,2];obtain⟨bh,aX,bf,-⟩:=iE.fs [0,1,2];have dl:=hJ jH.o hZ;revert lz hZ iE aR bg be bh aX bf dl;exact kk.o):q:=h ⟨k⟩
theorem Pp {p q:Prop} (k:p) (h:Kk p->q:=by intro kk;have dO:wrap64 ((k:Int)+1)=(k:Int)+1:=wi _ ⟨by omega,by omega⟩;revert dO;exact kk.o):q:=h ⟨k⟩
theorem Iu {p q:Prop} (k:p) (h:Kk p->q:=by
 intro kk;obtain⟨fR,aW,iF⟩:∃W,wc.setCell (Ad b8 2) (iV c.c)=W/\Hd (BA w base gb L c dv b b8 [iZ,iV ab.today,iV c.c,iV c.d,iZ] W):=⟨_,rfl,(dY.set bY.o (iC.o _ e7.o.1) 2 (iV c.c))⟩;with_reducible rw[aW]
 clear aW;obtain⟨b6,aM,aP,bA,-⟩:=iF.bc.cS [0,1,2,3];have cI:=iF.bc.lt;revert fR iF b6 aM aP bA cI;exact kk.o):q:=h ⟨k⟩
theorem RN {p q:Prop} (k:p) (h:Kk p->q:=by
 intro kk;have bJ:Hd (hA ((w.alloc (.cells #[.slice aF bs.length aC,iV c,iV aa] 35)).alloc (.cells #[sZ,iZ,iZ] 35)) (w.heap.size+1) 35 [sZ,iZ,iZ]):=by exact QM
 revert bJ;exact kk.o):q:=h ⟨k⟩
theorem RO {p q:Prop} (k:p) (h:Kk p->q:=by
 intro kk;with_reducible rw[aW]
 have yy:=kj.o.lt;refine(Ea _ bs c aa bW _ [(i:Int)+1] 0 fo om Is _ mw.o mV.o).mono ?_;rintro _ a7 ⟨rfl,aH⟩;have kh:=mW.o.B aH;obtain⟨aI,aN,fG,-⟩:=kh.cS [0,1,2];have gU:=aH.size;revert yy a7 aH kh aI aN fG gU;exact kk.o):q:=h ⟨k⟩
theorem MJ {p q:Prop} (k:p) (h:Kk p->q:=by
 intro kk;have dY:Hd (BA w base gb L c dv b b8 [iZ,iV ab.today,iZ,iV c.d,iZ] wc) :=
  ⟨rh.B oG.o,uA.B oG.o,eX.o,by have Z:=uB.o;have ag:=uC.o;omega,br.B (hJ eb.o oG.o),⟨pR.B.trans (oG.mono (nt bY.o pR.keep.size)),pR.keep.B oG.o⟩⟩
 have cW:=eq.o;unfold CJ at cW;have gL:=lh cW;clear cW;revert gL;revert dY;exact kk.o):q:=h ⟨k⟩
theorem Pt {p q:Prop} (k:p) (h:Kk p->q:=by
 intro kk;with_reducible rw[au,eK]
 obtain⟨dL,eY⟩:∃x,x=iY:=⟨_,rfl⟩;revert dL eY;exact kk.o):q:=h ⟨k⟩
theorem NP {p q:Prop} (k:p) (h:Kk p->q:=by intro kk;refine(Cy _ ts ay al an az ar ax 0 (lh (by rw[ri.o];rfl)) _ (br.B bm)).mono ?_;rintro _ a7 ⟨rfl,aH⟩;have au:BW w a7:=hJ bm aH;obtain⟨cH,db⟩:=Ye aH;clear aH;rw[Cg,ri.o,cw.o,bf,sS]at a9;revert a7 au cH db a9;exact kk.o):q:=h ⟨k⟩
theorem QS {p q:Prop} (k:p) (h:Kk p->q:=by intro kk;have jk:=lh (h4.of_own jw rfl);have eI:=lh bZ;have HB6:Hd (BW bj aY):=hJ Ff bZ;have dK:=jo.o aY HB6.o;revert jk eI HB6 dK;exact kk.o):q:=h ⟨k⟩
theorem CG {p q:Prop} (k:p) (h:Kk p->q:=by intro kk;have fM:=lh (e8.B cm);have ia:Hd (hT aZ w ((w.heap.size+1)::aZ) dq):=hT.B nJ.o cm;have hI:Hd (q0 w dq):=(q0.of_below eb.o).B cm;have gM:Hd (hA dq (w.heap.size+1) 45 zA):=mX.B cm;revert fM ia hI gM;exact kk.o):q:=h ⟨k⟩
theorem Ns {p q:Prop} (k:p) (h:Kk p->q:=by
 intro kk;have jm:Hd (∀W',BW bN W'->Ce W' w.heap.size 0 (iV O.lim)/\Ce W' w.heap.size 1 (.slice bH O.ts.length bC)/\Ce W' w.heap.size 2 (iV O.cyc)/\Ce W' w.heap.size 3 (iV O.dued)/\Ce W' w.heap.size 4 (iV O.minf)/\Ce W' w.heap.size 5 (iV O.minp)/\Ce W' w.heap.size 6 (iV O.start)/\W'.cell? (Ad (w.heap.size+1) 0)=some .nilFunc/\W'.cell? (Ad (w.heap.size+1) 1)=some .nilFunc/\W'.cell? (Ad (w.heap.size+1) 2)=some .nilFunc):=fun W' au=>by have bQ:=jI.B au;have cB:=dS.B au;exact⟨bQ.cell 0,bQ.cell 1,bQ.cell 2,bQ.cell 3,bQ.cell 4,bQ.cell 5,bQ.cell 6,cB.cell 0,cB.cell 1,cB.cell 2⟩
 have rj:=lh eH;have fm:=jm.o bN.drew (hG bR);revert jm rj fm;exact kk.o):q:=h ⟨k⟩
theorem PY {p q:Prop} (k:p) (h:Kk p->q:=by intro kk;intro fd nA mL;have dM:=lh nA;have iG:=lh mL;clear nA mL;revert fd dM iG;exact kk.o):q:=h ⟨k⟩
theorem G3 {p q:Prop} (k:p) (h:Kk p->q:=by intro kk;obtain⟨bN,eH,lN,jJ⟩:∃W,w.alloc (.cells #[iV O.lim,.slice bH O.ts.length bC,iV O.cyc,iV O.dued,iV O.minf,iV O.minp,iV O.start] 24)=W/\Hd (hA W w.heap.size 24 [iV O.lim,.slice bH O.ts.length bC,iV O.cyc,iV O.dued,iV O.minf,iV O.minp,iV O.start])/\Hd (BW w W):=⟨_,rfl,hR w _ _ _ rfl,hB bR _⟩;revert bN eH lN jJ;exact kk.o):q:=h ⟨k⟩
theorem EV {p q:Prop} (k:p) (h:Kk p->q:=by intro kk;have g7:=TB.new w 24 ay (.slice aF ts.length aC) al an az ar ax;have bm:BW w (w.alloc (.cells #[iV ay,.slice aF ts.length aC,iV al,iV an,iV az,iV ar,iV ax] 24)):=bR.alloc (nr _) _;revert g7 bm;exact kk.o):q:=h ⟨k⟩
theorem CH {p q:Prop} (k:p) (h:Kk p->q:=by
 intro kk;with_reducible rw[fx]
 obtain⟨jK,jL,jM,-⟩:=fS.cS [0,1,2];obtain⟨nK,nL,nM,-⟩:=fS.fs [0,1,2];revert jK jL jM nK nL nM;exact kk.o):q:=h ⟨k⟩
theorem Es {q:Prop} (h:q:=by
 go_region
 go_wp2;go_step3;obtain⟨cu,bx,gh,gi,eW,cx,bq⟩:=aO.o;refine⟨rfl,lH _ _ ⟨k,eg,fw,(cV.set k (iV ((n:Int)+1))).set (k+1) (iV ((ah:Int)+1)),_,_,_,_,_,_,_,_,_,_,_,_,_,_,_,_,_,_,_,_,_,_,_,_,_,_,_,_,_,_,_,_,_,_,_,_,_,_,_,_,_,rfl,by omega,?_,(bx.set k _).set (k+1) _,mY,jp,ip,by simpa using gh,?_,((eW.setCell mY _).setCell mY _).drew⟩ ?_⟩;·have aX:((ah:Int)+1-1).toNat=ah:=om;rw[<-cu];simp only[bk,bq,aX,eO.o,fy.o,if_true]
 ·rw[<-XQ om,bq];simp only[List.map_set,<-gi];rw[TT om om]
 ·simp[intOf]):q:=h
theorem Dc {q:Prop} (h:q:=by
 go_roundg g;case measure=>omega
 case rel=>exact⟨k+1,by omega,by go_num,rfl,fun a8 di=>by
  rcases Nat.lt_succ_iff_lt_or_eq.1 di with mZ | rfl;·exact bd.o a8 mZ
  ·rw[aj.o];exact cK.o⟩):q:=h
theorem Ej {p q:Prop} (k:p) (h:Kk p->q:=by intro kk;rintro _ a7 ⟨rfl,aH⟩;have f6:=lh (bJ.B aH);have eZ:=lh (cj.B aH);have dl:=hJ bi.o aH;revert a7 aH f6 eZ dl;exact kk.o):q:=h ⟨k⟩
theorem QB {q:Prop} (h:q:=by
 have Z:=n8 I fo au;have ix:=(mem_ready.1 a9).1;rw[yh]at Z;rcases Nat.lt_or_ge i dg.size with mZ | mZ;·simp[mZ]at ix Z;rw[ix]at Z;cases Z
 ·simp[Array.getElem?_eq_none mZ]at Z):q:=h
theorem LD {p q:Prop} (k:p) (h:Kk p->q:=by
 intro kk;have jx:∀W',hA W' w.heap.size 24 [iV ay,.slice aF ts.length aC,iV al,iV an,iV az,iV ar,iV ax]->hA W' (w.heap.size+1) 40 [iV cb,iV bV]->hA W' (w.heap.size+1+1) 35 [.slice dh L.length bF,iV co,iV ib]->(Ce W' (w.heap.size+1) 0 (iV cb)/\Ce W' (w.heap.size+1) 1 (iV bV))/\Ce W' w.heap.size 3 (iV an)/\(Ce W' (w.heap.size+1+1) 0 (.slice dh L.length bF)/\Ce W' (w.heap.size+1+1) 1 (iV co)/\Ce W' (w.heap.size+1+1) 2 (iV ib)):=fun W' sT rk jy =>
  ⟨⟨rk.cell 0,rk.cell 1⟩,sT.cell 3,jy.cell 0,jy.cell 1,jy.cell 2⟩
 have kq:=lh jx;revert jx kq;exact kk.o):q:=h ⟨k⟩
theorem H7 {p q:Prop} (k:p) (h:Kk p->q:=by
 intro kk;have yz:a7.cell? (Ad eg k)=some (iV ((ah:Int)+1)):=by rw[bx.cell,K6 gi om (by rw[JY];omega),yig om om,bq]
 have y3:a7.cell? (Ad eg (k+1))=some (iV ((n:Int)+1)):=by rw[bx.cell,K6 gi om (by rw[JY];omega),Yz om]
 have fX:=bx.frozen k;have gT:=bx.frozen (k+1);revert yz y3 fX gT;exact kk.o):q:=h ⟨k⟩
theorem Wc {p q:Prop} (k:p) (h:Kk p->q:=by intro kk;refine(Df _ bs dd b2 _ e8 om _ (cK.B bL)).mono ?_;rintro _ a7 ⟨rfl,aH⟩;have dc:=lh (hJ (hB (hB bR _) _) aH);have mx:a7.cell? (Ad w.heap.size 0)=some (.slice m' bs.length bl):=(((hR w [.slice m' bs.length bl,iV dd,iV b2] 35 _ rfl).B (hB bR _)).B aH).cell 0;revert a7 aH dc mx;exact kk.o):q:=h ⟨k⟩
theorem MB {p q:Prop} (k:p) (h:Kk p->q:=by
 intro kk;have uD:¬c.a=6:=by have Z:=sU;simpa using Z
 have sM:Hd (x.b<=ab.today):=by have Z:=NR kl.o (c:=c) (by rw[rl.o]) uD;rw[rl.o]at Z;exact Z
 obtain⟨gx,km,uE⟩:=xh (xc ab x);have pM:=lh uE;have gQ:Hd ((if km≠0 then (ab,km) else ({ gx with bk:=eU },0))=(sV,bt)):=by exact N3
 clear uE uD;obtain⟨bh,aX,bf,cF,dt,-⟩:=nH.cS [0,1,2,3,4];have o0:=nH.lt;have b6:=mt.cell 0;simp only[gz,gs]at b6;have cI:=mt.lt;revert cI;revert b6;revert o0;revert dt;revert cF;revert bf;revert aX;revert bh;revert gQ;revert pM;revert km;revert gx;revert sM;exact kk.o):q:=h ⟨k⟩
theorem YL {p q:Prop} (k:p) (h:Kk p->q:=by intro kk;rintro _ lz ⟨rfl,hZ⟩;have iE:=((aV.2.2.1.setOther om 2 (iV jz)).setOther om 1 (iV eu)).B hZ;obtain⟨aR,bg,be,-⟩:=iE.cS [0,1,2];obtain⟨bh,aX,bf,-⟩:=iE.fs [0,1,2];have ja:BW w lz:=((aV.2.2.2.setCell (p:=(Ad w.heap.size 2)) (nr _) (iV jz)).setCell (p:=(Ad w.heap.size 1)) (nr _) (iV eu)).trans (hZ.mono GK);have jb:=lh (((aV.2.1.setOther om 2 (iV jz)).setOther om 1 (iV eu)).B hZ);have kt:=fa;have ku:=iE.lt;clear iE hZ;revert lz aR bg be bh aX bf ja jb kt ku;exact kk.o):q:=h ⟨k⟩
theorem Nm {q:Prop} (h:q:=by
 have cG:=HB6.size;refine⟨fun b ae n c I aK=>?_,fun b ae n c I aK=>?_,fun b ae n c I aK=>?_,fun ak aQ b ae n c I aK=>?_⟩
 ·have Z:=gF.1 b ae n c I aK;try simp only[wd,wa]at Z
  omega
 ·have Z:=gF.2.1 b ae n c I aK;try simp only[wd,wa]at Z
  omega
 ·have Z:=gF.2.2.1 b ae n c I aK;try simp only[wd,wa]at Z
  omega
 ·have Z:=gF.2.2.2 ak aQ b ae n c I aK;try simp only[wd,wa]at Z
  omega):q:=h
theorem RY {q:Prop} (h:q:=by
 intro jY a7 J fd lH;clear lH;iterate 43 obtain⟨_,J⟩:=J
 exact Sw):q:=h
theorem OB {p q:Prop} (k:p) (h:Kk p->q:=by
 intro kk;with_reducible rw[eH]
 have uF:=lh (h.o _ pR.B);have f9:bN.cell? (Ad g 7)=some (iV ab.today):=uF.blk.cell 7;have ew:=uF.blk.lt;have bA:bN.cell? (Ad w.heap.size 3)=some (iV c.d):=rh.cell 3;have cI:=rh.lt;revert uF f9 ew bA cI;exact kk.o):q:=h ⟨k⟩
theorem MP {q:Prop} (h:q:=by go_ret;refine⟨_,rfl,by simpa using lL,?_⟩;exact(bR.alloc (nr _) _).grown gN x1 (by intro k b4;cases b4;exact nr _)):q:=h
theorem OL {q:Prop} (h:q:=by injection iB with _ h;injection h with _ h;injection h with _ h;cases h):q:=h
theorem SE {q:Prop} (h:q:=by have nI:=HB6.o;have eD:∀{ak:Value},Fr oH ak->∀b ae n c,ak=sL b ae n c->0<n->b≠w.heap.size+1+1:=fun db b ae n c I aK=>oo (db b ae n c I aK);exact⟨⟨((pS.1.setCell (eD pS.2) _).setCell (eD pS.2) _).setCell (eD pS.2) _,fun b ae n c I aK=>oo (pS.2 b ae n c I aK)⟩,⟨((pT.1.setCell (eD pT.2) _).setCell (eD pT.2) _).setCell (eD pT.2) _,fun b ae n c I aK=>oo (pT.2 b ae n c I aK)⟩,p2 cX.o om _ _ _⟩):q:=h
theorem T4 {p q:Prop} (k:p) (h:Kk p->q:=by
 intro kk;have bJ:Hd (hA ((w.alloc (.cells #[.slice aF bs.length aC,iV c,iV aa] 35)).alloc (.cells #[sZ,iZ,iZ] 35)) (w.heap.size+1) 35 [sZ,iZ,iZ]):=by exact QM
 revert bJ;exact kk.o):q:=h ⟨k⟩
theorem Q7 {p q:Prop} (k:p) (h:Kk p->q:=by intro kk;refine(Zj bw g ab aZ hV c.c el lt _ (h.o _ iF.st.B)).mono ?_;rintro _ bU ⟨rfl,jD⟩;have eE:=lh (iF.B jD bY.o);clear jD;obtain⟨b6,aM,aP,bA,-⟩:=eE.bc.cS [0,1,2,3];have cI:=eE.bc.lt;revert bU eE b6 aM aP bA cI;exact kk.o):q:=h ⟨k⟩
theorem IQ {p q:Prop} (k:p) (h:Kk p->q:=by intro kk;have rm:(h:Int)<l.length:=o2 bB.o bz.o;have ly:aw<=1000000:=o3 bB.o bz.o bd.o;revert rm ly;exact kk.o):q:=h ⟨k⟩
theorem Og {p q:Prop} (k:p) (h:Kk p->q:=by
 intro kk;have lO:Region.wanted ae (yielded l3 aB.tmps)=true:=by simp[Region.wanted,nN]
 rw[if_pos lO];revert lO;exact kk.o):q:=h ⟨k⟩
theorem Of {p q:Prop} (k:p) (h:Kk p->q:=by
 intro kk;have dO:(c.a == 1)=false:=by simp;omega
 have oI:(c.a == 2)=false:=ss eB;have jc:(c.a == 3)=false:=by simp;omega
 have iy:(c.a == 4)=false:=by simp;omega
 have j0:(c.a == 7)=true:=ss j1;revert dO oI jc iy j0;exact kk.o):q:=h ⟨k⟩
theorem RK {p q:Prop} (k:p) (h:Kk p->q:=by
 intro kk;have gt:Hd ((if hu ay ts al an az ar ax=true then 0 else 6)=(0:Int)):=by show _=_;rw[kw];rfl
 revert gt;exact kk.o):q:=h ⟨k⟩
theorem SW {p q:Prop} (k:p) (h:Kk p->q:=by
 intro kk;have fN:Hd (((w.alloc (.cells #[.slice aF bs.length aC,iV c,iV aa] 35)).alloc (.cells #[sZ,iZ,iZ] 35)).heap.size=w.heap.size+2):=by show _=_;simp
 revert fN;exact kk.o):q:=h ⟨k⟩
theorem OX {p q:Prop} (k:p) (h:Kk p->q:=by intro kk;have bQ:World.cell? _ (Ad (w.heap.size+1) 1)=some (iV (ab.today)):=db.cell 1;have cB:World.cell? _ (Ad (w.heap.size+1) 2)=some (iV (c.c)):=db.cell 2;have bF:World.cell? _ (Ad (w.heap.size+1) 3)=some (iV (c.d)):=db.cell 3;revert bQ cB bF;exact kk.o):q:=h ⟨k⟩
theorem HQ {p q:Prop} (k:p) (h:Kk p->q:=by intro kk;refine tF 14 rfl ?_ (hS:=dK);refine tF 15 rfl ?_ (hS:=dK);refine tF 16 rfl ?_ (hS:=dK);exact kk.o):q:=h ⟨k⟩
theorem Rk {p q:Prop} (k:p) (h:Kk p->q:=by intro kk;obtain⟨ie,l4⟩:=bd.o es;have j2:=Ez (k:=k) nO.o cw.1 (Nat.le_of_lt bP);have dU:=ie.cell (i:=k) om;rw[G4 nO.o cw.1 bP]at dU;have kx:=l4.cell (i:=k) (oo cw.2.1);have fQ:=ie.frozen k;have lP:=Hs (show k<cv.length from oo cw.1) (show k<fI.length from oo cw.2.1);have jd:=sB.o k bP;have my:=wp.o k bP;rw[EM bP (show k<cv.length from oo cw.1)]at my;revert my;revert jd;revert lP;revert fQ;revert kx;revert dU;revert j2;revert l4;revert ie;exact kk.o):q:=h ⟨k⟩
theorem Q9 {p q:Prop} (k:p) (h:Kk p->q:=by
 intro kk;try with_reducible rw[eH]
 obtain⟨aI,aN,aL,eL,dU,fT,g8,-⟩:=lN.cS [0,1,2,3,4,5,6];revert aI aN aL eL dU fT g8;exact kk.o):q:=h ⟨k⟩
theorem QW {p q:Prop} (k:p) (h:Kk p->q:=by intro kk;have ch:(k:Int)<ai.length:=om;have bP:k<ai.length:=om;revert ch bP;exact kk.o):q:=h ⟨k⟩
theorem Qs {q:Prop} (h:q:=by
 obtain⟨Z,ag⟩:=h;refine⟨Z,?_⟩;rcases ag with ag | ⟨g,aC,cV,aQ,mY,cH,bu⟩;·exact Or.inl ag
 ·exact Or.inr ⟨g,aC,cV,aQ,mY,(au.block g (Array.getElem?_eq_some_iff.1 cH).1).trans cH,bu⟩):q:=h
theorem NX {p q:Prop} (k:p) (h:Kk p->q:=by intro kk;rintro _ bG ⟨rfl,fF⟩;have na:=(aV.2.2.1.setOther om 1 (iV eu)).B fF;obtain⟨aR,bg,be,-⟩:=na.cS [0,1,2];obtain⟨bh,aX,bf,-⟩:=na.fs [0,1,2];have ja:BW w bG:=(aV.2.2.2.setCell (p:=(Ad w.heap.size 1)) (nr _) (iV eu)).trans (fF.mono GK);have jb:=lh ((aV.2.1.setOther om 1 (iV eu)).B fF);have kt:=fa;have ku:=na.lt;clear na fF;revert bG aR bg be bh aX bf ja jb kt ku;exact kk.o):q:=h ⟨k⟩
theorem OT {q:Prop} (h:q:=by
 refine⟨fun b ae n c I aK a0=>?_,fun b ae n c I aK a0=>?_⟩;·have Z:=cC b ae n c I aK;rw[I]at ju;have ag:=ju.blt aK;exact Ry
 ·have Z:=dr b ae n c I aK;rw[I]at da;have ag:=da.blt aK;exact Ry):q:=h
theorem Rc {p q:Prop} (k:p) (h:Kk p->q:=by intro kk;have j1:c.a≠7:=om;have da:(c.a != 2)=false:=ss eB;obtain⟨b6,aM,aP,bA,-⟩:=dY.bc.cS [0,1,2,3];have cI:=dY.bc.lt;have j0:(c.a == 7)=false:=ss j1;revert j1 da b6 aM aP bA cI j0;exact kk.o):q:=h ⟨k⟩
theorem NZ {p q:Prop} (k:p) (h:Kk p->q:=by intro kk;obtain⟨n,aK⟩:=xg bs.length;have bd:=lh aK;have nb:Hd (hY bU aE bD bs):=⟨cV,nP,nQ,nR⟩;revert n aK bd nb;exact kk.o):q:=h ⟨k⟩
theorem I1 {q:Prop} (h:q:=by go_wp2;go_ret;refine⟨_,rfl,?_,bR⟩;rw[lx.o];exact World.ownsRow_nil _ _ _ _):q:=h
theorem T3 {p q:Prop} (k:p) (h:Kk p->q:=by intro kk;refine(By _ (bs.set i eh) aL aa _ eC _ y4.o).mono ?_;rintro _ bG ⟨rfl,fF⟩;have na:=y6.B fF;obtain⟨aR,bg,be,-⟩:=na.cS [0,1,2];obtain⟨bh,aX,bf,-⟩:=na.fs [0,1,2];have wv:=y7.B fF;obtain⟨aI,aN,fG,-⟩:=wv.cS [0,1,2];have ja:BW w bG:=hJ gM.o fF;have jb:=lh (y8.B fF);have kt:=fa;have ku:=na.lt;clear na fF wv;revert bG aR bg be bh aX bf aI aN fG ja jb kt ku;exact kk.o):q:=h ⟨k⟩
theorem SL {p q:Prop} (k:p) (h:Kk p->q:=by
 intro kk;go_simp;refine ac.out _ _ kd trivial ?_;try simp only[ap,aq,sa,sb,sc]
 exact kk.o):q:=h ⟨k⟩
theorem LJ {p q:Prop} (k:p) (h:Kk p->q:=by
 intro kk;obtain⟨ky,aW,lQ,nS,nT,pU,pW,lR⟩:∃W,bG.setCell (Ad g 10) (pV jA)=W/\Hd (i2 bw g { gx with bk:=eU } gn W { kn with gb:=jA,dv:=oF })/\Hd (hA W (w.heap.size+1) 45 zA)/\Hd (hA W w.heap.size 48 [iV c.a,iV c.b,iV c.c,iV c.d,iV c.e])/\Hd (hA W aT.heap.size 150 [iV x.a,iV x.b,iV x.c,iV x.d,iV x.e])/\Hd (hT aZ w gn W)/\Hd (q0 w W):=by exact KH
 revert ky aW lQ nS nT pU pW lR;exact kk.o):q:=h ⟨k⟩
theorem Lk {p q:Prop} (k:p) (h:Kk p->q:=by intro kk;obtain⟨uG,uH,uI,rn,uJ⟩:=sW.o;have aR:=gx.cell 0;have jK:=gx.frozen 0;have bg:=gx.cell 1;have jL:=gx.frozen 1;have be:=gx.cell 2;have jM:=gx.frozen 2;have ei:=gx.cell 3;have uK:=gx.frozen 3;have ej:=gx.cell 4;have uL:=gx.frozen 4;simp only[gz,gs]at aR bg be ei ej;have sX:¬g=q:=sY.o;have mI:¬g=w.heap.size:=om;revert mI;revert sX;revert ej;revert ei;revert be;revert bg;revert aR;revert uL;revert uK;revert jM;revert jL;revert jK;revert uJ;revert rn;revert uI;revert uH;revert uG;exact kk.o):q:=h ⟨k⟩
theorem Me {p q:Prop} (k:p) (h:Kk p->q:=by
 intro kk;have aM:decide ((bs.length:Int)<1)=false:=by simp;omega
 have aP:decide ((8:Int)<(bs.length:Int))=false:=by simp;omega
 have bA:¬(bs.length:Int)<1:=om;have lS:=lh nU;revert aM aP bA lS;exact kk.o):q:=h ⟨k⟩
theorem MQ {q:Prop} (h:q:=by subst cu;go_step3;exact⟨rfl,dM.o _ _ (hP (hP (hP (hP (hP (hP (hP (hP (hP (hP (hP (hP (hP ⟨_,_,_,_,_,_,_,_,rfl,eO,dY.be,⟨_,dY.bk⟩,dY.st⟩)))))))))))))⟩):q:=h
theorem KL {q:Prop} (h:q:=by subst cu;go_step3;exact⟨rfl,dM.o _ _ (hP (hP (hP (hP (hP (hP (hP (hP (hP (hP (hP (hP (hP ⟨_,_,_,_,_,_,_,_,rfl,eO,eE.be,⟨_,eE.bk⟩,eE.st⟩)))))))))))))⟩):q:=h
theorem HJ {p q:Prop} (k:p) (h:Kk p->q:=by
 intro kk;have aK:kb bs a6 (k+1)=kb bs a6 k+aO*cp:=by simp only[kb,aj.o,bq.o,Int.toNat_natCast]
 have lT:=pX.o (k+1);rw[aK]at lT;obtain⟨gO,lq⟩:=xg ((go+l)%18446744073709551616);obtain⟨c,cH⟩:=xg ((go+l)/18446744073709551616);obtain⟨ag,oJ⟩:=xg ((j3+h+c)%18446744073709551616);revert oJ;revert ag;revert cH;revert c;revert lq;revert gO;revert lT;revert aK;exact kk.o):q:=h ⟨k⟩
theorem Km {p q:Prop} (k:p) (h:Kk p->q:=by intro kk;refine(GW dV al (l,0) bp _).mono ?_;rintro _ dm ⟨rfl,bT⟩;simp only;have cA:=lh (dc.B bT);have gE:=lh (cw.B bT (oo cX.o));have er:w.heap.size<dm.heap.size:=oo bT.size;clear bT;have aI:=cA.cell 0;have gm:=cA.frozen 0;have aN:=cA.cell 1;have cC:=cA.frozen 1;simp only[gz,gs]at aI aN;revert aN;revert aI;revert cC;revert gm;revert er;revert gE;revert cA;revert dm;exact kk.o):q:=h ⟨k⟩
theorem If {p q:Prop} (k:p) (h:Kk p->q:=by intro kk;have ag:=wpOp_putIf lE (nV a8 fq lE eG mp pE) (fun cs b=>rp i eM cs b aA) (fun cs b=>rp a8 fq cs b lE) s' bq Z;revert ag;exact kk.o):q:=h ⟨k⟩
theorem LC {p q:Prop} (k:p) (h:Kk p->q:=by intro kk;have br:=lh aQ;have bY:=lh au;have uM:=lh (h.o w bR);have f9:w.cell? (Ad g 7)=some (iV ab.today):=uM.blk.cell 7;have ew:=uM.blk.lt;have mz:=lh b4;revert br bY uM f9 ew mz;exact kk.o):q:=h ⟨k⟩
theorem LV {p q:Prop} (k:p) (h:Kk p->q:=by intro kk;have rk:=nW.o;obtain⟨c',aS,-⟩:=rk.cs [0,1];have sT:=nX.o;have cM:=sT.cell 1;have jy:=l5.o;have dN:=jy.cell 0;simp only[gz,gs]at c' aS cM dN;clear rk sT jy;revert dN;revert cM;revert aS;revert c';exact kk.o):q:=h ⟨k⟩
theorem R1 {q:Prop} (h:q:=by rintro I fA ⟨bu,rfl,a9,rfl⟩;go_wp2_with fail;go_ret;exact h3.mk _ _):q:=h
theorem Gd {p q:Prop} (k:p) (h:Kk p->q:=by
 intro kk;have j4:Hd (Fr bj (.slice gY a5.p.bs.length gZ)/\Fr bj (.slice h8 a5.rs.length hD)/\Fr bj (.slice hF a5.o.length hH)/\∀ak∈fY,Fr bj ak):=by exact Nm
 revert j4;exact kk.o):q:=h ⟨k⟩
theorem Oo {p q:Prop} (k:p) (h:Kk p->q:=by
 intro kk;have j4:Hd (Fr bj (.slice gY a5.p.bs.length gZ)/\Fr bj (.slice h8 a5.rs.length hD)/\Fr bj (.slice hF a5.o.length hH)/\∀ak∈fY,Fr bj ak):=by exact Nm
 revert j4;exact kk.o):q:=h ⟨k⟩
theorem Ov {q:Prop} (h:q:=by
 simp only[Exit.jump];go_wp2;go_roundg g;case measure=>omega
 case rel=>obtain⟨cu,bx,gh,gi,eW,cx,bq⟩:=aO.o;refine⟨n+1,by omega,by go_num,D7 bx mY jp ip om ?_,eW⟩;rw[Nat.mul_one,gi];simp only[hX,FZ,cx,aV.o];rw[<-cu];have aX:((ah:Int)+1-1).toNat=ah:=om;simp only[bk,bq,aX,eO.o,fy.o];rfl):q:=h
theorem NY {q:Prop} (h:q:=by
 clear bx cJ ta lU te;go_enter func214,ntmps214;go_wp2;all_goals first
  | (exfalso;omega)
  | skip
 go_end0
 refine⟨rfl,cA.o,?_,by simp,fun dI Z ag=>(bR.setCell Z _).setCell ag _,fun k Z ag=>(heap_setCell_other _ (Ad aE i) k _ (fun I=>ag I)).trans (heap_setCell_other w (Ad g 1) k _ (fun I=>Z I))⟩;rw[List.map_set];exact fp.o):q:=h
theorem M1 {p q:Prop} (k:p) (h:Kk p->q:=by intro kk;have m0:Hd (hA eA w.heap.size 117 [pV b5]):=((eV.2.2.1.B l6.o).B (hG bR)).keep m3.o lV.1;have m4:Hd (hA eA b5 186 [pV bX,iZ,je,iV (iz:Int)]):=((oK.B l6.o).B (hG bR)).keep m3.o pY.o;have jN:Hd (hA eA bn 3 [iV (q:Int)]):=((eV.1.B l6.o).B (hG bR)).keep m3.o lV.2.1;revert m0 m4 jN;exact kk.o):q:=h ⟨k⟩
theorem ST {p q:Prop} (k:p) (h:Kk p->q:=by intro kk;rintro _ dq ⟨ak,rfl,l7,gn,kn,ag,tg,ww,uN⟩;have fM:=lh ag;have ia:Hd (hT aZ w gn dq):=nJ.trans tg;have jG:=lh ww;have hI:Hd (q0 w dq):=(q0.of_below eb.o).trans uN;have gM:Hd (hA dq (w.heap.size+1) 45 zA):=uN _ _ _ mX.o Iv Iv Iv;clear ag tg ww uN;revert dq ak l7 gn kn fM ia jG hI gM;exact kk.o):q:=h ⟨k⟩
theorem Qg {p q:Prop} (k:p) (h:Kk p->q:=by
 intro kk;have m5:(k:Int)<bss.length:=oo bp.o;have yA:(k:Int)<rss.length:=oo bp.o;obtain⟨aG,I,th⟩:=xh (C0 (bss.getD k []) (rss.getD k []));have oL:=lh th;have rq:Hd ((g && (ts.getD k (0,false)).2)=false):=by show _=_;rw[eN.o];exact mu
 revert m5 yA aG I th oL rq;exact kk.o):q:=h ⟨k⟩
theorem Qw {p q:Prop} (k:p) (h:Kk p->q:=by
 intro kk;have eJ:¬n<1:=om;have bx:¬300<n:=om;have iH:¬bV<cb:=om;have aM:((bs.length:Int) != (ts.length:Int))=false:=by simp;omega
 revert eJ bx iH aM;exact kk.o):q:=h ⟨k⟩
theorem p3 {p q:Prop} (k:p) (h:Kk p->q:=by
 intro kk;have bJ:Hd (hA ((w.alloc (.cells #[.slice aF bs.length aC,iV c,iV aa] 35)).alloc (.cells #[sZ,iZ,iZ] 35)) (w.heap.size+1) 35 [sZ,iZ,iZ]):=by exact QM
 revert bJ;exact kk.o):q:=h ⟨k⟩
theorem QH {p q:Prop} (k:p) (h:Kk p->q:=by intro kk;have a0:ah<aD.length:=om;have aO:=lh (An cu (An bx (An gh (An gi (An eW (An cx bq))))));revert a0 aO;exact kk.o):q:=h ⟨k⟩
theorem CE {p q:Prop} (k:p) (h:Kk p->q:=by
 intro kk;have bJ:Hd (hA ((w.alloc (.cells #[.slice aF bs.length aC,iV c,iV aa] 35)).alloc (.cells #[sZ,iZ,iZ] 35)) (w.heap.size+1) 35 [sZ,iZ,iZ]):=by exact QM
 revert bJ;exact kk.o):q:=h ⟨k⟩
theorem Cb {p q:Prop} (k:p) (h:Kk p->q:=by
 intro kk;obtain⟨W,aW,oM,oN,oO,oP,oQ,gu,ru⟩:=XM w ay al an az ar ax cb bV c aa (.slice aF ts.length aC) (.slice rx bs.length ry);with_reducible rw[aW]
 revert W aW oM oN oO oP oQ gu ru;exact kk.o):q:=h ⟨k⟩
theorem P0 {p q:Prop} (k:p) (h:Kk p->q:=by
 intro kk;with_reducible rw[aW]
 refine(Ea _ bs c aa bW _ [k] 0 fU om Is _ mw.o mV.o).mono ?_;rintro _ a7 ⟨rfl,aH⟩;have f6:=lh (kj.o.B aH);have eZ:=lh (mW.o.B aH);have dl:=hJ ki.o aH;clear aH;have kh:=eZ.o;obtain⟨aI,aN,aL,-⟩:=kh.cS [0,1,2];clear kh;revert a7 f6 eZ dl aI aN aL;exact kk.o):q:=h ⟨k⟩
theorem Lx {p q:Prop} (k:p) (h:Kk p->q:=by intro kk;unfold Oper.wp execOp;simp only[eD,resolve,invoke,builtin,Sem.run_bind,Sem.run_pure,Result.andThen_ok,List.map_toArray,List.map_cons,List.map_nil,ck,aj,a9];exact kk.o):q:=h ⟨k⟩
theorem Lo {p q:Prop} (k:p) (h:Kk p->q:=by intro kk;refine(Cy _ ts ay al an az ar ax _ aJ _ (br.B bm)).mono ?_;rintro _ a7 ⟨rfl,aH⟩;obtain⟨iO,cM,iP,iQ,iR,iS,iT⟩:=pZ.B aH;revert a7 aH iO cM iP iQ iR iS iT;exact kk.o):q:=h ⟨k⟩
theorem YH {p q:Prop} (k:p) (h:Kk p->q:=by intro kk;have g7:=TB.new w 24 ay (.slice aF ts.length aC) al an az ar ax;have bm:BW w (w.alloc (.cells #[iV ay,.slice aF ts.length aC,iV al,iV an,iV az,iV ar,iV ax] 24)):=hB bR _;obtain⟨iO,cM,iP,iQ,iR,iS,iT⟩:=g7;have pZ:=lh (TB.new w 24 ay (.slice aF ts.length aC) al an az ar ax);revert bm iO cM iP iQ iR iS iT pZ;exact kk.o):q:=h ⟨k⟩
theorem Dr {p q:Prop} (k:p) (h:Kk p->q:=by
 intro kk;refine ac.out _ _ (fun hun=>jf) ?_;try simp only[ap,aq,sa,sb,sc]
 exact kk.o):q:=h ⟨k⟩
theorem SB {p q:Prop} (k:p) (h:Kk p->q:=by intro kk;have oR:=ko.setBook sN.o;have nY:bG.cell? (Ad g 10)=some (pV kn.gb):=ko.blk.cell 10;have qa:=ko.blk.frozen 10;have ew:=ko.blk.lt;revert oR nY qa ew;exact kk.o):q:=h ⟨k⟩
theorem Jo {p q:Prop} (k:p) (h:Kk p->q:=by intro kk;refine bodyPost_ret (v:=.agg #[iV bt,iV bu,iV cd,iV dw,iV cO,ai,iV dd,iV b2,dx,dy,iV dz,iV dA,iV dB,iV dC,iV dD,dE,iV dF,iV bl,iV dG,.bool aE]) (results_cell_row (p:=4) (ty:=45) rfl _ _ (w.heap.size+1) 45 _ (0,0) _ rfl (setRow_heap _ _ _ _ _ _ bI.o) underlying45 rfl RQ) rfl ?_;exact kk.o):q:=h ⟨k⟩
theorem Rt {q:Prop} (h:q:=by intro x aj;obtain⟨a8,di,rfl⟩:=List.getElem_of_mem aj;have:=h a8 di;simpa[List.getD,di] using this):q:=h
theorem QC {q:Prop} (h:q:=by
 go_wp2_with fail;any_goals (exfalso;rename_i yB;simp at yB;omega)
 go_roundg (ah-(h+1));case measure=>have:=ii.o;have:=bz.o;omega
 case rel=>exact⟨h+1,by first | rfl | simp only[dt],rfl,lh ⟨o2 ii.o bz.o,o2 ii.o bz.o,rfl⟩,HB6.o⟩):q:=h
theorem Mo {p q:Prop} (k:p) (h:Kk p->q:=by intro kk;refine(YY bw g (w.heap.size+2) jA ab ((w.heap.size+1)::aZ) hV lm ab.bk c x aV m6 ti eU pG mH.o (jA::lm.ownBlock.toList) ⟨me ..,fun q eC=>mo _ (tl.2 eC)⟩ _ em.o (oo wx.o) jI.o uu).mono ?_;rintro _ aT ⟨oF,rfl,o8,lK⟩;revert aT oF o8 lK;exact kk.o):q:=h ⟨k⟩
theorem Hc {p q:Prop} (k:p) (h:Kk p->q:=by intro kk;refine tF 11 rfl ?_ (hS:=fZ);refine tF 12 rfl ?_ (hS:=fZ);refine tF 13 rfl ?_ (hS:=fZ);refine tF 14 rfl ?_ (hS:=fZ);refine tF 15 rfl ?_ (hS:=fZ);exact kk.o):q:=h ⟨k⟩
theorem JH {p q:Prop} (k:p) (h:Kk p->q:=by intro kk;refine tF 16 rfl ?_ (hS:=fZ);refine tF 17 rfl ?_ (hS:=fZ);refine tF 18 rfl ?_ (hS:=fZ);refine tF 19 rfl ?_ (hS:=fZ);refine tF 20 rfl ?_ (hS:=fZ);exact kk.o):q:=h ⟨k⟩
theorem OU {q:Prop} (h:q:=by obtain⟨aF,aC,rfl,Z,ag,bK⟩:=h;refine⟨aF,aC,rfl,Z,ag,fun aj=>?_⟩;obtain⟨b,ae,rfl,cH⟩:=bK aj;exact⟨b,ae,rfl,fun i aA=>⟨(au.cell (p:=(Ad b (ae+i*2))) (ht (cH i aA).1)).trans (cH i aA).1,(au.cell (p:=(Ad b (ae+i*2+1))) (ht (cH i aA).2)).trans (cH i aA).2⟩⟩):q:=h
theorem JD {p q:Prop} (k:p) (h:Kk p->q:=by intro kk;have j2:=Ez (k:=k) fa.o bd.o (Nat.le_of_lt bP);have fT:=gP.cell (i:=k) om;rw[G4 fa.o bd.o bP]at fT;have lI:=gP.frozen k;have aI:=fV.cell 0;simp only[gz]at aI;have lW:=EM (a:=bs) (b:=l) (i:=k) Pz PX;revert lW;revert aI;revert lI;revert fT;revert j2;exact kk.o):q:=h ⟨k⟩
theorem Nz {q:Prop} (h:q:=by rintro I a7 ⟨rfl,rfl⟩;go_wp2;go_ret;rw[<-a9.o];exact⟨rfl,bm⟩):q:=h
theorem NM {q:Prop} (h:q:=by have yC:=lh (hJ gu.o aH);clear aH lr;go_wp2_with fail;go_ret2;exact⟨_,rfl,Sl.nil,yC.o⟩):q:=h
theorem Nb {p q:Prop} (k:p) (h:Kk p->q:=by
 intro kk;have eC:some w.heap.size≠(Value.slice (some (Ad q 0)) eF.length dP).ownBlock:=fun I=>by have uO:=Option.some.inj (show some w.heap.size=some q from I);omega
 have nd:some g≠(Value.slice (some (Ad q 0)) eF.length dP).ownBlock:=fun I=>sX (Option.some.inj (show some g=some q from I));revert eC nd;exact kk.o):q:=h ⟨k⟩
theorem OJ {p q:Prop} (k:p) (h:Kk p->q:=by
 intro kk;have uP:(-135140:Int)<=aU:=by have Z:=iI.lo;have ag:=(rz.range _ iI.o.o).1;omega
 have fc:aU<=2932896:=by have Z:=iI.hi;have ag:=(rz.range _ iI.o.o).2;omega
 have uQ:wrap64 (aU+1)=aU+1:=wi _ ⟨by omega,by omega⟩;revert uP fc uQ;exact kk.o):q:=h ⟨k⟩
theorem IZ {p q:Prop} (k:p) (h:Kk p->q:=by intro kk;have oS:(c.a == 3)=false:=ss jc;have iy:c.a=4:=oo mz.o;have oT:(c.a == 4)=true:=ss iy;revert oS iy oT;exact kk.o):q:=h ⟨k⟩
theorem I5 {p q:Prop} (k:p) (h:Kk p->q:=by intro kk;have bO:=lh (An gG (An gH (An gI gJ)));have gy:Hd ((#[iV bt,iV bu,iV cd,iV dw,iV cO,ai,iV dd,iV b2,dx,dy,iV dz,iV dA,iV dB,iV dC,iV dD,dE,iV dF,iV bl,iV dG,.bool aE]:Array Value).all (·.oneCell')=true):=HC bO.1 bO.2.1 bO.2.2.1 bO.2.2.2;revert bO gy;exact kk.o):q:=h ⟨k⟩
theorem My {p q:Prop} (k:p) (h:Kk p->q:=by intro kk;obtain⟨n,gW⟩:=xg l.length;have bp:=lh gW;revert n gW bp;exact kk.o):q:=h ⟨k⟩
theorem Ln {p q:Prop} (k:p) (h:Kk p->q:=by intro kk;have iw:Hd (Cc (bt) (.agg #[iV bt,iV bu,iV cd,iV dw,iV cO,ai,iV dd,iV b2,dx,dy,iV dz,iV dA,iV dB,iV dC,iV dD,dE,iV dF,iV bl,iV dG,.bool aE])):=⟨bu,cd,dw,cO,ai,dd,b2,dx,dy,dz,dA,dB,dC,dD,dE,dF,bl,dG,aE,rfl,bO.1,bO.2.1,bO.2.2.1,bO.2.2.2⟩;revert iw;exact kk.o):q:=h ⟨k⟩
theorem Mw {p q:Prop} (k:p) (h:Kk p->q:=by intro kk;simp only[ap,aq,sa,sb,sc];refine wo 6 kr rfl fun a4 ac=>?_;go_simp;refine(TW ((eV.2.2.2.2.1.B l6.o).B (hG bR)) q (oo dj.o) (eV.2.2.2.2.2.1 q (nr _)) cs lx.1 lx.2).mono ?_;rintro _ eA ⟨rfl,bv,iJ⟩;have qb:=lh bv;have m3:=lh iJ;revert a4 ac eA bv iJ qb m3;exact kk.o):q:=h ⟨k⟩
theorem Nh {p q:Prop} (k:p) (h:Kk p->q:=by intro kk;refine(Df _ bs c aa _ dj mU _ (br.B bi.o)).mono ?_;rintro _ a7 ⟨rfl,aH⟩;have bx:=bJ.B aH;obtain⟨dJ,bQ,cB⟩:=yD.B aH;obtain⟨aI,aN,aL,-⟩:=bx.cS [0,1,2];obtain⟨gm,cC,dr,-⟩:=bx.fs [0,1,2];have dl:=hJ bi.o aH;clear bx aH;revert a7 dJ bQ cB aI aN aL gm cC dr dl;exact kk.o):q:=h ⟨k⟩
theorem L6 {p q:Prop} (k:p) (h:Kk p->q:=by
 intro kk;have cu:b=eU:=by rw[<-pH.o];unfold us;rw[if_neg (fun h=>oo h.2)]
 revert cu;exact kk.o):q:=h ⟨k⟩
theorem Ie {p q:Prop} (k:p) (h:Kk p->q:=by
 intro kk;go_simp;refine ac.out _ _ (fun hun=>tj.o _ (hB aJ.bel _)) ?_;try simp only[ap,aq,sa,sb,sc]
 obtain⟨fB,au⟩:=xg dL.heap.size;obtain⟨iY,eK⟩:=xg (dL.alloc (.cells #[sZ,iZ,iZ] 35));have aJ:=lh (aJ.al au eK);revert fB au iY eK aJ;exact kk.o):q:=h ⟨k⟩
theorem NO {p q:Prop} (k:p) (h:Kk p->q:=by intro kk;have bF:¬qc<1:=oo (ex.o.2.2.2.1 Iv);have ez:¬1000000000000000<qc:=oo (ex.o.2.2.2.1 Iv);revert bF ez;exact kk.o):q:=h ⟨k⟩
theorem Q6 {p q:Prop} (k:p) (h:Kk p->q:=by intro kk;refine(H9 _ bs c aa ey.2 _ (mw.o.B aH)).mono ?_;rintro _ dm ⟨cU,rfl,cJ,bT⟩;revert dm cU cJ bT;exact kk.o):q:=h ⟨k⟩
theorem Io {p q:Prop} (k:p) (h:Kk p->q:=by
 intro kk;have eX:Hd (0<ai.length->∃g,wy=some (Ad g 0)/\bG.heap.size<=g/\hY kz g tm fI):=fun h=>by obtain⟨g,Z,ag,cV,fH,cG,mv⟩:=tn h;exact⟨g,Z,ag,cV,fH,cG,by rw[cw.2.1];exact mv⟩
 obtain⟨uR,lQ⟩:=DR eX.o;have r5:=lh lQ;revert eX uR lQ r5;exact kk.o):q:=h ⟨k⟩
theorem N1 {p q:Prop} (k:p) (h:Kk p->q:=by intro kk;obtain⟨aA,mr⟩:=xg (kb bs a6 bs.length/18446744073709551616);obtain⟨bw,jq⟩:=xg (kb bs a6 bs.length%18446744073709551616);obtain⟨q,b,eC⟩:=xh (evQ (aA:Int) (bw:Int) 1000000000);revert aA mr bw jq q b eC;exact kk.o):q:=h ⟨k⟩
theorem PU {p q:Prop} (k:p) (h:Kk p->q:=by intro kk;have bQ:¬r6<1:=oo (ex.o.2.1 Iv);have cB:¬(O.ts.length:Int)<r6:=oo (ex.o.2.1 Iv);revert bQ cB;exact kk.o):q:=h ⟨k⟩
theorem IE {q:Prop} (h:q:=by subst cu;go_step3;exact⟨rfl,dM.o _ _ (hP (hP (hP (hP (hP (hP (hP (hP (hP (hP (hP (hP (hP ⟨_,_,_,_,_,_,_,_,rfl,eO,(eE.B (BU bR _) bY.o).be,⟨_,(eE.B (BU bR _) bY.o).bk⟩,(eE.B (BU bR _) bY.o).st⟩)))))))))))))⟩):q:=h
theorem Gg {q:Prop} (h:q:=by exact⟨Z.cell 6,⟨Z.cell 0,Z.cell 1,Z.cell 2⟩,ag.cell 0,ag.cell 1,ag.cell 2⟩):q:=h
theorem ED {q:Prop} (h:q:=by rintro _ a7 ⟨rfl,aH⟩;go_wp2;go_ret;exact⟨rfl,hJ bm aH⟩):q:=h
theorem Ly {p q:Prop} (k:p) (h:Kk p->q:=by intro kk;obtain⟨oU,oV⟩:=(dY.choose_spec).at' (j:=4) om;have oW:=(dY.choose_spec).x.frozen 4;have oX:=(dY.choose_spec).x.lt;revert oU oV oW oX;exact kk.o):q:=h ⟨k⟩
theorem I4 {q:Prop} (h:q:=by
 go_wp2;simp only[Exit.jump];go_wp2;go_roundg g;case measure=>omega
 case rel=>obtain⟨cu,bx,gh,gi,eW,cx⟩:=aO.o;refine⟨n+1,by omega,by go_num,D7 bx mY jp ip om ?_,eW⟩;rw[Nat.mul_one,gi];simp only[hX,FZ,cx,aV.o];rw[<-cu];rfl):q:=h
theorem LS {p q:Prop} (k:p) (h:Kk p->q:=by intro kk;refine(QT (a7.heap.size+2) w.heap.size aE n bD i bs c aa bW aG ah eh bd (o2 ey.1 bd.o) (o2 ey.2 bd.o) bq om a0 eO w0 wA om _ (((cA.set 0 _).set 1 _).set 2 _) (yau (yau (yau oD.o om) om) om)).mono ?_;exact kk.o):q:=h ⟨k⟩
theorem Qy {p q:Prop} (k:p) (h:Kk p->q:=by intro kk;refine(EE (.slice bH O.ts.length bC) O.ts O.lim O.cyc O.dued O.minf O.minp O.start 0 (lh (by have:=qd.o;unfold Tm.right at this;rw[if_pos this])) _ (br.B jJ.o)).mono ?_;rintro _ dm ⟨rfl,bT⟩;have r7:=lh (lN.B bT);revert dm bT r7;exact kk.o):q:=h ⟨k⟩
theorem HM {p q:Prop} (k:p) (h:Kk p->q:=by
 intro kk;have dT:∀ak,Hi dI ak->hL L ak:=fun ak aQ b ae n c I aK a0=>by have Z:=aQ b ae n c I aK;have ag:=e7 b a0;omega
 have iK:∀x,dI<=x->x∉L:=fun x aj a0=>by have ag:=e7 x a0;omega
 obtain⟨gG,gH,gI,gJ,uS,uT,uU,uV,uW,uX,uY⟩:=id aA;revert dT iK gG gH gI gJ uS uT uU uV uW uX uY;exact kk.o):q:=h ⟨k⟩
theorem MX {p q:Prop} (k:p) (h:Kk p->q:=by intro kk;refine(L3 (a7.heap.size+2) w.heap.size aE n bD i bs c aa bW aG aL bd (o2 ey.1 bd.o) (o2 ey.2 bd.o) bq lT ip lO wB om _ (((cA.set 0 _).set 1 _).set 2 _) (yau (yau (yau oD.o om) om) om)).mono ?_;exact kk.o):q:=h ⟨k⟩
theorem NG {p q:Prop} (k:p) (h:Kk p->q:=by intro kk;have ch:(k:Int)<aD.length:=om;have bP:k<aD.length:=om;revert ch bP;exact kk.o):q:=h ⟨k⟩
theorem O6 {p q:Prop} (k:p) (h:Kk p->q:=by intro kk;refine(Cy _ ts ay al an az ar ax _ gt _ r8.o).mono ?_;rintro _ dm ⟨rfl,bT⟩;have nX:=lh (qe.B bT);have nW:=lh (tp.B bT);have l5:=lh (tq.B bT);have l8:=lh (r9.B bT);have l9:=lh (rA.B bT);revert dm bT nX nW l5 l8 l9;exact kk.o):q:=h ⟨k⟩
theorem Hu {p q:Prop} (k:p) (h:Kk p->q:=by
 intro kk;have ne:wrap64 (bV+an)=b2:=by rw[rB];exact wi _ ⟨by omega,by omega⟩
 have nf:IntKind.i64.wrap (bV+an)=b2:=by rw[rB];exact IntWalk.i64_in _ ⟨by omega,by omega⟩
 have uZ:=lh (An ne nf);have va:=lh tu;revert ne nf uZ va;exact kk.o):q:=h ⟨k⟩
theorem Cm {p q:Prop} (k:p) (h:Kk p->q:=by
 intro kk;have jO:(k8 (l.drop i)).length=(l.length-i)*5:=by rw[DJ,List.length_drop]
 revert jO;exact kk.o):q:=h ⟨k⟩
theorem H8 {p q:Prop} (k:p) (h:Kk p->q:=by intro kk;have yE:IntKind.i64.wrap ((i:Int)+1)=(i:Int)+1:=IntWalk.i64_in _ ⟨by omega,by omega⟩;have yF:(0:Int)<=(i:Int)+1:=om;have yG:((i:Int)+1).toNat=i+1:=om;have yH:(i:Int)<=l.length+1:=om;revert yE yF yG yH;exact kk.o):q:=h ⟨k⟩
theorem Si {q:Prop} (h:q:=by rw[List.any_eq_true];refine⟨x,?_,cK.o⟩;rw[<-aj.o];simp[List.getD,bP]):q:=h
theorem Jw {p q:Prop} (k:p) (h:Kk p->q:=by intro kk;refine(By _ bs c aa true aJ _ (br.B bm)).mono ?_;rintro _ a7 ⟨rfl,aH⟩;obtain⟨dJ,bQ,cB⟩:=cK.B aH;revert a7 aH dJ bQ cB;exact kk.o):q:=h ⟨k⟩
theorem F4 {q:Prop} (h:q:=by
 subst I;obtain⟨_,fq,lE,n8⟩:=mem_ready.1 di;rw[wC]at lE;cases lE;have Z:=n8 bh wD wE;rw[wF]at Z;rcases Nat.lt_or_ge i l.size with mZ | mZ;·simp[mZ]at cx Z;rw[cx]at Z;cases Z
 ·simp[Array.getElem?_eq_none mZ]at Z):q:=h
theorem Q2 {p q:Prop} (k:p) (h:Kk p->q:=by
 intro kk;obtain⟨fR,aW,iF⟩:∃W,bN.setCell (Ad (w.heap.size+1) 4) (.int .u8 ((oU+1)%256))=W/\Hd (∃cs,xe w W cs):=⟨_,rfl,by obtain⟨cs,k⟩:=dY.o;exact⟨_,k.set 4 _⟩⟩;try with_reducible rw[aW]
 clear aW;revert fR iF;exact kk.o):q:=h ⟨k⟩
theorem HR {p q:Prop} (k:p) (h:Kk p->q:=by
 intro kk;have aV:=lh aj;have tv:¬(1000000000000000<q):=om;have tw:decide (1000000000000000<q)=false:=by simp;omega
 have bQ:wrap64 q=q:=by unfold wrap64;omega
 have cB:wrap64 (-q) = -q:=by unfold wrap64;omega
 revert aV tv tw bQ cB;exact kk.o):q:=h ⟨k⟩
theorem JL {q:Prop} (h:q:=by
 refine⟨fun b ae n c I aK=>?_,fun b ae n c I aK=>?_⟩;·have Z:=lF.o b ae n c I aK;simp only[wd,wa]at Z;omega
 ·have Z:=gE.o b ae n c I aK;simp only[wd,wa]at Z;omega):q:=h
theorem Pg {p q:Prop} (k:p) (h:Kk p->q:=by
 intro kk;obtain⟨aw,ck⟩:=xg (d'+aG);have ce:Hd (h1 bs (k+1)=aw):=by show _=_;rw[h1,i5.o,aV.o,ck]
 have kq:Hd (0<=aw/\aw<=1000000000000000*((k+1:Nat):Int)):=by show _/\_;omega
 revert aw ck ce kq;exact kk.o):q:=h ⟨k⟩
theorem Pq {p q:Prop} (k:p) (h:Kk p->q:=by
 intro kk;with_reducible rw[fx]
 obtain⟨aI,aN,aL,-⟩:=fS.cS [0,1,2];obtain⟨qf,qg,qh,-⟩:=fS.fs [0,1,2];refine wS 24 rfl ?_;refine wS 25 rfl ?_;refine wS 26 rfl ?_;clear aI aN aL qf qg qh;refine r4 kr ?_ _;exact kk.o):q:=h ⟨k⟩
theorem Jb {p q:Prop} (k:p) (h:Kk p->q:=by
 intro kk;rw[cG]at bh;rw[b4]at bf;have wG:wrap64 ((k:Int)+1-1)=(k:Int):=by rw[show(k:Int)+1-1=(k:Int) by omega];exact wi _ ⟨by omega,by omega⟩
 have yI:(k:Int)<a6.length:=om;revert wG yI bh bf;exact kk.o):q:=h ⟨k⟩
theorem K5 {p q:Prop} (k:p) (h:Kk p->q:=by
 intro kk;have rC:=jag eC;have fU:Hd (C3 bs a6=(aA,bw,0)):=by show _=_;unfold C3;rw[eD,if_pos rfl,mr,jq]
 have kf:Hd (bw<18446744073709551616):=by show _<_;omega
 have dj:=lh eC;have br:=lh aQ;have kA:=lh cE;revert rC fU kf dj br kA;exact kk.o):q:=h ⟨k⟩
theorem JX {p q:Prop} (k:p) (h:Kk p->q:=by intro kk;go_simp;refine(ZC p ci cD a6 x q rs' vb wH.1 wH.2 _ (cT.wk.rd.now.1.B aJ.bel) (cT.wk.rd.now.2.1.B aJ.bel)).mono ?_;rintro _ dL ⟨lm,qW,rfl,jl,jX,bZ⟩;have aJ:=lh (aJ.call jl jX bZ);revert dL lm qW jl jX bZ aJ;exact kk.o):q:=h ⟨k⟩
theorem Pn {p q:Prop} (k:p) (h:Kk p->q:=by intro kk;obtain⟨k,b4⟩:∃k:Nat,(ah-1).toNat=k:=⟨_,rfl⟩;have eB:((k+1:Nat):Int)=ah:=om;revert k b4 eB;exact kk.o):q:=h ⟨k⟩
theorem OD {p q:Prop} (k:p) (h:Kk p->q:=by
 intro kk;have aM:((bss.length:Int) != (ts.length:Int))=false:=by simp;omega
 revert aM;exact kk.o):q:=h ⟨k⟩
theorem JK {p q:Prop} (k:p) (h:Kk p->q:=by intro kk;have ez:World.cell? _ (Ad (w.heap.size+1) 4)=some (iV (0)):=db.cell 4;revert ez;exact kk.o):q:=h ⟨k⟩
theorem GE {p q:Prop} (k:p) (h:Kk p->q:=by
 intro kk;have nZ:wrap64 (ab:Int)=ab:=by unfold wrap64;omega
 have rD:max (-(ab:Int)) (ab:Int)=ab:=om;have c':-(ab:Int)<0:=om;have aS:decide (-(ab:Int)<0)=true:=by simp;omega
 revert nZ rD c' aS;exact kk.o):q:=h ⟨k⟩
theorem QG {q:Prop} (h:q:=by
 rcases mc.1 bq with rfl | bq;·exact jI.1
 ·exact(jI.2.2.lt aG (tl.1 bq)).1):q:=h
theorem Jl {p q:Prop} (k:p) (h:Kk p->q:=by
 intro kk;have nZ:wrap64 (-(ab:Int)) = -(ab:Int):=by unfold wrap64;omega
 have rD:max (ab:Int) (-(ab:Int))=(ab:Int):=om;have c':¬(ab:Int)<0:=om;have aS:decide ((ab:Int)<0)=false:=by simp
 revert nZ rD c' aS;exact kk.o):q:=h ⟨k⟩
theorem CI {p q:Prop} (k:p) (h:Kk p->q:=by intro kk;have cA:Hd (BW wr dm):=hJ (hB bR _) bT;have jC:Hd (hA dm wr.heap.size 43 [iV aS.n,iV aS.fr,iV aS.til,iV aS.du,.slice jY aS.ls.length bQ,iV aS.tot,iV aS.cr,iV aS.mn,.bool aS.g]):=(hR wr _ _ _ rfl).B bT;revert cA jC;exact kk.o):q:=h ⟨k⟩
theorem Gw {p q:Prop} (k:p) (h:Kk p->q:=by
 intro kk;have vd:IntKind.u64.wrap (aO:Int)=aO:=by rw[IntKind.wrap_u64];omega
 have ve:IntKind.u64.wrap (cp:Int)=cp:=by rw[IntKind.wrap_u64];omega
 obtain⟨h,gK⟩:=xg (aO*cp/18446744073709551616);revert vd ve h gK;exact kk.o):q:=h ⟨k⟩
theorem Gv {p q:Prop} (k:p) (h:Kk p->q:=by intro kk;refine(Cy _ ts ay al an az ar ax _ gt _ (br.B gu.o)).mono ?_;rintro _ a7 ⟨rfl,aH⟩;revert a7 aH;exact kk.o):q:=h ⟨k⟩
theorem KM {p q:Prop} (k:p) (h:Kk p->q:=by intro kk;refine(EE _ ts ay al an az ar ax _ gt _ (br.B gu.o)).mono ?_;rintro _ a7 ⟨rfl,aH⟩;revert a7 aH;exact kk.o):q:=h ⟨k⟩
theorem PM {p q:Prop} (k:p) (h:Kk p->q:=by
 intro kk;have qi:=ng (mem_ready.1 a9).1 di;have oY:((dg.setIfInBounds i true).setIfInBounds a8 true).getD p true=false:=by rw[getD_set_ne true qi,getD_set_ne true (fun I=>ng (mem_ready.1 a9).1 a9 I)];exact qj
 revert qi oY;exact kk.o):q:=h ⟨k⟩
theorem KJ {q:Prop} (h:q:=by simp[aM,aP,bA,fJ,d5,d6]at a9;have aJ:=a9;clear a9;exact E7):q:=h
theorem RI {p q:Prop} (k:p) (h:Kk p->q:=by
 intro kk;have oZ:¬(1<=c.c/\c.c<=(ab.t.ts.length:Int)):=fun gK=>by have:=lt.2 gK;cases this
 revert oZ;exact kk.o):q:=h ⟨k⟩
theorem Cf {q:Prop} (h:q:=by simp only[mc,nn,or_false]at Z;exact .inr om):q:=h
theorem F6 {p q:Prop} (k:p) (h:Kk p->q:=by intro kk;rw[<-wI,<-kh];have sx:¬w.heap.size=g:=om;have ct:hA (W.setCell (Ad g 1) (iV (wrap64 (kB-aO.d)))) g 127 [sL q 0 eF.length dP,iV (wrap64 (kB-aO.d))]:=qk.set 1 _;have nh:=tx.o;revert sx ct nh;exact kk.o):q:=h ⟨k⟩
theorem F0 {q:Prop} (h:q:=by
 by_cases h:0<ai.length;·obtain⟨Z,_,_⟩:=m7.o h;rw[Z];have ag:=(bd.o h).1;rw[EO nO.o cw.1]at ag;exact ag.sl nO.o wJ vf
 ·exact S3 nO.o om vf (fun I=>(wK.o I).2)):q:=h
theorem DB {p q:Prop} (k:p) (h:Kk p->q:=by
 intro kk;have ig:Hd ((hX td b3 b3.length).length<=1000):=by show _<=1000;rw[A2];exact aV.o
 have rE:Hd ((hX i4 b3 b3.length).length<=1000):=by show _<=1000;rw[A2];exact aV.o
 revert ig rE;exact kk.o):q:=h ⟨k⟩
theorem Q1 {p q:Prop} (k:p) (h:Kk p->q:=by intro kk;rintro _ a7 ⟨rfl,aH⟩;have eZ:=lh (cj.B aH);have f6:=lh (bJ.B aH);have lX:=lh (hJ bi.o aH);clear aH;have bx:=eZ.o;obtain⟨aI,aN,aL,-⟩:=bx.cS [0,1,2];clear bx;revert a7 eZ f6 lX aI aN aL;exact kk.o):q:=h ⟨k⟩
theorem RW {p q:Prop} (k:p) (h:Kk p->q:=by
 intro kk;have aM:decide (1000000000000000<q)=false:=by simp;omega
 have a7:wrap64 q=q:=wi _ ⟨by omega,by omega⟩;have dm:IntKind.i64.wrap q=q:=IntWalk.i64_in _ ⟨by omega,by omega⟩;revert aM a7 dm;exact kk.o):q:=h ⟨k⟩
theorem Ib {q:Prop} (h:q:=by simp[aM,aP,bA,fJ,d5]at a9;have aJ:=a9;clear a9;exact E7):q:=h
theorem FR {p q:Prop} (k:p) (h:Kk p->q:=by
 intro kk;have I:floatOfInt .f64 ak=aw:=by rw[<-ck.o];unfold CY;rw[if_neg om];have:=Mr ak.toNat;rwa [Int.toNat_of_nonneg om]at this
 have a0:=Kd ak true GK;have eN:=lh a0;clear a0;revert I eN;exact kk.o):q:=h ⟨k⟩
theorem Ef {q:Prop} (h:q:=by
 obtain⟨rfl,rfl⟩:=mS.1 (Or.inr om);have tv:1000000000000000<q:=om;have tw:decide (1000000000000000<q)=true:=by simp;omega
 clear mS ql tz;go_wp2;go_ret2;exact⟨rfl,bL⟩):q:=h
theorem D6 {q:Prop} (h:q:=by have bv:=gL.o;rw[if_neg (fun h=>h.2 j5.o),if_pos (.inr ⟨j1,by omega⟩)]at bv;exact bv):q:=h
theorem N0 {q:Prop} (h:q:=by have bv:=gL.o;rw[if_neg (fun h=>h.2 j5.o),if_pos (.inl ⟨j1,by omega⟩)]at bv;exact bv):q:=h
theorem Cs {q:Prop} (h:q:=by
 have I:aR=false:=by
  have au:hj x=true:=by simp[hj];omega
  rw[au]at h;revert h;cases aR <;> decide
 subst I;clear h iD;go_enter func200,ntmps200;go_wp2;go_ret;exact h3.mk _ _):q:=h
theorem L5 {q:Prop} (h:q:=by clear iE hZ aI aN fG;go_wp2;refine bodyPost_ret (v:=.tuple #[.agg #[sZ,iZ,iZ],iV 5]) Eh rfl ⟨sZ,rfl,⟨Sl.nil,x0⟩,p2 dl om _ _ _⟩):q:=h
theorem MW {p q:Prop} (k:p) (h:Kk p->q:=by
 intro kk;try simp only[ap,aq,sa,sb,sc]
 refine wo 23 kr rfl fun a4 ac=>?_;go_simp;refine ac.out _ _ kd ?_;revert a4 ac;exact kk.o):q:=h ⟨k⟩
theorem Mx {p q:Prop} (k:p) (h:Kk p->q:=by
 intro kk;try simp only[ap,aq,sa,sb,sc]
 refine wo 22 kr rfl fun a4 ac=>?_;go_simp;refine ac.out _ _ kd ?_;revert a4 ac;exact kk.o):q:=h ⟨k⟩
theorem Sy {q:Prop} (h:q:=by exact⟨none,0,rfl,nr _,⟨by simp[maxLen],fun _=>rfl⟩,fun h=>absurd rfl h⟩):q:=h
theorem HN {q:Prop} (h:q:=by
 unfold hW at h;cases ck:q5 0 bs with
 | none=>rw[ck]at h;simp at h
 | some aw=>rw[ck]at h;simp only[ba,decide_eq_true_eq]at h;exact⟨AZ.1 h.1.2,h.1.1.1.2,h.1.1.1.1⟩):q:=h
theorem Mu {p q:Prop} (k:p) (h:Kk p->q:=by intro kk;have vg:=eq.o;rw[i']at vg;simp only[Prod.mk.injEq]at vg;obtain⟨rfl,rfl⟩:=vg;exact kk.o):q:=h ⟨k⟩
theorem Q4 {q:Prop} (h:q:=by have bv:=gL.o;rw[if_neg (fun h=>h.1 eB),if_pos (.inr ⟨j1,by omega⟩)]at bv;exact bv):q:=h
theorem NI {q:Prop} (h:q:=by
 rcases ma.1 aj with aj | aj;·have jP:=tl.1 aj;exact⟨(dT.lt x jP).1,(dT.lt x jP).2⟩
 ·exact⟨(h.lt x aj).1,Nat.lt_of_lt_of_le (h.lt x aj).2 ac.size⟩):q:=h
theorem Qr {q:Prop} (h:q:=by
 by_cases Z:aB<=ak
 ·by_cases ag:ak<=b;·go_wp2;go_ret;simp[h3,h0,Z,ag]
  ·go_wp2;go_ret;simp[h3,h0,Z,ag]
 ·go_wp2;go_ret;simp[h3,h0];omega):q:=h
theorem PD {q:Prop} (h:q:=by
 induction i with
 | zero=>rfl
 | succ i ni=>have Z:=h i om;have ag:=WN dn (show i<jQ.length by omega);simp only[o1,ni om,ag,decide_eq_true Z.1,decide_eq_true Z.2];rfl):q:=h
theorem Te {q:Prop} (h:q:=by have aJ:=a9;clear a9;go_wp2_with fail;refine(G2 cw.o _).mono ?_;rintro I dm ⟨rfl,rfl⟩;go_wp2_with fail;refine(G2 cw.o _).mono ?_;rintro I dm ⟨rfl,rfl⟩;exact E7):q:=h
theorem Qp {p q:Prop} (k:p) (h:Kk p->q:=by
 intro kk;have pa:t7=List.replicate ai.length (iZ):=by rw[<-List.take_of_length_le (show t7.length<=ai.length*1 by omega),t8,Nat.mul_one];exact toList_madeCells_one _ _
 revert pa;exact kk.o):q:=h ⟨k⟩
theorem JM {q:Prop} (h:q:=by rw[cH];go_enter func37,ntmps37;go_wp2_with fail;go_ret;exact⟨rfl,hB bR _⟩):q:=h
theorem Rh {q:Prop} (h:q:=by simp only[List.getD,List.getElem?_eq_getElem h,Option.getD_some];exact List.getElem_mem h):q:=h
theorem LF {q:Prop} (h:q:=by
 rintro _ a7 ⟨rfl,aH⟩;have yJ:=lh (hJ cX.o aH);clear aH;go_wp2_with fail;go_roundg g;case measure=>omega
 case rel=>exact⟨k+1,by omega,by go_num,yJ.o⟩):q:=h
theorem OA {q:Prop} (h:q:=by
 intro jY a7 J fd lH;clear lH;iterate 35 obtain⟨_,J⟩:=J
 obtain⟨rfl,s5,au⟩:=J;go_wp2;simp only[Exit.jump];go_ret2;rw[s5.o];exact⟨rfl,au⟩):q:=h
theorem NV {q:Prop} (h:q:=by
 have ch:¬((k:Int)<n):=om;obtain rfl:k=n:=om;clear qm;go_wp2_with fail
 go_end0
 exact⟨rfl,lA,jR,vf',ci,cD,aV.o,fp.o⟩):q:=h
theorem N9 {q:Prop} (h:q:=by
 rcases ma.1 aj with ag | ag;·have bK:=(t9.lt x (tl.1 ag));exact bK.2
 ·exact Nat.lt_of_lt_of_le (H.lt x ag).2 lU.keep.size):q:=h
theorem Rs {q:Prop} (h:q:=by have ch:¬((n:Int)<aD.length):=om;obtain rfl:n=aD.length:=om;go_wp2;go_ret;exact⟨_,rfl,Sl.of_own cJ (A2 _ _ _),au⟩):q:=h
theorem Ou {q:Prop} (h:q:=by
 go_wp2_with fail
 go_ret3
 exact⟨_,rfl,World.ownsRow_nil _ _ _ _,DW au _⟩):q:=h
theorem Np {q:Prop} (h:q:=by go_enter func159,ntmps159;go_wp2_with fail;go_ret;exact⟨rfl,bL⟩):q:=h
theorem O2 {q:Prop} (h:q:=by go_enter func110,ntmps110;go_wp2_with fail;go_ret;exact⟨rfl,bR⟩):q:=h
theorem OI {q:Prop} (h:q:=by
 rw[I];cases i with
 | zero=>simp
 | succ i=>have h:=ni i MV;have aX:(i+1)*2=i*2+1+1:=om;rw[aX];simpa using h):q:=h
theorem Sv {q:Prop} (h:q:=by subst h;go_enter func134,ntmps134;go_wp2;go_ret;exact⟨rfl,bL⟩):q:=h
theorem LY {q:Prop} (h:q:=by simp[aM,aP,bA,fJ,d5,d6,d7]at a9;have aJ:=a9;clear a9;exact E7):q:=h
theorem BH {q:Prop} (h:q:=by
 cases I;rw[EJ]at a0;rcases cJ.2 with⟨h,_⟩ | ⟨yK,fw,yL,h,ed,_⟩;·simp only[Value.slice.injEq]at h;cases h.1
 ·exact qgy):q:=h
theorem B4 {q:Prop} (h:q:=by obtain⟨AA,fw,I,Z,ag,bK⟩:=h;cases I;obtain⟨b,ae,rfl,cH⟩:=bK (by intro h;rw[h]at aA;simp at aA);exact⟨b,ae,rfl,cH i aA⟩):q:=h
theorem Ja {q:Prop} (h:q:=by exact⟨Z.cell 4,ag.cell 0,ag.cell 1,ag.cell 2,bK.cell 0,bK.cell 1,bK.cell 2,bK.cell 3,bK.cell 4,bK.cell 5,bK.cell 6,bK.cell 7,bK.cell 8⟩):q:=h
theorem J0 {q:Prop} (h:q:=by intro a8 cU cE;have h:hA (w.alloc (.cells cs.toArray O)) w.heap.size O cs:=heap_alloc_new w _;rw[Addr.add_lit,h.cell,Nat.zero_add];exact cE):q:=h
theorem SC {q:Prop} (h:q:=by rintro _ a7 ⟨rfl,aH⟩;go_wp2_with fail;refine(nG.o _).mono ?_;rintro _ dm ⟨rfl,bT⟩;go_wp2;go_ret2;exact⟨rfl,hJ aH bT⟩):q:=h
theorem OW {q:Prop} (h:q:=by
 intro l aB w J;rcases J with⟨rfl,_⟩ | ⟨rfl,_⟩;·rw[if_pos rfl];exact wL
 ·rw[if_neg (Ne.symm fO)];exact fX):q:=h
theorem Kq {q:Prop} (h:q:=by refine ck cg fR ⟨rfl,rfl,rfl,by show(Array.mapIdx _ _).size<=_;simp,fun k _ eB=>?_⟩ (h cg bK);rw[cF];simp[eB]):q:=h
theorem Fi {q:Prop} (h:q:=by
 go_wp2;go_roundg g;case measure=>omega
 case rel=>exact⟨k+1,by omega,by go_num,by rw[ce.o];rfl,rfl⟩):q:=h
theorem EQ {q:Prop} (h:q:=by rw[h1,ni om,List.take_succ_eq_append_getElem om,List.sum_append];simp[List.getD,show n<bs.length by omega]):q:=h
theorem FI {q:Prop} (h:q:=by intro b ae ah q I a0;have:=rF.o b ae ah q I a0;have aX:wr.heap.size=wr.drew.heap.size:=rfl;simp at this;omega):q:=h
theorem G7 {q:Prop} (h:q:=by go_enter func132,ntmps132;go_wp2;go_ret2;exact⟨_,rfl,yM.o (by first | rfl | trivial) _,rfl⟩):q:=h
theorem RR {q:Prop} (h:q:=by go_wp2_with fail;go_ret;exact⟨_,g9,rfl,h4.of_own lY.o eN.1.symm,oo eN.o,dc.o⟩):q:=h
theorem IR {q:Prop} (h:q:=by rintro I a7 ⟨rfl,rfl⟩;go_wp2;go_step3;exact⟨rfl,dM.o _ _ (hP (hP ⟨_,_,_,_,rfl,aJ,bR⟩))⟩):q:=h
theorem FW {q:Prop} (h:q:=by
 go_wp2_with fail;go_roundg eg;case measure=>omega
 case rel=>exact⟨k+1,by omega,rfl,by go_num,rfl⟩):q:=h
theorem IM {q:Prop} (h:q:=by have aX:((ah:Int)+1-1).toNat=ah:=om;show _=_;simp only[hg,bq.o,aX,aj.o,m8.o]):q:=h
theorem Ep {q:Prop} (h:q:=by go_wp2_with fail;refine(eN.o _).mono ?_;rintro _ a7 ⟨rfl,rfl⟩;go_wp2;go_ret;exact⟨rfl,rfl⟩):q:=h
theorem Sg {q:Prop} (h:q:=by
 rename_i ag;rw[if_neg ag]at h;split;·rfl
 ·rename_i bK;rw[if_neg bK]at h;exact absurd rfl h):q:=h
theorem R2 {q:Prop} (h:q:=by have fH:some i6.heap.size=some x:=dX▸bK;simp only[Option.some.injEq]at fH;exact .inr om):q:=h
theorem Lm {q:Prop} (h:q:=by rename_i h;simp only[ba,Bool.or_eq_true,beq_iff_eq,bne_iff_ne,ne_eq]at h;omega):q:=h
theorem Q3 {q:Prop} (h:q:=by exact(((dl.setCell Is _).setCell Is _).setCell Is _).setCell Is _):q:=h
theorem JN {q:Prop} (h:q:=by rw[show dV+(n+1-dV)=n+1 by omega]at eq;rw[KK eq];show aa+(n+1-dV)≠al;omega):q:=h
theorem J9 {q:Prop} (h:q:=by go_wp2;go_step3;exact⟨rfl,dM.o _ _ (hP (hP (hP ⟨_,_,_,_,_,rfl,aV,bL⟩)))⟩):q:=h
theorem JR {q:Prop} (h:q:=by
 rename_i Z;rw[if_neg Z];split at ix;·rename_i ag;rw[if_pos ag];exact ag
 ·cases ix):q:=h
theorem Oa {q:Prop} (h:q:=by obtain⟨rfl,rfl⟩:=mS.1 (Or.inl rfl);clear mS;go_wp2;go_ret2;exact⟨rfl,bL⟩):q:=h
theorem Gu {q:Prop} (h:q:=by have tA:Hd (wX bs a6=false):=wM.o (.inr (by simp[nu];omega));exact Nc):q:=h
theorem So {q:Prop} (h:q:=by have tA:Hd (wX bs a6=false):=wM.o (.inl (by simp[nu];omega));exact Nc):q:=h
theorem SA {q:Prop} (h:q:=by have ch:¬((k:Int)<l.length):=om;go_wp2;go_ret;exact⟨rfl,eW⟩):q:=h
theorem kr {q:Prop} (h:q:=by kernel_rfl):q:=h
theorem ke {q:Prop} (h:q:=by exact fun _ _ _ h=>h):q:=h
theorem kv {q:Prop} (h:q:=by(intro w hSw;(try dsimp only at hSw);go_simp;try with_reducible rfl)):q:=h
theorem ka {q:Prop} (h:q:=by assumption):q:=h
theorem kd {q:Prop} (h:q:=by exact fun hun=>absurd hun Iv):q:=h
theorem ap (a:Act) (b:Tmp) (c):a.put (some b) c={ a with tmps:=a.tmps.setIfInBounds b c }:=rfl
theorem aq (a:Act) (b):a.put none b=a:=rfl
theorem sa {α:Type} {b:List α} {c:Nat} {a:α}:b.toArray.setIfInBounds c a=(b.set c a).toArray:=by simp
theorem sb {α:Type} {c:α} {a:List α} {b:α}:(c::a).set 0 b=b::a:=rfl
theorem sc {α:Type} {c:α} {a:List α} {d:Nat} {b:α}:(c::a).set (d+1) b=c::a.set d b:=rfl
theorem kp {q:Prop} (h:q:=by(simp only[ap,aq,sa,sb,sc];rfl)):q:=h
theorem gz {α:Type} {a:α} {b:List α}:(a::b)[0]?=some a:=rfl
theorem gs {α:Type} {c:α} {b:Nat} {a:List α}:(c::a)[b+1]?=a[b]?:=rfl
abbrev iZ:Value:=.int .i64 0
abbrev iV (a:Int):Value:=.int .i64 a
abbrev pV (a:Nat):Value:=.pointer (some ⟨a,0,none⟩)
abbrev sZ:Value:=.slice none 0 0
abbrev zA:List Value:=[.int .i64 0,.int .i64 0,.int .i64 0,.int .i64 0,.int .i64 0,.slice none 0 0,.int .i64 0,.int .i64 0,.slice none 0 0,.slice none 0 0,.int .i64 0,.int .i64 0,.int .i64 0,.int .i64 0,.int .i64 0,.slice none 0 0,.int .i64 0,.int .i64 0,.int .i64 0,.bool false]
abbrev Ad (a b:Nat):Addr:=⟨a,b,none⟩
abbrev Ce (w:World) (a c:Nat) (b:Value):Prop:=w.cell? ⟨a,c,none⟩=some b
abbrev BW (w a:World):Prop:=Below w.heap.size w a
abbrev sL (c d b a:Nat):Value:=.slice (some ⟨c,d,none⟩) b a
theorem bL {q:Prop} (h:q:=by repeat (first | with_reducible exact Below.refl _ _ | (with_reducible refine k1 ?_ ?hge;case hge=>(first | exact nr _ | omega)) | with_reducible refine hB ?_ _ | with_reducible refine hG ?_ | with_reducible refine BU ?_ _ | (refine hJ ?_ (by assumption)) | (refine U9 ?_ (by assumption) (by first | exact nr _ | omega)) | exact Below.refl _ _ | refine hB ?_ _ | refine hG ?_ | refine BU ?_ _)):q:=h
theorem bM {q:Prop} (h:q:=by repeat (first | with_reducible exact Below.refl _ _ | with_reducible exact HB6.o | with_reducible refine hB ?_ _ | with_reducible refine hG ?_)):q:=h
theorem bR {a:Nat} {w:World}:Below a w w:=Below.refl _ _
theorem lh {q:Prop} (h:q):Hd q:=Lib.hid h
theorem om {q:Prop} (h:q:=by omega):q:=h
theorem ms {α:Type} {a b:α}:a∈[b]↔a=b:=List.mem_singleton
theorem hP {k l m o s u n t v r:Type} {p:k->l->m->o->s->u->n->t->v->r->Prop} {a:k} {f:l} {i:m} {e:o} {j:s} {c:u} {d:n} {h:t} {g:v} {b:r} (x:p a f i e j c d h g b):∃a f i e j c d h g b,p a f i e j c d h g b:=⟨_,_,_,_,_,_,_,_,_,_,x⟩
def Sl (g:IntKind) (w:World) (i:Value) (a:List Int):Prop :=
 ∃c b,i=.slice c a.length b/\a.length<=b/\(b<=maxLen/\(c=none->b=0)) /\
  (a≠[]->∃e f,c=some (Ad e f)/\∀d,d<a.length->w.cell? (Ad e (f+d))=some (.int g (a.getD d 0)))
theorem ht {w:World} {a b:Nat} {c:Value} (h:w.cell? (Ad a b)=some c):a<w.heap.size:=World.block_lt_of_cell? w (Ad a b) h
theorem Sl.B {c:IntKind} {w b:World} {f:Value} {e:List Int} (h:Sl c w f e) (o:BW w b):Sl c b f e:=by obtain⟨k,n,rfl,m,l,r⟩:=h;refine⟨k,n,rfl,m,l,fun s=>?_⟩;obtain⟨d,g,rfl,i⟩:=r s;exact⟨d,g,rfl,fun a j=>(o.cell (p:=(Ad d (g+a))) (ht (i a j))).trans (i a j)⟩
theorem Sl.at {d:IntKind} {w:World} {c:Option Addr} {e f:Nat} {a:List Int} (h:Sl d w (.slice c e f) a) {i:Nat} (aA:i<a.length) :
 ∃b ae,c=some (Ad b ae)/\w.cell? (Ad b (ae+i))=some (.int d (a.getD i 0)):=by
 exact B4
theorem Sl.news {c:IntKind} {w:World} {g:Option Addr} {k m:Nat} {b:List Int} (h:Sl c w (.slice g k m) b) :
 (∀f,g=some f->∀a d,(b.map (Value.int c))[a]?=some d->w.cell? (f.add a)=some d):=by
 intro f j a d e;have i:a<b.length:=by have:=(List.getElem?_eq_some_iff.1 e).1;simpa using this
 obtain⟨p,r,n,o⟩:=h.at i;rw[n]at j;obtain rfl:=Option.some.inj j;rw[Addr.add_lit,o];have l:(b.map (Value.int c))[a]?=some (.int c (b.getD a 0)):=by simp[List.getD,i]
 rw[l]at e;exact e
theorem Sl.get {f:IntKind} {w:World} {e:Option Addr} {g j:Nat} {c:List Int} (h:Sl f w (.slice e g j) c) {i:Nat} (m:i<c.length) :
 ∃a b d,e=some (Ad a b)/\w.cell? (Ad a (b+i))=some (.int f d)/\Hd (c.getD i 0=d):=by
 obtain⟨a,b,k,l⟩:=h.at m;exact⟨a,b,_,k,l,rfl⟩
theorem Sl.none_cap {e:IntKind} {w:World} {b:Option Addr} {a c:Nat} {f:List Int} (h:Sl e w (.slice b a c) f) (i:b=none):a=0/\c=0:=by obtain⟨j,l,g,k,d,m⟩:=h;cases g;have:=d.2 i;omega
theorem Sl.none_len {e:IntKind} {w:World} {b:Option Addr} {d f:Nat} {a:List Int} (h:Sl e w (.slice b d f) a) (g:b=none):a=[]:=by
 cases a with
 | nil=>rfl
 | cons j a=>obtain⟨k,l,c,_⟩:=h.at (i:=0) Is;rw[g]at c;cases c
theorem Sl.len {f:IntKind} {w:World} {d:Option Addr} {a b:Nat} {c:List Int} (h:Sl f w (.slice d a b) c):a=c.length/\a<=b/\b<=maxLen:=by obtain⟨j,k,i,g,e,l⟩:=h;cases i;exact⟨rfl,g,e.1⟩
theorem Sl.lo {f:IntKind} {w:World} {d:Option Addr} {g e a:Nat} {c:List Int} (h:Sl f w (.slice d g e) c) (u:a<=g):Sl f w (.slice d a e) (c.take a):=by
 obtain⟨y,A,r⟩:=h.len;have m:(c.take a).length=a:=by rw[List.length_take];omega
 refine⟨d,e,by rw[m],by omega,⟨r,fun b=>(h.none_cap b).2⟩,fun p=>?_⟩;have j:c≠[]:=by intro b;subst b;simp at p
 obtain⟨z,t,b,v,s,o⟩:=h;cases b;obtain⟨n,k,rfl,l⟩:=o j;refine⟨n,k,rfl,fun i x=>?_⟩;rw[l i om];simp[List.getD,show i<a by omega]
theorem Sl.hi {j:IntKind} {w:World} {b:Option Addr} {c e a:Nat} {d:List Int} (h:Sl j w (.slice b c e) d) (t:a<=c) :
 Sl j w (.slice (if e=a then b else Option.map (fun l=>l.add a) b) (c-a) (e-a)) (d.drop a):=by
 obtain⟨x,z,y⟩:=h.len;have n:(d.drop a).length=c-a:=by rw[List.length_drop];omega
 refine⟨_,e-a,by rw[n],by omega,⟨by omega,fun g=>?_⟩,fun p=>?_⟩
 ·split at g;·omega
  ·have f:b=none:=by cases b <;> simp_all
   have:=h.none_cap f;omega
 ·have r:a<c:=by
   have:0<(d.drop a).length:=List.length_pos_iff.2 p;omega
  obtain⟨o,k,g,_⟩:=h.at (i:=0) om;subst g;rw[if_neg om];refine⟨o,k+a,by simp[Addr.add_lit],fun i u=>?_⟩;obtain⟨s,v,f,m⟩:=h.at (i:=a+i) om;cases f;rw[Nat.add_assoc,m];simp[List.getD,show a+i<d.length by omega]
theorem D0 {w a:World} (h:w.grownBy a none):BW w a:=bR.grown h (nr _) (by intro c b;cases b)
theorem DW {a:Nat} {b w:World} (h:Below a b w) (c:Nat):Below a b (w.drewN c):=⟨h.os,h.tape,h.output,h.size,h.block⟩
theorem hJ {c a b:World} (h:BW c a) (d:BW a b):BW c b:=h.trans (d.mono h.size)
theorem hB {a b:World} (h:BW a b) (c:Obj):BW a (b.alloc c):=h.alloc h.size c
theorem hG {a b:World} (h:BW a b):BW a b.drew:=h.drew
theorem BU {a c:World} (h:BW a c) (b:Nat):BW a (c.drewN b):=DW h b
def h3 (c:Value) (w:World) (a:Ending) (b:World):Prop:=a=.returned c/\w=b
theorem h3.mk (a) (w):h3 a w (.returned a) w:=⟨rfl,rfl⟩
def RetB (c:Value) (w:World) (a:Ending) (b:World):Prop:=a=.returned c/\BW w b
theorem h3.b {b:Value} {w:World} {c:Ending} {a:World} (h:h3 b w c a):RetB b w c a:=by obtain⟨e,d⟩:=h;subst d;exact⟨e,bR⟩
def hA (w:World) (a:Nat) (b:TypeId) (c:List Value):Prop:=w.heap[a]?=some (.cells c.toArray b (0,0))
abbrev Bw (w x:World) (e:TypeId) (c:List Value):Prop:=hA w x.heap.size e c
abbrev Bx (w x:World) (e:TypeId) (c:List Value):Prop:=hA w (x.heap.size+1) e c
theorem hA.lt {w:World} {a:Nat} {c:TypeId} {b:List Value} (h:hA w a c b):a<w.heap.size:=(Array.getElem?_eq_some_iff.1 h).1
theorem hA.cell {w:World} {b:Nat} {d:TypeId} {a:List Value} (h:hA w b d a) (c:Nat):w.cell? (Ad b c)=a[c]?:=by rw[cell_of_row w b c a.toArray d (0,0) h];simp
theorem hA.some {w:World} {b:Nat} {e:TypeId} {a:List Value} (h:hA w b e a) {j:Nat} (c:j<a.length):∃d,w.cell? (Ad b j)=some d:=⟨a[j],by rw[h.cell];simp[c]⟩
theorem hA.frozen {w:World} {a:Nat} {d:TypeId} {b:List Value} (h:hA w a d b) (c:Nat):w.frozen? (Ad a c)=false:=frozen_of_row w a c b.toArray d h
theorem hA.set {w:World} {a:Nat} {e:TypeId} {b:List Value} (h:hA w a e b) (d:Nat) (c):hA (w.setCell (Ad a d) c) a e (b.set d c):=by have:=heap_setCell_same w a d b.toArray e c h;unfold hA;rw[this];simp
theorem hA.B {w c:World} {a:Nat} {d:TypeId} {b:List Value} (h:hA w a d b) (e:BW w c):hA c a d b:=(e.block a h.lt).trans h
theorem hA.setOther {w:World} {g b:Nat} {a:TypeId} {c:List Value} (h:hA w g a c) (f:g≠b) (e:Nat) (d):hA (w.setCell (Ad b e) d) g a c :=
 (heap_setCell_other w (Ad b e) g d (fun a=>f a)).trans h
theorem B0 {w:World} {j:Nat} {g:TypeId} {f e b d:Nat} {i:List Value} (h:w.ownsRow j g f (sL e 0 b d) b i) :
 ∃a,hA w e g a/\b<=d/\d<=maxLen/\a.length=d*f/\a.take (b*f)=i/\j<=e:=by
 rcases h.2 with⟨c,_⟩ | ⟨s,r,a,c,n,p,l,k,o,m⟩;·simp at c
 ·simp only[Value.slice.injEq,Option.some.injEq,Addr.mk.injEq,and_true,true_and]at c;obtain⟨rfl,rfl⟩:=c;exact⟨a.toList,by simpa[hA] using p,l,k,by simpa using o,m,n⟩
theorem Sl.of_blk {f:IntKind} {w:World} {c d a:Nat} {e:TypeId} {cur:List Value} {b:List Int} (h:hA w c e cur) (n:b.length=a) (l:a<=d) (k:d<=maxLen)
 (m:cur.take a=b.map (Value.int f)):Sl f w (sL c 0 a d) b:=by
 subst n;refine⟨_,_,rfl,l,⟨k,fun h=>by cases h⟩,fun _=>⟨c,0,rfl,fun g i=>?_⟩⟩;rw[h.cell];have j:(cur.take b.length)[g]?=cur[0+g]?:=by simp[i]
 rw[<-j,m];simp[List.getD,i]
theorem K6 {cur:List Value} {n:Nat} {l:List Int} {k:IntKind} (h:cur.take n=l.map (Value.int k)) {i:Nat} (hi:i<n) (hil:i<l.length:=by omega):cur[i]?=some (.int k (l.getD i 0)):=by
 have:(cur.take n)[i]?=cur[i]?:=by simp[hi]
 rw[<-this,h];simp[List.getD,hil]
def Sp (d:IntKind) (w:World) (e:Value) (a b:List Int):Prop :=
 ∃c,e=.slice c a.length (a.length+b.length)/\Sl d w e a/\Sl d w (.slice c (a.length+b.length) (a.length+b.length)) (a++b)
theorem ro {w:World} {g:Nat} {i:TypeId} {j a:Nat} {d:Value} {f:List Value} (h:w.ownsRow g i j d a f) (m:0<a) :
 ∃b c,d=sL b 0 a c:=by
 rcases h.2 with⟨_,l⟩ | ⟨b,c,k,e,_⟩;·omega
 ·exact⟨b,c,e⟩
theorem E0 {w:World} {g d:Nat} {b:TypeId} {i c:Nat} {f:Value} {e:List Value} (h:w.ownsRow g b i f c e) (p:d<=g):w.ownsRow d b i f c e:=by
 obtain⟨n,a⟩:=h;refine⟨n,?_⟩;rcases a with a | ⟨l,o,j,m,r,k⟩;·exact Or.inl a
 ·exact Or.inr ⟨l,o,j,m,by omega,k⟩
theorem WC {w:World} {d:Nat} {e:TypeId} {f a:Nat} {c:Value} {b:List Value} (h:w.ownsRow d e f c a b) (g:Nat):(w.drewN g).ownsRow d e f c a b:=h
theorem D7 {w:World} {i:Nat} {d:TypeId} {c g b a:Nat} {cur f:List Value} (h:hA w g d cur) (m:i<=g) (j:b<=a) (l:a<=maxLen) (e:cur.length=a*c) (k:cur.take (b*c)=f) :
 w.ownsRow i d c (sL g 0 b a) b f:=by
 refine⟨?_,.inr ⟨g,a,cur.toArray,rfl,m,h,j,l,by simpa using e,by simpa using k⟩⟩;rw[<-k,List.length_take,e];exact Nat.min_eq_left (Nat.mul_le_mul_right _ j)
theorem Sl.of_own {c:IntKind} {w:World} {k:Nat} {f:TypeId} {d:Value} {b:Nat} {xs:List Int} (h:w.ownsRow k f 1 d b (xs.map (Value.int c))) (e:xs.length=b):Sl c w d xs:=by
 rcases h.2 with⟨rfl,rfl⟩ | ⟨m,n,a,rfl,o,l,i,g,p,j⟩;·obtain rfl:xs=[]:=List.eq_nil_of_length_eq_zero e;exact Sy
 ·exact Sl.of_blk (cur:=a.toList) (by simpa[hA] using l) e i g (ss j)
theorem Uo {w e:World} {c:Value} {f:TypeId} {d:Option Nat} (h:(w.alloc (.cells #[c] f)).drew.grownBy e d) (g:d=none):∀b a,[c][b]?=some a->e.cell? (((Ad w.heap.size 0):Addr).add b)=some a:=by intro b a i;subst g;exact h.cell (cell_one_new w c f b a i) Is
theorem Sl.alloc {a:IntKind} {w:World} {c:Value} {b:List Int} (h:Sl a w c b) (d:Obj):Sl a (w.alloc d) c b:=h.B (bR.alloc (nr _) d)
theorem Sl.lit {k:IntKind} (w:World) (c:TypeId) (b:List Int) (a:Nat) (e:b.length=a) (d:Array Value) (g:d=(b.map (Value.int k)).toArray) (f:a<=maxLen) :
 Sl k (w.alloc (.cells d c)) (sL w.heap.size 0 a a) b:=by
 subst g;refine Sl.of_blk (cur:=b.map (Value.int k)) (e:=c) (heap_alloc_new w _) e (nr _) f ?_;rw[List.take_of_length_le (by simp[e])]
theorem Sl.litAt {f:IntKind} (w:World) (d:TypeId) (b:List Int) (a e:Nat) (k:b.length=a) (c:Array Value) (j:c=(b.map (Value.int f)).toArray) (g:a<=maxLen) (i:w.heap.size=e) :
 Sl f (w.alloc (.cells c d)) (sL e 0 a a) b:=by
 subst i;exact Sl.lit w d b a k c j g
def ET (c:IntKind) (d:List Int) (w:World) (e:Ending) (b:World):Prop:=∃a,e=.returned a/\Sl c b a d/\BW w b
theorem sq {P:Program} {a:Act} {w:World} {e:Exit->Act->World->Prop} {i rest:Code} (d:Nat) (b:Act->World->Prop) (μ:Act->World->Nat) (l:findLabel i d=some (Code.seq .skip rest))
 (k:∀a w,b a w->∀(c:Act->World->Prop),(∀g f,b g f->μ g f<μ a w->c g f)->rest.wp P (Exit.jump d c e) a w)
 (first:∀(c:Act->World->Prop),(∀a w,b a w->c a w)->(∀a w,b a w->rest.wp P (Exit.jump d c e) a w)->i.wp P (Exit.jump d c e) a w):(Code.scope i).wp P e a w:=by
 refine wp_scope_jumps d b μ l (first b (fun _ _ h=>h) fun a w j=>k a w j b fun _ _ h _=>h) (fun a w j=>wp_seq (wp_skip (k a w j _ fun _ _ h m=>⟨h,m⟩)))
theorem KI {a b:Bool} (h:a=b):Ending.returned (.bool a)=.returned (.bool b):=by rw[h]
theorem Fo {b:IntKind} {a c:Int} (h:a=c):Ending.returned (.int b a)=.returned (.int b c):=by rw[h]
def cL (w:World) (a:Nat) (b:List Value):List Nat->Prop
| []=>True
| j::l=>w.cell? ⟨a,j,none⟩=b[j]?/\cL w a b l
def fL (w:World) (a:Nat):List Nat->Prop
| []=>True
| j::l=>w.frozen? ⟨a,j,none⟩=false/\fL w a l
theorem hA.cs {w:World} {c:Nat} {d:TypeId} {b:List Value} (h:hA w c d b):∀a,cL w c b a
| []=>trivial
| j::a=>⟨h.cell j,h.cs a⟩
theorem hA.cS {w:World} {g:Nat} {e:TypeId} {cur:List Value} {r:Prop} (h:hA w g e cur) (l:List Nat) (k:cL w g cur l->r:=by(intro kk;simp only[cL,gz,gs]at kk;exact kk)):r:=k (h.cs l)
theorem hA.fs {w:World} {b:Nat} {d:TypeId} {c:List Value} (h:hA w b d c):∀a,fL w b a
| []=>trivial
| j::a=>⟨h.frozen j,h.fs a⟩
def w2 (b:Nat->Act->World->Prop) (c:Exit->Act->World->Prop):Exit->Act->World->Prop
 | .goto e,a,w=>b e a w
 | d,a,w=>c d a w
theorem Fu {P:Program} {a:Act} {w:World} {i:Exit->Act->World->Prop} {d:Code} (n:Nat->Act->World->Prop)
 (first:d.wp P (w2 n i) a w)
 (t:∀f a w,n f a w->∃rest,findLabel d f=some rest/\rest.wp P (w2 (fun _ _ _=>False) i) a w):(Code.scope d).wp P i a w:=by
 intro k g j;have x:∀f a w,n f a w->∃rest,findLabel d f=some rest/\∃e s r,i e s r/\Arrives P (lone (k.at a (.code rest::.inScope d::g)) j w) k g j e s r:=by
  intro f a w z;obtain⟨rest,o,y⟩:=t f a w z;refine⟨rest,o,?_⟩;obtain⟨e,a₁,w₁,b,c⟩:=y k (.inScope d::g) j;cases e with
  | normal=>exact⟨.normal,a₁,w₁,b,Steps.trans c (.one step_inScope)⟩
  | exit id=>exact⟨.exit id,a₁,w₁,b,fun m l=>c m (by simp[exitTo,l])⟩
  | goto p=>exact b.elim
  | ret=>exact⟨_,a₁,w₁,b,c⟩
  | panic u=>exact⟨_,a₁,w₁,b,c⟩
  | outgrown=>exact⟨_,a₁,w₁,b,c⟩
 obtain⟨e,a₁,w₁,b,c⟩:=first k (.inScope d::g) j
 cases e with
 | normal=>exact⟨.normal,a₁,w₁,b,.head step_scope (Steps.trans c (.one step_inScope))⟩
 | exit id=>exact⟨.exit id,a₁,w₁,b,fun m l=>.head step_scope (c m (by simp[exitTo,l]))⟩
 | goto p =>
  obtain⟨rest,o,e₂,a₂,w₂,b₂,c₂⟩:=x p a₁ w₁ b;have v:gotoIn p (.inScope d::g)=some (.code rest::.inScope d::g):=by simp[gotoIn,o]
  exact⟨e₂,a₂,w₂,b₂,.of_steps (.head step_scope (c _ v)) c₂⟩
 | ret=>exact⟨_,a₁,w₁,b,.of_steps (.one step_scope) c⟩
 | panic u=>exact⟨_,a₁,w₁,b,.of_steps (.one step_scope) c⟩
 | outgrown=>exact⟨_,a₁,w₁,b,.of_steps (.one step_scope) c⟩
theorem Vg {c d:Nat->Act->World->Prop} {e:Exit->Act->World->Prop} (h:∀g a w,c g a w->d g a w):∀b a w,w2 c e b a w->w2 d e b a w:=fun b a w f=>by cases b <;> first | exact f | exact h _ _ _ f
theorem NJ {P:Program} {a:Act} {w:World} {m:Exit->Act->World->Prop} {j:Code} (i:Nat->Act->World->Prop) (μ:Nat->Act->World->Nat) (p:Nat->Code)
 (E:∀b a w,i b a w->findLabel j b=some (Code.seq .skip (p b)))
 (I:∀b a w,i b a w->∀n:Nat->Act->World->Prop,(∀c e d,i c e d->μ c e d<μ b a w->n c e d) ->
  (∀c e d,i c e d->μ c e d<μ b a w->(p c).wp P (w2 n m) e d)->(p b).wp P (w2 n m) a w)
 (first:∀n:Nat->Act->World->Prop,(∀b a w,i b a w->n b a w)->(∀b a w,i b a w->(p b).wp P (w2 n m) a w)->j.wp P (w2 n m) a w):(Code.scope j).wp P m a w:=by
 have D:∀{j:Code} {i n:Nat->Act->World->Prop} {a:Act} {w:World},(∀b a w,i b a w->n b a w)->j.wp P (w2 i m) a w->j.wp P (w2 n m) a w :=
  fun h O=>fun s o r=>let ⟨k,e,d,q,H⟩:=O s o r;⟨k,e,d,Vg h k e d q,H⟩
 have F:∀l b a w,μ b a w=l->i b a w->(p b).wp P (w2 (fun c e d=>i c e d/\μ c e d<l) m) a w:=by
  intro l;induction l using Nat.strongRecOn with
  | _ l B=>intro b a w A t;subst A;exact I b a w t _ (fun c e d y u=>⟨y,u⟩) (fun c e d y u=>D (fun S Q R M=>⟨M.1,by omega⟩) (B _ u c e d rfl y))
 have K:=first i (fun _ _ _ h=>h) (fun b a w t=>D (fun _ _ _ h=>h.1) (F _ b a w rfl t))
 intro s o r;have L:∀l b a w,μ b a w=l->i b a w->∃k e d,m k e d/\Arrives P (lone (s.at a (.code (Code.seq .skip (p b))::.inScope j::o)) r w) s o r k e d:=by
  intro l;induction l using Nat.strongRecOn with
  | _ l B =>
   intro b a w A t;obtain⟨k,a₁,w₁,f,g⟩:=(wp_seq (wp_skip (F l b a w A t)):(Code.seq .skip (p b)).wp P (w2 (fun c e d=>i c e d/\μ c e d<l) m) a w) s (.inScope j::o) r;cases k with
   | normal=>exact⟨.normal,a₁,w₁,f,Steps.trans g (.one step_inScope)⟩
   | exit id=>exact⟨.exit id,a₁,w₁,f,fun z x=>g z (by simp[exitTo,x])⟩
   | goto c =>
    obtain⟨C,G⟩:=f;obtain⟨k₂,a₂,w₂,f₂,g₂⟩:=B _ G c a₁ w₁ rfl C;have v:gotoIn c (.inScope j::o)=some (.code (Code.seq .skip (p c))::.inScope j::o):=by simp[gotoIn,E c a₁ w₁ C]
    exact⟨k₂,a₂,w₂,f₂,.of_steps (g _ v) g₂⟩
   | ret=>exact⟨_,a₁,w₁,f,g⟩
   | panic J=>exact⟨_,a₁,w₁,f,g⟩
   | outgrown=>exact⟨_,a₁,w₁,f,g⟩
 obtain⟨k,a₁,w₁,f,g⟩:=K s (.inScope j::o) r;cases k with
 | normal=>exact⟨.normal,a₁,w₁,f,.head step_scope (Steps.trans g (.one step_inScope))⟩
 | exit id=>exact⟨.exit id,a₁,w₁,f,fun z x=>.head step_scope (g z (by simp[exitTo,x]))⟩
 | goto c =>
  obtain⟨k₂,a₂,w₂,f₂,g₂⟩:=L _ c a₁ w₁ rfl f;have v:gotoIn c (.inScope j::o)=some (.code (Code.seq .skip (p c))::.inScope j::o):=by simp[gotoIn,E c a₁ w₁ f]
  exact⟨k₂,a₂,w₂,f₂,.of_steps (.head step_scope (g _ v)) g₂⟩
 | ret=>exact⟨_,a₁,w₁,f,.of_steps (.one step_scope) g⟩
 | panic J=>exact⟨_,a₁,w₁,f,.of_steps (.one step_scope) g⟩
 | outgrown=>exact⟨_,a₁,w₁,f,.of_steps (.one step_scope) g⟩
theorem WV {P:Program} {aB:Act} {w:World} {e:Exit->Act->World->Prop} {n o j:Code} (d f:Nat) (fO:d≠f) (k m:Act->World->Prop) (μ0 μ1:Act->World->Nat)
 (wL:findLabel n d=some (Code.seq .skip o)) (fX:findLabel n f=some (Code.seq .skip j))
 (t:∀aB w,k aB w->∀c:Nat->Act->World->Prop,(∀b a,k b a->μ0 b a<μ0 aB w->c d b a)->(∀b a,m b a->μ1 b a<μ0 aB w->j.wp P (w2 c e) b a)->o.wp P (w2 c e) aB w)
 (r:∀aB w,m aB w->∀c:Nat->Act->World->Prop,(∀b a,m b a->μ1 b a<μ1 aB w->c f b a)->j.wp P (w2 c e) aB w)
 (first:∀c:Nat->Act->World->Prop,(∀aB w,k aB w->o.wp P (w2 c e) aB w)->n.wp P (w2 c e) aB w):(Code.scope n).wp P e aB w:=by
 refine NJ (fun l aB w=>(l=d/\k aB w)\/(l=f/\m aB w)) (fun l aB w=>if l=d then μ0 aB w else μ1 aB w) (fun l=>if l=d then o else j) ?_ ?_ ?_;·exact OW
 ·intro l aB w J c p s;rcases J with⟨rfl,J⟩ | ⟨rfl,J⟩;·rw[if_pos rfl];refine t aB w J c (fun b a i g=>p _ b a (.inl ⟨rfl,i⟩) (ss g)) (fun b a i g=>?_);have:=s f b a (.inr ⟨rfl,i⟩) (by rw[if_neg (Ne.symm fO),if_pos rfl];exact g);rwa [if_neg (Ne.symm fO)]at this
  ·rw[if_neg (Ne.symm fO)];exact r aB w J c (fun b a i g=>p _ b a (.inr ⟨rfl,i⟩) (by rw[if_neg (Ne.symm fO),if_neg (Ne.symm fO)];exact g))
 ·intro c J u;refine first c (fun aB w h=>?_)
  have:=u d aB w (.inl ⟨rfl,h⟩);rwa [if_pos rfl]at this
theorem D9 (w:World) (a:TypeId) {b:Nat}:(w.alloc (.cells #[] a)).ownsRow w.heap.size a b (sL w.heap.size 0 0 0) 0 [] :=
 World.ownsRow_made w #[] 0 (nr _) (by simp[maxLen]) Is
section
variable {P:Program} (w:World)
theorem Xy (I:Nat) (e n l:TypeId) (f:TypeInfo) (t) (x F:Nat) (p:P.underlying e=some (.slice l)) (r:P.info? l=some f) (C:f.zero=some t)
 (H:f.size=x) (R:f.bytes=F) (v:Value) (b:Nat) (A:List Value) (s:w.ownsRow I l x v b A)
 (k:Addr) (a o:Nat) (c:List Value) (cx:c.length=a*x) (z:∀m i,c[m]?=some i->w.cell? (k.add m)=some i) (L:∀i∈c,i.oneCell'=true)
 (O:b+a<=maxLen) (E:(b+a)*F<=140737488355328) {u:Value} {G:World} (d:(Builtin.append_ #[e,e] n #[v,.slice (some k) a o]).run P w=.ok u G) :
 u.ownBlock=v.ownBlock\/u.ownBlock=some w.heap.size:=by
 subst H;subst R;have V:b+a<=9223372036854775807:=by simp only[maxLen]at O;omega
 rcases s.2 with⟨rfl,rfl⟩ | ⟨g,y,D,rfl,X,K,Y,W,S,Z⟩
 ·by_cases T:a=0
  ·subst T;obtain rfl:c=[]:=List.eq_nil_of_length_eq_zero Hw;have j:(Builtin.append_ #[e,e] n #[sZ,.slice (some k) 0 o]).run P w=.ok (sZ) w:=by simp[Builtin.append_,run_underlying p,sizeOf,typeInfo,r,Builtin.lenOf,Builtin.firstCells,loadCells,loadCellsFrom]
   rw[j]at d;cases d;exact .inl rfl
  ·have j:=run_append_nil (P:=P) w e n l f t p r C k a o c cx z om om (by have J:=E;simp only[Nat.zero_add]at J;omega);rw[j]at d;cases d;exact .inr rfl
 ·by_cases B:b+a<=y
  ·have Q:b*f.size+c.length<=D.size:=by rw[cx,S,<-Nat.add_mul];exact Nat.mul_le_mul_right _ B
   have j:=run_append_room (P:=P) w e n l f p r g b y D K k a o c cx z L B Q;rw[j]at d;cases d;exact .inl rfl
  ·have M:∀m i,A[m]?=some i->w.cell? (((Ad g 0):Addr).add m)=some i:=s.cells (g:=g) rfl;have j:=run_append_grow (P:=P) w e n l f t p r C (Ad g 0) b y A s.1 M k a o c cx z om om (growslice_fits om E);rw[j]at d;cases d;exact .inr rfl
theorem LI {l:Oper} {r:Act} {z:Act->World->Prop} {O:Exit->Act->World->Prop} (M D:Operand) (n:TypeId)
 (eD:l.op=.call { callee:=.builtin .append,args:=#[M,D],argTypes:=#[n,n] })
 (m:Nat) (i:TypeId) (g:TypeInfo) (o:Value) (a v:Nat) (B:P.underlying n=some (.slice i)) (L:P.info? i=some g) (G:g.zero=some o)
 (A:g.size=a) (H:g.bytes=v) (W:o.cells.size=a) (T:0<a)
 (d) (e:Nat) (t:List Value) (ck:r.eval M=d) (y:w.ownsRow m i a d e t)
 (s:Addr) (b x:Nat) (f:List Value) (aj:r.eval D=.slice (some s) b x) (J:f.length=b*a) (I:∀C u,f[C]?=some u->w.cell? (s.add C)=some u) (E:∀u∈f,u.oneCell'=true)
 (F:e+b<=maxLen) (K:(e+b)*v<=140737488355328) (R:m<=w.heap.size)
 (h:∀c j,j.ownsRow m i a c (e+b) (t++f)->w.grownBy j d.ownBlock->(c.ownBlock=d.ownBlock\/c.ownBlock=some w.heap.size)->z (r.put l.dst c) j):l.wp P r w z O:=by
 obtain⟨c,j,a9,Q,V,_⟩:=run_append_own (P:=P) w m n l.type i g o a v B L G A H W T d e t y s b x f J I E F K R;have S:=Xy w m n l.type i g o a v B L G A H d e t y s b x f J I E F K a9;refine Lx ?_;show _;exact h c j Q V S
theorem BS {z:Array Oper} {rest:List Oper} {l:Oper} {k:Act} {x:Exit->Act->World->Prop} (B:l.guard=none) (u r:Operand) (o:TypeId)
 (O:l.op=.call { callee:=.builtin .append,args:=#[u,r],argTypes:=#[o,o] })
 (m:Nat) (j:TypeId) (i:TypeInfo) (p:Value) (a v:Nat) (F:P.underlying o=some (.slice j)) (X:P.info? j=some i) (L:i.zero=some p)
 (D:i.size=a) (Q:i.bytes=v) (Z:p.cells.size=a) (M:0<a)
 (e) (f:Nat) (t:List Value) (W:k.eval u=e) (C:w.ownsRow m j a e f t)
 (s:Addr) (c A:Nat) (g:List Value) (Y:k.eval r=.slice (some s) c A) (R:g.length=c*a) (S:∀y n,g[y]?=some n->w.cell? (s.add y)=some n) (I:∀n∈g,n.oneCell'=true)
 (K:f+c<=maxLen) (T:(f+c)*v<=140737488355328) (G:m<=w.heap.size)
 (h:∀b d,d.ownsRow m j a b (f+c) (t++g)->w.grownBy d e.ownBlock->(b.ownBlock=e.ownBlock\/b.ownBlock=some w.heap.size)->wpList P z x rest (k.put l.dst b) d):wpList P z x (l::rest) k w :=
 wpList_plain B fun _ J=>LI w u r o O m j i p a v F X L D Q Z M e f t W C s c A g Y R S I K T G fun b d E V H=>J _ _ (h b d E V H)
theorem Q8 {n:Oper} {m:Act} {C:Act->World->Prop} {G:Exit->Act->World->Prop} (z y:Operand) (l:TypeId)
 (eD:n.op=.call { callee:=.builtin .append,args:=#[z,y],argTypes:=#[l,l] })
 (i:Nat) (g:TypeId) (f:TypeInfo) (u:Value) (a B:Nat) (D:P.underlying l=some (.slice g)) (F:P.info? g=some f) (M:f.zero=some u)
 (H:f.size=a) (Q:f.bytes=B) (T:u.cells.size=a) (O:0<a)
 (c) (d:Nat) (r:List Value) (ck:m.eval z=c) (t:w.ownsRow i g a c d r)
 (o:Option Addr) (b A:Nat) (e:List Value) (aj:m.eval y=.slice o b A) (cx:e.length=b*a) (I:o=none->b=0/\A=0) (R:∀j,o=some j->∀E s,e[E]?=some s->w.cell? (j.add E)=some s) (K:∀s∈e,s.oneCell'=true)
 (L:d+b<=maxLen) (S:(d+b)*B<=140737488355328) (J:i<=w.heap.size)
 (h:∀x v,v.ownsRow i g a x (d+b) (r++e)->w.grownBy v c.ownBlock->(x=sZ↔c=sZ/\b=0)->C (m.put n.dst x) v):n.wp P m w C G:=by
 cases o with
 | some j=>exact wp_append_own w z y l eD i g f u a B D F M H Q T O c d r ck t j b A e aj cx (R j rfl) K L S J h
 | none=>obtain⟨rfl,rfl⟩:=I rfl;obtain rfl:e=[]:=List.eq_nil_of_length_eq_zero Hw;have a9:=run_append_owned_none (P:=P) w i l n.type g f a D F c d r t;refine Lx ?_;show _;exact h c w (ss t) (World.grownBy.refl _ _) Is
theorem Ba {B:Array Oper} {rest:List Oper} {l:Oper} {k:Act} {y:Exit->Act->World->Prop} (C:l.guard=none) (u s:Operand) (p:TypeId)
 (R:l.op=.call { callee:=.builtin .append,args:=#[u,s],argTypes:=#[p,p] })
 (m:Nat) (j:TypeId) (i:TypeInfo) (r:Value) (b x:Nat) (G:P.underlying p=some (.slice j)) (Z:P.info? j=some i) (O:i.zero=some r)
 (E:i.size=b) (S:i.bytes=x) (ab:r.cells.size=b) (Q:0<b)
 (e) (f:Nat) (t:List Value) (Y:k.eval u=e) (D:w.ownsRow m j b e f t)
 (n:Option Addr) (a v:Nat) (g:List Value) (aa:k.eval s=.slice n a v) (T:g.length=a*b) (H:n=none->a=0/\v=0) (V:∀A,n=some A->∀z o,g[z]?=some o->w.cell? (A.add z)=some o) (K:∀o∈g,o.oneCell'=true)
 (M:f+a<=maxLen) (W:(f+a)*x<=140737488355328) (I:m<=w.heap.size)
 (h:∀d c,c.ownsRow m j b d (f+a) (t++g)->w.grownBy c e.ownBlock->(d=sZ↔e=sZ/\a=0)->wpList P B y rest (k.put l.dst d) c):wpList P B y (l::rest) k w :=
 wpList_plain C fun _ L=>Q8 w u s p R m j i r b x G Z O E S ab Q e f t Y D n a v g aa T H V K M W I fun d c F X J=>L _ _ (h d c F X J)
theorem EF {l3:Array Oper} {ae:Oper} {aB:Act} {y:Act->World->Prop} {C:Exit->Act->World->Prop} {Q:Prop} (nN:ae.guard=none) (u s:Operand) (m:TypeId)
 (L:ae.op=.call { callee:=.builtin .append,args:=#[u,s],argTypes:=#[m,m] })
 (i:Nat) (g:TypeId) (f:TypeInfo) (n:Value) (b x:Nat) (E:P.underlying m=some (.slice g)) (V:P.info? g=some f) (J:f.zero=some n)
 (D:f.size=b) (M:f.bytes=x) (X:n.cells.size=b) (K:0<b)
 (c) (d:Nat) (t:List Value) (T:aB.eval u=c) (B:w.ownsRow i g b c d t)
 (j:Option Addr) (a v:Nat) (e:List Value) (W:aB.eval s=.slice j a v) (R:e.length=a*b) (F:j=none->a=0/\v=0) (O:∀A,j=some A->∀z l,e[z]?=some l->w.cell? (A.add z)=some l) (H:∀l∈e,l.oneCell'=true)
 (I:d+a<=maxLen) (S:(d+a)*x<=140737488355328) (G:i<=w.heap.size)
 (h:∀r o,o.ownsRow i g b r (d+a) (t++e)->w.grownBy o c.ownBlock->(r=sZ↔c=sZ/\a=0)->y (aB.put ae.dst r) o) :
 if Region.wanted ae (yielded l3 aB.tmps)=true then Oper.wp P ae aB w y C else Q:=by
 refine Og ?_;intro lO;exact Q8 w u s m L i g f n b x E V J D M X K c d t T B j a v e W R F O H I S G h
end
def h7 (w:World) (g:Value) (a:List (Int×Bool)):Prop :=
 ∃d c,g=.slice d a.length c/\a.length<=c/\(c<=maxLen/\(d=none->c=0)) /\
  (a≠[]->∃e f,d=some (Ad e f)/\∀b,b<a.length->w.cell? (Ad e (f+b*2))=some (iV (a.getD b (0,false)).1)/\w.cell? (Ad e (f+b*2+1))=some (.bool (a.getD b (0,false)).2))
theorem h7.B {w a:World} {d:Value} {c:List (Int×Bool)} (h:h7 w d c) (au:BW w a):h7 a d c:=by exact OU
theorem h7.get {w:World} {f:Option Addr} {k l:Nat} {d:List (Int×Bool)} (h:h7 w (.slice f k l) d) {i:Nat} (c:i<d.length) :
 ∃a b e g,f=some (Ad a b)/\w.cell? (Ad a (b+i*2))=some (iV e)/\w.cell? (Ad a (b+i*2+1))=some (.bool g)/\Hd (d.getD i (0,false)=(e,g)):=by
 obtain⟨p,s,n,r,o,m⟩:=h;cases n;obtain⟨a,b,rfl,j⟩:=m (by intro h;rw[h]at c;simp at c);exact⟨a,b,_,_,rfl,(j i c).1,(j i c).2,rfl⟩
def h0 (a b c:Int):Bool:=decide (b<=a) && decide (a<=c)
theorem WS (ak aB b:Int) (w):Calls prog 53 #[iV ak,iV aB,iV b] w (h3 (.bool (h0 ak aB b)) w):=by go_enter func53,ntmps53;exact Qr
theorem CX {c b a:Int} {d:Bool} (h:h0 c b a=d) (w):Calls prog 53 #[iV c,iV b,iV a] w (h3 (.bool d) w):=by rw[<-h];exact WS c b a w
end Go.Proofs.YtkongpjpkpfniaaGreat

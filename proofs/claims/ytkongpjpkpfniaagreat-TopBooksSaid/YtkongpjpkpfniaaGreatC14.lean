/- TopBooks, a part. -/
import Derived.Laws.ResultCell
import Derived.Deep.MidRow
import Derived.Laws.CopyOwn
import Derived.Test.YtkongpjpkpfniaaGreatC13
set_option linter.unusedVariables false
set_option linter.unusedSimpArgs false
set_option maxRecDepth 100000
set_option maxHeartbeats 6400000
namespace Go.Proofs.YtkongpjpkpfniaaGreat
open Go.RowKit Go.Proofs.Tryz
variable {I:AV} {A:i0} {a aB:Act} {J:Act->World->Prop} {Q:Exit->Act->World->Prop} {F G:List Nat} {l:List R5} {C X:List Value} {M dI g i j k m n:Nat} {O:Oper} {p q:Prop} {e:TypeId} {V u v:Value} {W Y w:World}
theorem HU (h:q:=by refine bodyPost_ret (v:=.agg #[iV bt,iV bu,iV cd,iV dw,iV cO,ai,iV dd,iV b2,dx,dy,iV dz,iV dA,iV dB,iV dC,iV dD,dE,iV dF,iV bl,iV dG,.bool aE]) (results_cell_row (p:=4) (ty:=45) rfl _ _ (w.heap.size+1) 45 _ (0,0) _ rfl (setRow_heap _ _ _ _ _ _ bI.o) underlying45 rfl RQ) rfl ⟨_,rfl,iw.o,CN fM.o ia.o (fun x aj=>jG.o x (mo _ aj)) (jG.o _ (me ..)) gM.o hI.o om _⟩):q:=h
theorem HO (h:q:=by
 refine ac.out _ _ kd ?_;clear ac a4;try simp only[ap,aq,sa,sb,sc]
 refine r4 kr ?_ _;go_wp2_with fail;refine bodyPost_ret (v:=.agg #[iV bt,iV bu,iV cd,iV dw,iV cO,ai,iV dd,iV b2,dx,dy,iV dz,iV dA,iV dB,iV dC,iV dD,dE,iV dF,iV bl,iV dG,.bool aE]) (results_cell_row (p:=4) (ty:=45) rfl _ _ (w.heap.size+1) 45 _ (0,0) _ rfl (setRow_heap _ _ _ _ _ _ bI.o) underlying45 rfl RQ) rfl ⟨_,rfl,iw.o,CN fM.o ia.o (fun x aj=>mo _ aj) (me ..) gM.o hI.o om _⟩):q:=h
theorem N5 {l3:Array Oper} {ae:Oper} {m:Prop} (nN:ae.guard=none) (e f:Operand) (g:ae.op=.store 45 e f)
 (d:ae.dst=none) (b:Nat) (a:Array Value) (r:aB.eval e=pV b) (n:aB.eval f=.agg a) (c:Array Value) (j:w.heap[b]?=some (.cells c 45 (0,0))) (i:a.size=20) (o:c.size=20)
 (l:a.all (·.oneCell')=true) (h:J aB (w.setRow b a)):if Region.wanted ae (yielded l3 aB.tmps)=true then Oper.wp prog ae aB w J Q else m:=by
 refine Og ?_;intro lO;obtain⟨v,s,u,x,y,t⟩:=ae;simp only at g d nN;subst g;subst d;unfold Oper.wp execOp;simp only[r,n,Instr.storeAt,Instr.sureAddr,Sem.run_bind,Sem.run_pure,Result.andThen_ok,run_storeVar_row w b 45 45 c a j (by rw[En,i]) (by rw[i,o]) l];exact h
theorem KE (I g:Nat) (aa:i0) (ar:t0 aa) (ae:aa.seq<=99999) (aZ:List Nat) (l:AV) (a1:R5) (V:i0) (bt:Int) (P:Hd (A3 aa a1=(V,bt))) (w:World) (h:i2 I g aa aZ w l) :
 Calls prog 10 #[pV g,.agg #[iV a1.a,iV a1.b,iV a1.c,iV a1.d,iV a1.e]] w (KG bt I g V aZ w):=by
 have m:=lh ar;have ay:=lh ae;obtain⟨o,am,e8,j,mX,nJ,eb⟩:∃z,((w.alloc (.cells #[iV a1.a,iV a1.b,iV a1.c,iV a1.d,iV a1.e] 48)).alloc (.cells zA.toArray 45))=z/\Hd (i2 I g aa ((w.heap.size+1)::aZ) z l)/\Hd (hA z w.heap.size 48 [iV a1.a,iV a1.b,iV a1.c,iV a1.d,iV a1.e])/\Hd (hA z (w.heap.size+1) 45 zA)/\Hd (hT aZ w ((w.heap.size+1)::aZ) z)/\Hd (BW w z) :=
  ⟨_,rfl,h.more (hB (hB bR _) _) om M3,(hR w _ _ _ rfl).B (hB bR _),w3 _ _ _ _ (wa _ _),⟨((hC.refl _ _).alloc _).alloc _,fun x aj=>by
   rcases mc.1 aj with rfl | aj;·exact .inr om
   ·exact .inl aj⟩,hB (hB bR _) _⟩
 clear h ar ae;go_enter func10,ntmps10;go_upto_region 1 with fail;try with_reducible rw[am]
 clear am;obtain⟨F,C,v,y,H,-⟩:=j.cS [0,1,2,3,4];have A:=j.lt;by_cases f:a1.a=8
 ·have aC:(a1.a == 8)=true:=ss f;have c:=P.o;unfold A3 at c;rw[if_pos f]at c;have a2:=lh c;clear c f;go_wp2_with fail;refine(X0 I g aa m.o (oo ay.o) ((w.heap.size+1)::aZ) l a1.b V bt a2 _ e8.o).mono ?_;refine ST ?_;clear F C v y H A;unhygienic intros
  obtain⟨bu,cd,dw,cO,ai,dd,b2,dx,dy,dz,dA,dB,dC,dD,dE,dF,bl,dG,aE,rfl,gG,gH,gI,gJ⟩:=l7;refine De ?_;intro bO gy;refine Ln ?_;intro iw;have bI:Hd (dq.heap[w.heap.size+1]?=some (.cells zA.toArray 45 (0,0))):=gM.o;clear gG gH gI gJ
  go_wp2_with (with_reducible refine BD rfl (.tmp 4) (.tmp 15) rfl rfl (w.heap.size+1) #[iV bt,iV bu,iV cd,iV dw,iV cO,ai,iV dd,iV b2,dx,dy,iV dz,iV dA,iV dB,iV dC,iV dD,dE,iV dF,iV bl,iV dG,.bool aE] rfl rfl _ bI.o rfl rfl gy.o ?_)
  exact HU
 have aC:(a1.a == 8)=false:=ss f;by_cases e:a1.a=9
 ·have a0:(a1.a == 9)=true:=ss e;have c:=P.o;unfold A3 at c;rw[if_neg f,if_pos e]at c;simp only[Prod.mk.injEq]at c;obtain⟨rfl,rfl⟩:=c;clear f e;go_wp2_with fail;refine(Lv I g aa m.o ((w.heap.size+1)::aZ) l _ e8.o).mono ?_;clear F C v y H A;rintro _ dq ⟨cO,J,D,L,rfl,an,al,aw,_,cm⟩;have B:=lh (An (show t3 J from an.shape.elim fun a h=>h.elim fun b h=>⟨_,_,_,h⟩) (An (show t3 D from al.shape.elim fun a h=>h.elim fun b h=>⟨_,_,_,h⟩) aw));have gy:Hd ((#[iZ,iZ,iZ,iV aa.today,iV cO,J,iV aa.R.p.c,iV aa.R.p.d,D,L,iV aa.seq,iZ,iZ,iZ,iZ,sZ,iZ,iZ,iZ,.bool false]:Array Value).all (·.oneCell')=true):=(HC B.1 B.2.1 B.2.2 (EC _ _ _));have iw:Hd (Cc 0 (.agg #[iZ,iZ,iZ,iV aa.today,iV cO,J,iV aa.R.p.c,iV aa.R.p.d,D,L,iV aa.seq,iZ,iZ,iZ,iZ,sZ,iZ,iZ,iZ,.bool false])):=⟨0,0,aa.today,cO,J,aa.R.p.c,aa.R.p.d,D,L,aa.seq,0,0,0,0,_,0,0,0,false,rfl,B.1,B.2.1,B.2.2,EC _ _ _⟩;refine CG ?_;intro fM ia hI gM;have bI:Hd (dq.heap[w.heap.size+1]?=some (.cells zA.toArray 45 (0,0))):=gM.o;clear cm an al aw
  go_wp2_with (with_reducible refine BD rfl (.tmp 4) (.tmp 20) rfl rfl (w.heap.size+1) #[iZ,iZ,iZ,iV aa.today,iV cO,J,iV aa.R.p.c,iV aa.R.p.d,D,L,iV aa.seq,iZ,iZ,iZ,iZ,sZ,iZ,iZ,iZ,.bool false] rfl rfl _ bI.o rfl rfl gy.o ?_)
  refine bodyPost_ret (v:=.agg #[iZ,iZ,iZ,iV aa.today,iV cO,J,iV aa.R.p.c,iV aa.R.p.d,D,L,iV aa.seq,iZ,iZ,iZ,iZ,sZ,iZ,iZ,iZ,.bool false]) (results_cell_row (p:=4) (ty:=45) rfl _ _ (w.heap.size+1) 45 _ (0,0) _ rfl (setRow_heap _ _ _ _ _ _ bI.o) underlying45 rfl RQ) rfl ⟨_,rfl,iw.o,CN fM.o ia.o (fun x aj=>mo _ aj) (me ..) gM.o hI.o om _⟩
 have a0:(a1.a == 9)=false:=ss e;by_cases a6:a1.a=10
 ·have a8:(a1.a == 10)=true:=ss a6;have c:=P.o;unfold A3 at c;rw[if_neg f,if_neg e,if_pos a6]at c;simp only[Prod.mk.injEq]at c;obtain⟨rfl,R⟩:=c;have Z:=lh R;obtain⟨u,s,t⟩:=(w8.of_own e8.iss e8.rd.now.2.2.2.2.2.2).shape;obtain⟨r,K⟩:=xg aa.iss.length;rw[K]at t;have O:=lh t;have T:Hd (aa.iss.length<=300/\∀S,S<aa.iss.length->(aa.iss.getD S q2).ls.length<=1000):=⟨by have ao:=m.issl;have ag:=m.outl;omega,m.issb⟩;have Y:Hd (∀d,BW o d->s4 d (.slice u r s) aa.iss l.ivs):=fun d i=>by
   have q:=e8.B i;rw[<-O.o];exact⟨q.rd.now.2.2.2.2.2.2,Fl.of_own q.iss q.rd.now.2.2.2.2.2.2.one⟩
  clear f e a6 t R K;have Q:Hd (∀d,BW o d->Ce d g 16 (.slice u r s)/\Ce d w.heap.size 4 (iV a1.e)):=fun d i=>by have q:=e8.blk.B i;have ad:=j.B i;exact⟨by rw[<-O.o];exact q.cell 16,ad.cell 4⟩
  have a5:=Q.o o.drew (hG bR);go_upto_region 9 with fail;refine se (fun d=>Ce d g 16 (.slice u r s)/\Ce d w.heap.size 4 (iV a1.e)) 7 kr ?_;refine Ck ?_;show _;refine tK 5 rfl ?_;refine wo 6 kr rfl fun a4 ac=>?_;go_simp;refine(M5 _ aa.iss l.ivs a1.e (oo T.1) (lh T.2) bt Z _ (Y.o _ (hG bR))).mono ?_;rintro _ dq ⟨ak,rfl,l7,M⟩;have cm:BW o dq:=hJ (hG bR) M;have X:=Q.o dq cm;refine CG ?_;intro fM ia hI gM;obtain⟨bu,cd,dw,cO,ai,dd,b2,dx,dy,dz,dA,dB,dC,dD,dE,dF,bl,dG,aE,rfl,gG,gH,gI,gJ⟩:=l7;refine De ?_;intro bO gy;refine Sr ?_;intro iw;have bI:Hd (dq.heap[w.heap.size+1]?=some (.cells zA.toArray 45 (0,0))):=gM.o;clear gG gH gI gJ cm M;refine ac.out _ _ (fun hun=>X) ?_;clear ac a4;try simp only[ap,aq,sa,sb,sc]
  refine wo 7 kr rfl fun a4 ac=>?_;refine N5 rfl (.tmp 4) (.tmp 29) rfl rfl (w.heap.size+1) #[iV bt,iV bu,iV cd,iV dw,iV cO,ai,iV dd,iV b2,dx,dy,iV dz,iV dA,iV dB,iV dC,iV dD,dE,iV dF,iV bl,iV dG,.bool aE] rfl rfl _ bI.o rfl rfl gy.o ?_;exact HO
 have a8:(a1.a == 10)=false:=ss a6;by_cases E:a1.a=11
 ·have a7:(a1.a == 11)=true:=ss E;have c:=P.o;unfold A3 at c;rw[if_neg f,if_neg e,if_neg a6,if_pos E]at c;simp only[Prod.mk.injEq]at c;obtain⟨rfl,R⟩:=c;have Z:=lh R;obtain⟨u,s,t⟩:=e8.rd.now.2.2.2.2.2.1.2.shape;obtain⟨r,K⟩:=xg aa.R.o.length;rw[K]at t;have O:=lh t;have T:Hd (aa.R.o.length<=300/\∀S,S<aa.R.o.length->(aa.R.o.getD S q2).ls.length<=1000):=⟨m.outl,m.outb⟩;have Y:Hd (∀d,BW o d->s4 d (.slice u r s) aa.R.o l.nvs):=fun d i=>by
   have q:=e8.B i;rw[<-O.o];exact q.rd.now.2.2.2.2.2.1
  clear f e a6 E t R K;have Q:Hd (∀d,BW o d->Ce d g 15 (.slice u r s)/\Ce d w.heap.size 4 (iV a1.e)):=fun d i=>by have q:=e8.blk.B i;have ad:=j.B i;exact⟨by rw[<-O.o];exact q.cell 15,ad.cell 4⟩
  have a5:=Q.o o.drew (hG bR);go_upto_region 11 with fail;refine se (fun d=>Ce d g 15 (.slice u r s)/\Ce d w.heap.size 4 (iV a1.e)) 7 kr ?_;refine Ck ?_;show _;refine tK 5 rfl ?_;refine wo 6 kr rfl fun a4 ac=>?_;go_simp;refine(M5 _ aa.R.o l.nvs a1.e (oo T.1) (lh T.2) bt Z _ (Y.o _ (hG bR))).mono ?_;rintro _ dq ⟨ak,rfl,l7,M⟩;have cm:BW o dq:=hJ (hG bR) M;have X:=Q.o dq cm;refine CG ?_;intro fM ia hI gM;obtain⟨bu,cd,dw,cO,ai,dd,b2,dx,dy,dz,dA,dB,dC,dD,dE,dF,bl,dG,aE,rfl,gG,gH,gI,gJ⟩:=l7;refine De ?_;intro bO gy;refine Sr ?_;intro iw;have bI:Hd (dq.heap[w.heap.size+1]?=some (.cells zA.toArray 45 (0,0))):=gM.o;clear gG gH gI gJ cm M;refine ac.out _ _ (fun hun=>X) ?_;clear ac a4;try simp only[ap,aq,sa,sb,sc]
  refine wo 7 kr rfl fun a4 ac=>?_;refine N5 rfl (.tmp 4) (.tmp 38) rfl rfl (w.heap.size+1) #[iV bt,iV bu,iV cd,iV dw,iV cO,ai,iV dd,iV b2,dx,dy,iV dz,iV dA,iV dB,iV dC,iV dD,dE,iV dF,iV bl,iV dG,.bool aE] rfl rfl _ bI.o rfl rfl gy.o ?_;exact HO
 have a7:(a1.a == 11)=false:=ss E;have c:=P.o;unfold A3 at c;rw[if_neg f,if_neg e,if_neg a6,if_neg E]at c;obtain⟨W,ab⟩:=xg (C2 a1.a);have af:=lh ab;rw[ab]at c;have au:=lh c;have a9:=lh f;clear c f e a6 E ab;go_wp2_with fail;refine(PV a1 _).mono ?_;rintro _ aB ⟨rfl,G⟩;rw[af.o];have fM:=lh (e8.B G);have av:=lh (j.B G);have ah:=lh (mX.B G);have ax:=lh (hT.B nJ.o G);have az:Hd (BW w aB):=hJ eb.o G;clear G F C v y H A e8 j mX nJ eb;have e8:=fM;have j:=av;have mX:=ah;have nJ:=ax;have eb:=az;clear fM av ah ax az;obtain⟨F,C,v,y,H,-⟩:=j.cS [0,1,2,3,4];have A:=j.lt;cases W with
 | false =>
  have e:=au.o;rw[if_pos rfl]at e;simp only[Prod.mk.injEq]at e;obtain⟨rfl,rfl⟩:=e;go_wp2_with fail;refine(EY 1 _).mono ?_;clear F C v y H A;rintro _ dq ⟨rfl,cm⟩;have l7:Cc 1 (z2 1):=EX 1;revert l7;generalize z2 1=ak;intro l7;refine CG ?_;intro fM ia hI gM;clear cm;obtain⟨bu,cd,dw,cO,ai,dd,b2,dx,dy,dz,dA,dB,dC,dD,dE,dF,bl,dG,aE,rfl,gG,gH,gI,gJ⟩:=l7;have bO:=lh (An gG (An gH (An gI gJ)));have gy:Hd ((#[iV 1,iV bu,iV cd,iV dw,iV cO,ai,iV dd,iV b2,dx,dy,iV dz,iV dA,iV dB,iV dC,iV dD,dE,iV dF,iV bl,iV dG,.bool aE]:Array Value).all (·.oneCell')=true):=(HC bO.1 bO.2.1 bO.2.2.1 bO.2.2.2);have iw:Hd (Cc (1) (.agg #[iV 1,iV bu,iV cd,iV dw,iV cO,ai,iV dd,iV b2,dx,dy,iV dz,iV dA,iV dB,iV dC,iV dD,dE,iV dF,iV bl,iV dG,.bool aE])):=⟨bu,cd,dw,cO,ai,dd,b2,dx,dy,dz,dA,dB,dC,dD,dE,dF,bl,dG,aE,rfl,bO.1,bO.2.1,bO.2.2.1,bO.2.2.2⟩;have bI:Hd (dq.heap[w.heap.size+1]?=some (.cells zA.toArray 45 (0,0))):=gM.o;clear gG gH gI gJ
  go_wp2_with (with_reducible refine BD rfl (.tmp 4) (.tmp 42) rfl rfl (w.heap.size+1) #[iV 1,iV bu,iV cd,iV dw,iV cO,ai,iV dd,iV b2,dx,dy,iV dz,iV dA,iV dB,iV dC,iV dD,dE,iV dF,iV bl,iV dG,.bool aE] rfl rfl _ bI.o rfl rfl gy.o ?_)
  refine bodyPost_ret (v:=.agg #[iV 1,iV bu,iV cd,iV dw,iV cO,ai,iV dd,iV b2,dx,dy,iV dz,iV dA,iV dB,iV dC,iV dD,dE,iV dF,iV bl,iV dG,.bool aE]) (results_cell_row (p:=4) (ty:=45) rfl _ _ (w.heap.size+1) 45 _ (0,0) _ rfl (setRow_heap _ _ _ _ _ _ bI.o) underlying45 rfl RQ) rfl ⟨_,rfl,iw.o,CN fM.o ia.o (fun x aj=>mo _ aj) (me ..) gM.o hI.o om _⟩
 | true =>
  have e:=au.o;rw[if_neg (by simp)]at e;have a3:=lh e;have aA:Hd (1<=a1.a/\a1.a<=7):=by have ao:=af.o;have ag:=a9.o;simp[C2]at ao;show _/\_;omega
  clear e;go_wp2_with fail;refine(U3 I g aa m.o ay.o ((w.heap.size+1)::aZ) l a1 aA.o V bt a3 _ e8.o).mono ?_;refine ST ?_;clear F C v y H A;intro dq ak l7 gn kn fM ia jG hI gM;obtain⟨bu,cd,dw,cO,ai,dd,b2,dx,dy,dz,dA,dB,dC,dD,dE,dF,bl,dG,aE,rfl,gG,gH,gI,gJ⟩:=l7;refine De ?_;intro bO gy;refine Ln ?_;intro iw;have bI:Hd (dq.heap[w.heap.size+1]?=some (.cells zA.toArray 45 (0,0))):=gM.o;clear gG gH gI gJ
  go_wp2_with (with_reducible refine BD rfl (.tmp 4) (.tmp 45) rfl rfl (w.heap.size+1) #[iV bt,iV bu,iV cd,iV dw,iV cO,ai,iV dd,iV b2,dx,dy,iV dz,iV dA,iV dB,iV dC,iV dD,dE,iV dF,iV bl,iV dG,.bool aE] rfl rfl _ bI.o rfl rfl gy.o ?_)
  exact HU
theorem G1 (h:w.ownsRow n e m v k C):t3 v:=by
 obtain⟨_,⟨rfl,_⟩ | ⟨_,_,_,rfl,_⟩⟩:=h;·exact⟨_,_,_,rfl⟩
 ·exact⟨_,_,_,rfl⟩
def VR (a:R5) (w:World) (d:Ending) (c:World):Prop:=∃b,d=.returned b/\c.ownsRow w.heap.size 5 1 b (AX [] [a.a,a.b,a.c,a.d,a.e] 5).length ((AX [] [a.a,a.b,a.c,a.d,a.e] 5).map (Value.int .u8))/\BW w c
theorem VZ (a:R5) (w:World):Calls prog 62 #[.agg #[iV a.a,iV a.b,iV a.c,iV a.d,iV a.e]] w (VR a w):=by go_enter func62,ntmps62;go_wp2_with fail;refine(Jt _ _ [] [a.a,a.b,a.c,a.d,a.e] w.heap.size _ (World.ownsRow_nil _ _ _ _) (fun l c=>Sl.litG [a.a,a.b,a.c,a.d,a.e] 5 c rfl rfl Iv (wa _ _) (by simp[Value.ownBlock])) M3 Is).mono ?_;rintro _ k ⟨g,rfl,b,e,_⟩;obtain⟨m,i,f,rfl⟩:=G1 b;go_wp2_with fail;go_ret;exact⟨_,rfl,b,(hB (hB bR _) _).trans (bR.grown e M3 (fun j d=>by cases d))⟩
theorem m1.lowerB {a:Bk} (h:m1 w n k v a) (b:m<=n):m1 w m k v a:= ⟨nt b h.1,h.2.1,B1 h.2.2 b⟩
theorem i2.ones (h:i2 n m A F w I):(BI A I).toArray.all (·.oneCell')=true:=by obtain⟨_,_,d⟩:=h.rd.now.1.shape;obtain⟨_,_,b⟩:=h.rd.now.2.2.2.1.shape;obtain⟨_,_,g⟩:=h.rd.now.2.2.2.2.1.shape;obtain⟨_,_,c⟩:=h.rd.now.2.2.2.2.2.1.2.shape;obtain⟨_,_,_,e⟩:=G1 h.iss;obtain⟨_,_,_,_,f⟩:=h.adj;obtain⟨_,_,_,a⟩:=G1 f;simp[BI,d,b,g,c,e,a,Value.oneCell']
theorem L7:(prog.info? 89).map (·.size)=some 18:=by kernel_rfl
theorem YC (b:i0) (a:AV):(BI b a).toArray.size=18:=rfl
theorem WL {g:Array Oper} {rest:List Oper} (k:O.guard=none) (e f:Operand) (n:O.op=.store 89 e f)
 (j:O.dst=none) (c:Nat) (b:Array Value) (r:a.eval e=pV c) (o:a.eval f=.agg b) (d:Array Value) (l:w.heap[c]?=some (.cells d 89 (0,0))) (i:b.size=18) (p:d.size=18)
 (m:b.all (·.oneCell')=true) (h:wpList prog g Q rest a (w.setRow c b)):wpList prog g Q (O::rest) a w:=
 wpList_store_rowTo k 89 e f n j c b r o 89 d l (by rw[L7,i]) (by rw[i,p]) m h
def Nl (a:i0) (i:AV) (d k:Nat) (j:World) (b:World):Prop:=∃c e g f,hA b k 89 (BI a { i with gl:=c,lev:=e,gb:=g,dv:=f })/\qq b c a.t i.ltv e a.ev/\b.ownsRow d 150 5 e a.ev.length (k8 a.ev)/\d<=c/\m1 b d g f a.bk/\Below d j b
theorem Xn {b:TypeId} (d:W.ownsRow n e k v i C) (f:hA W m b X) (c:b≠e):hL [m] v:= fun o j l p g _ a=>by simp only[ms]at a;subst a g;exact hh d f c rfl
theorem J6 {f:Tm} (e:qq W n f v u l) (a:W.ownsRow m 150 5 u l.length (k8 l)) (b:hA W k 89 C) (i:hL [k] v) (c:hC [k] W Y):qq Y n f v u l/\Y.ownsRow m 150 5 u l.length (k8 l):=
 ⟨e.keep c (by simp only[ms];exact n3 e.1 b Iv) i (Xn a b Iv),p1 a c (fun q g d=>by
  simp only[ms]at d;subst d
  exact hh a b Iv g.symm)⟩
theorem LH {d:Bk} (a:m1 W m n v d) (e:hA W k 89 C) (c:hC [k] W Y):m1 Y m n v d:=
 ⟨a.1,a.2.1.keep c (by simp only[ms];exact n3 a.2.1 e Iv),p1 a.2.2 c (fun q f b=>by
  simp only[ms]at b;subst b
  exact hh a.2.2 e Iv f.symm)⟩
theorem Tu (k:hA W w.heap.size 89 (BI A I)) (d:BW w W) (b:BW W Y) (j:qq Y n A.t I.ltv v A.ev) (i:Y.ownsRow w.heap.size 150 5 v A.ev.length (k8 A.ev)) (hge:w.heap.size<=n) (e:m1 Y w.heap.size m u A.bk) (g:hL [w.heap.size] I.ltv) :
 Nl A I w.heap.size w.heap.size W ((Y.setCell (Ad w.heap.size 9) (pV n)).setCell (Ad w.heap.size 10) (pV m)):=by
 have a:hC [w.heap.size] Y ((Y.setCell (Ad w.heap.size 9) (pV n)).setCell (Ad w.heap.size 10) (pV m)):=((hC.refl _ _).sg _).sg _;have c:=k.B b;obtain⟨f,o⟩:=J6 j i c g a;exact⟨n,v,m,u,(c.set 9 _).set 10 _,f,o,hge,LH e c a,(b.mono d.size).trans (a.to_below (nt d.size b.size) (fun p l=>by simp only[ms]at l;omega))⟩
def Oh (b:i0) (i:List Nat) (w:World) (j:Ending) (a:World):Prop:=∃c e f,j=.returned (pV c)/\i2 w.heap.size c b e a f/\(∀d,(∀g∈d,g∈i)->Rd (d++e) a (EG b f))/\BW w a
theorem WG (h:i2 n m A F w I) {c:Value} (hge:w.heap.size<=k) (M:BW w W) (p:hA W w.heap.size 89 (BI A { I with gl:=k,lev:=v,gb:=i,dv:=u,iv:=V,av:=c }))
 (s:qq W k A.t I.ltv v A.ev) (x:W.ownsRow w.heap.size 150 5 v A.ev.length (k8 A.ev)) (e:m1 W w.heap.size i u A.bk)
 (o:W.ownsRow w.heap.size 43 9 V A.iss.length (n1 A.iss I.ivs)) (r:W.ownsRow w.heap.size 175 9 c j C) (P:j<=A.seq.toNat*400000) (l:∀L∈C,L.oneCell'=true) :
 Oh A F w (.returned (pV w.heap.size)) W:=by
 have K:∀a∈w.heap.size::(V.ownBlock.toList++c.ownBlock.toList),a=w.heap.size\/V.ownBlock=some a\/c.ownBlock=some a:=fun a d=>by simp only[mc,ma,tl]at d;exact d
 have E:∀a∈w.heap.size::(V.ownBlock.toList++c.ownBlock.toList),w.heap.size<=a/\a<W.heap.size:=fun a d=>by
  rcases K a d with rfl | b | b;·exact⟨nr _,p.lt⟩
  ·exact o.lt _ b
  ·exact r.lt _ b
 have J:∀g,(∀a∈g,a∈F)->Rd (g++(w.heap.size::(V.ownBlock.toList++c.ownBlock.toList))) W (EG A { I with gl:=k,lev:=v,gb:=i,dv:=u,iv:=V,av:=c }):=fun g H G t=>by
  have O:∀a∈g,a<w.heap.size:=fun a d=>(h.lt a (H a d)).2;have q:=h.rd G (((hC.of_below M:hC g w W).trans t (fun a d=>by
   rcases ma.1 d with l | l;·exact .inl l
   ·exact .inr (E a l).1)).mono H)
  have y:∀a,w.heap.size<=a->a∈g++(w.heap.size::(V.ownBlock.toList++c.ownBlock.toList))->a=w.heap.size\/V.ownBlock=some a\/c.ownBlock=some a:=fun a l d=>by
   rcases ma.1 d with B | B;·have:=O a B;omega
   ·exact K a B
  refine⟨q.1,⟨s.1.keep t (fun f=>?_),q.2.1.2.1,s.2.2.keep t (fun X S T L Q _ f=>?_)⟩,m1.rd e (fun f=>?_) (fun R z f=>?_) G t,q.2.2.2.1,q.2.2.2.2.1,q.2.2.2.2.2.1,q.2.2.2.2.2.2⟩
  ·rcases y _ hge f with b | b | b;·exact n3 s.1 p Iv b
   ·exact hh o s.1 Iv b.symm
   ·exact hh r s.1 Iv b.symm
  ·subst Q;rcases y _ (x.lt _ rfl).1 f with b | b | b;·subst b;exact hh x p Iv rfl
   ·exact DZ x o Iv rfl b
   ·exact DZ x r Iv rfl b
  ·rcases y _ e.1 f with b | b | b;·exact n3 e.2.1 p Iv b
   ·exact hh o e.2.1 Iv b.symm
   ·exact hh r e.2.1 Iv b.symm
  ·rcases y _ (e.2.2.lt _ z).1 f with b | b | b;·subst b;exact hh e.2.2 p Iv z.symm
   ·exact DZ e.2.2 o Iv z b
   ·exact DZ e.2.2 r Iv z b
 refine⟨_,w.heap.size::(V.ownBlock.toList++c.ownBlock.toList),_,rfl,⟨p,me ..,E,J [] (fun a d=>by cases d),o,fun q D=>?_,⟨j,C,P,l,r⟩,fun q D=>?_⟩,J,M⟩;·simp[D]
 ·simp[D]
theorem XZ (S d:Nat) (a:i0) (am:t0 a) (g:a.seq<=1000) (R:List Nat) (b:AV) (w:World) (h:i2 S d a R w b) :
 Calls prog 48 #[pV d] w (Oh a R w):=by
 have i:=lh h;have bl:=lh am;have aI:=lh g;have a':Hd (w.rangeAt d 0 (BI a b)):=fun j v aZ=>by rw[Nat.zero_add,h.blk.cell];exact aZ
 obtain⟨ac,a3,aC,s⟩:∃c,(w.alloc (.cells #[iZ,sZ,iZ,iZ,iZ,iZ,iZ,iZ,iZ,.pointer none,.pointer none,sZ,iZ,iZ,sZ,sZ,sZ,sZ] 89)).setRow w.heap.size (BI a b).toArray=c/\Hd (hA c w.heap.size 89 (BI a b))/\Hd (BW w c):=⟨_,rfl,D5 (hR w [iZ,sZ,iZ,iZ,iZ,iZ,iZ,iZ,iZ,.pointer none,.pointer none,sZ,iZ,iZ,sZ,sZ,sZ,sZ] _ _ rfl) _,Bd (hB bR _) (nr _) _⟩;have V:Hd (hL [w.heap.size] b.ltv):=Fl.offNew h.rd.now.2.1.2.1.fl om (fun x a8=>by simp only[ms]at a8;omega);clear h am g;go_enter func48,ntmps48;go_upto_region 4 with(first | (with_reducible refine wpList_load_mid rfl 89 (.tmp 7) rfl d 0 rfl (BI a b) _ a'.o underlying89 rfl (L7.trans rfl) ?_) | (with_reducible refine WL rfl (.tmp 3) (.tmp 8) rfl rfl w.heap.size (BI a b).toArray rfl rfl _ (heap_alloc_new _ _) (YC a b) rfl i.o.ones ?_))
 with_reducible rw[a3]
 clear a3;have L:Hd (i2 S d a R ac b):=i.o.B s.o;have W:Hd (∀l,BW ac l->Ce l d 9 (pV b.gl)/\Ce l d 10 (pV b.gb)):=fun l a9=>⟨((L.B a9).blk.cell 9),((L.B a9).blk.cell 10)⟩;have aO:=W.o ac.drew (hG bR);go_cut [3] (fun aY aJ=>aY=pV w.heap.size/\Nl a b w.heap.size w.heap.size ac aJ);case first =>
  refine se (fun l=>Ce l d 9 (pV b.gl)/\Ce l d 10 (pV b.gb)) 10 kr ?_;refine tK 0 rfl ?_;refine tK 1 rfl ?_;refine tK 2 rfl ?_;refine tK 3 rfl ?_;refine tF 5 rfl ?_;refine tF 6 rfl ?_;refine tF 7 rfl ?_;refine tK 8 rfl ?_;refine wo 4 kr rfl fun K C=>?_;go_simp;refine(PP b.gl a.t b.ltv b.lev a.ev _ (L.B (hG bR)).rd.now.2.1 (oo bl.goods.len)).mono ?_;rintro _ av ⟨I,k,rfl,z,a1,hge,e⟩;have t:=lh (An z (An a1 hge));have E:Hd (BW ac av):=hJ (hG bR) e;have aF:=W.o av E.o;clear z a1 hge e;refine C.out _ _ (fun hun=>aF) ?_;clear C K;try simp only[ap,aq,sa,sb,sc]
  refine wo 9 kr rfl fun K C=>?_;go_simp;refine(PA 0 b.gb b.dv a.bk _ (L.B (E.o)).rd.now.2.2.1 (oo bl.bkl)).mono ?_;rintro _ af ⟨bc,aK,rfl,B,e⟩;have Y:=lh B;have aB:Hd (BW ac af):=hJ (E.o) e;have ak:=lh e;have bd:=W.o af aB.o;clear B e;refine C.out _ _ (fun hun=>bd) ?_;clear C K;try simp only[ap,aq,sa,sb,sc]
  obtain⟨ao,ay,aa,aG,aD⟩:∃c,af=c/\Hd (qq c I a.t b.ltv k a.ev/\c.ownsRow w.heap.size 150 5 k a.ev.length (k8 a.ev)/\w.heap.size<=I)/\Hd (m1 c w.heap.size bc aK a.bk)/\Hd (BW ac c):=⟨_,rfl,⟨t.1.B ak.o,ic (B1 t.2.1 (by have D:=s.size;exact D)) ak.o,by have D:=s.size;have Z:=t.2.2;exact nt D Z⟩,Y.lowerB (by have D:=s.size;have Z:=E.size;omega),aB.o⟩;with_reducible rw[ay]
  clear ay;have Q:Hd (hA ao w.heap.size 89 (BI a b)):=aC.B aD.o;have aT:=Q.cell 9;have bg:=Q.frozen 9;refine wS 10 rfl ?_;refine wS 11 rfl ?_;clear aT bg;have ag:Hd (hA (ao.setCell (Ad w.heap.size 9) (pV I)) w.heap.size 89 (BI a { b with gl:=I,lev:=k })):=Q.set 9 _;have aS:=ag.cell 10;have aN:=ag.frozen 10;refine wS 12 rfl ?_;refine wS 13 rfl ?_;refine r4 kr ?_ _;clear aS aN;go_wp2_with fail;go_meet;case rel=>exact⟨rfl,Tu aC.o s.o aD.o aa.1 aa.2.1 aa.2.2 aG.o V.o⟩
 case rest =>
  clear aO;obtain⟨rfl,A,k,ai,aw,aj,z,ah,hge,B,e⟩:=hcut;obtain⟨G,H,au,al,a6⟩:=i.o.adj;have bi:Hd (BW w wc):=s.trans e;have t:=lh (An z ah);have aP:Hd (w.heap.size<=A):=hge;have Y:=lh B;have aV:=lh aj;have M:=lh (An au al);have bb:Hd (wc.ownsRow S 175 9 b.av G H):=(ic a6 bi.o);have aU:wc.cell? (Ad d 17)=some b.av:=(i.o.B bi.o).blk.cell 17;clear aj z ah hge B e au al a6;go_wp2_with fail;refine(jbs b.av G H _ (Fl.of_own bb.o M.2) (o2 M.1 aI.o)).mono ?_;rintro _ o ⟨aQ,rfl,ad,u⟩;obtain⟨F,P,O,rfl⟩:=G1 ad;have az:Hd (BW w o):=bi.trans (u.mono bi.size);have a7:Hd (o.ownsRow w.heap.size 175 9 (.slice F P O) G H):=B1 ad bi.size;have n:=lh (aV.B u);have aA:Hd (qq o A a.t b.ltv k a.ev/\o.ownsRow w.heap.size 150 5 k a.ev.length (k8 a.ev)):=⟨t.1.B u,ic t.2 u⟩;have aW:=lh (Y.B u);have be:=n.cell 17;have aX:=n.frozen 17;clear aU ad u;go_upto_region 6 with fail;obtain⟨ab,a2,aM,J⟩:∃c,o.setCell (Ad w.heap.size 17) (.slice F P O)=c/\Hd (hA c w.heap.size 89 (BI a { b with gl:=A,lev:=k,gb:=ai,dv:=aw,av:=.slice F P O }))/\Hd (hC [w.heap.size] o c):=⟨_,rfl,n.set 17 _,(hC.refl _ _).sg _⟩;with_reducible rw[a2]
  clear a2 be aX;have a0:=lh (J6 aA.1 aA.2 n.o V.o J.o);have aH:=lh (LH aW.o n.o J.o);have a5:Hd (ab.ownsRow w.heap.size 175 9 (.slice F P O) G H):=p1 a7.o J.o (fun q g f=>by
   simp only[ms]at f;subst f
   exact hh a7.o n.o Iv g.symm)
  have r:Hd (BW w ab):=az.trans (J.to_below az.size (fun x a8=>by simp only[ms]at a8;omega));have aL:ab.cell? (Ad d 16)=some b.iv:=(i.o.B r.o).blk.cell 16;go_wp2_with fail;refine(X8 b.iv a.iss.length (n1 a.iss b.ivs) _ (Fl.of_own (i.o.B r.o).iss (h9.one (i.o.B r.o).rd.now.2.2.2.2.2.2)) (by have D:=bl.issl;have Z:=bl.outl;omega)).mono ?_;rintro _ X ⟨bh,rfl,ae,T⟩;obtain⟨a4,ar,an,rfl⟩:=G1 ae;have ax:Hd (X.ownsRow w.heap.size 43 9 (.slice a4 ar an) a.iss.length (n1 a.iss b.ivs)):=B1 ae r.size;have m:=lh (aM.B T);have p:=lh T;have bj:=m.cell 16;have bm:=m.frozen 16;clear aL ae T;go_wp2_with fail;go_ret;have y:hC [w.heap.size] X (X.setCell (Ad w.heap.size 16) (.slice a4 ar an)):=(hC.refl _ _).sg _;have aE:=r.trans (p.mono r.size);obtain⟨bf,aR⟩:=J6 (a0.1.B p.o) (ic a0.2 p.o) m.o V.o y;exact WG i.o aP.o (aE.trans (y.to_below aE.size (fun x a8=>by simp only[ms]at a8;omega))) (m.set 16 _) bf aR (LH (aH.B p.o) m.o y)
   (p1 ax.o y (fun q g f=>by
    simp only[ms]at f;subst f
    exact hh ax.o m.o Iv g.symm))
   (p1 (ic a5.o p.o) y (fun q g f=>by
    simp only[ms]at f;subst f
    exact hh (ic a5.o p.o) m.o Iv g.symm)) M.1 M.2
theorem IF {q:Prop} (h:q:=by
 by_cases bf:i<k/\st i=1;·rw[if_pos bf,if_pos ⟨by omega,bf.2⟩]
 ·rw[if_neg bf,if_neg (fun h=>bf ⟨by omega,h.2⟩)]):q:=h
def x2:List Value:=iZ::List.replicate 48 (.int .u8 0)
theorem Iw:(prog.info? 239).map (fun a=>(a.zero,a.size,a.bytes))=some (some (.agg x2.toArray),49,56):=by kernel_rfl
structure Di (n:Nat) (st:Nat->Int) (cs:List Value):Prop where
 len:cs.length=n*49
 is:∀i,i<n->cs[i*49]?=some (iV (st i))
 by':∀i,i<n->∀j,j<48->∃x,cs[i*49+(1+j)]?=some (.int .u8 x)
def k5 (lo gp ga n:Nat) (st:Nat->Int) (w:World):Prop :=
 ∃a:List Value,(lo<=gp/\lo<=ga)/\hA w gp 116 [sL ga 0 n n,iZ,iZ,.bool false]/\hA w ga 239 a/\Di n st a
theorem k5.B {lo gp ga n:Nat} {st:Nat->Int} {w a:World} (h:k5 lo gp ga n st w) (b:BW w a):k5 lo gp ga n st a:=by obtain⟨e,f,c,g,d⟩:=h;exact⟨e,f,c.B b,g.B b,d⟩
theorem k5.keep {F:List Nat} {lo gp ga n:Nat} {st:Nat->Int} {w b:World} (h:k5 lo gp ga n st w) (a:hC F w b) (i:gp∉F) (f:ga∉F):k5 lo gp ga n st b:=by obtain⟨g,c,d,e,j⟩:=h;exact⟨g,c,d.keep a i,e.keep a f,j⟩
theorem k5.blk {lo gp ga n:Nat} {st:Nat->Int} {w:World} (h:k5 lo gp ga n st w):hA w gp 116 [sL ga 0 n n,iZ,iZ,.bool false]:=by obtain⟨b,_,a,_⟩:=h;exact a
theorem k5.cell {lo gp ga n:Nat} {st:Nat->Int} {w:World} (h:k5 lo gp ga n st w) {i:Nat} (c:i<n):w.cell? (Ad ga (i*49))=some (iV (st i))/\w.frozen? (Ad ga (i*49))=false/\ga<w.heap.size:=by obtain⟨d,_,_,a,b⟩:=h;exact⟨(a.cell _).trans (b.is i c),a.frozen _,a.lt⟩
theorem KA:x2.length=49:=by simp[x2]
theorem Xz (n:Nat):Di n (fun _=>0) (madeCells x2.toArray (n*49)).toList:=by
 have e:x2.toArray.size=49:=by simp[x2]
 have f:∀a,a<n*49->(madeCells x2.toArray (n*49)).toList[a]?=x2[a%49]?:=fun a g=>by
  have d:a%49<49:=Nat.mod_lt _ om;have j:x2[a%49]?=some (x2[a%49]'(by rw[KA];exact d)):=List.getElem?_eq_getElem _;rw[j];simp only[madeCells,e];simp only[Array.toList_map,Array.toList_range,List.getElem?_map,List.getElem?_range g,Option.map_some]
  congr 1
  rw[getElem!_pos x2.toArray (a%49) (by rw[e];exact d)];simp
 refine⟨by simp[size_madeCells],fun b k=>?_,fun b k c i=>⟨0,?_⟩⟩;·rw[f _ om,show b*49%49=0 by omega];rfl
 ·rw[f _ om,show(b*49+(1+c))%49=c+1 by omega];show x2[c+1]?=_;unfold x2;rw[gs,List.getElem?_replicate,if_pos i]
theorem Uy (n:Nat) (f:n<=20000) (w:World):(Instr.makeSlice 114 (iV (n:Int)) (iV (n:Int))).run prog w=.ok (sL w.heap.size 0 n n) (w.alloc (.cells (madeCells x2.toArray (n*49)) 239)):=by
 obtain⟨a,e,b,c,er⟩:=info_parts Iw;have h:=run_make (P:=prog) w 114 239 a (.agg x2.toArray) underlying114 e b .i64 .i64 n n om (Int.le_refl _) BE om;rw[h];have d:madeCells (Value.agg x2.toArray).cells ((n:Int).toNat*a.size)=madeCells x2.toArray (n*49):=by rw[c,Int.toNat_natCast];rfl
 rw[d];simp
def Ze (n:Nat) (w:World) (b:Ending) (a:World):Prop:=∃gp ga,b=.returned (pV gp)/\k5 w.heap.size gp ga n (fun _=>0) a/\BW w a
theorem UM (n:Nat) (b:1<=n/\n<=20000) (w:World) :
 Calls prog 20 #[iV (n:Int)] w (Ze n w):=by
 have c:=Uy n b.2;have d:max (n:Int) 0=n:=om;have e:min (n:Int) 20000=n:=om;go_enter func20,ntmps20;go_wp2_with fail;go_ret;have a:hA (w.alloc (.cells (madeCells x2.toArray (n*49)) 239)) w.heap.size 239 (madeCells x2.toArray (n*49)).toList:=by have:=heap_alloc_new w (.cells (madeCells x2.toArray (n*49)) 239);simpa[hA] using this
 exact⟨w.heap.size+1,w.heap.size,rfl,⟨_,⟨by omega,nr _⟩,w3 _ _ _ _ (wa _ _),a.B (hB bR _),Xz n⟩,hB (hB bR _) _⟩
section
variable {lo gp ga n:Nat} {st:Nat->Int} {w:World}
theorem QX (h:k5 lo gp ga n st w):Calls prog 94 #[pV gp] w (RetB (.bool false) w):=by have a:w.cell? (Ad gp 3)=some (.bool false):=h.blk.cell 3;clear h;go_enter func94,ntmps94;go_wp2_with fail;go_ret;exact⟨rfl,bR⟩
theorem PZ (h:k5 lo gp ga n st w):Calls prog 95 #[pV gp] w (RetB (iZ) w):=by have a:w.cell? (Ad gp 2)=some (iZ):=h.blk.cell 2;clear h;go_enter func95,ntmps95;go_wp2_with fail;go_ret;exact⟨rfl,bR⟩
theorem Q5 (h:k5 lo gp ga n st w):Calls prog 98 #[pV gp] w (RetB (iV (n:Int)) w):=by have a:w.cell? (Ad gp 0)=some (sL ga 0 n n):=h.blk.cell 0;clear h;go_enter func98,ntmps98;go_wp2_with fail;go_ret;exact⟨rfl,bR⟩
theorem SZ (h:k5 lo gp ga n st w):Calls prog 142 #[pV gp] w (RetB (iZ) w):=by have a:w.cell? (Ad gp 3)=some (.bool false):=h.blk.cell 3;clear h;go_enter func142,ntmps142;go_wp2_with fail;go_ret;exact⟨rfl,bR⟩
theorem O1 (h:k5 lo gp ga n st w) (a:Nat) (d:a<n):Calls prog 147 #[pV gp,iV (a:Int)] w (RetB (.bool true) w):=by
 have e:w.cell? (Ad gp 0)=some (sL ga 0 n n):=h.blk.cell 0;have c:decide ((a:Int)<n)=true:=by simp;omega
 have b:(0:Int)<=(a:Int):=om;clear h;go_enter func147,ntmps147;go_wp2_with fail;go_ret;exact⟨by simp[c,b,d],bR⟩
def HE (d:Value) (lo gp ga n:Nat) (st:Nat->Int) (c:List Nat) (w:World) (b:Ending) (a:World):Prop:=b=.returned d/\k5 lo gp ga n st a/\hC c w a
theorem Pe (h:k5 lo gp ga n st w):Calls prog 143 #[pV gp] w (HE (.bool true) lo gp ga n st [gp] w):=by have e:=lh h;have j:w.cell? (Ad gp 1)=some (iZ):=h.blk.cell 1;have i:=h.blk.frozen 1;clear h;go_enter func143,ntmps143;go_wp2_with fail;go_ret;refine⟨rfl,?_,((hC.refl _ _).sg _).sg _⟩;obtain⟨f,d,a,c,g⟩:=e.o;have b:ga≠gp:=n3 c a Iv;exact⟨f,d,(a.set 1 _).set 1 _,(c.setOther b _ _).setOther b _ _,g⟩
end
def k3:List Value:=List.replicate 48 (.int .u8 0)
theorem Dp:(prog.info? 189).map (·.size)=some 48:=by kernel_rfl
theorem Hf:(prog.info? 189).map (·.size)=some k3.toArray.size:=by rw[Dp];simp[k3]
theorem Jp {e:Program} {f:Func} {p u:Tmp} {ty:TypeId} (h:f.results=#[.cell p ty,.tmp u]) (d:Array Value) (w:World) (c:Nat) (g:TypeId) (a:Array Value) (j:Nat×Nat) (b:TypeDesc)
 (l:d.getD p undef=pV c) (r:w.heap[c]?=some (.cells a g j))
 (o:e.underlying ty=some b) (k:(match b with | .struct _ | .array _ _=>true | _=>false)=true) (s:(e.info? ty).map (·.size)=some a.size) (i) (m:d.getD u undef=i) :
 (results f d).run e w=.ok (.tuple #[.agg a,i]) w:=by
 rw[results_cell_tmp h,l,m];simp[asAddr,run_loadVar_row w c g ty a j b r o k s,Result.andThen]
section
variable {lo gp ga n:Nat} {st:Nat->Int} {w:World}
theorem N6 (h:k5 lo gp ga n st w) (a:Nat) (g:a<n) (k:st a=0):Calls prog 99 #[pV gp,iV (a:Int)] w (RetB (.tuple #[.agg k3.toArray,.bool false]) w):=by
 obtain⟨A,e,f,r,m⟩:∃b,w.alloc (.cells k3.toArray 189)=b/\Hd (k5 lo gp ga n st b)/\Hd (hA b w.heap.size 189 k3)/\Hd (BW w b):=⟨_,rfl,h.B (hB bR _),hR w _ _ _ rfl,hB bR _⟩;have z:(a:Int)<n:=om;clear h;go_enter func99,ntmps99;go_upto_region 1 with fail;change Code.wp _ _ _ _ (w.alloc (.cells k3.toArray 189));rw[e];clear e;go_wp2_with fail;refine(O1 f.o a g).mono ?_;rintro _ d ⟨rfl,c⟩;have i:=lh (f.B c);have s:Hd (hA d w.heap.size 189 k3):=r.B c;have t:Hd (BW w d):=hJ m.o c;have B:d.cell? (Ad gp 0)=some (sL ga 0 n n):=i.blk.cell 0;obtain⟨o,x,y⟩:=i.cell g;rw[k]at o;have j:Hd (d.heap[w.heap.size]?=some (.cells k3.toArray 189 (0,0))):=s.o;have l:Hd (k3.toArray.all (·.oneCell')=true):=by show _=_;simp[k3,Value.oneCell']
 clear c x
 go_wp2_with (with_reducible refine wpList_store_rowTo rfl 189 (.tmp 4) (.tmp 25) rfl rfl w.heap.size k3.toArray rfl ?hy 189 k3.toArray j.o Hf rfl l.o ?_;case hy=>kernel_rfl)
 refine bodyPost_ret (v:=.tuple #[.agg k3.toArray,.bool false]) (Jp (p:=4) (u:=5) (ty:=189) rfl _ _ w.heap.size 189 _ (0,0) _ rfl (setRow_heap _ _ _ _ _ _ j.o) underlying189 rfl Hf _ rfl) rfl ⟨rfl,Bd t.o (nr _) _⟩
end
theorem Di.set {n:Nat} {st:Nat->Int} {d:List Value} (h:Di n st d) {b:Nat} (k:b<n) (e:Int):Di n (fun a=>if a=b then e else st a) (d.set (b*49) (iV e)):=by
 refine⟨by rw[List.length_set];exact h.len,fun a c=>?_,fun a c i g=>?_⟩
 ·by_cases f:a=b;·subst f;have j:=h.len;rw[List.getElem?_set_self om,if_pos rfl]
  ·rw[List.getElem?_set_ne om,if_neg f];exact h.is a c
 ·rw[List.getElem?_set_ne om];exact h.by' a c i g
theorem k5.setIs {lo gp ga n:Nat} {st:Nat->Int} {w:World} (h:k5 lo gp ga n st w) {a:Nat} (i:a<n) (b:Int):k5 lo gp ga n (fun e=>if e=a then b else st e) (w.setCell (Ad ga (a*49)) (iV b)):=by obtain⟨j,f,c,d,g⟩:=h;exact⟨_,f,c.setOther (n3 c d Iv) _ _,d.set _ _,g.set i b⟩
theorem k5.congr {lo gp ga n:Nat} {st c:Nat->Int} {w:World} (h:k5 lo gp ga n st w) (i:∀a,a<n->st a=c a):k5 lo gp ga n c w:=by obtain⟨j,e,f,g,b⟩:=h;exact⟨j,e,f,g,b.len,fun a d=>by rw[<-i a d];exact b.is a d,b.by'⟩
def w9 (st:Nat->Int) (b a:Nat):Int:=if a<b/\st a=1 then 2 else st a
def Fh:Value:=.func (.func 145) #[] #[]
theorem XO (d:Int) (ga a:Nat) (b) (w:World) (i:w.cell? (Ad ga a)=some b) (g:w.frozen? (Ad ga a)=false) (f:ga<w.heap.size):Calls prog 145 #[iV d,.pointer (some (Ad ga a))] w (fun e c=>e=.returned (.tuple #[])/\c=w.setCell (Ad ga a) (iV 2)):=by
 go_enter func145,ntmps145;go_wp2_with fail
 go_end0
 exact⟨rfl,rfl⟩
section
variable {lo gp ga n:Nat} {st:Nat->Int} {w:World}
theorem Wh (y:n<=20000) (h:k5 lo gp ga n st w):Calls prog 144 #[pV gp,Fh] w (HE (.tuple #[]) lo gp ga n (w9 st n) [ga] w):=by
 have X:=lh h;have Z:=lh y;clear h y;unfold Fh;go_enter func144,ntmps144;go_wp2_with fail;refine sq 0 (fun j r=>∃(k:Nat) (m:Int) (Q V ae G ak aa D B au aj ah R W P Y al F O ag ab an M ao A T L S am ai ac H:Value),j={ tmps:=#[pV gp,.func (.func 145) #[] #[],Q,V,iV (k:Int),iV m,ae,G,ak,aa,D,B,au,aj,ah,R,W,P,Y,al,F,O,ag,ab,an,M,ao,A,T,L,S,am,ai,ac,H],defers:=[] }/\k<=n/\Hd (k5 lo gp ga n (w9 st k) r)/\Hd (hC [ga] w r))
  (fun j _=>Ex n j.tmps[4]?) rfl ?pass ?first
 case first=>intro K af z;have E:=lh z;clear af z;go_wp2_with fail;go_step3;go_step;go_step;refine E.o _ _ ⟨0,0,_,_,_,_,_,_,_,_,_,_,_,_,_,_,_,_,_,_,_,_,_,_,_,_,_,_,_,_,_,_,_,rfl,Nat.zero_le _,X.o.congr (fun i x=>?_),hC.refl _ _⟩;unfold w9;rw[if_neg om]
 case pass =>
  intro ax C b K t;obtain⟨k,m,b⟩:=b;iterate 31 obtain⟨_,b⟩:=b
  obtain⟨rfl,J,d,g⟩:=b;have s:=lh t;clear t;have az:C.cell? (Ad gp 0)=some (sL ga 0 n n):=d.blk.cell 0;have av:=Z.o;by_cases o:k=n
  ·subst o;have f:¬((k:Int)<k):=om;go_wp2_with fail;simp only[Exit.jump]
   go_end0
   exact⟨rfl,d.o,g.o⟩
  ·have f:k<n:=om;have aw:(k:Int)<n:=om;obtain⟨u,ar,I⟩:=d.cell f;have v:w9 st k k=st k:=by unfold w9;rw[if_neg om]
   rw[v]at u;refine Pp ?_;intro dO;have c:=lh f;clear v o J;by_cases a:st k=1
   ·have ad:(st k == 1)=true:=ss a;have l:=lh a;clear a;go_wp2_with fail;refine(XO m ga (k*49) _ _ u ar I).mono ?_;rintro _ ay ⟨rfl,rfl⟩;go_wp2_with fail;go_step3;refine⟨rfl,s.o _ _ ⟨k+1,_,_,_,_,_,_,_,_,_,_,_,_,_,_,_,_,_,_,_,_,_,_,_,_,_,_,_,_,_,_,_,_,rfl,c.o,?_,?_⟩ (Dh c.o)⟩
    ·refine(d.setIs c.o 2).congr (fun i x=>?_);unfold w9;by_cases e:i=k;·subst e;rw[if_pos rfl,if_pos ⟨by omega,l.o⟩]
     ·rw[if_neg e];exact IF
    ·exact g.sg _
   ·have ad:(st k == 1)=false:=ss a;have l:=lh a;clear a;go_wp2_with fail;go_step3;refine⟨rfl,s.o _ _ ⟨k+1,_,_,_,_,_,_,_,_,_,_,_,_,_,_,_,_,_,_,_,_,_,_,_,_,_,_,_,_,_,_,_,_,rfl,c.o,?_,?_⟩ (Dh c.o)⟩
    ·refine d.congr (fun i x=>?_);unfold w9;by_cases e:i=k;·subst e;rw[if_neg om,if_neg (fun h=>l.o h.2)]
     ·exact IF
    ·exact g.o
theorem M9 (r:n<=20000) (h:k5 lo gp ga n st w):Calls prog 96 #[pV gp] w (HE (iZ) lo gp ga n (w9 st n) [ga,gp] w):=by have e:=lh h;clear h;go_enter func96,ntmps96;go_wp2_with fail;refine(SZ e.o).mono ?_;rintro _ g ⟨rfl,a⟩;have k:=lh (e.o.B a);have o:=lh a;clear a;go_wp2_with fail;refine(Pe k.o).mono ?_;rintro _ p ⟨rfl,d,b⟩;have j:=lh d;have s:Hd (hC [ga,gp] w p):=(hC.of_below o.o:hC [ga,gp] w g).trans b (fun i aj=>.inl I0);clear d b;go_wp2_with fail;refine(Wh r j.o).mono ?_;rintro _ l ⟨rfl,f,c⟩;have t:=lh f;have m:Hd (hC [ga,gp] w l):=s.trans c (fun i aj=>.inl I0);clear f c;go_wp2_with fail;go_ret;exact⟨rfl,t.o,m.o⟩
end
def AT (b:List Value) (a:Nat):List Value->List Value
 | []=>b
 | v::vs=>AT (b.set a v) (a+1) vs
theorem Pi:∀(b:List Value) (a:List Value) (c:Nat),(AT a c b).length=a.length
 | [],_,_=>rfl
 | d::b,a,c=>by rw[AT,Pi b,List.length_set]
theorem K1:∀(c:List Value) (d:List Value) (b:Nat),b+c.length<=d.length->∀a,(AT d b c)[a]?=if a<b then d[a]? else if a<b+c.length then c[a-b]? else d[a]?
 | [],d,b,_,a=>by
  rw[AT];by_cases h:a<b;·rw[if_pos h]
  ·rw[if_neg h,if_neg Jv]
 | i::c,d,b,h,a=>by
  simp only[List.length_cons]at h;rw[AT,K1 c _ _ (by rw[List.length_set];omega)];by_cases e:a<b;·rw[if_pos om,if_pos e,List.getElem?_set_ne om]
  ·rw[if_neg e];by_cases g:a=b;·subst g;rw[if_pos om,if_pos IV,Nat.sub_self,List.getElem?_set_self om];rfl
   ·rw[if_neg om];by_cases f:a<b+1+c.length;·rw[if_pos f,if_pos IV,show a-b=(a-(b+1))+1 by omega,gs]
    ·rw[if_neg f,if_neg IV,List.getElem?_set_ne om]
theorem Oi (d:Nat):∀(b:List Value) (c:Nat) (a:List Value),(b.zipIdx c).foldl (fun (a:Array Value) (e:Value×Nat)=>a.setIfInBounds (d+e.2) e.1) a.toArray=(AT a (d+c) b).toArray
 | [],_,_=>rfl
 | f::b,c,a=>by rw[List.zipIdx_cons,List.foldl_cons,List.setIfInBounds_toArray,Oi d b (c+1)];rfl
theorem ywa {b:List Value} (h:b.length=48):AT (x2.set 0 (iV 1)) 1 b=iV 1::b:=by
 have f:=KA;refine List.ext_getElem? (fun a=>?_);rw[K1 _ _ _ (by rw[List.length_set];omega)];by_cases e:a<1;·obtain rfl:a=0:=om;rw[if_pos e,List.getElem?_set_self om];rfl
 ·obtain⟨c,rfl⟩:∃c,a=c+1:=⟨a-1,by omega⟩;rw[if_neg e,gs];by_cases d:c+1<1+b.length;·rw[if_pos d,Nat.add_sub_cancel]
  ·rw[if_neg d,List.getElem?_eq_none (by rw[List.length_set];omega),List.getElem?_eq_none om]
theorem WW (a:List Value) (h:a.length=48) (b:List Value) (e:b=x2):Instr.fill (([(0,1),(1,48)]:List (Nat×Nat)).toArray[·]?) b.toArray [(0,iV 1),(1,.agg a.toArray)]=some (iV 1::a).toArray:=by
 have f:b.length=49:=by rw[e];exact KA
 have d:(a.toArray.zipIdx.foldl (fun (g:Array Value) (c:Value×Nat)=>g.setIfInBounds (1+c.2) c.1) (b.toArray.setIfInBounds 0 (iV 1)))=(iV 1::a).toArray:=by rw[List.setIfInBounds_toArray,<-Array.foldl_toList,Array.toList_zipIdx,List.toList_toArray,Oi 1 a 0,e,ywa h]
 unfold Instr.fill;simp only[Value.cells,List.size_toArray,f,h];simp only[Instr.fill,Value.cells,List.size_toArray,h];simp;refine⟨by omega,?_⟩;rw[List.setIfInBounds_toArray,<-Array.foldl_toList,Array.toList_zipIdx,List.toList_toArray]at d;exact d
theorem Sd (a:List Value) (h:a.length=48):prog.built 239 [(0,iV 1),(1,.agg a.toArray)]=some (iV 1::a).toArray:=by
 obtain⟨j,g,f,m,k⟩:=info_parts Iw;unfold Program.built;rw[g,underlying239];simp only[f];split;·rename_i l e i b;cases i;have d:some e=some [(0,1),(1,48)]:=b.symm.trans kr;cases d;exact WW a h x2 rfl
 ·rename_i c;exact(c (.agg x2.toArray) [(0,1),(1,48)] rfl kr).elim
theorem Vr {i:Program} {l3:Array Oper} {ae:Oper} {aB:Act} {w:World} {g:Act->World->Prop} {l:Exit->Act->World->Prop} {o:Prop} (nN:ae.guard=none) (f:TypeId) (e d:Operand) (m:ae.op=.store f e d)
 (j:ae.dst=none) (b c:Nat) (a:Array Value) (v:aB.eval e=.pointer (some (Ad b c))) (r:aB.eval d=.agg a) (t:w.there b c a.size) (u:(i.info? f).map (·.size)=some a.size) (s:a.all (·.oneCell')=true)
 (h:g aB (w.setCells b c a.toList)):if Region.wanted ae (yielded l3 aB.tmps)=true then Oper.wp i ae aB w g l else o:=by
 refine Og ?_;intro lO;exact wp_store_mid f e d m b c a v r t u s (by rw[j];exact h)
theorem Di.ink {n:Nat} {st:Nat->Int} {j d:List Value} (h:Di n st j) {b:Nat} (u:b<n) (s:d.length=48) (r:∀c∈d,∃i,c=.int .u8 i) (c:Int) :
 Di n (fun a=>if a=b then c else st a) (AT j (b*49) (iV c::d)):=by
 have p:=h.len;have m:(iV c::d).length=49:=by simp[s]
 have k:=K1 (iV c::d) j (b*49) (by rw[m];omega);rw[m]at k;refine⟨by rw[Pi];exact p,fun a e=>?_,fun a e f l=>?_⟩
 ·rw[k];by_cases g:a=b;·subst g;rw[if_neg om,if_pos om,if_pos rfl,Nat.sub_self];rfl
  ·rw[if_neg g];by_cases o:a<b;·rw[if_pos om];exact h.is a e
   ·rw[if_neg om,if_neg om];exact h.is a e
 ·rw[k];by_cases g:a=b;·subst g;rw[if_neg om,if_pos om,show a*49+(1+f)-a*49=f+1 by omega,gs];obtain⟨i,t⟩:=r _ (List.getElem_mem (show f<d.length by omega));exact⟨i,by rw[List.getElem?_eq_getElem om,t]⟩
  ·by_cases o:a<b;·rw[if_pos om];exact h.by' a e f l
   ·rw[if_neg om,if_neg om];exact h.by' a e f l
theorem hA.setMid {c:Nat} {e:TypeId}:∀(b:List Value) {w:World} (a:Nat) {d:List Value},hA w c e d->hA (w.setCells c a b) c e (AT d a b)
 | [],_,_,_,h=>h
 | f::b,_,a,_,h=>hA.setMid b (a+1) (h.set a f)
theorem hC.setCells {c:List Nat} {d:World} {b:Nat} (g:b∈c\/d.heap.size<=b):∀(a:List Value) {f:World} (_:hC c d f) (e:Nat),hC c d (f.setCells b e a)
 | [],_,h,_=>h
 | i::a,_,h,e=>hC.setCells g a (h.setCell g i) (e+1)
section
variable {lo gp ga n:Nat} {st:Nat->Int} {w:World}
theorem k5.ink (h:k5 lo gp ga n st w) {b:Nat} (o:b<n) {a:List Value} (l:a.length=48) (j:∀k∈a,∃g,k=.int .u8 g):k5 lo gp ga n (fun e=>if e=b then 1 else st e) (w.setCells ga (b*49) (iV 1::a)):=by obtain⟨p,f,c,d,m⟩:=h;have i:gp≠ga:=n3 c d Iv;exact⟨_,f,c.keep (hC.setCells (.inl (me ..)) _ (hC.refl [ga] w) _) (ss i),hA.setMid _ _ d,m.ink o l j 1⟩
theorem TW (h:k5 lo gp ga n st w) (b:Nat) (F:b<n) (x:st b=0) (a:List Value) (d:a.length=48) (D:Hd (∀i∈a,∃v,i=.int .u8 v)) :
 Calls prog 104 #[pV gp,iV (b:Int),.agg a.toArray] w (HE (iZ) lo gp ga n (fun e=>if e=b then 1 else st e) [ga,gp] w):=by
 have Z:=lh h;have s:=lh d;have am:(b:Int)<n:=om;have o:=lh F;have M:=lh x;have Q:Hd ((prog.info? 189).map (·.size)=some a.length):=by rw[d];exact Dp
 have af:Hd ((prog.info? 239).map (·.size)=some (iV 1::a).toArray.size):=by obtain⟨ar,I,aw,r,H⟩:=info_parts Iw;show _=_;rw[I];simp[r,d]
 have T:Hd ((iV 1::a).toArray.all (·.oneCell')=true):=all_oneCell_toArray (fun i m=>by
  rcases mc.1 m with rfl | m;·rfl
  ·obtain⟨v,rfl⟩:=D.o i m
   rfl)
 clear h F x d;go_enter func104,ntmps104;go_wp2_with fail;obtain⟨ao,l,C,W,aa⟩:∃c,w.alloc (.cells a.toArray 189)=c/\Hd (k5 lo gp ga n st c)/\Hd (hA c w.heap.size 189 a)/\Hd (BW w c):=⟨_,rfl,Z.o.B (hB bR _),hR w _ _ _ rfl,hB bR _⟩;rw[l];clear l;refine(SZ C.o).mono ?_;rintro _ ag ⟨rfl,t⟩;have G:=lh (C.B t);have J:=lh (W.B t);have ah:Hd (BW w ag):=hJ aa.o t;clear t;go_wp2_with fail;refine(O1 G.o b o.o).mono ?_;rintro _ g ⟨rfl,u⟩;have j:=lh (G.B u);have al:=lh (J.B u);have K:Hd (BW w g):=hJ ah.o u;have ai:g.cell? (Ad gp 0)=some (sL ga 0 n n):=j.blk.cell 0;obtain⟨E,ak,P⟩:=j.cell o.o;rw[M.o]at E;clear u ak;go_upto_region 8 with fail;have ab:Hd (∀f,BW g f->Ce f gp 0 (sL ga 0 n n)/\f.rangeAt w.heap.size 0 a):=fun f d=>⟨(j.B d).blk.cell 0,fun e i m=>by
  rw[Nat.zero_add,(al.B d).cell]
  exact m⟩
 have Y:=ab.o g.drew (hG bR);have X:Hd (g.drew.there ga (b*49) (iV 1::a).toArray.size):=fun e ae=>by
  have ad:(iV 1::a).toArray.size=49:=by simp[s.o]
  rw[ad]at ae;obtain⟨an,_,_,r,H⟩:=j.B (hG bR);refine⟨?_,r.frozen _⟩;rw[r.cell,Option.isSome_iff_exists];have au:=H.len;have:=o.o;exact⟨_,List.getElem?_eq_getElem om⟩
 clear ai E P;refine se (fun f=>Ce f gp 0 (sL ga 0 n n)/\f.rangeAt w.heap.size 0 a) 7 kr ?_;refine Ck ?_;show _;refine Fm (i:=5) (oi:=⟨_,_,_,_,_,_⟩) (v:=.agg a.toArray) rfl kr kr kr kr kr (fun _ _ _ h=>h) (yieldsIf_load_mid JF 189 (.tmp 5) rfl w.heap.size 0 rfl a _ (fun w B=>B.2) underlying189 rfl Q.o) (by assumption) ?_;simp only[ap,aq,sa,sb,sc];refine Fm (i:=6) (oi:=⟨_,_,_,_,_,_⟩) (v:=.agg (iV 1::a).toArray) rfl kr kr kr kr kr (fun _ _ _ h=>h) (.inl ⟨by rfl,fun w B=>by unfold execOp;simp only[Sem.run_bind];rw[run_build w _ _ _ (by first | exact Sd a s.o | (simp[Act.eval];exact Sd a s.o))];rfl⟩) (by assumption) ?_;simp only[ap,aq,sa,sb,sc];refine wS 7 rfl ?_;refine wo 8 kr rfl fun L y=>?_;refine Vr rfl 239 (.tmp 33) (.tmp 32) rfl rfl ga (b*49) (iV 1::a).toArray JF JF X.o af.o T.o ?_;refine y.out _ _ kd ?_;clear y L;try simp only[ap,aq,sa,sb,sc]
 refine r4 kr ?_ _;obtain⟨av,l,R,S⟩:∃c,g.drew.setCells ga (b*49) (iV 1::a)=c/\Hd (k5 lo gp ga n (fun e=>if e=b then 1 else st e) c)/\Hd (hC [ga,gp] w c):=⟨_,rfl,(j.B (hG bR)).ink o.o s.o D.o,hC.setCells (.inl (me ..)) _ ((hC.of_below K.o).drew) _⟩;try simp only[List.toList_toArray]
 rw[l];clear l Y;go_wp2_with fail;refine(Pe R.o).mono ?_;rintro _ V ⟨rfl,z,A⟩;have O:=lh z;have ac:Hd (hC [ga,gp] w V):=S.trans A (fun v aj=>.inl I0);clear z A;go_wp2_with fail;go_ret;exact⟨rfl,O.o,ac.o⟩
end
theorem Sl.at' {e:IntKind} {w:World} {d:Option Addr} {f:Nat} {b:List Int} (h:Sl e w (.slice d b.length f) b) {i:Nat} (l:i<b.length):∃a c,d=some (Ad a c)/\w.cell? (Ad a (c+i))=some (.int e (b.getD i 0)):=by obtain⟨m,r,j,p,o,g⟩:=h;cases j;obtain⟨a,c,rfl,k⟩:=g (List.length_pos_iff.1 om);exact⟨a,c,rfl,k i l⟩
def Fw (d:IntKind) (w:World) (a:Ending) (b:World):Prop:=∃c,a=.returned (.int d c)/\BW w b
theorem Vu (s:Int) (l) (a:List Int) (t:a.length<=100000) (w) (i:Sl .u8 w l a) :
 Calls prog 224 #[.int .u32 s,l] w (Fw .u32 w):=by
 have al:=lh i;obtain⟨I,Q,rfl⟩:=i.shape;have Y:=lh t;clear i t;go_enter func224,ntmps224;go_wp2_with fail;refine sq 0 (fun e A=>∃(k:Nat) (av aw:Int) (O L V T aj Z y x ar ai af ad W J X ak B K ae ab an G ao v P H M am ah aa D S:Value),e={ tmps:=#[O,.slice I a.length Q,L,V,T,.int .u32 av,.int .u32 aw,iV (k:Int),aj,Z,y,x,ar,ai,af,ad,W,J,X,ak,B,K,ae,ab,an,G,ao,v,P,H,M,am,ah,aa,D,S],defers:=[] }/\k<=a.length/\Hd (BW w A))
  (fun e _=>Ex a.length e.tmps[7]?) rfl ?pass ?first
 case first=>intro F ac u;have z:=lh u;clear ac u;go_wp2_with fail;go_step3;go_step;go_step;exact z.o _ _ ⟨0,_,_,_,_,_,_,_,_,_,_,_,_,_,_,_,_,_,_,_,_,_,_,_,_,_,_,_,_,_,_,_,_,_,_,rfl,Nat.zero_le _,bR⟩
 case pass =>
  intro az au ag F m;obtain⟨k,av,aw,ag⟩:=ag;iterate 32 obtain⟨_,ag⟩:=ag
  obtain⟨rfl,E,f⟩:=ag;have C:=lh m;clear m;have ax:=Y.o;by_cases c:k=a.length;·have d:¬((k:Int)<a.length):=om;have g:=lh c;clear c;go_wp2_with fail;simp only[Exit.jump];go_ret;exact⟨_,rfl,f.o⟩
  ·have d:k<a.length:=om;have ay:(k:Int)<a.length:=om;obtain⟨b,o,rfl,R⟩:=(al.B f.o).at' d;obtain⟨j,r⟩:=xg (a.getD k 0);rw[r]at R;refine Pp ?_;intro dO;have g:=lh d;clear r c E;go_wp2_with fail;go_step3;exact⟨rfl,C.o _ _ ⟨k+1,_,_,_,_,_,_,_,_,_,_,_,_,_,_,_,_,_,_,_,_,_,_,_,_,_,_,_,_,_,_,_,_,_,_,rfl,g.o,f.o⟩ (Dh g.o)⟩
theorem Ud (c) (b:List Int) (f:b.length<=100000) (w) (a:Sl .u8 w c b) :
 Calls prog 189 #[c] w (Fw .u32 w):=by
 have e:=lh a;obtain⟨j,k,rfl⟩:=a.shape;clear a;go_enter func189,ntmps189;go_wp2_with fail;refine(Vu 1 _ b f _ e.o).mono ?_;rintro _ g ⟨i,rfl,d⟩;go_wp2_with fail;go_ret;exact⟨_,rfl,d⟩
def Du (c:List Value):Prop:=∀b∈c,∃a,b=.int .u8 a
theorem Du.one {b:List Value} (h:Du b):∀a∈b,a.oneCell'=true:=fun a c=>by obtain⟨d,rfl⟩:=h a c;rfl
def Xk (n:Nat) (w:World) (b:Ending) (c:World):Prop:=∃a:List Value,b=.returned (.agg a.toArray)/\a.length=n/\Du a/\BW w c
theorem Xw {w:World} {d a n:Nat} {e:TypeId} {b:List Value} (h:hA w a e b) (g:d<=a) (c:b.length=n) (f:n<=maxLen):w.ownsRow d e 1 (sL a 0 n n) n b:=by refine⟨by omega,.inr ⟨a,n,b.toArray,rfl,g,h,nr _,f,by simp[c],?_⟩⟩;rw[List.take_of_length_le (by simp[c])]
theorem Tz {bs:List Value} (h:Du bs):∃a:List Int,bs=a.map (Value.int .u8):=by
 induction bs with
 | nil=>exact⟨[],rfl⟩
 | cons f bs d=>obtain⟨c,rfl⟩:=h f (me ..);obtain⟨a,rfl⟩:=d fun b e=>h b (mo _ e);exact⟨c::a,rfl⟩
theorem yx0 (n:Nat) (b:List Value) (I:b.length=48) (u:Du b) (w:World) :
 Calls prog 149 #[iV (n:Int),.agg b.toArray] w (Xk 4 w):=by
 obtain⟨d,R,am,al,V⟩:∃a,((w.alloc (.cells b.toArray 189)).alloc (.cells #[.int .u8 0,.int .u8 0,.int .u8 0,.int .u8 0] 244))=a/\Hd (hA a w.heap.size 189 b)/\Hd (hA a (w.heap.size+1) 244 [.int .u8 0,.int .u8 0,.int .u8 0,.int .u8 0])/\Hd (BW w a/\a.heap.size=w.heap.size+2):=⟨_,rfl,(hR w _ _ _ rfl).B (hB bR _),w3 _ _ _ _ (wa _ _),hB (hB bR _) _,by simp only[wa]⟩;have ag:=lh I;have W:=lh u;clear I u;go_enter func149,ntmps149;go_upto_region 2 with fail;obtain⟨P,L,g,f,j,e,S,ay,T,X⟩:∃a,d.alloc (.cells #[.int .u8 ((n:Int)/16777216%256),.int .u8 ((n:Int)/65536%256),.int .u8 ((n:Int)/256%256),.int .u8 ((n:Int)%256)] 5)=a/\∃g f j e,Hd (hA a d.heap.size 5 [.int .u8 g,.int .u8 f,.int .u8 j,.int .u8 e])/\Hd (hA a w.heap.size 189 b)/\Hd (hA a (w.heap.size+1) 244 [.int .u8 0,.int .u8 0,.int .u8 0,.int .u8 0])/\Hd (BW w a) :=
  ⟨_,rfl,_,_,_,_,hR d _ _ _ rfl,am.B (hB bR _),al.B (hB bR _),hJ V.1 (hB bR _)⟩
 try with_reducible rw[R]
 with_reducible rw[L]
 clear L R;obtain⟨af,ak,ab,ax,ai⟩:=info_parts J7;have O:Hd (P.ownsRow d.heap.size 5 1 (sL d.heap.size 0 4 4) 4 [.int .u8 g,.int .u8 f,.int .u8 j,.int .u8 e]):=Xw S.o (nr _) rfl RD;have ac:Hd (∀D,some ((Ad w.heap.size 4):Addr)=some D->∀t i,((b.drop 4).take 43)[t]?=some i->P.cell? (D.add t)=some i):=fun D A t i z=>by
  cases A;have az:t<43:=by have:=(List.getElem?_eq_some_iff.1 z).1;simp only[List.length_take]at this;omega
  rw[List.getElem?_take_of_lt az,List.getElem?_drop]at z;rw[Addr.add_lit,ay.cell,z]
 have M:Hd (((b.drop 4).take 43).length=43*1):=by show _=_;rw[List.length_take,List.length_drop,ag.o];rfl
 go_upto_region 3 with(at_builtin;refine RC rfl (.tmp 19) (.tmp 20) 135 rfl d.heap.size 5 af (.int .u8 0) 1 1 underlying135 ak ab ax ai rfl Iv (sL d.heap.size 0 4 4) 4 [.int .u8 g,.int .u8 f,.int .u8 j,.int .u8 e] rfl O.o (some (Ad w.heap.size 4)) 43 44 ((b.drop 4).take 43) rfl M.o (fun A=>by cases A) ac.o (fun i u=>W.one i (List.mem_of_mem_drop (List.mem_of_mem_take u))) RD om (oo S.lt) ?_;intro a6 K B H ae)
 obtain⟨p,G⟩:=Tz (bs:=[.int .u8 g,.int .u8 f,.int .u8 j,.int .u8 e]++(b.drop 4).take 43) (fun F v=>by
  rcases ma.1 v with h | h;·simp only[mc,nn,or_false]at h;rcases h with rfl | rfl | rfl | rfl <;> exact⟨_,rfl⟩
  ·exact W.o F (List.mem_of_mem_drop (List.mem_of_mem_take h)))
 have aj:p.length=47:=by have x:=congrArg List.length G;have s:=M.o;simp only[la,List.length_map,s,List.length_cons,List.length_nil]at x;omega
 rw[G,show 4+43=p.length by omega]at B;have av:=lh (Sl.of_own B rfl);have Z:Hd (hA K (w.heap.size+1) 244 [.int .u8 0,.int .u8 0,.int .u8 0,.int .u8 0]):=p7 T.o H (hh O.o T.o Iv);have ah:Hd (BW w K):=X.grown H X.size (fun k ad=>by
  cases ad;have:=V.1.size
  exact this)
 have au:Hd (p.length<=100000):=by show _<=_;omega
 clear B H ae G aj;refine(Ud _ p au.o _ av.o).mono ?_;rintro _ an ⟨r,rfl,E⟩;have C:=lh (Z.B E);have aa:Hd (BW w an):=hJ ah.o E;obtain⟨a2,a7,a8,a4,-⟩:=C.cS [0,1,2,3];obtain⟨a9,a5,a1,a0,-⟩:=C.fs [0,1,2,3];clear E;go_wp2_with fail;obtain⟨l,Q⟩:=xg (r/16777216%256);obtain⟨m,x⟩:=xg (r/65536%256);obtain⟨y,s⟩:=xg (r/256%256);obtain⟨a3,J⟩:=xg (r%256);rw[Q,x,s,J];have o:=(((C.set 0 (.int .u8 l)).set 1 (.int .u8 m)).set 2 (.int .u8 y)).set 3 (.int .u8 a3);have ar:World.cell? _ (Ad (w.heap.size+1) 0)=some (.int .u8 l):=o.cell 0;have aw:World.cell? _ (Ad (w.heap.size+1) 1)=some (.int .u8 m):=o.cell 1;have ao:World.cell? _ (Ad (w.heap.size+1) 2)=some (.int .u8 y):=o.cell 2;have Y:World.cell? _ (Ad (w.heap.size+1) 3)=some (.int .u8 a3):=o.cell 3;clear Q x s J;refine bodyPost_ret (v:=.agg #[.int .u8 l,.int .u8 m,.int .u8 y,.int .u8 a3]) (by simp[results,results149,go_sem,ar,aw,ao,Y]) rfl ⟨[.int .u8 l,.int .u8 m,.int .u8 y,.int .u8 a3],rfl,rfl,fun F v=>?_,k1 (k1 (k1 (k1 aa.o om) om) om) om⟩;simp only[mc,nn,or_false]at v;rcases v with rfl | rfl | rfl | rfl <;> exact⟨_,rfl⟩
theorem Do {q:Prop} (h:q:=by refine Ly ?_;intro oU oV oW oX;go_upto_region 8 with fail;obtain⟨cg,aW,eE⟩:∃W,bN.setCell (Ad (w.heap.size+1) 4) (.int .u8 ((oU+2)%256))=W/\Hd (∃cs,xe w W cs):=⟨_,rfl,by obtain⟨cs,k⟩:=dY.o;exact⟨_,k.set 4 _⟩⟩;exact FV):q:=h
theorem Jj {q:Prop} (h:q:=by refine Ly ?_;intro oU oV oW oX;go_upto_region 6 with fail;refine Q2 ?_;clear oV oW oX;intro fR iF;obtain⟨oU,oV⟩:=(iF.choose_spec).at' (j:=4) om;have oW:=(iF.choose_spec).x.frozen 4;have oX:=(iF.choose_spec).x.lt;go_upto_region 8 with fail;obtain⟨cg,aW,eE⟩:∃W,fR.setCell (Ad (w.heap.size+1) 4) (.int .u8 ((oU+2)%256))=W/\Hd (∃cs,xe w W cs):=⟨_,rfl,by obtain⟨cs,k⟩:=iF.o;exact⟨_,k.set 4 _⟩⟩;exact FV):q:=h
theorem FV {q:Prop} (h:q:=by
 try with_reducible rw[aW]
 clear aW;clear oV oW oX;obtain⟨xL,dP⟩:=(eE.choose_spec).at' (j:=5) om;have vW:=(eE.choose_spec).x.frozen 5;have vX:=(eE.choose_spec).x.lt;go_upto_region 9 with fail;obtain⟨bj,aW,ee⟩:∃W,cg.setCell (Ad (w.heap.size+1) 5) (.int .u8 (bs.length:Int))=W/\Hd (∃cs,xe w W cs):=⟨_,rfl,by obtain⟨cs,k⟩:=eE.o;exact⟨_,k.set 5 _⟩⟩;exact IJ):q:=h
theorem IJ {q:Prop} (h:q:=by
 with_reducible rw[aW]
 clear aW;clear dP vW vX;obtain⟨fT,sh⟩:=ee.o;have zY:=lh sh;have xM:=lh (br.B sh.bel);have zZ:Hd (bj.heap[w.heap.size+1]?=some (.cells fT.toArray 189 (0,0))):=sh.x;have z':Hd (0<(bs.map (Value.int .u8)).length->some ((Ad (w.heap.size+1) 6):Addr)=some (Ad (w.heap.size+1) 6)/\∃si,aF=some si/\∀a8 ak,(bs.map (Value.int .u8))[a8]?=some ak->bj.cell? (si.add a8)=some ak):=fun _=>⟨rfl,by
  obtain⟨q,ae,I,_⟩:=xM.at' (i:=0) Fe;refine⟨(Ad q ae),I,fun a8 ak di=>?_⟩;have vY:a8<bs.length:=by simpa using (List.getElem?_eq_some_iff.1 di).1
  obtain⟨pN,v8,uO,cH⟩:=xM.at' vY;rw[I]at uO;cases uO;rw[Addr.add_lit,cH];rw[List.getElem?_map,List.getElem?_eq_getElem vY]at di;simp only[Option.map_some,Option.some.injEq]at di;rw[<-di]
  simp[List.getD,vY]⟩
 have Aa:Hd ((bs.map (Value.int .u8)).length=Nat.min bs.length 42):=by show _=_;rw[List.length_map];exact(Nat.min_eq_left Fe).symm
 have xN:Hd (6+(bs.map (Value.int .u8)).length<=fT.length):=by show _<=_;rw[List.length_map,sh.len];have:=bp.o;omega
 have cj:Hd (Below (w.heap.size+1) bj bj):=bR;have Ab:Hd (∀ak∈bs.map (Value.int .u8),ak.oneCell'=true):=by intro ak aQ;simp only[List.mem_map]at aQ;obtain⟨x,_,rfl⟩:=aQ;rfl
 clear sh;go_upto_region 10 with(refine wpList_copy_splice (o:=⟨some 54,_,_,_,_,_⟩) rfl (.tmp 52) (.tmp 53) 135 135 rfl 5 underlying135 L0 (some (Ad (w.heap.size+1) 6)) aF 42 42 bs.length aC ?hd ?hs (w.heap.size+1) 6 fT 189 zZ.o (bs.map (Value.int .u8)) Aa.o z'.o xN.o Ab.o (w.heap.size+1) bj cj.o (nr _) ?_;(case hd=>rfl);(case hs=>rfl);intro jE xO bZ)
 have ub:Hd (∃cs,xe w jE cs):=⟨_,zY.spliced xO.out bZ (ss xN.o) (fun ak aQ=>by simp only[List.mem_map]at aQ;obtain⟨x,_,rfl⟩:=aQ;exact⟨x,rfl⟩)⟩;clear xO bZ;obtain⟨AM,nU⟩:=(ub.choose_spec).at' (j:=47) om;have Ac:=(ub.choose_spec).x.frozen 47;have mk:=(ub.choose_spec).x.lt;go_upto_region 11 with fail;obtain⟨Ae,aW,Af⟩:∃W,jE.setCell (Ad (w.heap.size+1) 47) (.int .u8 (90))=W/\Hd (∃cs,xe w W cs):=⟨_,rfl,by obtain⟨cs,k⟩:=ub.o;exact⟨_,k.set 47 _⟩⟩;with_reducible rw[aW]
 clear aW;clear nU Ac mk;obtain⟨f9,j0⟩:=Af.o;have sj:=lh j0;clear j0;have Ag:Hd (Ae.rangeAt (w.heap.size+1) 0 f9):=fun a8 ak aQ=>by rw[Nat.zero_add,sj.x.cell];exact aQ
 have Ah:Hd ((prog.info? 189).map (·.size)=some f9.length):=by rw[sj.len];exact Dp
 go_wp2_with (with_reducible refine wpList_load_mid rfl 189 (.tmp 10) rfl (w.heap.size+1) 0 rfl f9 _ Ag.o underlying189 rfl Ah.o ?_)
 refine(yx0 n f9 sj.len sj.u8 _).mono ?_;rintro _ ky ⟨xP,rfl,xQ,q9,xR⟩;obtain⟨c',aS,tg,Ai,rfl⟩:∃aB b c aa,xP=[aB,b,c,aa]:=by
  match xP,xQ with
  | [aB,b,c,aa],_=>exact⟨aB,b,c,aa,rfl⟩
 obtain⟨jW,rfl⟩:=q9 c' Is;obtain⟨mD,rfl⟩:=q9 aS Is;obtain⟨mE,rfl⟩:=q9 tg Is;obtain⟨sk,rfl⟩:=q9 Ai Is;have xS:=lh q9;have Aj:=lh (sj.B xR);clear xR q9 xQ;simp only[List.toArray];go_upto_region 12 with fail;obtain⟨qA,aW,vZ,Ak⟩:∃W,ky.alloc (.cells #[.int .u8 jW,.int .u8 mD,.int .u8 mE,.int .u8 sk] 244)=W/\Hd (xe w W f9)/\Hd (hA W ky.heap.size 244 [.int .u8 jW,.int .u8 mD,.int .u8 mE,.int .u8 sk]):=⟨_,rfl,Aj.B (hB bR _),hR ky _ _ _ rfl⟩;with_reducible rw[aW]
 clear aW;have mK:Hd (∀W',BW qA W'->True):=fun _ _=>trivial;have xT:=lh (vZ.B (hG bR));have xU:Hd (qA.drew.heap[w.heap.size+1]?=some (.cells f9.toArray 189 (0,0))):=xT.x;have Al:=lh (Ak.B (hG bR));have xV:Hd (0<([.int .u8 jW,.int .u8 mD,.int .u8 mE,.int .u8 sk]:List Value).length->some ((Ad (w.heap.size+1) 0):Addr)=some (Ad (w.heap.size+1) 0)/\∃si,some ((Ad ky.heap.size 0):Addr)=some si/\∀a8 ak,([.int .u8 jW,.int .u8 mD,.int .u8 mE,.int .u8 sk]:List Value)[a8]?=some ak->qA.drew.cell? (si.add a8)=some ak):=fun _=>⟨rfl,_,rfl,fun a8 ak di=>by rw[Addr.add_lit,Nat.zero_add,Al.cell];exact di⟩;have iN:Hd (Below (w.heap.size+1) qA.drew qA.drew):=bR;have fm:True:=trivial;refine se (fun _=>True) 2 kr ?_;refine tK 0 rfl ?_;refine tK 1 rfl ?_;refine wo 2 kr rfl fun a4 ac=>?_;refine step_copy_splice rfl (.tmp 59) (.tmp 60) 135 135 rfl 5 underlying135 L0 (some (Ad (w.heap.size+1) 0)) (some (Ad ky.heap.size 0)) 48 48 4 4 JF JF (w.heap.size+1) 0 f9 189 xU.o ([.int .u8 jW,.int .u8 mD,.int .u8 mE,.int .u8 sk]:List Value) rfl xV.o (by rw[vZ.len];simp) (xS.one) (w.heap.size+1) qA.drew iN.o (nr _) ?_;intro jj xW xX;have Am:Hd (∃cs,xe w jj cs):=⟨_,xT.spliced xW.out xX (by rw[vZ.len];simp) xS.o⟩;clear xW xX;refine ac.out _ _ (fun hun=>trivial) ?_;clear ac a4;try simp only[ap,aq,sa,sb,sc]
 refine r4 kr ?_ _;clear fm xV xU;obtain⟨n6,iJ⟩:=Am.o;have oq:=lh iJ;have Ao:Hd (jj.rangeAt (w.heap.size+1) 0 n6):=fun a8 ak aQ=>by rw[Nat.zero_add,oq.x.cell];exact aQ
 have xY:Hd ((prog.info? 189).map (·.size)=some n6.length):=by rw[oq.len];exact Dp
 have xZ:Hd ((prog.info? 189).map (·.size)=some n6.toArray.size):=by rw[List.size_toArray];exact xY.o
 have x':Hd (jj.heap[w.heap.size]?=some (.cells k3.toArray 189 (0,0))):=oq.r;have Ap:Hd (n6.toArray.all (·.oneCell')=true):=all_oneCell_toArray oq.u8.one;have Aq:Hd (k3.toArray.size=n6.toArray.size):=by have Z:=oq.len;show _=_;simp[k3,Z]
 clear iJ
 go_wp2_with (first | (with_reducible refine wpList_load_mid rfl 189 (.tmp 10) rfl (w.heap.size+1) 0 rfl n6 _ Ao.o underlying189 rfl xY.o ?_) | (with_reducible refine wpList_store_rowTo rfl 189 (.tmp 8) (.tmp 62) rfl rfl w.heap.size n6.toArray rfl rfl 189 k3.toArray x'.o xZ.o Aq.o Ap.o ?_))
 refine bodyPost_ret (v:=.tuple #[.agg n6.toArray,iZ]) (Jp (p:=8) (u:=9) (ty:=189) rfl _ _ w.heap.size 189 _ (0,0) _ rfl (setRow_heap _ _ _ _ _ _ x'.o) underlying189 rfl xZ.o _ rfl) rfl ⟨n6,0,rfl,oq.len,oq.u8,Bd oq.bel (nr _) _⟩):q:=h
theorem L0:(prog.info? 5).map (·.size)=some 1:=by kernel_rfl
structure xe (w W:World) (cs:List Value):Prop where
 x:hA W (w.heap.size+1) 189 cs
 len:cs.length=48
 u8:Du cs
 r:hA W w.heap.size 189 k3
 bel:BW w W
section
variable {w W W':World} {cs:List Value}
theorem xe.B (h:xe w W cs) (a:BW W W'):xe w W' cs:=⟨h.x.B a,h.len,h.u8,h.r.B a,hJ h.bel a⟩
theorem xe.set (h:xe w W cs) (c:Nat) (a:Int):xe w (W.setCell (Ad (w.heap.size+1) c) (.int .u8 a)) (cs.set c (.int .u8 a)) :=
 ⟨h.x.set _ _,by rw[List.length_set];exact h.len,fun e d=>by
  rcases List.mem_or_eq_of_mem_set d with b | b;·exact h.u8 e b
  ·exact⟨a,b⟩,h.r.setOther om _ _,k1 h.bel om⟩
theorem xe.at' (h:xe w W cs) {j:Nat} (c:j<48):∃a,W.cell? (Ad (w.heap.size+1) j)=some (.int .u8 a):=by have d:=h.len;obtain⟨a,b⟩:=h.u8 _ (List.getElem_mem (show j<cs.length by omega));exact⟨a,by rw[h.x.cell,List.getElem?_eq_getElem om,b]⟩
theorem xe.spliced {e:Nat} {b:List Value} (h:xe w W cs) (j:W'.heap[w.heap.size+1]?=some (.cells (splice cs e b).toArray 189 (0,0))) (f:Below (w.heap.size+1) W W') (g:e+b.length<=cs.length) (i:Du b):xe w W' (splice cs e b) :=
 ⟨j,by rw[length_splice _ _ _ g];exact h.len,fun d c=>by
  unfold splice at c;simp only[ma]at c;rcases c with a | a | a;·exact h.u8 d (List.mem_of_mem_take a)
  ·exact i d a
  ·exact h.u8 d (List.mem_of_mem_drop a),(f.block _ (Nat.lt_succ_self _)).trans h.r,h.bel.trans (f.mono (Nat.le_succ _))⟩
end
def IU (w:World) (a:Ending) (b:World):Prop:=∃(cs:List Value) (c:Int),a=.returned (.tuple #[.agg cs.toArray,iV c])/\cs.length=48/\Du cs/\BW w b
theorem Xs (n:Nat) (r:n<=20000) (first a:Bool) (ak) (bs:List Int) (f:1<=bs.length/\bs.length<=41) (e:bs.length<41->a=true) (w:World) (aQ:Sl .u8 w ak bs) :
 Calls prog 103 #[iV (n:Int),.bool first,.bool a,ak] w (IU w):=by
 have br:=lh aQ;obtain⟨aF,aC,rfl⟩:=aQ.shape;have bp:=lh f;obtain⟨bN,g,dY⟩:∃W,((w.alloc (.cells k3.toArray 189)).alloc (.cells k3.toArray 189))=W/\Hd (∃cs,xe w W cs):=⟨_,rfl,k3,w3 _ _ _ _ (wa _ _),by simp[k3],fun ak aQ=>⟨0,List.eq_of_mem_replicate aQ⟩,(hR w _ _ _ rfl).B (hB bR _),hB (hB bR _) _⟩;have m:¬(n:Int)<0:=om;have l:¬(20000:Int)<(n:Int):=om;have o:¬(bs.length:Int)<1:=om;have s:¬(41:Int)<(bs.length:Int):=om;have d:a=true\/¬(bs.length:Int)<41:=by
  by_cases h:bs.length<41;·exact .inl (e h)
  ·exact .inr om
 clear aQ e f;go_enter func103,ntmps103;go_upto_region 2 with fail;change Code.wp _ _ _ _ ((w.alloc (.cells k3.toArray 189)).alloc (.cells k3.toArray 189));rw[g];clear g;by_cases j:(bs.length:Int)<41
 ·obtain rfl:a=true:=by
   rcases d with h | h;·exact h
   ·exact absurd j h
  clear d;cases first with
  | true=>exact Jj
  | false=>exact Do
 ·clear d;cases first with
  | true =>
   cases a with
   | true=>exact Jj
   | false =>
    refine Ly ?_;unhygienic intros
    go_upto_region 6 with fail;refine Q2 ?_;clear oV oW oX;intro fR iF;obtain⟨xL,dP⟩:=(iF.choose_spec).at' (j:=5) om;have vW:=(iF.choose_spec).x.frozen 5;have vX:=(iF.choose_spec).x.lt;go_upto_region 9 with fail;obtain⟨bj,aW,ee⟩:∃W,fR.setCell (Ad (w.heap.size+1) 5) (.int .u8 (bs.length:Int))=W/\Hd (∃cs,xe w W cs):=⟨_,rfl,by obtain⟨cs,k⟩:=iF.o;exact⟨_,k.set 5 _⟩⟩;exact IJ
  | false =>
   cases a with
   | true=>exact Do
   | false=>obtain⟨xL,dP⟩:=(dY.choose_spec).at' (j:=5) om;have vW:=(dY.choose_spec).x.frozen 5;have vX:=(dY.choose_spec).x.lt;go_upto_region 9 with fail;obtain⟨bj,aW,ee⟩:∃W,bN.setCell (Ad (w.heap.size+1) 5) (.int .u8 (bs.length:Int))=W/\Hd (∃cs,xe w W cs):=⟨_,rfl,by obtain⟨cs,k⟩:=dY.o;exact⟨_,k.set 5 _⟩⟩;exact IJ
theorem Uk {e:Nat->Int} (h:k5 n m k i e w) (a:Nat) (r:a<i) (g:e a=0):Calls prog 97 #[pV m,iV (a:Int)] w (RetB (.tuple #[sZ,iZ,.bool false]) w):=by
 have o:=lh h;clear h;go_enter func97,ntmps97;go_wp2_with fail;go_loopg [1] 0 (fun s j wr=>j=iV (a:Int)/\BW w wr);case atStart=>exact⟨rfl,bR⟩
 case round =>
  obtain⟨rfl,b⟩:=hrel;have l:=lh (o.o.B b);have p:=lh b;clear b;go_wp2_with fail;refine(N6 l.o a r g).mono ?_;rintro _ f ⟨rfl,d⟩;have c:Hd (BW w f):=hJ p.o d;clear d
  go_wp2_with (with_reducible refine wpList_store_rowTo rfl 189 (.tmp 9) (.tmp 22) rfl rfl f.heap.size k3.toArray rfl rfl 189 _ (heap_alloc_new _ _) Hf (by simp[k3]) (by simp[k3,Value.oneCell']) ?_)
  refine bodyPost_ret (results_tmp3 rfl _ _ _) rfl ⟨rfl,Bd (hB c.o _) c.size _⟩
def wz (d a e:Nat) (c:Value) (f:Nat) (i:Nat) (w:World):Prop :=
 d<=a/\hA w a 186 [pV e,iZ,c,iV (i:Int)]/\∃b:List Value,w.ownsRow d 135 1 c f b/\∀g∈b,g.oneCell'=true
theorem wz.B (h:wz n m k v i j w) (a:BW w W):wz n m k v i j W:=by obtain⟨e,b,d,f,c⟩:=h;exact⟨e,b.B a,d,ic f a,c⟩
def Th (i b d e:Nat) (f:List Nat) (w:World) (g:Ending) (a:World):Prop:=∃c,g=.returned (.tuple #[pV c,iZ])/\wz w.heap.size c b (sZ) 0 0 a/\k5 i b d e (fun _=>0) a/\hC f w a
theorem Zf (Q:1<=i/\i<=20000) (h:k5 n m k i (fun _=>0) w):Calls prog 56 #[pV m] w (Th n m k i [k,m] w):=by
 have O:=lh h;have u:=lh Q;clear h Q;go_enter func56,ntmps56;go_wp2_with fail;refine(QX O.o).mono ?_;rintro _ ay ⟨rfl,y⟩;have M:=lh (O.o.B y);have am:=lh y;clear y;go_wp2_with fail;refine(PZ M.o).mono ?_;rintro _ a ⟨rfl,v⟩;have x:=lh (M.B v);have P:Hd (BW w a):=hJ am.o v;clear v;go_wp2_with fail;obtain⟨ai,G,aa,ak,ac⟩:∃e,a.alloc (.cells #[pV m,iZ,sZ,iZ] 186)=e/\Hd (k5 n m k i (fun _=>0) e)/\Hd (wz w.heap.size a.heap.size m (sZ) 0 0 e)/\Hd (BW w e):=⟨_,rfl,x.B (hB bR _),⟨P.size,hR a _ _ _ rfl,[],BT _ _ _ _,by simp⟩,hB P.o _⟩;with_reducible rw[G]
 clear G;refine(M9 u.2 aa.o).mono ?_;rintro _ p ⟨rfl,I,o⟩;have ab:Hd (k5 n m k i (fun _=>0) p):=I.congr (fun a4 _=>by unfold w9;rw[if_neg Is]);have ad:Hd (hC [k,m] w p):=(hC.of_below ac.o:hC [k,m] w ai).trans o (fun r ar=>.inl ar);have av:Hd (wz w.heap.size a.heap.size m (sZ) 0 0 p):=by
  obtain⟨W,ax,ae,Y,c⟩:=ak.o;have a0:=x.blk.lt;have a1:k<a.heap.size:=by obtain⟨_,_,_,q,_⟩:=x.o;exact q.lt
  exact⟨W,ax.keep o (fun au=>by simp only[mc,nn,or_false]at au;omega),ae,p1 Y o (fun b d=>by cases d),c⟩
 clear I o;go_wp2_with fail;go_loopg [8] 0 (fun H r wr=>k5 n m k i (fun _=>0) wr/\wz w.heap.size a.heap.size m (sZ) 0 0 wr/\hC [k,m] w wr);case atStart=>exact⟨ab.o,av.o,ad.o⟩
 case round =>
  obtain⟨K,c,L⟩:=hrel;have D:=lh K;have aw:=lh c;have an:=lh L;have t:wr.cell? (Ad a.heap.size 3)=some (iZ):=c.2.1.cell 3;clear K c L;go_wp2_with fail;refine(Uk D.o 0 u.1 rfl).mono ?_;rintro _ Z ⟨rfl,f⟩;have T:=lh (D.B f);have E:=lh (aw.B f);have af:=lh (an.B f);clear f t;have t:Z.cell? (Ad a.heap.size 3)=some (iZ):=E.2.1.cell 3;go_wp2_with fail;clear t;go_loopg [9] i (fun H r wr=>∃a2:Nat,a2+H=i/\r=iV (a2:Int)/\k5 n m k i (fun _=>0) wr/\wz w.heap.size a.heap.size m (sZ) 0 0 wr/\hC [k,m] w wr);case atStart=>exact⟨0,by omega,rfl,T.o,E.o,af.o⟩
  case round =>
   obtain⟨a2,F,rfl,J,S,B⟩:=hrel;have A:=lh J;have ah:=lh S;have X:=lh B;have R:=lh F;clear J S B;go_wp2_with fail;refine(Q5 A.o).mono ?_;rintro _ a3 ⟨rfl,j⟩;have s:=lh (A.B j);have C:=lh (ah.B j);have z:=lh (X.B j);clear j;cases gk with
   | zero=>have V:¬((a2:Int)<i):=om;go_wp2_with fail;go_ret2;exact⟨_,rfl,C.o,s.o,z.o⟩
   | succ aj =>
    have V:(a2:Int)<i:=om;have az:wrap64 ((a2:Int)+1)=(a2:Int)+1:=wi _ ⟨by omega,oo u.2⟩;clear F;go_wp2_with fail;refine(N6 s.o a2 (oo R.o) rfl).mono ?_;rintro _ l ⟨rfl,g⟩;have ao:=lh (s.B g);have al:=lh (C.B g);have ag:=lh (z.B g);clear g
    go_wp2_with (with_reducible refine wpList_store_rowTo rfl 189 (.tmp 10) (.tmp 69) rfl rfl l.heap.size k3.toArray rfl rfl 189 _ (heap_alloc_new _ _) Hf (by simp[k3]) (by simp[k3,Value.oneCell']) ?_)
    go_roundg aj;case measure=>omega
    case rel=>have d:BW l ((l.alloc (.cells #[.int .u8 0,.int .u8 0,.int .u8 0,.int .u8 0,.int .u8 0,.int .u8 0,.int .u8 0,.int .u8 0,.int .u8 0,.int .u8 0,.int .u8 0,.int .u8 0,.int .u8 0,.int .u8 0,.int .u8 0,.int .u8 0,.int .u8 0,.int .u8 0,.int .u8 0,.int .u8 0,.int .u8 0,.int .u8 0,.int .u8 0,.int .u8 0,.int .u8 0,.int .u8 0,.int .u8 0,.int .u8 0,.int .u8 0,.int .u8 0,.int .u8 0,.int .u8 0,.int .u8 0,.int .u8 0,.int .u8 0,.int .u8 0,.int .u8 0,.int .u8 0,.int .u8 0,.int .u8 0,.int .u8 0,.int .u8 0,.int .u8 0,.int .u8 0,.int .u8 0,.int .u8 0,.int .u8 0,.int .u8 0] 189)).setRow l.heap.size k3.toArray):=Bd (hB bR _) (nr _) _;exact⟨a2+1,oo R.o,by go_num,ao.B d,al.B d,ag.B d⟩
theorem OR {lp:Nat} {B:Nat->Int} (r:wz n m k v g M w) (p:k5 lp k i j B w):Calls prog 61 #[pV m] w (RetB (iZ) w):=by
 have e:=lh r;have u:=lh p;clear r p;have b:Hd (∀a,BW w a->Ce a m 0 (pV k)/\Ce a m 1 (iZ)):=fun a f=>⟨(e.2.1.B f).cell 0,(e.2.1.B f).cell 1⟩;have y:=b.o w bR;have A:=b.o w.drew (hG bR);go_enter func61,ntmps61;go_wp2_with fail;go_region_held3 (fun a=>Ce a m 0 (pV k)/\Ce a m 1 (iZ)) (first | with_reducible exact y | with_reducible exact A | with_reducible exact z | with_reducible exact x | with_reducible assumption)
  (first
   | (go_at_call 94;refine(QX (u.B (hG bR))).mono ?_;rintro _ d ⟨rfl,s⟩;have c:Hd (BW w d):=hJ (hG bR) s;have z:=b.o d c.o;clear s)
   | (go_at_call 95;refine(PZ (u.B c.o)).mono ?_;rintro _ t ⟨rfl,o⟩;have l:Hd (BW w t):=hJ c.o o;have x:=b.o t l.o;clear o))
 all_goals
  go_wp2_with fail;go_ret;exact⟨rfl,l.o⟩
theorem Yw (a:wz n m k (sZ) 0 i w):Calls prog 57 #[pV m] w (RetB (sZ) w):=by
 have f:=lh a;have d:=a.2.1.cell 2;clear a;go_enter func57,ntmps57;go_wp2_with fail;go_loopg [3,13] 0 (fun e b c wr=>b=sZ/\c=iZ/\wr=w);case atStart=>exact⟨rfl,rfl,rfl⟩
 case round=>obtain⟨rfl,rfl,rfl⟩:=hrel;go_wp2_with fail;go_ret;exact⟨rfl,bR⟩
theorem Rd.offL {φ:World->Prop} (h:Rd F W φ) (ck:∀f fR,hC G f fR->φ f->φ fR) (a:hC G W Y):Rd F Y φ:= fun fR b=>by
 have g:W.heap.size<=fR.heap.size:=nt a.size b.size
 let cg:World:={ fR with heap:=fR.heap.mapIdx fun k c=>if k∈G then (W.heap[k]?).getD c else c }
 have cF:∀k,cg.heap[k]?=(fR.heap[k]?).map fun c=>if k∈G then (W.heap[k]?).getD c else c:=fun k=>by show(Array.mapIdx _ _)[k]?=_;rw[Array.getElem?_mapIdx]
 have bK:hC F W cg:=⟨b.os.trans a.os,b.tape.trans a.tape,b.output.trans a.output,by show _<=(Array.mapIdx _ _).size;simpa using g,fun k d eB=>by
  rw[cF];by_cases e:k∈G;·rw[Array.getElem?_eq_getElem (Nat.lt_of_lt_of_le d g),Array.getElem?_eq_getElem d];simp[e]
  ·rw[b.block k (Nat.lt_of_lt_of_le d a.size) eB,a.block k d e]
   simp[e]⟩
 exact Kq
theorem i2.off {L:List Nat} {f:AV} (h:i2 m i A F w f) (aA:GO dI f) (e:∀x∈F,dI<=x) (e7:∀x∈L,x<dI) (a:hC L w W):i2 m i A F W f:=by
 refine HM ?_;clear aA;unhygienic intros
 obtain⟨o,r,t,l,j⟩:=h.adj;exact⟨h.blk.keep a (iK _ (e _ h.gF)),h.gF,fun x aj=>⟨(h.lt x aj).1,Nat.lt_of_lt_of_le (h.lt x aj).2 a.size⟩,
  h.rd.offL (fun u v k q=>⟨q.1.keep k (dT _ gG),q.2.1.keep k (iK _ gH) (dT _ gI) (dT _ gJ),⟨Nat.zero_le _,q.2.2.1.2.1.keep k (iK _ uS),p1 q.2.2.1.2.2 k (fun g s=>iK _ (uT g s))⟩,q.2.2.2.1.keep k (dT _ uU),q.2.2.2.2.1.keep k (dT _ uV),⟨q.2.2.2.2.2.1.1.keep k (fun ak aQ=>dT ak (uX ak aQ)),Fl.keep q.2.2.2.2.2.1.2 k (dT _ uW)⟩,q.2.2.2.2.2.2.keep k (fun ak aQ=>dT ak (uY ak aQ))⟩) a,
  p1 h.iss a (fun q d=>iK _ (e _ (h.issF q d))),h.issF,⟨o,r,t,l,p1 j a (fun q d=>iK _ (e _ (h.adjF q d)))⟩,h.adjF⟩
theorem wz.off (h:wz n m k v i j w) (a:hC F w W) (e:m∉F) (b:∀q,v.ownBlock=some q->q∉F):wz n m k v i j W:=by obtain⟨c,g,d,l,f⟩:=h;exact⟨c,g.keep a e,d,p1 l a b,f⟩
theorem UI (e:Nat) (z:e<=20000) (first:Bool) (d) (b:List Int) (r:1<=b.length/\b.length<41) (w:World) (c:Sl .u8 w d b) :
 Calls prog 103 #[iV (e:Int),.bool first,.bool false,d] w (IU w):=by
 obtain⟨x,y,rfl⟩:=c.shape;obtain⟨k,f,n⟩:∃g,((w.alloc (.cells k3.toArray 189)).alloc (.cells k3.toArray 189))=g/\Hd (xe w g k3):=⟨_,rfl,w3 _ _ _ _ (wa _ _),by simp[k3],fun d c=>⟨0,List.eq_of_mem_replicate c⟩,(hR w _ _ _ rfl).B (hB bR _),hB (hB bR _) _⟩;have B:¬(e:Int)<0:=om;have C:¬(20000:Int)<(e:Int):=om;have t:¬(b.length:Int)<1:=om;have v:¬(41:Int)<(b.length:Int):=om;have A:(b.length:Int)<41:=om;clear c r;go_enter func103,ntmps103;go_upto_region 2 with fail;change Code.wp _ _ _ _ ((w.alloc (.cells k3.toArray 189)).alloc (.cells k3.toArray 189));rw[f];clear f;have a:=n;have o:Hd (k.rangeAt (w.heap.size+1) 0 k3):=fun s d c=>by rw[Nat.zero_add,a.x.cell];exact c
 have l:Hd ((prog.info? 189).map (·.size)=some k3.length):=by rw[a.len];exact Dp
 have j:Hd ((prog.info? 189).map (·.size)=some k3.toArray.size):=by rw[List.size_toArray];exact l.o
 have i:Hd (k.heap[w.heap.size]?=some (.cells k3.toArray 189 (0,0))):=a.r;have m:Hd (k3.toArray.all (·.oneCell')=true):=all_oneCell_toArray a.u8.one
 go_wp2_with (first | (with_reducible refine wpList_load_mid rfl 189 (.tmp 10) rfl (w.heap.size+1) 0 rfl k3 _ o.o underlying189 rfl l.o ?_) | (with_reducible refine wpList_store_rowTo rfl 189 (.tmp 8) (.tmp 37) rfl rfl w.heap.size k3.toArray rfl rfl 189 k3.toArray i.o j.o rfl m.o ?_))
 refine bodyPost_ret (v:=.tuple #[.agg k3.toArray,iV 1]) (Jp (p:=8) (u:=9) (ty:=189) rfl _ _ w.heap.size 189 _ (0,0) _ rfl (setRow_heap _ _ _ _ _ _ i.o) underlying189 rfl j.o _ rfl) rfl ⟨k3,1,rfl,a.len,a.u8,Bd a.bel (nr _) _⟩
theorem RP (b:Nat) (i:b<=20000) (first c:Bool) (d) (a:List Int) (g:1<=a.length/\a.length<=41) (w) (f:Sl .u8 w d a) :
 Calls prog 103 #[iV (b:Int),.bool first,.bool c,d] w (IU w):=by
 by_cases h:a.length<41/\c=false;·obtain⟨e,rfl⟩:=h;exact UI b i first d a ⟨g.1,e⟩ w f
 ·refine Xs b i first c d a g (fun e=>?_) w f
  cases c with
  | true=>rfl
  | false=>exact absurd ⟨e,rfl⟩ h
end Go.Proofs.YtkongpjpkpfniaaGreat

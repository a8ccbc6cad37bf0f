/- TopBooks, a part. -/
import Derived.Laws.CopyRow
import Derived.Laws.NewBlocks
import Derived.Lib.AppendZeros
import Derived.Lib.AppendZerosOnto
import Derived.Lib.Overlaps
import Derived.Test.YtkongpjpkpfniaaGreatC06
import Derived.Test.YtkongpjpkpfniaaGreatC08
set_option linter.unusedVariables false
set_option linter.unusedSimpArgs false
set_option maxRecDepth 100000
set_option maxHeartbeats 6400000
namespace Go.Proofs.YtkongpjpkpfniaaGreat
open Go.RowKit Go.Proofs.Tryz
variable {K:IntKind} {r:List Int} {F G:List Nat} {l:List R5} {C X:List Value} {i j k m n:Nat} {p q:Prop} {E:R5} {e:TypeId} {u v:Value} {W w:World}
theorem IL (h:q:=by intro c cH;simp only[wY,List.mem_flatMap,mc,nn,or_false]at cH;obtain⟨x,_,rfl | rfl | rfl⟩:=cH <;> rfl):q:=h
structure Tm where
 lim:Int
 ts:List (Int×Bool)
 cyc:Int
 dued:Int
 minf:Int
 minp:Int
 start:Int
def Tm.cells (a:Tm) (b:Value):List Value:=[iV a.lim,b,iV a.cyc,iV a.dued,iV a.minf,iV a.minp,iV a.start]
def Tm.right (a:Tm):Bool:=hu a.lim a.ts a.cyc a.dued a.minf a.minp a.start
def BP (b:List (Int×Bool)):List Value:=b.flatMap fun a=>[iV a.1,.bool a.2]
theorem F3 (c:List (Int×Bool)):∀a∈BP c,a.oneCell'=true:=by intro a b;simp only[BP,List.mem_flatMap,mc,nn,or_false]at b;obtain⟨d,_,rfl | rfl⟩:=b <;> rfl
theorem Z8 (a:List (Int×Bool)):(BP a).length=a.length*2:=by
 induction a with
 | nil=>rfl
 | cons b a d=>have c:BP (b::a)=iV b.1::.bool b.2::BP a:=rfl;rw[c];simp only[List.length_cons,d];omega
theorem M0 (a:List (Int×Bool)) (i:Nat) (aA:i<a.length):(BP a)[i*2]?=some (iV (a.getD i (0,false)).1)/\(BP a)[i*2+1]?=some (.bool (a.getD i (0,false)).2):=by
 induction a generalizing i with
 | nil=>simp at aA
 | cons b a ni=>have I:BP (b::a)=iV b.1::.bool b.2::BP a:=rfl;exact OI
theorem h7.fl {b:List (Int×Bool)} (h:h7 w v b):Fl 2 b.length w v (BP b):=by
 obtain⟨g,k,rfl,j,e,o⟩:=h;refine⟨Z8 b,F3 b,g,k,rfl,j,e,fun p=>?_⟩;obtain⟨n,f,rfl,s⟩:=o (by intro d;subst d;simp at p);refine⟨n,f,rfl,fun a t=>?_⟩;obtain⟨i,l⟩:=s (a/2) om;obtain⟨r,m⟩:=M0 b (a/2) om;rcases Nat.mod_two_eq_zero_or_one a with d | d;·have c:a=a/2*2:=om;rw[c,i,r]
 ·have c:a=a/2*2+1:=om;rw[c,<-Nat.add_assoc,l,m]
theorem h7.of_fl {l:List (Int×Bool)} (h:Fl 2 l.length w v (BP l)):h7 w v l:=by obtain⟨_,_,d,i,rfl,g,e,k⟩:=h;refine⟨d,i,rfl,g,e,fun o=>?_⟩;obtain⟨f,m,rfl,b⟩:=k (List.length_pos_iff.2 o);refine⟨f,m,rfl,fun a n=>?_⟩;obtain⟨c,j⟩:=M0 l a n;exact⟨(b (a*2) om).trans c,by rw[Nat.add_assoc];exact(b (a*2+1) om).trans j⟩
theorem h7.keep {a:List (Int×Bool)} (h:h7 w v a) (b:hC F w W) (c:hL F v):h7 W v a:=h7.of_fl (Fl.keep h.fl b c)
theorem h7.shape {c:List (Int×Bool)} (h:h7 w v c):∃a b,v=.slice a c.length b:=by obtain⟨a,b,rfl,_⟩:=h;exact⟨a,b,rfl⟩
theorem Pj (d) (a:List (Int×Bool)) (w) (j:h7 w d a) (p:a.length<=100000) :
 Calls prog 28 #[d] w (fun f c=>∃b,f=.returned b/\h7 c b a/\Fr w b/\BW w c) :=
 (VC d a.length (BP a) w j.fl p).mono fun f c ⟨b,k,e,n⟩=>⟨b,k,h7.of_fl (Fl.of_own e (F3 a)),fun l o i m g _=>BY e l o i m g,n⟩
theorem hz.fl {d:List (Int×Int×Int)} (h:hz w v d):Fl 3 d.length w v (wY d):=by
 obtain⟨j,n,rfl,m,f,s⟩:=h;refine⟨OH d,?_,j,n,rfl,m,f,fun t=>?_⟩;·exact IL
 obtain⟨r,g,rfl,cH⟩:=s (by intro e;subst e;simp at t);refine⟨r,g,rfl,fun a z=>?_⟩;obtain⟨l,o,i⟩:=cH (a/3) om;obtain⟨y,p,k⟩:=Iy d (a/3) om;have u:a%3=0\/a%3=1\/a%3=2:=om;rcases u with e | e | e;·have b:a=a/3*3:=om;rw[b,l,y]
 ·have b:a=a/3*3+1:=om;rw[b,<-Nat.add_assoc,o,p]
 ·have b:a=a/3*3+2:=om;rw[b,<-Nat.add_assoc,i,k]
theorem hz.of_fl {l:List (Int×Int×Int)} (h:Fl 3 l.length w v (wY l)):hz w v l:=by obtain⟨_,_,e,j,rfl,i,f,n⟩:=h;refine⟨e,j,rfl,i,f,fun p=>?_⟩;obtain⟨g,m,rfl,b⟩:=n (List.length_pos_iff.2 p);refine⟨g,m,rfl,fun a o=>?_⟩;obtain⟨c,k,d⟩:=Iy l a o;exact⟨(b (a*3) om).trans c,by rw[Nat.add_assoc];exact(b (a*3+1) om).trans k,by rw[Nat.add_assoc];exact(b (a*3+2) om).trans d⟩
theorem hz.keep {a:List (Int×Int×Int)} (h:hz w v a) (b:hC F w W) (c:hL F v):hz W v a:=hz.of_fl (Fl.keep h.fl b c)
theorem Ya (a:List (Int×Int×Int)):∀c∈wY a,c.oneCell'=true:=by exact IL
theorem Uu (d) (a:List (Int×Int×Int)) (w) (j:hz w d a) (p:a.length<=100000) :
 Calls prog 80 #[d] w (fun f c=>∃b,f=.returned b/\hz c b a/\Fr w b/\BW w c) :=
 (Yh d a.length (wY a) w j.fl p).mono fun f c ⟨b,k,e,n⟩=>⟨b,k,hz.of_fl (Fl.of_own e (Ya a)),fun l o i m g _=>BY e l o i m g,n⟩
theorem LR (d) (a:List R5) (w:World) (g:h4 w d a) (k:a.length<=100000) :
 Calls prog 130 #[d] w (fun e c=>∃b,e=.returned b/\c.ownsRow w.heap.size 150 5 b a.length (k8 a)/\BW w c) :=
 (V3 d a.length (k8 a) w g k).mono fun e c ⟨b,i,f,j⟩=>⟨b,i,f,j⟩
theorem Qn (d) (a:List R5) (w:World) (g:h4 w d a) (k:a.length<=100000) :
 Calls prog 68 #[d] w (fun e c=>∃b,e=.returned b/\c.ownsRow w.heap.size 155 5 b a.length (k8 a)/\BW w c) :=
 (yqf d a.length (k8 a) w g k).mono fun e c ⟨b,i,f,j⟩=>⟨b,i,f,j⟩
def qq (w:World) (d:Nat) (c:Tm) (b a:Value) (e:List R5):Prop :=
 hA w d 125 (c.cells b++[a])/\h7 w b c.ts/\h4 w a e
theorem qq.B {b:Tm} (h:qq w n b v u l) (a:BW w W):qq W n b v u l:=
 ⟨h.1.B a,h.2.1.B a,h.2.2.B a⟩
theorem qq.keep {b:Tm} (h:qq w n b v u l) (a:hC F w W) (d:n∉F) (c:hL F v) (e:hL F u):qq W n b v u l:=
 ⟨h.1.keep a d,h.2.1.keep a c,h.2.2.keep a e⟩
def J1:Option Value->Nat
 | some (.int _ x)=>x.toNat
 | _=>0
theorem Yq (a:Nat):J1 (some (iV (a:Int)))<J1 (some (iV ((a+1:Nat):Int))):=by show(a:Int).toNat<((a+1:Nat):Int).toNat;omega
theorem TP (b:Tm) (t) (w:World) (o:h7 w t b.ts) (f:b.ts.length<=1000) :
 Calls prog 29 #[.agg (b.cells t).toArray] w (fun c r=>∃k n,c=.returned (pV k)/\qq r k b n (sZ) []/\w.heap.size<=k/\Fr w n/\BW w r):=by
 have K:=lh o;obtain⟨H,D,rfl⟩:=o.shape;clear o;obtain⟨z,a,C,G,A,F,I⟩:=b;simp only[Tm.cells]at *;go_enter func29,ntmps29;go_wp2_with fail;refine(Pj _ a _ (K.B (hB bR _)) om).mono ?_;rintro _ y ⟨n,rfl,g,v,j⟩;obtain⟨e,d,rfl⟩:=g.shape;have M:=lh g;have s:=lh v;have u:=lh j;have x:=lh ((hR w [iV z,.slice H a.length D,iV C,iV G,iV A,iV F,iV I] 24 _ rfl).B j);clear g v j;obtain⟨P,Q,R,S,W,T,V,-⟩:=x.cS [0,1,2,3,4,5,6];have O:=x.frozen 1;go_wp2_with fail;go_ret;have E:hC [w.heap.size] y (y.setCell (Ad w.heap.size 1) (.slice e a.length d)):=(hC.refl _ _).setCell (.inl (ms.2 rfl)) _;have B:Fr w (.slice e a.length d):=fun m i l p c f=>by have:=s.o m i l p c f;rw[wa]at this;omega
 have L:hL [w.heap.size] (.slice e a.length d):=fun m i l p c f J=>by have:=s.o m i l p c f;rw[wa]at this;simp only[ms]at J;omega
 refine⟨_,.slice e a.length d,rfl,⟨hR _ _ _ _ (by rw[World.size_setCell]),(M.keep E L).B (hB bR _),h4.nil⟩,?_,B,?_⟩;·have:=u.size;rw[wa]at this;omega
 ·exact hB ((hJ (hB bR _) u.o).setCell (show w.heap.size<=w.heap.size from nr _) _) _
def BX (a:Int) (b:List R5):Nat->Nat
 | 0=>0
 | k+1=>if a<(b.getD k Sk).b then BX a b k else k+1
theorem NA (l) (a:List R5) (ac:Int) (p:Nat) (F:Hd (BX ac a a.length=p)) (w) (aQ:h4 w l a) :
 Calls prog 157 #[l,iV ac] w (RetB (iV (p:Int)) w):=by
 have Y:=lh aQ;obtain⟨C,G,rfl⟩:=aQ.shape;refine S1 ?_;intro gv ik il;clear aQ;go_enter func157,ntmps157;go_wp2_with fail;refine sq 0 (fun f t=>∃(k:Nat) (E I H R x W L s r Z V T Q J D K X u B S:Value),f={ tmps:=#[.slice C a.length G,iV ac,E,I,H,iV (k:Int),R,x,W,L,s,r,Z,V,T,Q,J,D,K,X,u,B,S],defers:=[] }/\k<=a.length/\Hd (BX ac a k=p)/\w=t)
  (fun f _=>J1 f.tmps[5]?) rfl ?pass ?first
 case pass =>
  intro aj aa d A m;obtain⟨k,d⟩:=d;iterate 20 obtain⟨_,d⟩:=d
  obtain⟨rfl,e,c,rfl⟩:=d;have v:=lh m;clear m;cases k with
  | zero=>have y:Hd (p=0):=c.symm;go_wp2_with fail;simp only[Exit.jump];go_ret;exact⟨by rw[y.o];rfl,bR⟩
  | succ k =>
   have ad:(0:Int)<((k+1:Nat):Int):=om;have ai:wrap64 (((k+1:Nat):Int)-1)=(k:Int):=by rw[wi _ ⟨by omega,by omega⟩];omega
   have ab:(k:Int)<a.length:=om;obtain⟨b,o,z,rfl,⟨al,ae,af,ah,ak⟩,ag⟩:=Y.get (i:=k) om;have O:=lh e;by_cases j:ac<z.b
   ·have g:Hd (BX ac a k=p):=by
     have h:=c.o;rw[BX,ag.o,if_pos j]at h;exact h
    clear e c;go_wp2_with fail;go_step3;exact⟨rfl,v.o _ _ ⟨k,_,_,_,_,_,_,_,_,_,_,_,_,_,_,_,_,_,_,_,_,rfl,oo O.o,g,rfl⟩ (Yq k)⟩
   ·have g:Hd (p=k+1):=by
     have h:=c.o;rw[BX,ag.o,if_neg j]at h;exact h.symm
    clear e c;go_wp2_with fail;simp only[Exit.jump];go_ret;exact⟨by rw[g.o];rfl,bR⟩
 case first=>intro A M n;have P:=lh n;clear M n;go_wp2_with fail;go_step3;go_step;go_step;exact P.o _ _ ⟨a.length,_,_,_,_,_,_,_,_,_,_,_,_,_,_,_,_,_,_,_,_,rfl,nr _,F.o,rfl⟩
theorem PP (b:Nat) (m:Tm) (t I) (c:List R5) (w:World) (W:qq w b m t I c) (V:c.length<=100000) :
 Calls prog 81 #[pV b] w (fun e f=>∃i l,e=.returned (pV i)/\qq f i m t l c/\f.ownsRow w.heap.size 150 5 l c.length (k8 c)/\w.heap.size<=i/\BW w f):=by
 obtain⟨G,g,j⟩:=W;have u:=lh G;have ab:=lh g;have Y:=lh j;obtain⟨A,p,rfl⟩:=j.shape;obtain⟨D,s,rfl⟩:=g.shape;obtain⟨n,F,r,C,o,x,E⟩:=m;simp only[Tm.cells,List.cons_append,List.nil_append]at *;obtain⟨M,O,P,R,Z,S,X,L,-⟩:=u.cS [0,1,2,3,4,5,6,7];clear G g j;have aa:∀a,BW w a->(Ce a b 0 (iV n)/\Ce a b 1 (.slice D F.length s)/\Ce a b 2 (iV r)/\Ce a b 3 (iV C)/\Ce a b 4 (iV o)/\Ce a b 5 (iV x)/\Ce a b 6 (iV E)/\Ce a b 7 (.slice A c.length p)):=fun a h =>
  have q:=u.B h
  ⟨q.cell 0,q.cell 1,q.cell 2,q.cell 3,q.cell 4,q.cell 5,q.cell 6,q.cell 7⟩
 have B:=lh aa;have J:=aa w bR;have Q:=aa w.drew (hG bR);clear aa;go_enter func81,ntmps81;go_upto_region 3 with fail;clear M O P R Z S X L;go_region_held3 (fun a=>(Ce a b 0 (iV n)/\Ce a b 1 (.slice D F.length s)/\Ce a b 2 (iV r)/\Ce a b 3 (iV C)/\Ce a b 4 (iV o)/\Ce a b 5 (iV x)/\Ce a b 6 (iV E)/\Ce a b 7 (.slice A c.length p))) (first | with_reducible exact J | with_reducible exact Q | with_reducible exact H | with_reducible exact B.o _ (hB d.o _) | with_reducible assumption) (first | (go_at_call 130;refine(LR _ c _ (Y.o.B (hG bR)) V).mono ?_;rintro _ v ⟨l,rfl,k,y⟩;obtain⟨T,K,rfl⟩:=(h4.of_own k rfl).shape;have z:=lh k;have d:Hd (BW w v):=hJ (hG bR) y;have H:=B.o v d.o;clear k y));all_goals
  go_wp2;go_ret;refine⟨_,.slice T c.length K,rfl,⟨hR _ _ _ _ rfl,ab.B (hB d.o _),(h4.of_own z.o rfl).B (hB bR _)⟩,ic z.o (hB bR _),d.size,hB d.o _⟩
def Ft:Value:=.func (.func 78) #[] #[]
def Iz (a:Nat):Value:=.func (.func 131) #[] #[pV a]
theorem VG (d b c a e:Int) (w):Calls prog 78 #[.agg #[iV d,iV b,iV c,iV a,iV e]] w (RetB (.bool true) w):=by go_enter func78,ntmps78;go_wp2;go_ret;exact⟨rfl,bL⟩
theorem yvd (c:Nat) (f d e b g:Int) (w) (a:hA w c 167 [Ft]):Calls prog 131 #[.agg #[iV f,iV d,iV e,iV b,iV g],pV c] w (RetB (.bool false) w):=by have i:=a.cell 0;have l:=a.lt;simp only[gz,Ft]at i;clear a;go_enter func131,ntmps131;go_wp2_with fail;refine(VG f d e b g _).mono ?_;rintro _ k ⟨rfl,j⟩;go_wp2;go_ret;exact⟨rfl,hJ (hB bR _) j⟩
theorem Wr (c) (l:List R5) (b:Nat) (w) (aQ:h4 w c l) (d:hA w b 167 [Ft]) :
 Calls prog 176 #[c,Iz b] w (RetB (iV (-1)) w):=by
 have i:=lh aQ;have f:=lh d;obtain⟨n,o,rfl⟩:=aQ.shape;refine S1 ?_;intro gv ik il;clear aQ d;unfold Iz;go_enter func176,ntmps176;go_wp2_with fail;go_loopg [8] l.length (fun g e wr=>∃k:Nat,k+g=l.length/\e=iV k/\BW w wr);case atStart=>exact⟨0,by omega,rfl,bR⟩
 case round =>
  obtain⟨k,m,rfl,eW⟩:=hrel;cases gk with
  | zero=>exact SA
  | succ g=>have ch:(k:Int)<l.length:=om;obtain⟨t,j,a,rfl,⟨x,r,s,u,v⟩,y⟩:=(i.B eW).get (i:=k) om;have cX:=lh eW;clear eW;go_wp2_with fail;refine(yvd b a.a a.b a.c a.d a.e _ (f.B cX.o)).mono ?_;exact LF
theorem XW (c) (e:List R5) (a:Nat) (w) (b:h4 w c e) (d:hA w a 167 [Ft]) :
 Calls prog 129 #[c,Iz a] w (RetB c w):=by
 have i:=lh b;have f:=lh d;obtain⟨k,l,rfl⟩:=b.shape;clear b d;go_enter func129,ntmps129;go_wp2_with fail;refine(Wr _ e a _ i.o f.o).mono ?_;rintro _ j ⟨rfl,g⟩;go_wp2;go_ret;exact⟨rfl,g⟩
theorem ymk (i:Nat) (x:Tm) (p o) (a:List R5) (w:World) (v:qq w i x p o a) (u:a.length<=100000) :
 Calls prog 77 #[pV i,.func (.func 78) #[] #[]] w (fun z e=>∃b,z=.returned b/\e.ownsRow w.heap.size 150 5 b a.length (k8 a)/\BW w e):=by
 obtain⟨c,r,d⟩:=v;have D:=lh c;have y:=lh d;obtain⟨E,B,rfl⟩:=d.shape;have s:=c.cell 7;have C:=c.lt;simp only[Tm.cells,List.cons_append,List.nil_append,gz,gs]at s;clear c r d;go_enter func77,ntmps77;go_wp2_with fail;have f:hA (w.alloc (.cells #[.func (.func 78) #[] #[]] 167)) w.heap.size 167 [Ft]:=hR w _ _ _ rfl;have t:=lh f;clear f;refine(LR _ a _ (y.B (hB bR _)) u).mono ?_;rintro _ F ⟨b,rfl,j,m⟩;have k:=lh j;have l:=lh m;clear j m;go_wp2_with fail;refine(XW _ a w.heap.size _ (h4.of_own k.o rfl) (t.B l.o)).mono ?_;rintro _ A ⟨rfl,n⟩;have g:=lh n;clear n;go_wp2;go_ret;exact⟨b,rfl,E0 (ic k.o g.o) x1,hJ (hJ (hB bR _) l.o) g.o⟩
theorem F2 (c:Nat) (i:Tm) (e d) (a:List R5) (w:World) (k:qq w c i e d a) (n:a.length<=100000) :
 Calls prog 44 #[pV c] w (fun m g=>∃b,m=.returned b/\g.ownsRow w.heap.size 150 5 b a.length (k8 a)/\BW w g):=by
 go_enter func44,ntmps44;go_wp2_with fail;refine(ymk c i e d a w k n).mono ?_;rintro _ o ⟨b,rfl,f,j⟩;have l:=lh f;clear f;go_wp2;go_ret;exact⟨b,rfl,l.o,j⟩
theorem yz1 (h:0<n) (a:n<=1000000):wrap64 ((n:Int)-1)=((n-1:Nat):Int):=by rw[wi _ ⟨by omega,by omega⟩];omega
theorem ZU (h:0<n) (a:n<=1000000):IntKind.i64.wrap ((n:Int)-1)=((n-1:Nat):Int):=by rw[IntWalk.i64_in _ ⟨by omega,by omega⟩];omega
theorem H4 (a:n<=1000000):wrap64 ((n:Int)+1)=((n+1:Nat):Int):=by rw[wi _ ⟨by omega,by omega⟩];omega
def yew:Value:=.func (.func 134) #[] #[]
def DO (b a:R5):Int:=if b.b<a.b then -1 else if a.b<b.b then 1 else 0
def Asc (b:List R5):Prop:=∀c a,c<=a->a<b.length->(b.getD c Sk).b<=(b.getD a Sk).b
theorem Fv (b a:R5) (c:Int) (f:Hd (DO b a=c)) (w):Calls prog 134 #[.agg #[iV b.a,iV b.b,iV b.c,iV b.d,iV b.e],.agg #[iV a.a,iV a.b,iV a.c,iV a.d,iV a.e]] w (RetB (iV c) w):=by
 have h:=f.o;unfold DO at h;by_cases e:b.b<a.b;·rw[if_pos e]at h;exact Sv
 ·rw[if_neg e]at h;by_cases d:a.b<b.b;·rw[if_pos d]at h;exact Sv
  ·rw[if_neg d]at h;exact Sv
theorem G5 (h:Asc l) {a:R5} (e:i<=j) (c:j<l.length) (f:l.getD j Sk=E) (d:l.getD i Sk=a):∃b:Int,DO E a=b/\¬b<0:=by refine⟨_,rfl,?_⟩;have:=h i j e c;rw[f,d]at this;unfold DO;rw[if_neg om];split <;> omega
def El (w:World) (b a:Nat) (c:R5):Prop:=w.cell? (Ad b a)=some (iV c.a)/\w.cell? (Ad b (a+1))=some (iV c.b)/\w.cell? (Ad b (a+2))=some (iV c.c)/\w.cell? (Ad b (a+3))=some (iV c.d)/\w.cell? (Ad b (a+4))=some (iV c.e)
theorem El.B (h:El w n m E) (a:BW w W):El W n m E:=by obtain⟨e,d,b,f,c⟩:=h;exact⟨(a.cell (p:=(Ad n m)) (ht e)).trans e,(a.cell (p:=(Ad n (m+1))) (ht d)).trans d,(a.cell (p:=(Ad n (m+2))) (ht b)).trans b,(a.cell (p:=(Ad n (m+3))) (ht f)).trans f,(a.cell (p:=(Ad n (m+4))) (ht c)).trans c⟩
theorem yp6 (x) (i:List R5) (ac:Hd (Asc i)) (g f:Nat) (v:g<=f) (y:f<=i.length) (az:i.length<=10000) (w) (aQ:h4 w x i) :
 Calls prog 208 #[x,iV (g:Int),iV (f:Int),yew] w (RetB (.tuple #[]) w):=by
 have X:=lh aQ;obtain⟨ao,au,rfl⟩:=aQ.shape;refine S1 ?_;intro gv ik il;clear aQ;unfold yew;have ab:=lh (An v y);have W:wrap64 ((g:Int)+1)=((g+1:Nat):Int):=H4 om;clear v y;go_enter func208,ntmps208;go_wp2_with fail;go_loopg [8] (f-(g+1)) (fun n m wr=>∃k:Nat,m=iV (k:Int)/\(g+1<=k/\n=f-k)/\Hd (BW w wr));case atStart=>exact⟨g+1,by simp only[W],⟨by omega,rfl⟩,bR⟩
 case round =>
  obtain⟨k,rfl,⟨C,H⟩,l⟩:=hrel;clear W;by_cases ag:k<f
  ·have Y:(k:Int)<f:=om;have u:k<i.length:=oo ab.o;have ar:(k:Int)<i.length:=om;obtain⟨b,c,d,rfl,⟨I,K,M,Q,L⟩,ak⟩:=(X.B l.o).get (i:=k) u;obtain⟨am,ax,aj,e,⟨O,E,r,s,T⟩,af⟩:=(X.B l.o).get (i:=k-1) om;cases e;obtain⟨Z,R,aw⟩:=G5 ac.o (i:=k-1) (j:=k) om u ak.o af.o;have ai:=lh R;have a0:(g:Int)<k:=om;have an:((k-1:Nat):Int)<(i.length:Int):=om;have av:(0:Int)<=((k-1:Nat):Int):=om;have al:0<k:=om;have t:k<=1000000:=om;have aa:IntKind.i64.wrap ((k:Int)-1)=((k-1:Nat):Int):=ZU al t;have ah:wrap64 ((k:Int)+1)=((k+1:Nat):Int):=H4 t;have V:∀a,BW wr a->(Ce a b (c+k*5) (iV d.a)/\Ce a b (c+k*5+1) (iV d.b)/\Ce a b (c+k*5+2) (iV d.c)/\Ce a b (c+k*5+3) (iV d.d)/\Ce a b (c+k*5+4) (iV d.e)/\Ce a b (c+(k-1)*5) (iV aj.a)/\Ce a b (c+(k-1)*5+1) (iV aj.b)/\Ce a b (c+(k-1)*5+2) (iV aj.c)/\Ce a b (c+(k-1)*5+3) (iV aj.d)/\Ce a b (c+(k-1)*5+4) (iV aj.e)):=fun a h =>
    have q:=El.B ⟨I,K,M,Q,L⟩ h;have j:=El.B ⟨O,E,r,s,T⟩ h
    ⟨q.1,q.2.1,q.2.2.1,q.2.2.2.1,q.2.2.2.2,j.1,j.2.1,j.2.2.1,j.2.2.2.1,j.2.2.2.2⟩
   have o:=lh V;have S:=lh (An C (An H ag));clear V R I K M Q L O E r s T C H;go_wp2_with fail;obtain⟨G,ae⟩:=xg wr;subst ae;go_loopg [9] 0 (fun n z ad=>n=0/\z=iV (k:Int)/\wr=ad);case atStart=>exact⟨rfl,rfl,rfl⟩
   case round =>
    obtain⟨ay,rfl,rfl⟩:=hrel;have B:=o.o _ bR;have P:=o.o _ (hG bR);go_upto_region 4 with fail;go_region_held3 (fun a=>Ce a b (c+k*5) (iV d.a)/\Ce a b (c+k*5+1) (iV d.b)/\Ce a b (c+k*5+2) (iV d.c)/\Ce a b (c+k*5+3) (iV d.d)/\Ce a b (c+k*5+4) (iV d.e)/\Ce a b (c+(k-1)*5) (iV aj.a)/\Ce a b (c+(k-1)*5+1) (iV aj.b)/\Ce a b (c+(k-1)*5+2) (iV aj.c)/\Ce a b (c+(k-1)*5+3) (iV aj.d)/\Ce a b (c+(k-1)*5+4) (iV aj.e)) (first | with_reducible exact B | with_reducible exact P | with_reducible exact A | with_reducible assumption) (first | (go_at_call 134;refine(Fv d aj Z ai _).mono ?_;rintro _ F ⟨rfl,J⟩;have D:Hd (BW wr F):=hJ (hG bR) J;have A:=o.o F D.o;clear J));have HB6:=lh (hJ l.o D.o);clear B P A aa;go_wp2_with fail;go_roundg (f-(k+1));case measure=>have:=S.o;omega
    case rel=>exact⟨k+1,by first | rfl | simp only[ah],⟨oo S.o,rfl⟩,HB6.o⟩
  ·have Y:¬(k:Int)<f:=om;go_wp2
   go_end0
   exact⟨rfl,l.o⟩
theorem IK (h:q:=by
 subst xr;have ch:¬(k:Int)<k:=om;clear m5;have xt:=xu.o;go_wp2_with fail;refine(tJ.o _ (br.B cX.o)).mono ?_;rintro _ eA ⟨rfl,xw⟩;have lX:=lh (hJ cX.o xw);clear xw;go_wp2
 go_end0
 exact⟨rfl,lX.o⟩):q:=h
theorem G6 (h:q:=by obtain⟨aw,ck⟩:=xg (k+ah);obtain⟨h,gK⟩:=xg (aw/2);obtain⟨bl,pO⟩:=xg (p-h);have ii:=lh (An ck (An gK (An m5 pO)));have ch:(k:Int)<ah:=om;have AF:(bl:Int)<l.length:=o3 bB.o bz.o cK.o;refine IQ ?_;intro rm ly;have sO:h<=1000000:=om;have sQ:h<=p:=o3 bB.o bz.o cK.o;have sR:p<=1000000:=o3 bB.o cK.o bd.o;clear m5;obtain⟨e9,ae,x,rfl,⟨aI,aN,aL,eL,dU⟩,aV⟩:=(br.B cX.o).get (i:=bl) J4;obtain⟨AG,v8,aG,I,⟨b6,aM,aP,bA,fJ⟩,tL⟩:=(br.B cX.o).get (i:=h) J4;cases I;obtain⟨bu,a9,iD⟩:=G5 i5.o (i:=h) (j:=bl) J4 J4 aV.o tL.o;refine Mg ?_;clear a9 aI aN aL eL dU b6 aM aP bA fJ ck gK ly sO sQ pO sR;intro gc ce aX bf cF dt sP;go_upto_region 35 with fail;have jZ:=ce.o _ bR;have fm:=ce.o _ (hG bR);go_region_held3 (fun W'=>Ce W' e9 (ae+bl*5) (iV x.a)/\Ce W' e9 (ae+bl*5+1) (iV x.b)/\Ce W' e9 (ae+bl*5+2) (iV x.c)/\Ce W' e9 (ae+bl*5+3) (iV x.d)/\Ce W' e9 (ae+bl*5+4) (iV x.e)/\Ce W' e9 (ae+h*5) (iV aG.a)/\Ce W' e9 (ae+h*5+1) (iV aG.b)/\Ce W' e9 (ae+h*5+2) (iV aG.c)/\Ce W' e9 (ae+h*5+3) (iV aG.d)/\Ce W' e9 (ae+h*5+4) (iV aG.e)) (first | with_reducible exact jZ | with_reducible exact fm | with_reducible exact xx | with_reducible assumption) (first | (go_at_call 134;refine(Fv x aG bu gc _).mono ?_;rintro _ aT ⟨rfl,ea⟩;have jh:Hd (BW wr aT):=hJ (hG bR) ea;have xx:=ce.o aT jh.o;clear ea));have HB6:=lh (hJ cX.o jh.o);clear jZ fm xx;clear aX bf cF sP;exact QC):q:=h
theorem Gk {h:Nat} (b:n+m=k) (a:k/2=h) (c:k<=1000000):wrap64 ((n:Int)+(m:Int))=(k:Int)/\IntKind.u64.wrap (k:Int)=k/\wrap64 ((k:Int)/2)=(h:Int):=by subst b a;refine⟨by rw[wi _ ⟨by omega,by omega⟩];omega,by rw[IntKind.wrap_u64];omega,by rw[wi _ ⟨by omega,by omega⟩];omega⟩
theorem UO (z) (l:List R5) (Z:Hd (Asc l)) (b ah i:Nat) (bB:Hd (ah=b+1/\ah<i/\i<=l.length)) (S:l.length<=10000) (w) (aQ:h4 w z l) :
 Calls prog 209 #[z,iV (b:Int),iV (ah:Int),iV (i:Int),yew] w (RetB (.tuple #[]) w):=by
 have W:=lh aQ;obtain⟨ak,al,rfl⟩:=aQ.shape;refine S1 ?_;intro gv ik il;have bd:=lh S;clear aQ gv S;unfold yew;have F:(ah:Int)-(b:Int)=1:=oo bB.o;have O:(ah:Int)-1=(b:Int):=oo bB.o;have v:wrap64 ((ah:Int)-(b:Int))=1:=by rw[F];exact wi _ ⟨by omega,by omega⟩
 have am:wrap64 ((ah:Int)-1)=(b:Int):=by rw[O];have:=bB.o;have:=bd.o;exact wi _ ⟨by omega,by omega⟩
 clear F O;go_enter func209,ntmps209;go_wp2_with fail;simp only[v];clear v;go_loopg [10,11] (i-ah) (fun r o B wr=>∃k:Nat,o=iV (ah:Int)/\B=iV (k:Int)/\Hd (ah<=k/\k<=i/\r=k-ah)/\Hd (BW w wr));case atStart=>exact⟨i,rfl,rfl,lh ⟨oo bB.o,nr _,rfl⟩,bR⟩
 case round =>
  obtain⟨k,rfl,rfl,bz,m⟩:=hrel;obtain⟨ac,av⟩:(ah<k\/¬ah<k)/\True:=⟨by omega,trivial⟩;rcases ac with n | n
  ·obtain⟨aw,u⟩:∃aw,ah+k=aw:=⟨_,rfl⟩;obtain⟨h,s⟩:=xg (aw/2);have ii:=lh (An u (An s n));have X:(ah:Int)<k:=om;have au:(b:Int)<l.length:=oo bB.o;refine IQ ?_;intro rm ly;clear n;obtain⟨c,d,f,rfl,⟨H,J,L,Q,K⟩,ai⟩:=(W.B m.o).get (i:=h) Jh;obtain⟨aj,ao,g,e,⟨M,E,x,y,T⟩,ad⟩:=(W.B m.o).get (i:=b) Jh;cases e;obtain⟨Y,R,an⟩:=G5 Z.o (i:=b) (j:=h) Jh Jh ai.o ad.o;have ae:=lh R;have V:∀a,BW wr a->(Ce a c (d+h*5) (iV f.a)/\Ce a c (d+h*5+1) (iV f.b)/\Ce a c (d+h*5+2) (iV f.c)/\Ce a c (d+h*5+3) (iV f.d)/\Ce a c (d+h*5+4) (iV f.e)/\Ce a c (d+b*5) (iV g.a)/\Ce a c (d+b*5+1) (iV g.b)/\Ce a c (d+b*5+2) (iV g.c)/\Ce a c (d+b*5+3) (iV g.d)/\Ce a c (d+b*5+4) (iV g.e)):=fun a h =>
    have q:=El.B ⟨H,J,L,Q,K⟩ h;have j:=El.B ⟨M,E,x,y,T⟩ h
    ⟨q.1,q.2.1,q.2.2.1,q.2.2.2.1,q.2.2.2.2,j.1,j.2.1,j.2.2.1,j.2.2.2.1,j.2.2.2.2⟩
   have t:=lh V;clear V R H J L Q K M E x y T;obtain⟨af,ab,ag⟩:=Gk u s ly;clear u s ly;go_upto_region 5 with fail;have C:=t.o _ bR;have P:=t.o _ (hG bR);go_region_held3 (fun a=>Ce a c (d+h*5) (iV f.a)/\Ce a c (d+h*5+1) (iV f.b)/\Ce a c (d+h*5+2) (iV f.c)/\Ce a c (d+h*5+3) (iV f.d)/\Ce a c (d+h*5+4) (iV f.e)/\Ce a c (d+b*5) (iV g.a)/\Ce a c (d+b*5+1) (iV g.b)/\Ce a c (d+b*5+2) (iV g.c)/\Ce a c (d+b*5+3) (iV g.d)/\Ce a c (d+b*5+4) (iV g.e)) (first | with_reducible exact C | with_reducible exact P | with_reducible exact A | with_reducible assumption) (first | (go_at_call 134;refine(Fv f g Y ae _).mono ?_;rintro _ G ⟨rfl,I⟩;have D:Hd (BW wr G):=hJ (hG bR) I;have A:=t.o G D.o;clear I));have HB6:=lh (hJ m.o D.o);clear C P A;clear af ab ag;go_wp2_with fail;go_roundg (h-ah);case measure=>have:=ii.o;have:=bz.o;omega
   case rel=>exact⟨h,rfl,rfl,lh ⟨oo ii.o,o2 ii.o bz.o,rfl⟩,HB6.o⟩
  ·have X:¬(ah:Int)<k:=om;clear n;go_wp2_with fail;go_loopg [13] 0 (fun r q aa=>r=0/\q=iV (b:Int)/\wr=aa);case atStart=>exact⟨rfl,rfl,rfl⟩
   case round =>
    obtain⟨ar,rfl,rfl⟩:=hrel;go_wp2
    go_end0
    exact⟨rfl,m.o⟩
theorem EA (h:m<=n) (a:n-m=k) (b:n<=1000000):wrap64 ((n:Int)-(m:Int))=(k:Int):=by subst a;rw[wi _ ⟨by omega,by omega⟩];omega
theorem Yv (h:m<=n) (a:n-m=k) (b:n<=1000000):IntKind.i64.wrap ((n:Int)-(m:Int))=(k:Int):=by subst a;rw[IntWalk.i64_in _ ⟨by omega,by omega⟩];omega
theorem GR (a:n+j=m) (b:m<=1000000):wrap64 ((n:Int)+(j:Int))=(m:Int):=by subst a;rw[wi _ ⟨by omega,by omega⟩];omega
theorem V6 (u) (l:List R5) (Y:Hd (Asc l)) (aB ah b:Nat) (bB:Hd (aB+2<=ah/\b=ah+1/\b<=l.length)) (L:l.length<=10000) (w) (aQ:h4 w u l) :
 Calls prog 209 #[u,iV (aB:Int),iV (ah:Int),iV (b:Int),yew] w (RetB (.tuple #[]) w):=by
 have S:=lh aQ;obtain⟨ak,al,rfl⟩:=aQ.shape;refine S1 ?_;intro gv ik il;have bd:=lh L;clear aQ gv L;unfold yew;refine Nu ?_;unhygienic intros
 have Q:(aP:Int)=1:=oo bB.o;have M:wrap64 ((ah:Int)-(aB:Int))=(aa:Int):=EA (oo bB.o) dn (o2 bB.o bd.o);have T:wrap64 ((b:Int)-(ah:Int))=1:=by rw[EA (oo bB.o) fc (o2 bB.o bd.o)];exact Q
 clear dn fc Q;go_enter func209,ntmps209;go_wp2_with fail;simp only[M,T];clear M T;go_loopg [14,15] (ah-aB) (fun m j x wr=>∃k:Nat,j=iV (k:Int)/\x=iV (ah:Int)/\Hd (aB<=k/\k<=ah/\m=ah-k)/\Hd (BW w wr));case atStart=>exact⟨aB,rfl,rfl,lh ⟨nr _,oo bB.o,rfl⟩,bR⟩
 case round =>
  obtain⟨k,rfl,rfl,bz,i⟩:=hrel;by_cases o:k<ah
  ·obtain⟨aw,s⟩:∃aw,k+ah=aw:=⟨_,rfl⟩;obtain⟨h,n⟩:=xg (aw/2);have ii:=lh (An s (An n o));have V:(k:Int)<ah:=om;have ar:(ah:Int)<l.length:=oo bB.o;refine IQ ?_;intro rm ly;have P:h<=1000000:=om;clear o;obtain⟨c,d,ag,rfl,⟨C,E,G,J,F⟩,ai⟩:=(S.B i.o).get (i:=ah) Jh;obtain⟨aj,an,f,e,⟨H,A,aP,t,O⟩,ac⟩:=(S.B i.o).get (i:=h) Jh;cases e;obtain⟨W,K,am⟩:=G5 Y.o (i:=h) (j:=ah) Jh Jh ai.o ac.o;have ad:=lh K;have R:∀a,BW wr a->(Ce a c (d+ah*5) (iV ag.a)/\Ce a c (d+ah*5+1) (iV ag.b)/\Ce a c (d+ah*5+2) (iV ag.c)/\Ce a c (d+ah*5+3) (iV ag.d)/\Ce a c (d+ah*5+4) (iV ag.e)/\Ce a c (d+h*5) (iV f.a)/\Ce a c (d+h*5+1) (iV f.b)/\Ce a c (d+h*5+2) (iV f.c)/\Ce a c (d+h*5+3) (iV f.d)/\Ce a c (d+h*5+4) (iV f.e)):=fun a h =>
    have q:=El.B ⟨C,E,G,J,F⟩ h;have g:=El.B ⟨H,A,aP,t,O⟩ h
    ⟨q.1,q.2.1,q.2.2.1,q.2.2.2.1,q.2.2.2.2,g.1,g.2.1,g.2.2.1,g.2.2.2.1,g.2.2.2.2⟩
   have r:=lh R;clear R K C E G J F H A aP t O;obtain⟨ae,ab,af⟩:=Gk s n ly;have dt:wrap64 ((h:Int)+1)=((h+1:Nat):Int):=H4 P;clear s n ly P;go_upto_region 17 with fail;have y:=r.o _ bR;have I:=r.o _ (hG bR);go_region_held3 (fun a=>Ce a c (d+ah*5) (iV ag.a)/\Ce a c (d+ah*5+1) (iV ag.b)/\Ce a c (d+ah*5+2) (iV ag.c)/\Ce a c (d+ah*5+3) (iV ag.d)/\Ce a c (d+ah*5+4) (iV ag.e)/\Ce a c (d+h*5) (iV f.a)/\Ce a c (d+h*5+1) (iV f.b)/\Ce a c (d+h*5+2) (iV f.c)/\Ce a c (d+h*5+3) (iV f.d)/\Ce a c (d+h*5+4) (iV f.e)) (first | with_reducible exact y | with_reducible exact I | with_reducible exact v | with_reducible assumption) (first | (go_at_call 134;refine(Fv ag f W ad _).mono ?_;rintro _ B ⟨rfl,D⟩;have z:Hd (BW wr B):=hJ (hG bR) D;have v:=r.o B z.o;clear D));have HB6:=lh (hJ i.o z.o);clear y I v;clear ae ab af;exact QC
  ·have X:k=ah:=oo bz.o;subst X;have V:¬(k:Int)<k:=om;clear o;go_wp2_with fail;go_loopg [17] 0 (fun m q Z=>m=0/\q=iV (k:Int)/\wr=Z);case atStart=>exact⟨rfl,rfl,rfl⟩
   case round =>
    obtain⟨ao,rfl,rfl⟩:=hrel;go_wp2
    go_end0
    exact⟨rfl,i.o⟩
theorem YF (c) (l:List R5) (A:Hd (Asc l)) (aB ah b i3:Nat) (bB:Hd (i3<ah/\aB+2<=ah/\ah+2<=b/\b<=l.length/\(aB+b)/2=i3)) (t:l.length<=10000) (tJ:Hd (∀e,h4 e c l->Calls prog 209 #[c,iV (i3:Int),iV (ah:Int),iV (b:Int),yew] e (RetB (.tuple #[]) e))) (w) (aQ:h4 w c l) :
 Calls prog 209 #[c,iV (aB:Int),iV (ah:Int),iV (b:Int),yew] w (RetB (.tuple #[]) w):=by
 have br:=lh aQ;obtain⟨I,J,rfl⟩:=aQ.shape;refine S1 ?_;intro gv ik il;have bd:=lh t;clear aQ gv t;unfold yew at tJ ⊢;refine MO ?_;unhygienic intros
 obtain⟨a,f⟩:=xg (fe-b);have K:(i3:Int)<ah:=oo bB.o;have H:(aB:Int)<i3:=oo bB.o;have L:(ah:Int)<b:=oo bB.o;have o:b<=fe:=oo bB.o;have j:i3<=fe:=oo bB.o;have v:fe-i3=ah:=oo bB.o;have fp:=lh f;refine OZ ?_;unhygienic intros
 have s:wrap64 ((fe:Int)-(b:Int))=(a:Int):=EA o f mM;have xu:Hd (wrap64 ((fe:Int)-(i3:Int))=(ah:Int)):=EA j v mM;clear o j v f;clear dn fc jZ mq es qP qI mM qJ qK qL qM qN qO;go_enter func209,ntmps209;go_wp2_with fail;try simp only[o4,o5,cC,dr,gX,fQ,lI,s]
 clear o4 o5 cC dr gX fQ lI  s;go_loopg [20,21] (i3-a) (fun z d i wr=>∃k:Nat,d=iV (k:Int)/\i=iV (i3:Int)/\Hd (a<=k/\k<=i3/\z=i3-k)/\Hd (BW w wr));case atStart=>exact⟨a,rfl,rfl,lh ⟨nr _,o3 bB.o cK.o fp.o,rfl⟩,bR⟩
 case round =>
  obtain⟨k,rfl,rfl,bz,cX⟩:=hrel;by_cases m5:k<i3
  ·obtain⟨aw,ck⟩:∃aw,k+i3=aw:=⟨_,rfl⟩;obtain⟨h,gK⟩:=xg (aw/2);obtain⟨bl,pO⟩:=xg (p-h);have ii:=lh (An ck (An gK (An m5 pO)));have ch:(k:Int)<i3:=om;have G:(bl:Int)<l.length:=by have:=bB.o;have:=bz.o;have:=cK.o;have:=fp.o;omega
   refine IQ ?_;intro rm ly;have sO:h<=1000000:=om;have sQ:h<=p:=by have:=bB.o;have:=bz.o;have:=cK.o;have:=fp.o;omega
   have sR:p<=1000000:=o3 bB.o cK.o bd.o;clear m5;obtain⟨e9,ae,x,rfl,⟨aI,aN,aL,eL,dU⟩,D⟩:=(br.B cX.o).get (i:=bl) Sf;obtain⟨F,O,aG,E,⟨b6,aM,aP,bA,fJ⟩,B⟩:=(br.B cX.o).get (i:=h) Sf;cases E;obtain⟨y,a9,M⟩:=G5 A.o (i:=h) (j:=bl) Sf Sf D.o B.o;refine Mg ?_;clear a9 aI aN aL eL dU b6 aM aP bA fJ ck gK ly sO sQ pO sR;unhygienic intros
   go_upto_region 35 with fail;have jZ:=ce.o _ bR;have r:=ce.o _ (hG bR);go_region_held3 (fun W'=>Ce W' e9 (ae+bl*5) (iV x.a)/\Ce W' e9 (ae+bl*5+1) (iV x.b)/\Ce W' e9 (ae+bl*5+2) (iV x.c)/\Ce W' e9 (ae+bl*5+3) (iV x.d)/\Ce W' e9 (ae+bl*5+4) (iV x.e)/\Ce W' e9 (ae+h*5) (iV aG.a)/\Ce W' e9 (ae+h*5+1) (iV aG.b)/\Ce W' e9 (ae+h*5+2) (iV aG.c)/\Ce W' e9 (ae+h*5+3) (iV aG.d)/\Ce W' e9 (ae+h*5+4) (iV aG.e)) (first | with_reducible exact jZ | with_reducible exact r | with_reducible exact g | with_reducible assumption) (first | (go_at_call 134;refine(Fv x aG y gc _).mono ?_;rintro _ u ⟨rfl,n⟩;have m:Hd (BW wr u):=hJ (hG bR) n;have g:=ce.o u m.o;clear n));have HB6:=lh (hJ cX.o m.o);clear jZ r g;clear aX bf cF sP;go_wp2_with fail;any_goals (exfalso;rename_i C;simp at C;omega)
   go_roundg (i3-(h+1));case measure=>have:=ii.o;have:=bz.o;omega
   case rel=>exact⟨h+1,by first | rfl | simp only[dt],rfl,lh ⟨o2 ii.o bz.o,o2 ii.o bz.o,rfl⟩,HB6.o⟩
  ·have xr:k=i3:=oo bz.o;exact IK
theorem Wl (a) (l:List R5) (i5:Hd (Asc l)) (aB ah b i3:Nat) (bB:Hd (ah<i3/\aB+2<=ah/\ah+2<=b/\b<=l.length/\(aB+b)/2=i3)) (e:l.length<=10000) (tJ:Hd (∀c,h4 c a l->Calls prog 209 #[a,iV (aB:Int),iV (ah:Int),iV (i3:Int),yew] c (RetB (.tuple #[]) c))) (w) (aQ:h4 w a l) :
 Calls prog 209 #[a,iV (aB:Int),iV (ah:Int),iV (b:Int),yew] w (RetB (.tuple #[]) w):=by
 have br:=lh aQ;obtain⟨m,o,rfl⟩:=aQ.shape;refine S1 ?_;intro gv ik il;have bd:=lh e;clear aQ gv e;unfold yew at tJ ⊢;refine MO ?_;unhygienic intros
 have j:¬(i3:Int)<ah:=oo bB.o;have r:(aB:Int)<ah:=oo bB.o;have n:(ah:Int)<i3:=oo bB.o;have d:ah<=fe:=oo bB.o;have f:fe-ah=i3:=oo bB.o;refine OZ ?_;unhygienic intros
 have xu:Hd (wrap64 ((fe:Int)-(ah:Int))=(i3:Int)):=EA d f mM;clear d f;clear dn fc jZ mq es qP qI mM qJ qK qL qM qN qO;go_enter func209,ntmps209;go_wp2_with fail;try simp only[o4,o5,cC,dr,gX,fQ,lI]
 clear o4 o5 cC dr gX fQ lI;go_loopg [20,21] (ah-aB) (fun g i a8 wr=>∃k:Nat,i=iV (k:Int)/\a8=iV (ah:Int)/\Hd (aB<=k/\k<=ah/\g=ah-k)/\Hd (BW w wr));case atStart=>exact⟨aB,rfl,rfl,lh ⟨nr _,o2 bB.o cK.o,rfl⟩,bR⟩
 case round =>
  obtain⟨k,rfl,rfl,bz,cX⟩:=hrel;by_cases m5:k<ah;·exact G6
  ·have xr:k=ah:=oo bz.o;exact IK
theorem Ul (c) (l:List R5) (i5:Hd (Asc l)) (aB ah b i3:Nat) (bB:Hd (ah=i3/\aB+2<=ah/\ah+2<=b/\b<=l.length/\(aB+b)/2=i3)) (d:l.length<=10000) (w) (aQ:h4 w c l) :
 Calls prog 209 #[c,iV (aB:Int),iV (ah:Int),iV (b:Int),yew] w (RetB (.tuple #[]) w):=by
 have br:=lh aQ;obtain⟨o,s,rfl⟩:=aQ.shape;refine S1 ?_;intro gv ik il;have bd:=lh d;clear aQ gv d;unfold yew;refine MO ?_;unhygienic intros
 have m:¬(i3:Int)<ah:=oo bB.o;have t:(aB:Int)<ah:=oo bB.o;have r:¬(ah:Int)<i3:=oo bB.o;have a:ah<=fe:=oo bB.o;have e:fe-ah=i3:=oo bB.o;refine OZ ?_;unhygienic intros
 have j:Hd (wrap64 ((fe:Int)-(ah:Int))=(i3:Int)):=EA a e mM;clear a e;clear dn fc jZ mq es qP qI mM qJ qK qL qM qN qO;go_enter func209,ntmps209;go_wp2_with fail;try simp only[o4,o5,cC,dr,gX,fQ,lI]
 clear o4 o5 cC dr gX fQ lI;go_loopg [20,21] (ah-aB) (fun f i a8 wr=>∃k:Nat,i=iV (k:Int)/\a8=iV (ah:Int)/\Hd (aB<=k/\k<=ah/\f=ah-k)/\Hd (BW w wr));case atStart=>exact⟨aB,rfl,rfl,lh ⟨nr _,o2 bB.o cK.o,rfl⟩,bR⟩
 case round =>
  obtain⟨k,rfl,rfl,bz,cX⟩:=hrel;by_cases m5:k<ah;·exact G6
  ·have g:k=ah:=oo bz.o;subst g;have ch:¬(k:Int)<k:=om;clear m5;have n:=j.o;go_wp2
   go_end0
   exact⟨rfl,cX.o⟩
theorem Xp (e) (d:List R5) (g:Hd (Asc d)) (i:d.length<=10000):∀(k c a b:Nat),b-c<=k->c<a->a<b->b<=d.length->∀(w:World),h4 w e d ->
 Calls prog 209 #[e,iV (c:Int),iV (a:Int),iV (b:Int),yew] w (RetB (.tuple #[]) w):=by
 intro k;induction k with
 | zero=>intro c a b h p m;omega
 | succ k s =>
  intro c a b h p m f w j;by_cases u:a=c+1;·exact UO e d g c a b ⟨u,m,f⟩ i w j
  ·by_cases v:b=a+1;·exact V6 e d g c a b ⟨by omega,v,f⟩ i w j
   ·obtain⟨i3,o⟩:∃i3,(c+b)/2=i3:=⟨_,rfl⟩;by_cases r:i3<a;·exact YF e d g c a b i3 ⟨r,by omega,by omega,f,o⟩ i (fun l n=>s i3 a b om r m f l n) w j
    ·by_cases t:a<i3;·exact Wl e d g c a b i3 ⟨t,by omega,by omega,f,o⟩ i (fun l n=>s c a i3 om p t om l n) w j
     ·exact Ul e d g c a b i3 ⟨by omega,by omega,by omega,f,o⟩ i w j
theorem Y9 (e) (a:List R5) (j:Hd (Asc a)) (l:a.length<=10000) (d c b:Nat) (i:d<c) (g:c<b) (k:b<=a.length) (w) (f:h4 w e a) :
 Calls prog 209 #[e,iV (d:Int),iV (c:Int),iV (b:Int),yew] w (RetB (.tuple #[]) w):=Xp e a j l _ d c b (nr _) i g k w f
theorem W5 (v) (o:List R5) (af:Hd (Asc o)) (I:o.length<=10000) (w) (Z:h4 w v o) :
 Calls prog 177 #[v,iV (o.length:Int),yew] w (RetB (.tuple #[]) w):=by
 have B:=lh Z;have u:=lh I;obtain⟨ad,ae,rfl⟩:=Z.shape;have G:=lh (fun p m (Q:p<=m) (L:m<=o.length) M P=>yp6 (.slice ad o.length ae) o af p m Q L I M P);have J:=lh (fun p V m (Q:p<V) (L:V<m) (an:m<=o.length) M P=>Y9 (.slice ad o.length ae) o af I p V m Q L an M P);clear Z I;unfold yew at G J ⊢;obtain⟨a,S⟩:=xg o.length;have ab:=lh S;rw[S]at B G J ⊢;clear S;go_enter func177,ntmps177;go_wp2_with fail;go_loopg [7,8] (a+20) (fun x p m wr=>∃c b:Nat,p=iV (c:Int)/\m=iV (b:Int)/\Hd (b=c+20/\c<=a/\x=a+20-c)/\Hd (BW w wr));case atStart=>exact⟨0,20,rfl,rfl,lh ⟨rfl,Nat.zero_le _,rfl⟩,bR⟩
 case round =>
  obtain⟨c,b,rfl,rfl,Y,H⟩:=hrel;by_cases aa:b<=a
  ·have D:(b:Int)<=a:=om;obtain⟨l,r⟩:=xg (b+20);have z:l<=1000000:=o2 u.o ab.o;have i:=lh (An r aa);have A:wrap64 ((b:Int)+20)=(l:Int):=GR (j:=20) r z;clear aa r z;go_wp2_with fail;refine(G.o c b (oo Y.o) i.2 _ (B.B H.o)).mono ?_;rintro _ K ⟨rfl,n⟩;have W:=lh (hJ H.o n);clear n;go_wp2_with fail;go_roundg (a+20-b);case measure=>have:=Y.o;have:=i.o;omega
   case rel=>exact⟨b,l,rfl,by first | rfl | simp only[A],lh ⟨i.1.symm,i.2,rfl⟩,W.o⟩
  ·have D:¬(b:Int)<=a:=om;clear aa;go_wp2_with fail;refine(G.o c a Y.2.1 (nr _) _ (B.B H.o)).mono ?_;rintro _ K ⟨rfl,n⟩;have W:=lh (hJ H.o n);clear n D;go_wp2_with fail;go_loopg [6] (a+1) (fun x t wr=>∃d:Nat,t=iV (d:Int)/\Hd (1<=d/\d<=2*a+40/\a+1<=d+x)/\Hd (BW w wr));case atStart=>exact⟨20,rfl,lh ⟨by omega,by omega,by omega⟩,W.o⟩
   case round =>
    obtain⟨d,rfl,k,aj⟩:=hrel;obtain⟨E,am⟩:∃E,E=gk:=⟨_,rfl⟩;subst am;by_cases O:d<a
    ·have D:(d:Int)<a:=om;obtain⟨f,ah⟩:=xg (d*2);have ai:(2:Int)*(d:Int)=f:=om;have ac:(d:Int)*2=(f:Int):=om;have F:-9223372036854775808<=(f:Int)/\(f:Int)<=9223372036854775807:=o2 u.o ab.o;have g:=lh (An ah (An O F));have A:wrap64 ((2:Int)*(d:Int))=(f:Int):=by rw[ai];exact wi _ F
     have ag:wrap64 ((d:Int)*2)=(f:Int):=by rw[ac];exact wi _ F
     clear ah ai ac F O;go_wp2_with fail;try simp only[A]
     go_loopg [7,8] (a+1) (fun x p m wr=>∃c b:Nat,p=iV (c:Int)/\m=iV (b:Int)/\Hd (b=c+f/\c<=a/\a+1<=c+x)/\Hd (BW w wr));case atStart=>exact⟨0,f,rfl,by first | rfl | simp only[A],lh ⟨by omega,Nat.zero_le _,by omega⟩,aj.o⟩
     case round =>
      obtain⟨c,b,rfl,rfl,y,C⟩:=hrel;by_cases R:b<=a
      ·have ao:(b:Int)<=a:=om;obtain⟨l,r⟩:=xg (b+f);obtain⟨e,s⟩:=xg (c+d);have z:l<=1000000:=o3 u.o ab.o g.o;have au:e<=1000000:=by have:=u.o;have:=ab.o;have:=g.o;have:=y.o;omega
       have i:=lh (An r (An R s));have ar:wrap64 ((b:Int)+(f:Int))=(l:Int):=GR r z;have av:wrap64 ((c:Int)+(d:Int))=(e:Int):=GR s au;clear R r z s au;go_wp2_with fail;refine(J.o c e b (o2 i.o k.o) (by have:=i.o;have:=y.o;have:=g.o;have:=k.o;omega) i.2.1 _ (B.B C.o)).mono ?_;rintro _ K ⟨rfl,n⟩;have X:=lh (hJ C.o n);clear n;go_wp2_with fail;go_roundg (gk-1);case measure=>have:=y.o;have:=i.o;omega
       case rel=>exact⟨b,l,rfl,by first | rfl | simp only[A,ar],lh ⟨i.1.symm,i.2.1,by have:=y.o;have:=i.o;have:=g.o;have:=k.o;omega⟩,X.o⟩
      ·have ao:¬(b:Int)<=a:=om;obtain⟨e,s⟩:=xg (c+d);have au:e<=1000000:=by have:=u.o;have:=ab.o;have:=g.o;have:=y.o;omega
       have ak:=lh s;have av:wrap64 ((c:Int)+(d:Int))=(e:Int):=GR s au;clear s au R;by_cases T:e<a
       ·have aw:(e:Int)<a:=om;have al:=lh T;clear T;go_wp2_with fail;refine(J.o c e a (o2 ak.o k.o) al.o (nr _) _ (B.B C.o)).mono ?_;rintro _ K ⟨rfl,n⟩;have X:=lh (hJ C.o n);clear n;go_wp2_with fail;go_roundg (E-1);case measure=>have:=k.o;have:=g.o;omega
        case rel=>exact⟨f,by first | rfl | simp only[ag],lh ⟨o2 k.o g.o,by have:=k.o;have:=g.o;have:=u.o;have:=ab.o;omega,o2 k.o g.o⟩,X.o⟩
       ·have aw:¬(e:Int)<a:=om;clear T;go_wp2_with fail;go_roundg (E-1);case measure=>have:=k.o;have:=g.o;omega
        case rel=>exact⟨f,by first | rfl | simp only[ag],lh ⟨o2 k.o g.o,by have:=k.o;have:=g.o;have:=u.o;have:=ab.o;omega,o2 k.o g.o⟩,C.o⟩
    ·have D:¬(d:Int)<a:=om;clear O;go_wp2
     go_end0
     exact⟨rfl,aj.o⟩
theorem Xx (c) (a:List R5) (i:Hd (Asc a)) (l:a.length<=10000) (w) (b:h4 w c a) :
 Calls prog 133 #[c,yew] w (RetB (.tuple #[]) w):=by
 have e:=lh (fun j f=>W5 c a i l j f);have g:=lh b;obtain⟨n,o,rfl⟩:=b.shape;clear b;unfold yew at e ⊢;go_enter func133,ntmps133;go_wp2_with fail;refine(e.o _ (g.B bL)).mono ?_;rintro _ m ⟨rfl,d⟩;have k:=lh (hJ bR d);clear d;go_wp2
 go_end0
 exact⟨rfl,k.o⟩
theorem Lg (g) (a:List R5) (n:Hd (Asc a)) (t:a.length<=10000) (w:World) (e:h4 w g a) :
 Calls prog 86 #[g] w (fun v f=>∃b,v=.returned b/\f.ownsRow w.heap.size 150 5 b a.length (k8 a)/\BW w f):=by
 have i:=lh (fun b k l=>Xx b a n t k l);have u:=lh e;obtain⟨z,A,rfl⟩:=e.shape;clear e;unfold yew at i;go_enter func86,ntmps86;go_wp2_with fail;refine(LR _ a _ u.o om).mono ?_;rintro _ x ⟨b,rfl,c,j⟩;have o:=lh c;have p:=lh j;have s:=lh (h4.of_own c rfl);obtain⟨B,y,rfl⟩:=(h4.of_own c rfl).shape;clear c j;go_wp2_with fail;refine(i.o _ _ (s.B bL)).mono ?_;rintro _ C ⟨rfl,d⟩;have m:=lh (ic o.o d);have r:=lh (hJ p.o d);clear d;go_wp2;go_ret;exact⟨_,rfl,m.o,r.o⟩
section
variable {P:Program}
theorem II (w:World) (o v B i:TypeId) (l e b j r:Nat) (f:Addr) (k A:Nat) (c:List Value) (p:TypeId) (a:List Value)
 (z:P.underlying o=some (.slice i)) (n:(P.info? i).map (·.size)=some l)
 (s:hA w e p c) (D:a.length=Nat.min k j*l)
 (F:∀m d,a[m]?=some d->w.cell? (f.add m)=some d) (x:b+a.length<=c.length) (u:∀d∈a,d.oneCell'=true) :
 (Builtin.copy_ #[o,v] B #[sL e b j r,.slice (some f) k A]).run P w =
  .ok (goInt (Nat.min k j)) (w.setRow e (c.take b++a++c.drop (b+a.length)).toArray):=by
 have y:=run_loadCells_list (P:=P) w f a F;have t:=run_storeCells_at P e b p a 0 c.toArray w s (ss x) u;cases g:P.info? i with
 | none=>simp[g]at n
 | some E =>
  have C:E.size=l:=by simpa[g] using n
  simp[Builtin.copy_,run_underlying z,Builtin.lenOf,Builtin.firstCells,sizeOf,typeInfo,g,C,<-D,y,t]
theorem OE {k:Array Oper} {a:Oper} {b:Act} {w:World} {c:Act->World->Prop} {o:Exit->Act->World->Prop} {u:Prop}
 (p:a.guard=none) (j g:Operand) (l i:TypeId) (r:a.op=Op.call { callee:=Callee.builtin Builtin.copy,args:=#[j,g],argTypes:=#[l,i] })
 (f m) (n:b.eval j=f) (x:b.eval g=m) {e:Value} {d:World} (v:(Builtin.copy_ #[l,i] a.type #[f,m]).run P w=.ok e d) (s:c (b.put a.dst e) d) :
 if Region.wanted a (yielded k b.tmps)=true then Oper.wp P a b w c o else u:=by
 have t:Region.wanted a (yielded k b.tmps)=true:=by simp[Region.wanted,p]
 rw[if_pos t];unfold Oper.wp;simp[execOp,r,resolve,invoke,builtin,n,x,v,Result.andThen];exact s
end
theorem D5 {w:World} {a:Nat} {c:TypeId} {d:List Value} (h:hA w a c d) (b:List Value):hA (w.setRow a b.toArray) a c b:=setRow_heap w a d.toArray b.toArray c (0,0) h
theorem FG {w:World} {b a:Nat} (c:Array Value) (h:a≠b):(w.setRow b c).heap[a]?=w.heap[a]?:=by unfold World.setRow;simp[Array.getElem?_modify,Ne.symm h]
theorem Gl:(prog.info? 150).map (·.size)=some 5:=by kernel_rfl
def n4 (a:List R5) (b:Nat) (c:R5):List R5:=a.take b++[c]++a.drop b
theorem FS (a:List R5) (b:Nat) (c:R5) (d:b<=a.length):(n4 a b c).length=a.length+1:=by simp[n4];omega
theorem Wv (i:Value) (a:List R5) (b:R5) (f g:Nat) (w:World) (e:w.ownsRow f 150 5 i a.length (k8 a)) (n:f<=w.heap.size) (t:hA w g 150 b.cells) (L:a.length<=10000) :
 Calls prog 156 #[i,iV (a.length:Int),sL g 0 1 1] w (fun d m=>∃c,d=.returned c/\m.ownsRow f 150 5 c (a.length+1) (k8 (n4 a a.length b))/\w.grownBy m i.ownBlock):=by
 have B:=lh e;have G:=lh t;obtain⟨o,x,rfl⟩:=(h4.of_own e rfl).shape;have p:=(Fl.len (h4.of_own e rfl)).2;unfold maxLen at p;obtain⟨M,K,_⟩:=p;obtain⟨z,F,u,y,A⟩:=info_parts GQ;have l:=lh (An (DJ [b]) (An (DU [b]) n));have s:∀k,some ((Ad g 0):Addr)=some k->∀j c,(k8 [b])[j]?=some c->w.cell? (k.add j)=some c:=by
  intro k H j c E;cases H;rw[Addr.add_lit,G.cell,Nat.zero_add];have d:k8 [b]=b.cells:=by simp[k8]
  rwa [d]at E
 have D:=lh s;clear e t s n;go_enter func156,ntmps156
 go_wp2_with (at_builtin;refine Ba _ rfl (.tmp 23) (.tmp 24) 53 rfl f 150 z (.agg #[iZ,iZ,iZ,iZ,iZ]) 5 40 underlying53 F u y A rfl Iv (.slice o a.length x) a.length (k8 a) rfl B.o (some (Ad g 0)) 1 1 (k8 [b]) rfl l.1 (fun h=>by cases h) D.o l.2.1 RD om l.2.2 ?_;intro J I C r v;clear v)
 all_goals
  go_ret;refine⟨_,rfl,?_,by first | exact r | (cases o <;> exact r)⟩;have d:k8 (n4 a a.length b)=k8 a++k8 [b]:=by unfold n4;rw[List.take_length,List.drop_length,List.append_nil,Cq]
  rw[d];exact C
theorem P9 {w:World} {b:Nat} {c:TypeId} {a:List Value} (h:hA w b c a):w.shape? b=some (c,a.length):=by unfold World.shape?;unfold hA at h;rw[h];simp
theorem ZM (w):(Go.sizeOf 150).run prog w=.ok 5 w:=by obtain⟨c,b,e,a,d⟩:=info_parts GQ;simp[Go.sizeOf,typeInfo,b,a]
theorem Zb {w:World} {a b o:Nat} {d n:List Value} (c:hA w a 150 n) (m:hA w b 150 d) (l:a≠b) (k:d.length≠0) (g i j f:Nat) :
 (callFunc 194 #[sL a 0 g i,sL b o j f]).run prog w=.ok (.value (.bool false)) w:=by
 rw[run_callFunc_extern (e:=Extern.SlicesOverlaps.overlaps #[53,53] #[4]) func194 kr kr kr kr,
  Lib.run_overlaps_apart w 53 4 150 underlying53 5 ZM (Ad a 0) (Ad b o) g i j f l _ _ _ _ (P9 c) (P9 m) k (c.frozen 0) (c.frozen _)]
 rfl
theorem Y1 {l:List R5} {a:List Value} {i c:Nat} (h:a.take (l.length*5)=k8 l) (r:a.length=c*5) (s:l.length+1<=c) (t:i<l.length) (b:R5) :
 ((a.take ((i+1)*5)++k8 (l.drop i)++a.drop ((i+1)*5+(k8 (l.drop i)).length)).take (i*5)++b.cells++(a.take ((i+1)*5)++k8 (l.drop i)++a.drop ((i+1)*5+(k8 (l.drop i)).length)).drop (i*5+b.cells.length)).take ((l.length+1)*5)=k8 (n4 l i b):=by
 refine Cm ?_;intro jO;have d:b.cells.length=5:=rfl;have j:(a.take ((i+1)*5)).length=(i+1)*5:=by rw[List.length_take,r];omega
 have f:a.take (i*5)=k8 (l.take i):=by
  rw[<-PI,<-h,List.take_take]
  congr 1
  omega
 have n:(a.take ((i+1)*5)++k8 (l.drop i)++a.drop ((i+1)*5+(k8 (l.drop i)).length)).take (i*5)=k8 (l.take i):=by
  rw[List.append_assoc,List.take_append_of_le_length om,List.take_take,<-f]
  congr 1
  omega
 have g:(a.take ((i+1)*5)++k8 (l.drop i)++a.drop ((i+1)*5+(k8 (l.drop i)).length)).drop (i*5+b.cells.length)=k8 (l.drop i)++a.drop ((i+1)*5+(k8 (l.drop i)).length):=by
  have o:i*5+b.cells.length=(a.take ((i+1)*5)).length:=by rw[j,d];omega
  rw[List.append_assoc,o,List.drop_left]
 have m:(k8 (l.take i)).length=i*5:=by rw[DJ,List.length_take];congr 1;omega
 rw[n,g];unfold n4;rw[Cq,Cq];have e:k8 [b]=b.cells:=by simp[k8]
 rw[e,<-List.append_assoc];refine List.take_left' ?_;simp only[la,m,d,jO];omega
theorem UV (a b:Nat) (l:List R5) (d:R5) (i f:Nat) (m:List Value) (w) (v:hA w a 150 m) (ad:l.length+1<=b) (Q:m.length=b*5) (B:m.take (l.length*5)=k8 l) (V:b<=maxLen) (af:i<l.length) (s:hA w f 150 d.cells) (E:f≠a) (O:l.length<=10000) :
 Calls prog 156 #[sL a 0 l.length b,iV (i:Int),sL f 0 1 1] w (fun I F=>I=.returned (sL a 0 (l.length+1) b)/\(∃D,hA F a 150 D/\D.length=b*5/\D.take ((l.length+1)*5)=k8 (n4 l i d))/\hC [a] w F):=by
 unfold maxLen at V;have ak:¬(b=i+1):=om;have al:¬(b=i):=om;have am:¬((b:Int)<l.length+1):=om;have aj:(i:Int)<=l.length:=om;have Z:=fun ae aa=>Zb (o:=(i+1)*5) s v E om 1 1 ae aa;have ai:(i:Int)+1<=(l.length:Int)+1:=om;refine Cm ?_;intro jO;have M:∀t u,(k8 (l.drop i))[t]?=some u->w.cell? (((Ad a (i*5)):Addr).add t)=some u:=fun t u n=>by
  rw[Addr.add_lit,v.cell];rw[<-Li,List.getElem?_drop,<-B,List.getElem?_take]at n;split at n;·exact n
  ·cases n
 have J:=lh v;have ag:=lh s;have g:=lh (An jO (An Q B));have W:=lh M;clear v s jO Q B M;obtain⟨an,y⟩:=xg (m.take ((i+1)*5)++k8 (l.drop i)++m.drop ((i+1)*5+(k8 (l.drop i)).length));have X:∀j e sc,(Builtin.copy_ #[53,53] j #[.slice (some (Ad a ((i+1)*5))) (l.length-i) e,sL a (i*5) (l.length+1-i) sc]).run prog w.drew=.ok (goInt (Nat.min (l.length+1-i) (l.length-i))) (w.drew.setRow a an.toArray):=fun j e sc=>by have h:=II (P:=prog) w.drew 53 53 j 150 5 a ((i+1)*5) (l.length-i) e (Ad a (i*5)) (l.length+1-i) sc m 150 (k8 (l.drop i)) underlying53 Gl J.o (by rw[g.1,show Nat.min (l.length+1-i) (l.length-i)=l.length-i from Nat.min_eq_right om]) W.o (by rw[g.1,g.2.1];omega) (DU _);rw[y]at h;exact h
 have R:=lh y;clear y;obtain⟨x,G⟩:=xg (an.take (i*5)++d.cells++an.drop (i*5+d.cells.length));have z:=lh G;have C:an.length=b*5:=by rw[<-R.o];simp only[la,List.length_take,List.length_drop,g.1,g.2.1];omega
 have T:∀r,hA r a 150 an->hA r f 150 d.cells->∀j e,(Builtin.copy_ #[53,53] j #[sL a (i*5) (l.length+1-i) e,sL f 0 1 1]).run prog r=.ok (goInt (Nat.min 1 (l.length+1-i))) (r.setRow a x.toArray):=fun r Y s j e=>by have h:=II (P:=prog) r 53 53 j 150 5 a (i*5) (l.length+1-i) e (Ad f 0) 1 1 an 150 d.cells underlying53 Gl Y (by rw[show Nat.min 1 (l.length+1-i)=1 from Nat.min_eq_left om];rfl) (fun t u n=>by rw[Addr.add_lit,s.cell,Nat.zero_add];exact n) (by rw[C];show i*5+5<=_;omega) (fun c K=>by simp only[R5.cells,mc,nn,or_false]at K;rcases K with rfl | rfl | rfl | rfl | rfl <;> rfl);rw[z.o]at h;exact h
 have L:Hd (hA (w.drew.setRow a an.toArray) a 150 an):=D5 (w:=w.drew) J.o an;have S:Hd (hA (w.drew.setRow a an.toArray) f 150 d.cells):=(FG (w:=w.drew) an.toArray E).trans ag.o;have ac:=lh C;refine H8 ?_;unhygienic intros
 clear G C;go_enter func156,ntmps156
 go_wp2_with (simp only[Z])
 go_region_law (refine OE rfl _ _ 53 53 rfl _ _ FP FP (X _ _ _) ?_)
 all_goals
  have ab:=T _ L.o S.o
  go_wp2_with (simp only[ab])
  go_ret;refine⟨rfl,⟨x,D5 L.o x,?_,?_⟩,?_⟩;·rw[<-z.o];simp only[la,List.length_take,List.length_drop,ac.o];show min (i*5) (b*5)+5+(b*5-(i*5+5))=b*5;omega
  ·rw[<-z.o,<-R.o];exact Y1 g.2.2 g.2.1 ad af d
  ·exact⟨rfl,rfl,rfl,Nat.le_of_eq (by simp only[World.setRow,Array.size_modify];rfl),fun k ah O=>by
    have H:k≠a:=fun I=>O QV;rw[FG x.toArray H,FG (w:=w.drew) an.toArray H]
    rfl⟩
theorem Zt {l:List R5} {a:List Value} {i:Nat} (h:a.take (i*5)=k8 (l.take i)) (s:(l.length+1)*5<=a.length) (t:i<l.length) (b:R5) (c d:List Value) (j:a.take (i*5)++b.cells++a.drop (i*5+b.cells.length)=c)
 (f:c.take ((i+1)*5)++k8 (l.drop i)++c.drop ((i+1)*5+(k8 (l.drop i)).length)=d):c.length=a.length/\d.length=a.length/\d.take ((l.length+1)*5)=k8 (n4 l i b):=by
 have e:b.cells.length=5:=rfl;refine Cm ?_;intro jO;have g:c.length=a.length:=by rw[<-j];simp only[la,List.length_take,List.length_drop,e];omega
 have o:d.length=a.length:=by rw[<-f];simp only[la,List.length_take,List.length_drop,g,jO];omega
 refine⟨g,o,?_⟩;have m:(k8 (l.take i)).length=i*5:=by rw[DJ,List.length_take];congr 1;omega
 have r:c.take ((i+1)*5)=k8 (l.take i)++b.cells:=by rw[<-j,h];refine List.take_left' ?_;simp only[la,m,e];omega
 rw[<-f,r];unfold n4;rw[Cq,Cq];have n:k8 [b]=b.cells:=by simp[k8]
 rw[n];refine List.take_left' ?_;simp only[la,m,e,jO];omega
theorem Vo (ak a:Nat) (l:List R5) (r:R5) (i t:Nat) (w:World) (z:h4 w (sL ak 0 l.length a) l) (aI:a<l.length+1) (a5:i<l.length) (y:hA w t 150 r.cells) (W:l.length<=10000) :
 Calls prog 156 #[sL ak 0 l.length a,iV (i:Int),sL t 0 1 1] w (fun I an=>∃C M,I=.returned (sL w.heap.size 0 (l.length+1) C)/\(hA an w.heap.size 150 M/\M.length=C*5/\l.length+1<=C/\C<=maxLen/\M.take ((l.length+1)*5)=k8 (n4 l i r))/\BW w an):=by
 have aa:=(Fl.len z).2;unfold maxLen at aa;obtain⟨aF,aH,_⟩:=aa;have aG:(a:Int)<l.length+1:=om;have aC:(i:Int)<=l.length:=om;obtain⟨ae,a6,ax,a8,ad⟩:=info_parts GQ;have Y:(l.length:Int)+1-(i:Int)=((l.length+1-i:Nat):Int):=om;have V:i+(l.length+1-i)=l.length+1:=om;have aB:ak<w.heap.size:=by obtain⟨T,K,I,j⟩:=Fl.at z (i:=0) om;cases I;rw[(Jg l 0 om).1]at j;exact ht j
 have ar:(Builtin.firstCells ae.size i (sL ak 0 i a)).run prog w.drew=.ok (k8 (l.take i)).toArray w.drew:=by
  rw[a8];refine run_firstCells_some w.drew 5 i (Ad ak 0) i a (k8 (l.take i)) (by rw[DJ,List.length_take];congr 1;omega) (fun E u f=>?_);rw[Addr.add_lit];rw[<-PI,List.getElem?_take]at f;split at f;·obtain⟨T,K,I,j⟩:=Fl.at z (i:=E) om;cases I;exact j.trans f
  ·cases f
 have H:∀e,(Builtin.append_ #[53,3] e #[sL ak 0 i a,iV ((l.length:Int)+1-(i:Int))]).run prog w =
  .ok (sL w.heap.size 0 (l.length+1) (grownCap w (l.length+1) a 150)) (w.drew.alloc (.cells ((k8 (l.take i)).toArray++Builtin.zeroCells (Value.agg #[iZ,iZ,iZ,iZ,iZ]).cells (l.length+1-i)++Builtin.zeroCells (Value.agg #[iZ,iZ,iZ,iZ,iZ]).cells (grownCap w (l.length+1) a 150-(l.length+1))) 150)):=fun e=>by
  have h:=Lib.run_append_grow_zeros w 53 3 e 150 ae _ .i64 .i64 underlying53 underlying3 a6 ax (some (Ad ak 0)) i a (k8 (l.take i)) ar (l.length+1-i) om om om om (by rw[ad];omega) (by rw[ad,V];exact growslice_fits om om);rw[V]at h;rw[Y];exact h
 obtain⟨m,A⟩:∃m,m=grownCap w (l.length+1) a 150:=⟨_,rfl⟩;obtain⟨d,G⟩:∃d:List Value,((k8 (l.take i)).toArray++Builtin.zeroCells (Value.agg #[iZ,iZ,iZ,iZ,iZ]).cells (l.length+1-i)++Builtin.zeroCells (Value.agg #[iZ,iZ,iZ,iZ,iZ]).cells (m-(l.length+1))).toList=d:=⟨_,rfl⟩;rw[<-A]at H;have a2:l.length+1<=m:=by rw[A];exact grownCap_ge w _ _ _
 have az:m<=maxLen:=by rw[A];exact grownCap_le_maxLen w _ _ _ RD
 have ab:(Value.agg #[iZ,iZ,iZ,iZ,iZ]).cells.size=5:=rfl;have R:(k8 (l.take i)).length=i*5:=by rw[DJ,List.length_take];congr 1;omega
 have D:d.length=m*5:=by rw[<-G];simp only[Array.length_toList,Array.size_append,size_zeroCells,ab,List.size_toArray,R];omega
 have ao:d.take (i*5)=k8 (l.take i):=by rw[<-G];simp only[Array.toList_append,List.append_assoc];exact List.take_left' R
 rw[show((k8 (l.take i)).toArray++Builtin.zeroCells (Value.agg #[iZ,iZ,iZ,iZ,iZ]).cells (l.length+1-i)++Builtin.zeroCells (Value.agg #[iZ,iZ,iZ,iZ,iZ]).cells (m-(l.length+1)))=d.toArray by rw[<-G]]at H;obtain⟨g,J⟩:=xg (d.take (i*5)++r.cells++d.drop (i*5+r.cells.length));obtain⟨B,Q⟩:=xg (g.take ((i+1)*5)++k8 (l.drop i)++g.drop ((i+1)*5+(k8 (l.drop i)).length));obtain⟨aj,au,ac⟩:=Zt ao om a5 r g B J Q;have aD:=y.lt;have ai:∀b,hA b w.heap.size 150 d->hA b t 150 r.cells->∀e s,(Builtin.copy_ #[53,53] e #[sL w.heap.size (i*5) (l.length+1-i) s,sL t 0 1 1]).run prog b=.ok (goInt (Nat.min 1 (l.length+1-i))) (b.setRow w.heap.size g.toArray):=fun b L y e s=>by have h:=II (P:=prog) b 53 53 e 150 5 w.heap.size (i*5) (l.length+1-i) s (Ad t 0) 1 1 d 150 r.cells underlying53 Gl L (by rw[show Nat.min 1 (l.length+1-i)=1 from Nat.min_eq_left om];rfl) (fun E u f=>by rw[Addr.add_lit,y.cell,Nat.zero_add];exact f) (by rw[D];show i*5+5<=_;omega) (fun c j=>by simp only[R5.cells,mc,nn,or_false]at j;rcases j with rfl | rfl | rfl | rfl | rfl <;> rfl);rw[J]at h;exact h
 refine Cm ?_;intro jO;have af:∀b,hA b w.heap.size 150 g->h4 b (sL ak 0 l.length a) l->∀e s sc,(Builtin.copy_ #[53,53] e #[.slice (some (Ad w.heap.size ((i+1)*5))) (l.length-i) s,sL ak (i*5) (l.length-i) sc]).run prog b=.ok (goInt (Nat.min (l.length-i) (l.length-i))) (b.setRow w.heap.size B.toArray):=fun b L a3 e s sc=>by
  have h:=II (P:=prog) b 53 53 e 150 5 w.heap.size ((i+1)*5) (l.length-i) s (Ad ak (i*5)) (l.length-i) sc g 150 (k8 (l.drop i)) underlying53 Gl L (by rw[jO,show Nat.min (l.length-i) (l.length-i)=l.length-i from Nat.min_self _]) (fun E u f=>by
   rw[Addr.add_lit];have aA:=(List.getElem?_eq_some_iff.1 f).1;rw[jO]at aA;obtain⟨T,K,I,j⟩:=Fl.at a3 (i:=i*5+E) om;cases I;rw[<-Li,List.getElem?_drop]at f;rw[Nat.zero_add]at j
   exact j.trans f) (by rw[aj,D,jO];omega) (DU _)
  rw[Q]at h;exact h
 have aE:¬(a=i):=om;have aJ:¬(m=i):=om;have aK:¬(m=i+1):=om;refine H8 ?_;unhygienic intros
 have a1:=lh ai;have ay:=lh af;have a9:=lh z;have av:=lh y;have F:=lh (An au (An ac (An D (An a2 az))));clear ai af z y J Q aj au ac G D ao ar Y V ab R jO A;go_enter func156,ntmps156;go_upto_region 10 with(at_builtin;refine Lib.wpList_append_run _ rfl (.tmp 34) (.tmp 39) 53 3 rfl _ _ rfl rfl _ _ (H _) ?_)
 obtain⟨aw,ah,O,Z,al,aL⟩:∃aw,(w.alloc (.cells d.toArray 150)).drew=aw/\Hd (hA aw w.heap.size 150 d)/\Hd (hA aw t 150 r.cells)/\Hd (h4 aw (sL ak 0 l.length a) l)/\Hd (BW w aw) :=
  ⟨_,rfl,(hR w d _ _ rfl).B (hG bR),av.B (hG (hB bR _)),a9.B (hG (hB bR _)),hG (hB bR _)⟩
 with_reducible rw[ah]
 clear ah H;have X:=a1.o aw O.o Z.o;go_upto_region 11 with(simp only[X])
 obtain⟨o,ag,am,a0,v⟩:∃o,aw.setRow w.heap.size g.toArray=o/\Hd (hA o w.heap.size 150 g)/\Hd (h4 o (sL ak 0 l.length a) l)/\Hd (BW w o):=by
  refine⟨_,rfl,D5 O.o g,?_,?_⟩;·have x:hC [w.heap.size] aw (aw.setRow w.heap.size g.toArray):=⟨rfl,rfl,rfl,Nat.le_of_eq (by simp only[World.setRow,Array.size_modify]),fun k _ W=>FG _ (fun I=>W QV)⟩;exact al.keep x (fun T K n c I W a4=>by cases I;simp at a4;omega)
  ·exact⟨aL.os,aL.tape,aL.output,by have:=aL.size;simp only[World.setRow,Array.size_modify];exact this,fun k x=>(FG _ om).trans (aL.block k x)⟩
 with_reducible rw[ag]
 clear ag X O Z al aL;have a7:=ay.o o.drew am.o a0.o
 go_region_law (refine OE rfl _ _ 53 53 rfl _ _ FP FP (a7 _ _ _) ?_)
 all_goals
  go_wp2;go_ret;refine⟨m,B,rfl,⟨D5 (w:=o.drew) am.o B,?_,F.2.2.2.1,F.2.2.2.2,F.2.1⟩,?_⟩;·have h:=F.o;rw[h.1,h.2.2.1]
  ·exact⟨v.os,v.tape,v.output,by have:=v.size;simp only[World.setRow,Array.size_modify];exact this,fun k x=>(FG (w:=o.drew) _ om).trans (v.block k x)⟩
theorem NL (f:Value) (a:List R5) (c:R5) (b i d:Nat) (w:World) (l:w.ownsRow i 150 5 f a.length (k8 a)) (z:i<=w.heap.size) (u:hA w d 150 c.cells) (B:some d≠f.ownBlock) (I:b<=a.length) (t:a.length<=10000) :
 Calls prog 156 #[f,iV (b:Int),sL d 0 1 1] w (fun k e=>∃j,k=.returned j/\e.ownsRow i 150 5 j (a.length+1) (k8 (n4 a b c))/\hC f.ownBlock.toList w e):=by
 by_cases h:b=a.length;·subst h;refine(Wv f a c i d w l z u t).mono fun k e ⟨j,J,F,n⟩=>⟨j,J,F,(hC.refl _ w).grown n (fun R g=>.inl (by rw[g];simp))⟩
 ·have v:b<a.length:=om;have Q:=FS a b c I;rcases l.2 with⟨rfl,O⟩ | ⟨o,r,A,rfl,C,n,S,x,H,G⟩;·omega
  ·have K:hA w o 150 A.toList:=by simpa[hA] using n
   by_cases y:a.length+1<=r;·refine(UV o r a c b d A.toList w K y (ss H) G x v u (fun k=>B (by rw[k];rfl)) t).mono ?_;rintro _ e ⟨rfl,⟨L,p,m,s⟩,g⟩;exact⟨_,rfl,D7 p C y x m s,g⟩
   ·refine(Vo o r a c b d w (h4.of_own l rfl) om v u t).mono ?_;rintro _ e ⟨M,L,rfl,⟨p,m,s,D,E⟩,g⟩;exact⟨_,rfl,D7 p z s D m E,hC.of_below g⟩
theorem P6 (h:q:=by
 rintro _ kz ⟨cU,rfl,v9,vA⟩;have tM:=FS l p x oe.2.1;obtain⟨fu,fv,rfl⟩:=(h4.of_own v9 tM).shape;have jf:=zo.o _ _ fZ vA;have lR:=lh v9;have xy:=lh vA;clear v9 vA tM;refine Dr ?_;clear ac a4;show _;refine wS 15 rfl ?_;refine wS 16 rfl ?_;have eX:Hd (hA kz g 125 [iV ay,.slice bH ts.length bC,iV al,iV an,iV az,iV ar,iV ax,.slice f' l.length dP]):=(dc.B dS.o).keep xy.o (fun a0=>cT.2.2.2 (by simpa using (tl.1 a0).symm));have zp:kz.frozen? (Ad g 7)=false:=(eX.o).frozen 7;have zq:=jf.1.2.2.2.2.2.2.2;refine wS 17 rfl ?_;refine r4 kr ?_ _;clear zp zq;go_wp2;go_ret;have xz:hC (g::(Value.slice f' l.length dP).ownBlock.toList) w kz:=(hC.of_below dS.o).trans xy.o (fun aG bq=>.inl (mo _ bq));have tM:=FS l p x oe.2.1;have lV:hL [g] (.slice fu (n4 l p x).length fv):=fun b ae n c I aK a0=>by
  cases I;simp only[ms]at a0;subst a0;rcases lR.2 with⟨h,_⟩ | ⟨yK,fw,yL,h,ed,zr,_⟩;·cases h
  ·simp only[Value.slice.injEq,Option.some.injEq,Addr.mk.injEq]at h;obtain⟨⟨rfl,_⟩,_⟩:=h;have:=eX.o;unfold hA at this;rw[zr]at this;simp at this
 refine⟨rfl,.slice fu (n4 l p x).length fv,⟨?_,?_,?_⟩,?_,?_⟩;·exact eX.set 7 _
 ·exact((qd.keep xz oe.2.2)).keep ((hC.refl [g] _).setCell (.inl Is) _) (oe.2.2.mono Is)
 ·exact((h4.of_own lR.o tM)).keep ((hC.refl [g] _).setCell (.inl Is) _) lV
 ·exact t1 lR.o (hh lR.o eX.o Iv) _
 ·exact xz.setCell (.inl Is) _):q:=h
def Tm.rightE (a:Tm) (b:R5):Int:=Cg a.lim a.ts a.cyc a.dued a.minf a.minp a.start b.a b.b b.c b.d b.e
theorem V9 (g:Nat) (b:Tm) (A d:Value) (l:List R5) (x:R5) (c:Nat) (bu:Int) (t:Hd (b.rightE x=bu)) (u:bu≠0) (w:World) (G:qq w g b A d l) (n:w.ownsRow c 150 5 d l.length (k8 l)) (D:c<=w.heap.size) (z:c<=g) (F:b.ts.length<=1000) (B:some g≠d.ownBlock) :
 Calls prog 115 #[pV g,.agg #[iV x.a,iV x.b,iV x.c,iV x.d,iV x.e]] w (RetB (iV bu) w):=by
 obtain⟨j,e,f⟩:=G;have dc:=lh j;have H:=lh e;have L:=lh f;have K:=lh n;obtain⟨f',dP,rfl⟩:=f.shape;obtain⟨bH,bC,rfl⟩:=e.shape;obtain⟨ay,ts,al,an,az,ar,ax⟩:=b;simp only[Tm.cells,List.cons_append,List.nil_append]at *;have J:=j.lt;refine Er ?_;clear j e f n D z F B;intro jC ce;have I:(bu != 0)=true:=by simp[u]
 clear u;simp only[Tm.rightE]at t;go_enter func115,ntmps115;go_upto_region 3 with fail;obtain⟨a,o,i,m⟩:∃a,w.alloc (.cells #[iV x.a,iV x.b,iV x.c,iV x.d,iV x.e] 150)=a/\Hd (∀W',BW a W'->((Ce W' g 0 (iV ay)/\Ce W' g 1 (.slice bH ts.length bC)/\Ce W' g 2 (iV al)/\Ce W' g 3 (iV an)/\Ce W' g 4 (iV az)/\Ce W' g 5 (iV ar)/\Ce W' g 6 (iV ax)/\Ce W' g 7 (.slice f' l.length dP))/\(Ce W' w.heap.size 0 (iV x.a)/\Ce W' w.heap.size 1 (iV x.b)/\Ce W' w.heap.size 2 (iV x.c)/\Ce W' w.heap.size 3 (iV x.d)/\Ce W' w.heap.size 4 (iV x.e))))/\Hd (BW w a/\a.heap.size=w.heap.size+1) :=
  ⟨_,rfl,fun W' h=>ce.o W' (h.mono x1),hB bR _,by rw[wa]⟩
 with_reducible rw[o]
 clear o;have C:=i.o a bR;have E:=i.o a.drew (hG bR);go_region_held3 (fun W'=>((Ce W' g 0 (iV ay)/\Ce W' g 1 (.slice bH ts.length bC)/\Ce W' g 2 (iV al)/\Ce W' g 3 (iV an)/\Ce W' g 4 (iV az)/\Ce W' g 5 (iV ar)/\Ce W' g 6 (iV ax)/\Ce W' g 7 (.slice f' l.length dP))/\(Ce W' w.heap.size 0 (iV x.a)/\Ce W' w.heap.size 1 (iV x.b)/\Ce W' w.heap.size 2 (iV x.c)/\Ce W' w.heap.size 3 (iV x.d)/\Ce W' w.heap.size 4 (iV x.e)))) (first | with_reducible exact C | with_reducible exact E | with_reducible exact y | with_reducible assumption) (first | (go_at_call 135;refine(HF _ ts ay al an az ar ax x.a x.b x.c x.d x.e bu t _ (H.o.B (hG m.o.1))).mono ?_;rintro _ v ⟨rfl,s⟩;have r:Hd (BW a v):=hJ (hG bR) s;have y:=i.o v r.o;clear s));all_goals
  go_wp2;go_ret;exact⟨rfl,hJ m.1 r.o⟩
theorem We (g:Nat) (b:Tm) (A d:Value) (l:List R5) (x:R5) (c:Nat) (f:Hd (b.rightE x=0)) (V:2000<=l.length) (w:World) (G:qq w g b A d l) (r:w.ownsRow c 150 5 d l.length (k8 l)) (D:c<=w.heap.size) (z:c<=g) (F:b.ts.length<=1000) (B:some g≠d.ownBlock) :
 Calls prog 115 #[pV g,.agg #[iV x.a,iV x.b,iV x.c,iV x.d,iV x.e]] w (RetB (iV 14) w):=by
 obtain⟨n,e,i⟩:=G;have dc:=lh n;have H:=lh e;have W:=lh i;have R:=lh r;obtain⟨f',dP,rfl⟩:=i.shape;obtain⟨bH,bC,rfl⟩:=e.shape;obtain⟨ay,ts,al,an,az,ar,ax⟩:=b;simp only[Tm.cells,List.cons_append,List.nil_append]at *;have L:=n.lt;refine Er ?_;clear n e i r D z F B;intro jC ce;have T:(2000:Int)<=(l.length:Int):=om;obtain⟨bu,j⟩:∃bu:Int,bu=0:=⟨0,rfl⟩;simp only[Tm.rightE]at f;rw[<-j]at f;have S:(bu != 0)=false:=by simp[j]
 clear j;go_enter func115,ntmps115;go_upto_region 3 with fail;obtain⟨a,s,m,o⟩:∃a,w.alloc (.cells #[iV x.a,iV x.b,iV x.c,iV x.d,iV x.e] 150)=a/\Hd (∀W',BW a W'->((Ce W' g 0 (iV ay)/\Ce W' g 1 (.slice bH ts.length bC)/\Ce W' g 2 (iV al)/\Ce W' g 3 (iV an)/\Ce W' g 4 (iV az)/\Ce W' g 5 (iV ar)/\Ce W' g 6 (iV ax)/\Ce W' g 7 (.slice f' l.length dP))/\(Ce W' w.heap.size 0 (iV x.a)/\Ce W' w.heap.size 1 (iV x.b)/\Ce W' w.heap.size 2 (iV x.c)/\Ce W' w.heap.size 3 (iV x.d)/\Ce W' w.heap.size 4 (iV x.e))))/\Hd (BW w a/\a.heap.size=w.heap.size+1) :=
  ⟨_,rfl,fun W' h=>ce.o W' (h.mono x1),hB bR _,by rw[wa]⟩
 with_reducible rw[s]
 clear s;have C:=m.o a bR;have E:=m.o a.drew (hG bR);go_region_held3 (fun W'=>((Ce W' g 0 (iV ay)/\Ce W' g 1 (.slice bH ts.length bC)/\Ce W' g 2 (iV al)/\Ce W' g 3 (iV an)/\Ce W' g 4 (iV az)/\Ce W' g 5 (iV ar)/\Ce W' g 6 (iV ax)/\Ce W' g 7 (.slice f' l.length dP))/\(Ce W' w.heap.size 0 (iV x.a)/\Ce W' w.heap.size 1 (iV x.b)/\Ce W' w.heap.size 2 (iV x.c)/\Ce W' w.heap.size 3 (iV x.d)/\Ce W' w.heap.size 4 (iV x.e)))) (first | with_reducible exact C | with_reducible exact E | with_reducible exact t | with_reducible assumption) (first | (go_at_call 135;refine(HF _ ts ay al an az ar ax x.a x.b x.c x.d x.e bu f _ (H.o.B (hG o.o.1))).mono ?_;rintro _ y ⟨rfl,v⟩;have u:Hd (BW a y):=hJ (hG bR) v;have t:=m.o y u.o;clear v));all_goals
  obtain⟨⟨I,M,X,O,Q,P,K,J⟩,_⟩:=t;go_wp2;go_ret;exact⟨rfl,hJ o.1 u.o⟩
theorem Yy (g:Nat) (B:Tm) (M z:Value) (l:List R5) (x:R5) (v:Nat) (T:Hd (B.rightE x=0)) (av:l.length<2000) (p:Nat) (a1:Hd (BX x.b l l.length=p)) (af:p<=l.length) (am:hL (g::z.ownBlock.toList) M) (w:World) (aB:qq w g B M z l) (ab:w.ownsRow v 150 5 z l.length (k8 l)) (aj:v<=w.heap.size) (ah:v<=g) (au:B.ts.length<=1000) (ai:some g≠z.ownBlock) :
 Calls prog 115 #[pV g,.agg #[iV x.a,iV x.b,iV x.c,iV x.d,iV x.e]] w (fun I K=>I=.returned (iZ)/\∃cU,qq K g B M cU (n4 l p x)/\K.ownsRow v 150 5 cU (l.length+1) (k8 (n4 l p x))/\hC (g::z.ownBlock.toList) w K):=by
 obtain⟨Z,P,V⟩:=aB;have dc:=lh Z;have qd:=lh P;have aw:=lh V;have G:=lh ab;obtain⟨f',dP,rfl⟩:=V.shape;obtain⟨bH,bC,rfl⟩:=P.shape;obtain⟨ay,ts,al,an,az,ar,ax⟩:=B;simp only[Tm.cells,List.cons_append,List.nil_append]at *;have cT:=lh (An aj (An ah (An au ai)));have a7:=Z.lt;have aF:=lh a7;refine Er ?_;clear Z P V ab aj ah au ai;intro jC ce;have aI:¬(2000:Int)<=(l.length:Int):=om;obtain⟨bu,X⟩:∃bu:Int,bu=0:=⟨0,rfl⟩;simp only[Tm.rightE]at T;rw[<-X]at T;have aH:(bu != 0)=false:=by simp[X]
 have oe:=lh (An av (An af am));have Y:Hd (∀q,(Value.slice f' l.length dP).ownBlock=some q->q<w.heap.size/\v<=q):=fun q E=>⟨(G.lt q E).2,(G.lt q E).1⟩;clear X av af am;go_enter func115,ntmps115;go_upto_region 3 with fail;obtain⟨r,ad,H,t⟩:∃r,w.alloc (.cells #[iV x.a,iV x.b,iV x.c,iV x.d,iV x.e] 150)=r/\Hd (∀W',BW r W'->((Ce W' g 0 (iV ay)/\Ce W' g 1 (.slice bH ts.length bC)/\Ce W' g 2 (iV al)/\Ce W' g 3 (iV an)/\Ce W' g 4 (iV az)/\Ce W' g 5 (iV ar)/\Ce W' g 6 (iV ax)/\Ce W' g 7 (.slice f' l.length dP))/\(Ce W' w.heap.size 0 (iV x.a)/\Ce W' w.heap.size 1 (iV x.b)/\Ce W' w.heap.size 2 (iV x.c)/\Ce W' w.heap.size 3 (iV x.d)/\Ce W' w.heap.size 4 (iV x.e))))/\Hd (BW w r/\r.heap.size=w.heap.size+1) :=
  ⟨_,rfl,fun W' h=>ce.o W' (h.mono x1),hB bR _,by rw[wa]⟩
 with_reducible rw[ad]
 clear ad;have a6:=H.o r bR;have a9:=H.o r.drew (hG bR);go_region_held3 (fun W'=>((Ce W' g 0 (iV ay)/\Ce W' g 1 (.slice bH ts.length bC)/\Ce W' g 2 (iV al)/\Ce W' g 3 (iV an)/\Ce W' g 4 (iV az)/\Ce W' g 5 (iV ar)/\Ce W' g 6 (iV ax)/\Ce W' g 7 (.slice f' l.length dP))/\(Ce W' w.heap.size 0 (iV x.a)/\Ce W' w.heap.size 1 (iV x.b)/\Ce W' w.heap.size 2 (iV x.c)/\Ce W' w.heap.size 3 (iV x.d)/\Ce W' w.heap.size 4 (iV x.e)))) (first | with_reducible exact a6 | with_reducible exact a9 | with_reducible exact ag | with_reducible assumption) (first | (go_at_call 135;refine(HF _ ts ay al an az ar ax x.a x.b x.c x.d x.e bu T _ (qd.o.B (hG t.o.1))).mono ?_;rintro _ f ⟨rfl,ak⟩;have o:Hd (BW r f):=hJ (hG bR) ak;have ag:=H.o f o.o;clear ak));all_goals
  have zo:Hd (∀d W',(((d.cell? (Ad g 0)=some (iV ay)/\d.cell? (Ad g 1)=some (.slice bH ts.length bC)/\d.cell? (Ad g 2)=some (iV al)/\d.cell? (Ad g 3)=some (iV an)/\d.cell? (Ad g 4)=some (iV az)/\d.cell? (Ad g 5)=some (iV ar)/\d.cell? (Ad g 6)=some (iV ax)/\d.cell? (Ad g 7)=some (.slice f' l.length dP))/\(d.cell? (Ad w.heap.size 0)=some (iV x.a)/\d.cell? (Ad w.heap.size 1)=some (iV x.b)/\d.cell? (Ad w.heap.size 2)=some (iV x.c)/\d.cell? (Ad w.heap.size 3)=some (iV x.d)/\d.cell? (Ad w.heap.size 4)=some (iV x.e))))->hC (Value.slice f' l.length dP).ownBlock.toList d W'->(((Ce W' g 0 (iV ay)/\Ce W' g 1 (.slice bH ts.length bC)/\Ce W' g 2 (iV al)/\Ce W' g 3 (iV an)/\Ce W' g 4 (iV az)/\Ce W' g 5 (iV ar)/\Ce W' g 6 (iV ax)/\Ce W' g 7 (.slice f' l.length dP))/\(Ce W' w.heap.size 0 (iV x.a)/\Ce W' w.heap.size 1 (iV x.b)/\Ce W' w.heap.size 2 (iV x.c)/\Ce W' w.heap.size 3 (iV x.d)/\Ce W' w.heap.size 4 (iV x.e))))):=by intro d W' h i;have s:g∉(Value.slice f' l.length dP).ownBlock.toList:=fun a0=>cT.2.2.2 (by simpa using (tl.1 a0).symm);have A:w.heap.size∉(Value.slice f' l.length dP).ownBlock.toList:=fun a0=>oo ((Y.o _ (tl.1 a0)).1);obtain⟨⟨J,Q,aa,R,W,S,O,L⟩,a8,a3,aA,a2,a5⟩:=h;exact⟨⟨i.cell J s,i.cell Q s,i.cell aa s,i.cell R s,i.cell W s,i.cell S s,i.cell O s,i.cell L s⟩,i.cell a8 A,i.cell a3 A,i.cell aA A,i.cell a2 A,i.cell a5 A⟩
  have u:Hd (∀W',BW f W'->((Ce W' g 0 (iV ay)/\Ce W' g 1 (.slice bH ts.length bC)/\Ce W' g 2 (iV al)/\Ce W' g 3 (iV an)/\Ce W' g 4 (iV az)/\Ce W' g 5 (iV ar)/\Ce W' g 6 (iV ax)/\Ce W' g 7 (.slice f' l.length dP))/\(Ce W' w.heap.size 0 (iV x.a)/\Ce W' w.heap.size 1 (iV x.b)/\Ce W' w.heap.size 2 (iV x.c)/\Ce W' w.heap.size 3 (iV x.d)/\Ce W' w.heap.size 4 (iV x.e)))):=fun W' h=>H.o W' (hJ o.o h);have E:=ag;obtain⟨⟨J,Q,aa,R,W,S,O,L⟩,_⟩:=E;go_upto_region 8 with fail;clear J Q aa R W S O L;have aE:=u.o f.drew (hG bR);refine se (fun W'=>((Ce W' g 0 (iV ay)/\Ce W' g 1 (.slice bH ts.length bC)/\Ce W' g 2 (iV al)/\Ce W' g 3 (iV an)/\Ce W' g 4 (iV az)/\Ce W' g 5 (iV ar)/\Ce W' g 6 (iV ax)/\Ce W' g 7 (.slice f' l.length dP))/\(Ce W' w.heap.size 0 (iV x.a)/\Ce W' w.heap.size 1 (iV x.b)/\Ce W' w.heap.size 2 (iV x.c)/\Ce W' w.heap.size 3 (iV x.d)/\Ce W' w.heap.size 4 (iV x.e)))) 15 kr ?_;refine tK 0 rfl ?_;refine tK 1 rfl ?_;refine tK 2 rfl ?_;refine tK 3 rfl ?_;refine tK 4 rfl ?_;refine tK 5 rfl ?_;refine tK 6 rfl ?_;refine tK 7 rfl ?_;refine tK 8 rfl ?_;refine tK 9 rfl ?_;refine tK 10 rfl ?_;refine tK 12 rfl ?_;refine BZ (rs:=[11,13]) kr Is ?_;refine k0.cons (o:=⟨_,_,_,_,_,_⟩) rfl (fun a4 ac=>?_) (k0.cons (o:=⟨_,_,_,_,_,_⟩) rfl (fun a4 ac=>?_) k0.nil)
  ·have D:Hd (BW f f.drew):=hG bR;go_simp;refine(NA _ l x.b p a1 _ (aw.B (by first | exact hJ t.1 (hJ o.o D.o)))).mono ?_;rintro _ e ⟨rfl,y⟩;have HB6:Hd (BW f e):=hJ (hG bR) y;clear y;refine ac.out _ _ (fun hun=>u.o e HB6.o) ?_;clear ac a4;try simp only[ap,aq,sa,sb,sc]
   refine wo 13 kr rfl fun a4 ac=>?_;go_simp;refine ac.out _ _ (fun hun=>u.o _ (hB HB6.o _)) ?_;clear ac a4;try simp only[ap,aq,sa,sb,sc]
   obtain⟨a,ao,dS,F,C,fZ⟩:∃a,e.alloc (.cells #[iV x.a,iV x.b,iV x.c,iV x.d,iV x.e] 150)=a/\Hd (BW w a)/\Hd (hA a e.heap.size 150 x.cells)/\Hd (w.heap.size<=e.heap.size)/\(((a.cell? (Ad g 0)=some (iV ay)/\a.cell? (Ad g 1)=some (.slice bH ts.length bC)/\a.cell? (Ad g 2)=some (iV al)/\a.cell? (Ad g 3)=some (iV an)/\a.cell? (Ad g 4)=some (iV az)/\a.cell? (Ad g 5)=some (iV ar)/\a.cell? (Ad g 6)=some (iV ax)/\a.cell? (Ad g 7)=some (.slice f' l.length dP))/\(a.cell? (Ad w.heap.size 0)=some (iV x.a)/\a.cell? (Ad w.heap.size 1)=some (iV x.b)/\a.cell? (Ad w.heap.size 2)=some (iV x.c)/\a.cell? (Ad w.heap.size 3)=some (iV x.d)/\a.cell? (Ad w.heap.size 4)=some (iV x.e)))):=⟨_,rfl,hB (hJ (hJ t.1 o.o) HB6.o) _,hR e x.cells _ _ rfl,by have:=t.1.size;have:=o.size;have:=HB6.size;show _<=_;omega,u.o _ (hB HB6.o _)⟩;with_reducible rw[ao]
   obtain⟨j,m⟩:=xg e.heap.size;with_reducible rw[m]
   rw[m]at F C;clear ao m;refine wo 14 kr rfl fun a4 ac=>?_;go_simp;refine(NL (.slice f' l.length dP) l x p v j a (ic G.o dS.o) (o2 dS.size cT.1) F.o (fun I=>o2 ((Y.o _ I.symm).1) C.o) oe.2.1 (oo oe.1)).mono ?_;exact P6
  ·go_simp;refine ac.out _ _ (fun hun=>u.o _ (hB (hG bR) _)) ?_;clear ac a4;try simp only[ap,aq,sa,sb,sc]
   refine wo 11 kr rfl fun a4 ac=>?_;have D:Hd (BW f (f.drew.alloc (.cells #[iV x.a,iV x.b,iV x.c,iV x.d,iV x.e] 150))):=hB (hG bR) _;have aD:Hd (hA (f.drew.alloc (.cells #[iV x.a,iV x.b,iV x.c,iV x.d,iV x.e] 150)) f.heap.size 150 x.cells):=hR f.drew x.cells _ _ rfl;go_simp;refine(NA _ l x.b p a1 _ (aw.B (by first | exact hJ t.1 (hJ o.o D.o)))).mono ?_;rintro _ e ⟨rfl,y⟩;have HB6:Hd (BW f e):=hJ D.o y;have aC:=lh (aD.B y);clear y;refine ac.out _ _ (fun hun=>u.o e HB6.o) ?_;clear ac a4;try simp only[ap,aq,sa,sb,sc]
   have dS:Hd (BW w e):=hJ (hJ t.1 o.o) HB6.o;have fZ:=u.o e HB6.o;obtain⟨j,m⟩:=xg f.heap.size;with_reducible rw[m]
   have F:Hd (hA e j 150 x.cells):=by rw[<-m];exact aC.o
   have C:Hd (w.heap.size<=j):=by rw[<-m];have:=t.1.size;have:=o.size;show _<=_;omega
   clear m;refine wo 14 kr rfl fun a4 ac=>?_;go_simp;refine(NL (.slice f' l.length dP) l x p v j e (ic G.o dS.o) (o2 dS.size cT.1) F.o (fun I=>o2 ((Y.o _ I.symm).1) C.o) oe.2.1 (oo oe.1)).mono ?_;exact P6
structure Ps where
 bs:List Int
 c:Int
 d:Int
structure St where
 n:Int
 fr:Int
 til:Int
 du:Int
 ls:List (Int×Int×Int)
 tot:Int
 cr:Int
 mn:Int
 g:Bool
variable {L:List St}
def DC:Ps:=⟨[],0,0⟩
def DF (a:List Int×Int×Int×Int):Ps:=⟨a.1,a.2.1,a.2.2.1⟩
def w4 (b:Ps) (c:List Int) (a:R5):Bool :=
 hW b.bs b.c b.d && (c.length == b.bs.length) && !c.any q1 && (decide (1<=a.a) && decide (a.a<=6)) && (a.a == 2 || (decide (1<=a.c) && decide (a.c<=(c.length:Int)))) && (a.a != 6 || (decide (0<=a.d) && decide (a.d<=10000000)))
def p0 (a:Ps) (c:List Int) (b:R5):List Int×Int×Int×Int :=
 if b.a=1\/b.a=5 then Bf a.bs a.c a.d b.c b.d
 else if b.a=2 then q3 a.bs a.c a.d c b.d
 else if b.a=3\/b.a=4 then CB a.bs a.c a.d c b.c b.d
 else (a.bs,a.c,a.d,0)
def CK (b:List Int) (a:R5):List Int:=if a.a=6 then b.set (a.c-1).toNat a.d else b
def pc (c:Ps) (a:List Int) (b:R5):Ps×List Int×Int :=
 if w4 c a b=false then (DC,[],1)
 else if (p0 c a b).2.2.2≠0 then (DC,[],(p0 c a b).2.2.2)
 else (DF (p0 c a b),CK a b,0)
def Fg (a:Tm):List R5->Int
 | []=>0
 | x::l=>if a.rightE x≠0 then a.rightE x else Fg a l
noncomputable def D8 (a:Tm) (c:List R5) (b:Int):Int :=
 if a.right=false then 6
 else if Fg a c≠0 then Fg a c
 else if 2000<c.length then 14
 else if b<a.start\/2932896<b then 10
 else if (tt a.start a.cyc b).2≠0 then 10
 else if c.any (fun d=>decide (b<d.b))=true then 10
 else 0
structure RS where
 at':Nat
 p:Ps
 rs:List Int
 X:List (List Int)
 Y:List (List Int)
 o:List St
def w1 (d:List R5) (e:Int):Nat->Nat->Ps->List Int->Nat×Ps×List Int×Int
 | 0,a,c,b=>(a,c,b,0)
 | f+1,a,c,b =>
  if (d.getD a Sk).b=e then
   if (pc c b (d.getD a Sk)).2.2≠0 then (a,c,b,(pc c b (d.getD a Sk)).2.2)
   else w1 d e f (a+1) (pc c b (d.getD a Sk)).1 (pc c b (d.getD a Sk)).2.1
  else (a,c,b,0)
def Bp (a:List (List Int)) (c:List Int):List (List Int):=(List.range a.length).map fun b=>a.getD b []++[c.getD b 0]
def BB (c:List R5) (d:List St) (b:Int):Bool×Int :=
 match d.getLast? with
 | none=>(true,0)
 | some a=>CA a.tot b a.du c
def v1 (b:Tm) (f g e:Int) (a:Ps) (d c:List Int) (i:Bool):Option St×Ps×Int :=
 if b.right=false then (none,DC,6)
 else if CQ b.ts.length f g e a.bs.length d.length=false then (none,DC,1)
 else if d.any q1=true then (none,DC,1)
 else if (s0 a.bs a.c a.d c).2.2.2≠0 then (none,DC,(s0 a.bs a.c a.d c).2.2.2)
 else
  let q:=DF (s0 a.bs a.c a.d c)
  let tot:=AY q.bs q.c q.d
  let mn:=(B2 b.right b.minf b.minp tot).1
  (some ⟨f,g,e,e+b.dued,ih q.bs c d,tot,q.c,mn,i⟩,⟨q.bs,q.c,mn⟩,0)
def BK (b:Tm) (d:List R5) (c f:Int) (a:RS):RS×Int :=
 if (BB d a.o c).2≠0 then (a,(BB d a.o c).2)
 else if (rc b.right b.ts a.X a.Y (BB d a.o c).1).2≠0 then (a,(rc b.right b.ts a.X a.Y (BB d a.o c).1).2)
 else
  match v1 b ((a.o.length:Int)+1) c f a.p a.rs (rc b.right b.ts a.X a.Y (BB d a.o c).1).1 (BB d a.o c).1 with
  | (some e,q,_)=>({ a with p:=q,X:=List.replicate b.ts.length [],Y:=List.replicate b.ts.length [],o:=a.o++[e] },0)
  | (none,_,g)=>(a,g)
def m2 (b:List R5) (c:Int) (a:RS):RS×Int :=
 let r:=w1 b c (b.length-a.at') a.at' a.p a.rs
 ({ a with at':=r.1,p:=r.2.1,rs:=r.2.2.1 },r.2.2.2)
def BF (a:RS):RS:={ a with X:=Bp a.X a.p.bs,Y:=Bp a.Y a.rs }
def q6 (d:Tm) (e:List R5) (c:List (Int×Int)) (b:Int) (a:RS):RS×Int :=
 if (c.getD a.o.length (0,0)).2=b then BK d e (c.getD a.o.length (0,0)).1 b (BF a) else (BF a,0)
def uc (e:Tm) (b:List R5) (d:List (Int×Int)):Nat->Int->RS->RS×Int
 | 0,a,c=>m2 b a c
 | f+1,a,c =>
  if (m2 b a c).2≠0 then m2 b a c
  else if (q6 e b d a (m2 b a c).1).2≠0 then q6 e b d a (m2 b a c).1
  else uc e b d f (a+1) (q6 e b d a (m2 b a c).1).1
def r1 (a:Tm):RS:=⟨0,⟨List.replicate a.ts.length 0,0,0⟩,a.ts.map (·.1),List.replicate a.ts.length [],List.replicate a.ts.length [],[]⟩
noncomputable def vo (a:Tm) (c:List R5) (b:Int):RS×Int:=uc a c (p6 a.cyc b 300 a.start).1 (b-a.start).toNat a.start (r1 a)
structure Rn where
 p:Ps
 rs:List Int
 o:List St
 e:Int
def Ca (a:Int):Rn:=⟨DC,[],[],a⟩
noncomputable def h6 (c:Tm) (b:List R5) (a:Int):Rn :=
 if D8 c b a≠0 then Ca (D8 c b a)
 else if (vo c b a).2≠0 then Ca (vo c b a).2
 else ⟨(vo c b a).1.p,(vo c b a).1.rs,(vo c b a).1.o,0⟩
theorem hC.upto (h:hC G w W) (f:∀a∈G,a∈F\/w.heap.size<=a):hC F w W:=
 ⟨h.os,h.tape,h.output,h.size,fun b e g=>h.block b e (fun d=>by
  rcases f b d with c | c;·exact g c
  ·omega)⟩
def Rd (b:List Nat) (w:World) (φ:World->Prop):Prop:=∀a,hC b w a->φ a
theorem Rd.now {φ:World->Prop} (h:Rd F w φ):φ w:=h w (hC.refl _ _)
theorem Rd.step {b:List Nat} {φ:World->Prop} (h:Rd F w φ) (c:hC G w W) (f:∀a∈G,a∈F\/w.heap.size<=a) (g:∀a∈b,a∈F\/w.heap.size<=a):Rd b W φ:=
 fun e d=>h e ((c.upto f).trans d g)
theorem Rd.B {b:List Nat} {φ:World->Prop} (h:Rd F w φ) (c:BW w W) (e:∀a∈b,a∈F\/w.heap.size<=a):Rd b W φ:=
 h.step (G:=[]) (hC.of_below c) (fun a d=>by cases d) e
theorem Rd.imp {φ ψ:World->Prop} (h:Rd F w φ) (c:∀a,φ a->ψ a):Rd F w ψ:= fun a b=>c a (h a b)
theorem Rd.and {φ ψ:World->Prop} (h:Rd F w φ) (c:Rd F w ψ):Rd F w (fun a=>φ a/\ψ a):= fun a b=>⟨h a b,c a b⟩
theorem Sl.rd (h:Sl K w v r) (b:hL F v):Rd F w (fun c=>Sl K c v r):= fun _ a=>h.keep a b
theorem h7.rd {a:List (Int×Bool)} (h:h7 w v a) (c:hL F v):Rd F w (fun d=>h7 d v a):= fun _ b=>h.keep b c
theorem hz.rd {a:List (Int×Int×Int)} (h:hz w v a) (c:hL F v):Rd F w (fun d=>hz d v a):= fun _ b=>h.keep b c
theorem h4.rd (h:h4 w v l) (b:hL F v):Rd F w (fun c=>h4 c v l):= fun _ a=>Fl.keep h a b
theorem Fl.rd (h:Fl n m w v C) (b:hL F v):Rd F w (fun c=>Fl n m c v C):= fun _ a=>h.keep a b
theorem p1 (h:w.ownsRow n e m v k C) (g:hC F w W) (o:∀c,v.ownBlock=some c->c∉F):W.ownsRow n e m v k C:=by
 refine⟨h.1,?_⟩;rcases h.2 with i | ⟨a,j,l,rfl,f,b,d⟩;·exact .inl i
 ·exact .inr ⟨a,j,l,rfl,f,(g.block a (Array.getElem?_eq_some_iff.1 b).1 (o a rfl)).trans b,d⟩
theorem Fr.off (h:Fr w v) (j:∀b∈F,b<w.heap.size):hL F v:= fun a e c d g i f=>o2 (h a e c d g i) (j a f)
theorem Gc (h:W.ownsRow w.heap.size e n v m C):Fr w v:= fun c f b d a _=>BY h c f b d a
theorem Sl.offNew (h:Sl K w v r) (e:∀d∈F,w.heap.size<=d):hL F v:= fun f n t x j b c=>by obtain⟨o,s,a,p,l,g⟩:=h;rw[j]at a;cases a;obtain⟨m,u,i,k⟩:=g (List.length_pos_iff.1 b);cases i;have:=ht (k 0 b);have:=e f c;omega
theorem Fl.offNew (h:Fl n m w v C) (l:0<n) (g:∀f∈F,w.heap.size<=f):hL F v:= fun j u A D p d e=>by obtain⟨i,_,x,z,b,y,s,k⟩:=h;rw[p]at b;cases b;obtain⟨t,B,o,r⟩:=k d;cases o;have c:=Nat.mul_pos d l;have a:=r 0 c;rw[List.getElem?_eq_getElem (by rw[i];exact c)]at a;have:=ht a;have:=g j e;omega
def ycb (a:St) (b:Value):List Value:=[iV a.n,iV a.fr,iV a.til,iV a.du,b,iV a.tot,iV a.cr,iV a.mn,.bool a.g]
def n1:List St->List Value->List Value
 | b::a,c::d=>ycb b c++n1 a d
 | _,_=>[]
def h9 (w:World):List St->List Value->Prop
 | [],[]=>True
 | a::d,c::b=>hz w c a.ls/\h9 w d b
 | _,_=>False
def q2:St:=⟨0,0,0,0,[],0,0,0,false⟩
theorem h9.length {w:World}:∀{L:List St} {C:List Value},h9 w L C->C.length=L.length
 | [],[],_=>rfl
 | _::_,_::_,h=>by simp[h.2.length]
 | [],_::_,h=>h.elim
 | _::_,[],h=>h.elim
theorem h9.imp {w W:World}:∀{L:List St} {C:List Value},h9 w L C->(∀a∈C,∀c,hz w a c->hz W a c)->h9 W L C
 | [],[],_,_=>trivial
 | _::_,a::_,h,b=>⟨b a (me ..) _ h.1,h.2.imp fun d e=>b d (mo _ e)⟩
 | [],_::_,h,_=>h.elim
 | _::_,[],h,_=>h.elim
theorem h9.B (h:h9 w L C) (b:BW w W):h9 W L C:=h.imp fun _ _ _ a=>a.B b
theorem h9.keep (h:h9 w L C) (b:hC F w W) (c:∀a∈C,hL F a):h9 W L C:=h.imp fun a d _ e=>e.keep b (c a d)
theorem h9.rd (h:h9 w L C) (b:∀c∈C,hL F c):Rd F w (fun d=>h9 d L C):= fun _ a=>h.keep a b
theorem h9.append {w:World}:∀{L b:List St} {C X:List Value},h9 w L C->h9 w b X->h9 w (L++b) (C++X)
 | [],_,[],_,_,a=>a
 | _::_,_,_::_,_,h,a=>⟨h.1,h.2.append a⟩
 | [],_,_::_,_,h,_=>h.elim
 | _::_,_,[],_,h,_=>h.elim
theorem h9.get {w:World}:∀{L:List St} {C:List Value},h9 w L C->∀{i:Nat},i<L.length->hz w (C.getD i (sZ)) (L.getD i q2).ls
 | [],[],_,i,aA=>absurd aA (Nat.not_lt_zero i)
 | _::_,_::_,h,0,_=>h.1
 | _::L,_::C,h,i+1,aA=>by simpa using h.2.get (i:=i) MV
 | [],_::_,h,_,_=>h.elim
 | _::_,[],h,_,_=>h.elim
theorem h9.drop {w:World}:∀{L:List St} {C:List Value} (a:Nat),h9 w L C->h9 w (L.drop a) (C.drop a)
 | _,_,0,h=>h
 | [],[],_+1,_=>trivial
 | _::_,_::_,a+1,h=>h9.drop a h.2
 | [],_::_,_,h=>h.elim
 | _::_,[],_,h=>h.elim
theorem Fk:∀{L a:List St} {C X:List Value},C.length=L.length->n1 (L++a) (C++X)=n1 L C++n1 a X
 | [],_,[],_,_=>rfl
 | _::_,_,_::_,_,h=>by simp[n1,Fk Jv]
 | [],_,_::_,_,h=>by simp at h
 | _::_,_,[],_,h=>by simp at h
theorem hz.one {a:List (Int×Int×Int)} (h:hz w v a):v.oneCell'=true:=by obtain⟨b,c,rfl,_⟩:=h;rfl
theorem h9.one {w:World}:∀{L:List St} {C:List Value},h9 w L C->∀b∈n1 L C,b.oneCell'=true
 | [],[],_,b,a=>by simp[n1]at a
 | c::L,d::C,h,b,a=>by
  simp only[n1,ma]at a;rcases a with a | a;·simp only[ycb,mc,nn,or_false]at a;rcases a with rfl | rfl | rfl | rfl | rfl | rfl | rfl | rfl | rfl <;> first | rfl | exact h.1.one
  ·exact h.2.one b a
 | [],_::_,h,_,_=>h.elim
 | _::_,[],h,_,_=>h.elim
theorem OG {vs:List Value} (h:vs.length=L.length) (aA:i<L.length) (a:Nat) (g:a<9):(n1 L vs)[i*9+a]?=(ycb (L.getD i q2) (vs.getD i (sZ)))[a]?:=by
 induction L generalizing vs i with
 | nil=>simp at aA
 | cons b L e =>
  cases vs with
  | nil=>simp at h
  | cons f vs =>
   have c:(ycb b f).length=9:=rfl;cases i with
   | zero=>simp only[n1,Nat.zero_mul,Nat.zero_add,List.getD_cons_zero];exact List.getElem?_append_left om
   | succ i=>have d:=e (vs:=vs) Jv (i:=i) MV;simp only[n1,List.getD_cons_succ];rw[List.getElem?_append_right om,c,show(i+1)*9+a-9=i*9+a by omega];exact d
theorem VD (h:C.length=L.length) (a:Nat):(n1 L C).drop (a*9)=n1 (L.drop a) (C.drop a):=by
 induction L generalizing C a with
 | nil=>cases C <;> simp[n1]at *
 | cons b L d =>
  cases C with
  | nil=>simp at h
  | cons c C =>
   cases a with
   | zero=>simp
   | succ a =>
    have e:(ycb b c).length=9:=rfl;have f:(a+1)*9=(ycb b c).length+a*9:=by rw[e];omega
    simp only[n1,List.drop_succ_cons];rw[f,<-List.drop_drop,List.drop_left];exact d Jv a
def s4 (w:World) (c:Value) (a:List St) (b:List Value):Prop:=h9 w a b/\Fl 9 a.length w c (n1 a b)
def w8 (w:World) (b:Value) (a:List St):Prop:=∃c,s4 w b a c
theorem s4.B (h:s4 w v L C) (a:BW w W):s4 W v L C:= ⟨h.1.B a,h.2.B a⟩
theorem w8.B (h:w8 w v L) (a:BW w W):w8 W v L:= ⟨h.choose,h.choose_spec.B a⟩
theorem s4.rd (h:s4 w v L C) (b:hL F v) (c:∀a∈C,hL F a):Rd F w (fun d=>s4 d v L C):=(h.1.rd c).and (h.2.rd b)
theorem w8.shape (h:w8 w v L):∃a b,v=.slice a L.length b:=h.choose_spec.2.shape
theorem w8.get {k:Option Addr} (h:w8 w (.slice k n m) L) (p:i<L.length) :
 ∃b a d r,k=some (Ad b a)/\(w.cell? (Ad b (a+i*9))=some (iV d.n)/\w.cell? (Ad b (a+i*9+1))=some (iV d.fr)/\w.cell? (Ad b (a+i*9+2))=some (iV d.til)/\w.cell? (Ad b (a+i*9+3))=some (iV d.du)/\w.cell? (Ad b (a+i*9+4))=some r/\w.cell? (Ad b (a+i*9+5))=some (iV d.tot)/\w.cell? (Ad b (a+i*9+6))=some (iV d.cr)/\w.cell? (Ad b (a+i*9+7))=some (iV d.mn)/\w.cell? (Ad b (a+i*9+8))=some (.bool d.g))/\hz w r d.ls/\Hd (L.getD i q2=d):=by
 obtain⟨j,l,f⟩:=h;obtain rfl:=f.len.1;have t:=fun e g=>OG l.length p e g;obtain⟨b,a,s,_⟩:=f.at (i:=i*9) (show i*9<L.length*9 by omega);refine⟨b,a,_,j.getD i (sZ),s,?_,l.get p,rfl⟩;have c:∀e,e<9->w.cell? (Ad b (a+(i*9+e)))=(ycb (L.getD i q2) (j.getD i (sZ)))[e]?:=fun e g=>by obtain⟨u,v,o,c⟩:=f.at (i:=i*9+e) (show i*9+e<L.length*9 by omega);rw[s]at o;cases o;exact c.trans (t e g)
 refine⟨?_,?_,?_,?_,?_,?_,?_,?_,?_⟩;·simpa[ycb] using c 0 om
 ·simpa[ycb,Nat.add_assoc] using c 1 om
 ·simpa[ycb,Nat.add_assoc] using c 2 om
 ·simpa[ycb,Nat.add_assoc] using c 3 om
 ·simpa[ycb,Nat.add_assoc] using c 4 om
 ·simpa[ycb,Nat.add_assoc] using c 5 om
 ·simpa[ycb,Nat.add_assoc] using c 6 om
 ·simpa[ycb,Nat.add_assoc] using c 7 om
 ·simpa[ycb,Nat.add_assoc] using c 8 om
theorem w8.of_own (h:w.ownsRow n e 9 v L.length (n1 L C)) (a:h9 w L C):w8 w v L:= ⟨C,a,Fl.of_own h a.one⟩
end Go.Proofs.YtkongpjpkpfniaaGreat

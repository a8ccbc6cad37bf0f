/- TopBooks, a part. -/
import Derived.Test.YtkongpjpkpfniaaGreatC12
set_option linter.unusedVariables false
set_option linter.unusedSimpArgs false
set_option maxRecDepth 100000
set_option maxHeartbeats 6400000
namespace Go.Proofs.YtkongpjpkpfniaaGreat
open Go.RowKit Go.Proofs.Tryz
variable {I:AV} {A:i0} {F:List Nat} {k m n:Nat} {p q:Prop} {v:Value} {W w:World}
theorem LL (h:q:=by
 simp only[Prod.mk.injEq]at cW;obtain⟨rfl,rfl⟩:=cW;refine(EY (1) _).mono ?_;rintro _ dq ⟨rfl,cm⟩;have bI:Hd (dq.heap[w.heap.size]?=some (.cells zA.toArray 45 (0,0))):=mX.B cm;have mh:Hd (hA dq w.heap.size 45 zA):=mX.B cm;have nw:=lh (e8.B cm);have fN:=lh (hT.B nJ.o cm);have nx:=lh (q0.of_below (hJ eb.o cm));clear cm
 go_wp2_with (with_reducible refine BD rfl (.tmp 4) (.tmp 18) rfl rfl w.heap.size _ rfl rfl _ bI.o rfl rfl IA ?_)
 refine bodyPost_ret (v:=z2 (1)) (results_cell_row (p:=4) (ty:=45) rfl _ _ w.heap.size 45 _ (0,0) _ rfl (setRow_heap _ _ _ _ _ _ bI.o) underlying45 rfl RQ) rfl ⟨_,rfl,EX _,CN nw.o fN.o (fun x aj=>mo _ aj) (me ..) mh.o nx.o (nr _) _⟩):q:=h
theorem La (h:q:=by
 have mi:=lh (py.B mC.o);have dS:Hd (hA jj og 35 [.slice m' a5.p.bs.length bl,iV a5.p.c,iV a5.p.d]):=cN.1.B mC.o;have x6:Hd (hA jj w.heap.size 45 zA):=vK.B mC.o;have mK:Hd (∀W',BW jj W'->Ce W' g 16 (.slice rY ab.iss.length rZ)/\Ce W' g 15 (.slice qw ab.R.o.length qx)):=fun W' au=>by have q:=mi.blk.B au;exact⟨q.cell 16,q.cell 15⟩
 have fm:=mK.o jj.drew (hG bR);have lT:=pX.1;have vL:Hd (∀W',BW jj W'->s4 W' (.slice (if ll=ab.R.o.length then jV else jV.map (fun x=>x.add (ab.R.o.length*9))) (a5.o.length-ab.R.o.length) (ll-ab.R.o.length)) (a5.o.drop ab.R.o.length) (tS.drop ab.R.o.length)):=fun W' au=>((cN.2.2.2.B mC.o).B au).reslice rfl pX.1;have tT:Hd (∀i,i<(a5.o.drop ab.R.o.length).length->((a5.o.drop ab.R.o.length).getD i q2).ls.length<=1000):=fun i aA=>by
  have iD:(h6 ab.t ab.ev (ab.today+aa)).e=0:=by rw[ny.o];exact x7.o
  obtain⟨zt,r'⟩:=Dn sd.o iD;have Z:=r'.outb;rw[ny.o]at Z;have ag:=Z _ (List.mem_of_mem_drop (HW aA));have bK:=qp.o;omega
 obtain⟨L,e7⟩:=xg (a5.o.drop ab.R.o.length);have eN:Hd (ab.iss.length+L.length=a5.o.length/\L.length<=300/\ab.iss.length<=300):=by
  have Z:=pX.o;have ag:L.length=a5.o.length-ab.R.o.length:=by rw[<-e7,List.length_drop]
  show _/\_/\_;omega
 rw[e7]at vL tT;have bp:=lh e7;obtain⟨ah,a0⟩:=xg L.length;have tU:=lh a0;obtain⟨jn,aA,iA,gU,er⟩:=info_parts GX;have kf:Hd (bw<=jj.heap.size):=by have Z:=mi.lt g mi.gF;show _<=_;omega
 clear e7 a0;obtain⟨AI,pw⟩:=xg ((if ll=ab.R.o.length then jV else jV.map (fun x=>x.add (ab.R.o.length*9))));rw[pw]at vL;refine se (fun W'=>Ce W' g 16 (.slice rY ab.iss.length rZ)/\Ce W' g 15 (.slice qw ab.R.o.length qx)) 14 kr ?_;refine Kn ?_;show _;refine tK 9 rfl ?_;refine tK 10 rfl ?_;refine tK 11 rfl ?_;try simp only[pw]
 refine wo 12 kr rfl fun a4 ac=>?_;go_simp;refine(Ni _ L (tS.drop ab.R.o.length) (oo eN.o) tT _ (vL.o _ (hG bR))).mono ?_;rintro _ vM ⟨cU,vN,rfl,tV,vO,x8,x9⟩;rw[tU.o]at tV;obtain⟨fu,fv,rfl⟩:=(Fl.of_own tV vO.one).shape;have px:=lh tV;have qy:=lh vO;have zu:=lh x8;have iN:Hd (BW jj vM):=hJ (hG bR) x9;have xA:=mK.o vM iN.o;clear tV vO x8 x9;refine ac.out _ _ (fun hun=>xA) ?_;clear ac a4;try simp only[ap,aq,sa,sb,sc]
 refine wo 13 kr rfl fun a4 ac=>?_;refine Cp rfl (.tmp 83) (.tmp 91) 61 rfl bw 43 jn (.agg #[iZ,iZ,iZ,iZ,sZ,iZ,iZ,iZ,.bool false]) 9 88 underlying61 aA iA gU er rfl Iv (.slice rY ab.iss.length rZ) ab.iss.length (n1 ab.iss sf) JF (ic mi.iss iN.o) fu ah fv (n1 L vN) JF (by have Z:=(Fl.of_own px.o qy.one).1;exact Z) (fun I=>by have Z:=(Fl.of_own px.o qy.one).len.2.2.2 I;exact Z) ((Fl.of_own px.o qy.one).news) qy.one (by have Z:=eN.o;have ag:=tU.o;unfold maxLen;omega) (by have Z:=eN.o;have ag:=tU.o;omega) (nt kf.o iN.size) ?_;intro AJ nz tW qz xB;obtain⟨fe,mq⟩:=xg (ab.iss.length+ah);rw[mq]at tW;have zv:=lh mq;clear mq;have xC:Hd (h9 vM ab.iss sf):=mi.rd.now.2.2.2.2.2.2.B iN.o;have xD:∀c∈n1 ab.iss sf++n1 L vN,c.oneCell'=true:=fun c cH=>by
  rcases ma.1 cH with Z | Z;·exact xC.o.one c Z
  ·exact qy.one c Z
 obtain⟨gq,fE,rfl⟩:=(Fl.of_own tW xD).shape;have zw:=lh tW;have zx:=lh qz;have zy:=lh xB;have tX:=lh (ic mi.iss iN.o);have q8:Hd (hA nz g 89 [iV ab.t.lim,.slice bH ab.t.ts.length bC,iV ab.t.cyc,iV ab.t.dued,iV ab.t.minf,iV ab.t.minp,iV ab.t.start,iV ab.today,iV ab.seq,pV n5,pV gb,ci,iV ab.R.p.c,iV ab.R.p.d,cD,.slice qw ab.R.o.length qx,.slice rY ab.iss.length rZ,tY]):=p7 (mi.blk.B iN.o) qz (hh tX.o (mi.blk.B iN.o) Iv);have zz:Hd (hA nz og 35 [.slice m' a5.p.bs.length bl,iV a5.p.c,iV a5.p.d]):=p7 (dS.B iN.o) qz (hh tX.o (dS.B iN.o) Iv);have z5:Hd (hA nz wc.heap.size 45 [iZ,iZ,iV cd,iZ,iZ,sZ,iZ,iZ,sZ,sZ,iZ,iZ,iZ,iZ,iZ,sZ,iZ,iZ,iZ,.bool false]):=p7 (tZ.B iN.o) qz (hh tX.o (tZ.B iN.o) Iv);have xE:Hd (hA nz w.heap.size 45 zA):=p7 (x6.B iN.o) qz (hh tX.o (x6.B iN.o) Iv);have vP:nz.cell? (Ad g 16)=some (.slice rY ab.iss.length rZ)/\nz.cell? (Ad g 15)=some (.slice qw ab.R.o.length qx):=⟨q8.cell 16,q8.cell 15⟩;clear tW qz xB xD;refine ac.out _ _ (fun hun=>vP) ?_;clear ac a4;try simp only[ap,aq,sa,sb,sc]
 refine wS 14 rfl ?_;refine wS 15 rfl ?_;have z6:=vP.1;have z7:=q8.frozen 16;have vQ:=q8.lt;refine wS 16 rfl ?_;clear z6 z7 vP xA fm aA iA gU er vQ lT pw;refine r4 kr ?_ _;have z8:og≠g:=fun I=>by have Z:=sg.1;have ag:=(fM.lt g fM.gF).2;omega
 have oh:wc.heap.size≠g:=fun I=>by have Z:=py.blk.lt;omega
 have oj:w.heap.size≠g:=n3 xE.o q8.o Iv;obtain⟨xF,aW,mR,xG,z9,zB⟩:∃W,nz.setCell (Ad g 16) (.slice gq fe fE)=W/\Hd (hA W g 89 [iV ab.t.lim,.slice bH ab.t.ts.length bC,iV ab.t.cyc,iV ab.t.dued,iV ab.t.minf,iV ab.t.minp,iV ab.t.start,iV ab.today,iV ab.seq,pV n5,pV gb,ci,iV ab.R.p.c,iV ab.R.p.d,cD,.slice qw ab.R.o.length qx,.slice gq fe fE,tY])/\Hd (hA W og 35 [.slice m' a5.p.bs.length bl,iV a5.p.c,iV a5.p.d])/\Hd (hA W wc.heap.size 45 [iZ,iZ,iV cd,iZ,iZ,sZ,iZ,iZ,sZ,sZ,iZ,iZ,iZ,iZ,iZ,sZ,iZ,iZ,iZ,.bool false])/\Hd (hA W w.heap.size 45 zA):=⟨_,rfl,q8.set 16 _,zz.setOther z8 _ _,z5.setOther oh _ _,xE.setOther oj _ _⟩;have zC:Hd (hC [g] nz xF):=by show hC _ _ _;rw[<-aW];exact(hC.refl _ _).sg _
 with_reducible rw[aW]
 clear aW;obtain⟨f9,kx,zD,zE,zF,zG,t',-⟩:=mR.cS [7,8,11,12,13,14,15];obtain⟨xt,zH,zI,zJ,zK,zL,zM,-⟩:=mR.fs [7,8,11,12,13,14,15];obtain⟨jK,jL,jM,-⟩:=xG.cS [0,1,2];have vQ:=mR.lt;have zN:=xG.lt;have zO:IntKind.i64.wrap (ab.seq+1)=ab.seq+1:=by have Z:=kl.seq;have ag:=sK.o;exact IntWalk.i64_in _ ⟨by omega,by omega⟩
 have ua:=zP.o;go_upto_region 16 with fail;obtain⟨xH,aW,zQ,zR,lM,zS⟩:∃W,(((((((xF.setCell (Ad g 7) (iV (ab.today+aa))).setCell (Ad g 11) (.slice m' a5.p.bs.length bl)).setCell (Ad g 12) (iV a5.p.c)).setCell (Ad g 13) (iV a5.p.d)).setCell (Ad g 14) (.slice vR a5.rs.length vS)).setCell (Ad g 15) (.slice jV a5.o.length ll)).setCell (Ad g 8) (iV (ab.seq+1)))=W/\Hd (hA W g 89 [iV ab.t.lim,.slice bH ab.t.ts.length bC,iV ab.t.cyc,iV ab.t.dued,iV ab.t.minf,iV ab.t.minp,iV ab.t.start,iV (ab.today+aa),iV (ab.seq+1),pV n5,pV gb,.slice m' a5.p.bs.length bl,iV a5.p.c,iV a5.p.d,.slice vR a5.rs.length vS,.slice jV a5.o.length ll,.slice gq fe fE,tY])/\Hd (hA W wc.heap.size 45 [iZ,iZ,iV cd,iZ,iZ,sZ,iZ,iZ,sZ,sZ,iZ,iZ,iZ,iZ,iZ,sZ,iZ,iZ,iZ,.bool false])/\Hd (hA W w.heap.size 45 zA)/\Hd (hC [g] nz W) :=
  ⟨_,rfl,((((((mR.set 7 _).set 11 _).set 12 _).set 13 _).set 14 _).set 15 _).set 8 _,((((((z9.setOther oh _ _).setOther oh _ _).setOther oh _ _).setOther oh _ _).setOther oh _ _).setOther oh _ _).setOther oh _ _,((((((zB.setOther oj _ _).setOther oj _ _).setOther oj _ _).setOther oj _ _).setOther oj _ _).setOther oj _ _).setOther oj _ _,((((((zC.sg _).sg _).sg _).sg _).sg _).sg _).sg _⟩
 with_reducible rw[aW]
 clear aW f9 kx zD zE zF zG t' xt zH zI zJ zK zL zM jK jL jM vQ zN zO ua;have bI:Hd (xH.heap[w.heap.size]?=some (.cells zA.toArray 45 (0,0))):=lM.o;have zT:Hd (xH.rangeAt wc.heap.size 0 [iZ,iZ,iV cd,iZ,iZ,sZ,iZ,iZ,sZ,sZ,iZ,iZ,iZ,iZ,iZ,sZ,iZ,iZ,iZ,.bool false]):=fun a8 ak aQ=>by rw[Nat.zero_add,zR.cell];exact aQ
 go_wp2_with (first | (with_reducible refine wpList_load_mid rfl 45 (.tmp 11) rfl wc.heap.size 0 rfl [iZ,iZ,iV cd,iZ,iZ,sZ,iZ,iZ,sZ,sZ,iZ,iZ,iZ,iZ,iZ,sZ,iZ,iZ,iZ,.bool false] _ zT.o underlying45 rfl (En.trans rfl) ?_) | (with_reducible refine BD rfl (.tmp 4) (.tmp 122) rfl rfl w.heap.size #[iZ,iZ,iV cd,iZ,iZ,sZ,iZ,iZ,sZ,sZ,iZ,iZ,iZ,iZ,iZ,sZ,iZ,iZ,iZ,.bool false] rfl rfl _ bI.o rfl rfl IA ?_))
 obtain⟨gn,kn,ju,da,nI,zU⟩:=XB (F:=w.heap.size::aZ) (s:=ab.seq+1) mi.o a5 (ab.today+aa) (ab.iss++L) om (pv':=.slice m' a5.p.bs.length bl) (rv':=.slice vR a5.rs.length vS) (nv':=.slice jV a5.o.length ll) (nvs':=tS) (ivs':=sf++vN) (by
  have ch:∀x∈w.heap.size::aZ,x<bj.heap.size:=fun x aj=>(fM.lt x aj).2
  exact((cN.2.1.B mC.o).rd (sg.2.1.off ch)).and (((cN.2.2.1.B mC.o).rd (sg.2.2.1.off ch)).and ((cN.2.2.2.B mC.o).rd (sg.2.2.2.1.off ch) (fun ak aQ=>(sg.2.2.2.2 ak aQ).off ch)))) (by
  have ch:∀x∈w.heap.size::aZ,x<jj.drew.heap.size:=fun x aj=>(mi.lt x aj).2
  exact((mi.rd.B iN.o (fun x aj=>.inl aj)).and (qy.rd (fun ak aQ=>(zu.o ak aQ).off ch))).imp fun W q=>q.1.2.2.2.2.2.2.append q.2) iN.o zw.o (by rw[la,tU.o,zv.o]) (Fk xC.o.length).symm zx.o zy.o zS.o zQ.o
 rw[bp.o];refine bodyPost_ret (v:=.agg #[iZ,iZ,iV cd,iZ,iZ,sZ,iZ,iZ,sZ,sZ,iZ,iZ,iZ,iZ,iZ,sZ,iZ,iZ,iZ,.bool false]) (results_cell_row (p:=4) (ty:=45) rfl _ _ w.heap.size 45 _ (0,0) _ rfl (setRow_heap _ _ _ _ _ _ bI.o) underlying45 rfl RQ) rfl ⟨_,rfl,TZ cd,CN ju ((hT.B xI.o mC.o).trans da) (fun x aj=>nI x (mo _ aj)) (nI _ (me ..)) lM.o ((q0.of_below (hJ oC.o mC.o)).trans zU) (nr _) _⟩):q:=h
theorem TZ (a:Int):Cc 0 (.agg #[iZ,iZ,iV a,iZ,iZ,sZ,iZ,iZ,sZ,sZ,iZ,iZ,iZ,iZ,iZ,sZ,iZ,iZ,iZ,.bool false]):=⟨0,a,0,0,_,0,0,_,_,0,0,0,0,0,_,0,0,0,false,rfl,⟨_,_,_,rfl⟩,⟨_,_,_,rfl⟩,⟨_,_,_,rfl⟩,⟨_,_,_,rfl⟩⟩
theorem X0 (bw g:Nat) (ab:i0) (a:t0 ab) (P:ab.seq<=100000) (aZ:List Nat) (V:AV) (aa:Int) (af:i0) (E:Int) (t:Hd (Bu ab aa=(af,E))) (w:World) (h:i2 bw g ab aZ w V) :
 Calls prog 35 #[pV g,iV aa] w (KG E bw g af aZ w):=by
 obtain⟨az,n5,y,al,gb,ax,ci,cD,s,D,aJ,sf,tY⟩:=V;obtain⟨bH,bC,rfl⟩:∃a3 a7,az=.slice a3 ab.t.ts.length a7:=h.rd.now.1.shape;have kl:=lh a;have sK:=lh P;obtain⟨r,f,e8,mX,nJ,eb⟩:∃W,w.alloc (.cells zA.toArray 45)=W/\Hd (i2 bw g ab (w.heap.size::aZ) W ⟨.slice bH ab.t.ts.length bC,n5,y,al,gb,ax,ci,cD,s,D,aJ,sf,tY⟩)/\Hd (hA W w.heap.size 45 zA)/\Hd (hT aZ w (w.heap.size::aZ) W)/\Hd (BW w W) :=
  ⟨_,rfl,h.more (hB bR _) (nr _) M3,hR w _ _ _ rfl,⟨(hC.refl _ _).alloc _,fun x aj=>by
   rcases mc.1 aj with rfl | aj;·exact .inr (nr _)
   ·exact .inl aj⟩,hB bR _⟩
 have mm:Hd (ab.ev.length<=2000):=a.goods.len;have qp:Hd (ab.t.ts.length<=1000):=by have Z:=CT a.goods.terms;show _<=_;omega
 obtain⟨aM,e⟩:=Dn a.goods (by rw[a.run];exact a.e);have T:=lh e;have aF:Hd (-200000<=ab.today/\ab.today<=2932896):=by have Z:=e.lo;have ag:=e.hi;have bK:=a.goods.terms;unfold Tm.right hu at bK;simp only[ba,B9]at bK;show _/\_;omega
 have f9:r.cell? (Ad g 7)=some (iV ab.today):=e8.blk.cell 7;clear h a P e;go_enter func35,ntmps35;by_cases ai:aa<1
 ·go_upto_region 1 with fail;try with_reducible rw[f]
  clear f;go_wp2_with fail;have cW:=t.o;unfold Bu at cW;rw[if_pos (.inl ai)]at cW;exact LL
 ·by_cases O:400<aa
  ·go_upto_region 1 with fail;try with_reducible rw[f]
   clear f;go_wp2_with fail;have cW:=t.o;unfold Bu at cW;rw[if_pos (.inr O)]at cW;exact LL
  ·have v:Hd (1<=aa/\aa<=400):=by show _/\_;omega
   have ua:IntKind.i64.wrap (ab.today+aa)=ab.today+aa:=by have Z:=aF.o;rw[IntWalk.i64_left,wi _ ⟨by omega,by omega⟩]
   go_upto_region 3 with fail;try with_reducible rw[f]
   clear f;obtain⟨q,e⟩:=xg (tt ab.t.start ab.t.cyc (ab.today+aa));have B:=lh e;have C:Hd (∀W',BW r W'->Ce W' g 2 (iV ab.t.cyc)/\Ce W' g 6 (iV ab.t.start)/\Ce W' g 7 (iV ab.today)):=fun W' au=>by have q:=e8.blk.B au;exact⟨q.cell 2,q.cell 6,q.cell 7⟩
   have an:=C.o r bR;have fm:=C.o r.drew (hG bR);clear e f9;go_region_held3 (fun W'=>Ce W' g 2 (iV ab.t.cyc)/\Ce W' g 6 (iV ab.t.start)/\Ce W' g 7 (iV ab.today)) (first | with_reducible exact an | with_reducible exact fm | exact jo.o) (first | (go_at_call 63;refine(ID ab.t.start ab.t.cyc (ab.today+aa) q B _).mono ?_;rintro _ M ⟨rfl,ea⟩;have u:Hd (BW r M):=MR;have jo:=lh (C.o _ u.o);clear ea));clear an fm C jo;have fM:=lh (e8.B u.o);have F:=lh (mX.B u.o);have R:=lh (hT.B nJ.o u.o);have ao:Hd (BW w M):=hJ eb.o u.o;by_cases m:q.2=0
   ·have aD:(q.2 != 0)=false:=ss m;have Y:=lh m;clear m;go_upto_region 6 with fail;obtain⟨bj,a6⟩:∃bj,bj=M:=⟨_,rfl⟩;subst a6;obtain⟨a5,ar⟩:=xg (h6 ab.t ab.ev (ab.today+aa));have ny:=lh ar;have sd:Hd (Cl ab.t ab.ev (ab.today+aa)):=⟨kl.goods.terms,kl.goods.events,fun x aj=>by have Z:=kl.goods.late x aj;have ag:=v.o;omega,kl.goods.len⟩;have G:Hd (Asc ab.ev):=kl.asc;have l:Hd (∀W',BW bj W'->qq W' n5 ab.t y al ab.ev/\h7 W' (.slice bH ab.t.ts.length bC) ab.t.ts):=fun W' au=>⟨fM.rd.now.2.1.B au,fM.rd.now.1.B au⟩;have jo:Hd (∀W',BW bj W'->Ce W' g 0 (iV ab.t.lim)/\Ce W' g 1 (.slice bH ab.t.ts.length bC)/\Ce W' g 2 (iV ab.t.cyc)/\Ce W' g 3 (iV ab.t.dued)/\Ce W' g 4 (iV ab.t.minf)/\Ce W' g 5 (iV ab.t.minp)/\Ce W' g 6 (iV ab.t.start)/\Ce W' g 7 (iV ab.today)/\Ce W' g 9 (pV n5)):=fun W' au=>by
     have q:=fM.blk.B au;exact⟨q.cell 0,q.cell 1,q.cell 2,q.cell 3,q.cell 4,q.cell 5,q.cell 6,q.cell 7,q.cell 9⟩
    have fm:=jo.o bj.drew (hG bR);have zP:=lh ua;clear ar ai O;go_cut [7,8,9,10] (fun a2 av ay aG o=>∃og ci cD s D,a2=pV og/\av=cD/\ay=s/\aG=iV a5.e/\Hd (hA o og 35 [ci,iV a5.p.c,iV a5.p.d]/\Sl .i64 o ci a5.p.bs/\Sl .i64 o cD a5.rs/\s4 o s a5.o D)/\Hd (bj.heap.size<=og/\Fr bj ci/\Fr bj cD/\Fr bj s/\∀ak∈D,Fr bj ak)/\Hd (BW bj o));case first =>
     refine se (fun W'=>Ce W' g 0 (iV ab.t.lim)/\Ce W' g 1 (.slice bH ab.t.ts.length bC)/\Ce W' g 2 (iV ab.t.cyc)/\Ce W' g 3 (iV ab.t.dued)/\Ce W' g 4 (iV ab.t.minf)/\Ce W' g 5 (iV ab.t.minp)/\Ce W' g 6 (iV ab.t.start)/\Ce W' g 7 (iV ab.today)/\Ce W' g 9 (pV n5)) 22 kr ?_;refine Ck ?_;show _;refine tK 5 rfl ?_;refine tK 6 rfl ?_;refine tK 7 rfl ?_;refine tK 9 rfl ?_;refine Ge ?_;show _;refine BZ (rs:=[8,21]) kr Is ?_;refine(k0.cons (o:=⟨_,_,_,_,_,_⟩) rfl (fun a4 ac=>?_) (k0.cons (o:=⟨_,_,_,_,_,_⟩) rfl (fun a4 ac=>?_) k0.nil))
     ·go_simp;refine(F2 n5 ab.t y al ab.ev _ ((l.o _ Ff).1) HH).mono ?_;rintro _ aY ⟨aH,rfl,jw,bZ⟩;obtain⟨aE,aC,rfl⟩:=(h4.of_own jw rfl).shape;refine QS ?_;clear jw bZ;unhygienic intros
      refine Ma ?_;clear ac a4;show _;refine BZ (rs:=[15,21]) kr Is ?_;refine(k0.cons (o:=⟨_,_,_,_,_,_⟩) rfl (fun a4 ac=>?_) (k0.cons (o:=⟨_,_,_,_,_,_⟩) rfl (fun a4 ac=>?_) k0.nil))
      ·go_simp;refine(E5 ab.t _ _ ab.ev (ab.today+aa) sd G a5 ny _ ((l.o _ bM).2) (jk.B I6)).mono ?_;refine GV ?_;clear ac a4;unhygienic intros
       refine JH ?_;show _;refine wo 21 kr rfl fun a4 ac=>?_;go_simp;refine ac.out _ _ (fun hun=>jo.o _ QF) ?_;clear ac a4;try simp only[ap,aq,sa,sb,sc]
       obtain⟨U,fx,fS,fC,j7⟩:∃U,bG.alloc (.cells #[sZ,iZ,iZ] 35)=U/\Hd (hA U bG.heap.size 35 [sZ,iZ,iZ])/\Hd (Sl .i64 U (.slice gY a5.p.bs.length gZ) a5.p.bs/\Sl .i64 U (.slice h8 a5.rs.length hD) a5.rs/\s4 U (.slice hF a5.o.length hH) a5.o fY)/\Hd (BW bj U) :=
        ⟨_,rfl,hR bG [sZ,iZ,iZ] _ _ rfl,⟨cN.1.B (hB bR _),cN.2.1.B (hB bR _),cN.2.2.B (hB bR _)⟩,hB dS.o _⟩
       have iM:Hd (bj.heap.size<=bG.heap.size):=by have cG:=HB6.size;have ad:=dS.size;show _<=_;omega
       refine Oo ?_;intro j4;have fD:Hd (hL [bG.heap.size] (.slice gY a5.p.bs.length gZ)/\hL [bG.heap.size] (.slice h8 a5.rs.length hD)/\hL [bG.heap.size] (.slice hF a5.o.length hH)/\∀ak∈fY,hL [bG.heap.size] ak):=by exact NK
       refine CH ?_;clear fx;unhygienic intros
       refine wS 22 rfl ?_;refine wS 23 rfl ?_;refine wS 24 rfl ?_;refine wS 25 rfl ?_;exact Qj
      ·go_simp;refine ac.out _ _ (fun hun=>jo.o _ QF) ?_;clear ac a4;try simp only[ap,aq,sa,sb,sc]
       refine wo 15 kr rfl fun a4 ac=>?_;go_simp;refine(E5 ab.t _ _ ab.ev (ab.today+aa) sd G a5 ny _ ((l.o _ bM).2) (jk.B I6)).mono ?_;rintro _ bG ⟨qE,qF,qG,fY,rfl,iU,iW,iX,⟨cC,dr,gX,fQ⟩,fF⟩;obtain⟨gY,gZ,rfl⟩:=iU.shape;obtain⟨h8,hD,rfl⟩:=iW.shape;obtain⟨hF,hH,rfl⟩:=iX.2.shape;refine Nk ?_;clear iU iW iX cC dr gX fQ fF ac a4;intro cN gF lG dS fZ;refine JH ?_;show _;obtain⟨U,fx,fS,fC,j7⟩:∃U,bG=U/\Hd (hA U aY.heap.size 35 [sZ,iZ,iZ])/\Hd (Sl .i64 U (.slice gY a5.p.bs.length gZ) a5.p.bs/\Sl .i64 U (.slice h8 a5.rs.length hD) a5.rs/\s4 U (.slice hF a5.o.length hH) a5.o fY)/\Hd (BW bj U) :=
        ⟨_,rfl,hA.B (hR aY [sZ,iZ,iZ] _ _ rfl) lG.o,⟨cN.1.B bR,cN.2.1.B bR,cN.2.2.B bR⟩,dS.o⟩
       have iM:Hd (bj.heap.size<=aY.heap.size):=by have cG:=HB6.size;have ad:=dS.size;show _<=_;omega
       refine Oo ?_;intro j4;have fD:Hd (hL [aY.heap.size] (.slice gY a5.p.bs.length gZ)/\hL [aY.heap.size] (.slice h8 a5.rs.length hD)/\hL [aY.heap.size] (.slice hF a5.o.length hH)/\∀ak∈fY,hL [aY.heap.size] ak):=by exact NK
       refine CH ?_;clear fx;intro jK jL jM nK nL nM;refine wS 22 rfl ?_;refine wS 23 rfl ?_;refine wS 24 rfl ?_;refine wS 25 rfl ?_;exact P4
     ·go_simp;refine ac.out _ _ (fun hun=>jo.o _ QF) ?_;clear ac a4;try simp only[ap,aq,sa,sb,sc]
      refine wo 8 kr rfl fun a4 ac=>?_;go_simp;refine(F2 n5 ab.t y al ab.ev _ ((l.o _ Ff).1) HH).mono ?_;rintro _ aY ⟨aH,rfl,jw,bZ⟩;obtain⟨aE,aC,rfl⟩:=(h4.of_own jw rfl).shape;refine QS ?_;clear jw bZ;intro jk eI HB6 dK;refine Ma ?_;clear ac a4;show _;refine wo 15 kr rfl fun a4 ac=>?_;go_simp;refine(E5 ab.t _ _ ab.ev (ab.today+aa) sd G a5 ny _ ((l.o _ bM).2) (jk.B I6)).mono ?_;rintro _ bG ⟨qE,qF,qG,fY,rfl,iU,iW,iX,⟨cC,dr,gX,fQ⟩,fF⟩;obtain⟨gY,gZ,rfl⟩:=iU.shape;obtain⟨h8,hD,rfl⟩:=iW.shape;obtain⟨hF,hH,rfl⟩:=iX.2.shape;refine Nk ?_;clear iU iW iX cC dr gX fQ fF ac a4;intro cN gF lG dS fZ;refine JH ?_;show _;obtain⟨U,fx,fS,fC,j7⟩:∃U,bG=U/\Hd (hA U bj.heap.size 35 [sZ,iZ,iZ])/\Hd (Sl .i64 U (.slice gY a5.p.bs.length gZ) a5.p.bs/\Sl .i64 U (.slice h8 a5.rs.length hD) a5.rs/\s4 U (.slice hF a5.o.length hH) a5.o fY)/\Hd (BW bj U) :=
       ⟨_,rfl,hA.B (hA.B (hA.B (hR bj [sZ,iZ,iZ] _ _ rfl) (hG bR)) eI.o) lG.o,⟨cN.1.B bR,cN.2.1.B bR,cN.2.2.B bR⟩,dS.o⟩
      have iM:Hd (bj.heap.size<=bj.heap.size):=by have cG:=HB6.size;have ad:=dS.size;show _<=_;omega
      refine Oo ?_;intro j4;have fD:Hd (hL [bj.heap.size] (.slice gY a5.p.bs.length gZ)/\hL [bj.heap.size] (.slice h8 a5.rs.length hD)/\hL [bj.heap.size] (.slice hF a5.o.length hH)/\∀ak∈fY,hL [bj.heap.size] ak):=by exact NK
      refine CH ?_;clear fx;intro jK jL jM nK nL nM;refine wS 22 rfl ?_;refine wS 23 rfl ?_;refine wS 24 rfl ?_;refine wS 25 rfl ?_;exact Su
    case rest =>
     clear fm ua;obtain⟨og,zV,zW,zX,tS,rfl,rfl,rfl,rfl,cN,sg,A⟩:=hcut;obtain⟨m',bl,rfl⟩:=cN.2.1.shape;obtain⟨vR,vS,rfl⟩:=cN.2.2.1.shape;obtain⟨jV,ll,rfl⟩:=cN.2.2.2.2.shape;have py:=lh (fM.B A.o);have vK:=lh (F.B A.o);have xI:=lh (hT.B R.o A.o);have oC:Hd (BW w wc):=hJ ao.o A.o;by_cases d:a5.e=0
     ·have a1:(a5.e != 0)=false:=ss d;have cW:=t.o;unfold Bu at cW;rw[if_neg (oo v.o),if_neg (by rw[B.o,Y.o];simp),ny.o,if_neg (by rw[d];simp)]at cW;simp only[Prod.mk.injEq]at cW;obtain⟨rfl,rfl⟩:=cW;have x7:=lh d;clear d;obtain⟨qw,qx,S⟩:=py.rd.now.2.2.2.2.2.1.2.shape;simp only at S;subst S;obtain⟨rY,rZ,am⟩:=(w8.of_own py.iss py.rd.now.2.2.2.2.2.2).shape;simp only at am;subst am;have pX:Hd (ab.R.o.length<=a5.o.length/\a5.o.length<=300/\ab.R.o.length<=300/\ab.iss.length=ab.R.o.length):=by
       have iD:(h6 ab.t ab.ev (ab.today+aa)).e=0:=by rw[ny.o];exact x7.o
       obtain⟨zt,r'⟩:=Dn sd.o iD;have h:=PQ (cyc:=ab.t.cyc) (day:=ab.today) (day':=ab.today+aa) (oo v.o) 300 ab.t.start;rw[r'.sp,T.sp]at h;have aI:=r'.o;have aB:=T.o.o;have aN:=r'.len;have aO:=kl.outl;rw[ny.o]at aI;rw[kl.run]at aB;have aL:=kl.issl;show _/\_/\_/\_;simp only at h;omega
      go_upto_region 10 with(with_reducible refine BD rfl (.tmp 11) (.tmp 67) rfl rfl wc.heap.size _ rfl rfl _ (heap_alloc_new wc _) rfl rfl IA ?_)
      obtain⟨J,aW,z,K⟩:∃W,(wc.alloc (.cells zA.toArray 45)).setRow wc.heap.size zA.toArray=W/\Hd (hA W wc.heap.size 45 zA)/\Hd (BW wc W):=⟨_,rfl,setRow_heap _ _ _ _ _ _ (heap_alloc_new wc _),Bd (hB bR _) (nr _) _⟩;with_reducible rw[aW]
      clear aW;have t':J.cell? (Ad g 15)=some (.slice qw ab.R.o.length qx):=(py.blk.B K.o).cell 15;by_cases X:ab.R.o.length<a5.o.length
      ·have H:(ab.R.o.length:Int)<a5.o.length:=om;have Q:=z.cell 2;have a9:=z.frozen 2;simp only[gz,gs]at Q;go_upto_region 12 with fail;obtain⟨jj,aW,tZ,mC⟩:∃W,J.setCell (Ad wc.heap.size 2) (iV (a5.o.length:Int))=W/\Hd (hA W wc.heap.size 45 [iZ,iZ,iV (a5.o.length:Int),iZ,iZ,sZ,iZ,iZ,sZ,sZ,iZ,iZ,iZ,iZ,iZ,sZ,iZ,iZ,iZ,.bool false])/\Hd (BW wc W):=⟨_,rfl,z.set 2 _,k1 K.o (nr _)⟩;with_reducible rw[aW]
       clear aW t' Q a9;obtain⟨cd,j⟩:=xg ((a5.o.length:Int));rw[j]at tZ;clear j X H;exact La
      ·have H:¬(ab.R.o.length:Int)<a5.o.length:=om;go_upto_region 12 with fail;clear t' X H;obtain⟨jj,aW⟩:∃jj,jj=J:=⟨_,rfl⟩;subst aW;have mC:=K;obtain⟨cd,j⟩:∃cd:Int,0=cd:=⟨_,rfl⟩;have tZ:Hd (hA jj wc.heap.size 45 [iZ,iZ,iV cd,iZ,iZ,sZ,iZ,iZ,sZ,sZ,iZ,iZ,iZ,iZ,iZ,sZ,iZ,iZ,iZ,.bool false]):=by subst j;exact z.o
       clear j;exact La
     ·have a1:(a5.e != 0)=true:=ss d;have cW:=t.o;unfold Bu at cW;rw[if_neg (oo v.o),if_neg (by rw[B.o,Y.o];simp),ny.o,if_pos d]at cW;simp only[Prod.mk.injEq]at cW;obtain⟨rfl,rfl⟩:=cW;clear d;go_wp2_with fail;refine(EY (a5.e) _).mono ?_;rintro _ dq ⟨rfl,cm⟩;have bI:Hd (dq.heap[w.heap.size]?=some (.cells zA.toArray 45 (0,0))):=vK.B cm;have mh:Hd (hA dq w.heap.size 45 zA):=vK.B cm;have nw:=lh (py.B cm);have fN:=lh (hT.B xI.o cm);have nx:=lh (q0.of_below (hJ oC.o cm));clear cm
      go_wp2_with (with_reducible refine BD rfl (.tmp 4) (.tmp 66) rfl rfl w.heap.size _ rfl rfl _ bI.o rfl rfl IA ?_)
      refine bodyPost_ret (v:=z2 (a5.e)) (results_cell_row (p:=4) (ty:=45) rfl _ _ w.heap.size 45 _ (0,0) _ rfl (setRow_heap _ _ _ _ _ _ bI.o) underlying45 rfl RQ) rfl ⟨_,rfl,EX _,CN nw.o fN.o (fun x aj=>mo _ aj) (me ..) mh.o nx.o (nr _) _⟩
   ·have aD:(q.2 != 0)=true:=ss m;have cW:=t.o;unfold Bu at cW;rw[if_neg (oo v.o),if_pos (by rw[B.o];exact m)]at cW;simp only[Prod.mk.injEq]at cW;obtain⟨rfl,rfl⟩:=cW;go_wp2_with fail;refine(EY (10) _).mono ?_;rintro _ dq ⟨rfl,cm⟩;have bI:Hd (dq.heap[w.heap.size]?=some (.cells zA.toArray 45 (0,0))):=F.B cm;have mh:Hd (hA dq w.heap.size 45 zA):=F.B cm;have nw:=lh (fM.B cm);have fN:=lh (hT.B R.o cm);have nx:=lh (q0.of_below (hJ ao.o cm));clear cm
    go_wp2_with (with_reducible refine BD rfl (.tmp 4) (.tmp 41) rfl rfl w.heap.size _ rfl rfl _ bI.o rfl rfl IA ?_)
    refine bodyPost_ret (v:=z2 (10)) (results_cell_row (p:=4) (ty:=45) rfl _ _ w.heap.size 45 _ (0,0) _ rfl (setRow_heap _ _ _ _ _ _ bI.o) underlying45 rfl RQ) rfl ⟨_,rfl,EX _,CN nw.o fN.o (fun x aj=>mo _ aj) (me ..) mh.o nx.o (nr _) _⟩
theorem Lc {q:Prop} (h:q:=by
 go_wp2_with fail;obtain rfl:8=bt:=by exact D6
 exact Mm):q:=h
theorem Hl {q:Prop} (h:q:=by
 go_wp2_with fail;obtain rfl:8=bt:=by exact N0
 exact Mm):q:=h
theorem PE {q:Prop} (h:q:=by
 go_upto_region 1 with fail;try with_reducible rw[eH]
 clear eH;go_wp2_with fail;have bI:=lh eZ.o;have tR:=eZ.lt;clear eZ;refine(EY 12 _).mono ?_;rintro _ dq ⟨rfl,cm⟩;have xJ:Hd (dq.heap[w.heap.size]?=some (.cells zA.toArray 45 (0,0))):=bI.B cm;have mh:Hd (BW w dq):=hJ eb.o cm;clear cm
 go_wp2_with (with_reducible refine BD rfl (.tmp 4) (.tmp 13) rfl rfl w.heap.size _ rfl rfl _ xJ.o rfl rfl IA ?_)
 refine bodyPost_ret (v:=z2 12) (results_cell_row (p:=4) (ty:=45) rfl _ _ w.heap.size 45 _ (0,0) _ rfl (setRow_heap _ _ _ _ _ _ xJ.o) underlying45 rfl RQ) rfl ⟨_,rfl,EX _,Bd mh.o (nr _) _⟩):q:=h
theorem Mm {q:Prop} (h:q:=by refine H1 ?_;intro eO cu;exact KL):q:=h
def Z3 (f:Int) (w:World) (d:Ending) (e:World):Prop:=∃a,d=.returned a/\Cc f a/\BW w e
theorem s4.one {s k a b d:Nat} {w:World} {f:List St} {j:List Value} (h:s4 w (sL b d s k) f j) (m:a<f.length) :
 s4 w (sL b (d+a*9) 1 (k-a)) [f.getD a q2] [j.getD a (sZ)]:=by
 obtain⟨o,n⟩:=h;have r:=o.get m;have e:=n.len;refine⟨⟨r,trivial⟩,⟨rfl,?_,_,_,rfl,(show 1<=k-a by have p:=e.1;have v:=e.2.1;omega),⟨oo e.2.2.1,fun g=>by cases g⟩,fun _=>⟨b,d+a*9,rfl,fun i u=>?_⟩⟩⟩;·intro c l;have p:h9 w [f.getD a q2] [j.getD a (sZ)]:=⟨r,trivial⟩;exact p.one c l
 ·have t:i<9:=ss u;obtain rfl:=e.1;obtain⟨b',x,g,l⟩:=n.at (i:=a*9+i) om;cases g;rw[show d+a*9+i=d+(a*9+i) by omega,l,OG o.length m i t];simp[n1]
theorem M5 (ak) (e:List St) (P:List Value) (f:Int) (al:e.length<=1000) (M:Hd (∀i,i<e.length->(e.getD i q2).ls.length<=1000)) (j:Int) (o:Hd ((if f<1\/(e.length:Int)<f then 12 else 0)=j)) (w:World) (s:s4 w ak e P) :
 Calls prog 36 #[ak,iV f] w (Z3 j w):=by
 have t:=lh s;obtain⟨Q,C,rfl⟩:=s.2.shape;obtain⟨ag,eH,eZ,eb⟩:∃W,w.alloc (.cells zA.toArray 45)=W/\Hd (hA W w.heap.size 45 zA)/\Hd (BW w W):=⟨_,rfl,hR w _ _ _ rfl,hB bR _⟩;clear s;go_enter func36,ntmps36;by_cases B:f<1
 ·obtain rfl:12=j:=by have g:=o.o;rw[if_pos (.inl B)]at g;exact g
  exact PE
 ·by_cases y:(e.length:Int)<f
  ·obtain rfl:12=j:=by have g:=o.o;rw[if_pos (.inr y)]at g;exact g
   exact PE
  ·obtain⟨d,O⟩:∃d:Nat,f=(d:Int)+1:=⟨(f-1).toNat,by omega⟩;have z:d<e.length:=om;obtain⟨b,k,rfl⟩:∃b k,Q=some (Ad b k):=by
    obtain⟨b,k,v,_⟩:=t.2.at (i:=0) om;exact⟨b,k,v⟩
   go_upto_region 3 with fail;try with_reducible rw[eH]
   clear eH;have ar:d+1<=C:=by have ao:=t.2.len.2.1;omega
   have ay:¬C=d:=om;have J:Hd ((e.getD d q2).ls.length<=1000):=M.o d z;have D:=lh ((t.B eb.o).one z);have R:IntKind.i64.wrap (f-1)=(d:Int):=by rw[IntWalk.i64_left,wi _ ⟨by omega,by omega⟩];omega
   subst O;go_wp2_with fail;obtain⟨a,H⟩:=xg (e.getD d q2);rw[H]at D J;clear H;refine(Ni _ [a] _ Is (fun i V=>by
    obtain rfl:i=0:=ss V
    exact J.o) _ D.o).mono ?_
   rintro _ au ⟨u,X,rfl,n,r,Z,m⟩;have T:Hd (BW w au):=hJ eb.o m;have bI:Hd (au.heap[w.heap.size]?=some (.cells zA.toArray 45 (0,0))):=eZ.B m;have tR:w.heap.size<au.heap.size:=by have B:=eZ.lt;have y:=m.size;omega
   obtain⟨ad,ac,rfl⟩:=ro n Is;have S:=w8.get ⟨X,r,Fl.of_own n r.one⟩ (i:=0) Is;obtain⟨ab,av,ai,aw,v,K,E,x⟩:=S;have F:=x.o;simp only[List.getD_cons_zero]at F;subst F;cases v;simp only[Nat.zero_mul,Nat.add_zero,Nat.zero_add]at K;obtain⟨af,ah,aj,am,Y,an,ax,ae,aa⟩:=K;obtain⟨A,G,rfl⟩:=E.fl.shape;obtain⟨l,I⟩:=xg a.ls.length;rw[I]at Y;obtain rfl:0=j:=by have g:=o.o;rw[if_neg om]at g;exact g
   clear n r Z m E x I R
   go_wp2_with (with_reducible refine BD rfl (.tmp 4) (.tmp 22) rfl rfl w.heap.size #[iZ,iZ,iZ,iZ,iZ,sZ,iZ,iZ,sZ,sZ,iZ,iV a.n,iV a.fr,iV a.til,iV a.du,.slice A l G,iV a.tot,iV a.cr,iV a.mn,.bool a.g] rfl rfl _ bI.o rfl rfl IA ?_)
   refine bodyPost_ret (v:=.agg #[iZ,iZ,iZ,iZ,iZ,sZ,iZ,iZ,sZ,sZ,iZ,iV a.n,iV a.fr,iV a.til,iV a.du,.slice A l G,iV a.tot,iV a.cr,iV a.mn,.bool a.g]) (results_cell_row (p:=4) (ty:=45) rfl _ _ w.heap.size 45 _ (0,0) _ rfl (setRow_heap _ _ _ _ _ _ bI.o) underlying45 rfl RQ) rfl ⟨_,rfl,⟨0,0,0,0,_,0,0,_,_,0,a.n,a.fr,a.til,a.du,_,a.tot,a.cr,a.mn,a.g,rfl,EC _ _ _,EC _ _ _,EC _ _ _,EC _ _ _⟩,Bd T.o (nr _) _⟩
def XJ (a:i0) (w:World) (i:Ending) (d:World):Prop :=
 ∃g e f dv,i=.returned (.agg #[iV a.today,iV g,e,iV a.R.p.c,iV a.R.p.d,f,dv,iV a.seq])/\Sl .i64 d e a.R.p.bs/\Sl .i64 d f a.R.rs/\t3 dv/\(Fr w e/\Fr w f/\Fr w dv)/\BW w d
theorem Lv (ar d:Nat) (a:i0) (Q:t0 a) (F:List Nat) (V:AV) (w) (h:i2 ar d a F w V) :
 Calls prog 11 #[pV d] w (XJ a w):=by
 have H:=lh h;have ah:Hd (a.R.p.bs.length<=1000/\a.R.rs.length<=1000/\a.bk.ds.length<=100000):=by have r:=CT Q.goods.terms;have aZ:=Q.bs;have bx:=Q.rs;have b0:=Q.bkl;show _/\_/\_;omega
 have aJ:Hd (a.R.rs.length<=1000):=ah.2.1;have aM:Hd (a.bk.ds.length<=100000):=ah.2.2;obtain⟨T,aa,Z⟩:=h.rd.now.2.2.2.1.shape;obtain⟨y,ao,M⟩:=h.rd.now.2.2.2.2.1.shape;obtain⟨O,a5⟩:=xg a.R.p.bs.length;obtain⟨z,an⟩:=xg a.R.rs.length;rw[a5]at Z;rw[an]at M;obtain⟨C,aw⟩:=xg ((tt a.t.start a.t.cyc a.today).1);have bu:=lh aw;obtain⟨gb,al⟩:=xg V.gb;have aF:=lh al;have bj:w.cell? (Ad d 11)=some (.slice T O aa):=by rw[<-Z];exact h.blk.cell 11
 have aX:w.cell? (Ad d 12)=some (iV a.R.p.c):=h.blk.cell 12;have br:w.cell? (Ad d 13)=some (iV a.R.p.d):=h.blk.cell 13;have a7:=h.blk.lt;have aC:Hd (∀W',BW w W'->Sl .i64 W' (.slice T O aa) a.R.p.bs):=fun W' o=>by rw[<-Z];exact(h.B o).rd.now.2.2.2.1
 have bf:Hd (∀W',BW w W'->Sl .i64 W' (.slice y z ao) a.R.rs):=fun W' o=>by rw[<-M];exact(h.B o).rd.now.2.2.2.2.1
 have bl:Hd (∀W',BW w W'->Ce W' d 7 (iV a.today)/\Ce W' d 8 (iV a.seq)/\Ce W' d 10 (pV gb)/\Ce W' d 14 (.slice y z ao)):=fun W' o=>by have q:=h.blk.B o;rw[<-M,<-al];exact⟨q.cell 7,q.cell 8,q.cell 10,q.cell 14⟩
 clear h Z M a5 an aw al;go_enter func11,ntmps11;go_wp2_with fail;refine(Eu (.slice T O aa) a.R.p.bs _ (aC.o _ (by repeat (first | with_reducible exact bR | with_reducible refine k1 ?_ ?hge | with_reducible refine hB ?_ _ | (case hge=>omega)))) ah.o.1).mono ?_;rintro _ ad ⟨u,rfl,I,S⟩;obtain⟨m,g,rfl⟩:=(Sl.of_own I rfl).shape;obtain⟨l,hun⟩:=xg a.R.p.bs.length;rw[hun]at I;have bs:=lh (Sl.of_own I (by rw[hun]));have am:=lh (Gc I);have aN:Hd (hA ad w.heap.size 38 [iZ,iZ,sZ,iZ,iZ,sZ,sZ,iZ]):=((hR w _ _ _ rfl).B (hB bR _)).B S;have ae:Hd (hA ad (w.heap.size+1) 35 [.slice T O aa,iV a.R.p.c,iV a.R.p.d]):=(w3 _ _ _ _ (wa _ _)).B S;have aP:Hd (BW w ad):=hJ (hB (hB bR _) _) S;rw[hun];clear I S bj aX br hun;have P:=ae.cell 0;simp only[gz,gs]at P;have aj:=ae.frozen 0;have az:=ae.lt;go_upto_region 5 with fail;obtain⟨t,a3,bt,ax,aU,G⟩:∃W,ad.setCell (Ad (w.heap.size+1) 0) (.slice m l g)=W/\Hd (hA W w.heap.size 38 [iZ,iZ,sZ,iZ,iZ,sZ,sZ,iZ])/\Hd (hA W (w.heap.size+1) 35 [.slice m l g,iV a.R.p.c,iV a.R.p.d])/\Hd (Sl .i64 W (.slice m l g) a.R.p.bs)/\Hd (BW w W) :=
  ⟨_,rfl,aN.setOther om _ _,ae.set 0 _,bs.setCell (fun b f e c j n=>by
   have r:=am.o b f e c j n;simp only[wa]at r
   omega) _,k1 aP.o om⟩
 with_reducible rw[a3]
 clear a3 P aj az a7;have ay:=lh (H.o.B G.o);have aD:Hd (∀W',BW t W'->Sl .i64 W' (.slice y z ao) a.R.rs):=fun W' o=>bf.o _ (hJ G.o o);have R:Hd (∀W',BW t W'->Ce W' d 7 (iV a.today)/\Ce W' d 8 (iV a.seq)/\Ce W' d 10 (pV gb)/\Ce W' d 14 (.slice y z ao)/\Ce W' (w.heap.size+1) 0 (.slice m l g)/\Ce W' (w.heap.size+1) 1 (iV a.R.p.c)/\Ce W' (w.heap.size+1) 2 (iV a.R.p.d)):=fun W' o=>by have A:=bl.o _ (hJ G.o o);have J:=ax.B o;exact⟨A.1,A.2.1,A.2.2.1,A.2.2.2,J.cell 0,J.cell 1,J.cell 2⟩
 have bz:=R.o t.drew (hG bR);refine se (fun W'=>Ce W' d 7 (iV a.today)/\Ce W' d 8 (iV a.seq)/\Ce W' d 10 (pV gb)/\Ce W' d 14 (.slice y z ao)/\Ce W' (w.heap.size+1) 0 (.slice m l g)/\Ce W' (w.heap.size+1) 1 (iV a.R.p.c)/\Ce W' (w.heap.size+1) 2 (iV a.R.p.d)) 26 kr ?_;refine Kn ?_;show _;refine Ge ?_;show _;refine tK 16 rfl ?_;refine tK 17 rfl ?_;refine tK 18 rfl ?_;refine tK 19 rfl ?_;refine tK 21 rfl ?_;refine tK 22 rfl ?_;refine tK 23 rfl ?_;refine tK 24 rfl ?_;refine wo 9 kr rfl fun K ac=>?_;go_simp;refine(Jf ar d a F V a.today C bu _ (ay.B (hG bR))).mono ?_;rintro _ a6 ⟨rfl,a4⟩;have Y:Hd (BW t a6):=hJ (hG bR) a4;have av:=R.o a6 Y.o;clear a4;refine ac.out _ _ (fun hun=>av) ?_;clear ac K;try simp only[ap,aq,sa,sb,sc]
 refine wo 15 kr rfl fun K ac=>?_;go_simp;refine(Eu (.slice y z ao) a.R.rs _ (aD.o _ Y.o) aJ.o).mono ?_;rintro _ au ⟨b3,rfl,b2,a0⟩;obtain⟨ab,B,rfl⟩:=(Sl.of_own b2 rfl).shape;have aV:=lh (Sl.of_own b2 rfl);have a1:=lh (Gc b2);have HB6:Hd (BW t au):=hJ Y.o a0;have dK:=R.o au HB6.o;clear b2 a0;refine Ma ?_;clear ac K;show _;refine wo 20 kr rfl fun K ac=>?_;go_simp;refine(yqh 0 gb V.dv a.bk _ (by rw[<-aF.o];exact(ay.B HB6.o).rd.now.2.2.1) aM.o).mono ?_;rintro _ E ⟨bv,rfl,ai,ak⟩;obtain⟨D,bp,rfl⟩:=(h4.of_own ai rfl).shape;have aO:=lh (Gc ai);have aL:=lh ak;have b1:Hd (BW t E):=hJ HB6.o ak;have a2:=R.o E b1.o;clear ai ak;refine ac.out _ _ (fun hun=>a2) ?_;clear ac K;try simp only[ap,aq,sa,sb,sc]
 refine tF 25 rfl ?_ (hS:=a2);have X:Hd (hA E w.heap.size 38 [iZ,iZ,sZ,iZ,iZ,sZ,sZ,iZ]):=bt.B b1.o;obtain⟨P,a',bi,aQ,a8,aI,bq,aH,-⟩:=X.cS [0,1,2,3,4,5,6,7];obtain⟨aj,aT,aB,a9,bd,aS,bm,bg,-⟩:=X.fs [0,1,2,3,4,5,6,7];have az:=X.lt;refine wS 26 rfl ?_;refine r4 kr ?_ _;clear P a' bi aQ a8 aI bq aH aj aT aB a9 bd aS bm bg;go_wp2_with fail;have s:=(((((((X.set 0 (iV a.today)).set 1 (iV C)).set 2 (.slice m l g)).set 3 (iV a.R.p.c)).set 4 (iV a.R.p.d)).set 5 (.slice ab a.R.rs.length B)).set 6 (.slice D a.bk.ds.length bp)).set 7 (iV a.seq);have be:World.cell? _ (Ad w.heap.size 0)=some (iV a.today):=s.cell 0;have A:World.cell? _ (Ad w.heap.size 1)=some (iV C):=s.cell 1;have J:World.cell? _ (Ad w.heap.size 2)=some (.slice m l g):=s.cell 2;have aA:World.cell? _ (Ad w.heap.size 3)=some (iV a.R.p.c):=s.cell 3;have bo:World.cell? _ (Ad w.heap.size 4)=some (iV a.R.p.d):=s.cell 4;have bb:World.cell? _ (Ad w.heap.size 5)=some (.slice ab a.R.rs.length B):=s.cell 5;have aK:World.cell? _ (Ad w.heap.size 6)=some (.slice D a.bk.ds.length bp):=s.cell 6;have aG:World.cell? _ (Ad w.heap.size 7)=some (iV a.seq):=s.cell 7;have af:hC [w.heap.size] E _:=((((((((hC.refl [w.heap.size] E).setCell (i:=0) (.inl (me ..)) (iV a.today)).setCell (i:=1) (.inl (me ..)) (iV C)).setCell (i:=2) (.inl (me ..)) (.slice m l g)).setCell (i:=3) (.inl (me ..)) (iV a.R.p.c)).setCell (i:=4) (.inl (me ..)) (iV a.R.p.d)).setCell (i:=5) (.inl (me ..)) (.slice ab a.R.rs.length B)).setCell (i:=6) (.inl (me ..)) (.slice D a.bk.ds.length bp)).setCell (i:=7) (.inl (me ..)) (iV a.seq);have bw:=G.size;have av:=Y.size;have dK:=HB6.size;have aW:Fr w (.slice m l g):=fun b f e c j n=>by have r:=am.o b f e c j n;simp only[wa]at r;omega
 have aR:Fr w (.slice ab a.R.rs.length B):=fun b f e c j n=>by have r:=a1.o b f e c j n;omega
 have bc:Fr w (.slice D a.bk.ds.length bp):=fun b f e c j n=>by have r:=aO.o b f e c j n;omega
 have aY:hL [w.heap.size] (.slice m l g):=fun b f e c j n ag=>by have r:=am.o b f e c j n;simp only[wa]at r;simp only[ms]at ag;omega
 have bh:hL [w.heap.size] (.slice ab a.R.rs.length B):=fun b f e c j n ag=>by have r:=a1.o b f e c j n;have aZ:=ax.lt;simp only[ms]at ag;omega
 refine bodyPost_ret (v:=.agg #[iV a.today,iV C,.slice m l g,iV a.R.p.c,iV a.R.p.d,.slice ab a.R.rs.length B,.slice D a.bk.ds.length bp,iV a.seq]) (by simp[results,results11,go_sem,be,A,J,aA,bo,bb,aK,aG]) rfl ⟨_,_,_,_,rfl,(aU.B b1.o).keep af aY,(aV.B aL.o).keep af bh,EC _ _ _,⟨aW,aR,bc⟩,(hJ G.o b1.o).trans (af.to_below (oo b1.size) (fun x aE=>by simp only[ms]at aE;omega))⟩
theorem XV (m f:Nat) (a:i0) (k:t0 a) (o:List Nat) (d:AV) (w:World) (h:i2 m f a o w d) :
 Calls prog 13 #[pV f] w (fun p g=>∃e,p=.returned e/\g.ownsRow w.heap.size 150 5 e a.ev.length (k8 a.ev)/\BW w g):=by
 have n:=lh h;have mm:Hd (a.ev.length<=2000):=k.goods.len;have r:w.cell? (Ad f 9)=some (pV d.gl):=h.blk.cell 9;clear h k;go_enter func13,ntmps13;go_wp2_with fail;refine(F2 d.gl a.t d.ltv d.lev a.ev _ n.o.rd.now.2.1 HH).mono ?_;rintro _ s ⟨e,rfl,j,i⟩;have l:=lh (An j i);clear j i;go_wp2_with fail;go_ret;exact⟨_,rfl,l.1,l.2⟩
structure BA (w:World) (base gb:Nat) (L:List Nat) (c:R5) (dv:Value) (b:Bk) (b8:Nat) (e5:List Value) (W:World):Prop where
 bc:hA W w.heap.size 48 [iV c.a,iV c.b,iV c.c,iV c.d,iV c.e]
 be:hA W (w.heap.size+1) 150 [iZ,iZ,iZ,iZ,iZ]
 bl:hA W b8 150 e5
 ge:w.heap.size+2<=b8
 bk:m1 W base gb dv b
 st:hx base L w W
section
variable {w W W':World} {base gb b8:Nat} {L:List Nat} {c:R5} {dv dv':Value} {b b':Bk} {e5:List Value}
theorem BA.B (h:BA w base gb L c dv b b8 e5 W) (a:BW W W') (d:base<=w.heap.size):BA w base gb L c dv b b8 e5 W' :=
 ⟨h.bc.B a,h.be.B a,h.bl.B a,h.ge,h.bk.B a,⟨h.st.B.trans (a.mono (nt d h.st.keep.size)),h.st.keep.B a⟩⟩
theorem BA.set (h:BA w base gb L c dv b b8 e5 W) (f:base<=w.heap.size) (e:gb<w.heap.size) (d:Nat) (a):BA w base gb L c dv b b8 (e5.set d a) (W.setCell (Ad b8 d) a):=by have hge:=h.ge;exact⟨h.bc.setOther om _ _,h.be.setOther om _ _,h.bl.set _ _,hge,⟨h.bk.1,h.bk.2.1.setOther om _ _,t1 h.bk.2.2 (hh h.bk.2.2 h.bl Iv) _⟩,h.st.setCell om (.inr om) _⟩
theorem BA.open' (h:BA w base gb L c dv b b8 e5 W) (d:hx base L W W') (g:m1 W' base gb dv' b') (e:∀f∈L,f<w.heap.size):BA w base gb L c dv' b' b8 e5 W':=by have hge:=h.ge;exact⟨h.bc.keep d.keep (fun a=>oo (e _ a)),h.be.keep d.keep (fun a=>oo (e _ a)),h.bl.keep d.keep (fun a=>oo (e _ a)),hge,g,⟨h.st.B.trans d.B,h.st.keep.trans d.keep (fun j i=>.inl i)⟩⟩
end
theorem Uq (bw g base gb:Nat) (ab:i0) (aZ:List Nat) (hV:AV) (dv:Value) (b:Bk) (c:R5) (b4:c.a=2\/c.a=7) (x:R5) (aj:Hd (r3 ab b c=x)) (bt:Int) (eq:Hd (CJ ab b c=bt)) (eU:Bk) (pH:Hd (us ab b c=eU)) (c4:Hd (ab.R.p.bs.length=ab.t.ts.length/\ab.t.ts.length<=1000)) (L:List Nat) (e7:Hd (gb∈L/\∀q,dv.ownBlock=some q->q∈L)) (w:World) (iC:Hd (∀y∈L,y<w.heap.size)) (au:base<=w.heap.size) (aQ:m1 w base gb dv b) (h:Hd (∀W,Below base w W->i2 bw g ab aZ W hV)) :
 Calls prog 65 #[pV g,.agg #[iV c.a,iV c.b,iV c.c,iV c.d,iV c.e],pV gb] w (GD x bt base gb eU L w):=by
 refine LC ?_;clear aQ au b4;unhygienic intros
 go_enter func65,ntmps65;go_wp2_with fail;refine sq 0 (fun bz a=>∃(cl E cj b3 a4 cn ao bK ai bT ae aN bI bd F bx H V am ci P K bb v bO bS cm b5 ck aU cx aE av b1 cc aF bl aK b9 bm a1 bE bq b7 bj C Y af aB ax r aD c0 aO aI cp aw cy aA bV bD cr c3 bo aV ch an D cq ac I a5 bi s aY a8 z M b0 aa o cs X c2 az ad a6 bu bp cd t bB bP R ar bs bJ u bG a' bX a3 bc aJ T bZ m aL l bC G aG c1 cv al A cf a9 a0 B ah aS cg ca ay b2 a2 O ct bH cw Q cz ce co n aC aT:Value),bz={ tmps:=#[cl,E,cj,b3,a4,cn,pV (w.heap.size+1),ao,bK,iV bt,ai,bT,ae,aN,bI,bd,F,bx,H,V,am,ci,P,K,bb,v,bO,bS,cm,b5,ck,aU,cx,aE,av,b1,cc,aF,bl,aK,b9,bm,a1,bE,bq,b7,bj,C,Y,af,aB,ax,r,aD,c0,aO,aI,cp,aw,cy,aA,bV,bD,cr,c3,bo,aV,ch,an,D,cq,ac,I,a5,bi,s,aY,a8,z,M,b0,aa,o,cs,X,c2,az,ad,a6,bu,bp,cd,t,bB,bP,R,ar,bs,bJ,u,bG,a',bX,a3,bc,aJ,T,bZ,m,aL,l,bC,G,aG,c1,cv,al,A,cf,a9,a0,B,ah,aS,cg,ca,ay,b2,a2,O,ct,bH,cw,Q,cz,ce,co,n,aC,aT],defers:=[] }/\Hd (x=Sk)/\Hd (hA a (w.heap.size+1) 150 [iZ,iZ,iZ,iZ,iZ])/\Hd (∃dv',m1 a base gb dv' eU)/\Hd (hx base L w a))
  (fun _ _=>0) rfl ?pass ?first
 case pass=>exact IS
 case first =>
  intro fd j S;have dM:=lh j;clear j S;go_upto_region 1 with fail;obtain⟨bN,eH,rh,uA,pR,uC,eb⟩:∃bN,((w.alloc (.cells #[iV c.a,iV c.b,iV c.c,iV c.d,iV c.e] 48)).alloc (.cells #[iZ,iZ,iZ,iZ,iZ] 150))=bN/\Hd (hA bN w.heap.size 48 [iV c.a,iV c.b,iV c.c,iV c.d,iV c.e])/\Hd (hA bN (w.heap.size+1) 150 [iZ,iZ,iZ,iZ,iZ])/\Hd (hx base L w bN)/\Hd (bN.heap.size=w.heap.size+2)/\Hd (BW w bN) :=
   ⟨_,rfl,(hR w _ _ _ rfl).B (hB bR _),w3 _ _ _ _ (wa _ _),⟨((Below.refl base w).alloc bY.o _).alloc Gh _,((hC.refl _ _).alloc _).alloc _⟩,(show _=_ by simp only[wa]),hB (hB bR _) _⟩
  refine OB ?_;clear eH f9 ew;unhygienic intros
  go_cut [8] (fun cb e=>∃b8,cb=pV b8/\Hd (hA e b8 150 [iZ,iV ab.today,iZ,iV c.d,iZ])/\Hd (bN.heap.size<=b8)/\Hd (BW bN e));case first=>exact Kw
  case rest =>
   clear f9 ew bA cI;obtain⟨b8,rfl,eX,uB,oG⟩:=hcut;refine MJ ?_;intro dY gL;by_cases eB:c.a=2
   ·refine Rc ?_;intro j1 da b6 aM aP bA cI j0;by_cases f:c.d<1;·exact Rz
    ·by_cases i:1000000000000000<c.d;·exact Rz
     ·refine KW ?_;intro iq;obtain rfl:0=bt:=by
       have bv:=gL.o;rw[if_neg (fun h=>h.1 eB),if_neg iq.o,if_neg om,if_neg om,if_neg om]at bv;exact bv
      have d:(⟨2,ab.today,0,c.d,0⟩:R5)=x:=by rw[<-aj.o];unfold r3;rw[if_neg hE];rw[if_neg om,if_pos eB]
      refine L6 ?_;intro cu;subst cu;obtain⟨bh,aX,bf,cF,dt,-⟩:=dY.bl.cS [0,1,2,3,4];obtain⟨ff,fg,fh,fi,fj,-⟩:=dY.bl.fs [0,1,2,3,4];have fk:=dY.bl.lt;obtain⟨aR,bg,be,ei,ej,-⟩:=dY.be.cS [0,1,2,3,4];obtain⟨eP,eQ,eR,eS,eT,-⟩:=dY.be.fs [0,1,2,3,4];have fl:=dY.be.lt;go_upto_region 31 with fail;obtain⟨aH,aW,ee⟩:∃W,wc.setCell (Ad b8 0) (iV 2)=W/\Hd (BA w base gb L c dv b b8 [iV 2,iV ab.today,iZ,iV c.d,iZ] W):=⟨_,rfl,(dY.set bY.o (iC.o _ e7.o.1) 0 (iV 2))⟩;with_reducible rw[aW]
      clear aW;clear bh aX bf cF dt ff fg fh fi fj fk aR bg be ei ej eP eQ eR eS eT fl;refine Ii ?_;intro bh aX bf cF dt ff fg fh fi fj fk aR bg be ei ej eP eQ eR eS eT fl;go_wp2_with fail;have db:=(((((ee.be.set 0 (iV (2))).set 1 (iV (ab.today))).set 2 (iV (0))).set 3 (iV (c.d))).set 4 (iV (0)));have dJ:World.cell? _ (Ad (w.heap.size+1) 0)=some (iV (2)):=db.cell 0;have bQ:World.cell? _ (Ad (w.heap.size+1) 1)=some (iV (ab.today)):=db.cell 1;have cB:World.cell? _ (Ad (w.heap.size+1) 2)=some (iV (0)):=db.cell 2;have bF:World.cell? _ (Ad (w.heap.size+1) 3)=some (iV (c.d)):=db.cell 3;refine JK ?_;intro ez;refine bodyPost_ret (v:=.tuple #[.agg #[iV (2),iV (ab.today),iV (0),iV (c.d),iV (0)],iZ]) Nq rfl ⟨_,?_,Cr w6 ee.bk ee.st ee.be bY.o (iC.o _ e7.o.1)⟩;rw[<-d]
   ·refine Qd ?_;intro da b6 aM aP bA cI bh aX bf cF dt ff fg fh fi fj fk aR bg be ei ej eP eQ eR eS eT fl el lt;go_upto_region 5 with fail;refine Iu ?_;clear b6 aM aP bA cI bh aX bf cF dt ff fg fh fi fj fk aR bg be ei ej eP eQ eR eS eT fl;unhygienic intros
    go_wp2_with fail;refine Q7 ?_;clear b6 aM aP bA cI;unhygienic intros
    cases el with
    | false =>
     refine RI ?_;intro oZ;go_wp2_with fail;obtain rfl:7=bt:=by have bv:=gL.o;rw[if_pos ⟨eB,oZ⟩]at bv;exact bv
     exact Mm
    | true =>
     have j5:=lh (lt.1 rfl);clear lt;by_cases j1:c.a=7
     ·refine Of ?_;intro dO oI jc iy j0;by_cases f:c.d<0;·exact Hl
      ·by_cases i:10000000<c.d;·exact Hl
       ·refine KW ?_;intro iq;obtain rfl:0=bt:=by
         have bv:=gL.o;rw[if_neg (fun h=>h.2 j5.o),if_neg iq.o,if_neg om,if_neg om,if_neg om]at bv;exact bv
        have d:(⟨6,ab.today,c.c,c.d,0⟩:R5)=x:=by rw[<-aj.o];unfold r3;rw[if_neg hE];rw[if_neg om,if_neg om,if_neg om,if_neg om]
        refine L6 ?_;intro cu;subst cu;obtain⟨bh,aX,bf,cF,dt,-⟩:=eE.bl.cS [0,1,2,3,4];obtain⟨ff,fg,fh,fi,fj,-⟩:=eE.bl.fs [0,1,2,3,4];have fk:=eE.bl.lt;obtain⟨aR,bg,be,ei,ej,-⟩:=eE.be.cS [0,1,2,3,4];obtain⟨eP,eQ,eR,eS,eT,-⟩:=eE.be.fs [0,1,2,3,4];have fl:=eE.be.lt;go_upto_region 31 with fail;obtain⟨aH,aW,ee⟩:∃W,bU.setCell (Ad b8 0) (iV 6)=W/\Hd (BA w base gb L c dv b b8 [iV 6,iV ab.today,iV c.c,iV c.d,iZ] W):=⟨_,rfl,(eE.set bY.o (iC.o _ e7.o.1) 0 (iV 6))⟩;with_reducible rw[aW]
        clear aW;clear bh aX bf cF dt ff fg fh fi fj fk aR bg be ei ej eP eQ eR eS eT fl;refine Ii ?_;intro bh aX bf cF dt ff fg fh fi fj fk aR bg be ei ej eP eQ eR eS eT fl;go_wp2_with fail;have db:=(((((ee.be.set 0 (iV (6))).set 1 (iV (ab.today))).set 2 (iV (c.c))).set 3 (iV (c.d))).set 4 (iV (0)));have dJ:World.cell? _ (Ad (w.heap.size+1) 0)=some (iV (6)):=db.cell 0;refine OX ?_;intro bQ cB bF;refine JK ?_;intro ez;refine bodyPost_ret (v:=.tuple #[.agg #[iV (6),iV (ab.today),iV (c.c),iV (c.d),iV (0)],iZ]) Nq rfl ⟨_,?_,Cr w6 ee.bk ee.st ee.be bY.o (iC.o _ e7.o.1)⟩;rw[<-d]
     ·have oI:(c.a == 2)=false:=ss eB;have j0:(c.a == 7)=false:=ss j1;by_cases f:c.d<1;·exact Lc
      ·by_cases i:1000000000000000<c.d;·exact Lc
       ·refine KW ?_;intro iq;by_cases dO:c.a=1;·have bW:(c.a == 1)=true:=ss dO;exact absurd mz.o om
        ·have bW:(c.a == 1)=false:=ss dO;by_cases jc:c.a=3;·have oS:(c.a == 3)=true:=ss jc;exact absurd mz.o om
         ·refine IZ ?_;intro oS iy oT;exact absurd mz.o om
theorem R3 (h:q:=by
 go_wp2_with fail;obtain rfl:8=bt:=by exact D6
 exact Pl):q:=h
theorem Ks (h:q:=by
 go_wp2_with fail;obtain rfl:8=bt:=by exact N0
 exact Pl):q:=h
theorem MI (h:q:=by refine KW ?_;intro iq;exact absurd mz.o om):q:=h
theorem G0 (h:q:=by refine H1 ?_;intro eO cu;subst cu;go_step3;exact⟨rfl,dM.o _ _ (hP (hP (hP (hP (hP (hP (hP (hP (hP (hP (hP (hP (hP ⟨_,_,_,_,_,_,_,_,rfl,eO,gD.be,⟨_,gD.bk⟩,gD.st⟩)))))))))))))⟩):q:=h
theorem QK (h:q:=by refine H1 ?_;intro eO cu;exact IE):q:=h
theorem Pl (h:q:=by refine H1 ?_;intro eO cu;exact KL):q:=h
theorem Vw (bw g base gb:Nat) (ab:i0) (aZ:List Nat) (hV:AV) (dv:Value) (b:Bk) (c:R5) (b4:c.a=1\/c.a=3) (x:R5) (aj:Hd (r3 ab b c=x)) (bt:Int) (eq:Hd (CJ ab b c=bt)) (eU:Bk) (pH:Hd (us ab b c=eU)) (Y:Hd (ab.R.p.bs.length=ab.t.ts.length/\ab.t.ts.length<=1000)) (L:List Nat) (e7:Hd (gb∈L/\∀q,dv.ownBlock=some q->q∈L)) (w:World) (iC:Hd (∀y∈L,y<w.heap.size)) (au:base<=w.heap.size) (aQ:m1 w base gb dv b) (h:Hd (∀W,Below base w W->i2 bw g ab aZ W hV)) :
 Calls prog 65 #[pV g,.agg #[iV c.a,iV c.b,iV c.c,iV c.d,iV c.e],pV gb] w (GD x bt base gb eU L w):=by
 refine LC ?_;clear aQ au b4;unhygienic intros
 go_enter func65,ntmps65;go_wp2_with fail;refine sq 0 (fun co D=>∃(cV aw cT cs bs cY a' c6 aT cA aN bK c4 ca a1 cn a3 aF aV cR a9 a5 bZ am c7 c9 cX al cU bT dj bB bc cq cM bC ch bI cw cf bo c0 ck cv ce av aI aO b2 bi ae b7 dn bO bG c' bd dk b1 cC cz dd aA cg bV cQ aY ay dc aK a4 bu cc af bX bz ao a6 cp aJ ac df aH dr bl aL bx cm cj cK ah cx c8 aC bb cl c5 ai c1 bW cG bq b' bH aE cE X bJ V cy a2 bD dq di aU an cO b0 bm ar aS bS cP cH bj cr bp a8 dg c2 ds aB dl cN cZ aa b5 bP:Value),co={ tmps:=#[cV,aw,cT,cs,bs,cY,pV (w.heap.size+1),a',c6,iV bt,aT,cA,aN,bK,c4,ca,a1,cn,a3,aF,aV,cR,a9,a5,bZ,am,c7,c9,cX,al,cU,bT,dj,bB,bc,cq,cM,bC,ch,bI,cw,cf,bo,c0,ck,cv,ce,av,aI,aO,b2,bi,ae,b7,dn,bO,bG,c',bd,dk,b1,cC,cz,dd,aA,cg,bV,cQ,aY,ay,dc,aK,a4,bu,cc,af,bX,bz,ao,a6,cp,aJ,ac,df,aH,dr,bl,aL,bx,cm,cj,cK,ah,cx,c8,aC,bb,cl,c5,ai,c1,bW,cG,bq,b',bH,aE,cE,X,bJ,V,cy,a2,bD,dq,di,aU,an,cO,b0,bm,ar,aS,bS,cP,cH,bj,cr,bp,a8,dg,c2,ds,aB,dl,cN,cZ,aa,b5,bP],defers:=[] }/\Hd (x=Sk)/\Hd (hA D (w.heap.size+1) 150 [iZ,iZ,iZ,iZ,iZ])/\Hd (∃a0,m1 D base gb a0 eU)/\Hd (hx base L w D))
  (fun _ _=>0) rfl ?pass ?first
 case pass=>exact IS
 case first =>
  intro fd S aD;have dM:=lh S;clear S aD;go_upto_region 1 with fail;obtain⟨bN,eH,rh,uA,pR,uC,eb⟩:∃bN,((w.alloc (.cells #[iV c.a,iV c.b,iV c.c,iV c.d,iV c.e] 48)).alloc (.cells #[iZ,iZ,iZ,iZ,iZ] 150))=bN/\Hd (hA bN w.heap.size 48 [iV c.a,iV c.b,iV c.c,iV c.d,iV c.e])/\Hd (hA bN (w.heap.size+1) 150 [iZ,iZ,iZ,iZ,iZ])/\Hd (hx base L w bN)/\Hd (bN.heap.size=w.heap.size+2)/\Hd (BW w bN) :=
   ⟨_,rfl,(hR w _ _ _ rfl).B (hB bR _),w3 _ _ _ _ (wa _ _),⟨((Below.refl base w).alloc bY.o _).alloc Gh _,((hC.refl _ _).alloc _).alloc _⟩,(show _=_ by simp only[wa]),hB (hB bR _) _⟩
  refine OB ?_;clear eH f9 ew;unhygienic intros
  go_cut [8] (fun cJ r=>∃b8,cJ=pV b8/\Hd (hA r b8 150 [iZ,iV ab.today,iZ,iV c.d,iZ])/\Hd (bN.heap.size<=b8)/\Hd (BW bN r));case first=>exact Kw
  case rest =>
   clear f9 ew bA cI;obtain⟨b8,rfl,eX,uB,oG⟩:=hcut;refine MJ ?_;intro dY gL;by_cases eB:c.a=2
   ·refine Rc ?_;intro j1 da b6 aM aP bA cI j0;by_cases I:c.d<1;·exact Rz
    ·by_cases Q:1000000000000000<c.d;·exact Rz
     ·exact MI
   ·refine Qd ?_;intro da b6 aM aP bA cI bh aX bf cF dt ff fg fh fi fj fk aR bg be ei ej eP eQ eR eS eT fl el lt;go_upto_region 5 with fail;refine Iu ?_;clear b6 aM aP bA cI bh aX bf cF dt ff fg fh fi fj fk aR bg be ei ej eP eQ eR eS eT fl;unhygienic intros
    go_wp2_with fail;refine Q7 ?_;clear b6 aM aP bA cI;unhygienic intros
    cases el with
    | false =>
     refine RI ?_;intro oZ;go_wp2_with fail;obtain rfl:7=bt:=by have bv:=gL.o;rw[if_pos ⟨eB,oZ⟩]at bv;exact bv
     exact Pl
    | true =>
     have j5:=lh (lt.1 rfl);clear lt;by_cases j1:c.a=7
     ·refine Of ?_;intro dO oI jc iy j0;by_cases I:c.d<0;·exact Ks
      ·by_cases Q:10000000<c.d;·exact Ks
       ·exact MI
     ·have oI:(c.a == 2)=false:=ss eB;have j0:(c.a == 7)=false:=ss j1;by_cases I:c.d<1;·exact R3
      ·by_cases Q:1000000000000000<c.d;·exact R3
       ·refine KW ?_;intro iq;by_cases dO:c.a=1
        ·have cD:(c.a == 1)=true:=ss dO;have a:=lh (h.o _ eE.st.B);obtain⟨f,i,G⟩:∃f i,hV.pv=.slice f ab.R.p.bs.length i:=a.rd.now.2.2.2.1.shape;have c3:bU.cell? (Ad g 0)=some (iV ab.t.lim):=a.blk.cell 0;have O:bU.cell? (Ad g 11)=some (.slice f ab.R.p.bs.length i):=G▸a.blk.cell 11;have aG:bU.cell? (Ad g 12)=some (iV ab.R.p.c):=a.blk.cell 12;have dp:bU.cell? (Ad g 13)=some (iV ab.R.p.d):=a.blk.cell 13;have ew:=a.blk.lt;have az:Hd (Sl .i64 bU (.slice f ab.R.p.bs.length i) ab.R.p.bs):=G▸a.rd.now.2.2.2.1;obtain⟨j,M⟩:=xg (AY ab.R.p.bs ab.R.p.c ab.R.p.d);have C:=lh M;have ax:ab.R.p.bs.length<=1000000:=by have Z:=Y.o;omega
         clear M G;have u:Hd (∀d,BW bU d->Ce d g 0 (iV ab.t.lim)/\Ce d g 11 (.slice f ab.R.p.bs.length i)/\Ce d g 12 (iV ab.R.p.c)/\Ce d g 13 (iV ab.R.p.d)/\Ce d w.heap.size 3 (iV c.d)):=fun d au=>by have q:=a.blk.B au;have cB:=eE.bc.B au;exact⟨q.cell 0,(q.cell 11).trans (by rw[<-O];exact(a.blk.cell 11).symm),q.cell 12,q.cell 13,cB.cell 3⟩
         have K:=u.o bU bR;have P:=u.o bU.drew (hG bR);obtain⟨H,e⟩:=xg (decide (ab.t.lim<wrap64 (wrap64 (j-ab.R.p.c)+c.d)));have F:=lh e;clear e;go_upto_region 13 with fail;go_cut [70] (fun dm r=>dm=.bool H/\Hd (BW bU r));case first=>go_region_held3 (fun d=>Ce d g 0 (iV ab.t.lim)/\Ce d g 11 (.slice f ab.R.p.bs.length i)/\Ce d g 12 (iV ab.R.p.c)/\Ce d g 13 (iV ab.R.p.d)/\Ce d w.heap.size 3 (iV c.d)) (first | with_reducible exact K | with_reducible exact P | exact b9.o) (first | (go_at_call 111;refine(Rv _ ab.R.p.bs ab.R.p.c ab.R.p.d j C ax _ (az.o.B HS)).mono ?_;rintro _ v ⟨rfl,l⟩;have o:Hd (BW bU v):=(by first | exact l | exact hJ (hG bR) l);have b9:=lh (u.o _ o.o);have gD:=lh (eE.o.B o.o bY.o);clear l));go_wp2_with fail;go_meet;case rel=>exact⟨by rw[<-F.o,IntWalk.i64_left,IntWalk.i64_left],o.o⟩
         case rest =>
          obtain⟨rfl,o⟩:=hcut;have gD:=lh (eE.B o.o bY.o);clear K P c3 O aG dp b6 aM aP bA ew cI;cases H with
          | true =>
           have e:ab.t.lim<wrap64 (wrap64 (j-ab.R.p.c)+c.d):=of_decide_eq_true F.o;have z:=lh e;clear e;go_wp2_with fail;obtain rfl:9=bt:=by have bv:=gL.o;rw[if_neg (fun h=>h.2 j5.o),if_neg iq.o,if_pos dO,C.o,if_pos z.o]at bv;exact bv
           exact G0
          | false =>
           have e:¬ab.t.lim<wrap64 (wrap64 (j-ab.R.p.c)+c.d):=of_decide_eq_false F.o;have z:=lh e;clear e;obtain rfl:0=bt:=by have bv:=gL.o;rw[if_neg (fun h=>h.2 j5.o),if_neg iq.o,if_pos dO,C.o,if_neg z.o]at bv;exact bv
           have E:(⟨1,ab.today,c.c,c.d,0⟩:R5)=x:=by rw[<-aj.o];unfold r3;rw[if_neg hE];rw[if_pos dO]
           refine L6 ?_;intro cu;subst cu;obtain⟨bh,aX,bf,cF,dt,-⟩:=gD.bl.cS [0,1,2,3,4];obtain⟨ff,fg,fh,fi,fj,-⟩:=gD.bl.fs [0,1,2,3,4];have fk:=gD.bl.lt;obtain⟨aR,bg,be,ei,ej,-⟩:=gD.be.cS [0,1,2,3,4];obtain⟨eP,eQ,eR,eS,eT,-⟩:=gD.be.fs [0,1,2,3,4];have fl:=gD.be.lt;go_upto_region 31 with fail;obtain⟨bE,aW,ee⟩:∃W,wc.setCell (Ad b8 0) (iV 1)=W/\Hd (BA w base gb L c dv b b8 [iV 1,iV ab.today,iV c.c,iV c.d,iZ] W):=⟨_,rfl,(gD.set bY.o (iC.o _ e7.o.1) 0 (iV 1))⟩;with_reducible rw[aW]
           clear aW;clear bh aX bf cF dt ff fg fh fi fj fk aR bg be ei ej eP eQ eR eS eT fl;refine Ii ?_;intro bh aX bf cF dt ff fg fh fi fj fk aR bg be ei ej eP eQ eR eS eT fl;go_wp2_with fail;have db:=(((((ee.be.set 0 (iV (1))).set 1 (iV (ab.today))).set 2 (iV (c.c))).set 3 (iV (c.d))).set 4 (iV (0)));have dJ:World.cell? _ (Ad (w.heap.size+1) 0)=some (iV (1)):=db.cell 0;refine OX ?_;intro bQ cB bF;refine JK ?_;intro ez;refine bodyPost_ret (v:=.tuple #[.agg #[iV (1),iV (ab.today),iV (c.c),iV (c.d),iV (0)],iZ]) Nq rfl ⟨_,?_,Cr w6 ee.bk ee.st ee.be bY.o (iC.o _ e7.o.1)⟩;rw[<-E]
        ·have cD:(c.a == 1)=false:=ss dO;by_cases jc:c.a=3
         ·have oS:(c.a == 3)=true:=ss jc;have a:=lh (h.o _ eE.st.B);have dh:bU.cell? (Ad g 6)=some (iV ab.t.start):=a.blk.cell 6;have ad:bU.cell? (Ad g 7)=some (iV ab.today):=a.blk.cell 7;have ew:=a.blk.lt;have n:¬c.a=1:=om;by_cases B:c.b<ab.t.start
          ·have cb:decide (c.b<ab.t.start)=true:=ss B;go_upto_region 19 with fail;go_quiet (fail);go_wp2_with fail;obtain rfl:10=bt:=by
            have bv:=gL.o;rw[if_neg (fun h=>h.2 j5.o),if_neg iq.o,if_neg n,if_pos jc,if_pos (.inl B)]at bv;exact bv
           exact QK
          ·have cb:decide (c.b<ab.t.start)=false:=decide_eq_false B;by_cases cd:ab.today<c.b
           ·go_upto_region 19 with fail;go_quiet (fail);go_wp2_with fail;obtain rfl:10=bt:=by
             have bv:=gL.o;rw[if_neg (fun h=>h.2 j5.o),if_neg iq.o,if_neg n,if_pos jc,if_pos (.inr cd)]at bv;exact bv
            exact QK
           ·obtain⟨m,T⟩:∃m,decide (tc ab c.b)=m:=⟨_,rfl⟩;have A:Hd (m=true↔tc ab c.b):=by
             show _↔_;rw[<-T];exact decide_eq_true_iff
            clear T;go_upto_region 19 with fail;go_quiet (fail);obtain⟨ct,R,b3⟩:∃ct,bU.drewN nq=ct/\Hd (BW bU ct):=⟨_,rfl,BU bR _⟩;try with_reducible rw[R]
            clear R dh ad ew b6 aM aP bA cI;have t:=lh (eE.B b3.o bY.o);obtain⟨b6,aM,aP,bA,-⟩:=t.bc.cS [0,1,2,3];have cI:=t.bc.lt;go_wp2_with fail;refine(Mf bw g ab aZ hV c.b m A _ (h.o _ t.st.B)).mono ?_;rintro _ v ⟨rfl,l⟩;have gD:=lh (t.B l bY.o);clear l b6 aM aP bA cI;cases m with
            | true =>
             have s:=A.1 rfl;go_wp2_with fail;obtain rfl:11=bt:=by have bv:=gL.o;rw[if_neg (fun h=>h.2 j5.o),if_neg iq.o,if_neg n,if_pos jc,if_neg (fun h=>by rcases h with h | h <;> omega),if_pos s]at bv;exact bv
             exact G0
            | false =>
             have s:¬tc ab c.b:=fun gK=>by have:=A.2 gK;cases this
             have ci:=lh s;clear s;obtain rfl:0=bt:=by have bv:=gL.o;rw[if_neg (fun h=>h.2 j5.o),if_neg iq.o,if_neg n,if_pos jc,if_neg (fun h=>by rcases h with h | h <;> omega),if_neg ci.o]at bv;exact bv
             have E:(⟨3,c.b,c.c,c.d,0⟩:R5)=x:=by rw[<-aj.o];unfold r3;rw[if_neg hE];rw[if_neg n,if_neg eB,if_pos jc]
             refine L6 ?_;intro cu;subst cu;have aM:=gD.bc.cell 1;simp only[gz,gs]at aM;have cI:=gD.bc.lt;obtain⟨bh,aX,bf,cF,dt,-⟩:=gD.bl.cS [0,1,2,3,4];obtain⟨ff,fg,fh,fi,fj,-⟩:=gD.bl.fs [0,1,2,3,4];have fk:=gD.bl.lt;obtain⟨aR,bg,be,ei,ej,-⟩:=gD.be.cS [0,1,2,3,4];obtain⟨eP,eQ,eR,eS,eT,-⟩:=gD.be.fs [0,1,2,3,4];have fl:=gD.be.lt;go_upto_region 22 with fail
             go_region
             obtain⟨bE,aW,ee⟩:∃W,((v.setCell (Ad b8 0) (iV 3)).setCell (Ad b8 1) (iV c.b)).drew=W/\Hd (BA w base gb L c dv b b8 [iV 3,iV c.b,iV c.c,iV c.d,iZ] W):=⟨_,rfl,BA.B (BA.set (gD.set bY.o (iC.o _ e7.o.1) 0 (iV 3)) bY.o (iC.o _ e7.o.1) 1 (iV c.b)) (hG bR) bY.o⟩;with_reducible rw[aW]
             clear aW;clear aM cI;clear bh aX bf cF dt ff fg fh fi fj fk aR bg be ei ej eP eQ eR eS eT fl;refine Ii ?_;intro bh aX bf cF dt ff fg fh fi fj fk aR bg be ei ej eP eQ eR eS eT fl;go_wp2_with fail;have db:=(((((ee.be.set 0 (iV (3))).set 1 (iV (c.b))).set 2 (iV (c.c))).set 3 (iV (c.d))).set 4 (iV (0)));have dJ:World.cell? _ (Ad (w.heap.size+1) 0)=some (iV (3)):=db.cell 0;have bQ:World.cell? _ (Ad (w.heap.size+1) 1)=some (iV (c.b)):=db.cell 1;have cB:World.cell? _ (Ad (w.heap.size+1) 2)=some (iV (c.c)):=db.cell 2;have bF:World.cell? _ (Ad (w.heap.size+1) 3)=some (iV (c.d)):=db.cell 3;refine JK ?_;intro ez;refine bodyPost_ret (v:=.tuple #[.agg #[iV (3),iV (c.b),iV (c.c),iV (c.d),iV (0)],iZ]) Nq rfl ⟨_,?_,Cr w6 ee.bk ee.st ee.be bY.o (iC.o _ e7.o.1)⟩;rw[<-E]
         ·refine IZ ?_;intro oS iy oT;exact absurd mz.o om
theorem KQ (h:q:=by
 go_wp2_with fail;obtain rfl:8=bt:=by exact D6
 exact Ir):q:=h
theorem PO (h:q:=by
 go_wp2_with fail;obtain rfl:8=bt:=by exact N0
 exact Ir):q:=h
theorem TD (h:q:=by refine KW ?_;intro iq;exact absurd mz.o om):q:=h
theorem SM (h:q:=by have bv:=gL.o;rw[if_neg (fun h=>h.2 j5.o),if_neg iq.o,if_neg vT,if_neg vU,if_pos iy,show(c.c-1).toNat=k from oo xK.o,tL.o,if_neg (Int.not_lt.2 tT.o),vV.o]at bv;exact bv):q:=h
theorem Ir (h:q:=by refine H1 ?_;intro eO cu;exact KL):q:=h
theorem T2 (bw g base gb:Nat) (ab:i0) (aZ:List Nat) (hV:AV) (dv:Value) (b:Bk) (c:R5) (b4:c.a=4) (x:R5) (aj:Hd (r3 ab b c=x)) (bt:Int) (eq:Hd (CJ ab b c=bt)) (eU:Bk) (pH:Hd (us ab b c=eU)) (s:Hd (ab.R.p.bs.length=ab.t.ts.length/\ab.t.ts.length<=1000)) (L:List Nat) (e7:Hd (gb∈L/\∀q,dv.ownBlock=some q->q∈L)) (w:World) (iC:Hd (∀j∈L,j<w.heap.size)) (au:base<=w.heap.size) (aQ:m1 w base gb dv b) (h:Hd (∀W,Below base w W->i2 bw g ab aZ W hV)) :
 Calls prog 65 #[pV g,.agg #[iV c.a,iV c.b,iV c.c,iV c.d,iV c.e],pV gb] w (GD x bt base gb eU L w):=by
 refine LC ?_;clear aQ au b4;unhygienic intros
 go_enter func65,ntmps65;go_wp2_with fail;refine sq 0 (fun co z=>∃(c' ay cY ct bz dd bb c7 aV cC aN bP c5 cc a1 cn a3 aG aY cX aA a5 ca ao c8 cA dc an cZ bW dp bE bd cq cO bG ch bK cw cf bs c1 cj cv ce ax aI aO b9 bl ah bD ds bT bJ dg bj dq b7 cD cz dj aB cg bX cV a' az di aK a4 b0 cd ai b' b3 av a9 cp aJ ae dk aH cQ bp aL b1 cm ci cN al cx c9 aD bc ck c6 am c2 bZ cJ bx cb bI aF cG ac bO aa cy a2 bH du dn aU ar cR b5 bq aw aT bV cU cM bo cr bu a8 dm c4 dx aC dr cP df dw bC bS:Value),co={ tmps:=#[c',ay,cY,ct,bz,dd,pV (w.heap.size+1),bb,c7,iV bt,aV,cC,aN,bP,c5,cc,a1,cn,a3,aG,aY,cX,aA,a5,ca,ao,c8,cA,dc,an,cZ,bW,dp,bE,bd,cq,cO,bG,ch,bK,cw,cf,bs,c1,cj,cv,ce,ax,aI,aO,b9,bl,ah,bD,ds,bT,bJ,dg,bj,dq,b7,cD,cz,dj,aB,cg,bX,cV,a',az,di,aK,a4,b0,cd,ai,b',b3,av,a9,cp,aJ,ae,dk,aH,cQ,bp,aL,b1,cm,ci,cN,al,cx,c9,aD,bc,ck,c6,am,c2,bZ,cJ,bx,cb,bI,aF,cG,ac,bO,aa,cy,a2,bH,du,dn,aU,ar,cR,b5,bq,aw,aT,bV,cU,cM,bo,cr,bu,a8,dm,c4,dx,aC,dr,cP,df,dw,bC,bS],defers:=[] }/\Hd (x=Sk)/\Hd (hA z (w.heap.size+1) 150 [iZ,iZ,iZ,iZ,iZ])/\Hd (∃a0,m1 z base gb a0 eU)/\Hd (hx base L w z))
  (fun _ _=>0) rfl ?pass ?first
 case pass=>exact IS
 case first =>
  intro fd X aE;have dM:=lh X;clear X aE;go_upto_region 1 with fail;obtain⟨bN,eH,rh,uA,pR,uC,eb⟩:∃bN,((w.alloc (.cells #[iV c.a,iV c.b,iV c.c,iV c.d,iV c.e] 48)).alloc (.cells #[iZ,iZ,iZ,iZ,iZ] 150))=bN/\Hd (hA bN w.heap.size 48 [iV c.a,iV c.b,iV c.c,iV c.d,iV c.e])/\Hd (hA bN (w.heap.size+1) 150 [iZ,iZ,iZ,iZ,iZ])/\Hd (hx base L w bN)/\Hd (bN.heap.size=w.heap.size+2)/\Hd (BW w bN) :=
   ⟨_,rfl,(hR w _ _ _ rfl).B (hB bR _),w3 _ _ _ _ (wa _ _),⟨((Below.refl base w).alloc bY.o _).alloc Gh _,((hC.refl _ _).alloc _).alloc _⟩,(show _=_ by simp only[wa]),hB (hB bR _) _⟩
  refine OB ?_;clear eH f9 ew;unhygienic intros
  go_cut [8] (fun cK D=>∃b8,cK=pV b8/\Hd (hA D b8 150 [iZ,iV ab.today,iZ,iV c.d,iZ])/\Hd (bN.heap.size<=b8)/\Hd (BW bN D));case first=>exact Kw
  case rest =>
   clear f9 ew bA cI;obtain⟨b8,rfl,eX,uB,oG⟩:=hcut;refine MJ ?_;intro dY gL;by_cases eB:c.a=2
   ·refine Rc ?_;intro j1 da b6 aM aP bA cI j0;by_cases I:c.d<1;·exact Rz
    ·by_cases R:1000000000000000<c.d;·exact Rz
     ·exact TD
   ·refine Qd ?_;intro da b6 aM aP bA cI bh aX bf cF dt ff fg fh fi fj fk aR bg be ei ej eP eQ eR eS eT fl el lt;go_upto_region 5 with fail;refine Iu ?_;clear b6 aM aP bA cI bh aX bf cF dt ff fg fh fi fj fk aR bg be ei ej eP eQ eR eS eT fl;unhygienic intros
    go_wp2_with fail;refine Q7 ?_;clear b6 aM aP bA cI;unhygienic intros
    cases el with
    | false =>
     refine RI ?_;intro oZ;go_wp2_with fail;obtain rfl:7=bt:=by have bv:=gL.o;rw[if_pos ⟨eB,oZ⟩]at bv;exact bv
     exact Ir
    | true =>
     have j5:=lh (lt.1 rfl);clear lt;by_cases j1:c.a=7
     ·refine Of ?_;intro dO oI jc iy j0;by_cases I:c.d<0;·exact PO
      ·by_cases R:10000000<c.d;·exact PO
       ·exact TD
     ·have oI:(c.a == 2)=false:=ss eB;have j0:(c.a == 7)=false:=ss j1;by_cases I:c.d<1;·exact KQ
      ·by_cases R:1000000000000000<c.d;·exact KQ
       ·refine KW ?_;intro iq;by_cases dO:c.a=1;·have cH:(c.a == 1)=true:=ss dO;exact absurd mz.o om
        ·have cH:(c.a == 1)=false:=ss dO;by_cases jc:c.a=3;·have oS:(c.a == 3)=true:=ss jc;exact absurd mz.o om
         ·refine IZ ?_;intro oS iy oT;have v:=lh (h.o _ eE.st.B);have ew:=v.blk.lt;have vT:¬c.a=1:=om;have vU:¬c.a=3:=om;obtain⟨dz,dl,F,dh,ad,A⟩:=v.rd.now.2.2.2.1;obtain⟨k,cE⟩:∃k:Nat,c.c=(k:Int)+1:=⟨(c.c-1).toNat,oo j5.o⟩;have P:k<ab.R.p.bs.length:=by have Z:=s.o;have ag:=j5.o;omega
          obtain⟨cs,cl,rfl,G⟩:=A (List.length_pos_iff.1 om);have xK:=lh cE;obtain⟨j,t⟩:=xg (ab.R.p.bs.getD k 0);have tL:=lh t;have E:=G k P;rw[t]at E;obtain⟨m,Y⟩:=xg ab.R.p.bs.length;have b2:bU.cell? (Ad g 11)=some (.slice (some (Ad cs cl)) m dl):=by rw[<-Y,<-F];exact v.blk.cell 11
          have dy:k<m:=om;have Q:IntKind.i64.wrap (c.c-1)=(k:Int):=by rw[IntWalk.i64_left,wi _ ⟨by omega,by have Z:=s.o;omega⟩];omega
          have aS:wrap64 (c.c-1)=(k:Int):=by rw[<-IntWalk.i64_left];exact Q
          have d2:(k:Int)<m:=om;have d0:m<=1000:=by have Z:=s.o;omega
          clear Y t G P cE F dh ad A;obtain⟨u,O⟩:=xg (CO b c.c c.d);obtain⟨e,V⟩:=xg (Eo b c.c c.d);have vV:=lh O;have H:=lh V;clear O V;by_cases r:j<c.d
          ·have c3:decide (j<c.d)=true:=ss r;go_upto_region 25 with fail;go_quiet (fail);go_wp2_with fail;obtain rfl:9=bt:=by
            have bv:=gL.o;rw[if_neg (fun h=>h.2 j5.o),if_neg iq.o,if_neg vT,if_neg vU,if_pos iy,show(c.c-1).toNat=k from oo xK.o,tL.o,if_pos r]at bv;exact bv
           refine H1 ?_;intro eO cu;exact IE
          ·have c3:decide (j<c.d)=false:=decide_eq_false r;have tT:=lh r;go_upto_region 25 with fail;go_quiet (fail);obtain⟨i,T,bB⟩:∃i,bU.drewN nq=i/\Hd (BW bU i):=⟨_,rfl,BU bR _⟩;try with_reducible rw[T]
           clear T b2 E Q aS ew b6 aM aP bA cI;have l:=lh (eE.B bB.o bY.o);have C:=lh (h.o _ l.st.B);have af:i.cell? (Ad g 7)=some (iV ab.today):=C.blk.cell 7;have ew:=C.blk.lt;obtain⟨aP,bA,-⟩:=l.bc.cS [2,3];have cI:=l.bc.lt;have bi:i.drew.cell? (Ad w.heap.size 2)=some (iV c.c)/\i.drew.cell? (Ad w.heap.size 3)=some (iV c.d)/\i.drew.cell? (Ad g 7)=some (iV ab.today):=by have q:=l.B (hG bR) bY.o;exact⟨q.bc.cell 2,q.bc.cell 3,(h.o _ q.st.B).blk.cell 7⟩
           go_upto_region 26 with fail;refine se (fun y=>Ce y w.heap.size 2 (iV c.c)/\Ce y w.heap.size 3 (iV c.d)/\Ce y g 7 (iV ab.today)) 13 kr ?_;refine Kn ?_;show _;refine wo 9 kr rfl fun K S=>?_;go_simp;refine(Zh base gb dv b c.c ab.today c.d _ (l.B (hG bR) bY.o).bk (nt bY.o (l.B (hG bR) bY.o).st.keep.size) L e7).mono ?_;rintro _ o ⟨B,rfl,M,f⟩;rw[vV.o,H.o];have ee:=lh ((l.B (hG bR) bY.o).open' f M iC.o);have a6:=lh (h.o _ ee.st.B);have f:o.cell? (Ad w.heap.size 2)=some (iV c.c)/\o.cell? (Ad w.heap.size 3)=some (iV c.d)/\o.cell? (Ad g 7)=some (iV ab.today):=⟨ee.bc.cell 2,ee.bc.cell 3,a6.blk.cell 7⟩;clear M;refine Ii ?_;intro bh aX bf cF dt ff fg fh fi fj fk aR bg be ei ej eP eQ eR eS eT fl;refine S.out _ _ (fun hun=>f) ?_;clear S K;try simp only[ap,aq,sa,sb,sc]
           refine tF 10 rfl ?_ (hS:=f);refine tF 11 rfl ?_ (hS:=f);refine tF 12 rfl ?_ (hS:=f);refine wS 13 rfl ?_;refine wS 14 rfl ?_;refine wS 15 rfl ?_;refine r4 kr ?_ _;clear bi f;obtain⟨c0,aW,a⟩:∃W,o.setCell (Ad b8 4) (iV e)=W/\Hd (BA w base gb L c B (CS b c.c ab.today c.d) b8 [iZ,iV ab.today,iV c.c,iV c.d,iV e] W):=⟨_,rfl,ee.set bY.o (iC.o _ e7.o.1) 4 (iV e)⟩;with_reducible rw[aW]
           clear aW;by_cases n:u=0
           ·subst n;clear af ew aP bA cI;clear bh aX bf cF dt ff fg fh fi fj fk aR bg be ei ej eP eQ eR eS eT fl;obtain⟨bh,aX,bf,cF,dt,-⟩:=a.bl.cS [0,1,2,3,4];obtain⟨ff,fg,fh,fi,fj,-⟩:=a.bl.fs [0,1,2,3,4];have fk:=a.bl.lt;obtain⟨aR,bg,be,ei,ej,-⟩:=a.be.cS [0,1,2,3,4];obtain⟨eP,eQ,eR,eS,eT,-⟩:=a.be.fs [0,1,2,3,4];have fl:=a.be.lt;obtain rfl:0=bt:=by exact SM
            have cT:(⟨4,ab.today,c.c,c.d,e⟩:R5)=x:=by rw[<-aj.o];unfold r3;rw[if_neg hE,if_neg vT,if_neg eB,if_neg vU,if_pos iy,H.o]
            have cu:CS b c.c ab.today c.d=eU:=by rw[<-pH.o];unfold us;rw[if_pos ⟨eq.o,iy⟩]
            rw[cu]at a;have d3:=lh iy;clear cu;go_upto_region 31 with fail;obtain⟨d1,aW,d⟩:∃W,c0.setCell (Ad b8 0) (iV 4)=W/\Hd (BA w base gb L c B eU b8 [iV 4,iV ab.today,iV c.c,iV c.d,iV e] W):=⟨_,rfl,a.set bY.o (iC.o _ e7.o.1) 0 (iV 4)⟩;with_reducible rw[aW]
            clear aW;clear bh aX bf cF dt ff fg fh fi fj fk aR bg be ei ej eP eQ eR eS eT fl;obtain⟨bh,aX,bf,cF,dt,-⟩:=d.bl.cS [0,1,2,3,4];obtain⟨ff,fg,fh,fi,fj,-⟩:=d.bl.fs [0,1,2,3,4];have fk:=d.bl.lt;obtain⟨aR,bg,be,ei,ej,-⟩:=d.be.cS [0,1,2,3,4];obtain⟨eP,eQ,eR,eS,eT,-⟩:=d.be.fs [0,1,2,3,4];have fl:=d.be.lt;go_wp2_with fail;have db:=(((((d.be.set 0 (iV (4))).set 1 (iV (ab.today))).set 2 (iV (c.c))).set 3 (iV (c.d))).set 4 (iV (e)));have dJ:World.cell? _ (Ad (w.heap.size+1) 0)=some (iV (4)):=db.cell 0;refine OX ?_;intro bQ cB bF;have ez:World.cell? _ (Ad (w.heap.size+1) 4)=some (iV (e)):=db.cell 4;refine bodyPost_ret (v:=.tuple #[.agg #[iV (4),iV (ab.today),iV (c.c),iV (c.d),iV (e)],iZ]) Nq rfl ⟨_,?_,Cr w6 d.bk d.st d.be bY.o (iC.o _ e7.o.1)⟩;rw[<-cT]
           ·have d4:(u != 0)=true:=ss n;go_wp2_with fail;obtain rfl:u=bt:=by exact SM
            have eO:x=Sk:=by rw[<-aj.o];unfold r3;rw[if_pos (by rw[eq.o];exact n)]
            have cu:eU=b:=by rw[<-pH.o];unfold us;rw[if_neg (fun h=>by have:=h.1;rw[eq.o]at this;exact n this)]
            have bm:CS b c.c ab.today c.d=b:=by unfold CS;rw[if_neg (by rw[vV.o];exact n)]
            subst cu;have cu:=a.bk;rw[bm]at cu;go_step3;exact⟨rfl,dM.o _ _ (hP (hP (hP (hP (hP (hP (hP (hP (hP (hP (hP (hP (hP ⟨_,_,_,_,_,_,_,_,rfl,eO,a.be,⟨_,cu⟩,a.st⟩)))))))))))))⟩
theorem Tk (o k e d:Nat) (b:i0) (m:List Nat) (n:AV) (i:Value) (f:Bk) (a:R5) (D:a.a=1\/a.a=2\/a.a=3\/a.a=4\/a.a=7) (j:R5) (x:Hd (r3 b f a=j)) (l:Int) (u:Hd (CJ b f a=l)) (g:Bk) (v:Hd (us b f a=g)) (p:Hd (b.R.p.bs.length=b.t.ts.length/\b.t.ts.length<=1000)) (c:List Nat) (t:Hd (d∈c/\∀q,i.ownBlock=some q->q∈c)) (w:World) (r:Hd (∀C∈c,C<w.heap.size)) (s:e<=w.heap.size) (y:m1 w e d i f) (h:Hd (∀z,Below e w z->i2 o k b m z n)) :
 Calls prog 65 #[pV k,.agg #[iV a.a,iV a.b,iV a.c,iV a.d,iV a.e],pV d] w (GD j l e d g c w):=by
 by_cases B:a.a=2\/a.a=7;·exact Uq o k e d b m n i f a B j x l u g v p c t w r s y h
 ·by_cases A:a.a=1\/a.a=3;·exact Vw o k e d b m n i f a A j x l u g v p c t w r s y h
  ·exact T2 o k e d b m n i f a om j x l u g v p c t w r s y h
theorem i2.store {d:i0} {e:AV} (h:i2 n m A F w I) (g:hC [m] w W) (x:hA W m 89 (BI d e)) (t:Rd F w (EG d e)) (u:d.iss=A.iss) (j:e.iv=I.iv) (l:e.ivs=I.ivs) (k:e.av=I.av) (y:A.seq<=d.seq):i2 n m d F W e:=by
 have r:∀b∈[m],b∈F:=fun b a=>by simp only[ms]at a;exact a▸h.gF
 obtain⟨p,s,v,o,i⟩:=h.adj;refine⟨x,h.gF,fun b a=>⟨(h.lt b a).1,Nat.lt_of_lt_of_le (h.lt b a).2 g.size⟩,t.step g (fun b a=>.inl (r b a)) (fun b a=>.inl a),?_,fun q c=>h.issF q (j▸c),⟨p,s,?_,o,?_⟩,fun q c=>h.adjF q (k▸c)⟩
 ·rw[u,j,l];exact p1 h.iss g (fun q c f=>by
   simp only[ms]at f;subst f
   exact hh h.iss h.blk Iv c.symm)
 ·have:A.seq.toNat<=d.seq.toNat:=om;exact nt v (Nat.mul_le_mul_right _ this)
 ·rw[k];exact p1 i g (fun q c f=>by
   simp only[ms]at f;subst f
   exact hh i h.blk Iv c.symm)
theorem i2.seqUp (h:i2 n m A F w I):i2 n m { A with seq:=A.seq+1 } F (w.setCell (Ad m 8) (iV (A.seq+1))) I:=
 h.store ((hC.refl _ _).sg _) (h.blk.set 8 _) (h.rd.imp fun a q=>q) rfl rfl rfl rfl (by show A.seq<=A.seq+1;omega)
theorem i2.setBook {a:Bk} (h:i2 n m A F w I) (c:Rd F w (fun b=>m1 b 0 k v a)):i2 n m { A with bk:=a } F (w.setCell (Ad m 10) (pV k)) { I with gb:=k,dv:=v }:=
 h.store ((hC.refl _ _).sg _) (h.blk.set 10 _) ((h.rd.and c).imp fun b q=>⟨q.1.1,q.1.2.1,q.2,q.1.2.2.2⟩) rfl rfl rfl rfl (Int.le_refl _)
theorem Pc (h:q:=by
 with_reducible rw[aW]
 clear aW oR nY qa ew;have b6:=nT.cell 0;simp only[gz,gs]at b6;have cI:=nT.lt;have oT:(c.a == 4)=false:=by have:=bz.o;simp;omega
 exact Gr):q:=h
theorem N3 (h:q:=by have cW:=eq.o;unfold Bm at cW;rw[rl.o]at cW;simp only at cW;rw[if_neg (by simp),if_neg uD,uE]at cW;exact cW):q:=h
theorem KH (h:q:=by have b4:hC [g] bG (bG.setCell (Ad g 10) (pV jA)):=(hC.refl _ _).sg _;refine⟨_,rfl,oR,oE.setOther (n3 oE.o ko.blk Iv) _ _,re.setOther (n3 re.o ko.blk Iv) _ _,rg.setOther (n3 rg.o ko.blk Iv) _ _,rb.trans ⟨b4.mono (fun x aj=>by simp only[ms]at aj;exact aj▸ko.gF),fun _ aj=>.inl aj⟩,fun x I cs au Z ag bK=>?_⟩;have dX:=rd.o x I cs au Z ag bK;exact dX.setOther (n3 dX ko.blk Z) _ _):q:=h
theorem Gr (h:q:=by
 have bI:Hd (ky.heap[w.heap.size+1]?=some (.cells zA.toArray 45 (0,0))):=nS.o
 go_wp2_with (with_reducible refine BD rfl (.tmp 4) (.tmp 66) rfl rfl (w.heap.size+1) zA.toArray rfl rfl _ bI.o rfl rfl IA ?_)
 refine bodyPost_ret (v:=.agg zA.toArray) (results_cell_row (p:=4) (ty:=45) rfl _ _ (w.heap.size+1) 45 _ (0,0) _ rfl (setRow_heap _ _ _ _ _ _ bI.o) underlying45 rfl RQ) rfl ⟨_,rfl,Mz 0,CN lQ.o pW.o (fun x aj=>jG.o x (mo _ aj)) (jG.o _ (me ..)) nS.o lR.o om _⟩):q:=h
theorem Gb (h:q:=by
 have AK:(km != 0)=true:=ss pz;have bv:=gQ.o;rw[if_pos pz]at bv;simp only[Prod.mk.injEq]at bv;obtain⟨rfl,rfl⟩:=bv;obtain rfl:gx=ab:=by
  rcases Ml ab x with⟨I,Z,ag⟩ | ⟨_,_,_,ag⟩;·rw[pM.o]at ag;simp only[Prod.mk.injEq]at ag;exact ag.1
  ·rw[pM.o]at ag;simp only[Prod.mk.injEq]at ag;exact absurd ag.2 pz
 clear pz;go_wp2_with fail;refine(EY (km) _).mono ?_;rintro _ dq ⟨rfl,cm⟩;have bI:Hd (dq.heap[w.heap.size+1]?=some (.cells zA.toArray 45 (0,0))):=oE.B cm;have mh:Hd (hA dq (w.heap.size+1) 45 zA):=oE.B cm;have nw:=lh (ko.B cm);have fN:=lh (hT.B rb.o cm);have nx:=lh (rd.B cm);clear cm
 go_wp2_with (with_reducible refine BD rfl (.tmp 4) (.tmp 39) rfl rfl (w.heap.size+1) _ rfl rfl _ bI.o rfl rfl IA ?_)
 refine bodyPost_ret (v:=z2 (km)) (results_cell_row (p:=4) (ty:=45) rfl _ _ (w.heap.size+1) 45 _ (0,0) _ rfl (setRow_heap _ _ _ _ _ _ bI.o) underlying45 rfl RQ) rfl ⟨_,rfl,EX _,CN nw.o fN.o (fun x aj=>jG.o x (mo _ aj)) (jG.o _ (me ..)) mh.o nx.o om _⟩):q:=h
theorem L4 (h:q:=by
 have AL:(m6 != 0)=true:=ss ol;have cW:=eq.o;unfold Bm at cW;rw[rl.o]at cW;simp only at cW;rw[if_pos ol]at cW;simp only[Prod.mk.injEq]at cW;obtain⟨rfl,rfl⟩:=cW;clear ol;go_wp2_with fail;refine(EY (m6) _).mono ?_;rintro _ dq ⟨rfl,cm⟩;have bI:Hd (dq.heap[w.heap.size+1]?=some (.cells zA.toArray 45 (0,0))):=lM.B cm;have mh:Hd (hA dq (w.heap.size+1) 45 zA):=lM.B cm;have nw:=lh (jF.B cm);have fN:=lh (hT.B pK.o cm);have nx:=lh (pL.B cm);clear cm
 go_wp2_with (with_reducible refine BD rfl (.tmp 4) (.tmp 44) rfl rfl (w.heap.size+1) _ rfl rfl _ bI.o rfl rfl IA ?_)
 refine bodyPost_ret (v:=z2 (m6)) (results_cell_row (p:=4) (ty:=45) rfl _ _ (w.heap.size+1) 45 _ (0,0) _ rfl (setRow_heap _ _ _ _ _ _ bI.o) underlying45 rfl RQ) rfl ⟨_,rfl,EX _,CN nw.o fN.o (fun x aj=>mo _ aj) (me ..) mh.o nx.o om _⟩):q:=h
theorem Mz (a:Int):Cc 0 (.agg #[iZ,iV a,iZ,iZ,iZ,sZ,iZ,iZ,sZ,sZ,iZ,iZ,iZ,iZ,iZ,sZ,iZ,iZ,iZ,.bool false]):=⟨0+a,0,0,0,_,0,0,_,_,0,0,0,0,0,_,0,0,0,false,by rw[Int.zero_add],⟨_,_,_,rfl⟩,⟨_,_,_,rfl⟩,⟨_,_,_,rfl⟩,⟨_,_,_,rfl⟩⟩
theorem U3 (bw g:Nat) (ab:i0) (i:t0 ab) (u:ab.seq<=99999) (aZ:List Nat) (hV:AV) (c:R5) (A:1<=c.a/\c.a<=7) (sV:i0) (bt:Int) (eq:Hd (Bm ab c=(sV,bt))) (w) (h:i2 bw g ab aZ w hV) :
 Calls prog 38 #[pV g,.agg #[iV c.a,iV c.b,iV c.c,iV c.d,iV c.e]] w (KG bt bw g sV aZ w):=by
 have kl:=lh i;have sK:=lh u;have E:=lh A;have mH:Hd (ab.bk.ds.length<=100000):=by have:=i.bkl;show _<=_;omega
 have L:Hd (ab.R.p.bs.length=ab.t.ts.length/\ab.t.ts.length<=1000):=⟨i.bs,oo (CT i.goods.terms)⟩;obtain⟨F,v,e8,G,H,B,eb⟩:∃W,((w.alloc (.cells #[iV c.a,iV c.b,iV c.c,iV c.d,iV c.e] 48)).alloc (.cells zA.toArray 45))=W/\Hd (i2 bw g ab ((w.heap.size+1)::aZ) W hV)/\Hd (hA W w.heap.size 48 [iV c.a,iV c.b,iV c.c,iV c.d,iV c.e])/\Hd (hA W (w.heap.size+1) 45 zA)/\Hd (hT aZ w ((w.heap.size+1)::aZ) W)/\Hd (BW w W/\W.heap.size=w.heap.size+2) :=
  ⟨_,rfl,h.more (hB (hB bR _) _) om M3,(hR w _ _ _ rfl).B (hB bR _),w3 _ _ _ _ (wa _ _),⟨((hC.refl _ _).alloc _).alloc _,fun x aj=>by
   rcases mc.1 aj with rfl | aj;·exact .inr om
   ·exact .inl aj⟩,⟨hB (hB bR _) _,by simp only[wa]⟩⟩
 have nY:F.cell? (Ad g 10)=some (pV hV.gb):=e8.blk.cell 10;have ew:=e8.blk.lt;clear h i u A;go_enter func38,ntmps38;go_wp2_with fail;try with_reducible rw[v]
 clear v;refine(PA 0 hV.gb hV.dv ab.bk _ e8.rd.now.2.2.1 mH.o).mono ?_;rintro _ f ⟨jA,lm,rfl,l,d⟩;have jI:Hd (m1 f (w.heap.size+2) jA lm ab.bk):=by rw[<-eb.2];exact l
 have wx:Hd (w.heap.size+2<=f.heap.size):=by rw[<-eb.2];exact d.size
 have em:Hd (∀aG∈jA::lm.ownBlock.toList,aG<f.heap.size):=fun aG bq=>by
  rcases mc.1 bq with rfl | bq;·exact l.2.1.lt
  ·exact(l.2.2.lt aG (tl.1 bq)).2
 have yl:=lh (H.B d);have uv:=lh (G.B d);have wn:=lh (hT.B B.o d);have ym:Hd (q0 w f):=(q0.of_below eb.1).B d;have uu:Hd (∀W,Below (w.heap.size+2) f W->i2 bw g ab ((w.heap.size+1)::aZ) W hV):=fun W au=>e8.B (d.trans (by rw[eb.2];exact au));clear l d nY ew;obtain⟨b6,r,n,o,t,-⟩:=uv.cS [0,1,2,3,4];have cI:=uv.lt;obtain⟨x,m6,eU,a⟩:∃x m6 eU,l0 ab c=(x,m6,eU):=⟨_,_,_,rfl⟩;have rl:=lh a;by_cases b4:c.a=5\/c.a=6
 ·have bz:=lh b4;by_cases j:c.a=5
  ·have y:(c.a == 5)=true:=ss j;have sU:(c.a == 6)=false:=by simp;omega
   unfold l0 at a;rw[if_pos b4]at a;simp only[Prod.mk.injEq]at a;obtain⟨aj,b,au⟩:=a;have aV:=lh aj;have ti:=lh b;have pG:=lh au;clear aj b au;clear b4 j;go_upto_region 5 with fail;go_wp2_with fail;refine Mo ?_;unhygienic intros
   have n9:Hd (∀aG∈jA::lm.ownBlock.toList,w.heap.size+2<=aG):=fun aG bq=>by exact QG
   refine NW ?_;clear o8 lK b6 r n o t cI;unhygienic intros
   go_upto_region 9 with fail;refine N7 ?_;unhygienic intros
   by_cases ol:m6=0
   ·subst ol;refine MB ?_;intro sM gx km pM gQ bh aX bf cF dt o0 b6 cI;go_wp2_with fail;refine Ls ?_;clear bh aX bf cF dt o0 b6 cI;unhygienic intros
    by_cases pz:km=0;·subst pz;have bv:=gQ.o;rw[if_neg (by simp)]at bv;simp only[Prod.mk.injEq]at bv;obtain⟨rfl,rfl⟩:=bv;refine SB ?_;intro oR nY qa ew;go_upto_region 14 with fail;refine LJ ?_;intro ky aW lQ nS nT pU pW lR;exact Pc
    ·exact Gb
   ·exact L4
  ·have y:(c.a == 5)=false:=ss j;have sU:(c.a == 6)=true:=by simp;omega
   unfold l0 at a;rw[if_pos b4]at a;simp only[Prod.mk.injEq]at a;obtain⟨aj,b,au⟩:=a;have aV:=lh aj;have ti:=lh b;have pG:=lh au;clear aj b au;clear b4 j;go_upto_region 5 with fail;go_wp2_with fail;refine Mo ?_;intro aT oF o8 lK;have n9:Hd (∀aG∈jA::lm.ownBlock.toList,w.heap.size+2<=aG):=fun aG bq=>by exact QG
   refine NW ?_;clear o8 lK b6 r n o t cI;intro eV s6 s8 s9 sA nB o9;go_upto_region 9 with fail;refine N7 ?_;intro jE nH HB6 jF lM mt mT pK pL;by_cases ol:m6=0
   ·subst ol;have gQ:Hd (({ ab with seq:=ab.seq+1,bk:=eU },(0:Int))=(sV,bt)):=by
     have cW:=eq.o;unfold Bm at cW;rw[rl.o]at cW;simp only at cW;rw[if_neg (by simp),if_pos (ss sU)]at cW;exact cW
    have bv:=gQ.o;simp only[Prod.mk.injEq]at bv;obtain⟨rfl,rfl⟩:=bv;clear gQ eq;have b6:=mt.cell 0;simp only[gz,gs]at b6;have cI:=mt.lt;have D:jE.cell? (Ad g 8)=some (iV ab.seq):=jF.blk.cell 8;have C:=jF.blk.frozen 8;have ew:=jF.blk.lt;have K:IntKind.i64.wrap (ab.seq+1)=ab.seq+1:=by have Z:=kl.seq;have ag:=sK.o;exact IntWalk.i64_in _ ⟨by omega,by omega⟩
    go_upto_region 13 with fail;obtain⟨gn,e⟩:∃gn,gn=(w.heap.size+1)::aZ:=⟨_,rfl⟩;obtain⟨kn,z⟩:∃kn,kn=hV:=⟨_,rfl⟩;have b4:hC [g] jE (jE.setCell (Ad g 8) (iV (ab.seq+1))):=(hC.refl _ _).sg _;obtain⟨bG,aW,ko,oE,re,rg,sN,rb,rd⟩:∃W,jE.setCell (Ad g 8) (iV (ab.seq+1))=W/\Hd (i2 bw g { ab with seq:=ab.seq+1 } gn W kn)/\Hd (hA W (w.heap.size+1) 45 zA)/\Hd (hA W w.heap.size 48 [iV c.a,iV c.b,iV c.c,iV c.d,iV c.e])/\Hd (hA W aT.heap.size 150 [iV x.a,iV x.b,iV x.c,iV x.d,iV x.e])/\Hd (Rd gn W (fun W=>m1 W 0 jA oF eU))/\Hd (hT aZ w gn W)/\Hd (q0 w W):=by have s:hT gn jE gn (jE.setCell (Ad g 8) (iV (ab.seq+1))):=⟨b4.mono (fun x aj=>by simp only[ms]at aj;rw[e];exact aj▸jF.gF),fun _ aj=>.inl aj⟩;refine⟨_,rfl,by rw[e,z];exact jF.seqUp,lM.setOther (n3 lM.o jF.blk (by decide)) _ _,mt.setOther (n3 mt.o jF.blk (by decide)) _ _,nH.setOther (n3 nH.o jF.blk (by decide)) _ _,s.rd (mT.rd (fun a0=>by rw[e]at a0;have Z:=o9.o _ a0;have ag:=mT.1;omega) (fun q eC a0=>by rw[e]at a0;have Z:=o9.o _ a0;have ag:=(mT.2.2.lt q eC).1;omega)),(by rw[e]at s ⊢;exact pK.trans s),fun x I cs au Z ag bK=>?_⟩;have dX:=pL.o x I cs au Z ag bK;exact dX.setOther (n3 dX jF.blk Z) _ _
    have jG:Hd (∀x∈(w.heap.size+1)::aZ,x∈gn):=fun x aj=>by rw[e];exact aj
    with_reducible rw[aW]
    clear aW b4 e z D C ew K b6 cI;refine SB ?_;intro oR nY qa ew;go_upto_region 14 with fail;obtain⟨ky,aW,lQ,nS,nT,pU,pW,lR⟩:∃W,bG.setCell (Ad g 10) (pV jA)=W/\Hd (i2 bw g { { ab with seq:=ab.seq+1 } with bk:=eU } gn W { kn with gb:=jA,dv:=oF })/\Hd (hA W (w.heap.size+1) 45 zA)/\Hd (hA W w.heap.size 48 [iV c.a,iV c.b,iV c.c,iV c.d,iV c.e])/\Hd (hA W aT.heap.size 150 [iV x.a,iV x.b,iV x.c,iV x.d,iV x.e])/\Hd (hT aZ w gn W)/\Hd (q0 w W):=by exact KH
    exact Pc
   ·exact L4
 ·have y:(c.a == 5)=false:=by simp;omega
  have sU:(c.a == 6)=false:=by simp;omega
  have bz:=lh b4;unfold l0 at a;rw[if_neg b4]at a;simp only[Prod.mk.injEq]at a;obtain⟨aj,b,au⟩:=a;have aV:=lh aj;have ti:=lh b;have pG:=lh au;have J:Hd (c.a=1\/c.a=2\/c.a=3\/c.a=4\/c.a=7):=by have Z:=E.o;show _\/_;omega
  clear aj b au;clear b4;go_upto_region 5 with fail;go_wp2_with fail;refine(Tk bw g (w.heap.size+2) jA ab ((w.heap.size+1)::aZ) hV lm ab.bk c J.o x aV m6 ti eU pG L (jA::lm.ownBlock.toList) ⟨me ..,fun q eC=>mo _ (tl.2 eC)⟩ _ em.o (oo wx.o) jI.o uu).mono ?_;rintro _ aT ⟨oF,rfl,o8,lK⟩;have n9:Hd (∀aG∈jA::lm.ownBlock.toList,w.heap.size+2<=aG):=fun aG bq=>by exact QG
  refine NW ?_;clear o8 lK b6 r n o t cI;intro eV s6 s8 s9 sA nB o9;go_upto_region 9 with fail;refine N7 ?_;intro jE nH HB6 jF lM mt mT pK pL;by_cases ol:m6=0
  ·subst ol;refine MB ?_;intro sM gx km pM gQ bh aX bf cF dt o0 b6 cI;go_wp2_with fail;refine Ls ?_;clear bh aX bf cF dt o0 b6 cI;intro bG gn kn ko jG rb rd oE re rg sN;by_cases pz:km=0
   ·subst pz;have bv:=gQ.o;rw[if_neg (by simp)]at bv;simp only[Prod.mk.injEq]at bv;obtain⟨rfl,rfl⟩:=bv;refine SB ?_;intro oR nY qa ew;go_upto_region 14 with fail;refine LJ ?_;intro ky aW lQ nS nT pU pW lR;with_reducible rw[aW]
    clear aW oR nY qa ew;have b6:=nT.cell 0;simp only[gz,gs]at b6;have cI:=nT.lt;by_cases m:c.a=4
    ·have oT:(c.a == 4)=true:=ss m;clear m;have dt:ky.cell? (Ad aT.heap.size 4)=some (iV x.e):=pU.cell 4;have o0:=pU.lt;have bI:Hd (ky.heap[w.heap.size+1]?=some (.cells zA.toArray 45 (0,0))):=nS.o
     go_wp2_with (with_reducible refine BD rfl (.tmp 4) (.tmp 65) rfl rfl (w.heap.size+1) #[iZ,iV x.e,iZ,iZ,iZ,sZ,iZ,iZ,sZ,sZ,iZ,iZ,iZ,iZ,iZ,sZ,iZ,iZ,iZ,.bool false] rfl rfl _ bI.o rfl rfl IA ?_)
     refine bodyPost_ret (v:=.agg #[iZ,iV x.e,iZ,iZ,iZ,sZ,iZ,iZ,sZ,sZ,iZ,iZ,iZ,iZ,iZ,sZ,iZ,iZ,iZ,.bool false]) (results_cell_row (p:=4) (ty:=45) rfl _ _ (w.heap.size+1) 45 _ (0,0) _ rfl (setRow_heap _ _ _ _ _ _ bI.o) underlying45 rfl RQ) rfl ⟨_,rfl,Mz x.e,CN lQ.o pW.o (fun x aj=>jG.o x (mo _ aj)) (jG.o _ (me ..)) nS.o lR.o om _⟩
    ·have oT:(c.a == 4)=false:=ss m;clear m;exact Gr
   ·exact Gb
  ·exact L4
end Go.Proofs.YtkongpjpkpfniaaGreat

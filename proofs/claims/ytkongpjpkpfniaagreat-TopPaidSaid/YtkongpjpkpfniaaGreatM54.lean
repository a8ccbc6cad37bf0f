/- TopPaid: parts of the proof, made small by a program (mini.py). -/
import Derived.Test.YtkongpjpkpfniaaGreatM01
import Derived.Test.YtkongpjpkpfniaaGreatM12
import Derived.Test.YtkongpjpkpfniaaGreatM41
import Derived.Test.YtkongpjpkpfniaaGreatM52
import Derived.Test.YtkongpjpkpfniaaGreatM53
set_option linter.unusedVariables false
set_option linter.unusedSimpArgs false
set_option maxRecDepth 100000
set_option maxHeartbeats 6400000
namespace Go.Proofs.YtkongpjpkpfniaaGreat
open Go.RowKit
theorem zq54cb40 {q:Prop} (h:q:= by
 go_wp2_with fail
 go_roundg gg
 case measure=>omega
 case rel=>exact ⟨i+1,by have:=HI.out;omega,by go_num,by have:=HNL.out;show _≤_;omega,rfl⟩):q:=h
section
theorem yqq {w:World} {a b c d e:Int} {bv rv dv:Value}:(Instr.field 38 (.agg #[iV a,iV b,bv,iV c,iV d,rv,dv,iV e]) 2).run Tryz.prog w=.ok (.agg #[bv,iV c,iV d]) w:= by
 kernel_rfl
attribute [local go_sem] ynf yqq
theorem yue {W:World} {B:Nat} {v:Value} {ts:List (Int×Bool)} {a b c d e f:Int} {u:Value} (h:TrS W v ts) (hu:IsSl u) (hB:Blk W B 24 [iV a,u,iV b,iV c,iV d,iV e,iV f]):OffF [B] v:=fun b' o n cp e1 hn hm=>by
 simp only [ms] at hm;subst hm e1;obtain ⟨rfl,_⟩:=h.fl.len;obtain ⟨b2,o2,x,g,e2,_,c2,_⟩:=h.get hn;cases e2;rw [hB.cell] at c2;obtain ⟨_,_,_,rfl⟩:=hu;simp only [Nat.zero_mul,Nat.add_zero] at c2
 match o,c2 with
 | 0,c2=>simp at c2
 | 1,c2=>simp at c2
 | 2,c2=>simp at c2
 | 3,c2=>simp at c2
 | 4,c2=>simp at c2
 | 5,c2=>simp at c2
 | k+6,c2=>simp at c2
def ymy (lo g:Nat) (t:Tm) (w0:World) (A:Acc) (w:World):Prop:=A.t=t∧ycy A∧Below w0.heap.size w0 w∧∃F V,ybe lo g A F w V
theorem yqg {lo g:Nat} {t:Tm} {w0 w w':World} {A A':Acc} {F:List Nat} {V:AV} {c:R5} {E:Int} (hA:ycy A) (ht:A.t=t) (ha:ybe lo g A F w V) (hlo:w0.heap.size≤lo) (hb:Below w0.heap.size w0 w) (hE:doS A c=(A',E)) (hg:ync lo g A' F w w'):ymy lo g t w0 A' w'∧A'.seq≤A.seq+1:= by
 obtain ⟨h1,h2,h3⟩:=yyh hA c;rw [hE] at h1 h2 h3;obtain ⟨F',V',k1,k2,_,_⟩:=hg;exact ⟨⟨h2.trans ht,h1,hb.trans (k2.keep.to_below hb.size (fun x hx=>Nat.le_trans hlo (ha.lt x hx).1)),F',V',k1⟩,h3⟩
theorem paid_law (t:Tm) (tv lv:Value) (l:List R5) (d:Int) (w:World) (hv:TrS w tv t.ts) (hl:R5S w lv l):Calls Tryz.prog 4 #[.agg (t.cells tv).toArray,lv,iV d] w (RetB (.bool true) w):= by
 have HV:=lh hv;have HL:=lh hl;obtain ⟨tao,tc,rfl⟩:=hv.shape;clear hv hl;unfold Tm.cells;obtain ⟨W1,hW1,X1,B1⟩:∃W,w.alloc (.cells #[iV t.lim,.slice tao t.ts.length tc,iV t.cyc,iV t.dued,iV t.minf,iV t.minp,iV t.start] 24)=W∧Hid (Blk W w.heap.size 24 [iV t.lim,.slice tao t.ts.length tc,iV t.cyc,iV t.dued,iV t.minf,iV t.minp,iV t.start])∧Hid (Below w.heap.size w W):=⟨_,rfl,yae w _ _ _ rfl,yaa bR _⟩
 go_enter Tryz.func4,Tryz.ntmps4
 go_upto_region 1 with fail
 try with_reducible rw [hW1]
 clear hW1;have c0:=X1.out.cell 0;have c1:=X1.out.cell 1;have c2:=X1.out.cell 2;have c3:=X1.out.cell 3;have c4:=X1.out.cell 4;have c5:=X1.out.cell 5;have c6:=X1.out.cell 6;simp only [gz,gs] at c0 c1 c2 c3 c4 c5 c6;have kx:=X1.out.lt
 go_wp2_with fail
 refine (ymv t (.slice tao t.ts.length tc) _ (HV.out.below B1.out)).mono ?_;clear c0 c1 c2 c3 c4 c5 c6 kx;rintro _ w2 ⟨t',tv',rfl,hr,hst,htr,hb2⟩;obtain ⟨tao',tc',rfl⟩:=htr.shape;have HT:=lh (And.intro hr hst);have X2:=lh (X1.out.below hb2);have B2:Hid (Below w.heap.size w w2):=yad B1.out hb2;have T2:=lh htr;have HO:=lh (yue htr (isl _ _ _) X2.out);clear hr hst htr hb2;rw [show (t'.cells (.slice tao' t'.ts.length tc')).toArray=#[iV t'.lim,.slice tao' t'.ts.length tc',iV t'.cyc,iV t'.dued,iV t'.minf,iV t'.minp,iV t'.start] from rfl];have HZ:Hid (w2.heap[w.heap.size]?=some (.cells #[iV t.lim,.slice tao t.ts.length tc,iV t.cyc,iV t.dued,iV t.minf,iV t.minp,iV t.start] 24 (0,0))):=X2.out;go_upto_region 2 with (with_reducible refine yhs rfl (.tmp 3) (.tmp 17) rfl rfl w.heap.size #[iV t'.lim,.slice tao' t'.ts.length tc',iV t'.cyc,iV t'.dued,iV t'.minf,iV t'.minp,iV t'.start] rfl rfl _ HZ.out rfl rfl (by simp [Value.oneCell']) ?_)
 obtain ⟨W3,hW3,X3,T3,B3⟩:∃W,w2.setRow w.heap.size #[iV t'.lim,.slice tao' t'.ts.length tc',iV t'.cyc,iV t'.dued,iV t'.minf,iV t'.minp,iV t'.start]=W∧Hid (Blk W w.heap.size 24 [iV t'.lim,.slice tao' t'.ts.length tc',iV t'.cyc,iV t'.dued,iV t'.minf,iV t'.minp,iV t'.start])∧Hid (TrS W (.slice tao' t'.ts.length tc') t'.ts)∧Hid (Below w.heap.size w W) :=
  ⟨_,rfl,ycu X2.out [iV t'.lim,.slice tao' t'.ts.length tc',iV t'.cyc,iV t'.dued,iV t'.minf,iV t'.minp,iV t'.start],T2.out.keep (F:=[w.heap.size]) ((yab.refl _ _).setRow (.inl (List.mem_cons_self ..)) _) HO.out,ybl B2.out (Nat.le_refl _) _⟩
 try with_reducible rw [hW3]
 clear hW3 HZ
 go_wp2_with fail
 refine (ynd lv l 25 (by decide) _ (HL.out.below B3.out)).mono ?_;rintro _ w4 ⟨u,l',rfl,hl',hl25,hb4⟩;obtain ⟨uo,uc,rfl⟩:=hl'.shape;have L4:=lh hl';have L25:=lh hl25;have X4:=lh (X3.out.below hb4);have T4:=lh (T3.out.below hb4);have B4:Hid (Below w.heap.size w w4):=B3.out.trans (hb4.mono B3.out.size);clear hl' hl25 hb4;have c0:=X4.out.cell 0;have c1:=X4.out.cell 1;have c2:=X4.out.cell 2;have c3:=X4.out.cell 3;have c4:=X4.out.cell 4;have c5:=X4.out.cell 5;have c6:=X4.out.cell 6;simp only [gz,gs] at c0 c1 c2 c3 c4 c5 c6;have kx:=X4.out.lt
 go_wp2_with fail
 refine (ylj t' (.slice tao' t'.ts.length tc') HT.out.1 (yip t') (yms HT.out.1 HT.out.2) rfl _ T4.out).mono ?_;clear c0 c1 c2 c3 c4 c5 c6 kx;rintro _ w5 ⟨g,F,V,rfl,ha,_,hb5⟩;have A5:=lh ha;have HB5:=lh hb5;clear ha hb5
 go_wp2_with fail
 refine (yrl _).mono ?_;rintro _ w6 ⟨rfl,hb6⟩;have A6:Hid (ymy w4.heap.size g t' w4 (yb6 t') w6):=⟨rfl,ynp HT.out.1 HT.out.2,yad HB5.out hb6,F,V,A5.out.below hb6⟩;clear hb6
 go_wp2_with fail
 go_loopg [9] l'.length (fun gg x wr=>∃(k:Nat) (A:Acc),k+gg=l'.length∧x=iV (k:Int)∧Hid (A.seq≤(k:Int))∧Hid (ymy w4.heap.size g t' w4 A wr))
 case atStart=>exact ⟨0,yb6 t',by omega,rfl,Int.le_refl _,A6.out⟩
 case round =>
  obtain ⟨k,A,hk,rfl,HQ,HA⟩:=hrel;cases gk with
  | succ gg =>
   have hlt:(k:Int)<(l'.length:Int):=by omega
   obtain ⟨h1,h2,h3,F7,V7,h4⟩:=HA.out;have A7:=lh h4;have B7:=lh h3;have OK7:=lh (And.intro h1 h2);obtain ⟨b,o,x,rfl,⟨c0,c1,c2,c3,c4⟩,HX⟩:=(L4.out.below h3).get (show k<l'.length by omega);have hk1:wrap64 ((k:Int)+1)=(k:Int)+1:=IntWalk.wrap64_in _ ⟨by omega,by have:=L25.out;omega⟩;have HK:=lh hk;obtain ⟨A',E,hE⟩:∃A' E,doS A x=(A',E):=⟨_,_,rfl⟩;have HE:=lh hE;clear hE h1 h2 h3 h4 HX hk
   go_wp2_with fail
   refine (yhk w4.heap.size g A OK7.out.2 (by have:=HQ.out;have:=HK.out;have:=L25.out;omega) F7 V7 x A' E HE _ A7.out).mono ?_;rintro _ w8 ⟨v,rfl,_,hg⟩;have H8:=lh (yqg OK7.out.2 OK7.out.1 A7.out (Nat.le_refl _) B7.out HE.out hg);clear hg c0 c1 c2 c3 c4
   go_wp2_with fail
   go_roundg gg
   case measure=>omega
   case rel=>exact ⟨k+1,A',by have:=HK.out;omega,by go_num,by have:=HQ.out;have:=H8.out.2;show A'.seq≤((k+1:Nat):Int);omega,H8.out.1⟩
  | zero =>
   have hlt:¬(k:Int)<(l'.length:Int):=by omega
   have HK:Hid (k≤25):=by show k≤25;have:=L25.out;omega
   clear hk;obtain ⟨h1,h2,h3,F7,V7,h4⟩:=HA.out;have A7:=lh h4;have B7:=lh h3;have OK7:=lh (And.intro h1 h2);clear h1 h2 h3 h4
   go_wp2_with fail
   refine (yfv w4.heap.size g A OK7.out.2 F7 V7 _ A7.out).mono ?_;rintro _ w8 ⟨cy,bv,rv,dv,rfl,hbv,hrv,hdv,_,hb8⟩;obtain ⟨owed,how⟩:∃o,yb4 A.R.p.bs A.R.p.c A.R.p.d=o:=⟨_,rfl⟩;have HOW:=lh how;have hnn:0≤owed:=by rw [←how];exact yuq
   have HNN:=lh hnn;have BV:=lh hbv;have A8:=lh (A7.out.below hb8);have B8:Hid (Below w4.heap.size w4 w8):=B7.out.trans (hb8.mono B7.out.size);clear hbv hrv hdv hb8 how hnn
   go_wp2_with fail
   refine (ygv bv A.R.p.bs A.R.p.c A.R.p.d owed HOW _ BV.out).mono ?_;rintro _ w9 ⟨rfl,hb9⟩;have A9:=lh (A8.out.below hb9);have B9:Hid (Below w4.heap.size w4 w9):=B8.out.trans (hb9.mono B8.out.size);clear hb9;go_upto_region 11 with fail
   have HSQ:Hid (A.seq≤25):= by
    show A.seq≤25;have:=HQ.out;have:=HK.out;omega
   clear B8 B7 A8 A7 BV
   go_cut [10,60] (fun s10 s60 wx=>∃(A2:Acc) (b:Bool),s10=iV owed∧s60=.bool b∧Hid (ymy w4.heap.size g t' w4 A2 wx)∧Hid (A2.seq≤26)∧Hid (b=false→yb4 A2.R.p.bs A2.R.p.c A2.R.p.d=0∧(0<owed→A2.R.p.c=0)))
   case first =>
    by_cases h0:0<owed
    ·obtain ⟨A',E,hE⟩:∃A' E,doS A ⟨2,0,0,owed,0⟩=(A',E):=⟨_,_,rfl⟩
     have HE:=lh hE;clear hE
     go_wp2_with fail
     refine (yhk w4.heap.size g A OK7.out.2 (by have:=HSQ.out;omega) F7 V7 ⟨2,0,0,owed,0⟩ A' E HE _ A9.out).mono ?_;rintro _ w10 ⟨v,rfl,han,hg⟩;obtain ⟨r,cy,td,cn,bal,cr,du,rt,dp,sq,pn,pf,pt,pd,ln,tt,pc,mn,gr,rfl,_⟩:=han;have H10:=lh (yqg OK7.out.2 OK7.out.1 A9.out (Nat.le_refl _) B9.out HE.out hg);clear hg
     by_cases hE0:E=0
     ·subst hE0
      have HPP:=lh (yuk OK7.out.2 HOW.out h0 HE.out)
      go_wp2_with fail
      go_meet
      case rel=>exact ⟨A',false,rfl,rfl,H10.out.1,by have:=H10.out.2;have:=HSQ.out;show _≤_;omega,fun _=>⟨HPP.out.2.1,fun _=>HPP.out.2.2⟩⟩
     ·have hne:(E != 0)=true:=by simpa using hE0
      go_wp2_with fail
      go_meet
      case rel=>exact ⟨A',true,rfl,rfl,H10.out.1,by have:=H10.out.2;have:=HSQ.out;show _≤_;omega,fun h=>by cases h⟩
    ·have hdf:decide (0<owed)=false:=decide_eq_false h0
     have hz:owed=0:=by have:=HNN.out;omega
     have HOW0:Hid (yb4 A.R.p.bs A.R.p.c A.R.p.d=0):=by rw [←hz];exact HOW.out
     have h0':=lh h0;clear hz
     go_wp2_with fail
     go_meet
     case rel=>exact ⟨A,false,rfl,rfl,⟨OK7.out.1,OK7.out.2,B9.out,F7,V7,A9.out⟩,by have:=HSQ.out;show _≤_;omega,fun _=>⟨HOW0.out,fun h=>by have:=h0'.out;omega⟩⟩
   case rest =>
    obtain ⟨A2,b,rfl,rfl,HA2,HS2,HP2⟩:=hcut;obtain ⟨h1,h2,h3,F8,V8,h4⟩:=HA2.out;have A10:=lh h4;have B10:=lh h3;have OK10:=lh (And.intro h1 h2);clear h1 h2 h3 h4;cases b with
    | true =>
     go_wp2_with fail
     go_ret
     exact ⟨rfl,B4.out.trans (B10.out.mono B4.out.size)⟩
    | false =>
    go_wp2_with fail
    refine (yfv w4.heap.size g A2 OK10.out.2 F8 V8 _ A10.out).mono ?_;rintro _ w11 ⟨cy,bv,rv,dv,rfl,hbv,hrv,hdv,_,hb11⟩;obtain ⟨bo,bc,rfl⟩:=hbv.shape;obtain ⟨ro,rc,rfl⟩:=hrv.shape;obtain ⟨do',dn,dc,rfl⟩:=hdv;have BV:=lh hbv;have A11:=lh (A10.out.below hb11);have B11:Hid (Below w4.heap.size w4 w11):=B10.out.trans (hb11.mono B10.out.size);clear hbv hrv hb11;go_upto_region 14 with fail
    obtain ⟨p,c',hp,hc'⟩:∃p c',yb4 A2.R.p.bs A2.R.p.c A2.R.p.d=p∧A2.R.p.c=c':=⟨_,_,rfl,rfl⟩;obtain ⟨W12,hW12,S12,B12⟩:∃W,w11.alloc (.cells #[iV A2.today,iV cy,.slice bo A2.R.p.bs.length bc,iV A2.R.p.c,iV A2.R.p.d,.slice ro A2.R.rs.length rc,.slice do' dn dc,iV A2.seq] 38)=W∧Hid (Blk W w11.heap.size 38 [iV A2.today,iV cy,.slice bo A2.R.p.bs.length bc,iV A2.R.p.c,iV A2.R.p.d,.slice ro A2.R.rs.length rc,.slice do' dn dc,iV A2.seq])∧Hid (Below w11.heap.size w11 W):=⟨_,rfl,yae w11 _ _ _ rfl,yaa bR _⟩;try with_reducible rw [hW12]
    clear hW12 hp hc' p c';have HTP:Hid (yb4 A2.R.p.bs A2.R.p.c A2.R.p.d=0):=(HP2.out (by simp)).1;have s2:=S12.out.cell 2;have s3:=S12.out.cell 3;have s4:=S12.out.cell 4;simp only [gz,gs] at s2 s3 s4;have ks:=S12.out.lt
    go_cut [76] (fun s76 wx=>s76=.bool false∧Hid (ybe w4.heap.size g A2 F8 wx V8)∧Hid (Below w4.heap.size w4 wx))
    case first =>
     go_wp2_with fail
     refine (ygv (.slice bo A2.R.p.bs.length bc) A2.R.p.bs A2.R.p.c A2.R.p.d 0 HTP _ (BV.out.below B12.out)).mono ?_;rintro _ w13 ⟨rfl,hb13⟩;have S13:=lh (S12.out.below hb13);have A13:=lh ((A11.out.below B12.out).below hb13);have B13:Hid (Below w4.heap.size w4 w13):=B11.out.trans ((yad B12.out hb13).mono B11.out.size);clear s2 s3 s4 ks hb13;have s3:=S13.out.cell 3;have ks:=S13.out.lt
     by_cases h0:0<owed
     ·have hc0:A2.R.p.c=0:=(HP2.out (by simp)).2 h0
      rw [hc0] at s3;clear hc0
      go_wp2_with fail
      go_meet
      case rel=>exact ⟨rfl,A13.out,B13.out⟩
     ·have hdf:decide (0<owed)=false:=decide_eq_false h0
      go_wp2_with fail
      go_meet
      case rel=>exact ⟨rfl,A13.out,B13.out⟩
    case rest =>
     obtain ⟨rfl,A14,B14⟩:=hcut;clear s2 s3 s4 ks
     go_wp2_with fail
     refine (yhm w4.heap.size g A2 OK10.out.2 F8 V8 _ A14.out).mono ?_;rintro _ w15 ⟨v15,us15,rfl,ho15,_,_,hb15⟩;obtain ⟨io,ic,rfl⟩:=ykj ho15;obtain ⟨n,hn⟩:∃n,A2.iss.length=n:=⟨_,rfl⟩;have HNI:=lh hn;rw [hn];have A15:=lh (A14.out.below hb15);have B15:Hid (Below w4.heap.size w4 w15):=B14.out.trans (hb15.mono B14.out.size)
     have HN3:Hid (n≤300):= by
      show n≤300;have h1:=OK10.out.2.issl;have h2:=OK10.out.2.outl;omega
     clear ho15 hb15 hn;obtain ⟨q,e0,a0,b0,w0⟩:=yeo d 60 (by decide) (by decide);have e0':(IntKind.u64.wrap d).tmod 60=q:=e0;obtain ⟨p,hp,HPD⟩:∃p,wrap64 (70+q)=p∧Hid (70≤p):=⟨70+q,IntWalk.wrap64_in _ ⟨by omega,by omega⟩,by show _≤_;omega⟩;clear e0 a0 b0;obtain ⟨A3,E,hE⟩:∃A' E,doS A2 ⟨8,p,0,0,0⟩=(A',E):=⟨_,_,rfl⟩;have HE:=lh hE;clear hE
     go_wp2_with fail
     refine (yhk w4.heap.size g A2 OK10.out.2 (by have:=HS2.out;omega) F8 V8 ⟨8,p,0,0,0⟩ A3 E HE _ A15.out).mono ?_;rintro _ w16 ⟨v,rfl,han,hg⟩;obtain ⟨r,cy',td,cn,bal,cr,du,rt,dp,sq,pn,pf,pt,pd,ln,tt,pc,mn,gr,rfl,_⟩:=han;have H16:=lh (yqg OK10.out.2 OK10.out.1 A15.out (Nat.le_refl _) B15.out HE.out hg);clear hg e0' w0 hp
     by_cases hE0:E=0
     ·subst hE0
      have HTK:=lh (ys4 OK10.out.2 HPD.out HE.out);obtain ⟨h1,h2,h3,F9,V9,h4⟩:=H16.out.1;have A16:=lh h4;have B16:=lh h3;have OK16:=lh (And.intro h1 h2);clear h1 h2 h3 h4
      go_wp2_with fail
      refine (yhm w4.heap.size g A3 OK16.out.2 F9 V9 _ A16.out).mono ?_;rintro _ w17 ⟨v17,us17,rfl,ho17,hls,_,hb17⟩;obtain ⟨so,scx,rfl⟩:=ykj ho17;obtain ⟨m,hm⟩:∃m,A3.iss.length=m:=⟨_,rfl⟩;have HMI:=lh hm;have HST:Hid (StS w17 (.slice so m scx) A3.iss):=by rw [←hm];exact StS.of_own ho17 hls
      rw [hm]
      have HM3:Hid (n<m∧m≤300):= by
       have h1:=OK16.out.2.issl;have h2:=OK16.out.2.outl;have h3:=HTK.out.1;have h4:=HNI.out;show _∧_;omega
      have HB:Hid (Below w.heap.size w w17):=B4.out.trans ((B16.out.trans (hb17.mono B16.out.size)).mono B4.out.size);have HQT:Hid (∀i,n+1≤i→i<m→(A3.iss.getD (i-1) St0).tot=0→∀ln∈(A3.iss.getD i St0).ls,ln.1=0∧ln.2.1=0):=fun i h1 h2=>HTK.out.2 i (by rw [HNI.out];exact h1) (by rw [hm];exact h2);have hn1:wrap64 ((n:Int)+1)=(n:Int)+1:=IntWalk.wrap64_in _ ⟨by omega,by have:=HN3.out;omega⟩;clear ho17 hls hb17 hm
      go_wp2_with fail
      go_loopg [14] (m-(n+1)) (fun gg x wr=>∃i:Nat,i+gg=m∧x=iV (i:Int)∧Hid (n+1≤i)∧wr=w17)
      case atStart=>exact ⟨n+1,by have:=HM3.out;omega,by go_num,Nat.le_refl _,rfl⟩
      case round =>
       obtain ⟨i,hi,rfl,HNL,rfl⟩:=hrel;cases gk with
       | zero =>
        have hlt:¬(i:Int)<(m:Int):=by omega
        have hgt:(n:Int)<(m:Int):=by have:=HM3.out;omega
        go_wp2_with fail
        go_ret
        exact ⟨rfl,HB.out⟩
       | succ gg =>
        have hlt:(i:Int)<(m:Int):=by omega
        obtain ⟨j,hj⟩:∃j,i=j+1:=⟨i-1,by have:=HNL.out;omega⟩
        have hjw:wrap64 ((i:Int)-1)=(j:Int):= by
         rw [show (i:Int)-1=(j:Int) by omega];exact IntWalk.wrap64_in _ ⟨by omega,by have:=HM3.out;omega⟩
        have hjm:j<m:=by omega
        have him:i<m:=by omega
        have hjmi:(j:Int)<(m:Int):=by omega
        have hi1:wrap64 ((i:Int)+1)=(i:Int)+1:=IntWalk.wrap64_in _ ⟨by omega,by have:=HM3.out;omega⟩;have HIJ:=lh hj;have HI:=lh hi;obtain ⟨b,o,s1,lv1,rfl,⟨-,-,-,-,-,c5,-⟩,-,HX1⟩:=HST.out.get (i:=j) (by rw [HMI.out];exact hjm);obtain ⟨b2,o2,s2,lv2,he2,⟨-,-,-,-,d4,-⟩,HL2,HX2⟩:=HST.out.get (i:=i) (by rw [HMI.out];exact him);cases he2
        obtain ⟨lo,lc,rfl⟩:∃lo lc,lv2=.slice lo s2.ls.length lc:= by
         obtain ⟨lo,lc,e,_⟩:=HL2;exact ⟨lo,lc,e⟩
        have HLL:=lh HL2;have HJM:=lh (And.intro hjm him);clear hj hi HL2 hjm him
        by_cases h0:s1.tot=0
        ·rw [h0] at c5
         have HZ:Hid (∀ln∈s2.ls,ln.1=0∧ln.2.1=0):= by
          have h1:=HQT.out i HNL.out HJM.out.2;rw [show i-1=j by have:=HIJ.out;omega,HX1.out,HX2.out] at h1;exact h1 h0
         obtain ⟨L,hL⟩:∃L,s2.ls.length=L:=⟨_,rfl⟩;have HLE:=lh hL;rw [hL] at d4
         have HL1:Hid (L≤1000):= by
          show L≤1000;have h1:=OK16.out.2.issb i (by rw [HMI.out];exact HJM.out.2);rw [HX2.out] at h1;omega
         clear hL h0
         go_wp2_with fail
         have HI1:=lh hi1;clear c5 hjw hjmi hi1 hn1;go_loopg [15] L (fun g2 y w2=>∃k2:Nat,k2+g2=L∧y=iV (k2:Int)∧w2=wr)
         case atStart=>exact ⟨0,by omega,rfl,rfl⟩
         case round =>
          obtain ⟨k2,hk2,rfl,rfl⟩:=hrel;cases gk with
          | zero =>
           have hlt2:¬(k2:Int)<(L:Int):=by omega
           have hi1:=HI1.out;clear hk2;exact zq54cb40
          | succ g2 =>
           have hlt2:(k2:Int)<(L:Int):=by omega
           have hk21:wrap64 ((k2:Int)+1)=(k2:Int)+1:=IntWalk.wrap64_in _ ⟨by omega,by have:=HL1.out;omega⟩;obtain ⟨b3,o3,x,y,z,rfl,⟨q0,q1,_⟩,HXL⟩:=HLL.out.get (i:=k2) (by rw [HLE.out];omega)
           have hxy:x=0∧y=0:= by
            have h1:=HZ.out (s2.ls.getD k2 (0,0,0)) (by
             have h2:k2<s2.ls.length:=by rw [HLE.out];omega
             rw [List.getD_eq_getElem?_getD,List.getElem?_eq_getElem h2];exact List.getElem_mem h2)
            rw [HXL.out] at h1;exact h1
           rw [hxy.1] at q0;rw [hxy.2] at q1;have HK2:=lh hk2;clear hxy hk2
           go_wp2_with fail
           go_roundg g2
           case measure=>omega
           case rel=>exact ⟨k2+1,by have:=HK2.out;omega,by go_num,rfl⟩
        ·exact zq54cb40
     ·have hne:(E != 0)=true:=by simpa using hE0
      go_wp2_with fail
      go_ret
      exact ⟨rfl,B4.out.trans (H16.out.1.2.2.1.mono B4.out.size)⟩
end
end Go.Proofs.YtkongpjpkpfniaaGreat

/- TopPaid: parts of the proof, made small by a program (mini.py). -/
import Derived.Test.YtkongpjpkpfniaaGreatM01
import Derived.Test.YtkongpjpkpfniaaGreatM22
set_option linter.unusedVariables false
set_option linter.unusedSimpArgs false
set_option maxRecDepth 100000
set_option maxHeartbeats 6400000
namespace Go.Proofs.YtkongpjpkpfniaaGreat
open Go.RowKit
theorem zq2375a5 {q:Prop} (h:q:= by
 subst hkm;have hlt:¬(k:Int)<(k:Int):=by omega
 clear hkb;have f7:=F7.out
 go_wp2_with fail
 refine (IH.out _ (HV.out.below HBW.out)).mono ?_;rintro _ w9 ⟨rfl,hb9⟩;have HBF:=lh (yad HBW.out hb9);clear hb9;go_wp2
 go_end0
 exact ⟨rfl,HBF.out⟩):q:=h
theorem zq231f91 {q:Prop} (h:q:= by
 obtain ⟨s,hs⟩:∃s,k+m=s:=⟨_,rfl⟩;obtain ⟨h,hh⟩:∃h,s/2=h:=⟨_,rfl⟩;obtain ⟨pc,hpc⟩:∃pc,p-h=pc:=⟨_,rfl⟩;have HH:=lh (And.intro hs (And.intro hh (And.intro hkb hpc)));have hlt:(k:Int)<(m:Int):=by omega
 have hpl:(pc:Int)<(l.length:Int):=by have:=HAB.out;have:=HK.out;have:=HP.out;omega
 have hhl:(h:Int)<(l.length:Int):=by have:=HAB.out;have:=HK.out;omega
 have hsb:s≤1000000:=by have:=HAB.out;have:=HK.out;have:=HN.out;omega
 have hhb:h≤1000000:=by omega
 have hph:h≤p:=by have:=HAB.out;have:=HK.out;have:=HP.out;omega
 have hpb:p≤1000000:=by have:=HAB.out;have:=HP.out;have:=HN.out;omega
 clear hkb;obtain ⟨bb,o,x,rfl,⟨c0,c1,c2,c3,c4⟩,HX⟩:=(HV.out.below HBW.out).get (i:=pc) (by have:=HAB.out;have:=HK.out;have:=HH.out;have:=HP.out;omega);obtain ⟨bb',o',y,e,⟨d0,d1,d2,d3,d4⟩,HY⟩:=(HV.out.below HBW.out).get (i:=h) (by have:=HAB.out;have:=HK.out;have:=HH.out;have:=HP.out;omega);cases e;obtain ⟨r,hr,hr0⟩:=yjs HA.out (i:=h) (j:=pc) (by have:=HAB.out;have:=HK.out;have:=HH.out;have:=HP.out;omega) (by have:=HAB.out;have:=HK.out;have:=HH.out;have:=HP.out;omega) HX.out HY.out;have HRR:=lh hr
 have hS:∀W',Below wr.heap.size wr W'→(W'.cell? ⟨bb,o+pc*5,none⟩=some (iV x.a)∧W'.cell? ⟨bb,o+pc*5+1,none⟩=some (iV x.b)∧W'.cell? ⟨bb,o+pc*5+2,none⟩=some (iV x.c)∧W'.cell? ⟨bb,o+pc*5+3,none⟩=some (iV x.d)∧W'.cell? ⟨bb,o+pc*5+4,none⟩=some (iV x.e)∧W'.cell? ⟨bb,o+h*5,none⟩=some (iV y.a)∧W'.cell? ⟨bb,o+h*5+1,none⟩=some (iV y.b)∧W'.cell? ⟨bb,o+h*5+2,none⟩=some (iV y.c)∧W'.cell? ⟨bb,o+h*5+3,none⟩=some (iV y.d)∧W'.cell? ⟨bb,o+h*5+4,none⟩=some (iV y.e)):=fun W' h =>
  have q:=El.below ⟨c0,c1,c2,c3,c4⟩ h;have q':=El.below ⟨d0,d1,d2,d3,d4⟩ h
  ⟨q.1,q.2.1,q.2.2.1,q.2.2.2.1,q.2.2.2.2,q'.1,q'.2.1,q'.2.2.1,q'.2.2.2.1,q'.2.2.2.2⟩
 have HS:=lh hS;clear hS hr c0 c1 c2 c3 c4 d0 d1 d2 d3 d4;obtain ⟨e1,e2,e3⟩:=ypt hs hh hsb;have e4:wrap64 ((h:Int)+1)=((h+1:Nat):Int):=yo7 hhb;have e5:IntKind.i64.wrap ((p:Int)-(h:Int))=(pc:Int):=jaq hph hpc hpb;clear hs hh hsb hhb hph hpc hpb;go_upto_region 35 with fail
 have hs0:=HS.out _ bR;have hsd:=HS.out _ (yaf bR)
 go_region_held3 (fun W'=>W'.cell? ⟨bb,o+pc*5,none⟩=some (iV x.a)∧W'.cell? ⟨bb,o+pc*5+1,none⟩=some (iV x.b)∧W'.cell? ⟨bb,o+pc*5+2,none⟩=some (iV x.c)∧W'.cell? ⟨bb,o+pc*5+3,none⟩=some (iV x.d)∧W'.cell? ⟨bb,o+pc*5+4,none⟩=some (iV x.e)∧W'.cell? ⟨bb,o+h*5,none⟩=some (iV y.a)∧W'.cell? ⟨bb,o+h*5+1,none⟩=some (iV y.b)∧W'.cell? ⟨bb,o+h*5+2,none⟩=some (iV y.c)∧W'.cell? ⟨bb,o+h*5+3,none⟩=some (iV y.d)∧W'.cell? ⟨bb,o+h*5+4,none⟩=some (iV y.e)) (first | with_reducible exact hs0 | with_reducible exact hsd | with_reducible exact hs5 | with_reducible assumption) (first | (go_at_call 134;refine (yg8 x y r HRR _).mono ?_;rintro _ w5 ⟨rfl,hb5⟩;have HB5:Hid (Below wr.heap.size wr w5):=yad (yaf bR) hb5;have hs5:=HS.out w5 HB5.out;clear hb5))
 have HB6:=lh (yad HBW.out HB5.out);clear hs0 hsd hs5;clear e1 e2 e3 e5
 go_wp2_with fail
 any_goals (exfalso;rename_i hbad;simp at hbad;omega)
 go_roundg (m-(h+1))
 case measure=>have:=HH.out;have:=HK.out;omega
 case rel=>exact ⟨h+1,by first | rfl | simp only [e4],rfl,lh ⟨by have:=HH.out;have:=HK.out;omega,by have:=HH.out;have:=HK.out;omega,rfl⟩,HB6.out⟩):q:=h
theorem ypt {i j s h:Nat} (hs:i+j=s) (hh:s/2=h) (hb:s≤1000000):wrap64 ((i:Int)+(j:Int))=(s:Int)∧IntKind.u64.wrap (s:Int)=(s:Int)∧wrap64 ((s:Int)/2)=(h:Int):= by
 subst hs hh;refine ⟨by rw [IntWalk.wrap64_in _ ⟨by omega,by omega⟩];omega,by rw [IntKind.wrap_u64];omega,by rw [IntWalk.wrap64_in _ ⟨by omega,by omega⟩];omega⟩
theorem ywu (v:Value) (l:List R5) (HA:Hid (Asc l)) (a m b:Nat) (HAB:Hid (m=a+1∧m<b∧b≤l.length)) (hn:l.length≤10000) (w:World) (hv:R5S w v l) :
 Calls Tryz.prog 209 #[v,iV (a:Int),iV (m:Int),iV (b:Int),yew] w (RetB (.tuple #[]) w):= by
 have HV:=lh hv;obtain ⟨ao,cap,rfl⟩:=hv.shape;have hlen:=(Fl.len hv).2;unfold maxLen at hlen;obtain ⟨hlc,hcm,_⟩:=hlen;have HN:=lh hn;clear hv hlc hn;unfold yew;have h1:(m:Int)-(a:Int)=1:=by have:=HAB.out;omega
 have hp:(m:Int)-1=(a:Int):=by have:=HAB.out;omega
 have ha1:wrap64 ((m:Int)-(a:Int))=1:=by rw [h1];exact IntWalk.wrap64_in _ ⟨by omega,by omega⟩
 have hm1:wrap64 ((m:Int)-1)=(a:Int):=by rw [hp];have:=HAB.out;have:=HN.out;exact IntWalk.wrap64_in _ ⟨by omega,by omega⟩
 clear h1 hp
 go_enter Tryz.func209,Tryz.ntmps209
 go_wp2_with fail
 simp only [ha1];clear ha1;go_loopg [10,11] (b-m) (fun g i j wr=>∃k:Nat,i=iV (m:Int)∧j=iV (k:Int)∧Hid (m≤k∧k≤b∧g=k-m)∧Hid (Below w.heap.size w wr))
 case atStart=>exact ⟨b,rfl,rfl,lh ⟨by have:=HAB.out;omega,Nat.le_refl _,rfl⟩,bR⟩
 case round =>
  obtain ⟨k,rfl,rfl,HK,HBW⟩:=hrel;obtain ⟨hb0,hb1⟩:(m<k∨¬m<k)∧True:=⟨by omega,trivial⟩;rcases hb0 with hkb | hkb
  ·obtain ⟨s,hs⟩:∃s,m+k=s:=⟨_,rfl⟩
   obtain ⟨h,hh⟩:∃h,s/2=h:=⟨_,rfl⟩;have HH:=lh (And.intro hs (And.intro hh hkb));have hlt:(m:Int)<(k:Int):=by omega
   have hal:(a:Int)<(l.length:Int):=by have:=HAB.out;omega
   have hhl:(h:Int)<(l.length:Int):=by have:=HAB.out;have:=HK.out;omega
   have hsb:s≤1000000:=by have:=HAB.out;have:=HK.out;have:=HN.out;omega
   clear hkb;obtain ⟨bb,o,x,rfl,⟨c0,c1,c2,c3,c4⟩,HX⟩:=(HV.out.below HBW.out).get (i:=h) (by have:=HAB.out;have:=HK.out;have:=HH.out;omega);obtain ⟨bb',o',y,e,⟨d0,d1,d2,d3,d4⟩,HY⟩:=(HV.out.below HBW.out).get (i:=a) (by have:=HAB.out;have:=HK.out;have:=HH.out;omega);cases e;obtain ⟨r,hr,hr0⟩:=yjs HA.out (i:=a) (j:=h) (by have:=HAB.out;have:=HK.out;have:=HH.out;omega) (by have:=HAB.out;have:=HK.out;have:=HH.out;omega) HX.out HY.out;have HRR:=lh hr
   have hS:∀W',Below wr.heap.size wr W'→(W'.cell? ⟨bb,o+h*5,none⟩=some (iV x.a)∧W'.cell? ⟨bb,o+h*5+1,none⟩=some (iV x.b)∧W'.cell? ⟨bb,o+h*5+2,none⟩=some (iV x.c)∧W'.cell? ⟨bb,o+h*5+3,none⟩=some (iV x.d)∧W'.cell? ⟨bb,o+h*5+4,none⟩=some (iV x.e)∧W'.cell? ⟨bb,o+a*5,none⟩=some (iV y.a)∧W'.cell? ⟨bb,o+a*5+1,none⟩=some (iV y.b)∧W'.cell? ⟨bb,o+a*5+2,none⟩=some (iV y.c)∧W'.cell? ⟨bb,o+a*5+3,none⟩=some (iV y.d)∧W'.cell? ⟨bb,o+a*5+4,none⟩=some (iV y.e)):=fun W' h =>
    have q:=El.below ⟨c0,c1,c2,c3,c4⟩ h;have q':=El.below ⟨d0,d1,d2,d3,d4⟩ h
    ⟨q.1,q.2.1,q.2.2.1,q.2.2.2.1,q.2.2.2.2,q'.1,q'.2.1,q'.2.2.1,q'.2.2.2.1,q'.2.2.2.2⟩
   have HS:=lh hS;clear hS hr c0 c1 c2 c3 c4 d0 d1 d2 d3 d4;obtain ⟨e1,e2,e3⟩:=ypt hs hh hsb;clear hs hh hsb;go_upto_region 5 with fail
   have hs0:=HS.out _ bR;have hsd:=HS.out _ (yaf bR)
   go_region_held3 (fun W'=>W'.cell? ⟨bb,o+h*5,none⟩=some (iV x.a)∧W'.cell? ⟨bb,o+h*5+1,none⟩=some (iV x.b)∧W'.cell? ⟨bb,o+h*5+2,none⟩=some (iV x.c)∧W'.cell? ⟨bb,o+h*5+3,none⟩=some (iV x.d)∧W'.cell? ⟨bb,o+h*5+4,none⟩=some (iV x.e)∧W'.cell? ⟨bb,o+a*5,none⟩=some (iV y.a)∧W'.cell? ⟨bb,o+a*5+1,none⟩=some (iV y.b)∧W'.cell? ⟨bb,o+a*5+2,none⟩=some (iV y.c)∧W'.cell? ⟨bb,o+a*5+3,none⟩=some (iV y.d)∧W'.cell? ⟨bb,o+a*5+4,none⟩=some (iV y.e)) (first | with_reducible exact hs0 | with_reducible exact hsd | with_reducible exact hs5 | with_reducible assumption) (first | (go_at_call 134;refine (yg8 x y r HRR _).mono ?_;rintro _ w5 ⟨rfl,hb5⟩;have HB5:Hid (Below wr.heap.size wr w5):=yad (yaf bR) hb5;have hs5:=HS.out w5 HB5.out;clear hb5))
   have HB6:=lh (yad HBW.out HB5.out);clear hs0 hsd hs5;clear e1 e2 e3
   go_wp2_with fail
   go_roundg (h-m)
   case measure=>have:=HH.out;have:=HK.out;omega
   case rel=>exact ⟨h,rfl,rfl,lh ⟨by have:=HH.out;omega,by have:=HH.out;have:=HK.out;omega,rfl⟩,HB6.out⟩
  ·have hlt:¬(m:Int)<(k:Int):=by omega
   have hxx:¬(a:Int)<(a:Int):=by omega
   clear hkb
   go_wp2_with fail
   go_loopg [13] 0 (fun g q ws=>g=0∧q=iV (a:Int)∧wr=ws)
   case atStart=>exact ⟨rfl,rfl,rfl⟩
   case round =>
    obtain ⟨hg0,rfl,rfl⟩:=hrel;go_wp2
    go_end0
    exact ⟨rfl,HBW.out⟩
theorem yjg {i j d:Nat} (h:j≤i) (hd:i-j=d) (hb:i≤1000000):wrap64 ((i:Int)-(j:Int))=(d:Int):= by
 subst hd;rw [IntWalk.wrap64_in _ ⟨by omega,by omega⟩];omega
theorem jaq {i j d:Nat} (h:j≤i) (hd:i-j=d) (hb:i≤1000000):IntKind.i64.wrap ((i:Int)-(j:Int))=(d:Int):= by
 subst hd;rw [IntWalk.i64_in _ ⟨by omega,by omega⟩];omega
theorem yqp {i j d:Nat} (hd:i+j=d) (hb:d≤1000000):wrap64 ((i:Int)+(j:Int))=(d:Int):= by
 subst hd;rw [IntWalk.wrap64_in _ ⟨by omega,by omega⟩];omega
theorem yww (v:Value) (l:List R5) (HA:Hid (Asc l)) (a m b:Nat) (HAB:Hid (a+2≤m∧b=m+1∧b≤l.length)) (hn:l.length≤10000) (w:World) (hv:R5S w v l) :
 Calls Tryz.prog 209 #[v,iV (a:Int),iV (m:Int),iV (b:Int),yew] w (RetB (.tuple #[]) w):= by
 have HV:=lh hv;obtain ⟨ao,cap,rfl⟩:=hv.shape;have hlen:=(Fl.len hv).2;unfold maxLen at hlen;obtain ⟨hlc,hcm,_⟩:=hlen;have HN:=lh hn;clear hv hlc hn;unfold yew;obtain ⟨d,hd⟩:∃d,m-a=d:=⟨_,rfl⟩;obtain ⟨d2,hd2⟩:∃d2,b-m=d2:=⟨_,rfl⟩;have hdf:¬((d:Int)=1):=by have:=HAB.out;omega
 have hdf2:((d:Int) == 1)=false:=by simp;have:=HAB.out;omega
 have hd21:(d2:Int)=1:=by have:=HAB.out;omega
 have hda:wrap64 ((m:Int)-(a:Int))=(d:Int):=yjg (by have:=HAB.out;omega) hd (by have:=HAB.out;have:=HN.out;omega);have hdb:wrap64 ((b:Int)-(m:Int))=1:=by rw [yjg (by have:=HAB.out;omega) hd2 (by have:=HAB.out;have:=HN.out;omega)];exact hd21
 clear hd hd2 hd21
 go_enter Tryz.func209,Tryz.ntmps209
 go_wp2_with fail
 simp only [hda,hdb];clear hda hdb;go_loopg [14,15] (m-a) (fun g i j wr=>∃k:Nat,i=iV (k:Int)∧j=iV (m:Int)∧Hid (a≤k∧k≤m∧g=m-k)∧Hid (Below w.heap.size w wr))
 case atStart=>exact ⟨a,rfl,rfl,lh ⟨Nat.le_refl _,by have:=HAB.out;omega,rfl⟩,bR⟩
 case round =>
  obtain ⟨k,rfl,rfl,HK,HBW⟩:=hrel
  by_cases hkb:k<m
  ·obtain ⟨s,hs⟩:∃s,k+m=s:=⟨_,rfl⟩
   obtain ⟨h,hh⟩:∃h,s/2=h:=⟨_,rfl⟩;have HH:=lh (And.intro hs (And.intro hh hkb));have hlt:(k:Int)<(m:Int):=by omega
   have hal:(m:Int)<(l.length:Int):=by have:=HAB.out;omega
   have hhl:(h:Int)<(l.length:Int):=by have:=HAB.out;have:=HK.out;omega
   have hsb:s≤1000000:=by have:=HAB.out;have:=HK.out;have:=HN.out;omega
   have hhb:h≤1000000:=by omega
   clear hkb;obtain ⟨bb,o,x,rfl,⟨c0,c1,c2,c3,c4⟩,HX⟩:=(HV.out.below HBW.out).get (i:=m) (by have:=HAB.out;have:=HK.out;have:=HH.out;omega);obtain ⟨bb',o',y,e,⟨d0,d1,d2,d3,d4⟩,HY⟩:=(HV.out.below HBW.out).get (i:=h) (by have:=HAB.out;have:=HK.out;have:=HH.out;omega);cases e;obtain ⟨r,hr,hr0⟩:=yjs HA.out (i:=h) (j:=m) (by have:=HAB.out;have:=HK.out;have:=HH.out;omega) (by have:=HAB.out;have:=HK.out;have:=HH.out;omega) HX.out HY.out;have HRR:=lh hr
   have hS:∀W',Below wr.heap.size wr W'→(W'.cell? ⟨bb,o+m*5,none⟩=some (iV x.a)∧W'.cell? ⟨bb,o+m*5+1,none⟩=some (iV x.b)∧W'.cell? ⟨bb,o+m*5+2,none⟩=some (iV x.c)∧W'.cell? ⟨bb,o+m*5+3,none⟩=some (iV x.d)∧W'.cell? ⟨bb,o+m*5+4,none⟩=some (iV x.e)∧W'.cell? ⟨bb,o+h*5,none⟩=some (iV y.a)∧W'.cell? ⟨bb,o+h*5+1,none⟩=some (iV y.b)∧W'.cell? ⟨bb,o+h*5+2,none⟩=some (iV y.c)∧W'.cell? ⟨bb,o+h*5+3,none⟩=some (iV y.d)∧W'.cell? ⟨bb,o+h*5+4,none⟩=some (iV y.e)):=fun W' h =>
    have q:=El.below ⟨c0,c1,c2,c3,c4⟩ h;have q':=El.below ⟨d0,d1,d2,d3,d4⟩ h
    ⟨q.1,q.2.1,q.2.2.1,q.2.2.2.1,q.2.2.2.2,q'.1,q'.2.1,q'.2.2.1,q'.2.2.2.1,q'.2.2.2.2⟩
   have HS:=lh hS;clear hS hr c0 c1 c2 c3 c4 d0 d1 d2 d3 d4;obtain ⟨e1,e2,e3⟩:=ypt hs hh hsb;have e4:wrap64 ((h:Int)+1)=((h+1:Nat):Int):=yo7 hhb;clear hs hh hsb hhb;go_upto_region 17 with fail
   have hs0:=HS.out _ bR;have hsd:=HS.out _ (yaf bR)
   go_region_held3 (fun W'=>W'.cell? ⟨bb,o+m*5,none⟩=some (iV x.a)∧W'.cell? ⟨bb,o+m*5+1,none⟩=some (iV x.b)∧W'.cell? ⟨bb,o+m*5+2,none⟩=some (iV x.c)∧W'.cell? ⟨bb,o+m*5+3,none⟩=some (iV x.d)∧W'.cell? ⟨bb,o+m*5+4,none⟩=some (iV x.e)∧W'.cell? ⟨bb,o+h*5,none⟩=some (iV y.a)∧W'.cell? ⟨bb,o+h*5+1,none⟩=some (iV y.b)∧W'.cell? ⟨bb,o+h*5+2,none⟩=some (iV y.c)∧W'.cell? ⟨bb,o+h*5+3,none⟩=some (iV y.d)∧W'.cell? ⟨bb,o+h*5+4,none⟩=some (iV y.e)) (first | with_reducible exact hs0 | with_reducible exact hsd | with_reducible exact hs5 | with_reducible assumption) (first | (go_at_call 134;refine (yg8 x y r HRR _).mono ?_;rintro _ w5 ⟨rfl,hb5⟩;have HB5:Hid (Below wr.heap.size wr w5):=yad (yaf bR) hb5;have hs5:=HS.out w5 HB5.out;clear hb5))
   have HB6:=lh (yad HBW.out HB5.out);clear hs0 hsd hs5;clear e1 e2 e3
   go_wp2_with fail
   any_goals (exfalso;rename_i hbad;simp at hbad;omega)
   go_roundg (m-(h+1))
   case measure=>have:=HH.out;have:=HK.out;omega
   case rel=>exact ⟨h+1,by first | rfl | simp only [e4],rfl,lh ⟨by have:=HH.out;have:=HK.out;omega,by have:=HH.out;have:=HK.out;omega,rfl⟩,HB6.out⟩
  ·have hkm:k=m:=by have:=HK.out;omega
   subst hkm;have hlt:¬(k:Int)<(k:Int):=by omega
   clear hkb
   go_wp2_with fail
   go_loopg [17] 0 (fun g q ws=>g=0∧q=iV (k:Int)∧wr=ws)
   case atStart=>exact ⟨rfl,rfl,rfl⟩
   case round =>
    obtain ⟨hg0,rfl,rfl⟩:=hrel;go_wp2
    go_end0
    exact ⟨rfl,HBW.out⟩
theorem ys1 (v:Value) (l:List R5) (HA:Hid (Asc l)) (a m b mid:Nat) (HAB:Hid (mid<m∧a+2≤m∧m+2≤b∧b≤l.length∧(a+b)/2=mid)) (hn:l.length≤10000) (IH:Hid (∀w',R5S w' v l→Calls Tryz.prog 209 #[v,iV (mid:Int),iV (m:Int),iV (b:Int),yew] w' (RetB (.tuple #[]) w'))) (w:World) (hv:R5S w v l) :
 Calls Tryz.prog 209 #[v,iV (a:Int),iV (m:Int),iV (b:Int),yew] w (RetB (.tuple #[]) w):= by
 have HV:=lh hv;obtain ⟨ao,cap,rfl⟩:=hv.shape;have hlen:=(Fl.len hv).2;unfold maxLen at hlen;obtain ⟨hlc,hcm,_⟩:=hlen;have HN:=lh hn;clear hv hlc hn;unfold yew at IH ⊢;obtain ⟨d,hd⟩:∃d,m-a=d:=⟨_,rfl⟩;obtain ⟨d2,hd2⟩:∃d2,b-m=d2:=⟨_,rfl⟩;have hdf:¬((d:Int)=1):=by have:=HAB.out;omega
 have hdf2:((d:Int) == 1)=false:=by simp;have:=HAB.out;omega
 have hdg:¬((d2:Int)=1):=by have:=HAB.out;omega
 have hdg2:((d2:Int) == 1)=false:=by simp;have:=HAB.out;omega
 obtain ⟨s0,hs0⟩:∃s0,a+b=s0:=⟨_,rfl⟩;obtain ⟨nn,hnn⟩:∃nn,mid+m=nn:=⟨_,rfl⟩;obtain ⟨p,hp⟩:∃p,nn-1=p:=⟨_,rfl⟩;have hp1:(nn:Int)-1=(p:Int):=by have:=HAB.out;omega
 obtain ⟨st,hst⟩:∃st,nn-b=st:=⟨_,rfl⟩;have hmt:(mid:Int)<(m:Int):=by have:=HAB.out;omega
 have ham:(a:Int)<(mid:Int):=by have:=HAB.out;omega
 have hmb:(m:Int)<(b:Int):=by have:=HAB.out;omega
 have g1:b≤nn:=by have:=HAB.out;omega
 have g2:mid≤nn:=by have:=HAB.out;omega
 have g3:nn-mid=m:=by have:=HAB.out;omega
 have HST:=lh hst;have hs0b:s0≤1000000:=by have:=HAB.out;have:=HN.out;omega
 have hnnb:nn≤1000000:=by have:=HAB.out;have:=HN.out;omega
 have hs0h:s0/2=mid:=by rw [←hs0];exact HAB.out.2.2.2.2
 have hma:a≤m:=by have:=HAB.out;omega
 have hbm:m≤b:=by have:=HAB.out;omega
 have hmM:m≤1000000:=by have:=HAB.out;have:=HN.out;omega
 have hbM:b≤1000000:=by have:=HAB.out;have:=HN.out;omega
 have hpM:-9223372036854775808≤(p:Int)∧(p:Int)≤9223372036854775807:=by omega
 have HP:=lh (And.intro hs0 (And.intro hnn hp));obtain ⟨f1,f2,f3⟩:=ypt hs0 hs0h hs0b;have f4:wrap64 ((mid:Int)+(m:Int))=(nn:Int):=yqp hnn hnnb;have f5:wrap64 ((nn:Int)-1)=(p:Int):=by rw [hp1];exact IntWalk.wrap64_in _ hpM
 have hda:wrap64 ((m:Int)-(a:Int))=(d:Int):=yjg hma hd hmM;have hdb:wrap64 ((b:Int)-(m:Int))=(d2:Int):=yjg hbm hd2 hbM;have f6:wrap64 ((nn:Int)-(b:Int))=(st:Int):=yjg g1 hst hnnb;have F7:Hid (wrap64 ((nn:Int)-(mid:Int))=(m:Int)):=yjg g2 g3 hnnb;clear g1 g2 g3 hst;clear hd hd2 hs0 hnn hp hp1 hs0b hnnb hs0h hma hbm hmM hbM hpM
 go_enter Tryz.func209,Tryz.ntmps209
 go_wp2_with fail
 try simp only [hda,hdb,f1,f2,f3,f4,f5,f6]
 clear hda hdb f1 f2 f3 f4 f5  f6;go_loopg [20,21] (mid-st) (fun g i j wr=>∃k:Nat,i=iV (k:Int)∧j=iV (mid:Int)∧Hid (st≤k∧k≤mid∧g=mid-k)∧Hid (Below w.heap.size w wr))
 case atStart=>exact ⟨st,rfl,rfl,lh ⟨Nat.le_refl _,by have:=HAB.out;have:=HP.out;have:=HST.out;omega,rfl⟩,bR⟩
 case round =>
  obtain ⟨k,rfl,rfl,HK,HBW⟩:=hrel
  by_cases hkb:k<mid
  ·obtain ⟨s,hs⟩:∃s,k+mid=s:=⟨_,rfl⟩
   obtain ⟨h,hh⟩:∃h,s/2=h:=⟨_,rfl⟩;obtain ⟨pc,hpc⟩:∃pc,p-h=pc:=⟨_,rfl⟩;have HH:=lh (And.intro hs (And.intro hh (And.intro hkb hpc)));have hlt:(k:Int)<(mid:Int):=by omega
   have hpl:(pc:Int)<(l.length:Int):=by have:=HAB.out;have:=HK.out;have:=HP.out;have:=HST.out;omega
   have hhl:(h:Int)<(l.length:Int):=by have:=HAB.out;have:=HK.out;omega
   have hsb:s≤1000000:=by have:=HAB.out;have:=HK.out;have:=HN.out;omega
   have hhb:h≤1000000:=by omega
   have hph:h≤p:=by have:=HAB.out;have:=HK.out;have:=HP.out;have:=HST.out;omega
   have hpb:p≤1000000:=by have:=HAB.out;have:=HP.out;have:=HN.out;omega
   clear hkb;obtain ⟨bb,o,x,rfl,⟨c0,c1,c2,c3,c4⟩,HX⟩:=(HV.out.below HBW.out).get (i:=pc) (by have:=HAB.out;have:=HK.out;have:=HH.out;have:=HP.out;have:=HST.out;omega);obtain ⟨bb',o',y,e,⟨d0,d1,d2,d3,d4⟩,HY⟩:=(HV.out.below HBW.out).get (i:=h) (by have:=HAB.out;have:=HK.out;have:=HH.out;have:=HP.out;have:=HST.out;omega);cases e;obtain ⟨r,hr,hr0⟩:=yjs HA.out (i:=h) (j:=pc) (by have:=HAB.out;have:=HK.out;have:=HH.out;have:=HP.out;have:=HST.out;omega) (by have:=HAB.out;have:=HK.out;have:=HH.out;have:=HP.out;have:=HST.out;omega) HX.out HY.out;have HRR:=lh hr
   have hS:∀W',Below wr.heap.size wr W'→(W'.cell? ⟨bb,o+pc*5,none⟩=some (iV x.a)∧W'.cell? ⟨bb,o+pc*5+1,none⟩=some (iV x.b)∧W'.cell? ⟨bb,o+pc*5+2,none⟩=some (iV x.c)∧W'.cell? ⟨bb,o+pc*5+3,none⟩=some (iV x.d)∧W'.cell? ⟨bb,o+pc*5+4,none⟩=some (iV x.e)∧W'.cell? ⟨bb,o+h*5,none⟩=some (iV y.a)∧W'.cell? ⟨bb,o+h*5+1,none⟩=some (iV y.b)∧W'.cell? ⟨bb,o+h*5+2,none⟩=some (iV y.c)∧W'.cell? ⟨bb,o+h*5+3,none⟩=some (iV y.d)∧W'.cell? ⟨bb,o+h*5+4,none⟩=some (iV y.e)):=fun W' h =>
    have q:=El.below ⟨c0,c1,c2,c3,c4⟩ h;have q':=El.below ⟨d0,d1,d2,d3,d4⟩ h
    ⟨q.1,q.2.1,q.2.2.1,q.2.2.2.1,q.2.2.2.2,q'.1,q'.2.1,q'.2.2.1,q'.2.2.2.1,q'.2.2.2.2⟩
   have HS:=lh hS;clear hS hr c0 c1 c2 c3 c4 d0 d1 d2 d3 d4;obtain ⟨e1,e2,e3⟩:=ypt hs hh hsb;have e4:wrap64 ((h:Int)+1)=((h+1:Nat):Int):=yo7 hhb;have e5:IntKind.i64.wrap ((p:Int)-(h:Int))=(pc:Int):=jaq hph hpc hpb;clear hs hh hsb hhb hph hpc hpb;go_upto_region 35 with fail
   have hs0:=HS.out _ bR;have hsd:=HS.out _ (yaf bR)
   go_region_held3 (fun W'=>W'.cell? ⟨bb,o+pc*5,none⟩=some (iV x.a)∧W'.cell? ⟨bb,o+pc*5+1,none⟩=some (iV x.b)∧W'.cell? ⟨bb,o+pc*5+2,none⟩=some (iV x.c)∧W'.cell? ⟨bb,o+pc*5+3,none⟩=some (iV x.d)∧W'.cell? ⟨bb,o+pc*5+4,none⟩=some (iV x.e)∧W'.cell? ⟨bb,o+h*5,none⟩=some (iV y.a)∧W'.cell? ⟨bb,o+h*5+1,none⟩=some (iV y.b)∧W'.cell? ⟨bb,o+h*5+2,none⟩=some (iV y.c)∧W'.cell? ⟨bb,o+h*5+3,none⟩=some (iV y.d)∧W'.cell? ⟨bb,o+h*5+4,none⟩=some (iV y.e)) (first | with_reducible exact hs0 | with_reducible exact hsd | with_reducible exact hs5 | with_reducible assumption) (first | (go_at_call 134;refine (yg8 x y r HRR _).mono ?_;rintro _ w5 ⟨rfl,hb5⟩;have HB5:Hid (Below wr.heap.size wr w5):=yad (yaf bR) hb5;have hs5:=HS.out w5 HB5.out;clear hb5))
   have HB6:=lh (yad HBW.out HB5.out);clear hs0 hsd hs5;clear e1 e2 e3 e5
   go_wp2_with fail
   any_goals (exfalso;rename_i hbad;simp at hbad;omega)
   go_roundg (mid-(h+1))
   case measure=>have:=HH.out;have:=HK.out;omega
   case rel=>exact ⟨h+1,by first | rfl | simp only [e4],rfl,lh ⟨by have:=HH.out;have:=HK.out;omega,by have:=HH.out;have:=HK.out;omega,rfl⟩,HB6.out⟩
  ·have hkm:k=mid:=by have:=HK.out;omega
   exact zq2375a5
theorem yt5 (v:Value) (l:List R5) (HA:Hid (Asc l)) (a m b mid:Nat) (HAB:Hid (m<mid∧a+2≤m∧m+2≤b∧b≤l.length∧(a+b)/2=mid)) (hn:l.length≤10000) (IH:Hid (∀w',R5S w' v l→Calls Tryz.prog 209 #[v,iV (a:Int),iV (m:Int),iV (mid:Int),yew] w' (RetB (.tuple #[]) w'))) (w:World) (hv:R5S w v l) :
 Calls Tryz.prog 209 #[v,iV (a:Int),iV (m:Int),iV (b:Int),yew] w (RetB (.tuple #[]) w):= by
 have HV:=lh hv;obtain ⟨ao,cap,rfl⟩:=hv.shape;have hlen:=(Fl.len hv).2;unfold maxLen at hlen;obtain ⟨hlc,hcm,_⟩:=hlen;have HN:=lh hn;clear hv hlc hn;unfold yew at IH ⊢;obtain ⟨d,hd⟩:∃d,m-a=d:=⟨_,rfl⟩;obtain ⟨d2,hd2⟩:∃d2,b-m=d2:=⟨_,rfl⟩;have hdf:¬((d:Int)=1):=by have:=HAB.out;omega
 have hdf2:((d:Int) == 1)=false:=by simp;have:=HAB.out;omega
 have hdg:¬((d2:Int)=1):=by have:=HAB.out;omega
 have hdg2:((d2:Int) == 1)=false:=by simp;have:=HAB.out;omega
 obtain ⟨s0,hs0⟩:∃s0,a+b=s0:=⟨_,rfl⟩;obtain ⟨nn,hnn⟩:∃nn,mid+m=nn:=⟨_,rfl⟩;obtain ⟨p,hp⟩:∃p,nn-1=p:=⟨_,rfl⟩;have hp1:(nn:Int)-1=(p:Int):=by have:=HAB.out;omega
 have hmt:¬(mid:Int)<(m:Int):=by have:=HAB.out;omega
 have ham:(a:Int)<(m:Int):=by have:=HAB.out;omega
 have hmm:(m:Int)<(mid:Int):=by have:=HAB.out;omega
 have g2:m≤nn:=by have:=HAB.out;omega
 have g3:nn-m=mid:=by have:=HAB.out;omega
 have hs0b:s0≤1000000:=by have:=HAB.out;have:=HN.out;omega
 have hnnb:nn≤1000000:=by have:=HAB.out;have:=HN.out;omega
 have hs0h:s0/2=mid:=by rw [←hs0];exact HAB.out.2.2.2.2
 have hma:a≤m:=by have:=HAB.out;omega
 have hbm:m≤b:=by have:=HAB.out;omega
 have hmM:m≤1000000:=by have:=HAB.out;have:=HN.out;omega
 have hbM:b≤1000000:=by have:=HAB.out;have:=HN.out;omega
 have hpM:-9223372036854775808≤(p:Int)∧(p:Int)≤9223372036854775807:=by omega
 have HP:=lh (And.intro hs0 (And.intro hnn hp));obtain ⟨f1,f2,f3⟩:=ypt hs0 hs0h hs0b;have f4:wrap64 ((mid:Int)+(m:Int))=(nn:Int):=yqp hnn hnnb;have f5:wrap64 ((nn:Int)-1)=(p:Int):=by rw [hp1];exact IntWalk.wrap64_in _ hpM
 have hda:wrap64 ((m:Int)-(a:Int))=(d:Int):=yjg hma hd hmM;have hdb:wrap64 ((b:Int)-(m:Int))=(d2:Int):=yjg hbm hd2 hbM;have F7:Hid (wrap64 ((nn:Int)-(m:Int))=(mid:Int)):=yjg g2 g3 hnnb;clear g2 g3;clear hd hd2 hs0 hnn hp hp1 hs0b hnnb hs0h hma hbm hmM hbM hpM
 go_enter Tryz.func209,Tryz.ntmps209
 go_wp2_with fail
 try simp only [hda,hdb,f1,f2,f3,f4,f5]
 clear hda hdb f1 f2 f3 f4 f5;go_loopg [20,21] (m-a) (fun g i j wr=>∃k:Nat,i=iV (k:Int)∧j=iV (m:Int)∧Hid (a≤k∧k≤m∧g=m-k)∧Hid (Below w.heap.size w wr))
 case atStart=>exact ⟨a,rfl,rfl,lh ⟨Nat.le_refl _,by have:=HAB.out;have:=HP.out;omega,rfl⟩,bR⟩
 case round =>
  obtain ⟨k,rfl,rfl,HK,HBW⟩:=hrel
  by_cases hkb:k<m
  ·exact zq231f91
  ·have hkm:k=m:=by have:=HK.out;omega
   exact zq2375a5
theorem ywr (v:Value) (l:List R5) (HA:Hid (Asc l)) (a m b mid:Nat) (HAB:Hid (m=mid∧a+2≤m∧m+2≤b∧b≤l.length∧(a+b)/2=mid)) (hn:l.length≤10000) (w:World) (hv:R5S w v l) :
 Calls Tryz.prog 209 #[v,iV (a:Int),iV (m:Int),iV (b:Int),yew] w (RetB (.tuple #[]) w):= by
 have HV:=lh hv;obtain ⟨ao,cap,rfl⟩:=hv.shape;have hlen:=(Fl.len hv).2;unfold maxLen at hlen;obtain ⟨hlc,hcm,_⟩:=hlen;have HN:=lh hn;clear hv hlc hn;unfold yew;obtain ⟨d,hd⟩:∃d,m-a=d:=⟨_,rfl⟩;obtain ⟨d2,hd2⟩:∃d2,b-m=d2:=⟨_,rfl⟩;have hdf:¬((d:Int)=1):=by have:=HAB.out;omega
 have hdf2:((d:Int) == 1)=false:=by simp;have:=HAB.out;omega
 have hdg:¬((d2:Int)=1):=by have:=HAB.out;omega
 have hdg2:((d2:Int) == 1)=false:=by simp;have:=HAB.out;omega
 obtain ⟨s0,hs0⟩:∃s0,a+b=s0:=⟨_,rfl⟩;obtain ⟨nn,hnn⟩:∃nn,mid+m=nn:=⟨_,rfl⟩;obtain ⟨p,hp⟩:∃p,nn-1=p:=⟨_,rfl⟩;have hp1:(nn:Int)-1=(p:Int):=by have:=HAB.out;omega
 have hmt:¬(mid:Int)<(m:Int):=by have:=HAB.out;omega
 have ham:(a:Int)<(m:Int):=by have:=HAB.out;omega
 have hmm:¬(m:Int)<(mid:Int):=by have:=HAB.out;omega
 have g2:m≤nn:=by have:=HAB.out;omega
 have g3:nn-m=mid:=by have:=HAB.out;omega
 have hs0b:s0≤1000000:=by have:=HAB.out;have:=HN.out;omega
 have hnnb:nn≤1000000:=by have:=HAB.out;have:=HN.out;omega
 have hs0h:s0/2=mid:=by rw [←hs0];exact HAB.out.2.2.2.2
 have hma:a≤m:=by have:=HAB.out;omega
 have hbm:m≤b:=by have:=HAB.out;omega
 have hmM:m≤1000000:=by have:=HAB.out;have:=HN.out;omega
 have hbM:b≤1000000:=by have:=HAB.out;have:=HN.out;omega
 have hpM:-9223372036854775808≤(p:Int)∧(p:Int)≤9223372036854775807:=by omega
 have HP:=lh (And.intro hs0 (And.intro hnn hp));obtain ⟨f1,f2,f3⟩:=ypt hs0 hs0h hs0b;have f4:wrap64 ((mid:Int)+(m:Int))=(nn:Int):=yqp hnn hnnb;have f5:wrap64 ((nn:Int)-1)=(p:Int):=by rw [hp1];exact IntWalk.wrap64_in _ hpM
 have hda:wrap64 ((m:Int)-(a:Int))=(d:Int):=yjg hma hd hmM;have hdb:wrap64 ((b:Int)-(m:Int))=(d2:Int):=yjg hbm hd2 hbM;have F7:Hid (wrap64 ((nn:Int)-(m:Int))=(mid:Int)):=yjg g2 g3 hnnb;clear g2 g3;clear hd hd2 hs0 hnn hp hp1 hs0b hnnb hs0h hma hbm hmM hbM hpM
 go_enter Tryz.func209,Tryz.ntmps209
 go_wp2_with fail
 try simp only [hda,hdb,f1,f2,f3,f4,f5]
 clear hda hdb f1 f2 f3 f4 f5;go_loopg [20,21] (m-a) (fun g i j wr=>∃k:Nat,i=iV (k:Int)∧j=iV (m:Int)∧Hid (a≤k∧k≤m∧g=m-k)∧Hid (Below w.heap.size w wr))
 case atStart=>exact ⟨a,rfl,rfl,lh ⟨Nat.le_refl _,by have:=HAB.out;have:=HP.out;omega,rfl⟩,bR⟩
 case round =>
  obtain ⟨k,rfl,rfl,HK,HBW⟩:=hrel
  by_cases hkb:k<m
  ·exact zq231f91
  ·have hkm:k=m:=by have:=HK.out;omega
   subst hkm;have hlt:¬(k:Int)<(k:Int):=by omega
   clear hkb;have f7:=F7.out;go_wp2
   go_end0
   exact ⟨rfl,HBW.out⟩
theorem yw8 (v:Value) (l:List R5) (HA:Hid (Asc l)) (hn:l.length≤10000):∀(n a m b:Nat),b-a≤n→a<m→m<b→b≤l.length→∀(w:World),R5S w v l →
 Calls Tryz.prog 209 #[v,iV (a:Int),iV (m:Int),iV (b:Int),yew] w (RetB (.tuple #[]) w):= by
 intro n
 induction n with
 | zero=>intro a m b h h1 h2;omega
 | succ n ih =>
  intro a m b h h1 h2 h3 w hv
  by_cases c1:m=a+1
  ·exact ywu v l HA a m b ⟨c1,h2,h3⟩ hn w hv
  ·by_cases c2:b=m+1
   ·exact yww v l HA a m b ⟨by omega,c2,h3⟩ hn w hv
   ·obtain ⟨mid,hmid⟩:∃mid,(a+b)/2=mid:=⟨_,rfl⟩
    by_cases c3:mid<m
    ·exact ys1 v l HA a m b mid ⟨c3,by omega,by omega,h3,hmid⟩ hn (fun w' hv'=>ih mid m b om c3 h2 h3 w' hv') w hv
    ·by_cases c4:m<mid
     ·exact yt5 v l HA a m b mid ⟨c4,by omega,by omega,h3,hmid⟩ hn (fun w' hv'=>ih a m mid om h1 c4 om w' hv') w hv
     ·exact ywr v l HA a m b mid ⟨by omega,by omega,by omega,h3,hmid⟩ hn w hv
theorem yxm (v:Value) (l:List R5) (HA:Hid (Asc l)) (hn:l.length≤10000) (a m b:Nat) (h1:a<m) (h2:m<b) (h3:b≤l.length) (w:World) (hv:R5S w v l) :
 Calls Tryz.prog 209 #[v,iV (a:Int),iV (m:Int),iV (b:Int),yew] w (RetB (.tuple #[]) w):=yw8 v l HA hn _ a m b (Nat.le_refl _) h1 h2 h3 w hv
end Go.Proofs.YtkongpjpkpfniaaGreat

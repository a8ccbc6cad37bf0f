/- TopTicks: parts of the proof, made small by a program (mini.py). -/
import Derived.Test.YtkongpjpkpfniaaGreatT01
import Derived.Test.YtkongpjpkpfniaaGreatT10
import Derived.Test.YtkongpjpkpfniaaGreatT20
set_option linter.unusedVariables false
set_option linter.unusedSimpArgs false
set_option maxRecDepth 100000
set_option maxHeartbeats 6400000
namespace Go.Proofs.YtkongpjpkpfniaaGreat
open Go.RowKit
theorem zq2105e2 {q:Prop} (h:q:= by
 have e2:w1.cell? (Ad g 9)=some (iV day):=HX.out.blk.cell 9;rw [e1,e2];show (today-(day+1)).toNat<(today-day).toNat;have:=HDL.out.1;omega):q:=h
theorem zq21155d {q:Prop} (h:q:= by
 have h1:=HD.out;rw [HN0.out.1,yyg (by rw [HDE.out]) (by rw [HDE.out];simp only;rw [HDS.out]),HDE.out] at h1;simp only at h1;rw [HDS.out] at h1;exact h1):q:=h
theorem zq21e8b6 {q:Prop} (h:q:= by
 have h4:=HSZ.out;have h5:=HB5.out.size;refine ⟨_,rfl,yae w5 _ _ _ rfl,(HB4.out.below HB5.out).below (yaa bR _),(HB8.out.below HB5.out).below (yaa bR _),(HB13.out.below HB5.out).below (yaa bR _),?_,yaa (yad HBW1.out HB5.out) _,by show _<=_;omega,by show _=_;simp⟩;exact yah (ygc HOU.out (by first | (rw [World.size_drew];omega) | omega)) (yaa bR _)):q:=h
theorem zq21ea70 {q:Prop} (h:q:= by
 obtain ⟨rfl,HE,HB,HBW⟩:=hJ;have hE:=HE.out;subst hE;obtain ⟨c0,c1,c2,-⟩:=HB.out.cs [0,1,2];simp only [gz,gs] at c0 c1 c2;obtain ⟨cf0,cf1,cf2,-⟩:=HB.out.fs [0,1,2];have kb:=HB.out.lt
 go_wp2_with fail
 refine bodyPost_ret (v:=.tuple #[.agg #[sZ,iZ,iZ],sZ,sZ,iV e]) (by simp [results,Tryz.results54,go_sem,c0,c1,c2]) rfl ⟨_,_,_,[],rfl,Sl.nil,Sl.nil,⟨trivial,Fl.nil⟩,⟨ycz,ycz,ycz,by simp⟩,yao (yao (yao HBW.out om) om) om⟩):q:=h
theorem yxp (t:Tm) (tv lv:Value) (l:List R5) (today:Int) (HG:Hid (yha t l today)) (HA:Hid (Asc l)) (ps:List (Int×Int)) (hps:Hid ((ybd t.cyc today 300 t.start).1=ps)) (GR:RS×Int) (HGR0:Hid (goS t l today=GR)) (R:Rn) (hR:Hid (runS t l today=R)) (w:World) (ht:TrS w tv t.ts) (hl:R5S w lv l) :
 Calls Tryz.prog 54 #[.agg (t.cells tv).toArray,lv,iV today,.agg #[.nilFunc,.nilFunc,.nilFunc]] w (yz7 R w):= by
 have HT:=lh ht;have HL:=lh hl;obtain ⟨tao,tc,rfl⟩:=ht.shape;obtain ⟨lo',lc,rfl⟩:=hl.shape;clear ht hl
 have HTS:Hid (1<=t.ts.length/\t.ts.length<=1000):= by
  have h1:=yci HG.out.terms;show _/\_;omega
 unfold Tm.cells
 go_enter Tryz.func54,Tryz.ntmps54
 go_wp2_with fail
 by_cases hr:ye2 t today=0
 ·have HCH:Hid (yg9 t.start today ps):= by
   unfold ye2 at hr
   split at hr
   ·cases hr
   ·split at hr
    ·cases hr
    ·rename_i h1 h2
     have h3:(ofS t.start t.cyc today).2=0:=by simpa using h2
     unfold ofS at h3
     split at h3
     ·rename_i h4;exact absurd h3 h4
     ·split at h3
      ·rename_i h5
       refine yik 300 (f:=t.start) (cyc:=t.cyc) ?_;rw [<-hps.out];exact Prod.ext rfl h5
      ·cases h3
  have HPL:Hid (ps.length<=300):= by
   rw [<-hps.out];exact yib _ _ _ _
  have HR:Hid (rnOf GR=R):= by
   rw [<-hR.out];unfold runS rnOf;rw [ygz HG.out,hr,HGR0.out]
   rfl
  refine yiq 0 1 (by decide) (fun a' w'=>∃(e:Int) (u0 u1 u2 u3 u4 u5 u6 u7 u9 u10 u11 u12 u13 u14 u16 u17 u18 u19 u20 u21 u22 u23 u24 u25 u26 u27 u28 u29 u30 u31 u32 u33 u34 u35 u36 u37 u38 u39 u40 u41 u42 u43 u44 u45 u46 u47 u48 u49 u50 u51 u52 u53 u54 u55 u56 u57 u58 u59 u60 u61 u62 u63 u64 u65 u66 u67 u68 u69 u70 u71 u72 u73 u74 u75 u76 u77 u78 u79 u80 u81 u82 u83 u84 u85 u86 u87 u88 u89 u90 u91 u92 u93 u94 u95 u96 u97 u98 u99 u100 u101 u102 u103 u104 u105 u106 u107 u108 u109 u110 u111 u112 u113 u114 u115 u116 u117 u118 u119:Value),a'={ tmps:=#[u0,u1,u2,u3,u4,u5,u6,u7,pV (w.heap.size+1+1),u9,u10,u11,u12,u13,u14,iV e,u16,u17,u18,u19,u20,u21,u22,u23,u24,u25,u26,u27,u28,u29,u30,u31,u32,u33,u34,u35,u36,u37,u38,u39,u40,u41,u42,u43,u44,u45,u46,u47,u48,u49,u50,u51,u52,u53,u54,u55,u56,u57,u58,u59,u60,u61,u62,u63,u64,u65,u66,u67,u68,u69,u70,u71,u72,u73,u74,u75,u76,u77,u78,u79,u80,u81,u82,u83,u84,u85,u86,u87,u88,u89,u90,u91,u92,u93,u94,u95,u96,u97,u98,u99,u100,u101,u102,u103,u104,u105,u106,u107,u108,u109,u110,u111,u112,u113,u114,u115,u116,u117,u118,u119],defers:=[] }/\Hid (R=rn0 e)/\Hid (Blk w' (w.heap.size+1+1) 35 [sZ,iZ,iZ])/\Hid (BW w w')) (fun a' w'=>∃(lo g:Nat) (day:Int) (s:RS) (Fw:List Nat) (V:RV) (spv:Value) (b13:Nat) (u0 u1 u3 u4 u5 u6 u7 u9 u10 u11 u15 u16 u17 u18 u19 u20 u21 u22 u23 u24 u25 u26 u27 u28 u29 u30 u31 u32 u33 u34 u35 u36 u37 u38 u39 u40 u41 u42 u43 u44 u45 u46 u47 u48 u49 u50 u51 u52 u53 u54 u55 u56 u57 u58 u59 u60 u61 u62 u63 u64 u65 u66 u67 u68 u69 u70 u71 u72 u73 u74 u75 u76 u77 u78 u79 u80 u81 u82 u83 u84 u85 u86 u87 u88 u89 u90 u91 u92 u93 u94 u95 u96 u97 u98 u99 u100 u101 u102 u103 u104 u105 u106 u107 u108 u109 u110 u111 u112 u113 u114 u115 u116 u117 u118 u119:Value),a'={ tmps:=#[u0,u1,iV today,u3,u4,u5,u6,u7,pV (w.heap.size+1+1),u9,u10,u11,spv,pV b13,pV g,u15,u16,u17,u18,u19,u20,u21,u22,u23,u24,u25,u26,u27,u28,u29,u30,u31,u32,u33,u34,u35,u36,u37,u38,u39,u40,u41,u42,u43,u44,u45,u46,u47,u48,u49,u50,u51,u52,u53,u54,u55,u56,u57,u58,u59,u60,u61,u62,u63,u64,u65,u66,u67,u68,u69,u70,u71,u72,u73,u74,u75,u76,u77,u78,u79,u80,u81,u82,u83,u84,u85,u86,u87,u88,u89,u90,u91,u92,u93,u94,u95,u96,u97,u98,u99,u100,u101,u102,u103,u104,u105,u106,u107,u108,u109,u110,u111,u112,u113,u114,u115,u116,u117,u118,u119],defers:=[] }/\Hid (yb2 lo g t l day s Fw w' V)/\Hid (WInv t l ps day s)/\(t.start<=day/\day<=today)/\Hid (ycm t l ps (today-day).toNat day s=GR)/\Hid (Rd Fw w' (fun W=>Fl 2 ps.length W spv (yby ps)))/\Hid (Blk w' (w.heap.size+1+1) 35 [sZ,iZ,iZ]/\(w.heap.size+1+1)∉Fw)/\Hid (∃x y,Blk w' b13 40 [iV x,iV y])/\Hid (b13∉Fw/\w.heap.size<=b13/\w.heap.size+1+1<lo/\b13+1=lo/\OffF [b13] spv)/\Hid (BW w w')) (fun a' w'=>yul today (jau a' w')) rfl rfl ?pass0 ?pass1 ?first
  case pass0 =>
   intro a1 w1 hJ J';obtain ⟨e,hJ⟩:=hJ;obtain ⟨u0,hJ⟩:=hJ;obtain ⟨u1,hJ⟩:=hJ;obtain ⟨u2,hJ⟩:=hJ;obtain ⟨u3,hJ⟩:=hJ;obtain ⟨u4,hJ⟩:=hJ;obtain ⟨u5,hJ⟩:=hJ;obtain ⟨u6,hJ⟩:=hJ;obtain ⟨u7,hJ⟩:=hJ;obtain ⟨u9,hJ⟩:=hJ;obtain ⟨u10,hJ⟩:=hJ;obtain ⟨u11,hJ⟩:=hJ;obtain ⟨u12,hJ⟩:=hJ;obtain ⟨u13,hJ⟩:=hJ;obtain ⟨u14,hJ⟩:=hJ;obtain ⟨u16,hJ⟩:=hJ;obtain ⟨u17,hJ⟩:=hJ;obtain ⟨u18,hJ⟩:=hJ;obtain ⟨u19,hJ⟩:=hJ;obtain ⟨u20,hJ⟩:=hJ;obtain ⟨u21,hJ⟩:=hJ;obtain ⟨u22,hJ⟩:=hJ;obtain ⟨u23,hJ⟩:=hJ;obtain ⟨u24,hJ⟩:=hJ;obtain ⟨u25,hJ⟩:=hJ;obtain ⟨u26,hJ⟩:=hJ;obtain ⟨u27,hJ⟩:=hJ;obtain ⟨u28,hJ⟩:=hJ;obtain ⟨u29,hJ⟩:=hJ;obtain ⟨u30,hJ⟩:=hJ;obtain ⟨u31,hJ⟩:=hJ;obtain ⟨u32,hJ⟩:=hJ;obtain ⟨u33,hJ⟩:=hJ;obtain ⟨u34,hJ⟩:=hJ;obtain ⟨u35,hJ⟩:=hJ;obtain ⟨u36,hJ⟩:=hJ;obtain ⟨u37,hJ⟩:=hJ;obtain ⟨u38,hJ⟩:=hJ;obtain ⟨u39,hJ⟩:=hJ;obtain ⟨u40,hJ⟩:=hJ;obtain ⟨u41,hJ⟩:=hJ;obtain ⟨u42,hJ⟩:=hJ;obtain ⟨u43,hJ⟩:=hJ;obtain ⟨u44,hJ⟩:=hJ;obtain ⟨u45,hJ⟩:=hJ;obtain ⟨u46,hJ⟩:=hJ;obtain ⟨u47,hJ⟩:=hJ;obtain ⟨u48,hJ⟩:=hJ;obtain ⟨u49,hJ⟩:=hJ;obtain ⟨u50,hJ⟩:=hJ;obtain ⟨u51,hJ⟩:=hJ;obtain ⟨u52,hJ⟩:=hJ;obtain ⟨u53,hJ⟩:=hJ;obtain ⟨u54,hJ⟩:=hJ;obtain ⟨u55,hJ⟩:=hJ;obtain ⟨u56,hJ⟩:=hJ;obtain ⟨u57,hJ⟩:=hJ;obtain ⟨u58,hJ⟩:=hJ;obtain ⟨u59,hJ⟩:=hJ;obtain ⟨u60,hJ⟩:=hJ;obtain ⟨u61,hJ⟩:=hJ;obtain ⟨u62,hJ⟩:=hJ;obtain ⟨u63,hJ⟩:=hJ;obtain ⟨u64,hJ⟩:=hJ;obtain ⟨u65,hJ⟩:=hJ;obtain ⟨u66,hJ⟩:=hJ;obtain ⟨u67,hJ⟩:=hJ;obtain ⟨u68,hJ⟩:=hJ;obtain ⟨u69,hJ⟩:=hJ;obtain ⟨u70,hJ⟩:=hJ;obtain ⟨u71,hJ⟩:=hJ;obtain ⟨u72,hJ⟩:=hJ;obtain ⟨u73,hJ⟩:=hJ;obtain ⟨u74,hJ⟩:=hJ;obtain ⟨u75,hJ⟩:=hJ;obtain ⟨u76,hJ⟩:=hJ;obtain ⟨u77,hJ⟩:=hJ;obtain ⟨u78,hJ⟩:=hJ;obtain ⟨u79,hJ⟩:=hJ;obtain ⟨u80,hJ⟩:=hJ;obtain ⟨u81,hJ⟩:=hJ;obtain ⟨u82,hJ⟩:=hJ;obtain ⟨u83,hJ⟩:=hJ;obtain ⟨u84,hJ⟩:=hJ;obtain ⟨u85,hJ⟩:=hJ;obtain ⟨u86,hJ⟩:=hJ;obtain ⟨u87,hJ⟩:=hJ;obtain ⟨u88,hJ⟩:=hJ;obtain ⟨u89,hJ⟩:=hJ;obtain ⟨u90,hJ⟩:=hJ;obtain ⟨u91,hJ⟩:=hJ;obtain ⟨u92,hJ⟩:=hJ;obtain ⟨u93,hJ⟩:=hJ;obtain ⟨u94,hJ⟩:=hJ;obtain ⟨u95,hJ⟩:=hJ;obtain ⟨u96,hJ⟩:=hJ;obtain ⟨u97,hJ⟩:=hJ;obtain ⟨u98,hJ⟩:=hJ;obtain ⟨u99,hJ⟩:=hJ;obtain ⟨u100,hJ⟩:=hJ;obtain ⟨u101,hJ⟩:=hJ;obtain ⟨u102,hJ⟩:=hJ;obtain ⟨u103,hJ⟩:=hJ;obtain ⟨u104,hJ⟩:=hJ;obtain ⟨u105,hJ⟩:=hJ;obtain ⟨u106,hJ⟩:=hJ;obtain ⟨u107,hJ⟩:=hJ;obtain ⟨u108,hJ⟩:=hJ;obtain ⟨u109,hJ⟩:=hJ;obtain ⟨u110,hJ⟩:=hJ;obtain ⟨u111,hJ⟩:=hJ;obtain ⟨u112,hJ⟩:=hJ;obtain ⟨u113,hJ⟩:=hJ;obtain ⟨u114,hJ⟩:=hJ;obtain ⟨u115,hJ⟩:=hJ;obtain ⟨u116,hJ⟩:=hJ;obtain ⟨u117,hJ⟩:=hJ;obtain ⟨u118,hJ⟩:=hJ;obtain ⟨u119,hJ⟩:=hJ;exact zq21ea70
  case pass1 =>
   intro a1 w1 hJ J' hout hback;obtain ⟨lo,g,day,s,Fw,V,spv,b13,hJ⟩:=hJ;obtain ⟨u0,hJ⟩:=hJ;obtain ⟨u1,hJ⟩:=hJ;obtain ⟨u3,hJ⟩:=hJ;obtain ⟨u4,hJ⟩:=hJ;obtain ⟨u5,hJ⟩:=hJ;obtain ⟨u6,hJ⟩:=hJ;obtain ⟨u7,hJ⟩:=hJ;obtain ⟨u9,hJ⟩:=hJ;obtain ⟨u10,hJ⟩:=hJ;obtain ⟨u11,hJ⟩:=hJ;obtain ⟨_,hJ⟩:=hJ;obtain ⟨u16,hJ⟩:=hJ;obtain ⟨u17,hJ⟩:=hJ;obtain ⟨u18,hJ⟩:=hJ;obtain ⟨u19,hJ⟩:=hJ;obtain ⟨u20,hJ⟩:=hJ;obtain ⟨u21,hJ⟩:=hJ;obtain ⟨u22,hJ⟩:=hJ;obtain ⟨u23,hJ⟩:=hJ;obtain ⟨u24,hJ⟩:=hJ;obtain ⟨u25,hJ⟩:=hJ;obtain ⟨u26,hJ⟩:=hJ;obtain ⟨u27,hJ⟩:=hJ;obtain ⟨u28,hJ⟩:=hJ;obtain ⟨u29,hJ⟩:=hJ;obtain ⟨u30,hJ⟩:=hJ;obtain ⟨u31,hJ⟩:=hJ;obtain ⟨u32,hJ⟩:=hJ;obtain ⟨u33,hJ⟩:=hJ;obtain ⟨u34,hJ⟩:=hJ;obtain ⟨u35,hJ⟩:=hJ;obtain ⟨u36,hJ⟩:=hJ;obtain ⟨u37,hJ⟩:=hJ;obtain ⟨u38,hJ⟩:=hJ;obtain ⟨u39,hJ⟩:=hJ;obtain ⟨u40,hJ⟩:=hJ;obtain ⟨u41,hJ⟩:=hJ;obtain ⟨u42,hJ⟩:=hJ;obtain ⟨u43,hJ⟩:=hJ;obtain ⟨u44,hJ⟩:=hJ;obtain ⟨u45,hJ⟩:=hJ;obtain ⟨u46,hJ⟩:=hJ;obtain ⟨u47,hJ⟩:=hJ;obtain ⟨u48,hJ⟩:=hJ;obtain ⟨u49,hJ⟩:=hJ;obtain ⟨u50,hJ⟩:=hJ;obtain ⟨u51,hJ⟩:=hJ;obtain ⟨u52,hJ⟩:=hJ;obtain ⟨u53,hJ⟩:=hJ;obtain ⟨u54,hJ⟩:=hJ;obtain ⟨u55,hJ⟩:=hJ;obtain ⟨u56,hJ⟩:=hJ;obtain ⟨u57,hJ⟩:=hJ;obtain ⟨u58,hJ⟩:=hJ;obtain ⟨u59,hJ⟩:=hJ;obtain ⟨u60,hJ⟩:=hJ;obtain ⟨u61,hJ⟩:=hJ;obtain ⟨u62,hJ⟩:=hJ;obtain ⟨u63,hJ⟩:=hJ;obtain ⟨u64,hJ⟩:=hJ;obtain ⟨u65,hJ⟩:=hJ;obtain ⟨u66,hJ⟩:=hJ;obtain ⟨u67,hJ⟩:=hJ;obtain ⟨u68,hJ⟩:=hJ;obtain ⟨u69,hJ⟩:=hJ;obtain ⟨u70,hJ⟩:=hJ;obtain ⟨u71,hJ⟩:=hJ;obtain ⟨u72,hJ⟩:=hJ;obtain ⟨u73,hJ⟩:=hJ;obtain ⟨u74,hJ⟩:=hJ;obtain ⟨u75,hJ⟩:=hJ;obtain ⟨u76,hJ⟩:=hJ;obtain ⟨u77,hJ⟩:=hJ;obtain ⟨u78,hJ⟩:=hJ;obtain ⟨u79,hJ⟩:=hJ;obtain ⟨u80,hJ⟩:=hJ;obtain ⟨u81,hJ⟩:=hJ;obtain ⟨u82,hJ⟩:=hJ;obtain ⟨u83,hJ⟩:=hJ;obtain ⟨u84,hJ⟩:=hJ;obtain ⟨u85,hJ⟩:=hJ;obtain ⟨u86,hJ⟩:=hJ;obtain ⟨u87,hJ⟩:=hJ;obtain ⟨u88,hJ⟩:=hJ;obtain ⟨u89,hJ⟩:=hJ;obtain ⟨u90,hJ⟩:=hJ;obtain ⟨u91,hJ⟩:=hJ;obtain ⟨u92,hJ⟩:=hJ;obtain ⟨u93,hJ⟩:=hJ;obtain ⟨u94,hJ⟩:=hJ;obtain ⟨u95,hJ⟩:=hJ;obtain ⟨u96,hJ⟩:=hJ;obtain ⟨u97,hJ⟩:=hJ;obtain ⟨u98,hJ⟩:=hJ;obtain ⟨u99,hJ⟩:=hJ;obtain ⟨u100,hJ⟩:=hJ;obtain ⟨u101,hJ⟩:=hJ;obtain ⟨u102,hJ⟩:=hJ;obtain ⟨u103,hJ⟩:=hJ;obtain ⟨u104,hJ⟩:=hJ;obtain ⟨u105,hJ⟩:=hJ;obtain ⟨u106,hJ⟩:=hJ;obtain ⟨u107,hJ⟩:=hJ;obtain ⟨u108,hJ⟩:=hJ;obtain ⟨u109,hJ⟩:=hJ;obtain ⟨u110,hJ⟩:=hJ;obtain ⟨u111,hJ⟩:=hJ;obtain ⟨u112,hJ⟩:=hJ;obtain ⟨u113,hJ⟩:=hJ;obtain ⟨u114,hJ⟩:=hJ;obtain ⟨u115,hJ⟩:=hJ;obtain ⟨u116,hJ⟩:=hJ;obtain ⟨u117,hJ⟩:=hJ;obtain ⟨u118,hJ⟩:=hJ;obtain ⟨u119,hJ⟩:=hJ;obtain ⟨rfl,HX,HI,hday,HD,HSP,HB8,HB13,HN13,HBW⟩:=hJ;have HOUT:=lh hout;have HBACK:=lh hback;clear hout hback;obtain ⟨kk,kf,rf,ef,hev⟩:∃kk kf rf ef,evS l day (l.length-s.at') s.at' s.p s.rs=(kk,kf,rf,ef):=⟨_,_,_,_,rfl⟩;have HEV:=lh hev;clear hev
   go_wp2_with fail
   refine (ys5 lo g t l day s Fw V (by have:=HG.out.len;omega) HI.out.at' (by rw [HI.out.bs];exact HTS.out.2) (by rw [HI.out.rs];exact HTS.out.2) kk kf rf ef HEV _ HX.out).mono ?_;rintro _ w2 ⟨rfl,F1,V1,h1,hst1⟩;have HX1:=lh h1;have HST1:=lh hst1;have HB81:=lh (HST1.out.blk HB8.out.1 HB8.out.2);have HSP1:=lh (HST1.out.rd HSP.out)
   have HB131:Hid ((∃x y,Blk w2 b13 40 [iV x,iV y])/\b13∉F1):= by
    obtain ⟨x,y,hb⟩:=HB13.out;have:=HST1.out.blk hb HN13.out.1;exact ⟨⟨x,y,this.1⟩,this.2⟩
   have HBW1:Hid (BW w w2):=HBW.out.trans (HST1.out.keep.to_below HBW.out.size (fun x hx=>by have h1:=(HX.out.lt x hx).1;have h2:=HN13.out.2.2.1;omega))
   have HI1:Hid (WInv t l ps day (⟨kk,kf,rf,s.X,s.Y,s.out⟩:RS)):= by
    have h:=HI.out.ev;unfold ybh at h;rw [HEV.out] at h;exact h
   have HDE:Hid (ybh l day s=((⟨kk,kf,rf,s.X,s.Y,s.out⟩:RS),ef)):=by show _=_;unfold ybh;rw [HEV.out]
   clear h1 hst1
   by_cases hef:ef=0
   ·subst hef
    by_cases hdt:day=today
    ·have hdb:(day == today)=true:=by simpa using hdt
     have hGR:GR=((⟨kk,kf,rf,s.X,s.Y,s.out⟩:RS),0):= by
      rw [<-HD.out,hdt,Int.sub_self];show ybh l today s=_;rw [<-hdt];exact HDE.out
     have HGR:=lh hGR;clear hdt hGR hday;obtain ⟨tv,lv,pv,rv,xv,yv,ov,bx,bz,xs,ys,vs⟩:=V1;obtain ⟨po,pc,rfl⟩:=HX1.out.rd.now.2.2.1.shape;obtain ⟨ro,rc,rfl⟩:=HX1.out.rd.now.2.2.2.1.shape;obtain ⟨oo,oc,rfl⟩:=HX1.out.sts.shape;have c9:w2.cell? (Ad g 9)=some (iV day):=HX1.out.blk.cell 9;have kg:=HX1.out.blk.lt;have hg8:g≠w.heap.size+1+1:=fun e=>HB81.out.2 (e▸HX1.out.gF)
     have HS17:Hid (∀W',BW w2 W'->(Ce W' g 10 (.slice po kf.bs.length pc)/\Ce W' g 11 (iV kf.c)/\Ce W' g 12 (iV kf.d))/\Ce W' g 13 (.slice ro rf.length rc)/\Ce W' g 16 (.slice oo s.out.length oc)):=fun W' hb=>by
      have q:=HX1.out.blk.below hb;exact ⟨⟨q.cell 10,q.cell 11,q.cell 12⟩,q.cell 13,q.cell 16⟩
     have hsd:=HS17.out w2.drew (yaf bR);obtain ⟨r0,r1,r2,-⟩:=HB81.out.1.cs [0,1,2];simp only [gz,gs] at r0 r1 r2;obtain ⟨rf0,rf1,rf2,-⟩:=HB81.out.1.fs [0,1,2];have kb8:=HB81.out.1.lt
     have HSK:Hid (∀(W':World) (i:Nat) (v:Value),((Ce W' g 10 (.slice po kf.bs.length pc)/\Ce W' g 11 (iV kf.c)/\Ce W' g 12 (iV kf.d))/\Ce W' g 13 (.slice ro rf.length rc)/\Ce W' g 16 (.slice oo s.out.length oc))->(((W'.setCell (Ad (w.heap.size+1+1) i) v).cell? (Ad g 10)=some (.slice po kf.bs.length pc)/\(W'.setCell (Ad (w.heap.size+1+1) i) v).cell? (Ad g 11)=some (iV kf.c)/\(W'.setCell (Ad (w.heap.size+1+1) i) v).cell? (Ad g 12)=some (iV kf.d))/\(W'.setCell (Ad (w.heap.size+1+1) i) v).cell? (Ad g 13)=some (.slice ro rf.length rc)/\(W'.setCell (Ad (w.heap.size+1+1) i) v).cell? (Ad g 16)=some (.slice oo s.out.length oc))):=fun W' i v h =>
      ⟨⟨yc8 h.1.1 hg8,yc8 h.1.2.1 hg8,yc8 h.1.2.2 hg8⟩,yc8 h.2.1 hg8,yc8 h.2.2 hg8⟩
     have hs1:=HSK.out _ 0 (.slice po kf.bs.length pc) (HS17.out w2 bR);have hs2:=HSK.out _ 1 (iV kf.c) hs1;have hs3:=HSK.out _ 2 (iV kf.d) hs2;have hs3d:(fun (W':World)=>(Ce W' g 10 (.slice po kf.bs.length pc)/\Ce W' g 11 (iV kf.c)/\Ce W' g 12 (iV kf.d))/\Ce W' g 13 (.slice ro rf.length rc)/\Ce W' g 16 (.slice oo s.out.length oc)) (((w2.setCell (Ad (w.heap.size+1+1) 0) (.slice po kf.bs.length pc)).setCell (Ad (w.heap.size+1+1) 1) (iV kf.c)).setCell (Ad (w.heap.size+1+1) 2) (iV kf.d)).drew:=hs3;have HS3:=lh hs3;have HS3D:=lh hs3d;clear hs1 hs2 hs3 hs3d;go_upto_region 17 with fail
     clear c9
     go_region_held3 (fun W'=>(Ce W' g 10 (.slice po kf.bs.length pc)/\Ce W' g 11 (iV kf.c)/\Ce W' g 12 (iV kf.d))/\Ce W' g 13 (.slice ro rf.length rc)/\Ce W' g 16 (.slice oo s.out.length oc)) (first | with_reducible exact hsd | exact HS3.out | exact HS3D.out) (fail)
     go_wp2_with fail
     simp only [ydu]
     have hR2:R=⟨kf,rf,s.out,0⟩:= by
      rw [<-HR.out];unfold rnOf;rw [HGR.out];simp
     subst hR2
     have hlo:∀v,Hi lo v->OffF [w.heap.size+1+1] v:=fun v hv b o n c e hn hm=>by
      have h1:=hv b o n c e hn;have h2:=HN13.out.2.2.1;simp only [ms] at hm;omega
     have hfr:∀v,Hi lo v->Fr w v:=fun v hv b o n c e hn=>by
      have h1:=hv b o n c e hn;have h2:=HN13.out.2.2.1;omega
     have hoo:Hi lo (.slice oo s.out.length oc):=fun b o n c e _=>ya1 HX1.out.out b o n c e;have hk:yab [w.heap.size+1+1] w2 (((w2.setCell (Ad (w.heap.size+1+1) 0) (.slice po kf.bs.length pc)).setCell (Ad (w.heap.size+1+1) 1) (iV kf.c)).setCell (Ad (w.heap.size+1+1) 2) (iV kf.d)).drew:=yab.drew ((((yab.refl _ _).sg _).sg _).sg _);have hrd:=HX1.out.rd.now;refine bodyPost_ret (v:=.tuple #[.agg #[.slice po kf.bs.length pc,iV kf.c,iV kf.d],.slice ro rf.length rc,.slice oo s.out.length oc,iZ]) (by simp [results,Tryz.results54,go_sem,r0,r1,r2]) rfl ⟨_,_,_,vs,rfl,hrd.2.2.1.keep hk (hlo _ HX1.out.hi.1),hrd.2.2.2.1.keep hk (hlo _ HX1.out.hi.2.1),⟨hrd.2.2.2.2.keep hk (fun v hv=>hlo v (HX1.out.hi.2.2.1 v hv)),(Fl.of_own HX1.out.out hrd.2.2.2.2.one).keep hk (hlo _ hoo)⟩,⟨hfr _ HX1.out.hi.1,hfr _ HX1.out.hi.2.1,hfr _ hoo,fun v hv=>hfr v (HX1.out.hi.2.2.1 v hv)⟩,yaf (yao (yao (yao HBW1.out om) om) om)⟩
    ·have hdb:(day == today)=false:=by simpa using hdt
     have hdlt:day<today:=by omega
     obtain ⟨n0,hn0⟩:∃n0:Nat,(today-day).toNat=n0+1:=⟨(today-day).toNat-1,by omega⟩;have hn1:(today-(day+1)).toNat=n0:=by omega
     have HN0:=lh (And.intro hn0 hn1);have HDL:=lh (And.intro hdlt hday);obtain ⟨s1,hs1⟩:∃s1:RS,(⟨kk,kf,rf,s.X,s.Y,s.out⟩:RS)=s1:=⟨_,rfl⟩;rw [hs1] at HX1 HI1 HDE;have HS1:=lh hs1;have hout1:s1.out=s.out:=by rw [<-hs1]
     have c9:w2.cell? (Ad g 9)=some (iV day):=HX1.out.blk.cell 9;have kg:=HX1.out.blk.lt;clear hs1 hdt hn0 hn1 hdlt hday hout1
     go_wp2_with fail
     have hrows:=HI1.out.rows HCH.out;refine (yym lo g t l day s1 F1 V1 t.ts.length HI1.out.X HI1.out.Y HI1.out.bs HI1.out.rs HTS.out.2 (fun k hk=>by have:=(hrows k hk).1;omega) (fun k hk=>by have:=(hrows k hk).2;omega) _ HX1.out).mono ?_;rintro _ w3 ⟨rfl,F2,V2,h2,hst2⟩;have HX2:=lh h2;have HST2:=lh hst2;have HB82:=lh (HST2.out.blk HB81.out.1 HB81.out.2);have HSP2:=lh (HST2.out.rd HSP1.out);obtain ⟨⟨fx,fy,hb13⟩,hn13⟩:=HB131.out;have hb13':=HST2.out.blk hb13 hn13;have HB132:=lh hb13'.1;have HN132:=lh hb13'.2;have HBW2:Hid (BW w w3):=HBW1.out.trans (HST2.out.keep.to_below HBW1.out.size (fun x hx=>by have h1:=(HX1.out.lt x hx).1;have h2:=HN13.out.2.2.1;omega));clear h2 hst2 hrows hb13 hn13 hb13' c9 kg;obtain ⟨sp,spc,rfl⟩:=HSP2.out.now.shape;obtain ⟨sb,so',fr,til,rfl,⟨q0,q1⟩,hps'⟩:=yuw HSP2.out.now (i:=s1.out.length) HI1.out.out;have HPS:=lh hps';have hol:(s1.out.length:Int)<(ps.length:Int):=by have:=HI1.out.out;omega
     have hol0:(0:Int)<=(s1.out.length:Int):=by omega
     obtain ⟨tv,lv,pv,rv,xv,yv,ov,bx,bz,xs,ys,vs⟩:=V2;have hov:=HX2.out.sts.shape;simp only [ydh] at hov;obtain ⟨oo,oc,rfl⟩:=hov;have c16:w3.cell? (Ad g 16)=some (.slice oo s1.out.length oc):=HX2.out.blk.cell 16;have kg:=HX2.out.blk.lt;obtain ⟨d0,d1,-⟩:=HB132.out.cs [0,1];simp only [gz,gs] at d0 d1;obtain ⟨df0,df1,-⟩:=HB132.out.fs [0,1];have kb:=HB132.out.lt;clear hps';go_upto_region 20 with fail
     obtain ⟨W4,hW4,HX4,HB84,HSP4,HB134,HBW4⟩:∃W4,(w3.setCell (Ad b13 0) (iV fr)).setCell (Ad b13 1) (iV til)=W4/\Hid (yb2 lo g t l day (ydh s1) F2 W4 { tv:=tv,lv:=lv,pv:=pv,rv:=rv,xv:=xv,yv:=yv,ov:=.slice oo s1.out.length oc,bx:=bx,bz:=bz,xs:=xs,ys:=ys,vs:=vs })/\Hid (Blk W4 (w.heap.size+1+1) 35 [sZ,iZ,iZ])/\Hid (Rd F2 W4 (fun W=>Fl 2 ps.length W (sL sb so' ps.length spc) (yby ps)))/\Hid (Blk W4 b13 40 [iV fr,iV til])/\Hid (BW w W4):= by
      have hk:yab [b13] w3 ((w3.setCell (Ad b13 0) (iV fr)).setCell (Ad b13 1) (iV til)):=((yab.refl _ _).sg _).sg _;refine ⟨_,rfl,HX2.out.off HN13.out.2.2.2.1 hk,HB82.out.1.keep hk (by simp only [ms];exact ybs HB82.out.1 HB132.out (by decide)),HSP2.out.off (fun W1 W2 h1 h2=>h2.keep h1 HN13.out.2.2.2.2) hk HB132.out.lt,(HB132.out.set 0 _).set 1 _,yao (yao HBW2.out HN13.out.2.1) HN13.out.2.1⟩
     with_reducible rw [hW4]
     clear hW4 d0 d1 df0 df1 c16 q0 q1;have HS20:Hid (∀W',BW W4 W'->Ce W' b13 1 (iV til)/\Ce W' g 9 (iV day)):=fun W' hb=>⟨(HB134.out.below hb).cell 1,(HX4.out.blk.below hb).cell 9⟩;have hsd:=HS20.out W4.drew (yaf bR);clear kg kb
     by_cases htil:til=day
     ·have htb:(til == day)=true:=by simpa using htil
      obtain ⟨SR,hSR⟩:∃SR,ydn t l fr day (ydh s1)=SR:=⟨_,rfl⟩;have HSR:=lh hSR;have HTIL:=lh htil;clear hSR htil
      go_region_held3 (fun W'=>Ce W' b13 1 (iV til)/\Ce W' g 9 (iV day)) (first | with_reducible exact hsd) (fail)
      obtain ⟨W5,hW5,HX5,HB85,HSP5,HB135,HBW5⟩:∃W5,W4.drew=W5/\Hid (yb2 lo g t l day (ydh s1) F2 W5 { tv:=tv,lv:=lv,pv:=pv,rv:=rv,xv:=xv,yv:=yv,ov:=.slice oo s1.out.length oc,bx:=bx,bz:=bz,xs:=xs,ys:=ys,vs:=vs })/\Hid (Blk W5 (w.heap.size+1+1) 35 [sZ,iZ,iZ])/\Hid (Rd F2 W5 (fun W=>Fl 2 ps.length W (sL sb so' ps.length spc) (yby ps)))/\Hid (Blk W5 b13 40 [iV fr,iV til])/\Hid (BW w W5) :=
       ⟨_,rfl,HX4.out.below (yaf bR),HB84.out.below (yaf bR),HSP4.out.below (yaf bR) (fun x hx=>.inl hx),HB134.out.below (yaf bR),yaf HBW4.out⟩
      with_reducible rw [hW5]
      clear hW5;obtain ⟨d0,d1,-⟩:=HB135.out.cs [0,1];simp only [gz,gs] at d0 d1
      go_wp2_with fail
      refine (yyd lo g t l day (ydh s1) F2 _ fr til t.ts.length rfl HTS.out.2 ((ygd _ _).trans HI1.out.X) ((ygd _ _).trans HI1.out.Y) (by have h1:=HI1.out.out;have h2:=HPL.out;show s1.out.length<=1000;omega) SR (by show _=_;rw [HTIL.out];exact HSR.out) _ HX5.out).mono ?_;rintro _ w6 ⟨rfl,F3,V3,h6,hst6⟩;have HX6:=lh h6;have HST6:=lh hst6;have HB86:=lh (HST6.out.blk HB85.out HB82.out.2);have HB136:=lh (HST6.out.blk HB135.out HN132.out);have HSP6:=lh (HST6.out.rd HSP5.out);have HBW6:Hid (BW w w6):=HBW5.out.trans (HST6.out.keep.to_below HBW5.out.size (fun x hx=>by have h1:=(HX2.out.lt x hx).1;have h2:=HN13.out.2.2.1;omega))
      have HDS:Hid (ybb t l ps day s1=SR):= by
       show ybb t l ps day s1=SR;unfold ybb;rw [HPS.out];simp only;rw [if_pos HTIL.out];exact HSR.out
      clear h6 hst6 d0 d1 hol hol0;obtain ⟨SF,se⟩:=SR
      by_cases hse:se=0
      ·subst hse
       have HWI:Hid (WInv t l ps (day+1) SF):= by
        have h1:=HI1.out.endShut HCH.out HDL.out.1 (by rw [HPS.out];exact HTIL.out) fr (by rw [HSR.out]);rw [HSR.out] at h1;exact h1
       have HDD:Hid (ycm t l ps n0 (day+1) SF=GR):= by
        exact zq21155d
       have hd1:(-135140:Int)<=day:=by have h1:=HI1.out.lo;have h2:=(HCH.out.range _ HI1.out.out).1;omega
       have hd2:day<=2932896:=by have h1:=HI1.out.hi;have h2:=(HCH.out.range _ HI1.out.out).2;omega
       have hw9:wrap64 (day+1)=day+1:=IntWalk.wrap64_in _ ⟨by omega,by omega⟩;have c9:w6.cell? (Ad g 9)=some (iV day):=HX6.out.blk.cell 9;have f9:=HX6.out.blk.frozen 9;have kg:=HX6.out.blk.lt
       go_wp2_with fail
       go_step3
       have hk:yab [g] w6 (w6.setCell (Ad g 9) (iV (day+1))):=(yab.refl _ _).sg _;have hst:Stp F3 w6 F3 (w6.setCell (Ad g 9) (iV (day+1))):=⟨hk.mono (fun x hx=>by simp only [ms] at hx;exact hx▸HX6.out.gF),fun _ hx=>.inl hx⟩;have hrun:=HX6.out.store hk (day':=day+1) (HX6.out.blk.set 9 (iV (day+1))) HX6.out.rdSl ⟨HX6.out.hi.1,HX6.out.hi.2.1⟩;have h8:=hst.blk HB86.out.1 HB86.out.2;have h13:=hst.blk HB136.out.1 HB136.out.2;refine HBACK.out _ _ ⟨lo,g,day+1,SF,F3,_,_,b13,_,_,_,_,_,_,_,_,_,_,_,_,_,_,_,_,_,_,_,_,_,_,_,_,_,_,_,_,_,_,_,_,_,_,_,_,_,_,_,_,_,_,_,_,_,_,_,_,_,_,_,_,_,_,_,_,_,_,_,_,_,_,_,_,_,_,_,_,_,_,_,_,_,_,_,_,_,_,_,_,_,_,_,_,_,_,_,_,_,_,_,_,_,_,_,_,_,_,_,_,_,_,_,_,_,_,_,_,_,_,_,_,_,_,_,rfl,hrun,HWI,⟨by have:=HDL.out.2;omega,by have:=HDL.out.1;omega⟩,?_,hst.rd HSP6.out,h8,⟨_,_,h13.1⟩,⟨h13.2,HN13.out.2⟩,?_⟩ ?_
       ·show ycm t l ps (today-(day+1)).toNat (day+1) SF=GR
        rw [HN0.out.2];exact HDD.out
       ·exact HBW6.out.setCell (show w.heap.size<=g by have h1:=(HX6.out.lt g HX6.out.gF).1;have h2:=HN13.out.2.2.1;omega) _
       ·show yul today ((w6.setCell (Ad g 9) (iV (day+1))).cell? (Ad g 9))<yul today (w1.cell? (Ad g 9))
        have e1:(w6.setCell (Ad g 9) (iV (day+1))).cell? (Ad g 9)=some (iV (day+1)):=hrun.blk.cell 9;exact zq2105e2
      ·have hse':(se != 0)=true:=by simpa using hse
       have HRE:Hid (R=rn0 se):= by
        have h1:GR=(SF,se):= by
         rw [<-HD.out,HN0.out.1,yvo (by rw [HDE.out]) (by rw [HDE.out];simp only;rw [HDS.out];exact hse),HDE.out];exact HDS.out
        show R=rn0 se;rw [<-HR.out];unfold rnOf;rw [h1];simp only;rw [if_pos hse]
       clear hse
       go_wp2_with fail
       go_step3
       exact HOUT.out _ _ ⟨se,_,_,_,_,_,_,_,_,_,_,_,_,_,_,_,_,_,_,_,_,_,_,_,_,_,_,_,_,_,_,_,_,_,_,_,_,_,_,_,_,_,_,_,_,_,_,_,_,_,_,_,_,_,_,_,_,_,_,_,_,_,_,_,_,_,_,_,_,_,_,_,_,_,_,_,_,_,_,_,_,_,_,_,_,_,_,_,_,_,_,_,_,_,_,_,_,_,_,_,_,_,_,_,_,_,_,_,_,_,_,_,_,_,_,_,_,_,_,rfl,HRE,HB86.out.1,HBW6⟩
     ·have htb:(til == day)=false:=by simpa using htil
      have HTIL:=lh htil;clear htil
      go_region_held3 (fun W'=>Ce W' b13 1 (iV til)/\Ce W' g 9 (iV day)) (first | with_reducible exact hsd) (fail)
      obtain ⟨W5,hW5,HX5,HB85,HSP5,HB135,HBW5⟩:∃W5,W4.drew=W5/\Hid (yb2 lo g t l day (ydh s1) F2 W5 { tv:=tv,lv:=lv,pv:=pv,rv:=rv,xv:=xv,yv:=yv,ov:=.slice oo s1.out.length oc,bx:=bx,bz:=bz,xs:=xs,ys:=ys,vs:=vs })/\Hid (Blk W5 (w.heap.size+1+1) 35 [sZ,iZ,iZ]/\(w.heap.size+1+1)∉F2)/\Hid (Rd F2 W5 (fun W=>Fl 2 ps.length W (sL sb so' ps.length spc) (yby ps)))/\Hid (Blk W5 b13 40 [iV fr,iV til]/\b13∉F2)/\Hid (BW w W5) :=
       ⟨_,rfl,HX4.out.below (yaf bR),⟨HB84.out.below (yaf bR),HB82.out.2⟩,HSP4.out.below (yaf bR) (fun x hx=>.inl hx),⟨HB134.out.below (yaf bR),HN132.out⟩,yaf HBW4.out⟩
      with_reducible rw [hW5]
      have HDS:Hid (ybb t l ps day s1=(ydh s1,0)):= by
       show ybb t l ps day s1=_;unfold ybb;rw [HPS.out];simp only;rw [if_neg HTIL.out]
      obtain ⟨SF,hSF⟩:∃SF,ydh s1=SF:=⟨_,rfl⟩
      have HWI:Hid (WInv t l ps (day+1) SF):= by
       rw [<-hSF];exact HI1.out.endOn (by rw [HPS.out];exact HTIL.out)
      rw [hSF] at HX5 HDS
      have HDD:Hid (ycm t l ps n0 (day+1) SF=GR):= by
       exact zq21155d
      clear hSF hW5 hol hol0;have hd1:(-135140:Int)<=day:=by have h1:=HI1.out.lo;have h2:=(HCH.out.range _ HI1.out.out).1;omega
      have hd2:day<=2932896:=by have h1:=HI1.out.hi;have h2:=(HCH.out.range _ HI1.out.out).2;omega
      have hw9:wrap64 (day+1)=day+1:=IntWalk.wrap64_in _ ⟨by omega,by omega⟩;have c9:W5.cell? (Ad g 9)=some (iV day):=HX5.out.blk.cell 9;have f9:=HX5.out.blk.frozen 9;have kg:=HX5.out.blk.lt
      go_wp2_with fail
      go_step3
      have hk:yab [g] W5 (W5.setCell (Ad g 9) (iV (day+1))):=(yab.refl _ _).sg _;have hst:Stp F2 W5 F2 (W5.setCell (Ad g 9) (iV (day+1))):=⟨hk.mono (fun x hx=>by simp only [ms] at hx;exact hx▸HX5.out.gF),fun _ hx=>.inl hx⟩;have hrun:=HX5.out.store hk (day':=day+1) (HX5.out.blk.set 9 (iV (day+1))) HX5.out.rdSl ⟨HX5.out.hi.1,HX5.out.hi.2.1⟩;have h8:=hst.blk HB85.out.1 HB85.out.2;have h13:=hst.blk HB135.out.1 HB135.out.2;refine HBACK.out _ _ ⟨lo,g,day+1,SF,F2,_,_,b13,_,_,_,_,_,_,_,_,_,_,_,_,_,_,_,_,_,_,_,_,_,_,_,_,_,_,_,_,_,_,_,_,_,_,_,_,_,_,_,_,_,_,_,_,_,_,_,_,_,_,_,_,_,_,_,_,_,_,_,_,_,_,_,_,_,_,_,_,_,_,_,_,_,_,_,_,_,_,_,_,_,_,_,_,_,_,_,_,_,_,_,_,_,_,_,_,_,_,_,_,_,_,_,_,_,_,_,_,_,_,_,_,_,_,_,rfl,hrun,HWI,⟨by have:=HDL.out.2;omega,by have:=HDL.out.1;omega⟩,?_,hst.rd HSP5.out,h8,⟨_,_,h13.1⟩,⟨h13.2,HN13.out.2⟩,?_⟩ ?_
      ·show ycm t l ps (today-(day+1)).toNat (day+1) SF=GR
       rw [HN0.out.2];exact HDD.out
      ·exact HBW5.out.setCell (show w.heap.size<=g by have h1:=(HX5.out.lt g HX5.out.gF).1;have h2:=HN13.out.2.2.1;omega) _
      ·show yul today ((W5.setCell (Ad g 9) (iV (day+1))).cell? (Ad g 9))<yul today (w1.cell? (Ad g 9))
       have e1:(W5.setCell (Ad g 9) (iV (day+1))).cell? (Ad g 9)=some (iV (day+1)):=hrun.blk.cell 9;exact zq2105e2
   ·have hef':(ef != 0)=true:=by simpa using hef
    have hR:R=rn0 ef:= by
     rw [<-HR.out]
     have h1:GR=((⟨kk,kf,rf,s.X,s.Y,s.out⟩:RS),ef):= by
      rw [<-HD.out,ywi (by rw [HDE.out];exact hef)];exact HDE.out
     unfold rnOf;rw [h1];simp only;rw [if_pos hef]
    have HRE:=lh hR;clear hef hR hday
    go_wp2_with fail
    go_step3
    exact HOUT.out _ _ ⟨ef,_,_,_,_,_,_,_,_,_,_,_,_,_,_,_,_,_,_,_,_,_,_,_,_,_,_,_,_,_,_,_,_,_,_,_,_,_,_,_,_,_,_,_,_,_,_,_,_,_,_,_,_,_,_,_,_,_,_,_,_,_,_,_,_,_,_,_,_,_,_,_,_,_,_,_,_,_,_,_,_,_,_,_,_,_,_,_,_,_,_,_,_,_,_,_,_,_,_,_,_,_,_,_,_,_,_,_,_,_,_,_,_,_,_,_,_,_,_,rfl,HRE,HB81.out.1,HBW1⟩
  case first =>
   intro J' hout hrest;have HOUT:=lh hout;have HREST:=lh hrest;clear hout hrest;have HRT:=lh hr
   obtain ⟨W1,hW1,HB4,HB7,HB8,HB13,HBW1,HSZ⟩:∃W1,(((w.alloc (.cells #[iV t.lim,.slice tao t.ts.length tc,iV t.cyc,iV t.dued,iV t.minf,iV t.minp,iV t.start] 24)).alloc (.cells #[.nilFunc,.nilFunc,.nilFunc] 133)).alloc (.cells #[sZ,iZ,iZ] 35)).alloc (.cells #[iZ,iZ] 40)=W1/\Hid (Blk W1 w.heap.size 24 [iV t.lim,.slice tao t.ts.length tc,iV t.cyc,iV t.dued,iV t.minf,iV t.minp,iV t.start])/\Hid (Blk W1 (w.heap.size+1) 133 [.nilFunc,.nilFunc,.nilFunc])/\Hid (Blk W1 (w.heap.size+1+1) 35 [sZ,iZ,iZ])/\Hid (Blk W1 (w.heap.size+1+1+1) 40 [iZ,iZ])/\Hid (BW w W1)/\Hid (W1.heap.size=w.heap.size+1+1+1+1) :=
    ⟨_,rfl,Blk.below (yae w _ _ _ rfl) (yaa (yaa (yaa bR _) _) _),Blk.below (yae (w.alloc _) _ _ _ (by simp)) (yaa (yaa bR _) _),Blk.below (yae ((w.alloc _).alloc _) _ _ _ (by simp)) (yaa bR _),yae (((w.alloc _).alloc _).alloc _) _ _ _ (by simp),yaa (yaa (yaa (yaa bR _) _) _) _,by show _=_;simp⟩
   have HS3:Hid (∀W',BW W1 W'->Ce W' w.heap.size 0 (iV t.lim)/\Ce W' w.heap.size 1 (.slice tao t.ts.length tc)/\Ce W' w.heap.size 2 (iV t.cyc)/\Ce W' w.heap.size 3 (iV t.dued)/\Ce W' w.heap.size 4 (iV t.minf)/\Ce W' w.heap.size 5 (iV t.minp)/\Ce W' w.heap.size 6 (iV t.start)/\W'.cell? (Ad (w.heap.size+1) 0)=some .nilFunc/\W'.cell? (Ad (w.heap.size+1) 1)=some .nilFunc/\W'.cell? (Ad (w.heap.size+1) 2)=some .nilFunc):=fun W' hb=>by
    have q1:=HB4.out.below hb;have q2:=HB7.out.below hb;exact ⟨q1.cell 0,q1.cell 1,q1.cell 2,q1.cell 3,q1.cell 4,q1.cell 5,q1.cell 6,q2.cell 0,q2.cell 1,q2.cell 2⟩
   have HW1:=lh hW1;clear hW1;have hsd:=HS3.out W1.drew (yaf bR);go_upto_region 3 with fail
   with_reducible rw [HW1.out]
   go_region_held3 (fun W'=>Ce W' w.heap.size 0 (iV t.lim)/\Ce W' w.heap.size 1 (.slice tao t.ts.length tc)/\Ce W' w.heap.size 2 (iV t.cyc)/\Ce W' w.heap.size 3 (iV t.dued)/\Ce W' w.heap.size 4 (iV t.minf)/\Ce W' w.heap.size 5 (iV t.minp)/\Ce W' w.heap.size 6 (iV t.start)/\W'.cell? (Ad (w.heap.size+1) 0)=some .nilFunc/\W'.cell? (Ad (w.heap.size+1) 1)=some .nilFunc/\W'.cell? (Ad (w.heap.size+1) 2)=some .nilFunc) (first | with_reducible exact hsd | exact HSX.out | exact HS3.out _ (yaa HB5.out _)) (first | (go_at_call 86;refine (yht _ l HA (by have:=HG.out.len;omega) _ (HL.out.below (by first | exact HBW1.out | exact yaf HBW1.out))).mono ?_;rintro _ w5 ⟨u,rfl,hou,hb5⟩;obtain ⟨uo,uc,rfl⟩:=(R5S.of_own hou rfl).shape;have HOU:=lh hou;have HB5:Hid (BW W1 w5):=(by first | exact hb5 | exact yad (yaf bR) hb5);have HSX:=lh (HS3.out _ HB5.out);clear hou hb5))
   obtain ⟨W3,hW3,HBG,HBT,HB83,HB133,HOU3,HBW3,HSZ3,HSZG⟩:∃W3,w5.alloc (.cells #[iV t.lim,.slice tao t.ts.length tc,iV t.cyc,iV t.dued,iV t.minf,iV t.minp,iV t.start,.slice uo l.length uc,iZ,iV t.start,sZ,iZ,iZ,sZ,sZ,sZ,sZ,.nilFunc,.nilFunc,.nilFunc] 181)=W3/\Hid (Blk W3 w5.heap.size 181 [iV t.lim,.slice tao t.ts.length tc,iV t.cyc,iV t.dued,iV t.minf,iV t.minp,iV t.start,.slice uo l.length uc,iZ,iV t.start,sZ,iZ,iZ,sZ,sZ,sZ,sZ,.nilFunc,.nilFunc,.nilFunc])/\Hid (Blk W3 w.heap.size 24 [iV t.lim,.slice tao t.ts.length tc,iV t.cyc,iV t.dued,iV t.minf,iV t.minp,iV t.start])/\Hid (Blk W3 (w.heap.size+1+1) 35 [sZ,iZ,iZ])/\Hid (Blk W3 (w.heap.size+1+1+1) 40 [iZ,iZ])/\Hid (W3.ownsRow (w.heap.size+1+1+1+1) 150 5 (.slice uo l.length uc) l.length (yag l))/\Hid (BW w W3)/\Hid (w.heap.size+1+1+1+1<=w5.heap.size)/\Hid (W3.heap.size=w5.heap.size+1):= by
    exact zq21e8b6
   with_reducible rw [hW3]
   clear hW3;obtain ⟨G,hG⟩:∃G,w5.heap.size=G:=⟨_,rfl⟩;rw [hG] at HBG HSZ3 HSZG ⊢;obtain ⟨t0,t1,t2,t3,t4,t5,t6,-⟩:=HBT.out.cs [0,1,2,3,4,5,6];simp only [gz,gs] at t0 t1 t2 t3 t4 t5 t6;have kt:=HBT.out.lt
   go_wp2_with fail
   refine (ym7 t _ _ l today HG 0 HRT _ (HT.out.below HBW3.out) (HL.out.below HBW3.out)).mono ?_;rintro _ w6 ⟨rfl,hb6⟩;have HB6:=lh hb6;clear hb6 t0 t1 t2 t3 t4 t5 t6 kt hsd;have HBT6:=lh (HBT.out.below HB6.out);have HBG6:=lh (HBG.out.below HB6.out);have HBW6:Hid (BW w w6):=yad HBW3.out HB6.out;obtain ⟨t0,t1,t2,t3,t4,t5,t6,-⟩:=HBT6.out.cs [0,1,2,3,4,5,6];simp only [gz,gs] at t0 t1 t2 t3 t4 t5 t6;have kt:=HBT6.out.lt
   have HSPN:Hid (ybd t.cyc today 300 t.start=(ps,true)):= by
    have h2:(ybd t.cyc today 300 t.start).2=true:= by
     unfold ye2 at hr
     split at hr
     ·cases hr
     ·split at hr
      ·cases hr
      ·rename_i h1 h2
       have h3:(ofS t.start t.cyc today).2=0:=by simpa using h2
       unfold ofS at h3
       split at h3
       ·rename_i h4;exact absurd h3 h4
       ·split at h3
        ·rename_i h5;exact h5
        ·cases h3
    exact Prod.ext hps.out h2
   go_wp2_with fail
   refine (yyn t.start t.cyc today ps HSPN _).mono ?_;rintro _ w7 ⟨spv,rfl,hsp,hb7⟩;have HB7':=lh hb7;have HSP7:=lh hsp;have HBT7:=lh (HBT6.out.below hb7);have HBG7:=lh (HBG6.out.below hb7);obtain ⟨spo,spc,rfl⟩:=(Fl.of_own hsp (yg7 ps)).shape;clear hsp hb7 t0 t1 t2 t3 t4 t5 t6 kt;have t1:=HBT7.out.cell 1;simp only [gz,gs] at t1;have c10:=HBG7.out.cell 10;simp only [gz,gs] at c10;have cf10:=HBG7.out.frozen 10;have kt:=HBT7.out.lt;have kg:=HBG7.out.lt;have hmk:=yva t.ts.length HTS.out.2;have hts:=HTS.out.2;go_upto_region 8 with fail
   obtain ⟨W8,hW8,HBG8,HZ8,HBT8,HB88,HB138,HSP8,HOU8,HBW8,HSZ8⟩:∃W8,(w7.setCell (Ad G 10) (sL w7.heap.size 0 t.ts.length t.ts.length)).alloc (.cells (Array.replicate t.ts.length (iZ)) 2)=W8/\Hid (Blk W8 G 181 [iV t.lim,.slice tao t.ts.length tc,iV t.cyc,iV t.dued,iV t.minf,iV t.minp,iV t.start,.slice uo l.length uc,iZ,iV t.start,sL w7.heap.size 0 t.ts.length t.ts.length,iZ,iZ,sZ,sZ,sZ,sZ,.nilFunc,.nilFunc,.nilFunc])/\Hid (Sl .i64 W8 (sL w7.heap.size 0 t.ts.length t.ts.length) (List.replicate t.ts.length 0))/\Hid (Blk W8 w.heap.size 24 [iV t.lim,.slice tao t.ts.length tc,iV t.cyc,iV t.dued,iV t.minf,iV t.minp,iV t.start])/\Hid (Blk W8 (w.heap.size+1+1) 35 [sZ,iZ,iZ])/\Hid (Blk W8 (w.heap.size+1+1+1) 40 [iZ,iZ])/\Hid (Fl 2 ps.length W8 (.slice spo ps.length spc) (yby ps)/\OffF [G,w.heap.size+1+1+1] (.slice spo ps.length spc))/\Hid (R5S W8 (.slice uo l.length uc) l/\OffF [G,w.heap.size+1+1+1] (.slice uo l.length uc))/\Hid (BW w W8)/\Hid (G<w7.heap.size/\w7.heap.size<W8.heap.size/\w.heap.size+1+1+1+1<=G):= by
    have e3:=HSZ3.out;have e6:=HB6.out.size;have e7:=HB7'.out.size;have eg:=HSZG.out;have hk:yab [G] w7 ((w7.setCell (Ad G 10) (sL w7.heap.size 0 t.ts.length t.ts.length)).alloc (.cells (Array.replicate t.ts.length (iZ)) 2)):=((yab.refl _ _).sg _).alloc _
    have nG:∀x,x<w.heap.size+1+1+1+1->x∉[G]:=fun x hx hm=>by
     simp only [ms] at hm;omega
    have HBW7:=yad HBW6.out HB7'.out;have HU7:=yah (yah HOU3.out HB6.out) HB7'.out
    have hou:OffF [G,w.heap.size+1+1+1] (.slice uo l.length uc):=fun b o n c e hn hm=>by
     have h1:=ya1 HOU3.out b o n c e;have h2:=(Fl.blt (show Fl 5 l.length w5 (.slice uo l.length uc) (yag l) from R5S.of_own HOU.out rfl) om e hn);simp only [List.mem_cons,List.not_mem_nil,or_false] at hm;rw [hG] at h2;omega
    have hos:OffF [G,w.heap.size+1+1+1] (.slice spo ps.length spc):=fun b o n c e hn hm=>by
     have h1:=ya1 HSP7.out b o n c e;simp only [List.mem_cons,List.not_mem_nil,or_false] at hm;omega
    refine ⟨_,rfl,(HBG7.out.set 10 _).below (yaa bR _),?_,HBT7.out.keep hk (nG _ om),((HB83.out.below HB6.out).below HB7'.out).keep hk (nG _ om),((HB133.out.below HB6.out).below HB7'.out).keep hk (nG _ om),⟨(Fl.of_own HSP7.out (yg7 ps)).keep hk (hos.mono (by simp)),hos⟩,⟨(R5S.of_own HU7 rfl).keep hk (hou.mono (by simp)),hou⟩,yaa (yao HBW7 om) _,⟨by omega,by rw [World.size_alloc,World.size_setCell];omega,by omega⟩⟩;have hb:=yae (w7.setCell (Ad G 10) (sL w7.heap.size 0 t.ts.length t.ts.length)) (List.replicate t.ts.length (iZ)) 2 w7.heap.size (by rw [World.size_setCell]);exact Sl.of_blk hb (by simp) (Nat.le_refl _) (by unfold maxLen;omega) (by simp)
   with_reducible rw [hW8]
   clear hW8 hmk t1 c10 cf10 kt kg;have t1:=HBT8.out.cell 1;simp only [gz,gs] at t1;have kt:=HBT8.out.lt
   go_wp2_with fail
   clear t1 kt;obtain ⟨i0,hi,hz0,hz1,hz2⟩:=info_parts yfa;go_loopg [49] t.ts.length (fun gg i wr=>∃(k:Nat) (rvk:Value),k+gg=t.ts.length/\i=iV k/\Hid (Blk wr G 181 [iV t.lim,.slice tao t.ts.length tc,iV t.cyc,iV t.dued,iV t.minf,iV t.minp,iV t.start,.slice uo l.length uc,iZ,iV t.start,sL w7.heap.size 0 t.ts.length t.ts.length,iZ,iZ,rvk,sZ,sZ,sZ,.nilFunc,.nilFunc,.nilFunc])/\Hid (wr.ownsRow W8.heap.size 2 1 rvk k (((t.ts.take k).map (·.1)).map (Value.int .i64)))/\Hid (yab [G] W8 wr))
   case atStart=>exact ⟨0,_,by omega,rfl,HBG8,yel _ _ _ _,yab.refl _ _⟩
   case round =>
    obtain ⟨k,rvk,hkg,rfl,HBGk,HOk,HKk⟩:=hrel;have HKG:=lh hkg;have kg:=HBGk.out.lt;cases gk with
    | zero =>
     have hlt:¬((k:Int)<(t.ts.length:Int)):=by omega
     obtain rfl:k=t.ts.length:=by omega
     clear hkg;have HTk:=lh (HT.out.keepW HBW8.out HKk.out (by have h1:=HSZ8.out.2.2;omega));have HBGR:Hid (Blk wr G 181 (yc9 t (.slice tao t.ts.length tc) (.slice uo l.length uc) (rs0 t).at' t.start (sL w7.heap.size 0 t.ts.length t.ts.length) (rs0 t).p rvk (sZ) (sZ) (sZ))):=HBGk.out
     have HRV:Hid (Sl .i64 wr rvk (rs0 t).rs/\OffF [G] rvk/\Hi (w.heap.size+1+1+1+1) rvk):= by
      have h1:=HSZ8.out;refine ⟨?_,fun b o n c e _ hm=>?_,fun b o n c e _=>?_⟩
      ·have:=HOk.out
       rw [List.take_of_length_le (Nat.le_refl _)] at this;exact Sl.of_own (xs:=t.ts.map (·.1)) this (by simp)
      ·have:=ya1 HOk.out b o n c e
       simp only [ms] at hm;omega
      ·have:=ya1 HOk.out b o n c e
       omega
     go_wp2_with fail
     refine (yng G t _ _ (rs0 t).at' t.start _ (rs0 t).p _ _ _ _ t.ts.length rfl HTS.out.2 _ HBGR.out HTk.out).mono ?_;rintro _ w9 ⟨rfl,bx',bz',k1,k2,k3,k4,k5,k6,k7⟩
     have hoZ:OffF [G] (sL w7.heap.size 0 t.ts.length t.ts.length):=fun b o n c e _ hm=>by
      cases e;have h1:=HSZ8.out;simp only [ms] at hm;omega
     have hrd:Rd [G] wr (yzo t l (rs0 t) { tv:=.slice tao t.ts.length tc,lv:=.slice uo l.length uc,pv:=sL w7.heap.size 0 t.ts.length t.ts.length,rv:=rvk,xv:=sZ,yv:=sZ,ov:=sZ,bx:=0,bz:=0,xs:=[],ys:=[],vs:=[] }):= by
      have a1:OffF [G] (.slice tao t.ts.length tc):=Fl.offNew HT.out.fl om (fun x hx=>by simp only [ms] at hx;have:=HSZ8.out.2.2;omega);have a2:=((HOU8.out.1.keep HKk.out (HOU8.out.2.mono (by simp))).rd (F:=[G]) (HOU8.out.2.mono (by simp)));exact ((HTk.out.rd a1).and (a2.and (((HZ8.out.keep HKk.out hoZ).rd hoZ).and (HRV.out.1.rd HRV.out.2.1)))).imp fun W q=>⟨q.1,q.2.1,q.2.2.1,q.2.2.2,trivial⟩
     have hhi:HiR (w.heap.size+1+1+1+1) { tv:=.slice tao t.ts.length tc,lv:=.slice uo l.length uc,pv:=sL w7.heap.size 0 t.ts.length t.ts.length,rv:=rvk,xv:=sZ,yv:=sZ,ov:=sZ,bx:=0,bz:=0,xs:=[],ys:=[],vs:=[] }:= by
      refine ⟨fun b o n c e _=>?_,HRV.out.2.2,by simp,?_,?_⟩
      ·cases e
       have h1:=HSZ8.out;omega
      ·exact Fl.offNew HT.out.fl om (fun x hx=>by simp only [ms] at hx;omega)
      ·exact HOU8.out.2.mono (by simp)
     have hfin:=yj8 (lo:=w.heap.size+1+1+1+1) (n:=t.ts.length) (F:=[G]) (s:=rs0 t) (V:={ tv:=.slice tao t.ts.length tc,lv:=.slice uo l.length uc,pv:=sL w7.heap.size 0 t.ts.length t.ts.length,rv:=rvk,xv:=sZ,yv:=sZ,ov:=sZ,bx:=0,bz:=0,xs:=[],ys:=[],vs:=[] }) (ms.2 rfl) (fun x hx=>by simp only [ms] at hx;subst hx;exact ⟨HSZ8.out.2.2,HBGk.out.lt⟩) hrd HBGR.out (yel _ _ _ _) (fun q hq=>by cases hq) k1 k2 k3 k4 k5 k6 k7 hhi;have HFIN:=lh hfin;have h8:=hfin.2.blk (HB88.out.keep HKk.out (by simp only [ms];have:=HSZ8.out.2.2;omega)) (by simp only [ms];have:=HSZ8.out.2.2;omega);have h13:=hfin.2.blk (HB138.out.keep HKk.out (by simp only [ms];have:=HSZ8.out.2.2;omega)) (by simp only [ms];have:=HSZ8.out.2.2;omega);have hsp9:=hfin.2.rd ((HSP8.out.1.keep HKk.out (HSP8.out.2.mono (by simp))).rd (F:=[G]) (HSP8.out.2.mono (by simp)));have hbel:BW w w9:=(HBW8.out.trans (HKk.out.to_below HBW8.out.size (fun x hx=>by simp only [ms] at hx;subst hx;have:=HSZ8.out.2.2;omega))).trans (hfin.2.keep.to_below (by have h1:=HBW8.out.size;have h2:=HKk.out.size;omega) (fun x hx=>by simp only [ms] at hx;subst hx;have:=HSZ8.out.2.2;omega));have H89:=lh (And.intro h8 (And.intro h13 (And.intro hsp9 hbel)));clear h8 h13 hsp9 hbel hfin hrd hhi hoZ k1 k2 k3 k4 k5 k6 k7
     have hst:t.start<=today:= by
      unfold ye2 at hr
      split at hr
      ·cases hr
      ·rename_i h1;omega
     have HSTT:=lh hst;clear hst
     go_wp2_with fail
     go_step3
     go_step
     go_step
     exact HREST.out _ _ ⟨w.heap.size+1+1+1+1,G,t.start,rs0 t,_,_,_,w.heap.size+1+1+1,_,_,_,_,_,_,_,_,_,_,_,_,_,_,_,_,_,_,_,_,_,_,_,_,_,_,_,_,_,_,_,_,_,_,_,_,_,_,_,_,_,_,_,_,_,_,_,_,_,_,_,_,_,_,_,_,_,_,_,_,_,_,_,_,_,_,_,_,_,_,_,_,_,_,_,_,_,_,_,_,_,_,_,_,_,_,_,_,_,_,_,_,_,_,_,_,_,_,_,_,_,_,_,_,_,_,_,_,_,_,_,_,_,_,_,rfl,HFIN.out.1,WInv.first HCH.out,⟨Int.le_refl _,HSTT.out⟩,by have h1:=HGR0.out;unfold goS at h1;rw [hps.out] at h1;exact h1,H89.out.2.2.1,H89.out.1,⟨0,0,H89.out.2.1.1⟩,⟨H89.out.2.1.2,by omega,by omega,rfl,HSP8.out.2.mono (by simp)⟩,H89.out.2.2.2⟩
    | succ gg =>
     have hlt:(k:Int)<(t.ts.length:Int):=by omega
     have hkn:k<t.ts.length:=by omega
     obtain ⟨tb,to',x,gr,rfl,d0,d1,HTX⟩:=(HT.out.keepW HBW8.out HKk.out (by have h1:=HSZ8.out.2.2;omega)).get hkn;have HKN:=lh hkn;clear hkg hkn;obtain ⟨ro,rc,rfl⟩:=(Sl.of_own (xs:=(t.ts.take k).map (·.1)) HOk.out (by rw [List.length_map,List.length_take];have:=HKN.out;omega)).shape;rw [show ((t.ts.take k).map (·.1)).length=k by rw [List.length_map,List.length_take];have:=HKN.out;omega] at HOk HBGk
     go_wp2_with fail
     obtain ⟨WB,hWB,HBB,HBGB,HOB,HKB⟩:∃WB,wr.alloc (.cells #[iV x,.bool gr] 81)=WB/\Hid (Blk WB wr.heap.size 81 [iV x,.bool gr])/\Hid (Blk WB G 181 [iV t.lim,sL tb to' t.ts.length tc,iV t.cyc,iV t.dued,iV t.minf,iV t.minp,iV t.start,.slice uo l.length uc,iZ,iV t.start,sL w7.heap.size 0 t.ts.length t.ts.length,iZ,iZ,.slice ro k rc,sZ,sZ,sZ,.nilFunc,.nilFunc,.nilFunc])/\Hid (WB.ownsRow W8.heap.size 2 1 (.slice ro k rc) k (((t.ts.take k).map (·.1)).map (Value.int .i64)))/\Hid (yab [G] W8 WB) :=
      ⟨_,rfl,yae wr _ _ _ rfl,HBGk.out.below (yaa bR _),yah HOk.out (yaa bR _),HKk.out.alloc _⟩
     with_reducible rw [hWB]
     clear hWB d0 d1;have HS11:Hid (∀W',BW WB W'->Ce W' G 13 (.slice ro k rc)/\Ce W' wr.heap.size 0 (iV x)):=fun W' hb=>⟨(HBGB.out.below hb).cell 13,(HBB.out.below hb).cell 0⟩;have hsd:=HS11.out WB.drew (yaf bR);have hsa:=HS11.out (WB.alloc (.cells #[iV x] 2)).drew (yaf (yaa bR _));refine yan (fun W'=>Ce W' G 13 (.slice ro k rc)/\Ce W' wr.heap.size 0 (iV x)) 9 kr ?_;refine tK 0 rfl ?_;refine tK 1 rfl ?_;refine tK 2 rfl ?_;refine tK 3 rfl ?_;refine tK 4 rfl ?_;refine tK 5 rfl ?_;refine tK 6 rfl ?_;refine wo 7 kr rfl fun K hK=>?_;go_simp;refine hK.out _ _ (fun hun=>hsa) ?_;clear hK K;try simp only [ap,aq,sa,sb,sc]
     refine wo 8 kr rfl fun K hK=>?_;refine ycs rfl (.tmp 57) (.tmp 60) 33 rfl W8.heap.size 2 i0 (iZ) 1 8 Tryz.underlying33 hi hz0 hz1 hz2 rfl (by decide) (.slice ro k rc) k (((t.ts.take k).map (·.1)).map (Value.int .i64)) (by rfl) (yah HOB.out (yaf (yaa bR _))) (Ad WB.heap.size 0) 1 1 [iV x] (by rfl) rfl (ygg WB _ _) (by intro u hu;simp at hu;subst hu;rfl) (by have:=HKN.out;have:=HTS.out.2;unfold maxLen;omega) (by have:=HKN.out;have:=HTS.out.2;omega) (by rw [World.size_drew,World.size_alloc];exact Nat.le_succ_of_le HKB.out.size) ?_;intro vO wA hownA hgA horA;obtain ⟨gO,cO,rfl⟩:=ya5 hownA om;have HOWA:=lh hownA;have HBGA:Hid (Blk wA G 181 [iV t.lim,sL tb to' t.ts.length tc,iV t.cyc,iV t.dued,iV t.minf,iV t.minp,iV t.start,.slice uo l.length uc,iZ,iV t.start,sL w7.heap.size 0 t.ts.length t.ts.length,iZ,iZ,.slice ro k rc,sZ,sZ,sZ,.nilFunc,.nilFunc,.nilFunc]):=yaq (HBGB.out.below (yaf (yaa bR _))) hgA (yaj HOB.out HBGB.out (by decide));have HKA:Hid (yab [G] W8 wA):=yab.grown (yab.drew (HKB.out.alloc _)) hgA (fun q hq=>.inr (HOB.out.lt q hq).1);have hsA:wA.cell? (Ad G 13)=some (.slice ro k rc)/\wA.cell? (Ad wr.heap.size 0)=some (iV x):=⟨HBGA.out.cell 13,(yaq (HBB.out.below (yaf (yaa bR _))) hgA (yaj HOB.out HBB.out (by decide))).cell 0⟩;clear hownA hgA horA;refine hK.out _ _ (fun hun=>hsA) ?_;clear hK K;try simp only [ap,aq,sa,sb,sc]
     refine wo 9 kr rfl fun K hK=>?_;go_simp;refine hK.out _ _ kd ?_;clear hK K;try simp only [ap,aq,sa,sb,sc]
     refine wo 10 kr rfl fun K hK=>?_;go_simp;refine hK.out _ _ kd ?_;clear hK K;try simp only [ap,aq,sa,sb,sc]
     have c13:=hsA.1;have f13:=HBGA.out.frozen 13;refine wo 11 kr rfl fun K hK=>?_;go_simp;refine hK.out _ _ kd ?_;clear hK K;try simp only [ap,aq,sa,sb,sc]
     clear c13 f13 hsA hsd hsa;refine yal kr ?_ _
     go_wp2_with fail
     go_roundg gg
     case measure=>omega
     case rel =>
      have hx:(t.ts.take k).map (·.1)++[x]=(t.ts.take (k+1)).map (·.1):= by
       have h1:=HTX.out;have h2:=HKN.out;rw [List.take_succ_eq_append_getElem h2,List.map_append]
       congr 1
       simp only [List.map_cons,List.map_nil];have:t.ts[k]=(x,gr):=by simpa [List.getD,h2] using h1
       rw [this]
      refine ⟨k+1,sL gO 0 (k+1) cO,by have:=HKG.out;omega,by go_num,HBGA.out.set 13 _,?_,HKA.out.sg _⟩;have h1:=HOWA.out;have e2:((t.ts.take k).map (·.1)).map (Value.int .i64)++[iV x]=((t.ts.take (k+1)).map (·.1)).map (Value.int .i64):=by rw [<-hx,List.map_append];rfl
      rw [e2] at h1;exact yaz h1 (yaj h1 HBGA.out (by decide)) _
 ·obtain ⟨E,hE⟩:∃E,ye2 t today=E:=⟨_,rfl⟩
  have HRT:=lh hE;have hE0:(E != 0)=true:=by rw [<-hE];simpa using hr
  have HRE:Hid (R=rn0 E):= by
   show R=rn0 E;rw [<-hR.out];unfold runS;rw [ygz HG.out,if_pos hr,hE]
  clear hr hE;refine yiq 0 1 (by decide) (fun a' w'=>∃(e:Int) (u0 u1 u2 u3 u4 u5 u6 u7 u9 u10 u11 u12 u13 u14 u16 u17 u18 u19 u20 u21 u22 u23 u24 u25 u26 u27 u28 u29 u30 u31 u32 u33 u34 u35 u36 u37 u38 u39 u40 u41 u42 u43 u44 u45 u46 u47 u48 u49 u50 u51 u52 u53 u54 u55 u56 u57 u58 u59 u60 u61 u62 u63 u64 u65 u66 u67 u68 u69 u70 u71 u72 u73 u74 u75 u76 u77 u78 u79 u80 u81 u82 u83 u84 u85 u86 u87 u88 u89 u90 u91 u92 u93 u94 u95 u96 u97 u98 u99 u100 u101 u102 u103 u104 u105 u106 u107 u108 u109 u110 u111 u112 u113 u114 u115 u116 u117 u118 u119:Value),a'={ tmps:=#[u0,u1,u2,u3,u4,u5,u6,u7,pV (w.heap.size+1+1),u9,u10,u11,u12,u13,u14,iV e,u16,u17,u18,u19,u20,u21,u22,u23,u24,u25,u26,u27,u28,u29,u30,u31,u32,u33,u34,u35,u36,u37,u38,u39,u40,u41,u42,u43,u44,u45,u46,u47,u48,u49,u50,u51,u52,u53,u54,u55,u56,u57,u58,u59,u60,u61,u62,u63,u64,u65,u66,u67,u68,u69,u70,u71,u72,u73,u74,u75,u76,u77,u78,u79,u80,u81,u82,u83,u84,u85,u86,u87,u88,u89,u90,u91,u92,u93,u94,u95,u96,u97,u98,u99,u100,u101,u102,u103,u104,u105,u106,u107,u108,u109,u110,u111,u112,u113,u114,u115,u116,u117,u118,u119],defers:=[] }/\Hid (R=rn0 e)/\Hid (Blk w' (w.heap.size+1+1) 35 [sZ,iZ,iZ])/\Hid (BW w w')) (fun _ _=>False) (fun _ _=>0) rfl rfl ?pass0 ?pass1 ?first
  case pass0 =>
   intro a1 w1 hJ J';obtain ⟨e,hJ⟩:=hJ
   iterate 118 obtain ⟨_,hJ⟩:=hJ
   exact zq21ea70
  case pass1=>exact fun _ _ h=>h.elim
  case first =>
   intro J' hout hrest;have HOUT:=lh hout;clear hout hrest
   obtain ⟨W1,hW1,HB4,HB7,HB8,HB13,HBW1,HSZ⟩:∃W1,(((w.alloc (.cells #[iV t.lim,.slice tao t.ts.length tc,iV t.cyc,iV t.dued,iV t.minf,iV t.minp,iV t.start] 24)).alloc (.cells #[.nilFunc,.nilFunc,.nilFunc] 133)).alloc (.cells #[sZ,iZ,iZ] 35)).alloc (.cells #[iZ,iZ] 40)=W1/\Hid (Blk W1 w.heap.size 24 [iV t.lim,.slice tao t.ts.length tc,iV t.cyc,iV t.dued,iV t.minf,iV t.minp,iV t.start])/\Hid (Blk W1 (w.heap.size+1) 133 [.nilFunc,.nilFunc,.nilFunc])/\Hid (Blk W1 (w.heap.size+1+1) 35 [sZ,iZ,iZ])/\Hid (Blk W1 (w.heap.size+1+1+1) 40 [iZ,iZ])/\Hid (BW w W1)/\Hid (W1.heap.size=w.heap.size+1+1+1+1) :=
    ⟨_,rfl,Blk.below (yae w _ _ _ rfl) (yaa (yaa (yaa bR _) _) _),Blk.below (yae (w.alloc _) _ _ _ (by simp)) (yaa (yaa bR _) _),Blk.below (yae ((w.alloc _).alloc _) _ _ _ (by simp)) (yaa bR _),yae (((w.alloc _).alloc _).alloc _) _ _ _ (by simp),yaa (yaa (yaa (yaa bR _) _) _) _,by show _=_;simp⟩
   have HS3:Hid (∀W',BW W1 W'->Ce W' w.heap.size 0 (iV t.lim)/\Ce W' w.heap.size 1 (.slice tao t.ts.length tc)/\Ce W' w.heap.size 2 (iV t.cyc)/\Ce W' w.heap.size 3 (iV t.dued)/\Ce W' w.heap.size 4 (iV t.minf)/\Ce W' w.heap.size 5 (iV t.minp)/\Ce W' w.heap.size 6 (iV t.start)/\W'.cell? (Ad (w.heap.size+1) 0)=some .nilFunc/\W'.cell? (Ad (w.heap.size+1) 1)=some .nilFunc/\W'.cell? (Ad (w.heap.size+1) 2)=some .nilFunc):=fun W' hb=>by
    have q1:=HB4.out.below hb;have q2:=HB7.out.below hb;exact ⟨q1.cell 0,q1.cell 1,q1.cell 2,q1.cell 3,q1.cell 4,q1.cell 5,q1.cell 6,q2.cell 0,q2.cell 1,q2.cell 2⟩
   have HW1:=lh hW1;clear hW1;have hsd:=HS3.out W1.drew (yaf bR);go_upto_region 3 with fail
   with_reducible rw [HW1.out]
   go_region_held3 (fun W'=>Ce W' w.heap.size 0 (iV t.lim)/\Ce W' w.heap.size 1 (.slice tao t.ts.length tc)/\Ce W' w.heap.size 2 (iV t.cyc)/\Ce W' w.heap.size 3 (iV t.dued)/\Ce W' w.heap.size 4 (iV t.minf)/\Ce W' w.heap.size 5 (iV t.minp)/\Ce W' w.heap.size 6 (iV t.start)/\W'.cell? (Ad (w.heap.size+1) 0)=some .nilFunc/\W'.cell? (Ad (w.heap.size+1) 1)=some .nilFunc/\W'.cell? (Ad (w.heap.size+1) 2)=some .nilFunc) (first | with_reducible exact hsd | exact HSX.out | exact HS3.out _ (yaa HB5.out _)) (first | (go_at_call 86;refine (yht _ l HA (by have:=HG.out.len;omega) _ (HL.out.below (by first | exact HBW1.out | exact yaf HBW1.out))).mono ?_;rintro _ w5 ⟨u,rfl,hou,hb5⟩;obtain ⟨uo,uc,rfl⟩:=(R5S.of_own hou rfl).shape;have HOU:=lh hou;have HB5:Hid (BW W1 w5):=(by first | exact hb5 | exact yad (yaf bR) hb5);have HSX:=lh (HS3.out _ HB5.out);clear hou hb5))
   obtain ⟨W3,hW3,HBG,HBT,HB83,HB133,HOU3,HBW3,HSZ3,HSZG⟩:∃W3,w5.alloc (.cells #[iV t.lim,.slice tao t.ts.length tc,iV t.cyc,iV t.dued,iV t.minf,iV t.minp,iV t.start,.slice uo l.length uc,iZ,iV t.start,sZ,iZ,iZ,sZ,sZ,sZ,sZ,.nilFunc,.nilFunc,.nilFunc] 181)=W3/\Hid (Blk W3 w5.heap.size 181 [iV t.lim,.slice tao t.ts.length tc,iV t.cyc,iV t.dued,iV t.minf,iV t.minp,iV t.start,.slice uo l.length uc,iZ,iV t.start,sZ,iZ,iZ,sZ,sZ,sZ,sZ,.nilFunc,.nilFunc,.nilFunc])/\Hid (Blk W3 w.heap.size 24 [iV t.lim,.slice tao t.ts.length tc,iV t.cyc,iV t.dued,iV t.minf,iV t.minp,iV t.start])/\Hid (Blk W3 (w.heap.size+1+1) 35 [sZ,iZ,iZ])/\Hid (Blk W3 (w.heap.size+1+1+1) 40 [iZ,iZ])/\Hid (W3.ownsRow (w.heap.size+1+1+1+1) 150 5 (.slice uo l.length uc) l.length (yag l))/\Hid (BW w W3)/\Hid (w.heap.size+1+1+1+1<=w5.heap.size)/\Hid (W3.heap.size=w5.heap.size+1):= by
    exact zq21e8b6
   with_reducible rw [hW3]
   clear hW3;obtain ⟨G,hG⟩:∃G,w5.heap.size=G:=⟨_,rfl⟩;rw [hG] at HBG HSZ3 HSZG ⊢;obtain ⟨t0,t1,t2,t3,t4,t5,t6,-⟩:=HBT.out.cs [0,1,2,3,4,5,6];simp only [gz,gs] at t0 t1 t2 t3 t4 t5 t6;have kt:=HBT.out.lt
   go_wp2_with fail
   refine (ym7 t _ _ l today HG E HRT _ (HT.out.below HBW3.out) (HL.out.below HBW3.out)).mono ?_;rintro _ w6 ⟨rfl,hb6⟩;have HB6:=lh hb6;clear hb6 t0 t1 t2 t3 t4 t5 t6 kt hsd
   go_wp2_with fail
   go_step3
   exact HOUT.out _ _ ⟨E,_,_,_,_,_,_,_,_,_,_,_,_,_,_,_,_,_,_,_,_,_,_,_,_,_,_,_,_,_,_,_,_,_,_,_,_,_,_,_,_,_,_,_,_,_,_,_,_,_,_,_,_,_,_,_,_,_,_,_,_,_,_,_,_,_,_,_,_,_,_,_,_,_,_,_,_,_,_,_,_,_,_,_,_,_,_,_,_,_,_,_,_,_,_,_,_,_,_,_,_,_,_,_,_,_,_,_,_,_,_,_,_,_,_,_,_,_,_,rfl,HRE,HB83.out.below HB6.out,yad HBW3.out HB6.out⟩
end Go.Proofs.YtkongpjpkpfniaaGreat

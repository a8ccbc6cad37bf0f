/- TopPaid: parts of the proof, made small by a program (mini.py). -/
import Derived.Test.YtkongpjpkpfniaaGreatM01
import Derived.Test.YtkongpjpkpfniaaGreatM14
import Derived.Test.YtkongpjpkpfniaaGreatM20
import Derived.Test.YtkongpjpkpfniaaGreatM22
import Derived.Test.YtkongpjpkpfniaaGreatM27
set_option linter.unusedVariables false
set_option linter.unusedSimpArgs false
set_option maxRecDepth 100000
set_option maxHeartbeats 6400000
namespace Go.Proofs.YtkongpjpkpfniaaGreat
open Go.RowKit
section
theorem yx8 (w:World):(binOp BinOp.neq 130 Value.nilFunc Value.nilFunc).run Tryz.prog w=.ok (.bool false) w:=by kernel_rfl
attribute [local go_sem] yx8
theorem ycs {P:Program} {w:World} {ops:Array Oper} {o:Oper} {a:Act} {K:Act→World→Prop} {Q:Exit→Act→World→Prop} {E:Prop} (hgd:o.guard=none) (s x:Operand) (t:TypeId)
 (ho:o.op=.call { callee:=.builtin .append,args:=#[s,x],argTypes:=#[t,t] })
 (base:Nat) (e:TypeId) (i:TypeInfo) (z:Value) (size bytes:Nat) (ht:P.underlying t=some (.slice e)) (hi:P.info? e=some i) (hz:i.zero=some z)
 (hsize:i.size=size) (hby:i.bytes=bytes) (hzs:z.cells.size=size) (hsz:0<size)
 (v:Value) (n:Nat) (xs:List Value) (hs:a.eval s=v) (hown:w.ownsRow base e size v n xs)
 (ad:Addr) (m c:Nat) (news:List Value) (hx:a.eval x=.slice (some ad) m c) (hl:news.length=m*size) (hnews:∀j u,news[j]?=some u→w.cell? (ad.add j)=some u) (h1:∀u∈news,u.oneCell'=true)
 (h63:n+m≤maxLen) (hbytes:(n+m)*bytes≤140737488355328) (hbase:base≤w.heap.size)
 (h:∀v' w',w'.ownsRow base e size v' (n+m) (xs++news)→w.grownBy w' v.ownBlock→(v'.ownBlock=v.ownBlock∨v'.ownBlock=some w.heap.size)→K (a.put o.dst v') w') :
 if Region.wanted o (yielded ops a.tmps)=true then Oper.wp P o a w K Q else E:= by
 have hw:Region.wanted o (yielded ops a.tmps)=true:=by simp [Region.wanted,hgd]
 rw [if_pos hw];exact yee w s x t ho base e i z size bytes ht hi hz hsize hby hzs hsz v n xs hs hown ad m c news hx hl hnews h1 h63 hbytes hbase h
theorem yly (w:World) (cs:List Value) (t:TypeId):∀j u,cs[j]?=some u→(w.alloc (.cells cs.toArray t)).cell? ((⟨w.heap.size,0,none⟩:Addr).add j)=some u:= by
 intro j u hu;have h:Blk (w.alloc (.cells cs.toArray t)) w.heap.size t cs:=heap_alloc_new w _;rw [Addr.add_lit,h.cell,Nat.zero_add];exact hu
theorem ygg (w:World) (cs:List Value) (t:TypeId):∀j u,cs[j]?=some u→(w.alloc (.cells cs.toArray t)).drew.cell? ((⟨w.heap.size,0,none⟩:Addr).add j)=some u:=yly w cs t
theorem yb2.lookX {lo g:Nat} {t:Tm} {l:List R5} {day:Int} {s:RS} {F:List Nat} {W:World} {V:RV} (h:yb2 lo g t l day s F W V) {n k:Nat} (hX:s.X.length=n) (hb:s.p.bs.length=n) (hk:k<n) :
 ∃ro rc pc q f z,V.xv=.slice (some ⟨V.bx,0,none⟩) n n∧V.pv=.slice (some ⟨q,f,none⟩) n pc∧V.xs.getD k (sZ)=.slice ro (s.X.getD k []).length rc∧W.cell? ⟨V.bx,k,none⟩=some (.slice ro (s.X.getD k []).length rc)∧W.frozen? ⟨V.bx,k,none⟩=false∧W.cell? ⟨q,f+k,none⟩=some (iV z)∧s.p.bs.getD k 0=z∧W.ownsRow lo 2 1 (.slice ro (s.X.getD k []).length rc) (s.X.getD k []).length ((s.X.getD k []).map (Value.int .i64)):= by
 subst hX;have ho:=h.X.rows k hk;obtain ⟨ro,rc,he⟩:=(Sl.of_own ho rfl).shape;obtain ⟨po,pc,hp⟩:=(h.rd.now.2.2.1).shape;have hs:=h.rd.now.2.2.1;rw [hp] at hs;obtain ⟨q,f,z,hq,hz,hzz⟩:=hs.get (i:=k) om;refine ⟨ro,rc,pc,q,f,z,h.X.val,by rw [hp,hq,hb],he,?_,h.X.blk.frozen k,hz,hzz,he▸ho⟩;rw [h.X.blk.cell,←he];simp [List.getD,show k<V.xs.length by rw [h.X.len];exact hk]
theorem yb2.lookY {lo g:Nat} {t:Tm} {l:List R5} {day:Int} {s:RS} {F:List Nat} {W:World} {V:RV} (h:yb2 lo g t l day s F W V) {n k:Nat} (hX:s.Y.length=n) (hb:s.rs.length=n) (hk:k<n) :
 ∃ro rc pc q f z,V.yv=.slice (some ⟨V.bz,0,none⟩) n n∧V.rv=.slice (some ⟨q,f,none⟩) n pc∧V.ys.getD k (sZ)=.slice ro (s.Y.getD k []).length rc∧W.cell? ⟨V.bz,k,none⟩=some (.slice ro (s.Y.getD k []).length rc)∧W.frozen? ⟨V.bz,k,none⟩=false∧W.cell? ⟨q,f+k,none⟩=some (iV z)∧s.rs.getD k 0=z∧W.ownsRow lo 2 1 (.slice ro (s.Y.getD k []).length rc) (s.Y.getD k []).length ((s.Y.getD k []).map (Value.int .i64)):= by
 subst hX;have ho:=h.Y.rows k hk;obtain ⟨ro,rc,he⟩:=(Sl.of_own ho rfl).shape;obtain ⟨po,pc,hp⟩:=(h.rd.now.2.2.2.1).shape;have hs:=h.rd.now.2.2.2.1;rw [hp] at hs;obtain ⟨q,f,z,hq,hz,hzz⟩:=hs.get (i:=k) om;refine ⟨ro,rc,pc,q,f,z,h.Y.val,by rw [hp,hq,hb],he,?_,h.Y.blk.frozen k,hz,hzz,he▸ho⟩;rw [h.Y.blk.cell,←he];simp [List.getD,show k<V.ys.length by rw [h.Y.len];exact hk]
def yv7 (v:Value) (lo g:Nat) (t:Tm) (l:List R5) (day:Int) (s:RS) (F:List Nat) (w:World) (e:Ending) (w':World):Prop:=e=.returned v∧∃F' V',yb2 lo g t l day s F' w' V'∧Stp F w F' w'
theorem yym (lo g:Nat) (t:Tm) (l:List R5) (day:Int) (s:RS) (F:List Nat) (V:RV) (n:Nat) (hXl:s.X.length=n) (hYl:s.Y.length=n) (hbl:s.p.bs.length=n) (hrl:s.rs.length=n) (hn:n≤1000) (HLX:Hid (∀k,k<n→(s.X.getD k []).length≤10000000)) (HLY:Hid (∀k,k<n→(s.Y.getD k []).length≤10000000)) (w:World) (h:yb2 lo g t l day s F w V) :
 Calls Tryz.prog 91 #[pV g] w (yv7 (.tuple #[]) lo g t l day (ydh s) F w):= by
 have H0:=lh h;have HL:=lh (And.intro hXl (And.intro hYl (And.intro hbl (And.intro hrl hn))));have c0:w.cell? ⟨g,13,none⟩=some V.rv:=h.blk.cell 13;have kg:=h.blk.lt
 obtain ⟨rvo,rvc,hrv⟩:∃ao cap,V.rv=.slice ao n cap:= by
  have:=(h.rd.now.2.2.2.1).shape;rw [hrl] at this;exact this
 rw [hrv] at c0;clear h hXl hYl hbl hrl hrv;obtain ⟨i0,hi,hz0,hz1,hz2⟩:=info_parts yfa
 go_enter Tryz.func91,Tryz.ntmps91
 go_wp2_with fail
 clear c0 kg;go_loopg [8] n (fun gg i wr=>∃k:Nat,k+gg=n∧i=iV k∧∃F' V',Hid (yb2 lo g t l day { s with X:=endK s.X s.p.bs k,Y:=endK s.Y s.rs k } F' wr V')∧Hid (Stp F w F' wr))
 case atStart=>exact ⟨0,by omega,rfl,F,V,by rw [yog,yog];exact H0,Stp.refl _ _⟩
 case round =>
  obtain ⟨k,hkg,rfl,F',V',HX,HST⟩:=hrel;have HKG:=lh hkg;have hn:=HL.out.2.2.2.2;cases gk with
  | zero =>
   have hlt:¬((k:Int)<(n:Int)):=by omega
   obtain rfl:k=n:=by omega
   have cw:=HX.out.blk.cell 18;have kg:=HX.out.blk.lt;simp only [yc9,List.getElem?_cons_zero,List.getElem?_cons_succ] at cw;clear hkg
   go_wp2_with fail
   go_end0
   refine ⟨rfl,F',V',?_,HST.out⟩;have e:=HX.out;rw [show endK s.X s.p.bs k=ye8 s.X s.p.bs by rw [←HL.out.1];exact yrn _ _,show endK s.Y s.rs k=ye8 s.Y s.rs by rw [←HL.out.2.1];exact yrn _ _] at e;exact e
  | succ gg =>
   have hlt:(k:Int)<(n:Int):=by omega
   have hk0:(0:Int)≤(k:Int):=by omega
   have HKN:Hid (k<n):=by show k<n;omega
   obtain ⟨tv,lv,pv,rv,xv,yv,ov,bx,bz,xs,ys,vs⟩:=V';obtain ⟨sX,hsX⟩:∃sX:RS,{ s with X:=endK s.X s.p.bs k,Y:=endK s.Y s.rs k }=sX:=⟨_,rfl⟩;have HSX:=lh hsX;rw [hsX] at HX;have HXLX:Hid (sX.X.length=n):=by rw [←hsX];show (endK _ _ _).length=n;rw [yeq];exact HL.out.1
   have HYLX:Hid (sX.Y.length=n):=by rw [←hsX];show (endK _ _ _).length=n;rw [yeq];exact HL.out.2.1
   have HBLX:Hid (sX.p.bs.length=n):=by rw [←hsX];exact HL.out.2.2.1
   have HRLX0:Hid (sX.rs.length=n):=by rw [←hsX];exact HL.out.2.2.2.1
   have HGX:Hid (sX.X.getD k []=s.X.getD k []):=by rw [←hsX];show (endK _ _ _).getD k []=_;rw [yhh _ _ _ _ (by rw [HL.out.1];exact HKN.out),if_neg om]
   have HGY:Hid (sX.Y.getD k []=s.Y.getD k []):=by rw [←hsX];show (endK _ _ _).getD k []=_;rw [yhh _ _ _ _ (by rw [HL.out.2.1];exact HKN.out),if_neg om]
   clear hsX hkg;have hkX:=HKN.out;have HRLX:Hid ((s.X.getD k []).length≤10000000):=HLX.out k HKN.out;obtain ⟨roX,rcX,pcX,qX,fX,zX,e1,e2,HEX,HCX,fzX,HZX,HZZX,HOX⟩:=HX.out.lookX (n:=n) (k:=k) HXLX.out HBLX.out HKN.out;simp only at e1 e2 HEX HCX fzX HOX;subst e1 e2;rw [HGX.out] at HEX HCX HOX;obtain ⟨rwX,hrwX⟩:∃rw',s.X.getD k []=rw':=⟨_,rfl⟩;rw [hrwX] at HEX HCX HOX HRLX HGX;obtain ⟨rlX,hrlX⟩:∃rl,rwX.length=rl:=⟨_,rfl⟩;rw [hrlX] at HEX HCX HOX HRLX;have HRWX:=lh hrwX;have HRLLX:=lh hrlX;have HCX:=lh HCX;have HZX:=lh HZX;have HEX:=lh HEX;have HOX:=lh HOX;have HZZX:=lh HZZX
   have HLOX:Hid (lo≤wr.heap.size):= by
    have h1:=HX.out.lt g HX.out.gF;show lo≤_;omega
   clear fzX hrwX hrlX hkX;obtain ⟨FX,hFX⟩:∃FX,FX=F':=⟨_,rfl⟩;subst hFX;obtain ⟨WX,hWX⟩:∃WX,WX=wr:=⟨_,rfl⟩;subst hWX
   have hSX:∀W',Below WX.heap.size WX W'→((W'.cell? ⟨g,14,none⟩=some (.slice (some ⟨bx,0,none⟩) n n))∧(W'.cell? ⟨bx,k,none⟩=some (.slice roX rlX rcX))∧(W'.cell? ⟨g,10,none⟩=some (.slice (some ⟨qX,fX,none⟩) n pcX))∧(W'.cell? ⟨qX,fX+k,none⟩=some (iV zX))):=fun W' hb =>
    ⟨(HX.out.blk.below hb).cell 14,(hb.cell (p:=⟨bx,k,none⟩) (yac HCX.out)).trans HCX.out,(HX.out.blk.below hb).cell 10,(hb.cell (p:=⟨qX,fX+k,none⟩) (yac HZX.out)).trans HZX.out⟩
   have HSX:=lh hSX;have hsdX:=hSX WX.drew (yaf bR);have hsaX:=hSX (WX.alloc (.cells #[iV zX] 2)).drew (yaf (yaa bR _));clear hSX;go_upto_region 3 with fail
   refine yan (fun W'=>(W'.cell? ⟨g,14,none⟩=some (.slice (some ⟨bx,0,none⟩) n n))∧(W'.cell? ⟨bx,k,none⟩=some (.slice roX rlX rcX))∧(W'.cell? ⟨g,10,none⟩=some (.slice (some ⟨qX,fX,none⟩) n pcX))∧(W'.cell? ⟨qX,fX+k,none⟩=some (iV zX))) 24 kr ?_;refine tk 0 rfl kr ke rfl kv ka kp ?_;refine tk 1 rfl kr ke rfl kv ka kp ?_;refine tk 2 rfl kr ke rfl kv ka kp ?_;refine tk 3 rfl kr ke rfl kv ka kp ?_;refine tk 4 rfl kr ke rfl kv ka kp ?_;refine tk 5 rfl kr ke rfl kv ka kp ?_;refine tk 6 rfl kr ke rfl kv ka kp ?_;refine tk 7 rfl kr ke rfl kv ka kp ?_;refine tk 8 rfl kr ke rfl kv ka kp ?_;refine tk 9 rfl kr ke rfl kv ka kp ?_;refine tk 10 rfl kr ke rfl kv ka kp ?_;refine tk 11 rfl kr ke rfl kv ka kp ?_;refine tk 12 rfl kr ke rfl kv ka kp ?_;refine tk 13 rfl kr ke rfl kv ka kp ?_;refine tk 14 rfl kr ke rfl kv ka kp ?_;refine tk 15 rfl kr ke rfl kv ka kp ?_;refine tk 16 rfl kr ke rfl kv ka kp ?_;refine tk 17 rfl kr ke rfl kv ka kp ?_;refine tk 18 rfl kr ke rfl kv ka kp ?_;refine tk 19 rfl kr ke rfl kv ka kp ?_;refine tk 20 rfl kr ke rfl kv ka kp ?_;refine tk 21 rfl kr ke rfl kv ka kp ?_;refine wo 22 kr rfl fun K hK=>?_;go_simp;refine hK.out _ _ (fun hun=>hsaX) ?_;clear hK K;try simp only [ap,aq,sa,sb,sc]
   refine wo 23 kr rfl fun K hK=>?_;refine ycs rfl (.tmp 24) (.tmp 33) 33 rfl lo 2 i0 (iZ) 1 8 Tryz.underlying33 hi hz0 hz1 hz2 rfl (by decide) (.slice roX rlX rcX) rlX (rwX.map (Value.int .i64)) (by rfl) (yah HOX.out (yaf (yaa bR _))) ⟨WX.heap.size,0,none⟩ 1 1 [iV zX] (by rfl) rfl (ygg WX _ _) (by intro u hu;simp at hu;subst hu;rfl) (by have:=HRLX.out;unfold maxLen;omega) (by have:=HRLX.out;omega) (by rw [World.size_drew,World.size_alloc];exact Nat.le_succ_of_le HLOX.out) ?_;intro vX wX hownX hgX horX;obtain ⟨gX,cX,rfl⟩:=ya5 hownX om;have HOWX:=lh hownX;have HGX:=lh hgX;have HORX:=lh horX;have HNX:Hid (∀b e cs,Blk WX b e cs→e≠2→Blk wX b e cs):=fun b e cs hb he=>yaq (hb.below (yaf (yaa bR _))) hgX (yaj HOX.out hb he);have HBBX:=lh (HNX.out _ _ _ HX.out.X.blk (by decide));have hbcX:wX.cell? ⟨bx,k,none⟩=some (.slice roX rlX rcX):=by rw [HBBX.out.cell,←HX.out.X.blk.cell];exact HCX.out
   have hbfX:=HBBX.out.frozen k
   have hswX:(wX.cell? ⟨g,14,none⟩=some (.slice (some ⟨bx,0,none⟩) n n))∧(wX.cell? ⟨bx,k,none⟩=some (.slice roX rlX rcX))∧(wX.cell? ⟨g,10,none⟩=some (.slice (some ⟨qX,fX,none⟩) n pcX))∧(wX.cell? ⟨qX,fX+k,none⟩=some (iV zX)):= by
    have hk:yab FX WX wX:=yab.grown (yab.drew ((yab.refl _ _).alloc _)) hgX (fun x hx=>.inl (HX.out.X.inF k (by rw [HXLX.out];exact HKN.out) x (by rw [HEX.out];exact hx)));have hsl:=((HX.out.rd _ hk).2.2.1);obtain ⟨q',f',z',e',hz',hzz'⟩:=hsl.get (i:=k) (by rw [HBLX.out];exact HKN.out);cases e';rw [hzz'.symm.trans HZZX.out] at hz';exact ⟨(HNX.out _ _ _ HX.out.blk (by decide)).cell 14,hbcX,(HNX.out _ _ _ HX.out.blk (by decide)).cell 10,hz'⟩
   clear hownX hgX horX;refine hK.out _ _ (fun hun=>hswX) ?_;clear hK K;try simp only [ap,aq,sa,sb,sc]
   refine wo 24 kr rfl fun K hK=>?_;go_simp;refine hK.out _ _ kd ?_;clear hK K hswX;try simp only [ap,aq,sa,sb,sc]
   refine wo 25 kr rfl fun K hK=>?_;go_simp;refine hK.out _ _ kd ?_;clear hK K hbcX hbfX hsdX hsaX;try simp only [ap,aq,sa,sb,sc]
   refine yal kr ?_ _;obtain ⟨FNX,hFNX⟩:∃FN,(Value.slice (some ⟨gX,0,none⟩) (rlX+1) cX).ownBlock.toList++FX=FN:=⟨_,rfl⟩;obtain ⟨aNX,haNX⟩:∃aN,xs.set k (.slice (some ⟨gX,0,none⟩) (rlX+1) cX)=aN:=⟨_,rfl⟩;obtain ⟨sNX,hsNX⟩:∃sN:RS,{ sX with X:=sX.X.set k (rwX++[zX]) }=sN:=⟨_,rfl⟩
   obtain ⟨WY,hWX,HRX,HSTX⟩:∃W2,wX.setCell ⟨bx,k,none⟩ (.slice (some ⟨gX,0,none⟩) (rlX+1) cX)=W2∧Hid (yb2 lo g t l day sNX FNX W2 { tv:=tv,lv:=lv,pv:=.slice (some ⟨qX,fX,none⟩) n pcX,rv:=rv,xv:=.slice (some ⟨bx,0,none⟩) n n,yv:=yv,ov:=ov,bx:=bx,bz:=bz,xs:=aNX,ys:=ys,vs:=vs })∧Hid (Stp FX WX FNX W2):= by
    have hlen:(rwX++[zX]).length=rlX+1:=by rw [List.length_append,HRLLX.out];rfl
    have hK1:yab (Value.slice roX rlX rcX).ownBlock.toList WX wX:=yab.grown (yab.drew ((yab.refl _ _).alloc _)) HGX.out (fun q hq=>.inl (Option.mem_toList.2 hq));have hK2:yab (bx::(Value.slice roX rlX rcX).ownBlock.toList) WX (wX.setCell ⟨bx,k,none⟩ (.slice (some ⟨gX,0,none⟩) (rlX+1) cX)):=(hK1.mono (fun x hx=>List.mem_cons_of_mem _ hx)).sg _
    have h:=HX.out.rowX (k:=k) (v':=.slice (some ⟨gX,0,none⟩) (rlX+1) cX) (y:=rwX++[zX]) (by rw [HXLX.out];exact HKN.out) (by simp only [HEX.out];exact hK2) (HBBX.out.set k _) (by rw [hlen,List.map_append];exact yaz HOWX.out (yaj HOWX.out HBBX.out (by decide)) _) (by
     simp only [HEX.out];rcases HORX.out with e | e
     ·exact .inl e
     ·refine .inr ⟨_,e,?_⟩
      rw [World.size_drew,World.size_alloc];exact Nat.le_succ _)
    rw [hFNX,hsNX] at h;simp only [haNX] at h;exact ⟨_,rfl,h.1,h.2⟩
   with_reducible rw [hWX]
   have HSNX:=lh hsNX;clear hWX hFNX haNX hsNX HOWX HGX HORX HNX HBBX HSX HOX;have HYLY:Hid (sNX.Y.length=n):=by rw [←HSNX.out];exact HYLX.out
   have HRLY0:Hid (sNX.rs.length=n):=by rw [←HSNX.out];exact HRLX0.out
   have HGY2:Hid (sNX.Y.getD k []=s.Y.getD k []):=by rw [←HSNX.out];exact HGY.out
   have HRLY:Hid ((s.Y.getD k []).length≤10000000):=HLY.out k HKN.out;obtain ⟨roY,rcY,pcY,qY,fY,zY,e1,e2,HEY,HCY,fzY,HZY,HZZY,HOY⟩:=HRX.out.lookY (n:=n) (k:=k) HYLY.out HRLY0.out HKN.out;simp only at e1 e2 HEY HCY fzY HOY;subst e1 e2;rw [HGY2.out] at HEY HCY HOY;obtain ⟨rwY,hrwY⟩:∃rw',s.Y.getD k []=rw':=⟨_,rfl⟩;rw [hrwY] at HEY HCY HOY HRLY HGY2;obtain ⟨rlY,hrlY⟩:∃rl,rwY.length=rl:=⟨_,rfl⟩;rw [hrlY] at HEY HCY HOY HRLY;have HRWY:=lh hrwY;have HRLLY:=lh hrlY;have HCY:=lh HCY;have HZY:=lh HZY;have HEY:=lh HEY;have HOY:=lh HOY;have HZZY:=lh HZZY
   have HLOY:Hid (lo≤WY.heap.size):= by
    have h1:=HRX.out.lt g HRX.out.gF;show lo≤_;omega
   have HXLY:=HYLY;have HBLY:=HRLY0;obtain ⟨FY,hFY⟩:∃FY,FY=FNX:=⟨_,rfl⟩;subst hFY;obtain ⟨sY,hsY⟩:∃sY,sY=sNX:=⟨_,rfl⟩;subst hsY;have HY:=HRX;clear fzY hrwY hrlY
   have hSY:∀W',Below WY.heap.size WY W'→((W'.cell? ⟨g,15,none⟩=some (.slice (some ⟨bz,0,none⟩) n n))∧(W'.cell? ⟨bz,k,none⟩=some (.slice roY rlY rcY))∧(W'.cell? ⟨g,13,none⟩=some (.slice (some ⟨qY,fY,none⟩) n pcY))∧(W'.cell? ⟨qY,fY+k,none⟩=some (iV zY))):=fun W' hb =>
    ⟨(HY.out.blk.below hb).cell 15,(hb.cell (p:=⟨bz,k,none⟩) (yac HCY.out)).trans HCY.out,(HY.out.blk.below hb).cell 13,(hb.cell (p:=⟨qY,fY+k,none⟩) (yac HZY.out)).trans HZY.out⟩
   have HSY:=lh hSY;have hsdY:=hSY WY.drew (yaf bR);have hsaY:=hSY (WY.alloc (.cells #[iV zY] 2)).drew (yaf (yaa bR _));clear hSY;go_upto_region 4 with fail
   refine yan (fun W'=>(W'.cell? ⟨g,15,none⟩=some (.slice (some ⟨bz,0,none⟩) n n))∧(W'.cell? ⟨bz,k,none⟩=some (.slice roY rlY rcY))∧(W'.cell? ⟨g,13,none⟩=some (.slice (some ⟨qY,fY,none⟩) n pcY))∧(W'.cell? ⟨qY,fY+k,none⟩=some (iV zY))) 23 kr ?_;refine tk 0 rfl kr ke rfl kv ka kp ?_;refine tk 1 rfl kr ke rfl kv ka kp ?_;refine tk 2 rfl kr ke rfl kv ka kp ?_;refine tk 3 rfl kr ke rfl kv ka kp ?_;refine tk 4 rfl kr ke rfl kv ka kp ?_;refine tk 5 rfl kr ke rfl kv ka kp ?_;refine tk 6 rfl kr ke rfl kv ka kp ?_;refine tk 7 rfl kr ke rfl kv ka kp ?_;refine tk 8 rfl kr ke rfl kv ka kp ?_;refine tk 9 rfl kr ke rfl kv ka kp ?_;refine tk 10 rfl kr ke rfl kv ka kp ?_;refine tk 11 rfl kr ke rfl kv ka kp ?_;refine tk 12 rfl kr ke rfl kv ka kp ?_;refine tk 13 rfl kr ke rfl kv ka kp ?_;refine tk 14 rfl kr ke rfl kv ka kp ?_;refine tk 15 rfl kr ke rfl kv ka kp ?_;refine tk 16 rfl kr ke rfl kv ka kp ?_;refine tk 17 rfl kr ke rfl kv ka kp ?_;refine tk 18 rfl kr ke rfl kv ka kp ?_;refine tk 19 rfl kr ke rfl kv ka kp ?_;refine tk 20 rfl kr ke rfl kv ka kp ?_;refine wo 21 kr rfl fun K hK=>?_;go_simp;refine hK.out _ _ (fun hun=>hsaY) ?_;clear hK K;try simp only [ap,aq,sa,sb,sc]
   refine wo 22 kr rfl fun K hK=>?_;refine ycs rfl (.tmp 49) (.tmp 57) 33 rfl lo 2 i0 (iZ) 1 8 Tryz.underlying33 hi hz0 hz1 hz2 rfl (by decide) (.slice roY rlY rcY) rlY (rwY.map (Value.int .i64)) (by rfl) (yah HOY.out (yaf (yaa bR _))) ⟨WY.heap.size,0,none⟩ 1 1 [iV zY] (by rfl) rfl (ygg WY _ _) (by intro u hu;simp at hu;subst hu;rfl) (by have:=HRLY.out;unfold maxLen;omega) (by have:=HRLY.out;omega) (by rw [World.size_drew,World.size_alloc];exact Nat.le_succ_of_le HLOY.out) ?_;intro vY wY hownY hgY horY;obtain ⟨gY,cY,rfl⟩:=ya5 hownY om;have HOWY:=lh hownY;have HGY:=lh hgY;have HORY:=lh horY;have HNY:Hid (∀b e cs,Blk WY b e cs→e≠2→Blk wY b e cs):=fun b e cs hb he=>yaq (hb.below (yaf (yaa bR _))) hgY (yaj HOY.out hb he);have HBBY:=lh (HNY.out _ _ _ HY.out.Y.blk (by decide));have hbcY:wY.cell? ⟨bz,k,none⟩=some (.slice roY rlY rcY):=by rw [HBBY.out.cell,←HY.out.Y.blk.cell];exact HCY.out
   have hbfY:=HBBY.out.frozen k
   have hswY:(wY.cell? ⟨g,15,none⟩=some (.slice (some ⟨bz,0,none⟩) n n))∧(wY.cell? ⟨bz,k,none⟩=some (.slice roY rlY rcY))∧(wY.cell? ⟨g,13,none⟩=some (.slice (some ⟨qY,fY,none⟩) n pcY))∧(wY.cell? ⟨qY,fY+k,none⟩=some (iV zY)):= by
    have hk:yab FY WY wY:=yab.grown (yab.drew ((yab.refl _ _).alloc _)) hgY (fun x hx=>.inl (HY.out.Y.inF k (by rw [HXLY.out];exact HKN.out) x (by rw [HEY.out];exact hx)));have hsl:=((HY.out.rd _ hk).2.2.2.1);obtain ⟨q',f',z',e',hz',hzz'⟩:=hsl.get (i:=k) (by rw [HBLY.out];exact HKN.out);cases e';rw [hzz'.symm.trans HZZY.out] at hz';exact ⟨(HNY.out _ _ _ HY.out.blk (by decide)).cell 15,hbcY,(HNY.out _ _ _ HY.out.blk (by decide)).cell 13,hz'⟩
   clear hownY hgY horY;refine hK.out _ _ (fun hun=>hswY) ?_;clear hK K;try simp only [ap,aq,sa,sb,sc]
   refine wo 23 kr rfl fun K hK=>?_;go_simp;refine hK.out _ _ kd ?_;clear hK K hswY;try simp only [ap,aq,sa,sb,sc]
   refine wo 24 kr rfl fun K hK=>?_;go_simp;refine hK.out _ _ kd ?_;clear hK K hbcY hbfY hsdY hsaY;try simp only [ap,aq,sa,sb,sc]
   refine yal kr ?_ _;obtain ⟨FNY,hFNY⟩:∃FN,(Value.slice (some ⟨gY,0,none⟩) (rlY+1) cY).ownBlock.toList++FY=FN:=⟨_,rfl⟩;obtain ⟨aNY,haNY⟩:∃aN,ys.set k (.slice (some ⟨gY,0,none⟩) (rlY+1) cY)=aN:=⟨_,rfl⟩;obtain ⟨sNY,hsNY⟩:∃sN:RS,{ sY with Y:=sY.Y.set k (rwY++[zY]) }=sN:=⟨_,rfl⟩
   obtain ⟨WZ,hWY,HRY,HSTY⟩:∃W2,wY.setCell ⟨bz,k,none⟩ (.slice (some ⟨gY,0,none⟩) (rlY+1) cY)=W2∧Hid (yb2 lo g t l day sNY FNY W2 { tv:=tv,lv:=lv,pv:=.slice (some ⟨qX,fX,none⟩) n pcX,rv:=.slice (some ⟨qY,fY,none⟩) n pcY,xv:=.slice (some ⟨bx,0,none⟩) n n,yv:=.slice (some ⟨bz,0,none⟩) n n,ov:=ov,bx:=bx,bz:=bz,xs:=aNX,ys:=aNY,vs:=vs })∧Hid (Stp FY WY FNY W2):= by
    have hlen:(rwY++[zY]).length=rlY+1:=by rw [List.length_append,HRLLY.out];rfl
    have hK1:yab (Value.slice roY rlY rcY).ownBlock.toList WY wY:=yab.grown (yab.drew ((yab.refl _ _).alloc _)) HGY.out (fun q hq=>.inl (Option.mem_toList.2 hq));have hK2:yab (bz::(Value.slice roY rlY rcY).ownBlock.toList) WY (wY.setCell ⟨bz,k,none⟩ (.slice (some ⟨gY,0,none⟩) (rlY+1) cY)):=(hK1.mono (fun x hx=>List.mem_cons_of_mem _ hx)).sg _
    have h:=HY.out.rowY (k:=k) (v':=.slice (some ⟨gY,0,none⟩) (rlY+1) cY) (y:=rwY++[zY]) (by rw [HXLY.out];exact HKN.out) (by simp only [HEY.out];exact hK2) (HBBY.out.set k _) (by rw [hlen,List.map_append];exact yaz HOWY.out (yaj HOWY.out HBBY.out (by decide)) _) (by
     simp only [HEY.out];rcases HORY.out with e | e
     ·exact .inl e
     ·refine .inr ⟨_,e,?_⟩
      rw [World.size_drew,World.size_alloc];exact Nat.le_succ _)
    rw [hFNY,hsNY] at h;simp only [haNY] at h;exact ⟨_,rfl,h.1,h.2⟩
   with_reducible rw [hWY]
   have HSNY:=lh hsNY;clear hWY hFNY haNY hsNY HOWY HGY HORY HNY HBBY HSY HOY
   go_wp2_with fail
   go_roundg gg
   case measure=>omega
   case rel =>
    have e:sNY={ s with X:=endK s.X s.p.bs (k+1),Y:=endK s.Y s.rs (k+1) }:= by
     rw [←HSNY.out,←HSNX.out];have eX:=yoe s.X s.p.bs k (by rw [HL.out.1];exact HKN.out);have eY:=yoe s.Y s.rs k (by rw [HL.out.2.1];exact HKN.out);have zx:s.p.bs.getD k 0=zX:=by rw [←HZZX.out,←HSX.out]
     have zy:s.rs.getD k 0=zY:=by rw [←HZZY.out,←HSNX.out,←HSX.out]
     rw [←eX,←eY,HRWX.out,HRWY.out,zx,zy,←HSX.out]
    have hfin:=HRY.out;rw [e] at hfin;exact ⟨k+1,by have:=HKG.out;omega,by go_num,FNY,_,hfin,HST.out.trans (HSTX.out.trans HSTY.out)⟩
end
theorem yb2.sts {lo g:Nat} {t:Tm} {l:List R5} {day:Int} {s:RS} {F:List Nat} {W:World} {V:RV} (h:yb2 lo g t l day s F W V):StS W V.ov s.out:=StS.of_own h.out h.rd.now.2.2.2.2
theorem yom {l:List St} {m:Nat} (h:l.length=m+1):l.getLast?=some (l.getD m St0):= by
 rw [List.getLast?_eq_getElem?,h];simp [List.getD,h]
theorem yx5 (lo g:Nat) (t:Tm) (l:List R5) (day:Int) (s:RS) (F:List Nat) (V:RV) (fr til:Int) (b:Bool) (e:Int) (hR:Hid (yet l s.out fr=(b,e))) (hn:s.out.length≤1000) (w:World) (h:yb2 lo g t l day s F w V) :
 Calls Tryz.prog 139 #[pV g,.agg #[iV fr,iV til]] w (RetB (.tuple #[.bool b,iV e]) w):= by
 have H0:=lh h;obtain ⟨tv,lv,pv,rv,xv,yv,ov,bx,bz,xs,ys,vs⟩:=V;have hO:=h.sts;have hL:=h.rd.now.2.1;simp only at hO hL;obtain ⟨oo,oc,rfl⟩:=hO.shape;obtain ⟨lo',lc,rfl⟩:=hL.shape;have HO:=lh hO;have HL:=lh hL;have hb:=h.blk;unfold yc9 at hb;simp only at hb;have HB:=lh hb;have kg:=h.blk.lt;clear hO hL hb h;cases hm:s.out.length with
 | zero =>
  have he:s.out=[]:=List.eq_nil_of_length_eq_zero hm;have hR2:=hR.out;unfold yet at hR2;rw [he] at hR2;simp only [List.getLast?_nil] at hR2;cases hR2;rw [hm] at HB HO H0;have c16:=HB.out.cell 16;simp only [gz,gs] at c16;clear hR he hm
  go_enter Tryz.func139,Tryz.ntmps139
  go_wp2_with fail
  go_ret2
  exact ⟨rfl,yaa bR _⟩
 | succ m =>
  have hR2:=hR.out;unfold yet at hR2;rw [yom hm] at hR2;simp only at hR2;obtain ⟨b1,o1,x,lv1,e1,⟨d0,d1,d2,d3,d4,d5,d6,d7,d8⟩,HLx,HX⟩:=HO.out.get (i:=m) om;rw [HX.out] at hR2;have HR:=lh hR2;subst e1;obtain ⟨a1,q1,rfl,-⟩:=HLx;rw [hm] at HB HO H0;clear hR hR2 HO H0;have HBX:Hid (Blk (w.alloc (.cells #[iV fr,iV til] 40)) w.heap.size 40 [iV fr,iV til]):=yae w _ _ _ rfl;have kb:=yac d0;obtain ⟨W,hW,HBW,HBS,HBB⟩:∃W,w.alloc (.cells #[iV fr,iV til] 40)=W∧Hid (Below w.heap.size w W)∧Hid (Blk W w.heap.size 40 [iV fr,iV til])∧Hid (W.heap.size=w.heap.size+1):=⟨_,rfl,yaa bR _,HBX.out,by show _=_;simp⟩
  go_enter Tryz.func139,Tryz.ntmps139
  go_upto_region 1 with fail
  clear hW;have HBr:=lh (HB.out.below HBW.out);have cellW:∀o x,w.cell? ⟨b1,o,none⟩=some x→W.cell? ⟨b1,o,none⟩=some x:=fun o x h=>(HBW.out.cell (p:=⟨b1,o,none⟩) (yac h)).trans h
  replace d0:=cellW _ _ d0
  replace d1:=cellW _ _ d1
  replace d2:=cellW _ _ d2
  replace d3:=cellW _ _ d3
  replace d4:=cellW _ _ d4
  replace d5:=cellW _ _ d5
  replace d6:=cellW _ _ d6
  replace d7:=cellW _ _ d7
  replace d8:=cellW _ _ d8
  have kg:=HBr.out.lt;have kb:=yac d0;clear cellW;have c7:=HBr.out.cell 7;have c16:=HBr.out.cell 16;simp only [gz,gs] at c7 c16;have hm1:(m:Int)+1≤1000:=by omega
  have hm2:(m:Int)<(m:Int)+1:=by omega
  have hm3:(0:Int)≤(m:Int):=by omega
  have hne:(((m:Int)+1) == 0)=false:=by simp;omega
  go_upto_region 3 with fail
  go_region
  obtain ⟨W2,hW2,HB2,HS2⟩:∃W2,(W.alloc (.cells #[iV x.n,iV x.fr,iV x.til,iV x.du,.slice a1 x.ls.length q1,iV x.tot,iV x.cr,iV x.mn,.bool x.g] 43)).drew=W2∧Hid (Below W.heap.size W W2)∧Hid (∀W',Below W2.heap.size W2 W'→W'.cell? ⟨W.heap.size,5,none⟩=some (iV x.tot)∧W'.cell? ⟨W.heap.size,3,none⟩=some (iV x.du)∧W'.cell? ⟨w.heap.size,0,none⟩=some (iV fr)∧W'.cell? ⟨g,7,none⟩=some (.slice lo' l.length lc)):= by
   refine ⟨_,rfl,yaf (yaa bR _),fun W' hb=>?_⟩;have q1:Blk W' W.heap.size 43 [iV x.n,iV x.fr,iV x.til,iV x.du,.slice a1 x.ls.length q1,iV x.tot,iV x.cr,iV x.mn,.bool x.g]:=Blk.below (Blk.below (yae W _ _ _ rfl) (yaf bR)) hb;have q2:Blk W' w.heap.size 40 [iV fr,iV til]:=Blk.below (Blk.below HBS.out (yaf (yaa bR _))) hb;have q3:=Blk.below (Blk.below HBr.out (yaf (yaa bR _))) hb;exact ⟨q1.cell 5,q1.cell 3,q2.cell 0,q3.cell 7⟩
  with_reducible rw [hW2]
  clear hW2 d0 d1 d2 d3 d4 d5 d6 d7 d8 c7 c16;have hs2:=HS2.out W2 bR;have hsd:=HS2.out W2.drew (yaf bR);go_upto_region 4 with fail
  go_region_held3 (fun W'=>W'.cell? ⟨W.heap.size,5,none⟩=some (iV x.tot)∧W'.cell? ⟨W.heap.size,3,none⟩=some (iV x.du)∧W'.cell? ⟨w.heap.size,0,none⟩=some (iV fr)∧W'.cell? ⟨g,7,none⟩=some (.slice lo' l.length lc)) (first | with_reducible exact hs2 | with_reducible exact hsd | exact HS5.out) (first | (go_at_call 183;refine (yza x.tot fr x.du _ l _ HR _ (HL.out.below (by first | exact yad HBW.out (yaf HB2.out) | exact yad HBW.out HB2.out))).mono ?_;rintro _ w5 ⟨rfl,hb5⟩;have HB5:Hid (Below W2.heap.size W2 w5):=(by first | exact hb5 | exact yad (yaf bR) hb5);have HS5:=lh (HS2.out _ HB5.out);clear hb5))
  go_wp2_with fail
  go_ret2
  exact ⟨rfl,yad HBW.out (yad HB2.out HB5.out)⟩
def stOr (o:Option St):St:=o.getD St0
theorem ysj (t:Tm) (tv:Value) (n fr til:Int) (p:Ps) (pv rv nv:Value) (rs ns:List Int) (g:Bool) (hts:t.ts.length≤1000) (so:Option St) (q:Ps) (e:Int) (hR:Hid (ycd t n fr til p rs ns g=(so,q,e))) (w:World) (hv:TrS w tv t.ts) (hb:Sl .i64 w pv p.bs) (hr:Sl .i64 w rv rs) (hn:Sl .i64 w nv ns) :
 Calls Tryz.prog 141 #[.agg #[iV t.lim,tv,iV t.cyc,iV t.dued,iV t.minf,iV t.minp,iV t.start],iV n,.agg #[iV fr,iV til],.agg #[pv,iV p.c,iV p.d],rv,nv,.bool g] w
  (yfu (stOr so).n (stOr so).fr (stOr so).til (stOr so).du (stOr so).ls (stOr so).tot (stOr so).cr (stOr so).mn (stOr so).g q.bs q.c q.d e w):= by
 obtain ⟨lim,ts,cyc,dued,minf,minp,start⟩:=t;obtain ⟨bs,c,d⟩:=p;simp only at hts hv hb ⊢
 have no:∀E,yu6 ts lim cyc dued minf minp start n fr til bs c d rs ns E→ycd ⟨lim,ts,cyc,dued,minf,minp,start⟩ n fr til ⟨bs,c,d⟩ rs ns g=(none,ps0,E)→Calls Tryz.prog 141 #[.agg #[iV lim,tv,iV cyc,iV dued,iV minf,iV minp,iV start],iV n,.agg #[iV fr,iV til],.agg #[pv,iV c,iV d],rv,nv,.bool g] w
  (yfu (stOr so).n (stOr so).fr (stOr so).til (stOr so).du (stOr so).ls (stOr so).tot (stOr so).cr (stOr so).mn (stOr so).g q.bs q.c q.d e w):=fun E hE hcs=>by
  have hR:=hR.out;rw [hcs] at hR;cases hR;exact yv2 tv ts lim cyc dued minf minp start n fr til pv bs c d rv rs nv ns g hts _ hE w hv hb hr hn
 cases hrt:yaw lim ts cyc dued minf minp start with
 | false=>exact no 6 (.inl ⟨hrt,rfl⟩) (by unfold ycd Tm.right;rw [if_pos hrt])
 | true =>
  cases ha:yix ts.length n fr til bs.length rs.length with
  | false=>exact no 1 (.inr (.inl ⟨hrt,ha,rfl⟩)) (by unfold ycd Tm.right;simp only;rw [if_neg (by rw [hrt];simp),if_pos ha])
  | true =>
   cases hra:rs.any ybg with
   | true=>exact no 1 (.inr (.inr ⟨⟨hrt,ha⟩,.inl ⟨hra,rfl⟩⟩)) (by unfold ycd Tm.right;simp only;rw [if_neg (by rw [hrt];simp),if_neg (by rw [ha];simp),if_pos hra])
   | false =>
    obtain ⟨L,C,D,E,hbs⟩:∃L C D E,ye7 bs c d ns=(L,C,D,E):=⟨_,_,_,_,rfl⟩
    by_cases hE:E=0
    ·subst hE
     have hlen:L.length=bs.length∧ns.length=bs.length:= by
      unfold ye7 at hbs
      split at hbs
      ·injection hbs with _ h;injection h with _ h;injection h with _ h;cases h
      ·split at hbs
       ·injection hbs with _ h;injection h with _ h;injection h with _ h;cases h
       ·rename_i hln
        split at hbs
        ·injection hbs with _ h;injection h with _ h;injection h with _ h;cases h
        ·split at hbs
         ·injection hbs with h _
          exact ⟨by rw [←h,ye9],by simpa using hln⟩
         ·injection hbs with _ h;injection h with _ h;injection h with _ h;cases h
     obtain ⟨mn,x,hmn⟩:∃mn x,ygx (yaw lim ts cyc dued minf minp start) minf minp (yb4 L C D)=(mn,x):=⟨_,_,rfl⟩
     have hdu:-9000000000≤til+dued∧til+dued≤9000000000:= by
      obtain ⟨_,_,_,h4,_⟩:=ygh.1 ha;have h5:=hrt;unfold yaw at h5;simp only [Bool.and_eq_true,ydr] at h5;unfold dayB at h4;simp at h4;omega
     have hcs:ycd ⟨lim,ts,cyc,dued,minf,minp,start⟩ n fr til ⟨bs,c,d⟩ rs ns g=(some ⟨n,fr,til,til+dued,zip3 L ns rs,yb4 L C D,C,mn,g⟩,⟨L,C,mn⟩,0):= by
      unfold ycd Tm.right;simp only;rw [if_neg (by rw [hrt];simp),if_neg (by rw [ha];simp),if_neg (by rw [hra];simp),hbs,if_neg (by simp)];simp only [psOf,hmn]
     have hR:=hR.out;rw [hcs] at hR;cases hR;exact ytm tv ts lim cyc dued minf minp start n fr til pv bs c d rv rs nv ns g hts hrt ha hra L C D hbs hlen.1 hlen.2 _ rfl mn x hmn _ rfl hdu w hv hb hr hn
    ·exact no E (.inr (.inr ⟨⟨hrt,ha⟩,.inr ⟨hra,hE,L,C,D,hbs⟩⟩)) (by unfold ycd Tm.right;simp only;rw [if_neg (by rw [hrt];simp),if_neg (by rw [ha];simp),if_neg (by rw [hra];simp),hbs,if_pos hE])
theorem LnS.blt {w:World} {b o n c:Nat} {ls:List (Int×Int×Int)} (h:LnS w (.slice (some ⟨b,o,none⟩) n c) ls) (hn:0<n):b<w.heap.size:= by
 obtain ⟨ao,cap,e,_,_,h3⟩:=h;cases e;obtain ⟨b',o',e',hc⟩:=h3 (List.length_pos_iff.1 hn);cases e';exact yac (hc 0 hn).1
theorem Sl.blt {k:IntKind} {w:World} {b o n c:Nat} {xs:List Int} (h:Sl k w (.slice (some ⟨b,o,none⟩) n c) xs) (hn:0<n):b<w.heap.size:= by
 obtain ⟨ao,cap,e,_,_,h3⟩:=h;cases e;obtain ⟨b',o',e',hc⟩:=h3 (List.length_pos_iff.1 hn);cases e';exact yac (hc 0 hn)
theorem ye1 (t:Tm) (tv:Value) (n fr til:Int) (p:Ps) (pv rv nv:Value) (rs ns:List Int) (g:Bool) (hts:t.ts.length≤1000) (so:Option St) (q:Ps) (e:Int) (hR:Hid (ycd t n fr til p rs ns g=(so,q,e))) (x:St) (hx:Hid (stOr so=x)) (w:World) (hv:TrS w tv t.ts) (hb:Sl .i64 w pv p.bs) (hr:Sl .i64 w rv rs) (hn:Sl .i64 w nv ns) :
 Calls Tryz.prog 141 #[.agg #[iV t.lim,tv,iV t.cyc,iV t.dued,iV t.minf,iV t.minp,iV t.start],iV n,.agg #[iV fr,iV til],.agg #[pv,iV p.c,iV p.d],rv,nv,.bool g] w
  (yfu x.n x.fr x.til x.du x.ls x.tot x.cr x.mn x.g q.bs q.c q.d e w):= by
 have h:=hx.out;subst h;exact ysj t tv n fr til p pv rv nv rs ns g hts so q e hR w hv hb hr hn
theorem ydg.rows' {F:List Nat} {W:World} {lo:Nat} {v:Value} {X:List (List Int)} {b:Nat} {xs:List Value} (h:ydg F W lo v X b xs) (hn:X.length≤1000):RwS W v X:= by
 rw [h.val];refine ⟨_,_,rfl,Nat.le_refl _,⟨by unfold maxLen;omega,fun e=>by cases e⟩,fun _=>⟨b,0,rfl,fun i hi=>?_⟩⟩;refine ⟨xs.getD i (sZ),?_,Sl.of_own (h.rows i hi) rfl⟩;rw [h.blk.cell];simp [List.getD,show i<xs.length by rw [h.len];exact hi]
theorem yek {t:Tm} {n fr til:Int} {p q:Ps} {rs ns:List Int} {g:Bool} {so:Option St} {e:Int} (h:ycd t n fr til p rs ns g=(so,q,e)):so.isSome=decide (e=0):= by
 unfold ycd at h
 split at h
 ·cases h;rfl
 split at h
 ·cases h;rfl
 split at h
 ·cases h;rfl
 split at h
 ·rename_i h1
  cases h
  symm
  simpa using h1
 ·cases h;rfl
structure Bk where
 ds:List R5
 held:Int
def ya6 (w:World) (base g:Nat) (dv:Value) (b:Bk):Prop :=
 base≤g∧Blk w g 127 [dv,iV b.held]∧w.ownsRow base 155 5 dv b.ds.length (yag b.ds)
theorem ya6.below {w w':World} {base g:Nat} {dv:Value} {b:Bk} (h:ya6 w base g dv b) (hb:Below w.heap.size w w'):ya6 w' base g dv b :=
 ⟨h.1,h.2.1.below hb,yah h.2.2 hb⟩
theorem yco {w:World} {base base':Nat} {e:TypeId} {m n:Nat} {v:Value} {cs:List Value} (h:w.ownsRow base e m v n cs) (hb:base'≤base):w.ownsRow base' e m v n cs:= by
 refine ⟨h.1,?_⟩;rcases h.2 with h1 | ⟨g,cap,cur,hv,hg,r⟩
 ·exact .inl h1
 ·exact .inr ⟨g,cap,cur,hv,Nat.le_trans hb hg,r⟩
theorem yel (w:World) (base:Nat) (e:TypeId) (m:Nat):w.ownsRow base e m (sZ) 0 []:=⟨by simp,.inl ⟨rfl,rfl⟩⟩
theorem yrd (w:World) :
 Calls Tryz.prog 30 #[] w (fun e w'=>∃g dv,e=.returned (pV g)∧ya6 w' w.heap.size g dv ⟨[],0⟩∧Below w.heap.size w w'):= by
 go_enter Tryz.func30,Tryz.ntmps30
 go_wp2
 go_ret
 exact ⟨_,_,rfl,⟨Nat.le_refl _,yae _ _ _ _ rfl,yel _ _ _ _⟩,bL⟩
theorem yqh (base g:Nat) (dv:Value) (b:Bk) (w:World) (hv:ya6 w base g dv b) (hn:b.ds.length≤100000) :
 Calls Tryz.prog 41 #[pV g] w (fun e w'=>∃u,e=.returned u∧w'.ownsRow w.heap.size 155 5 u b.ds.length (yag b.ds)∧Below w.heap.size w w'):= by
 obtain ⟨ds,held⟩:=b;obtain ⟨hg,hB,hD⟩:=hv;simp only at *;have HD:=lh (R5S.of_own hD rfl);obtain ⟨ao,cap,rfl⟩:=(R5S.of_own hD rfl).shape;have c0:=hB.cell 0;simp only [List.getElem?_cons_zero] at c0;have HN:=lh hn;clear hB hD hn
 go_enter Tryz.func41,Tryz.ntmps41
 go_wp2_with fail
 refine (yij _ ds _ HD.out HN.out).mono ?_;rintro _ w1 ⟨u,rfl,ho,hb1⟩;have HO:=lh ho;have HB1:=lh hb1;clear ho hb1;go_wp2
 go_ret
 exact ⟨_,rfl,HO.out,HB1.out⟩
theorem yi6 (base g:Nat) (dv:Value) (b:Bk) (w:World) (hv:ya6 w base g dv b) (hn:b.ds.length≤100000) :
 Calls Tryz.prog 64 #[pV g] w (fun e w'=>∃g' u,e=.returned (pV g')∧ya6 w' w.heap.size g' u b∧Below w.heap.size w w'):= by
 obtain ⟨ds,held⟩:=b;obtain ⟨hg,hB,hD⟩:=hv;simp only at *;have HB:=lh hB;have HE:=lh (R5S.of_own hD rfl);obtain ⟨eo,ec,rfl⟩:=(R5S.of_own hD rfl).shape;have c0:=HB.out.cell 0;have c1:=HB.out.cell 1;simp only [gz,gs] at c0 c1;clear hB hD
 have hS:∀W',Below w.heap.size w W'→(W'.cell? ⟨g,0,none⟩=some (.slice eo ds.length ec)∧W'.cell? ⟨g,1,none⟩=some (iV held)):=fun W' h =>
  have q:=HB.out.below h
  ⟨q.cell 0,q.cell 1⟩
 have HS:=lh hS;have hs0:=hS w bR;have hsd:=hS w.drew (yaf bR);clear hS
 go_enter Tryz.func64,Tryz.ntmps64
 go_upto_region 3 with fail
 clear c0 c1
 go_region_held3 (fun W'=>(W'.cell? ⟨g,0,none⟩=some (.slice eo ds.length ec)∧W'.cell? ⟨g,1,none⟩=some (iV held))) (first | with_reducible exact hs0 | with_reducible exact hsd | with_reducible exact hs5 | with_reducible exact HS.out _ (yaa HB5.out _) | with_reducible assumption) (first | (go_at_call 68;refine (yij _ ds _ (HE.out.below (yaf bR)) hn).mono ?_;rintro _ w5 ⟨u,rfl,ho,hb5⟩;obtain ⟨uo,uc,rfl⟩:=(R5S.of_own ho rfl).shape;have HO:=lh ho;have HB5:Hid (Below w.heap.size w w5):=yad (yaf bR) hb5;have hs5:=HS.out w5 HB5.out;clear ho hb5))
 all_goals
  go_wp2
  go_ret
  refine ⟨_,.slice uo ds.length uc,rfl,⟨HB5.out.size,yae _ _ _ _ rfl,yah HO.out (yaa bR _)⟩,yaa HB5.out _⟩
end Go.Proofs.YtkongpjpkpfniaaGreat

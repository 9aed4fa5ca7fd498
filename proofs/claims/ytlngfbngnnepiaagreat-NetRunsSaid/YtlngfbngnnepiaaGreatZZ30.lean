/- Part 30: words and walks under the laws of the whole. -/
import Derived.BigRegion
import Derived.Test.YtlngfbngnnepiaaGreatZZ16
set_option linter.unusedVariables false
set_option linter.unusedSimpArgs false
set_option maxHeartbeats 4000000
set_option maxRecDepth 100000
namespace Go.Proofs.YtlngfbngnnepiaaGreat
open Go.RowKit
theorem OwnMs.push {P w4:World} {B base:Nat} {ov v4 lx:Value} {ms:List Scu.Message} {css:List (List Value)} {m:Scu.Message} (h:OwnMs P base ov ms css) (hm:(ms.length+1)*80<=R47) (hx:IsStrs P B lx m.log) (hB:B=0)
 (h4:w4.ownsRow base 99 8 v4 (ms.length+1) (css.flatten ++ msgV m lx)) (hg:P.grownBy w4 ov.ownBlock):OwnMs w4 base v4 (ms ++ [m]) (css ++ [msgV m lx]):=by
 subst hB;have Hb:Same [9] 0 P w4:=Same.own h.row hg (mE _) (by decide);refine ⟨by simp only [List.length_append,h.len,List.length_cons,List.length_nil],?_,?_,?_,by simpa using hm⟩
 ·intro c hc;rcases List.mem_append.1 hc with h' | h'
  ·exact h.eight c h'
  rw [List.mem_singleton] at h';subst h';rfl
 ·rw [List.length_append,List.flatten_append];simpa using h4
 intro j c x hc Ha;rcases Nat.lt_or_ge j ms.length with hj | hj
 ·rw [List.getElem?_append_left (by rw [h.len];exact hj)] at hc;rw [List.getElem?_append_left hj] at Ha;exact (h.each j c x hc Ha).same (B:=0) (Ts:=[9]) (by simp) Hb
 rw [List.getElem?_append_right (by rw [h.len];exact hj),h.len] at hc;rw [List.getElem?_append_right hj] at Ha;have Hc:j - ms.length=0:=by
  rcases Nat.eq_zero_or_pos (j - ms.length) with h' | h'
  ·exact h'
  rw [List.getElem?_eq_none (by simp;omega)] at hc;cases hc
 rw [Hc] at hc Ha;simp only [List.getElem?_cons_zero,Option.some.injEq] at hc Ha
 subst hc;subst Ha;exact ⟨lx,rfl,hx.same (by simp) Hb⟩
theorem OwnMs.base_ {w:World} {base base':Nat} {v:Value} {ms:List Scu.Message} {css:List (List Value)} (h:OwnMs w base v ms css) (hb:base'<=base):OwnMs w base' v ms css:=⟨h.len,h.eight,zAl h.row hb,h.each,h.max⟩
structure ToI (w:World) (B:Nat) (cs:Array Value) (me vi:Int) (m:Scu.Message) (A:Option Addr) (c:Nat) (k:Nat) (ov:Value) (css:List (List Value)) (wr:World):Prop where
 arg:Blk wr w.heap.size 47 cs
 box:Blk wr (w.heap.size+1) 99 #[.int .i64 m.kind,.int .i64 m.from_,.int .i64 m.tq,.int .i64 m.view,.int .i64 m.normal,.int .i64 m.commit,.int .i64 m.n,.slice A m.log.length c]
 log:IsStrs wr B (.slice A m.log.length c) m.log
 out:OwnMs wr (w.heap.size+2) ov (partAll me vi m k) css
 low:Below w.heap.size w wr
 le:B<=w.heap.size
theorem ToI.below {w wr w':World} {B:Nat} {cs:Array Value} {me vi:Int} {m:Scu.Message} {A:Option Addr} {c k:Nat} {ov:Value} {css:List (List Value)} (h:ToI w B cs me vi m A c k ov css wr) (hb:Below wr.heap.size wr w'):ToI w B cs me vi m A c k ov css w' :=
 ⟨h.arg.same hb,h.box.same hb,h.log.below hb,h.out.below hb,h.low.trans (hb.mono h.low.size),h.le⟩
theorem ToI.next {w P w4:World} {B:Nat} {cs:Array Value} {me vi:Int} {m:Scu.Message} {A:Option Addr} {c k:Nat} {ov v4 lx:Value} {css:List (List Value)} (h:ToI w B cs me vi m A c k ov css P) (hk:k < 3) (Ha:(k:Int)≠me) (hx:IsStrs P 0 lx m.log)
 (h4:w4.ownsRow (w.heap.size+2) 99 8 v4 ((partAll me vi m k).length+1) (css.flatten ++ msgV ⟨m.kind,me,k,vi,m.normal,m.commit,m.n,m.log⟩ lx)) (hg:P.grownBy w4 ov.ownBlock):ToI w B cs me vi m A c (k+1) v4 (css ++ [msgV ⟨m.kind,me,k,vi,m.normal,m.commit,m.n,m.log⟩ lx]) w4:=by
 have Hb:Same [9] B P w4:=Same.own h.out.row hg (mD h.le (by omega)) (by decide);refine ⟨zEo h.arg h.out.row (by decide) hg,(hg.block _ h.box.lt fun e=>?_).trans h.box,h.log.same (by simp) Hb,?_,h.low.grown hg h.low.size (fun q hq=>?_),h.le⟩
 ·have:=(h.out.row.lt _ e.symm).1;omega
 ·rw [zJk hk Ha];exact h.out.push (m:=⟨m.kind,me,k,vi,m.normal,m.commit,m.n,m.log⟩) (by have:=zIo me vi m k;unfold R47;omega) hx rfl h4 hg
 have:=(h.out.row.lt _ hq).1;omega
theorem zOb (me vi no:Int) (ca:Bool) (lv:Value) (co:Int) (hv wv gv nv mv:Value) (m:Scu.Message) (w:World) (B:Nat) (Ke:B<=w.heap.size) (hx:IsStrs w B mv m.log) :
 Calls Tryz.prog 69 #[.agg #[.int .i64 me,.int .i64 vi,.int .i64 no,.bool ca,lv,.int .i64 co,hv,wv,gv,nv],.agg #[.int .i64 m.kind,.int .i64 m.from_,.int .i64 m.tq,.int .i64 m.view,.int .i64 m.normal,.int .i64 m.commit,.int .i64 m.n,mv]] w fun e w'=>(∃ ov css,e=.returned ov/\OwnMs w' w.heap.size ov (partAll me vi m 3) css)/\Below w.heap.size w w':=by
 obtain ⟨⟨A,c,rfl,Kf,hr⟩,hl,he⟩:=hx;have Hp:=hl;unfold R47 at Hp;have Hq:=mA (show 0+m.log.length<=maxLen/\(0+m.log.length)*16<=140737488355328 by constructor <;> (try unfold maxLen) <;> omega);have Hr:=mA (mB hl he);have hI:ToI w B #[.int .i64 me,.int .i64 vi,.int .i64 no,.bool ca,lv,.int .i64 co,hv,wv,gv,nv] me vi m A c 0 (.slice none 0 0) [] ((w.alloc (.cells #[.int .i64 me,.int .i64 vi,.int .i64 no,.bool ca,lv,.int .i64 co,hv,wv,gv,nv] 47)).alloc (.cells (mN m A m.log.length c) 99)):=by
  have Kg:=zAa w (.cells #[.int .i64 me,.int .i64 vi,.int .i64 no,.bool ca,lv,.int .i64 co,hv,wv,gv,nv] 47);have Hd:=Kg.alloc (by simp) (.cells (mN m A m.log.length c) 99);exact ⟨(Blk.new w _ _).alloc _,Blk.new' (by simp),(show IsStrs w B (.slice A m.log.length c) m.log from ⟨⟨A,c,rfl,Kf,hr⟩,hl,he⟩).below Hd,OwnMs.nil_,Hd,Ke⟩
 have HI:=mA hI;clear hI hl Hp he hr;go_enter Tryz.func69,Tryz.ntmps69
 go_wp2_with fail
 go_loopw [5,6] (fun o i wr=>∃ (k:Nat) (Ao:Option Addr) (co':Nat) (css:List (List Value)),k<=3/\i=.int .i64 k/\o=.slice Ao (partAll me vi m k).length co'/\ToI w B #[.int .i64 me,.int .i64 vi,.int .i64 no,.bool ca,lv,.int .i64 co,hv,wv,gv,nv] me vi m A c k (.slice Ao (partAll me vi m k).length co') css wr) (fun _ i _=>3 - (intOf i).toNat)
 case atStart=>exact ⟨0,none,0,[],mE _,rfl,rfl,HI.out⟩
 case round =>
  obtain ⟨k,Ao,co',css,hk,rfl,rfl,hI⟩:=hrel;by_cases Hh:k < 3
  ·have Kh:(k:Int) < 3:=by omega
   have ha:=hI.arg;have a0:=ha.cell 0;have a1:=ha.cell 1;have Ha:=hI.box;have b0:=Ha.cell 0;have b1:=Ha.cell 1;have b2:=Ha.cell 2;have b3:=Ha.cell 3;have b4:=Ha.cell 4;have b5:=Ha.cell 5;have b6:=Ha.cell 6;have b7:=Ha.cell 7;simp only [List.getElem?_toArray,List.getElem?_cons_zero,List.getElem?_cons_succ] at a0 a1 b0 b1 b2 b3 b4 b5 b6 b7
   have bl:=Ha.lt;have al:=ha.lt;clear Ha ha;by_cases Hb:(k:Int)=me
   ·have Ki:((k:Int) != me)=false:=by simpa using Hb
    have Hs:ToI w B #[.int .i64 me,.int .i64 vi,.int .i64 no,.bool ca,lv,.int .i64 co,hv,wv,gv,nv] me vi m A c (k+1) (.slice Ao (partAll me vi m (k+1)).length co') css wr:=⟨hI.arg,hI.box,hI.log,by have:=hI.out;rw [<- zJj Hh Hb] at this;exact this,hI.low,hI.le⟩;have Kj:=mA Hs;have Hi:=mA (show (partAll me vi m (k+1)).length=(partAll me vi m k).length by rw [zJj Hh Hb]);clear Hs hI Hb;go_wp2_with fail
    go_roundw
    case rel=>exact ⟨k+1,Ao,co',css,by omega,rfl,by rw [Hi.out],Kj.out⟩
    case measure=>simp only [intOf];omega
   have Ki:((k:Int) != me)=true:=by simpa using Hb
   have Ht:=mA Hb;have Hu:=mA hI;clear hI Hb;go_upto_region 10 with fail
   obtain ⟨Wf,Hj⟩:=mJ (wr.alloc (.cells #[.int .i64 m.kind,.int .i64 me,.int .i64 k,.int .i64 vi,.int .i64 m.normal,.int .i64 m.commit,.int .i64 m.n,.slice A m.log.length c] 99));rw [<- Hj];have Hm:Below wr.heap.size wr Wf:=by rw [Hj];exact zAa _ _
   have Hv:Blk Wf wr.heap.size 99 #[.int .i64 m.kind,.int .i64 me,.int .i64 k,.int .i64 vi,.int .i64 m.normal,.int .i64 m.commit,.int .i64 m.n,.slice A m.log.length c]:=by rw [Hj];exact Blk.new _ _ _
   have Hc:=mA (mB (Hu.out.below Hm) Hv);have Hw:=mA Hm;clear Hj Hm Hv a0 a1 b0 b1 b2 b3 b4 b5 b6 b7 bl al;obtain ⟨-,-,-,-,-,-,-,b7⟩:=cz8 Hc.out.1.box;obtain ⟨-,-,-,-,-,-,-,x7⟩:=cz8 Hc.out.2;have xz:=Hc.out.2.frozen;have xl:=Hc.out.2.lt;have bl:=Hc.out.1.box.lt;obtain ⟨⟨A',c',eA,Kk,Hn⟩,_,_⟩:=Hc.out.1.log;obtain ⟨rfl,rfl⟩:A=A'/\c=c':=by cases eA;exact ⟨rfl,rfl⟩
   have Kl:=mA (zAq (size:=1) (m:=m.log.length) (c:=c) Hn (by simp) (fun e=>by subst e;have:=zBi Hn;simpa using this));clear Hn eA Kk;go_wp2_with (at_builtin;refine zAz _ rfl _ _ 39 rfl zBl Wf.heap.size _ 0 [] rfl (World.ownsRow_nil _ _ _ _) _ m.log.length (m.log.map Value.string) rfl Kl.out (zBf m.log) Hq.out.1 Hq.out.2 (mC _) ?_)
   intro v4 x4 h4 Hx _;obtain ⟨Au,cu,rfl,_,_,_,_⟩:=zAi h4;have k4:Below Wf.heap.size Wf x4:=zAk Hx (mC _) (fun q hq=>by cases hq);have Hy:IsStrs x4 0 (.slice Au m.log.length cu) m.log:=zCn h4 Hr.out.1 Hr.out.2;have He:=Hc.out.2.same k4;obtain ⟨-,-,-,-,-,-,-,y7⟩:=cz8 He;have yz:=He.frozen;have yl:=He.lt;have Hk:=mA (mB He (mB Hy k4));clear h4 Hx k4 Hy He b7 x7 xz xl bl;go_upto_region 11 with fail
   obtain ⟨Wg,Hf⟩:=mJ (x4.setCell ⟨wr.heap.size,7,none⟩ (.slice Au m.log.length cu));rw [<- Hf];have Hl:Blk Wg wr.heap.size 99 #[.int .i64 m.kind,.int .i64 me,.int .i64 k,.int .i64 vi,.int .i64 m.normal,.int .i64 m.commit,.int .i64 m.n,.slice Au m.log.length cu]:=by rw [Hf];exact Hk.out.1.set_ 7 _
   have Hz:IsStrs Wg 0 (.slice Au m.log.length cu) m.log:=by rw [Hf];exact Hk.out.2.1.same (Ts:=[9]) (by simp) (Same.set_ Hk.out.1 (mE _) (by decide) 7 _)
   have Ka:Below wr.heap.size wr Wg:=by
    rw [Hf];exact ((Hw.out.trans (Hk.out.2.2.mono Hw.out.size))).setCell (p:=⟨wr.heap.size,7,none⟩) (mC _) _
   have HG:=mA (mB (Hu.out.below Ka) (mB Hl Hz));clear Hf Ka Hz y7 yz yl;obtain ⟨q0,q1,q2,q3,q4,q5,q6,q7⟩:=cz8 Hl;have ql:=Hl.lt;clear Hl;have Km:=zIo me vi m k;have Hg:=HG.out.1.out.row;go_wp2_with (at_builtin;refine zAz _ rfl _ _ 25 rfl zCr (w.heap.size+2) (.slice Ao (partAll me vi m k).length co') (partAll me vi m k).length css.flatten rfl (zAg Hg (zAa Wg (.cells #[.int .i64 m.kind,.int .i64 me,.int .i64 k,.int .i64 vi,.int .i64 m.normal,.int .i64 m.commit,.int .i64 m.n,.slice Au m.log.length cu] 99))) (.slice (some ⟨Wg.heap.size,0,none⟩) 1 1) 1 (msgV ⟨m.kind,me,k,vi,m.normal,m.commit,m.n,m.log⟩ (.slice Au m.log.length cu)) rfl ⟨rfl,.inr ⟨_,_,rfl,?e1⟩⟩ ?e2 (by unfold maxLen;omega) (by omega) (by have:=HG.out.1.box.lt;simp;omega) ?_)
   case e1 =>
    intro j v hj;have Kp:j < 8:=by (rcases Nat.lt_or_ge j 8 with h | h;exact h;rw [List.getElem?_eq_none h] at hj;cases hj)
    have Ho:(⟨Wg.heap.size,0,none⟩:Addr).add j=⟨Wg.heap.size,j,none⟩:=by (unfold Addr.add;split <;> simp_all)
    rw [Ho];refine ((Blk.new Wg 99 #[.int .i64 m.kind,.int .i64 me,.int .i64 k,.int .i64 vi,.int .i64 m.normal,.int .i64 m.commit,.int .i64 m.n,.slice Au m.log.length cu]).cell j).trans ?_;simpa [msgV] using hj
   case e2=>(intro v hv;simp only [msgV,List.mem_cons,List.not_mem_nil,or_false] at hv;rcases hv with rfl | rfl | rfl | rfl | rfl | rfl | rfl | rfl <;> rfl)
   intro v5 x5 h5 Kb _;have Kc:=((HG.out.1.below (zAa Wg (.cells #[.int .i64 m.kind,.int .i64 me,.int .i64 k,.int .i64 vi,.int .i64 m.normal,.int .i64 m.commit,.int .i64 m.n,.slice Au m.log.length cu] 99))).next Hh Ht.out (HG.out.2.2.below (zAa Wg _)) h5 Kb);obtain ⟨A9,c9,rfl,_,_,_,_⟩:=zAi h5;have Kn:=mA Kc;have Hi:=mA (show (partAll me vi m (k+1)).length=(partAll me vi m k).length+1 by rw [zJk Hh Ht.out];simp);clear h5 Kb Kc Hg Km;go_wp2_with fail
   go_roundw
   case rel=>exact ⟨k+1,A9,c9,_,by omega,rfl,by rw [Hi.out],by rw [Hi.out];exact Kn.out⟩
   case measure=>simp only [intOf];omega
  have Ko:k=3:=by omega
  subst Ko;obtain ⟨Aq,cq,hq⟩:=hI.out.form;have Kd:=mA hI;clear hI;go_wp2
  go_ret
  refine ⟨⟨_,css,rfl,?_⟩,Kd.out.low⟩;exact Kd.out.out.base_ (Nat.le_add_right _ 2)
theorem zLj (r:Scu.Replica) (lv hv wv gv nv:Value) (w:World) (B:Nat) (Ha:B<=w.heap.size) (hx:IsStrs w B lv r.kept.log) :
 Calls Tryz.prog 63 #[.agg #[.int .i64 r.me,.int .i64 r.kept.view,.int .i64 r.kept.normal,.bool r.kept.calm,lv,.int .i64 r.kept.commit,hv,wv,gv,nv]] w fun e w'=>(∃ ov css,e=.returned ov/\OwnMs w' w.heap.size ov (Scu.leadOn r) css)/\Below w.heap.size w w':=by
 obtain ⟨A,n,c,rfl⟩:=hx.form;have HX:=mA hx;clear hx;go_enter Tryz.func63,Tryz.ntmps63
 go_wp2_with fail
 have h0:=zAa w (.cells #[.int .i64 r.me,.int .i64 r.kept.view,.int .i64 r.kept.normal,.bool r.kept.calm,.slice A n c,.int .i64 r.kept.commit,hv,wv,gv,nv] 47);refine (zOb r.me r.kept.view r.kept.normal r.kept.calm (.slice A n c) r.kept.commit hv wv gv nv (.slice A n c) (leadMsg r) _ B (mD Ha h0.size) (HX.out.below h0)).mono ?_;rintro en w1 ⟨⟨ov,css,rfl,ho⟩,h1⟩;obtain ⟨Ao,co,rfl⟩:=ho.form;have HO:=mA (mB (ho.base_ h0.size) (h0.trans (h1.mono h0.size)));clear ho h1 h0;go_wp2
 go_ret
 exact ⟨⟨_,css,rfl,HO.out.1⟩,HO.out.2⟩
theorem zXm (A0:Option Addr) (n0 c0:Nat) (A1:Option Addr) (c1:Nat) (A2:Option Addr) (c2:Nat) (A3:Option Addr) (c3:Nat) (A4:Option Addr) (c4:Nat) (r:Scu.Replica) (w:World) (B:Nat) (Ha:B<=w.heap.size) (hx:IsStrs w B (.slice A0 n0 c0) r.kept.log) (ms:List Scu.Message) (Hb:Scu.leadOn r=ms) :
 Calls Tryz.prog 63 #[.agg #[.int .i64 r.me,.int .i64 r.kept.view,.int .i64 r.kept.normal,.bool r.kept.calm,.slice A0 n0 c0,.int .i64 r.kept.commit,.slice A1 r.have_.length c1,.slice A2 r.wants.length c2,.slice A3 r.gives.length c3,.slice A4 r.given.length c4]] w fun e w'=>(∃ Ao co css,e=.returned (.slice Ao ms.length co)/\OwnMs w' w.heap.size (.slice Ao ms.length co) ms css)/\Below w.heap.size w w':=by
 subst Hb;refine (zLj r _ _ _ _ _ w B Ha hx).mono ?_;rintro e w' ⟨⟨ov,css,rfl,ho⟩,h⟩;obtain ⟨Ao,co,rfl⟩:=ho.form;exact ⟨⟨_,_,_,rfl,ho⟩,h⟩
theorem zBv (lv Ha wv gv nv:Value) (r:Scu.Replica) (w:World) (B:Nat) (hv:IsRep w B lv Ha wv gv nv r) (f:Int) (h:Scu.repFault r=f) :
 Calls Tryz.prog 62 #[.agg #[.int .i64 r.me,.int .i64 r.kept.view,.int .i64 r.kept.normal,.bool r.kept.calm,lv,.int .i64 r.kept.commit,Ha,wv,gv,nv]] w fun e w'=>e=.returned (.int .i64 f)/\Below w.heap.size w w':=by
 have:=zJy lv Ha wv gv nv r w B hv;rw [h] at this;exact this
theorem zEr (lv hv wv gv nv:Value) (r:Scu.Replica) (h0:0<=r.kept.view) (w:World) (b:Bool) (hb:Scu.leads r=b) :
 Calls Tryz.prog 33 #[.agg #[.int .i64 r.me,.int .i64 r.kept.view,.int .i64 r.kept.normal,.bool r.kept.calm,lv,.int .i64 r.kept.commit,hv,wv,gv,nv]] w fun e w'=>e=.returned (.bool b)/\Below w.heap.size w w':=by
 subst hb;exact zPv lv hv wv gv nv r h0 w
theorem OwnRep.put_wants {w:World} {base g n c:Nat} {lv hv gv nv:Value} {r:Scu.Replica} (h:OwnRep w base lv hv (.slice (some ⟨g,0,none⟩) n c) gv nv r) {cur:Array Value} (hB:Blk w g 4 cur) (j:Nat) (b:Bool) :
 OwnRep (w.setCell ⟨g,j,none⟩ (.bool b)) base lv hv (.slice (some ⟨g,0,none⟩) n c) gv nv { r with wants:=r.wants.set j b }:=by
 have hs:Same [9,3,42] 0 w (w.setCell ⟨g,j,none⟩ (.bool b)):=Same.set_ hB (mE _) (by decide) j _;obtain ⟨css',Ha⟩:=h.giv;exact ⟨⟨h.own.log.same (hs.mono (by simp) (mC _)),h.own.have_.same (hs.mono (by simp) (mC _)),h.own.wants.put j b,h.own.given.far (h.own.apart g rfl) _,h.own.apart⟩,css',Ha.same (hs.mono (by simp) (mC _))⟩
theorem zFu {w:World} {base g:Nat} {cs:Array Value} (h:Blk w g 99 cs) {m:Scu.Message} (hc:cs=(msgV m (.slice none 0 0)).toArray) (hl:m.log=[]) (hb:base<=g):OwnMs w base (.slice (some ⟨g,0,none⟩) 1 1) [m] [msgV m (.slice none 0 0)]:=by
 subst hc;refine ⟨rfl,?_,zOz (size:=8) (n:=1) (xs:=[msgV m (.slice none 0 0)].flatten) (by simpa using h) hb rfl (by decide),?_,by simp [R47]⟩
 ·intro cs Ha;rw [List.mem_singleton] at Ha;subst Ha;rfl
 intro j cs x h1 h2;rcases j with _ | j
 ·simp at h1 h2
  subst h1 h2;exact ⟨_,rfl,by rw [hl];exact IsStrs.nil_⟩
 simp at h1
end Go.Proofs.YtlngfbngnnepiaaGreat

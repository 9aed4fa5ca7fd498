/- Part 14: words and walks under the laws of the whole. -/
import Derived.Laws.IdiomCopy
import Derived.Test.YtlngfbngnnepiaaGreatZZ13
set_option linter.unusedVariables false
set_option linter.unusedSimpArgs false
set_option maxHeartbeats 4000000
set_option maxRecDepth 100000
namespace Go.Proofs.YtlngfbngnnepiaaGreat
open Go.RowKit
def msgV (m:Scu.Message) (lv:Value):List Value:=[.int .i64 m.kind,.int .i64 m.from_,.int .i64 m.tq,.int .i64 m.view,.int .i64 m.normal,.int .i64 m.commit,.int .i64 m.n,lv]
def MsgE (w:World) (B:Nat) (cs:List Value) (m:Scu.Message):Prop:=∃ lv,cs=msgV m lv/\IsStrs w B lv m.log
theorem MsgE.same {w w':World} {B:Nat} {Ts:List TypeId} {cs:List Value} {m:Scu.Message} (h:MsgE w B cs m) (ht:9 ∈ Ts) (hs:Same Ts B w w'):MsgE w' B cs m:=by
 obtain ⟨lv,e,h⟩:=h;exact ⟨lv,e,h.same ht hs⟩
theorem zCr:ElT 25 99 8 80:=by
 obtain ⟨i,h1,h2,h3,h4⟩:=info_parts (P:=Tryz.prog) (e:=99) (z:=.agg #[.int .i64 0,.int .i64 0,.int .i64 0,.int .i64 0,.int .i64 0,.int .i64 0,.int .i64 0,.slice none 0 0]) (size:=8) (bytes:=80) (by kernel_rfl);exact ⟨Tryz.underlying25,by omega,i,_,h1,h2,h3,h4,rfl⟩
structure OwnMs (w:World) (base:Nat) (v:Value) (ms:List Scu.Message) (css:List (List Value)):Prop where
 len:css.length=ms.length
 eight:∀ cs ∈ css,cs.length=8
 row:w.ownsRow base 99 8 v ms.length css.flatten
 each:∀ (j:Nat) (cs:List Value) (m:Scu.Message),css[j]? = some cs->ms[j]? = some m->MsgE w 0 cs m
 max:ms.length*80<=R47
section
variable {w w':World} {B base base':Nat} {v:Value} {ms:List Scu.Message} {css:List (List Value)}
theorem OwnMs.is (h:OwnMs w base v ms css):IsRow 99 8 80 MsgE w 0 v ms:=by
 obtain ⟨A,c,rfl,hc,_,hr,_⟩:=zAi h.row;exact ⟨⟨A,c,css,rfl,hc,h.len,h.eight,hr,h.each⟩,h.max⟩
theorem OwnMs.same (h:OwnMs w base v ms css) (hs:Same [9,99] B w w'):OwnMs w' base v ms css :=
 ⟨h.len,h.eight,zCq h.row (by simp) hs,fun j cs k a b=>(h.each j cs k a b).same (B:=0) (Ts:=[9,99]) (by simp) (hs.mono (fun _ h=>h) (mE _)),h.max⟩
theorem OwnMs.below (h:OwnMs w base v ms css) (hb:Below w.heap.size w w'):OwnMs w' base v ms css:=h.same (B:=0) (Same.below hb)
theorem OwnMs.nil_:OwnMs w base (.slice none 0 0) [] []:=⟨rfl,by simp,World.ownsRow_nil _ _ _ _,fun j cs k h=>by simp at h,by simp [R47]⟩
theorem OwnMs.form (h:OwnMs w base v ms css):∃ A c,v=.slice A ms.length c:=by
 obtain ⟨A,c,e,_⟩:=zAi h.row;exact ⟨A,c,e⟩
end
structure Work (w:World) (base gw gr:Nat) (r:Scu.Replica) (lu hv wv gv nv ov:Value) (ms:List Scu.Message) (css:List (List Value)):Prop where
 wb:Blk w gw 133 #[.pointer (some ⟨gr,0,none⟩),ov]
 rb:Blk w gr 47 #[.int .i64 r.me,.int .i64 r.kept.view,.int .i64 r.kept.normal,.bool r.kept.calm,lu,.int .i64 r.kept.commit,hv,wv,gv,nv]
 own:OwnRep w base lu hv wv gv nv r
 out:OwnMs w base ov ms css
 lw:base<=gw
 lr:base<=gr
theorem Work.below {w w':World} {base gw gr:Nat} {r:Scu.Replica} {lu hv wv gv nv ov:Value} {ms:List Scu.Message} {css:List (List Value)} (h:Work w base gw gr r lu hv wv gv nv ov ms css) (hb:Below w.heap.size w w'):Work w' base gw gr r lu hv wv gv nv ov ms css :=
 ⟨h.wb.same hb,h.rb.same hb,h.own.below hb,h.out.below hb,h.lw,h.lr⟩
theorem zKj (lv Ha wv gv nv:Value) (r:Scu.Replica) (w:World) (B:Nat) (hv:IsRep w B lv Ha wv gv nv r) (f:Int) (h:Scu.repFault r=f) :
 Calls Tryz.prog 103 #[.agg #[.int .i64 r.me,.int .i64 r.kept.view,.int .i64 r.kept.normal,.bool r.kept.calm,lv,.int .i64 r.kept.commit,Ha,wv,gv,nv]] w fun e w'=>e=.returned (.int .i64 f)/\Below w.heap.size w w':=by
 have:=zPt lv Ha wv gv nv r w B hv;rw [h] at this;exact this
theorem zLg (lv hv wv gv nv:Value) (r:Scu.Replica) (w:World) (B:Nat) (hr:IsRep w B lv hv wv gv nv r) (f:Int) (hf:Scu.repFault r=f) (hn:f≠0) :
 Calls Tryz.prog 78 #[.agg #[.int .i64 r.me,.int .i64 r.kept.view,.int .i64 r.kept.normal,.bool r.kept.calm,lv,.int .i64 r.kept.commit,hv,wv,gv,nv]] w fun e w'=>e=.returned (.tuple #[.pointer none,.int .i64 f])/\Below w.heap.size w w':=by
 have Ha:(f != 0)=true:=by simpa using hn
 clear hn;have HV:=mA hr;have HF:=mA hf;obtain ⟨A0,n0,c0,A1,c1,A2,c2,A3,c3,A4,c4,rfl,rfl,rfl,rfl,rfl⟩:=hr.forms;clear hr hf;go_enter Tryz.func78,Tryz.ntmps78
 go_wp2_with fail
 have h0:Below w.heap.size w (w.alloc (.cells (rN r A0 n0 c0 A1 c1 A2 c2 A3 c3 A4 c4) 47)):=zAa w _;refine (zKj _ _ _ _ _ r _ B (HV.out.below h0) f HF.out).mono ?_;rintro en w1 ⟨rfl,h1⟩;have hs:Blk w1 w.heap.size 47 (rN r A0 n0 c0 A1 c1 A2 c2 A3 c3 A4 c4):=(Blk.new w _ _).same h1;have hb:=h0.trans (h1.mono h0.size);clear h1 h0;clear hs;go_wp2
 go_ret2
 exact ⟨rfl,hb⟩
theorem zCo (lv hv wv gv nv:Value) (r:Scu.Replica) (w:World) (B:Nat) (hr:IsRep w B lv hv wv gv nv r) (hf:Scu.repFault r=0) :
 Calls Tryz.prog 78 #[.agg #[.int .i64 r.me,.int .i64 r.kept.view,.int .i64 r.kept.normal,.bool r.kept.calm,lv,.int .i64 r.kept.commit,hv,wv,gv,nv]] w fun e w' =>
  (∃ gw gr lu hu wu gu nu,e=.returned (.tuple #[.pointer (some ⟨gw,0,none⟩),.int .i64 0])/\Work w' w.heap.size gw gr r lu hu wu gu nu (.slice none 0 0) [] []/\ApG w' w.heap.size gu r.gives lu)/\Below w.heap.size w w':=by
 have HV:=mA hr;have HF:=mA hf;obtain ⟨A0,n0,c0,A1,c1,A2,c2,A3,c3,A4,c4,rfl,rfl,rfl,rfl,rfl⟩:=hr.forms;clear hr hf;go_enter Tryz.func78,Tryz.ntmps78
 go_wp2_with fail
 have h0:Below w.heap.size w (w.alloc (.cells (rN r A0 n0 c0 A1 c1 A2 c2 A3 c3 A4 c4) 47)):=zAa w _;refine (zKj _ _ _ _ _ r _ B (HV.out.below h0) 0 HF.out).mono ?_;rintro en w1 ⟨rfl,h1⟩;have hs:Blk w1 w.heap.size 47 (rN r A0 n0 c0 A1 c1 A2 c2 A3 c3 A4 c4):=(Blk.new w _ _).same h1;have hb:=h0.trans (h1.mono h0.size);clear h1 h0;obtain ⟨s0,s1,s2,s3,s4,s5,s6,s7,s8,s9⟩:=cz10 hs;have sl:=hs.lt;clear hs;have HB:=mA hb;clear hb;go_wp2_with fail
 refine (zJi A0 n0 c0 A1 r.have_.length c1 A2 r.wants.length c2 A3 r.gives.length c3 A4 r.given.length c4 r _ B (HV.out.below HB.out)).mono ?_;rintro en w2 ⟨⟨lu,hu,wu,gu,nu,rfl,ho,Hc⟩,h2⟩;obtain ⟨E0,m0,d0,E1,d1,E2,d2,E3,d3,E4,d4,rfl,rfl,rfl,rfl,rfl⟩:=ho.is.forms;have HO:=mA (mB ho h2);have Hd:=mA Hc;clear ho h2 Hc s0 s1 s2 s3 s4 s5 s6 s7 s8 s9 sl;go_wp2
 go_ret2
 have Hb:=(zAa w2 (.cells (rN r E0 m0 d0 E1 d1 E2 d2 E3 d3 E4 d4) 47)).alloc (by simp) (.cells #[.pointer (some ⟨w2.heap.size,0,none⟩),.slice none 0 0] 133);have Ha:=HB.out.size;have He:=HO.out.2.size;refine ⟨⟨_,_,_,_,_,_,_,rfl,⟨Blk.new' (by simp),(Blk.new w2 _ _).alloc _,?_,OwnMs.nil_,by omega,by omega⟩,(Hd.out.base_ Ha).below Hb⟩,(HB.out.trans (HO.out.2.mono Ha)).trans (Hb.mono (by omega))⟩;exact (⟨(HO.out.1.own).base_ Ha,let ⟨css,g⟩:=HO.out.1.giv;⟨css,g.base_ Ha⟩⟩:OwnRep _ _ _ _ _ _ _ _).below Hb
open Go.RowKit
theorem zAc {w w':World} {g:Nat} {t:TypeId} {cs:Array Value} {Ts:List TypeId} (h:Blk w g t cs) (hs:Same Ts 0 w w') (ht:t ∈ Ts):Blk w' g t cs:=(hs.keep g h.lt (.inr ⟨_,_,_,ht,h⟩)).trans h
def Far (w w':World) (ov ov':Value):Prop:=∀ b cs,Blk w b 99 cs->ov.ownBlock≠some b->Blk w' b 99 cs/\ov'.ownBlock≠some b
theorem Far.refl (w:World) (ov:Value):Far w w ov ov:=fun _ _ h k=>⟨h,k⟩
theorem Far.trans {w1 w2 w3:World} {o1 o2 o3:Value} (h:Far w1 w2 o1 o2) (k:Far w2 w3 o2 o3):Far w1 w3 o1 o3:=fun b cs h1 h2=>let ⟨a,c⟩:=h b cs h1 h2;k b cs a c
theorem Far.same {w w':World} {ov:Value} {Ts:List TypeId} (ht:99 ∈ Ts) (hs:Same Ts 0 w w'):Far w w' ov ov:=fun _ _ h k=>⟨zAc h hs ht,k⟩
theorem Far.below {w w':World} {ov:Value} (hb:Below w.heap.size w w'):Far w w' ov ov:=fun _ _ h k=>⟨h.same hb,k⟩
theorem zRq {base gw gr:Nat} {r:Scu.Replica} {lu hv wv gv nv ov v4 lx:Value} {ms:List Scu.Message} {css:List (List Value)} {m:Scu.Message} {P w4:World} (h:Work P base gw gr r lu hv wv gv nv ov ms css) (hm:(ms.length+1)*80<=R47)
 (hx:IsStrs P 0 lx m.log) (h4:w4.ownsRow base 99 8 v4 (ms.length+1) (css.flatten ++ msgV m lx)) (hg:P.grownBy w4 ov.ownBlock) (hb:base<=P.heap.size) (Hg:v4.ownBlock=ov.ownBlock\/v4.ownBlock=some P.heap.size) :
 Work (w4.setCell ⟨gw,1,none⟩ v4) base gw gr r lu hv wv gv nv v4 (ms ++ [m]) (css ++ [msgV m lx])/\Below base P (w4.setCell ⟨gw,1,none⟩ v4)/\Same [9,3,4,42,47] 0 P (w4.setCell ⟨gw,1,none⟩ v4) /\
  ∀ g t cs,Blk P g t cs->g≠gw->ov.ownBlock≠some g->Blk (w4.setCell ⟨gw,1,none⟩ v4) g t cs/\v4.ownBlock≠some g:=by
 have Hb:=h.out.row;have He:Same [9,3,4,42,47,133] 0 P w4:=Same.own Hb hg (mE _) (by decide);have Hd:=zAc h.wb He (by simp);have Hh:Same [9,3,4,42,47,99] 0 w4 (w4.setCell ⟨gw,1,none⟩ v4):=Same.set_ Hd (mE _) (by decide) 1 v4;have Hc:Same [9,3,4,42,47] 0 P (w4.setCell ⟨gw,1,none⟩ v4):=(He.mono (by simp) (mC _)).trans (Hh.mono (by simp) (mC _));refine ⟨⟨Hd.set_ 1 v4,zAc h.rb Hc (by simp),h.own.same (Hc.mono (by simp) (mC _)),⟨by simp only [List.length_append,h.out.len,List.length_cons,List.length_nil],?_,?_,?_,by simpa using hm⟩,h.lw,h.lr⟩,?_,Hc,?_⟩
 ·intro c hc;rcases List.mem_append.1 hc with h' | h'
  ·exact h.out.eight c h'
  rw [List.mem_singleton] at h';subst h';rfl
 ·rw [List.length_append,List.flatten_append];have h5:w4.ownsRow base 99 8 v4 (ms.length+[m].length) (css.flatten ++ [msgV m lx].flatten):=by simpa using h4
  exact zFm h5 Hd (by decide) v4
 ·intro j c x hc Ha;rcases Nat.lt_or_ge j ms.length with hj | hj
  ·rw [List.getElem?_append_left (by rw [h.out.len];exact hj)] at hc;rw [List.getElem?_append_left hj] at Ha;exact (h.out.each j c x hc Ha).same (B:=0) (Ts:=[9]) (by simp) (Hc.mono (by simp) (mC _))
  rw [List.getElem?_append_right (by rw [h.out.len];exact hj),h.out.len] at hc;rw [List.getElem?_append_right hj] at Ha;have Hi:j - ms.length=0:=by
   rcases Nat.eq_zero_or_pos (j - ms.length) with h' | h'
   ·exact h'
   rw [List.getElem?_eq_none (by simp;omega)] at hc;cases hc
  rw [Hi] at hc Ha;simp only [List.getElem?_cons_zero,Option.some.injEq] at hc Ha
  subst hc;subst Ha;exact ⟨lx,rfl,hx.same (by simp) Hc⟩
 ·exact ((mG base P).grown hg hb (fun q hq=>(Hb.lt q hq).1)).setCell (by show base<=gw;exact h.lw) v4
 intro g t cs hB Hj Hf;refine ⟨Blk.far ((hg.block g hB.lt fun e=>Hf e.symm).trans hB) (p:=⟨gw,1,none⟩) Hj v4,fun e=>?_⟩;rcases Hg with h' | h'
 ·rw [h'] at e;exact Hf e
 rw [h'] at e;have:=hB.lt;simp only [Option.some.injEq] at e
 omega
theorem zVy (A:Option Addr) (n c:Nat) (m:Scu.Message) (tt:Int) (w:World) (base gw gr:Nat) (r:Scu.Replica) (lu hv wv gv nv ov:Value) (ms:List Scu.Message) (css:List (List Value)) (hW:Work w base gw gr r lu hv wv gv nv ov ms css) (ht:tt=r.me) :
 Calls Tryz.prog 84 #[.pointer (some ⟨gw,0,none⟩),.int .i64 tt,.agg #[.int .i64 m.kind,.int .i64 m.from_,.int .i64 m.tq,.int .i64 m.view,.int .i64 m.normal,.int .i64 m.commit,.int .i64 m.n,.slice A n c]] w fun e w'=>e=.returned (.tuple #[])/\Below w.heap.size w w':=by
 have d0:=hW.wb.cell 0;have d1:=hW.rb.cell 0;simp only [List.getElem?_toArray,List.getElem?_cons_zero] at d0 d1
 have dl:=hW.wb.lt;have dm:=hW.rb.lt;subst ht;clear hW;go_enter Tryz.func84,Tryz.ntmps84
 go_wp2
 refine bodyPost_ret (v:=.tuple #[]) (by simp [results,Tryz.results84]) rfl ?_;exact ⟨rfl,zAa _ _⟩
theorem zRr (A:Option Addr) (n c:Nat) (m:Scu.Message) (tt:Int) (w:World) (base gw gr:Nat) (r:Scu.Replica) (lu hv wv gv nv ov:Value) (ms:List Scu.Message) (css:List (List Value)) (hW:Work w base gw gr r lu hv wv gv nv ov ms css) (Hc:base<=w.heap.size) (ht:tt≠r.me)
 (hx:IsStrs w 0 (.slice A n c) m.log) (hm:(ms.length+1)*80<=R47) :
 Calls Tryz.prog 84 #[.pointer (some ⟨gw,0,none⟩),.int .i64 tt,.agg #[.int .i64 m.kind,.int .i64 m.from_,.int .i64 m.tq,.int .i64 m.view,.int .i64 m.normal,.int .i64 m.commit,.int .i64 m.n,.slice A n c]] w fun e w'=>e=.returned (.tuple #[])/\(∃ ov' css',Work w' base gw gr r lu hv wv gv nv ov' (ms ++ [⟨m.kind,r.me,tt,r.kept.view,m.normal,m.commit,m.n,m.log⟩]) css'/\∀ g t cs,Blk w g t cs->g≠gw->ov.ownBlock≠some g->Blk w' g t cs/\ov'.ownBlock≠some g)/\Below base w w'/\Same [9] 0 w w':=by
 have Hw:(tt == r.me)=false:=by simpa using ht
 have HW:=mA hW;have HX:=mA hx;clear hW hx;go_enter Tryz.func84,Tryz.ntmps84
 go_upto_region 1 with fail
 obtain ⟨Wd,Hg⟩:=mJ (w.alloc (.cells (mN m A n c) 99));rw [<- Hg];have Hi:Below w.heap.size w Wd:=by rw [Hg];exact zAa _ _
 have hn:Blk Wd w.heap.size 99 (mN m A n c):=by rw [Hg];exact Blk.new _ _ _
 have Hd:=HW.out.below Hi;have d0:=cz1 Hd.wb;obtain ⟨d1,d2⟩:=cz2 Hd.rb;obtain ⟨-,e1,e2,e3⟩:=cz4 hn;have ez:=hn.frozen;have dl:=Hd.wb.lt;have dm:=Hd.rb.lt;have el:=hn.lt;have Hx:w.heap.size≠gw:=by have:=HW.out.wb.lt;omega
 have Hy:w.heap.size≠gr:=by have:=HW.out.rb.lt;omega
 have HN:=mA (mB hn (mB Hd Hi));clear hn Hd Hi Hg;go_wp2_with fail
 go_region
 obtain ⟨We,Hf⟩:=mJ ((((Wd.setCell ⟨w.heap.size,1,none⟩ (.int .i64 r.me)).setCell ⟨w.heap.size,2,none⟩ (.int .i64 tt)).setCell ⟨w.heap.size,3,none⟩ (.int .i64 r.kept.view)).drew);rw [<- Hf];have Hj:Blk We w.heap.size 99 #[.int .i64 m.kind,.int .i64 r.me,.int .i64 tt,.int .i64 r.kept.view,.int .i64 m.normal,.int .i64 m.commit,.int .i64 m.n,.slice A n c]:=by rw [Hf];exact (((HN.out.1.set_ 1 _).set_ 2 _).set_ 3 _).drew
 have Ht:Same [9,3,4,42,47,133] 0 Wd We:=by
  rw [Hf];exact ((((Same.set_ HN.out.1 (mE _) (by decide) 1 _).trans (Same.set_ (HN.out.1.set_ 1 _) (mE _) (by decide) 2 _)).trans (Same.set_ ((HN.out.1.set_ 1 _).set_ 2 _) (mE _) (by decide) 3 _))).trans (Same.drew _)
 have He:Below w.heap.size w We:=by
  rw [Hf];exact (((HN.out.2.2.setCell (p:=⟨w.heap.size,1,none⟩) (mC _) _).setCell (p:=⟨w.heap.size,2,none⟩) (mC _) _).setCell (p:=⟨w.heap.size,3,none⟩) (mC _) _).drew
 have Ha:=HW.out.below He;have Ho:=HX.out.below He;clear d0 d1 d2 e1 e2 e3 ez dl dm el Hf Ht;obtain ⟨-,d1⟩:=cz2 Ha.wb;obtain ⟨q0,q1,q2,q3,q4,q5,q6,q7⟩:=cz8 Hj;have dz:=Ha.wb.frozen;have dl:=Ha.wb.lt;have ql:=Hj.lt;obtain ⟨Ao,co,rfl⟩:=Ha.out.form;have Hu:=mA Ha;have Hv:=mA Ho;have Hp:=mA He;have Hk:=mA Ha.out.row;unfold R47 at hm;have Hq:=mA (show base<=((We.alloc (.cells #[.int .i64 m.kind,.int .i64 r.me,.int .i64 tt,.int .i64 r.kept.view,.int .i64 m.normal,.int .i64 m.commit,.int .i64 m.n,.slice A n c] 99)).drew).heap.size from mD Hc (((He.alloc He.size (.cells #[.int .i64 m.kind,.int .i64 r.me,.int .i64 tt,.int .i64 r.kept.view,.int .i64 m.normal,.int .i64 m.commit,.int .i64 m.n,.slice A n c] 99)).drew).size));clear Hj He Ha Ho;go_wp2_with fail
 go_region_law (first
  | (refine zBq _ rfl (.tmp 38) (.tmp 40) 25 rfl zCr base (.slice Ao ms.length co) ms.length css.flatten rfl ?_ (.slice (some ⟨We.heap.size,0,none⟩) 1 1) 1 (msgV ⟨m.kind,r.me,tt,r.kept.view,m.normal,m.commit,m.n,m.log⟩ (.slice A n c)) rfl ⟨rfl,.inr ⟨_,_,rfl,?_⟩⟩ ?_ ?_ ?_ ?_ ?_
     ·exact (zAg Hk.out (zAa We _).drew)
     ·intro j v hj;have Hz:j < 8:=by (rcases Nat.lt_or_ge j 8 with h | h;exact h;rw [List.getElem?_eq_none h] at hj;cases hj)
      have Hl:(⟨We.heap.size,0,none⟩:Addr).add j=⟨We.heap.size,j,none⟩:=by (unfold Addr.add;split <;> simp_all)
      rw [Hl];refine (((Blk.new We 99 #[.int .i64 m.kind,.int .i64 r.me,.int .i64 tt,.int .i64 r.kept.view,.int .i64 m.normal,.int .i64 m.commit,.int .i64 m.n,.slice A n c]).drew).cell j).trans ?_;simpa [msgV] using hj
     ·(intro v hv;simp only [msgV,List.mem_cons,List.not_mem_nil,or_false] at hv;rcases hv with rfl | rfl | rfl | rfl | rfl | rfl | rfl | rfl <;> rfl)
     ·(unfold maxLen;omega)
     ·omega
     ·exact Hq.out
     intro v4 x4 h4 Hm Hr;have hP:=Hu.out.below (zAa We (.cells #[.int .i64 m.kind,.int .i64 r.me,.int .i64 tt,.int .i64 r.kept.view,.int .i64 m.normal,.int .i64 m.commit,.int .i64 m.n,.slice A n c] 99)).drew;have Hs:=zRq (m:=⟨m.kind,r.me,tt,r.kept.view,m.normal,m.commit,m.n,m.log⟩) hP (by unfold R47;omega) (Hv.out.below (zAa We (.cells #[.int .i64 m.kind,.int .i64 r.me,.int .i64 tt,.int .i64 r.kept.view,.int .i64 m.normal,.int .i64 m.commit,.int .i64 m.n,.slice A n c] 99)).drew) h4 Hm Hq.out Hr;have Hb:=zAc hP.wb (Ts:=[133]) (Same.own hP.out.row Hm (mE _) (by decide)) (by simp);obtain ⟨-,g1⟩:=cz2 Hb;have gz:=Hb.frozen;have gl:=Hb.lt;obtain ⟨A9,c9,rfl,_,_,_,_⟩:=zAi h4;have Hh:=mA Hs;clear hP Hs h4 Hm Hb Hr))
 all_goals
  go_wp2
  go_end0
  have Hn:=(Hp.out.alloc Hp.out.size (.cells #[.int .i64 m.kind,.int .i64 r.me,.int .i64 tt,.int .i64 r.kept.view,.int .i64 m.normal,.int .i64 m.commit,.int .i64 m.n,.slice A n c] 99)).drew;exact ⟨rfl,⟨_,_,Hh.out.1,fun g t cs h1 h2 h3=>Hh.out.2.2.2 g t cs (h1.same Hn) h2 h3⟩,(Hn.mono Hc).trans Hh.out.2.1,(Same.below Hn).trans (Hh.out.2.2.1.mono (by simp) (mC _))⟩
def partAll (me view:Int) (m:Scu.Message) (k:Nat):List Scu.Message:=((([0,1,2]:List Int).take k).filter fun i=>decide (i≠me)).map fun i=>⟨m.kind,me,i,view,m.normal,m.commit,m.n,m.log⟩
theorem zRs (me view:Int) (m:Scu.Message):partAll me view m 0=[]:=rfl
theorem zJj {me view:Int} {m:Scu.Message} {k:Nat} (hk:k < 3) (h:(k:Int)=me):partAll me view m (k+1)=partAll me view m k:=by
 subst h;rcases k with _ | _ | _ | k
 ·simp [partAll]
 ·simp [partAll]
 ·simp [partAll]
 omega
theorem zJk {me view:Int} {m:Scu.Message} {k:Nat} (hk:k < 3) (h:(k:Int)≠me):partAll me view m (k+1)=partAll me view m k ++ [⟨m.kind,me,k,view,m.normal,m.commit,m.n,m.log⟩]:=by
 have h':decide ((k:Int)=me)=false:=by simpa using h
 rcases k with _ | _ | _ | k
 ·simp [partAll,List.take,List.filter,show ¬ (0:Int)=me from h]
 ·simp [partAll,List.take,List.filter,show ¬ (1:Int)=me from h]
  by_cases h0:(0:Int)=me <;> simp [h0]
 ·simp [partAll,List.take,List.filter,show ¬ (2:Int)=me from h]
  by_cases h0:(0:Int)=me <;> by_cases h1:(1:Int)=me <;> simp [h0,h1]
 omega
theorem zIo (me view:Int) (m:Scu.Message) (k:Nat):(partAll me view m k).length<=3:=by
 unfold partAll;rw [List.length_map];refine mD (List.length_filter_le _ _) ?_;rw [List.length_take];simp only [List.length_cons,List.length_nil]
 omega
theorem zTo {ms ps:List Scu.Message} (h:ps.length<=3) (hm:(ms.length+4)*80<=R47):((ms ++ ps).length+1)*80<=R47:=by
 have e:(ms ++ ps).length=ms.length+ps.length:=List.length_append;rw [e];refine mD (Nat.mul_le_mul_right 80 ?_) hm;omega
theorem zWt {w:World} {a b:Nat} {t t':TypeId} {cs cs':Array Value} (h:Blk w a t cs) (h':Blk w b t' cs') (ht:t≠t'):a≠b:=fun e=>by
 subst e;unfold Blk at h h';rw [h] at h';cases h'
 exact ht rfl
structure AllI (w:World) (base gw gr:Nat) (r:Scu.Replica) (lu hv wv gv nv:Value) (ms:List Scu.Message) (m:Scu.Message) (A:Option Addr) (n c:Nat) (k:Nat) (ov0 ov:Value) (css:List (List Value)) (wr:World):Prop where
 far:Far w wr ov0 ov
 work:Work wr base gw gr r lu hv wv gv nv ov (ms ++ partAll r.me r.kept.view m k) css
 box:Blk wr w.heap.size 99 #[.int .i64 m.kind,.int .i64 m.from_,.int .i64 m.tq,.int .i64 m.view,.int .i64 m.normal,.int .i64 m.commit,.int .i64 m.n,.slice A n c]
 ne:ov.ownBlock≠some w.heap.size
 log:IsStrs wr 0 (.slice A n c) m.log
 low:Below base w wr
theorem zWu (A:Option Addr) (n c:Nat) (m:Scu.Message) (w:World) (base gw gr:Nat) (r:Scu.Replica) (lu hv wv gv nv ov:Value) (ms:List Scu.Message) (css:List (List Value)) (hW:Work w base gw gr r lu hv wv gv nv ov ms css) (Hb:base<=w.heap.size)
 (hx:IsStrs w 0 (.slice A n c) m.log) (hm:(ms.length+4)*80<=R47) :
 Calls Tryz.prog 86 #[.pointer (some ⟨gw,0,none⟩),.agg #[.int .i64 m.kind,.int .i64 m.from_,.int .i64 m.tq,.int .i64 m.view,.int .i64 m.normal,.int .i64 m.commit,.int .i64 m.n,.slice A n c]] w fun e w'=>e=.returned (.tuple #[])/\(∃ ov' css',Work w' base gw gr r lu hv wv gv nv ov' (ms ++ partAll r.me r.kept.view m 3) css'/\Far w w' ov ov')/\Below base w w':=by
 have hI:AllI w base gw gr r lu hv wv gv nv ms m A n c 0 ov ov css (w.alloc (.cells (mN m A n c) 99)):=by
  have Hi:=zAa w (.cells (mN m A n c) 99);refine ⟨Far.below Hi,?_,Blk.new w _ _,fun e=>?_,hx.below Hi,Hi.mono Hb⟩
  ·rw [zRs,List.append_nil];exact hW.below Hi
  have:=(hW.out.row.lt _ e).2;omega
 have HI:=mA hI;clear hI hW hx;go_enter Tryz.func86,Tryz.ntmps86
 go_wp2_with fail
 go_loopw [6] (fun i wr=>∃ (k:Nat) (ov1:Value) (css:List (List Value)),k<=3/\i=.int .i64 k/\Hid (AllI w base gw gr r lu hv wv gv nv ms m A n c k ov ov1 css wr)) (fun i _=>3 - (intOf i).toNat)
 case atStart=>exact ⟨0,ov,css,mE _,rfl,HI⟩
 case round =>
  obtain ⟨k,ov1,css1,hk,rfl,hI⟩:=hrel;by_cases Ho:k < 3
  ·have Hw:(k:Int) < 3:=by omega
   have Hj:=hI.out.box;obtain ⟨b0,b1,b2,b3,b4,b5,b6,b7⟩:=cz8 Hj;have bl:=Hj.lt;clear Hj;go_wp2_with fail
   refine (zAp _ m.log _ 0 (hI.out.log.alloc _)).mono ?_;rintro en w2 ⟨⟨u,rfl,hu⟩,h2⟩;obtain ⟨Au,cu,rfl,_,_,_,_⟩:=zAi hu;have He:Blk w2 wr.heap.size 99 (mN m A n c):=(Blk.new wr _ _).same h2;obtain ⟨-,-,-,-,-,-,-,x7⟩:=cz8 He;have xz:=He.frozen;have xl:=He.lt;have Hp:Below wr.heap.size wr w2:=(zAa wr _).trans (h2.mono (by simp));have Hq:IsStrs w2 0 (.slice Au m.log.length cu) m.log:=zCn hu hI.out.log.len hI.out.log.each;have Hf:=mA (mB He (mB Hp Hq));clear He Hp Hq hu h2;go_upto_region 6 with fail
   obtain ⟨Wf,Hg⟩:=mJ (w2.setCell ⟨wr.heap.size,7,none⟩ (.slice Au m.log.length cu));rw [<- Hg];have Hk:Blk Wf wr.heap.size 99 (mN m Au m.log.length cu):=by rw [Hg];exact Hf.out.1.set_ 7 _
   have Hc:Below wr.heap.size wr Wf:=by rw [Hg];exact Hf.out.2.1.setCell (p:=⟨wr.heap.size,7,none⟩) (mC _) _
   have Hr:IsStrs Wf 0 (.slice Au m.log.length cu) m.log:=by rw [Hg];exact Hf.out.2.2.same (Ts:=[9]) (by simp) (Same.set_ Hf.out.1 (mE _) (by decide) 7 _)
   have Hs:AllI w base gw gr r lu hv wv gv nv ms m A n c k ov ov1 css1 Wf:=⟨hI.out.far.trans (Far.below Hc),hI.out.work.below Hc,hI.out.box.same Hc,hI.out.ne,hI.out.log.below Hc,hI.out.low.trans (Hc.mono (mD Hb hI.out.low.size))⟩;obtain ⟨x0,x1,x2,x3,x4,x5,x6,y7⟩:=cz8 Hk;have yl:=Hk.lt;have Ht:base<=Wf.heap.size:=mD (mD Hb hI.out.low.size) Hc.size;have Ha:=mA Hs;have Hx:=mA Hr;clear Hk Hc Hr Hs Hg x7 xz xl b0 b1 b2 b3 b4 b5 b6 b7 bl hI Hf;have Hy:=mA (zTo (zIo r.me r.kept.view m k) hm);go_wp2_with fail
   by_cases Hd:(k:Int)=r.me
   ·refine (zVy Au m.log.length cu m k Wf base gw gr r lu hv wv gv nv ov1 _ css1 Ha.out.work Hd).mono ?_;rintro en w5 ⟨rfl,h5⟩;have Hh:AllI w base gw gr r lu hv wv gv nv ms m A n c (k+1) ov ov1 css1 w5:=⟨Ha.out.far.trans (Far.below h5),by rw [zJj Ho Hd];exact Ha.out.work.below h5,Ha.out.box.same h5,Ha.out.ne,Ha.out.log.below h5,Ha.out.low.trans (h5.mono Ht)⟩;have Hl:=mA Hh;clear Hh h5 Hd;go_wp2
    exact ⟨⟨k+1,ov1,css1,by omega,rfl,Hl⟩,by simp only [intOf];omega⟩
   refine (zRr Au m.log.length cu m k Wf base gw gr r lu hv wv gv nv ov1 _ css1 Ha.out.work Ht Hd Hx.out Hy.out).mono ?_;rintro en w5 ⟨rfl,⟨ov2,css2,Hu,Hm⟩,h5,Hv⟩;have Hz:w.heap.size≠gw:=by
    intro e;have hA:=Ha.out.box;have hC:=Ha.out.work.wb;rw [e] at hA;unfold Blk at hA hC;rw [hA] at hC;cases hC
   have Hn:=Hm _ _ _ Ha.out.box Hz Ha.out.ne;have Hh:AllI w base gw gr r lu hv wv gv nv ms m A n c (k+1) ov ov2 css2 w5:=⟨Ha.out.far.trans fun b cs hb hc=>Hm b _ cs hb (zWt hb Ha.out.work.wb (by decide)) hc,by rw [zJk Ho Hd,<- List.append_assoc];exact Hu,Hn.1,Hn.2,Ha.out.log.same (by simp) Hv,Ha.out.low.trans h5⟩;have Hl:=mA Hh;clear Hh h5 Hv Hu Hm Hn Hd;go_wp2
   exact ⟨⟨k+1,ov2,css2,by omega,rfl,Hl⟩,by simp only [intOf];omega⟩
  have Ka:k=3:=by omega
  subst Ka;go_wp2
  go_end0
  exact ⟨rfl,⟨_,_,hI.out.work,hI.out.far⟩,hI.out.low⟩
def leadMsg (r:Scu.Replica):Scu.Message:=⟨1,0,0,0,0,r.kept.commit,0,r.kept.log⟩
theorem zYp (w:World) (base gw gr:Nat) (r:Scu.Replica) (lu hv wv gv nv ov:Value) (ms:List Scu.Message) (css:List (List Value)) (hW:Work w base gw gr r lu hv wv gv nv ov ms css) (Ha:base<=w.heap.size) (hm:(ms.length+4)*80<=R47) :
 Calls Tryz.prog 79 #[.pointer (some ⟨gw,0,none⟩)] w fun e w'=>e=.returned (.tuple #[])/\(∃ ov' css',Work w' base gw gr r lu hv wv gv nv ov' (ms ++ partAll r.me r.kept.view (leadMsg r) 3) css')/\Below base w w':=by
 have hl:=hW.own.is.log;obtain ⟨A,n,c,rfl⟩:=hl.form;have d0:=cz1 hW.wb;obtain ⟨-,-,-,-,d4,d5⟩:=cz6 hW.rb;have dl:=hW.wb.lt;have dm:=hW.rb.lt;have HW:=mA (mB hW hl);have HM:=mA hm;clear hW hl hm;go_enter Tryz.func79,Tryz.ntmps79
 go_wp2_with fail
 go_still_tail 18,(by kernel_rfl)
 change wpList _ _ _ _ _ w.drew;go_wp2_with (go_at_call 86;refine (zWu A n c (leadMsg r) _ base gw gr r (.slice A n c) hv wv gv nv ov ms css (HW.out.1.below (mG _ _).drew) Ha (HW.out.2.below (mG _ _).drew) HM.out).mono ?_;rintro en w5 ⟨rfl,⟨ov5,css5,hk,_⟩,h5⟩;have HK:=mA (mB hk ((mG base w).drew.trans h5));clear hk h5)
 go_wp2
 go_end0
 exact ⟨rfl,⟨_,_,HK.out.1⟩,HK.out.2⟩
theorem zGp {w:World} {base:Nat} {e:TypeId} {size n:Nat} {v:Value} {xs:List Value} (h:w.ownsRow base e size v n xs) {p:Addr} (hp:v.ownBlock≠some p.block) (u:Value):(w.setCell p u).ownsRow base e size v n xs:=by
 obtain ⟨hl,h0 | ⟨g,cap,cur,rfl,hb,hh,hr⟩⟩:=h
 ·exact ⟨hl,.inl h0⟩
 exact ⟨hl,.inr ⟨g,cap,cur,rfl,hb,(Below.heap_setCell w p u g (fun e=>hp (by rw [<- e];rfl))).trans hh,hr⟩⟩
theorem OwnOnes.at_ {α:Type} {t:TypeId} {bytes:Nat} {f:α->Value} {w:World} {base:Nat} {v:Value} {xs:List α} (h:OwnOnes t bytes f w base v xs) (hn:0 < xs.length) :
 ∃ g c cur,v=.slice (some ⟨g,0,none⟩) xs.length c/\base<=g/\Blk w g t cur/\∀ j,j < xs.length->w.cell? ⟨g,j,none⟩=(xs.map f)[j]?:=zCj h.1 hn
theorem OwnOnes.put {α:Type} {t:TypeId} {bytes:Nat} {f:α->Value} {w:World} {base g c n:Nat} {xs:List α} (h:OwnOnes t bytes f w base (.slice (some ⟨g,0,none⟩) n c) xs) (j:Nat) (x:α) :
 OwnOnes t bytes f (w.setCell ⟨g,j,none⟩ (f x)) base (.slice (some ⟨g,0,none⟩) n c) (xs.set j x):=by
 have hn:n=xs.length:=by
  obtain ⟨⟨A,c',e,_⟩,_⟩:=h.is;cases e
  rfl
 subst hn;refine ⟨?_,by simpa using h.2⟩;rw [List.length_set,List.map_set];exact zRm h.1 j _
theorem OwnOnes.far {α:Type} {t:TypeId} {bytes:Nat} {f:α->Value} {w:World} {base:Nat} {v:Value} {xs:List α} (h:OwnOnes t bytes f w base v xs) {p:Addr} (hp:v.ownBlock≠some p.block) (u:Value):OwnOnes t bytes f (w.setCell p u) base v xs:=⟨zGp h.1 hp u,h.2⟩
theorem Work.want {w:World} {base gw gr g c n:Nat} {r:Scu.Replica} {lu hv gv nv ov:Value} {ms:List Scu.Message} {css:List (List Value)} (h:Work w base gw gr r lu hv (.slice (some ⟨g,0,none⟩) n c) gv nv ov ms css) {cur:Array Value} (hB:Blk w g 4 cur) (hg:base<=g) (j:Nat) (b:Bool) :
 Work (w.setCell ⟨g,j,none⟩ (.bool b)) base gw gr { r with wants:=r.wants.set j b } lu hv (.slice (some ⟨g,0,none⟩) n c) gv nv ov ms css/\Below base w (w.setCell ⟨g,j,none⟩ (.bool b)):=by
 have hs:Same [9,3,42,47,133,99] 0 w (w.setCell ⟨g,j,none⟩ (.bool b)):=Same.set_ hB (mE _) (by decide) j _;obtain ⟨css',Ha⟩:=h.own.giv;exact ⟨⟨zAc h.wb hs (by simp),zAc h.rb hs (by simp),⟨⟨h.own.own.log.same (hs.mono (by simp) (mC _)),h.own.own.have_.same (hs.mono (by simp) (mC _)),h.own.own.wants.put j b,h.own.own.given.far (h.own.own.apart g rfl) _,h.own.own.apart⟩,css',Ha.same (hs.mono (by simp) (mC _))⟩,h.out.same (hs.mono (by simp) (mC _)),h.lw,h.lr⟩,
  (mG base w).setCell (p:=⟨g,j,none⟩) hg _⟩
def WorkE (w:World) (base gw gr:Nat) (r:Scu.Replica) (ms:List Scu.Message):Prop:=∃ lu hv wv gv nv ov css,Work w base gw gr r lu hv wv gv nv ov ms css
theorem WorkE.below {w w':World} {base gw gr:Nat} {r:Scu.Replica} {ms:List Scu.Message} (h:WorkE w base gw gr r ms) (hb:Below w.heap.size w w'):WorkE w' base gw gr r ms :=
 let ⟨_,_,_,_,_,_,_,h⟩:=h;⟨_,_,_,_,_,_,_,h.below hb⟩
theorem Work.e {w:World} {base gw gr:Nat} {r:Scu.Replica} {lu hv wv gv nv ov:Value} {ms:List Scu.Message} {css:List (List Value)} (h:Work w base gw gr r lu hv wv gv nv ov ms css):WorkE w base gw gr r ms:=⟨_,_,_,_,_,_,_,h⟩
theorem zIe (w:World) (base gw gr:Nat) (r:Scu.Replica) (ms:List Scu.Message) (hW:WorkE w base gw gr r ms) (Ha:base<=w.heap.size) (hm:(ms.length+4)*80<=R47) :
 Calls Tryz.prog 79 #[.pointer (some ⟨gw,0,none⟩)] w fun e w'=>e=.returned (.tuple #[])/\WorkE w' base gw gr r (ms ++ Scu.leadOn r)/\Below base w w':=by
 obtain ⟨lu,hv,wv,gv,nv,ov,css,hW⟩:=hW;refine (zYp w base gw gr r lu hv wv gv nv ov ms css hW Ha hm).mono ?_;rintro e w' ⟨h1,⟨ov',css',h2⟩,h3⟩;exact ⟨h1,h2.e,h3⟩
theorem zZw (k:Int) (w:World) (base gw gr:Nat) (r:Scu.Replica) (lu hv wv gv nv ov:Value) (ms:List Scu.Message) (css:List (List Value)) (hW:Work w base gw gr r lu hv wv gv nv ov ms css) (Ha:base<=w.heap.size) (hm:(ms.length+4)*80<=R47) :
 Calls Tryz.prog 86 #[.pointer (some ⟨gw,0,none⟩),.agg #[.int .i64 k,.int .i64 0,.int .i64 0,.int .i64 0,.int .i64 0,.int .i64 0,.int .i64 0,.slice none 0 0]] w fun e w'=>e=.returned (.tuple #[])/\(∃ ov' css',Work w' base gw gr r lu hv wv gv nv ov' (ms ++ Scu.toAll r.me r.kept.view { Scu.msg0 with kind:=k }) css'/\Far w w' ov ov')/\Below base w w' :=
 zWu none 0 0 { Scu.msg0 with kind:=k } w base gw gr r lu hv wv gv nv ov ms css hW Ha IsStrs.nil_ hm
theorem zZx (k:Int) (w:World) (base gw gr:Nat) (r:Scu.Replica) (ms:List Scu.Message) (hW:WorkE w base gw gr r ms) (Ha:base<=w.heap.size) (hm:(ms.length+4)*80<=R47) :
 Calls Tryz.prog 86 #[.pointer (some ⟨gw,0,none⟩),.agg #[.int .i64 k,.int .i64 0,.int .i64 0,.int .i64 0,.int .i64 0,.int .i64 0,.int .i64 0,.slice none 0 0]] w fun e w'=>e=.returned (.tuple #[])/\WorkE w' base gw gr r (ms ++ Scu.toAll r.me r.kept.view { Scu.msg0 with kind:=k })/\Below base w w':=by
 obtain ⟨lu,hv,wv,gv,nv,ov,css,hW⟩:=hW;refine (zWu none 0 0 { Scu.msg0 with kind:=k } w base gw gr r lu hv wv gv nv ov ms css hW Ha IsStrs.nil_ hm).mono ?_;rintro e w' ⟨h1,⟨ov',css',h2,_⟩,h3⟩;exact ⟨h1,h2.e,h3⟩
theorem zEp (A:Option Addr) (n c:Nat) (m:Scu.Message) (tt:Int) (w:World) (base gw gr:Nat) (r:Scu.Replica) (ms:List Scu.Message) (hW:WorkE w base gw gr r ms) (Ha:base<=w.heap.size)
 (hx:IsStrs w 0 (.slice A n c) m.log) (hm:(ms.length+1)*80<=R47) (ms':List Scu.Message) (Hb:ms'=if tt=r.me then ms else ms ++ [⟨m.kind,r.me,tt,r.kept.view,m.normal,m.commit,m.n,m.log⟩]) :
 Calls Tryz.prog 84 #[.pointer (some ⟨gw,0,none⟩),.int .i64 tt,.agg #[.int .i64 m.kind,.int .i64 m.from_,.int .i64 m.tq,.int .i64 m.view,.int .i64 m.normal,.int .i64 m.commit,.int .i64 m.n,.slice A n c]] w fun e w'=>e=.returned (.tuple #[])/\WorkE w' base gw gr r ms'/\Below base w w':=by
 obtain ⟨lu,hv,wv,gv,nv,ov,css,hW⟩:=hW;subst Hb;by_cases ht:tt=r.me
 ·rw [if_pos ht];refine (zVy A n c m tt w base gw gr r lu hv wv gv nv ov ms css hW ht).mono ?_;rintro e w' ⟨h1,h3⟩;exact ⟨h1,(hW.below h3).e,h3.mono Ha⟩
 rw [if_neg ht];refine (zRr A n c m tt w base gw gr r lu hv wv gv nv ov ms css hW Ha ht hx hm).mono ?_;rintro e w' ⟨h1,⟨ov',css',h2,_⟩,h3,_⟩;exact ⟨h1,h2.e,h3⟩
structure LowStrs (w:World) (base:Nat) (v:Value) (xs:List Scu.Str):Prop where
 ex:∃ A c,v=.slice A xs.length c/\xs.length<=c/\(xs=[]\/∃ g o,A=some ⟨g,o,none⟩/\g < base/\∀ (j:Nat) (u:Value),(xs.map Value.string)[j]? = some u->w.cell? ⟨g,o+j,none⟩=some u)
 len:xs.length*16<=R47
 each:∀ s ∈ xs,s.size<=R47
theorem LowStrs.of {w:World} {B:Nat} {v:Value} {xs:List Scu.Str} (h:IsStrs w B v xs):LowStrs w w.heap.size v xs:=by
 obtain ⟨⟨A,c,rfl,hc,hr⟩,h2,h3⟩:=h;refine ⟨⟨A,c,rfl,hc,?_⟩,h2,h3⟩;rcases hr with h | ⟨g,o,h1,h2,_,h4⟩
 ·exact .inl (by simpa using h)
 exact .inr ⟨g,o,h1,h2,h4⟩
theorem LowStrs.keep {w w':World} {base:Nat} {v:Value} {xs:List Scu.Str} (h:LowStrs w base v xs) (hb:Below base w w'):LowStrs w' base v xs:=by
 obtain ⟨⟨A,c,rfl,hc,hr⟩,h2,h3⟩:=h;refine ⟨⟨A,c,rfl,hc,?_⟩,h2,h3⟩;rcases hr with h | ⟨g,o,h1,h2,h4⟩
 ·exact .inl h
 exact .inr ⟨g,o,h1,h2,fun j u hj=>(hb.cell (p:=⟨g,o+j,none⟩) h2).trans (h4 j u hj)⟩
theorem LowStrs.is {w:World} {base:Nat} {v:Value} {xs:List Scu.Str} (h:LowStrs w base v xs) (hb:base<=w.heap.size):IsStrs w base v xs:=by
 obtain ⟨⟨A,c,rfl,hc,hr⟩,h2,h3⟩:=h;refine ⟨⟨A,c,rfl,hc,?_⟩,h2,h3⟩;rcases hr with h | ⟨g,o,h1,h2,h4⟩
 ·exact .inl (by simp [h])
 exact .inr ⟨g,o,h1,by omega,.inl h2,h4⟩
theorem ones3 {α:Type} {t:TypeId} {bytes:Nat} {f:α->Value} {w:World} {base:Nat} {v:Value} {xs:List α} (h:OwnOnes t bytes f w base v xs) (h3:xs.length=3) :
 ∃ g c cur,v=.slice (some ⟨g,0,none⟩) 3 c/\base<=g/\Blk w g t cur/\∀ j,j < 3->w.cell? ⟨g,j,none⟩=(xs.map f)[j]?:=by
 obtain ⟨g,c,cur,h1,h2,hb,h4⟩:=h.at_ (by omega);rw [h3] at h1 h4;exact ⟨g,c,cur,h1,h2,hb,h4⟩
theorem zJl {P:Program} {t ty e:TypeId} {z:Value} (ht:P.underlying t=some (.slice e)) (hz:∀ w,(zeroValue e).run P w=.ok z w) (h1:z.oneCell'=true) (Ha:z.cells = #[z]) (n:Nat) (w:World) (g c:Nat)
 (hc:∀ j,j < n+1->(w.cell? ⟨g,j,none⟩).isSome=true) (hf:∀ j,w.frozen? ⟨g,j,none⟩=false) :
 (Builtin.clear_ #[t] ty #[.slice (some ⟨g,0,none⟩) (n+1) c]).run P w=.ok (.tuple #[]) (w.setCells g 0 (List.replicate (n+1) z)):=by
 have hl:(Builtin.zeroCells z.cells (n+1)).toList=List.replicate (n+1) z:=by
  rw [Ha];unfold Builtin.zeroCells;apply List.ext_getElem
  ·simp
  intro i h2 h3;simp [Nat.mod_one]
 have Hb:=run_storeCells_cells (P:=P) g 0 (List.replicate (n+1) z) 0 w (fun j hj=>by simpa using hc j (by simpa using hj)) (fun j _=>by simpa using hf j) (fun v hv=>by rw [List.eq_of_mem_replicate hv];exact h1);simp [Builtin.clear_,run_underlying ht,hz,Result.andThen,hl,Hb]
section
variable {w:World} {base gw gr g c n:Nat} {r:Scu.Replica} {lu hv wv gv nv ov:Value} {ms:List Scu.Message} {css:List (List Value)}
theorem Work.put_have (h:Work w base gw gr r lu (.slice (some ⟨g,0,none⟩) n c) wv gv nv ov ms css) {cur:Array Value} (hB:Blk w g 3 cur) (hg:base<=g) (j:Nat) (x:Int) :
 Work (w.setCell ⟨g,j,none⟩ (.int .i64 x)) base gw gr { r with have_:=r.have_.set j x } lu (.slice (some ⟨g,0,none⟩) n c) wv gv nv ov ms css/\Below base w (w.setCell ⟨g,j,none⟩ (.int .i64 x))/\Blk (w.setCell ⟨g,j,none⟩ (.int .i64 x)) g 3 (cur.setIfInBounds j (.int .i64 x)):=by
 have hs:Same [9,4,42,47,133,99] 0 w (w.setCell ⟨g,j,none⟩ (.int .i64 x)):=Same.set_ hB (mE _) (by decide) j _;obtain ⟨css',Ha⟩:=h.own.giv;exact ⟨⟨zAc h.wb hs (by simp),zAc h.rb hs (by simp),⟨⟨h.own.own.log.same (hs.mono (by simp) (mC _)),h.own.own.have_.put j x,h.own.own.wants.same (hs.mono (by simp) (mC _)),h.own.own.given.same (hs.mono (by simp) (mC _)),h.own.own.apart⟩,css',Ha.same (hs.mono (by simp) (mC _))⟩,h.out.same (hs.mono (by simp) (mC _)),h.lw,h.lr⟩,
  (mG base w).setCell (p:=⟨g,j,none⟩) hg _,hB.set_ j _⟩
theorem Work.put_wants (h:Work w base gw gr r lu hv (.slice (some ⟨g,0,none⟩) n c) gv nv ov ms css) {cur:Array Value} (hB:Blk w g 4 cur) (hg:base<=g) (j:Nat) (b:Bool) :
 Work (w.setCell ⟨g,j,none⟩ (.bool b)) base gw gr { r with wants:=r.wants.set j b } lu hv (.slice (some ⟨g,0,none⟩) n c) gv nv ov ms css/\Below base w (w.setCell ⟨g,j,none⟩ (.bool b))/\Blk (w.setCell ⟨g,j,none⟩ (.bool b)) g 4 (cur.setIfInBounds j (.bool b)) :=
 ⟨(h.want hB hg j b).1,(h.want hB hg j b).2,hB.set_ j _⟩
theorem Work.put_given (h:Work w base gw gr r lu hv wv gv (.slice (some ⟨g,0,none⟩) n c) ov ms css) {cur:Array Value} (hB:Blk w g 4 cur) (hg:base<=g) (j:Nat) (b:Bool) :
 Work (w.setCell ⟨g,j,none⟩ (.bool b)) base gw gr { r with given:=r.given.set j b } lu hv wv gv (.slice (some ⟨g,0,none⟩) n c) ov ms css/\Below base w (w.setCell ⟨g,j,none⟩ (.bool b))/\Blk (w.setCell ⟨g,j,none⟩ (.bool b)) g 4 (cur.setIfInBounds j (.bool b)):=by
 have hs:Same [9,3,42,47,133,99] 0 w (w.setCell ⟨g,j,none⟩ (.bool b)):=Same.set_ hB (mE _) (by decide) j _;obtain ⟨css',Ha⟩:=h.own.giv;exact ⟨⟨zAc h.wb hs (by simp),zAc h.rb hs (by simp),⟨⟨h.own.own.log.same (hs.mono (by simp) (mC _)),h.own.own.have_.same (hs.mono (by simp) (mC _)),h.own.own.wants.far (fun e=>h.own.own.apart g e rfl) _,h.own.own.given.put j b,h.own.own.apart⟩,css',Ha.same (hs.mono (by simp) (mC _))⟩,h.out.same (hs.mono (by simp) (mC _)),h.lw,h.lr⟩,
  (mG base w).setCell (p:=⟨g,j,none⟩) hg _,hB.set_ j _⟩
theorem set3 {α:Type} {l:List α} (h:l.length=3) (x:α):((l.set 0 x).set 1 x).set 2 x=[x,x,x]:=by
 match l,h with
 | [a,b,c],_=>rfl
theorem Work.clear_have (h:Work w base gw gr r lu (.slice (some ⟨g,0,none⟩) n c) wv gv nv ov ms css) {cur:Array Value} (hB:Blk w g 3 cur) (hg:base<=g) (h3:r.have_.length=3) :
 Work (w.setCells g 0 (List.replicate 3 (.int .i64 0))) base gw gr { r with have_:=[0,0,0] } lu (.slice (some ⟨g,0,none⟩) n c) wv gv nv ov ms css/\Below base w (w.setCells g 0 (List.replicate 3 (.int .i64 0))):=by
 obtain ⟨a1,a2,a3⟩:=h.put_have hB hg 0 0;obtain ⟨b1,b2,b3⟩:=a1.put_have a3 hg 1 0;obtain ⟨c1,c2,c3⟩:=b1.put_have b3 hg 2 0;rw [<- set3 h3 0];exact ⟨c1,(a2.trans b2).trans c2⟩
theorem Work.clear_wants (h:Work w base gw gr r lu hv (.slice (some ⟨g,0,none⟩) n c) gv nv ov ms css) {cur:Array Value} (hB:Blk w g 4 cur) (hg:base<=g) (h3:r.wants.length=3) :
 Work (w.setCells g 0 (List.replicate 3 (.bool false))) base gw gr { r with wants:=[false,false,false] } lu hv (.slice (some ⟨g,0,none⟩) n c) gv nv ov ms css/\Below base w (w.setCells g 0 (List.replicate 3 (.bool false))):=by
 obtain ⟨a1,a2,a3⟩:=h.put_wants hB hg 0 false;obtain ⟨b1,b2,b3⟩:=a1.put_wants a3 hg 1 false;obtain ⟨c1,c2,c3⟩:=b1.put_wants b3 hg 2 false;rw [<- set3 h3 false];exact ⟨c1,(a2.trans b2).trans c2⟩
theorem Work.clear_given (h:Work w base gw gr r lu hv wv gv (.slice (some ⟨g,0,none⟩) n c) ov ms css) {cur:Array Value} (hB:Blk w g 4 cur) (hg:base<=g) (h3:r.given.length=3) :
 Work (w.setCells g 0 (List.replicate 3 (.bool false))) base gw gr { r with given:=[false,false,false] } lu hv wv gv (.slice (some ⟨g,0,none⟩) n c) ov ms css/\Below base w (w.setCells g 0 (List.replicate 3 (.bool false))):=by
 obtain ⟨a1,a2,a3⟩:=h.put_given hB hg 0 false;obtain ⟨b1,b2,b3⟩:=a1.put_given a3 hg 1 false;obtain ⟨c1,c2,c3⟩:=b1.put_given b3 hg 2 false;rw [<- set3 h3 false];exact ⟨c1,(a2.trans b2).trans c2⟩
theorem zOz {e:TypeId} {size:Nat} {xs:List Value} (h:Blk w g e xs.toArray) (hb:base<=g) (hn:xs.length=n*size) (hm:n<=maxLen):w.ownsRow base e size (.slice (some ⟨g,0,none⟩) n n) n xs :=
 ⟨hn,.inr ⟨g,n,xs.toArray,rfl,hb,h,mC _,hm,by simp [hn],by rw [<- hn];simp⟩⟩
theorem ones3f {α:Type} {t:TypeId} {bytes:Nat} {f:α->Value} {v:Value} {xs:List α} (h:OwnOnes t bytes f w base v xs) (h3:xs.length=3):∃ g c,v=.slice (some ⟨g,0,none⟩) 3 c :=
 let ⟨g,c,_,e,_⟩:=ones3 h h3;⟨g,c,e⟩
theorem ones3' {α:Type} {t:TypeId} {bytes:Nat} {f:α->Value} {xs:List α} (h:OwnOnes t bytes f w base (.slice (some ⟨g,0,none⟩) 3 c) xs) (h3:xs.length=3) :
 base<=g/\(∃ cur,Blk w g t cur)/\(∀ j,j < 2+1->(w.cell? ⟨g,j,none⟩).isSome=true)/\(∀ j,w.frozen? ⟨g,j,none⟩=false)/\∀ j,j < 3->w.cell? ⟨g,j,none⟩=(xs.map f)[j]?:=by
 obtain ⟨g',c',cur,h1,h2,hB,h4⟩:=ones3 h h3;cases h1
 exact ⟨h2,⟨cur,hB⟩,fun j hj=>by rw [h4 j hj,mH (by rw [List.length_map,h3];exact hj)];rfl,hB.frozen,h4⟩
theorem Same.setCells3 {Ts:List TypeId} {t:TypeId} {cur:Array Value} (hB:Blk w g t cur) (ht:t ∉ Ts) (x y z:Value):Same Ts 0 w (w.setCells g 0 [x,y,z]) :=
 ((Same.set_ hB (mE _) ht 0 x).trans (Same.set_ (hB.set_ 0 x) (mE _) ht 1 y)).trans (Same.set_ ((hB.set_ 0 x).set_ 1 y) (mE _) ht 2 z)
def zeroK:List Value:=[.int .i64 0,.int .i64 0,.bool false,.slice none 0 0,.int .i64 0]
theorem zKk (h:Blk w g 42 (zeroK ++ (zeroK ++ zeroK)).toArray) (hb:base<=g):OwnKs w base (.slice (some ⟨g,0,none⟩) 3 3) [Scu.kept0,Scu.kept0,Scu.kept0] [zeroK,zeroK,zeroK]:=by
 refine ⟨rfl,?_,zOz (size:=5) (n:=3) (xs:=[zeroK,zeroK,zeroK].flatten) (by simpa using h) hb rfl (by decide),?_,by simp [R47]⟩
 ·intro cs Ha;simp only [List.mem_cons,List.not_mem_nil,or_false,or_self] at Ha
  subst Ha;rfl
 intro j cs k h1 h2;have:cs=zeroK/\k=Scu.kept0:=by
  rcases j with _ | _ | _ | j
  ·simp at h1 h2;exact ⟨h1.symm,h2.symm⟩
  ·simp at h1 h2;exact ⟨h1.symm,h2.symm⟩
  ·simp at h1 h2;exact ⟨h1.symm,h2.symm⟩
  simp at h1
 obtain ⟨rfl,rfl⟩:=this;exact ⟨.slice none 0 0,rfl,IsStrs.nil_⟩
theorem Work.new_gives (h:Work w base gw gr r lu hv wv gv nv ov ms css) {v:Value} {gs:List Scu.Kept} (Ha:OwnKepts w base v gs) :
 Work (w.setCell ⟨gr,8,none⟩ v) base gw gr { r with gives:=gs } lu hv wv v nv ov ms css/\Below base w (w.setCell ⟨gr,8,none⟩ v):=by
 have hs:Same [9,3,4,42,133,99] 0 w (w.setCell ⟨gr,8,none⟩ v):=Same.set_ h.rb (mE _) (by decide) 8 _;obtain ⟨css',Hb⟩:=Ha;exact ⟨⟨zAc h.wb hs (by simp),h.rb.set_ 8 v,⟨(let o:=h.own.own.same (hs.mono (by simp) (mC _));⟨o.log,o.have_,o.wants,o.given,o.apart⟩),css',Hb.same (hs.mono (by simp) (mC _))⟩,h.out.same (hs.mono (by simp) (mC _)),h.lw,h.lr⟩,(mG base w).setCell (p:=⟨gr,8,none⟩) h.lr _⟩
theorem Work.rcell (h:Work w base gw gr r lu hv wv gv nv ov ms css) (i:Nat) (u:Value) :
 (∀ g' t cs,t≠47->Blk w g' t cs->Blk (w.setCell ⟨gr,i,none⟩ u) g' t cs)/\OwnRep (w.setCell ⟨gr,i,none⟩ u) base lu hv wv gv nv r/\OwnMs (w.setCell ⟨gr,i,none⟩ u) base ov ms css/\Below base w (w.setCell ⟨gr,i,none⟩ u):=by
 have hs:Same [9,3,4,42,133,99] 0 w (w.setCell ⟨gr,i,none⟩ u):=Same.set_ h.rb (mE _) (by decide) i _;refine ⟨fun g' t cs ht hB=>(Below.heap_setCell w ⟨gr,i,none⟩ u g' (fun e=>?_)).trans hB,h.own.same (hs.mono (by simp) (mC _)),h.out.same (hs.mono (by simp) (mC _)),(mG base w).setCell (p:=⟨gr,i,none⟩) h.lr _⟩;have hr:=h.rb;subst e;unfold Blk at hB hr;rw [hr] at hB;cases hB
 exact ht rfl
theorem Work.set_view (h:Work w base gw gr r lu hv wv gv nv ov ms css) (x:Int):Work (w.setCell ⟨gr,1,none⟩ (.int .i64 x)) base gw gr { r with kept:={ r.kept with view:=x } } lu hv wv gv nv ov ms css :=
 let ⟨a,b,c,_⟩:=h.rcell 1 (.int .i64 x)
 ⟨a _ _ _ (by decide) h.wb,h.rb.set_ 1 _,⟨⟨b.own.log,b.own.have_,b.own.wants,b.own.given,b.own.apart⟩,b.giv⟩,c,h.lw,h.lr⟩
theorem Work.set_normal (h:Work w base gw gr r lu hv wv gv nv ov ms css) (x:Int):Work (w.setCell ⟨gr,2,none⟩ (.int .i64 x)) base gw gr { r with kept:={ r.kept with normal:=x } } lu hv wv gv nv ov ms css :=
 let ⟨a,b,c,_⟩:=h.rcell 2 (.int .i64 x)
 ⟨a _ _ _ (by decide) h.wb,h.rb.set_ 2 _,⟨⟨b.own.log,b.own.have_,b.own.wants,b.own.given,b.own.apart⟩,b.giv⟩,c,h.lw,h.lr⟩
theorem Work.set_calm (h:Work w base gw gr r lu hv wv gv nv ov ms css) (x:Bool):Work (w.setCell ⟨gr,3,none⟩ (.bool x)) base gw gr { r with kept:={ r.kept with calm:=x } } lu hv wv gv nv ov ms css :=
 let ⟨a,b,c,_⟩:=h.rcell 3 (.bool x)
 ⟨a _ _ _ (by decide) h.wb,h.rb.set_ 3 _,⟨⟨b.own.log,b.own.have_,b.own.wants,b.own.given,b.own.apart⟩,b.giv⟩,c,h.lw,h.lr⟩
theorem Work.set_commit (h:Work w base gw gr r lu hv wv gv nv ov ms css) (x:Int):Work (w.setCell ⟨gr,5,none⟩ (.int .i64 x)) base gw gr { r with kept:={ r.kept with commit:=x } } lu hv wv gv nv ov ms css :=
 let ⟨a,b,c,_⟩:=h.rcell 5 (.int .i64 x)
 ⟨a _ _ _ (by decide) h.wb,h.rb.set_ 5 _,⟨⟨b.own.log,b.own.have_,b.own.wants,b.own.given,b.own.apart⟩,b.giv⟩,c,h.lw,h.lr⟩
theorem Work.set_log (h:Work w base gw gr r lu hv wv gv nv ov ms css) {v:Value} {l:List Scu.Str} (hl:OwnStrs w base v l):Work (w.setCell ⟨gr,4,none⟩ v) base gw gr { r with kept:={ r.kept with log:=l } } v hv wv gv nv ov ms css :=
 let ⟨a,b,c,_⟩:=h.rcell 4 v
 ⟨a _ _ _ (by decide) h.wb,h.rb.set_ 4 _,⟨⟨hl.same (B:=0) (Same.set_ (Ts:=[9]) h.rb (mE _) (by decide) 4 _),b.own.have_,b.own.wants,b.own.given,b.own.apart⟩,b.giv⟩,c,h.lw,h.lr⟩
theorem Work.low (h:Work w base gw gr r lu hv wv gv nv ov ms css) (i:Nat) (u:Value):Below base w (w.setCell ⟨gr,i,none⟩ u):=(mG base w).setCell (p:=⟨gr,i,none⟩) h.lr _
end
theorem zAw {w:World} {a b:Nat} {t t':TypeId} {cs cs':Array Value} (h:Blk w a t cs) (h':Blk w b t' cs') (ht:t≠t'):a≠b:=fun e=>by
 subst e;unfold Blk at h h';rw [h] at h';cases h'
 exact ht rfl
theorem zEd {w:World} {g i:Nat} {q:Addr} (h:q.block≠g) (u:Value):(w.setCell ⟨g,i,none⟩ u).cell? q=w.cell? q:=World.cell?_of_block (Below.heap_setCell w ⟨g,i,none⟩ u q.block h)
theorem zCk {w:World} {g i0 i1 i2 i3 i4:Nat} {q:Addr} (h:q.block≠g) {x0 x1 x2 x3 x4:Value} :
 (((((w.setCell ⟨g,i0,none⟩ x0).setCell ⟨g,i1,none⟩ x1).setCell ⟨g,i2,none⟩ x2).setCell ⟨g,i3,none⟩ x3).setCell ⟨g,i4,none⟩ x4).cell? q=w.cell? q:=by
 rw [zEd h,zEd h,zEd h,zEd h,zEd h]
theorem zHe {w:World} {base size n g c:Nat} {e:TypeId} {xs:List Value} (h:w.ownsRow base e size (.slice (some ⟨g,0,none⟩) n c) n xs) (j:Nat) (u:Value) :
 (w.setCell ⟨g,j,none⟩ u).ownsRow base e size (.slice (some ⟨g,0,none⟩) n c) n (xs.set j u):=by
 obtain ⟨hl,⟨h0,_⟩ | ⟨g',cap,cur,e1,hb,hh,Ha,hm,Hb,ht⟩⟩:=h
 ·cases h0
 cases e1
 have hB:Blk w g e cur:=hh;refine ⟨by simp [hl],.inr ⟨g,c,cur.setIfInBounds j u,rfl,hb,hB.set_ j u,Ha,hm,by simpa using Hb,?_⟩⟩;rw [Array.toList_setIfInBounds,List.take_set,ht]
theorem zBm {w:World} {base size n m g c:Nat} {e:TypeId} {xs:List Value} (h:w.ownsRow base e size (.slice (some ⟨g,0,none⟩) m c) n xs):base<=g/\∃ cur,Blk w g e cur:=by
 obtain ⟨hl,⟨h0,_⟩ | ⟨g',cap,cur,e1,hb,hh,Ha,hm,Hb,ht⟩⟩:=h
 ·cases h0
 cases e1
 exact ⟨hb,cur,hh⟩
theorem zRt {css:List (List Value)} (h5:∀ cs ∈ css,cs.length=5) (i:Nat) (hi:i < css.length) (x0 x1 x2 x3 x4:Value) :
 (css.set i [x0,x1,x2,x3,x4]).flatten=((((css.flatten.set (i*5) x0).set (i*5+1) x1).set (i*5+2) x2).set (i*5+3) x3).set (i*5+4) x4:=by
 induction css generalizing i with
 | nil=>cases hi
 | cons a css ih =>
   have ha:=h5 a List.mem_cons_self;match a,ha with
   | [a0,a1,a2,a3,a4],_ =>
     cases i with
     | zero=>rfl
     | succ i =>
       have:=ih (fun cs Ha=>h5 cs (List.mem_cons_of_mem _ Ha)) i (by simpa using hi);simp only [List.set_cons_succ,List.flatten_cons,this]
       simp only [show (i+1)*5=i*5+5 by omega,show i*5+5+1=i*5+1+5 by omega,show i*5+5+2=i*5+2+5 by omega,show i*5+5+3=i*5+3+5 by omega,show i*5+5+4=i*5+4+5 by omega]
       rfl
theorem Same.set5 {Ts:List TypeId} {w:World} {g:Nat} {t:TypeId} {cur:Array Value} (h:Blk w g t cur) (ht:t ∉ Ts) (i0 i1 i2 i3 i4:Nat) (x0 x1 x2 x3 x4:Value) :
 Same Ts 0 w (((((w.setCell ⟨g,i0,none⟩ x0).setCell ⟨g,i1,none⟩ x1).setCell ⟨g,i2,none⟩ x2).setCell ⟨g,i3,none⟩ x3).setCell ⟨g,i4,none⟩ x4) :=
 ((((Same.set_ h (mE _) ht i0 x0).trans (Same.set_ (h.set_ i0 x0) (mE _) ht i1 x1)).trans (Same.set_ ((h.set_ i0 x0).set_ i1 x1) (mE _) ht i2 x2)).trans
   (Same.set_ (((h.set_ i0 x0).set_ i1 x1).set_ i2 x2) (mE _) ht i3 x3)).trans (Same.set_ ((((h.set_ i0 x0).set_ i1 x1).set_ i2 x2).set_ i3 x3) (mE _) ht i4 x4)
theorem OwnKs.put {w:World} {base g c n i:Nat} {gs:List Scu.Kept} {css:List (List Value)} (h:OwnKs w base (.slice (some ⟨g,0,none⟩) n c) gs css) (hi:i < gs.length) {k:Scu.Kept} {lx:Value} (hx:IsStrs w 0 lx k.log) :
 OwnKs (((((w.setCell ⟨g,i*5,none⟩ (.int .i64 k.view)).setCell ⟨g,i*5+1,none⟩ (.int .i64 k.normal)).setCell ⟨g,i*5+2,none⟩ (.bool k.calm)).setCell ⟨g,i*5+3,none⟩ lx).setCell ⟨g,i*5+4,none⟩ (.int .i64 k.commit)) base (.slice (some ⟨g,0,none⟩) n c) (gs.set i k) (css.set i (keptV k lx)):=by
 have hn:n=gs.length:=by
  obtain ⟨A,c',e,_⟩:=zAi h.row;cases e
  rfl
 subst hn;obtain ⟨hb,cur,hB⟩:=zBm h.row;have hs:Same [9] 0 w (((((w.setCell ⟨g,i*5,none⟩ (.int .i64 k.view)).setCell ⟨g,i*5+1,none⟩ (.int .i64 k.normal)).setCell ⟨g,i*5+2,none⟩ (.bool k.calm)).setCell ⟨g,i*5+3,none⟩ lx).setCell ⟨g,i*5+4,none⟩ (.int .i64 k.commit)):=Same.set5 hB (by decide) _ _ _ _ _ _ _ _ _ _;refine ⟨by simp [h.len],?_,?_,?_,by simpa using h.max⟩
 ·intro cs Ha;rcases List.mem_or_eq_of_mem_set Ha with h' | rfl
  ·exact h.five cs h'
  rfl
 ·rw [List.length_set];have:=zHe (zHe (zHe (zHe (zHe h.row (i*5) (.int .i64 k.view)) (i*5+1) (.int .i64 k.normal)) (i*5+2) (.bool k.calm)) (i*5+3) lx) (i*5+4) (.int .i64 k.commit);rw [<- zRt h.five i (by rw [h.len];exact hi)] at this;exact this
 intro j cs x h1 h2;by_cases hj:j=i
 ·subst hj;rw [List.getElem?_set_self (by rw [h.len];exact hi)] at h1;rw [List.getElem?_set_self hi] at h2;cases h1
  cases h2
  exact ⟨lx,rfl,hx.same (by simp) hs⟩
 rw [List.getElem?_set_ne (fun e=>hj e.symm)] at h1 h2;exact (h.each j cs x h1 h2).same (B:=0) (Ts:=[9]) (by simp) hs
theorem OwnKs.cells {w:World} {base g c n:Nat} {gs:List Scu.Kept} {css:List (List Value)} (h:OwnKs w base (.slice (some ⟨g,0,none⟩) n c) gs css) {i:Nat} (hi:i < gs.length) :
 (∀ j,w.frozen? ⟨g,j,none⟩=false)/\∃ lv,w.cell? ⟨g,i*5,none⟩=some (.int .i64 gs[i].view)/\w.cell? ⟨g,i*5+1,none⟩=some (.int .i64 gs[i].normal)/\w.cell? ⟨g,i*5+2,none⟩=some (.bool gs[i].calm) /\
  w.cell? ⟨g,i*5+3,none⟩=some lv/\w.cell? ⟨g,i*5+4,none⟩=some (.int .i64 gs[i].commit)/\IsStrs w 0 lv gs[i].log:=by
 obtain ⟨hb,cur,hB⟩:=zBm h.row;obtain ⟨A,c',e,_,_,hr,_⟩:=zAi h.row;cases e
 obtain ⟨g',o,lv,e,_,h0,h1,h2,h3,h4,h5⟩:=zDp h.len h.five hr h.each hi;cases e
 rw [Nat.zero_add] at h0 h1 h2 h3 h4;exact ⟨hB.frozen,lv,h0,h1,h2,h3,h4,h5⟩
theorem Work.put_gives {w:World} {base gw gr g c n i:Nat} {r:Scu.Replica} {lu hv wv nv ov:Value} {ms:List Scu.Message} {css:List (List Value)} (h:Work w base gw gr r lu hv wv (.slice (some ⟨g,0,none⟩) n c) nv ov ms css) (hi:i < r.gives.length) {k:Scu.Kept} {lx:Value} (hx:IsStrs w 0 lx k.log) :
 Work (((((w.setCell ⟨g,i*5,none⟩ (.int .i64 k.view)).setCell ⟨g,i*5+1,none⟩ (.int .i64 k.normal)).setCell ⟨g,i*5+2,none⟩ (.bool k.calm)).setCell ⟨g,i*5+3,none⟩ lx).setCell ⟨g,i*5+4,none⟩ (.int .i64 k.commit)) base gw gr { r with gives:=r.gives.set i k } lu hv wv (.slice (some ⟨g,0,none⟩) n c) nv ov ms css/\Below base w (((((w.setCell ⟨g,i*5,none⟩ (.int .i64 k.view)).setCell ⟨g,i*5+1,none⟩ (.int .i64 k.normal)).setCell ⟨g,i*5+2,none⟩ (.bool k.calm)).setCell ⟨g,i*5+3,none⟩ lx).setCell ⟨g,i*5+4,none⟩ (.int .i64 k.commit)):=by
 obtain ⟨css',Ha⟩:=h.own.giv;obtain ⟨hb,cur,hB⟩:=zBm Ha.row;have hs:Same [9,3,4,47,133,99] 0 w (((((w.setCell ⟨g,i*5,none⟩ (.int .i64 k.view)).setCell ⟨g,i*5+1,none⟩ (.int .i64 k.normal)).setCell ⟨g,i*5+2,none⟩ (.bool k.calm)).setCell ⟨g,i*5+3,none⟩ lx).setCell ⟨g,i*5+4,none⟩ (.int .i64 k.commit)):=Same.set5 hB (by decide) _ _ _ _ _ _ _ _ _ _;refine ⟨⟨zAc h.wb hs (by simp),zAc h.rb hs (by simp),⟨(let o:=h.own.own.same (hs.mono (by simp) (mC _));⟨o.log,o.have_,o.wants,o.given,o.apart⟩),_,Ha.put hi hx⟩,h.out.same (hs.mono (by simp) (mC _)),h.lw,h.lr⟩,?_⟩;exact ((((mG base w).setCell (p:=⟨g,_,none⟩) hb _).setCell (p:=⟨g,_,none⟩) hb _).setCell (p:=⟨g,_,none⟩) hb _).setCell (p:=⟨g,_,none⟩) hb _ |>.setCell (p:=⟨g,_,none⟩) hb _
theorem zTp {w:World} {gb:Nat} {t:TypeId} {a0 a1 a2 a3 a4 b0 b1 b2 b3 b4:Value} (h:Blk w gb t #[b0,b1,b2,b3,b4]):Blk (((((w.setCell ⟨gb,0,none⟩ a0).setCell ⟨gb,1,none⟩ a1).setCell ⟨gb,2,none⟩ a2).setCell ⟨gb,3,none⟩ a3).setCell ⟨gb,4,none⟩ a4) gb t #[a0,a1,a2,a3,a4]:=by
 have h0:Blk _ gb t #[a0,b1,b2,b3,b4]:=h.set_ 0 a0;have h1:Blk _ gb t #[a0,a1,b2,b3,b4]:=h0.set_ 1 a1;have h2:Blk _ gb t #[a0,a1,a2,b3,b4]:=h1.set_ 2 a2;have h3:Blk _ gb t #[a0,a1,a2,a3,b4]:=h2.set_ 3 a3;have h4:Blk _ gb t #[a0,a1,a2,a3,a4]:=h3.set_ 4 a4;exact h4
theorem Work.box5 {w:World} {base gw gr gb gg cg n:Nat} {r:Scu.Replica} {lu hv wv nv ov:Value} {ms:List Scu.Message} {css:List (List Value)} (h:Work w base gw gr r lu hv wv (.slice (some ⟨gg,0,none⟩) n cg) nv ov ms css)
 {a0 a1 a2 a3 a4 b0 b1 b2 b3 b4:Value} (hB:Blk w gb 42 #[b0,b1,b2,b3,b4]) (Hb:gb≠gg) (hb:base<=gb) :
 Work (((((w.setCell ⟨gb,0,none⟩ a0).setCell ⟨gb,1,none⟩ a1).setCell ⟨gb,2,none⟩ a2).setCell ⟨gb,3,none⟩ a3).setCell ⟨gb,4,none⟩ a4) base gw gr r lu hv wv (.slice (some ⟨gg,0,none⟩) n cg) nv ov ms css/\Below base w (((((w.setCell ⟨gb,0,none⟩ a0).setCell ⟨gb,1,none⟩ a1).setCell ⟨gb,2,none⟩ a2).setCell ⟨gb,3,none⟩ a3).setCell ⟨gb,4,none⟩ a4)/\Blk (((((w.setCell ⟨gb,0,none⟩ a0).setCell ⟨gb,1,none⟩ a1).setCell ⟨gb,2,none⟩ a2).setCell ⟨gb,3,none⟩ a3).setCell ⟨gb,4,none⟩ a4) gb 42 #[a0,a1,a2,a3,a4]/\Same [9,3,4] 0 w (((((w.setCell ⟨gb,0,none⟩ a0).setCell ⟨gb,1,none⟩ a1).setCell ⟨gb,2,none⟩ a2).setCell ⟨gb,3,none⟩ a3).setCell ⟨gb,4,none⟩ a4):=by
 have hs:Same [9,3,4,47,133,99] 0 w (((((w.setCell ⟨gb,0,none⟩ a0).setCell ⟨gb,1,none⟩ a1).setCell ⟨gb,2,none⟩ a2).setCell ⟨gb,3,none⟩ a3).setCell ⟨gb,4,none⟩ a4):=Same.set5 hB (by decide) _ _ _ _ _ _ _ _ _ _;obtain ⟨css',Ha⟩:=h.own.giv;have hq:∀ i,(Value.slice (some ⟨gg,0,none⟩) n cg).ownBlock≠some (⟨gb,i,none⟩:Addr).block:=fun i e=>by
  simp only [Value.ownBlock,Option.some.injEq] at e
  exact Hb e.symm
 refine ⟨⟨zAc h.wb hs (by simp),zAc h.rb hs (by simp),⟨(let o:=h.own.own.same (hs.mono (by simp) (mC _));⟨o.log,o.have_,o.wants,o.given,o.apart⟩),css',?_⟩,h.out.same (hs.mono (by simp) (mC _)),h.lw,h.lr⟩,?_,zTp hB,hs.mono (by simp) (mC _)⟩
 ·exact ⟨Ha.len,Ha.five,zGp (zGp (zGp (zGp (zGp Ha.row (hq 0) _) (hq 1) _) (hq 2) _) (hq 3) _) (hq 4) _,fun j cs k h1 h2=>(Ha.each j cs k h1 h2).same (B:=0) (Ts:=[9]) (by simp) (hs.mono (by simp) (mC _)),Ha.max⟩
 exact ((((mG base w).setCell (p:=⟨gb,_,none⟩) hb _).setCell (p:=⟨gb,_,none⟩) hb _).setCell (p:=⟨gb,_,none⟩) hb _).setCell (p:=⟨gb,_,none⟩) hb _ |>.setCell (p:=⟨gb,_,none⟩) hb _
def Rep3 (r:Scu.Replica):Prop:=r.have_.length=3/\r.wants.length=3/\r.gives.length=3/\r.given.length=3/\0<=r.me/\r.me < 3
end Go.Proofs.YtlngfbngnnepiaaGreat

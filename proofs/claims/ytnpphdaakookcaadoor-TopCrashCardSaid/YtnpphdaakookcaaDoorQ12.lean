/- Part 12: words and walks under the laws of the whole. -/
import Derived.Deep.DeepCutAuto
import Derived.Test.YtnpphdaakookcaaDoorQ11
set_option linter.unusedVariables false
set_option linter.unusedSimpArgs false
set_option maxHeartbeats 4000000
set_option maxRecDepth 100000
namespace Go.Proofs.YtnpphdaakookcaaDoor
open Go.RowKit
def keptV (k:Scu.Kept) (lv:Value):List Value:=[.int .i64 k.view,.int .i64 k.normal,.bool k.calm,lv,.int .i64 k.commit]
structure OwnKs (w:World) (base:Nat) (v:Value) (gs:List Scu.Kept) (css:List (List Value)):Prop where
 len:css.length=gs.length
 five:∀ cs ∈ css,cs.length=5
 row:w.ownsRow base 44 5 v gs.length css.flatten
 each:∀ (j:Nat) (cs:List Value) (k:Scu.Kept),css[j]? = some cs->gs[j]? = some k->KeptEl w 0 cs k
 max:gs.length*56<=R47
def OwnKepts (w:World) (base:Nat) (v:Value) (gs:List Scu.Kept):Prop:=∃ css,OwnKs w base v gs css
section
variable {w w':World} {B base base':Nat} {v:Value} {gs:List Scu.Kept} {css:List (List Value)}
theorem OwnKs.is (h:OwnKs w base v gs css):IsRow 44 5 56 KeptEl w 0 v gs:=by
 obtain ⟨A,c,rfl,hc,_,hr,_⟩:=zAg h.row
 exact ⟨⟨A,c,css,rfl,hc,h.len,h.five,hr,h.each⟩,h.max⟩
theorem OwnKs.same (h:OwnKs w base v gs css) (hs:Same [9,44] B w w'):OwnKs w' base v gs css :=
 ⟨h.len,h.five,zCn h.row (by simp) hs,fun j cs k a b=>(h.each j cs k a b).same (B:=0) (Ts:=[9,44]) (by simp) (hs.mono (fun _ h=>h) (mE _)),h.max⟩
theorem OwnKs.below (h:OwnKs w base v gs css) (hb:Below w.heap.size w w'):OwnKs w' base v gs css:=h.same (B:=0) (Same.below hb)
theorem OwnKs.base_ (h:OwnKs w base v gs css) (hb:base'<=base):OwnKs w base' v gs css:=⟨h.len,h.five,zAn h.row hb,h.each,h.max⟩
theorem OwnKs.nil_:OwnKs w base (.slice none 0 0) [] []:=⟨rfl,by simp,World.ownsRow_nil _ _ _ _,fun j cs k h=>by simp at h,by simp [R47]⟩
theorem OwnKepts.below (h:OwnKepts w base v gs) (hb:Below w.heap.size w w'):OwnKepts w' base v gs:=let ⟨css,h⟩:=h;⟨css,h.below hb⟩
theorem OwnKepts.is (h:OwnKepts w base v gs):IsRow 44 5 56 KeptEl w 0 v gs:=let ⟨_,h⟩:=h;h.is
end
structure OwnRep (w:World) (base:Nat) (lv hv wv gv nv:Value) (r:Scu.Replica):Prop where
 own:OwnRep0 w base lv hv wv nv r
 giv:OwnKepts w base gv r.gives
theorem OwnRep.is {w:World} {base:Nat} {lv hv wv gv nv:Value} {r:Scu.Replica} (h:OwnRep w base lv hv wv gv nv r):IsRep w 0 lv hv wv gv nv r :=
 ⟨h.own.log.is,h.own.have_.is,h.own.wants.is,h.giv.is,h.own.given.is⟩
theorem OwnRep.same {w w':World} {base:Nat} {lv hv wv gv nv:Value} {r:Scu.Replica} (h:OwnRep w base lv hv wv gv nv r) (hs:Same [9,3,4,44] 0 w w'):OwnRep w' base lv hv wv gv nv r :=
 ⟨h.own.same (hs.mono (by simp) (mC _)),let ⟨css,g⟩:=h.giv;⟨css,g.same (hs.mono (by simp) (mC _))⟩⟩
theorem OwnRep.below {w w':World} {base:Nat} {lv hv wv gv nv:Value} {r:Scu.Replica} (h:OwnRep w base lv hv wv gv nv r) (hb:Below w.heap.size w w'):OwnRep w' base lv hv wv gv nv r:=h.same (Same.below hb)
def ApL (lu:Value) (css:List (List Value)):Prop:=∀ cs ∈ css,∀ u ∈ cs,∀ x,lu.ownBlock=some x->u.ownBlock≠some x
def ApG (w:World) (base:Nat) (gv:Value) (gs:List Scu.Kept) (lu:Value):Prop:=∃ css,OwnKs w base gv gs css/\ApL lu css
theorem ApG.below {w w':World} {base:Nat} {gv lu:Value} {gs:List Scu.Kept} (h:ApG w base gv gs lu) (hb:Below w.heap.size w w'):ApG w' base gv gs lu:=let ⟨css,h,a⟩:=h;⟨css,h.below hb,a⟩
theorem ApG.same {w w':World} {base:Nat} {gv lu:Value} {gs:List Scu.Kept} (h:ApG w base gv gs lu) (hs:Same [9,44] 0 w w'):ApG w' base gv gs lu:=let ⟨css,h,a⟩:=h;⟨css,h.same hs,a⟩
theorem ApG.base_ {w:World} {base base':Nat} {gv lu:Value} {gs:List Scu.Kept} (h:ApG w base gv gs lu) (hb:base'<=base):ApG w base' gv gs lu:=let ⟨css,h,a⟩:=h;⟨css,h.base_ hb,a⟩
def RepRet (w:World) (base:Nat) (r:Scu.Replica) (e:Ending):Prop:=∃ lu hv wv gv nv,e=.returned (.agg #[.int .i64 r.me,.int .i64 r.kept.view,.int .i64 r.kept.normal,.bool r.kept.calm,lu,.int .i64 r.kept.commit,hv,wv,gv,nv])/\OwnRep w base lu hv wv gv nv r/\ApG w base gv r.gives lu
structure GivI (w:World) (cs:Array Value) (g:Nat) (r:Scu.Replica) (lu hv wv nv:Value) (k:Nat) (gv:Value) (css:List (List Value)) (wr:World):Prop where
 res:Blk wr (w.heap.size+1) 49 #[.int .i64 0,.int .i64 0,.int .i64 0,.bool false,.slice none 0 0,.int .i64 0,.slice none 0 0,.slice none 0 0,.slice none 0 0,.slice none 0 0]
 arg:Blk wr w.heap.size 49 cs
 out:Blk wr g 49 #[.int .i64 r.me,.int .i64 r.kept.view,.int .i64 r.kept.normal,.bool r.kept.calm,lu,.int .i64 r.kept.commit,hv,wv,gv,nv]
 own:OwnRep0 wr w.heap.size lu hv wv nv r
 giv:OwnKs wr w.heap.size gv (r.gives.take k) css
 lo:w.heap.size+1 < g
 low:Below w.heap.size w wr
 apt:ApL lu css
theorem GivI.below {w:World} {cs:Array Value} {g k:Nat} {r:Scu.Replica} {lu hv wv nv gv:Value} {css:List (List Value)} {wr w':World} (h:GivI w cs g r lu hv wv nv k gv css wr) (hb:Below wr.heap.size wr w'):GivI w cs g r lu hv wv nv k gv css w' :=
 ⟨h.res.same hb,h.arg.same hb,h.out.same hb,h.own.below hb,h.giv.below hb,h.lo,h.low.trans (hb.mono h.low.size),h.apt⟩
theorem zSq {α:Type} {l:List α} {k:Nat} (hk:k < l.length):l.take (k+1)=l.take k ++ [l[k]]:=by
 rw [List.take_add_one,mH hk]
 rfl
theorem zGw {w w':World} {base g n m:Nat} {t e:TypeId} {cs:Array Value} {lv:Value} {xs:List Value} (hb:Blk w g t cs) (Ha:w.ownsRow base e m lv n xs) (Hb:t≠e) (hg:w.grownBy w' lv.ownBlock):Blk w' g t cs :=
 (hg.block g hb.lt fun e'=>by
  obtain ⟨C',fz',hh⟩:=zDd Ha e'.symm
  unfold Blk at hb
  rw [hh] at hb
  cases hb
  exact Hb rfl).trans hb
theorem zUx {w:World} {cs:Array Value} {g k:Nat} {r:Scu.Replica} {lu hv wv nv gv v4 lx:Value} {css:List (List Value)} {P w4:World} {b:Nat} (h:GivI w cs g r lu hv wv nv k gv css P) (hk:k < r.gives.length) (hm:r.gives.length*56<=R47)
 (hx:OwnStrs P b lx r.gives[k].log) (Hg:∀ x,lu.ownBlock=some x->x < b) (h4:w4.ownsRow w.heap.size 44 5 v4 (k+1) (css.flatten ++ keptV r.gives[k] lx)) (hg:P.grownBy w4 gv.ownBlock) :
 GivI w cs g r lu hv wv nv (k+1) v4 (css ++ [keptV r.gives[k] lx]) (w4.setCell ⟨g,8,none⟩ v4):=by
 have Ha:=h.giv.row
 have e1:(r.gives.take k).length=k:=by rw [List.length_take];omega
 have Hd:Same [9,3,4] 0 P w4:=Same.own Ha hg (mE _) (by decide)
 have Hb:=zGw h.out Ha (by decide) hg
 have He:Same [9,3,4,44] 0 w4 (w4.setCell ⟨g,8,none⟩ v4):=Same.set_ Hb (mE _) (by decide) 8 v4
 have Hf:Same [9] 0 P (w4.setCell ⟨g,8,none⟩ v4):=(Hd.mono (by simp) (mC _)).trans (He.mono (by simp) (mC _))
 have Hi:=h.lo
 refine ⟨(zGw h.res Ha (by decide) hg).far (by simp;omega) v4,(zGw h.arg Ha (by decide) hg).far (by simp;omega) v4,?_,?_,?_,h.lo,?_,?_⟩
 ·have h8:Blk (w4.setCell ⟨g,8,none⟩ v4) g 49 #[.int .i64 r.me,.int .i64 r.kept.view,.int .i64 r.kept.normal,.bool r.kept.calm,lu,.int .i64 r.kept.commit,hv,wv,v4,nv]:=Hb.set_ 8 v4
  exact h8
 ·exact (h.own.same Hd).same (He.mono (by simp) (mC _))
 ·rw [zSq hk]
  refine ⟨by simp only [List.length_append,h.giv.len,List.length_cons,List.length_nil],?_,?_,?_,?_⟩
  ·intro c hc
   rcases List.mem_append.1 hc with h' | h'
   ·exact h.giv.five c h'
   rw [List.mem_singleton] at h'
   subst h'
   rfl
  ·rw [List.length_append,e1,List.flatten_append]
   have h5:w4.ownsRow w.heap.size 44 5 v4 (k+[r.gives[k]].length) (css.flatten ++ [keptV r.gives[k] lx].flatten):=by simpa using h4
   exact zFk h5 Hb (by decide) v4
  ·intro j c x hc Hc
   rcases Nat.lt_or_ge j k with hj | hj
   ·rw [List.getElem?_append_left (by rw [h.giv.len,e1];exact hj)] at hc
    rw [List.getElem?_append_left (by rw [e1];exact hj)] at Hc
    exact (h.giv.each j c x hc Hc).same (B:=0) (Ts:=[9]) (by simp) Hf
   rw [List.getElem?_append_right (by rw [h.giv.len,e1];exact hj),h.giv.len,e1] at hc
   rw [List.getElem?_append_right (by rw [e1];exact hj),e1] at Hc
   have Hh:j - k=0:=by
    rcases Nat.eq_zero_or_pos (j - k) with h' | h'
    ·exact h'
    rw [List.getElem?_eq_none (by simp;omega)] at hc
    cases hc
   rw [Hh] at hc Hc
   simp only [List.getElem?_cons_zero,Option.some.injEq] at hc Hc
   subst hc
   subst Hc
   exact ⟨lx,rfl,(hx.same Hf).is⟩
  rw [List.length_append,e1]
  simp only [List.length_cons,List.length_nil]
  omega
 ·exact (h.low.grown hg h.low.size (fun q hq=>(Ha.lt q hq).1)).setCell (by show w.heap.size<=g;omega) v4
 intro c hc u hu x hl e
 rcases List.mem_append.1 hc with h' | h'
 ·exact h.apt c h' u hu x hl e
 rw [List.mem_singleton] at h'
 subst h'
 simp only [keptV,List.mem_cons,List.not_mem_nil,or_false] at hu
 rcases hu with rfl | rfl | rfl | rfl | rfl
 ·cases e
 ·cases e
 ·cases e
 ·have:=(hx.1.lt x e).1
  have:=Hg x hl
  omega
 cases e
open Go.RowKit
theorem zSr {k:Scu.Kept} {gen:Int} (h:Scu.keptFault k≠0):Scu.stageEncode k gen=(Scu.str0,Scu.keptFault k):=if_pos h
theorem zSs {k:Scu.Kept} {gen:Int} (h:¬ Scu.keptFault k≠0) (hg:gen < 0\/1073741824 < gen):Scu.stageEncode k gen=(Scu.str0,2):=by unfold Scu.stageEncode;rw [if_neg h,if_pos hg]
theorem zPs {k:Scu.Kept} {gen:Int} (h:¬ Scu.keptFault k≠0) (hg:¬ (gen < 0\/1073741824 < gen)):Scu.stageEncode k gen=(Scu.keptBytes k gen,0):=by unfold Scu.stageEncode;rw [if_neg h,if_neg hg]
theorem zPt {w:World} {g:Nat} {l:List Int} (h:Blk w g 3 (l.map (Value.int .i64)).toArray) {j:Nat} (hj:j < l.length):w.cell? ⟨g,j,none⟩=some (.int .i64 l[j]):=by
 rw [h.cell]
 simp [mH hj]
theorem zKt (a b:ByteArray) (h:a.size<=2484) (h':b.size<=2484):¬ 9223372036854775807 < a.size+b.size:=by omega
theorem zLt (lv:Value) (vi no:Int) (ca:Bool) (lo:List Scu.Str) (co gen:Int) (w:World) (B:Nat) (hv:IsStrs w B lv lo) :
 Calls Tryd.prog 42 #[.agg #[.int .i64 vi,.int .i64 no,.bool ca,lv,.int .i64 co],.int .i64 gen] w fun e w' =>
  e=.returned (.tuple #[.string (Scu.stageEncode (⟨vi,no,ca,lo,co⟩:Scu.Kept) gen).1,.int .i64 (Scu.stageEncode (⟨vi,no,ca,lo,co⟩:Scu.Kept) gen).2])/\Below w.heap.size w w':=by
 have HV:=mA hv
 obtain ⟨⟨A,c,rfl,_,hr⟩,hl,he⟩:=hv
 unfold R47 at hl he
 cases t0:(Scu.keptFault (⟨vi,no,ca,lo,co⟩:Scu.Kept) != 0) with
 | true =>
   have hs:=zSr (k:=(⟨vi,no,ca,lo,co⟩:Scu.Kept)) (gen:=gen) (by simpa using t0)
   rw [hs]
   clear hs hr he
   go_enter Tryd.func42,Tryd.ntmps42
   go_wp2_with fail
   refine (zAv _ vi no ca lo co _ B (HV.out.alloc _)).mono ?_;rintro e w1 ⟨rfl,h1⟩
   go_wp2
   go_ret2
   exact ⟨rfl,zAj h1⟩
 | false =>
 have hk:Scu.keptFault (⟨vi,no,ca,lo,co⟩:Scu.Kept)=0:=by simpa using t0
 cases t1:decide (gen < 0) with
 | true =>
   have hs:=zSs (k:=(⟨vi,no,ca,lo,co⟩:Scu.Kept)) (gen:=gen) (by simpa using t0) (.inl (of_decide_eq_true t1))
   rw [hs]
   have HK:=mA hk
   clear hs hr he hk t0
   go_enter Tryd.func42,Tryd.ntmps42
   go_wp2_with fail
   refine (zAv _ vi no ca lo co _ B (HV.out.alloc _)).mono ?_;rintro e w1 ⟨rfl,h1⟩
   rw [HK.out]
   go_wp2
   go_ret2
   exact ⟨rfl,zAj h1⟩
 | false =>
 cases t2:decide ((1073741824:Int) < gen) with
 | true =>
   have hs:=zSs (k:=(⟨vi,no,ca,lo,co⟩:Scu.Kept)) (gen:=gen) (by simpa using t0) (.inr (of_decide_eq_true t2))
   rw [hs]
   have HK:=mA hk
   clear hs hr he hk t0
   go_enter Tryd.func42,Tryd.ntmps42
   go_wp2_with fail
   refine (zAv _ vi no ca lo co _ B (HV.out.alloc _)).mono ?_;rintro e w1 ⟨rfl,h1⟩
   rw [HK.out]
   go_wp2
   go_ret2
   exact ⟨rfl,zAj h1⟩
 | false =>
 have hg:¬ (gen < 0\/1073741824 < gen):=fun h=>h.elim (of_decide_eq_false t1) (of_decide_eq_false t2)
 have hs:=zPs (k:=(⟨vi,no,ca,lo,co⟩:Scu.Kept)) (gen:=gen) (by simpa using t0) hg
 rw [hs]
 have HK:=mA hk
 have Ho:=mA (Scu.nums_bd hk (gen:=gen) (by omega) (by omega))
 have Hs:lo.length<=60:=(Scu.keptFault_ok hk).2.2.2.2.2.1
 clear hs he hk t0 hg
 cases ca with
 | false =>
   go_enter Tryd.func42,Tryd.ntmps42
   go_wp2_with fail
   refine (zAv _ vi no false lo co _ B (HV.out.alloc _)).mono ?_;rintro e w1 ⟨rfl,h1⟩
   rw [HK.out]
   obtain ⟨hc,hz⟩:=bcell h1
   have Hp:=zBu h1
   have Hk:=zAj h1
   have Hm:=(Blk.new w 44 #[.int .i64 vi,.int .i64 no,.bool false,.slice A lo.length c,.int .i64 co]).same h1
   go_wp2_with fail
   go_loopw [8,43] (fun s i wr=>∃ j:Nat,j<=6/\i=.int .i64 j/\s=.string (Scu.encN ⟨vi,no,false,lo,co⟩ gen j)/\Below w.heap.size w wr/\Blk wr w.heap.size 44 #[.int .i64 vi,.int .i64 no,.bool false,.slice A lo.length c,.int .i64 co] /\
    Blk wr w1.heap.size 3 ((Scu.nums ⟨vi,no,false,lo,co⟩ gen).map (Value.int .i64)).toArray) (fun _ i _=>6 - (intOf i).toNat)
   case atStart=>exact ⟨0,by omega,rfl,rfl,Hk.alloc Hk.size _,Hm.alloc _,Blk.new w1 3 _⟩
   case round =>
    obtain ⟨j,hj,rfl,rfl,Ha,Hc,He⟩:=hrel
    by_cases Hb:j < 6
    ·have Hf:(j:Int) < 6:=by omega
     have hn:=zPt He (j:=j) Hb
     have hb:=Ho.out _ (List.getElem_mem (show j < (Scu.nums _ gen).length from Hb))
     have Hg:=Scu.encN_succ (show j < (Scu.nums ⟨vi,no,false,lo,co⟩ gen).length from Hb)
     generalize (Scu.nums _ gen)[j]'Hb=n at hn hb Hg
     have ha:=zKt _ (Scu.numBytes n) (mD (Scu.encN_size ⟨vi,no,false,lo,co⟩ gen j) (by omega)) (by rw [Scu.numBytes_size];omega)
     have Hh:=mA Hg
     have HB:=mA (mB Ha (mB Hc He))
     clear Hg Ha Hc He
     go_wp2_with fail
     refine (zJf _ _ hb.1 hb.2).mono ?_;rintro e w2 ⟨rfl,h2⟩
     go_wp2
     go_roundw
     case rel=>exact ⟨j+1,by omega,by go_num,by rw [Hh.out],HB.out.1.trans (h2.mono HB.out.1.size),HB.out.2.1.same h2,HB.out.2.2.same h2⟩
     case measure=>simp only [intOf];omega
    have Hf:(6:Int)<=(j:Int):=by omega
    have HJ:=mA (show j=6 by omega)
    have hu:=Hc.cell 3
    simp at hu
    obtain ⟨wa,Hn⟩:=mJ (wr)
    subst Hn
    have HB:=mA (mB Ha Hc)
    clear Ha Hc He
    go_wp2_with fail
    go_loopw [8,59] (fun s i wr=>∃ m:Nat,m<=lo.length/\i=.int .i64 m/\s=.string (Scu.encT ⟨vi,no,false,lo,co⟩ gen m)/\Below w.heap.size w wr) (fun _ i _=>lo.length - (intOf i).toNat)
    case atStart=>exact ⟨0,mE _,rfl,by rw [Scu.encT_zero,HJ.out],HB.out.1⟩
    case round =>
     obtain ⟨m,hm,rfl,rfl,Ha⟩:=hrel
     have Hi:=hr.below Ha
     have Hl:=Scu.encT_size HK.out gen m
     by_cases Hb:m < lo.length
     ·have Hj:(m:Int) < (lo.length:Int):=by omega
      obtain ⟨g,o,rfl,hg,Hq⟩:=zEf Hi Hb
      have Hr:lo[m].size<=40:=Scu.log_small HK.out _ (List.getElem_mem Hb)
      have ha:=zKt _ (Scu.textBytes lo[m]) Hl (by rw [Scu.textBytes_size];omega)
      have Hh:=mA (Scu.encT_succ (k:=⟨vi,no,false,lo,co⟩) (gen:=gen) Hb)
      have Hd:=mA Ha
      clear Ha Hi
      go_wp2_with fail
      refine (zOn _ _ (by omega)).mono ?_;rintro e w2 ⟨rfl,h2⟩
      go_wp2
      go_roundw
      case rel=>exact ⟨m+1,Hb,by go_num,by rw [Hh.out],Hd.out.trans (h2.mono Hd.out.size)⟩
      case measure=>simp only [intOf];omega
     have Hj:(lo.length:Int)<=(m:Int):=by omega
     have HM:=mA (show Scu.encT ⟨vi,no,false,lo,co⟩ gen m=Scu.keptBody ⟨vi,no,false,lo,co⟩ gen by
      rw [show m=lo.length by omega];exact Scu.encT_all _ _)
     have ha:=zKt (Scu.sealS (Scu.encT ⟨vi,no,false,lo,co⟩ gen m)) _ (by rw [Scu.sealS_size];omega) Hl
     have Hd:=mA Ha
     clear Ha Hi
     go_wp2_with fail
     refine (zPg _ _ (by unfold maxLen;omega)).mono ?_;rintro e w2 ⟨rfl,h2⟩
     go_wp2
     go_ret2
     exact ⟨zGn (zKn (by rw [HM.out];rfl)) rfl,Hd.out.trans (h2.mono Hd.out.size)⟩
 | true =>
   go_enter Tryd.func42,Tryd.ntmps42
   go_wp2_with fail
   refine (zAv _ vi no true lo co _ B (HV.out.alloc _)).mono ?_;rintro e w1 ⟨rfl,h1⟩
   rw [HK.out]
   obtain ⟨hc,hz⟩:=bcell h1
   have Hp:=zBu h1
   have Hk:=zAj h1
   have Hm:=(Blk.new w 44 #[.int .i64 vi,.int .i64 no,.bool true,.slice A lo.length c,.int .i64 co]).same h1
   go_wp2_with fail
   go_loopw [8,43] (fun s i wr=>∃ j:Nat,j<=6/\i=.int .i64 j/\s=.string (Scu.encN ⟨vi,no,true,lo,co⟩ gen j)/\Below w.heap.size w wr/\Blk wr w.heap.size 44 #[.int .i64 vi,.int .i64 no,.bool true,.slice A lo.length c,.int .i64 co] /\
    Blk wr w1.heap.size 3 ((Scu.nums ⟨vi,no,true,lo,co⟩ gen).map (Value.int .i64)).toArray) (fun _ i _=>6 - (intOf i).toNat)
   case atStart=>exact ⟨0,by omega,rfl,rfl,Hk.alloc Hk.size _,Hm.alloc _,Blk.new w1 3 _⟩
   case round =>
    obtain ⟨j,hj,rfl,rfl,Ha,Hc,He⟩:=hrel
    by_cases Hb:j < 6
    ·have Hf:(j:Int) < 6:=by omega
     have hn:=zPt He (j:=j) Hb
     have hb:=Ho.out _ (List.getElem_mem (show j < (Scu.nums _ gen).length from Hb))
     have Hg:=Scu.encN_succ (show j < (Scu.nums ⟨vi,no,true,lo,co⟩ gen).length from Hb)
     generalize (Scu.nums _ gen)[j]'Hb=n at hn hb Hg
     have ha:=zKt _ (Scu.numBytes n) (mD (Scu.encN_size ⟨vi,no,true,lo,co⟩ gen j) (by omega)) (by rw [Scu.numBytes_size];omega)
     have Hh:=mA Hg
     have HB:=mA (mB Ha (mB Hc He))
     clear Hg Ha Hc He
     go_wp2_with fail
     refine (zJf _ _ hb.1 hb.2).mono ?_;rintro e w2 ⟨rfl,h2⟩
     go_wp2
     go_roundw
     case rel=>exact ⟨j+1,by omega,by go_num,by rw [Hh.out],HB.out.1.trans (h2.mono HB.out.1.size),HB.out.2.1.same h2,HB.out.2.2.same h2⟩
     case measure=>simp only [intOf];omega
    have Hf:(6:Int)<=(j:Int):=by omega
    have HJ:=mA (show j=6 by omega)
    have hu:=Hc.cell 3
    simp at hu
    obtain ⟨wa,Hn⟩:=mJ (wr)
    subst Hn
    have HB:=mA (mB Ha Hc)
    clear Ha Hc He
    go_wp2_with fail
    go_loopw [8,59] (fun s i wr=>∃ m:Nat,m<=lo.length/\i=.int .i64 m/\s=.string (Scu.encT ⟨vi,no,true,lo,co⟩ gen m)/\Below w.heap.size w wr) (fun _ i _=>lo.length - (intOf i).toNat)
    case atStart=>exact ⟨0,mE _,rfl,by rw [Scu.encT_zero,HJ.out],HB.out.1⟩
    case round =>
     obtain ⟨m,hm,rfl,rfl,Ha⟩:=hrel
     have Hi:=hr.below Ha
     have Hl:=Scu.encT_size HK.out gen m
     by_cases Hb:m < lo.length
     ·have Hj:(m:Int) < (lo.length:Int):=by omega
      obtain ⟨g,o,rfl,hg,Hq⟩:=zEf Hi Hb
      have Hr:lo[m].size<=40:=Scu.log_small HK.out _ (List.getElem_mem Hb)
      have ha:=zKt _ (Scu.textBytes lo[m]) Hl (by rw [Scu.textBytes_size];omega)
      have Hh:=mA (Scu.encT_succ (k:=⟨vi,no,true,lo,co⟩) (gen:=gen) Hb)
      have Hd:=mA Ha
      clear Ha Hi
      go_wp2_with fail
      refine (zOn _ _ (by omega)).mono ?_;rintro e w2 ⟨rfl,h2⟩
      go_wp2
      go_roundw
      case rel=>exact ⟨m+1,Hb,by go_num,by rw [Hh.out],Hd.out.trans (h2.mono Hd.out.size)⟩
      case measure=>simp only [intOf];omega
     have Hj:(lo.length:Int)<=(m:Int):=by omega
     have HM:=mA (show Scu.encT ⟨vi,no,true,lo,co⟩ gen m=Scu.keptBody ⟨vi,no,true,lo,co⟩ gen by
      rw [show m=lo.length by omega];exact Scu.encT_all _ _)
     have ha:=zKt (Scu.sealS (Scu.encT ⟨vi,no,true,lo,co⟩ gen m)) _ (by rw [Scu.sealS_size];omega) Hl
     have Hd:=mA Ha
     clear Ha Hi
     go_wp2_with fail
     refine (zPg _ _ (by unfold maxLen;omega)).mono ?_;rintro e w2 ⟨rfl,h2⟩
     go_wp2
     go_ret2
     exact ⟨zGn (zKn (by rw [HM.out];rfl)) rfl,Hd.out.trans (h2.mono Hd.out.size)⟩
theorem zGx (lv:Value) (k:Scu.Kept) (gen:Int) (w:World) (B:Nat) (hv:IsStrs w B lv k.log) :
 Calls Tryd.prog 42 #[.agg #[.int .i64 k.view,.int .i64 k.normal,.bool k.calm,lv,.int .i64 k.commit],.int .i64 gen] w fun e w' =>
  e=.returned (.tuple #[.string (Scu.stageEncode k gen).1,.int .i64 (Scu.stageEncode k gen).2])/\Below w.heap.size w w' :=
 zLt lv k.view k.normal k.calm k.log k.commit gen w B hv
def OwnLasts (w:World) (base:Nat) (v:Value) (ls:List Scu.Last):Prop:=w.ownsRow base 76 4 v ls.length (ls.flatMap lastC)/\ls.length*40<=R47
theorem OwnLasts.is {w:World} {base:Nat} {v:Value} {ls:List Scu.Last} (h:OwnLasts w base v ls):IsLasts w 0 v ls:=by
 obtain ⟨A,c,rfl,hc,_,hr,_⟩:=zAg h.1
 exact ⟨⟨A,c,rfl,hc,hr⟩,h.2⟩
theorem OwnLasts.below {w w':World} {base:Nat} {v:Value} {xs:List Scu.Last} (h:OwnLasts w base v xs) (hb:Below w.heap.size w w'):OwnLasts w' base v xs:=⟨zAk h.1 hb,h.2⟩
theorem OwnLasts.base_ {w:World} {base base':Nat} {v:Value} {xs:List Scu.Last} (h:OwnLasts w base v xs) (hb:base'<=base):OwnLasts w base' v xs:=⟨zAn h.1 hb,h.2⟩
theorem OwnLasts.set_ {w:World} {base:Nat} {v:Value} {xs:List Scu.Last} (h:OwnLasts w base v xs) {g i:Nat} {t:TypeId} {cs:Array Value} (hb:Blk w g t cs) (Ha:t≠76) (u:Value):OwnLasts (w.setCell ⟨g,i,none⟩ u) base v xs:=⟨zFk h.1 hb Ha u,h.2⟩
theorem zUy:ElT 70 76 4 40:=by
 obtain ⟨i,h1,h2,h3,h4⟩:=info_parts (P:=Tryd.prog) (e:=76) (z:=.agg #[.int .i64 0,.int .i64 0,.int .i64 0,.string ⟨#[]⟩]) (size:=4) (bytes:=40) (by kernel_rfl)
 exact ⟨Tryd.underlying70,by omega,i,_,h1,h2,h3,h4,rfl⟩
theorem zSt (ls:List Scu.Last):∀ u ∈ ls.flatMap lastC,u.oneCell'=true:=fun u hu=>by
 obtain ⟨l,_,h⟩:=List.mem_flatMap.1 hu
 simp only [lastC,List.mem_cons,List.not_mem_nil,or_false] at h
 rcases h with rfl | rfl | rfl | rfl <;> rfl
theorem zNd (ls:List Scu.Last):(ls.flatMap lastC).length=ls.length*4:=zUh lastC 4 (fun _=>rfl) ls
theorem zHw (v:Value) (xs:List Scu.Last) (w:World) (B:Nat) (hv:IsLasts w B v xs) :
 Calls Tryd.prog 56 #[v] w fun e w'=>(∃ u,e=.returned u/\OwnLasts w' w.heap.size u xs)/\Below w.heap.size w w':=by
 obtain ⟨⟨A,c,rfl,He,hr⟩,hl⟩:=hv
 have Hb:=hl
 rcases A with _ | ad
 ·have hx:xs=[]:=by
   have:=zLn hr
   have:=congrArg List.length this
   rw [zNd] at this
   exact List.eq_nil_of_length_eq_zero (by simp only [List.length_nil] at this;omega)
  subst hx
  have Hc:=fun (W:World)=>Lib.run_eql_slice_nil (P:=Tryd.prog) W 70 76 none 0 c 0 0 Tryd.underlying70
  go_enter Tryd.func56,Tryd.ntmps56
  go_wp2
  go_ret
  exact ⟨⟨_,rfl,World.ownsRow_nil _ _ _ _,Hb⟩,mG _ _⟩
 have Hf:=fun (W:World)=>Lib.run_eql_slice_nil (P:=Tryd.prog) W 70 76 (some ad) xs.length c 0 0 Tryd.underlying70
 have Hd:=hl
 unfold R47 at Hd
 go_enter Tryd.func56,Tryd.ntmps56
 go_wp2_with (at_builtin;refine zBc _ rfl _ _ 70 rfl zUy w.heap.size _ 0 [] rfl (zLo (mC _)) _ xs.length (xs.flatMap lastC) rfl ?c1 (zSt xs) (by unfold maxLen;omega) (by omega) (by simp) ?_)
 case c1=>exact zGr (hr.alloc _) (zNd xs) (fun e=>by cases e)
 intro v1 w1 Ha hg hw
 have Ha:w1.ownsRow w.heap.size 76 4 v1 xs.length (xs.flatMap lastC):=by simpa only [Nat.zero_add,List.nil_append] using Ha
 have HO:=mA Ha
 have HW:=mA hw
 clear Ha hw
 go_wp2
 go_ret
 refine ⟨⟨_,rfl,HO.out,Hb⟩,?_⟩
 exact ((mG _ _).alloc (mC _) _).trans (zEw hg (by simp) (fun k hk=>by simp [Value.ownBlock] at hk;omega))
theorem zNe:∀ (ls:List Scu.Last) (k:Nat) (l:Scu.Last),
 ((((ls.flatMap lastC).set (k*4) (.int .i64 l.num)).set (k*4+1) (.int .i64 l.reply.code)).set (k*4+2) (.int .i64 l.reply.n)).set (k*4+3) (.string l.reply.data)=(ls.set k l).flatMap lastC
 | [],k,l=>by simp
 | x :: t,0,l=>by simp [lastC]
 | x :: t,k+1,l=>by
   have ih:=zNe t k l
   have e0:(k+1)*4=k*4+1+1+1+1:=by omega
   have e1:k*4+1+1+1+1+1=k*4+1+1+1+1+1:=rfl
   have e2:k*4+1+1+1+1+2=k*4+2+1+1+1+1:=by omega
   have e3:k*4+1+1+1+1+3=k*4+3+1+1+1+1:=by omega
   rw [List.set_cons_succ,List.flatMap_cons,List.flatMap_cons,<- ih,e0,e2,e3]
   simp only [lastC,List.cons_append,List.nil_append,List.set_cons_succ]
theorem zIj {w:World} {base n g c m:Nat} {e:TypeId} {xs:List Value} (h:w.ownsRow base e m (.slice (some ⟨g,0,none⟩) n c) n xs) (j:Nat) (u:Value) :
 (w.setCell ⟨g,j,none⟩ u).ownsRow base e m (.slice (some ⟨g,0,none⟩) n c) n (xs.set j u):=by
 obtain ⟨hl,⟨h0,_⟩ | ⟨g',cap,cur,e1,hb,hh,Ha,hm,Hb,ht⟩⟩:=h
 ·cases h0
 cases e1
 have hB:Blk w g e cur:=hh
 refine ⟨by simp [hl],.inr ⟨g,c,cur.setIfInBounds j u,rfl,hb,hB.set_ j u,Ha,hm,by simpa using Hb,?_⟩⟩
 rw [Array.toList_setIfInBounds,List.take_set,ht]
theorem OwnLasts.put {w:World} {base g c n:Nat} {ls:List Scu.Last} (h:OwnLasts w base (.slice (some ⟨g,0,none⟩) n c) ls) (k:Nat) (l:Scu.Last) :
 OwnLasts ((((w.setCell ⟨g,k*4,none⟩ (.int .i64 l.num)).setCell ⟨g,k*4+1,none⟩ (.int .i64 l.reply.code)).setCell ⟨g,k*4+2,none⟩ (.int .i64 l.reply.n)).setCell ⟨g,k*4+3,none⟩ (.string l.reply.data)) base (.slice (some ⟨g,0,none⟩) n c) (ls.set k l):=by
 have hn:n=ls.length:=by
  obtain ⟨A,c',e,_⟩:=h.is.ex
  cases e
  rfl
 subst hn
 refine ⟨?_,by simpa using h.2⟩
 rw [List.length_set,<- zNe]
 exact zIj (zIj (zIj (zIj h.1 _ _) _ _) _ _) _ _
theorem OwnLasts.at_ {w:World} {base:Nat} {v:Value} {ls:List Scu.Last} (h:OwnLasts w base v ls) (hn:0 < ls.length) :
 ∃ g c cur,v=.slice (some ⟨g,0,none⟩) ls.length c/\base<=g/\Blk w g 76 cur/\∀ j,j < ls.length*4->w.cell? ⟨g,j,none⟩=(ls.flatMap lastC)[j]?:=by
 obtain ⟨hl,⟨_,h0⟩ | ⟨g,cap,cur,rfl,hb,hh,Ha,_,Hb,ht⟩⟩:=h.1
 ·omega
 refine ⟨g,cap,cur,rfl,hb,hh,fun j hj=>?_⟩
 have hB:Blk w g 76 cur:=hh
 rw [hB.cell,<- ht,List.getElem?_take_of_lt (by omega)]
 simp
theorem Same.put4 {Ts:List TypeId} {B g:Nat} {w:World} {t:TypeId} {cs:Array Value} (hb:Blk w g t cs) (hB:B<=g) (ht:t ∉ Ts) (k:Nat) (l:Scu.Last):Same Ts B w ((((w.setCell ⟨g,k*4,none⟩ (.int .i64 l.num)).setCell ⟨g,k*4+1,none⟩ (.int .i64 l.reply.code)).setCell ⟨g,k*4+2,none⟩ (.int .i64 l.reply.n)).setCell ⟨g,k*4+3,none⟩ (.string l.reply.data)) :=
 (((Same.set_ hb hB ht _ _).trans (Same.set_ (hb.set_ _ _) hB ht _ _)).trans (Same.set_ ((hb.set_ _ _).set_ _ _) hB ht _ _)).trans (Same.set_ (((hb.set_ _ _).set_ _ _).set_ _ _) hB ht _ _)
theorem IsVolume.same {w w':World} {B:Nat} {nv sv:Value} {x:Scu.Volume} (h:IsVolume w 0 nv sv x) (hs:Same [9,42] B w w') (hB:B=0):IsVolume w' 0 nv sv x:=by
 subst hB
 exact h.keep hs.size fun g hg hh=>hs.keep g hg (hh.imp id fun ⟨C,fz,t,ht,e⟩=>⟨C,fz,t,by rcases ht with rfl | rfl <;> simp,e⟩)
theorem IsLasts.same {w w':World} {v:Value} {ls:List Scu.Last} (h:IsLasts w 0 v ls) (hs:Same [76] 0 w w'):IsLasts w' 0 v ls :=
 h.keep hs.size fun g hg hh=>hs.keep g hg (hh.imp id fun ⟨C,fz,e⟩=>⟨C,fz,_,by simp,e⟩)
theorem OwnLasts.same {w w':World} {base:Nat} {v:Value} {ls:List Scu.Last} (h:OwnLasts w base v ls) (hs:Same [76] 0 w w'):OwnLasts w' base v ls:=⟨zCn h.1 (by simp) hs,h.2⟩
theorem use {P Q:Prop} (h:P) (k:P->Q):Q:=k h
theorem zNf (A0:Option Addr) (n0 c0:Nat) (A1:Option Addr) (n1 c1:Nat) (A2:Option Addr) (n2 c2:Nat) (A3:Option Addr) (n3 c3:Nat) (A4:Option Addr) (n4 c4:Nat) (r:Scu.Replica) (w:World) (B:Nat) (hr:IsRep w B (.slice A0 n0 c0) (.slice A1 n1 c1) (.slice A2 n2 c2) (.slice A3 n3 c3) (.slice A4 n4 c4) r) :
 Calls Tryd.prog 31 #[.agg #[.int .i64 r.me,.int .i64 r.kept.view,.int .i64 r.kept.normal,.bool r.kept.calm,.slice A0 n0 c0,.int .i64 r.kept.commit,.slice A1 n1 c1,.slice A2 n2 c2,.slice A3 n3 c3,.slice A4 n4 c4]] w fun e w'=>RepRet w' w.heap.size r e/\Below w.heap.size w w':=by
 have HV:=mA hr
 clear hr
 go_enter Tryd.func31,Tryd.ntmps31
 go_upto_region 1 with fail
 obtain ⟨Wd,Hj⟩:=mJ ((w.alloc (.cells #[.int .i64 r.me,.int .i64 r.kept.view,.int .i64 r.kept.normal,.bool r.kept.calm,.slice A0 n0 c0,.int .i64 r.kept.commit,.slice A1 n1 c1,.slice A2 n2 c2,.slice A3 n3 c3,.slice A4 n4 c4] 49)).alloc (.cells zR 49))
 rw [<- Hj]
 have hb:Below w.heap.size w Wd:=by rw [Hj];exact (zAa w _).alloc (by simp) _
 have hs:Blk Wd w.heap.size 49 #[.int .i64 r.me,.int .i64 r.kept.view,.int .i64 r.kept.normal,.bool r.kept.calm,.slice A0 n0 c0,.int .i64 r.kept.commit,.slice A1 n1 c1,.slice A2 n2 c2,.slice A3 n3 c3,.slice A4 n4 c4]:=by rw [Hj];exact (Blk.new w _ _).alloc _
 have hz:Blk Wd (w.heap.size+1) 49 zR:=by rw [Hj];exact Blk.new' (by simp)
 obtain ⟨s0,s1,s2,s3,s4,s5,s6,s7,s8,s9⟩:=cz10 hs
 have sz:=hs.frozen
 have sl:=hs.lt
 have Kv:=hz.lt
 have He:=mA (HV.out.below hb)
 have HS:=mA (mB hs (mB hz hb))
 clear hs hz hb Hj
 go_cut [3] (fun p wx=>∃ g lu hv wv nv,p=.pointer (some ⟨g,0,none⟩)/\Rep0 Wd r g lu hv wv nv wx)
 case first =>
  go_region_held3 (fun w'=>w'.cell? ⟨w.heap.size,0,none⟩=some (.int .i64 r.me)/\w'.cell? ⟨w.heap.size,1,none⟩=some (.int .i64 r.kept.view)/\w'.cell? ⟨w.heap.size,2,none⟩=some (.int .i64 r.kept.normal)/\w'.cell? ⟨w.heap.size,3,none⟩=some (.bool r.kept.calm)/\w'.cell? ⟨w.heap.size,4,none⟩=some (.slice A0 n0 c0)/\w'.cell? ⟨w.heap.size,5,none⟩=some (.int .i64 r.kept.commit)/\w'.cell? ⟨w.heap.size,6,none⟩=some (.slice A1 n1 c1)/\w'.cell? ⟨w.heap.size,7,none⟩=some (.slice A2 n2 c2)/\w'.cell? ⟨w.heap.size,9,none⟩=some (.slice A4 n4 c4)) (first | (go_split_ands;(try dsimp only);(repeat' apply mB) <;> first | (with_reducible refine ((zAf M4.out ?_).cell sl).trans ?_ <;> first | assumption | omega) | (with_reducible refine (M4.out.cell sl).trans ?_;assumption) | (with_reducible refine ((M4.out.alloc M4.out.size _).cell sl).trans ?_;assumption) | (with_reducible refine (M3.out.cell sl).trans ?_;assumption) | (with_reducible refine ((M3.out.alloc M3.out.size _).cell sl).trans ?_;assumption) | (with_reducible refine (M2.out.cell sl).trans ?_;assumption) | (with_reducible refine ((M2.out.alloc M2.out.size _).cell sl).trans ?_;assumption) | (with_reducible refine (M1.out.cell sl).trans ?_;assumption) | (with_reducible refine ((M1.out.alloc M1.out.size _).cell sl).trans ?_;assumption) | (with_reducible refine ((zAa Wd _).cell sl).trans ?_;assumption)) | go_keep | (go_split_ands;(try dsimp only);(repeat' apply mB) <;> go_keep))
   (first
   | (go_at_call 43;refine (zGg _ r.kept _ B ?_).mono ?_;(first | exact He.out.log.drewN 1 | exact (He.out.log.alloc _).drewN 1 | exact (He.out.log.drewN 1).alloc _);rintro en x1 ⟨⟨v1,rfl,hu⟩,k1⟩
      refine use (P:=Below Wd.heap.size Wd x1) ?_ ?_
      (first | exact (below_drewN (mG _ _) 1).trans k1 | exact (below_drewN (zAa Wd (.cells zR 49)) 1).trans (k1.mono (Nat.le_succ_of_le (mC _))) | exact ((below_drewN (mG _ _) 1).alloc (mC _) (.cells zR 49)).trans (k1.mono (by simp)))
      intro nn1
      have N1:=mA nn1
      have M1:=mA (nn1)
      have sz1:=nn1.size
      have lw1:w.heap.size < x1.heap.size:=mF sl nn1.size
      have ld1:Wd.heap.size<=x1.heap.size:=M1.out.size
      clear nn1
      refine use (P:=OwnStrs x1 Wd.heap.size v1 r.kept.log) ?_ ?_
      (first | exact hu | exact hu.base_ (by simp))
      clear hu;intro hu
      obtain ⟨A5,n5,c5,rfl⟩:=hu.form
      have O1:=mA hu
      (try (refine use (P:=Blk x1 Wd.heap.size 49 zR) ?_ ?_;(first | exact ((Blk.new Wd _ _).drew).same k1 | exact (Blk.new (Wd.drewN 1) _ _).same k1);intro Hb;have Ha:=mA Hb;clear Hb))
      clear hu k1)
   | (go_at_call 47;refine (zOp _ r.have_ _ B ?_).mono ?_;(first | exact He.out.have_.below M1.out | exact (He.out.have_.below M1.out).alloc _);rintro en x2 ⟨⟨v2,rfl,hu⟩,k2⟩
      refine use (P:=Below x1.heap.size x1 x2) ?_ ?_
      (first | exact k2 | exact (zAa x1 (.cells zR 49)).trans (k2.mono (by simp)))
      intro nn2
      have N2:=mA nn2
      have M2:=mA (M1.out.trans (nn2.mono M1.out.size))
      have sz2:=nn2.size
      have lw2:w.heap.size < x2.heap.size:=mF lw1 nn2.size
      have ld2:Wd.heap.size<=x2.heap.size:=M2.out.size
      clear nn2
      refine use (P:=x2.ownsRow x1.heap.size 3 1 v2 r.have_.length (r.have_.map vInt)) ?_ ?_
      (first | exact hu | exact zAn hu (by simp))
      clear hu;intro hu
      obtain ⟨A6,c6,rfl,_,_,_,Hk⟩:=zAg hu
      have O2:=mA (zAn hu ld1)
      have L2:=mA Hk
      clear Hk
      (try (have Hb:=Ha.out.same N2.out;have Ha:=mA Hb;clear Hb))
      (try (refine use (P:=Blk x2 x1.heap.size 49 zR) ?_ ?_;(first | exact (Blk.new x1 _ _).same k2);intro Hb;have Ha:=mA Hb;clear Hb))
      clear hu k2)
   | (go_at_call 48;refine (zHv _ r.wants _ B ?_).mono ?_;(first | exact He.out.wants.below M2.out | exact (He.out.wants.below M2.out).alloc _);rintro en x3 ⟨⟨v3,rfl,hu⟩,k3⟩
      refine use (P:=Below x2.heap.size x2 x3) ?_ ?_
      (first | exact k3 | exact (zAa x2 (.cells zR 49)).trans (k3.mono (by simp)))
      intro nn3
      have N3:=mA nn3
      have M3:=mA (M2.out.trans (nn3.mono M2.out.size))
      have sz3:=nn3.size
      have lw3:w.heap.size < x3.heap.size:=mF lw2 nn3.size
      have ld3:Wd.heap.size<=x3.heap.size:=M3.out.size
      clear nn3
      refine use (P:=x3.ownsRow x2.heap.size 4 1 v3 r.wants.length (r.wants.map Value.bool)) ?_ ?_
      (first | exact hu | exact zAn hu (by simp))
      clear hu;intro hu
      obtain ⟨A7,c7,rfl,_,_,_,Hl⟩:=zAg hu
      have O3:=mA (zAn hu ld2)
      have L3:=mA Hl
      clear Hl
      (try (have Hb:=Ha.out.same N3.out;have Ha:=mA Hb;clear Hb))
      (try (refine use (P:=Blk x3 x2.heap.size 49 zR) ?_ ?_;(first | exact (Blk.new x2 _ _).same k3);intro Hb;have Ha:=mA Hb;clear Hb))
      clear hu k3)
   | (go_at_call 48;refine (zHv _ r.given _ B ?_).mono ?_;(first | exact He.out.given.below M3.out | exact (He.out.given.below M3.out).alloc _);rintro en x4 ⟨⟨v4,rfl,hu⟩,k4⟩
      refine use (P:=Below x3.heap.size x3 x4) ?_ ?_
      (first | exact k4 | exact (zAa x3 (.cells zR 49)).trans (k4.mono (by simp)))
      intro nn4
      have N4:=mA nn4
      have M4:=mA (M3.out.trans (nn4.mono M3.out.size))
      have sz4:=nn4.size
      have lw4:w.heap.size < x4.heap.size:=mF lw3 nn4.size
      have ld4:Wd.heap.size<=x4.heap.size:=M4.out.size
      clear nn4
      refine use (P:=x4.ownsRow x3.heap.size 4 1 v4 r.given.length (r.given.map Value.bool)) ?_ ?_
      (first | exact hu | exact zAn hu (by simp))
      clear hu;intro hu
      obtain ⟨A8,c8,rfl,_,_,_,Hm⟩:=zAg hu
      have O4:=mA (zAn hu ld3)
      have L4:=mA Hm
      clear Hm
      (try (have Hb:=Ha.out.same N4.out;have Ha:=mA Hb;clear Hb))
      (try (refine use (P:=Blk x4 x3.heap.size 49 zR) ?_ ?_;(first | exact (Blk.new x3 _ _).same k4);intro Hb;have Ha:=mA Hb;clear Hb))
      (try (have b0:=Ha.out.cell 0;have b1:=Ha.out.cell 1;have b2:=Ha.out.cell 2;have b3:=Ha.out.cell 3;have b4:=Ha.out.cell 4;have b5:=Ha.out.cell 5;have b6:=Ha.out.cell 6;have b7:=Ha.out.cell 7;have b8:=Ha.out.cell 8;have b9:=Ha.out.cell 9;simp only [List.getElem?_toArray,List.getElem?_cons_zero,List.getElem?_cons_succ] at b0 b1 b2 b3 b4 b5 b6 b7 b8 b9;have bz:=Ha.out.frozen;have bl:=Ha.out.lt))
      clear hu k4))
  all_goals
   go_wp2_with fail
   go_meet
   have O1':=(O1.out.below (N2.out.trans (N3.out.mono sz2))).below N4.out
   have O2':=zAk (zAk O2.out N3.out) N4.out
   have O3':=zAk O3.out N4.out
   have Hn:OwnRep0 x4 Wd.heap.size _ _ _ _ r:=⟨O1',⟨O2',HV.out.have_.len⟩,⟨O3',HV.out.wants.len⟩,⟨O4.out,HV.out.given.len⟩,fun g h1 h2=>by have:=(L3.out g h1).2;have:=(L4.out g h2).1;omega⟩
   first
    | (refine ⟨x4.heap.size,.slice A5 n5 c5,.slice A6 r.have_.length c6,.slice A7 r.wants.length c7,.slice A8 r.given.length c8,rfl,?_⟩;exact zUw M4.out Hn)
    | (refine ⟨Wd.heap.size,.slice A5 n5 c5,.slice A6 r.have_.length c6,.slice A7 r.wants.length c7,.slice A8 r.given.length c8,rfl,?_⟩;exact zIi M4.out Hn Ha.out (mC _))
    | (refine ⟨x1.heap.size,.slice A5 n5 c5,.slice A6 r.have_.length c6,.slice A7 r.wants.length c7,.slice A8 r.given.length c8,rfl,?_⟩;exact zIi M4.out Hn Ha.out ld1)
    | (refine ⟨x2.heap.size,.slice A5 n5 c5,.slice A6 r.have_.length c6,.slice A7 r.wants.length c7,.slice A8 r.given.length c8,rfl,?_⟩;exact zIi M4.out Hn Ha.out ld2)
    | (refine ⟨x3.heap.size,.slice A5 n5 c5,.slice A6 r.have_.length c6,.slice A7 r.wants.length c7,.slice A8 r.given.length c8,rfl,?_⟩;exact zIi M4.out Hn Ha.out ld3)
 case rest =>
 obtain ⟨g,lu,hv,wv,nv,rfl,hR⟩:=hcut
 obtain ⟨A5,n5,c5,rfl⟩:=hR.own.log.form
 obtain ⟨A6,n6,c6,rfl⟩:=hR.own.have_.form
 obtain ⟨A7,n7,c7,rfl⟩:=hR.own.wants.form
 obtain ⟨A8,n8,c8,rfl⟩:=hR.own.given.form
 have Hf:=hR.low
 have Kb:=HS.out.2.2.size
 have hs:=HS.out.1.same Hf
 have hz:=HS.out.2.1.same Hf
 have hb:=HS.out.2.2.trans (Hf.mono Kb)
 obtain ⟨⟨Ag,cg,csg,eg,Kw,Kc,Kd,Ke,Kf⟩,Kg⟩:=HV.out.gives
 obtain ⟨rfl,rfl,rfl⟩:A3=Ag/\n3=r.gives.length/\c3=cg:=by cases eg;exact ⟨rfl,rfl,rfl⟩
 have hI:GivI w #[.int .i64 r.me,.int .i64 r.kept.view,.int .i64 r.kept.normal,.bool r.kept.calm,.slice A0 n0 c0,.int .i64 r.kept.commit,.slice A1 n1 c1,.slice A2 n2 c2,.slice A3 r.gives.length c3,.slice A4 n4 c4] g r (.slice A5 n5 c5) (.slice A6 n6 c6) (.slice A7 n7 c7) (.slice A8 n8 c8) 0 (.slice none 0 0) [] wc:=⟨hz,hs,hR.out,hR.own.base_ Kb,OwnKs.nil_,by have:=hR.lo;omega,hb,fun c hc=>by cases hc⟩
 have HI:=mA hI
 have HG:=mA (mB Kc (mB Kd (mB Ke (mB Kf Kg))))
 unfold R47 at Kg
 clear s0 s1 s2 s3 s4 s5 s6 s7 s8 s9 sz sl eg Kc Kd Ke Kf
 obtain ⟨s0,s1,s2,s3,s4,s5,s6,s7,s8,s9⟩:=cz10 hs
 have sz:=hs.frozen
 have sl:=hs.lt
 clear hs hz hb hI hR Hf
 go_wp2_with fail
 go_loopw [24] (fun i wr=>∃ (k:Nat) (Ak:Option Addr) (nk ck:Nat) (css:List (List Value)),k<=r.gives.length/\i=.int .i64 k/\GivI w #[.int .i64 r.me,.int .i64 r.kept.view,.int .i64 r.kept.normal,.bool r.kept.calm,.slice A0 n0 c0,.int .i64 r.kept.commit,.slice A1 n1 c1,.slice A2 n2 c2,.slice A3 r.gives.length c3,.slice A4 n4 c4] g r (.slice A5 n5 c5) (.slice A6 n6 c6) (.slice A7 n7 c7) (.slice A8 n8 c8) k (.slice Ak nk ck) css wr) (fun i _=>r.gives.length - (intOf i).toNat)
 case atStart=>exact ⟨0,none,0,0,[],mE _,rfl,HI.out⟩
 case round =>
  obtain ⟨k,Ak,nk,ck,css,hk,rfl,hI⟩:=hrel
  have Kx:=hI.lo
  have Hd:=hI.out
  have Hc:=hI.res
  have Kn:=hI.arg
  clear s0 s1 s2 s3 s4 s5 s6 s7 s8 s9 sz sl
  obtain ⟨o0,o1,o2,o3,o4,o5,o6,o7,o8,o9⟩:=cz10 Hd
  have oz:=Hd.frozen
  have ol:=Hd.lt
  have Ko:=Hc.lt
  have Hq:=mA hI
  by_cases Kh:k < r.gives.length
  ·have Kp:(k:Int) < (r.gives.length:Int):=by omega
   obtain ⟨gg,og,lg,rfl,Ky,k0,k1,k2,k3,k4,Hu⟩:=zJj (k:=k) HG.out.1 HG.out.2.1 (HG.out.2.2.1.below Hq.out.low) (fun j cs x a b=>(HG.out.2.2.2.1 j cs x a b).same (Ts:=[9]) (by simp) (Same.below Hq.out.low)) Kh
   obtain ⟨Al,nl,cl,rfl⟩:=Hu.form
   have Kq:=mA Hu
   clear Hu hI Hd Hc
   go_wp2_with fail
   obtain ⟨We,Hr⟩:=mJ (wr.alloc (.cells #[.int .i64 r.gives[k].view,.int .i64 r.gives[k].normal,.bool r.gives[k].calm,.slice Al nl cl,.int .i64 r.gives[k].commit] 44))
   rw [<- Hr]
   have Hv:Below wr.heap.size wr We:=by rw [Hr];exact zAa _ _
   have Hw:Blk We wr.heap.size 44 #[.int .i64 r.gives[k].view,.int .i64 r.gives[k].normal,.bool r.gives[k].calm,.slice Al nl cl,.int .i64 r.gives[k].commit]:=by rw [Hr];exact Blk.new _ _ _
   have Hi:=Hq.out.below Hv
   have Ki:=Kq.out.below Hv
   obtain ⟨q0,q1,q2,q3,q4⟩:=cz5 Hw
   have ql:=Hw.lt
   clear Hr Hv Hw k0 k1 k2 k3 k4 o0 o1 o2 o3 o4 o5 o6 o7 o8 o9 oz ol
   have Hx:=mA Hi
   have Kj:=mA Ki
   have e1:(r.gives.take k).length=k:=by rw [List.length_take];omega
   have Ho:=mA (show We.ownsRow w.heap.size 44 5 (.slice Ak nk ck) k css.flatten by have h:=Hi.giv.row;rw [e1] at h;exact h)
   have Hs:=Hi.out
   obtain ⟨-,-,-,-,-,-,-,-,e8⟩:=cz9 Hs
   have ez:=Hs.frozen
   have el:=Hs.lt
   clear Hi Ki Hs e1
   go_region_law (first
    | (go_simp;go_at_call 43;refine (zGg _ r.gives[k] _ B ?_).mono ?_;(first | exact Kj.out.drewN 1 | exact Kj.out);rintro en x3 ⟨⟨lx,rfl,hx⟩,h3⟩
       refine use (P:=Below We.heap.size We x3) ?_ ?_
       (first | exact (below_drewN (mG _ _) 1).trans h3 | exact h3)
       intro Hp
       refine use (P:=OwnStrs x3 We.heap.size lx r.gives[k].log) ?_ ?_
       (exact hx)
       clear hx;intro hx
       obtain ⟨Ax,nx,cx,rfl⟩:=hx.form
       have HX:=mA hx
       have H3:=mA Hp
       have f8:=cW Hp el e8
       have fz:=((bcell Hp).2 g 8 el).trans (ez 8)
       have Kr:=Hp.size
       have fl:g < x3.heap.size:=mF el Kr
       have f8a:∀ o,(x3.alloc o).cell? ⟨g,8,none⟩=some (.slice Ak nk ck):=fun o=>((zAa x3 o).cell (p:=⟨g,8,none⟩) fl).trans f8
       clear hx h3 Hp)
    | (refine zDv _ rfl (.tmp 29) (.tmp 32) 47 rfl zUs w.heap.size (.slice Ak nk ck) k css.flatten rfl ?_ (.slice (some ⟨x3.heap.size,0,none⟩) 1 1) 1 (keptV r.gives[k] (.slice Ax nx cx)) rfl ⟨rfl,.inr ⟨_,_,rfl,?_⟩⟩ ?_ ?_ ?_ ?_ ?_
       ·exact zAk (zAk Ho.out H3.out) (zAa x3 _)
       ·intro j v hj
        have Kz:j < 5:=by (rcases Nat.lt_or_ge j 5 with h | h;exact h;rw [List.getElem?_eq_none h] at hj;cases hj)
        have Hy:(⟨x3.heap.size,0,none⟩:Addr).add j=⟨x3.heap.size,j,none⟩:=by (unfold Addr.add;split <;> simp_all)
        rw [Hy,(Blk.new x3 44 #[.int .i64 r.gives[k].view,.int .i64 r.gives[k].normal,.bool r.gives[k].calm,.slice Ax nx cx,.int .i64 r.gives[k].commit]).cell j]
        simpa [keptV] using hj
       ·(intro v hv;simp only [keptV,List.mem_cons,List.not_mem_nil,or_false] at hv;rcases hv with rfl | rfl | rfl | rfl | rfl <;> rfl)
       ·(unfold maxLen;omega)
       ·omega
       ·(have:=Hx.out.low.size;simp;omega)
       intro v4 x4 h4 Hz _
       have Ka:=(Hx.out.below H3.out).below (zAa x3 (.cells #[.int .i64 r.gives[k].view,.int .i64 r.gives[k].normal,.bool r.gives[k].calm,.slice Ax nx cx,.int .i64 r.gives[k].commit] 44))
       have Kk:=zUx Ka Kh HG.out.2.2.2.2 (HX.out.below (zAa x3 (.cells #[.int .i64 r.gives[k].view,.int .i64 r.gives[k].normal,.bool r.gives[k].calm,.slice Ax nx cx,.int .i64 r.gives[k].commit] 44))) (fun x hl=>(Hx.out.own.log.1.lt x hl).2) h4 Hz
       have Hh:=zAk (zAk Ho.out H3.out) (zAa x3 (.cells #[.int .i64 r.gives[k].view,.int .i64 r.gives[k].normal,.bool r.gives[k].calm,.slice Ax nx cx,.int .i64 r.gives[k].commit] 44))
       have Ht:=zGw Ka.out Hh (by decide) Hz
       obtain ⟨-,-,-,-,-,-,-,-,g8⟩:=cz9 Ht
       have gz:=Ht.frozen
       have gl:=Ht.lt
       obtain ⟨A9,c9,rfl,_,_,_,_⟩:=zAg h4
       have Ks:=mA Kk
       clear Ka Kk h4 Hz Ht Hh))
   all_goals (go_wp2;go_roundw)
   all_goals first
    | exact ⟨k+1,A9,k+1,c9,_,by omega,rfl,Ks.out⟩
    | (simp [intOf];omega)
  have Kl:k=r.gives.length:=by omega
  have Kt:¬ (k:Int) < (r.gives.length:Int):=by omega
  have Hi:=hI
  have e1:r.gives.take k=r.gives:=by rw [Kl,List.take_length]
  have HO:=mA (show OwnRep wr w.heap.size (.slice A5 n5 c5) (.slice A6 n6 c6) (.slice A7 n7 c7) (.slice Ak nk ck) (.slice A8 n8 c8) r from ⟨hI.own,css,e1 ▸ hI.giv⟩)
  have Ku:=mA (show ApG wr w.heap.size (.slice Ak nk ck) r.gives (.slice A5 n5 c5) from ⟨css,e1 ▸ hI.giv,hI.apt⟩)
  have Km:=mA Hc
  have Hg:=zAr (a0:=.int .i64 r.me) (a1:=.int .i64 r.kept.view) (a2:=.int .i64 r.kept.normal) (a3:=.bool r.kept.calm) (a4:=.slice A5 n5 c5) (a5:=.int .i64 r.kept.commit) (a6:=.slice A6 n6 c6) (a7:=.slice A7 n7 c7) (a8:=.slice Ak nk ck) (a9:=.slice A8 n8 c8) Hc
  obtain ⟨z0,z1,z2,z3,z4,z5,z6,z7,z8,z9⟩:=cz10 Hc
  have zz:=Hc.frozen
  have zl:=Hc.lt
  obtain ⟨r0,r1,r2,r3,r4,r5,r6,r7,r8,r9⟩:=cz10 Hg
  have rz:=Hg.frozen
  have rl:=Hg.lt
  clear hI Hd Hi Kl hk e1 Hg Hc
  go_wp2
  refine bodyPost_ret (v:=.agg #[.int .i64 r.me,.int .i64 r.kept.view,.int .i64 r.kept.normal,.bool r.kept.calm,.slice A5 n5 c5,.int .i64 r.kept.commit,.slice A6 n6 c6,.slice A7 n7 c7,.slice Ak nk ck,.slice A8 n8 c8]) (by simp [results,Tryd.results31,go_sem,r0,r1,r2,r3,r4,r5,r6,r7,r8,r9]) rfl ?_
  exact ⟨⟨_,_,_,_,_,rfl,HO.out.same (Same.sets10 Km.out (mE _) (by decide)),Ku.out.same (Same.sets10 Km.out (mE _) (by decide))⟩,zAf Hq.out.low (Nat.le_succ _)⟩
theorem IsRep.forms {w:World} {B:Nat} {lv hv wv gv nv:Value} {r:Scu.Replica} (h:IsRep w B lv hv wv gv nv r) :
 ∃ A0 n0 c0 A1 c1 A2 c2 A3 c3 A4 c4,lv=.slice A0 n0 c0/\hv=.slice A1 r.have_.length c1/\wv=.slice A2 r.wants.length c2/\gv=.slice A3 r.gives.length c3/\nv=.slice A4 r.given.length c4:=by
 obtain ⟨A0,n0,c0,e0⟩:=h.log.form
 obtain ⟨⟨A1,c1,e1,_⟩,_⟩:=h.have_
 obtain ⟨⟨A2,c2,e2,_⟩,_⟩:=h.wants
 obtain ⟨⟨A3,c3,_,e3,_⟩,_⟩:=h.gives
 obtain ⟨⟨A4,c4,e4,_⟩,_⟩:=h.given
 exact ⟨A0,n0,c0,A1,c1,A2,c2,A3,c3,A4,c4,e0,e1,e2,e3,e4⟩
def msgV (m:Scu.Message) (lv:Value):List Value:=[.int .i64 m.kind,.int .i64 m.from_,.int .i64 m.tq,.int .i64 m.view,.int .i64 m.normal,.int .i64 m.commit,.int .i64 m.n,lv]
def MsgE (w:World) (B:Nat) (cs:List Value) (m:Scu.Message):Prop:=∃ lv,cs=msgV m lv/\IsStrs w B lv m.log
theorem MsgE.same {w w':World} {B:Nat} {Ts:List TypeId} {cs:List Value} {m:Scu.Message} (h:MsgE w B cs m) (ht:9 ∈ Ts) (hs:Same Ts B w w'):MsgE w' B cs m:=by
 obtain ⟨lv,e,h⟩:=h
 exact ⟨lv,e,h.same ht hs⟩
theorem zLu:ElT 27 137 8 80:=by
 obtain ⟨i,h1,h2,h3,h4⟩:=info_parts (P:=Tryd.prog) (e:=137) (z:=.agg #[.int .i64 0,.int .i64 0,.int .i64 0,.int .i64 0,.int .i64 0,.int .i64 0,.int .i64 0,.slice none 0 0]) (size:=8) (bytes:=80) (by kernel_rfl)
 exact ⟨Tryd.underlying27,by omega,i,_,h1,h2,h3,h4,rfl⟩
structure OwnMs (w:World) (base:Nat) (v:Value) (ms:List Scu.Message) (css:List (List Value)):Prop where
 len:css.length=ms.length
 eight:∀ cs ∈ css,cs.length=8
 row:w.ownsRow base 137 8 v ms.length css.flatten
 each:∀ (j:Nat) (cs:List Value) (m:Scu.Message),css[j]? = some cs->ms[j]? = some m->MsgE w 0 cs m
 max:ms.length*80<=R47
section
variable {w w':World} {B base base':Nat} {v:Value} {ms:List Scu.Message} {css:List (List Value)}
theorem OwnMs.is (h:OwnMs w base v ms css):IsRow 137 8 80 MsgE w 0 v ms:=by
 obtain ⟨A,c,rfl,hc,_,hr,_⟩:=zAg h.row
 exact ⟨⟨A,c,css,rfl,hc,h.len,h.eight,hr,h.each⟩,h.max⟩
theorem OwnMs.same (h:OwnMs w base v ms css) (hs:Same [9,137] B w w'):OwnMs w' base v ms css :=
 ⟨h.len,h.eight,zCn h.row (by simp) hs,fun j cs k a b=>(h.each j cs k a b).same (B:=0) (Ts:=[9,137]) (by simp) (hs.mono (fun _ h=>h) (mE _)),h.max⟩
theorem OwnMs.below (h:OwnMs w base v ms css) (hb:Below w.heap.size w w'):OwnMs w' base v ms css:=h.same (B:=0) (Same.below hb)
theorem OwnMs.nil_:OwnMs w base (.slice none 0 0) [] []:=⟨rfl,by simp,World.ownsRow_nil _ _ _ _,fun j cs k h=>by simp at h,by simp [R47]⟩
theorem OwnMs.form (h:OwnMs w base v ms css):∃ A c,v=.slice A ms.length c:=by
 obtain ⟨A,c,e,_⟩:=zAg h.row
 exact ⟨A,c,e⟩
end
structure Work (w:World) (base gw gr:Nat) (r:Scu.Replica) (lu hv wv gv nv ov:Value) (ms:List Scu.Message) (css:List (List Value)):Prop where
 wb:Blk w gw 151 #[.pointer (some ⟨gr,0,none⟩),ov]
 rb:Blk w gr 49 #[.int .i64 r.me,.int .i64 r.kept.view,.int .i64 r.kept.normal,.bool r.kept.calm,lu,.int .i64 r.kept.commit,hv,wv,gv,nv]
 own:OwnRep w base lu hv wv gv nv r
 out:OwnMs w base ov ms css
 lw:base<=gw
 lr:base<=gr
theorem Work.below {w w':World} {base gw gr:Nat} {r:Scu.Replica} {lu hv wv gv nv ov:Value} {ms:List Scu.Message} {css:List (List Value)} (h:Work w base gw gr r lu hv wv gv nv ov ms css) (hb:Below w.heap.size w w'):Work w' base gw gr r lu hv wv gv nv ov ms css :=
 ⟨h.wb.same hb,h.rb.same hb,h.own.below hb,h.out.below hb,h.lw,h.lr⟩
theorem zKu (lv Ha wv gv nv:Value) (r:Scu.Replica) (w:World) (B:Nat) (hv:IsRep w B lv Ha wv gv nv r) (f:Int) (h:Scu.repFault r=f) :
 Calls Tryd.prog 16 #[.agg #[.int .i64 r.me,.int .i64 r.kept.view,.int .i64 r.kept.normal,.bool r.kept.calm,lv,.int .i64 r.kept.commit,Ha,wv,gv,nv]] w fun e w'=>e=.returned (.int .i64 f)/\Below w.heap.size w w':=by
 have:=zQz lv Ha wv gv nv r w B hv
 rw [h] at this
 exact this
theorem zLv (lv hv wv gv nv:Value) (r:Scu.Replica) (w:World) (B:Nat) (hr:IsRep w B lv hv wv gv nv r) (f:Int) (hf:Scu.repFault r=f) (hn:f≠0) :
 Calls Tryd.prog 75 #[.agg #[.int .i64 r.me,.int .i64 r.kept.view,.int .i64 r.kept.normal,.bool r.kept.calm,lv,.int .i64 r.kept.commit,hv,wv,gv,nv]] w fun e w'=>e=.returned (.tuple #[.pointer none,.int .i64 f])/\Below w.heap.size w w':=by
 have Ha:(f != 0)=true:=by simpa using hn
 clear hn
 have HV:=mA hr
 have HF:=mA hf
 obtain ⟨A0,n0,c0,A1,c1,A2,c2,A3,c3,A4,c4,rfl,rfl,rfl,rfl,rfl⟩:=hr.forms
 clear hr hf
 go_enter Tryd.func75,Tryd.ntmps75
 go_wp2_with fail
 have h0:Below w.heap.size w (w.alloc (.cells (rN r A0 n0 c0 A1 c1 A2 c2 A3 c3 A4 c4) 49)):=zAa w _
 refine (zKu _ _ _ _ _ r _ B (HV.out.below h0) f HF.out).mono ?_;rintro en w1 ⟨rfl,h1⟩
 have hs:Blk w1 w.heap.size 49 (rN r A0 n0 c0 A1 c1 A2 c2 A3 c3 A4 c4):=(Blk.new w _ _).same h1
 have hb:=h0.trans (h1.mono h0.size)
 clear h1 h0
 clear hs
 go_wp2
 go_ret2
 exact ⟨rfl,hb⟩
theorem zCa (lv hv wv gv nv:Value) (r:Scu.Replica) (w:World) (B:Nat) (hr:IsRep w B lv hv wv gv nv r) (hf:Scu.repFault r=0) :
 Calls Tryd.prog 75 #[.agg #[.int .i64 r.me,.int .i64 r.kept.view,.int .i64 r.kept.normal,.bool r.kept.calm,lv,.int .i64 r.kept.commit,hv,wv,gv,nv]] w fun e w' =>
  (∃ gw gr lu hu wu gu nu,e=.returned (.tuple #[.pointer (some ⟨gw,0,none⟩),.int .i64 0])/\Work w' w.heap.size gw gr r lu hu wu gu nu (.slice none 0 0) [] []/\ApG w' w.heap.size gu r.gives lu)/\Below w.heap.size w w':=by
 have HV:=mA hr
 have HF:=mA hf
 obtain ⟨A0,n0,c0,A1,c1,A2,c2,A3,c3,A4,c4,rfl,rfl,rfl,rfl,rfl⟩:=hr.forms
 clear hr hf
 go_enter Tryd.func75,Tryd.ntmps75
 go_wp2_with fail
 have h0:Below w.heap.size w (w.alloc (.cells (rN r A0 n0 c0 A1 c1 A2 c2 A3 c3 A4 c4) 49)):=zAa w _
 refine (zKu _ _ _ _ _ r _ B (HV.out.below h0) 0 HF.out).mono ?_;rintro en w1 ⟨rfl,h1⟩
 have hs:Blk w1 w.heap.size 49 (rN r A0 n0 c0 A1 c1 A2 c2 A3 c3 A4 c4):=(Blk.new w _ _).same h1
 have hb:=h0.trans (h1.mono h0.size)
 clear h1 h0
 obtain ⟨s0,s1,s2,s3,s4,s5,s6,s7,s8,s9⟩:=cz10 hs
 have sl:=hs.lt
 clear hs
 have HB:=mA hb
 clear hb
 go_wp2_with fail
 refine (zNf A0 n0 c0 A1 r.have_.length c1 A2 r.wants.length c2 A3 r.gives.length c3 A4 r.given.length c4 r _ B (HV.out.below HB.out)).mono ?_;rintro en w2 ⟨⟨lu,hu,wu,gu,nu,rfl,ho,Hc⟩,h2⟩
 obtain ⟨E0,m0,d0,E1,d1,E2,d2,E3,d3,E4,d4,rfl,rfl,rfl,rfl,rfl⟩:=ho.is.forms
 have HO:=mA (mB ho h2)
 have Hd:=mA Hc
 clear ho h2 Hc s0 s1 s2 s3 s4 s5 s6 s7 s8 s9 sl
 go_wp2
 go_ret2
 have Hb:=(zAa w2 (.cells (rN r E0 m0 d0 E1 d1 E2 d2 E3 d3 E4 d4) 49)).alloc (by simp) (.cells #[.pointer (some ⟨w2.heap.size,0,none⟩),.slice none 0 0] 151)
 have Ha:=HB.out.size
 have He:=HO.out.2.size
 refine ⟨⟨_,_,_,_,_,_,_,rfl,⟨Blk.new' (by simp),(Blk.new w2 _ _).alloc _,?_,OwnMs.nil_,by omega,by omega⟩,(Hd.out.base_ Ha).below Hb⟩,(HB.out.trans (HO.out.2.mono Ha)).trans (Hb.mono (by omega))⟩
 exact (⟨(HO.out.1.own).base_ Ha,let ⟨css,g⟩:=HO.out.1.giv;⟨css,g.base_ Ha⟩⟩:OwnRep _ _ _ _ _ _ _ _).below Hb
end Go.Proofs.YtnpphdaakookcaaDoor

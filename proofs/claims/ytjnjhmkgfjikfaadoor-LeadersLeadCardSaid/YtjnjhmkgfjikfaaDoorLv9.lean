/- Part 9: words and walks under the laws of the whole. -/
import Derived.Test.YtjnjhmkgfjikfaaDoorLv8
set_option linter.unusedVariables false
set_option linter.unusedSimpArgs false
set_option maxHeartbeats 4000000
set_option maxRecDepth 100000
namespace Go.Proofs.YtjnjhmkgfjikfaaDoor
open Go.RowKit
def keptV (k:Scu.Kept) (lv:Value):List Value:=[.int .i64 k.view,.int .i64 k.normal,.bool k.calm,lv,.int .i64 k.commit]
structure OwnKs (w:World) (base:Nat) (v:Value) (gs:List Scu.Kept) (css:List (List Value)):Prop where
 len:css.length=gs.length
 five:∀ cs ∈ css,cs.length=5
 row:w.ownsRow base 25 5 v gs.length css.flatten
 each:∀ (j:Nat) (cs:List Value) (k:Scu.Kept),css[j]? = some cs->gs[j]? = some k->KeptEl w 0 cs k
 max:gs.length*56<=R47
def OwnKepts (w:World) (base:Nat) (v:Value) (gs:List Scu.Kept):Prop:=∃ css,OwnKs w base v gs css
section
variable {w w':World} {B base base':Nat} {v:Value} {gs:List Scu.Kept} {css:List (List Value)}
theorem OwnKs.is (h:OwnKs w base v gs css):IsRow 25 5 56 KeptEl w 0 v gs:=by
 obtain ⟨A,c,rfl,hc,_,hr,_⟩:=zAk h.row
 exact ⟨⟨A,c,css,rfl,hc,h.len,h.five,hr,h.each⟩,h.max⟩
theorem OwnKs.same (h:OwnKs w base v gs css) (hs:Same [9,25] B w w'):OwnKs w' base v gs css :=
 ⟨h.len,h.five,zBb h.row (by simp) hs,fun j cs k a b=>(h.each j cs k a b).same (B:=0) (Ts:=[9,25]) (by simp) (hs.mono (fun _ h=>h) (mE _)),h.max⟩
theorem OwnKs.below (h:OwnKs w base v gs css) (hb:Below w.heap.size w w'):OwnKs w' base v gs css:=h.same (B:=0) (Same.below hb)
theorem OwnKs.base_ (h:OwnKs w base v gs css) (hb:base'<=base):OwnKs w base' v gs css:=⟨h.len,h.five,zAh h.row hb,h.each,h.max⟩
theorem OwnKs.nil_:OwnKs w base (.slice none 0 0) [] []:=⟨rfl,by simp,World.ownsRow_nil _ _ _ _,fun j cs k h=>by simp at h,by simp [R47]⟩
theorem OwnKepts.below (h:OwnKepts w base v gs) (hb:Below w.heap.size w w'):OwnKepts w' base v gs:=let ⟨css,h⟩:=h;⟨css,h.below hb⟩
theorem OwnKepts.is (h:OwnKepts w base v gs):IsRow 25 5 56 KeptEl w 0 v gs:=let ⟨_,h⟩:=h;h.is
end
structure OwnRep (w:World) (base:Nat) (lv hv wv gv nv:Value) (r:Scu.Replica):Prop where
 own:OwnRep0 w base lv hv wv nv r
 giv:OwnKepts w base gv r.gives
theorem OwnRep.is {w:World} {base:Nat} {lv hv wv gv nv:Value} {r:Scu.Replica} (h:OwnRep w base lv hv wv gv nv r):IsRep w 0 lv hv wv gv nv r :=
 ⟨h.own.log.is,h.own.have_.is,h.own.wants.is,h.giv.is,h.own.given.is⟩
theorem OwnRep.same {w w':World} {base:Nat} {lv hv wv gv nv:Value} {r:Scu.Replica} (h:OwnRep w base lv hv wv gv nv r) (hs:Same [9,3,4,25] 0 w w'):OwnRep w' base lv hv wv gv nv r :=
 ⟨h.own.same (hs.mono (by simp) (mC _)),let ⟨css,g⟩:=h.giv;⟨css,g.same (hs.mono (by simp) (mC _))⟩⟩
theorem OwnRep.below {w w':World} {base:Nat} {lv hv wv gv nv:Value} {r:Scu.Replica} (h:OwnRep w base lv hv wv gv nv r) (hb:Below w.heap.size w w'):OwnRep w' base lv hv wv gv nv r:=h.same (Same.below hb)
def ApL (lu:Value) (css:List (List Value)):Prop:=∀ cs ∈ css,∀ u ∈ cs,∀ x,lu.ownBlock=some x->u.ownBlock≠some x
def ApG (w:World) (base:Nat) (gv:Value) (gs:List Scu.Kept) (lu:Value):Prop:=∃ css,OwnKs w base gv gs css/\ApL lu css
theorem ApG.below {w w':World} {base:Nat} {gv lu:Value} {gs:List Scu.Kept} (h:ApG w base gv gs lu) (hb:Below w.heap.size w w'):ApG w' base gv gs lu:=let ⟨css,h,a⟩:=h;⟨css,h.below hb,a⟩
theorem ApG.same {w w':World} {base:Nat} {gv lu:Value} {gs:List Scu.Kept} (h:ApG w base gv gs lu) (hs:Same [9,25] 0 w w'):ApG w' base gv gs lu:=let ⟨css,h,a⟩:=h;⟨css,h.same hs,a⟩
theorem ApG.base_ {w:World} {base base':Nat} {gv lu:Value} {gs:List Scu.Kept} (h:ApG w base gv gs lu) (hb:base'<=base):ApG w base' gv gs lu:=let ⟨css,h,a⟩:=h;⟨css,h.base_ hb,a⟩
def RepRet (w:World) (base:Nat) (r:Scu.Replica) (e:Ending):Prop:=∃ lu hv wv gv nv,e=.returned (.agg #[.int .i64 r.me,.int .i64 r.kept.view,.int .i64 r.kept.normal,.bool r.kept.calm,lu,.int .i64 r.kept.commit,hv,wv,gv,nv])/\OwnRep w base lu hv wv gv nv r/\ApG w base gv r.gives lu
structure GivI (w:World) (cs:Array Value) (g:Nat) (r:Scu.Replica) (lu hv wv nv:Value) (k:Nat) (gv:Value) (css:List (List Value)) (wr:World):Prop where
 res:Blk wr (w.heap.size+1) 30 #[.int .i64 0,.int .i64 0,.int .i64 0,.bool false,.slice none 0 0,.int .i64 0,.slice none 0 0,.slice none 0 0,.slice none 0 0,.slice none 0 0]
 arg:Blk wr w.heap.size 30 cs
 out:Blk wr g 30 #[.int .i64 r.me,.int .i64 r.kept.view,.int .i64 r.kept.normal,.bool r.kept.calm,lu,.int .i64 r.kept.commit,hv,wv,gv,nv]
 own:OwnRep0 wr w.heap.size lu hv wv nv r
 giv:OwnKs wr w.heap.size gv (r.gives.take k) css
 lo:w.heap.size+1 < g
 low:Below w.heap.size w wr
 apt:ApL lu css
theorem GivI.below {w:World} {cs:Array Value} {g k:Nat} {r:Scu.Replica} {lu hv wv nv gv:Value} {css:List (List Value)} {wr w':World} (h:GivI w cs g r lu hv wv nv k gv css wr) (hb:Below wr.heap.size wr w'):GivI w cs g r lu hv wv nv k gv css w' :=
 ⟨h.res.same hb,h.arg.same hb,h.out.same hb,h.own.below hb,h.giv.below hb,h.lo,h.low.trans (hb.mono h.low.size),h.apt⟩
theorem zIe {α:Type} {l:List α} {k:Nat} (hk:k < l.length):l.take (k+1)=l.take k ++ [l[k]]:=by
 rw [List.take_add_one,mH hk]
 rfl
theorem zCv {w w':World} {base g n m:Nat} {t e:TypeId} {cs:Array Value} {lv:Value} {xs:List Value} (hb:Blk w g t cs) (Ha:w.ownsRow base e m lv n xs) (Hb:t≠e) (hg:w.grownBy w' lv.ownBlock):Blk w' g t cs :=
 (hg.block g hb.lt fun e'=>by
  obtain ⟨C',fz',hh⟩:=zFb Ha e'.symm
  unfold Blk at hb
  rw [hh] at hb
  cases hb
  exact Hb rfl).trans hb
theorem zJw {w:World} {cs:Array Value} {g k:Nat} {r:Scu.Replica} {lu hv wv nv gv v4 lx:Value} {css:List (List Value)} {P w4:World} {b:Nat} (h:GivI w cs g r lu hv wv nv k gv css P) (hk:k < r.gives.length) (hm:r.gives.length*56<=R47)
 (hx:OwnStrs P b lx r.gives[k].log) (Hg:∀ x,lu.ownBlock=some x->x < b) (h4:w4.ownsRow w.heap.size 25 5 v4 (k+1) (css.flatten ++ keptV r.gives[k] lx)) (hg:P.grownBy w4 gv.ownBlock) :
 GivI w cs g r lu hv wv nv (k+1) v4 (css ++ [keptV r.gives[k] lx]) (w4.setCell ⟨g,8,none⟩ v4):=by
 have Ha:=h.giv.row
 have e1:(r.gives.take k).length=k:=by rw [List.length_take];omega
 have Hd:Same [9,3,4] 0 P w4:=Same.own Ha hg (mE _) (by decide)
 have Hb:=zCv h.out Ha (by decide) hg
 have He:Same [9,3,4,25] 0 w4 (w4.setCell ⟨g,8,none⟩ v4):=Same.set_ Hb (mE _) (by decide) 8 v4
 have Hf:Same [9] 0 P (w4.setCell ⟨g,8,none⟩ v4):=(Hd.mono (by simp) (mC _)).trans (He.mono (by simp) (mC _))
 have Hi:=h.lo
 refine ⟨(zCv h.res Ha (by decide) hg).far (by simp;omega) v4,(zCv h.arg Ha (by decide) hg).far (by simp;omega) v4,?_,?_,?_,h.lo,?_,?_⟩
 ·have h8:Blk (w4.setCell ⟨g,8,none⟩ v4) g 30 #[.int .i64 r.me,.int .i64 r.kept.view,.int .i64 r.kept.normal,.bool r.kept.calm,lu,.int .i64 r.kept.commit,hv,wv,v4,nv]:=Hb.set_ 8 v4
  exact h8
 ·exact (h.own.same Hd).same (He.mono (by simp) (mC _))
 ·rw [zIe hk]
  refine ⟨by simp only [List.length_append,h.giv.len,List.length_cons,List.length_nil],?_,?_,?_,?_⟩
  ·intro c hc
   rcases List.mem_append.1 hc with h' | h'
   ·exact h.giv.five c h'
   rw [List.mem_singleton] at h'
   subst h'
   rfl
  ·rw [List.length_append,e1,List.flatten_append]
   have h5:w4.ownsRow w.heap.size 25 5 v4 (k+[r.gives[k]].length) (css.flatten ++ [keptV r.gives[k] lx].flatten):=by simpa using h4
   exact zDc h5 Hb (by decide) v4
  ·intro j c x hc Hc
   rcases Nat.lt_or_ge j k with hj | hj
   ·rw [List.getElem?_append_left (by rw [h.giv.len,e1];exact hj)] at hc
    rw [List.getElem?_append_left (by rw [e1];exact hj)] at Hc
    exact (h.giv.each j c x hc Hc).same (B:=0) (Ts:=[9]) (by simp) Hf
   rw [List.getElem?_append_right (by rw [h.giv.len,e1];exact hj),h.giv.len,e1] at hc
   rw [List.getElem?_append_right (by rw [e1];exact hj),e1] at Hc
   have Hh:j - k=0:=by
    rcases Nat.eq_zero_or_pos (j - k) with h' | h'
    ·exact h'
    rw [List.getElem?_eq_none (by simp;omega)] at hc
    cases hc
   rw [Hh] at hc Hc
   simp only [List.getElem?_cons_zero,Option.some.injEq] at hc Hc
   subst hc
   subst Hc
   exact ⟨lx,rfl,(hx.same Hf).is⟩
  rw [List.length_append,e1]
  simp only [List.length_cons,List.length_nil]
  omega
 ·exact (h.low.grown hg h.low.size (fun q hq=>(Ha.lt q hq).1)).setCell (by show w.heap.size<=g;omega) v4
 intro c hc u hu x hl e
 rcases List.mem_append.1 hc with h' | h'
 ·exact h.apt c h' u hu x hl e
 rw [List.mem_singleton] at h'
 subst h'
 simp only [keptV,List.mem_cons,List.not_mem_nil,or_false] at hu
 rcases hu with rfl | rfl | rfl | rfl | rfl
 ·cases e
 ·cases e
 ·cases e
 ·have:=(hx.1.lt x e).1
  have:=Hg x hl
  omega
 cases e
end Go.Proofs.YtjnjhmkgfjikfaaDoor

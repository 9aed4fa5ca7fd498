/- Part 10: words and walks under the laws of the whole. -/
import Derived.Deep.MidRow
import Derived.Test.YtlngfbngnnepiaaGreatZZ8
import Derived.Test.YtlngfbngnnepiaaGreatZZ9
set_option linter.unusedVariables false
set_option linter.unusedSimpArgs false
set_option maxHeartbeats 4000000
set_option maxRecDepth 100000
namespace Go.Proofs.YtlngfbngnnepiaaGreat
open Go.RowKit
def keptV (k:Scu.Kept) (lv:Value):List Value:=[.int .i64 k.view,.int .i64 k.normal,.bool k.calm,lv,.int .i64 k.commit]
structure OwnKs (w:World) (base:Nat) (v:Value) (gs:List Scu.Kept) (css:List (List Value)):Prop where
 len:css.length=gs.length
 five:∀ cs ∈ css,cs.length=5
 row:w.ownsRow base 42 5 v gs.length css.flatten
 each:∀ (j:Nat) (cs:List Value) (k:Scu.Kept),css[j]? = some cs->gs[j]? = some k->KeptEl w 0 cs k
 max:gs.length*56<=R47
def OwnKepts (w:World) (base:Nat) (v:Value) (gs:List Scu.Kept):Prop:=∃ css,OwnKs w base v gs css
section
variable {w w':World} {B base base':Nat} {v:Value} {gs:List Scu.Kept} {css:List (List Value)}
theorem OwnKs.is (h:OwnKs w base v gs css):IsRow 42 5 56 KeptEl w 0 v gs:=by
 obtain ⟨A,c,rfl,hc,_,hr,_⟩:=zAi h.row;exact ⟨⟨A,c,css,rfl,hc,h.len,h.five,hr,h.each⟩,h.max⟩
theorem OwnKs.same (h:OwnKs w base v gs css) (hs:Same [9,42] B w w'):OwnKs w' base v gs css :=
 ⟨h.len,h.five,zCq h.row (by simp) hs,fun j cs k a b=>(h.each j cs k a b).same (B:=0) (Ts:=[9,42]) (by simp) (hs.mono (fun _ h=>h) (mE _)),h.max⟩
theorem OwnKs.below (h:OwnKs w base v gs css) (hb:Below w.heap.size w w'):OwnKs w' base v gs css:=h.same (B:=0) (Same.below hb)
theorem OwnKs.base_ (h:OwnKs w base v gs css) (hb:base'<=base):OwnKs w base' v gs css:=⟨h.len,h.five,zAl h.row hb,h.each,h.max⟩
theorem OwnKs.nil_:OwnKs w base (.slice none 0 0) [] []:=⟨rfl,by simp,World.ownsRow_nil _ _ _ _,fun j cs k h=>by simp at h,by simp [R47]⟩
theorem OwnKepts.below (h:OwnKepts w base v gs) (hb:Below w.heap.size w w'):OwnKepts w' base v gs:=let ⟨css,h⟩:=h;⟨css,h.below hb⟩
theorem OwnKepts.is (h:OwnKepts w base v gs):IsRow 42 5 56 KeptEl w 0 v gs:=let ⟨_,h⟩:=h;h.is
end
structure OwnRep (w:World) (base:Nat) (lv hv wv gv nv:Value) (r:Scu.Replica):Prop where
 own:OwnRep0 w base lv hv wv nv r
 giv:OwnKepts w base gv r.gives
theorem OwnRep.is {w:World} {base:Nat} {lv hv wv gv nv:Value} {r:Scu.Replica} (h:OwnRep w base lv hv wv gv nv r):IsRep w 0 lv hv wv gv nv r :=
 ⟨h.own.log.is,h.own.have_.is,h.own.wants.is,h.giv.is,h.own.given.is⟩
theorem OwnRep.same {w w':World} {base:Nat} {lv hv wv gv nv:Value} {r:Scu.Replica} (h:OwnRep w base lv hv wv gv nv r) (hs:Same [9,3,4,42] 0 w w'):OwnRep w' base lv hv wv gv nv r :=
 ⟨h.own.same (hs.mono (by simp) (mC _)),let ⟨css,g⟩:=h.giv;⟨css,g.same (hs.mono (by simp) (mC _))⟩⟩
theorem OwnRep.below {w w':World} {base:Nat} {lv hv wv gv nv:Value} {r:Scu.Replica} (h:OwnRep w base lv hv wv gv nv r) (hb:Below w.heap.size w w'):OwnRep w' base lv hv wv gv nv r:=h.same (Same.below hb)
def ApL (lu:Value) (css:List (List Value)):Prop:=∀ cs ∈ css,∀ u ∈ cs,∀ x,lu.ownBlock=some x->u.ownBlock≠some x
def ApG (w:World) (base:Nat) (gv:Value) (gs:List Scu.Kept) (lu:Value):Prop:=∃ css,OwnKs w base gv gs css/\ApL lu css
theorem ApG.below {w w':World} {base:Nat} {gv lu:Value} {gs:List Scu.Kept} (h:ApG w base gv gs lu) (hb:Below w.heap.size w w'):ApG w' base gv gs lu:=let ⟨css,h,a⟩:=h;⟨css,h.below hb,a⟩
theorem ApG.same {w w':World} {base:Nat} {gv lu:Value} {gs:List Scu.Kept} (h:ApG w base gv gs lu) (hs:Same [9,42] 0 w w'):ApG w' base gv gs lu:=let ⟨css,h,a⟩:=h;⟨css,h.same hs,a⟩
theorem ApG.base_ {w:World} {base base':Nat} {gv lu:Value} {gs:List Scu.Kept} (h:ApG w base gv gs lu) (hb:base'<=base):ApG w base' gv gs lu:=let ⟨css,h,a⟩:=h;⟨css,h.base_ hb,a⟩
def RepRet (w:World) (base:Nat) (r:Scu.Replica) (e:Ending):Prop:=∃ lu hv wv gv nv,e=.returned (.agg #[.int .i64 r.me,.int .i64 r.kept.view,.int .i64 r.kept.normal,.bool r.kept.calm,lu,.int .i64 r.kept.commit,hv,wv,gv,nv])/\OwnRep w base lu hv wv gv nv r/\ApG w base gv r.gives lu
structure GivI (w:World) (cs:Array Value) (g:Nat) (r:Scu.Replica) (lu hv wv nv:Value) (k:Nat) (gv:Value) (css:List (List Value)) (wr:World):Prop where
 res:Blk wr (w.heap.size+1) 47 #[.int .i64 0,.int .i64 0,.int .i64 0,.bool false,.slice none 0 0,.int .i64 0,.slice none 0 0,.slice none 0 0,.slice none 0 0,.slice none 0 0]
 arg:Blk wr w.heap.size 47 cs
 out:Blk wr g 47 #[.int .i64 r.me,.int .i64 r.kept.view,.int .i64 r.kept.normal,.bool r.kept.calm,lu,.int .i64 r.kept.commit,hv,wv,gv,nv]
 own:OwnRep0 wr w.heap.size lu hv wv nv r
 giv:OwnKs wr w.heap.size gv (r.gives.take k) css
 lo:w.heap.size+1 < g
 low:Below w.heap.size w wr
 apt:ApL lu css
theorem GivI.below {w:World} {cs:Array Value} {g k:Nat} {r:Scu.Replica} {lu hv wv nv gv:Value} {css:List (List Value)} {wr w':World} (h:GivI w cs g r lu hv wv nv k gv css wr) (hb:Below wr.heap.size wr w'):GivI w cs g r lu hv wv nv k gv css w' :=
 ⟨h.res.same hb,h.arg.same hb,h.out.same hb,h.own.below hb,h.giv.below hb,h.lo,h.low.trans (hb.mono h.low.size),h.apt⟩
theorem zRn {α:Type} {l:List α} {k:Nat} (hk:k < l.length):l.take (k+1)=l.take k ++ [l[k]]:=by
 rw [List.take_add_one,mH hk];rfl
theorem zEo {w w':World} {base g n m:Nat} {t e:TypeId} {cs:Array Value} {lv:Value} {xs:List Value} (hb:Blk w g t cs) (Ha:w.ownsRow base e m lv n xs) (Hb:t≠e) (hg:w.grownBy w' lv.ownBlock):Blk w' g t cs :=
 (hg.block g hb.lt fun e'=>by
  obtain ⟨C',fz',hh⟩:=zDb Ha e'.symm;unfold Blk at hb;rw [hh] at hb;cases hb
  exact Hb rfl).trans hb
theorem zOw {w:World} {cs:Array Value} {g k:Nat} {r:Scu.Replica} {lu hv wv nv gv v4 lx:Value} {css:List (List Value)} {P w4:World} {b:Nat} (h:GivI w cs g r lu hv wv nv k gv css P) (hk:k < r.gives.length) (hm:r.gives.length*56<=R47)
 (hx:OwnStrs P b lx r.gives[k].log) (Hg:∀ x,lu.ownBlock=some x->x < b) (h4:w4.ownsRow w.heap.size 42 5 v4 (k+1) (css.flatten ++ keptV r.gives[k] lx)) (hg:P.grownBy w4 gv.ownBlock) :
 GivI w cs g r lu hv wv nv (k+1) v4 (css ++ [keptV r.gives[k] lx]) (w4.setCell ⟨g,8,none⟩ v4):=by
 have Ha:=h.giv.row;have e1:(r.gives.take k).length=k:=by rw [List.length_take];omega
 have Hd:Same [9,3,4] 0 P w4:=Same.own Ha hg (mE _) (by decide);have Hb:=zEo h.out Ha (by decide) hg;have He:Same [9,3,4,42] 0 w4 (w4.setCell ⟨g,8,none⟩ v4):=Same.set_ Hb (mE _) (by decide) 8 v4;have Hf:Same [9] 0 P (w4.setCell ⟨g,8,none⟩ v4):=(Hd.mono (by simp) (mC _)).trans (He.mono (by simp) (mC _));have Hi:=h.lo;refine ⟨(zEo h.res Ha (by decide) hg).far (by simp;omega) v4,(zEo h.arg Ha (by decide) hg).far (by simp;omega) v4,?_,?_,?_,h.lo,?_,?_⟩
 ·have h8:Blk (w4.setCell ⟨g,8,none⟩ v4) g 47 #[.int .i64 r.me,.int .i64 r.kept.view,.int .i64 r.kept.normal,.bool r.kept.calm,lu,.int .i64 r.kept.commit,hv,wv,v4,nv]:=Hb.set_ 8 v4;exact h8
 ·exact (h.own.same Hd).same (He.mono (by simp) (mC _))
 ·rw [zRn hk];refine ⟨by simp only [List.length_append,h.giv.len,List.length_cons,List.length_nil],?_,?_,?_,?_⟩
  ·intro c hc;rcases List.mem_append.1 hc with h' | h'
   ·exact h.giv.five c h'
   rw [List.mem_singleton] at h';subst h';rfl
  ·rw [List.length_append,e1,List.flatten_append];have h5:w4.ownsRow w.heap.size 42 5 v4 (k+[r.gives[k]].length) (css.flatten ++ [keptV r.gives[k] lx].flatten):=by simpa using h4
   exact zFm h5 Hb (by decide) v4
  ·intro j c x hc Hc;rcases Nat.lt_or_ge j k with hj | hj
   ·rw [List.getElem?_append_left (by rw [h.giv.len,e1];exact hj)] at hc;rw [List.getElem?_append_left (by rw [e1];exact hj)] at Hc;exact (h.giv.each j c x hc Hc).same (B:=0) (Ts:=[9]) (by simp) Hf
   rw [List.getElem?_append_right (by rw [h.giv.len,e1];exact hj),h.giv.len,e1] at hc;rw [List.getElem?_append_right (by rw [e1];exact hj),e1] at Hc;have Hh:j - k=0:=by
    rcases Nat.eq_zero_or_pos (j - k) with h' | h'
    ·exact h'
    rw [List.getElem?_eq_none (by simp;omega)] at hc;cases hc
   rw [Hh] at hc Hc;simp only [List.getElem?_cons_zero,Option.some.injEq] at hc Hc
   subst hc;subst Hc;exact ⟨lx,rfl,(hx.same Hf).is⟩
  rw [List.length_append,e1];simp only [List.length_cons,List.length_nil]
  omega
 ·exact (h.low.grown hg h.low.size (fun q hq=>(Ha.lt q hq).1)).setCell (by show w.heap.size<=g;omega) v4
 intro c hc u hu x hl e;rcases List.mem_append.1 hc with h' | h'
 ·exact h.apt c h' u hu x hl e
 rw [List.mem_singleton] at h';subst h';simp only [keptV,List.mem_cons,List.not_mem_nil,or_false] at hu
 rcases hu with rfl | rfl | rfl | rfl | rfl
 ·cases e
 ·cases e
 ·cases e
 ·have:=(hx.1.lt x e).1;have:=Hg x hl;omega
 cases e
open Go.RowKit
theorem zTl {w:World} {base size n g c:Nat} {e:TypeId} {xs:List Value} (h:w.ownsRow base e size (.slice (some ⟨g,0,none⟩) n c) n xs) (j:Nat) (u:Value) :
 (w.setCell ⟨g,j,none⟩ u).ownsRow base e size (.slice (some ⟨g,0,none⟩) n c) n (xs.set j u):=by
 obtain ⟨hl,⟨h0,_⟩ | ⟨g',cap,cur,e1,hb,hh,Ha,hm,Hb,ht⟩⟩:=h
 ·cases h0
 cases e1
 have hB:Blk w g e cur:=hh;refine ⟨by simp [hl],.inr ⟨g,c,cur.setIfInBounds j u,rfl,hb,hB.set_ j u,Ha,hm,by simpa using Hb,?_⟩⟩;rw [Array.toList_setIfInBounds,List.take_set,ht]
theorem zHa {w w':World} {Ts:List TypeId} {B base:Nat} {e:TypeId} {size n:Nat} {v:Value} {xs:List Value} (h:w.ownsRow base e size v n xs) (ht:e ∈ Ts) (hs:Same Ts B w w'):w'.ownsRow base e size v n xs:=by
 obtain ⟨h1,h2 | ⟨g,cap,cur,rfl,h3,h4,h5⟩⟩:=h
 ·exact ⟨h1,.inl h2⟩
 have Ha:g < w.heap.size:=by
  rcases Nat.lt_or_ge g w.heap.size with Ha | Hb
  ·exact Ha
  rw [Array.getElem?_eq_none Hb] at h4;cases h4
 have:=hs.keep g Ha (.inr ⟨_,_,_,ht,h4⟩);exact ⟨h1,.inr ⟨g,cap,cur,rfl,h3,by rw [this];exact h4,h5⟩⟩
def putAt:List Value->Nat->List Value->List Value
 | l,_,[]=>l
 | l,o,v :: r=>putAt (l.set o v) (o+1) r
theorem zIc:∀ (vs:List Value) (l:List Value) (o:Nat),(putAt l o vs).length=l.length
 | [],_,_=>rfl
 | v :: r,l,o=>by rw [putAt,zIc r,List.length_set]
theorem zHt (a:Value):∀ (vs:List Value) (l:List Value) (o:Nat),putAt (a :: l) (o+1) vs=a :: putAt l o vs
 | [],_,_=>rfl
 | v :: r,l,o=>by rw [putAt,putAt,List.set_cons_succ,zHt a r]
theorem zDk:∀ (pre:List Value) (vs:List Value) (l:List Value) (o:Nat),putAt (pre ++ l) (pre.length+o) vs=pre ++ putAt l o vs
 | [],vs,l,o=>by simp
 | a :: pre,vs,l,o=>by
   rw [List.cons_append,List.length_cons,show pre.length+1+o=pre.length+o+1 by omega,zHt,zDk pre];rfl
theorem zDq:∀ (vs cs l:List Value),cs.length=vs.length->putAt (cs ++ l) 0 vs=vs ++ l
 | [],cs,l,h=>by simp at h;subst h;rfl
 | v :: r,[],l,h=>by simp at h
 | v :: r,c :: cs,l,h=>by
   rw [putAt,List.cons_append,List.set_cons_zero,zHt,zDq r cs l (by simpa using h)];rfl
theorem zHb {m:Nat} : ∀ {css:List (List Value)} (_:∀ cs ∈ css,cs.length=m) (k:Nat) (_:k < css.length) (vs:List Value) (_:vs.length=m),putAt css.flatten (k*m) vs=(css.set k vs).flatten
 | [],_,k,hk,_,_=>by cases hk
 | c :: css,h,0,_,vs,hv=>by
   rw [Nat.zero_mul,List.flatten_cons,zDq vs c _ (by rw [h c List.mem_cons_self,hv]),List.set_cons_zero,List.flatten_cons]
 | c :: css,h,k+1,hk,vs,hv=>by
   have hc:=h c List.mem_cons_self;rw [List.flatten_cons,show (k+1)*m=c.length+k*m by rw [hc,Nat.succ_mul];omega,zDk,List.set_cons_succ,List.flatten_cons,
    zHb (fun x hx=>h x (List.mem_cons_of_mem _ hx)) k (by simpa using hk) vs hv]
section
variable {w w':World} {base size n g c:Nat} {e t:TypeId} {xs:List Value} {cur:Array Value} {Ts:List TypeId}
theorem zHc:∀ (vs:List Value) (o:Nat) (xs:List Value) (w:World),w.ownsRow base e size (.slice (some ⟨g,0,none⟩) n c) n xs->(w.setCells g o vs).ownsRow base e size (.slice (some ⟨g,0,none⟩) n c) n (putAt xs o vs)
 | [],_,_,_,h=>h
 | v :: r,o,xs,w,h=>zHc r (o+1) _ _ (zTl h o v)
theorem zOx:∀ (vs:List Value) (o:Nat) (w:World) (cur:Array Value),Blk w g t cur->∃ cur',Blk (w.setCells g o vs) g t cur'
 | [],_,_,cur,h=>⟨cur,h⟩
 | v :: r,o,w,cur,h=>zOx r (o+1) _ _ (h.set_ o v)
theorem zOy:∀ (vs:List Value) (o:Nat) (w:World) (xs:List Value),Blk w g t xs.toArray->Blk (w.setCells g o vs) g t (putAt xs o vs).toArray
 | [],_,_,_,h=>h
 | v :: r,o,w,xs,h=>by
   have:=h.set_ o v;rw [List.setIfInBounds_toArray] at this;exact zOy r (o+1) _ _ this
theorem zHu {vs xs:List Value} (h:Blk w g t xs.toArray) (hl:xs.length=vs.length):Blk (w.setCells g 0 vs) g t vs.toArray:=by
 have:=zOy vs 0 w xs h;have e:putAt xs 0 vs=vs:=by
  have:=zDq vs xs [] hl;simpa using this
 rwa [e] at this
theorem Same.sets:∀ (vs:List Value) (o:Nat) (w:World) (cur:Array Value),Blk w g t cur->t ∉ Ts->Same Ts 0 w (w.setCells g o vs)
 | [],_,w,_,_,_=>Same.refl _ _ _
 | v :: r,o,w,cur,h,ht=>(Same.set_ h (mE _) ht o v).trans (Same.sets r (o+1) _ _ (h.set_ o v) ht)
theorem zAr {B:Nat} (hB:B<=g):∀ (vs:List Value) (o:Nat) (w0 w:World),Below B w0 w->Below B w0 (w.setCells g o vs)
 | [],_,_,_,h=>h
 | v :: r,o,w0,w,h=>zAr hB r (o+1) w0 _ (h.setCell (p:=⟨g,o,none⟩) hB v)
theorem zDf {g':Nat} {t':TypeId} {cs:Array Value} (Ha:g'≠g):∀ (vs:List Value) (o:Nat) (w:World),Blk w g' t' cs->Blk (w.setCells g o vs) g' t' cs
 | [],_,_,h=>h
 | v :: r,o,w,h=>zDf Ha r (o+1) _ (h.far (p:=⟨g,o,none⟩) Ha v)
theorem Blk.range {xs:List Value} (h:Blk w g t xs.toArray):w.rangeAt g 0 xs:=fun j v hj=>by
 rw [Nat.zero_add,h.cell];simpa using hj
theorem Blk.there {xs:List Value} (h:Blk w g t xs.toArray):w.there g 0 xs.length:=fun j hj=>by
 rw [Nat.zero_add];exact ⟨by rw [h.cell];simp [hj],h.frozen j⟩
end
structure OwnR {α:Type} (t:TypeId) (size bytes:Nat) (El:World->Nat->List Value->α->Prop) (w:World) (base:Nat) (v:Value) (xs:List α) (css:List (List Value)):Prop where
 len:css.length=xs.length
 sz:∀ cs ∈ css,cs.length=size
 row:w.ownsRow base t size v xs.length css.flatten
 each:∀ (j:Nat) (cs:List Value) (x:α),css[j]? = some cs->xs[j]? = some x->El w 0 cs x
 max:xs.length*bytes<=R47
section
variable {α:Type} {t:TypeId} {size bytes:Nat} {El:World->Nat->List Value->α->Prop} {w w':World} {base base':Nat} {v:Value} {xs:List α} {css:List (List Value)} {Ts:List TypeId}
theorem OwnR.is (h:OwnR t size bytes El w base v xs css):IsRow t size bytes El w 0 v xs:=by
 obtain ⟨A,c,rfl,hc,_,hr,_⟩:=zAi h.row;exact ⟨⟨A,c,css,rfl,hc,h.len,h.sz,hr,h.each⟩,h.max⟩
theorem OwnR.same {B:Nat} (h:OwnR t size bytes El w base v xs css) (ht:t ∈ Ts) (hs:Same Ts B w w') (Ha:∀ cs x,El w 0 cs x->El w' 0 cs x):OwnR t size bytes El w' base v xs css :=
 ⟨h.len,h.sz,zHa h.row ht hs,fun j cs x a b=>Ha cs x (h.each j cs x a b),h.max⟩
theorem OwnR.base_ (h:OwnR t size bytes El w base v xs css) (hb:base'<=base):OwnR t size bytes El w base' v xs css:=⟨h.len,h.sz,zAl h.row hb,h.each,h.max⟩
theorem OwnR.nil_:OwnR t size bytes El w base (.slice none 0 0) [] []:=⟨rfl,by simp,World.ownsRow_nil _ _ _ _,fun j cs m h=>by simp at h,by simp [R47]⟩
theorem OwnR.form (h:OwnR t size bytes El w base v xs css):∃ A c,v=.slice A xs.length c:=by
 obtain ⟨A,c,e,_⟩:=zAi h.row;exact ⟨A,c,e⟩
theorem OwnR.lt (h:OwnR t size bytes El w base v xs css):∀ g,v.ownBlock=some g->base<=g/\g < w.heap.size:=h.row.lt
theorem OwnR.at_ (h:OwnR t size bytes El w base v xs css) {k:Nat} (hk:k < xs.length):∃ g c cs,v=.slice (some ⟨g,0,none⟩) xs.length c/\base<=g/\(∃ cur,Blk w g t cur)/\css[k]? = some cs/\cs.length=size/\El w 0 cs xs[k]/\w.rangeAt g (k*size) cs/\w.there g (k*size) size:=by
 have Hc:k < css.length:=by rw [h.len];exact hk
 have Hb:=mH Hc;have Hd:=h.sz _ (List.getElem_mem Hc);have He:=h.each k _ _ Hb (mH hk);obtain ⟨hl,⟨h0,hn⟩ | ⟨g,cap,cur,e,hb,hh,Hh,hm,Hi,ht⟩⟩:=h.row
 ·omega
 have hB:Blk w g t cur:=hh;have Ha:∀ j,j < size->w.cell? ⟨g,k*size+j,none⟩=css[k][j]?:=fun j hj=>by
  have Hf:k*size+j < xs.length*size:=by
   calc k*size+j < k*size+size:=by omega
    _=(k+1)*size:=by rw [Nat.succ_mul]
    _<=xs.length*size:=Nat.mul_le_mul_right _ hk
  have:=zEx h.sz Hb j hj;rw [<- ht,List.getElem?_take_of_lt Hf] at this;rw [hB.cell,<- this];simp
 refine ⟨g,cap,css[k],e,hb,⟨cur,hB⟩,Hb,Hd,He,fun j u hj=>?_,fun j hj=>⟨?_,hB.frozen _⟩⟩
 ·have Hg:j < size:=by
   rcases Nat.lt_or_ge j size with h' | h'
   ·exact h'
   rw [List.getElem?_eq_none (by omega)] at hj;cases hj
  rw [Ha j Hg,hj]
 rw [Ha j hj,mH (by omega)];rfl
theorem OwnR.put {g c n:Nat} (h:OwnR t size bytes El w base (.slice (some ⟨g,0,none⟩) n c) xs css) {k:Nat} (hk:k < xs.length) {cs:List Value} {x:α} (Ha:cs.length=size) (hx:El w 0 cs x)
 {cs':List Value} (Hb:∀ cs x,El w 0 cs x->El (w.setCells g (k*size) cs') 0 cs x) (e:cs'=cs):OwnR t size bytes El (w.setCells g (k*size) cs') base (.slice (some ⟨g,0,none⟩) n c) (xs.set k x) (css.set k cs):=by
 subst e;have hn:n=xs.length:=by
  obtain ⟨A,c',e,_⟩:=zAi h.row;cases e
  rfl
 subst hn;have Hc:k < css.length:=by rw [h.len];exact hk
 refine ⟨by simp [h.len],?_,?_,?_,by simpa using h.max⟩
 ·intro c' Hd;rcases List.mem_or_eq_of_mem_set Hd with h' | rfl
  ·exact h.sz c' h'
  exact Ha
 ·rw [List.length_set,<- zHb h.sz k Hc cs' Ha];exact zHc cs' (k*size) _ _ h.row
 intro j c' y h1 h2;by_cases hj:j=k
 ·subst hj;rw [List.getElem?_set_self Hc] at h1;rw [List.getElem?_set_self hk] at h2;cases h1
  cases h2
  exact Hb _ _ hx
 rw [List.getElem?_set_ne (fun e=>hj e.symm)] at h1 h2;exact Hb _ _ (h.each j c' y h1 h2)
theorem OwnR.push {v4:Value} {cs:List Value} {x:α} (h:OwnR t size bytes El w base v xs css) (hm:(xs.length+1)*bytes<=R47) (Ha:cs.length=size) (hx:El w' 0 cs x)
 (h4:w'.ownsRow base t size v4 (xs.length+1) (css.flatten ++ cs)) (Hb:∀ cs x,El w 0 cs x->El w' 0 cs x):OwnR t size bytes El w' base v4 (xs ++ [x]) (css ++ [cs]):=by
 refine ⟨by simp only [List.length_append,h.len,List.length_cons,List.length_nil],?_,?_,?_,by simpa using hm⟩
 ·intro c hc;rcases List.mem_append.1 hc with h' | h'
  ·exact h.sz c h'
  rw [List.mem_singleton] at h';subst h';exact Ha
 ·rw [List.length_append,List.flatten_append];simpa using h4
 intro j c y hc hy;rcases Nat.lt_or_ge j xs.length with hj | hj
 ·rw [List.getElem?_append_left (by rw [h.len];exact hj)] at hc;rw [List.getElem?_append_left hj] at hy;exact Hb _ _ (h.each j c y hc hy)
 rw [List.getElem?_append_right (by rw [h.len];exact hj),h.len] at hc;rw [List.getElem?_append_right hj] at hy;have Hc:j - xs.length=0:=by
  rcases Nat.eq_zero_or_pos (j - xs.length) with h' | h'
  ·exact h'
  rw [List.getElem?_eq_none (by simp;omega)] at hc;cases hc
 rw [Hc] at hc hy;simp only [List.getElem?_cons_zero,Option.some.injEq] at hc hy
 subst hc;subst hy;exact hx
end
end Go.Proofs.YtlngfbngnnepiaaGreat

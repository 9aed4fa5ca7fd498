/- Part 10: words and walks under the laws of the whole. -/
import Derived.Deep.MidRow
import Derived.Test.YtjnjhmkgfjikfaaDoorLv6
set_option linter.unusedVariables false
set_option linter.unusedSimpArgs false
set_option maxHeartbeats 4000000
set_option maxRecDepth 100000
namespace Go.Proofs.YtjnjhmkgfjikfaaDoor
open Go.RowKit
theorem zJx {w:World} {base size n g c:Nat} {e:TypeId} {xs:List Value} (h:w.ownsRow base e size (.slice (some ⟨g,0,none⟩) n c) n xs) (j:Nat) (u:Value) :
 (w.setCell ⟨g,j,none⟩ u).ownsRow base e size (.slice (some ⟨g,0,none⟩) n c) n (xs.set j u):=by
 obtain ⟨hl,⟨h0,_⟩ | ⟨g',cap,cur,e1,hb,hh,Ha,hm,Hb,ht⟩⟩:=h
 ·cases h0
 cases e1
 have hB:Blk w g e cur:=hh
 refine ⟨by simp [hl],.inr ⟨g,c,cur.setIfInBounds j u,rfl,hb,hB.set_ j u,Ha,hm,by simpa using Hb,?_⟩⟩
 rw [Array.toList_setIfInBounds,List.take_set,ht]
theorem zJy {w w':World} {Ts:List TypeId} {B base:Nat} {e:TypeId} {size n:Nat} {v:Value} {xs:List Value} (h:w.ownsRow base e size v n xs) (ht:e ∈ Ts) (hs:Same Ts B w w'):w'.ownsRow base e size v n xs:=by
 obtain ⟨h1,h2 | ⟨g,cap,cur,rfl,h3,h4,h5⟩⟩:=h
 ·exact ⟨h1,.inl h2⟩
 have Ha:g < w.heap.size:=by
  rcases Nat.lt_or_ge g w.heap.size with Ha | Hb
  ·exact Ha
  rw [Array.getElem?_eq_none Hb] at h4;cases h4
 have:=hs.keep g Ha (.inr ⟨_,_,_,ht,h4⟩)
 exact ⟨h1,.inr ⟨g,cap,cur,rfl,h3,by rw [this];exact h4,h5⟩⟩
def putAt:List Value->Nat->List Value->List Value
 | l,_,[]=>l
 | l,o,v :: r=>putAt (l.set o v) (o+1) r
theorem zDd (a:Value):∀ (vs:List Value) (l:List Value) (o:Nat),putAt (a :: l) (o+1) vs=a :: putAt l o vs
 | [],_,_=>rfl
 | v :: r,l,o=>by rw [putAt,putAt,List.set_cons_succ,zDd a r]
theorem zEn:∀ (pre:List Value) (vs:List Value) (l:List Value) (o:Nat),putAt (pre ++ l) (pre.length+o) vs=pre ++ putAt l o vs
 | [],vs,l,o=>by simp
 | a :: pre,vs,l,o=>by
   rw [List.cons_append,List.length_cons,show pre.length+1+o=pre.length+o+1 by omega,zDd,zEn pre]
   rfl
theorem zCq:∀ (vs cs l:List Value),cs.length=vs.length->putAt (cs ++ l) 0 vs=vs ++ l
 | [],cs,l,h=>by simp at h;subst h;rfl
 | v :: r,[],l,h=>by simp at h
 | v :: r,c :: cs,l,h=>by
   rw [putAt,List.cons_append,List.set_cons_zero,zDd,zCq r cs l (by simpa using h)]
   rfl
theorem zCw {m:Nat} : ∀ {css:List (List Value)} (_:∀ cs ∈ css,cs.length=m) (k:Nat) (_:k < css.length) (vs:List Value) (_:vs.length=m),putAt css.flatten (k*m) vs=(css.set k vs).flatten
 | [],_,k,hk,_,_=>by cases hk
 | c :: css,h,0,_,vs,hv=>by
   rw [Nat.zero_mul,List.flatten_cons,zCq vs c _ (by rw [h c List.mem_cons_self,hv]),List.set_cons_zero,List.flatten_cons]
 | c :: css,h,k+1,hk,vs,hv=>by
   have hc:=h c List.mem_cons_self
   rw [List.flatten_cons,show (k+1)*m=c.length+k*m by rw [hc,Nat.succ_mul];omega,zEn,List.set_cons_succ,List.flatten_cons,
    zCw (fun x hx=>h x (List.mem_cons_of_mem _ hx)) k (by simpa using hk) vs hv]
section
variable {w w':World} {base size n g c:Nat} {e t:TypeId} {xs:List Value} {cur:Array Value} {Ts:List TypeId}
theorem zGt:∀ (vs:List Value) (o:Nat) (xs:List Value) (w:World),w.ownsRow base e size (.slice (some ⟨g,0,none⟩) n c) n xs->(w.setCells g o vs).ownsRow base e size (.slice (some ⟨g,0,none⟩) n c) n (putAt xs o vs)
 | [],_,_,_,h=>h
 | v :: r,o,xs,w,h=>zGt r (o+1) _ _ (zJx h o v)
theorem zGu:∀ (vs:List Value) (o:Nat) (w:World) (xs:List Value),Blk w g t xs.toArray->Blk (w.setCells g o vs) g t (putAt xs o vs).toArray
 | [],_,_,_,h=>h
 | v :: r,o,w,xs,h=>by
   have:=h.set_ o v
   rw [List.setIfInBounds_toArray] at this
   exact zGu r (o+1) _ _ this
theorem zGf {vs xs:List Value} (h:Blk w g t xs.toArray) (hl:xs.length=vs.length):Blk (w.setCells g 0 vs) g t vs.toArray:=by
 have:=zGu vs 0 w xs h
 have e:putAt xs 0 vs=vs:=by
  have:=zCq vs xs [] hl
  simpa using this
 rwa [e] at this
theorem Same.sets:∀ (vs:List Value) (o:Nat) (w:World) (cur:Array Value),Blk w g t cur->t ∉ Ts->Same Ts 0 w (w.setCells g o vs)
 | [],_,w,_,_,_=>Same.refl _ _ _
 | v :: r,o,w,cur,h,ht=>(Same.set_ h (mE _) ht o v).trans (Same.sets r (o+1) _ _ (h.set_ o v) ht)
theorem zAl {B:Nat} (hB:B<=g):∀ (vs:List Value) (o:Nat) (w0 w:World),Below B w0 w->Below B w0 (w.setCells g o vs)
 | [],_,_,_,h=>h
 | v :: r,o,w0,w,h=>zAl hB r (o+1) w0 _ (h.setCell (p:=⟨g,o,none⟩) hB v)
theorem zCd {g':Nat} {t':TypeId} {cs:Array Value} (Ha:g'≠g):∀ (vs:List Value) (o:Nat) (w:World),Blk w g' t' cs->Blk (w.setCells g o vs) g' t' cs
 | [],_,_,h=>h
 | v :: r,o,w,h=>zCd Ha r (o+1) _ (h.far (p:=⟨g,o,none⟩) Ha v)
theorem Blk.range {xs:List Value} (h:Blk w g t xs.toArray):w.rangeAt g 0 xs:=fun j v hj=>by
 rw [Nat.zero_add,h.cell]
 simpa using hj
theorem Blk.there {xs:List Value} (h:Blk w g t xs.toArray):w.there g 0 xs.length:=fun j hj=>by
 rw [Nat.zero_add]
 exact ⟨by rw [h.cell];simp [hj],h.frozen j⟩
end
structure OwnR {α:Type} (t:TypeId) (size bytes:Nat) (El:World->Nat->List Value->α->Prop) (w:World) (base:Nat) (v:Value) (xs:List α) (css:List (List Value)):Prop where
 len:css.length=xs.length
 sz:∀ cs ∈ css,cs.length=size
 row:w.ownsRow base t size v xs.length css.flatten
 each:∀ (j:Nat) (cs:List Value) (x:α),css[j]? = some cs->xs[j]? = some x->El w 0 cs x
 max:xs.length*bytes<=R47
section
variable {α:Type} {t:TypeId} {size bytes:Nat} {El:World->Nat->List Value->α->Prop} {w w':World} {base base':Nat} {v:Value} {xs:List α} {css:List (List Value)} {Ts:List TypeId}
theorem OwnR.is (h:OwnR t size bytes El w base v xs css):IsRow t size bytes El w 0 v xs:=by
 obtain ⟨A,c,rfl,hc,_,hr,_⟩:=zAk h.row
 exact ⟨⟨A,c,css,rfl,hc,h.len,h.sz,hr,h.each⟩,h.max⟩
theorem OwnR.same {B:Nat} (h:OwnR t size bytes El w base v xs css) (ht:t ∈ Ts) (hs:Same Ts B w w') (Ha:∀ cs x,El w 0 cs x->El w' 0 cs x):OwnR t size bytes El w' base v xs css :=
 ⟨h.len,h.sz,zJy h.row ht hs,fun j cs x a b=>Ha cs x (h.each j cs x a b),h.max⟩
theorem OwnR.base_ (h:OwnR t size bytes El w base v xs css) (hb:base'<=base):OwnR t size bytes El w base' v xs css:=⟨h.len,h.sz,zAh h.row hb,h.each,h.max⟩
theorem OwnR.nil_:OwnR t size bytes El w base (.slice none 0 0) [] []:=⟨rfl,by simp,World.ownsRow_nil _ _ _ _,fun j cs m h=>by simp at h,by simp [R47]⟩
theorem OwnR.form (h:OwnR t size bytes El w base v xs css):∃ A c,v=.slice A xs.length c:=by
 obtain ⟨A,c,e,_⟩:=zAk h.row
 exact ⟨A,c,e⟩
theorem OwnR.lt (h:OwnR t size bytes El w base v xs css):∀ g,v.ownBlock=some g->base<=g/\g < w.heap.size:=h.row.lt
theorem OwnR.at_ (h:OwnR t size bytes El w base v xs css) {k:Nat} (hk:k < xs.length):∃ g c cs,v=.slice (some ⟨g,0,none⟩) xs.length c/\base<=g/\(∃ cur,Blk w g t cur)/\css[k]? = some cs/\cs.length=size/\El w 0 cs xs[k]/\w.rangeAt g (k*size) cs/\w.there g (k*size) size:=by
 have Hc:k < css.length:=by rw [h.len];exact hk
 have Hb:=mH Hc
 have Hd:=h.sz _ (List.getElem_mem Hc)
 have He:=h.each k _ _ Hb (mH hk)
 obtain ⟨hl,⟨h0,hn⟩ | ⟨g,cap,cur,e,hb,hh,Hh,hm,Hi,ht⟩⟩:=h.row
 ·omega
 have hB:Blk w g t cur:=hh
 have Ha:∀ j,j < size->w.cell? ⟨g,k*size+j,none⟩=css[k][j]?:=fun j hj=>by
  have Hf:k*size+j < xs.length*size:=by
   calc k*size+j < k*size+size:=by omega
    _=(k+1)*size:=by rw [Nat.succ_mul]
    _<=xs.length*size:=Nat.mul_le_mul_right _ hk
  have:=zBj h.sz Hb j hj
  rw [<- ht,List.getElem?_take_of_lt Hf] at this
  rw [hB.cell,<- this]
  simp
 refine ⟨g,cap,css[k],e,hb,⟨cur,hB⟩,Hb,Hd,He,fun j u hj=>?_,fun j hj=>⟨?_,hB.frozen _⟩⟩
 ·have Hg:j < size:=by
   rcases Nat.lt_or_ge j size with h' | h'
   ·exact h'
   rw [List.getElem?_eq_none (by omega)] at hj;cases hj
  rw [Ha j Hg,hj]
 rw [Ha j hj,mH (by omega)]
 rfl
theorem OwnR.put {g c n:Nat} (h:OwnR t size bytes El w base (.slice (some ⟨g,0,none⟩) n c) xs css) {k:Nat} (hk:k < xs.length) {cs:List Value} {x:α} (Ha:cs.length=size) (hx:El w 0 cs x)
 {cs':List Value} (Hb:∀ cs x,El w 0 cs x->El (w.setCells g (k*size) cs') 0 cs x) (e:cs'=cs):OwnR t size bytes El (w.setCells g (k*size) cs') base (.slice (some ⟨g,0,none⟩) n c) (xs.set k x) (css.set k cs):=by
 subst e
 have hn:n=xs.length:=by
  obtain ⟨A,c',e,_⟩:=zAk h.row
  cases e
  rfl
 subst hn
 have Hc:k < css.length:=by rw [h.len];exact hk
 refine ⟨by simp [h.len],?_,?_,?_,by simpa using h.max⟩
 ·intro c' Hd
  rcases List.mem_or_eq_of_mem_set Hd with h' | rfl
  ·exact h.sz c' h'
  exact Ha
 ·rw [List.length_set,<- zCw h.sz k Hc cs' Ha]
  exact zGt cs' (k*size) _ _ h.row
 intro j c' y h1 h2
 by_cases hj:j=k
 ·subst hj
  rw [List.getElem?_set_self Hc] at h1
  rw [List.getElem?_set_self hk] at h2
  cases h1
  cases h2
  exact Hb _ _ hx
 rw [List.getElem?_set_ne (fun e=>hj e.symm)] at h1 h2
 exact Hb _ _ (h.each j c' y h1 h2)
theorem OwnR.push {v4:Value} {cs:List Value} {x:α} (h:OwnR t size bytes El w base v xs css) (hm:(xs.length+1)*bytes<=R47) (Ha:cs.length=size) (hx:El w' 0 cs x)
 (h4:w'.ownsRow base t size v4 (xs.length+1) (css.flatten ++ cs)) (Hb:∀ cs x,El w 0 cs x->El w' 0 cs x):OwnR t size bytes El w' base v4 (xs ++ [x]) (css ++ [cs]):=by
 refine ⟨by simp only [List.length_append,h.len,List.length_cons,List.length_nil],?_,?_,?_,by simpa using hm⟩
 ·intro c hc
  rcases List.mem_append.1 hc with h' | h'
  ·exact h.sz c h'
  rw [List.mem_singleton] at h'
  subst h'
  exact Ha
 ·rw [List.length_append,List.flatten_append]
  simpa using h4
 intro j c y hc hy
 rcases Nat.lt_or_ge j xs.length with hj | hj
 ·rw [List.getElem?_append_left (by rw [h.len];exact hj)] at hc
  rw [List.getElem?_append_left hj] at hy
  exact Hb _ _ (h.each j c y hc hy)
 rw [List.getElem?_append_right (by rw [h.len];exact hj),h.len] at hc
 rw [List.getElem?_append_right hj] at hy
 have Hc:j - xs.length=0:=by
  rcases Nat.eq_zero_or_pos (j - xs.length) with h' | h'
  ·exact h'
  rw [List.getElem?_eq_none (by simp;omega)] at hc
  cases hc
 rw [Hc] at hc hy
 simp only [List.getElem?_cons_zero,Option.some.injEq] at hc hy
 subst hc
 subst hy
 exact hx
end
end Go.Proofs.YtjnjhmkgfjikfaaDoor

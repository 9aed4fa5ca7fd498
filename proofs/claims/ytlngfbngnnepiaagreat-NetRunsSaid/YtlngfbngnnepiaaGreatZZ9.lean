/- Part 9: words and walks under the laws of the whole. -/
import Derived.Test.YtlngfbngnnepiaaGreatZZ7
set_option linter.unusedVariables false
set_option linter.unusedSimpArgs false
set_option maxHeartbeats 4000000
set_option maxRecDepth 100000
namespace Go.Proofs.YtlngfbngnnepiaaGreat
open Go.RowKit
theorem zLd {w:World} {base g n:Nat} {e:TypeId} {xs:List Value} (h:Blk w g e xs.toArray) (hb:base<=g) (hn:xs.length=n) (hm:n<=maxLen):w.ownsRow base e 1 (.slice (some ⟨g,0,none⟩) n n) n xs :=
 ⟨by simpa using hn,.inr ⟨g,n,xs.toArray,rfl,hb,h,mC _,hm,by simp [hn],by rw [Nat.mul_one,<- hn];simp⟩⟩
theorem zRl {w:World} {g n:Nat} {e:TypeId} {xs:List Value} (h:Blk w g e xs.toArray) (hn:xs.length=n):Src1 w 1 (.slice (some ⟨g,0,none⟩) n n) n xs :=
 ⟨by simpa using hn,.inr ⟨_,_,rfl,fun j u hj=>by
  have:(⟨g,0,none⟩:Addr).add j=⟨g,j,none⟩:=by unfold Addr.add;split <;> simp_all
  rw [this,h.cell];simpa using hj⟩⟩
theorem zCj {w:World} {base n:Nat} {e:TypeId} {v:Value} {xs:List Value} (h:w.ownsRow base e 1 v n xs) (hn:0 < n) :
 ∃ g c cur,v=.slice (some ⟨g,0,none⟩) n c/\base<=g/\Blk w g e cur/\∀ j,j < n->w.cell? ⟨g,j,none⟩=xs[j]?:=by
 obtain ⟨hl,⟨rfl,rfl⟩ | ⟨g,cap,cur,rfl,hb,hh,Ha,_,Hb,ht⟩⟩:=h
 ·omega
 refine ⟨g,cap,cur,rfl,hb,hh,fun j hj=>?_⟩;have hB:Blk w g e cur:=hh;rw [hB.cell,<- ht,List.getElem?_take_of_lt (by omega)];simp
theorem zRm {w:World} {base n g c:Nat} {e:TypeId} {xs:List Value} (h:w.ownsRow base e 1 (.slice (some ⟨g,0,none⟩) n c) n xs) (j:Nat) (u:Value) :
 (w.setCell ⟨g,j,none⟩ u).ownsRow base e 1 (.slice (some ⟨g,0,none⟩) n c) n (xs.set j u):=by
 obtain ⟨hl,⟨h0,_⟩ | ⟨g',cap,cur,e1,hb,hh,Ha,hm,Hb,ht⟩⟩:=h
 ·cases h0
 cases e1
 have hB:Blk w g e cur:=hh;refine ⟨by simp [hl],.inr ⟨g,c,cur.setIfInBounds j u,rfl,hb,hB.set_ j u,Ha,hm,by simpa using Hb,?_⟩⟩;rw [Array.toList_setIfInBounds,List.take_set,ht]
theorem OwnStrs.at_ {w:World} {base:Nat} {v:Value} {xs:List Scu.Str} (h:OwnStrs w base v xs) (hn:0 < xs.length) :
 ∃ g c cur,v=.slice (some ⟨g,0,none⟩) xs.length c/\base<=g/\Blk w g 9 cur/\∀ j,j < xs.length->w.cell? ⟨g,j,none⟩=(xs.map Value.string)[j]?:=zCj h.1 hn
theorem OwnStrs.put {w:World} {base g c n:Nat} {xs:List Scu.Str} (h:OwnStrs w base (.slice (some ⟨g,0,none⟩) n c) xs) (j:Nat) (s:Scu.Str) (hs:s.size<=R47) :
 OwnStrs (w.setCell ⟨g,j,none⟩ (.string s)) base (.slice (some ⟨g,0,none⟩) n c) (xs.set j s):=by
 have hn:n=xs.length:=by
  obtain ⟨A,c',e,_⟩:=h.is.ex;cases e
  rfl
 subst hn;refine ⟨?_,by simpa using h.2.1,fun t ht=>?_⟩
 ·rw [List.length_set,List.map_set];exact zRm h.1 j _
 rcases List.mem_or_eq_of_mem_set ht with h' | rfl
 ·exact h.2.2 t h'
 exact hs
theorem IsStrs.far {w:World} {B:Nat} {v:Value} {xs:List Scu.Str} (h:IsStrs w B v xs) {p:Addr} (Hb:v.ownBlock≠some p.block) (u:Value):IsStrs (w.setCell p u) B v xs:=by
 obtain ⟨⟨A,c,rfl,hc,hr⟩,h1,h2⟩:=h;refine ⟨⟨A,c,rfl,hc,?_⟩,h1,h2⟩;rcases hr with hr | ⟨g,o,rfl,hg,hk,Ha⟩
 ·exact .inl hr
 have Hc:g≠p.block:=fun e=>Hb (by simp [Value.ownBlock,e])
 have e:=Below.heap_setCell w p u g Hc;exact .inr ⟨g,o,rfl,by simpa [World.setCell] using hg,by rw [e];exact hk,fun j u' hj=>by
  rw [World.cell?_of_block (w:=w) (w':=w.setCell p u) (a:=⟨g,o+j,none⟩) e];exact Ha j u' hj⟩
theorem zPx {w:World} {base n g c:Nat} {e:TypeId} {xs:List Value} (h:w.ownsRow base e 1 (.slice (some ⟨g,0,none⟩) n c) n xs):∃ cur,Blk w g e cur/\base<=g:=by
 obtain ⟨_,⟨h0,_⟩ | ⟨g',cap,cur,e1,hb,hh,_⟩⟩:=h
 ·cases h0
 cases e1
 exact ⟨cur,hh,hb⟩
theorem OwnVol.same {w w':World} {B base:Nat} {nv sv:Value} {x:Scu.Volume} (h:OwnVol w base nv sv x) (hs:Same [9,39] B w w'):OwnVol w' base nv sv x:=by
 obtain ⟨hn,Hd,He,hl,vs,b,Hb,Ha,Hf,Hg⟩:=h;have Hc:Same [9,39] 0 w w':=hs.mono (fun _ h=>h) (mE _);exact ⟨zCq hn (by simp) Hc,Hd,He,hl,vs,b,zCq Hb (by simp) Hc,fun j u y h1 h2=>(Ha j u y h1 h2).same (by simp) Hc,Hf,Hg⟩
theorem OwnVol.below {w w':World} {base:Nat} {nv sv:Value} {x:Scu.Volume} (h:OwnVol w base nv sv x) (hb:Below w.heap.size w w'):OwnVol w' base nv sv x:=h.same (B:=0) (Same.below hb)
theorem OwnVol.alloc {w:World} {base:Nat} {nv sv:Value} {x:Scu.Volume} (h:OwnVol w base nv sv x) (o:Obj):OwnVol (w.alloc o) base nv sv x:=h.below (zAa w o)
theorem OwnVol.base_ {w:World} {base base':Nat} {nv sv:Value} {x:Scu.Volume} (h:OwnVol w base nv sv x) (hb:base'<=base):OwnVol w base' nv sv x:=by
 obtain ⟨hn,Hc,Hd,hl,vs,b,Hb,Ha⟩:=h;exact ⟨zAl hn hb,Hc,Hd,hl,vs,b,zAl Hb hb,Ha⟩
theorem OwnVol.zero_ (w:World) (base:Nat):OwnVol w base (.slice none 0 0) (.slice none 0 0) Scu.vol0 :=
 ⟨World.ownsRow_nil _ _ _ _,by simp [Scu.vol0],(fun s hs=>by cases hs),by simp [Scu.vol0],[],0,World.ownsRow_nil _ _ _ _,(fun j u y h=>by simp at h),(fun g h=>by simp [Value.ownBlock] at h),(fun u h=>by simp at h)⟩
theorem OwnVol.put {w:World} {base g n c:Nat} {sv:Value} {x:Scu.Volume} (h:OwnVol w base (.slice (some ⟨g,0,none⟩) n c) sv x) (j:Nat) (s:Scu.Str) (hs:s.size<=R47) :
 OwnVol (w.setCell ⟨g,j,none⟩ (.string s)) base (.slice (some ⟨g,0,none⟩) n c) sv ⟨x.now.set j s,x.snaps⟩:=by
 obtain ⟨hn,He,Hf,hl,vs,b,Hb,Ha,Hc,Hd⟩:=h;have hp:=OwnStrs.put (xs:=x.now) ⟨hn,He,Hf⟩ j s hs;have Hg:n=x.now.length:=by
  obtain ⟨A,c',e,_⟩:=zAi hn;cases e
  rfl
 subst Hg;obtain ⟨cur,hb,_⟩:=zPx hn;refine ⟨hp.1,hp.2.1,hp.2.2,hl,vs,b,zFm Hb hb (by decide) _,fun i u y h1 h2=>(Ha i u y h1 h2).far (fun e=>?_) _,Hc,Hd⟩;have h3:=Hd u (List.mem_of_getElem? h1) g e;have h4:=Hc g rfl;omega
theorem OwnVol.push {w w':World} {base b:Nat} {nv sv u v4:Value} {x:Scu.Volume} {vs:List Value} {y:List Scu.Str}
 (hn:w.ownsRow base 9 1 nv x.now.length (x.now.map Value.string)) (Hd:x.now.length*16<=R47) (He:∀ s ∈ x.now,s.size<=R47) (Ha:w.ownsRow base 39 1 sv x.snaps.length vs)
 (Hb:∀ (j:Nat) (u:Value) (y:List Scu.Str),vs[j]? = some u->x.snaps[j]? = some y->IsStrs w 0 u y) (Hf:∀ g,nv.ownBlock=some g->g < b) (Hg:∀ u ∈ vs,∀ g,u.ownBlock=some g->b<=g)
 (hu:IsStrs w 0 u y) (Hh:∀ g,nv.ownBlock=some g->∀ g',u.ownBlock=some g'->g < g') (hl:(x.snaps.length+1)*24<=R47) (hg:w.grownBy w' sv.ownBlock)
 (h4:w'.ownsRow base 39 1 v4 (x.snaps.length+1) (vs ++ [u])):OwnVol w' base nv v4 ⟨x.now,x.snaps ++ [y]⟩:=by
 have hs:Same [9] 0 w w':=Same.own Ha hg (mE _) (by decide);refine ⟨zCq hn (by simp) hs,Hd,He,by simpa using hl,vs ++ [u],(nv.ownBlock.map (· + 1)).getD 0,by simpa using h4,?_,?_,?_⟩
 ·intro j v z hv hz;have Hj:vs.length=x.snaps.length:=by simpa using Ha.1
  rcases Nat.lt_or_ge j vs.length with hj | hj
  ·rw [List.getElem?_append_left hj] at hv;rw [List.getElem?_append_left (by omega)] at hz;exact (Hb j v z hv hz).same (by simp) hs
  rw [List.getElem?_append_right hj] at hv;rw [List.getElem?_append_right (by omega)] at hz;have Hi:j - vs.length=0:=by
   rcases Nat.eq_zero_or_pos (j - vs.length) with h | h
   ·exact h
   rw [List.getElem?_eq_none (by simp;omega)] at hv;cases hv
  rw [Hi] at hv;rw [show j - x.snaps.length=0 by omega] at hz;simp only [List.getElem?_cons_zero,Option.some.injEq] at hv hz
  subst hv;subst hz;exact hu.same (by simp) hs
 ·intro g Hc;simp [Hc]
 intro v hv g Hc;cases hnb:nv.ownBlock with
 | none=>simp
 | some g0 =>
   simp only [Option.map_some,Option.getD_some]
   rcases List.mem_append.1 hv with h | h
   ·have:=Hg v h g Hc;have:=Hf g0 hnb;omega
   ·rw [List.mem_singleton] at h;subst h;have:=Hh g0 hnb g Hc;omega
theorem zFa {w w':World} {base g n:Nat} {t e:TypeId} {cs:Array Value} {lv:Value} {xs:List Value} (hb:Blk w g t cs) (Ha:w.ownsRow base e 1 lv n xs) (Hb:t≠e) (hg:w.grownBy w' lv.ownBlock):Blk w' g t cs :=
 (hg.block g hb.lt fun e'=>by
  obtain ⟨C',fz',hh⟩:=zDb Ha e'.symm;unfold Blk at hb;rw [hh] at hb;cases hb
  exact Hb rfl).trans hb
theorem Same.sets2 {Ts:List TypeId} {B g:Nat} {w:World} {t:TypeId} {cs:Array Value} (hb:Blk w g t cs) (hB:B<=g) (ht:t ∉ Ts) (a b:Value) :
 Same Ts B w ((w.setCell ⟨g,0,none⟩ a).setCell ⟨g,1,none⟩ b):=(Same.set_ hb hB ht 0 a).trans (Same.set_ (hb.set_ 0 a) hB ht 1 b)
theorem Same.sets3 {Ts:List TypeId} {B g:Nat} {w:World} {t:TypeId} {cs:Array Value} (hb:Blk w g t cs) (hB:B<=g) (ht:t ∉ Ts) (a b c:Value) :
 Same Ts B w (((w.setCell ⟨g,0,none⟩ a).setCell ⟨g,1,none⟩ b).setCell ⟨g,2,none⟩ c):=(Same.sets2 hb hB ht a b).trans (Same.set_ ((hb.set_ 0 a).set_ 1 b) hB ht 2 c)
theorem zJ2 {P:Prop} (h:P:=by
 rintro q t cs hq ht rfl;rcases hb with hb | ⟨C,fz,hb⟩
 ·omega
 unfold Blk at hq;rw [hb] at hq;cases hq
 exact ht rfl):P:=h
theorem zWr {w:World} {u:Value} {ys:List Scu.Str} {k:Nat} (h:IsStrs w 0 u ys) (hk:k < ys.length) :
 ∃ g o c,u=.slice (some ⟨g,o,none⟩) ys.length c/\g < w.heap.size/\(∀ q t cs,Blk w q t cs->t≠9->g≠q)/\w.cell? ⟨g,o+k,none⟩=some (.string ys[k]):=by
 obtain ⟨⟨A,c,rfl,_,hr⟩,_,_⟩:=h;rcases hr with hr | ⟨g,o,rfl,hg,hb,hc⟩
 ·have:ys.length=0:=by simpa using congrArg List.length hr
  omega
 refine ⟨g,o,c,rfl,hg,?_,hc k _ (by simp [hk])⟩;exact zJ2
theorem zWs {w:World} {v:Value} {xss:List (List Scu.Str)} {k:Nat} (h:IsRows w 0 v xss) (hk:k < xss.length) :
 ∃ g o c u,v=.slice (some ⟨g,o,none⟩) xss.length c/\g < w.heap.size/\(∀ q t cs,Blk w q t cs->t≠39->g≠q)/\w.cell? ⟨g,o+k,none⟩=some u/\IsStrs w 0 u xss[k]:=by
 obtain ⟨⟨A,c,vs,rfl,_,hr,Hc,Hb⟩,_⟩:=h;have Ha:k < vs.length:=by omega
 rcases hr with hr | ⟨g,o,rfl,hg,hb,hc⟩
 ·subst hr;simp at Ha
 refine ⟨g,o,c,vs[k],rfl,hg,?_,hc k _ (mH Ha),Hb k _ _ (mH Ha) (mH hk)⟩;exact zJ2
theorem zEc {X:World} {b2 b3:Nat} {p q p' q' r':Value} (h2:Blk X b2 88 #[p,q]) (h3:Blk X b3 69 #[p',q',r']) (Ha:b2≠b3) (a b x y z:Value) :
 Blk (((((X.setCell ⟨b2,0,none⟩ a).setCell ⟨b2,1,none⟩ b).setCell ⟨b3,0,none⟩ x).setCell ⟨b3,1,none⟩ y).setCell ⟨b3,2,none⟩ z) b2 88 #[a,b]/\Blk (((((X.setCell ⟨b2,0,none⟩ a).setCell ⟨b2,1,none⟩ b).setCell ⟨b3,0,none⟩ x).setCell ⟨b3,1,none⟩ y).setCell ⟨b3,2,none⟩ z) b3 69 #[x,y,z]/\Same [9,39] 0 X (((((X.setCell ⟨b2,0,none⟩ a).setCell ⟨b2,1,none⟩ b).setCell ⟨b3,0,none⟩ x).setCell ⟨b3,1,none⟩ y).setCell ⟨b3,2,none⟩ z):=by
 have k2:=(h2.set_ 0 a).set_ 1 b;have k3:=(h3.far (p:=⟨b2,0,none⟩) (fun e=>Ha e.symm) a).far (p:=⟨b2,1,none⟩) (fun e=>Ha e.symm) b;refine ⟨((k2.far (p:=⟨b3,0,none⟩) Ha x).far (p:=⟨b3,1,none⟩) Ha y).far (p:=⟨b3,2,none⟩) Ha z,((k3.set_ 0 x).set_ 1 y).set_ 2 z,?_⟩;exact (Same.sets2 (B:=0) h2 (mE _) (by decide) a b).trans (Same.sets3 (B:=0) k3 (mE _) (by decide) x y z)
theorem zBr {X w:World} {b2 b3 B:Nat} (h:Below B w X) (h2:B<=b2) (h3:B<=b3) (a b x y z:Value):Below B w (((((X.setCell ⟨b2,0,none⟩ a).setCell ⟨b2,1,none⟩ b).setCell ⟨b3,0,none⟩ x).setCell ⟨b3,1,none⟩ y).setCell ⟨b3,2,none⟩ z) :=
 ((((h.setCell (p:=⟨b2,0,none⟩) h2 _).setCell (p:=⟨b2,1,none⟩) h2 _).setCell (p:=⟨b3,0,none⟩) h3 _).setCell (p:=⟨b3,1,none⟩) h3 _).setCell (p:=⟨b3,2,none⟩) h3 _
end Go.Proofs.YtlngfbngnnepiaaGreat

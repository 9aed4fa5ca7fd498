/- Part 13: words and walks under the laws of the whole. -/
import Derived.Laws.IdiomCopy
import Derived.Test.YtjnjhmkgfjikfaaDoorLv12
set_option linter.unusedVariables false
set_option linter.unusedSimpArgs false
set_option maxHeartbeats 4000000
set_option maxRecDepth 100000
namespace Go.Proofs.YtjnjhmkgfjikfaaDoor
open Go.RowKit
theorem zEe {P:Program} {t ty e:TypeId} {z:Value} (ht:P.underlying t=some (.slice e)) (hz:∀ w,(zeroValue e).run P w=.ok z w) (h1:z.oneCell'=true) (Ha:z.cells = #[z]) (n:Nat) (w:World) (g c:Nat)
 (hc:∀ j,j < n+1->(w.cell? ⟨g,j,none⟩).isSome=true) (hf:∀ j,w.frozen? ⟨g,j,none⟩=false) :
 (Builtin.clear_ #[t] ty #[.slice (some ⟨g,0,none⟩) (n+1) c]).run P w=.ok (.tuple #[]) (w.setCells g 0 (List.replicate (n+1) z)):=by
 have hl:(Builtin.zeroCells z.cells (n+1)).toList=List.replicate (n+1) z:=by
  rw [Ha]
  unfold Builtin.zeroCells
  apply List.ext_getElem
  ·simp
  intro i h2 h3
  simp [Nat.mod_one]
 have Hb:=run_storeCells_cells (P:=P) g 0 (List.replicate (n+1) z) 0 w (fun j hj=>by simpa using hc j (by simpa using hj)) (fun j _=>by simpa using hf j) (fun v hv=>by rw [List.eq_of_mem_replicate hv];exact h1)
 simp [Builtin.clear_,run_underlying ht,hz,Result.andThen,hl,Hb]
section
variable {w:World} {base gw gr g c n:Nat} {r:Scu.Replica} {lu hv wv gv nv ov:Value} {ms:List Scu.Message} {css:List (List Value)}
theorem Work.put_have (h:Work w base gw gr r lu (.slice (some ⟨g,0,none⟩) n c) wv gv nv ov ms css) {cur:Array Value} (hB:Blk w g 3 cur) (hg:base<=g) (j:Nat) (x:Int) :
 Work (w.setCell ⟨g,j,none⟩ (.int .i64 x)) base gw gr { r with have_:=r.have_.set j x } lu (.slice (some ⟨g,0,none⟩) n c) wv gv nv ov ms css/\Below base w (w.setCell ⟨g,j,none⟩ (.int .i64 x))/\Blk (w.setCell ⟨g,j,none⟩ (.int .i64 x)) g 3 (cur.setIfInBounds j (.int .i64 x)):=by
 have hs:Same [9,4,25,30,68,43] 0 w (w.setCell ⟨g,j,none⟩ (.int .i64 x)):=Same.set_ hB (mE _) (by decide) j _
 obtain ⟨css',Ha⟩:=h.own.giv
 exact ⟨⟨zAd h.wb hs (by simp),zAd h.rb hs (by simp),⟨⟨h.own.own.log.same (hs.mono (by simp) (mC _)),h.own.own.have_.put j x,h.own.own.wants.same (hs.mono (by simp) (mC _)),h.own.own.given.same (hs.mono (by simp) (mC _)),h.own.own.apart⟩,css',Ha.same (hs.mono (by simp) (mC _))⟩,h.out.same (hs.mono (by simp) (mC _)),h.lw,h.lr⟩,
  (mG base w).setCell (p:=⟨g,j,none⟩) hg _,hB.set_ j _⟩
theorem Work.put_wants (h:Work w base gw gr r lu hv (.slice (some ⟨g,0,none⟩) n c) gv nv ov ms css) {cur:Array Value} (hB:Blk w g 4 cur) (hg:base<=g) (j:Nat) (b:Bool) :
 Work (w.setCell ⟨g,j,none⟩ (.bool b)) base gw gr { r with wants:=r.wants.set j b } lu hv (.slice (some ⟨g,0,none⟩) n c) gv nv ov ms css/\Below base w (w.setCell ⟨g,j,none⟩ (.bool b))/\Blk (w.setCell ⟨g,j,none⟩ (.bool b)) g 4 (cur.setIfInBounds j (.bool b)) :=
 ⟨(h.want hB hg j b).1,(h.want hB hg j b).2,hB.set_ j _⟩
theorem Work.put_given (h:Work w base gw gr r lu hv wv gv (.slice (some ⟨g,0,none⟩) n c) ov ms css) {cur:Array Value} (hB:Blk w g 4 cur) (hg:base<=g) (j:Nat) (b:Bool) :
 Work (w.setCell ⟨g,j,none⟩ (.bool b)) base gw gr { r with given:=r.given.set j b } lu hv wv gv (.slice (some ⟨g,0,none⟩) n c) ov ms css/\Below base w (w.setCell ⟨g,j,none⟩ (.bool b))/\Blk (w.setCell ⟨g,j,none⟩ (.bool b)) g 4 (cur.setIfInBounds j (.bool b)):=by
 have hs:Same [9,3,25,30,68,43] 0 w (w.setCell ⟨g,j,none⟩ (.bool b)):=Same.set_ hB (mE _) (by decide) j _
 obtain ⟨css',Ha⟩:=h.own.giv
 exact ⟨⟨zAd h.wb hs (by simp),zAd h.rb hs (by simp),⟨⟨h.own.own.log.same (hs.mono (by simp) (mC _)),h.own.own.have_.same (hs.mono (by simp) (mC _)),h.own.own.wants.far (fun e=>h.own.own.apart g e rfl) _,h.own.own.given.put j b,h.own.own.apart⟩,css',Ha.same (hs.mono (by simp) (mC _))⟩,h.out.same (hs.mono (by simp) (mC _)),h.lw,h.lr⟩,
  (mG base w).setCell (p:=⟨g,j,none⟩) hg _,hB.set_ j _⟩
theorem set3 {α:Type} {l:List α} (h:l.length=3) (x:α):((l.set 0 x).set 1 x).set 2 x=[x,x,x]:=by
 match l,h with
 | [a,b,c],_=>rfl
theorem Work.clear_have (h:Work w base gw gr r lu (.slice (some ⟨g,0,none⟩) n c) wv gv nv ov ms css) {cur:Array Value} (hB:Blk w g 3 cur) (hg:base<=g) (h3:r.have_.length=3) :
 Work (w.setCells g 0 (List.replicate 3 (.int .i64 0))) base gw gr { r with have_:=[0,0,0] } lu (.slice (some ⟨g,0,none⟩) n c) wv gv nv ov ms css/\Below base w (w.setCells g 0 (List.replicate 3 (.int .i64 0))):=by
 obtain ⟨a1,a2,a3⟩:=h.put_have hB hg 0 0
 obtain ⟨b1,b2,b3⟩:=a1.put_have a3 hg 1 0
 obtain ⟨c1,c2,c3⟩:=b1.put_have b3 hg 2 0
 rw [<- set3 h3 0]
 exact ⟨c1,(a2.trans b2).trans c2⟩
theorem Work.clear_wants (h:Work w base gw gr r lu hv (.slice (some ⟨g,0,none⟩) n c) gv nv ov ms css) {cur:Array Value} (hB:Blk w g 4 cur) (hg:base<=g) (h3:r.wants.length=3) :
 Work (w.setCells g 0 (List.replicate 3 (.bool false))) base gw gr { r with wants:=[false,false,false] } lu hv (.slice (some ⟨g,0,none⟩) n c) gv nv ov ms css/\Below base w (w.setCells g 0 (List.replicate 3 (.bool false))):=by
 obtain ⟨a1,a2,a3⟩:=h.put_wants hB hg 0 false
 obtain ⟨b1,b2,b3⟩:=a1.put_wants a3 hg 1 false
 obtain ⟨c1,c2,c3⟩:=b1.put_wants b3 hg 2 false
 rw [<- set3 h3 false]
 exact ⟨c1,(a2.trans b2).trans c2⟩
theorem Work.clear_given (h:Work w base gw gr r lu hv wv gv (.slice (some ⟨g,0,none⟩) n c) ov ms css) {cur:Array Value} (hB:Blk w g 4 cur) (hg:base<=g) (h3:r.given.length=3) :
 Work (w.setCells g 0 (List.replicate 3 (.bool false))) base gw gr { r with given:=[false,false,false] } lu hv wv gv (.slice (some ⟨g,0,none⟩) n c) ov ms css/\Below base w (w.setCells g 0 (List.replicate 3 (.bool false))):=by
 obtain ⟨a1,a2,a3⟩:=h.put_given hB hg 0 false
 obtain ⟨b1,b2,b3⟩:=a1.put_given a3 hg 1 false
 obtain ⟨c1,c2,c3⟩:=b1.put_given b3 hg 2 false
 rw [<- set3 h3 false]
 exact ⟨c1,(a2.trans b2).trans c2⟩
theorem zKb {e:TypeId} {size:Nat} {xs:List Value} (h:Blk w g e xs.toArray) (hb:base<=g) (hn:xs.length=n*size) (hm:n<=maxLen):w.ownsRow base e size (.slice (some ⟨g,0,none⟩) n n) n xs :=
 ⟨hn,.inr ⟨g,n,xs.toArray,rfl,hb,h,mC _,hm,by simp [hn],by rw [<- hn];simp⟩⟩
theorem ones3f {α:Type} {t:TypeId} {bytes:Nat} {f:α->Value} {v:Value} {xs:List α} (h:OwnOnes t bytes f w base v xs) (h3:xs.length=3):∃ g c,v=.slice (some ⟨g,0,none⟩) 3 c :=
 let ⟨g,c,_,e,_⟩:=ones3 h h3;⟨g,c,e⟩
theorem ones3' {α:Type} {t:TypeId} {bytes:Nat} {f:α->Value} {xs:List α} (h:OwnOnes t bytes f w base (.slice (some ⟨g,0,none⟩) 3 c) xs) (h3:xs.length=3) :
 base<=g/\(∃ cur,Blk w g t cur)/\(∀ j,j < 2+1->(w.cell? ⟨g,j,none⟩).isSome=true)/\(∀ j,w.frozen? ⟨g,j,none⟩=false)/\∀ j,j < 3->w.cell? ⟨g,j,none⟩=(xs.map f)[j]?:=by
 obtain ⟨g',c',cur,h1,h2,hB,h4⟩:=ones3 h h3
 cases h1
 exact ⟨h2,⟨cur,hB⟩,fun j hj=>by rw [h4 j hj,mH (by rw [List.length_map,h3];exact hj)];rfl,hB.frozen,h4⟩
theorem Same.setCells3 {Ts:List TypeId} {t:TypeId} {cur:Array Value} (hB:Blk w g t cur) (ht:t ∉ Ts) (x y z:Value):Same Ts 0 w (w.setCells g 0 [x,y,z]) :=
 ((Same.set_ hB (mE _) ht 0 x).trans (Same.set_ (hB.set_ 0 x) (mE _) ht 1 y)).trans (Same.set_ ((hB.set_ 0 x).set_ 1 y) (mE _) ht 2 z)
def zeroK:List Value:=[.int .i64 0,.int .i64 0,.bool false,.slice none 0 0,.int .i64 0]
theorem zHk (h:Blk w g 25 (zeroK ++ (zeroK ++ zeroK)).toArray) (hb:base<=g):OwnKs w base (.slice (some ⟨g,0,none⟩) 3 3) [Scu.kept0,Scu.kept0,Scu.kept0] [zeroK,zeroK,zeroK]:=by
 refine ⟨rfl,?_,zKb (size:=5) (n:=3) (xs:=[zeroK,zeroK,zeroK].flatten) (by simpa using h) hb rfl (by decide),?_,by simp [R47]⟩
 ·intro cs Ha
  simp only [List.mem_cons,List.not_mem_nil,or_false,or_self] at Ha
  subst Ha
  rfl
 intro j cs k h1 h2
 have:cs=zeroK/\k=Scu.kept0:=by
  rcases j with _ | _ | _ | j
  ·simp at h1 h2;exact ⟨h1.symm,h2.symm⟩
  ·simp at h1 h2;exact ⟨h1.symm,h2.symm⟩
  ·simp at h1 h2;exact ⟨h1.symm,h2.symm⟩
  simp at h1
 obtain ⟨rfl,rfl⟩:=this
 exact ⟨.slice none 0 0,rfl,IsStrs.nil_⟩
theorem Work.new_gives (h:Work w base gw gr r lu hv wv gv nv ov ms css) {v:Value} {gs:List Scu.Kept} (Ha:OwnKepts w base v gs) :
 Work (w.setCell ⟨gr,8,none⟩ v) base gw gr { r with gives:=gs } lu hv wv v nv ov ms css/\Below base w (w.setCell ⟨gr,8,none⟩ v):=by
 have hs:Same [9,3,4,25,68,43] 0 w (w.setCell ⟨gr,8,none⟩ v):=Same.set_ h.rb (mE _) (by decide) 8 _
 obtain ⟨css',Hb⟩:=Ha
 exact ⟨⟨zAd h.wb hs (by simp),h.rb.set_ 8 v,⟨(let o:=h.own.own.same (hs.mono (by simp) (mC _));⟨o.log,o.have_,o.wants,o.given,o.apart⟩),css',Hb.same (hs.mono (by simp) (mC _))⟩,h.out.same (hs.mono (by simp) (mC _)),h.lw,h.lr⟩,(mG base w).setCell (p:=⟨gr,8,none⟩) h.lr _⟩
theorem Work.rcell (h:Work w base gw gr r lu hv wv gv nv ov ms css) (i:Nat) (u:Value) :
 (∀ g' t cs,t≠30->Blk w g' t cs->Blk (w.setCell ⟨gr,i,none⟩ u) g' t cs)/\OwnRep (w.setCell ⟨gr,i,none⟩ u) base lu hv wv gv nv r/\OwnMs (w.setCell ⟨gr,i,none⟩ u) base ov ms css/\Below base w (w.setCell ⟨gr,i,none⟩ u):=by
 have hs:Same [9,3,4,25,68,43] 0 w (w.setCell ⟨gr,i,none⟩ u):=Same.set_ h.rb (mE _) (by decide) i _
 refine ⟨fun g' t cs ht hB=>(Below.heap_setCell w ⟨gr,i,none⟩ u g' (fun e=>?_)).trans hB,h.own.same (hs.mono (by simp) (mC _)),h.out.same (hs.mono (by simp) (mC _)),(mG base w).setCell (p:=⟨gr,i,none⟩) h.lr _⟩
 have hr:=h.rb
 subst e
 unfold Blk at hB hr
 rw [hr] at hB
 cases hB
 exact ht rfl
theorem Work.set_view (h:Work w base gw gr r lu hv wv gv nv ov ms css) (x:Int):Work (w.setCell ⟨gr,1,none⟩ (.int .i64 x)) base gw gr { r with kept:={ r.kept with view:=x } } lu hv wv gv nv ov ms css :=
 let ⟨a,b,c,_⟩:=h.rcell 1 (.int .i64 x)
 ⟨a _ _ _ (by decide) h.wb,h.rb.set_ 1 _,⟨⟨b.own.log,b.own.have_,b.own.wants,b.own.given,b.own.apart⟩,b.giv⟩,c,h.lw,h.lr⟩
theorem Work.set_normal (h:Work w base gw gr r lu hv wv gv nv ov ms css) (x:Int):Work (w.setCell ⟨gr,2,none⟩ (.int .i64 x)) base gw gr { r with kept:={ r.kept with normal:=x } } lu hv wv gv nv ov ms css :=
 let ⟨a,b,c,_⟩:=h.rcell 2 (.int .i64 x)
 ⟨a _ _ _ (by decide) h.wb,h.rb.set_ 2 _,⟨⟨b.own.log,b.own.have_,b.own.wants,b.own.given,b.own.apart⟩,b.giv⟩,c,h.lw,h.lr⟩
theorem Work.set_calm (h:Work w base gw gr r lu hv wv gv nv ov ms css) (x:Bool):Work (w.setCell ⟨gr,3,none⟩ (.bool x)) base gw gr { r with kept:={ r.kept with calm:=x } } lu hv wv gv nv ov ms css :=
 let ⟨a,b,c,_⟩:=h.rcell 3 (.bool x)
 ⟨a _ _ _ (by decide) h.wb,h.rb.set_ 3 _,⟨⟨b.own.log,b.own.have_,b.own.wants,b.own.given,b.own.apart⟩,b.giv⟩,c,h.lw,h.lr⟩
theorem Work.set_commit (h:Work w base gw gr r lu hv wv gv nv ov ms css) (x:Int):Work (w.setCell ⟨gr,5,none⟩ (.int .i64 x)) base gw gr { r with kept:={ r.kept with commit:=x } } lu hv wv gv nv ov ms css :=
 let ⟨a,b,c,_⟩:=h.rcell 5 (.int .i64 x)
 ⟨a _ _ _ (by decide) h.wb,h.rb.set_ 5 _,⟨⟨b.own.log,b.own.have_,b.own.wants,b.own.given,b.own.apart⟩,b.giv⟩,c,h.lw,h.lr⟩
theorem Work.set_log (h:Work w base gw gr r lu hv wv gv nv ov ms css) {v:Value} {l:List Scu.Str} (hl:OwnStrs w base v l):Work (w.setCell ⟨gr,4,none⟩ v) base gw gr { r with kept:={ r.kept with log:=l } } v hv wv gv nv ov ms css :=
 let ⟨a,b,c,_⟩:=h.rcell 4 v
 ⟨a _ _ _ (by decide) h.wb,h.rb.set_ 4 _,⟨⟨hl.same (B:=0) (Same.set_ (Ts:=[9]) h.rb (mE _) (by decide) 4 _),b.own.have_,b.own.wants,b.own.given,b.own.apart⟩,b.giv⟩,c,h.lw,h.lr⟩
theorem Work.low (h:Work w base gw gr r lu hv wv gv nv ov ms css) (i:Nat) (u:Value):Below base w (w.setCell ⟨gr,i,none⟩ u):=(mG base w).setCell (p:=⟨gr,i,none⟩) h.lr _
end
theorem zAv {w:World} {a b:Nat} {t t':TypeId} {cs cs':Array Value} (h:Blk w a t cs) (h':Blk w b t' cs') (ht:t≠t'):a≠b:=fun e=>by
 subst e
 unfold Blk at h h'
 rw [h] at h'
 cases h'
 exact ht rfl
theorem zBp {w:World} {g i:Nat} {q:Addr} (h:q.block≠g) (u:Value):(w.setCell ⟨g,i,none⟩ u).cell? q=w.cell? q:=World.cell?_of_block (Below.heap_setCell w ⟨g,i,none⟩ u q.block h)
theorem zAq {w:World} {g i0 i1 i2 i3 i4:Nat} {q:Addr} (h:q.block≠g) {x0 x1 x2 x3 x4:Value} :
 (((((w.setCell ⟨g,i0,none⟩ x0).setCell ⟨g,i1,none⟩ x1).setCell ⟨g,i2,none⟩ x2).setCell ⟨g,i3,none⟩ x3).setCell ⟨g,i4,none⟩ x4).cell? q=w.cell? q:=by
 rw [zBp h,zBp h,zBp h,zBp h,zBp h]
theorem zCx {w:World} {base size n g c:Nat} {e:TypeId} {xs:List Value} (h:w.ownsRow base e size (.slice (some ⟨g,0,none⟩) n c) n xs) (j:Nat) (u:Value) :
 (w.setCell ⟨g,j,none⟩ u).ownsRow base e size (.slice (some ⟨g,0,none⟩) n c) n (xs.set j u):=by
 obtain ⟨hl,⟨h0,_⟩ | ⟨g',cap,cur,e1,hb,hh,Ha,hm,Hb,ht⟩⟩:=h
 ·cases h0
 cases e1
 have hB:Blk w g e cur:=hh
 refine ⟨by simp [hl],.inr ⟨g,c,cur.setIfInBounds j u,rfl,hb,hB.set_ j u,Ha,hm,by simpa using Hb,?_⟩⟩
 rw [Array.toList_setIfInBounds,List.take_set,ht]
theorem zAx {w:World} {base size n m g c:Nat} {e:TypeId} {xs:List Value} (h:w.ownsRow base e size (.slice (some ⟨g,0,none⟩) m c) n xs):base<=g/\∃ cur,Blk w g e cur:=by
 obtain ⟨hl,⟨h0,_⟩ | ⟨g',cap,cur,e1,hb,hh,Ha,hm,Hb,ht⟩⟩:=h
 ·cases h0
 cases e1
 exact ⟨hb,cur,hh⟩
theorem zIm {css:List (List Value)} (h5:∀ cs ∈ css,cs.length=5) (i:Nat) (hi:i < css.length) (x0 x1 x2 x3 x4:Value) :
 (css.set i [x0,x1,x2,x3,x4]).flatten=((((css.flatten.set (i*5) x0).set (i*5+1) x1).set (i*5+2) x2).set (i*5+3) x3).set (i*5+4) x4:=by
 induction css generalizing i with
 | nil=>cases hi
 | cons a css ih =>
   have ha:=h5 a List.mem_cons_self
   match a,ha with
   | [a0,a1,a2,a3,a4],_ =>
     cases i with
     | zero=>rfl
     | succ i =>
       have:=ih (fun cs Ha=>h5 cs (List.mem_cons_of_mem _ Ha)) i (by simpa using hi)
       simp only [List.set_cons_succ,List.flatten_cons,this]
       simp only [show (i+1)*5=i*5+5 by omega,show i*5+5+1=i*5+1+5 by omega,show i*5+5+2=i*5+2+5 by omega,show i*5+5+3=i*5+3+5 by omega,show i*5+5+4=i*5+4+5 by omega]
       rfl
theorem Same.set5 {Ts:List TypeId} {w:World} {g:Nat} {t:TypeId} {cur:Array Value} (h:Blk w g t cur) (ht:t ∉ Ts) (i0 i1 i2 i3 i4:Nat) (x0 x1 x2 x3 x4:Value) :
 Same Ts 0 w (((((w.setCell ⟨g,i0,none⟩ x0).setCell ⟨g,i1,none⟩ x1).setCell ⟨g,i2,none⟩ x2).setCell ⟨g,i3,none⟩ x3).setCell ⟨g,i4,none⟩ x4) :=
 ((((Same.set_ h (mE _) ht i0 x0).trans (Same.set_ (h.set_ i0 x0) (mE _) ht i1 x1)).trans (Same.set_ ((h.set_ i0 x0).set_ i1 x1) (mE _) ht i2 x2)).trans
   (Same.set_ (((h.set_ i0 x0).set_ i1 x1).set_ i2 x2) (mE _) ht i3 x3)).trans (Same.set_ ((((h.set_ i0 x0).set_ i1 x1).set_ i2 x2).set_ i3 x3) (mE _) ht i4 x4)
theorem OwnKs.put {w:World} {base g c n i:Nat} {gs:List Scu.Kept} {css:List (List Value)} (h:OwnKs w base (.slice (some ⟨g,0,none⟩) n c) gs css) (hi:i < gs.length) {k:Scu.Kept} {lx:Value} (hx:IsStrs w 0 lx k.log) :
 OwnKs (((((w.setCell ⟨g,i*5,none⟩ (.int .i64 k.view)).setCell ⟨g,i*5+1,none⟩ (.int .i64 k.normal)).setCell ⟨g,i*5+2,none⟩ (.bool k.calm)).setCell ⟨g,i*5+3,none⟩ lx).setCell ⟨g,i*5+4,none⟩ (.int .i64 k.commit)) base (.slice (some ⟨g,0,none⟩) n c) (gs.set i k) (css.set i (keptV k lx)):=by
 have hn:n=gs.length:=by
  obtain ⟨A,c',e,_⟩:=zAk h.row
  cases e
  rfl
 subst hn
 obtain ⟨hb,cur,hB⟩:=zAx h.row
 have hs:Same [9] 0 w (((((w.setCell ⟨g,i*5,none⟩ (.int .i64 k.view)).setCell ⟨g,i*5+1,none⟩ (.int .i64 k.normal)).setCell ⟨g,i*5+2,none⟩ (.bool k.calm)).setCell ⟨g,i*5+3,none⟩ lx).setCell ⟨g,i*5+4,none⟩ (.int .i64 k.commit)):=Same.set5 hB (by decide) _ _ _ _ _ _ _ _ _ _
 refine ⟨by simp [h.len],?_,?_,?_,by simpa using h.max⟩
 ·intro cs Ha
  rcases List.mem_or_eq_of_mem_set Ha with h' | rfl
  ·exact h.five cs h'
  rfl
 ·rw [List.length_set]
  have:=zCx (zCx (zCx (zCx (zCx h.row (i*5) (.int .i64 k.view)) (i*5+1) (.int .i64 k.normal)) (i*5+2) (.bool k.calm)) (i*5+3) lx) (i*5+4) (.int .i64 k.commit)
  rw [<- zIm h.five i (by rw [h.len];exact hi)] at this
  exact this
 intro j cs x h1 h2
 by_cases hj:j=i
 ·subst hj
  rw [List.getElem?_set_self (by rw [h.len];exact hi)] at h1
  rw [List.getElem?_set_self hi] at h2
  cases h1
  cases h2
  exact ⟨lx,rfl,hx.same (by simp) hs⟩
 rw [List.getElem?_set_ne (fun e=>hj e.symm)] at h1 h2
 exact (h.each j cs x h1 h2).same (B:=0) (Ts:=[9]) (by simp) hs
theorem OwnKs.cells {w:World} {base g c n:Nat} {gs:List Scu.Kept} {css:List (List Value)} (h:OwnKs w base (.slice (some ⟨g,0,none⟩) n c) gs css) {i:Nat} (hi:i < gs.length) :
 (∀ j,w.frozen? ⟨g,j,none⟩=false)/\∃ lv,w.cell? ⟨g,i*5,none⟩=some (.int .i64 gs[i].view)/\w.cell? ⟨g,i*5+1,none⟩=some (.int .i64 gs[i].normal)/\w.cell? ⟨g,i*5+2,none⟩=some (.bool gs[i].calm) /\
  w.cell? ⟨g,i*5+3,none⟩=some lv/\w.cell? ⟨g,i*5+4,none⟩=some (.int .i64 gs[i].commit)/\IsStrs w 0 lv gs[i].log:=by
 obtain ⟨hb,cur,hB⟩:=zAx h.row
 obtain ⟨A,c',e,_,_,hr,_⟩:=zAk h.row
 cases e
 obtain ⟨g',o,lv,e,_,h0,h1,h2,h3,h4,h5⟩:=zEb h.len h.five hr h.each hi
 cases e
 rw [Nat.zero_add] at h0 h1 h2 h3 h4
 exact ⟨hB.frozen,lv,h0,h1,h2,h3,h4,h5⟩
theorem Work.put_gives {w:World} {base gw gr g c n i:Nat} {r:Scu.Replica} {lu hv wv nv ov:Value} {ms:List Scu.Message} {css:List (List Value)} (h:Work w base gw gr r lu hv wv (.slice (some ⟨g,0,none⟩) n c) nv ov ms css) (hi:i < r.gives.length) {k:Scu.Kept} {lx:Value} (hx:IsStrs w 0 lx k.log) :
 Work (((((w.setCell ⟨g,i*5,none⟩ (.int .i64 k.view)).setCell ⟨g,i*5+1,none⟩ (.int .i64 k.normal)).setCell ⟨g,i*5+2,none⟩ (.bool k.calm)).setCell ⟨g,i*5+3,none⟩ lx).setCell ⟨g,i*5+4,none⟩ (.int .i64 k.commit)) base gw gr { r with gives:=r.gives.set i k } lu hv wv (.slice (some ⟨g,0,none⟩) n c) nv ov ms css/\Below base w (((((w.setCell ⟨g,i*5,none⟩ (.int .i64 k.view)).setCell ⟨g,i*5+1,none⟩ (.int .i64 k.normal)).setCell ⟨g,i*5+2,none⟩ (.bool k.calm)).setCell ⟨g,i*5+3,none⟩ lx).setCell ⟨g,i*5+4,none⟩ (.int .i64 k.commit)):=by
 obtain ⟨css',Ha⟩:=h.own.giv
 obtain ⟨hb,cur,hB⟩:=zAx Ha.row
 have hs:Same [9,3,4,30,68,43] 0 w (((((w.setCell ⟨g,i*5,none⟩ (.int .i64 k.view)).setCell ⟨g,i*5+1,none⟩ (.int .i64 k.normal)).setCell ⟨g,i*5+2,none⟩ (.bool k.calm)).setCell ⟨g,i*5+3,none⟩ lx).setCell ⟨g,i*5+4,none⟩ (.int .i64 k.commit)):=Same.set5 hB (by decide) _ _ _ _ _ _ _ _ _ _
 refine ⟨⟨zAd h.wb hs (by simp),zAd h.rb hs (by simp),⟨(let o:=h.own.own.same (hs.mono (by simp) (mC _));⟨o.log,o.have_,o.wants,o.given,o.apart⟩),_,Ha.put hi hx⟩,h.out.same (hs.mono (by simp) (mC _)),h.lw,h.lr⟩,?_⟩
 exact ((((mG base w).setCell (p:=⟨g,_,none⟩) hb _).setCell (p:=⟨g,_,none⟩) hb _).setCell (p:=⟨g,_,none⟩) hb _).setCell (p:=⟨g,_,none⟩) hb _ |>.setCell (p:=⟨g,_,none⟩) hb _
theorem zKc {w:World} {gb:Nat} {t:TypeId} {a0 a1 a2 a3 a4 b0 b1 b2 b3 b4:Value} (h:Blk w gb t #[b0,b1,b2,b3,b4]):Blk (((((w.setCell ⟨gb,0,none⟩ a0).setCell ⟨gb,1,none⟩ a1).setCell ⟨gb,2,none⟩ a2).setCell ⟨gb,3,none⟩ a3).setCell ⟨gb,4,none⟩ a4) gb t #[a0,a1,a2,a3,a4]:=by
 have h0:Blk _ gb t #[a0,b1,b2,b3,b4]:=h.set_ 0 a0
 have h1:Blk _ gb t #[a0,a1,b2,b3,b4]:=h0.set_ 1 a1
 have h2:Blk _ gb t #[a0,a1,a2,b3,b4]:=h1.set_ 2 a2
 have h3:Blk _ gb t #[a0,a1,a2,a3,b4]:=h2.set_ 3 a3
 have h4:Blk _ gb t #[a0,a1,a2,a3,a4]:=h3.set_ 4 a4
 exact h4
theorem Work.box5 {w:World} {base gw gr gb gg cg n:Nat} {r:Scu.Replica} {lu hv wv nv ov:Value} {ms:List Scu.Message} {css:List (List Value)} (h:Work w base gw gr r lu hv wv (.slice (some ⟨gg,0,none⟩) n cg) nv ov ms css)
 {a0 a1 a2 a3 a4 b0 b1 b2 b3 b4:Value} (hB:Blk w gb 25 #[b0,b1,b2,b3,b4]) (Hb:gb≠gg) (hb:base<=gb) :
 Work (((((w.setCell ⟨gb,0,none⟩ a0).setCell ⟨gb,1,none⟩ a1).setCell ⟨gb,2,none⟩ a2).setCell ⟨gb,3,none⟩ a3).setCell ⟨gb,4,none⟩ a4) base gw gr r lu hv wv (.slice (some ⟨gg,0,none⟩) n cg) nv ov ms css/\Below base w (((((w.setCell ⟨gb,0,none⟩ a0).setCell ⟨gb,1,none⟩ a1).setCell ⟨gb,2,none⟩ a2).setCell ⟨gb,3,none⟩ a3).setCell ⟨gb,4,none⟩ a4)/\Blk (((((w.setCell ⟨gb,0,none⟩ a0).setCell ⟨gb,1,none⟩ a1).setCell ⟨gb,2,none⟩ a2).setCell ⟨gb,3,none⟩ a3).setCell ⟨gb,4,none⟩ a4) gb 25 #[a0,a1,a2,a3,a4]/\Same [9,3,4] 0 w (((((w.setCell ⟨gb,0,none⟩ a0).setCell ⟨gb,1,none⟩ a1).setCell ⟨gb,2,none⟩ a2).setCell ⟨gb,3,none⟩ a3).setCell ⟨gb,4,none⟩ a4):=by
 have hs:Same [9,3,4,30,68,43] 0 w (((((w.setCell ⟨gb,0,none⟩ a0).setCell ⟨gb,1,none⟩ a1).setCell ⟨gb,2,none⟩ a2).setCell ⟨gb,3,none⟩ a3).setCell ⟨gb,4,none⟩ a4):=Same.set5 hB (by decide) _ _ _ _ _ _ _ _ _ _
 obtain ⟨css',Ha⟩:=h.own.giv
 have hq:∀ i,(Value.slice (some ⟨gg,0,none⟩) n cg).ownBlock≠some (⟨gb,i,none⟩:Addr).block:=fun i e=>by
  simp only [Value.ownBlock,Option.some.injEq] at e
  exact Hb e.symm
 refine ⟨⟨zAd h.wb hs (by simp),zAd h.rb hs (by simp),⟨(let o:=h.own.own.same (hs.mono (by simp) (mC _));⟨o.log,o.have_,o.wants,o.given,o.apart⟩),css',?_⟩,h.out.same (hs.mono (by simp) (mC _)),h.lw,h.lr⟩,?_,zKc hB,hs.mono (by simp) (mC _)⟩
 ·exact ⟨Ha.len,Ha.five,zDe (zDe (zDe (zDe (zDe Ha.row (hq 0) _) (hq 1) _) (hq 2) _) (hq 3) _) (hq 4) _,fun j cs k h1 h2=>(Ha.each j cs k h1 h2).same (B:=0) (Ts:=[9]) (by simp) (hs.mono (by simp) (mC _)),Ha.max⟩
 exact ((((mG base w).setCell (p:=⟨gb,_,none⟩) hb _).setCell (p:=⟨gb,_,none⟩) hb _).setCell (p:=⟨gb,_,none⟩) hb _).setCell (p:=⟨gb,_,none⟩) hb _ |>.setCell (p:=⟨gb,_,none⟩) hb _
def Rep3 (r:Scu.Replica):Prop:=r.have_.length=3/\r.wants.length=3/\r.gives.length=3/\r.given.length=3/\0<=r.me/\r.me < 3
end Go.Proofs.YtjnjhmkgfjikfaaDoor

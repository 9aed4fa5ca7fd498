/- Part 2: words and walks under the laws of the whole. -/
import Derived.Test.YtnpphdaakookcaaDoorQ1
set_option linter.unusedVariables false
set_option linter.unusedSimpArgs false
set_option maxHeartbeats 4000000
set_option maxRecDepth 100000
namespace Scu
def EntG (A:Str->Prop) (G:Gh):Prop:=∀ v,G.st v->∀ e ∈ G.vl v,A e
def Stepped (A:Str->Prop) (G:Gh) (i:Int) (r r':Replica) (out:List Message):Prop :=
 ∃ G',Ext i G G'/\GoodG G'/\EntG A G'/\GoodR G' i r'/\(∀ m ∈ out,GoodM G' m)/\r.kept.commit<=r'.kept.commit
theorem Stepped.trans {A:Str->Prop} {G:Gh} {i:Int} {r r1 r2:Replica} {o1 o2:List Message}
 (h:Stepped A G i r r1 o1) (k:∀ G',Ext i G G'->GoodG G'->EntG A G'->GoodR G' i r1->Stepped A G' i r1 r2 o2):Stepped A G i r r2 (o1 ++ o2):=by
 obtain ⟨G1,e1,g1,a1,h1,m1,c1⟩:=h
 obtain ⟨G2,e2,g2,a2,h2,m2,c2⟩:=k G1 e1 g1 a1 h1
 refine ⟨G2,e1.trans e2,g2,a2,h2,fun m hm=>?_,Int.le_trans c1 c2⟩
 rcases List.mem_append.1 hm with hm | hm
 ·exact (m1 m hm).ext e2
 exact m2 m hm
theorem zRw {i j:Int} (hi:InR i) (hj:InR j):i.toNat=j.toNat↔i=j:=by unfold InR at *;omega
theorem zEs {α:Type} (l:List α) (i j:Int) (x d:α) (hi:InR i) (hj:InR j) (hl:l.length=3) :
 (l.set i.toNat x).getD j.toNat d=if j=i then x else l.getD j.toNat d:=by
 have Ha:i.toNat < l.length:=by unfold InR at hi;omega
 by_cases h:j=i
 ·subst h
  simp [Ha]
 have:i.toNat≠j.toNat:=fun e=>h ((zRw hi hj).1 e).symm
 simp [List.getElem?_set_ne this,h]
theorem zMf {α:Type} (x d:α) (j:Int) (hj:InR j) : [x,x,x].getD j.toNat d=x:=by
 unfold InR at hj
 have:j=0\/j=1\/j=2:=by omega
 rcases this with rfl | rfl | rfl <;> rfl
def geq (a b:Kept):Prop:=b.normal < a.normal\/(a.normal=b.normal/\b.log.length<=a.log.length)
theorem zTx (a:Kept):geq a a:=.inr ⟨rfl,mC _⟩
theorem zMg {a b c:Kept} (h:geq a b) (k:geq b c):geq a c:=by unfold geq at *;omega
theorem zIt (l:List (Kept × Bool)):∀ b:Kept,geq (l.foldl (fun b g=>if g.2 && better g.1 b then g.1 else b) b) b /\
 (∀ g ∈ l,g.2=true->geq (l.foldl (fun b g=>if g.2 && better g.1 b then g.1 else b) b) g.1) /\
 (l.foldl (fun b g=>if g.2 && better g.1 b then g.1 else b) b=b\/∃ g ∈ l,g.2=true/\l.foldl (fun b g=>if g.2 && better g.1 b then g.1 else b) b=g.1):=by
 induction l with
 | nil=>intro b;exact ⟨zTx b,by simp,.inl rfl⟩
 | cons x l ih =>
   intro b
   simp only [List.foldl_cons]
   obtain ⟨h1,h2,h3⟩:=ih (if x.2 && better x.1 b then x.1 else b)
   generalize hr:l.foldl (fun b g=>if g.2 && better g.1 b then g.1 else b) (if x.2 && better x.1 b then x.1 else b)=R at *
   by_cases hx:(x.2 && better x.1 b)=true
   ·rw [if_pos hx] at h1 h3
    have hb:geq x.1 b:=by
     simp only [Bool.and_eq_true,better,Bool.or_eq_true,decide_eq_true_eq] at hx
     unfold geq;omega
    have Hb:x.2=true:=by simp at hx;exact hx.1
    refine ⟨zMg h1 hb,?_,?_⟩
    ·intro g hg Ha
     rcases List.mem_cons.1 hg with rfl | hg
     ·exact h1
     exact h2 g hg Ha
    rcases h3 with h3 | ⟨g,hg,h⟩
    ·exact .inr ⟨x,List.mem_cons_self,Hb,h3⟩
    exact .inr ⟨g,List.mem_cons_of_mem _ hg,h⟩
   ·rw [if_neg hx] at h1 h3
    refine ⟨h1,?_,?_⟩
    ·intro g hg Ha
     rcases List.mem_cons.1 hg with rfl | hg
     ·refine zMg h1 ?_
      rw [Ha] at hx
      simp only [Bool.true_and,better,Bool.or_eq_true,Bool.and_eq_true,decide_eq_true_eq] at hx
      unfold geq;omega
     exact h2 g hg Ha
    rcases h3 with h3 | ⟨g,hg,h⟩
    ·exact .inl h3
    exact .inr ⟨g,List.mem_cons_of_mem _ hg,h⟩
theorem zFv (l:List (Kept × Bool)):∀ c:Int,c<=l.foldl (fun c g=>if g.2 then max c g.1.commit else c) c /\
 (∀ g ∈ l,g.2=true->g.1.commit<=l.foldl (fun c g=>if g.2 then max c g.1.commit else c) c) /\
 (l.foldl (fun c g=>if g.2 then max c g.1.commit else c) c=c\/∃ g ∈ l,g.2=true/\l.foldl (fun c g=>if g.2 then max c g.1.commit else c) c=g.1.commit):=by
 induction l with
 | nil=>intro c;exact ⟨Int.le_refl _,by simp,.inl rfl⟩
 | cons x l ih =>
   intro c
   simp only [List.foldl_cons]
   obtain ⟨h1,h2,h3⟩:=ih (if x.2 then max c x.1.commit else c)
   generalize l.foldl (fun c g=>if g.2 then max c g.1.commit else c) (if x.2 then max c x.1.commit else c)=R at *
   by_cases hx:x.2=true
   ·simp only [hx,if_true] at h1 h3
    refine ⟨by omega,?_,?_⟩
    ·intro g hg Ha
     rcases List.mem_cons.1 hg with rfl | hg
     ·omega
     exact h2 g hg Ha
    rcases h3 with h3 | ⟨g,hg,h⟩
    ·rcases Int.le_total c x.1.commit with h | h
     ·exact .inr ⟨x,List.mem_cons_self,hx,by omega⟩
     exact .inl (by omega)
    exact .inr ⟨g,List.mem_cons_of_mem _ hg,h⟩
   ·rw [if_neg hx] at h1 h3
    refine ⟨h1,?_,?_⟩
    ·intro g hg Ha
     rcases List.mem_cons.1 hg with rfl | hg
     ·exact absurd Ha hx
     exact h2 g hg Ha
    rcases h3 with h3 | ⟨g,hg,h⟩
    ·exact .inl h3
    exact .inr ⟨g,List.mem_cons_of_mem _ hg,h⟩
theorem len3 {α:Type} {l:List α} (h:l.length=3):∃ a b c,l=[a,b,c]:=by
 match l,h with
 | [a,b,c],_=>exact ⟨a,b,c,rfl⟩
theorem zLd {gs:List Kept} {bs:List Bool} (h1:gs.length=3) (h2:bs.length=3) (k:Kept) :
 (k,true) ∈ gs.zip bs↔∃ j,InR j/\bs.getD j.toNat false=true/\gs.getD j.toNat kept0=k:=by
 obtain ⟨a,b,c,rfl⟩:=len3 h1
 obtain ⟨x,y,z,rfl⟩:=len3 h2
 constructor
 ·intro h
  simp only [List.zip_cons_cons,List.zip_nil_right,List.mem_cons,Prod.mk.injEq,List.not_mem_nil,or_false] at h
  rcases h with ⟨rfl,rfl⟩ | ⟨rfl,rfl⟩ | ⟨rfl,rfl⟩
  ·exact ⟨0,by unfold InR;omega,rfl,rfl⟩
  ·exact ⟨1,by unfold InR;omega,rfl,rfl⟩
  exact ⟨2,by unfold InR;omega,rfl,rfl⟩
 rintro ⟨j,hj,h3,h4⟩
 have:j=0\/j=1\/j=2:=by unfold InR at hj;omega
 rcases this with rfl | rfl | rfl <;> simp at h3 h4 <;> subst h3 <;> subst h4 <;> simp
theorem countP2 {bs:List Bool} (h2:bs.length=3) {i:Int} (hi:InR i) (hc:¬ bs.countP id < 2) :
 ∃ q,InR q/\q≠i/\bs.getD q.toNat false=true:=by
 obtain ⟨x,y,z,rfl⟩:=len3 h2
 have:i=0\/i=1\/i=2:=by unfold InR at hi;omega
 have r0:InR 0:=by unfold InR;omega
 have r1:InR 1:=by unfold InR;omega
 have r2:InR 2:=by unfold InR;omega
 rcases this with rfl | rfl | rfl
 ·cases y
  ·cases z
   ·exfalso;revert hc;cases x <;> decide
   exact ⟨2,r2,by decide,rfl⟩
  exact ⟨1,r1,by decide,rfl⟩
 ·cases x
  ·cases z
   ·exfalso;revert hc;cases y <;> decide
   exact ⟨2,r2,by decide,rfl⟩
  exact ⟨0,r0,by decide,rfl⟩
 cases x
 ·cases y
  ·exfalso;revert hc;cases z <;> decide
  exact ⟨1,r1,by decide,rfl⟩
 exact ⟨0,r0,by decide,rfl⟩
theorem zIu {me v:Int} {m x:Message} (h:x ∈ toAll me v m):∃ i,InR i/\i≠me/\x = { m with from_:=me,tq:=i,view:=v }:=by
 unfold toAll at h
 simp only [List.mem_map,List.mem_filter,decide_eq_true_eq] at h
 obtain ⟨i,⟨h1,h2⟩,rfl⟩:=h
 refine ⟨i,?_,h2,rfl⟩
 simp at h1
 unfold InR;omega
theorem zEt {G:Gh} {r:Replica} (h1:G.st r.kept.view) (h2:G.sl r.kept.view <+: r.kept.log) (h3:r.kept.log <+: G.vl r.kept.view)
 (h4:ComOk G r.kept.view r.kept.log r.kept.commit):∀ m ∈ leadOn r,GoodM G m:=by
 intro m hm
 obtain ⟨i,_,_,rfl⟩:=zIu hm
 exact ⟨fun _=>⟨h1,h2,h3,h4⟩,fun h=>by simp at h,fun h=>by simp at h⟩
theorem zKi {G:Gh} {me v:Int} : ∀ m ∈ toAll me v { msg0 with kind:=3 },GoodM G m:=by
 intro m hm
 obtain ⟨i,_,_,rfl⟩:=zIu hm
 exact ⟨fun h=>by simp at h,fun h=>by simp at h,fun h=>by simp at h⟩
theorem GoodR.fresh {G:Gh} {i:Int} {r:Replica} (hi:InR i) (hm:r.me=i) (hk:KeptOk G i r.kept):GoodR G i (fresh r) where
 inr:=hi
 me:=hm
 have3:=rfl
 wants3:=rfl
 gives3:=rfl
 given3:=rfl
 kept:=hk
 given j hj hg:=by rw [show (Scu.fresh r).given=[false,false,false] from rfl,zMf _ _ _ hj] at hg;cases hg
 self hg:=by rw [show (Scu.fresh r).given=[false,false,false] from rfl,zMf _ _ _ hi] at hg;cases hg
theorem GoodR.wants {G:Gh} {i:Int} {r:Replica} (h:GoodR G i r) (l:List Bool) (hl:l.length=3):GoodR G i { r with wants:=l } :=
 { h with wants3:=hl }
theorem GoodR.haves {G:Gh} {i:Int} {r:Replica} (h:GoodR G i r) (l:List Int) (hl:l.length=3):GoodR G i { r with have_:=l } :=
 { h with have3:=hl }
theorem KeptOk.gift {G:Gh} {i:Int} {k:Kept} (h:KeptOk G i k) (hc:k.calm=false):VG G i k.view (own k) where
 seen:=by rw [h.view];exact Int.le_refl _
 lt:=h.wild hc
 st:=h.st
 lo:=h.lo
 hi:=h.hi
 led w _ hs hl:=⟨h.led w hs hl,fun he=>by
  have Ha:k.normal=w:=he
  subst Ha
  exact h.mine hl⟩
 acked w _ ha:=h.acked w ha
 com:=h.com
theorem zHg {G:Gh} {i j:Int} {r:Replica} {k:Kept} (h:GoodR G i r) (hc:r.kept.calm=false) (hj:InR j) (hv:VG G j r.kept.view (own k))
 (hs:j=i->own k=own r.kept):GoodR G i (give1 r j k) :=
 { h with
   gives3:=by simp [give1,h.gives3]
   given3:=by simp [give1,h.given3]
   given:=fun l hl hg=>by
    refine ⟨hc,?_⟩
    simp only [give1] at hg ⊢
    rw [zEs _ _ _ _ _ hj hl h.given3] at hg
    rw [zEs _ _ _ _ _ hj hl h.gives3]
    by_cases e:l=j
    ·subst e;rw [if_pos rfl];exact hv
    rw [if_neg e] at hg ⊢;exact (h.given l hl hg).2
   self:=fun hg=>by
    simp only [give1] at hg ⊢
    rw [zEs _ _ _ _ _ hj h.inr h.given3] at hg
    rw [zEs _ _ _ _ _ hj h.inr h.gives3]
    by_cases e:i=j
    ·subst e;rw [if_pos rfl];exact hs rfl
    rw [if_neg e] at hg ⊢;exact h.self hg }
theorem Stepped.same {A:Str->Prop} {G:Gh} {i:Int} {r:Replica} (g:GoodG G) (a:EntG A G) (h:GoodR G i r):Stepped A G i r r [] :=
 ⟨G,Ext.refl i G,g,a,h,by simp,Int.le_refl _⟩
theorem zPa {A:Str->Prop} {G:Gh} {i:Int} {r:Replica} (g:GoodG G) (a:EntG A G) (h:GoodR G i r) (hc:r.kept.calm=false) (hl:leader r.kept.view=i) :
 Stepped A G i r (begun r).1 (begun r).2:=by
 unfold begun
 rw [h.me]
 split
 ·exact .same g a h
 rename_i hgi
 split
 ·exact .same g a h
 rename_i hcnt
 have Ha:r.given.getD i.toNat false=true:=by simpa using hgi
 obtain ⟨q,hq,Ht,Hu⟩:=countP2 h.given3 h.inr hcnt
 let S:Int->Prop:=fun j=>InR j/\r.given.getD j.toNat false=true
 let K:Int->Kept:=fun j=>r.gives.getD j.toNat kept0
 have hS:∀ j,S j->InR j/\VG G j r.kept.view (K j):=fun j hj=>⟨hj.1,(h.given j hj.1 hj.2).2⟩
 obtain ⟨_,Hj,Hn⟩:=zIt (r.gives.zip r.given) { kept0 with normal:=-1 }
 obtain ⟨Hv,Ho,Hp⟩:=zFv (r.gives.zip r.given) 0
 have Hk:∀ j,S j->(K j,true) ∈ r.gives.zip r.given:=fun j hj=>(zLd h.gives3 h.given3 _).2 ⟨j,hj.1,hj.2,rfl⟩
 have Hw:bestOf (r.gives.zip r.given)=(r.gives.zip r.given).foldl (fun b g=>if g.2 && better g.1 b then g.1 else b) { kept0 with normal:=-1 }:=rfl
 have Hx:maxCommit (r.gives.zip r.given)=(r.gives.zip r.given).foldl (fun c g=>if g.2 then max c g.1.commit else c) 0:=rfl
 rw [<- Hw] at Hj Hn
 rw [<- Hx] at Hv Ho Hp
 obtain ⟨p,hp,Hi⟩:∃ p,S p/\bestOf (r.gives.zip r.given)=K p:=by
  rcases Hn with h0 | ⟨x,hx,He,he⟩
  ·exfalso
   have:=Hj _ (Hk i ⟨h.inr,Ha⟩) rfl
   rw [h0] at this
   have hn:=g.nn _ (hS i ⟨h.inr,Ha⟩).2.st
   unfold geq at this
   simp only at this
   omega
  obtain ⟨x1,x2⟩:=x
  simp only at He he
  subst He
  obtain ⟨j,hj,hg,hk⟩:=(zLd h.gives3 h.given3 _).1 hx
  exact ⟨j,⟨hj,hg⟩,by rw [he,<- hk]⟩
 have Hf:∀ j,S j->(K j).normal < (K p).normal\/((K j).normal=(K p).normal/\(K j).log.length<=(K p).log.length):=fun j hj=>by
  have:geq (bestOf (r.gives.zip r.given)) (K j):=Hj _ (Hk j hj) rfl
  rw [Hi] at this
  unfold geq at this
  omega
 have Hg:¬ G.st r.kept.view:=fun hs=>by have:=h.kept.led _ hs hl;have:=h.kept.wild hc;omega
 have Hy:0<=r.kept.view:=by have:=g.nn _ h.kept.st;have:=h.kept.le;omega
 obtain ⟨e,g'⟩:=zNv g hl h.kept.view Hg Hy K S hS ⟨h.inr,Ha⟩ p q ⟨hq,Hu⟩ Ht hp Hf
 have Hq:=(hS p hp).2
 -- commits of what was given are in the best log
 have Hh:∀ j,S j->ComOk (G.begins r.kept.view (K p).log) r.kept.view (K p).log (K j).commit:=fun j hj=>by
  have hv:=(hS j hj).2
  have Hr:=hv.com.ext e
  refine Hr.move ?_ (by have:=hv.lt;omega)
  have:=Hr.in_view g' hv.lt (.inl rfl)
  simpa [Gh.begins] using this
 have Hb:K i=own r.kept:=h.self Ha
 have Hl:=Hh i ⟨h.inr,Ha⟩
 rw [Hb] at Hl
 have Hm:(own r.kept).commit=r.kept.commit:=rfl
 rw [Hm] at Hl
 have Hz:r.kept.commit<=maxCommit (r.gives.zip r.given):=by
  have:=Ho _ (Hk i ⟨h.inr,Ha⟩) rfl
  rw [Hb] at this
  exact this
 have Hc:ComOk (G.begins r.kept.view (K p).log) r.kept.view (K p).log (maxCommit (r.gives.zip r.given)):=by
  rcases Hp with h0 | ⟨x,hx,He,he⟩
  ·have:maxCommit (r.gives.zip r.given)=r.kept.commit:=by have:=h.kept.com.1;omega
   rw [this];exact Hl
  obtain ⟨x1,x2⟩:=x
  simp only at He he
  subst He
  obtain ⟨j,hj,hg,hk⟩:=(zLd h.gives3 h.given3 _).1 hx
  rw [he,<- hk]
  exact Hh j ⟨hj,hg⟩
 have Hd:min (maxCommit (r.gives.zip r.given)) ((K p).log.length:Int)=maxCommit (r.gives.zip r.given):=Int.min_eq_left Hc.2.1
 have Hs:G.ack i r.kept.view=0:=by
  rcases Nat.eq_zero_or_pos (G.ack i r.kept.view) with h0 | h0
  ·exact h0
  exact absurd (g.ackSt _ _ h0).1 Hg
 have hk:KeptOk (G.begins r.kept.view (K p).log) i ⟨r.kept.view,r.kept.view,true,(K p).log,maxCommit (r.gives.zip r.given)⟩ :=
  { view:=h.kept.view
    le:=Int.le_refl _
    calm:=fun _=>rfl
    wild:=fun hx=>by cases hx
    st:=.inl rfl
    lo:=by simp [Gh.begins]
    hi:=by simp [Gh.begins]
    mine:=fun _=>by simp [Gh.begins]
    led:=fun w hs hw=>by
     rcases hs with rfl | hs
     ·exact Int.le_refl _
     have:=h.kept.led w hs hw;have:=h.kept.le
     show w<=r.kept.view
     omega
    acked:=fun w ha=>by
     have Ka:0 < G.ack i w:=ha
     have hw:=(h.kept.acked w Ka).1
     have:=h.kept.wild hc
     refine ⟨by show w<=r.kept.view;omega,fun he=>?_⟩
     exfalso
     have Kc:r.kept.view=w:=he
     omega
    com:=Hc }
 refine ⟨_,e,g',?_,?_,?_,?_⟩
 ·intro v hv x hx
  simp only [Gh.begins] at hv hx
  split at hx
  ·exact a _ Hq.st x (Hq.hi.subset hx)
  rename_i Kb
  exact a v (hv.resolve_left Kb) x hx
 ·simp only [Hi,Hd]
  exact GoodR.fresh h.inr rfl hk
 ·simp only [Hi,Hd]
  refine zEt ?_ ?_ ?_ ?_
  ·exact .inl rfl
  ·simp [Scu.fresh,Gh.begins]
  ·simp [Scu.fresh,Gh.begins]
  exact Hc
 simp only [Hi,Hd]
 exact Hz
end Scu
namespace Scu
theorem zRx {A:Str->Prop} {G:Gh} {i v:Int} {r:Replica} (g:GoodG G) (a:EntG A G) (h:GoodR G i r) (hv:r.kept.view < v) :
 Stepped A G i r (want r v).1 (want r v).2:=by
 have Ha:G.vw i<=v:=by rw [h.kept.view];omega
 have e:=zIr (G:=G) (i:=i) (v:=v) Ha
 have hk:KeptOk (G.moved i v) i { r.kept with view:=v,calm:=false } :=
  { view:=by simp [Gh.moved]
    le:=by have:=h.kept.le;show r.kept.normal<=v;omega
    calm:=fun hx=>by cases hx
    wild:=fun _=>by have:=h.kept.le;show r.kept.normal < v;omega
    st:=h.kept.st
    lo:=h.kept.lo
    hi:=h.kept.hi
    mine:=h.kept.mine
    led:=h.kept.led
    acked:=h.kept.acked
    com:=h.kept.com.ext e }
 refine ⟨G.moved i v,e,zKh g Ha,a,?_,?_,Int.le_refl _⟩
 ·exact (GoodR.fresh (r:={ r with kept:={ r.kept with view:=v,calm:=false } }) h.inr h.me hk).wants _ (by simp [fresh])
 exact zKi
theorem zNw {A:Str->Prop} {G:Gh} {i:Int} {r:Replica} {m:Message} (g:GoodG G) (a:EntG A G) (h:GoodR G i r) (hm:GoodM G m)
 (hk:m.kind=1) (hf:m.from_=leader m.view) (Hx:m.from_≠i) (hv:r.kept.view<=m.view) :
 Stepped A G i r (hearLead r m).1 (hearLead r m).2:=by
 obtain ⟨Hh,Ho,Hm,He⟩:=hm.lead hk
 have Hn:i≠leader m.view:=by rw [<- hf];exact Hx.symm
 by_cases hcase:r.kept.view < m.view\/r.kept.calm=false
 ·-- the view is new
  have Hy:r.kept.normal < m.view:=by
   rcases hcase with hx | hx
   ·have:=h.kept.le;omega
   have:=h.kept.wild hx;omega
  have Hs:G.vw i<=m.view:=by rw [h.kept.view];exact hv
  have e1:=zIr (G:=G) (i:=i) (v:=m.view) Hs
  have g1:=zKh g Hs
  have Hf:(G.moved i m.view).vw i=m.view:=by simp [Gh.moved]
  have e2:=zLc (G:=G.moved i m.view) (i:=i) (v:=m.view) (n:=m.log.length) (by rw [Hf];exact Int.le_refl _)
  have g2:=zIs g1 (n:=m.log.length) Hf (show (G.moved i m.view).st m.view from Hh) Hm.length_le Hn
  have Hp:G.ack i m.view=0:=by
   rcases Nat.eq_zero_or_pos (G.ack i m.view) with h0 | h0
   ·exact h0
   have:=(h.kept.acked _ h0).1;omega
  have Ht:ComOk G m.view m.log r.kept.commit:=h.kept.com.move ((h.kept.com.in_view g Hy Hh).trans Ho) (by omega)
  have Hc:min r.kept.commit (m.log.length:Int)=r.kept.commit:=Int.min_eq_left Ht.2.1
  have Hi:min m.commit (m.log.length:Int)=m.commit:=Int.min_eq_left He.2.1
  have Hz:max (max m.commit r.kept.commit) m.commit=max m.commit r.kept.commit:=by omega
  have Ka:ComOk ((G.moved i m.view).acks i m.view m.log.length) m.view m.log (max m.commit r.kept.commit):=((He.max Ht).ext e1).ext e2
  have Hd:KeptOk ((G.moved i m.view).acks i m.view m.log.length) i ⟨m.view,m.view,true,m.log,max m.commit r.kept.commit⟩ :=
   { view:=Hf
     le:=Int.le_refl _
     calm:=fun _=>rfl
     wild:=fun hx=>by cases hx
     st:=Hh
     lo:=Ho
     hi:=Hm
     mine:=fun hx=>absurd hx.symm Hn
     led:=fun w hs hl=>by have:=h.kept.led w hs hl;show w<=m.view;omega
     acked:=fun w ha=>by
      simp only [Gh.acks,Gh.moved] at ha ⊢
      by_cases ew:w=m.view
      ·subst ew
       refine ⟨Int.le_refl _,fun _=>?_⟩
       rw [if_pos (by simp),Hp]
       omega
      rw [if_neg (fun hx=>ew hx.2)] at ha
      have:=(h.kept.acked w ha).1
      refine ⟨by show w<=m.view;omega,fun hx=>absurd hx.symm ew⟩
     com:=Ka }
  have Hq:hearLead r m=({ fresh { r with kept:=⟨m.view,m.view,true,m.log,max m.commit r.kept.commit⟩ } with me:=r.me },
   [{ msg0 with kind:=2,from_:=r.me,tq:=m.from_,view:=m.view,n:=m.log.length }]):=by
   unfold hearLead
   simp only [if_pos hcase,fresh,Hc,Hi,Hz]
  rw [Hq]
  refine ⟨_,e1.trans e2,g2,a,GoodR.fresh (r:={ r with kept:=⟨m.view,m.view,true,m.log,max m.commit r.kept.commit⟩ }) h.inr h.me Hd,?_,?_⟩
  ·intro x hx
   simp only [List.mem_singleton] at hx
   subst hx
   refine ⟨fun hx=>by simp at hx,fun _=>?_,fun hx=>by simp at hx⟩
   simp only [Gh.acks,Gh.moved,h.me]
   rw [if_pos (by simp)]
   omega
  show r.kept.commit<=max m.commit r.kept.commit
  omega
 -- the same view
 have Ha:r.kept.calm=true:=by cases hx:r.kept.calm <;> simp_all
 have Hb:m.view=r.kept.view:=by have:¬ r.kept.view < m.view:=fun hx=>hcase (.inl hx);omega
 have Hj:=h.kept.calm Ha
 have Hg:G.vw i=m.view:=by rw [h.kept.view,Hb]
 let l:=if r.kept.log.length < m.log.length then m.log else r.kept.log
 have hn:r.kept.normal=m.view:=by rw [Hj,Hb]
 have Kb:G.sl m.view <+: r.kept.log:=hn ▸ h.kept.lo
 have Hk:r.kept.log <+: G.vl m.view:=hn ▸ h.kept.hi
 have Hu:m.log <+: l:=by
  show m.log <+: (if r.kept.log.length < m.log.length then m.log else r.kept.log)
  split
  ·exact List.prefix_refl _
  exact zCi Hm Hk (by omega)
 have Hv:r.kept.log <+: l:=by
  show r.kept.log <+: (if r.kept.log.length < m.log.length then m.log else r.kept.log)
  split
  ·exact zCi Hk Hm (by omega)
  exact List.prefix_refl _
 have Hr:G.sl m.view <+: l:=Ho.trans Hu
 have Hl:l <+: G.vl m.view:=by
  show (if r.kept.log.length < m.log.length then m.log else r.kept.log) <+: _
  split <;> assumption
 have Hw:ComOk G m.view l m.commit:=He.move ((List.take_prefix _ _).trans Hu) (Int.le_refl _)
 have Kc:ComOk G m.view l r.kept.commit:=h.kept.com.move ((List.take_prefix _ _).trans Hv) (by omega)
 have Hc:min m.commit (l.length:Int)=m.commit:=Int.min_eq_left Hw.2.1
 have e2:=zLc (G:=G) (i:=i) (v:=m.view) (n:=l.length) (by rw [Hg];exact Int.le_refl _)
 have g2:=zIs g (n:=l.length) Hg Hh Hl.length_le Hn
 have Hd:KeptOk (G.acks i m.view l.length) i ⟨m.view,m.view,true,l,max r.kept.commit m.commit⟩ :=
  { view:=Hg
    le:=Int.le_refl _
    calm:=fun _=>rfl
    wild:=fun hx=>by cases hx
    st:=Hh
    lo:=Hr
    hi:=Hl
    mine:=fun hx=>absurd hx.symm Hn
    led:=fun w hs hl=>by have:=h.kept.led w hs hl;show w<=m.view;omega
    acked:=fun w ha=>by
     simp only [Gh.acks] at ha ⊢
     by_cases ew:w=m.view
     ·subst ew
      refine ⟨Int.le_refl _,fun _=>?_⟩
      rw [if_pos (by simp)]
      have h1:=Hv.length_le
      rcases Nat.eq_zero_or_pos (G.ack i m.view) with h0 | h0
      ·omega
      have:=(h.kept.acked _ h0).2 hn;omega
     rw [if_neg (fun hx=>ew hx.2)] at ha
     have:=(h.kept.acked w ha).1
     exact ⟨by show w<=m.view;omega,fun hx=>absurd hx.symm ew⟩
    com:=(Kc.max Hw).ext e2 }
 have Hq:hearLead r m=({ r with kept:=⟨m.view,m.view,true,l,max r.kept.commit m.commit⟩ },
  [{ msg0 with kind:=2,from_:=r.me,tq:=m.from_,view:=m.view,n:=l.length }]):=by
  unfold hearLead
  simp only [if_neg hcase]
  by_cases hlen:r.kept.log.length < m.log.length
  ·have el:l=m.log:=if_pos hlen
   rw [el] at Hc
   simp only [if_pos hlen,el,Hc,<- Hb,hn,Ha]
  have el:l=r.kept.log:=if_neg hlen
  rw [el] at Hc
  simp only [if_neg hlen,el,Hc,<- Hb,hn,Ha]
 rw [Hq]
 refine ⟨_,e2,g2,a,?_,?_,?_⟩
 ·refine { h with kept:=Hd,given:=?_,self:=?_ }
  ·intro j hj hg
   have:=(h.given j hj hg).1
   rw [Ha] at this
   cases this
  intro hg
  have:=(h.given i h.inr hg).1
  rw [Ha] at this
  cases this
 ·intro x hx
  simp only [List.mem_singleton] at hx
  subst hx
  refine ⟨fun hx=>by simp at hx,fun _=>?_,fun hx=>by simp at hx⟩
  simp only [Gh.acks,h.me]
  rw [if_pos (by simp)]
  omega
 show r.kept.commit<=max r.kept.commit m.commit
 omega
theorem GoodR.calm_given {G:Gh} {i:Int} {r:Replica} (h:GoodR G i r) (hc:r.kept.calm=true) (j:Int) (hj:InR j):¬ r.given.getD j.toNat false=true:=by
 intro hg
 have:=(h.given j hj hg).1
 rw [hc] at this
 cases this
theorem GoodR.calm_kept {G G':Gh} {i:Int} {r:Replica} {k:Kept} (h:GoodR G i r) (hc:r.kept.calm=true) (hk:KeptOk G' i k):GoodR G' i { r with kept:=k } :=
 { h with kept:=hk,given:=fun j hj hg=>absurd hg (h.calm_given hc j hj),self:=fun hg=>absurd hg (h.calm_given hc i h.inr) }
theorem zDk {r:Replica} : leads r=true↔r.kept.calm=true/\leader r.kept.view=r.me:=by
 unfold leads;simp
theorem zQk {A:Str->Prop} {G:Gh} {i:Int} {r:Replica} {m:Message} (g:GoodG G) (a:EntG A G) (h:GoodR G i r) (hm:GoodM G m)
 (hk:m.kind=2) (Hf:InR m.from_) (Hk:0<=m.n) (Hg:i=leader m.view) (Hh:m.from_≠i) :
 Stepped A G i r (hearHas r m).1 (hearHas r m).2:=by
 unfold hearHas
 split
 ·exact .same g a h
 rename_i Hb
 have Hc:m.view=r.kept.view:=by by_cases hx:m.view=r.kept.view;exact hx;exact absurd (.inl hx) Hb
 have He:leads r=true:=by cases hx:leads r;exact absurd (.inr hx) Hb;rfl
 obtain ⟨Hd,Hl⟩:=zDk.1 He
 have Ha:=h.kept.calm Hd
 have hh:GoodR G i { r with have_:=r.have_.set m.from_.toNat (max (r.have_.getD m.from_.toNat 0) (min m.n r.kept.log.length)) }:=h.haves _ (by simp [h.have3])
 have Hm:=hm.has hk
 simp only []
 split
 ·rename_i hlt
  have hc:ComOk G r.kept.normal r.kept.log (min m.n r.kept.log.length):=by
   have h0:0<=min m.n (r.kept.log.length:Int):=by omega
   have h1:min m.n (r.kept.log.length:Int)<=(r.kept.log.length:Int):=by omega
   refine ⟨h0,h1,.inr ⟨r.kept.normal,m.from_,Int.le_refl _,h.kept.st,Hf,?_,?_,?_⟩⟩
   ·rw [Ha,<- Hc,<- Hg];exact Hh
   ·rw [Ha,<- Hc,List.length_take]
    omega
   exact (List.take_prefix _ _).trans h.kept.hi
  have Hi:KeptOk G i { r.kept with commit:=min m.n r.kept.log.length }:={ h.kept with com:=hc }
  have Hj:=hh.calm_kept Hd Hi
  refine ⟨G,Ext.refl i G,g,a,Hj,?_,?_⟩
  ·refine zEt ?_ ?_ ?_ ?_
   ·show G.st r.kept.view;rw [<- Ha];exact h.kept.st
   ·show G.sl r.kept.view <+: r.kept.log;rw [<- Ha];exact h.kept.lo
   ·show r.kept.log <+: G.vl r.kept.view;rw [<- Ha];exact h.kept.hi
   show ComOk G r.kept.view r.kept.log _;rw [<- Ha];exact hc
  show r.kept.commit<=min m.n r.kept.log.length
  omega
 exact ⟨G,Ext.refl i G,g,a,hh,by simp,Int.le_refl _⟩
theorem zMh {A:Str->Prop} {G:Gh} {i v:Int} {r:Replica} (g:GoodG G) (a:EntG A G) (h:GoodR G i r) :
 Stepped A G i r (wantIf r v).1 (wantIf r v).2:=by
 unfold wantIf
 split
 ·exact zRx g a h (by assumption)
 exact .same g a h
theorem zCp {r:Replica} {v:Int} (h:r.kept.view<=v):(wantIf r v).1.kept.view=v\/(wantIf r v).1.kept.view=v:=by
 unfold wantIf
 split
 ·exact .inl rfl
 exact .inl (by show r.kept.view=v;omega)
theorem zLe {G:Gh} {i tq : Int} {r:Replica} (h:GoodR G i r) (hc:r.kept.calm=false) :
 GoodM G { msg0 with kind:=4,from_:=r.me,tq:=tq,view:=r.kept.view,normal:=r.kept.normal,commit:=r.kept.commit,log:=r.kept.log }:=by
 refine ⟨fun hx=>by simp at hx,fun hx=>by simp at hx,fun _=>?_⟩
 show VG G r.me r.kept.view _
 rw [h.me]
 have:=h.kept.gift hc
 exact { seen:=this.seen,lt:=this.lt,st:=this.st,lo:=this.lo,hi:=this.hi,led:=this.led,acked:=this.acked,com:=this.com }
theorem Stepped.of_kept {A:Str->Prop} {G:Gh} {i:Int} {r r1 r2:Replica} {o:List Message} (h:Stepped A G i r1 r2 o) (hc:r1.kept=r.kept):Stepped A G i r r2 o:=by
 unfold Stepped at *
 rw [<- hc]
 exact h
theorem zNx {A:Str->Prop} {G:Gh} {i:Int} {r:Replica} {m:Message} (g:GoodG G) (a:EntG A G) (h:GoodR G i r) :
 Stepped A G i r (hearWant r m).1 (hearWant r m).2:=by
 have hw:=zMh (v:=m.view) g a h
 unfold hearWant
 generalize wantIf r m.view=x at *
 obtain ⟨r1,o1⟩:=x
 simp only at hw ⊢
 split
 ·exact hw
 rename_i Ha
 have hc:r1.kept.calm=false:=by cases hx:r1.kept.calm;rfl;exact absurd (.inl hx) Ha
 split
 ·rename_i Hb
  refine hw.trans fun G1 e1 g1 a1 h1=>?_
  have hl:leader r1.kept.view=i:=by rw [<- h1.me];exact Hb
  have h2:GoodR G1 i { r1 with wants:=r1.wants.set m.from_.toNat true }:=h1.wants _ (by simp [h1.wants3])
  have h3:=zHg (j:=leader r1.kept.view) (k:=r1.kept) h2 hc (zEh _) (by rw [hl];exact h1.kept.gift hc) (fun _=>rfl)
  exact (zPa g1 a1 h3 hc hl).of_kept rfl
 refine hw.trans fun G1 e1 g1 a1 h1=>?_
 have h2:GoodR G1 i { r1 with wants:=r1.wants.set m.from_.toNat true }:=h1.wants _ (by simp [h1.wants3])
 refine ⟨G1,Ext.refl i G1,g1,a1,h2,?_,Int.le_refl _⟩
 intro x hx
 simp only [List.mem_singleton] at hx
 subst hx
 have:=zLe (tq:=leader r1.kept.view) h2 hc
 exact this
theorem zNy {A:Str->Prop} {G:Gh} {i:Int} {r:Replica} {m:Message} (g:GoodG G) (a:EntG A G) (h:GoodR G i r) (hm:GoodM G m)
 (hk:m.kind=4) (Hd:InR m.from_) (He:m.from_≠i) (Hf:i=leader m.view) (hv:r.kept.view<=m.view) :
 Stepped A G i r (hearGive r m).1 (hearGive r m).2:=by
 have hw:=zMh (v:=m.view) g a h
 have Ha:=(zCp hv).elim id id
 unfold hearGive
 generalize wantIf r m.view=x at *
 obtain ⟨r1,o1⟩:=x
 simp only at hw Ha ⊢
 split
 ·exact hw
 rename_i Hb
 have hc:r1.kept.calm=false:=by cases hx:r1.kept.calm;rfl;exact absurd hx Hb
 refine hw.trans fun G1 e1 g1 a1 h1=>?_
 have hl:leader r1.kept.view=i:=by rw [Ha,<- Hf]
 have Hg:=(hm.ext e1).give hk
 have h2:∃ r2:Replica,r2=(if r1.given.getD r1.me.toNat false=false then give1 r1 r1.me r1.kept else r1)/\GoodR G1 i r2/\r2.kept=r1.kept:=by
  refine ⟨_,rfl,?_,?_⟩
  ·split
   ·rw [h1.me]
    exact zHg h1 hc h1.inr (h1.kept.gift hc) (fun _=>rfl)
   exact h1
  split <;> rfl
 obtain ⟨r2,e2,h2,Hc⟩:=h2
 rw [<- e2]
 have h3:=zHg (j:=m.from_) (k:=⟨m.view,m.normal,false,m.log,m.commit⟩) h2 (by rw [Hc];exact hc) Hd (by rw [Hc,Ha];exact Hg) (fun hx=>absurd hx He)
 refine (zPa g1 a1 h3 ?_ ?_).of_kept ?_
 ·show r2.kept.calm=false;rw [Hc];exact hc
 ·show leader r2.kept.view=i;rw [Hc];exact hl
 show r2.kept=r1.kept;exact Hc
theorem msgFault_ok {m:Message} (h:msgFault m=0):1<=m.kind/\m.kind<=4/\InR m.from_/\InR m.tq/\m.from_≠m.tq/\0<=m.view/\m.view<=1048576/\0<=m.n /\
 (m.kind=1->m.from_=leader m.view)/\(m.kind=2->m.tq=leader m.view)/\(m.kind=4->m.tq=leader m.view) /\
 keptFault ⟨m.view,m.normal,false,m.log,m.commit⟩=0:=by
 unfold msgFault at h
 split at h
 ·omega
 split at h
 ·omega
 split at h
 ·omega
 split at h
 ·omega
 unfold InR
 refine ⟨by omega,by omega,by omega,by omega,by omega,by omega,by omega,by omega,by omega,by omega,by omega,h⟩
theorem zXt {A:Str->Prop} {G:Gh} {i:Int} {r:Replica} {m:Message} (g:GoodG G) (a:EntG A G) (h:GoodR G i r) (hm:GoodM G m)
 (Ha:(hear r m).2.2=0):Stepped A G i r (hear r m).1 (hear r m).2.1:=by
 unfold hear at Ha ⊢
 split
 ·rename_i hx;rw [if_pos hx] at Ha;exact absurd Ha hx
 rename_i hx;rw [if_neg hx] at Ha
 split
 ·rename_i hx;rw [if_pos hx] at Ha;exact absurd Ha hx
 rename_i Hd;rw [if_neg Hd] at Ha
 split
 ·rename_i hx;rw [if_pos hx] at Ha;simp at Ha
 rename_i He;rw [if_neg He] at Ha
 split
 ·rename_i hx;rw [if_pos hx] at Ha;simp at Ha
 rename_i hx4
 have Hc:msgFault m=0:=by omega
 obtain ⟨f1,f2,f3,f4,f5,f6,f7,f8,f9,f10,f11,_⟩:=msgFault_ok Hc
 have Hb:m.tq=i:=by rw [<- h.me];omega
 simp only [hearIt]
 split
 ·rename_i hk
  exact zNw g a h hm hk (f9 hk) (by rw [<- Hb];exact f5) (by omega)
 split
 ·rename_i hk
  exact zQk g a h hm hk f3 f8 (by rw [<- Hb];exact f10 hk) (by rw [<- Hb];exact f5)
 split
 ·exact zNx g a h
 have hk:m.kind=4:=by omega
 exact zNy g a h hm hk f3 (by rw [<- Hb];exact f5) (by rw [<- Hb];exact f11 hk) (by omega)
theorem zXu {A:Str->Prop} {G:Gh} {i:Int} {r:Replica} {e:Str} (g:GoodG G) (a:EntG A G) (h:GoodR G i r) (he:A e)
 (Hb:(take r e).2.2=0):Stepped A G i r (take r e).1 (take r e).2.1:=by
 unfold take at Hb ⊢
 split
 ·rename_i hx;rw [if_pos hx] at Hb;exact absurd Hb hx
 rename_i hx;rw [if_neg hx] at Hb
 split
 ·rename_i hx;rw [if_pos hx] at Hb;simp at Hb
 rename_i Hi;rw [if_neg Hi] at Hb
 split
 ·rename_i hx;rw [if_pos hx] at Hb;simp at Hb
 rename_i Hk;rw [if_neg Hk] at Hb
 split
 ·rename_i hx;rw [if_pos hx] at Hb;exact absurd Hb hx
 obtain ⟨Hc,Hf⟩:=zDk.1 (by cases hx:leads r;exact absurd hx Hi;rfl:leads r=true)
 rw [h.me] at Hf
 have Ha:=h.kept.calm Hc
 have Hg:=h.kept.view
 have Hd:r.kept.log=G.vl r.kept.view:=by rw [<- Ha];exact h.kept.mine (by rw [Ha];exact Hf)
 have hp:G.vl r.kept.view <+: r.kept.log ++ [e]:=by rw [<- Hd];exact List.prefix_append _ _
 have ext:=zQj (G:=G) (i:=i) (v:=r.kept.view) (l:=r.kept.log ++ [e]) (by rw [Hg];exact Int.le_refl _) Hf hp
 have g':=zNu g Hg Hf hp
 have Hh:G.st r.kept.view:=by rw [<- Ha];exact h.kept.st
 have Hj:G.sl r.kept.view <+: r.kept.log ++ [e]:=(g.pre _ Hh).trans hp
 have He:ComOk G r.kept.view (r.kept.log ++ [e]) r.kept.commit :=
  h.kept.com.move ((List.take_prefix _ _).trans (List.prefix_append _ _)) (by omega)
 have hk:KeptOk (G.longer r.kept.view (r.kept.log ++ [e])) i { r.kept with log:=r.kept.log ++ [e] } :=
  { view:=Hg
    le:=h.kept.le
    calm:=h.kept.calm
    wild:=h.kept.wild
    st:=h.kept.st
    lo:=by show G.sl r.kept.normal <+: _;rw [Ha];exact Hj
    hi:=by simp [Gh.longer,Ha]
    mine:=fun _=>by simp [Gh.longer,Ha]
    led:=h.kept.led
    acked:=fun w ha=>by
     obtain ⟨h1,h2⟩:=h.kept.acked w ha
     refine ⟨h1,fun hx=>?_⟩
     have:=h2 hx
     show G.ack i w<=(r.kept.log ++ [e]).length
     rw [List.length_append]
     omega
    com:=by rw [show ({ r.kept with log:=r.kept.log ++ [e] } : Kept).normal=r.kept.view from Ha];exact He.ext ext }
 refine ⟨_,ext,g',?_,h.calm_kept Hc hk,?_,Int.le_refl _⟩
 ·intro v hv x hx
  simp only [Gh.longer] at hv hx
  split at hx
  ·rcases List.mem_append.1 hx with hx | hx
   ·rw [Hd] at hx
    exact a _ Hh x hx
   simp only [List.mem_singleton] at hx
   subst hx
   exact he
  exact a v hv x hx
 refine zEt ?_ ?_ ?_ ?_
 ·exact Hh
 ·exact Hj
 ·simp [Gh.longer]
 exact He.ext ext
theorem zXv {A:Str->Prop} {G:Gh} {i:Int} {r:Replica} (g:GoodG G) (a:EntG A G) (h:GoodR G i r)
 (Hc:(tick r).2.2=0):Stepped A G i r (tick r).1 (tick r).2.1:=by
 unfold tick at Hc ⊢
 split
 ·rename_i hx;rw [if_pos hx] at Hc;exact absurd Hc hx
 split
 ·rename_i hl
  obtain ⟨Hb,Hf⟩:=zDk.1 hl
  have Ha:=h.kept.calm Hb
  refine ⟨G,Ext.refl i G,g,a,h,?_,Int.le_refl _⟩
  refine zEt ?_ ?_ ?_ ?_
  ·rw [<- Ha];exact h.kept.st
  ·rw [<- Ha];exact h.kept.lo
  ·rw [<- Ha];exact h.kept.hi
  rw [<- Ha];exact h.kept.com
 split
 ·rename_i hl Hb
  have Ha:=h.kept.calm Hb
  have Hd:i≠leader r.kept.view:=fun hx=>hl (zDk.2 ⟨Hb,by rw [h.me];exact hx.symm⟩)
  have He:G.st r.kept.view:=by rw [<- Ha];exact h.kept.st
  have e2:=zLc (G:=G) (i:=i) (v:=r.kept.view) (n:=r.kept.log.length) (by rw [h.kept.view];exact Int.le_refl _)
  have g2:=zIs g (n:=r.kept.log.length) h.kept.view He (by rw [<- Ha];exact h.kept.hi.length_le) Hd
  have hk:KeptOk (G.acks i r.kept.view r.kept.log.length) i r.kept :=
   { h.kept with
     acked:=fun w ha=>by
      simp only [Gh.acks] at ha ⊢
      by_cases ew:w=r.kept.view
      ·subst ew
       refine ⟨by omega,fun _=>?_⟩
       rw [if_pos (by simp)]
       rcases Nat.eq_zero_or_pos (G.ack i r.kept.view) with h0 | h0
       ·omega
       have:=(h.kept.acked _ h0).2 Ha;omega
      rw [if_neg (fun hx=>ew hx.2)] at ha ⊢
      exact h.kept.acked w ha
     com:=h.kept.com.ext e2 }
  refine ⟨_,e2,g2,a,h.calm_kept Hb hk,?_,Int.le_refl _⟩
  intro x hx
  simp only [List.mem_singleton] at hx
  subst hx
  refine ⟨fun hx=>by simp at hx,fun _=>?_,fun hx=>by simp at hx⟩
  simp only [Gh.acks,h.me]
  rw [if_pos (by simp)]
  omega
 refine ⟨G,Ext.refl i G,g,a,h.wants _ (by simp [h.wants3]),zKi,Int.le_refl _⟩
theorem zTy {A:Str->Prop} {G:Gh} {i:Int} {r:Replica} (g:GoodG G) (a:EntG A G) (h:GoodR G i r)
 (Ha:(alarm r).2.2=0):Stepped A G i r (alarm r).1 (alarm r).2.1:=by
 unfold alarm at Ha ⊢
 split
 ·rename_i hx;rw [if_pos hx] at Ha;exact absurd Ha hx
 rename_i hx;rw [if_neg hx] at Ha
 split
 ·rename_i hx;rw [if_pos hx] at Ha;simp at Ha
 exact zRx g a h (by omega)
end Scu

/- Part 9: words and walks under the laws of the whole. -/
import Derived.Maps.AppendAt
import Derived.Deep.AppendLies
import Derived.Deep.RegionLaw
import Derived.OwnWalk
import Derived.Deep.MidRow
import Derived.Test.YtnpphdaakookcaaDoorQ7
set_option linter.unusedVariables false
set_option linter.unusedSimpArgs false
set_option maxHeartbeats 4000000
set_option maxRecDepth 100000
namespace Go.Proofs.YtnpphdaakookcaaDoor
open Go.RowKit
def ElT (t e:TypeId) (size bytes:Nat):Prop :=
 Tryd.prog.underlying t=some (.slice e)/\0 < size/\∃ i z,Tryd.prog.info? e=some i/\i.zero=some z/\i.size=size/\i.bytes=bytes/\z.cells.size=size
def Src1 (w:World) (size:Nat) (x:Value) (m:Nat) (news:List Value):Prop :=
 news.length=m*size/\((∃ c,x=.slice none 0 c/\m=0)\/∃ ad c,x=.slice (some ad) m c/\∀ (j:Nat) (u:Value),news[j]? = some u->w.cell? (ad.add j)=some u)
theorem zGr {w:World} {B:Nat} {t:TypeId} {A:Option Addr} {m c:Nat} {size:Nat} {news:List Value} (h:Rd w B t A news) (hl:news.length=m*size) (hA:A=none->m=0):Src1 w size (.slice A m c) m news:=by
 refine ⟨hl,?_⟩
 rcases A with _ | ad
 ·have:=hA rfl
  subst this
  exact .inl ⟨c,rfl,rfl⟩
 refine .inr ⟨ad,c,rfl,fun j u hj=>?_⟩
 rcases h with h | ⟨g,o,h1,_,_,h4⟩
 ·subst h;simp at hj
 simp only [Option.some.injEq] at h1
 subst h1
 have e:(⟨g,o,none⟩:Addr).add j=⟨g,o+j,none⟩:=by unfold Addr.add;split <;> simp_all
 rw [e]
 exact h4 j u hj
section
variable (w:World)
theorem zYg {t e ty:TypeId} {size bytes:Nat} (hE:ElT t e size bytes) (base:Nat) (v:Value) (n:Nat) (xs:List Value) (Ha:w.ownsRow base e size v n xs)
 (x:Value) (m:Nat) (news:List Value) (hx:Src1 w size x m news) (h1:∀ u ∈ news,u.oneCell'=true) (He:n+m<=maxLen) (Hb:(n+m)*bytes<=140737488355328) (Hd:base<=w.heap.size) :
 ∃ v' w',(Builtin.append_ #[t,t] ty #[v,x]).run Tryd.prog w=.ok v' w'/\w'.ownsRow base e size v' (n+m) (xs ++ news)/\w.grownBy w' v.ownBlock/\(v'.ownBlock=v.ownBlock\/v'.ownBlock=some w.heap.size):=by
 obtain ⟨ht,Hg,i,z,hi,hz,Hh,Hi,Hj⟩:=hE
 obtain ⟨hl,⟨c,rfl,rfl⟩ | ⟨ad,c,rfl,Hc⟩⟩:=hx
 ·have hn:news=[]:=List.eq_nil_of_length_eq_zero (by simpa using hl)
  subst hn
  refine ⟨v,w,?_,by simpa using Ha,World.grownBy.refl w _,.inl rfl⟩
  rcases Ha.2 with ⟨rfl,rfl⟩ | ⟨g,cap,cur,rfl,_,_,Hk,_⟩
  ·simp [Builtin.append_,run_underlying ht,sizeOf,typeInfo,hi,Builtin.lenOf,Builtin.firstCells]
  simp [Builtin.append_,run_underlying ht,sizeOf,typeInfo,hi,Builtin.lenOf,Builtin.firstCells,Hk,storeCells]
 obtain ⟨v',w',Hf,h2,h3,_,h5⟩:=run_append_own_at (P:=Tryd.prog) w base t ty e i z size bytes ht hi hz Hh Hi Hj Hg v n xs Ha ad m c news hl Hc h1 He Hb Hd
 exact ⟨v',w',Hf,h2,h3,h5⟩
theorem zHt {o:Oper} {a:Act} {K:Act->World->Prop} {Q:Exit->Act->World->Prop} (s x:Operand) (t:TypeId)
 (ho:o.op=.call { callee:=.builtin .append,args:=#[s,x],argTypes:=#[t,t] }) {e:TypeId} {size bytes:Nat} (hE:ElT t e size bytes) (base:Nat) (v:Value) (n:Nat) (xs:List Value) (hs:a.eval s=v) (Hc:w.ownsRow base e size v n xs)
 (xv:Value) (m:Nat) (news:List Value) (Hf:a.eval x=xv) (hx:Src1 w size xv m news) (h1:∀ u ∈ news,u.oneCell'=true) (Hd:n+m<=maxLen) (Ha:(n+m)*bytes<=140737488355328) (Hb:base<=w.heap.size)
 (h:∀ v' w',w'.ownsRow base e size v' (n+m) (xs ++ news)->w.grownBy w' v.ownBlock->(v'.ownBlock=v.ownBlock\/v'.ownBlock=some w.heap.size)->K (a.put o.dst v') w'):o.wp Tryd.prog a w K Q:=by
 obtain ⟨v',w',He,h2,h3,h4⟩:=zYg w (ty:=o.type) hE base v n xs Hc xv m news hx h1 Hd Ha Hb
 unfold Oper.wp execOp
 simp only [ho,resolve,invoke,builtin,Sem.run_bind,Sem.run_pure,Result.andThen_ok,List.map_toArray,List.map_cons,List.map_nil,hs,Hf,He]
 exact h v' w' h2 h3 h4
theorem zBc {ops:Array Oper} {rest:List Oper} {o:Oper} {a:Act} {Q:Exit->Act->World->Prop} (He:o.guard=none) (s x:Operand) (t:TypeId)
 (ho:o.op=.call { callee:=.builtin .append,args:=#[s,x],argTypes:=#[t,t] }) {e:TypeId} {size bytes:Nat} (hE:ElT t e size bytes) (base:Nat) (v:Value) (n:Nat) (xs:List Value) (hs:a.eval s=v) (Hc:w.ownsRow base e size v n xs)
 (xv:Value) (m:Nat) (news:List Value) (Hf:a.eval x=xv) (hx:Src1 w size xv m news) (h1:∀ u ∈ news,u.oneCell'=true) (Hd:n+m<=maxLen) (Ha:(n+m)*bytes<=140737488355328) (Hb:base<=w.heap.size)
 (h:∀ v' w',w'.ownsRow base e size v' (n+m) (xs ++ news)->w.grownBy w' v.ownBlock->(v'.ownBlock=v.ownBlock\/v'.ownBlock=some w.heap.size)->wpList Tryd.prog ops Q rest (a.put o.dst v') w'):wpList Tryd.prog ops Q (o :: rest) a w :=
 wpList_plain He fun _ hK=>zHt w s x t ho hE base v n xs hs Hc xv m news Hf hx h1 Hd Ha Hb fun v' w' h2 h3 h4=>hK _ _ (h v' w' h2 h3 h4)
theorem zDv {ops:Array Oper} {o:Oper} {a:Act} {K:Act->World->Prop} {Q:Exit->Act->World->Prop} {E:Prop} (He:o.guard=none) (s x:Operand) (t:TypeId)
 (ho:o.op=.call { callee:=.builtin .append,args:=#[s,x],argTypes:=#[t,t] }) {e:TypeId} {size bytes:Nat} (hE:ElT t e size bytes) (base:Nat) (v:Value) (n:Nat) (xs:List Value) (hs:a.eval s=v) (Hc:w.ownsRow base e size v n xs)
 (xv:Value) (m:Nat) (news:List Value) (Hf:a.eval x=xv) (hx:Src1 w size xv m news) (h1:∀ u ∈ news,u.oneCell'=true) (Hd:n+m<=maxLen) (Ha:(n+m)*bytes<=140737488355328) (Hb:base<=w.heap.size)
 (h:∀ v' w',w'.ownsRow base e size v' (n+m) (xs ++ news)->w.grownBy w' v.ownBlock->(v'.ownBlock=v.ownBlock\/v'.ownBlock=some w.heap.size)->K (a.put o.dst v') w') :
 if Region.wanted o (yielded ops a.tmps)=true then Oper.wp Tryd.prog o a w K Q else E:=by
 have hw:Region.wanted o (yielded ops a.tmps)=true:=by simp [Region.wanted,He]
 rw [if_pos hw]
 exact zHt w s x t ho hE base v n xs hs Hc xv m news Hf hx h1 Hd Ha Hb h
end
theorem zAg {w:World} {base:Nat} {e:TypeId} {size n:Nat} {v:Value} {xs:List Value} (h:w.ownsRow base e size v n xs) :
 ∃ A c,v=.slice A n c/\n<=c/\(A=none->n=0/\c=0)/\Rd w 0 e A xs/\(∀ g,v.ownBlock=some g->base<=g/\g < w.heap.size):=by
 have Ha:=h.lt
 obtain ⟨hl,⟨rfl,rfl⟩ | ⟨g,cap,cur,rfl,hb,hh,Hb,_,Hd,ht⟩⟩:=h
 ·have hx:xs=[]:=List.eq_nil_of_length_eq_zero (by simpa using hl)
  subst hx
  exact ⟨none,0,rfl,mC _,fun _=>⟨rfl,rfl⟩,Rd.nil,Ha⟩
 refine ⟨_,cap,rfl,Hb,(fun e=>by cases e),?_,Ha⟩
 have hg:g < w.heap.size:=by
  rcases Nat.lt_or_ge g w.heap.size with h | h
  ·exact h
  rw [Array.getElem?_eq_none h] at hh;cases hh
 refine .inr ⟨g,0,rfl,hg,.inr ⟨cur,_,hh⟩,fun j u hj=>?_⟩
 have Hc:j < n*size:=by
  have:j < xs.length:=by
   rcases Nat.lt_or_ge j xs.length with h | h
   ·exact h
   rw [List.getElem?_eq_none h] at hj;cases hj
  omega
 simp only [World.cell?,hh,Nat.zero_add]
 rw [<- ht,List.getElem?_take_of_lt Hc] at hj
 simpa using hj
theorem zLl:ElT 42 9 1 16:=by
 obtain ⟨i,h1,h2,h3,h4⟩:=info_parts (P:=Tryd.prog) (e:=9) (z:=.string ⟨#[]⟩) (size:=1) (bytes:=16) (by kernel_rfl)
 exact ⟨Tryd.underlying42,by omega,i,_,h1,h2,h3,h4,rfl⟩
theorem zLm:ElT 26 42 1 24:=by
 obtain ⟨i,h1,h2,h3,h4⟩:=info_parts (P:=Tryd.prog) (e:=42) (z:=.slice none 0 0) (size:=1) (bytes:=24) (by kernel_rfl)
 exact ⟨Tryd.underlying26,by omega,i,_,h1,h2,h3,h4,rfl⟩
theorem zLn {w:World} {B:Nat} {t:TypeId} {cs:List Value} (h:Rd w B t none cs):cs=[]:=by
 rcases h with h | ⟨g,o,h1,_⟩
 ·exact h
 cases h1
theorem zLo {w:World} {e:TypeId} {size:Nat} {base:Nat} (hb:base<=w.heap.size):(w.alloc (.cells #[] e)).ownsRow base e size (.slice (some ⟨w.heap.size,0,none⟩) 0 0) 0 [] :=
 World.ownsRow_made w #[] 0 hb (mE _) (by simp)
theorem zPm (xs:List Scu.Str):∀ u ∈ xs.map Value.string,u.oneCell'=true:=fun u hu=>by
 obtain ⟨s,_,rfl⟩:=List.mem_map.1 hu
 rfl
theorem zEw {w w':World} {row:Option Nat} (hg:w.grownBy w' row) {B:Nat} (hB:B<=w.heap.size) (hr:∀ k,row=some k->B<=k):Below B w w' :=
 (mG B w).grown hg hB hr
theorem zAl (v:Value) (xs:List Scu.Str) (w:World) (B:Nat) (hv:IsStrs w B v xs) :
 Calls Tryd.prog 32 #[v] w fun e w'=>(∃ u,e=.returned u/\w'.ownsRow w.heap.size 9 1 u xs.length (xs.map Value.string))/\Below w.heap.size w w':=by
 obtain ⟨⟨A,c,rfl,He,hr⟩,hl,he⟩:=hv
 have Hb:=fun (W:World)=>Lib.run_eql_slice_nil (P:=Tryd.prog) W 42 9 A xs.length c 0 0 Tryd.underlying42
 rcases A with _ | ad
 ·have hx:xs=[]:=by
   have:=zLn hr
   simpa using this
  subst hx
  have Hc:=fun (W:World)=>Lib.run_eql_slice_nil (P:=Tryd.prog) W 42 9 none 0 c 0 0 Tryd.underlying42
  clear Hb
  go_enter Tryd.func32,Tryd.ntmps32
  go_wp2
  go_ret
  exact ⟨⟨_,rfl,World.ownsRow_nil _ _ _ _⟩,mG _ _⟩
 have Hd:=hl
 unfold R47 at Hd
 go_enter Tryd.func32,Tryd.ntmps32
 go_wp2_with (at_builtin;refine zBc _ rfl _ _ 42 rfl zLl w.heap.size _ 0 [] rfl (zLo (mC _)) _ xs.length (xs.map Value.string) rfl ?c1 (zPm xs) (by unfold maxLen;omega) (by omega) (by simp) ?_)
 case c1=>exact zGr (hr.alloc _) (by simp) (fun e=>by cases e)
 intro v1 w1 Ha hg hw
 have HO:=mA Ha
 have HW:=mA hw
 clear Ha hw
 go_wp2
 go_ret
 refine ⟨⟨_,rfl,HO.out⟩,?_⟩
 exact ((mG _ _).alloc (mC _) _).trans (zEw hg (by simp) (fun k hk=>by simp [Value.ownBlock] at hk;omega))
theorem zCv {w:World} {base:Nat} {v:Value} {xs:List Scu.Str} (h:w.ownsRow base 9 1 v xs.length (xs.map Value.string)) (h1:xs.length*16<=R47) (h2:∀ s ∈ xs,s.size<=R47):IsStrs w 0 v xs:=by
 obtain ⟨A,c,rfl,hc,_,hr,_⟩:=zAg h
 exact ⟨⟨_,_,rfl,hc,hr⟩,h1,h2⟩
theorem zAn {w:World} {base base':Nat} {e:TypeId} {size n:Nat} {v:Value} {xs:List Value} (h:w.ownsRow base e size v n xs) (hb:base'<=base):w.ownsRow base' e size v n xs:=by
 obtain ⟨h1,h2 | ⟨g,cap,cur,h2,h3,h4⟩⟩:=h
 ·exact ⟨h1,.inl h2⟩
 exact ⟨h1,.inr ⟨g,cap,cur,h2,by omega,h4⟩⟩
structure OwnVol (w:World) (base:Nat) (nv sv:Value) (x:Scu.Volume):Prop where
 now:w.ownsRow base 9 1 nv x.now.length (x.now.map Value.string)
 nowLen:x.now.length*16<=R47
 nowEach:∀ s ∈ x.now,s.size<=R47
 len:x.snaps.length*24<=R47
 snaps:∃ vs b,w.ownsRow base 42 1 sv x.snaps.length vs/\(∀ (j:Nat) (u:Value) (y:List Scu.Str),vs[j]? = some u->x.snaps[j]? = some y->IsStrs w 0 u y) /\
  (∀ g,nv.ownBlock=some g->g < b)/\(∀ u ∈ vs,∀ g,u.ownBlock=some g->b<=g)
theorem OwnVol.is {w:World} {base:Nat} {nv sv:Value} {x:Scu.Volume} (h:OwnVol w base nv sv x):IsVolume w 0 nv sv x:=by
 refine ⟨zCv h.now h.nowLen h.nowEach,?_⟩
 obtain ⟨vs,b,h1,h2,_,_⟩:=h.snaps
 obtain ⟨A,c,rfl,hc,_,hr,_⟩:=zAg h1
 exact ⟨⟨_,_,vs,rfl,hc,hr,by have:=h1.1;omega,h2⟩,h.len⟩
def CopyRel (w:World) (base bo b1:Nat) (nv:Value) (x:Scu.Volume) (k:Nat) (wr:World):Prop :=
 Blk wr (w.heap.size+1) 69 #[.slice none 0 0,.slice none 0 0]/\∃ sv vs,Blk wr bo 69 #[nv,sv]/\wr.ownsRow base 42 1 sv k vs/\(∀ (j:Nat) (u:Value) (y:List Scu.Str),vs[j]? = some u->x.snaps[j]? = some y->IsStrs wr 0 u y) /\
  (∀ u ∈ vs,∀ g,u.ownBlock=some g->b1<=g)/\wr.ownsRow base 9 1 nv x.now.length (x.now.map Value.string)/\(∀ g,nv.ownBlock=some g->g < b1)/\Below w.heap.size w wr
theorem zAa (w:World) (o:Obj):Below w.heap.size w (w.alloc o):=(mG _ _).alloc (mC _) o
theorem zAk {w w':World} {base:Nat} {e:TypeId} {size n:Nat} {v:Value} {xs:List Value} (h:w.ownsRow base e size v n xs) (hb:Below w.heap.size w w'):w'.ownsRow base e size v n xs :=
 h.kept (row:=none) ⟨hb.os,hb.tape,hb.output,hb.size,fun i hi _=>hb.block i hi⟩ (by cases hv:v.ownBlock with
  | none=>exact .inl rfl
  | some g=>exact .inr (by simp))
theorem zDd {w:World} {base:Nat} {e:TypeId} {size n:Nat} {v:Value} {xs:List Value} (h:w.ownsRow base e size v n xs) {g:Nat} (hg:v.ownBlock=some g):∃ C fz,w.heap[g]? = some (.cells C e fz):=by
 obtain ⟨_,⟨rfl,_⟩ | ⟨q,cap,cur,rfl,_,hh,_⟩⟩:=h
 ·cases hg
 simp only [Value.ownBlock,Option.some.injEq] at hg
 subst hg
 exact ⟨_,_,hh⟩
theorem zJh (w:World) (p:Addr) (u:Value):w.grownBy (w.setCell p u) (some p.block) :=
 ⟨rfl,rfl,rfl,by simp [World.setCell],fun i _ Ha=>Below.heap_setCell w p u i (fun e=>Ha (by rw [e]))⟩
theorem zSk {w wr w3 w4:World} {bo k:Nat} {nv sv u v4:Value} {x:Scu.Volume} {vs:List Value} {o:Obj} {y:List Scu.Str} (hw:w.heap.size+1 < bo) (Hs:Blk wr (w.heap.size+1) 69 #[.slice none 0 0,.slice none 0 0])
 (Hj:Blk wr bo 69 #[nv,sv]) (Hk:wr.ownsRow w.heap.size 42 1 sv k vs) (hy:x.snaps[k]? = some y)
 (Hl:(∀ (j:Nat) (u:Value) (y:List Scu.Str),vs[j]? = some u->x.snaps[j]? = some y->IsStrs wr 0 u y)/\(∀ u ∈ vs,∀ g,u.ownBlock=some g->bo<=g) /\
  wr.ownsRow w.heap.size 9 1 nv x.now.length (x.now.map Value.string)/\(∀ g,nv.ownBlock=some g->g < bo)/\Below w.heap.size w wr)
 (h3:Below wr.heap.size wr w3) (hu:w3.ownsRow wr.heap.size 9 1 u y.length (y.map Value.string)) (Hx:y.length*16<=R47) (Hy:∀ s ∈ y,s.size<=R47)
 (h4:w4.ownsRow w.heap.size 42 1 v4 (k+1) (vs ++ [u])) (hg:(w3.alloc o).grownBy w4 sv.ownBlock) :
 CopyRel w w.heap.size bo bo nv x (k+1) (w4.setCell ⟨bo,1,none⟩ v4):=by
 obtain ⟨Hm,Hn,Ht,Ho,Hh⟩:=Hl
 have Hz:=Hj.lt
 have Ka:=h3.size
 have Kb:=hg.size
 have Kg:(w3.alloc o).heap.size=w3.heap.size+1:=by simp
 have Hi:Below wr.heap.size wr (w3.alloc o):=h3.alloc Ka o
 have Hc:=zAk Hk Hi
 have Hb:Blk (w3.alloc o) bo 69 #[nv,sv]:=Hj.same Hi
 have Ha:∀ g C t fz,(w3.alloc o).heap[g]? = some (.cells C t fz)->t≠42->some g≠sv.ownBlock:=by
  intro g C t fz hh Kc Hp
  obtain ⟨C',fz',Hr⟩:=zDd Hc Hp.symm
  rw [hh] at Hr
  cases Hr
  exact Kc rfl
 have Hd:Blk w4 bo 69 #[nv,sv]:=(hg.block bo (by omega) (Ha _ _ _ _ Hb (by decide))).trans Hb
 have He:∀ g,g < (w3.alloc o).heap.size->(g < 0\/∃ C fz,(w3.alloc o).heap[g]? = some (.cells C 9 fz))->(w4.setCell ⟨bo,1,none⟩ v4).heap[g]? = (w3.alloc o).heap[g]?:=by
  rintro g Hu (h0 | ⟨C,fz,hh⟩)
  ·omega
  have Kd:g≠bo:=by
   rintro rfl
   have:=Hb
   unfold Blk at this
   rw [hh] at this
   cases this
  exact (Below.heap_setCell w4 _ v4 g Kd).trans (hg.block g Hu (Ha _ _ _ _ hh (by decide)))
 have Hv:(w3.alloc o).heap.size<=(w4.setCell ⟨bo,1,none⟩ v4).heap.size:=by simpa [World.setCell] using Kb
 have Hf:=zAk Ht Hi
 have Hg:Blk (w3.alloc o) (w.heap.size+1) 69 #[.slice none 0 0,.slice none 0 0]:=Hs.same Hi
 have Hq:Blk w4 (w.heap.size+1) 69 #[.slice none 0 0,.slice none 0 0]:=(hg.block _ (by omega) (Ha _ _ _ _ Hg (by decide))).trans Hg
 refine ⟨Hq.far (by simp;omega) v4,v4,vs ++ [u],Hd.set_ 1 v4,?_,?_,?_,?_,Ho,?_⟩
 ·refine h4.kept (zJh _ _ _) (.inr fun Hp=>?_)
  obtain ⟨C',fz',Hr⟩:=zDd h4 Hp
  have:=Hd
  unfold Blk at this
  rw [Hr] at this
  cases this
 ·intro j v z hv hz
  have hl:vs.length=k:=by simpa using Hk.1
  rcases Nat.lt_or_ge j vs.length with hj | hj
  ·rw [List.getElem?_append_left hj] at hv
   exact ((Hm j v z hv hz).below Hi).keep Hv He
  have Ke:j=vs.length:=by
   rcases Nat.lt_or_ge vs.length j with h | h
   ·rw [List.getElem?_eq_none (by simp;omega)] at hv;cases hv
   omega
  subst Ke
  rw [List.getElem?_append_right (mC _)] at hv
  simp only [Nat.sub_self,List.getElem?_cons_zero,Option.some.injEq] at hv
  subst hv
  rw [hl,hy] at hz
  cases hz
  exact ((zCv hu Hx Hy).alloc o).keep Hv He
 ·intro v hv g Hw
  rcases List.mem_append.1 hv with h | h
  ·exact Hn v h g Hw
  rw [List.mem_singleton] at h
  subst h
  have:=(hu.lt g Hw).1
  omega
 ·have Kf:=Hf.kept hg (by
   cases hnb:nv.ownBlock with
   | none=>exact .inl rfl
   | some q =>
     obtain ⟨C,fz,hh⟩:=zDd Hf hnb
     exact .inr (Ha q C _ fz hh (by decide)))
  refine Kf.kept (zJh _ _ _) (.inr fun Hp=>?_)
  have:=Ho _ Hp
  simp at this
 refine Below.setCell ?_ (show w.heap.size<=bo by omega) v4
 exact (Hh.trans (Hi.mono Hh.size)).grown hg (by have:=Hh.size;omega) (fun q hq=>(Hc.lt q hq).1)
theorem zMy {w wr w3 w4:World} {bo k:Nat} {nv sv:Value} {vs:List Value} {o:Obj}
 (Hb:Blk wr bo 69 #[nv,sv]) (Hc:wr.ownsRow w.heap.size 42 1 sv k vs)
 (h3:Below wr.heap.size wr w3) (hg:(w3.alloc o).grownBy w4 sv.ownBlock):Blk w4 bo 69 #[nv,sv]:=by
 have He:=h3.size
 have Hf:=Hb.lt
 have Hi:(w3.alloc o).heap.size=w3.heap.size+1:=by simp
 have Hd:Below wr.heap.size wr (w3.alloc o):=h3.alloc He o
 have Ha:Blk (w3.alloc o) bo 69 #[nv,sv]:=Hb.same Hd
 refine (hg.block bo (by omega) fun Hg=>?_).trans Ha
 obtain ⟨C',fz',Hh⟩:=zDd (zAk Hc Hd) Hg.symm
 have:=Ha
 unfold Blk at this
 rw [Hh] at this
 cases this
theorem zFk {w:World} {base:Nat} {e:TypeId} {size n:Nat} {v:Value} {xs:List Value} (h:w.ownsRow base e size v n xs) {g i:Nat} {t:TypeId} {cs:Array Value} (hb:Blk w g t cs) (Ha:t≠e) (u:Value):(w.setCell ⟨g,i,none⟩ u).ownsRow base e size v n xs:=by
 refine h.kept (zJh _ _ _) (.inr fun hg=>?_)
 obtain ⟨C,fz,hh⟩:=zDd h hg
 unfold Blk at hb
 rw [hh] at hb
 cases hb
 exact Ha rfl
theorem OwnVol.set_ {w:World} {base:Nat} {nv sv:Value} {x:Scu.Volume} (h:OwnVol w base nv sv x) {g i:Nat} {t:TypeId} {cs:Array Value} (hb:Blk w g t cs) (h1:t≠9) (h2:t≠42) (u:Value):OwnVol (w.setCell ⟨g,i,none⟩ u) base nv sv x:=by
 refine ⟨zFk h.now hb h1 u,h.nowLen,h.nowEach,h.len,?_⟩
 obtain ⟨vs,b,h3,h4,h5⟩:=h.snaps
 refine ⟨vs,b,zFk h3 hb h2 u,fun j v y hv hy=>(h4 j v y hv hy).keep (by simp [World.setCell]) ?_,h5⟩
 rintro q hq (h0 | ⟨C,fz,hh⟩)
 ·omega
 refine Below.heap_setCell w _ u q fun e=>?_
 have e':q=g:=e
 subst e'
 unfold Blk at hb
 rw [hh] at hb
 cases hb
 exact h1 rfl
theorem zCm (nv sv:Value) (x:Scu.Volume) (w:World) (B:Nat) (hv:IsVolume w B nv sv x) :
 Calls Tryd.prog 55 #[.agg #[nv,sv]] w fun e w'=>(∃ nu su,e=.returned (.agg #[nu,su])/\OwnVol w' w.heap.size nu su x)/\Below w.heap.size w w':=by
 obtain ⟨⟨A,c,vs0,rfl,_,hr,Hx,Hy⟩,hl⟩:=hv.snaps
 obtain ⟨A1,m1,d1,rfl⟩:=hv.now.form
 have Ke:=mA Hx
 have Kf:=mA Hy
 clear Hx Hy
 unfold R47 at hl
 go_enter Tryd.func55,Tryd.ntmps55
 go_wp2_with fail
 refine (zAl _ _ _ B ((hv.now.alloc _).alloc _)).mono ?_;rintro e w1 ⟨⟨u,rfl,hu⟩,h1⟩
 obtain ⟨hc,hz⟩:=bcell h1
 have Kg:w.heap.size+1 < w1.heap.size:=by have:=h1.size;simp at this;omega
 have Kh:w.heap.size < w1.heap.size:=by omega
 obtain ⟨A2,c2,rfl,_,_,_,Hm⟩:=zAg hu
 have Hz:Below w.heap.size w w1:=(((mG _ _).alloc (mC _) _).alloc (by simp) _).trans (h1.mono (by simp;omega))
 have HU:=mA hu
 have Hs:=mA Hm
 clear hu Hm
 go_wp2_with fail
 go_loopw [13] (fun i wr=>∃ k:Nat,k<=x.snaps.length/\i=.int .i64 k/\CopyRel w w.heap.size w1.heap.size w1.heap.size (.slice A2 x.now.length c2) x k wr) (fun i _=>x.snaps.length - (intOf i).toNat)
 case atStart =>
  refine ⟨0,mE _,rfl,((Blk.new' (by simp)).same h1).alloc _,.slice none 0 0,[],Blk.new w1 _ _,World.ownsRow_nil _ _ _ _,fun j u y h=>by simp at h,fun u hu=>by simp at hu,?_,?_,Hz.alloc Hz.size _⟩
  ·exact (zAn HU.out (by simp;omega)).alloc _
  intro g hg;exact (Hs.out g hg).2
 case round =>
  obtain ⟨k,hk,rfl,Hc,svk,vs,Ha,He,Hh,Hi,Hn,Ho,Hd⟩:=hrel
  have Hj:=mA Hc
  have Ki:=Hc.cell 0
  have Kj:=Hc.cell 1
  have Ky:=Hc.frozen
  have Kk:=Hc.lt
  simp only [List.getElem?_toArray,List.getElem?_cons_zero,List.getElem?_cons_succ] at Ki Kj
  clear Hc
  have Hb:=mA (mB Hh (mB Hi (mB Hn (mB Ho Hd))))
  have Hk:=mA Hd
  have Kl:=Hd.size
  clear Hh Hi Hn Ho
  by_cases Ka:k < x.snaps.length
  ·have Km:(k:Int) < (x.snaps.length:Int):=by omega
   obtain ⟨g,o,p,rfl,hg,Hp,hp⟩:=zPi hr Ke.out Kf.out Ka
   have Kz:wr.cell? ⟨g,o+k,none⟩=some p:=cW Hd hg Hp
   have Hr:=Ha.cell 1
   have Kb:=Ha.frozen 1
   have Hg:=Ha.lt
   have Kc:IsStrs wr B p x.snaps[k]:=hp.below Hd
   simp only [List.getElem?_toArray,List.getElem?_cons_zero,List.getElem?_cons_succ] at Hr
   have Hf:=mA He
   have Hl:=mA Ha
   clear He Ha Hd
   have Kn:=mA Kc
   clear Kc
   go_wp2_with fail
   have HP:=mA hp
   clear hp
   go_region_law (first
    | (go_simp;go_at_call 32;refine (zAl _ _ _ _ (Kn.out.drewN 1)).mono ?_;rintro e w3 ⟨⟨u3,rfl,Hq⟩,h3⟩;have h3:Below wr.heap.size wr w3:=(below_drewN (mG _ _) 1).trans h3;obtain ⟨A3,c3,rfl,_,_,_,_⟩:=zAg Hq;have Hq:w3.ownsRow wr.heap.size 9 1 _ _ _:=Hq;have Ko:=mA Hq;clear Hq;have Kp:=(((bcell h3).1 w1.heap.size 1 (by simpa using Hg)).trans Hr);have Va:=(((bcell h3).2 w1.heap.size 1 (by simpa using Hg)).trans Kb);have Kq:=h3.size;have Kr:∀ o,(w3.alloc o).cell? ⟨w1.heap.size,1,none⟩=some svk:=fun o=>(((zAa w3 o).cell (p:=⟨w1.heap.size,1,none⟩) (mF Hg h3.size)).trans Kp))
    | (refine zDv _ rfl (.tmp 18) (.tmp 21) 26 rfl zLm w.heap.size svk k vs rfl ((zAk Hf.out h3).alloc _) (.slice (some ⟨w3.heap.size,0,none⟩) 1 1) 1 [.slice A3 x.snaps[k].length c3] rfl ⟨rfl,.inr ⟨_,_,rfl,?_⟩⟩ ?_ ?_ ?_ ?_ ?_
       ·intro j v hj
        have Ks:j=0:=by (rcases j with _ | j <;> simp at hj ⊢)
        subst Ks
        simp at hj
        subst hj
        exact (Blk.new w3 _ _).cell 0
       ·(intro v hv;rw [List.mem_singleton] at hv;subst hv;rfl)
       ·(unfold maxLen;omega)
       ·omega
       ·(simp;have:wr.heap.size<=w3.heap.size:=Kq;omega)
       intro v4 w4 h4 Ht _
       have Kd:=zSk Kg Hj.out Hl.out Hf.out (mH Ka) Hb.out h3 Ko.out HP.out.len HP.out.each h4 Ht
       have Hu:=zMy Hl.out Hf.out h3 Ht
       have Kt:=Hu.cell 1
       have Vb:=Hu.frozen 1
       simp only [List.getElem?_toArray,List.getElem?_cons_zero,List.getElem?_cons_succ] at Kt
       obtain ⟨A4,c4,rfl,_,_,_,_⟩:=zAg h4
       have Ku:=mA Kd
       clear Kd h4 Ht Hu))
   all_goals (go_wp2;go_roundw)
   all_goals first
    | exact ⟨k+1,by omega,rfl,Ku.out⟩
    | (simp [intOf];omega)
  have Kv:k=x.snaps.length:=by omega
  subst Kv
  have Hr:=Ha.cell 0
  have Kw:=Ha.cell 1
  have Kb:=Ha.frozen
  have Hg:=Ha.lt
  simp only [List.getElem?_toArray,List.getElem?_cons_zero,List.getElem?_cons_succ] at Hr Kw
  obtain ⟨A4,c4,rfl,_,_,_,_⟩:=zAg He
  have Hf:=mA He
  have Hl:=mA Ha
  have HL:=mA hl
  clear He Ha hl
  have Vc:w1.heap.size≠w.heap.size+1:=by omega
  have Hv:=Hj.out.set_ 0 (.slice A2 x.now.length c2)
  have Hw:=Hv.set_ 1 (.slice A4 x.snaps.length c4)
  have u0:=Hw.cell 0
  have u1:=Hw.cell 1
  simp at u0 u1
  have HV:OwnVol wr w.heap.size (.slice A2 x.now.length c2) (.slice A4 x.snaps.length c4) x :=
   ⟨Hb.out.2.2.1,hv.now.len,hv.now.each,HL.out,vs,w1.heap.size,Hf.out,Hb.out.1,Hb.out.2.2.2.1,Hb.out.2.1⟩
  have Kx:=mA ((HV.set_ (i:=0) Hj.out (by decide) (by decide) (.slice A2 x.now.length c2)).set_ (i:=1) Hv (by decide) (by decide) (.slice A4 x.snaps.length c4))
  clear HV Hv Hw
  go_wp2
  refine bodyPost_ret (v:=.agg #[.slice A2 x.now.length c2,.slice A4 x.snaps.length c4]) (by simp [results,Tryd.results55,go_sem,u0,u1]) rfl ?_
  exact ⟨⟨_,_,rfl,Kx.out⟩,(Hk.out.setCell (p:=⟨w.heap.size+1,0,none⟩) (by simp) _).setCell (p:=⟨w.heap.size+1,1,none⟩) (by simp) _⟩
open Go.RowKit
theorem IsVolume.at_ {w w':World} {B:Nat} {nv sv:Value} {x:Scu.Volume} (h:IsVolume w B nv sv x) (hb:Below w.heap.size w w'):IsVolume w' B nv sv x:=h.below hb
open Go.RowKit Go.ChangeShapes Go.WideShapes Go.ChangeAt
structure Same (Ts:List TypeId) (B:Nat) (w w':World):Prop where
 size:w.heap.size<=w'.heap.size
 keep:∀ g,g < w.heap.size->(g < B\/∃ C fz t,t ∈ Ts/\w.heap[g]? = some (.cells C t fz))->w'.heap[g]? = w.heap[g]?
section
variable {Ts Ts':List TypeId} {B B':Nat} {w w' w2:World}
theorem Same.refl (Ts:List TypeId) (B:Nat) (w:World):Same Ts B w w:=⟨mC _,fun _ _ _=>rfl⟩
theorem Same.trans (h:Same Ts B w w') (k:Same Ts B w' w2):Same Ts B w w2 :=
 ⟨mD h.size k.size,fun g hg hh=>by
  have e:=h.keep g hg hh
  rw [<- e]
  refine k.keep g (mF hg h.size) ?_
  rw [e];exact hh⟩
theorem Same.mono (h:Same Ts B w w') (hT:∀ t ∈ Ts',t ∈ Ts) (hB:B'<=B):Same Ts' B' w w' :=
 ⟨h.size,fun g hg hh=>h.keep g hg (hh.imp (fun h=>mF h hB) fun ⟨C,fz,t,ht,e⟩=>⟨C,fz,t,hT t ht,e⟩)⟩
theorem Same.below (h:Below w.heap.size w w'):Same Ts B w w':=⟨h.size,fun g hg _=>h.block g hg⟩
theorem Same.drew (w:World):Same Ts B w w.drew:=⟨mC _,fun _ _ _=>rfl⟩
theorem Same.drewN (w:World) (n:Nat):Same Ts B w (w.drewN n):=⟨mC _,fun _ _ _=>rfl⟩
theorem Same.alloc (w:World) (o:Obj):Same Ts B w (w.alloc o):=⟨by simp,fun g hg _=>Below.heap_alloc w o g hg⟩
theorem Same.setCell {p:Addr} {C:Array Value} {t':TypeId} {fz:Nat × Nat} (hp:w.heap[p.block]? = some (.cells C t' fz)) (hB:B<=p.block) (ht:t' ∉ Ts) (u:Value):Same Ts B w (w.setCell p u) :=
 ⟨by simp [World.setCell],fun g _ hh=>Below.heap_setCell w p u g (by
  rintro rfl
  rcases hh with hh | ⟨C',fz',t,ht',hh⟩
  ·omega
  rw [hp] at hh;cases hh;exact ht ht')⟩
theorem Same.set_ {g:Nat} {cs:Array Value} {t':TypeId} (hp:Blk w g t' cs) (hB:B<=g) (ht:t' ∉ Ts) (i:Nat) (u:Value):Same Ts B w (w.setCell ⟨g,i,none⟩ u):=Same.setCell (p:=⟨g,i,none⟩) (C:=cs) (fz:=(0,0)) hp hB ht u
theorem Same.grown {row:Option Nat} (hg:w.grownBy w' row) (hr:∀ g,row=some g->B<=g/\∃ C fz t',t' ∉ Ts/\w.heap[g]? = some (.cells C t' fz)):Same Ts B w w' :=
 ⟨hg.size,fun g hlt hh=>hg.block g hlt fun e=>by
  obtain ⟨h1,C,fz,t',h2,h3⟩:=hr g e.symm
  rcases hh with hh | ⟨C',fz',t,ht',hh⟩
  ·omega
  rw [h3] at hh;cases hh;exact h2 ht'⟩
theorem Same.own {base:Nat} {e:TypeId} {size n:Nat} {v:Value} {xs:List Value} (h:w.ownsRow base e size v n xs) (hg:w.grownBy w' v.ownBlock) (hB:B<=base) (ht:e ∉ Ts):Same Ts B w w' :=
 Same.grown hg fun g hv=>by
  obtain ⟨C,fz,hh⟩:=zDd h hv
  have:=(h.lt g hv).1
  exact ⟨by omega,C,fz,e,ht,hh⟩
theorem Rd.same {t:TypeId} {A:Option Addr} {cs:List Value} (h:Rd w B t A cs) (ht:t ∈ Ts) (hs:Same Ts B w w'):Rd w' B t A cs :=
 h.keep hs.size fun g hg hh=>hs.keep g hg (hh.imp id fun ⟨C,fz,e⟩=>⟨C,fz,t,ht,e⟩)
theorem IsStrs.same {v:Value} {xs:List Scu.Str} (h:IsStrs w B v xs) (ht:9 ∈ Ts) (hs:Same Ts B w w'):IsStrs w' B v xs :=
 h.keep hs.size fun g hg hh=>hs.keep g hg (hh.imp id fun ⟨C,fz,e⟩=>⟨C,fz,_,ht,e⟩)
end
structure IsOnes {α:Type} (t:TypeId) (bytes:Nat) (f:α->Value) (w:World) (B:Nat) (v:Value) (xs:List α):Prop where
 ex:∃ A c,v=.slice A xs.length c/\xs.length<=c/\Rd w B t A (xs.map f)
 len:xs.length*bytes<=R47
section
variable {α:Type} {t:TypeId} {bytes:Nat} {f:α->Value} {w w':World} {B B':Nat} {v:Value} {xs:List α} {Ts:List TypeId}
theorem IsOnes.same (h:IsOnes t bytes f w B v xs) (ht:t ∈ Ts) (hs:Same Ts B w w'):IsOnes t bytes f w' B v xs:=⟨let ⟨A,c,h1,h2,h3⟩:=h.ex;⟨A,c,h1,h2,h3.same ht hs⟩,h.len⟩
theorem IsOnes.below (h:IsOnes t bytes f w B v xs) (hb:Below w.heap.size w w'):IsOnes t bytes f w' B v xs:=h.same (Ts:=[t]) (by simp) (Same.below hb)
theorem IsOnes.drewN (h:IsOnes t bytes f w B v xs) (n:Nat):IsOnes t bytes f (w.drewN n) B v xs:=⟨h.ex,h.len⟩
theorem IsOnes.alloc (h:IsOnes t bytes f w B v xs) (o:Obj):IsOnes t bytes f (w.alloc o) B v xs:=h.same (Ts:=[t]) (by simp) (Same.alloc w o)
theorem IsOnes.mono (h:IsOnes t bytes f w B v xs) (hB:B<=B'):IsOnes t bytes f w B' v xs:=⟨let ⟨A,c,h1,h2,h3⟩:=h.ex;⟨A,c,h1,h2,h3.mono hB⟩,h.len⟩
theorem IsOnes.form (h:IsOnes t bytes f w B v xs):∃ A n c,v=.slice A n c:=by
 obtain ⟨A,c,e,_⟩:=h.ex
 exact ⟨A,_,c,e⟩
theorem zLp {A:Option Addr} {k:Nat} (h:Rd w B t A (xs.map f)) (hk:k < xs.length):∃ g o,A=some ⟨g,o,none⟩/\g < w.heap.size/\w.cell? ⟨g,o+k,none⟩=some (f xs[k]):=h.get (by simp [hk])
end
structure IsRow {α:Type} (t:TypeId) (m bytes:Nat) (El:World->Nat->List Value->α->Prop) (w:World) (B:Nat) (v:Value) (xs:List α):Prop where
 ex:∃ (A:Option Addr) (c:Nat) (css:List (List Value)),v=.slice A xs.length c/\xs.length<=c/\css.length=xs.length/\(∀ cs ∈ css,cs.length=m)/\Rd w B t A css.flatten /\
  ∀ (j:Nat) (cs:List Value) (x:α),css[j]? = some cs->xs[j]? = some x->El w B cs x
 len:xs.length*bytes<=R47
theorem zEx {m:Nat} : ∀ {css:List (List Value)} (_:∀ cs ∈ css,cs.length=m) {k:Nat} {cs:List Value},css[k]? = some cs->∀ j,j < m->css.flatten[k*m+j]? = cs[j]?
 | [],_,k,cs,hk,_,_=>by simp at hk
 | c :: css,h,0,cs,hk,j,hj=>by
   simp only [List.getElem?_cons_zero,Option.some.injEq] at hk
   subst hk
   rw [List.flatten_cons,Nat.zero_mul,Nat.zero_add,List.getElem?_append_left (by rw [h c List.mem_cons_self];exact hj)]
 | c :: css,h,k+1,cs,hk,j,hj=>by
   have hc:=h c List.mem_cons_self
   rw [List.flatten_cons,List.getElem?_append_right (by rw [hc,Nat.succ_mul];omega),hc,show (k+1)*m+j - m=k*m+j from by rw [Nat.succ_mul];omega]
   exact zEx (fun x hx=>h x (List.mem_cons_of_mem _ hx)) (by simpa using hk) j hj
theorem zKs {m:Nat} : ∀ {css:List (List Value)} (_:∀ cs ∈ css,cs.length=m) {j:Nat} {u:Value},css.flatten[j]? = some u->∃ k i cs,css[k]? = some cs/\cs[i]? = some u/\i < m/\j=k*m+i
 | [],_,j,u,hj=>by simp at hj
 | c :: css,h,j,u,hj=>by
   have hc:=h c List.mem_cons_self
   rw [List.flatten_cons] at hj
   rcases Nat.lt_or_ge j m with hlt | hge
   ·rw [List.getElem?_append_left (by omega)] at hj
    exact ⟨0,j,c,rfl,hj,hlt,by omega⟩
   ·rw [List.getElem?_append_right (by omega),hc] at hj
    obtain ⟨k,i,cs,h1,h2,h3,h4⟩:=zKs (fun x hx=>h x (List.mem_cons_of_mem _ hx)) hj
    exact ⟨k+1,i,cs,by simpa using h1,h2,h3,by rw [Nat.succ_mul];omega⟩
theorem zBm {m:Nat} : ∀ {css:List (List Value)} (_:∀ cs ∈ css,cs.length=m),css.flatten.length=css.length*m
 | [],_=>by simp
 | c :: css,h=>by
   rw [List.flatten_cons,List.length_append,h c List.mem_cons_self,zBm (fun x hx=>h x (List.mem_cons_of_mem _ hx)),List.length_cons,Nat.succ_mul]
   omega
section
variable {α:Type} {t:TypeId} {m bytes:Nat} {El:World->Nat->List Value->α->Prop} {w w':World} {B B':Nat} {v:Value} {xs:List α} {Ts:List TypeId}
theorem IsRow.same (h:IsRow t m bytes El w B v xs) (ht:t ∈ Ts) (hs:Same Ts B w w') (hel:∀ cs x,El w B cs x->El w' B cs x):IsRow t m bytes El w' B v xs :=
 ⟨let ⟨A,c,css,h1,h2,h3,h4,h5,h6⟩:=h.ex;⟨A,c,css,h1,h2,h3,h4,h5.same ht hs,fun j cs x hj hx=>hel cs x (h6 j cs x hj hx)⟩,h.len⟩
theorem IsRow.mono (h:IsRow t m bytes El w B v xs) (hB:B<=B') (hel:∀ cs x,El w B cs x->El w B' cs x):IsRow t m bytes El w B' v xs :=
 ⟨let ⟨A,c,css,h1,h2,h3,h4,h5,h6⟩:=h.ex;⟨A,c,css,h1,h2,h3,h4,h5.mono hB,fun j cs x hj hx=>hel cs x (h6 j cs x hj hx)⟩,h.len⟩
theorem IsRow.form (h:IsRow t m bytes El w B v xs):∃ A n c,v=.slice A n c:=by
 obtain ⟨A,c,_,e,_⟩:=h.ex
 exact ⟨A,_,c,e⟩
theorem IsRow.nil_:IsRow t m bytes El w B (.slice none 0 0) []:=⟨⟨none,0,[],rfl,mC _,rfl,(fun cs h=>by simp at h),Rd.nil,(fun j cs x h=>by simp at h)⟩,by simp [R47]⟩
theorem zDo {A:Option Addr} {css:List (List Value)} {k:Nat} (hl:css.length=xs.length) (hm:∀ cs ∈ css,cs.length=m) (hpos:0 < m) (h:Rd w B t A css.flatten)
 (h6:∀ (j:Nat) (cs:List Value) (x:α),css[j]? = some cs->xs[j]? = some x->El w B cs x) (hk:k < xs.length) :
 ∃ g o cs,A=some ⟨g,o,none⟩/\g < w.heap.size/\cs.length=m/\(∀ j u,cs[j]? = some u->w.cell? ⟨g,o+(k*m+j),none⟩=some u)/\El w B cs xs[k]:=by
 have hkc:k < css.length:=by omega
 have hcs:=mH hkc
 have hml:=hm _ (List.getElem_mem hkc)
 have h0:css[k][0]? = some (css[k][0]'(by omega)):=mH (by omega)
 obtain ⟨g,o,hA,hg,_⟩:=h.get ((zEx hm hcs 0 hpos).trans h0)
 refine ⟨g,o,css[k],hA,hg,hml,fun j u hj=>?_,h6 k _ _ hcs (mH hk)⟩
 have hjm:j < m:=by
  rcases Nat.lt_or_ge j m with h | h
  ·exact h
  rw [List.getElem?_eq_none (by omega)] at hj;cases hj
 obtain ⟨g',o',hA',_,hc⟩:=h.get ((zEx hm hcs j hjm).trans hj)
 rw [hA] at hA'
 simp only [Option.some.injEq,Addr.mk.injEq,and_true] at hA'
 obtain ⟨rfl,rfl⟩:=hA'
 exact hc
end
section
variable {H:Type} {enc:TypeId × Value->H} {w:World} {base:Nat} {spare:Nat->Bool} {held:Bool} {n:Nat}
theorem zUm {α:Type} (d0:α) {t e:TypeId} {m bytes:Nat} {El:World->Nat->List Value->α->Prop} (ht:Tryd.prog.underlying t=some (.slice e)) (hm:Tryd.prog.cellsOf e=m) (hby:Tryd.prog.bytesOf e=bytes) (hpos:0 < m)
 (hel:∀ {n:Nat} {cs:List Value} {x:DataW H × List MemPlace},DataW.trod enc Tryd.prog w base spare held n e cs=some x->(∀ k ∈ x.1.weights Tryd.prog e,k<=reachBytes)->∃ a,El w w.heap.size cs a)
 {v:Value} {x:DataW H × List MemPlace} (h:DataW.trod enc Tryd.prog w base spare held n t [v]=some x) (hw:∀ k ∈ x.1.weights Tryd.prog t,k<=reachBytes):∃ xs,IsRow e m bytes El w w.heap.size v xs:=by
 rcases Go.Deep.open_slice ht h with ⟨e0,rfl⟩ | ⟨a,len,cap,mm,n',D,Pl,e0,hb,hl,hmx,hmm,rfl,hx⟩
 ·simp at e0;subst e0;exact ⟨[],IsRow.nil_⟩
 simp only [List.cons.injEq,and_true] at e0
 subst e0
 have hle:len<=mm:=by rw [hmm];split <;> omega
 have hwt:∀ k ∈ DataW.weights Tryd.prog t (DataW.slice ((List.range len).map D) ((List.range (mm - len)).map fun j=>D (len+j))),k<=reachBytes:=hw
 simp only [DataW.weights,ht,List.mem_cons,List.mem_append,hby] at hwt
 have hwl:=hwt _ (.inl rfl)
 simp only [List.length_map,List.length_range] at hwl
 have hall:∀ i,∃ p:List Value × α,i < len->w.cells? base (a.add (i*m)) m=some p.1/\El w w.heap.size p.1 p.2:=by
  intro i
  by_cases hi:i < len
  ·obtain ⟨cs,hc,htr⟩:=hx i (by omega)
   obtain ⟨y,hy⟩:=hel htr (fun k hk=>hwt k (.inr (.inl (zFx hk (List.mem_map.2 ⟨i,by simpa using hi,rfl⟩)))))
   exact ⟨(cs,y),fun _=>⟨by rw [hm] at hc;exact hc,hy⟩⟩
  exact ⟨([],d0),fun h=>absurd h hi⟩
 obtain ⟨f,hf⟩:=Classical.axiomOfChoice hall
 have hlen:∀ cs ∈ (List.range len).map (fun i=>(f i).1),cs.length=m:=by
  intro cs hcs
  obtain ⟨i,hi,rfl⟩:=List.mem_map.1 hcs
  exact (World.cells?_some (hf i (by simpa using hi)).1).2.1
 refine ⟨(List.range len).map (fun i=>(f i).2),⟨some a,cap,(List.range len).map (fun i=>(f i).1),by simp,by simpa using hl,by simp,hlen,?_,?_⟩,?_⟩
 ·rcases Nat.eq_zero_or_pos len with h0 | h0
  ·subst h0
   exact .inl (by simp)
  obtain ⟨_,hcl,hat⟩:=World.cells?_some (hf 0 h0).1
  have hc0:w.cell? ((a.add (0*m)).add 0)=some ((f 0).1[0]'(by omega)):=by rw [hat 0 hpos,mH (by omega)]
  rw [Nat.zero_mul,Go.Deep.add_add] at hc0
  obtain ⟨b,o,spot⟩:=a
  have hspot:spot=none:=by simpa [Addr.add] using World.cell?_spot hc0
  subst hspot
  have hbl:b < w.heap.size:=by
   rcases Nat.lt_or_ge b w.heap.size with h | h
   ·exact h
   simp [World.cell?,Addr.add,Array.getElem?_eq_none h] at hc0
  refine .inr ⟨b,o,rfl,hbl,.inl hbl,fun j u hj=>?_⟩
  obtain ⟨k,i,cs,h1,h2,h3,rfl⟩:=zKs hlen hj
  have hk':k < len:=by
   rcases Nat.lt_or_ge k len with h | h
   ·exact h
   rw [List.getElem?_eq_none (by simp;omega)] at h1;cases h1
  simp [hk'] at h1
  subst h1
  obtain ⟨_,_,hatk⟩:=World.cells?_some (hf k hk').1
  have:=hatk i h3
  rw [Go.Deep.add_add] at this
  have e2:(⟨b,o,none⟩:Addr).add (k*m+i)=⟨b,o+(k*m+i),none⟩:=by unfold Addr.add;split <;> simp_all
  rw [e2] at this
  rw [this,h2]
 ·intro j cs y hu hy
  have hj':j < len:=by
   rcases Nat.lt_or_ge j len with h | h
   ·exact h
   rw [List.getElem?_eq_none (by simp;omega)] at hu;cases hu
  simp [hj'] at hu hy
  subst hu hy
  exact (hf j hj').2
 have hrb:reachBytes=R47:=rfl
 simp only [List.length_map,List.length_range]
 rw [<- hrb]
 refine mD ?_ hwl
 exact Nat.mul_le_mul_right _ (by omega)
end
open Go.RowKit Go.ChangeShapes Go.WideShapes Go.ChangeAt
section
variable {H:Type} {enc:TypeId × Value->H} {w:World} {base:Nat} {spare:Nat->Bool} {held:Bool} {n:Nat}
end
def lastBad (l:Scu.Last):Bool:=decide (l.num < 0) || decide ((1048576:Int) < l.num)
theorem zOo (ls:List Scu.Last):Scu.lastsOk ls=(ls.length == 4 && !ls.any lastBad):=by
 unfold Scu.lastsOk
 rw [zOl ls lastBad _ (fun x _=>by unfold lastBad;rw [Bool.eq_iff_iff];simp)]
theorem zMz (l:Scu.Last) (w:World) :
 Calls Tryd.prog 72 #[.agg #[.int .i64 l.num,.int .i64 l.reply.code,.int .i64 l.reply.n,.string l.reply.data]] w fun e w'=>e=.returned (.bool (lastBad l))/\Below w.heap.size w w':=by
 cases h1:decide (l.num < 0) <;> cases h2:decide ((1048576:Int) < l.num)
 all_goals
  have HF:=mA (show lastBad l=_ from by unfold lastBad;rw [h1,h2])
  go_enter Tryd.func72,Tryd.ntmps72
  go_wp2
  go_ret
  exact ⟨zAb (zBt (by rw [HF.out];rfl)),(mG _ _).alloc (mC _) _⟩
theorem zNa (v:Value) (ls:List Scu.Last) (w:World) (B:Nat) (hv:IsLasts w B v ls) :
 Calls Tryd.prog 88 #[v,.func (.func 72) #[] #[]] w fun e w'=>IdxPost (ls.any lastBad) e/\Below w.heap.size w w':=by
 obtain ⟨⟨A,c,rfl,_,hr⟩,hl⟩:=hv
 unfold R47 at hl
 go_enter Tryd.func88,Tryd.ntmps88
 go_wp2
 go_loopw [8] (fun i wr=>∃ k:Nat,k<=ls.length/\i=.int .i64 k/\Hid ((ls.take k).any lastBad=false)/\Below w.heap.size w wr) (fun i _=>ls.length - (intOf i).toNat)
 case atStart=>exact ⟨0,mE _,rfl,by simp [Hid],mG _ _⟩
 case round =>
  obtain ⟨k,hk,rfl,ht,Ha⟩:=hrel
  have Hf:=hr.below Ha
  have He:=Ha.size
  by_cases Hb:k < ls.length
  ·have Hc:(k:Int) < (ls.length:Int):=by omega
   obtain ⟨g,o,rfl,hg,c0,c1,c2,c3⟩:=zGo Hf Hb
   cases hx:lastBad ls[k]
   ·have HX:=mA (show (ls.take (k+1)).any lastBad=false by rw [zGp _ ls k Hb,ht.out,hx];rfl)
    have Hd:=mA hx
    clear hx
    go_wp2_with fail
    refine (zMz _ _).mono ?_;rintro e w1 ⟨rfl,h1⟩;rw [Hd.out]
    go_wp2
    exact ⟨⟨k+1,Hb,by go_num,HX,Ha.trans (h1.mono He)⟩,by simp only [intOf];omega⟩
   have HX:=mA (zEk lastBad ls k Hb hx)
   have Hd:=mA hx
   clear hx
   go_wp2_with fail
   refine (zMz _ _).mono ?_;rintro e w1 ⟨rfl,h1⟩;rw [Hd.out]
   go_wp2
   go_ret
   exact ⟨⟨_,rfl,by rw [HX.out];simp⟩,Ha.trans (h1.mono He)⟩
  have Hc:(ls.length:Int)<=(k:Int):=by omega
  have HX:=mA (zGq _ ls k (by omega) ht.out)
  go_wp2
  go_ret
  exact ⟨⟨_,rfl,by rw [HX.out];rfl⟩,Ha⟩
theorem zFl (v:Value) (ls:List Scu.Last) (w:World) (B:Nat) (hv:IsLasts w B v ls) :
 Calls Tryd.prog 71 #[v,.func (.func 72) #[] #[]] w fun e w'=>e=.returned (.bool (ls.any lastBad))/\Below w.heap.size w w':=by
 have HC:=mA (zNa v ls w B hv)
 obtain ⟨A,n,c,rfl⟩:=hv.form
 clear hv
 go_enter Tryd.func71,Tryd.ntmps71
 go_wp2_with fail
 refine HC.out.mono ?_;rintro e w1 ⟨⟨r,rfl,hr⟩,h1⟩
 have HR:=mA hr
 clear hr
 go_wp2
 go_ret
 exact ⟨zAb (zBt HR.out),h1⟩
theorem zKf (x:Scu.State):Scu.stateFault x=if (((x.lasts.length:Int) != 4) || x.lasts.any lastBad)=true then 8 else Scu.volFault x.volume:=by
 unfold Scu.stateFault
 rw [zOo]
 have:((x.lasts.length:Int) != 4) = !(x.lasts.length == 4):=by rw [Bool.eq_iff_iff];simp;omega
 rw [this]
 cases (x.lasts.length == 4) <;> cases x.lasts.any lastBad <;> rfl
theorem zGf (nv sv lv:Value) (x:Scu.State) (w:World) (B:Nat) (hv:IsState w B nv sv lv x) :
 Calls Tryd.prog 54 #[.agg #[nv,sv,lv]] w fun e w'=>e=.returned (.int .i64 (Scu.stateFault x))/\Below w.heap.size w w':=by
 have hf:=zKf x
 have HV:=mA hv
 obtain ⟨A1,n1,c1,rfl⟩:=hv.vol.now.form
 obtain ⟨A2,n2,c2,rfl⟩:=hv.vol.snaps.form
 obtain ⟨⟨A,c,rfl,_,_⟩,hl⟩:=hv.lasts
 unfold R47 at hl
 clear hv
 cases h1:((x.lasts.length:Int) != 4)
 ·cases h2:x.lasts.any lastBad
  ·rw [h1,h2] at hf
   have HF:=mA (show Scu.stateFault x=Scu.volFault x.volume from hf)
   have H2:=mA h2
   clear hf h2
   go_enter Tryd.func54,Tryd.ntmps54
   go_wp2_with fail
   refine (zFl _ x.lasts _ B (HV.out.lasts.alloc _)).mono ?_;rintro e w1 ⟨rfl,h1⟩;rw [H2.out]
   obtain ⟨hc,hz⟩:=bcell h1
   have Hb:=zBu h1
   have Ha:=zAj h1
   go_wp2_with fail
   refine (zBq _ _ x.volume _ B (HV.out.vol.below Ha)).mono ?_;rintro e w2 ⟨rfl,h2⟩
   go_wp2
   go_ret
   exact ⟨zAb (zAd HF.out.symm),Ha.trans (h2.mono Ha.size)⟩
  rw [h1,h2] at hf
  have HF:=mA (show Scu.stateFault x=8 from hf)
  have H2:=mA h2
  clear hf h2
  go_enter Tryd.func54,Tryd.ntmps54
  go_wp2_with fail
  refine (zFl _ x.lasts _ B (HV.out.lasts.alloc _)).mono ?_;rintro e w1 ⟨rfl,h1⟩;rw [H2.out]
  go_wp2
  go_ret
  exact ⟨zAb (zAd HF.out.symm),zAj h1⟩
 rw [h1] at hf
 have HF:=mA (show Scu.stateFault x=8 from hf)
 clear hf
 go_enter Tryd.func54,Tryd.ntmps54
 go_wp2
 go_ret
 exact ⟨zAb (zAd HF.out.symm),(mG _ _).alloc (mC _) _⟩
open Go.RowKit Go.ChangeShapes Go.WideShapes Go.ChangeAt
def InI (n:Int):Prop:=-9223372036854775808<=n/\n<=9223372036854775807
def rawV (r:Scu.Raw):List Value:=[.int .i64 r.kind,.int .i64 r.a,.int .i64 r.b,.int .i64 r.c]
def RawIn (r:Scu.Raw):Prop:=InI r.kind/\InI r.a/\InI r.b/\InI r.c
def RawE (_:World) (_:Nat) (cs:List Value) (r:Scu.Raw):Prop:=cs=rawV r/\RawIn r
theorem zNb {n:Int} (h:(Lit.int .i64 n).wf=true):InI n:=by
 have h':IntKind.i64.min<=n/\n<=9223372036854775807:=by simpa [Lit.wf] using h
 have hm:IntKind.i64.min = -9223372036854775808:=by decide
 unfold InI
 omega
theorem zNc:Tryd.prog.cellsOf 83=4:=by kernel_rfl
theorem zSl:Tryd.prog.bytesOf 83=32:=by kernel_rfl
section
variable {H:Type} {enc:TypeId × Value->H} {w:World} {base:Nat} {spare:Nat->Bool} {held:Bool} {n:Nat}
theorem zUn {cs:List Value} {x:DataW H × List MemPlace} (h:DataW.trod enc Tryd.prog w base spare held n 83 cs=some x):∃ r,RawE w w.heap.size cs r:=by
 obtain ⟨xs,m,_,Hc,hl,Hb,hf⟩:=DataW.trod_struct Tryd.underlying83 h
 rw [zNc] at hl
 match cs,hl with
 | [c0,c1,c2,c3],_ =>
   have Ha:xs.length=4:=Hb
   match xs,Ha with
   | [z0,z1,z2,z3],_ =>
     obtain ⟨n0,h0,_,w0⟩:=DataW.trod_int Tryd.underlying3 (hf 0 _ rfl)
     obtain ⟨n1,h1,_,w1⟩:=DataW.trod_int Tryd.underlying3 (hf 1 _ rfl)
     obtain ⟨n2,h2,_,w2⟩:=DataW.trod_int Tryd.underlying3 (hf 2 _ rfl)
     obtain ⟨n3,h3,_,w3⟩:=DataW.trod_int Tryd.underlying3 (hf 3 _ rfl)
     simp [zSi] at h0 h1 h2 h3
     subst h0 h1 h2 h3
     exact ⟨⟨n0,n1,n2,n3⟩,rfl,zNb w0,zNb w1,zNb w2,zNb w3⟩
def IsRaws (w:World) (B:Nat) (v:Value) (l:List Scu.Raw):Prop:=IsRow 83 4 32 RawE w B v l
theorem zDh {v:Value} {d:DataW H} {p:List MemPlace} {b0:Nat} (hv:Value.okWide Tryd.prog w .any b0 22 v) (h:DataW.Trod enc Tryd.prog w base spare held 22 v d p)
 (hw:∀ k ∈ d.weights Tryd.prog 22,k<=reachBytes):∃ y,IsRaws w w.heap.size v y:=by
 obtain ⟨a,len,cap,rfl⟩:=okWide_slice Tryd.underlying22 hv
 obtain ⟨fuel,hf⟩:=h
 exact zUm (⟨0,0,0,0⟩:Scu.Raw) Tryd.underlying22 zNc zSl (by omega) (fun h _=>zUn h) hf hw
end
theorem IsRaws.below {w w':World} {B:Nat} {v:Value} {l:List Scu.Raw} (h:IsRaws w B v l) (hb:Below w.heap.size w w'):IsRaws w' B v l:=IsRow.same (Ts:=[83]) h (by simp) (Same.below hb) (fun _ _ h=>h)
theorem IsRaws.same {w w':World} {B:Nat} {v:Value} {l:List Scu.Raw} {Ts:List TypeId} (h:IsRaws w B v l) (ht:83 ∈ Ts) (hs:Same Ts B w w'):IsRaws w' B v l:=IsRow.same (Ts:=Ts) h ht hs (fun _ _ h=>h)
theorem zXk {w:World} {B:Nat} {v:Value} {l:List Scu.Raw} (h:IsRaws w B v l) {k:Nat} (hk:k < l.length) :
 ∃ g o c,v=.slice (some ⟨g,o,none⟩) l.length c/\g < w.heap.size/\(∀ j u,(rawV l[k])[j]? = some u->w.cell? ⟨g,o+(k*4+j),none⟩=some u)/\RawIn l[k]:=by
 obtain ⟨⟨A,c,css,rfl,hc,hl,hm,hr,h6⟩,_⟩:=h
 obtain ⟨g,o,cs,rfl,hg,_,Ha,rfl,Hb⟩:=zDo hl hm (by omega) hr h6 hk
 exact ⟨g,o,c,rfl,hg,Ha,Hb⟩
theorem IsRaws.form' {w:World} {B:Nat} {v:Value} {l:List Scu.Raw} (h:IsRaws w B v l):∃ A c,v=.slice A l.length c/\l.length<=c:=by
 obtain ⟨A,c,_,e,hc,_⟩:=h.ex
 exact ⟨A,c,e,hc⟩
theorem IsRaws.cell_at {w:World} {B g o c:Nat} {l:List Scu.Raw} (h:IsRaws w B (.slice (some ⟨g,o,none⟩) l.length c) l) {k:Nat} (hk:k < l.length) (j:Nat) (hj:j < 4):w.cell? ⟨g,o+k*4+j,none⟩=(rawV l[k])[j]?:=by
 obtain ⟨g',o',c',e,_,hc,_⟩:=zXk h hk
 cases e
 have hl:(rawV l[k])[j]? = some ((rawV l[k])[j]'(by simpa [rawV] using hj)):=mH _
 rw [hl,Nat.add_assoc]
 exact hc j _ hl
theorem zAt (n many:Int) (hn:InI n) (hm:1<=many) (Hb:many<=9223372036854775807) (w:World) :
 Calls Tryd.prog 14 #[.int .i64 n,.int .i64 many] w fun e w'=>e=.returned (.int .i64 (Scu.picked n many))/\w=w':=by
 obtain ⟨h0,h1⟩:=hn
 have HR:=mA (show Scu.picked n many=if n < 0 then (-(n+1)) % many else n % many by unfold Scu.picked;split <;> rfl)
 have Hc:¬ many=0:=by omega
 by_cases h:n < 0
 ·have Ha:=mA (show Scu.picked n many=(-(n+1)) % many by rw [HR.out,if_pos h])
  go_enter Tryd.func14,Tryd.ntmps14
  go_wp2
  go_ret
  refine ⟨?_,rfl⟩
  rw [Ha.out]
  show Ending.returned (.int .i64 (-((n+1).tmod many)))=_
  rw [<- Int.neg_tmod,Int.tmod_eq_emod_of_nonneg (by omega)]
 have Ha:=mA (show Scu.picked n many=n % many by rw [HR.out,if_neg h])
 go_enter Tryd.func14,Tryd.ntmps14
 go_wp2
 go_ret
 refine ⟨?_,rfl⟩
 rw [Ha.out]
 rfl
open Go.RowKit
theorem zUo {w:World} {base size n g c:Nat} {e:TypeId} {xs:List Value} (h:w.ownsRow base e size (.slice (some ⟨g,0,none⟩) n c) n xs) (j:Nat) (u:Value) :
 (w.setCell ⟨g,j,none⟩ u).ownsRow base e size (.slice (some ⟨g,0,none⟩) n c) n (xs.set j u):=by
 obtain ⟨hl,⟨h0,_⟩ | ⟨g',cap,cur,e1,hb,hh,Ha,hm,Hb,ht⟩⟩:=h
 ·cases h0
 cases e1
 have hB:Blk w g e cur:=hh
 refine ⟨by simp [hl],.inr ⟨g,c,cur.setIfInBounds j u,rfl,hb,hB.set_ j u,Ha,hm,by simpa using Hb,?_⟩⟩
 rw [Array.toList_setIfInBounds,List.take_set,ht]
theorem zGs {w w':World} {Ts:List TypeId} {B base:Nat} {e:TypeId} {size n:Nat} {v:Value} {xs:List Value} (h:w.ownsRow base e size v n xs) (ht:e ∈ Ts) (hs:Same Ts B w w'):w'.ownsRow base e size v n xs:=by
 obtain ⟨h1,h2 | ⟨g,cap,cur,rfl,h3,h4,h5⟩⟩:=h
 ·exact ⟨h1,.inl h2⟩
 have Ha:g < w.heap.size:=by
  rcases Nat.lt_or_ge g w.heap.size with Ha | Hb
  ·exact Ha
  rw [Array.getElem?_eq_none Hb] at h4;cases h4
 have:=hs.keep g Ha (.inr ⟨_,_,_,ht,h4⟩)
 exact ⟨h1,.inr ⟨g,cap,cur,rfl,h3,by rw [this];exact h4,h5⟩⟩
def putAt:List Value->Nat->List Value->List Value
 | l,_,[]=>l
 | l,o,v :: r=>putAt (l.set o v) (o+1) r
theorem zHu:∀ (vs:List Value) (l:List Value) (o:Nat),(putAt l o vs).length=l.length
 | [],_,_=>rfl
 | v :: r,l,o=>by rw [putAt,zHu r,List.length_set]
theorem zHl (a:Value):∀ (vs:List Value) (l:List Value) (o:Nat),putAt (a :: l) (o+1) vs=a :: putAt l o vs
 | [],_,_=>rfl
 | v :: r,l,o=>by rw [putAt,putAt,List.set_cons_succ,zHl a r]
theorem zDi:∀ (pre:List Value) (vs:List Value) (l:List Value) (o:Nat),putAt (pre ++ l) (pre.length+o) vs=pre ++ putAt l o vs
 | [],vs,l,o=>by simp
 | a :: pre,vs,l,o=>by
   rw [List.cons_append,List.length_cons,show pre.length+1+o=pre.length+o+1 by omega,zHl,zDi pre]
   rfl
theorem zDp:∀ (vs cs l:List Value),cs.length=vs.length->putAt (cs ++ l) 0 vs=vs ++ l
 | [],cs,l,h=>by simp at h;subst h;rfl
 | v :: r,[],l,h=>by simp at h
 | v :: r,c :: cs,l,h=>by
   rw [putAt,List.cons_append,List.set_cons_zero,zHl,zDp r cs l (by simpa using h)]
   rfl
theorem zGt {m:Nat} : ∀ {css:List (List Value)} (_:∀ cs ∈ css,cs.length=m) (k:Nat) (_:k < css.length) (vs:List Value) (_:vs.length=m),putAt css.flatten (k*m) vs=(css.set k vs).flatten
 | [],_,k,hk,_,_=>by cases hk
 | c :: css,h,0,_,vs,hv=>by
   rw [Nat.zero_mul,List.flatten_cons,zDp vs c _ (by rw [h c List.mem_cons_self,hv]),List.set_cons_zero,List.flatten_cons]
 | c :: css,h,k+1,hk,vs,hv=>by
   have hc:=h c List.mem_cons_self
   rw [List.flatten_cons,show (k+1)*m=c.length+k*m by rw [hc,Nat.succ_mul];omega,zDi,List.set_cons_succ,List.flatten_cons,
    zGt (fun x hx=>h x (List.mem_cons_of_mem _ hx)) k (by simpa using hk) vs hv]
section
variable {w w':World} {base size n g c:Nat} {e t:TypeId} {xs:List Value} {cur:Array Value} {Ts:List TypeId}
theorem zGu:∀ (vs:List Value) (o:Nat) (xs:List Value) (w:World),w.ownsRow base e size (.slice (some ⟨g,0,none⟩) n c) n xs->(w.setCells g o vs).ownsRow base e size (.slice (some ⟨g,0,none⟩) n c) n (putAt xs o vs)
 | [],_,_,_,h=>h
 | v :: r,o,xs,w,h=>zGu r (o+1) _ _ (zUo h o v)
theorem zPn:∀ (vs:List Value) (o:Nat) (w:World) (cur:Array Value),Blk w g t cur->∃ cur',Blk (w.setCells g o vs) g t cur'
 | [],_,_,cur,h=>⟨cur,h⟩
 | v :: r,o,w,cur,h=>zPn r (o+1) _ _ (h.set_ o v)
theorem zPo:∀ (vs:List Value) (o:Nat) (w:World) (xs:List Value),Blk w g t xs.toArray->Blk (w.setCells g o vs) g t (putAt xs o vs).toArray
 | [],_,_,_,h=>h
 | v :: r,o,w,xs,h=>by
   have:=h.set_ o v
   rw [List.setIfInBounds_toArray] at this
   exact zPo r (o+1) _ _ this
theorem zJi {vs xs:List Value} (h:Blk w g t xs.toArray) (hl:xs.length=vs.length):Blk (w.setCells g 0 vs) g t vs.toArray:=by
 have:=zPo vs 0 w xs h
 have e:putAt xs 0 vs=vs:=by
  have:=zDp vs xs [] hl
  simpa using this
 rwa [e] at this
theorem Same.sets:∀ (vs:List Value) (o:Nat) (w:World) (cur:Array Value),Blk w g t cur->t ∉ Ts->Same Ts 0 w (w.setCells g o vs)
 | [],_,w,_,_,_=>Same.refl _ _ _
 | v :: r,o,w,cur,h,ht=>(Same.set_ h (mE _) ht o v).trans (Same.sets r (o+1) _ _ (h.set_ o v) ht)
theorem zAh {B:Nat} (hB:B<=g):∀ (vs:List Value) (o:Nat) (w0 w:World),Below B w0 w->Below B w0 (w.setCells g o vs)
 | [],_,_,_,h=>h
 | v :: r,o,w0,w,h=>zAh hB r (o+1) w0 _ (h.setCell (p:=⟨g,o,none⟩) hB v)
theorem Blk.range {xs:List Value} (h:Blk w g t xs.toArray):w.rangeAt g 0 xs:=fun j v hj=>by
 rw [Nat.zero_add,h.cell]
 simpa using hj
theorem Blk.there {xs:List Value} (h:Blk w g t xs.toArray):w.there g 0 xs.length:=fun j hj=>by
 rw [Nat.zero_add]
 exact ⟨by rw [h.cell];simp [hj],h.frozen j⟩
end
structure OwnR {α:Type} (t:TypeId) (size bytes:Nat) (El:World->Nat->List Value->α->Prop) (w:World) (base:Nat) (v:Value) (xs:List α) (css:List (List Value)):Prop where
 len:css.length=xs.length
 sz:∀ cs ∈ css,cs.length=size
 row:w.ownsRow base t size v xs.length css.flatten
 each:∀ (j:Nat) (cs:List Value) (x:α),css[j]? = some cs->xs[j]? = some x->El w 0 cs x
 max:xs.length*bytes<=R47
section
variable {α:Type} {t:TypeId} {size bytes:Nat} {El:World->Nat->List Value->α->Prop} {w w':World} {base base':Nat} {v:Value} {xs:List α} {css:List (List Value)} {Ts:List TypeId}
theorem OwnR.is (h:OwnR t size bytes El w base v xs css):IsRow t size bytes El w 0 v xs:=by
 obtain ⟨A,c,rfl,hc,_,hr,_⟩:=zAg h.row
 exact ⟨⟨A,c,css,rfl,hc,h.len,h.sz,hr,h.each⟩,h.max⟩
theorem OwnR.same {B:Nat} (h:OwnR t size bytes El w base v xs css) (ht:t ∈ Ts) (hs:Same Ts B w w') (Ha:∀ cs x,El w 0 cs x->El w' 0 cs x):OwnR t size bytes El w' base v xs css :=
 ⟨h.len,h.sz,zGs h.row ht hs,fun j cs x a b=>Ha cs x (h.each j cs x a b),h.max⟩
theorem OwnR.base_ (h:OwnR t size bytes El w base v xs css) (hb:base'<=base):OwnR t size bytes El w base' v xs css:=⟨h.len,h.sz,zAn h.row hb,h.each,h.max⟩
theorem OwnR.nil_:OwnR t size bytes El w base (.slice none 0 0) [] []:=⟨rfl,by simp,World.ownsRow_nil _ _ _ _,fun j cs m h=>by simp at h,by simp [R47]⟩
theorem OwnR.form (h:OwnR t size bytes El w base v xs css):∃ A c,v=.slice A xs.length c:=by
 obtain ⟨A,c,e,_⟩:=zAg h.row
 exact ⟨A,c,e⟩
theorem OwnR.lt (h:OwnR t size bytes El w base v xs css):∀ g,v.ownBlock=some g->base<=g/\g < w.heap.size:=h.row.lt
theorem OwnR.at_ (h:OwnR t size bytes El w base v xs css) {k:Nat} (hk:k < xs.length):∃ g c cs,v=.slice (some ⟨g,0,none⟩) xs.length c/\base<=g/\(∃ cur,Blk w g t cur)/\css[k]? = some cs/\cs.length=size/\El w 0 cs xs[k]/\w.rangeAt g (k*size) cs/\w.there g (k*size) size:=by
 have Hc:k < css.length:=by rw [h.len];exact hk
 have Hb:=mH Hc
 have Hd:=h.sz _ (List.getElem_mem Hc)
 have He:=h.each k _ _ Hb (mH hk)
 obtain ⟨hl,⟨h0,hn⟩ | ⟨g,cap,cur,e,hb,hh,Hh,hm,Hi,ht⟩⟩:=h.row
 ·omega
 have hB:Blk w g t cur:=hh
 have Ha:∀ j,j < size->w.cell? ⟨g,k*size+j,none⟩=css[k][j]?:=fun j hj=>by
  have Hf:k*size+j < xs.length*size:=by
   calc k*size+j < k*size+size:=by omega
    _=(k+1)*size:=by rw [Nat.succ_mul]
    _<=xs.length*size:=Nat.mul_le_mul_right _ hk
  have:=zEx h.sz Hb j hj
  rw [<- ht,List.getElem?_take_of_lt Hf] at this
  rw [hB.cell,<- this]
  simp
 refine ⟨g,cap,css[k],e,hb,⟨cur,hB⟩,Hb,Hd,He,fun j u hj=>?_,fun j hj=>⟨?_,hB.frozen _⟩⟩
 ·have Hg:j < size:=by
   rcases Nat.lt_or_ge j size with h' | h'
   ·exact h'
   rw [List.getElem?_eq_none (by omega)] at hj;cases hj
  rw [Ha j Hg,hj]
 rw [Ha j hj,mH (by omega)]
 rfl
theorem OwnR.put {g c n:Nat} (h:OwnR t size bytes El w base (.slice (some ⟨g,0,none⟩) n c) xs css) {k:Nat} (hk:k < xs.length) {cs:List Value} {x:α} (Ha:cs.length=size) (hx:El w 0 cs x)
 {cs':List Value} (Hb:∀ cs x,El w 0 cs x->El (w.setCells g (k*size) cs') 0 cs x) (e:cs'=cs):OwnR t size bytes El (w.setCells g (k*size) cs') base (.slice (some ⟨g,0,none⟩) n c) (xs.set k x) (css.set k cs):=by
 subst e
 have hn:n=xs.length:=by
  obtain ⟨A,c',e,_⟩:=zAg h.row
  cases e
  rfl
 subst hn
 have Hc:k < css.length:=by rw [h.len];exact hk
 refine ⟨by simp [h.len],?_,?_,?_,by simpa using h.max⟩
 ·intro c' Hd
  rcases List.mem_or_eq_of_mem_set Hd with h' | rfl
  ·exact h.sz c' h'
  exact Ha
 ·rw [List.length_set,<- zGt h.sz k Hc cs' Ha]
  exact zGu cs' (k*size) _ _ h.row
 intro j c' y h1 h2
 by_cases hj:j=k
 ·subst hj
  rw [List.getElem?_set_self Hc] at h1
  rw [List.getElem?_set_self hk] at h2
  cases h1
  cases h2
  exact Hb _ _ hx
 rw [List.getElem?_set_ne (fun e=>hj e.symm)] at h1 h2
 exact Hb _ _ (h.each j c' y h1 h2)
theorem OwnR.push {v4:Value} {cs:List Value} {x:α} (h:OwnR t size bytes El w base v xs css) (hm:(xs.length+1)*bytes<=R47) (Ha:cs.length=size) (hx:El w' 0 cs x)
 (h4:w'.ownsRow base t size v4 (xs.length+1) (css.flatten ++ cs)) (Hb:∀ cs x,El w 0 cs x->El w' 0 cs x):OwnR t size bytes El w' base v4 (xs ++ [x]) (css ++ [cs]):=by
 refine ⟨by simp only [List.length_append,h.len,List.length_cons,List.length_nil],?_,?_,?_,by simpa using hm⟩
 ·intro c hc
  rcases List.mem_append.1 hc with h' | h'
  ·exact h.sz c h'
  rw [List.mem_singleton] at h'
  subst h'
  exact Ha
 ·rw [List.length_append,List.flatten_append]
  simpa using h4
 intro j c y hc hy
 rcases Nat.lt_or_ge j xs.length with hj | hj
 ·rw [List.getElem?_append_left (by rw [h.len];exact hj)] at hc
  rw [List.getElem?_append_left hj] at hy
  exact Hb _ _ (h.each j c y hc hy)
 rw [List.getElem?_append_right (by rw [h.len];exact hj),h.len] at hc
 rw [List.getElem?_append_right hj] at hy
 have Hc:j - xs.length=0:=by
  rcases Nat.eq_zero_or_pos (j - xs.length) with h' | h'
  ·exact h'
  rw [List.getElem?_eq_none (by simp;omega)] at hc
  cases hc
 rw [Hc] at hc hy
 simp only [List.getElem?_cons_zero,Option.some.injEq] at hc hy
 subst hc
 subst hy
 exact hx
end
end Go.Proofs.YtnpphdaakookcaaDoor

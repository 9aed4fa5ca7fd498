/- Part 6: words and walks under the laws of the whole. -/
import Derived.Maps.AppendAt
import Derived.Deep.AppendLies
import Derived.Deep.RegionLaw
import Derived.OwnWalk
import Derived.Test.YtjnjhmkgfjikfaaDoorLv4
set_option linter.unusedVariables false
set_option linter.unusedSimpArgs false
set_option maxHeartbeats 4000000
set_option maxRecDepth 100000
namespace Go.Proofs.YtjnjhmkgfjikfaaDoor
open Go.RowKit
abbrev zR : Array Value := #[.int .i64 0, .int .i64 0, .int .i64 0, .bool false, .slice none 0 0, .int .i64 0, .slice none 0 0, .slice none 0 0, .slice none 0 0, .slice none 0 0]
abbrev rN (r : Scu.Replica) (A : Option Addr) (n c : Nat) (B : Option Addr) (d : Nat) (C : Option Addr) (e : Nat) (D : Option Addr) (f : Nat) (E : Option Addr) (g : Nat) : Array Value := #[.int .i64 r.me, .int .i64 r.kept.view, .int .i64 r.kept.normal, .bool r.kept.calm, .slice A n c, .int .i64 r.kept.commit, .slice B r.have_.length d, .slice C r.wants.length e, .slice D r.gives.length f, .slice E r.given.length g]
abbrev rL (r : Scu.Replica) (A : Option Addr) (n c : Nat) (B : Option Addr) (d : Nat) (C : Option Addr) (e : Nat) (D : Option Addr) (f : Nat) (E : Option Addr) (g : Nat) : List Value := [.int .i64 r.me, .int .i64 r.kept.view, .int .i64 r.kept.normal, .bool r.kept.calm, .slice A n c, .int .i64 r.kept.commit, .slice B r.have_.length d, .slice C r.wants.length e, .slice D r.gives.length f, .slice E r.given.length g]
abbrev aN (a : Scu.Act) : Array Value := #[.int .i64 a.kind, .int .i64 a.c, .int .i64 a.r, .int .i64 a.k, .int .i64 a.n, .int .i64 a.op.kind, .int .i64 a.op.at_, .int .i64 a.op.snap, .string a.op.data]
abbrev mN (m : Scu.Message) (A : Option Addr) (n c : Nat) : Array Value := #[.int .i64 m.kind, .int .i64 m.from_, .int .i64 m.tq, .int .i64 m.view, .int .i64 m.normal, .int .i64 m.commit, .int .i64 m.n, .slice A n c]
def ElT (t e:TypeId) (size bytes:Nat):Prop :=
 Tryd.prog.underlying t=some (.slice e)/\0 < size/\∃ i z,Tryd.prog.info? e=some i/\i.zero=some z/\i.size=size/\i.bytes=bytes/\z.cells.size=size
def Src1 (w:World) (size:Nat) (x:Value) (m:Nat) (news:List Value):Prop :=
 news.length=m*size/\((∃ c,x=.slice none 0 c/\m=0)\/∃ ad c,x=.slice (some ad) m c/\∀ (j:Nat) (u:Value),news[j]? = some u->w.cell? (ad.add j)=some u)
theorem zEa {w:World} {B:Nat} {t:TypeId} {A:Option Addr} {m c:Nat} {size:Nat} {news:List Value} (h:Rd w B t A news) (hl:news.length=m*size) (hA:A=none->m=0):Src1 w size (.slice A m c) m news:=by
 refine ⟨hl,?_⟩
 rcases A with _ | ad
 ·have:=hA rfl
  subst this
  exact .inl ⟨c,rfl,rfl⟩
 refine .inr ⟨ad,c,rfl,fun j u hj=>?_⟩
 rcases h with h | ⟨g,o,h1,_,_,h4⟩
 ·subst h;simp at hj
 simp only [Option.some.injEq] at h1
 subst h1
 have e:(⟨g,o,none⟩:Addr).add j=⟨g,o+j,none⟩:=by unfold Addr.add;split <;> simp_all
 rw [e]
 exact h4 j u hj
section
variable (w:World)
theorem zLl {t e ty:TypeId} {size bytes:Nat} (hE:ElT t e size bytes) (base:Nat) (v:Value) (n:Nat) (xs:List Value) (Ha:w.ownsRow base e size v n xs)
 (x:Value) (m:Nat) (news:List Value) (hx:Src1 w size x m news) (h1:∀ u ∈ news,u.oneCell'=true) (He:n+m<=maxLen) (Hb:(n+m)*bytes<=140737488355328) (Hd:base<=w.heap.size) :
 ∃ v' w',(Builtin.append_ #[t,t] ty #[v,x]).run Tryd.prog w=.ok v' w'/\w'.ownsRow base e size v' (n+m) (xs ++ news)/\w.grownBy w' v.ownBlock/\(v'.ownBlock=v.ownBlock\/v'.ownBlock=some w.heap.size):=by
 obtain ⟨ht,Hg,i,z,hi,hz,Hh,Hi,Hj⟩:=hE
 obtain ⟨hl,⟨c,rfl,rfl⟩ | ⟨ad,c,rfl,Hc⟩⟩:=hx
 ·have hn:news=[]:=List.eq_nil_of_length_eq_zero (by simpa using hl)
  subst hn
  refine ⟨v,w,?_,by simpa using Ha,World.grownBy.refl w _,.inl rfl⟩
  rcases Ha.2 with ⟨rfl,rfl⟩ | ⟨g,cap,cur,rfl,_,_,Hk,_⟩
  ·simp [Builtin.append_,run_underlying ht,sizeOf,typeInfo,hi,Builtin.lenOf,Builtin.firstCells]
  simp [Builtin.append_,run_underlying ht,sizeOf,typeInfo,hi,Builtin.lenOf,Builtin.firstCells,Hk,storeCells]
 obtain ⟨v',w',Hf,h2,h3,_,h5⟩:=run_append_own_at (P:=Tryd.prog) w base t ty e i z size bytes ht hi hz Hh Hi Hj Hg v n xs Ha ad m c news hl Hc h1 He Hb Hd
 exact ⟨v',w',Hf,h2,h3,h5⟩
theorem zKs {o:Oper} {a:Act} {K:Act->World->Prop} {Q:Exit->Act->World->Prop} (s x:Operand) (t:TypeId)
 (ho:o.op=.call { callee:=.builtin .append,args:=#[s,x],argTypes:=#[t,t] }) {e:TypeId} {size bytes:Nat} (hE:ElT t e size bytes) (base:Nat) (v:Value) (n:Nat) (xs:List Value) (hs:a.eval s=v) (Hc:w.ownsRow base e size v n xs)
 (xv:Value) (m:Nat) (news:List Value) (Hf:a.eval x=xv) (hx:Src1 w size xv m news) (h1:∀ u ∈ news,u.oneCell'=true) (Hd:n+m<=maxLen) (Ha:(n+m)*bytes<=140737488355328) (Hb:base<=w.heap.size)
 (h:∀ v' w',w'.ownsRow base e size v' (n+m) (xs ++ news)->w.grownBy w' v.ownBlock->(v'.ownBlock=v.ownBlock\/v'.ownBlock=some w.heap.size)->K (a.put o.dst v') w'):o.wp Tryd.prog a w K Q:=by
 obtain ⟨v',w',He,h2,h3,h4⟩:=zLl w (ty:=o.type) hE base v n xs Hc xv m news hx h1 Hd Ha Hb
 unfold Oper.wp execOp
 simp only [ho,resolve,invoke,builtin,Sem.run_bind,Sem.run_pure,Result.andThen_ok,List.map_toArray,List.map_cons,List.map_nil,hs,Hf,He]
 exact h v' w' h2 h3 h4
theorem zDn {ops:Array Oper} {rest:List Oper} {o:Oper} {a:Act} {Q:Exit->Act->World->Prop} (He:o.guard=none) (s x:Operand) (t:TypeId)
 (ho:o.op=.call { callee:=.builtin .append,args:=#[s,x],argTypes:=#[t,t] }) {e:TypeId} {size bytes:Nat} (hE:ElT t e size bytes) (base:Nat) (v:Value) (n:Nat) (xs:List Value) (hs:a.eval s=v) (Hc:w.ownsRow base e size v n xs)
 (xv:Value) (m:Nat) (news:List Value) (Hf:a.eval x=xv) (hx:Src1 w size xv m news) (h1:∀ u ∈ news,u.oneCell'=true) (Hd:n+m<=maxLen) (Ha:(n+m)*bytes<=140737488355328) (Hb:base<=w.heap.size)
 (h:∀ v' w',w'.ownsRow base e size v' (n+m) (xs ++ news)->w.grownBy w' v.ownBlock->(v'.ownBlock=v.ownBlock\/v'.ownBlock=some w.heap.size)->wpList Tryd.prog ops Q rest (a.put o.dst v') w'):wpList Tryd.prog ops Q (o :: rest) a w :=
 wpList_plain He fun _ hK=>zKs w s x t ho hE base v n xs hs Hc xv m news Hf hx h1 Hd Ha Hb fun v' w' h2 h3 h4=>hK _ _ (h v' w' h2 h3 h4)
theorem zBw {ops:Array Oper} {o:Oper} {a:Act} {K:Act->World->Prop} {Q:Exit->Act->World->Prop} {E:Prop} (He:o.guard=none) (s x:Operand) (t:TypeId)
 (ho:o.op=.call { callee:=.builtin .append,args:=#[s,x],argTypes:=#[t,t] }) {e:TypeId} {size bytes:Nat} (hE:ElT t e size bytes) (base:Nat) (v:Value) (n:Nat) (xs:List Value) (hs:a.eval s=v) (Hc:w.ownsRow base e size v n xs)
 (xv:Value) (m:Nat) (news:List Value) (Hf:a.eval x=xv) (hx:Src1 w size xv m news) (h1:∀ u ∈ news,u.oneCell'=true) (Hd:n+m<=maxLen) (Ha:(n+m)*bytes<=140737488355328) (Hb:base<=w.heap.size)
 (h:∀ v' w',w'.ownsRow base e size v' (n+m) (xs ++ news)->w.grownBy w' v.ownBlock->(v'.ownBlock=v.ownBlock\/v'.ownBlock=some w.heap.size)->K (a.put o.dst v') w') :
 if Region.wanted o (yielded ops a.tmps)=true then Oper.wp Tryd.prog o a w K Q else E:=by
 have hw:Region.wanted o (yielded ops a.tmps)=true:=by simp [Region.wanted,He]
 rw [if_pos hw]
 exact zKs w s x t ho hE base v n xs hs Hc xv m news Hf hx h1 Hd Ha Hb h
end
theorem zAk {w:World} {base:Nat} {e:TypeId} {size n:Nat} {v:Value} {xs:List Value} (h:w.ownsRow base e size v n xs) :
 ∃ A c,v=.slice A n c/\n<=c/\(A=none->n=0/\c=0)/\Rd w 0 e A xs/\(∀ g,v.ownBlock=some g->base<=g/\g < w.heap.size):=by
 have Ha:=h.lt
 obtain ⟨hl,⟨rfl,rfl⟩ | ⟨g,cap,cur,rfl,hb,hh,Hb,_,Hd,ht⟩⟩:=h
 ·have hx:xs=[]:=List.eq_nil_of_length_eq_zero (by simpa using hl)
  subst hx
  exact ⟨none,0,rfl,mC _,fun _=>⟨rfl,rfl⟩,Rd.nil,Ha⟩
 refine ⟨_,cap,rfl,Hb,(fun e=>by cases e),?_,Ha⟩
 have hg:g < w.heap.size:=by
  rcases Nat.lt_or_ge g w.heap.size with h | h
  ·exact h
  rw [Array.getElem?_eq_none h] at hh;cases hh
 refine .inr ⟨g,0,rfl,hg,.inr ⟨cur,_,hh⟩,fun j u hj=>?_⟩
 have Hc:j < n*size:=by
  have:j < xs.length:=by
   rcases Nat.lt_or_ge j xs.length with h | h
   ·exact h
   rw [List.getElem?_eq_none h] at hj;cases hj
  omega
 simp only [World.cell?,hh,Nat.zero_add]
 rw [<- ht,List.getElem?_take_of_lt Hc] at hj
 simpa using hj
theorem zFa:ElT 23 9 1 16:=by
 obtain ⟨i,h1,h2,h3,h4⟩:=info_parts (P:=Tryd.prog) (e:=9) (z:=.string ⟨#[]⟩) (size:=1) (bytes:=16) (by kernel_rfl)
 exact ⟨Tryd.underlying23,by omega,i,_,h1,h2,h3,h4,rfl⟩
theorem zGc {w:World} {B:Nat} {t:TypeId} {cs:List Value} (h:Rd w B t none cs):cs=[]:=by
 rcases h with h | ⟨g,o,h1,_⟩
 ·exact h
 cases h1
theorem zGd {w:World} {e:TypeId} {size:Nat} {base:Nat} (hb:base<=w.heap.size):(w.alloc (.cells #[] e)).ownsRow base e size (.slice (some ⟨w.heap.size,0,none⟩) 0 0) 0 [] :=
 World.ownsRow_made w #[] 0 hb (mE _) (by simp)
theorem zJk (xs:List Scu.Str):∀ u ∈ xs.map Value.string,u.oneCell'=true:=fun u hu=>by
 obtain ⟨s,_,rfl⟩:=List.mem_map.1 hu
 rfl
theorem zCn {w w':World} {row:Option Nat} (hg:w.grownBy w' row) {B:Nat} (hB:B<=w.heap.size) (hr:∀ k,row=some k->B<=k):Below B w w' :=
 (mG B w).grown hg hB hr
theorem zAo (v:Value) (xs:List Scu.Str) (w:World) (B:Nat) (hv:IsStrs w B v xs) :
 Calls Tryd.prog 31 #[v] w fun e w'=>(∃ u,e=.returned u/\w'.ownsRow w.heap.size 9 1 u xs.length (xs.map Value.string))/\Below w.heap.size w w':=by
 obtain ⟨⟨A,c,rfl,He,hr⟩,hl,he⟩:=hv
 have Hb:=fun (W:World)=>Lib.run_eql_slice_nil (P:=Tryd.prog) W 23 9 A xs.length c 0 0 Tryd.underlying23
 rcases A with _ | ad
 ·have hx:xs=[]:=by
   have:=zGc hr
   simpa using this
  subst hx
  have Hc:=fun (W:World)=>Lib.run_eql_slice_nil (P:=Tryd.prog) W 23 9 none 0 c 0 0 Tryd.underlying23
  clear Hb
  go_enter Tryd.func31,Tryd.ntmps31
  go_wp2
  go_ret
  exact ⟨⟨_,rfl,World.ownsRow_nil _ _ _ _⟩,mG _ _⟩
 have Hd:=hl
 unfold R47 at Hd
 go_enter Tryd.func31,Tryd.ntmps31
 go_wp2_with (at_builtin;refine zDn _ rfl _ _ 23 rfl zFa w.heap.size _ 0 [] rfl (zGd (mC _)) _ xs.length (xs.map Value.string) rfl ?c1 (zJk xs) (by unfold maxLen;omega) (by omega) (by simp) ?_)
 case c1=>exact zEa (hr.alloc _) (by simp) (fun e=>by cases e)
 intro v1 w1 Ha hg hw
 have HO:=mA Ha
 have HW:=mA hw
 clear Ha hw
 go_wp2
 go_ret
 refine ⟨⟨_,rfl,HO.out⟩,?_⟩
 exact ((mG _ _).alloc (mC _) _).trans (zCn hg (by simp) (fun k hk=>by simp [Value.ownBlock] at hk;omega))
theorem zBx {w:World} {base:Nat} {v:Value} {xs:List Scu.Str} (h:w.ownsRow base 9 1 v xs.length (xs.map Value.string)) (h1:xs.length*16<=R47) (h2:∀ s ∈ xs,s.size<=R47):IsStrs w 0 v xs:=by
 obtain ⟨A,c,rfl,hc,_,hr,_⟩:=zAk h
 exact ⟨⟨_,_,rfl,hc,hr⟩,h1,h2⟩
theorem zAh {w:World} {base base':Nat} {e:TypeId} {size n:Nat} {v:Value} {xs:List Value} (h:w.ownsRow base e size v n xs) (hb:base'<=base):w.ownsRow base' e size v n xs:=by
 obtain ⟨h1,h2 | ⟨g,cap,cur,h2,h3,h4⟩⟩:=h
 ·exact ⟨h1,.inl h2⟩
 exact ⟨h1,.inr ⟨g,cap,cur,h2,by omega,h4⟩⟩
structure OwnVol (w:World) (base:Nat) (nv sv:Value) (x:Scu.Volume):Prop where
 now:w.ownsRow base 9 1 nv x.now.length (x.now.map Value.string)
 nowLen:x.now.length*16<=R47
 nowEach:∀ s ∈ x.now,s.size<=R47
 len:x.snaps.length*24<=R47
 snaps:∃ vs b,w.ownsRow base 23 1 sv x.snaps.length vs/\(∀ (j:Nat) (u:Value) (y:List Scu.Str),vs[j]? = some u->x.snaps[j]? = some y->IsStrs w 0 u y) /\
  (∀ g,nv.ownBlock=some g->g < b)/\(∀ u ∈ vs,∀ g,u.ownBlock=some g->b<=g)
theorem OwnVol.is {w:World} {base:Nat} {nv sv:Value} {x:Scu.Volume} (h:OwnVol w base nv sv x):IsVolume w 0 nv sv x:=by
 refine ⟨zBx h.now h.nowLen h.nowEach,?_⟩
 obtain ⟨vs,b,h1,h2,_,_⟩:=h.snaps
 obtain ⟨A,c,rfl,hc,_,hr,_⟩:=zAk h1
 exact ⟨⟨_,_,vs,rfl,hc,hr,by have:=h1.1;omega,h2⟩,h.len⟩
theorem zAa (w:World) (o:Obj):Below w.heap.size w (w.alloc o):=(mG _ _).alloc (mC _) o
theorem zAi {w w':World} {base:Nat} {e:TypeId} {size n:Nat} {v:Value} {xs:List Value} (h:w.ownsRow base e size v n xs) (hb:Below w.heap.size w w'):w'.ownsRow base e size v n xs :=
 h.kept (row:=none) ⟨hb.os,hb.tape,hb.output,hb.size,fun i hi _=>hb.block i hi⟩ (by cases hv:v.ownBlock with
  | none=>exact .inl rfl
  | some g=>exact .inr (by simp))
theorem zFb {w:World} {base:Nat} {e:TypeId} {size n:Nat} {v:Value} {xs:List Value} (h:w.ownsRow base e size v n xs) {g:Nat} (hg:v.ownBlock=some g):∃ C fz,w.heap[g]? = some (.cells C e fz):=by
 obtain ⟨_,⟨rfl,_⟩ | ⟨q,cap,cur,rfl,_,hh,_⟩⟩:=h
 ·cases hg
 simp only [Value.ownBlock,Option.some.injEq] at hg
 subst hg
 exact ⟨_,_,hh⟩
theorem zHy (w:World) (p:Addr) (u:Value):w.grownBy (w.setCell p u) (some p.block) :=
 ⟨rfl,rfl,rfl,by simp [World.setCell],fun i _ Ha=>Below.heap_setCell w p u i (fun e=>Ha (by rw [e]))⟩
theorem zDc {w:World} {base:Nat} {e:TypeId} {size n:Nat} {v:Value} {xs:List Value} (h:w.ownsRow base e size v n xs) {g i:Nat} {t:TypeId} {cs:Array Value} (hb:Blk w g t cs) (Ha:t≠e) (u:Value):(w.setCell ⟨g,i,none⟩ u).ownsRow base e size v n xs:=by
 refine h.kept (zHy _ _ _) (.inr fun hg=>?_)
 obtain ⟨C,fz,hh⟩:=zFb h hg
 unfold Blk at hb
 rw [hh] at hb
 cases hb
 exact Ha rfl
theorem OwnVol.set_ {w:World} {base:Nat} {nv sv:Value} {x:Scu.Volume} (h:OwnVol w base nv sv x) {g i:Nat} {t:TypeId} {cs:Array Value} (hb:Blk w g t cs) (h1:t≠9) (h2:t≠23) (u:Value):OwnVol (w.setCell ⟨g,i,none⟩ u) base nv sv x:=by
 refine ⟨zDc h.now hb h1 u,h.nowLen,h.nowEach,h.len,?_⟩
 obtain ⟨vs,b,h3,h4,h5⟩:=h.snaps
 refine ⟨vs,b,zDc h3 hb h2 u,fun j v y hv hy=>(h4 j v y hv hy).keep (by simp [World.setCell]) ?_,h5⟩
 rintro q hq (h0 | ⟨C,fz,hh⟩)
 ·omega
 refine Below.heap_setCell w _ u q fun e=>?_
 have e':q=g:=e
 subst e'
 unfold Blk at hb
 rw [hh] at hb
 cases hb
 exact h1 rfl
open Go.RowKit
theorem IsVolume.at_ {w w':World} {B:Nat} {nv sv:Value} {x:Scu.Volume} (h:IsVolume w B nv sv x) (hb:Below w.heap.size w w'):IsVolume w' B nv sv x:=h.below hb
open Go.RowKit Go.ChangeShapes Go.WideShapes Go.ChangeAt
structure Same (Ts:List TypeId) (B:Nat) (w w':World):Prop where
 size:w.heap.size<=w'.heap.size
 keep:∀ g,g < w.heap.size->(g < B\/∃ C fz t,t ∈ Ts/\w.heap[g]? = some (.cells C t fz))->w'.heap[g]? = w.heap[g]?
section
variable {Ts Ts':List TypeId} {B B':Nat} {w w' w2:World}
theorem Same.refl (Ts:List TypeId) (B:Nat) (w:World):Same Ts B w w:=⟨mC _,fun _ _ _=>rfl⟩
theorem Same.trans (h:Same Ts B w w') (k:Same Ts B w' w2):Same Ts B w w2 :=
 ⟨mD h.size k.size,fun g hg hh=>by
  have e:=h.keep g hg hh
  rw [<- e]
  refine k.keep g (mF hg h.size) ?_
  rw [e];exact hh⟩
theorem Same.mono (h:Same Ts B w w') (hT:∀ t ∈ Ts',t ∈ Ts) (hB:B'<=B):Same Ts' B' w w' :=
 ⟨h.size,fun g hg hh=>h.keep g hg (hh.imp (fun h=>mF h hB) fun ⟨C,fz,t,ht,e⟩=>⟨C,fz,t,hT t ht,e⟩)⟩
theorem Same.below (h:Below w.heap.size w w'):Same Ts B w w':=⟨h.size,fun g hg _=>h.block g hg⟩
theorem Same.drew (w:World):Same Ts B w w.drew:=⟨mC _,fun _ _ _=>rfl⟩
theorem Same.drewN (w:World) (n:Nat):Same Ts B w (w.drewN n):=⟨mC _,fun _ _ _=>rfl⟩
theorem Same.alloc (w:World) (o:Obj):Same Ts B w (w.alloc o):=⟨by simp,fun g hg _=>Below.heap_alloc w o g hg⟩
theorem Same.setCell {p:Addr} {C:Array Value} {t':TypeId} {fz:Nat × Nat} (hp:w.heap[p.block]? = some (.cells C t' fz)) (hB:B<=p.block) (ht:t' ∉ Ts) (u:Value):Same Ts B w (w.setCell p u) :=
 ⟨by simp [World.setCell],fun g _ hh=>Below.heap_setCell w p u g (by
  rintro rfl
  rcases hh with hh | ⟨C',fz',t,ht',hh⟩
  ·omega
  rw [hp] at hh;cases hh;exact ht ht')⟩
theorem Same.set_ {g:Nat} {cs:Array Value} {t':TypeId} (hp:Blk w g t' cs) (hB:B<=g) (ht:t' ∉ Ts) (i:Nat) (u:Value):Same Ts B w (w.setCell ⟨g,i,none⟩ u):=Same.setCell (p:=⟨g,i,none⟩) (C:=cs) (fz:=(0,0)) hp hB ht u
theorem Same.grown {row:Option Nat} (hg:w.grownBy w' row) (hr:∀ g,row=some g->B<=g/\∃ C fz t',t' ∉ Ts/\w.heap[g]? = some (.cells C t' fz)):Same Ts B w w' :=
 ⟨hg.size,fun g hlt hh=>hg.block g hlt fun e=>by
  obtain ⟨h1,C,fz,t',h2,h3⟩:=hr g e.symm
  rcases hh with hh | ⟨C',fz',t,ht',hh⟩
  ·omega
  rw [h3] at hh;cases hh;exact h2 ht'⟩
theorem Same.own {base:Nat} {e:TypeId} {size n:Nat} {v:Value} {xs:List Value} (h:w.ownsRow base e size v n xs) (hg:w.grownBy w' v.ownBlock) (hB:B<=base) (ht:e ∉ Ts):Same Ts B w w' :=
 Same.grown hg fun g hv=>by
  obtain ⟨C,fz,hh⟩:=zFb h hv
  have:=(h.lt g hv).1
  exact ⟨by omega,C,fz,e,ht,hh⟩
theorem Rd.same {t:TypeId} {A:Option Addr} {cs:List Value} (h:Rd w B t A cs) (ht:t ∈ Ts) (hs:Same Ts B w w'):Rd w' B t A cs :=
 h.keep hs.size fun g hg hh=>hs.keep g hg (hh.imp id fun ⟨C,fz,e⟩=>⟨C,fz,t,ht,e⟩)
theorem IsStrs.same {v:Value} {xs:List Scu.Str} (h:IsStrs w B v xs) (ht:9 ∈ Ts) (hs:Same Ts B w w'):IsStrs w' B v xs :=
 h.keep hs.size fun g hg hh=>hs.keep g hg (hh.imp id fun ⟨C,fz,e⟩=>⟨C,fz,_,ht,e⟩)
end
structure IsOnes {α:Type} (t:TypeId) (bytes:Nat) (f:α->Value) (w:World) (B:Nat) (v:Value) (xs:List α):Prop where
 ex:∃ A c,v=.slice A xs.length c/\xs.length<=c/\Rd w B t A (xs.map f)
 len:xs.length*bytes<=R47
section
variable {α:Type} {t:TypeId} {bytes:Nat} {f:α->Value} {w w':World} {B B':Nat} {v:Value} {xs:List α} {Ts:List TypeId}
theorem IsOnes.same (h:IsOnes t bytes f w B v xs) (ht:t ∈ Ts) (hs:Same Ts B w w'):IsOnes t bytes f w' B v xs:=⟨let ⟨A,c,h1,h2,h3⟩:=h.ex;⟨A,c,h1,h2,h3.same ht hs⟩,h.len⟩
theorem IsOnes.below (h:IsOnes t bytes f w B v xs) (hb:Below w.heap.size w w'):IsOnes t bytes f w' B v xs:=h.same (Ts:=[t]) (by simp) (Same.below hb)
theorem IsOnes.drewN (h:IsOnes t bytes f w B v xs) (n:Nat):IsOnes t bytes f (w.drewN n) B v xs:=⟨h.ex,h.len⟩
theorem IsOnes.alloc (h:IsOnes t bytes f w B v xs) (o:Obj):IsOnes t bytes f (w.alloc o) B v xs:=h.same (Ts:=[t]) (by simp) (Same.alloc w o)
theorem IsOnes.mono (h:IsOnes t bytes f w B v xs) (hB:B<=B'):IsOnes t bytes f w B' v xs:=⟨let ⟨A,c,h1,h2,h3⟩:=h.ex;⟨A,c,h1,h2,h3.mono hB⟩,h.len⟩
theorem IsOnes.form (h:IsOnes t bytes f w B v xs):∃ A n c,v=.slice A n c:=by
 obtain ⟨A,c,e,_⟩:=h.ex
 exact ⟨A,_,c,e⟩
theorem zJl {A:Option Addr} {k:Nat} (h:Rd w B t A (xs.map f)) (hk:k < xs.length):∃ g o,A=some ⟨g,o,none⟩/\g < w.heap.size/\w.cell? ⟨g,o+k,none⟩=some (f xs[k]):=h.get (by simp [hk])
end
structure IsRow {α:Type} (t:TypeId) (m bytes:Nat) (El:World->Nat->List Value->α->Prop) (w:World) (B:Nat) (v:Value) (xs:List α):Prop where
 ex:∃ (A:Option Addr) (c:Nat) (css:List (List Value)),v=.slice A xs.length c/\xs.length<=c/\css.length=xs.length/\(∀ cs ∈ css,cs.length=m)/\Rd w B t A css.flatten /\
  ∀ (j:Nat) (cs:List Value) (x:α),css[j]? = some cs->xs[j]? = some x->El w B cs x
 len:xs.length*bytes<=R47
theorem zBj {m:Nat} : ∀ {css:List (List Value)} (_:∀ cs ∈ css,cs.length=m) {k:Nat} {cs:List Value},css[k]? = some cs->∀ j,j < m->css.flatten[k*m+j]? = cs[j]?
 | [],_,k,cs,hk,_,_=>by simp at hk
 | c :: css,h,0,cs,hk,j,hj=>by
   simp only [List.getElem?_cons_zero,Option.some.injEq] at hk
   subst hk
   rw [List.flatten_cons,Nat.zero_mul,Nat.zero_add,List.getElem?_append_left (by rw [h c List.mem_cons_self];exact hj)]
 | c :: css,h,k+1,cs,hk,j,hj=>by
   have hc:=h c List.mem_cons_self
   rw [List.flatten_cons,List.getElem?_append_right (by rw [hc,Nat.succ_mul];omega),hc,show (k+1)*m+j - m=k*m+j from by rw [Nat.succ_mul];omega]
   exact zBj (fun x hx=>h x (List.mem_cons_of_mem _ hx)) (by simpa using hk) j hj
theorem zEl {m:Nat} : ∀ {css:List (List Value)} (_:∀ cs ∈ css,cs.length=m) {j:Nat} {u:Value},css.flatten[j]? = some u->∃ k i cs,css[k]? = some cs/\cs[i]? = some u/\i < m/\j=k*m+i
 | [],_,j,u,hj=>by simp at hj
 | c :: css,h,j,u,hj=>by
   have hc:=h c List.mem_cons_self
   rw [List.flatten_cons] at hj
   rcases Nat.lt_or_ge j m with hlt | hge
   ·rw [List.getElem?_append_left (by omega)] at hj
    exact ⟨0,j,c,rfl,hj,hlt,by omega⟩
   ·rw [List.getElem?_append_right (by omega),hc] at hj
    obtain ⟨k,i,cs,h1,h2,h3,h4⟩:=zEl (fun x hx=>h x (List.mem_cons_of_mem _ hx)) hj
    exact ⟨k+1,i,cs,by simpa using h1,h2,h3,by rw [Nat.succ_mul];omega⟩
section
variable {α:Type} {t:TypeId} {m bytes:Nat} {El:World->Nat->List Value->α->Prop} {w w':World} {B B':Nat} {v:Value} {xs:List α} {Ts:List TypeId}
theorem IsRow.same (h:IsRow t m bytes El w B v xs) (ht:t ∈ Ts) (hs:Same Ts B w w') (hel:∀ cs x,El w B cs x->El w' B cs x):IsRow t m bytes El w' B v xs :=
 ⟨let ⟨A,c,css,h1,h2,h3,h4,h5,h6⟩:=h.ex;⟨A,c,css,h1,h2,h3,h4,h5.same ht hs,fun j cs x hj hx=>hel cs x (h6 j cs x hj hx)⟩,h.len⟩
theorem IsRow.mono (h:IsRow t m bytes El w B v xs) (hB:B<=B') (hel:∀ cs x,El w B cs x->El w B' cs x):IsRow t m bytes El w B' v xs :=
 ⟨let ⟨A,c,css,h1,h2,h3,h4,h5,h6⟩:=h.ex;⟨A,c,css,h1,h2,h3,h4,h5.mono hB,fun j cs x hj hx=>hel cs x (h6 j cs x hj hx)⟩,h.len⟩
theorem IsRow.form (h:IsRow t m bytes El w B v xs):∃ A n c,v=.slice A n c:=by
 obtain ⟨A,c,_,e,_⟩:=h.ex
 exact ⟨A,_,c,e⟩
theorem IsRow.nil_:IsRow t m bytes El w B (.slice none 0 0) []:=⟨⟨none,0,[],rfl,mC _,rfl,(fun cs h=>by simp at h),Rd.nil,(fun j cs x h=>by simp at h)⟩,by simp [R47]⟩
theorem zCo {A:Option Addr} {css:List (List Value)} {k:Nat} (hl:css.length=xs.length) (hm:∀ cs ∈ css,cs.length=m) (hpos:0 < m) (h:Rd w B t A css.flatten)
 (h6:∀ (j:Nat) (cs:List Value) (x:α),css[j]? = some cs->xs[j]? = some x->El w B cs x) (hk:k < xs.length) :
 ∃ g o cs,A=some ⟨g,o,none⟩/\g < w.heap.size/\cs.length=m/\(∀ j u,cs[j]? = some u->w.cell? ⟨g,o+(k*m+j),none⟩=some u)/\El w B cs xs[k]:=by
 have hkc:k < css.length:=by omega
 have hcs:=mH hkc
 have hml:=hm _ (List.getElem_mem hkc)
 have h0:css[k][0]? = some (css[k][0]'(by omega)):=mH (by omega)
 obtain ⟨g,o,hA,hg,_⟩:=h.get ((zBj hm hcs 0 hpos).trans h0)
 refine ⟨g,o,css[k],hA,hg,hml,fun j u hj=>?_,h6 k _ _ hcs (mH hk)⟩
 have hjm:j < m:=by
  rcases Nat.lt_or_ge j m with h | h
  ·exact h
  rw [List.getElem?_eq_none (by omega)] at hj;cases hj
 obtain ⟨g',o',hA',_,hc⟩:=h.get ((zBj hm hcs j hjm).trans hj)
 rw [hA] at hA'
 simp only [Option.some.injEq,Addr.mk.injEq,and_true] at hA'
 obtain ⟨rfl,rfl⟩:=hA'
 exact hc
end
section
variable {H:Type} {enc:TypeId × Value->H} {w:World} {base:Nat} {spare:Nat->Bool} {held:Bool} {n:Nat}
theorem zJm {α:Type} (d0:α) {t e:TypeId} {m bytes:Nat} {El:World->Nat->List Value->α->Prop} (ht:Tryd.prog.underlying t=some (.slice e)) (hm:Tryd.prog.cellsOf e=m) (hby:Tryd.prog.bytesOf e=bytes) (hpos:0 < m)
 (hel:∀ {n:Nat} {cs:List Value} {x:DataW H × List MemPlace},DataW.trod enc Tryd.prog w base spare held n e cs=some x->(∀ k ∈ x.1.weights Tryd.prog e,k<=reachBytes)->∃ a,El w w.heap.size cs a)
 {v:Value} {x:DataW H × List MemPlace} (h:DataW.trod enc Tryd.prog w base spare held n t [v]=some x) (hw:∀ k ∈ x.1.weights Tryd.prog t,k<=reachBytes):∃ xs,IsRow e m bytes El w w.heap.size v xs:=by
 rcases Go.Deep.open_slice ht h with ⟨e0,rfl⟩ | ⟨a,len,cap,mm,n',D,Pl,e0,hb,hl,hmx,hmm,rfl,hx⟩
 ·simp at e0;subst e0;exact ⟨[],IsRow.nil_⟩
 simp only [List.cons.injEq,and_true] at e0
 subst e0
 have hle:len<=mm:=by rw [hmm];split <;> omega
 have hwt:∀ k ∈ DataW.weights Tryd.prog t (DataW.slice ((List.range len).map D) ((List.range (mm - len)).map fun j=>D (len+j))),k<=reachBytes:=hw
 simp only [DataW.weights,ht,List.mem_cons,List.mem_append,hby] at hwt
 have hwl:=hwt _ (.inl rfl)
 simp only [List.length_map,List.length_range] at hwl
 have hall:∀ i,∃ p:List Value × α,i < len->w.cells? base (a.add (i*m)) m=some p.1/\El w w.heap.size p.1 p.2:=by
  intro i
  by_cases hi:i < len
  ·obtain ⟨cs,hc,htr⟩:=hx i (by omega)
   obtain ⟨y,hy⟩:=hel htr (fun k hk=>hwt k (.inr (.inl (zCk hk (List.mem_map.2 ⟨i,by simpa using hi,rfl⟩)))))
   exact ⟨(cs,y),fun _=>⟨by rw [hm] at hc;exact hc,hy⟩⟩
  exact ⟨([],d0),fun h=>absurd h hi⟩
 obtain ⟨f,hf⟩:=Classical.axiomOfChoice hall
 have hlen:∀ cs ∈ (List.range len).map (fun i=>(f i).1),cs.length=m:=by
  intro cs hcs
  obtain ⟨i,hi,rfl⟩:=List.mem_map.1 hcs
  exact (World.cells?_some (hf i (by simpa using hi)).1).2.1
 refine ⟨(List.range len).map (fun i=>(f i).2),⟨some a,cap,(List.range len).map (fun i=>(f i).1),by simp,by simpa using hl,by simp,hlen,?_,?_⟩,?_⟩
 ·rcases Nat.eq_zero_or_pos len with h0 | h0
  ·subst h0
   exact .inl (by simp)
  obtain ⟨_,hcl,hat⟩:=World.cells?_some (hf 0 h0).1
  have hc0:w.cell? ((a.add (0*m)).add 0)=some ((f 0).1[0]'(by omega)):=by rw [hat 0 hpos,mH (by omega)]
  rw [Nat.zero_mul,Go.Deep.add_add] at hc0
  obtain ⟨b,o,spot⟩:=a
  have hspot:spot=none:=by simpa [Addr.add] using World.cell?_spot hc0
  subst hspot
  have hbl:b < w.heap.size:=by
   rcases Nat.lt_or_ge b w.heap.size with h | h
   ·exact h
   simp [World.cell?,Addr.add,Array.getElem?_eq_none h] at hc0
  refine .inr ⟨b,o,rfl,hbl,.inl hbl,fun j u hj=>?_⟩
  obtain ⟨k,i,cs,h1,h2,h3,rfl⟩:=zEl hlen hj
  have hk':k < len:=by
   rcases Nat.lt_or_ge k len with h | h
   ·exact h
   rw [List.getElem?_eq_none (by simp;omega)] at h1;cases h1
  simp [hk'] at h1
  subst h1
  obtain ⟨_,_,hatk⟩:=World.cells?_some (hf k hk').1
  have:=hatk i h3
  rw [Go.Deep.add_add] at this
  have e2:(⟨b,o,none⟩:Addr).add (k*m+i)=⟨b,o+(k*m+i),none⟩:=by unfold Addr.add;split <;> simp_all
  rw [e2] at this
  rw [this,h2]
 ·intro j cs y hu hy
  have hj':j < len:=by
   rcases Nat.lt_or_ge j len with h | h
   ·exact h
   rw [List.getElem?_eq_none (by simp;omega)] at hu;cases hu
  simp [hj'] at hu hy
  subst hu hy
  exact (hf j hj').2
 have hrb:reachBytes=R47:=rfl
 simp only [List.length_map,List.length_range]
 rw [<- hrb]
 refine mD ?_ hwl
 exact Nat.mul_le_mul_right _ (by omega)
end
open Go.RowKit Go.ChangeShapes Go.WideShapes Go.ChangeAt
section
variable {H:Type} {enc:TypeId × Value->H} {w:World} {base:Nat} {spare:Nat->Bool} {held:Bool} {n:Nat}
end
end Go.Proofs.YtjnjhmkgfjikfaaDoor

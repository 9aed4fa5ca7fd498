/- Part 5: words and walks under the laws of the whole. -/
import Derived.Maps.AppendAt
import Derived.Deep.AppendLies
import Derived.Deep.RegionLaw
import Derived.OwnWalk
import Derived.Test.YtlngfbngnnepiaaGreatZZ4
set_option linter.unusedVariables false
set_option linter.unusedSimpArgs false
set_option maxHeartbeats 4000000
set_option maxRecDepth 100000
namespace Go.Proofs.YtlngfbngnnepiaaGreat
open Go.RowKit
abbrev zR : Array Value := #[.int .i64 0, .int .i64 0, .int .i64 0, .bool false, .slice none 0 0, .int .i64 0, .slice none 0 0, .slice none 0 0, .slice none 0 0, .slice none 0 0]
abbrev rN (r : Scu.Replica) (A : Option Addr) (n c : Nat) (B : Option Addr) (d : Nat) (C : Option Addr) (e : Nat) (D : Option Addr) (f : Nat) (E : Option Addr) (g : Nat) : Array Value := #[.int .i64 r.me, .int .i64 r.kept.view, .int .i64 r.kept.normal, .bool r.kept.calm, .slice A n c, .int .i64 r.kept.commit, .slice B r.have_.length d, .slice C r.wants.length e, .slice D r.gives.length f, .slice E r.given.length g]
abbrev rL (r : Scu.Replica) (A : Option Addr) (n c : Nat) (B : Option Addr) (d : Nat) (C : Option Addr) (e : Nat) (D : Option Addr) (f : Nat) (E : Option Addr) (g : Nat) : List Value := [.int .i64 r.me, .int .i64 r.kept.view, .int .i64 r.kept.normal, .bool r.kept.calm, .slice A n c, .int .i64 r.kept.commit, .slice B r.have_.length d, .slice C r.wants.length e, .slice D r.gives.length f, .slice E r.given.length g]
abbrev aN (a : Scu.Act) : Array Value := #[.int .i64 a.kind, .int .i64 a.c, .int .i64 a.r, .int .i64 a.k, .int .i64 a.n, .int .i64 a.op.kind, .int .i64 a.op.at_, .int .i64 a.op.snap, .string a.op.data]
abbrev mN (m : Scu.Message) (A : Option Addr) (n c : Nat) : Array Value := #[.int .i64 m.kind, .int .i64 m.from_, .int .i64 m.tq, .int .i64 m.view, .int .i64 m.normal, .int .i64 m.commit, .int .i64 m.n, .slice A n c]
def ElT (t e:TypeId) (size bytes:Nat):Prop :=
 Tryz.prog.underlying t=some (.slice e)/\0 < size/\∃ i z,Tryz.prog.info? e=some i/\i.zero=some z/\i.size=size/\i.bytes=bytes/\z.cells.size=size
def Src1 (w:World) (size:Nat) (x:Value) (m:Nat) (news:List Value):Prop :=
 news.length=m*size/\((∃ c,x=.slice none 0 c/\m=0)\/∃ ad c,x=.slice (some ad) m c/\∀ (j:Nat) (u:Value),news[j]? = some u->w.cell? (ad.add j)=some u)
theorem zAq {w:World} {B:Nat} {t:TypeId} {A:Option Addr} {m c:Nat} {size:Nat} {news:List Value} (h:Rd w B t A news) (hl:news.length=m*size) (hA:A=none->m=0):Src1 w size (.slice A m c) m news:=by
 refine ⟨hl,?_⟩;rcases A with _ | ad
 ·have:=hA rfl;subst this;exact .inl ⟨c,rfl,rfl⟩
 refine .inr ⟨ad,c,rfl,fun j u hj=>?_⟩;rcases h with h | ⟨g,o,h1,_,_,h4⟩
 ·subst h;simp at hj
 simp only [Option.some.injEq] at h1
 subst h1;have e:(⟨g,o,none⟩:Addr).add j=⟨g,o+j,none⟩:=by unfold Addr.add;split <;> simp_all
 rw [e];exact h4 j u hj
section
variable (w:World)
theorem zWo {t e ty:TypeId} {size bytes:Nat} (hE:ElT t e size bytes) (base:Nat) (v:Value) (n:Nat) (xs:List Value) (Ha:w.ownsRow base e size v n xs)
 (x:Value) (m:Nat) (news:List Value) (hx:Src1 w size x m news) (h1:∀ u ∈ news,u.oneCell'=true) (He:n+m<=maxLen) (Hb:(n+m)*bytes<=140737488355328) (Hd:base<=w.heap.size) :
 ∃ v' w',(Builtin.append_ #[t,t] ty #[v,x]).run Tryz.prog w=.ok v' w'/\w'.ownsRow base e size v' (n+m) (xs ++ news)/\w.grownBy w' v.ownBlock/\(v'.ownBlock=v.ownBlock\/v'.ownBlock=some w.heap.size):=by
 obtain ⟨ht,Hg,i,z,hi,hz,Hh,Hi,Hj⟩:=hE;obtain ⟨hl,⟨c,rfl,rfl⟩ | ⟨ad,c,rfl,Hc⟩⟩:=hx
 ·have hn:news=[]:=List.eq_nil_of_length_eq_zero (by simpa using hl);subst hn;refine ⟨v,w,?_,by simpa using Ha,World.grownBy.refl w _,.inl rfl⟩;rcases Ha.2 with ⟨rfl,rfl⟩ | ⟨g,cap,cur,rfl,_,_,Hk,_⟩
  ·simp [Builtin.append_,run_underlying ht,sizeOf,typeInfo,hi,Builtin.lenOf,Builtin.firstCells]
  simp [Builtin.append_,run_underlying ht,sizeOf,typeInfo,hi,Builtin.lenOf,Builtin.firstCells,Hk,storeCells]
 obtain ⟨v',w',Hf,h2,h3,_,h5⟩:=run_append_own_at (P:=Tryz.prog) w base t ty e i z size bytes ht hi hz Hh Hi Hj Hg v n xs Ha ad m c news hl Hc h1 He Hb Hd;exact ⟨v',w',Hf,h2,h3,h5⟩
theorem zCi {o:Oper} {a:Act} {K:Act->World->Prop} {Q:Exit->Act->World->Prop} (s x:Operand) (t:TypeId)
 (ho:o.op=.call { callee:=.builtin .append,args:=#[s,x],argTypes:=#[t,t] }) {e:TypeId} {size bytes:Nat} (hE:ElT t e size bytes) (base:Nat) (v:Value) (n:Nat) (xs:List Value) (hs:a.eval s=v) (Hc:w.ownsRow base e size v n xs)
 (xv:Value) (m:Nat) (news:List Value) (Hf:a.eval x=xv) (hx:Src1 w size xv m news) (h1:∀ u ∈ news,u.oneCell'=true) (Hd:n+m<=maxLen) (Ha:(n+m)*bytes<=140737488355328) (Hb:base<=w.heap.size)
 (h:∀ v' w',w'.ownsRow base e size v' (n+m) (xs ++ news)->w.grownBy w' v.ownBlock->(v'.ownBlock=v.ownBlock\/v'.ownBlock=some w.heap.size)->K (a.put o.dst v') w'):o.wp Tryz.prog a w K Q:=by
 obtain ⟨v',w',He,h2,h3,h4⟩:=zWo w (ty:=o.type) hE base v n xs Hc xv m news hx h1 Hd Ha Hb;unfold Oper.wp execOp;simp only [ho,resolve,invoke,builtin,Sem.run_bind,Sem.run_pure,Result.andThen_ok,List.map_toArray,List.map_cons,List.map_nil,hs,Hf,He]
 exact h v' w' h2 h3 h4
theorem zAz {ops:Array Oper} {rest:List Oper} {o:Oper} {a:Act} {Q:Exit->Act->World->Prop} (He:o.guard=none) (s x:Operand) (t:TypeId)
 (ho:o.op=.call { callee:=.builtin .append,args:=#[s,x],argTypes:=#[t,t] }) {e:TypeId} {size bytes:Nat} (hE:ElT t e size bytes) (base:Nat) (v:Value) (n:Nat) (xs:List Value) (hs:a.eval s=v) (Hc:w.ownsRow base e size v n xs)
 (xv:Value) (m:Nat) (news:List Value) (Hf:a.eval x=xv) (hx:Src1 w size xv m news) (h1:∀ u ∈ news,u.oneCell'=true) (Hd:n+m<=maxLen) (Ha:(n+m)*bytes<=140737488355328) (Hb:base<=w.heap.size)
 (h:∀ v' w',w'.ownsRow base e size v' (n+m) (xs ++ news)->w.grownBy w' v.ownBlock->(v'.ownBlock=v.ownBlock\/v'.ownBlock=some w.heap.size)->wpList Tryz.prog ops Q rest (a.put o.dst v') w'):wpList Tryz.prog ops Q (o :: rest) a w :=
 wpList_plain He fun _ hK=>zCi w s x t ho hE base v n xs hs Hc xv m news Hf hx h1 Hd Ha Hb fun v' w' h2 h3 h4=>hK _ _ (h v' w' h2 h3 h4)
theorem zBq {ops:Array Oper} {o:Oper} {a:Act} {K:Act->World->Prop} {Q:Exit->Act->World->Prop} {E:Prop} (He:o.guard=none) (s x:Operand) (t:TypeId)
 (ho:o.op=.call { callee:=.builtin .append,args:=#[s,x],argTypes:=#[t,t] }) {e:TypeId} {size bytes:Nat} (hE:ElT t e size bytes) (base:Nat) (v:Value) (n:Nat) (xs:List Value) (hs:a.eval s=v) (Hc:w.ownsRow base e size v n xs)
 (xv:Value) (m:Nat) (news:List Value) (Hf:a.eval x=xv) (hx:Src1 w size xv m news) (h1:∀ u ∈ news,u.oneCell'=true) (Hd:n+m<=maxLen) (Ha:(n+m)*bytes<=140737488355328) (Hb:base<=w.heap.size)
 (h:∀ v' w',w'.ownsRow base e size v' (n+m) (xs ++ news)->w.grownBy w' v.ownBlock->(v'.ownBlock=v.ownBlock\/v'.ownBlock=some w.heap.size)->K (a.put o.dst v') w') :
 if Region.wanted o (yielded ops a.tmps)=true then Oper.wp Tryz.prog o a w K Q else E:=by
 have hw:Region.wanted o (yielded ops a.tmps)=true:=by simp [Region.wanted,He]
 rw [if_pos hw];exact zCi w s x t ho hE base v n xs hs Hc xv m news Hf hx h1 Hd Ha Hb h
end
theorem zAi {w:World} {base:Nat} {e:TypeId} {size n:Nat} {v:Value} {xs:List Value} (h:w.ownsRow base e size v n xs) :
 ∃ A c,v=.slice A n c/\n<=c/\(A=none->n=0/\c=0)/\Rd w 0 e A xs/\(∀ g,v.ownBlock=some g->base<=g/\g < w.heap.size):=by
 have Ha:=h.lt;obtain ⟨hl,⟨rfl,rfl⟩ | ⟨g,cap,cur,rfl,hb,hh,Hb,_,Hd,ht⟩⟩:=h
 ·have hx:xs=[]:=List.eq_nil_of_length_eq_zero (by simpa using hl);subst hx;exact ⟨none,0,rfl,mC _,fun _=>⟨rfl,rfl⟩,Rd.nil,Ha⟩
 refine ⟨_,cap,rfl,Hb,(fun e=>by cases e),?_,Ha⟩;have hg:g < w.heap.size:=by
  rcases Nat.lt_or_ge g w.heap.size with h | h
  ·exact h
  rw [Array.getElem?_eq_none h] at hh;cases hh
 refine .inr ⟨g,0,rfl,hg,.inr ⟨cur,_,hh⟩,fun j u hj=>?_⟩;have Hc:j < n*size:=by
  have:j < xs.length:=by
   rcases Nat.lt_or_ge j xs.length with h | h
   ·exact h
   rw [List.getElem?_eq_none h] at hj;cases hj
  omega
 simp only [World.cell?,hh,Nat.zero_add]
 rw [<- ht,List.getElem?_take_of_lt Hc] at hj;simpa using hj
theorem zBl:ElT 39 9 1 16:=by
 obtain ⟨i,h1,h2,h3,h4⟩:=info_parts (P:=Tryz.prog) (e:=9) (z:=.string ⟨#[]⟩) (size:=1) (bytes:=16) (by kernel_rfl);exact ⟨Tryz.underlying39,by omega,i,_,h1,h2,h3,h4,rfl⟩
theorem zHp:ElT 24 39 1 24:=by
 obtain ⟨i,h1,h2,h3,h4⟩:=info_parts (P:=Tryz.prog) (e:=39) (z:=.slice none 0 0) (size:=1) (bytes:=24) (by kernel_rfl);exact ⟨Tryz.underlying24,by omega,i,_,h1,h2,h3,h4,rfl⟩
theorem zBi {w:World} {B:Nat} {t:TypeId} {cs:List Value} (h:Rd w B t none cs):cs=[]:=by
 rcases h with h | ⟨g,o,h1,_⟩
 ·exact h
 cases h1
theorem zKy {w:World} {e:TypeId} {size:Nat} {base:Nat} (hb:base<=w.heap.size):(w.alloc (.cells #[] e)).ownsRow base e size (.slice (some ⟨w.heap.size,0,none⟩) 0 0) 0 [] :=
 World.ownsRow_made w #[] 0 hb (mE _) (by simp)
theorem zBf (xs:List Scu.Str):∀ u ∈ xs.map Value.string,u.oneCell'=true:=fun u hu=>by
 obtain ⟨s,_,rfl⟩:=List.mem_map.1 hu;rfl
theorem zAk {w w':World} {row:Option Nat} (hg:w.grownBy w' row) {B:Nat} (hB:B<=w.heap.size) (hr:∀ k,row=some k->B<=k):Below B w w' :=
 (mG B w).grown hg hB hr
theorem zAp (v:Value) (xs:List Scu.Str) (w:World) (B:Nat) (hv:IsStrs w B v xs) :
 Calls Tryz.prog 11 #[v] w fun e w'=>(∃ u,e=.returned u/\w'.ownsRow w.heap.size 9 1 u xs.length (xs.map Value.string))/\Below w.heap.size w w':=by
 obtain ⟨⟨A,c,rfl,He,hr⟩,hl,he⟩:=hv;have Hb:=fun (W:World)=>Lib.run_eql_slice_nil (P:=Tryz.prog) W 39 9 A xs.length c 0 0 Tryz.underlying39
 rcases A with _ | ad
 ·have hx:xs=[]:=by
   have:=zBi hr;simpa using this
  subst hx;have Hc:=fun (W:World)=>Lib.run_eql_slice_nil (P:=Tryz.prog) W 39 9 none 0 c 0 0 Tryz.underlying39
  clear Hb;go_enter Tryz.func11,Tryz.ntmps11
  go_wp2
  go_ret
  exact ⟨⟨_,rfl,World.ownsRow_nil _ _ _ _⟩,mG _ _⟩
 have Hd:=hl;unfold R47 at Hd;go_enter Tryz.func11,Tryz.ntmps11
 go_wp2_with (at_builtin;refine zAz _ rfl _ _ 39 rfl zBl w.heap.size _ 0 [] rfl (zKy (mC _)) _ xs.length (xs.map Value.string) rfl ?c1 (zBf xs) (by unfold maxLen;omega) (by omega) (by simp) ?_)
 case c1=>exact zAq (hr.alloc _) (by simp) (fun e=>by cases e)
 intro v1 w1 Ha hg hw;have HO:=mA Ha;have HW:=mA hw;clear Ha hw;go_wp2
 go_ret
 refine ⟨⟨_,rfl,HO.out⟩,?_⟩;exact ((mG _ _).alloc (mC _) _).trans (zAk hg (by simp) (fun k hk=>by simp [Value.ownBlock] at hk;omega))
theorem zCn {w:World} {base:Nat} {v:Value} {xs:List Scu.Str} (h:w.ownsRow base 9 1 v xs.length (xs.map Value.string)) (h1:xs.length*16<=R47) (h2:∀ s ∈ xs,s.size<=R47):IsStrs w 0 v xs:=by
 obtain ⟨A,c,rfl,hc,_,hr,_⟩:=zAi h;exact ⟨⟨_,_,rfl,hc,hr⟩,h1,h2⟩
theorem zAl {w:World} {base base':Nat} {e:TypeId} {size n:Nat} {v:Value} {xs:List Value} (h:w.ownsRow base e size v n xs) (hb:base'<=base):w.ownsRow base' e size v n xs:=by
 obtain ⟨h1,h2 | ⟨g,cap,cur,h2,h3,h4⟩⟩:=h
 ·exact ⟨h1,.inl h2⟩
 exact ⟨h1,.inr ⟨g,cap,cur,h2,by omega,h4⟩⟩
structure OwnVol (w:World) (base:Nat) (nv sv:Value) (x:Scu.Volume):Prop where
 now:w.ownsRow base 9 1 nv x.now.length (x.now.map Value.string)
 nowLen:x.now.length*16<=R47
 nowEach:∀ s ∈ x.now,s.size<=R47
 len:x.snaps.length*24<=R47
 snaps:∃ vs b,w.ownsRow base 39 1 sv x.snaps.length vs/\(∀ (j:Nat) (u:Value) (y:List Scu.Str),vs[j]? = some u->x.snaps[j]? = some y->IsStrs w 0 u y) /\
  (∀ g,nv.ownBlock=some g->g < b)/\(∀ u ∈ vs,∀ g,u.ownBlock=some g->b<=g)
theorem OwnVol.is {w:World} {base:Nat} {nv sv:Value} {x:Scu.Volume} (h:OwnVol w base nv sv x):IsVolume w 0 nv sv x:=by
 refine ⟨zCn h.now h.nowLen h.nowEach,?_⟩;obtain ⟨vs,b,h1,h2,_,_⟩:=h.snaps;obtain ⟨A,c,rfl,hc,_,hr,_⟩:=zAi h1;exact ⟨⟨_,_,vs,rfl,hc,hr,by have:=h1.1;omega,h2⟩,h.len⟩
def CopyRel (w:World) (base bo b1:Nat) (nv:Value) (x:Scu.Volume) (k:Nat) (wr:World):Prop :=
 Blk wr (w.heap.size+1) 88 #[.slice none 0 0,.slice none 0 0]/\∃ sv vs,Blk wr bo 88 #[nv,sv]/\wr.ownsRow base 39 1 sv k vs/\(∀ (j:Nat) (u:Value) (y:List Scu.Str),vs[j]? = some u->x.snaps[j]? = some y->IsStrs wr 0 u y) /\
  (∀ u ∈ vs,∀ g,u.ownBlock=some g->b1<=g)/\wr.ownsRow base 9 1 nv x.now.length (x.now.map Value.string)/\(∀ g,nv.ownBlock=some g->g < b1)/\Below w.heap.size w wr
theorem zAa (w:World) (o:Obj):Below w.heap.size w (w.alloc o):=(mG _ _).alloc (mC _) o
theorem zAg {w w':World} {base:Nat} {e:TypeId} {size n:Nat} {v:Value} {xs:List Value} (h:w.ownsRow base e size v n xs) (hb:Below w.heap.size w w'):w'.ownsRow base e size v n xs :=
 h.kept (row:=none) ⟨hb.os,hb.tape,hb.output,hb.size,fun i hi _=>hb.block i hi⟩ (by cases hv:v.ownBlock with
  | none=>exact .inl rfl
  | some g=>exact .inr (by simp))
theorem zDb {w:World} {base:Nat} {e:TypeId} {size n:Nat} {v:Value} {xs:List Value} (h:w.ownsRow base e size v n xs) {g:Nat} (hg:v.ownBlock=some g):∃ C fz,w.heap[g]? = some (.cells C e fz):=by
 obtain ⟨_,⟨rfl,_⟩ | ⟨q,cap,cur,rfl,_,hh,_⟩⟩:=h
 ·cases hg
 simp only [Value.ownBlock,Option.some.injEq] at hg
 subst hg;exact ⟨_,_,hh⟩
theorem zJd (w:World) (p:Addr) (u:Value):w.grownBy (w.setCell p u) (some p.block) :=
 ⟨rfl,rfl,rfl,by simp [World.setCell],fun i _ Ha=>Below.heap_setCell w p u i (fun e=>Ha (by rw [e]))⟩
theorem zMh {w wr w3 w4:World} {bo k:Nat} {nv sv u v4:Value} {x:Scu.Volume} {vs:List Value} {o:Obj} {y:List Scu.Str} (hw:w.heap.size+1 < bo) (Hs:Blk wr (w.heap.size+1) 88 #[.slice none 0 0,.slice none 0 0])
 (Hj:Blk wr bo 88 #[nv,sv]) (Hk:wr.ownsRow w.heap.size 39 1 sv k vs) (hy:x.snaps[k]? = some y)
 (Hl:(∀ (j:Nat) (u:Value) (y:List Scu.Str),vs[j]? = some u->x.snaps[j]? = some y->IsStrs wr 0 u y)/\(∀ u ∈ vs,∀ g,u.ownBlock=some g->bo<=g) /\
  wr.ownsRow w.heap.size 9 1 nv x.now.length (x.now.map Value.string)/\(∀ g,nv.ownBlock=some g->g < bo)/\Below w.heap.size w wr)
 (h3:Below wr.heap.size wr w3) (hu:w3.ownsRow wr.heap.size 9 1 u y.length (y.map Value.string)) (Hx:y.length*16<=R47) (Hy:∀ s ∈ y,s.size<=R47)
 (h4:w4.ownsRow w.heap.size 39 1 v4 (k+1) (vs ++ [u])) (hg:(w3.alloc o).grownBy w4 sv.ownBlock) :
 CopyRel w w.heap.size bo bo nv x (k+1) (w4.setCell ⟨bo,1,none⟩ v4):=by
 obtain ⟨Hm,Hn,Ht,Ho,Hh⟩:=Hl;have Hz:=Hj.lt;have Ka:=h3.size;have Kb:=hg.size;have Kg:(w3.alloc o).heap.size=w3.heap.size+1:=by simp
 have Hi:Below wr.heap.size wr (w3.alloc o):=h3.alloc Ka o;have Hc:=zAg Hk Hi;have Hb:Blk (w3.alloc o) bo 88 #[nv,sv]:=Hj.same Hi;have Ha:∀ g C t fz,(w3.alloc o).heap[g]? = some (.cells C t fz)->t≠39->some g≠sv.ownBlock:=by
  intro g C t fz hh Kc Hp;obtain ⟨C',fz',Hr⟩:=zDb Hc Hp.symm;rw [hh] at Hr;cases Hr
  exact Kc rfl
 have Hd:Blk w4 bo 88 #[nv,sv]:=(hg.block bo (by omega) (Ha _ _ _ _ Hb (by decide))).trans Hb;have He:∀ g,g < (w3.alloc o).heap.size->(g < 0\/∃ C fz,(w3.alloc o).heap[g]? = some (.cells C 9 fz))->(w4.setCell ⟨bo,1,none⟩ v4).heap[g]? = (w3.alloc o).heap[g]?:=by
  rintro g Hu (h0 | ⟨C,fz,hh⟩)
  ·omega
  have Kd:g≠bo:=by
   rintro rfl;have:=Hb;unfold Blk at this;rw [hh] at this;cases this
  exact (Below.heap_setCell w4 _ v4 g Kd).trans (hg.block g Hu (Ha _ _ _ _ hh (by decide)))
 have Hv:(w3.alloc o).heap.size<=(w4.setCell ⟨bo,1,none⟩ v4).heap.size:=by simpa [World.setCell] using Kb
 have Hf:=zAg Ht Hi;have Hg:Blk (w3.alloc o) (w.heap.size+1) 88 #[.slice none 0 0,.slice none 0 0]:=Hs.same Hi;have Hq:Blk w4 (w.heap.size+1) 88 #[.slice none 0 0,.slice none 0 0]:=(hg.block _ (by omega) (Ha _ _ _ _ Hg (by decide))).trans Hg;refine ⟨Hq.far (by simp;omega) v4,v4,vs ++ [u],Hd.set_ 1 v4,?_,?_,?_,?_,Ho,?_⟩
 ·refine h4.kept (zJd _ _ _) (.inr fun Hp=>?_);obtain ⟨C',fz',Hr⟩:=zDb h4 Hp;have:=Hd;unfold Blk at this;rw [Hr] at this;cases this
 ·intro j v z hv hz;have hl:vs.length=k:=by simpa using Hk.1
  rcases Nat.lt_or_ge j vs.length with hj | hj
  ·rw [List.getElem?_append_left hj] at hv;exact ((Hm j v z hv hz).below Hi).keep Hv He
  have Ke:j=vs.length:=by
   rcases Nat.lt_or_ge vs.length j with h | h
   ·rw [List.getElem?_eq_none (by simp;omega)] at hv;cases hv
   omega
  subst Ke;rw [List.getElem?_append_right (mC _)] at hv;simp only [Nat.sub_self,List.getElem?_cons_zero,Option.some.injEq] at hv
  subst hv;rw [hl,hy] at hz;cases hz
  exact ((zCn hu Hx Hy).alloc o).keep Hv He
 ·intro v hv g Hw;rcases List.mem_append.1 hv with h | h
  ·exact Hn v h g Hw
  rw [List.mem_singleton] at h;subst h;have:=(hu.lt g Hw).1;omega
 ·have Kf:=Hf.kept hg (by
   cases hnb:nv.ownBlock with
   | none=>exact .inl rfl
   | some q =>
     obtain ⟨C,fz,hh⟩:=zDb Hf hnb;exact .inr (Ha q C _ fz hh (by decide)))
  refine Kf.kept (zJd _ _ _) (.inr fun Hp=>?_);have:=Ho _ Hp;simp at this
 refine Below.setCell ?_ (show w.heap.size<=bo by omega) v4;exact (Hh.trans (Hi.mono Hh.size)).grown hg (by have:=Hh.size;omega) (fun q hq=>(Hc.lt q hq).1)
theorem zJe {w wr w3 w4:World} {bo k:Nat} {nv sv:Value} {vs:List Value} {o:Obj}
 (Hb:Blk wr bo 88 #[nv,sv]) (Hc:wr.ownsRow w.heap.size 39 1 sv k vs)
 (h3:Below wr.heap.size wr w3) (hg:(w3.alloc o).grownBy w4 sv.ownBlock):Blk w4 bo 88 #[nv,sv]:=by
 have He:=h3.size;have Hf:=Hb.lt;have Hi:(w3.alloc o).heap.size=w3.heap.size+1:=by simp
 have Hd:Below wr.heap.size wr (w3.alloc o):=h3.alloc He o;have Ha:Blk (w3.alloc o) bo 88 #[nv,sv]:=Hb.same Hd;refine (hg.block bo (by omega) fun Hg=>?_).trans Ha;obtain ⟨C',fz',Hh⟩:=zDb (zAg Hc Hd) Hg.symm;have:=Ha;unfold Blk at this;rw [Hh] at this;cases this
theorem zFm {w:World} {base:Nat} {e:TypeId} {size n:Nat} {v:Value} {xs:List Value} (h:w.ownsRow base e size v n xs) {g i:Nat} {t:TypeId} {cs:Array Value} (hb:Blk w g t cs) (Ha:t≠e) (u:Value):(w.setCell ⟨g,i,none⟩ u).ownsRow base e size v n xs:=by
 refine h.kept (zJd _ _ _) (.inr fun hg=>?_);obtain ⟨C,fz,hh⟩:=zDb h hg;unfold Blk at hb;rw [hh] at hb;cases hb
 exact Ha rfl
theorem OwnVol.set_ {w:World} {base:Nat} {nv sv:Value} {x:Scu.Volume} (h:OwnVol w base nv sv x) {g i:Nat} {t:TypeId} {cs:Array Value} (hb:Blk w g t cs) (h1:t≠9) (h2:t≠39) (u:Value):OwnVol (w.setCell ⟨g,i,none⟩ u) base nv sv x:=by
 refine ⟨zFm h.now hb h1 u,h.nowLen,h.nowEach,h.len,?_⟩;obtain ⟨vs,b,h3,h4,h5⟩:=h.snaps;refine ⟨vs,b,zFm h3 hb h2 u,fun j v y hv hy=>(h4 j v y hv hy).keep (by simp [World.setCell]) ?_,h5⟩;rintro q hq (h0 | ⟨C,fz,hh⟩)
 ·omega
 refine Below.heap_setCell w _ u q fun e=>?_
 have e':q=g:=e;subst e';unfold Blk at hb;rw [hh] at hb;cases hb
 exact h1 rfl
theorem zCu (nv sv:Value) (x:Scu.Volume) (w:World) (B:Nat) (hv:IsVolume w B nv sv x) :
 Calls Tryz.prog 112 #[.agg #[nv,sv]] w fun e w'=>(∃ nu su,e=.returned (.agg #[nu,su])/\OwnVol w' w.heap.size nu su x)/\Below w.heap.size w w':=by
 obtain ⟨⟨A,c,vs0,rfl,_,hr,Hx,Hy⟩,hl⟩:=hv.snaps;obtain ⟨A1,m1,d1,rfl⟩:=hv.now.form;have Ke:=mA Hx;have Kf:=mA Hy;clear Hx Hy;unfold R47 at hl;go_enter Tryz.func112,Tryz.ntmps112
 go_wp2_with fail
 refine (zAp _ _ _ B ((hv.now.alloc _).alloc _)).mono ?_;rintro e w1 ⟨⟨u,rfl,hu⟩,h1⟩;obtain ⟨hc,hz⟩:=bcell h1;have Kg:w.heap.size+1 < w1.heap.size:=by have:=h1.size;simp at this;omega
 have Kh:w.heap.size < w1.heap.size:=by omega
 obtain ⟨A2,c2,rfl,_,_,_,Hm⟩:=zAi hu;have Hz:Below w.heap.size w w1:=(((mG _ _).alloc (mC _) _).alloc (by simp) _).trans (h1.mono (by simp;omega));have HU:=mA hu;have Hs:=mA Hm;clear hu Hm;go_wp2_with fail
 go_loopw [13] (fun i wr=>∃ k:Nat,k<=x.snaps.length/\i=.int .i64 k/\CopyRel w w.heap.size w1.heap.size w1.heap.size (.slice A2 x.now.length c2) x k wr) (fun i _=>x.snaps.length - (intOf i).toNat)
 case atStart =>
  refine ⟨0,mE _,rfl,((Blk.new' (by simp)).same h1).alloc _,.slice none 0 0,[],Blk.new w1 _ _,World.ownsRow_nil _ _ _ _,fun j u y h=>by simp at h,fun u hu=>by simp at hu,?_,?_,Hz.alloc Hz.size _⟩
  ·exact (zAl HU.out (by simp;omega)).alloc _
  intro g hg;exact (Hs.out g hg).2
 case round =>
  obtain ⟨k,hk,rfl,Hc,svk,vs,Ha,He,Hh,Hi,Hn,Ho,Hd⟩:=hrel;have Hj:=mA Hc;have Ki:=Hc.cell 0;have Kj:=Hc.cell 1;have Ky:=Hc.frozen;have Kk:=Hc.lt;simp only [List.getElem?_toArray,List.getElem?_cons_zero,List.getElem?_cons_succ] at Ki Kj
  clear Hc;have Hb:=mA (mB Hh (mB Hi (mB Hn (mB Ho Hd))));have Hk:=mA Hd;have Kl:=Hd.size;clear Hh Hi Hn Ho;by_cases Ka:k < x.snaps.length
  ·have Km:(k:Int) < (x.snaps.length:Int):=by omega
   obtain ⟨g,o,p,rfl,hg,Hp,hp⟩:=zGw hr Ke.out Kf.out Ka;have Kz:wr.cell? ⟨g,o+k,none⟩=some p:=cW Hd hg Hp;have Hr:=Ha.cell 1;have Kb:=Ha.frozen 1;have Hg:=Ha.lt;have Kc:IsStrs wr B p x.snaps[k]:=hp.below Hd;simp only [List.getElem?_toArray,List.getElem?_cons_zero,List.getElem?_cons_succ] at Hr
   have Hf:=mA He;have Hl:=mA Ha;clear He Ha Hd;have Kn:=mA Kc;clear Kc;go_wp2_with fail
   have HP:=mA hp;clear hp;go_region_law (first
    | (go_simp;go_at_call 11;refine (zAp _ _ _ _ (Kn.out.drewN 1)).mono ?_;rintro e w3 ⟨⟨u3,rfl,Hq⟩,h3⟩;have h3:Below wr.heap.size wr w3:=(below_drewN (mG _ _) 1).trans h3;obtain ⟨A3,c3,rfl,_,_,_,_⟩:=zAi Hq;have Hq:w3.ownsRow wr.heap.size 9 1 _ _ _:=Hq;have Ko:=mA Hq;clear Hq;have Kp:=(((bcell h3).1 w1.heap.size 1 (by simpa using Hg)).trans Hr);have Va:=(((bcell h3).2 w1.heap.size 1 (by simpa using Hg)).trans Kb);have Kq:=h3.size;have Kr:∀ o,(w3.alloc o).cell? ⟨w1.heap.size,1,none⟩=some svk:=fun o=>(((zAa w3 o).cell (p:=⟨w1.heap.size,1,none⟩) (mF Hg h3.size)).trans Kp))
    | (refine zBq _ rfl (.tmp 18) (.tmp 21) 24 rfl zHp w.heap.size svk k vs rfl ((zAg Hf.out h3).alloc _) (.slice (some ⟨w3.heap.size,0,none⟩) 1 1) 1 [.slice A3 x.snaps[k].length c3] rfl ⟨rfl,.inr ⟨_,_,rfl,?_⟩⟩ ?_ ?_ ?_ ?_ ?_
       ·intro j v hj;have Ks:j=0:=by (rcases j with _ | j <;> simp at hj ⊢)
        subst Ks;simp at hj
        subst hj;exact (Blk.new w3 _ _).cell 0
       ·(intro v hv;rw [List.mem_singleton] at hv;subst hv;rfl)
       ·(unfold maxLen;omega)
       ·omega
       ·(simp;have:wr.heap.size<=w3.heap.size:=Kq;omega)
       intro v4 w4 h4 Ht _;have Kd:=zMh Kg Hj.out Hl.out Hf.out (mH Ka) Hb.out h3 Ko.out HP.out.len HP.out.each h4 Ht;have Hu:=zJe Hl.out Hf.out h3 Ht;have Kt:=Hu.cell 1;have Vb:=Hu.frozen 1;simp only [List.getElem?_toArray,List.getElem?_cons_zero,List.getElem?_cons_succ] at Kt
       obtain ⟨A4,c4,rfl,_,_,_,_⟩:=zAi h4;have Ku:=mA Kd;clear Kd h4 Ht Hu))
   all_goals (go_wp2;go_roundw)
   all_goals first
    | exact ⟨k+1,by omega,rfl,Ku.out⟩
    | (simp [intOf];omega)
  have Kv:k=x.snaps.length:=by omega
  subst Kv;have Hr:=Ha.cell 0;have Kw:=Ha.cell 1;have Kb:=Ha.frozen;have Hg:=Ha.lt;simp only [List.getElem?_toArray,List.getElem?_cons_zero,List.getElem?_cons_succ] at Hr Kw
  obtain ⟨A4,c4,rfl,_,_,_,_⟩:=zAi He;have Hf:=mA He;have Hl:=mA Ha;have HL:=mA hl;clear He Ha hl;have Vc:w1.heap.size≠w.heap.size+1:=by omega
  have Hv:=Hj.out.set_ 0 (.slice A2 x.now.length c2);have Hw:=Hv.set_ 1 (.slice A4 x.snaps.length c4);have u0:=Hw.cell 0;have u1:=Hw.cell 1;simp at u0 u1
  have HV:OwnVol wr w.heap.size (.slice A2 x.now.length c2) (.slice A4 x.snaps.length c4) x :=
   ⟨Hb.out.2.2.1,hv.now.len,hv.now.each,HL.out,vs,w1.heap.size,Hf.out,Hb.out.1,Hb.out.2.2.2.1,Hb.out.2.1⟩
  have Kx:=mA ((HV.set_ (i:=0) Hj.out (by decide) (by decide) (.slice A2 x.now.length c2)).set_ (i:=1) Hv (by decide) (by decide) (.slice A4 x.snaps.length c4));clear HV Hv Hw;go_wp2
  refine bodyPost_ret (v:=.agg #[.slice A2 x.now.length c2,.slice A4 x.snaps.length c4]) (by simp [results,Tryz.results112,go_sem,u0,u1]) rfl ?_;exact ⟨⟨_,_,rfl,Kx.out⟩,(Hk.out.setCell (p:=⟨w.heap.size+1,0,none⟩) (by simp) _).setCell (p:=⟨w.heap.size+1,1,none⟩) (by simp) _⟩
theorem zTi {w wr w3 w4:World} {bo k q:Nat} {sv v4:Value} {vs:List Value} {o:Obj} {cs:Array Value} (hq:Blk wr q 88 cs) (Hd:bo≠q)
 (Ha:wr.ownsRow w.heap.size 39 1 sv k vs)
 (h3:Below wr.heap.size wr w3) (hg:(w3.alloc o).grownBy w4 sv.ownBlock):Blk (w4.setCell ⟨bo,1,none⟩ v4) q 88 cs:=by
 have He:=h3.size;have Hf:=hq.lt;have Hi:(w3.alloc o).heap.size=w3.heap.size+1:=by simp
 have Hb:Below wr.heap.size wr (w3.alloc o):=h3.alloc He o;have Hc:Blk (w3.alloc o) q 88 cs:=hq.same Hb;refine Blk.far ((hg.block q (by omega) fun Hg=>?_).trans Hc) (fun e=>Hd e.symm) v4;obtain ⟨C',fz',Hh⟩:=zDb (zAg Ha Hb) Hg.symm;have:=Hc;unfold Blk at this;rw [Hh] at this;cases this
theorem zCv (nv sv:Value) (x:Scu.Volume) (w:World) (B:Nat) (hv:IsVolume w B nv sv x) :
 Calls Tryz.prog 96 #[.agg #[nv,sv]] w fun e w'=>(∃ nu su,e=.returned (.agg #[nu,su])/\OwnVol w' w.heap.size nu su x)/\Below w.heap.size w w':=by
 obtain ⟨⟨A,c,vs0,rfl,_,hr,Kc,Kd⟩,hl⟩:=hv.snaps;obtain ⟨⟨A1,d1,rfl,_,Ke⟩,Hu,Hv⟩:=hv.now;have Vk:=mA Hv;clear Hv;have Kn:=mA Kc;have Ko:=mA Kd;clear Kc Kd;unfold R47 at hl Hu;go_enter Tryz.func96,Tryz.ntmps96
 go_wp2_with (at_builtin;refine zAz _ rfl _ _ 39 rfl zBl w.heap.size _ 0 [] rfl (World.ownsRow_nil _ _ _ _) _ x.now.length (x.now.map Value.string) rfl (zAq ((Ke.alloc _).alloc _) (by simp) (fun e=>by subst e;have:=zBi Ke;simpa using this)) (zBf _) (by unfold maxLen;omega) (by omega) (by simp;omega) ?_)
 intro v1 w1 hu Hw _;have h1:Below ((w.alloc (.cells #[.slice A1 x.now.length d1,.slice A x.snaps.length c] 88)).alloc (.cells #[.slice none 0 0,.slice none 0 0] 88)).heap.size ((w.alloc (.cells #[.slice A1 x.now.length d1,.slice A x.snaps.length c] 88)).alloc (.cells #[.slice none 0 0,.slice none 0 0] 88)) w1 :=
  zAk Hw (mC _) (fun q hq=>by cases hq)
 obtain ⟨hc,hz⟩:=bcell h1;have Kp:w.heap.size+1 < w1.heap.size:=by have:=h1.size;simp at this;omega
 have Kq:w.heap.size < w1.heap.size:=by omega
 have hu:w1.ownsRow w.heap.size 9 1 v1 x.now.length (x.now.map Value.string):=hu;obtain ⟨A2,c2,rfl,_,_,_,Hn⟩:=zAi hu;have Kf:Below w.heap.size w w1:=(((mG _ _).alloc (mC _) _).alloc (by simp) _).trans (h1.mono (by simp;omega));have HU:=mA hu;have Hx:=mA Hn;have HN:=mA Hu;have HG:=mA Hw;clear hu Hn Hu Hw;go_wp2_with fail
 go_loopw [4] (fun i wr=>∃ k:Nat,k<=x.snaps.length/\i=.int .i64 k/\Blk wr w.heap.size 88 #[.slice A1 x.now.length d1,.slice A x.snaps.length c]/\CopyRel w w.heap.size w1.heap.size w1.heap.size (.slice A2 x.now.length c2) x k wr) (fun i _=>x.snaps.length - (intOf i).toNat)
 case atStart =>
  refine ⟨0,mE _,rfl,(((Blk.new' rfl).alloc _).same h1).alloc _,((Blk.new' (by simp)).same h1).alloc _,.slice none 0 0,[],Blk.new w1 _ _,World.ownsRow_nil _ _ _ _,fun j u y h=>by simp at h,fun u hu=>by simp at hu,?_,?_,Kf.alloc Kf.size _⟩
  ·exact HU.out.alloc _
  intro g hg;exact (Hx.out g hg).2
 case round =>
  obtain ⟨k,hk,rfl,Hg,Hc,svk,vs,Ha,Hf,Hh,Hi,Ho,Hp,Hd⟩:=hrel;have Hj:=mA Hc;have Hy:=mA Hg;have Kr:=Hc.cell 0;have Ks:=Hc.cell 1;have Vl:=Hc.frozen;have Kt:=Hc.lt;have Ku:=Hg.cell 1;simp only [List.getElem?_toArray,List.getElem?_cons_zero,List.getElem?_cons_succ] at Kr Ks Ku
  have Kv:=Hg.lt;clear Hc Hg;have Hb:=mA (mB Hh (mB Hi (mB Ho (mB Hp Hd))));have Hk:=mA Hd;have Kw:=Hd.size;clear Hh Hi Ho Hp;by_cases Kg:k < x.snaps.length
  ·have Kx:(k:Int) < (x.snaps.length:Int):=by omega
   obtain ⟨g,o,p,rfl,hg,Hq,hp⟩:=zGw hr Kn.out Ko.out Kg;have Vm:wr.cell? ⟨g,o+k,none⟩=some p:=cW Hd hg Hq;have Hs:=Ha.cell 1;have Ky:=Ha.frozen 1;have Hl:=Ha.lt;have Kz:IsStrs wr B p x.snaps[k]:=hp.below Hd;obtain ⟨⟨A3,c3,rfl,_,Kh⟩,Ki,Kj⟩:=Kz;simp only [List.getElem?_toArray,List.getElem?_cons_zero,List.getElem?_cons_succ] at Hs
   have He:=mA Hf;have Hm:=mA Ha;have HP:=mA (mB Ki Kj);unfold R47 at Ki;clear Hf Ha Hd hp Kj;go_wp2_with fail
   go_region_law (first
    | (refine zBq _ rfl (.const (.slice none 0 0)) (.tmp 22) 39 rfl zBl wr.heap.size _ 0 [] rfl (World.ownsRow_nil _ _ _ _) _ x.snaps[k].length (x.snaps[k].map Value.string) rfl ?_ (zBf _) ?_ ?_ ?_ ?_
       ·exact zAq (Kh.drewN 1) (by simp) (fun e=>by subst e;have:=zBi Kh;simpa using this)
       ·unfold maxLen;omega
       ·omega
       ·exact mC _
       intro u3 w3 Hr Kk _;have h3:Below wr.heap.size wr w3:=(mG wr.heap.size wr).drew.trans (zAk Kk (mC _) (fun q hq=>by cases hq));have Hr:w3.ownsRow wr.heap.size 9 1 u3 x.snaps[k].length (x.snaps[k].map Value.string):=(by simpa only [Nat.zero_add,List.nil_append] using Hr);obtain ⟨A5,c5,rfl,_,_,_,_⟩:=zAi Hr;have Va:=mA Hr;clear Hr Kk;have Vb:=(((bcell h3).1 w1.heap.size 1 Hl).trans Hs);have Vc:∀ o,(w3.alloc o).cell? ⟨w1.heap.size,1,none⟩=some svk:=fun o=>(((zAa w3 o).cell (p:=⟨w1.heap.size,1,none⟩) (mF Hl h3.size)).trans Vb)
       have Vd:=h3.size)
    | (refine zBq _ rfl (.tmp 17) (.tmp 24) 24 rfl zHp w.heap.size svk k vs rfl ((zAg He.out h3).alloc _) (.slice (some ⟨w3.heap.size,0,none⟩) 1 1) 1 [.slice A5 x.snaps[k].length c5] rfl ⟨rfl,.inr ⟨_,_,rfl,?_⟩⟩ ?_ ?_ ?_ ?_ ?_
       ·intro j v hj;have Ve:j=0:=by (rcases j with _ | j <;> simp at hj ⊢)
        subst Ve;simp at hj
        subst hj;exact (Blk.new w3 _ _).cell 0
       ·(intro v hv;rw [List.mem_singleton] at hv;subst hv;rfl)
       ·(unfold maxLen;omega)
       ·omega
       ·(simp;have:wr.heap.size<=w3.heap.size:=Vd;omega)
       intro v4 w4 h4 Ht _;have Kl:=zMh Kp Hj.out Hm.out He.out (mH Kg) Hb.out h3 Va.out HP.out.1 HP.out.2 h4 Ht;have Hz:=zJe Hm.out He.out h3 Ht;have Km:=zTi (bo:=w1.heap.size) (v4:=v4) Hy.out (by omega) He.out h3 Ht;have Vf:=Hz.cell 1;have Vn:=Hz.frozen 1;simp only [List.getElem?_toArray,List.getElem?_cons_zero,List.getElem?_cons_succ] at Vf
       obtain ⟨A4,c4,rfl,_,_,_,_⟩:=zAi h4;have Vg:=mA (mB Km Kl);clear Kl h4 Ht Hz Km))
   all_goals (go_wp2;go_roundw)
   all_goals first
    | exact ⟨k+1,by omega,rfl,Vg.out⟩
    | (simp [intOf];omega)
  have Vh:k=x.snaps.length:=by omega
  subst Vh;have Hs:=Ha.cell 0;have Vi:=Ha.cell 1;have Ky:=Ha.frozen;have Hl:=Ha.lt;simp only [List.getElem?_toArray,List.getElem?_cons_zero,List.getElem?_cons_succ] at Hs Vi
  obtain ⟨A4,c4,rfl,_,_,_,_⟩:=zAi Hf;have He:=mA Hf;have Hm:=mA Ha;have HL:=mA hl;clear Hf Ha hl;have Hv:w1.heap.size≠w.heap.size+1:=by omega
  have Ka:=Hj.out.set_ 0 (.slice A2 x.now.length c2);have Kb:=Ka.set_ 1 (.slice A4 x.snaps.length c4);have u0:=Kb.cell 0;have u1:=Kb.cell 1;simp at u0 u1
  have HV:OwnVol wr w.heap.size (.slice A2 x.now.length c2) (.slice A4 x.snaps.length c4) x :=
   ⟨Hb.out.2.2.1,hv.now.len,hv.now.each,HL.out,vs,w1.heap.size,He.out,Hb.out.1,Hb.out.2.2.2.1,Hb.out.2.1⟩
  have Vj:=mA ((HV.set_ (i:=0) Hj.out (by decide) (by decide) (.slice A2 x.now.length c2)).set_ (i:=1) Ka (by decide) (by decide) (.slice A4 x.snaps.length c4));clear HV Ka Kb;go_wp2
  refine bodyPost_ret (v:=.agg #[.slice A2 x.now.length c2,.slice A4 x.snaps.length c4]) (by simp [results,Tryz.results96,go_sem,u0,u1]) rfl ?_;exact ⟨⟨_,_,rfl,Vj.out⟩,(Hk.out.setCell (p:=⟨w.heap.size+1,0,none⟩) (by simp) _).setCell (p:=⟨w.heap.size+1,1,none⟩) (by simp) _⟩
open Go.RowKit
theorem zHz (v:Value) (xs:List Scu.Str) (w:World) (B:Nat) (hv:IsStrs w B v xs) :
 Calls Tryz.prog 115 #[v] w fun e w'=>e=.returned (.bool (Scu.sectorsOk xs))/\w=w':=by
 have Hc:=zGx xs;obtain ⟨⟨A,c,rfl,_,hr⟩,hl,he⟩:=hv;unfold R47 at hl he;have Hd:=mA Hc;clear Hc;go_enter Tryz.func115,Tryz.ntmps115
 go_wp2
 go_loop [3] (fun i=>∃ k:Nat,k<=xs.length/\i=.int .i64 k/\Hid ((xs.take k).any (fun s=>decide (8 < s.size))=false)) (fun i=>xs.length - (intOf i).toNat)
 case atStart=>exact ⟨0,mE _,rfl,by simp [Hid]⟩
 case round =>
  obtain ⟨k,hk,rfl,ht⟩:=hrel;by_cases Ha:k < xs.length
  ·have Hb:(k:Int) < (xs.length:Int):=by omega
   obtain ⟨g,o,rfl,_,hc⟩:=zBz hr Ha;have Hf:=he _ (List.getElem_mem Ha);clear he;by_cases hx:8 < (xs[k]).size
   ·have He:(8:Int) < ((xs[k]).size:Int):=by omega
    have HX:=mA (show Scu.sectorsOk xs=false by rw [Hd.out,zCt (fun s=>decide (8 < s.size)) xs k Ha (by simpa using hx)];simp);clear hx;go_wp2
    go_ret
    exact ⟨zAb (zBa HX.out.symm),rfl⟩
   have He:((xs[k]).size:Int)<=(8:Int):=by omega
   have HX:=mA (show (xs.take (k+1)).any (fun s=>decide (8 < s.size))=false by rw [zDx _ xs k Ha,ht.out];simp;omega);clear hx;go_wp2
   go_round
   case rel=>exact ⟨k+1,Ha,by go_num,HX⟩
   case measure=>simp [intOf];omega
  have Hb:(xs.length:Int)<=(k:Int):=by omega
  have HX:=mA (show Scu.sectorsOk xs=((xs.length:Int) == 6) by
   rw [Hd.out,zDy _ xs k (by omega) ht.out];rw [Bool.eq_iff_iff];simp;omega)
  clear he;go_wp2
  go_ret
  exact ⟨zAb (zBa HX.out.symm),rfl⟩
def okTo (x:Scu.Volume) (k:Nat):Bool:=Scu.sectorsOk x.now && decide (x.snaps.length<=3) && (x.snaps.take k).all Scu.sectorsOk
theorem zTj (x:Scu.Volume) (k:Nat) (h:x.snaps.length<=k):okTo x k=Scu.volOk x:=by
 unfold okTo Scu.volOk;rw [List.take_of_length_le h]
theorem zS1 {P:Prop} (h:P:=by
 rw [List.take_succ_eq_append_getElem h,List.all_append];simp only [List.all_cons,List.all_nil,Bool.and_true,Bool.and_assoc]):P:=h
theorem zRg (x:Scu.Volume) (k:Nat) (h:k < x.snaps.length):okTo x (k+1)=(okTo x k && Scu.sectorsOk x.snaps[k]):=by
 unfold okTo;exact zS1
theorem zRh (x:Scu.Volume):okTo x 0=(Scu.sectorsOk x.now && decide ((x.snaps.length:Int)<=3)):=by
 unfold okTo;have:decide (x.snaps.length<=3)=decide ((x.snaps.length:Int)<=3):=by rw [Bool.eq_iff_iff];simp;omega
 rw [this];simp
theorem zT1 {P:Prop} (h:P:=by
 go_wp2
 go_ret
 exact ⟨zAb (zAd (by rw [HX.out];rfl)),(mG _ _).alloc (mC _) _⟩):P:=h
theorem zBg (nv sv:Value) (x:Scu.Volume) (w:World) (B:Nat) (hv:IsVolume w B nv sv x) :
 Calls Tryz.prog 109 #[.agg #[nv,sv]] w fun e w'=>e=.returned (.int .i64 (Scu.volFault x))/\Below w.heap.size w w':=by
 have HV:=mA hv;obtain ⟨A1,n1,c1,rfl⟩:=hv.now.form;obtain ⟨⟨A,c,vs,rfl,_,hr,Hc,Hd⟩,hl⟩:=hv.snaps;have Hf:=mA Hc;have Hg:=mA Hd;have h0:=zRh x;clear Hc Hd hv;unfold R47 at hl;cases h1:Scu.sectorsOk x.now <;> cases h2:decide ((x.snaps.length:Int)<=3)
 all_goals
  rw [h1,h2] at h0;have H0:=mA h0;have H1:=mA h1;clear h0 h1;go_enter Tryz.func109,Tryz.ntmps109
  go_wp2_with (go_at_call 115;refine (zHz _ _ _ B (HV.out.now.alloc _)).mono ?_;rintro e w1 ⟨rfl,rfl⟩;rw [H1.out])
  go_loop [3,4] (fun b i=>∃ k:Nat,k<=x.snaps.length/\i=.int .i64 k/\∃ c:Bool,b=.bool c/\Hid (c=okTo x k)) (fun _ i=>x.snaps.length - (intOf i).toNat)
  case atStart=>exact ⟨0,mE _,rfl,_,rfl,H0.out.symm⟩
  case round =>
   obtain ⟨k,hk,rfl,c,rfl,ht⟩:=hrel;by_cases Ha:k < x.snaps.length
   ·have Hb:(k:Int) < (x.snaps.length:Int):=by omega
    obtain ⟨g,o,p,rfl,hg,hc,hp⟩:=zGw hr Hf.out Hg.out Ha;have Hh:=mA hp;obtain ⟨A2,n2,c2,rfl⟩:=hp.form;have HX:=mA (zRg x k Ha);clear hp;cases c
    ·go_wp2
     go_round
     case rel=>exact ⟨k+1,Ha,by go_num,false,rfl,by show false=okTo x (k+1);rw [HX.out,<- ht.out];rfl⟩
     case measure=>simp [intOf];omega
    cases hx:Scu.sectorsOk x.snaps[k]
    all_goals
     have He:=mA hx;clear hx;go_wp2_with (go_at_call 115;refine (zHz _ _ _ B (Hh.out.alloc _)).mono ?_;rintro e w1 ⟨rfl,rfl⟩;rw [He.out])
     go_round
     case rel=>exact ⟨k+1,Ha,by go_num,_,rfl,by show _=okTo x (k+1);rw [HX.out,<- ht.out,He.out];rfl⟩
     case measure=>simp [intOf];omega
   have Hb:(x.snaps.length:Int)<=(k:Int):=by omega
   have HX:=mA (show Scu.volFault x=if c then 0 else 8 by unfold Scu.volFault;rw [ht.out,zTj x k (by omega)]);cases c
   all_goals
    exact zT1
theorem IsVolume.at_ {w w':World} {B:Nat} {nv sv:Value} {x:Scu.Volume} (h:IsVolume w B nv sv x) (hb:Below w.heap.size w w'):IsVolume w' B nv sv x:=h.below hb
open Go.RowKit Go.ChangeShapes Go.WideShapes Go.ChangeAt
structure Same (Ts:List TypeId) (B:Nat) (w w':World):Prop where
 size:w.heap.size<=w'.heap.size
 keep:∀ g,g < w.heap.size->(g < B\/∃ C fz t,t ∈ Ts/\w.heap[g]? = some (.cells C t fz))->w'.heap[g]? = w.heap[g]?
section
variable {Ts Ts':List TypeId} {B B':Nat} {w w' w2:World}
theorem Same.refl (Ts:List TypeId) (B:Nat) (w:World):Same Ts B w w:=⟨mC _,fun _ _ _=>rfl⟩
theorem Same.trans (h:Same Ts B w w') (k:Same Ts B w' w2):Same Ts B w w2 :=
 ⟨mD h.size k.size,fun g hg hh=>by
  have e:=h.keep g hg hh;rw [<- e];refine k.keep g (mF hg h.size) ?_;rw [e];exact hh⟩
theorem Same.mono (h:Same Ts B w w') (hT:∀ t ∈ Ts',t ∈ Ts) (hB:B'<=B):Same Ts' B' w w' :=
 ⟨h.size,fun g hg hh=>h.keep g hg (hh.imp (fun h=>mF h hB) fun ⟨C,fz,t,ht,e⟩=>⟨C,fz,t,hT t ht,e⟩)⟩
theorem Same.below (h:Below w.heap.size w w'):Same Ts B w w':=⟨h.size,fun g hg _=>h.block g hg⟩
theorem Same.drew (w:World):Same Ts B w w.drew:=⟨mC _,fun _ _ _=>rfl⟩
theorem Same.drewN (w:World) (n:Nat):Same Ts B w (w.drewN n):=⟨mC _,fun _ _ _=>rfl⟩
theorem Same.alloc (w:World) (o:Obj):Same Ts B w (w.alloc o):=⟨by simp,fun g hg _=>Below.heap_alloc w o g hg⟩
theorem Same.setCell {p:Addr} {C:Array Value} {t':TypeId} {fz:Nat × Nat} (hp:w.heap[p.block]? = some (.cells C t' fz)) (hB:B<=p.block) (ht:t' ∉ Ts) (u:Value):Same Ts B w (w.setCell p u) :=
 ⟨by simp [World.setCell],fun g _ hh=>Below.heap_setCell w p u g (by
  rintro rfl;rcases hh with hh | ⟨C',fz',t,ht',hh⟩
  ·omega
  rw [hp] at hh;cases hh;exact ht ht')⟩
theorem Same.set_ {g:Nat} {cs:Array Value} {t':TypeId} (hp:Blk w g t' cs) (hB:B<=g) (ht:t' ∉ Ts) (i:Nat) (u:Value):Same Ts B w (w.setCell ⟨g,i,none⟩ u):=Same.setCell (p:=⟨g,i,none⟩) (C:=cs) (fz:=(0,0)) hp hB ht u
theorem Same.grown {row:Option Nat} (hg:w.grownBy w' row) (hr:∀ g,row=some g->B<=g/\∃ C fz t',t' ∉ Ts/\w.heap[g]? = some (.cells C t' fz)):Same Ts B w w' :=
 ⟨hg.size,fun g hlt hh=>hg.block g hlt fun e=>by
  obtain ⟨h1,C,fz,t',h2,h3⟩:=hr g e.symm;rcases hh with hh | ⟨C',fz',t,ht',hh⟩
  ·omega
  rw [h3] at hh;cases hh;exact h2 ht'⟩
theorem Same.own {base:Nat} {e:TypeId} {size n:Nat} {v:Value} {xs:List Value} (h:w.ownsRow base e size v n xs) (hg:w.grownBy w' v.ownBlock) (hB:B<=base) (ht:e ∉ Ts):Same Ts B w w' :=
 Same.grown hg fun g hv=>by
  obtain ⟨C,fz,hh⟩:=zDb h hv;have:=(h.lt g hv).1;exact ⟨by omega,C,fz,e,ht,hh⟩
theorem Rd.same {t:TypeId} {A:Option Addr} {cs:List Value} (h:Rd w B t A cs) (ht:t ∈ Ts) (hs:Same Ts B w w'):Rd w' B t A cs :=
 h.keep hs.size fun g hg hh=>hs.keep g hg (hh.imp id fun ⟨C,fz,e⟩=>⟨C,fz,t,ht,e⟩)
theorem IsStrs.same {v:Value} {xs:List Scu.Str} (h:IsStrs w B v xs) (ht:9 ∈ Ts) (hs:Same Ts B w w'):IsStrs w' B v xs :=
 h.keep hs.size fun g hg hh=>hs.keep g hg (hh.imp id fun ⟨C,fz,e⟩=>⟨C,fz,_,ht,e⟩)
end
structure IsOnes {α:Type} (t:TypeId) (bytes:Nat) (f:α->Value) (w:World) (B:Nat) (v:Value) (xs:List α):Prop where
 ex:∃ A c,v=.slice A xs.length c/\xs.length<=c/\Rd w B t A (xs.map f)
 len:xs.length*bytes<=R47
section
variable {α:Type} {t:TypeId} {bytes:Nat} {f:α->Value} {w w':World} {B B':Nat} {v:Value} {xs:List α} {Ts:List TypeId}
theorem IsOnes.same (h:IsOnes t bytes f w B v xs) (ht:t ∈ Ts) (hs:Same Ts B w w'):IsOnes t bytes f w' B v xs:=⟨let ⟨A,c,h1,h2,h3⟩:=h.ex;⟨A,c,h1,h2,h3.same ht hs⟩,h.len⟩
theorem IsOnes.below (h:IsOnes t bytes f w B v xs) (hb:Below w.heap.size w w'):IsOnes t bytes f w' B v xs:=h.same (Ts:=[t]) (by simp) (Same.below hb)
theorem IsOnes.drewN (h:IsOnes t bytes f w B v xs) (n:Nat):IsOnes t bytes f (w.drewN n) B v xs:=⟨h.ex,h.len⟩
theorem IsOnes.alloc (h:IsOnes t bytes f w B v xs) (o:Obj):IsOnes t bytes f (w.alloc o) B v xs:=h.same (Ts:=[t]) (by simp) (Same.alloc w o)
theorem IsOnes.mono (h:IsOnes t bytes f w B v xs) (hB:B<=B'):IsOnes t bytes f w B' v xs:=⟨let ⟨A,c,h1,h2,h3⟩:=h.ex;⟨A,c,h1,h2,h3.mono hB⟩,h.len⟩
theorem IsOnes.form (h:IsOnes t bytes f w B v xs):∃ A n c,v=.slice A n c:=by
 obtain ⟨A,c,e,_⟩:=h.ex;exact ⟨A,_,c,e⟩
theorem zDc {A:Option Addr} {k:Nat} (h:Rd w B t A (xs.map f)) (hk:k < xs.length):∃ g o,A=some ⟨g,o,none⟩/\g < w.heap.size/\w.cell? ⟨g,o+k,none⟩=some (f xs[k]):=h.get (by simp [hk])
end
structure IsRow {α:Type} (t:TypeId) (m bytes:Nat) (El:World->Nat->List Value->α->Prop) (w:World) (B:Nat) (v:Value) (xs:List α):Prop where
 ex:∃ (A:Option Addr) (c:Nat) (css:List (List Value)),v=.slice A xs.length c/\xs.length<=c/\css.length=xs.length/\(∀ cs ∈ css,cs.length=m)/\Rd w B t A css.flatten /\
  ∀ (j:Nat) (cs:List Value) (x:α),css[j]? = some cs->xs[j]? = some x->El w B cs x
 len:xs.length*bytes<=R47
theorem zEx {m:Nat} : ∀ {css:List (List Value)} (_:∀ cs ∈ css,cs.length=m) {k:Nat} {cs:List Value},css[k]? = some cs->∀ j,j < m->css.flatten[k*m+j]? = cs[j]?
 | [],_,k,cs,hk,_,_=>by simp at hk
 | c :: css,h,0,cs,hk,j,hj=>by
   simp only [List.getElem?_cons_zero,Option.some.injEq] at hk
   subst hk;rw [List.flatten_cons,Nat.zero_mul,Nat.zero_add,List.getElem?_append_left (by rw [h c List.mem_cons_self];exact hj)]
 | c :: css,h,k+1,cs,hk,j,hj=>by
   have hc:=h c List.mem_cons_self;rw [List.flatten_cons,List.getElem?_append_right (by rw [hc,Nat.succ_mul];omega),hc,show (k+1)*m+j - m=k*m+j from by rw [Nat.succ_mul];omega];exact zEx (fun x hx=>h x (List.mem_cons_of_mem _ hx)) (by simpa using hk) j hj
theorem zKh {m:Nat} : ∀ {css:List (List Value)} (_:∀ cs ∈ css,cs.length=m) {j:Nat} {u:Value},css.flatten[j]? = some u->∃ k i cs,css[k]? = some cs/\cs[i]? = some u/\i < m/\j=k*m+i
 | [],_,j,u,hj=>by simp at hj
 | c :: css,h,j,u,hj=>by
   have hc:=h c List.mem_cons_self;rw [List.flatten_cons] at hj;rcases Nat.lt_or_ge j m with hlt | hge
   ·rw [List.getElem?_append_left (by omega)] at hj;exact ⟨0,j,c,rfl,hj,hlt,by omega⟩
   ·rw [List.getElem?_append_right (by omega),hc] at hj;obtain ⟨k,i,cs,h1,h2,h3,h4⟩:=zKh (fun x hx=>h x (List.mem_cons_of_mem _ hx)) hj;exact ⟨k+1,i,cs,by simpa using h1,h2,h3,by rw [Nat.succ_mul];omega⟩
theorem zBo {m:Nat} : ∀ {css:List (List Value)} (_:∀ cs ∈ css,cs.length=m),css.flatten.length=css.length*m
 | [],_=>by simp
 | c :: css,h=>by
   rw [List.flatten_cons,List.length_append,h c List.mem_cons_self,zBo (fun x hx=>h x (List.mem_cons_of_mem _ hx)),List.length_cons,Nat.succ_mul];omega
section
variable {α:Type} {t:TypeId} {m bytes:Nat} {El:World->Nat->List Value->α->Prop} {w w':World} {B B':Nat} {v:Value} {xs:List α} {Ts:List TypeId}
theorem IsRow.same (h:IsRow t m bytes El w B v xs) (ht:t ∈ Ts) (hs:Same Ts B w w') (hel:∀ cs x,El w B cs x->El w' B cs x):IsRow t m bytes El w' B v xs :=
 ⟨let ⟨A,c,css,h1,h2,h3,h4,h5,h6⟩:=h.ex;⟨A,c,css,h1,h2,h3,h4,h5.same ht hs,fun j cs x hj hx=>hel cs x (h6 j cs x hj hx)⟩,h.len⟩
theorem IsRow.mono (h:IsRow t m bytes El w B v xs) (hB:B<=B') (hel:∀ cs x,El w B cs x->El w B' cs x):IsRow t m bytes El w B' v xs :=
 ⟨let ⟨A,c,css,h1,h2,h3,h4,h5,h6⟩:=h.ex;⟨A,c,css,h1,h2,h3,h4,h5.mono hB,fun j cs x hj hx=>hel cs x (h6 j cs x hj hx)⟩,h.len⟩
theorem IsRow.form (h:IsRow t m bytes El w B v xs):∃ A n c,v=.slice A n c:=by
 obtain ⟨A,c,_,e,_⟩:=h.ex;exact ⟨A,_,c,e⟩
theorem IsRow.nil_:IsRow t m bytes El w B (.slice none 0 0) []:=⟨⟨none,0,[],rfl,mC _,rfl,(fun cs h=>by simp at h),Rd.nil,(fun j cs x h=>by simp at h)⟩,by simp [R47]⟩
theorem zHq {A:Option Addr} {css:List (List Value)} {k:Nat} (hl:css.length=xs.length) (hm:∀ cs ∈ css,cs.length=m) (hpos:0 < m) (h:Rd w B t A css.flatten)
 (h6:∀ (j:Nat) (cs:List Value) (x:α),css[j]? = some cs->xs[j]? = some x->El w B cs x) (hk:k < xs.length) :
 ∃ g o cs,A=some ⟨g,o,none⟩/\g < w.heap.size/\cs.length=m/\(∀ j u,cs[j]? = some u->w.cell? ⟨g,o+(k*m+j),none⟩=some u)/\El w B cs xs[k]:=by
 have hkc:k < css.length:=by omega
 have hcs:=mH hkc;have hml:=hm _ (List.getElem_mem hkc);have h0:css[k][0]? = some (css[k][0]'(by omega)):=mH (by omega);obtain ⟨g,o,hA,hg,_⟩:=h.get ((zEx hm hcs 0 hpos).trans h0);refine ⟨g,o,css[k],hA,hg,hml,fun j u hj=>?_,h6 k _ _ hcs (mH hk)⟩;have hjm:j < m:=by
  rcases Nat.lt_or_ge j m with h | h
  ·exact h
  rw [List.getElem?_eq_none (by omega)] at hj;cases hj
 obtain ⟨g',o',hA',_,hc⟩:=h.get ((zEx hm hcs j hjm).trans hj);rw [hA] at hA';simp only [Option.some.injEq,Addr.mk.injEq,and_true] at hA'
 obtain ⟨rfl,rfl⟩:=hA';exact hc
end
section
variable {H:Type} {enc:TypeId × Value->H} {w:World} {base:Nat} {spare:Nat->Bool} {held:Bool} {n:Nat}
theorem zTk {α:Type} (d0:α) {t e:TypeId} {m bytes:Nat} {El:World->Nat->List Value->α->Prop} (ht:Tryz.prog.underlying t=some (.slice e)) (hm:Tryz.prog.cellsOf e=m) (hby:Tryz.prog.bytesOf e=bytes) (hpos:0 < m)
 (hel:∀ {n:Nat} {cs:List Value} {x:DataW H × List MemPlace},DataW.trod enc Tryz.prog w base spare held n e cs=some x->(∀ k ∈ x.1.weights Tryz.prog e,k<=reachBytes)->∃ a,El w w.heap.size cs a)
 {v:Value} {x:DataW H × List MemPlace} (h:DataW.trod enc Tryz.prog w base spare held n t [v]=some x) (hw:∀ k ∈ x.1.weights Tryz.prog t,k<=reachBytes):∃ xs,IsRow e m bytes El w w.heap.size v xs:=by
 rcases Go.Deep.open_slice ht h with ⟨e0,rfl⟩ | ⟨a,len,cap,mm,n',D,Pl,e0,hb,hl,hmx,hmm,rfl,hx⟩
 ·simp at e0;subst e0;exact ⟨[],IsRow.nil_⟩
 simp only [List.cons.injEq,and_true] at e0
 subst e0;have hle:len<=mm:=by rw [hmm];split <;> omega
 have hwt:∀ k ∈ DataW.weights Tryz.prog t (DataW.slice ((List.range len).map D) ((List.range (mm - len)).map fun j=>D (len+j))),k<=reachBytes:=hw;simp only [DataW.weights,ht,List.mem_cons,List.mem_append,hby] at hwt
 have hwl:=hwt _ (.inl rfl);simp only [List.length_map,List.length_range] at hwl
 have hall:∀ i,∃ p:List Value × α,i < len->w.cells? base (a.add (i*m)) m=some p.1/\El w w.heap.size p.1 p.2:=by
  intro i;by_cases hi:i < len
  ·obtain ⟨cs,hc,htr⟩:=hx i (by omega);obtain ⟨y,hy⟩:=hel htr (fun k hk=>hwt k (.inr (.inl (zGi hk (List.mem_map.2 ⟨i,by simpa using hi,rfl⟩)))));exact ⟨(cs,y),fun _=>⟨by rw [hm] at hc;exact hc,hy⟩⟩
  exact ⟨([],d0),fun h=>absurd h hi⟩
 obtain ⟨f,hf⟩:=Classical.axiomOfChoice hall;have hlen:∀ cs ∈ (List.range len).map (fun i=>(f i).1),cs.length=m:=by
  intro cs hcs;obtain ⟨i,hi,rfl⟩:=List.mem_map.1 hcs;exact (World.cells?_some (hf i (by simpa using hi)).1).2.1
 refine ⟨(List.range len).map (fun i=>(f i).2),⟨some a,cap,(List.range len).map (fun i=>(f i).1),by simp,by simpa using hl,by simp,hlen,?_,?_⟩,?_⟩
 ·rcases Nat.eq_zero_or_pos len with h0 | h0
  ·subst h0;exact .inl (by simp)
  obtain ⟨_,hcl,hat⟩:=World.cells?_some (hf 0 h0).1;have hc0:w.cell? ((a.add (0*m)).add 0)=some ((f 0).1[0]'(by omega)):=by rw [hat 0 hpos,mH (by omega)]
  rw [Nat.zero_mul,Go.Deep.add_add] at hc0;obtain ⟨b,o,spot⟩:=a;have hspot:spot=none:=by simpa [Addr.add] using World.cell?_spot hc0
  subst hspot;have hbl:b < w.heap.size:=by
   rcases Nat.lt_or_ge b w.heap.size with h | h
   ·exact h
   simp [World.cell?,Addr.add,Array.getElem?_eq_none h] at hc0
  refine .inr ⟨b,o,rfl,hbl,.inl hbl,fun j u hj=>?_⟩;obtain ⟨k,i,cs,h1,h2,h3,rfl⟩:=zKh hlen hj;have hk':k < len:=by
   rcases Nat.lt_or_ge k len with h | h
   ·exact h
   rw [List.getElem?_eq_none (by simp;omega)] at h1;cases h1
  simp [hk'] at h1
  subst h1;obtain ⟨_,_,hatk⟩:=World.cells?_some (hf k hk').1;have:=hatk i h3;rw [Go.Deep.add_add] at this;have e2:(⟨b,o,none⟩:Addr).add (k*m+i)=⟨b,o+(k*m+i),none⟩:=by unfold Addr.add;split <;> simp_all
  rw [e2] at this;rw [this,h2]
 ·intro j cs y hu hy;have hj':j < len:=by
   rcases Nat.lt_or_ge j len with h | h
   ·exact h
   rw [List.getElem?_eq_none (by simp;omega)] at hu;cases hu
  simp [hj'] at hu hy
  subst hu hy;exact (hf j hj').2
 have hrb:reachBytes=R47:=rfl;simp only [List.length_map,List.length_range]
 rw [<- hrb];refine mD ?_ hwl;exact Nat.mul_le_mul_right _ (by omega)
end
open Go.RowKit Go.ChangeShapes Go.WideShapes Go.ChangeAt
section
variable {H:Type} {enc:TypeId × Value->H} {w:World} {base:Nat} {spare:Nat->Bool} {held:Bool} {n:Nat}
end
def lastBad (l:Scu.Last):Bool:=decide (l.num < 0) || decide ((1048576:Int) < l.num)
theorem zNn (ls:List Scu.Last):Scu.lastsOk ls=(ls.length == 4 && !ls.any lastBad):=by
 unfold Scu.lastsOk;rw [zNk ls lastBad _ (fun x _=>by unfold lastBad;rw [Bool.eq_iff_iff];simp)]
theorem zMi (l:Scu.Last) (w:World) :
 Calls Tryz.prog 117 #[.agg #[.int .i64 l.num,.int .i64 l.reply.code,.int .i64 l.reply.n,.string l.reply.data]] w fun e w'=>e=.returned (.bool (lastBad l))/\Below w.heap.size w w':=by
 cases h1:decide (l.num < 0) <;> cases h2:decide ((1048576:Int) < l.num)
 all_goals
  have HF:=mA (show lastBad l=_ from by unfold lastBad;rw [h1,h2]);go_enter Tryz.func117,Tryz.ntmps117
  go_wp2
  go_ret
  exact ⟨zAb (zBa (by rw [HF.out];rfl)),(mG _ _).alloc (mC _) _⟩
theorem zMj (v:Value) (ls:List Scu.Last) (w:World) (B:Nat) (hv:IsLasts w B v ls) :
 Calls Tryz.prog 119 #[v,.func (.func 117) #[] #[]] w fun e w'=>IdxPost (ls.any lastBad) e/\Below w.heap.size w w':=by
 obtain ⟨⟨A,c,rfl,_,hr⟩,hl⟩:=hv;unfold R47 at hl;go_enter Tryz.func119,Tryz.ntmps119
 go_wp2
 go_loopw [8] (fun i wr=>∃ k:Nat,k<=ls.length/\i=.int .i64 k/\Hid ((ls.take k).any lastBad=false)/\Below w.heap.size w wr) (fun i _=>ls.length - (intOf i).toNat)
 case atStart=>exact ⟨0,mE _,rfl,by simp [Hid],mG _ _⟩
 case round =>
  obtain ⟨k,hk,rfl,ht,Ha⟩:=hrel;have Hf:=hr.below Ha;have He:=Ha.size;by_cases Hb:k < ls.length
  ·have Hc:(k:Int) < (ls.length:Int):=by omega
   obtain ⟨g,o,rfl,hg,c0,c1,c2,c3⟩:=zGa Hf Hb;cases hx:lastBad ls[k]
   ·have HX:=mA (show (ls.take (k+1)).any lastBad=false by rw [zDx _ ls k Hb,ht.out,hx];rfl);have Hd:=mA hx;clear hx;go_wp2_with fail
    refine (zMi _ _).mono ?_;rintro e w1 ⟨rfl,h1⟩;rw [Hd.out];go_wp2
    exact ⟨⟨k+1,Hb,by go_num,HX,Ha.trans (h1.mono He)⟩,by simp only [intOf];omega⟩
   have HX:=mA (zCt lastBad ls k Hb hx);have Hd:=mA hx;clear hx;go_wp2_with fail
   refine (zMi _ _).mono ?_;rintro e w1 ⟨rfl,h1⟩;rw [Hd.out];go_wp2
   go_ret
   exact ⟨⟨_,rfl,by rw [HX.out];simp⟩,Ha.trans (h1.mono He)⟩
  have Hc:(ls.length:Int)<=(k:Int):=by omega
  have HX:=mA (zDy _ ls k (by omega) ht.out);go_wp2
  go_ret
  exact ⟨⟨_,rfl,by rw [HX.out];rfl⟩,Ha⟩
theorem zFn (v:Value) (ls:List Scu.Last) (w:World) (B:Nat) (hv:IsLasts w B v ls) :
 Calls Tryz.prog 116 #[v,.func (.func 117) #[] #[]] w fun e w'=>e=.returned (.bool (ls.any lastBad))/\Below w.heap.size w w':=by
 have HC:=mA (zMj v ls w B hv);obtain ⟨A,n,c,rfl⟩:=hv.form;clear hv;go_enter Tryz.func116,Tryz.ntmps116
 go_wp2_with fail
 refine HC.out.mono ?_;rintro e w1 ⟨⟨r,rfl,hr⟩,h1⟩;have HR:=mA hr;clear hr;go_wp2
 go_ret
 exact ⟨zAb (zBa HR.out),h1⟩
theorem zJx (x:Scu.State):Scu.stateFault x=if (((x.lasts.length:Int) != 4) || x.lasts.any lastBad)=true then 8 else Scu.volFault x.volume:=by
 unfold Scu.stateFault;rw [zNn];have:((x.lasts.length:Int) != 4) = !(x.lasts.length == 4):=by rw [Bool.eq_iff_iff];simp;omega
 rw [this];cases (x.lasts.length == 4) <;> cases x.lasts.any lastBad <;> rfl
theorem zGn (nv sv lv:Value) (x:Scu.State) (w:World) (B:Nat) (hv:IsState w B nv sv lv x) :
 Calls Tryz.prog 111 #[.agg #[nv,sv,lv]] w fun e w'=>e=.returned (.int .i64 (Scu.stateFault x))/\Below w.heap.size w w':=by
 have hf:=zJx x;have HV:=mA hv;obtain ⟨A1,n1,c1,rfl⟩:=hv.vol.now.form;obtain ⟨A2,n2,c2,rfl⟩:=hv.vol.snaps.form;obtain ⟨⟨A,c,rfl,_,_⟩,hl⟩:=hv.lasts;unfold R47 at hl;clear hv;cases h1:((x.lasts.length:Int) != 4)
 ·cases h2:x.lasts.any lastBad
  ·rw [h1,h2] at hf;have HF:=mA (show Scu.stateFault x=Scu.volFault x.volume from hf);have H2:=mA h2;clear hf h2;go_enter Tryz.func111,Tryz.ntmps111
   go_wp2_with fail
   refine (zFn _ x.lasts _ B (HV.out.lasts.alloc _)).mono ?_;rintro e w1 ⟨rfl,h1⟩;rw [H2.out];obtain ⟨hc,hz⟩:=bcell h1;have Hb:=zBd h1;have Ha:=zAf h1;go_wp2_with fail
   refine (zCd _ _ x.volume _ B (HV.out.vol.below Ha)).mono ?_;rintro e w2 ⟨rfl,h2⟩;go_wp2
   go_ret
   exact ⟨zAb (zAd HF.out.symm),Ha.trans (h2.mono Ha.size)⟩
  rw [h1,h2] at hf;have HF:=mA (show Scu.stateFault x=8 from hf);have H2:=mA h2;clear hf h2;go_enter Tryz.func111,Tryz.ntmps111
  go_wp2_with fail
  refine (zFn _ x.lasts _ B (HV.out.lasts.alloc _)).mono ?_;rintro e w1 ⟨rfl,h1⟩;rw [H2.out];go_wp2
  go_ret
  exact ⟨zAb (zAd HF.out.symm),zAf h1⟩
 rw [h1] at hf;have HF:=mA (show Scu.stateFault x=8 from hf);clear hf;go_enter Tryz.func111,Tryz.ntmps111
 go_wp2
 go_ret
 exact ⟨zAb (zAd HF.out.symm),(mG _ _).alloc (mC _) _⟩
def inB (n a b:Int):Bool:=decide (a<=n) && decide (n<=b)
theorem zAt (n a b:Int) (w:World):Calls Tryz.prog 12 #[.int .i64 n,.int .i64 a,.int .i64 b] w fun e w'=>e=.returned (.bool (inB n a b))/\w=w':=by
 cases h1:decide (a<=n) <;> cases h2:decide (n<=b)
 all_goals
  have HF:=mA (show inB n a b=_ from by unfold inB;rw [h1,h2]);go_enter Tryz.func12,Tryz.ntmps12
  go_wp2
  go_ret
  exact ⟨zAb (zBa (by rw [HF.out];rfl)),rfl⟩
def lastsTo (x:Scu.State) (k:Nat):Bool:=x.lasts.length == 4 && (x.lasts.take k).all fun l=>inB l.num 0 1048576
theorem zNo (x:Scu.State) (k:Nat) (h:x.lasts.length<=k):lastsTo x k=Scu.lastsOk x.lasts:=by
 unfold lastsTo Scu.lastsOk;rw [List.take_of_length_le h];rfl
theorem zMk (x:Scu.State) (k:Nat) (h:k < x.lasts.length):lastsTo x (k+1)=(lastsTo x k && inB x.lasts[k].num 0 1048576):=by
 unfold lastsTo;exact zS1
theorem zMl (x:Scu.State):lastsTo x 0=((x.lasts.length:Int) == 4):=by
 unfold lastsTo;rw [Bool.eq_iff_iff];simp;omega
theorem zEy (nv sv lv:Value) (x:Scu.State) (w:World) (B:Nat) (hv:IsState w B nv sv lv x) :
 Calls Tryz.prog 95 #[.agg #[nv,sv,lv]] w fun e w'=>e=.returned (.int .i64 (Scu.stateFault x))/\Below w.heap.size w w':=by
 have HV:=mA hv;obtain ⟨A1,n1,c1,rfl⟩:=hv.vol.now.form;obtain ⟨A2,n2,c2,rfl⟩:=hv.vol.snaps.form;obtain ⟨⟨A,c,rfl,_,hr⟩,hl⟩:=hv.lasts;have h0:=zMl x;unfold R47 at hl;clear hv;cases h1:((x.lasts.length:Int) == 4)
 all_goals
  rw [h1] at h0;have H0:=mA h0;clear h0;go_enter Tryz.func95,Tryz.ntmps95
  go_wp2
  go_loop [3,4] (fun b i=>∃ k:Nat,k<=x.lasts.length/\i=.int .i64 k/\∃ c:Bool,b=.bool c/\Hid (c=lastsTo x k)) (fun _ i=>x.lasts.length - (intOf i).toNat)
  case atStart=>exact ⟨0,mE _,rfl,_,rfl,H0.out.symm⟩
  case round =>
   obtain ⟨k,hk,rfl,c,rfl,ht⟩:=hrel;by_cases Ha:k < x.lasts.length
   ·have Hb:(k:Int) < (x.lasts.length:Int):=by omega
    obtain ⟨g,o,rfl,hg,c0,_,_,_⟩:=zGa hr Ha;have HX:=mA (zMk x k Ha);cases c
    ·go_wp2
     go_round
     case rel=>exact ⟨k+1,Ha,by go_num,false,rfl,by show false=lastsTo x (k+1);rw [HX.out,<- ht.out];rfl⟩
     case measure=>simp [intOf];omega
    cases hx:inB x.lasts[k].num 0 1048576
    all_goals
     have Hc:=mA hx;clear hx;go_wp2_with (go_at_call 12;refine (zAt _ _ _ _).mono ?_;rintro e w1 ⟨rfl,rfl⟩;rw [Hc.out])
     go_round
     case rel=>exact ⟨k+1,Ha,by go_num,_,rfl,by show _=lastsTo x (k+1);rw [HX.out,<- ht.out,Hc.out];rfl⟩
     case measure=>simp [intOf];omega
   have Hb:(x.lasts.length:Int)<=(k:Int):=by omega
   have HX:=mA (show Scu.stateFault x=if c then Scu.volFault x.volume else 8 by unfold Scu.stateFault;rw [ht.out,zNo x k (by omega)]);cases c
   ·exact zT1
   go_wp2_with fail
   refine (zBg _ _ x.volume _ B (HV.out.vol.alloc _)).mono ?_;rintro e w2 ⟨rfl,h2⟩;go_wp2
   go_ret
   exact ⟨zAb (zAd (by rw [HX.out];rfl)),zAf h2⟩
end Go.Proofs.YtlngfbngnnepiaaGreat

/- Part 40: words and walks under the laws of the whole. -/
import Derived.Test.YtnpphdaakookcaaDoorQ39
set_option linter.unusedVariables false
set_option linter.unusedSimpArgs false
set_option maxHeartbeats 4000000
set_option maxRecDepth 100000
namespace Scu
theorem stays (l:List Act) (k:Nat):committed (outOf (steps (netNew 3) (l.take k))).replicas <+: committed (outOf (steps (netNew 3) l)).replicas/\(outOf (steps (netNew 3) l)).codes.take k=(outOf (steps (netNew 3) (l.take k))).codes.take k:=by
 have e:steps (netNew 3) l=steps (netNew 3) (l.take k ++ l.drop k):=by rw [List.take_append_drop]
 rw [zGl] at e
 constructor
 ·show committed (steps (netNew 3) (l.take k)).1.replicas <+: committed (steps (netNew 3) l).1.replicas
  rw [e]
  exact (Came.steps (l.drop k) (came_run (l.take k))).2
 show (steps (netNew 3) l).2.take k=(steps (netNew 3) (l.take k)).2.take k
 rw [e]
 show ((steps (netNew 3) (l.take k)).2 ++ _).take k=_
 have hl:(steps (netNew 3) (l.take k)).2.length=min k l.length:=by rw [steps_codes,List.length_take]
 rcases Nat.le_total k l.length with h | h
 ·rw [List.take_append_of_le_length (by omega)]
 rw [List.take_append,hl,Nat.min_eq_right h,List.drop_eq_nil_of_le h]
 simp [steps]
theorem came_bound {l:List Act} {o:Outcome} (ho:outOf (steps (netNew 3) l)=o):∀ r ∈ o.replicas,0<=r.kept.commit/\r.kept.commit<=r.kept.log.length:=by
 subst ho
 intro r hr
 have:=(came_run l).com hr
 exact ⟨this.1,this.2.1⟩
theorem came_agree {l:List Act} {o:Outcome} (ho:outOf (steps (netNew 3) l)=o):∀ r ∈ o.replicas,r.kept.commit.toNat<=(committed o.replicas).length/\r.kept.log.take r.kept.commit.toNat=(committed o.replicas).take r.kept.commit.toNat:=by
 subst ho
 intro r hr
 exact (came_run l).agree hr
end Scu
namespace Go.Proofs.YtnpphdaakookcaaDoor
open Go.RowKit
theorem zId {m:Nat} : ∀ {css:List (List Value)} (_:∀ cs ∈ css,cs.length=m) (k:Nat),css.flatten.take (k*m)=(css.take k).flatten
 | [],_,k=>by simp
 | c :: css,h,0=>by simp
 | c :: css,h,k+1=>by
   have hc:=h c List.mem_cons_self
   rw [List.flatten_cons,List.take_succ_cons,List.flatten_cons,List.take_append,<- zId (fun x hx=>h x (List.mem_cons_of_mem _ hx)) k,hc,List.take_of_length_le (by rw [hc,Nat.succ_mul];omega),Nat.succ_mul,Nat.add_sub_cancel]
theorem IsRow.take {α:Type} {t:TypeId} {m bytes:Nat} {El:World->Nat->List Value->α->Prop} {w:World} {B n c:Nat} {A:Option Addr} {xs:List α} (h:IsRow t m bytes El w B (.slice A n c) xs) {k:Nat} (hk:k<=xs.length):IsRow t m bytes El w B (.slice A k c) (xs.take k):=by
 obtain ⟨⟨A',c',css,e,h1,h2,h3,h4,h5⟩,hl⟩:=h
 cases e
 have hx:(xs.take k).length=k:=by rw [List.length_take];omega
 refine ⟨⟨A,c,css.take k,by rw [hx],by omega,by rw [List.length_take,hx,h2];omega,fun cs Ha=>h3 cs (List.mem_of_mem_take Ha),?_,?_⟩,?_⟩
 ·rw [<- zId h3]
  exact h4.take _
 ·intro j cs x a b
  have hj:j < k:=by
   rcases Nat.lt_or_ge j k with h' | h'
   ·exact h'
   rw [List.getElem?_eq_none (by omega)] at b;cases b
  rw [List.getElem?_take_of_lt hj] at a b
  exact h5 j cs x a b
 rw [hx]
 exact mD (Nat.mul_le_mul_right _ hk) hl
theorem IsOnes.take {α:Type} {t:TypeId} {bytes:Nat} {f:α->Value} {w:World} {B n c:Nat} {A:Option Addr} {xs:List α} (h:IsOnes t bytes f w B (.slice A n c) xs) {k:Nat} (hk:k<=xs.length):IsOnes t bytes f w B (.slice A k c) (xs.take k):=by
 obtain ⟨⟨A',c',e,h1,h2⟩,hl⟩:=h
 cases e
 have hx:(xs.take k).length=k:=by rw [List.length_take];omega
 refine ⟨⟨A,c,by rw [hx],by omega,?_⟩,?_⟩
 ·rw [List.map_take]
  exact h2.take _
 rw [hx]
 exact mD (Nat.mul_le_mul_right _ hk) hl
structure RanB (w W:World) (g:Nat) (A0:Option Addr) (c0:Nat) (A1:Option Addr) (c1:Nat) (A2:Option Addr) (c2:Nat) (A3:Option Addr) (c3:Nat) (A4:Option Addr) (c4:Nat) (A5:Option Addr) (c5:Nat) (o:Scu.Outcome):Prop where
 box:Blk W g 32 #[.slice A0 o.replicas.length c0,.slice A1 o.slots.length c1,.slice A2 o.flying.length c2,.slice A3 o.clients.length c3,.slice A4 o.told.length c4,.slice A5 o.codes.length c5]
 out:OutW W (.slice A0 o.replicas.length c0) (.slice A1 o.slots.length c1) (.slice A2 o.flying.length c2) (.slice A3 o.clients.length c3) (.slice A4 o.told.length c4) (.slice A5 o.codes.length c5) o
 low:Below w.heap.size w W
section
variable {w W W':World} {g:Nat} {A0 A1 A2 A3 A4 A5:Option Addr} {c0 c1 c2 c3 c4 c5:Nat} {o:Scu.Outcome}
theorem RanB.below (h:RanB w W g A0 c0 A1 c1 A2 c2 A3 c3 A4 c4 A5 c5 o) (hb:Below W.heap.size W W'):RanB w W' g A0 c0 A1 c1 A2 c2 A3 c3 A4 c4 A5 c5 o :=
 ⟨h.box.same hb,h.out.below hb,h.low.trans (hb.mono h.low.size)⟩
theorem RanB.drew (h:RanB w W g A0 c0 A1 c1 A2 c2 A3 c3 A4 c4 A5 c5 o):RanB w W.drew g A0 c0 A1 c1 A2 c2 A3 c3 A4 c4 A5 c5 o:=h.below (mG _ _).drew
theorem RanB.drewN (h:RanB w W g A0 c0 A1 c1 A2 c2 A3 c3 A4 c4 A5 c5 o) (n:Nat):RanB w (W.drewN n) g A0 c0 A1 c1 A2 c2 A3 c3 A4 c4 A5 c5 o:=h.below (below_drewN (mG _ _) n)
theorem RanB.made {w1:World} (h1:Below w.heap.size w w1) (ho:OutW w1 (.slice A0 o.replicas.length c0) (.slice A1 o.slots.length c1) (.slice A2 o.flying.length c2) (.slice A3 o.clients.length c3) (.slice A4 o.told.length c4) (.slice A5 o.codes.length c5) o):RanB w (w1.alloc (.cells #[.slice A0 o.replicas.length c0,.slice A1 o.slots.length c1,.slice A2 o.flying.length c2,.slice A3 o.clients.length c3,.slice A4 o.told.length c4,.slice A5 o.codes.length c5] 32)) w1.heap.size A0 c0 A1 c1 A2 c2 A3 c3 A4 c4 A5 c5 o :=
 have Ha:=zAa w1 (.cells #[.slice A0 o.replicas.length c0,.slice A1 o.slots.length c1,.slice A2 o.flying.length c2,.slice A3 o.clients.length c3,.slice A4 o.told.length c4,.slice A5 o.codes.length c5] 32)
 ⟨Blk.new w1 32 #[.slice A0 o.replicas.length c0,.slice A1 o.slots.length c1,.slice A2 o.flying.length c2,.slice A3 o.clients.length c3,.slice A4 o.told.length c4,.slice A5 o.codes.length c5],ho.below Ha,h1.trans (Ha.mono h1.size)⟩
end
theorem zRs (v u:Value) (xs ys:List Scu.Str) (w:World) (B B':Nat) (hv:IsStrs w B v xs) (hu:IsStrs w B' u ys) (h:xs=ys) :
 Calls Tryd.prog 21 #[v,u] w fun e w'=>e=.returned (.bool true)/\∃ n,w'=w.drewN n:=by
 have:=zQa v u xs ys w B B' hv hu
 rwa [decide_eq_true h] at this
theorem zXr (v u:Value) (xs ys:List Int) (w:World) (B B':Nat) (hv:IsOnes 33 8 (Value.int .i64) w B v xs) (hu:IsOnes 33 8 (Value.int .i64) w B' u ys) (h:xs=ys) :
 Calls Tryd.prog 18 #[v,u] w fun e w'=>e=.returned (.bool true)/\∃ n,w'=w.drewN n:=by
 have:=zTs v u xs ys w B B' hv hu
 rwa [decide_eq_true h] at this
theorem yBo (v u:Value) (xs ys:List Scu.Told) (w:World) (hv:IsRow 66 9 88 ToldE w 0 v xs) (hu:IsRow 66 9 88 ToldE w 0 u ys) (h:xs=ys) :
 Calls Tryd.prog 26 #[v,u] w fun e w'=>e=.returned (.bool true)/\∃ n,w'=w.drewN n:=by
 have:=zTt v u xs ys w hv hu
 rwa [decide_eq_true h] at this
theorem zEo {w w':World} {v:Value} {rs:List Scu.Replica} (h:IsRow 49 10 160 RepE w 0 v rs) (hb:Below w.heap.size w w'):IsRow 49 10 160 RepE w' 0 v rs :=
 IsRow.same h (Ts:=[49,9,3,4,44]) (by simp) (Same.below hb) (fun _ _ h=>h.same (Ts:=[9,3,4,44]) (by simp) (Same.below hb))
theorem zJv {w:World} {A:Option Addr} {n c:Nat} {rs:List Scu.Replica} (h:IsRow 49 10 160 RepE w 0 (.slice A n c) rs) {k:Nat} (hk:k < rs.length) {rk:Scu.Replica} (e:rs[k]=rk) :
 ∃ g o F0 q0 F1 q1 F2 q2 F3 q3 F4 q4,A=some ⟨g,o,none⟩/\rk.kept.log.length<=q0/\IsRep w 0 (.slice F0 rk.kept.log.length q0) (.slice F1 rk.have_.length q1) (.slice F2 rk.wants.length q2) (.slice F3 rk.gives.length q3) (.slice F4 rk.given.length q4) rk /\
  w.cell? ⟨g,o+k*10,none⟩=some (.int .i64 rk.me)/\w.cell? ⟨g,o+k*10+1,none⟩=some (.int .i64 rk.kept.view)/\w.cell? ⟨g,o+k*10+2,none⟩=some (.int .i64 rk.kept.normal)/\w.cell? ⟨g,o+k*10+3,none⟩=some (.bool rk.kept.calm) /\
  w.cell? ⟨g,o+k*10+4,none⟩=some (.slice F0 rk.kept.log.length q0)/\w.cell? ⟨g,o+k*10+5,none⟩=some (.int .i64 rk.kept.commit)/\w.cell? ⟨g,o+k*10+6,none⟩=some (.slice F1 rk.have_.length q1)/\w.cell? ⟨g,o+k*10+7,none⟩=some (.slice F2 rk.wants.length q2) /\
  w.cell? ⟨g,o+k*10+8,none⟩=some (.slice F3 rk.gives.length q3)/\w.cell? ⟨g,o+k*10+9,none⟩=some (.slice F4 rk.given.length q4):=by
 obtain ⟨⟨A',c',css2,e1,_,h2,h3,Hc,h4⟩,_⟩:=h
 cases e1
 obtain ⟨g,o,cs1,rfl,hg,_,Ha,lu,hv,wv,gv,nv,e1,Hb⟩:=zDo h2 h3 (by decide) Hc h4 hk
 subst e1
 rw [e] at Ha Hb
 obtain ⟨F0,n0,q0,F1,q1,F2,q2,F3,q3,F4,q4,rfl,rfl,rfl,rfl,rfl⟩:=Hb.forms
 obtain ⟨rfl,Hd⟩:n0=rk.kept.log.length/\rk.kept.log.length<=q0:=by obtain ⟨⟨A',c',e,h',_⟩,_⟩:=Hb.log;cases e;exact ⟨rfl,h'⟩
 exact ⟨g,o,F0,q0,F1,q1,F2,q2,F3,q3,F4,q4,rfl,Hd,Hb,Ha 0 _ rfl,Ha 1 _ rfl,Ha 2 _ rfl,Ha 3 _ rfl,Ha 4 _ rfl,Ha 5 _ rfl,Ha 6 _ rfl,Ha 7 _ rfl,Ha 8 _ rfl,Ha 9 _ rfl⟩
theorem zRt (v:Value) (l:List Scu.Raw) (most:Nat) (w:World) (B:Nat) (hB:B<=w.heap.size) (hl:IsRaws w B v l) (ht:Tab w) (hm:most<=300) (la:List Scu.Act) (Ha:Scu.rawActs l most 3=la) (o:Scu.Outcome) (ho:Scu.outOf (Scu.steps (Scu.netNew 3) la)=o) :
 Calls Tryd.prog 19 #[v,.int .i64 most,.slice none 0 0] w fun e w'=>(∃ A c A0 c0 A1 c1 A2 c2 A3 c3 A4 c4 A5 c5,e=.returned (.tuple #[.agg #[.slice A0 o.replicas.length c0,.slice A1 o.slots.length c1,.slice A2 o.flying.length c2,.slice A3 o.clients.length c3,.slice A4 o.told.length c4,.slice A5 o.codes.length c5],.slice A la.length c,.bool true])/\OutW w' (.slice A0 o.replicas.length c0) (.slice A1 o.slots.length c1) (.slice A2 o.flying.length c2) (.slice A3 o.clients.length c3) (.slice A4 o.told.length c4) (.slice A5 o.codes.length c5) o
  /\ IsActs w' (.slice A la.length c) la)/\Below w.heap.size w w' :=
 yBn v l most w B hB hl ht none 0 [] 0 rfl (by omega) (fun W _=>⟨rfl,.inl ⟨0,rfl,rfl⟩⟩) la (by rw [List.append_nil];exact Ha) o ho
end Go.Proofs.YtnpphdaakookcaaDoor

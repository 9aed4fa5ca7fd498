/- Part 4: words and walks under the laws of the whole. -/
import Derived.Orders
import Derived.OrdersHeld
import Derived.RegionTactic
import Derived.Deep.Slices
import Derived.Deep.Fields
import Derived.Deep.Draws
import Derived.OpenShut
import Derived.ShutString
import Derived.SliceStrings
import Derived.SizedLaws
import Derived.Test.YtjnjhmkgfjikfaaDoorLv2
set_option linter.unusedVariables false
set_option linter.unusedSimpArgs false
set_option maxHeartbeats 4000000
set_option maxRecDepth 100000
namespace Go.Proofs.YtjnjhmkgfjikfaaDoor
open Go.RowKit
theorem mem_ready {md:Region.Mode} {ops:Array Oper} {listed:Array Bool} {i:Nat} (h:i ∈ Region.ready md ops listed) :
 i < ops.size/\listed.getD i true=false/\((ops[i]?).map (·.after.all fun e=>!Region.binds md e || listed.getD e.on false)).getD false=true:=by
 unfold Region.ready at h
 rw [List.mem_filter] at h
 obtain ⟨h1,h2⟩:=h
 simp only [Bool.and_eq_true,Bool.not_eq_true'] at h2
 exact ⟨by simpa using h1,h2.1,h2.2⟩
def zFz (listed:Array Bool):Nat:=listed.countP (!·)
theorem zLi {listed:Array Bool} {i:Nat} (h:listed.getD i true=false):∃ hi:i < listed.size,listed[i]=false:=by
 rcases Nat.lt_or_ge i listed.size with Ha | Hb
 ·exact ⟨Ha,by rw [<- h];simp [Array.getD,Ha]⟩
 rw [Array.getD_eq_getD_getElem?,Array.getElem?_eq_none Hb] at h
 cases h
theorem zGn {listed:Array Bool} {i:Nat} (h:listed.getD i true=false):zFz (listed.setIfInBounds i true)+1<=zFz listed:=by
 obtain ⟨hi,hf⟩:=zLi h
 unfold zFz
 rw [Array.setIfInBounds_def,dif_pos hi,Array.countP_set]
 have:0 < listed.countP (!·):=by
  rw [Array.countP_pos_iff]
  exact ⟨false,by rw [<- hf];exact Array.getElem_mem hi,rfl⟩
 rw [hf]
 simp
 omega
theorem zHt {md:Region.Mode} {ops:Array Oper} {listed:Array Bool} (h:zFz listed=0):Region.ready md ops listed=[]:=by
 rw [List.eq_nil_iff_forall_not_mem]
 intro i hi
 have:=zGn (mem_ready hi).2.1
 omega
section
variable {P:Program} {ops:Array Oper} {Q:Exit->Act->World->Prop} {md:Region.Mode}
theorem zFl (I:Array Bool->Act->World->Prop)
 (Ha:∀ listed a w i,I listed a w->i ∈ Region.ready md ops listed->wpOp P ops Q i (fun a' w'=>I (listed.setIfInBounds i true) a' w') a w)
 (Hb:∀ listed a w,I listed a w->Region.ready md ops listed=[]->Q .normal a w) :
 ∀ fuel listed a w,zFz listed<=fuel->I listed a w->wpAny P md ops Q fuel listed a w
 | 0,listed,a,w,hl,hI=>by
   have hr:=zHt (md:=md) (ops:=ops) (show zFz listed=0 by omega)
   exact ⟨hr,Hb listed a w hI hr⟩
 | fuel+1,listed,a,w,hl,hI=>by
   refine ⟨Hb listed a w hI,fun i hi=>?_⟩
   have Hc:=zGn (mem_ready hi).2.1
   exact wpOp_mono (fun a' w' h=>zFl I Ha Hb fuel _ a' w' (by omega) h) (Ha listed a w i hI hi)
theorem zEy {id:Nat} {a:Act} {w:World} (hm:P.follows .mixedOrders=true) (I:Array Bool->Act->World->Prop)
 (h0:I (Array.replicate ops.size false) a { w with drawn:=w.drawn+1 })
 (Ha:∀ listed a w i,I listed a w->i ∈ Region.ready .any ops listed->wpOp P ops Q i (fun a' w'=>I (listed.setIfInBounds i true) a' w') a w)
 (Hb:∀ listed a w,I listed a w->Region.ready .any ops listed=[]->Q .normal a w):(Code.region id ops true).wp P Q a w :=
 wp_region_any hm (zFl I Ha Hb _ _ _ _ (by unfold zFz;simp [Array.countP_replicate]) h0)
theorem zBr {i:Nat} {o:Oper} {K:Act->World->Prop} {a:Act} {w:World} (hi:ops[i]? = some o) (hg:o.guard=none) (h:o.wp P a w K Q):wpOp P ops Q i K a w:=by
 unfold wpOp
 rw [hi]
 have hw:Region.wanted o (yielded ops a.tmps)=true:=by simp [Region.wanted,hg]
 simp only [hw,if_true]
 exact .inl h
end
def Dn (listed:Array Bool) (k:Nat):Prop:=listed.getD k false=true
theorem zMo {listed:Array Bool} {i k:Nat} (h:Dn (listed.setIfInBounds i true) k):k=i\/Dn listed k:=by
 unfold Dn at *
 by_cases e:k=i
 ·exact .inl e
 refine .inr ?_
 rw [Array.getD_eq_getD_getElem?,Array.getElem?_setIfInBounds_ne (fun h=>e h.symm),<- Array.getD_eq_getD_getElem?] at h
 exact h
theorem zAc {listed:Array Bool} {i k:Nat} (h:Dn (listed.setIfInBounds i true) k) (Ha:k≠i):Dn listed k:=(zMo h).resolve_left Ha
theorem zBv {n k:Nat} (h:Dn (Array.replicate n false) k):False:=by
 unfold Dn at h
 rw [Array.getD_eq_getD_getElem?] at h
 by_cases hk:k < n
 ·simp [hk] at h
 rw [Array.getElem?_eq_none (by simpa using hk)] at h
 cases h
theorem zJh {ops:Array Oper} {listed:Array Bool} (hb:(List.range ops.size).all (fun i=>((ops[i]?).map fun o=>o.after.all fun e=>decide (e.on < i)).getD false)=true)
 (hl:listed.size=ops.size) (h:Region.ready .any ops listed=[]):∀ k,k < ops.size->Dn listed k:=by
 intro k
 induction k using Nat.strongRecOn with
 | ind k ih =>
   intro hk
   unfold Dn
   cases hd:listed.getD k false with
   | true=>rfl
   | false =>
     exfalso
     have Hb:listed.getD k true=false:=by
      rw [Array.getD_eq_getD_getElem?] at hd ⊢
      rw [Array.getElem?_eq_getElem (by omega)] at hd ⊢
      exact hd
     have Ha:=List.all_eq_true.1 hb k (by simpa using hk)
     rw [Array.getElem?_eq_getElem hk] at Ha
     simp only [Option.map_some,Option.getD_some,Array.all_eq_true',decide_eq_true_eq] at Ha
     have:k ∈ Region.ready .any ops listed:=by
      unfold Region.ready
      rw [List.mem_filter]
      refine ⟨by simpa using hk,?_⟩
      rw [Hb,Array.getElem?_eq_getElem hk]
      simp only [Bool.not_false,Bool.true_and,Option.map_some,Option.getD_some,Array.all_eq_true']
      intro e he
      have Hc:=Ha e he
      have:=ih e.on Hc (by omega)
      unfold Dn at this
      rw [this]
      simp
     rw [h] at this
     cases this
open Go.RowKit
section
variable {P:Program} {ops:Array Oper} {Q:Exit->Act->World->Prop} {md:Region.Mode} {S:World->Prop} {t:Nat}
def wpAnyE (P:Program) (md:Region.Mode) (ops:Array Oper) (Q:Exit->Act->World->Prop) (S:World->Prop) (t:Nat):Nat->Array Bool->Act->World->Prop
 | 0,listed,a,w=>Region.ready md ops listed=[]/\Q .normal a w
 | fuel+1,listed,a,w =>
   (Region.ready md ops listed=[]->Q .normal a w) /\
   ∀ i ∈ Region.ready md ops listed,wpOp P ops Q i (fun a' w'=>(i=t\/S w')/\wpAnyE P md ops Q S t fuel (listed.setIfInBounds i true) a' w') a w
theorem zEk:∀ (fuel:Nat) (listed:Array Bool) (a:Act) (w:World),wpAnyE P md ops Q S t fuel listed a w->wpAny P md ops Q fuel listed a w
 | 0,_,_,_,h=>h
 | fuel+1,_,_,_,h=>⟨h.1,fun i hi=>wpOp_mono (fun a' w' h'=>zEk fuel _ a' w' h'.2) (h.2 i hi)⟩
def ShutL (md:Region.Mode) (ops:Array Oper) (l:Array Bool):Prop:=∀ (j:Nat) (oj:Oper),ops[j]? = some oj->l.getD j false=true->∀ e ∈ oj.after,Region.binds md e=true->l.getD e.on false=true
theorem ShutL.set {l:Array Bool} (h:ShutL md ops l) {i:Nat} (hi:i ∈ Region.ready md ops l):ShutL md ops (l.setIfInBounds i true):=by
 intro j oj Hb hl e he hb
 obtain ⟨_,oi,Hd,Ha⟩:=Go.mem_ready.1 hi
 by_cases Hc:i=j
 ·subst Hc
  have:oj=oi:=Option.some.inj (Hb.symm.trans Hd)
  subst this
  exact Go.getD_set_true (Ha e he hb)
 rw [Go.getD_set_ne false Hc] at hl
 exact Go.getD_set_true (h j oj Hb hl e he hb)
def reachB (md:Region.Mode) (ops:Array Oper) (i:Nat):Nat->Nat->Bool
 | 0,_=>false
 | f+1,j=>match ops[j]? with
   | some o=>o.after.any fun e=>Region.binds md e && (e.on == i || reachB md ops i f e.on)
   | none=>false
theorem zDh {i:Nat} {l:Array Bool} (h:ShutL md ops l):∀ (f j:Nat),reachB md ops i f j=true->(∀ oj,ops[j]? = some oj->∀ e ∈ oj.after,Region.binds md e=true->l.getD e.on false=true)->l.getD i false=true
 | 0,_,hr,_=>by cases hr
 | f+1,j,hr,Ha=>by
   unfold reachB at hr
   cases ho:ops[j]? with
   | none=>rw [ho] at hr;cases hr
   | some o =>
     rw [ho] at hr
     obtain ⟨e,he,hb⟩:=Array.any_eq_true'.1 hr
     simp only [Bool.and_eq_true,Bool.or_eq_true,beq_iff_eq] at hb
     have hl:=Ha o ho e he hb.1
     rcases hb.2 with hb | hb
     ·rw [<- hb];exact hl
     ·exact zDh h f e.on hb fun oj Hb e' Hc Hd=>h e.on oj Hb hl e' Hc Hd
theorem zHu {i f:Nat} {l:Array Bool} (h:ShutL md ops l) (hr:reachB md ops i f t=true) (hi:l.getD i true=false):t ∉ Region.ready md ops l:=fun ht=>by
 obtain ⟨_,o,ho,Ha⟩:=Go.mem_ready.1 ht
 have:=zDh h f t hr (fun oj Hb e he hb=>by
  have:oj=o:=Option.some.inj (Hb.symm.trans ho)
  subst this
  exact Ha e he hb)
 rcases Nat.lt_or_ge i l.size with h' | h'
 ·simp [h'] at hi this;rw [hi] at this;cases this
 simp [Array.getElem?_eq_none h'] at hi
theorem zFm {i f:Nat} {oi:Oper} {v:Value} (hi:ops[i]? = some oi) (Hd:∀ (j:Nat) (o:Oper) cs b,ops[j]? = some o->o.op≠.select cs b)
 (hQ:∀ c a w,Q (.panic c) (a.put oi.dst v) w->Q (.panic c) a w) (Hl:reachB md ops i f t=true):∀ (fuel:Nat) (listed:Array Bool) (a:Act) (w:World),
  (∀ j oj,ops[j]? = some oj->j≠i->listed.getD j true=false->(∀ e ∈ oj.after,Region.binds md e=true->e.on≠i)->oi.apart ops oj=true) ->
  i ∈ Region.ready md ops listed->ShutL md ops listed->YieldsIf P ops S oi v a->S w ->
  wpAnyE P md ops Q S t fuel (listed.setIfInBounds i true) (a.put oi.dst v) w->wpAnyE P md ops Q S t (fuel+1) listed a w:=by
 intro fuel
 induction fuel with
 | zero =>
   intro listed a w _ hr Hf hy hS H
   refine ⟨fun h=>(by rw [h] at hr;cases hr),fun j hj=>?_⟩
   by_cases Ha:j=i
   ·subst Ha;exact hy.wpOp hi hS ⟨.inr hS,H⟩
   ·have:=Go.ready_mono hj Ha
    rw [H.1] at this
    cases this
 | succ fuel ih =>
   intro listed a w Hb hr Hf hy hS H
   have h0:listed.getD i true=false:=(Go.mem_ready.1 hr).1
   refine ⟨fun h=>(by rw [h] at hr;cases hr),fun j hj=>?_⟩
   by_cases Ha:j=i
   ·subst Ha;exact hy.wpOp hi hS ⟨.inr hS,H⟩
   ·have h1:=H.2 j (Go.ready_mono hj Ha)
    have Hm:j≠t:=fun e=>zHu Hf Hl h0 (e ▸ hj)
    obtain ⟨He,oj,Hg,Hh⟩:=Go.mem_ready.1 hj
    have Hi:∀ e ∈ oj.after,Region.binds md e=true->e.on≠i:=fun e he hb Hn=>by
     have h1:=Hh e he hb
     rw [Hn] at h1
     rcases Nat.lt_or_ge i listed.size with h' | h'
     ·simp [h'] at h0 h1;rw [h0] at h1;cases h1
     simp [Array.getElem?_eq_none h'] at h1
    have h2:=wpOp_putIf Hg (Hb j oj Hg Ha He Hi) (fun cs b=>Hd i oi cs b hi) (fun cs b=>Hd j oj cs b Hg) hQ hy h1
    have Hc:∀ k ok,ops[k]? = some ok->k≠i->(listed.setIfInBounds j true).getD k true=false ->
     (∀ e ∈ ok.after,Region.binds md e=true->e.on≠i)->oi.apart ops ok=true:=fun k ok hk Ho Hj Hp=>by
     refine Hb k ok hk Ho ?_ Hp
     by_cases Hk:j=k
     ·subst Hk;exact He
     rw [Go.getD_set_ne true Hk] at Hj;exact Hj
    refine wpOp_mono (fun a' w' h3=>?_) h2
    obtain ⟨h4,h5,h6⟩:=h3
    have h5:=h5.resolve_left Hm
    refine ⟨.inr h5,ih (listed.setIfInBounds j true) a' w' Hc (Go.ready_mono hr (Ne.symm Ha)) (Hf.set hj) h4 h5 ?_⟩
    rw [Array.setIfInBounds_comm _ _ Ha]
    exact h6
theorem zAe {i:Nat} (f:Nat) {oi:Oper} {v:Value} {fuel:Nat} {listed:Array Bool} {a:Act} {w:World} (hi:ops[i]? = some oi)
 (hs:Region.noSelect ops=true) (hf:Region.free md ops listed i=true) (hr:(Region.ready md ops listed).contains i=true) (Hc:reachB md ops i f t=true)
 (hQ:∀ c a w,Q (.panic c) (a.put oi.dst v) w->Q (.panic c) a w) (hy:YieldsIf P ops S oi v a) (Ha:ShutL md ops listed) (hS:S w)
 (h:ShutL md ops (listed.setIfInBounds i true)->wpAnyE P md ops Q S t fuel (listed.setIfInBounds i true) (a.put oi.dst v) w):wpAnyE P md ops Q S t (fuel+1) listed a w :=
 have Hb:i ∈ Region.ready md ops listed:=by simpa using hr
 zFm hi (Region.noSelect_spec hs) hQ Hc fuel listed a w (Region.free_spec hi hf) Hb Ha hy hS (h (Ha.set Hb))
theorem zHg {rs:List Nat} {fuel:Nat} {listed:Array Bool} {a:Act} {w:World} (hr:Region.ready md ops listed=rs) (Ha:rs≠[])
 (h:∀ i ∈ rs,wpOp P ops Q i (fun a' w'=>(i=t\/S w')/\wpAnyE P md ops Q S t fuel (listed.setIfInBounds i true) a' w') a w):wpAnyE P md ops Q S t (fuel+1) listed a w :=
 ⟨fun h0=>absurd (hr ▸ h0) Ha,hr ▸ h⟩
theorem zGa {listed:Array Bool} {a:Act} {w:World} (hr:Region.ready md ops listed=[]) (h:Q .normal a w):∀ fuel,wpAnyE P md ops Q S t fuel listed a w
 | 0=>⟨hr,h⟩
 | _+1=>⟨fun _=>h,by rw [hr];simp⟩
theorem zGb {id:Nat} {a:Act} {w:World} (S:World->Prop) (t:Nat) (hm:P.follows .mixedOrders=true)
 (h:ShutL .any ops (Array.replicate ops.size false)->wpAnyE P .any ops Q S t ops.size (Array.replicate ops.size false) a { w with drawn:=w.drawn+1 }):(Code.region id ops true).wp P Q a w :=
 wp_region_any hm (zEk _ _ _ _ (h fun j oj _ hl=>by
  exfalso
  rw [Array.getD_eq_getD_getElem?] at hl
  by_cases hk:j < ops.size
  ·simp [hk] at hl
  rw [Array.getElem?_eq_none (by simpa using hk)] at hl
  cases hl))
end
open Go.RowKit
section
variable {P : Program} {ops : Array Oper} {Q : Exit -> Act -> World -> Prop} {md : Region.Mode} {S : World -> Prop} {t fuel i : Nat} {is : List Nat} {oi : Oper} {v : Value} {listed : Array Bool} {a : Act} {w : World} {K : Act -> World -> Prop}
theorem tkH (i : Nat) (hi : ops.toList[i]? = some oi) (hb : (Region.noSelect ops && Region.free md ops listed i && (Region.ready md ops listed).contains i) = true)
    (hQ : ∀ c a w, Q (.panic c) (a.put oi.dst v) w -> Q (.panic c) a w) (hy : YieldsIf P ops S oi v a) (hS : S w)
    (h : wpAnyH P md ops Q S fuel (listed.setIfInBounds i true) (a.put oi.dst v) w) : wpAnyH P md ops Q S (fuel + 1) listed a w := by
  rw [Bool.and_eq_true, Bool.and_eq_true] at hb
  exact wpAnyH_take (by rw [<- Array.getElem?_toList]; exact hi) hb.1.1 hb.1.2 hb.2 hQ hy hS h
theorem tkE (i f : Nat) (hi : ops.toList[i]? = some oi) (hb : (Region.noSelect ops && Region.free md ops listed i && (Region.ready md ops listed).contains i && reachB md ops i f t) = true)
    (hQ : ∀ c a w, Q (.panic c) (a.put oi.dst v) w -> Q (.panic c) a w) (hy : YieldsIf P ops S oi v a) (hsh : ShutL md ops listed) (hS : S w)
    (h : ShutL md ops (listed.setIfInBounds i true) -> wpAnyE P md ops Q S t fuel (listed.setIfInBounds i true) (a.put oi.dst v) w) : wpAnyE P md ops Q S t (fuel + 1) listed a w := by
  rw [Bool.and_eq_true, Bool.and_eq_true, Bool.and_eq_true] at hb
  exact zAe f (by rw [<- Array.getElem?_toList]; exact hi) hb.1.1.1 hb.1.1.2 hb.1.2 hb.2 hQ hy hsh hS h
/-- A row of numbers that may be taken first, one after the other. -/
def chR (md : Region.Mode) (ops : Array Oper) (t f : Nat) (e : Bool) : List Nat -> Array Bool -> Bool
  | [], _ => true
  | i :: is, l => (ops.toList[i]?.bind (·.dst)).isSome && Region.free md ops l i && (Region.ready md ops l).contains i && (!e || reachB md ops i f t) && chR md ops t f e is (l.setIfInBounds i true)
/-- What a row of operations yields, one after the other; K behind them. -/
def tkR (P : Program) (ops : Array Oper) (S : World -> Prop) (K : Nat -> Array Bool -> Act -> Prop) : List Nat -> Nat -> Array Bool -> Act -> Prop
  | [] => fun n l a => K n l a
  | i :: is => fun n l a => ∃ m oi v, n = m + 1 /\ ops.toList[i]? = some oi /\ YieldsIf P ops S oi v a /\ tkR P ops S K is m (l.setIfInBounds i true) (a.put oi.dst v)
theorem tkc {K : Nat -> Array Bool -> Act -> Prop} (hi : ops.toList[i]? = some oi) (hy : YieldsIf P ops S oi v a) (h : tkR P ops S K is fuel (listed.setIfInBounds i true) (a.put oi.dst v)) :
    tkR P ops S K (i :: is) (fuel + 1) listed a := ⟨_, _, _, rfl, hi, hy, h⟩
theorem tkz {K : Nat -> Array Bool -> Act -> Prop} (h : K fuel listed a) : tkR P ops S K [] fuel listed a := h
theorem tkHs (is : List Nat) (hb : (Region.noSelect ops && chR md ops 0 0 false is listed) = true) (hQ : ∀ d v c a w, Q (.panic c) (a.put (some d) v) w -> Q (.panic c) a w) (hS : S w)
    (h : tkR P ops S (fun n l a => wpAnyH P md ops Q S n l a w) is fuel listed a) : wpAnyH P md ops Q S fuel listed a w := by
  rw [Bool.and_eq_true] at hb
  obtain ⟨hn, hb⟩ := hb
  induction is generalizing fuel listed a with
  | nil => exact h
  | cons i is ih =>
    obtain ⟨m, oi, v, rfl, hi, hy, h⟩ := h
    simp only [chR, Bool.and_eq_true, hi, Option.bind_some] at hb
    obtain ⟨d, hd⟩ := Option.isSome_iff_exists.1 hb.1.1.1.1
    exact wpAnyH_take (by rw [<- Array.getElem?_toList]; exact hi) hn hb.1.1.1.2 hb.1.1.2 (by rw [hd]; exact hQ _ _) hy hS (ih h hb.2)
theorem tkEs (f : Nat) (is : List Nat) (hb : (Region.noSelect ops && chR md ops t f true is listed) = true) (hQ : ∀ d v c a w, Q (.panic c) (a.put (some d) v) w -> Q (.panic c) a w) (hsh : ShutL md ops listed) (hS : S w)
    (h : tkR P ops S (fun n l a => ShutL md ops l -> wpAnyE P md ops Q S t n l a w) is fuel listed a) : wpAnyE P md ops Q S t fuel listed a w := by
  rw [Bool.and_eq_true] at hb
  obtain ⟨hn, hb⟩ := hb
  induction is generalizing fuel listed a with
  | nil => exact h hsh
  | cons i is ih =>
    obtain ⟨m, oi, v, rfl, hi, hy, h⟩ := h
    simp only [chR, Bool.and_eq_true, hi, Option.bind_some] at hb
    obtain ⟨d, hd⟩ := Option.isSome_iff_exists.1 hb.1.1.1.1
    exact zAe f (by rw [<- Array.getElem?_toList]; exact hi) hn hb.1.1.1.2 hb.1.1.2 (by simpa using hb.1.2) (by rw [hd]; exact hQ _ _) hy hsh hS fun hsh => ih hsh h hb.2
theorem alH (i : Nat) (hr : Region.ready md ops listed = [i])
    (h : wpOp P ops Q i (fun a' w' => S w' /\ wpAnyH P md ops Q S fuel (listed.setIfInBounds i true) a' w') a w) : wpAnyH P md ops Q S (fuel + 1) listed a w :=
  wpAnyH_all hr (by simp) (by simpa using h)
theorem alE (i : Nat) (hr : Region.ready md ops listed = [i])
    (h : wpOp P ops Q i (fun a' w' => (i = t\/S w') /\ wpAnyE P md ops Q S t fuel (listed.setIfInBounds i true) a' w') a w) : wpAnyE P md ops Q S t (fuel + 1) listed a w :=
  zHg hr (by simp) (by simpa using h)
end
open Go.RowKit
def R47:Nat:=140737488351232
def Rd (w:World) (B:Nat) (t:TypeId) (A:Option Addr) (cs:List Value):Prop :=
 cs=[]\/∃ g o,A=some ⟨g,o,none⟩/\g < w.heap.size/\(g < B\/∃ C fz,w.heap[g]? = some (.cells C t fz))/\∀ (j:Nat) (u:Value),cs[j]? = some u->w.cell? ⟨g,o+j,none⟩=some u
section
variable {w w':World} {B B':Nat} {t:TypeId} {A:Option Addr} {cs:List Value}
theorem Rd.nil:Rd w B t A []:=.inl rfl
theorem Rd.get {k:Nat} {u:Value} (h:Rd w B t A cs) (hk:cs[k]? = some u):∃ g o,A=some ⟨g,o,none⟩/\g < w.heap.size/\w.cell? ⟨g,o+k,none⟩=some u:=by
 rcases h with rfl | ⟨g,o,h1,h2,_,h4⟩
 ·simp at hk
 exact ⟨g,o,h1,h2,h4 k u hk⟩
theorem Rd.keep (h:Rd w B t A cs) (hs:w.heap.size<=w'.heap.size) (hk:∀ g,g < w.heap.size->(g < B\/∃ C fz,w.heap[g]? = some (.cells C t fz))->w'.heap[g]? = w.heap[g]?):Rd w' B t A cs:=by
 rcases h with h | ⟨g,o,h1,h2,h3,h4⟩
 ·exact .inl h
 have e:=hk g h2 h3
 refine .inr ⟨g,o,h1,by omega,?_,fun j u hj=>?_⟩
 ·rw [e];exact h3
 rw [World.cell?_of_block (w:=w) (w':=w') (a:=⟨g,o+j,none⟩) e];exact h4 j u hj
theorem Rd.below (h:Rd w B t A cs) (hb:Below w.heap.size w w'):Rd w' B t A cs:=h.keep hb.size fun g hg _=>hb.block g hg
theorem Rd.drew (h:Rd w B t A cs):Rd w.drew B t A cs:=h
theorem Rd.drewN (h:Rd w B t A cs) (n:Nat):Rd (w.drewN n) B t A cs:=h
theorem Rd.alloc (h:Rd w B t A cs) (o:Obj):Rd (w.alloc o) B t A cs:=h.keep (by simp) fun g hg _=>Below.heap_alloc w o g hg
theorem Rd.mono (h:Rd w B t A cs) (hB:B<=B'):Rd w B' t A cs:=by
 rcases h with h | ⟨g,o,h1,h2,h3,h4⟩
 ·exact .inl h
 exact .inr ⟨g,o,h1,h2,h3.imp (by omega) id,h4⟩
theorem Rd.setCell (h:Rd w B t A cs) {p:Addr} {C:Array Value} {t':TypeId} {fz:Nat × Nat} (hp:w.heap[p.block]? = some (.cells C t' fz)) (hB:B<=p.block) (ht:t'≠t) (u:Value):Rd (w.setCell p u) B t A cs :=
 h.keep (by simp [World.setCell]) fun g hg hk=>Below.heap_setCell w p u g (by
  rintro rfl
  rcases hk with hk | ⟨C',fz',hk⟩
  ·omega
  rw [hp] at hk
  cases hk
  exact ht rfl)
theorem Rd.grown (h:Rd w B t A cs) {row:Option Nat} (hg:w.grownBy w' row) (hr:∀ g,row=some g->B<=g/\∀ C fz,w.heap[g]? ≠some (.cells C t fz)):Rd w' B t A cs :=
 h.keep hg.size fun g Ha hk=>hg.block g Ha fun e=>by
  obtain ⟨h1,h2⟩:=hr g e.symm
  rcases hk with hk | ⟨C,fz,hk⟩
  ·omega
  exact h2 C fz hk
theorem Rd.take (h:Rd w B t A cs) (n:Nat):Rd w B t A (cs.take n):=by
 rcases h with h | ⟨g,o,h1,h2,h3,h4⟩
 ·subst h;exact .inl (by simp)
 exact .inr ⟨g,o,h1,h2,h3,fun j u hj=>h4 j u (by
  have:j < n:=by
   rcases Nat.lt_or_ge j n with h | h
   ·exact h
   rw [List.getElem?_eq_none (by rw [List.length_take];omega)] at hj;cases hj
  rwa [List.getElem?_take_of_lt this] at hj)⟩
end
def Blk (w:World) (g:Nat) (t:TypeId) (cs:Array Value):Prop:=w.heap[g]? = some (.cells cs t (0,0))
section
variable {w w':World} {g:Nat} {t:TypeId} {cs:Array Value}
theorem Blk.lt (h:Blk w g t cs):g < w.heap.size:=by
 rcases Nat.lt_or_ge g w.heap.size with hlt | Ha
 ·exact hlt
 unfold Blk at h;rw [Array.getElem?_eq_none Ha] at h;cases h
theorem Blk.cell (h:Blk w g t cs) (i:Nat):w.cell? ⟨g,i,none⟩=cs[i]?:=by
 unfold Blk at h
 simp [World.cell?,h]
theorem Blk.frozen (h:Blk w g t cs) (i:Nat):w.frozen? ⟨g,i,none⟩=false:=by
 unfold Blk at h
 simp [World.frozen?,h]
theorem Blk.new (w:World) (t:TypeId) (cs:Array Value):Blk (w.alloc (.cells cs t)) w.heap.size t cs:=by
 show (w.heap.push _)[w.heap.size]? = _
 simp
theorem Blk.new' {w:World} {g:Nat} {t:TypeId} {cs:Array Value} (h:g=w.heap.size):Blk (w.alloc (.cells cs t)) g t cs:=by subst h;exact Blk.new w t cs
theorem Blk.drew (h:Blk w g t cs):Blk w.drew g t cs:=h
theorem Blk.drewN (h:Blk w g t cs) (n:Nat):Blk (w.drewN n) g t cs:=h
theorem Blk.alloc (h:Blk w g t cs) (o:Obj):Blk (w.alloc o) g t cs:=(Below.heap_alloc w o g h.lt).trans h
theorem Blk.far (h:Blk w g t cs) {p:Addr} (hp:g≠p.block) (u:Value):Blk (w.setCell p u) g t cs:=(Below.heap_setCell w p u g hp).trans h
theorem Blk.below {B:Nat} (h:Blk w g t cs) (hb:Below B w w') (hg:g < B):Blk w' g t cs:=(hb.block g hg).trans h
theorem Blk.set_ (h:Blk w g t cs) (i:Nat) (u:Value):Blk (w.setCell ⟨g,i,none⟩ u) g t (cs.setIfInBounds i u):=by
 unfold Blk at h ⊢
 simp [World.setCell,Array.getElem?_modify,h]
theorem Blk.same (h:Blk w g t cs) (hb:Below w.heap.size w w'):Blk w' g t cs:=h.below hb h.lt
end
theorem bcell {W w1:World} {B:Nat} (hb:Below B W w1):(∀ b o,b < B->w1.cell? ⟨b,o,none⟩=W.cell? ⟨b,o,none⟩)/\(∀ b o,b < B->w1.frozen? ⟨b,o,none⟩=W.frozen? ⟨b,o,none⟩) :=
 ⟨fun b o h=>hb.cell (p:=⟨b,o,none⟩) h,fun b o h=>hb.frozen (p:=⟨b,o,none⟩) h⟩
theorem zDx {w w':World} {o:Obj} (h:Below (w.alloc o).heap.size (w.alloc o) w'):Below w.heap.size w w' :=
 ((mG _ _).alloc (mC _) _).trans (h.mono (by simp))
theorem zBn {P:Program} {f:FuncId} {args:Array Value} {w:World} {a:Nat} {v:Value}
 (h:Calls P f args (w.drewN a) fun e w'=>e=.returned v/\∃ m,w'=(w.drewN a).drewN m) :
 Calls P f args (w.drewN a) fun e w''=>e=.returned v/\∃ m,w''=w.drewN m :=
 h.mono fun _ _ ⟨he,m,hm⟩=>⟨he,a+m,by rw [hm,World.drewN_drewN]⟩
structure IsStrs (w:World) (B:Nat) (v:Value) (xs:List Scu.Str):Prop where
 ex:∃ A c,v=.slice A xs.length c/\xs.length<=c/\Rd w B 9 A (xs.map Value.string)
 len:xs.length*16<=R47
 each:∀ s ∈ xs,s.size<=R47
section
variable {w w':World} {B B':Nat} {v:Value} {xs:List Scu.Str}
theorem IsStrs.below (h:IsStrs w B v xs) (hb:Below w.heap.size w w'):IsStrs w' B v xs:=⟨let ⟨A,c,h1,h2,h3⟩:=h.ex;⟨A,c,h1,h2,h3.below hb⟩,h.len,h.each⟩
theorem IsStrs.drewN (h:IsStrs w B v xs) (n:Nat):IsStrs (w.drewN n) B v xs:=⟨h.ex,h.len,h.each⟩
theorem IsStrs.alloc (h:IsStrs w B v xs) (o:Obj):IsStrs (w.alloc o) B v xs:=⟨let ⟨A,c,h1,h2,h3⟩:=h.ex;⟨A,c,h1,h2,h3.alloc o⟩,h.len,h.each⟩
theorem IsStrs.mono (h:IsStrs w B v xs) (hB:B<=B'):IsStrs w B' v xs:=⟨let ⟨A,c,h1,h2,h3⟩:=h.ex;⟨A,c,h1,h2,h3.mono hB⟩,h.len,h.each⟩
theorem IsStrs.keep (h:IsStrs w B v xs) (hs:w.heap.size<=w'.heap.size) (hk:∀ g,g < w.heap.size->(g < B\/∃ C fz,w.heap[g]? = some (.cells C 9 fz))->w'.heap[g]? = w.heap[g]?):IsStrs w' B v xs :=
 ⟨let ⟨A,c,h1,h2,h3⟩:=h.ex;⟨A,c,h1,h2,h3.keep hs hk⟩,h.len,h.each⟩
theorem IsStrs.nil_:IsStrs w B (.slice none 0 0) []:=⟨⟨none,0,rfl,mC _,Rd.nil⟩,by simp [R47],fun s hs=>by cases hs⟩
end
theorem zEz {w:World} {B:Nat} {A:Option Addr} {xs:List Scu.Str} {k:Nat} (h:Rd w B 9 A (xs.map Value.string)) (hk:k < xs.length) :
 ∃ g o,A=some ⟨g,o,none⟩/\g < w.heap.size/\w.cell? ⟨g,o+k,none⟩=some (.string xs[k]) :=
 h.get (by simp [hk])
theorem zFn {α:Type} [DecidableEq α] {xs ys:List α} {k:Nat} (h:xs.take k=ys.take k) (hx:k < xs.length) (hy:k < ys.length) (he:xs[k]=ys[k]):xs.take (k+1)=ys.take (k+1):=by
 rw [List.take_succ_eq_append_getElem hx,List.take_succ_eq_append_getElem hy,h,he]
open Go.RowKit
theorem zHv (a b:ByteArray):(a.toList == b.toList)=decide (a=b):=by
 rw [ByteArray.toList_eq,ByteArray.toList_eq,Bool.eq_iff_iff,beq_iff_eq,decide_eq_true_eq]
 exact ⟨fun e=>ByteArray.ext (Array.toList_inj.1 e),fun e=>by rw [e]⟩
structure IsRows (w:World) (B:Nat) (v:Value) (xss:List (List Scu.Str)):Prop where
 ex:∃ A c vs,v=.slice A xss.length c/\xss.length<=c/\Rd w B 23 A vs/\vs.length=xss.length/\∀ (j:Nat) (u:Value) (x:List Scu.Str),vs[j]? = some u->xss[j]? = some x->IsStrs w B u x
 len:xss.length*24<=R47
section
variable {w w':World} {B B':Nat} {v:Value} {xss:List (List Scu.Str)}
theorem IsRows.keep (h:IsRows w B v xss) (hs:w.heap.size<=w'.heap.size) (hk:∀ g,g < w.heap.size->(g < B\/∃ C fz t,(t=9\/t=23)/\w.heap[g]? = some (.cells C t fz))->w'.heap[g]? = w.heap[g]?):IsRows w' B v xss :=
 ⟨let ⟨A,c,vs,h1,h2,h3,h4,h5⟩:=h.ex
  ⟨A,c,vs,h1,h2,h3.keep hs (fun g hg hh=>hk g hg (hh.imp id fun ⟨C,fz,e⟩=>⟨C,fz,_,.inr rfl,e⟩)),h4,fun j u x a b=>(h5 j u x a b).keep hs (fun g hg hh=>hk g hg (hh.imp id fun ⟨C,fz,e⟩=>⟨C,fz,_,.inl rfl,e⟩))⟩,h.len⟩
theorem IsRows.below (h:IsRows w B v xss) (hb:Below w.heap.size w w'):IsRows w' B v xss:=h.keep hb.size fun g hg _=>hb.block g hg
theorem IsRows.drewN (h:IsRows w B v xss) (n:Nat):IsRows (w.drewN n) B v xss:=h.keep (mC _) fun _ _ _=>rfl
theorem IsRows.alloc (h:IsRows w B v xss) (o:Obj):IsRows (w.alloc o) B v xss:=h.keep (by simp) fun g hg _=>Below.heap_alloc w o g hg
theorem IsRows.mono (h:IsRows w B v xss) (hB:B<=B'):IsRows w B' v xss :=
 ⟨let ⟨A,c,vs,h1,h2,h3,h4,h5⟩:=h.ex;⟨A,c,vs,h1,h2,h3.mono hB,h4,fun j u x a b=>(h5 j u x a b).mono hB⟩,h.len⟩
end
structure IsVolume (w:World) (B:Nat) (nv sv:Value) (x:Scu.Volume):Prop where
 now:IsStrs w B nv x.now
 snaps:IsRows w B sv x.snaps
theorem IsVolume.below {w w':World} {B:Nat} {nv sv:Value} {x:Scu.Volume} (h:IsVolume w B nv sv x) (hb:Below w.heap.size w w'):IsVolume w' B nv sv x:=⟨h.now.below hb,h.snaps.below hb⟩
theorem IsVolume.drewN {w:World} {B:Nat} {nv sv:Value} {x:Scu.Volume} (h:IsVolume w B nv sv x) (n:Nat):IsVolume (w.drewN n) B nv sv x:=⟨h.now.drewN n,h.snaps.drewN n⟩
theorem IsVolume.alloc {w:World} {B:Nat} {nv sv:Value} {x:Scu.Volume} (h:IsVolume w B nv sv x) (o:Obj):IsVolume (w.alloc o) B nv sv x:=⟨h.now.alloc o,h.snaps.alloc o⟩
open Go.RowKit Go.ChangeShapes Go.WideShapes Go.ChangeAt
def vOp (o:Scu.Op):Value:=.agg #[.int .i64 o.kind,.int .i64 o.at_,.int .i64 o.snap,.string o.data]
def vRequest (r:Scu.Request):Value:=.agg #[.int .i64 r.client,.int .i64 r.num,.int .i64 r.op.kind,.int .i64 r.op.at_,.int .i64 r.op.snap,.string r.op.data]
theorem zHw:Tryd.prog.cellsOf 3=1:=by kernel_rfl
section
variable {H:Type} {enc:TypeId × Value->H} {w:World} {base:Nat} {spare:Nat->Bool} {held:Bool} {n:Nat} {cs:List Value} {y:Option (DataW H × List MemPlace)}
end
section
variable {H:Type} {enc:TypeId × Value->H} {w:World} {base:Nat} {spare:Nat->Bool} {held:Bool} {d:DataW H} {p:List MemPlace} {v:Value} {b0:Nat}
end
open Go.RowKit
section
variable {w w':World} {B B':Nat} {v:Value} {ls:List Scu.Last}
end
theorem IsVolume.keep {w w':World} {B:Nat} {nv sv:Value} {x:Scu.Volume} (h:IsVolume w B nv sv x) (hs:w.heap.size<=w'.heap.size)
 (hk:∀ g,g < w.heap.size->(g < B\/∃ C fz t,(t=9\/t=23)/\w.heap[g]? = some (.cells C t fz))->w'.heap[g]? = w.heap[g]?):IsVolume w' B nv sv x :=
 ⟨h.now.keep hs fun g hg hh=>hk g hg (hh.imp id fun ⟨C,fz,e⟩=>⟨C,fz,_,.inl rfl,e⟩),h.snaps.keep hs hk⟩
theorem IsVolume.set_ {w:World} {B:Nat} {nv sv:Value} {x:Scu.Volume} (h:IsVolume w B nv sv x) {p:Addr} {t':TypeId} {cs:Array Value} (hp:Blk w p.block t' cs) (hB:B<=p.block)
 (h1:t'≠9) (h2:t'≠23) (u:Value):IsVolume (w.setCell p u) B nv sv x :=
 h.keep (by simp [World.setCell]) fun g _ hh=>Below.heap_setCell w p u g (by
  rintro rfl
  rcases hh with hh | ⟨C,fz,t,ht,hh⟩
  ·omega
  unfold Blk at hp
  rw [hp] at hh
  cases hh
  rcases ht with ht | ht
  ·exact h1 ht
  exact h2 ht)
theorem IsStrs.form {w:World} {B:Nat} {v:Value} {xs:List Scu.Str} (h:IsStrs w B v xs):∃ A n c,v=.slice A n c:=by
 obtain ⟨A,c,e,_⟩:=h.ex
 exact ⟨A,_,c,e⟩
theorem IsRows.form {w:World} {B:Nat} {v:Value} {xs:List (List Scu.Str)} (h:IsRows w B v xs):∃ A n c,v=.slice A n c:=by
 obtain ⟨A,c,vs,e,_⟩:=h.ex
 exact ⟨A,_,c,e⟩
open Go.RowKit
theorem zGo {α:Type} (p:α->Bool) (xs:List α) (k:Nat) (h:k < xs.length):(xs.take (k+1)).any p=((xs.take k).any p || p xs[k]):=by
 rw [List.take_succ_eq_append_getElem h,List.any_append]
 simp
theorem zDy {α:Type} (p:α->Bool) (xs:List α) (k:Nat) (h:k < xs.length) (hp:p xs[k]=true):xs.any p=true:=List.any_eq_true.2 ⟨_,List.getElem_mem h,hp⟩
theorem zGp {α:Type} (p:α->Bool) (xs:List α) (k:Nat) (h:xs.length<=k) (hp:(xs.take k).any p=false):xs.any p=false:=by rwa [List.take_of_length_le h] at hp
open Go.RowKit Go.ChangeShapes Go.WideShapes Go.ChangeAt
theorem zCk {H:Type} {P:Program} {e:TypeId} {d:DataW H} {k:Nat} (hk:k ∈ d.weights P e):∀ {ds:List (DataW H)},d ∈ ds->k ∈ DataW.weightsAll P e ds
 | [],h=>by cases h
 | d0 :: ds,h=>by
   simp only [DataW.weightsAll,List.mem_append]
   rcases List.mem_cons.1 h with rfl | h
   ·exact .inl hk
   ·exact .inr (zCk hk h)
section
variable {H:Type} {enc:TypeId × Value->H} {w:World} {base:Nat} {spare:Nat->Bool} {held:Bool} {n:Nat}
end
open Go.RowKit
section
variable {W : World} {g : Nat} {t : TypeId} {a b c d e f h i j k m : Value} {l : List Value}
theorem cz0 (q : Blk W g t l.toArray) (n : Nat) : W.cell? ⟨g, n, none⟩ = l[n]? := by rw [q.cell n]; simp
theorem cz1 (q : Blk W g t (a :: l).toArray) : W.cell? ⟨g, 0, none⟩ = some a := cz0 q 0
theorem cz2 (q : Blk W g t (a :: b :: l).toArray) : W.cell? ⟨g, 0, none⟩ = some a /\ W.cell? ⟨g, 1, none⟩ = some b := ⟨cz0 q 0, cz0 q 1⟩
theorem cz3 (q : Blk W g t (a :: b :: c :: l).toArray) : W.cell? ⟨g, 0, none⟩ = some a /\ W.cell? ⟨g, 1, none⟩ = some b /\ W.cell? ⟨g, 2, none⟩ = some c := ⟨cz0 q 0, cz0 q 1, cz0 q 2⟩
theorem cz4 (q : Blk W g t (a :: b :: c :: d :: l).toArray) : W.cell? ⟨g, 0, none⟩ = some a /\ W.cell? ⟨g, 1, none⟩ = some b /\ W.cell? ⟨g, 2, none⟩ = some c /\ W.cell? ⟨g, 3, none⟩ = some d := ⟨cz0 q 0, cz0 q 1, cz0 q 2, cz0 q 3⟩
theorem cz5 (q : Blk W g t (a :: b :: c :: d :: e :: l).toArray) : W.cell? ⟨g, 0, none⟩ = some a /\ W.cell? ⟨g, 1, none⟩ = some b /\ W.cell? ⟨g, 2, none⟩ = some c /\ W.cell? ⟨g, 3, none⟩ = some d /\ W.cell? ⟨g, 4, none⟩ = some e := ⟨cz0 q 0, cz0 q 1, cz0 q 2, cz0 q 3, cz0 q 4⟩
theorem cz6 (q : Blk W g t (a :: b :: c :: d :: e :: f :: l).toArray) : W.cell? ⟨g, 0, none⟩ = some a /\ W.cell? ⟨g, 1, none⟩ = some b /\ W.cell? ⟨g, 2, none⟩ = some c /\ W.cell? ⟨g, 3, none⟩ = some d /\ W.cell? ⟨g, 4, none⟩ = some e /\ W.cell? ⟨g, 5, none⟩ = some f := ⟨cz0 q 0, cz0 q 1, cz0 q 2, cz0 q 3, cz0 q 4, cz0 q 5⟩
theorem cz7 (q : Blk W g t (a :: b :: c :: d :: e :: f :: h :: l).toArray) : W.cell? ⟨g, 0, none⟩ = some a /\ W.cell? ⟨g, 1, none⟩ = some b /\ W.cell? ⟨g, 2, none⟩ = some c /\ W.cell? ⟨g, 3, none⟩ = some d /\ W.cell? ⟨g, 4, none⟩ = some e /\ W.cell? ⟨g, 5, none⟩ = some f /\ W.cell? ⟨g, 6, none⟩ = some h := ⟨cz0 q 0, cz0 q 1, cz0 q 2, cz0 q 3, cz0 q 4, cz0 q 5, cz0 q 6⟩
theorem cz8 (q : Blk W g t (a :: b :: c :: d :: e :: f :: h :: i :: l).toArray) : W.cell? ⟨g, 0, none⟩ = some a /\ W.cell? ⟨g, 1, none⟩ = some b /\ W.cell? ⟨g, 2, none⟩ = some c /\ W.cell? ⟨g, 3, none⟩ = some d /\ W.cell? ⟨g, 4, none⟩ = some e /\ W.cell? ⟨g, 5, none⟩ = some f /\ W.cell? ⟨g, 6, none⟩ = some h /\ W.cell? ⟨g, 7, none⟩ = some i := ⟨cz0 q 0, cz0 q 1, cz0 q 2, cz0 q 3, cz0 q 4, cz0 q 5, cz0 q 6, cz0 q 7⟩
theorem cz9 (q : Blk W g t (a :: b :: c :: d :: e :: f :: h :: i :: j :: l).toArray) : W.cell? ⟨g, 0, none⟩ = some a /\ W.cell? ⟨g, 1, none⟩ = some b /\ W.cell? ⟨g, 2, none⟩ = some c /\ W.cell? ⟨g, 3, none⟩ = some d /\ W.cell? ⟨g, 4, none⟩ = some e /\ W.cell? ⟨g, 5, none⟩ = some f /\ W.cell? ⟨g, 6, none⟩ = some h /\ W.cell? ⟨g, 7, none⟩ = some i /\ W.cell? ⟨g, 8, none⟩ = some j := ⟨cz0 q 0, cz0 q 1, cz0 q 2, cz0 q 3, cz0 q 4, cz0 q 5, cz0 q 6, cz0 q 7, cz0 q 8⟩
theorem cz10 (q : Blk W g t (a :: b :: c :: d :: e :: f :: h :: i :: j :: k :: l).toArray) : W.cell? ⟨g, 0, none⟩ = some a /\ W.cell? ⟨g, 1, none⟩ = some b /\ W.cell? ⟨g, 2, none⟩ = some c /\ W.cell? ⟨g, 3, none⟩ = some d /\ W.cell? ⟨g, 4, none⟩ = some e /\ W.cell? ⟨g, 5, none⟩ = some f /\ W.cell? ⟨g, 6, none⟩ = some h /\ W.cell? ⟨g, 7, none⟩ = some i /\ W.cell? ⟨g, 8, none⟩ = some j /\ W.cell? ⟨g, 9, none⟩ = some k := ⟨cz0 q 0, cz0 q 1, cz0 q 2, cz0 q 3, cz0 q 4, cz0 q 5, cz0 q 6, cz0 q 7, cz0 q 8, cz0 q 9⟩
end
theorem cW {B : Nat} {w w' : World} {g i : Nat} {v : Value} (h : Below B w w') (l : g < B) (e : w.cell? ⟨g, i, none⟩ = some v) : w'.cell? ⟨g, i, none⟩ = some v := (h.cell (p := ⟨g, i, none⟩) l).trans e
theorem zp1 {α : Type} (l : List α) (i : Nat) (a : α) : l.toArray.setIfInBounds i a = (l.set i a).toArray := List.setIfInBounds_toArray ..
theorem zp2 {α : Type} (x : α) (l : List α) (a : α) : (x :: l).set 0 a = a :: l := rfl
theorem zp3 {α : Type} (x : α) (l : List α) (n : Nat) (a : α) : (x :: l).set (n + 1) a = x :: l.set n a := rfl
end Go.Proofs.YtjnjhmkgfjikfaaDoor

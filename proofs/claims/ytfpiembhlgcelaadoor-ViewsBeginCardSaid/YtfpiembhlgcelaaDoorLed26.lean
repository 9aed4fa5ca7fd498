/- Part 26: words and walks under the law 'LeadersLead'. -/
import Derived.Test.YtfpiembhlgcelaaDoorLed16
import Derived.Test.YtfpiembhlgcelaaDoorLed18
import Derived.Test.YtfpiembhlgcelaaDoorLed17
import Derived.Test.YtfpiembhlgcelaaDoorLed25
import Derived.OrdersHeld
import Derived.Test.YtfpiembhlgcelaaDoorLed3
import Derived.Test.YtfpiembhlgcelaaDoorLed23
set_option linter.unusedVariables false
set_option linter.unusedSimpArgs false
/- Words: what a replica answers, its rows by name. -/
namespace Go.Proofs.YtfpiembhlgcelaaDoor
set_option linter.unusedVariables false
set_option linter.unusedSimpArgs false
open Go.RowKit
set_option maxHeartbeats 1000000
set_option maxRecDepth 100000
theorem tell_n {w w' : World} {rr : Scu.Replica} {ms : List Scu.Message} {f : Int} {e : Ending} (h : TellN w.heap.size w' rr ms f e) (hb : Below w.heap.size w w') : (∃ E0 m0 z0 E1 z1 E2 z2 E3 z3 E4 z4 Ao co, e = .returned (.tuple #[.agg #[.int .i64 rr.me, .int .i64 rr.kept.view, .int .i64 rr.kept.normal, .bool rr.kept.calm, .slice E0 m0 z0, .int .i64 rr.kept.commit, .slice E1 rr.have_.length z1, .slice E2 rr.wants.length z2, .slice E3 rr.gives.length z3, .slice E4 rr.given.length z4], .slice Ao ms.length co, .int .i64 f]) ∧ IsRep w' 0 (.slice E0 m0 z0) (.slice E1 rr.have_.length z1) (.slice E2 rr.wants.length z2) (.slice E3 rr.gives.length z3) (.slice E4 rr.given.length z4) rr ∧ IsRow 89 8 80 MsgE w' 0 (.slice Ao ms.length co) ms ∧ ∀ g, (Value.slice Ao ms.length co).ownBlock = some g → w.heap.size ≤ g) ∧ Below w.heap.size w w' := by
  obtain ⟨lu, hv, wv, gv, nv, ov, rfl, h1, h2, h3⟩ := h
  obtain ⟨E0, m0, z0, E1, z1, E2, z2, E3, z3, E4, z4, rfl, rfl, rfl, rfl, rfl⟩ := h1.forms
  obtain ⟨A, c, _, rfl, _⟩ := h2.ex
  exact ⟨⟨_, _, _, _, _, _, _, _, _, _, _, _, _, rfl, h1, h2, h3⟩, hb⟩
theorem tick_n (lv hv wv gv nv : Value) (r : Scu.Replica) (w : World) (B : Nat) (hr : IsRep w B lv hv wv gv nv r) (rr : Scu.Replica) (ms : List Scu.Message) (f : Int) (h : Scu.tick r = (rr, ms, f)) :
    Calls Tryd.prog 108 #[.agg #[.int .i64 r.me, .int .i64 r.kept.view, .int .i64 r.kept.normal, .bool r.kept.calm, lv, .int .i64 r.kept.commit, hv, wv, gv, nv]] w fun e w' => (∃ E0 m0 z0 E1 z1 E2 z2 E3 z3 E4 z4 Ao co, e = .returned (.tuple #[.agg #[.int .i64 rr.me, .int .i64 rr.kept.view, .int .i64 rr.kept.normal, .bool rr.kept.calm, .slice E0 m0 z0, .int .i64 rr.kept.commit, .slice E1 rr.have_.length z1, .slice E2 rr.wants.length z2, .slice E3 rr.gives.length z3, .slice E4 rr.given.length z4], .slice Ao ms.length co, .int .i64 f]) ∧ IsRep w' 0 (.slice E0 m0 z0) (.slice E1 rr.have_.length z1) (.slice E2 rr.wants.length z2) (.slice E3 rr.gives.length z3) (.slice E4 rr.given.length z4) rr ∧ IsRow 89 8 80 MsgE w' 0 (.slice Ao ms.length co) ms ∧ ∀ g, (Value.slice Ao ms.length co).ownBlock = some g → w.heap.size ≤ g) ∧ Below w.heap.size w w' := by
  have := tick_c lv hv wv gv nv r w B hr
  rw [h] at this
  exact this.mono fun e w' ⟨h1, h2⟩ => tell_n h1 h2
theorem alarm_n (lv hv wv gv nv : Value) (r : Scu.Replica) (w : World) (B : Nat) (hr : IsRep w B lv hv wv gv nv r) (rr : Scu.Replica) (ms : List Scu.Message) (f : Int) (h : Scu.alarm r = (rr, ms, f)) :
    Calls Tryd.prog 44 #[.agg #[.int .i64 r.me, .int .i64 r.kept.view, .int .i64 r.kept.normal, .bool r.kept.calm, lv, .int .i64 r.kept.commit, hv, wv, gv, nv]] w fun e w' => (∃ E0 m0 z0 E1 z1 E2 z2 E3 z3 E4 z4 Ao co, e = .returned (.tuple #[.agg #[.int .i64 rr.me, .int .i64 rr.kept.view, .int .i64 rr.kept.normal, .bool rr.kept.calm, .slice E0 m0 z0, .int .i64 rr.kept.commit, .slice E1 rr.have_.length z1, .slice E2 rr.wants.length z2, .slice E3 rr.gives.length z3, .slice E4 rr.given.length z4], .slice Ao ms.length co, .int .i64 f]) ∧ IsRep w' 0 (.slice E0 m0 z0) (.slice E1 rr.have_.length z1) (.slice E2 rr.wants.length z2) (.slice E3 rr.gives.length z3) (.slice E4 rr.given.length z4) rr ∧ IsRow 89 8 80 MsgE w' 0 (.slice Ao ms.length co) ms ∧ ∀ g, (Value.slice Ao ms.length co).ownBlock = some g → w.heap.size ≤ g) ∧ Below w.heap.size w w' := by
  have := alarm_c lv hv wv gv nv r w B hr
  rw [h] at this
  exact this.mono fun e w' ⟨h1, h2⟩ => tell_n h1 h2
theorem take_n (lv hv wv gv nv : Value) (r : Scu.Replica) (s : Scu.Str) (hs : s.size ≤ R47) (w : World) (B : Nat) (hr : IsRep w B lv hv wv gv nv r) (rr : Scu.Replica) (ms : List Scu.Message) (f : Int) (h : Scu.take r s = (rr, ms, f)) :
    Calls Tryd.prog 40 #[.agg #[.int .i64 r.me, .int .i64 r.kept.view, .int .i64 r.kept.normal, .bool r.kept.calm, lv, .int .i64 r.kept.commit, hv, wv, gv, nv], .string s] w fun e w' => (∃ E0 m0 z0 E1 z1 E2 z2 E3 z3 E4 z4 Ao co, e = .returned (.tuple #[.agg #[.int .i64 rr.me, .int .i64 rr.kept.view, .int .i64 rr.kept.normal, .bool rr.kept.calm, .slice E0 m0 z0, .int .i64 rr.kept.commit, .slice E1 rr.have_.length z1, .slice E2 rr.wants.length z2, .slice E3 rr.gives.length z3, .slice E4 rr.given.length z4], .slice Ao ms.length co, .int .i64 f]) ∧ IsRep w' 0 (.slice E0 m0 z0) (.slice E1 rr.have_.length z1) (.slice E2 rr.wants.length z2) (.slice E3 rr.gives.length z3) (.slice E4 rr.given.length z4) rr ∧ IsRow 89 8 80 MsgE w' 0 (.slice Ao ms.length co) ms ∧ ∀ g, (Value.slice Ao ms.length co).ownBlock = some g → w.heap.size ≤ g) ∧ Below w.heap.size w w' := by
  have := take_c lv hv wv gv nv r s hs w B hr
  rw [h] at this
  exact this.mono fun e w' ⟨h1, h2⟩ => tell_n h1 h2
theorem hear_n (lv hv wv gv nv xv : Value) (r : Scu.Replica) (m : Scu.Message) (w : World) (B : Nat) (hr : IsRep w B lv hv wv gv nv r) (hx : IsStrs w B xv m.log) (rr : Scu.Replica) (ms : List Scu.Message) (f : Int) (h : Scu.hear r m = (rr, ms, f)) :
    Calls Tryd.prog 43 #[.agg #[.int .i64 r.me, .int .i64 r.kept.view, .int .i64 r.kept.normal, .bool r.kept.calm, lv, .int .i64 r.kept.commit, hv, wv, gv, nv], .agg #[.int .i64 m.kind, .int .i64 m.from_, .int .i64 m.to, .int .i64 m.view, .int .i64 m.normal, .int .i64 m.commit, .int .i64 m.n, xv]] w fun e w' => (∃ E0 m0 z0 E1 z1 E2 z2 E3 z3 E4 z4 Ao co, e = .returned (.tuple #[.agg #[.int .i64 rr.me, .int .i64 rr.kept.view, .int .i64 rr.kept.normal, .bool rr.kept.calm, .slice E0 m0 z0, .int .i64 rr.kept.commit, .slice E1 rr.have_.length z1, .slice E2 rr.wants.length z2, .slice E3 rr.gives.length z3, .slice E4 rr.given.length z4], .slice Ao ms.length co, .int .i64 f]) ∧ IsRep w' 0 (.slice E0 m0 z0) (.slice E1 rr.have_.length z1) (.slice E2 rr.wants.length z2) (.slice E3 rr.gives.length z3) (.slice E4 rr.given.length z4) rr ∧ IsRow 89 8 80 MsgE w' 0 (.slice Ao ms.length co) ms ∧ ∀ g, (Value.slice Ao ms.length co).ownBlock = some g → w.heap.size ≤ g) ∧ Below w.heap.size w w' := by
  have := hear_c lv hv wv gv nv xv r m w B hr hx
  rw [h] at this
  exact this.mono fun e w' ⟨h1, h2⟩ => tell_n h1 h2
theorem wpAnyH_takeM {P : Program} {ops : Array Oper} {Q : Exit → Act → World → Prop} {md : Region.Mode} {S : World → Prop} {i : Nat} {oi : Oper} {v : Value} {fuel : Nat} {listed : Array Bool} {a : Act} {w : World} (hi : ops.toList[i]? = some oi)
    (hs : Region.noSelect ops = true) (hf : Region.free md ops listed i = true) (hr : (Region.ready md ops listed).contains i = true)
    (hQ : ∀ c a w, Q (.panic c) (a.put oi.dst v) w → Q (.panic c) a w) (hy : YieldsIf P ops S oi v a) (hS : S w)
    (h : wpAnyH P md ops Q S fuel (listed.setIfInBounds i true) (a.put oi.dst v) w) : wpAnyH P md ops Q S (fuel + 1) listed a w :=
  wpAnyH_take (by rw [← Array.getElem?_toList]; exact hi) hs hf hr hQ hy hS h
theorem blk_there {w : World} {g n : Nat} {t : TypeId} {cs : Array Value} (h : Blk w g t cs) (hn : cs.size = n := by rfl) : w.there g 0 n := fun j hj => by
  rw [Nat.zero_add, h.cell]
  exact ⟨by simp [hn, hj], h.frozen j⟩
/-- A replica's answer in a box made for it. -/
theorem boxed_rep {Wd x1 X : World} {gb : Nat} {rr : Scu.Replica} {ms : List Scu.Message} {E0 : Option Addr} {m0 z0 : Nat} {E1 : Option Addr} {z1 : Nat} {E2 : Option Addr} {z2 : Nat} {E3 : Option Addr} {z3 : Nat} {E4 : Option Addr} {z4 : Nat} {ov : Value} {b0 b1 b2 b3 b4 b5 b6 b7 b8 b9 : Value}
    (h1 : IsRep x1 0 (.slice E0 m0 z0) (.slice E1 rr.have_.length z1) (.slice E2 rr.wants.length z2) (.slice E3 rr.gives.length z3) (.slice E4 rr.given.length z4) rr) (h2 : IsRow 89 8 80 MsgE x1 0 ov ms)
    (hX : Below Wd.heap.size Wd X) (hB : Blk X gb 81 #[b0, b1, b2, b3, b4, b5, b6, b7, b8, b9]) (hg : Wd.heap.size ≤ gb) (hx : Below x1.heap.size x1 X) :
    Below Wd.heap.size Wd (X.setCells gb 0 [.int .i64 rr.me, .int .i64 rr.kept.view, .int .i64 rr.kept.normal, .bool rr.kept.calm, .slice E0 m0 z0, .int .i64 rr.kept.commit, .slice E1 rr.have_.length z1, .slice E2 rr.wants.length z2, .slice E3 rr.gives.length z3, .slice E4 rr.given.length z4]) ∧ Blk (X.setCells gb 0 [.int .i64 rr.me, .int .i64 rr.kept.view, .int .i64 rr.kept.normal, .bool rr.kept.calm, .slice E0 m0 z0, .int .i64 rr.kept.commit, .slice E1 rr.have_.length z1, .slice E2 rr.wants.length z2, .slice E3 rr.gives.length z3, .slice E4 rr.given.length z4]) gb 81 #[.int .i64 rr.me, .int .i64 rr.kept.view, .int .i64 rr.kept.normal, .bool rr.kept.calm, .slice E0 m0 z0, .int .i64 rr.kept.commit, .slice E1 rr.have_.length z1, .slice E2 rr.wants.length z2, .slice E3 rr.gives.length z3, .slice E4 rr.given.length z4] ∧
      IsRep (X.setCells gb 0 [.int .i64 rr.me, .int .i64 rr.kept.view, .int .i64 rr.kept.normal, .bool rr.kept.calm, .slice E0 m0 z0, .int .i64 rr.kept.commit, .slice E1 rr.have_.length z1, .slice E2 rr.wants.length z2, .slice E3 rr.gives.length z3, .slice E4 rr.given.length z4]) 0 (.slice E0 m0 z0) (.slice E1 rr.have_.length z1) (.slice E2 rr.wants.length z2) (.slice E3 rr.gives.length z3) (.slice E4 rr.given.length z4) rr ∧ IsRow 89 8 80 MsgE (X.setCells gb 0 [.int .i64 rr.me, .int .i64 rr.kept.view, .int .i64 rr.kept.normal, .bool rr.kept.calm, .slice E0 m0 z0, .int .i64 rr.kept.commit, .slice E1 rr.have_.length z1, .slice E2 rr.wants.length z2, .slice E3 rr.gives.length z3, .slice E4 rr.given.length z4]) 0 ov ms := by
  have hs : Same [9, 3, 4, 64, 89] 0 X (X.setCells gb 0 [.int .i64 rr.me, .int .i64 rr.kept.view, .int .i64 rr.kept.normal, .bool rr.kept.calm, .slice E0 m0 z0, .int .i64 rr.kept.commit, .slice E1 rr.have_.length z1, .slice E2 rr.wants.length z2, .slice E3 rr.gives.length z3, .slice E4 rr.given.length z4]) := Same.sets _ 0 X _ hB (by decide)
  exact ⟨below_sets hg _ 0 _ _ hX, blk_all (xs := [b0, b1, b2, b3, b4, b5, b6, b7, b8, b9]) hB rfl, (h1.below hx).same (hs.mono (by simp) (Nat.le_refl _)), IsMs.keep (IsMs.below h2 hx) (hs.mono (by simp) (Nat.le_refl _))⟩
end Go.Proofs.YtfpiembhlgcelaaDoor
/- Walks: slices.IndexFunc over messages, with the closures of LeadersLead and of ViewsBegin. -/
namespace Go.Proofs.YtfpiembhlgcelaaDoor
set_option linter.unusedVariables false
set_option linter.unusedSimpArgs false
open Go.RowKit
set_option maxHeartbeats 4000000
set_option maxRecDepth 100000
theorem lead1_c (m : Scu.Message) (A : Option Addr) (n c : Nat) (g : Nat) (j : Int) (w : World) (hb : Blk w g 3 #[.int .i64 j]) :
    Calls Tryd.prog 42 #[.agg #[.int .i64 m.kind, .int .i64 m.from_, .int .i64 m.to, .int .i64 m.view, .int .i64 m.normal, .int .i64 m.commit, .int .i64 m.n, .slice A n c], .pointer (some ⟨g, 0, none⟩)] w fun e w' => e = .returned (.bool (decide (m.to = j))) ∧ Below w.heap.size w w' := by
  have hal := below_alloc w (Obj.cells #[.int .i64 m.kind, .int .i64 m.from_, .int .i64 m.to, .int .i64 m.view, .int .i64 m.normal, .int .i64 m.commit, .int .i64 m.n, .slice A n c] 89)
  have hbx := Blk.new w 89 #[.int .i64 m.kind, .int .i64 m.from_, .int .i64 m.to, .int .i64 m.view, .int .i64 m.normal, .int .i64 m.commit, .int .i64 m.n, .slice A n c]
  have hbg := hb.same hal
  have hgw : g ≠ w.heap.size := by have := hb.lt; omega
  obtain ⟨b, hd⟩ : ∃ b, decide (m.to = j) = b := ⟨_, rfl⟩
  have hbq : (m.to == j) = b := by rw [← hd]; rfl
  have HD := Lib.hid hd
  have HF := Lib.hid hal
  clear hd
  have x2 := hbx.cell 2
  have y0 := hbg.cell 0
  simp only [List.getElem?_toArray, List.getElem?_cons_zero, List.getElem?_cons_succ] at x2 y0
  clear hbx hbg hb hal
  go_enter Tryd.func42, Tryd.ntmps42
  go_wp2
  go_ret
  exact ⟨ret_val (bool_eq HD.out.symm), HF.out⟩
theorem view1_c (m : Scu.Message) (A : Option Addr) (n c : Nat) (w : World) :
    Calls Tryd.prog 45 #[.agg #[.int .i64 m.kind, .int .i64 m.from_, .int .i64 m.to, .int .i64 m.view, .int .i64 m.normal, .int .i64 m.commit, .int .i64 m.n, .slice A n c]] w fun e w' => e = .returned (.bool (decide (m.to = 2) && decide (m.kind = 3))) ∧ Below w.heap.size w w' := by
  have hal := below_alloc w (Obj.cells #[.int .i64 m.kind, .int .i64 m.from_, .int .i64 m.to, .int .i64 m.view, .int .i64 m.normal, .int .i64 m.commit, .int .i64 m.n, .slice A n c] 89)
  have hbx := Blk.new w 89 #[.int .i64 m.kind, .int .i64 m.from_, .int .i64 m.to, .int .i64 m.view, .int .i64 m.normal, .int .i64 m.commit, .int .i64 m.n, .slice A n c]
  have HF := Lib.hid hal
  have x0 := hbx.cell 0
  have x2 := hbx.cell 2
  simp only [List.getElem?_toArray, List.getElem?_cons_zero, List.getElem?_cons_succ] at x0 x2
  clear hbx hal
  by_cases h2 : m.to = 2
  · have h2b : (m.to == 2) = true := by simp [h2]
    by_cases h3 : m.kind = 3
    · have h3b : (m.kind == 3) = true := by simp [h3]
      have HD := Lib.hid (show (decide (m.to = 2) && decide (m.kind = 3)) = true by simp [h2, h3])
      clear h2 h3
      go_enter Tryd.func45, Tryd.ntmps45
      go_wp2
      go_ret
      exact ⟨ret_val (bool_eq HD.out.symm), HF.out⟩
    · have h3b : (m.kind == 3) = false := by simp [h3]
      have HD := Lib.hid (show (decide (m.to = 2) && decide (m.kind = 3)) = false by simp [h3])
      clear h2 h3
      go_enter Tryd.func45, Tryd.ntmps45
      go_wp2
      go_ret
      exact ⟨ret_val (bool_eq HD.out.symm), HF.out⟩
  · have h2b : (m.to == 2) = false := by simp [h2]
    have HD := Lib.hid (show (decide (m.to = 2) && decide (m.kind = 3)) = false by simp [h2])
    clear h2
    go_enter Tryd.func45, Tryd.ntmps45
    go_wp2
    go_ret
    exact ⟨ret_val (bool_eq HD.out.symm), HF.out⟩
/-- The first that is so, or -1. -/
def idxI {α : Type} (p : α → Bool) (xs : List α) : Int := if xs.findIdx p < xs.length then (xs.findIdx p : Int) else -1
theorem idx_hit {α : Type} {p : α → Bool} {xs : List α} {k : Nat} (hk : k < xs.length) (h : p xs[k] = true) (hn : ∀ j (hj : j < xs.length), j < k → p xs[j] = false) : idxI p xs = k := by
  have e : xs.findIdx p = k := (List.findIdx_eq hk).2 ⟨h, fun j hj => hn j (by omega) hj⟩
  unfold idxI
  rw [e, if_pos hk]
theorem idx_none {α : Type} {p : α → Bool} {xs : List α} (hn : ∀ j (hj : j < xs.length), p xs[j] = false) : idxI p xs = -1 := by
  have e : xs.findIdx p = xs.length := List.findIdx_eq_length.2 (fun x hx => by
    obtain ⟨j, hj, rfl⟩ := List.mem_iff_getElem.1 hx
    exact hn j hj)
  unfold idxI
  rw [e, if_neg (Nat.lt_irrefl _)]
theorem idxLead_c (v : Value) (xs : List Scu.Message) (w : World) (hv : IsRow 89 8 80 MsgE w 0 v xs) (g : Nat) (j : Int) (hb : Blk w g 3 #[.int .i64 j]) :
    Calls Tryd.prog 41 #[v, .func (.func 42) #[] #[.pointer (some ⟨g, 0, none⟩)]] w fun e w' => e = .returned (.int .i64 (idxI (fun m : Scu.Message => decide (m.to = j)) xs)) ∧ Below w.heap.size w w' := by
  obtain ⟨p, hp⟩ : ∃ p : Scu.Message → Bool, p = fun m => decide (m.to = j) := ⟨_, rfl⟩
  have HPE := Lib.hid (show ∀ m : Scu.Message, decide (m.to = j) = p m from fun m => by rw [hp])
  have HB := Lib.hid hb
  rw [← hp]
  clear hp hb
  obtain ⟨⟨A', c', css, rfl, _, h2, h3, hr, h4⟩, hl⟩ := hv
  unfold R47 at hl
  have R1 := Lib.hid (And.intro h2 (And.intro h3 (And.intro hr h4)))
  clear h2 h3 hr h4
  go_enter Tryd.func41, Tryd.ntmps41
  go_wp2
  go_loopw [8] (fun i wr => ∃ k : Nat, k ≤ xs.length ∧ i = .int .i64 k ∧ Hid (Below w.heap.size w wr ∧ ∀ j (hj : j < xs.length), j < k → p xs[j] = false)) (fun i _ => xs.length - (intOf i).toNat)
  case atStart => exact ⟨0, Nat.zero_le _, rfl, Lib.hid ⟨Below.refl _ _, fun j _ h => by omega⟩⟩
  case round =>
    obtain ⟨k, hk, rfl, HK⟩ := hrel
    by_cases hlt : k < xs.length
    · have hlt' : (k : Int) < (xs.length : Int) := by omega
      obtain ⟨gx, o, cs1, rfl, hg, _, hc, xv, hcs, hxv⟩ := row_get R1.out.1 R1.out.2.1 (by decide) R1.out.2.2.1 R1.out.2.2.2 hlt
      subst hcs
      obtain ⟨m, hm⟩ : ∃ m, xs[k] = m := ⟨_, rfl⟩
      rw [hm] at hc hxv
      obtain ⟨A, n, c, rfl⟩ := hxv.form
      have hcc := fun (j : Nat) (u : Value) (hj : _[j]? = some u) => (HK.out.1.cell (p := ⟨gx, o + (k * 8 + j), none⟩) hg).trans (hc j u hj)
      have c0 : wr.cell? ⟨gx, o + k * 8, none⟩ = some (.int .i64 m.kind) := hcc 0 _ rfl
      have c1 : wr.cell? ⟨gx, o + k * 8 + 1, none⟩ = some (.int .i64 m.from_) := hcc 1 _ rfl
      have c2 : wr.cell? ⟨gx, o + k * 8 + 2, none⟩ = some (.int .i64 m.to) := hcc 2 _ rfl
      have c3 : wr.cell? ⟨gx, o + k * 8 + 3, none⟩ = some (.int .i64 m.view) := hcc 3 _ rfl
      have c4 : wr.cell? ⟨gx, o + k * 8 + 4, none⟩ = some (.int .i64 m.normal) := hcc 4 _ rfl
      have c5 : wr.cell? ⟨gx, o + k * 8 + 5, none⟩ = some (.int .i64 m.commit) := hcc 5 _ rfl
      have c6 : wr.cell? ⟨gx, o + k * 8 + 6, none⟩ = some (.int .i64 m.n) := hcc 6 _ rfl
      have c7 : wr.cell? ⟨gx, o + k * 8 + 7, none⟩ = some (.slice A n c) := hcc 7 _ rfl
      have HM := Lib.hid hm
      clear hm hc hcc hxv
      go_wp2_with fail
      refine (lead1_c m A n c g j wr (HB.out.same HK.out.1)).mono ?_; rintro e w2 ⟨rfl, h2⟩
      have HW := Lib.hid (HK.out.1.trans (h2.mono HK.out.1.size))
      obtain ⟨b, hbq⟩ : ∃ b, p m = b := ⟨_, rfl⟩
      have HPM := Lib.hid hbq
      rw [show (decide (m.to = j)) = b from (HPE.out m).trans hbq]
      clear hbq h2 c0 c1 c2 c3 c4 c5 c6 c7
      cases b with
      | true =>
        have HP := Lib.hid (idx_hit (p := p) hlt (by rw [HM.out]; exact HPM.out) HK.out.2)
        go_wp2
        go_ret
        exact ⟨ret_val (int_eq HP.out.symm), HW.out⟩
      | false =>
        have HN := Lib.hid (show ∀ j (hj : j < xs.length), j < k + 1 → p xs[j] = false from fun j hj hjk => by
          by_cases e : j = k
          · subst e; rw [HM.out]; exact HPM.out
          · exact HK.out.2 j hj (by omega))
        go_wp2
        go_roundw
        case rel => first | exact ⟨k + 1, by omega, rfl, Lib.hid ⟨HW.out, HN.out⟩⟩ | ((repeat apply Exists.intro); exact ⟨⟨k + 1, by omega, rfl, Lib.hid ⟨HW.out, HN.out⟩⟩, rfl⟩)
        case measure => first | (simp only [intOf]; omega) | (simp [intOf]; omega)
    · have hlt' : ¬ (k : Int) < (xs.length : Int) := by omega
      have HP := Lib.hid (idx_none (p := p) (xs := xs) (fun j hj => HK.out.2 j hj (by omega)))
      go_wp2
      go_ret
      exact ⟨ret_val (int_eq HP.out.symm), HK.out.1⟩
theorem idxView_c (v : Value) (xs : List Scu.Message) (w : World) (hv : IsRow 89 8 80 MsgE w 0 v xs) :
    Calls Tryd.prog 41 #[v, .func (.func 45) #[] #[]] w fun e w' => e = .returned (.int .i64 (idxI (fun m : Scu.Message => decide (m.to = 2) && decide (m.kind = 3)) xs)) ∧ Below w.heap.size w w' := by
  obtain ⟨p, hp⟩ : ∃ p : Scu.Message → Bool, p = fun m => decide (m.to = 2) && decide (m.kind = 3) := ⟨_, rfl⟩
  have HPE := Lib.hid (show ∀ m : Scu.Message, (decide (m.to = 2) && decide (m.kind = 3)) = p m from fun m => by rw [hp])
  rw [← hp]
  clear hp
  obtain ⟨⟨A', c', css, rfl, _, h2, h3, hr, h4⟩, hl⟩ := hv
  unfold R47 at hl
  have R1 := Lib.hid (And.intro h2 (And.intro h3 (And.intro hr h4)))
  clear h2 h3 hr h4
  go_enter Tryd.func41, Tryd.ntmps41
  go_wp2
  go_loopw [8] (fun i wr => ∃ k : Nat, k ≤ xs.length ∧ i = .int .i64 k ∧ Hid (Below w.heap.size w wr ∧ ∀ j (hj : j < xs.length), j < k → p xs[j] = false)) (fun i _ => xs.length - (intOf i).toNat)
  case atStart => exact ⟨0, Nat.zero_le _, rfl, Lib.hid ⟨Below.refl _ _, fun j _ h => by omega⟩⟩
  case round =>
    obtain ⟨k, hk, rfl, HK⟩ := hrel
    by_cases hlt : k < xs.length
    · have hlt' : (k : Int) < (xs.length : Int) := by omega
      obtain ⟨gx, o, cs1, rfl, hg, _, hc, xv, hcs, hxv⟩ := row_get R1.out.1 R1.out.2.1 (by decide) R1.out.2.2.1 R1.out.2.2.2 hlt
      subst hcs
      obtain ⟨m, hm⟩ : ∃ m, xs[k] = m := ⟨_, rfl⟩
      rw [hm] at hc hxv
      obtain ⟨A, n, c, rfl⟩ := hxv.form
      have hcc := fun (j : Nat) (u : Value) (hj : _[j]? = some u) => (HK.out.1.cell (p := ⟨gx, o + (k * 8 + j), none⟩) hg).trans (hc j u hj)
      have c0 : wr.cell? ⟨gx, o + k * 8, none⟩ = some (.int .i64 m.kind) := hcc 0 _ rfl
      have c1 : wr.cell? ⟨gx, o + k * 8 + 1, none⟩ = some (.int .i64 m.from_) := hcc 1 _ rfl
      have c2 : wr.cell? ⟨gx, o + k * 8 + 2, none⟩ = some (.int .i64 m.to) := hcc 2 _ rfl
      have c3 : wr.cell? ⟨gx, o + k * 8 + 3, none⟩ = some (.int .i64 m.view) := hcc 3 _ rfl
      have c4 : wr.cell? ⟨gx, o + k * 8 + 4, none⟩ = some (.int .i64 m.normal) := hcc 4 _ rfl
      have c5 : wr.cell? ⟨gx, o + k * 8 + 5, none⟩ = some (.int .i64 m.commit) := hcc 5 _ rfl
      have c6 : wr.cell? ⟨gx, o + k * 8 + 6, none⟩ = some (.int .i64 m.n) := hcc 6 _ rfl
      have c7 : wr.cell? ⟨gx, o + k * 8 + 7, none⟩ = some (.slice A n c) := hcc 7 _ rfl
      have HM := Lib.hid hm
      clear hm hc hcc hxv
      go_wp2_with fail
      refine (view1_c m A n c wr).mono ?_; rintro e w2 ⟨rfl, h2⟩
      have HW := Lib.hid (HK.out.1.trans (h2.mono HK.out.1.size))
      obtain ⟨b, hbq⟩ : ∃ b, p m = b := ⟨_, rfl⟩
      have HPM := Lib.hid hbq
      rw [show ((decide (m.to = 2) && decide (m.kind = 3))) = b from (HPE.out m).trans hbq]
      clear hbq h2 c0 c1 c2 c3 c4 c5 c6 c7
      cases b with
      | true =>
        have HP := Lib.hid (idx_hit (p := p) hlt (by rw [HM.out]; exact HPM.out) HK.out.2)
        go_wp2
        go_ret
        exact ⟨ret_val (int_eq HP.out.symm), HW.out⟩
      | false =>
        have HN := Lib.hid (show ∀ j (hj : j < xs.length), j < k + 1 → p xs[j] = false from fun j hj hjk => by
          by_cases e : j = k
          · subst e; rw [HM.out]; exact HPM.out
          · exact HK.out.2 j hj (by omega))
        go_wp2
        go_roundw
        case rel => first | exact ⟨k + 1, by omega, rfl, Lib.hid ⟨HW.out, HN.out⟩⟩ | ((repeat apply Exists.intro); exact ⟨⟨k + 1, by omega, rfl, Lib.hid ⟨HW.out, HN.out⟩⟩, rfl⟩)
        case measure => first | (simp only [intOf]; omega) | (simp [intOf]; omega)
    · have hlt' : ¬ (k : Int) < (xs.length : Int) := by omega
      have HP := Lib.hid (idx_none (p := p) (xs := xs) (fun j hj => HK.out.2 j hj (by omega)))
      go_wp2
      go_ret
      exact ⟨ret_val (int_eq HP.out.symm), HK.out.1⟩
end Go.Proofs.YtfpiembhlgcelaaDoor
/- Plain laws: playing entries. -/
namespace Scu

/- playing -/
theorem doIt_ok {v : Volume} {o : Op} (h : volFault v = 0) (ho : opFault o = 0) : volFault (doIt v o).1 = 0 := by
  have hv : volOk v = true := by
    unfold volFault at h
    split at h
    · assumption
    · simp at h
  have hop := opFault_ok ho
  have mk : ∀ x : Volume, volOk x = true → volFault x = 0 := fun x hx => by unfold volFault; rw [if_pos hx]
  apply mk
  unfold volOk at hv
  simp only [Bool.and_eq_true, decide_eq_true_eq] at hv
  obtain ⟨⟨h1, h2⟩, h3⟩ := hv
  have hs := h1
  unfold sectorsOk at h1
  simp only [Bool.and_eq_true, beq_iff_eq, List.all_eq_true, decide_eq_true_eq] at h1
  unfold doIt
  split
  · unfold volOk sectorsOk
    simp only [Bool.and_eq_true, beq_iff_eq, List.all_eq_true, decide_eq_true_eq, List.length_set]
    refine ⟨⟨⟨h1.1, fun s hs => ?_⟩, h2⟩, ?_⟩
    · rcases List.mem_or_eq_of_mem_set hs with hs | hs
      · exact h1.2 s hs
      · subst hs; omega
    · intro x hx
      have := List.all_eq_true.1 h3 x hx
      unfold sectorsOk at this
      simpa only [Bool.and_eq_true, beq_iff_eq, List.all_eq_true, decide_eq_true_eq] using this
  split
  · split
    · unfold volOk; simp only [Bool.and_eq_true, decide_eq_true_eq]; exact ⟨⟨hs, h2⟩, h3⟩
    · unfold volOk
      simp only [Bool.and_eq_true, decide_eq_true_eq, List.length_append, List.length_singleton, List.all_append, List.all_cons, List.all_nil, Bool.and_true]
      exact ⟨⟨hs, by omega⟩, h3, hs⟩
  split
  · unfold volOk; simp only [Bool.and_eq_true, decide_eq_true_eq]; exact ⟨⟨hs, h2⟩, h3⟩
  split
  · unfold volOk; simp only [Bool.and_eq_true, decide_eq_true_eq]; exact ⟨⟨hs, h2⟩, h3⟩
  · unfold volOk; simp only [Bool.and_eq_true, decide_eq_true_eq]; exact ⟨⟨hs, h2⟩, h3⟩
theorem lastsOk_iff {l : List Last} : lastsOk l = true ↔ l.length = 4 ∧ ∀ x ∈ l, 0 ≤ x.num ∧ x.num ≤ 1048576 := by
  unfold lastsOk
  simp only [Bool.and_eq_true, beq_iff_eq, List.all_eq_true, decide_eq_true_eq]
theorem stateFault_iff {s : State} : stateFault s = 0 ↔ lastsOk s.lasts = true ∧ volFault s.volume = 0 := by
  unfold stateFault
  split
  · rename_i h; exact ⟨fun e => ⟨h, e⟩, fun e => e.2⟩
  · rename_i h; exact ⟨fun e => by omega, fun e => absurd e.1 h⟩
theorem applyIt_ok {s : State} {r : Request} (h : stateFault s = 0) (hr : reqFault r = 0) : stateFault (applyIt s r) = 0 := by
  obtain ⟨h1, h2⟩ := stateFault_iff.1 h
  have hq := reqFault_ok hr
  unfold applyIt
  split
  · exact h
  · refine stateFault_iff.2 ⟨?_, doIt_ok h2 hq.2.2.2.2⟩
    rw [lastsOk_iff] at h1 ⊢
    refine ⟨by simp [h1.1], fun x hx => ?_⟩
    rcases List.mem_or_eq_of_mem_set hx with hx | hx
    · exact h1.2 x hx
    · subst hx; exact ⟨by show 0 ≤ r.num; omega, by show r.num ≤ _; omega⟩
theorem decode_req {e : Str} (h : (decode e).2 = 0) : reqFault (decode e).1 = 0 := by
  unfold decode at h ⊢
  by_cases h1 : 40 < e.size
  · rw [if_pos h1] at h; simp at h
  rw [if_neg h1] at h ⊢
  by_cases h2 : e.size < 4
  · rw [if_pos h2] at h; simp at h
  rw [if_neg h2] at h ⊢
  generalize readNumber (dropS e 4) = q at h ⊢
  obtain ⟨n, s1, e1⟩ := q
  simp only at h ⊢
  generalize readText s1 = p at h ⊢
  obtain ⟨d, s2, e2⟩ := p
  simp only at h ⊢
  by_cases h3 : e1 ≠ 0
  · rw [if_pos h3] at h; exact absurd h h3
  rw [if_neg h3] at h ⊢
  by_cases h4 : e2 ≠ 0
  · rw [if_pos h4] at h; exact absurd h h4
  rw [if_neg h4] at h ⊢
  by_cases h5 : s2 ≠ str0
  · rw [if_pos h5] at h; simp at h
  rw [if_neg h5] at h ⊢
  generalize (⟨byteAt e 0, n, ⟨byteAt e 1, byteAt e 2, byteAt e 3, d⟩⟩ : Request) = r at h ⊢
  by_cases h6 : reqFault r ≠ 0
  · rw [if_pos h6] at h; exact absurd h h6
  · rw [if_neg h6]; exact Classical.byContradiction h6
theorem stateNew_ok : stateFault stateNew = 0 := by decide
theorem apply_ok {s : State} {e : Str} (h : stateFault s = 0) (he : (decode e).2 = 0) : apply s e = (applyIt s (decode e).1, 0) := by
  unfold apply
  rw [if_neg (by omega), if_neg (by omega)]
def AllOk (P : List Str) : Prop := ∀ e ∈ P, (decode e).2 = 0
theorem playFrom_ok : ∀ (P : List Str) (s : State), stateFault s = 0 → AllOk P → playFrom s P = (P.foldl (fun s e => applyIt s (decode e).1) s, 0) ∧ stateFault (P.foldl (fun s e => applyIt s (decode e).1) s) = 0
  | [], s, h, _ => ⟨rfl, h⟩
  | e :: P, s, h, hP => by
    have he := hP e List.mem_cons_self
    have ha := apply_ok h he
    have hn := applyIt_ok h (decode_req he)
    obtain ⟨h1, h2⟩ := playFrom_ok P (applyIt s (decode e).1) hn fun x hx => hP x (List.mem_cons_of_mem _ hx)
    refine ⟨?_, h2⟩
    unfold playFrom
    rw [ha]
    simp only [ne_eq, not_true_eq_false, if_false]
    exact h1
def played (P : List Str) : State := P.foldl (fun s e => applyIt s (decode e).1) stateNew
theorem play_ok {P : List Str} (hP : AllOk P) : play P = (played P, 0) ∧ stateFault (played P) = 0 := playFrom_ok P stateNew stateNew_ok hP
theorem played_snoc (P : List Str) (e : Str) : played (P ++ [e]) = applyIt (played P) (decode e).1 := by unfold played; rw [List.foldl_append]; rfl
end Scu
/- Plain: what is asked twice is done once. -/
namespace Scu
set_option linter.unusedVariables false
set_option linter.unusedSimpArgs false
theorem applyIt_twice {s : State} {r : Request} (h : stateFault s = 0) (hr : reqFault r = 0) : applyIt (applyIt s r) r = applyIt s r := by
  obtain ⟨h1, h2⟩ := stateFault_iff.1 h
  obtain ⟨h4, _⟩ := lastsOk_iff.1 h1
  obtain ⟨c1, c4, _⟩ := reqFault_ok hr
  by_cases hn : r.num ≤ (s.lasts.getD (r.client - 1).toNat last0).num
  · have e : applyIt s r = s := if_pos hn
    rw [e, e]
  · have e : applyIt s r = ⟨(doIt s.volume r.op).1, s.lasts.set (r.client - 1).toNat ⟨r.num, (doIt s.volume r.op).2⟩⟩ := if_neg hn
    rw [e]
    refine if_pos ?_
    have hk : (r.client - 1).toNat < s.lasts.length := by omega
    simp only [List.getD_eq_getElem?_getD, List.getElem?_set_self hk, Option.getD_some]
    exact Int.le_refl _
def dup (l : List Str) : List Str := l.flatMap fun s => [s, s]
theorem dup_snoc (l : List Str) (s : Str) : dup (l ++ [s]) = dup l ++ [s, s] := by unfold dup; rw [List.flatMap_append]; rfl
theorem dup_length (l : List Str) : (dup l).length = 2 * l.length := by
  induction l with
  | nil => rfl
  | cons s l ih =>
    have : dup (s :: l) = s :: s :: dup l := rfl
    rw [this, List.length_cons, List.length_cons, ih, List.length_cons]
    omega
theorem dup_mem {l : List Str} {e : Str} (h : e ∈ dup l) : e ∈ l := by
  unfold dup at h
  obtain ⟨s, hs, he⟩ := List.mem_flatMap.1 h
  simp only [List.mem_cons, List.not_mem_nil, or_false] at he
  rcases he with rfl | rfl <;> exact hs
theorem dup_ok {P : List Str} (h : AllOk P) : AllOk (dup P) := fun e he => h e (dup_mem he)
theorem played_dup : ∀ P : List Str, AllOk P → played (dup P) = played P := by
  refine rev_list (fun _ => rfl) fun l s ih h => ?_
  have hl : AllOk l := fun e he => h e (List.mem_append_left _ he)
  have hs : (decode s).2 = 0 := h s (List.mem_append_right _ List.mem_cons_self)
  have hf := (play_ok hl).2
  rw [dup_snoc, show dup l ++ [s, s] = dup l ++ [s] ++ [s] from by rw [List.append_assoc]; rfl, played_snoc, played_snoc, played_snoc, ih hl]
  exact applyIt_twice hf (decode_req hs)
theorem entries_ok {l : List Request} (h : ∀ q ∈ l, reqFault q = 0) : AllOk (entries l) := by
  intro e he
  unfold entries at he
  obtain ⟨q, hq, rfl⟩ := List.mem_map.1 he
  rw [decode_reqBytes (h q hq)]
theorem entries_size {l : List Request} (h : ∀ q ∈ l, reqFault q = 0) : ∀ e ∈ entries l, e.size ≤ 17 := by
  intro e he
  unfold entries at he
  obtain ⟨q, hq, rfl⟩ := List.mem_map.1 he
  have := reqBytes_size q
  have := (opFault_ok (reqFault_ok (h q hq)).2.2.2.2).2.2.2.2.2.2.1
  omega
end Scu

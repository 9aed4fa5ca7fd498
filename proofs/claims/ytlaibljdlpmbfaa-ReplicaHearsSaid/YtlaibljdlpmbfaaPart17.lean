/- The law 'ReplicaHears': for every input the call returns true; each argument reads as it did. No condition. -/
import Derived.Test.YtlaibljdlpmbfaaPart11
import Derived.Test.YtlaibljdlpmbfaaPart12
import Derived.Test.YtlaibljdlpmbfaaPart13
import Derived.Test.YtlaibljdlpmbfaaPart16
import Derived.Test.YtlaibljdlpmbfaaPart6
import Derived.Test.YtlaibljdlpmbfaaPart7
import Derived.Test.YtlaibljdlpmbfaaPart1
import Derived.SizedLaws
import Derived.WalkKit
import Derived.ProofKit
import Derived.OpenShut
import Derived.ShutString
import Derived.ChangeOld
import Derived.Below
set_option linter.unusedVariables false
set_option linter.unusedSimpArgs false
/- Walks: ref.heard, whatever the kind; ref.HeardOf. -/
namespace Go.Proofs.Ytlaibljdlpmbfaa
set_option linter.unusedVariables false
set_option linter.unusedSimpArgs false
open Go.RowKit
set_option maxHeartbeats 4000000
set_option maxRecDepth 100000

theorem heard_c (g base : Nat) (r : Scu.Replica) (lu hv wv gv nv : Value) (m : Scu.Message) (A : Option Addr) (c : Nat) (w : World) (hR : RWk w base g r lu hv wv gv nv) (hf : Scu.repFault r = 0) (hl : LowStrs w base (.slice A m.log.length c) m.log) (hg : Scu.msgFault m = 0)
    (rr : Scu.Replica) (ms : List Scu.Message) (hh : Scu.hearIt r m = (rr, ms)) :
    Calls Try.prog 18 #[.pointer (some ⟨g, 0, none⟩), .agg #[.int .i64 m.kind, .int .i64 m.from_, .int .i64 m.tq, .int .i64 m.view, .int .i64 m.normal, .int .i64 m.commit, .int .i64 m.n, .slice A m.log.length c]] w fun e w' => (∃ ov css, e = .returned ov ∧ OwnMs w' base ov ms css) ∧ RWkE w' base g rr ∧ Below base w w' := by
  have h3 := rep_three hf
  have ho := Scu.repFault_ok hf
  have hm := Scu.msgFault_ok hg
  have hN : ∀ k ∈ r.gives, 0 ≤ k.normal := fun k hk => (Scu.keptFault_ok (ho.2.2.2.2.2.2.1 k hk)).2.2.1
  have hk := Scu.keptFault_ok ho.2.2.2.2.2.2.2
  have hmk := Scu.keptFault_ok hm.2.2.2.2.2.2.2.2.2.2.2
  have hf0 : 0 ≤ m.from_ := hm.2.2.1.1
  have hf3 : m.from_ < 3 := by have := hm.2.2.1; unfold Scu.InR at this; omega
  have h4 : m.kind = 1 ∨ m.kind = 2 ∨ m.kind = 3 ∨ m.kind = 4 := by have := hm.1; have := hm.2.1; omega
  unfold Scu.hearIt at hh
  rcases h4 with h | h | h | h
  · rw [if_pos h] at hh
    exact heard_1 g base r lu hv wv gv nv m A c w hR h3 hl h hmk.2.2.2.2.2.2.2.1 rr ms hh
  · rw [if_neg (by omega), if_pos h] at hh
    exact heard_2 g base r lu hv wv gv nv m A c w hR h3 hk.1 hl h hf0 hf3 rr ms hh
  · rw [if_neg (by omega), if_neg (by omega), if_pos h] at hh
    exact heard_3 g base r lu hv wv gv nv m A c w hR h3 hN hk.2.2.1 hk.1 hl h hf0 hf3 rr ms hh
  · rw [if_neg (by omega), if_neg (by omega), if_neg (by omega)] at hh
    exact heard_4 g base r lu hv wv gv nv m A c w hR h3 hN hk.2.2.1 hmk.2.2.1 hl h hf0 hf3 rr ms hh
theorem msgRef_a (lv : Value) (m : Scu.Message) (w : World) (B : Nat) (hv : IsStrs w B lv m.log) (f : Int) (h : Scu.msgFault m = f) :
    Calls Try.prog 17 #[.agg #[.int .i64 m.kind, .int .i64 m.from_, .int .i64 m.tq, .int .i64 m.view, .int .i64 m.normal, .int .i64 m.commit, .int .i64 m.n, lv]] w fun e w' => e = .returned (.int .i64 f) ∧ Below w.heap.size w w' := by
  have := messageFault_x lv m.kind m.from_ m.tq m.view m.normal m.commit m.n m.log w B hv
  rw [show (⟨m.kind, m.from_, m.tq, m.view, m.normal, m.commit, m.n, m.log⟩ : Scu.Message) = m from rfl, h] at this
  exact this
/- looked at, up to the replica: $1 its fault -/
/- .. and the message: $1 its fault -/
theorem heardOf_no (lv hv wv gv nv xv : Value) (r : Scu.Replica) (m : Scu.Message) (w : World) (B : Nat) (hr : IsRep w B lv hv wv gv nv r) (hx : IsStrs w B xv m.log) (f : Int) (hn : f ≠ 0)
    (h : Scu.repFault r = f ∨ Scu.repFault r = 0 ∧ (Scu.msgFault m = f ∨ Scu.msgFault m = 0 ∧ (m.tq ≠ r.me ∧ f = 6 ∨ m.tq = r.me ∧ m.view < r.kept.view ∧ f = 9))) :
    Calls Try.prog 6 #[.agg #[.int .i64 r.me, .int .i64 r.kept.view, .int .i64 r.kept.normal, .bool r.kept.calm, lv, .int .i64 r.kept.commit, hv, wv, gv, nv], .agg #[.int .i64 m.kind, .int .i64 m.from_, .int .i64 m.tq, .int .i64 m.view, .int .i64 m.normal, .int .i64 m.commit, .int .i64 m.n, xv]] w fun e w' => TellN w.heap.size w' Scu.replica0 [] f e ∧ Below w.heap.size w w' := by
  have hfb : (f != 0) = true := by simpa using hn
  have hfe : (f == 0) = false := by simpa using hn
  clear hn
  rcases h with hf | ⟨hf, hg | ⟨hg, ⟨ht, rfl⟩ | ⟨ht, hv', rfl⟩⟩⟩
  · have HF := Lib.hid hf
    clear hf
    have HV := Lib.hid hr
    have HX := Lib.hid hx
    obtain ⟨A0, n0, c0, A1, c1, A2, c2, A3, c3, A4, c4, rfl, rfl, rfl, rfl, rfl⟩ := hr.forms
    obtain ⟨A, c, rfl, _, _⟩ := hx.ex
    clear hr hx
    go_enter Try.func6, Try.ntmps6
    go_wp2_with fail
    have h0 : Below w.heap.size w (((w.alloc (Obj.cells #[.int .i64 r.me, .int .i64 r.kept.view, .int .i64 r.kept.normal, .bool r.kept.calm, .slice A0 n0 c0, .int .i64 r.kept.commit, .slice A1 r.have_.length c1, .slice A2 r.wants.length c2, .slice A3 r.gives.length c3, .slice A4 r.given.length c4] 29)).alloc (Obj.cells #[.int .i64 m.kind, .int .i64 m.from_, .int .i64 m.tq, .int .i64 m.view, .int .i64 m.normal, .int .i64 m.commit, .int .i64 m.n, .slice A m.log.length c] 31)).alloc (Obj.cells #[.int .i64 0, .int .i64 0, .int .i64 0, .bool false, .slice none 0 0, .int .i64 0, .slice none 0 0, .slice none 0 0, .slice none 0 0, .slice none 0 0] 29)) := below_three w _ _ _
    refine (repFaultRef_a _ _ _ _ _ r _ B (HV.out.below h0) f HF.out).mono ?_; rintro en w1 ⟨rfl, h1⟩
    have hs : Blk w1 w.heap.size 29 #[.int .i64 r.me, .int .i64 r.kept.view, .int .i64 r.kept.normal, .bool r.kept.calm, .slice A0 n0 c0, .int .i64 r.kept.commit, .slice A1 r.have_.length c1, .slice A2 r.wants.length c2, .slice A3 r.gives.length c3, .slice A4 r.given.length c4] := (((Blk.new w _ _).alloc _).alloc _).same h1
    have hk : Blk w1 (w.heap.size + 1) 31 #[.int .i64 m.kind, .int .i64 m.from_, .int .i64 m.tq, .int .i64 m.view, .int .i64 m.normal, .int .i64 m.commit, .int .i64 m.n, .slice A m.log.length c] := ((Blk.new' (by simp)).alloc _).same h1
    have hz : Blk w1 (w.heap.size + 2) 29 #[.int .i64 0, .int .i64 0, .int .i64 0, .bool false, .slice none 0 0, .int .i64 0, .slice none 0 0, .slice none 0 0, .slice none 0 0, .slice none 0 0] := (Blk.new' (by simp)).same h1
    have H1 := Lib.hid (And.intro hs (And.intro hk (And.intro hz (h0.trans (h1.mono h0.size)))))
    clear h1 h0 hs hk hz
    have hz := H1.out.2.2.1
    have z0 := hz.cell 0
    have z1 := hz.cell 1
    have z2 := hz.cell 2
    have z3 := hz.cell 3
    have z4 := hz.cell 4
    have z5 := hz.cell 5
    have z6 := hz.cell 6
    have z7 := hz.cell 7
    have z8 := hz.cell 8
    have z9 := hz.cell 9
    simp only [List.getElem?_toArray, List.getElem?_cons_zero, List.getElem?_cons_succ] at z0 z1 z2 z3 z4 z5 z6 z7 z8 z9
    have zz := hz.frozen
    have zl := hz.lt
    have hr := blk_set10 (a0 := .int .i64 0) (a1 := .int .i64 0) (a2 := .int .i64 0) (a3 := .bool false) (a4 := .slice none 0 0) (a5 := .int .i64 0) (a6 := .slice none 0 0) (a7 := .slice none 0 0) (a8 := .slice none 0 0) (a9 := .slice none 0 0) hz
    have r0 := hr.cell 0
    have r1 := hr.cell 1
    have r2 := hr.cell 2
    have r3 := hr.cell 3
    have r4 := hr.cell 4
    have r5 := hr.cell 5
    have r6 := hr.cell 6
    have r7 := hr.cell 7
    have r8 := hr.cell 8
    have r9 := hr.cell 9
    simp only [List.getElem?_toArray, List.getElem?_cons_zero, List.getElem?_cons_succ] at r0 r1 r2 r3 r4 r5 r6 r7 r8 r9
    have rz := hr.frozen
    have rl := hr.lt
    go_wp2
    refine bodyPost_ret (v := .tuple #[.agg #[.int .i64 0, .int .i64 0, .int .i64 0, .bool false, .slice none 0 0, .int .i64 0, .slice none 0 0, .slice none 0 0, .slice none 0 0, .slice none 0 0], .slice none 0 0, .int .i64 f]) (by simp [results, Try.results6, go_sem, r0, r1, r2, r3, r4, r5, r6, r7, r8, r9]) rfl ?_
    exact ⟨tell_zeroN _ _ _, below_set10 H1.out.2.2.2 (by omega)⟩
  · have HF := Lib.hid hf
    have HG := Lib.hid hg
    clear hf hg
    have HV := Lib.hid hr
    have HX := Lib.hid hx
    obtain ⟨A0, n0, c0, A1, c1, A2, c2, A3, c3, A4, c4, rfl, rfl, rfl, rfl, rfl⟩ := hr.forms
    obtain ⟨A, c, rfl, _, _⟩ := hx.ex
    clear hr hx
    go_enter Try.func6, Try.ntmps6
    go_wp2_with fail
    have h0 : Below w.heap.size w (((w.alloc (Obj.cells #[.int .i64 r.me, .int .i64 r.kept.view, .int .i64 r.kept.normal, .bool r.kept.calm, .slice A0 n0 c0, .int .i64 r.kept.commit, .slice A1 r.have_.length c1, .slice A2 r.wants.length c2, .slice A3 r.gives.length c3, .slice A4 r.given.length c4] 29)).alloc (Obj.cells #[.int .i64 m.kind, .int .i64 m.from_, .int .i64 m.tq, .int .i64 m.view, .int .i64 m.normal, .int .i64 m.commit, .int .i64 m.n, .slice A m.log.length c] 31)).alloc (Obj.cells #[.int .i64 0, .int .i64 0, .int .i64 0, .bool false, .slice none 0 0, .int .i64 0, .slice none 0 0, .slice none 0 0, .slice none 0 0, .slice none 0 0] 29)) := below_three w _ _ _
    refine (repFaultRef_a _ _ _ _ _ r _ B (HV.out.below h0) 0 HF.out).mono ?_; rintro en w1 ⟨rfl, h1⟩
    have hs : Blk w1 w.heap.size 29 #[.int .i64 r.me, .int .i64 r.kept.view, .int .i64 r.kept.normal, .bool r.kept.calm, .slice A0 n0 c0, .int .i64 r.kept.commit, .slice A1 r.have_.length c1, .slice A2 r.wants.length c2, .slice A3 r.gives.length c3, .slice A4 r.given.length c4] := (((Blk.new w _ _).alloc _).alloc _).same h1
    have hk : Blk w1 (w.heap.size + 1) 31 #[.int .i64 m.kind, .int .i64 m.from_, .int .i64 m.tq, .int .i64 m.view, .int .i64 m.normal, .int .i64 m.commit, .int .i64 m.n, .slice A m.log.length c] := ((Blk.new' (by simp)).alloc _).same h1
    have hz : Blk w1 (w.heap.size + 2) 29 #[.int .i64 0, .int .i64 0, .int .i64 0, .bool false, .slice none 0 0, .int .i64 0, .slice none 0 0, .slice none 0 0, .slice none 0 0, .slice none 0 0] := (Blk.new' (by simp)).same h1
    have H1 := Lib.hid (And.intro hs (And.intro hk (And.intro hz (h0.trans (h1.mono h0.size)))))
    clear h1 h0 hs hk hz
    obtain ⟨k0, k1, k2, k3, k4, k5, k6, k7⟩ := cz8 H1.out.2.1
    have kl := H1.out.2.1.lt
    go_wp2_with fail
    refine (msgRef_a _ m w1 B (HX.out.below H1.out.2.2.2) f HG.out).mono ?_; rintro en w2 ⟨rfl, h2⟩
    have H1 := Lib.hid (And.intro (H1.out.1.same h2) (And.intro (H1.out.2.1.same h2) (And.intro (H1.out.2.2.1.same h2) (H1.out.2.2.2.trans (h2.mono H1.out.2.2.2.size)))))
    clear h2 k0 k1 k2 k3 k4 k5 k6 k7 kl
    obtain ⟨s0, s1, -⟩ := cz3 H1.out.1
    obtain ⟨-, -, k2, k3, -⟩ := cz5 H1.out.2.1
    have sl := H1.out.1.lt
    have kl := H1.out.2.1.lt
    have hz := H1.out.2.2.1
    have z0 := hz.cell 0
    have z1 := hz.cell 1
    have z2 := hz.cell 2
    have z3 := hz.cell 3
    have z4 := hz.cell 4
    have z5 := hz.cell 5
    have z6 := hz.cell 6
    have z7 := hz.cell 7
    have z8 := hz.cell 8
    have z9 := hz.cell 9
    simp only [List.getElem?_toArray, List.getElem?_cons_zero, List.getElem?_cons_succ] at z0 z1 z2 z3 z4 z5 z6 z7 z8 z9
    have zz := hz.frozen
    have zl := hz.lt
    have hr := blk_set10 (a0 := .int .i64 0) (a1 := .int .i64 0) (a2 := .int .i64 0) (a3 := .bool false) (a4 := .slice none 0 0) (a5 := .int .i64 0) (a6 := .slice none 0 0) (a7 := .slice none 0 0) (a8 := .slice none 0 0) (a9 := .slice none 0 0) hz
    have r0 := hr.cell 0
    have r1 := hr.cell 1
    have r2 := hr.cell 2
    have r3 := hr.cell 3
    have r4 := hr.cell 4
    have r5 := hr.cell 5
    have r6 := hr.cell 6
    have r7 := hr.cell 7
    have r8 := hr.cell 8
    have r9 := hr.cell 9
    simp only [List.getElem?_toArray, List.getElem?_cons_zero, List.getElem?_cons_succ] at r0 r1 r2 r3 r4 r5 r6 r7 r8 r9
    have rz := hr.frozen
    have rl := hr.lt
    go_wp2
    refine bodyPost_ret (v := .tuple #[.agg #[.int .i64 0, .int .i64 0, .int .i64 0, .bool false, .slice none 0 0, .int .i64 0, .slice none 0 0, .slice none 0 0, .slice none 0 0, .slice none 0 0], .slice none 0 0, .int .i64 f]) (by simp [results, Try.results6, go_sem, r0, r1, r2, r3, r4, r5, r6, r7, r8, r9]) rfl ?_
    exact ⟨tell_zeroN _ _ _, below_set10 H1.out.2.2.2 (by omega)⟩
  · have htb : (m.tq != r.me) = true := by simpa using ht
    have HF := Lib.hid hf
    have HG := Lib.hid hg
    clear hf hg ht
    have HV := Lib.hid hr
    have HX := Lib.hid hx
    obtain ⟨A0, n0, c0, A1, c1, A2, c2, A3, c3, A4, c4, rfl, rfl, rfl, rfl, rfl⟩ := hr.forms
    obtain ⟨A, c, rfl, _, _⟩ := hx.ex
    clear hr hx
    go_enter Try.func6, Try.ntmps6
    go_wp2_with fail
    have h0 : Below w.heap.size w (((w.alloc (Obj.cells #[.int .i64 r.me, .int .i64 r.kept.view, .int .i64 r.kept.normal, .bool r.kept.calm, .slice A0 n0 c0, .int .i64 r.kept.commit, .slice A1 r.have_.length c1, .slice A2 r.wants.length c2, .slice A3 r.gives.length c3, .slice A4 r.given.length c4] 29)).alloc (Obj.cells #[.int .i64 m.kind, .int .i64 m.from_, .int .i64 m.tq, .int .i64 m.view, .int .i64 m.normal, .int .i64 m.commit, .int .i64 m.n, .slice A m.log.length c] 31)).alloc (Obj.cells #[.int .i64 0, .int .i64 0, .int .i64 0, .bool false, .slice none 0 0, .int .i64 0, .slice none 0 0, .slice none 0 0, .slice none 0 0, .slice none 0 0] 29)) := below_three w _ _ _
    refine (repFaultRef_a _ _ _ _ _ r _ B (HV.out.below h0) 0 HF.out).mono ?_; rintro en w1 ⟨rfl, h1⟩
    have hs : Blk w1 w.heap.size 29 #[.int .i64 r.me, .int .i64 r.kept.view, .int .i64 r.kept.normal, .bool r.kept.calm, .slice A0 n0 c0, .int .i64 r.kept.commit, .slice A1 r.have_.length c1, .slice A2 r.wants.length c2, .slice A3 r.gives.length c3, .slice A4 r.given.length c4] := (((Blk.new w _ _).alloc _).alloc _).same h1
    have hk : Blk w1 (w.heap.size + 1) 31 #[.int .i64 m.kind, .int .i64 m.from_, .int .i64 m.tq, .int .i64 m.view, .int .i64 m.normal, .int .i64 m.commit, .int .i64 m.n, .slice A m.log.length c] := ((Blk.new' (by simp)).alloc _).same h1
    have hz : Blk w1 (w.heap.size + 2) 29 #[.int .i64 0, .int .i64 0, .int .i64 0, .bool false, .slice none 0 0, .int .i64 0, .slice none 0 0, .slice none 0 0, .slice none 0 0, .slice none 0 0] := (Blk.new' (by simp)).same h1
    have H1 := Lib.hid (And.intro hs (And.intro hk (And.intro hz (h0.trans (h1.mono h0.size)))))
    clear h1 h0 hs hk hz
    obtain ⟨k0, k1, k2, k3, k4, k5, k6, k7⟩ := cz8 H1.out.2.1
    have kl := H1.out.2.1.lt
    go_wp2_with fail
    refine (msgRef_a _ m w1 B (HX.out.below H1.out.2.2.2) 0 HG.out).mono ?_; rintro en w2 ⟨rfl, h2⟩
    have H1 := Lib.hid (And.intro (H1.out.1.same h2) (And.intro (H1.out.2.1.same h2) (And.intro (H1.out.2.2.1.same h2) (H1.out.2.2.2.trans (h2.mono H1.out.2.2.2.size)))))
    clear h2 k0 k1 k2 k3 k4 k5 k6 k7 kl
    obtain ⟨s0, s1, -⟩ := cz3 H1.out.1
    obtain ⟨-, -, k2, k3, -⟩ := cz5 H1.out.2.1
    have sl := H1.out.1.lt
    have kl := H1.out.2.1.lt
    have hz := H1.out.2.2.1
    have z0 := hz.cell 0
    have z1 := hz.cell 1
    have z2 := hz.cell 2
    have z3 := hz.cell 3
    have z4 := hz.cell 4
    have z5 := hz.cell 5
    have z6 := hz.cell 6
    have z7 := hz.cell 7
    have z8 := hz.cell 8
    have z9 := hz.cell 9
    simp only [List.getElem?_toArray, List.getElem?_cons_zero, List.getElem?_cons_succ] at z0 z1 z2 z3 z4 z5 z6 z7 z8 z9
    have zz := hz.frozen
    have zl := hz.lt
    have hr := blk_set10 (a0 := .int .i64 0) (a1 := .int .i64 0) (a2 := .int .i64 0) (a3 := .bool false) (a4 := .slice none 0 0) (a5 := .int .i64 0) (a6 := .slice none 0 0) (a7 := .slice none 0 0) (a8 := .slice none 0 0) (a9 := .slice none 0 0) hz
    have r0 := hr.cell 0
    have r1 := hr.cell 1
    have r2 := hr.cell 2
    have r3 := hr.cell 3
    have r4 := hr.cell 4
    have r5 := hr.cell 5
    have r6 := hr.cell 6
    have r7 := hr.cell 7
    have r8 := hr.cell 8
    have r9 := hr.cell 9
    simp only [List.getElem?_toArray, List.getElem?_cons_zero, List.getElem?_cons_succ] at r0 r1 r2 r3 r4 r5 r6 r7 r8 r9
    have rz := hr.frozen
    have rl := hr.lt
    go_wp2
    refine bodyPost_ret (v := .tuple #[.agg #[.int .i64 0, .int .i64 0, .int .i64 0, .bool false, .slice none 0 0, .int .i64 0, .slice none 0 0, .slice none 0 0, .slice none 0 0, .slice none 0 0], .slice none 0 0, .int .i64 6]) (by simp [results, Try.results6, go_sem, r0, r1, r2, r3, r4, r5, r6, r7, r8, r9]) rfl ?_
    exact ⟨tell_zeroN _ _ _, below_set10 H1.out.2.2.2 (by omega)⟩
  · have htb : (m.tq != r.me) = false := by simpa using ht
    have hvb : decide (m.view < r.kept.view) = true := by simpa using hv'
    have HF := Lib.hid hf
    have HG := Lib.hid hg
    clear hf hg ht hv'
    have HV := Lib.hid hr
    have HX := Lib.hid hx
    obtain ⟨A0, n0, c0, A1, c1, A2, c2, A3, c3, A4, c4, rfl, rfl, rfl, rfl, rfl⟩ := hr.forms
    obtain ⟨A, c, rfl, _, _⟩ := hx.ex
    clear hr hx
    go_enter Try.func6, Try.ntmps6
    go_wp2_with fail
    have h0 : Below w.heap.size w (((w.alloc (Obj.cells #[.int .i64 r.me, .int .i64 r.kept.view, .int .i64 r.kept.normal, .bool r.kept.calm, .slice A0 n0 c0, .int .i64 r.kept.commit, .slice A1 r.have_.length c1, .slice A2 r.wants.length c2, .slice A3 r.gives.length c3, .slice A4 r.given.length c4] 29)).alloc (Obj.cells #[.int .i64 m.kind, .int .i64 m.from_, .int .i64 m.tq, .int .i64 m.view, .int .i64 m.normal, .int .i64 m.commit, .int .i64 m.n, .slice A m.log.length c] 31)).alloc (Obj.cells #[.int .i64 0, .int .i64 0, .int .i64 0, .bool false, .slice none 0 0, .int .i64 0, .slice none 0 0, .slice none 0 0, .slice none 0 0, .slice none 0 0] 29)) := below_three w _ _ _
    refine (repFaultRef_a _ _ _ _ _ r _ B (HV.out.below h0) 0 HF.out).mono ?_; rintro en w1 ⟨rfl, h1⟩
    have hs : Blk w1 w.heap.size 29 #[.int .i64 r.me, .int .i64 r.kept.view, .int .i64 r.kept.normal, .bool r.kept.calm, .slice A0 n0 c0, .int .i64 r.kept.commit, .slice A1 r.have_.length c1, .slice A2 r.wants.length c2, .slice A3 r.gives.length c3, .slice A4 r.given.length c4] := (((Blk.new w _ _).alloc _).alloc _).same h1
    have hk : Blk w1 (w.heap.size + 1) 31 #[.int .i64 m.kind, .int .i64 m.from_, .int .i64 m.tq, .int .i64 m.view, .int .i64 m.normal, .int .i64 m.commit, .int .i64 m.n, .slice A m.log.length c] := ((Blk.new' (by simp)).alloc _).same h1
    have hz : Blk w1 (w.heap.size + 2) 29 #[.int .i64 0, .int .i64 0, .int .i64 0, .bool false, .slice none 0 0, .int .i64 0, .slice none 0 0, .slice none 0 0, .slice none 0 0, .slice none 0 0] := (Blk.new' (by simp)).same h1
    have H1 := Lib.hid (And.intro hs (And.intro hk (And.intro hz (h0.trans (h1.mono h0.size)))))
    clear h1 h0 hs hk hz
    obtain ⟨k0, k1, k2, k3, k4, k5, k6, k7⟩ := cz8 H1.out.2.1
    have kl := H1.out.2.1.lt
    go_wp2_with fail
    refine (msgRef_a _ m w1 B (HX.out.below H1.out.2.2.2) 0 HG.out).mono ?_; rintro en w2 ⟨rfl, h2⟩
    have H1 := Lib.hid (And.intro (H1.out.1.same h2) (And.intro (H1.out.2.1.same h2) (And.intro (H1.out.2.2.1.same h2) (H1.out.2.2.2.trans (h2.mono H1.out.2.2.2.size)))))
    clear h2 k0 k1 k2 k3 k4 k5 k6 k7 kl
    obtain ⟨s0, s1, -⟩ := cz3 H1.out.1
    obtain ⟨-, -, k2, k3, -⟩ := cz5 H1.out.2.1
    have sl := H1.out.1.lt
    have kl := H1.out.2.1.lt
    have hz := H1.out.2.2.1
    have z0 := hz.cell 0
    have z1 := hz.cell 1
    have z2 := hz.cell 2
    have z3 := hz.cell 3
    have z4 := hz.cell 4
    have z5 := hz.cell 5
    have z6 := hz.cell 6
    have z7 := hz.cell 7
    have z8 := hz.cell 8
    have z9 := hz.cell 9
    simp only [List.getElem?_toArray, List.getElem?_cons_zero, List.getElem?_cons_succ] at z0 z1 z2 z3 z4 z5 z6 z7 z8 z9
    have zz := hz.frozen
    have zl := hz.lt
    have hr := blk_set10 (a0 := .int .i64 0) (a1 := .int .i64 0) (a2 := .int .i64 0) (a3 := .bool false) (a4 := .slice none 0 0) (a5 := .int .i64 0) (a6 := .slice none 0 0) (a7 := .slice none 0 0) (a8 := .slice none 0 0) (a9 := .slice none 0 0) hz
    have r0 := hr.cell 0
    have r1 := hr.cell 1
    have r2 := hr.cell 2
    have r3 := hr.cell 3
    have r4 := hr.cell 4
    have r5 := hr.cell 5
    have r6 := hr.cell 6
    have r7 := hr.cell 7
    have r8 := hr.cell 8
    have r9 := hr.cell 9
    simp only [List.getElem?_toArray, List.getElem?_cons_zero, List.getElem?_cons_succ] at r0 r1 r2 r3 r4 r5 r6 r7 r8 r9
    have rz := hr.frozen
    have rl := hr.lt
    go_wp2
    refine bodyPost_ret (v := .tuple #[.agg #[.int .i64 0, .int .i64 0, .int .i64 0, .bool false, .slice none 0 0, .int .i64 0, .slice none 0 0, .slice none 0 0, .slice none 0 0, .slice none 0 0], .slice none 0 0, .int .i64 9]) (by simp [results, Try.results6, go_sem, r0, r1, r2, r3, r4, r5, r6, r7, r8, r9]) rfl ?_
    exact ⟨tell_zeroN _ _ _, below_set10 H1.out.2.2.2 (by omega)⟩
theorem heardOf_yes (lv hv wv gv nv xv : Value) (r : Scu.Replica) (m : Scu.Message) (w : World) (B : Nat) (hr : IsRep w B lv hv wv gv nv r) (hx : IsStrs w B xv m.log) (hf : Scu.repFault r = 0) (hg : Scu.msgFault m = 0) (ht : m.tq = r.me) (hv' : ¬ m.view < r.kept.view) (rr : Scu.Replica) (ms : List Scu.Message) (hh : Scu.hearIt r m = (rr, ms)) :
    Calls Try.prog 6 #[.agg #[.int .i64 r.me, .int .i64 r.kept.view, .int .i64 r.kept.normal, .bool r.kept.calm, lv, .int .i64 r.kept.commit, hv, wv, gv, nv], .agg #[.int .i64 m.kind, .int .i64 m.from_, .int .i64 m.tq, .int .i64 m.view, .int .i64 m.normal, .int .i64 m.commit, .int .i64 m.n, xv]] w fun e w' => TellN w.heap.size w' rr ms 0 e ∧ Below w.heap.size w w' := by
  have htb : (m.tq != r.me) = false := by simpa using ht
  have hvb : decide (m.view < r.kept.view) = false := by simpa using hv'
  have HF := Lib.hid hf
  have HG := Lib.hid hg
  have HH := Lib.hid hh
  clear hf hg ht hv' hh
  have HV := Lib.hid hr
  have HX := Lib.hid hx
  obtain ⟨A0, n0, c0, A1, c1, A2, c2, A3, c3, A4, c4, rfl, rfl, rfl, rfl, rfl⟩ := hr.forms
  obtain ⟨A, c, rfl, _, _⟩ := hx.ex
  clear hr hx
  go_enter Try.func6, Try.ntmps6
  go_wp2_with fail
  have h0 : Below w.heap.size w (((w.alloc (Obj.cells #[.int .i64 r.me, .int .i64 r.kept.view, .int .i64 r.kept.normal, .bool r.kept.calm, .slice A0 n0 c0, .int .i64 r.kept.commit, .slice A1 r.have_.length c1, .slice A2 r.wants.length c2, .slice A3 r.gives.length c3, .slice A4 r.given.length c4] 29)).alloc (Obj.cells #[.int .i64 m.kind, .int .i64 m.from_, .int .i64 m.tq, .int .i64 m.view, .int .i64 m.normal, .int .i64 m.commit, .int .i64 m.n, .slice A m.log.length c] 31)).alloc (Obj.cells #[.int .i64 0, .int .i64 0, .int .i64 0, .bool false, .slice none 0 0, .int .i64 0, .slice none 0 0, .slice none 0 0, .slice none 0 0, .slice none 0 0] 29)) := below_three w _ _ _
  refine (repFaultRef_a _ _ _ _ _ r _ B (HV.out.below h0) 0 HF.out).mono ?_; rintro en w1 ⟨rfl, h1⟩
  have hs : Blk w1 w.heap.size 29 #[.int .i64 r.me, .int .i64 r.kept.view, .int .i64 r.kept.normal, .bool r.kept.calm, .slice A0 n0 c0, .int .i64 r.kept.commit, .slice A1 r.have_.length c1, .slice A2 r.wants.length c2, .slice A3 r.gives.length c3, .slice A4 r.given.length c4] := (((Blk.new w _ _).alloc _).alloc _).same h1
  have hk : Blk w1 (w.heap.size + 1) 31 #[.int .i64 m.kind, .int .i64 m.from_, .int .i64 m.tq, .int .i64 m.view, .int .i64 m.normal, .int .i64 m.commit, .int .i64 m.n, .slice A m.log.length c] := ((Blk.new' (by simp)).alloc _).same h1
  have hz : Blk w1 (w.heap.size + 2) 29 #[.int .i64 0, .int .i64 0, .int .i64 0, .bool false, .slice none 0 0, .int .i64 0, .slice none 0 0, .slice none 0 0, .slice none 0 0, .slice none 0 0] := (Blk.new' (by simp)).same h1
  have H1 := Lib.hid (And.intro hs (And.intro hk (And.intro hz (h0.trans (h1.mono h0.size)))))
  clear h1 h0 hs hk hz
  obtain ⟨k0, k1, k2, k3, k4, k5, k6, k7⟩ := cz8 H1.out.2.1
  have kl := H1.out.2.1.lt
  go_wp2_with fail
  refine (msgRef_a _ m w1 B (HX.out.below H1.out.2.2.2) 0 HG.out).mono ?_; rintro en w2 ⟨rfl, h2⟩
  have H1 := Lib.hid (And.intro (H1.out.1.same h2) (And.intro (H1.out.2.1.same h2) (And.intro (H1.out.2.2.1.same h2) (H1.out.2.2.2.trans (h2.mono H1.out.2.2.2.size)))))
  clear h2 k0 k1 k2 k3 k4 k5 k6 k7 kl
  obtain ⟨s0, s1, -⟩ := cz3 H1.out.1
  obtain ⟨-, -, k2, k3, -⟩ := cz5 H1.out.2.1
  have sl := H1.out.1.lt
  have kl := H1.out.2.1.lt
  go_upto_region 10 with fail
  clear s0 s1 k2 k3
  have hs := H1.out.1
  obtain ⟨s0, s1, s2, s3, s4, s5, s6, s7, s8, s9⟩ := cz10 hs
  clear hs
  go_wp2_with fail
  refine (repCopyRef_c A0 n0 c0 A1 c1 A2 c2 A3 r.gives.length c3 A4 c4 r _ B (HV.out.below H1.out.2.2.2)).mono ?_; rintro en w3 ⟨⟨lu, hu, wu, gu, nu, rfl, ho, hap⟩, h3⟩
  obtain ⟨E0, m0, d0, E1, d1, E2, d2, E3, d3, E4, d4, rfl, rfl, rfl, rfl, rfl⟩ := ho.is.forms
  clear s0 s1 s2 s3 s4 s5 s6 s7 s8 s9 hap
  go_upto_region 11 with fail
  obtain ⟨Wc, hWc⟩ : ∃ W, W = w3.alloc (Obj.cells #[.int .i64 r.me, .int .i64 r.kept.view, .int .i64 r.kept.normal, .bool r.kept.calm, .slice E0 m0 d0, .int .i64 r.kept.commit, .slice E1 r.have_.length d1, .slice E2 r.wants.length d2, .slice E3 r.gives.length d3, .slice E4 r.given.length d4] 29) := ⟨_, rfl⟩
  rw [← hWc]
  have hbc : Below w3.heap.size w3 Wc := by rw [hWc]; exact below_alloc _ _
  have hcp : Blk Wc w3.heap.size 29 #[.int .i64 r.me, .int .i64 r.kept.view, .int .i64 r.kept.normal, .bool r.kept.calm, .slice E0 m0 d0, .int .i64 r.kept.commit, .slice E1 r.have_.length d1, .slice E2 r.wants.length d2, .slice E3 r.gives.length d3, .slice E4 r.given.length d4] := by rw [hWc]; exact Blk.new _ _ _
  have hlw : Below w.heap.size w Wc := H1.out.2.2.2.trans ((h3.trans (hbc.mono h3.size)).mono H1.out.2.2.2.size)
  have hz2 : w.heap.size + 2 < w2.heap.size := H1.out.2.2.1.lt
  have HC := Lib.hid (show RWk Wc w2.heap.size w3.heap.size r (.slice E0 m0 d0) (.slice E1 r.have_.length d1) (.slice E2 r.wants.length d2) (.slice E3 r.gives.length d3) (.slice E4 r.given.length d4) ∧ LowStrs Wc w2.heap.size (.slice A m.log.length c) m.log ∧ Blk Wc (w.heap.size + 1) 31 #[.int .i64 m.kind, .int .i64 m.from_, .int .i64 m.tq, .int .i64 m.view, .int .i64 m.normal, .int .i64 m.commit, .int .i64 m.n, .slice A m.log.length c] ∧ Blk Wc (w.heap.size + 2) 29 #[.int .i64 0, .int .i64 0, .int .i64 0, .bool false, .slice none 0 0, .int .i64 0, .slice none 0 0, .slice none 0 0, .slice none 0 0, .slice none 0 0] ∧ Below w.heap.size w Wc from
    ⟨⟨hcp, ho.below hbc, h3.size⟩, ((LowStrs.of HX.out).keep hlw).up (by omega), (H1.out.2.1.same h3).same hbc, (H1.out.2.2.1.same h3).same hbc, hlw⟩)
  have HZ2 := Lib.hid hz2
  clear hWc hbc hcp hlw ho h3 hz2 H1 sl kl
  have hk := HC.out.2.2.1
  obtain ⟨k0, k1, k2, k3, k4, k5, k6, k7⟩ := cz8 hk
  have kl := hk.lt
  clear hk
  go_wp2_with fail
  refine (heard_c w3.heap.size w2.heap.size r _ _ _ _ _ m A c Wc HC.out.1 HF.out HC.out.2.1 HG.out rr ms HH.out).mono ?_; rintro en w4 ⟨⟨ov, css, rfl, hm⟩, ⟨lu, hu, wu, gu, nu, hrw⟩, h4⟩
  obtain ⟨F0, n5, y0, F1, y1, F2, y2, F3, y3, F4, y4, rfl, rfl, rfl, rfl, rfl⟩ := hrw.own.is.forms
  obtain ⟨Ao, co, rfl⟩ := hm.form
  have hz3 := HC.out.2.2.2.1.below h4 HZ2.out
  have hb4 : Below w.heap.size w w4 := HC.out.2.2.2.2.trans (h4.mono (by have := HZ2.out; omega))
  have hfr : ∀ g, (Value.slice Ao ms.length co).ownBlock = some g → w.heap.size ≤ g := fun g hg => by have := (hm.row.lt g hg).1; have := HZ2.out; omega
  have H4 := Lib.hid (And.intro hrw.own.is (And.intro hm.is (And.intro hb4 hfr)))
  clear k0 k1 k2 k3 k4 k5 k6 k7 kl
  have hrb := hrw.rb
  clear hrw hm h4 hb4 hfr
  have o0 := hrb.cell 0
  have o1 := hrb.cell 1
  have o2 := hrb.cell 2
  have o3 := hrb.cell 3
  have o4 := hrb.cell 4
  have o5 := hrb.cell 5
  have o6 := hrb.cell 6
  have o7 := hrb.cell 7
  have o8 := hrb.cell 8
  have o9 := hrb.cell 9
  simp only [List.getElem?_toArray, List.getElem?_cons_zero, List.getElem?_cons_succ] at o0 o1 o2 o3 o4 o5 o6 o7 o8 o9
  have oz := hrb.frozen
  have ol := hrb.lt
  have z0 := hz3.cell 0
  have z1 := hz3.cell 1
  have z2 := hz3.cell 2
  have z3 := hz3.cell 3
  have z4 := hz3.cell 4
  have z5 := hz3.cell 5
  have z6 := hz3.cell 6
  have z7 := hz3.cell 7
  have z8 := hz3.cell 8
  have z9 := hz3.cell 9
  simp only [List.getElem?_toArray, List.getElem?_cons_zero, List.getElem?_cons_succ] at z0 z1 z2 z3 z4 z5 z6 z7 z8 z9
  have zz := hz3.frozen
  have zl := hz3.lt
  have hr := blk_set10 (a0 := .int .i64 rr.me) (a1 := .int .i64 rr.kept.view) (a2 := .int .i64 rr.kept.normal) (a3 := .bool rr.kept.calm) (a4 := .slice F0 n5 y0) (a5 := .int .i64 rr.kept.commit) (a6 := .slice F1 rr.have_.length y1) (a7 := .slice F2 rr.wants.length y2) (a8 := .slice F3 rr.gives.length y3) (a9 := .slice F4 rr.given.length y4) hz3
  have hsm := Same.sets10 (Ts := [9, 3, 4, 24, 31]) (B := 0) (a0 := .int .i64 rr.me) (a1 := .int .i64 rr.kept.view) (a2 := .int .i64 rr.kept.normal) (a3 := .bool rr.kept.calm) (a4 := .slice F0 n5 y0) (a5 := .int .i64 rr.kept.commit) (a6 := .slice F1 rr.have_.length y1) (a7 := .slice F2 rr.wants.length y2) (a8 := .slice F3 rr.gives.length y3) (a9 := .slice F4 rr.given.length y4) hz3 (Nat.zero_le _) (by decide)
  have hT := IsRep.same H4.out.1 (hsm.mono (by simp) (Nat.le_refl _))
  have hO := IsRow.same (Ts := [9, 31]) H4.out.2.1 (by simp) (hsm.mono (by simp) (Nat.le_refl _)) (fun _ _ h => h.same (Ts := [9, 31]) (by simp) (hsm.mono (by simp) (Nat.le_refl _)))
  have hL := below_set10 (a0 := .int .i64 rr.me) (a1 := .int .i64 rr.kept.view) (a2 := .int .i64 rr.kept.normal) (a3 := .bool rr.kept.calm) (a4 := .slice F0 n5 y0) (a5 := .int .i64 rr.kept.commit) (a6 := .slice F1 rr.have_.length y1) (a7 := .slice F2 rr.wants.length y2) (a8 := .slice F3 rr.gives.length y3) (a9 := .slice F4 rr.given.length y4) H4.out.2.2.1 (show w.heap.size ≤ w.heap.size + 2 by omega)
  have r0 := hr.cell 0
  have r1 := hr.cell 1
  have r2 := hr.cell 2
  have r3 := hr.cell 3
  have r4 := hr.cell 4
  have r5 := hr.cell 5
  have r6 := hr.cell 6
  have r7 := hr.cell 7
  have r8 := hr.cell 8
  have r9 := hr.cell 9
  simp only [List.getElem?_toArray, List.getElem?_cons_zero, List.getElem?_cons_succ] at r0 r1 r2 r3 r4 r5 r6 r7 r8 r9
  have rz := hr.frozen
  have rl := hr.lt
  have HT := Lib.hid (And.intro hT (And.intro hO hL))
  clear hr hsm hT hO hL hz3
  go_wp2
  refine bodyPost_ret (v := .tuple #[.agg #[.int .i64 rr.me, .int .i64 rr.kept.view, .int .i64 rr.kept.normal, .bool rr.kept.calm, .slice F0 n5 y0, .int .i64 rr.kept.commit, .slice F1 rr.have_.length y1, .slice F2 rr.wants.length y2, .slice F3 rr.gives.length y3, .slice F4 rr.given.length y4], .slice Ao ms.length co, .int .i64 0]) (by simp [results, Try.results6, go_sem, r0, r1, r2, r3, r4, r5, r6, r7, r8, r9]) rfl ?_
  exact ⟨⟨_, _, _, _, _, _, rfl, HT.out.1, HT.out.2.1, H4.out.2.2.2⟩, HT.out.2.2⟩
theorem heardOf_c (lv hv wv gv nv xv : Value) (r : Scu.Replica) (m : Scu.Message) (w : World) (B : Nat) (hr : IsRep w B lv hv wv gv nv r) (hx : IsStrs w B xv m.log) :
    Calls Try.prog 6 #[.agg #[.int .i64 r.me, .int .i64 r.kept.view, .int .i64 r.kept.normal, .bool r.kept.calm, lv, .int .i64 r.kept.commit, hv, wv, gv, nv], .agg #[.int .i64 m.kind, .int .i64 m.from_, .int .i64 m.tq, .int .i64 m.view, .int .i64 m.normal, .int .i64 m.commit, .int .i64 m.n, xv]] w fun e w' => TellN w.heap.size w' (Scu.hear r m).1 (Scu.hear r m).2.1 (Scu.hear r m).2.2 e ∧ Below w.heap.size w w' := by
  by_cases hf : Scu.repFault r = 0
  · by_cases hg : Scu.msgFault m = 0
    · by_cases ht : m.tq = r.me
      · by_cases hv' : m.view < r.kept.view
        · have e : Scu.hear r m = (Scu.replica0, [], 9) := by unfold Scu.hear; rw [if_neg (fun h => h hf), if_neg (fun h => h hg), if_neg (fun h => h ht), if_pos hv']
          rw [e]
          exact heardOf_no lv hv wv gv nv xv r m w B hr hx 9 (by decide) (.inr ⟨hf, .inr ⟨hg, .inr ⟨ht, hv', rfl⟩⟩⟩)
        · have e : Scu.hear r m = ((Scu.hearIt r m).1, (Scu.hearIt r m).2, 0) := by unfold Scu.hear; rw [if_neg (fun h => h hf), if_neg (fun h => h hg), if_neg (fun h => h ht), if_neg hv']
          rw [e]
          exact heardOf_yes lv hv wv gv nv xv r m w B hr hx hf hg ht hv' _ _ rfl
      · have e : Scu.hear r m = (Scu.replica0, [], 6) := by unfold Scu.hear; rw [if_neg (fun h => h hf), if_neg (fun h => h hg), if_pos ht]
        rw [e]
        exact heardOf_no lv hv wv gv nv xv r m w B hr hx 6 (by decide) (.inr ⟨hf, .inr ⟨hg, .inl ⟨ht, rfl⟩⟩⟩)
    · have e : Scu.hear r m = (Scu.replica0, [], Scu.msgFault m) := by unfold Scu.hear; rw [if_neg (fun h => h hf), if_pos hg]
      rw [e]
      exact heardOf_no lv hv wv gv nv xv r m w B hr hx _ hg (.inr ⟨hf, .inl rfl⟩)
  · have e : Scu.hear r m = (Scu.replica0, [], Scu.repFault r) := by unfold Scu.hear; rw [if_pos hf]
    rw [e]
    exact heardOf_no lv hv wv gv nv xv r m w B hr hx _ hf (.inl rfl)
end Go.Proofs.Ytlaibljdlpmbfaa
/- Walk: one and the same messages, compared with themselves. -/
namespace Go.Proofs.Ytlaibljdlpmbfaa
open Go.RowKit
set_option maxHeartbeats 2000000
set_option maxRecDepth 100000

theorem msgs_get {w : World} {B : Nat} {A : Option Addr} {css : List (List Value)} {ms : List Scu.Message} {k : Nat} (hl : css.length = ms.length) (hm : ∀ cs ∈ css, cs.length = 8) (h : Rd w B 31 A css.flatten)
    (h6 : ∀ (j : Nat) (cs : List Value) (x : Scu.Message), css[j]? = some cs → ms[j]? = some x → MsgE w B cs x) (hk : k < ms.length) :
    ∃ g o lv, A = some ⟨g, o, none⟩ ∧ g < w.heap.size ∧ w.cell? ⟨g, o + k * 8, none⟩ = some (.int .i64 ms[k].kind) ∧ w.cell? ⟨g, o + k * 8 + 1, none⟩ = some (.int .i64 ms[k].from_) ∧ w.cell? ⟨g, o + k * 8 + 2, none⟩ = some (.int .i64 ms[k].tq) ∧
      w.cell? ⟨g, o + k * 8 + 3, none⟩ = some (.int .i64 ms[k].view) ∧ w.cell? ⟨g, o + k * 8 + 4, none⟩ = some (.int .i64 ms[k].normal) ∧ w.cell? ⟨g, o + k * 8 + 5, none⟩ = some (.int .i64 ms[k].commit) ∧ w.cell? ⟨g, o + k * 8 + 6, none⟩ = some (.int .i64 ms[k].n) ∧
      w.cell? ⟨g, o + k * 8 + 7, none⟩ = some lv ∧ IsStrs w B lv ms[k].log := by
  obtain ⟨g, o, cs, h1, h2, _, h4, lv, rfl, h5⟩ := row_get hl hm (by omega) h h6 hk
  exact ⟨g, o, lv, h1, h2, h4 0 _ rfl, by rw [Nat.add_assoc]; exact h4 1 _ rfl, by rw [Nat.add_assoc]; exact h4 2 _ rfl, by rw [Nat.add_assoc]; exact h4 3 _ rfl, by rw [Nat.add_assoc]; exact h4 4 _ rfl, by rw [Nat.add_assoc]; exact h4 5 _ rfl, by rw [Nat.add_assoc]; exact h4 6 _ rfl,
    by rw [Nat.add_assoc]; exact h4 7 _ rfl, h5⟩
theorem sameMsgs_t (v u : Value) (ms : List Scu.Message) (w : World) (B B' : Nat) (hv : IsRow 31 8 80 MsgE w B v ms) (hu : IsRow 31 8 80 MsgE w B' u ms) :
    Calls Try.prog 8 #[v, u] w fun e w' => e = .returned (.bool true) ∧ Below w.heap.size w w' := by
  obtain ⟨⟨A, c, css, rfl, _, h1, h2, h3, h4⟩, hl⟩ := hv
  obtain ⟨⟨A', c', css', rfl, _, j1, j2, j3, j4⟩, _⟩ := hu
  have HV := Lib.hid (And.intro h1 (And.intro h2 (And.intro h3 h4)))
  have HU := Lib.hid (And.intro j1 (And.intro j2 (And.intro j3 j4)))
  have hl' : ms.length ≤ 140737488351232 := by
    have e : R47 = 140737488351232 := rfl
    omega
  clear h1 h2 h3 h4 j1 j2 j3 j4 hl
  go_enter Try.func8, Try.ntmps8
  go_wp2_with fail
  go_loopw [5] (fun i wr => ∃ k : Nat, k ≤ ms.length ∧ i = .int .i64 k ∧ Below w.heap.size w wr) (fun i _ => ms.length - (intOf i).toNat)
  case atStart => exact ⟨0, Nat.zero_le _, rfl, Below.refl _ _⟩
  case round =>
    obtain ⟨k, hk, rfl, hb⟩ := hrel
    by_cases hlt : k < ms.length
    · have hlt' : (k : Int) < (ms.length : Int) := by omega
      obtain ⟨g, o, lv, rfl, hg, a0, a1, a2, a3, a4, a5, a6, a7, hs⟩ := msgs_get (k := k) HV.out.1 HV.out.2.1 (HV.out.2.2.1.below hb) (fun j cs x a b => (HV.out.2.2.2 j cs x a b).same (Ts := [9]) (by simp) (Same.below hb)) hlt
      obtain ⟨g', o', lv', rfl, hg', b0, b1, b2, b3, b4, b5, b6, b7, hs'⟩ := msgs_get (k := k) HU.out.1 HU.out.2.1 (HU.out.2.2.1.below hb) (fun j cs x a b => (HU.out.2.2.2 j cs x a b).same (Ts := [9]) (by simp) (Same.below hb)) hlt
      obtain ⟨Al, nl, cl, rfl⟩ := hs.form
      obtain ⟨Am, nm, cm, rfl⟩ := hs'.form
      have HS := Lib.hid (And.intro hs hs')
      have HB := Lib.hid hb
      clear hs hs' hb
      go_wp2_with fail
      refine (sameTexts_c _ _ ms[k].log ms[k].log _ B B' ((HS.out.1.alloc _).alloc _) ((HS.out.2.alloc _).alloc _)).mono ?_; rintro en w2 ⟨rfl, n, rfl⟩
      simp only [decide_true]
      go_wp2
      exact ⟨⟨k + 1, hlt, by go_num, below_drewN ((HB.out.alloc HB.out.size _).alloc (by have := HB.out.size; simp; omega) _) n⟩, by simp only [intOf]; omega⟩
    · have hge : (ms.length : Int) ≤ (k : Int) := by omega
      go_wp2
      go_ret
      exact ⟨rfl, hb⟩
end Go.Proofs.Ytlaibljdlpmbfaa
/- The law ReplicaHears, walked. -/
namespace Go.Proofs.Ytlaibljdlpmbfaa
set_option linter.unusedVariables false
set_option linter.unusedSimpArgs false
open Go.RowKit
set_option maxHeartbeats 4000000
set_option maxRecDepth 100000
theorem IsRep.up {w : World} {B B' : Nat} {lv hv wv gv nv : Value} {r : Scu.Replica} (h : IsRep w B lv hv wv gv nv r) (hB : B ≤ B') : IsRep w B' lv hv wv gv nv r :=
  ⟨h.log.mono hB, h.have_.mono hB, h.wants.mono hB, h.gives.mono hB (fun _ _ ⟨lv, e, h⟩ => ⟨lv, e, h.mono hB⟩), h.given.mono hB⟩
theorem hear_a (lv hv wv gv nv xv : Value) (r : Scu.Replica) (m : Scu.Message) (w : World) (B : Nat) (hr : IsRep w B lv hv wv gv nv r) (hx : IsStrs w B xv m.log) (rr : Scu.Replica) (ms : List Scu.Message) (f : Int) (h : Scu.hear r m = (rr, ms, f)) :
    Calls Try.prog 5 #[.agg #[.int .i64 r.me, .int .i64 r.kept.view, .int .i64 r.kept.normal, .bool r.kept.calm, lv, .int .i64 r.kept.commit, hv, wv, gv, nv], .agg #[.int .i64 m.kind, .int .i64 m.from_, .int .i64 m.tq, .int .i64 m.view, .int .i64 m.normal, .int .i64 m.commit, .int .i64 m.n, xv]] w fun e w' => TellRet w' rr ms f e ∧ Below w.heap.size w w' := by
  have := hear_c lv hv wv gv nv xv r m w B hr hx
  rw [h] at this
  exact this.mono fun e w' ⟨h1, h2⟩ => ⟨h1.ret, h2⟩
theorem heardOf_a (lv hv wv gv nv xv : Value) (r : Scu.Replica) (m : Scu.Message) (w : World) (B : Nat) (hr : IsRep w B lv hv wv gv nv r) (hx : IsStrs w B xv m.log) (rr : Scu.Replica) (ms : List Scu.Message) (f : Int) (h : Scu.hear r m = (rr, ms, f)) :
    Calls Try.prog 6 #[.agg #[.int .i64 r.me, .int .i64 r.kept.view, .int .i64 r.kept.normal, .bool r.kept.calm, lv, .int .i64 r.kept.commit, hv, wv, gv, nv], .agg #[.int .i64 m.kind, .int .i64 m.from_, .int .i64 m.tq, .int .i64 m.view, .int .i64 m.normal, .int .i64 m.commit, .int .i64 m.n, xv]] w fun e w' => TellRet w' rr ms f e ∧ Below w.heap.size w w' := by
  have := heardOf_c lv hv wv gv nv xv r m w B hr hx
  rw [h] at this
  exact this.mono fun e w' ⟨h1, h2⟩ => ⟨h1.ret, h2⟩
theorem lawReplicaHears_c (A0 : Option Addr) (n0 c0 : Nat) (A1 : Option Addr) (c1 : Nat) (A2 : Option Addr) (c2 : Nat) (A3 : Option Addr) (c3 : Nat) (A4 : Option Addr) (c4 : Nat) (r : Scu.Replica) (Ax : Option Addr) (cx : Nat) (m : Scu.Message) (w : World)
    (hr : IsRep w w.heap.size (.slice A0 n0 c0) (.slice A1 r.have_.length c1) (.slice A2 r.wants.length c2) (.slice A3 r.gives.length c3) (.slice A4 r.given.length c4) r) (hx : IsStrs w w.heap.size (.slice Ax m.log.length cx) m.log) :
    Calls Try.prog 3 #[.agg #[.int .i64 r.me, .int .i64 r.kept.view, .int .i64 r.kept.normal, .bool r.kept.calm, .slice A0 n0 c0, .int .i64 r.kept.commit, .slice A1 r.have_.length c1, .slice A2 r.wants.length c2, .slice A3 r.gives.length c3, .slice A4 r.given.length c4], .agg #[.int .i64 m.kind, .int .i64 m.from_, .int .i64 m.tq, .int .i64 m.view, .int .i64 m.normal, .int .i64 m.commit, .int .i64 m.n, .slice Ax m.log.length cx]] w fun e w' => e = .returned (.bool true) ∧ Below w.heap.size w w' := by
  obtain ⟨q, hq⟩ : ∃ q, Scu.hear r m = q := ⟨_, rfl⟩
  obtain ⟨rr, ms, f⟩ := q
  have HQ := Lib.hid hq
  have HR := Lib.hid hr
  have HX := Lib.hid hx
  clear hr hx hq
  go_enter Try.func3, Try.ntmps3
  go_wp2_with fail
  obtain ⟨V0, hV0⟩ : ∃ W, W = (w.alloc (Obj.cells #[.int .i64 r.me, .int .i64 r.kept.view, .int .i64 r.kept.normal, .bool r.kept.calm, .slice A0 n0 c0, .int .i64 r.kept.commit, .slice A1 r.have_.length c1, .slice A2 r.wants.length c2, .slice A3 r.gives.length c3, .slice A4 r.given.length c4] 29)).alloc (Obj.cells #[.int .i64 m.kind, .int .i64 m.from_, .int .i64 m.tq, .int .i64 m.view, .int .i64 m.normal, .int .i64 m.commit, .int .i64 m.n, .slice Ax m.log.length cx] 31) := ⟨_, rfl⟩
  rw [← hV0]
  have hb0 : Blk V0 w.heap.size 29 #[.int .i64 r.me, .int .i64 r.kept.view, .int .i64 r.kept.normal, .bool r.kept.calm, .slice A0 n0 c0, .int .i64 r.kept.commit, .slice A1 r.have_.length c1, .slice A2 r.wants.length c2, .slice A3 r.gives.length c3, .slice A4 r.given.length c4] := by rw [hV0]; exact (Blk.new _ _ _).alloc _
  have hm0 : Blk V0 (w.heap.size + 1) 31 #[.int .i64 m.kind, .int .i64 m.from_, .int .i64 m.tq, .int .i64 m.view, .int .i64 m.normal, .int .i64 m.commit, .int .i64 m.n, .slice Ax m.log.length cx] := by rw [hV0]; exact Blk.new' (by simp)
  have hl0 : Below w.heap.size w V0 := by rw [hV0]; exact (below_alloc _ _).alloc (by simp) _
  clear hV0
  refine (repCopyRef_c A0 n0 c0 A1 c1 A2 c2 A3 r.gives.length c3 A4 c4 r V0 w.heap.size (HR.out.below hl0)).mono ?_; rintro e w1 ⟨⟨lu, hv, wv, gv, nv, rfl, hu, _⟩, h1⟩
  obtain ⟨E0, m0, d0, E1, d1, E2, d2, E3, d3, E4, d4, rfl, rfl, rfl, rfl, rfl⟩ := hu.is.forms
  have H1 := Lib.hid (And.intro hu.is (And.intro (hb0.same h1) (hl0.trans (h1.mono hl0.size))))
  have HM1 := Lib.hid (hm0.same h1)
  clear hb0 hl0 h1 hu hm0
  go_upto_region 2 with fail
  obtain ⟨V1, hV1⟩ : ∃ W, W = w1.alloc (Obj.cells #[.int .i64 r.me, .int .i64 r.kept.view, .int .i64 r.kept.normal, .bool r.kept.calm, .slice E0 m0 d0, .int .i64 r.kept.commit, .slice E1 r.have_.length d1, .slice E2 r.wants.length d2, .slice E3 r.gives.length d3, .slice E4 r.given.length d4] 29) := ⟨_, rfl⟩
  rw [← hV1]
  have hl1 : Below w1.heap.size w1 V1 := by rw [hV1]; exact below_alloc _ _
  have hb1 : Blk V1 w1.heap.size 29 #[.int .i64 r.me, .int .i64 r.kept.view, .int .i64 r.kept.normal, .bool r.kept.calm, .slice E0 m0 d0, .int .i64 r.kept.commit, .slice E1 r.have_.length d1, .slice E2 r.wants.length d2, .slice E3 r.gives.length d3, .slice E4 r.given.length d4] := by rw [hV1]; exact Blk.new _ _ _
  clear hV1
  have s0 := hb1.cell 0
  have s1 := hb1.cell 1
  have s2 := hb1.cell 2
  have s3 := hb1.cell 3
  have s4 := hb1.cell 4
  have s5 := hb1.cell 5
  have s6 := hb1.cell 6
  have s7 := hb1.cell 7
  have s8 := hb1.cell 8
  have s9 := hb1.cell 9
  simp only [List.getElem?_toArray, List.getElem?_cons_zero, List.getElem?_cons_succ] at s0 s1 s2 s3 s4 s5 s6 s7 s8 s9
  have sl := hb1.lt
  have H2 := Lib.hid (And.intro (H1.out.1.below hl1) (And.intro (H1.out.2.1.same hl1) (And.intro (H1.out.2.2.trans (hl1.mono H1.out.2.2.size)) hb1)))
  have hm1 := HM1.out.same hl1
  have HM2 := Lib.hid hm1
  obtain ⟨k0, k1, k2, k3, k4, k5, k6, k7⟩ := cz8 hm1
  have kl := hm1.lt
  clear hb1 hl1 hm1
  go_wp2_with fail
  refine (hear_a _ _ _ _ _ _ r m V1 w.heap.size (H2.out.1.up (Nat.zero_le _)) (HX.out.below H2.out.2.2.1) rr ms f HQ.out).mono ?_; rintro e w2 ⟨⟨lu, hv, wv, gv, nv, ov, rfl, ht, hm⟩, h3⟩
  obtain ⟨F0, p0, q0, F1, q1, F2, q2, F3, q3, F4, q4, rfl, rfl, rfl, rfl, rfl⟩ := ht.forms
  obtain ⟨⟨Am, cm, kss, rfl, hkk⟩, hkl⟩ := id hm
  have H3 := Lib.hid (show IsRep w2 0 (.slice E0 m0 d0) (.slice E1 r.have_.length d1) (.slice E2 r.wants.length d2) (.slice E3 r.gives.length d3) (.slice E4 r.given.length d4) r ∧ Blk w2 w.heap.size 29 #[.int .i64 r.me, .int .i64 r.kept.view, .int .i64 r.kept.normal, .bool r.kept.calm, .slice A0 n0 c0, .int .i64 r.kept.commit, .slice A1 r.have_.length c1, .slice A2 r.wants.length c2, .slice A3 r.gives.length c3, .slice A4 r.given.length c4] ∧ Below w.heap.size w w2 ∧ Blk w2 w1.heap.size 29 #[.int .i64 r.me, .int .i64 r.kept.view, .int .i64 r.kept.normal, .bool r.kept.calm, .slice E0 m0 d0, .int .i64 r.kept.commit, .slice E1 r.have_.length d1, .slice E2 r.wants.length d2, .slice E3 r.gives.length d3, .slice E4 r.given.length d4] ∧ IsRep w2 0 (.slice F0 p0 q0) (.slice F1 rr.have_.length q1) (.slice F2 rr.wants.length q2) (.slice F3 rr.gives.length q3) (.slice F4 rr.given.length q4) rr ∧ IsRow 31 8 80 MsgE w2 0 (.slice Am ms.length cm) ms from
    ⟨H2.out.1.below h3, H2.out.2.1.same h3, H2.out.2.2.1.trans (h3.mono H2.out.2.2.1.size), H2.out.2.2.2.same h3, ht, hm⟩)
  have HM3 := Lib.hid (HM2.out.same h3)
  clear k0 k1 k2 k3 k4 k5 k6 k7 kl ht hm h3 s0 s1 s2 s3 s4 s5 s6 s7 s8 s9 sl hkk hkl
  go_upto_region 3 with fail
  obtain ⟨V2, hV2⟩ : ∃ W, W = w2.alloc (Obj.cells #[.int .i64 rr.me, .int .i64 rr.kept.view, .int .i64 rr.kept.normal, .bool rr.kept.calm, .slice F0 p0 q0, .int .i64 rr.kept.commit, .slice F1 rr.have_.length q1, .slice F2 rr.wants.length q2, .slice F3 rr.gives.length q3, .slice F4 rr.given.length q4] 29) := ⟨_, rfl⟩
  rw [← hV2]
  have hl2 : Below w2.heap.size w2 V2 := by rw [hV2]; exact below_alloc _ _
  have hb2 : Blk V2 w2.heap.size 29 #[.int .i64 rr.me, .int .i64 rr.kept.view, .int .i64 rr.kept.normal, .bool rr.kept.calm, .slice F0 p0 q0, .int .i64 rr.kept.commit, .slice F1 rr.have_.length q1, .slice F2 rr.wants.length q2, .slice F3 rr.gives.length q3, .slice F4 rr.given.length q4] := by rw [hV2]; exact Blk.new _ _ _
  clear hV2
  have H4 := Lib.hid (show IsRep V2 0 (.slice E0 m0 d0) (.slice E1 r.have_.length d1) (.slice E2 r.wants.length d2) (.slice E3 r.gives.length d3) (.slice E4 r.given.length d4) r ∧ Blk V2 w.heap.size 29 #[.int .i64 r.me, .int .i64 r.kept.view, .int .i64 r.kept.normal, .bool r.kept.calm, .slice A0 n0 c0, .int .i64 r.kept.commit, .slice A1 r.have_.length c1, .slice A2 r.wants.length c2, .slice A3 r.gives.length c3, .slice A4 r.given.length c4] ∧ Below w.heap.size w V2 ∧ Blk V2 w1.heap.size 29 #[.int .i64 r.me, .int .i64 r.kept.view, .int .i64 r.kept.normal, .bool r.kept.calm, .slice E0 m0 d0, .int .i64 r.kept.commit, .slice E1 r.have_.length d1, .slice E2 r.wants.length d2, .slice E3 r.gives.length d3, .slice E4 r.given.length d4] ∧ IsRep V2 0 (.slice F0 p0 q0) (.slice F1 rr.have_.length q1) (.slice F2 rr.wants.length q2) (.slice F3 rr.gives.length q3) (.slice F4 rr.given.length q4) rr ∧ IsRow 31 8 80 MsgE V2 0 (.slice Am ms.length cm) ms ∧ Blk V2 w2.heap.size 29 #[.int .i64 rr.me, .int .i64 rr.kept.view, .int .i64 rr.kept.normal, .bool rr.kept.calm, .slice F0 p0 q0, .int .i64 rr.kept.commit, .slice F1 rr.have_.length q1, .slice F2 rr.wants.length q2, .slice F3 rr.gives.length q3, .slice F4 rr.given.length q4] from
    ⟨H3.out.1.below hl2, H3.out.2.1.same hl2, H3.out.2.2.1.trans (hl2.mono H3.out.2.2.1.size), H3.out.2.2.2.1.same hl2, H3.out.2.2.2.2.1.below hl2, H3.out.2.2.2.2.2.same (Ts := [9, 31]) (by simp) (Same.below hl2) (fun _ _ h => h.same (Ts := [9]) (by simp) (Same.below hl2)), hb2⟩)
  have hm2 := HM3.out.same hl2
  obtain ⟨k0, k1, k2, k3, k4, k5, k6, k7⟩ := cz8 hm2
  have kl := hm2.lt
  clear hl2 hb2 hm2
  have ha := H4.out.2.1
  have s0 := ha.cell 0
  have s1 := ha.cell 1
  have s2 := ha.cell 2
  have s3 := ha.cell 3
  have s4 := ha.cell 4
  have s5 := ha.cell 5
  have s6 := ha.cell 6
  have s7 := ha.cell 7
  have s8 := ha.cell 8
  have s9 := ha.cell 9
  simp only [List.getElem?_toArray, List.getElem?_cons_zero, List.getElem?_cons_succ] at s0 s1 s2 s3 s4 s5 s6 s7 s8 s9
  have sl := ha.lt
  clear ha
  go_wp2_with fail
  refine (heardOf_a _ _ _ _ _ _ r m V2 w.heap.size (HR.out.below H4.out.2.2.1) (HX.out.below H4.out.2.2.1) rr ms f HQ.out).mono ?_; rintro e w3 ⟨⟨lu, hv, wv, gv, nv, ov, rfl, ht, hm⟩, h5⟩
  obtain ⟨G0, u0, v0, G1, v1, G2, v2, G3, v3, G4, v4, rfl, rfl, rfl, rfl, rfl⟩ := ht.forms
  obtain ⟨⟨An, cn, kss, rfl, hkk⟩, hkl⟩ := id hm
  clear hkk hkl k0 k1 k2 k3 k4 k5 k6 k7 kl s0 s1 s2 s3 s4 s5 s6 s7 s8 s9 sl
  go_upto_region 4 with fail
  obtain ⟨V3, hV3⟩ : ∃ W, W = w3.alloc (Obj.cells #[.int .i64 rr.me, .int .i64 rr.kept.view, .int .i64 rr.kept.normal, .bool rr.kept.calm, .slice G0 u0 v0, .int .i64 rr.kept.commit, .slice G1 rr.have_.length v1, .slice G2 rr.wants.length v2, .slice G3 rr.gives.length v3, .slice G4 rr.given.length v4] 29) := ⟨_, rfl⟩
  rw [← hV3]
  have hl3 : Below w3.heap.size w3 V3 := by rw [hV3]; exact below_alloc _ _
  have hb3 : Blk V3 w3.heap.size 29 #[.int .i64 rr.me, .int .i64 rr.kept.view, .int .i64 rr.kept.normal, .bool rr.kept.calm, .slice G0 u0 v0, .int .i64 rr.kept.commit, .slice G1 rr.have_.length v1, .slice G2 rr.wants.length v2, .slice G3 rr.gives.length v3, .slice G4 rr.given.length v4] := by rw [hV3]; exact Blk.new _ _ _
  clear hV3
  have h6 := h5.trans (hl3.mono h5.size)
  have hS : Same [9, 3, 4, 24, 31] 0 V2 V3 := Same.below h6
  have H5 := Lib.hid (show IsRep V3 0 (.slice E0 m0 d0) (.slice E1 r.have_.length d1) (.slice E2 r.wants.length d2) (.slice E3 r.gives.length d3) (.slice E4 r.given.length d4) r ∧ Blk V3 w.heap.size 29 #[.int .i64 r.me, .int .i64 r.kept.view, .int .i64 r.kept.normal, .bool r.kept.calm, .slice A0 n0 c0, .int .i64 r.kept.commit, .slice A1 r.have_.length c1, .slice A2 r.wants.length c2, .slice A3 r.gives.length c3, .slice A4 r.given.length c4] ∧ Below w.heap.size w V3 ∧ Blk V3 w1.heap.size 29 #[.int .i64 r.me, .int .i64 r.kept.view, .int .i64 r.kept.normal, .bool r.kept.calm, .slice E0 m0 d0, .int .i64 r.kept.commit, .slice E1 r.have_.length d1, .slice E2 r.wants.length d2, .slice E3 r.gives.length d3, .slice E4 r.given.length d4] ∧ IsRep V3 0 (.slice F0 p0 q0) (.slice F1 rr.have_.length q1) (.slice F2 rr.wants.length q2) (.slice F3 rr.gives.length q3) (.slice F4 rr.given.length q4) rr ∧ IsRow 31 8 80 MsgE V3 0 (.slice Am ms.length cm) ms ∧ Blk V3 w2.heap.size 29 #[.int .i64 rr.me, .int .i64 rr.kept.view, .int .i64 rr.kept.normal, .bool rr.kept.calm, .slice F0 p0 q0, .int .i64 rr.kept.commit, .slice F1 rr.have_.length q1, .slice F2 rr.wants.length q2, .slice F3 rr.gives.length q3, .slice F4 rr.given.length q4] ∧ Blk V3 w3.heap.size 29 #[.int .i64 rr.me, .int .i64 rr.kept.view, .int .i64 rr.kept.normal, .bool rr.kept.calm, .slice G0 u0 v0, .int .i64 rr.kept.commit, .slice G1 rr.have_.length v1, .slice G2 rr.wants.length v2, .slice G3 rr.gives.length v3, .slice G4 rr.given.length v4] ∧ IsRep V3 0 (.slice G0 u0 v0) (.slice G1 rr.have_.length v1) (.slice G2 rr.wants.length v2) (.slice G3 rr.gives.length v3) (.slice G4 rr.given.length v4) rr ∧ IsRow 31 8 80 MsgE V3 0 (.slice An ms.length cn) ms from
    ⟨H4.out.1.below h6, H4.out.2.1.same h6, H4.out.2.2.1.trans (h6.mono H4.out.2.2.1.size), H4.out.2.2.2.1.same h6, H4.out.2.2.2.2.1.below h6, H4.out.2.2.2.2.2.1.same (Ts := [9, 31]) (by simp) (Same.below h6) (fun _ _ h => h.same (Ts := [9]) (by simp) (Same.below h6)), H4.out.2.2.2.2.2.2.same h6, hb3, ht.below hl3, hm.same (Ts := [9, 31]) (by simp) (Same.below hl3) (fun _ _ h => h.same (Ts := [9]) (by simp) (Same.below hl3))⟩)
  clear h5 h6 hS hl3 hb3 ht hm
  have hF := H5.out.2.2.2.2.2.2.1
  have hG := H5.out.2.2.2.2.2.2.2.1
  have s0 := hF.cell 0
  have s1 := hF.cell 1
  have s2 := hF.cell 2
  have s3 := hF.cell 3
  have s4 := hF.cell 4
  have s5 := hF.cell 5
  have s6 := hF.cell 6
  have s7 := hF.cell 7
  have s8 := hF.cell 8
  have s9 := hF.cell 9
  simp only [List.getElem?_toArray, List.getElem?_cons_zero, List.getElem?_cons_succ] at s0 s1 s2 s3 s4 s5 s6 s7 s8 s9
  have sl := hF.lt
  have t0 := hG.cell 0
  have t1 := hG.cell 1
  have t2 := hG.cell 2
  have t3 := hG.cell 3
  have t4 := hG.cell 4
  have t5 := hG.cell 5
  have t6 := hG.cell 6
  have t7 := hG.cell 7
  have t8 := hG.cell 8
  have t9 := hG.cell 9
  simp only [List.getElem?_toArray, List.getElem?_cons_zero, List.getElem?_cons_succ] at t0 t1 t2 t3 t4 t5 t6 t7 t8 t9
  have tl := hG.lt
  clear hF hG
  go_wp2_with fail
  refine (sameRep_t F0 p0 q0 F1 q1 F2 q2 F3 q3 F4 q4 G0 u0 v0 G1 v1 G2 v2 G3 v3 G4 v4 rr V3 0 0 H5.out.2.2.2.2.1 H5.out.2.2.2.2.2.2.2.2.1).mono ?_; rintro e w4 ⟨rfl, h7⟩
  have H6 := Lib.hid h7
  clear h7 s0 s1 s2 s3 s4 s5 s6 s7 s8 s9 sl t0 t1 t2 t3 t4 t5 t6 t7 t8 t9 tl
  go_wp2_with fail
  refine (sameMsgs_t (.slice Am ms.length cm) (.slice An ms.length cn) ms w4 0 0 (H5.out.2.2.2.2.2.1.same (Ts := [9, 31]) (by simp) (Same.below H6.out) (fun _ _ h => h.same (Ts := [9]) (by simp) (Same.below H6.out))) (H5.out.2.2.2.2.2.2.2.2.2.same (Ts := [9, 31]) (by simp) (Same.below H6.out) (fun _ _ h => h.same (Ts := [9]) (by simp) (Same.below H6.out)))).mono ?_; rintro e w5 ⟨rfl, h8⟩
  have h9 := H6.out.trans (h8.mono H6.out.size)
  have hA := H5.out.2.1.same h9
  have hE := H5.out.2.2.2.1.same h9
  have H7 := Lib.hid (And.intro (H5.out.1.below h9) (And.intro (HR.out.below (H5.out.2.2.1.trans (h9.mono H5.out.2.2.1.size))) (H5.out.2.2.1.trans (h9.mono H5.out.2.2.1.size))))
  have s0 := hA.cell 0
  have s1 := hA.cell 1
  have s2 := hA.cell 2
  have s3 := hA.cell 3
  have s4 := hA.cell 4
  have s5 := hA.cell 5
  have s6 := hA.cell 6
  have s7 := hA.cell 7
  have s8 := hA.cell 8
  have s9 := hA.cell 9
  simp only [List.getElem?_toArray, List.getElem?_cons_zero, List.getElem?_cons_succ] at s0 s1 s2 s3 s4 s5 s6 s7 s8 s9
  have sl := hA.lt
  have t0 := hE.cell 0
  have t1 := hE.cell 1
  have t2 := hE.cell 2
  have t3 := hE.cell 3
  have t4 := hE.cell 4
  have t5 := hE.cell 5
  have t6 := hE.cell 6
  have t7 := hE.cell 7
  have t8 := hE.cell 8
  have t9 := hE.cell 9
  simp only [List.getElem?_toArray, List.getElem?_cons_zero, List.getElem?_cons_succ] at t0 t1 t2 t3 t4 t5 t6 t7 t8 t9
  have tl := hE.lt
  clear hA hE h8 h9
  go_wp2_with fail
  refine (sameRep_t E0 m0 d0 E1 d1 E2 d2 E3 d3 E4 d4 A0 n0 c0 A1 c1 A2 c2 A3 c3 A4 c4 r w5 0 w.heap.size H7.out.1 H7.out.2.1).mono ?_; rintro e w6 ⟨rfl, h10⟩
  have H8 := Lib.hid (H7.out.2.2.trans (h10.mono H7.out.2.2.size))
  clear h10
  go_wp2
  go_ret
  exact ⟨by simp, H8.out⟩
theorem lawReplicaHears_w (v : Value) (r : Scu.Replica) {w : World} (h : IsRepV w v r) (u : Value) (m : Scu.Message) (hm : IsMsgV w u m) (W : World) (hW : W = w) :
    Calls Try.prog 3 #[v, u] W fun e w' => e = .returned (.bool true) ∧ Below W.heap.size W w' := by
  subst hW
  obtain ⟨lv, hv, wv, gv, nv, rfl, hr⟩ := h
  obtain ⟨A0, n0, c0, A1, c1, A2, c2, A3, c3, A4, c4, rfl, rfl, rfl, rfl, rfl⟩ := hr.forms
  obtain ⟨xv, rfl, hx⟩ := hm
  obtain ⟨Ax, cx, rfl, _, _⟩ := hx.ex
  exact lawReplicaHears_c A0 n0 c0 A1 c1 A2 c2 A3 c3 A4 c4 r Ax cx m W hr hx
end Go.Proofs.Ytlaibljdlpmbfaa
namespace Go.Proofs.Ytlaibljdlpmbfaa.replicaHearsDone
open Go.ChangeShapes Go.WideShapes Go.ChangeAt Go.RowKit
open Go.ChangeMaps (open_string shut_string)
set_option linter.unusedVariables false
theorem own : ownKnob Try.prog.godebug = none := by kernel_rfl
theorem laidOut : laidOutB Try.prog = true := by kernel_rfl
set_option maxRecDepth 100000 in
theorem lifted (os : Os) (started : os.Started) (H : Type) (enc : TypeId × Value → H) :
    ReturnsInHanded {} Try.checked os 3 .any (Rows.replicaHearsSpec.pre6 enc Try.prog Try.f3 Rows.replicaHearsRow.domain false) (Rows.replicaHearsSpec.post enc Try.prog Try.f3 false true false false) := by
  refine returnsInHanded_of_change_sized (C := Try.checked) own started (by kernel_rfl) Try.func3
    (ChangeSpec.witness6 (enc := enc) (C := Try.checked) false ⟨#[], #[.agg #[.int .i64 0, .int .i64 0, .int .i64 0, .bool false, .slice none 0 0, .int .i64 0, .slice none 0 0, .slice none 0 0, .slice none 0 0, .slice none 0 0], .agg #[.int .i64 0, .int .i64 0, .int .i64 0, .int .i64 0, .int .i64 0, .int .i64 0, .int .i64 0, .slice none 0 0]], []⟩ 8 (by kernel_rfl) (by kernel_rfl) (by kernel_rfl) (by kernel_rfl)) ?_
  intro W base args ds gs before hval0 hW hcnd hsz _
  have hwt0 : ∀ (j : Nat) (t : TypeId) (d : DataW H), (Try.f3.params.toList ++ Rows.replicaHearsSpec.plain.varTypes Try.prog)[j]? = some t → (ds ++ gs)[j]? = some d → ∀ k ∈ d.weights Try.prog t, k ≤ reachBytes := fun j t d ht hd k hk => by
    have := List.all_eq_true.1 hsz k (DataW.weights_mem_each ht hd k hk)
    simpa using this
  clear hsz
  have hwt := hwt0
  rw [Try.params3] at hwt
  have hval : ∀ (j : Nat) t v, Try.f3.params[j]? = some t → args[j]? = some v → Value.okWide Try.prog W .any base t v := hval0
  have hW' := hW
  obtain ⟨p, q, hA0, hV, rfl, hfz, hnd⟩ := hW
  have hA : DataW.TrodAll enc Try.prog W 0 (fun _ => true) true Try.f3.params.toList args.toList ds p := hA0
  rw [Try.params3] at hA hval
  obtain ⟨v0, vs0, d0, ds0, p0, q0, hargs, rfl, rfl, h0, r0⟩ := trodAll_cons hA
  obtain ⟨v1, vs1, d1, ds1, p1, q1, rfl, rfl, rfl, h1, r1⟩ := trodAll_cons r0
  obtain ⟨rfl, rfl, rfl⟩ := trodAll_nil r1
  obtain rfl : args = #[v0, v1] := by cases args; simp_all
  obtain ⟨rfl, rfl⟩ := trodVars_none hV
  have k0 := h0
  have lt0 : ∀ x ∈ p0, x.block < W.heap.size := by obtain ⟨m, hm⟩ := k0; exact DataW.trod_lt m _ _ _ hm
  obtain ⟨a0, w0⟩ := openS_Replica (hval 0 29 v0 rfl rfl) h0 (hwt 0 29 d0 rfl rfl)
  have k1 := h1
  have lt1 : ∀ x ∈ p1, x.block < W.heap.size := by obtain ⟨m, hm⟩ := k1; exact DataW.trod_lt m _ _ _ hm
  obtain ⟨a1, w1⟩ := openS_Message (hval 1 31 v1 rfl rfl) h1 (hwt 1 31 d1 rfl rfl)
  clear hA0 hval0
  refine (lawReplicaHears_w v0 a0 w0 v1 a1 w1 W rfl).mono fun e W' ⟨he, bel⟩ => ?_
  subst he
  exact ⟨_, rfl, _, _, _, [], _, [], hW', trodAll_mk1 (shut_bool Try.underlying4 _), (trodAll_cons_mk (Below.trod laidOut (by kernel_rfl) (of_decide_eq_true (by kernel_rfl)) k0 bel lt0) (trodAll_cons_mk (Below.trod laidOut (by kernel_rfl) (of_decide_eq_true (by kernel_rfl)) k1 bel lt1) trodAll_mk0)), rfl, bel.frame _, fun h => by cases h⟩
theorem over : Rows.replicaHearsRow.holds Try.pinned (OpenSpec.ofChange Rows.replicaHearsSpec) :=
  OpenClaim.holds_of_wide 3 Try.f3 rfl rfl rfl rfl rfl rfl rfl ⟨rfl, rfl, rfl, rfl, rfl⟩ rfl rfl rfl rfl rfl (by kernel_rfl) Try.func3 (facts_of rfl rfl rfl rfl rfl rfl (by as_aux_lemma => kernel_rfl) (by as_aux_lemma => kernel_rfl) (by as_aux_lemma => kernel_rfl) (by as_aux_lemma => kernel_rfl) (by as_aux_lemma => kernel_rfl) (by as_aux_lemma => kernel_rfl) (by as_aux_lemma => kernel_rfl))
    (of_decide_eq_true (by kernel_rfl)) (by unfold Func.isWrapper; first | (rw [if_pos (by decide +kernel)]; kernel_rfl) | (rw [if_neg (by decide +kernel)]; exact ⟨rfl, rfl⟩))
    (fun os started H enc _ => lifted os started H enc)
theorem proved : Rows.ReplicaHearsSaid := over
end Go.Proofs.Ytlaibljdlpmbfaa.replicaHearsDone

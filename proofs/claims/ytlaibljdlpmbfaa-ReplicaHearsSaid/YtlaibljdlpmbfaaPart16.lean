/- Part 16: words and walks under the law 'ReplicaHears'. -/
import Derived.Test.YtlaibljdlpmbfaaPart8
import Derived.Test.YtlaibljdlpmbfaaPart14
import Derived.Test.YtlaibljdlpmbfaaPart15
import Derived.Test.YtlaibljdlpmbfaaPart12
import Derived.Test.YtlaibljdlpmbfaaPart5
set_option linter.unusedVariables false
set_option linter.unusedSimpArgs false
/- Walks: replica.Hear. -/
namespace Go.Proofs.Ytlaibljdlpmbfaa
set_option linter.unusedVariables false
set_option linter.unusedSimpArgs false
open Go.RowKit
set_option maxHeartbeats 4000000
set_option maxRecDepth 100000

theorem msgCheck_a (lv : Value) (m : Scu.Message) (w : World) (B : Nat) (hv : IsStrs w B lv m.log) (f : Int) (h : Scu.msgFault m = f) :
    Calls Try.prog 11 #[.agg #[.int .i64 m.kind, .int .i64 m.from_, .int .i64 m.tq, .int .i64 m.view, .int .i64 m.normal, .int .i64 m.commit, .int .i64 m.n, lv]] w fun e w' => e = .returned (.int .i64 f) ∧ Below w.heap.size w w' := by
  have := msgCheck_x lv m.kind m.from_ m.tq m.view m.normal m.commit m.n m.log w B hv
  rw [show (⟨m.kind, m.from_, m.tq, m.view, m.normal, m.commit, m.n, m.log⟩ : Scu.Message) = m from rfl, h] at this
  exact this
theorem LowStrs.up {w : World} {base base' : Nat} {v : Value} {xs : List Scu.Str} (h : LowStrs w base v xs) (hb : base ≤ base') : LowStrs w base' v xs := by
  obtain ⟨⟨A, c, rfl, hc, hr⟩, h2, h3⟩ := h
  refine ⟨⟨A, c, rfl, hc, ?_⟩, h2, h3⟩
  rcases hr with h | ⟨g, o, h1, h2, h4⟩
  · exact .inl h
  · exact .inr ⟨g, o, h1, by omega, h4⟩
/-- What a heard message asks for, in the memory of its reading. -/
theorem below_three (w : World) (a b c : Obj) : Below w.heap.size w (((w.alloc a).alloc b).alloc c) := ((below_alloc w a).alloc (by simp) b).alloc (by simp; omega) c
theorem hear_1 (lv hv wv gv nv xv : Value) (r : Scu.Replica) (m : Scu.Message) (w : World) (B : Nat) (hr : IsRep w B lv hv wv gv nv r) (hx : IsStrs w B xv m.log) (f : Int) (hf : Scu.repFault r = f) (hn : f ≠ 0) :
    Calls Try.prog 5 #[.agg #[.int .i64 r.me, .int .i64 r.kept.view, .int .i64 r.kept.normal, .bool r.kept.calm, lv, .int .i64 r.kept.commit, hv, wv, gv, nv], .agg #[.int .i64 m.kind, .int .i64 m.from_, .int .i64 m.tq, .int .i64 m.view, .int .i64 m.normal, .int .i64 m.commit, .int .i64 m.n, xv]] w fun e w' => TellN w.heap.size w' Scu.replica0 [] f e ∧ Below w.heap.size w w' := by
  have hfb : (f != 0) = true := by simpa using hn
  have HN := Lib.hid hn
  clear hn
  have HV := Lib.hid hr
  have HX := Lib.hid hx
  have HF := Lib.hid hf
  obtain ⟨A0, n0, c0, A1, c1, A2, c2, A3, c3, A4, c4, rfl, rfl, rfl, rfl, rfl⟩ := hr.forms
  obtain ⟨A, c, rfl, _, _⟩ := hx.ex
  clear hr hf hx
  go_enter Try.func5, Try.ntmps5
  go_wp2_with fail
  have h0 : Below w.heap.size w (((w.alloc (Obj.cells #[.int .i64 r.me, .int .i64 r.kept.view, .int .i64 r.kept.normal, .bool r.kept.calm, .slice A0 n0 c0, .int .i64 r.kept.commit, .slice A1 r.have_.length c1, .slice A2 r.wants.length c2, .slice A3 r.gives.length c3, .slice A4 r.given.length c4] 29)).alloc (Obj.cells #[.int .i64 m.kind, .int .i64 m.from_, .int .i64 m.tq, .int .i64 m.view, .int .i64 m.normal, .int .i64 m.commit, .int .i64 m.n, .slice A m.log.length c] 31)).alloc (Obj.cells #[.int .i64 0, .int .i64 0, .int .i64 0, .bool false, .slice none 0 0, .int .i64 0, .slice none 0 0, .slice none 0 0, .slice none 0 0, .slice none 0 0] 29)) := below_three w _ _ _
  refine (begin_1 _ _ _ _ _ r _ B (HV.out.below h0) f HF.out HN.out).mono ?_; rintro en w1 ⟨rfl, h1⟩
  have hz : Blk w1 (w.heap.size + 2) 29 #[.int .i64 0, .int .i64 0, .int .i64 0, .bool false, .slice none 0 0, .int .i64 0, .slice none 0 0, .slice none 0 0, .slice none 0 0, .slice none 0 0] := (Blk.new' (by simp)).same h1
  have hb := h0.trans (h1.mono h0.size)
  have z0 := hz.cell 0
  have z1 := hz.cell 1
  have z2 := hz.cell 2
  have z3 := hz.cell 3
  have z4 := hz.cell 4
  have z5 := hz.cell 5
  have z6 := hz.cell 6
  have z7 := hz.cell 7
  have z8 := hz.cell 8
  have z9 := hz.cell 9
  simp only [List.getElem?_toArray, List.getElem?_cons_zero, List.getElem?_cons_succ] at z0 z1 z2 z3 z4 z5 z6 z7 z8 z9
  have zz := hz.frozen
  have zl := hz.lt
  have hr := blk_set10 (a0 := .int .i64 0) (a1 := .int .i64 0) (a2 := .int .i64 0) (a3 := .bool false) (a4 := .slice none 0 0) (a5 := .int .i64 0) (a6 := .slice none 0 0) (a7 := .slice none 0 0) (a8 := .slice none 0 0) (a9 := .slice none 0 0) hz
  have r0 := hr.cell 0
  have r1 := hr.cell 1
  have r2 := hr.cell 2
  have r3 := hr.cell 3
  have r4 := hr.cell 4
  have r5 := hr.cell 5
  have r6 := hr.cell 6
  have r7 := hr.cell 7
  have r8 := hr.cell 8
  have r9 := hr.cell 9
  simp only [List.getElem?_toArray, List.getElem?_cons_zero, List.getElem?_cons_succ] at r0 r1 r2 r3 r4 r5 r6 r7 r8 r9
  have rz := hr.frozen
  have rl := hr.lt
  clear h1 h0
  go_wp2
  refine bodyPost_ret (v := .tuple #[.agg #[.int .i64 0, .int .i64 0, .int .i64 0, .bool false, .slice none 0 0, .int .i64 0, .slice none 0 0, .slice none 0 0, .slice none 0 0, .slice none 0 0], .slice none 0 0, .int .i64 f]) (by simp [results, Try.results5, go_sem, r0, r1, r2, r3, r4, r5, r6, r7, r8, r9]) rfl ?_
  exact ⟨tell_zeroN _ _ _, below_set10 hb (by omega)⟩
/- begun, and the message looked at -/
theorem hear_2 (lv hv wv gv nv xv : Value) (r : Scu.Replica) (m : Scu.Message) (w : World) (B : Nat) (hr : IsRep w B lv hv wv gv nv r) (hx : IsStrs w B xv m.log) (hf : Scu.repFault r = 0) (f : Int) (hg : Scu.msgFault m = f) (hn : f ≠ 0) :
    Calls Try.prog 5 #[.agg #[.int .i64 r.me, .int .i64 r.kept.view, .int .i64 r.kept.normal, .bool r.kept.calm, lv, .int .i64 r.kept.commit, hv, wv, gv, nv], .agg #[.int .i64 m.kind, .int .i64 m.from_, .int .i64 m.tq, .int .i64 m.view, .int .i64 m.normal, .int .i64 m.commit, .int .i64 m.n, xv]] w fun e w' => TellN w.heap.size w' Scu.replica0 [] f e ∧ Below w.heap.size w w' := by
  have hfb : (f != 0) = true := by simpa using hn
  have HG := Lib.hid hg
  clear hn hg
  have hvw := rep_view hf
  have HV := Lib.hid hr
  have HX := Lib.hid hx
  have HF := Lib.hid hf
  obtain ⟨A0, n0, c0, A1, c1, A2, c2, A3, c3, A4, c4, rfl, rfl, rfl, rfl, rfl⟩ := hr.forms
  obtain ⟨A, c, rfl, _, _⟩ := hx.ex
  clear hr hf hx
  go_enter Try.func5, Try.ntmps5
  go_wp2_with fail
  have h0 : Below w.heap.size w (((w.alloc (Obj.cells #[.int .i64 r.me, .int .i64 r.kept.view, .int .i64 r.kept.normal, .bool r.kept.calm, .slice A0 n0 c0, .int .i64 r.kept.commit, .slice A1 r.have_.length c1, .slice A2 r.wants.length c2, .slice A3 r.gives.length c3, .slice A4 r.given.length c4] 29)).alloc (Obj.cells #[.int .i64 m.kind, .int .i64 m.from_, .int .i64 m.tq, .int .i64 m.view, .int .i64 m.normal, .int .i64 m.commit, .int .i64 m.n, .slice A m.log.length c] 31)).alloc (Obj.cells #[.int .i64 0, .int .i64 0, .int .i64 0, .bool false, .slice none 0 0, .int .i64 0, .slice none 0 0, .slice none 0 0, .slice none 0 0, .slice none 0 0] 29)) := below_three w _ _ _
  refine (begin_2 _ _ _ _ _ r _ B (HV.out.below h0) HF.out).mono ?_; rintro en w1 ⟨⟨gw, gr, lu, hu, wu, gu, nu, rfl, hW, _⟩, h1⟩
  have e2 : (((w.alloc (Obj.cells #[.int .i64 r.me, .int .i64 r.kept.view, .int .i64 r.kept.normal, .bool r.kept.calm, .slice A0 n0 c0, .int .i64 r.kept.commit, .slice A1 r.have_.length c1, .slice A2 r.wants.length c2, .slice A3 r.gives.length c3, .slice A4 r.given.length c4] 29)).alloc (Obj.cells #[.int .i64 m.kind, .int .i64 m.from_, .int .i64 m.tq, .int .i64 m.view, .int .i64 m.normal, .int .i64 m.commit, .int .i64 m.n, .slice A m.log.length c] 31)).alloc (Obj.cells #[.int .i64 0, .int .i64 0, .int .i64 0, .bool false, .slice none 0 0, .int .i64 0, .slice none 0 0, .slice none 0 0, .slice none 0 0, .slice none 0 0] 29)).heap.size = w.heap.size + 3 := by simp
  rw [e2] at hW
  have hs : Blk w1 w.heap.size 29 #[.int .i64 r.me, .int .i64 r.kept.view, .int .i64 r.kept.normal, .bool r.kept.calm, .slice A0 n0 c0, .int .i64 r.kept.commit, .slice A1 r.have_.length c1, .slice A2 r.wants.length c2, .slice A3 r.gives.length c3, .slice A4 r.given.length c4] := (((Blk.new w _ _).alloc _).alloc _).same h1
  have hk : Blk w1 (w.heap.size + 1) 31 #[.int .i64 m.kind, .int .i64 m.from_, .int .i64 m.tq, .int .i64 m.view, .int .i64 m.normal, .int .i64 m.commit, .int .i64 m.n, .slice A m.log.length c] := ((Blk.new' (by simp)).alloc _).same h1
  have hz : Blk w1 (w.heap.size + 2) 29 #[.int .i64 0, .int .i64 0, .int .i64 0, .bool false, .slice none 0 0, .int .i64 0, .slice none 0 0, .slice none 0 0, .slice none 0 0, .slice none 0 0] := (Blk.new' (by simp)).same h1
  have hb := h0.trans (h1.mono h0.size)
  have hsz : w.heap.size + 3 ≤ w1.heap.size := by have := h1.size; rw [e2] at this; exact this
  have H1 := Lib.hid (And.intro hW (And.intro hs (And.intro hk (And.intro hz (And.intro hb hsz)))))
  have k0 := hk.cell 0
  have k1 := hk.cell 1
  have k2 := hk.cell 2
  have k3 := hk.cell 3
  have k4 := hk.cell 4
  have k5 := hk.cell 5
  have k6 := hk.cell 6
  have k7 := hk.cell 7
  simp only [List.getElem?_toArray, List.getElem?_cons_zero, List.getElem?_cons_succ] at k0 k1 k2 k3 k4 k5 k6 k7
  have kl := hk.lt
  clear h1 h0 hs hz hb hW e2 hsz HF hk
  go_wp2_with fail
  refine (msgCheck_a _ m w1 B (HX.out.below H1.out.2.2.2.2.1) f HG.out).mono ?_; rintro en w2 ⟨rfl, h2⟩
  have H2 := Lib.hid (show Work w2 (w.heap.size + 3) gw gr r lu hu wu gu nu (.slice none 0 0) [] [] ∧ Blk w2 w.heap.size 29 #[.int .i64 r.me, .int .i64 r.kept.view, .int .i64 r.kept.normal, .bool r.kept.calm, .slice A0 n0 c0, .int .i64 r.kept.commit, .slice A1 r.have_.length c1, .slice A2 r.wants.length c2, .slice A3 r.gives.length c3, .slice A4 r.given.length c4] ∧ Blk w2 (w.heap.size + 1) 31 #[.int .i64 m.kind, .int .i64 m.from_, .int .i64 m.tq, .int .i64 m.view, .int .i64 m.normal, .int .i64 m.commit, .int .i64 m.n, .slice A m.log.length c] ∧ Blk w2 (w.heap.size + 2) 29 #[.int .i64 0, .int .i64 0, .int .i64 0, .bool false, .slice none 0 0, .int .i64 0, .slice none 0 0, .slice none 0 0, .slice none 0 0, .slice none 0 0] ∧ Below w.heap.size w w2 ∧ w.heap.size + 3 ≤ w2.heap.size from
    ⟨H1.out.1.below h2, H1.out.2.1.same h2, H1.out.2.2.1.same h2, H1.out.2.2.2.1.same h2, H1.out.2.2.2.2.1.trans (h2.mono H1.out.2.2.2.2.1.size), Nat.le_trans H1.out.2.2.2.2.2 h2.size⟩)
  clear h2 k0 k1 k2 k3 k4 k5 k6 k7 kl
  have hz := H2.out.2.2.2.1
  have z0 := hz.cell 0
  have z1 := hz.cell 1
  have z2 := hz.cell 2
  have z3 := hz.cell 3
  have z4 := hz.cell 4
  have z5 := hz.cell 5
  have z6 := hz.cell 6
  have z7 := hz.cell 7
  have z8 := hz.cell 8
  have z9 := hz.cell 9
  simp only [List.getElem?_toArray, List.getElem?_cons_zero, List.getElem?_cons_succ] at z0 z1 z2 z3 z4 z5 z6 z7 z8 z9
  have zz := hz.frozen
  have zl := hz.lt
  have hr := blk_set10 (a0 := .int .i64 0) (a1 := .int .i64 0) (a2 := .int .i64 0) (a3 := .bool false) (a4 := .slice none 0 0) (a5 := .int .i64 0) (a6 := .slice none 0 0) (a7 := .slice none 0 0) (a8 := .slice none 0 0) (a9 := .slice none 0 0) hz
  have r0 := hr.cell 0
  have r1 := hr.cell 1
  have r2 := hr.cell 2
  have r3 := hr.cell 3
  have r4 := hr.cell 4
  have r5 := hr.cell 5
  have r6 := hr.cell 6
  have r7 := hr.cell 7
  have r8 := hr.cell 8
  have r9 := hr.cell 9
  simp only [List.getElem?_toArray, List.getElem?_cons_zero, List.getElem?_cons_succ] at r0 r1 r2 r3 r4 r5 r6 r7 r8 r9
  have rz := hr.frozen
  have rl := hr.lt
  go_wp2
  refine bodyPost_ret (v := .tuple #[.agg #[.int .i64 0, .int .i64 0, .int .i64 0, .bool false, .slice none 0 0, .int .i64 0, .slice none 0 0, .slice none 0 0, .slice none 0 0, .slice none 0 0], .slice none 0 0, .int .i64 f]) (by simp [results, Try.results5, go_sem, r0, r1, r2, r3, r4, r5, r6, r7, r8, r9]) rfl ?_
  exact ⟨tell_zeroN _ _ _, below_set10 H2.out.2.2.2.2.1 (by omega)⟩
theorem hear_3 (lv hv wv gv nv xv : Value) (r : Scu.Replica) (m : Scu.Message) (w : World) (B : Nat) (hr : IsRep w B lv hv wv gv nv r) (hx : IsStrs w B xv m.log) (hf : Scu.repFault r = 0) (hg : Scu.msgFault m = 0) (ht : m.tq ≠ r.me) :
    Calls Try.prog 5 #[.agg #[.int .i64 r.me, .int .i64 r.kept.view, .int .i64 r.kept.normal, .bool r.kept.calm, lv, .int .i64 r.kept.commit, hv, wv, gv, nv], .agg #[.int .i64 m.kind, .int .i64 m.from_, .int .i64 m.tq, .int .i64 m.view, .int .i64 m.normal, .int .i64 m.commit, .int .i64 m.n, xv]] w fun e w' => TellN w.heap.size w' Scu.replica0 [] 6 e ∧ Below w.heap.size w w' := by
  have htb : (m.tq != r.me) = true := by simpa using ht
  have HG := Lib.hid hg
  clear ht hg
  have hvw := rep_view hf
  have HV := Lib.hid hr
  have HX := Lib.hid hx
  have HF := Lib.hid hf
  obtain ⟨A0, n0, c0, A1, c1, A2, c2, A3, c3, A4, c4, rfl, rfl, rfl, rfl, rfl⟩ := hr.forms
  obtain ⟨A, c, rfl, _, _⟩ := hx.ex
  clear hr hf hx
  go_enter Try.func5, Try.ntmps5
  go_wp2_with fail
  have h0 : Below w.heap.size w (((w.alloc (Obj.cells #[.int .i64 r.me, .int .i64 r.kept.view, .int .i64 r.kept.normal, .bool r.kept.calm, .slice A0 n0 c0, .int .i64 r.kept.commit, .slice A1 r.have_.length c1, .slice A2 r.wants.length c2, .slice A3 r.gives.length c3, .slice A4 r.given.length c4] 29)).alloc (Obj.cells #[.int .i64 m.kind, .int .i64 m.from_, .int .i64 m.tq, .int .i64 m.view, .int .i64 m.normal, .int .i64 m.commit, .int .i64 m.n, .slice A m.log.length c] 31)).alloc (Obj.cells #[.int .i64 0, .int .i64 0, .int .i64 0, .bool false, .slice none 0 0, .int .i64 0, .slice none 0 0, .slice none 0 0, .slice none 0 0, .slice none 0 0] 29)) := below_three w _ _ _
  refine (begin_2 _ _ _ _ _ r _ B (HV.out.below h0) HF.out).mono ?_; rintro en w1 ⟨⟨gw, gr, lu, hu, wu, gu, nu, rfl, hW, _⟩, h1⟩
  have e2 : (((w.alloc (Obj.cells #[.int .i64 r.me, .int .i64 r.kept.view, .int .i64 r.kept.normal, .bool r.kept.calm, .slice A0 n0 c0, .int .i64 r.kept.commit, .slice A1 r.have_.length c1, .slice A2 r.wants.length c2, .slice A3 r.gives.length c3, .slice A4 r.given.length c4] 29)).alloc (Obj.cells #[.int .i64 m.kind, .int .i64 m.from_, .int .i64 m.tq, .int .i64 m.view, .int .i64 m.normal, .int .i64 m.commit, .int .i64 m.n, .slice A m.log.length c] 31)).alloc (Obj.cells #[.int .i64 0, .int .i64 0, .int .i64 0, .bool false, .slice none 0 0, .int .i64 0, .slice none 0 0, .slice none 0 0, .slice none 0 0, .slice none 0 0] 29)).heap.size = w.heap.size + 3 := by simp
  rw [e2] at hW
  have hs : Blk w1 w.heap.size 29 #[.int .i64 r.me, .int .i64 r.kept.view, .int .i64 r.kept.normal, .bool r.kept.calm, .slice A0 n0 c0, .int .i64 r.kept.commit, .slice A1 r.have_.length c1, .slice A2 r.wants.length c2, .slice A3 r.gives.length c3, .slice A4 r.given.length c4] := (((Blk.new w _ _).alloc _).alloc _).same h1
  have hk : Blk w1 (w.heap.size + 1) 31 #[.int .i64 m.kind, .int .i64 m.from_, .int .i64 m.tq, .int .i64 m.view, .int .i64 m.normal, .int .i64 m.commit, .int .i64 m.n, .slice A m.log.length c] := ((Blk.new' (by simp)).alloc _).same h1
  have hz : Blk w1 (w.heap.size + 2) 29 #[.int .i64 0, .int .i64 0, .int .i64 0, .bool false, .slice none 0 0, .int .i64 0, .slice none 0 0, .slice none 0 0, .slice none 0 0, .slice none 0 0] := (Blk.new' (by simp)).same h1
  have hb := h0.trans (h1.mono h0.size)
  have hsz : w.heap.size + 3 ≤ w1.heap.size := by have := h1.size; rw [e2] at this; exact this
  have H1 := Lib.hid (And.intro hW (And.intro hs (And.intro hk (And.intro hz (And.intro hb hsz)))))
  have k0 := hk.cell 0
  have k1 := hk.cell 1
  have k2 := hk.cell 2
  have k3 := hk.cell 3
  have k4 := hk.cell 4
  have k5 := hk.cell 5
  have k6 := hk.cell 6
  have k7 := hk.cell 7
  simp only [List.getElem?_toArray, List.getElem?_cons_zero, List.getElem?_cons_succ] at k0 k1 k2 k3 k4 k5 k6 k7
  have kl := hk.lt
  clear h1 h0 hs hz hb hW e2 hsz HF hk
  go_wp2_with fail
  refine (msgCheck_a _ m w1 B (HX.out.below H1.out.2.2.2.2.1) 0 HG.out).mono ?_; rintro en w2 ⟨rfl, h2⟩
  have H2 := Lib.hid (show Work w2 (w.heap.size + 3) gw gr r lu hu wu gu nu (.slice none 0 0) [] [] ∧ Blk w2 w.heap.size 29 #[.int .i64 r.me, .int .i64 r.kept.view, .int .i64 r.kept.normal, .bool r.kept.calm, .slice A0 n0 c0, .int .i64 r.kept.commit, .slice A1 r.have_.length c1, .slice A2 r.wants.length c2, .slice A3 r.gives.length c3, .slice A4 r.given.length c4] ∧ Blk w2 (w.heap.size + 1) 31 #[.int .i64 m.kind, .int .i64 m.from_, .int .i64 m.tq, .int .i64 m.view, .int .i64 m.normal, .int .i64 m.commit, .int .i64 m.n, .slice A m.log.length c] ∧ Blk w2 (w.heap.size + 2) 29 #[.int .i64 0, .int .i64 0, .int .i64 0, .bool false, .slice none 0 0, .int .i64 0, .slice none 0 0, .slice none 0 0, .slice none 0 0, .slice none 0 0] ∧ Below w.heap.size w w2 ∧ w.heap.size + 3 ≤ w2.heap.size from
    ⟨H1.out.1.below h2, H1.out.2.1.same h2, H1.out.2.2.1.same h2, H1.out.2.2.2.1.same h2, H1.out.2.2.2.2.1.trans (h2.mono H1.out.2.2.2.2.1.size), Nat.le_trans H1.out.2.2.2.2.2 h2.size⟩)
  clear h2 k0 k1 k2 k3 k4 k5 k6 k7 kl
  have hs := H2.out.2.1
  have s0 := hs.cell 0
  have s1 := hs.cell 1
  simp only [List.getElem?_toArray, List.getElem?_cons_zero, List.getElem?_cons_succ] at s0 s1
  have sl := hs.lt
  have hk := H2.out.2.2.1
  have k0 := hk.cell 0
  have k2 := hk.cell 2
  have k3 := hk.cell 3
  simp only [List.getElem?_toArray, List.getElem?_cons_zero, List.getElem?_cons_succ] at k0 k2 k3
  have kl := hk.lt
  clear hs hk
  have hz := H2.out.2.2.2.1
  have z0 := hz.cell 0
  have z1 := hz.cell 1
  have z2 := hz.cell 2
  have z3 := hz.cell 3
  have z4 := hz.cell 4
  have z5 := hz.cell 5
  have z6 := hz.cell 6
  have z7 := hz.cell 7
  have z8 := hz.cell 8
  have z9 := hz.cell 9
  simp only [List.getElem?_toArray, List.getElem?_cons_zero, List.getElem?_cons_succ] at z0 z1 z2 z3 z4 z5 z6 z7 z8 z9
  have zz := hz.frozen
  have zl := hz.lt
  have hr := blk_set10 (a0 := .int .i64 0) (a1 := .int .i64 0) (a2 := .int .i64 0) (a3 := .bool false) (a4 := .slice none 0 0) (a5 := .int .i64 0) (a6 := .slice none 0 0) (a7 := .slice none 0 0) (a8 := .slice none 0 0) (a9 := .slice none 0 0) hz
  have r0 := hr.cell 0
  have r1 := hr.cell 1
  have r2 := hr.cell 2
  have r3 := hr.cell 3
  have r4 := hr.cell 4
  have r5 := hr.cell 5
  have r6 := hr.cell 6
  have r7 := hr.cell 7
  have r8 := hr.cell 8
  have r9 := hr.cell 9
  simp only [List.getElem?_toArray, List.getElem?_cons_zero, List.getElem?_cons_succ] at r0 r1 r2 r3 r4 r5 r6 r7 r8 r9
  have rz := hr.frozen
  have rl := hr.lt
  go_wp2
  refine bodyPost_ret (v := .tuple #[.agg #[.int .i64 0, .int .i64 0, .int .i64 0, .bool false, .slice none 0 0, .int .i64 0, .slice none 0 0, .slice none 0 0, .slice none 0 0, .slice none 0 0], .slice none 0 0, .int .i64 6]) (by simp [results, Try.results5, go_sem, r0, r1, r2, r3, r4, r5, r6, r7, r8, r9]) rfl ?_
  exact ⟨tell_zeroN _ _ _, below_set10 H2.out.2.2.2.2.1 (by omega)⟩
theorem hear_4 (lv hv wv gv nv xv : Value) (r : Scu.Replica) (m : Scu.Message) (w : World) (B : Nat) (hr : IsRep w B lv hv wv gv nv r) (hx : IsStrs w B xv m.log) (hf : Scu.repFault r = 0) (hg : Scu.msgFault m = 0) (ht : m.tq = r.me) (hv' : m.view < r.kept.view) :
    Calls Try.prog 5 #[.agg #[.int .i64 r.me, .int .i64 r.kept.view, .int .i64 r.kept.normal, .bool r.kept.calm, lv, .int .i64 r.kept.commit, hv, wv, gv, nv], .agg #[.int .i64 m.kind, .int .i64 m.from_, .int .i64 m.tq, .int .i64 m.view, .int .i64 m.normal, .int .i64 m.commit, .int .i64 m.n, xv]] w fun e w' => TellN w.heap.size w' Scu.replica0 [] 9 e ∧ Below w.heap.size w w' := by
  have htb : (m.tq != r.me) = false := by simpa using ht
  have hvb : decide (m.view < r.kept.view) = true := by simpa using hv'
  have HG := Lib.hid hg
  clear ht hg hv'
  have hvw := rep_view hf
  have HV := Lib.hid hr
  have HX := Lib.hid hx
  have HF := Lib.hid hf
  obtain ⟨A0, n0, c0, A1, c1, A2, c2, A3, c3, A4, c4, rfl, rfl, rfl, rfl, rfl⟩ := hr.forms
  obtain ⟨A, c, rfl, _, _⟩ := hx.ex
  clear hr hf hx
  go_enter Try.func5, Try.ntmps5
  go_wp2_with fail
  have h0 : Below w.heap.size w (((w.alloc (Obj.cells #[.int .i64 r.me, .int .i64 r.kept.view, .int .i64 r.kept.normal, .bool r.kept.calm, .slice A0 n0 c0, .int .i64 r.kept.commit, .slice A1 r.have_.length c1, .slice A2 r.wants.length c2, .slice A3 r.gives.length c3, .slice A4 r.given.length c4] 29)).alloc (Obj.cells #[.int .i64 m.kind, .int .i64 m.from_, .int .i64 m.tq, .int .i64 m.view, .int .i64 m.normal, .int .i64 m.commit, .int .i64 m.n, .slice A m.log.length c] 31)).alloc (Obj.cells #[.int .i64 0, .int .i64 0, .int .i64 0, .bool false, .slice none 0 0, .int .i64 0, .slice none 0 0, .slice none 0 0, .slice none 0 0, .slice none 0 0] 29)) := below_three w _ _ _
  refine (begin_2 _ _ _ _ _ r _ B (HV.out.below h0) HF.out).mono ?_; rintro en w1 ⟨⟨gw, gr, lu, hu, wu, gu, nu, rfl, hW, _⟩, h1⟩
  have e2 : (((w.alloc (Obj.cells #[.int .i64 r.me, .int .i64 r.kept.view, .int .i64 r.kept.normal, .bool r.kept.calm, .slice A0 n0 c0, .int .i64 r.kept.commit, .slice A1 r.have_.length c1, .slice A2 r.wants.length c2, .slice A3 r.gives.length c3, .slice A4 r.given.length c4] 29)).alloc (Obj.cells #[.int .i64 m.kind, .int .i64 m.from_, .int .i64 m.tq, .int .i64 m.view, .int .i64 m.normal, .int .i64 m.commit, .int .i64 m.n, .slice A m.log.length c] 31)).alloc (Obj.cells #[.int .i64 0, .int .i64 0, .int .i64 0, .bool false, .slice none 0 0, .int .i64 0, .slice none 0 0, .slice none 0 0, .slice none 0 0, .slice none 0 0] 29)).heap.size = w.heap.size + 3 := by simp
  rw [e2] at hW
  have hs : Blk w1 w.heap.size 29 #[.int .i64 r.me, .int .i64 r.kept.view, .int .i64 r.kept.normal, .bool r.kept.calm, .slice A0 n0 c0, .int .i64 r.kept.commit, .slice A1 r.have_.length c1, .slice A2 r.wants.length c2, .slice A3 r.gives.length c3, .slice A4 r.given.length c4] := (((Blk.new w _ _).alloc _).alloc _).same h1
  have hk : Blk w1 (w.heap.size + 1) 31 #[.int .i64 m.kind, .int .i64 m.from_, .int .i64 m.tq, .int .i64 m.view, .int .i64 m.normal, .int .i64 m.commit, .int .i64 m.n, .slice A m.log.length c] := ((Blk.new' (by simp)).alloc _).same h1
  have hz : Blk w1 (w.heap.size + 2) 29 #[.int .i64 0, .int .i64 0, .int .i64 0, .bool false, .slice none 0 0, .int .i64 0, .slice none 0 0, .slice none 0 0, .slice none 0 0, .slice none 0 0] := (Blk.new' (by simp)).same h1
  have hb := h0.trans (h1.mono h0.size)
  have hsz : w.heap.size + 3 ≤ w1.heap.size := by have := h1.size; rw [e2] at this; exact this
  have H1 := Lib.hid (And.intro hW (And.intro hs (And.intro hk (And.intro hz (And.intro hb hsz)))))
  have k0 := hk.cell 0
  have k1 := hk.cell 1
  have k2 := hk.cell 2
  have k3 := hk.cell 3
  have k4 := hk.cell 4
  have k5 := hk.cell 5
  have k6 := hk.cell 6
  have k7 := hk.cell 7
  simp only [List.getElem?_toArray, List.getElem?_cons_zero, List.getElem?_cons_succ] at k0 k1 k2 k3 k4 k5 k6 k7
  have kl := hk.lt
  clear h1 h0 hs hz hb hW e2 hsz HF hk
  go_wp2_with fail
  refine (msgCheck_a _ m w1 B (HX.out.below H1.out.2.2.2.2.1) 0 HG.out).mono ?_; rintro en w2 ⟨rfl, h2⟩
  have H2 := Lib.hid (show Work w2 (w.heap.size + 3) gw gr r lu hu wu gu nu (.slice none 0 0) [] [] ∧ Blk w2 w.heap.size 29 #[.int .i64 r.me, .int .i64 r.kept.view, .int .i64 r.kept.normal, .bool r.kept.calm, .slice A0 n0 c0, .int .i64 r.kept.commit, .slice A1 r.have_.length c1, .slice A2 r.wants.length c2, .slice A3 r.gives.length c3, .slice A4 r.given.length c4] ∧ Blk w2 (w.heap.size + 1) 31 #[.int .i64 m.kind, .int .i64 m.from_, .int .i64 m.tq, .int .i64 m.view, .int .i64 m.normal, .int .i64 m.commit, .int .i64 m.n, .slice A m.log.length c] ∧ Blk w2 (w.heap.size + 2) 29 #[.int .i64 0, .int .i64 0, .int .i64 0, .bool false, .slice none 0 0, .int .i64 0, .slice none 0 0, .slice none 0 0, .slice none 0 0, .slice none 0 0] ∧ Below w.heap.size w w2 ∧ w.heap.size + 3 ≤ w2.heap.size from
    ⟨H1.out.1.below h2, H1.out.2.1.same h2, H1.out.2.2.1.same h2, H1.out.2.2.2.1.same h2, H1.out.2.2.2.2.1.trans (h2.mono H1.out.2.2.2.2.1.size), Nat.le_trans H1.out.2.2.2.2.2 h2.size⟩)
  clear h2 k0 k1 k2 k3 k4 k5 k6 k7 kl
  have hs := H2.out.2.1
  have s0 := hs.cell 0
  have s1 := hs.cell 1
  simp only [List.getElem?_toArray, List.getElem?_cons_zero, List.getElem?_cons_succ] at s0 s1
  have sl := hs.lt
  have hk := H2.out.2.2.1
  have k0 := hk.cell 0
  have k2 := hk.cell 2
  have k3 := hk.cell 3
  simp only [List.getElem?_toArray, List.getElem?_cons_zero, List.getElem?_cons_succ] at k0 k2 k3
  have kl := hk.lt
  clear hs hk
  have hz := H2.out.2.2.2.1
  have z0 := hz.cell 0
  have z1 := hz.cell 1
  have z2 := hz.cell 2
  have z3 := hz.cell 3
  have z4 := hz.cell 4
  have z5 := hz.cell 5
  have z6 := hz.cell 6
  have z7 := hz.cell 7
  have z8 := hz.cell 8
  have z9 := hz.cell 9
  simp only [List.getElem?_toArray, List.getElem?_cons_zero, List.getElem?_cons_succ] at z0 z1 z2 z3 z4 z5 z6 z7 z8 z9
  have zz := hz.frozen
  have zl := hz.lt
  have hr := blk_set10 (a0 := .int .i64 0) (a1 := .int .i64 0) (a2 := .int .i64 0) (a3 := .bool false) (a4 := .slice none 0 0) (a5 := .int .i64 0) (a6 := .slice none 0 0) (a7 := .slice none 0 0) (a8 := .slice none 0 0) (a9 := .slice none 0 0) hz
  have r0 := hr.cell 0
  have r1 := hr.cell 1
  have r2 := hr.cell 2
  have r3 := hr.cell 3
  have r4 := hr.cell 4
  have r5 := hr.cell 5
  have r6 := hr.cell 6
  have r7 := hr.cell 7
  have r8 := hr.cell 8
  have r9 := hr.cell 9
  simp only [List.getElem?_toArray, List.getElem?_cons_zero, List.getElem?_cons_succ] at r0 r1 r2 r3 r4 r5 r6 r7 r8 r9
  have rz := hr.frozen
  have rl := hr.lt
  go_wp2
  refine bodyPost_ret (v := .tuple #[.agg #[.int .i64 0, .int .i64 0, .int .i64 0, .bool false, .slice none 0 0, .int .i64 0, .slice none 0 0, .slice none 0 0, .slice none 0 0, .slice none 0 0], .slice none 0 0, .int .i64 9]) (by simp [results, Try.results5, go_sem, r0, r1, r2, r3, r4, r5, r6, r7, r8, r9]) rfl ?_
  exact ⟨tell_zeroN _ _ _, below_set10 H2.out.2.2.2.2.1 (by omega)⟩
theorem hear_5 (lv hv wv gv nv xv : Value) (r : Scu.Replica) (m : Scu.Message) (w : World) (B : Nat) (hr : IsRep w B lv hv wv gv nv r) (hx : IsStrs w B xv m.log) (hf : Scu.repFault r = 0) (hg : Scu.msgFault m = 0) (ht : m.tq = r.me) (hv' : ¬ m.view < r.kept.view) (rr : Scu.Replica) (ms : List Scu.Message) (hkd : m.kind = 1) (hms : Scu.hearLead r m = (rr, ms)) :
    Calls Try.prog 5 #[.agg #[.int .i64 r.me, .int .i64 r.kept.view, .int .i64 r.kept.normal, .bool r.kept.calm, lv, .int .i64 r.kept.commit, hv, wv, gv, nv], .agg #[.int .i64 m.kind, .int .i64 m.from_, .int .i64 m.tq, .int .i64 m.view, .int .i64 m.normal, .int .i64 m.commit, .int .i64 m.n, xv]] w fun e w' => TellN w.heap.size w' rr ms 0 e ∧ Below w.heap.size w w' := by
  have htb : (m.tq != r.me) = false := by simpa using ht
  have hvb : decide (m.view < r.kept.view) = false := by simpa using hv'
  have HG := Lib.hid hg
  have HMF := Lib.hid (Scu.msgFault_ok hg)
  have HT := Lib.hid ht
  have HMS := Lib.hid hms
  have H3R := Lib.hid (rep_three hf)
  have q1 : (m.kind == 1) = true := by rw [hkd]; rfl
  have q2 : (m.kind == 2) = false := by rw [hkd]; rfl
  have q3 : (m.kind == 3) = false := by rw [hkd]; rfl
  clear ht hg hv' hms hkd
  have hvw := rep_view hf
  have HV := Lib.hid hr
  have HX := Lib.hid hx
  have HF := Lib.hid hf
  obtain ⟨A0, n0, c0, A1, c1, A2, c2, A3, c3, A4, c4, rfl, rfl, rfl, rfl, rfl⟩ := hr.forms
  obtain ⟨A, c, rfl, _, _⟩ := hx.ex
  clear hr hf hx
  go_enter Try.func5, Try.ntmps5
  go_wp2_with fail
  have h0 : Below w.heap.size w (((w.alloc (Obj.cells #[.int .i64 r.me, .int .i64 r.kept.view, .int .i64 r.kept.normal, .bool r.kept.calm, .slice A0 n0 c0, .int .i64 r.kept.commit, .slice A1 r.have_.length c1, .slice A2 r.wants.length c2, .slice A3 r.gives.length c3, .slice A4 r.given.length c4] 29)).alloc (Obj.cells #[.int .i64 m.kind, .int .i64 m.from_, .int .i64 m.tq, .int .i64 m.view, .int .i64 m.normal, .int .i64 m.commit, .int .i64 m.n, .slice A m.log.length c] 31)).alloc (Obj.cells #[.int .i64 0, .int .i64 0, .int .i64 0, .bool false, .slice none 0 0, .int .i64 0, .slice none 0 0, .slice none 0 0, .slice none 0 0, .slice none 0 0] 29)) := below_three w _ _ _
  refine (begin_2 _ _ _ _ _ r _ B (HV.out.below h0) HF.out).mono ?_; rintro en w1 ⟨⟨gw, gr, lu, hu, wu, gu, nu, rfl, hW, _⟩, h1⟩
  have e2 : (((w.alloc (Obj.cells #[.int .i64 r.me, .int .i64 r.kept.view, .int .i64 r.kept.normal, .bool r.kept.calm, .slice A0 n0 c0, .int .i64 r.kept.commit, .slice A1 r.have_.length c1, .slice A2 r.wants.length c2, .slice A3 r.gives.length c3, .slice A4 r.given.length c4] 29)).alloc (Obj.cells #[.int .i64 m.kind, .int .i64 m.from_, .int .i64 m.tq, .int .i64 m.view, .int .i64 m.normal, .int .i64 m.commit, .int .i64 m.n, .slice A m.log.length c] 31)).alloc (Obj.cells #[.int .i64 0, .int .i64 0, .int .i64 0, .bool false, .slice none 0 0, .int .i64 0, .slice none 0 0, .slice none 0 0, .slice none 0 0, .slice none 0 0] 29)).heap.size = w.heap.size + 3 := by simp
  rw [e2] at hW
  have hs : Blk w1 w.heap.size 29 #[.int .i64 r.me, .int .i64 r.kept.view, .int .i64 r.kept.normal, .bool r.kept.calm, .slice A0 n0 c0, .int .i64 r.kept.commit, .slice A1 r.have_.length c1, .slice A2 r.wants.length c2, .slice A3 r.gives.length c3, .slice A4 r.given.length c4] := (((Blk.new w _ _).alloc _).alloc _).same h1
  have hk : Blk w1 (w.heap.size + 1) 31 #[.int .i64 m.kind, .int .i64 m.from_, .int .i64 m.tq, .int .i64 m.view, .int .i64 m.normal, .int .i64 m.commit, .int .i64 m.n, .slice A m.log.length c] := ((Blk.new' (by simp)).alloc _).same h1
  have hz : Blk w1 (w.heap.size + 2) 29 #[.int .i64 0, .int .i64 0, .int .i64 0, .bool false, .slice none 0 0, .int .i64 0, .slice none 0 0, .slice none 0 0, .slice none 0 0, .slice none 0 0] := (Blk.new' (by simp)).same h1
  have hb := h0.trans (h1.mono h0.size)
  have hsz : w.heap.size + 3 ≤ w1.heap.size := by have := h1.size; rw [e2] at this; exact this
  have H1 := Lib.hid (And.intro hW (And.intro hs (And.intro hk (And.intro hz (And.intro hb hsz)))))
  have k0 := hk.cell 0
  have k1 := hk.cell 1
  have k2 := hk.cell 2
  have k3 := hk.cell 3
  have k4 := hk.cell 4
  have k5 := hk.cell 5
  have k6 := hk.cell 6
  have k7 := hk.cell 7
  simp only [List.getElem?_toArray, List.getElem?_cons_zero, List.getElem?_cons_succ] at k0 k1 k2 k3 k4 k5 k6 k7
  have kl := hk.lt
  clear h1 h0 hs hz hb hW e2 hsz HF hk
  go_wp2_with fail
  refine (msgCheck_a _ m w1 B (HX.out.below H1.out.2.2.2.2.1) 0 HG.out).mono ?_; rintro en w2 ⟨rfl, h2⟩
  have H2 := Lib.hid (show Work w2 (w.heap.size + 3) gw gr r lu hu wu gu nu (.slice none 0 0) [] [] ∧ Blk w2 w.heap.size 29 #[.int .i64 r.me, .int .i64 r.kept.view, .int .i64 r.kept.normal, .bool r.kept.calm, .slice A0 n0 c0, .int .i64 r.kept.commit, .slice A1 r.have_.length c1, .slice A2 r.wants.length c2, .slice A3 r.gives.length c3, .slice A4 r.given.length c4] ∧ Blk w2 (w.heap.size + 1) 31 #[.int .i64 m.kind, .int .i64 m.from_, .int .i64 m.tq, .int .i64 m.view, .int .i64 m.normal, .int .i64 m.commit, .int .i64 m.n, .slice A m.log.length c] ∧ Blk w2 (w.heap.size + 2) 29 #[.int .i64 0, .int .i64 0, .int .i64 0, .bool false, .slice none 0 0, .int .i64 0, .slice none 0 0, .slice none 0 0, .slice none 0 0, .slice none 0 0] ∧ Below w.heap.size w w2 ∧ w.heap.size + 3 ≤ w2.heap.size from
    ⟨H1.out.1.below h2, H1.out.2.1.same h2, H1.out.2.2.1.same h2, H1.out.2.2.2.1.same h2, H1.out.2.2.2.2.1.trans (h2.mono H1.out.2.2.2.2.1.size), Nat.le_trans H1.out.2.2.2.2.2 h2.size⟩)
  clear h2 k0 k1 k2 k3 k4 k5 k6 k7 kl
  have hs := H2.out.2.1
  have s0 := hs.cell 0
  have s1 := hs.cell 1
  simp only [List.getElem?_toArray, List.getElem?_cons_zero, List.getElem?_cons_succ] at s0 s1
  have sl := hs.lt
  have hk := H2.out.2.2.1
  have k0 := hk.cell 0
  have k2 := hk.cell 2
  have k3 := hk.cell 3
  simp only [List.getElem?_toArray, List.getElem?_cons_zero, List.getElem?_cons_succ] at k0 k2 k3
  have kl := hk.lt
  clear hs hk
  have H3 := Lib.hid (show Work w2 (w.heap.size + 3) gw gr r lu hu wu gu nu (.slice none 0 0) [] [] ∧ Blk w2 (w.heap.size + 1) 31 #[.int .i64 m.kind, .int .i64 m.from_, .int .i64 m.tq, .int .i64 m.view, .int .i64 m.normal, .int .i64 m.commit, .int .i64 m.n, .slice A m.log.length c] ∧ Blk w2 (w.heap.size + 2) 29 #[.int .i64 0, .int .i64 0, .int .i64 0, .bool false, .slice none 0 0, .int .i64 0, .slice none 0 0, .slice none 0 0, .slice none 0 0, .slice none 0 0] ∧ Below w.heap.size w w2 ∧ w.heap.size + 3 ≤ w2.heap.size from
    ⟨H2.out.1, H2.out.2.2.1, H2.out.2.2.2.1, H2.out.2.2.2.2.1, H2.out.2.2.2.2.2⟩)
  clear k0 k2 k3 kl
  have hk := H3.out.2.1
  have k0 := hk.cell 0
  have k1 := hk.cell 1
  have k2 := hk.cell 2
  have k3 := hk.cell 3
  have k4 := hk.cell 4
  have k5 := hk.cell 5
  have k6 := hk.cell 6
  have k7 := hk.cell 7
  simp only [List.getElem?_toArray, List.getElem?_cons_zero, List.getElem?_cons_succ] at k0 k1 k2 k3 k4 k5 k6 k7
  have kl := hk.lt
  clear hk
  have hft : m.from_ ≠ r.me := fun e => HMF.out.2.2.2.2.1 (e.trans HT.out.symm)
  have hf0 : 0 ≤ m.from_ := HMF.out.2.2.1.1
  have hf3 : m.from_ < 3 := by have := HMF.out.2.2.1; unfold Scu.InR at this; omega
  have HFR := Lib.hid (And.intro hft (And.intro hf0 hf3))
  have HLX := Lib.hid (((LowStrs.of HX.out).keep H3.out.2.2.2.1).up (show w.heap.size ≤ w.heap.size + 3 by omega))
  clear hft hf0 hf3
  go_wp2_with fail
  refine (onLead_e w2 (w.heap.size + 3) gw gr r m A c [] H3.out.1.e H3.out.2.2.2.2 H3R.out HLX.out HFR.out.1 (by simp [R47])).mono ?_; rintro en w3 ⟨rfl, hw3, h3⟩
  rw [List.nil_append, HMS.out] at hw3
  have hz3 : Blk w3 (w.heap.size + 2) 29 #[.int .i64 0, .int .i64 0, .int .i64 0, .bool false, .slice none 0 0, .int .i64 0, .slice none 0 0, .slice none 0 0, .slice none 0 0, .slice none 0 0] := H3.out.2.2.1.below h3 (by omega)
  have hb3 : Below w.heap.size w w3 := H3.out.2.2.2.1.trans (h3.mono (by omega))
  clear h3 k0 k1 k2 k3 k4 k5 k6 k7 kl s0 s1 sl
  obtain ⟨lu3, hv3, wv3, gv3, nv3, ov3, css3, hw3⟩ := hw3
  obtain ⟨Ao, co, rfl⟩ := hw3.out.form
  obtain ⟨E0, m0, d0, E1, d1, E2, d2, E3, d3, E4, d4, rfl, rfl, rfl, rfl, rfl⟩ := hw3.own.is.forms
  have hwb := hw3.wb
  have hrb := hw3.rb
  have f0 := hwb.cell 0
  have f1 := hwb.cell 1
  simp only [List.getElem?_toArray, List.getElem?_cons_zero, List.getElem?_cons_succ] at f0 f1
  have fl := hwb.lt
  have k0 := hrb.cell 0
  have k1 := hrb.cell 1
  have k2 := hrb.cell 2
  have k3 := hrb.cell 3
  have k4 := hrb.cell 4
  have k5 := hrb.cell 5
  have k6 := hrb.cell 6
  have k7 := hrb.cell 7
  have k8 := hrb.cell 8
  have k9 := hrb.cell 9
  simp only [List.getElem?_toArray, List.getElem?_cons_zero, List.getElem?_cons_succ] at k0 k1 k2 k3 k4 k5 k6 k7 k8 k9
  have kz := hrb.frozen
  have kl := hrb.lt
  have z0 := hz3.cell 0
  have z1 := hz3.cell 1
  have z2 := hz3.cell 2
  have z3 := hz3.cell 3
  have z4 := hz3.cell 4
  have z5 := hz3.cell 5
  have z6 := hz3.cell 6
  have z7 := hz3.cell 7
  have z8 := hz3.cell 8
  have z9 := hz3.cell 9
  simp only [List.getElem?_toArray, List.getElem?_cons_zero, List.getElem?_cons_succ] at z0 z1 z2 z3 z4 z5 z6 z7 z8 z9
  have zz := hz3.frozen
  have zl := hz3.lt
  have hr := blk_set10 (a0 := .int .i64 rr.me) (a1 := .int .i64 rr.kept.view) (a2 := .int .i64 rr.kept.normal) (a3 := .bool rr.kept.calm) (a4 := .slice E0 m0 d0) (a5 := .int .i64 rr.kept.commit) (a6 := .slice E1 rr.have_.length d1) (a7 := .slice E2 rr.wants.length d2) (a8 := .slice E3 rr.gives.length d3) (a9 := .slice E4 rr.given.length d4) hz3
  have hsm := Same.sets10 (Ts := [9, 3, 4, 24, 31, 48]) (B := 0) (a0 := .int .i64 rr.me) (a1 := .int .i64 rr.kept.view) (a2 := .int .i64 rr.kept.normal) (a3 := .bool rr.kept.calm) (a4 := .slice E0 m0 d0) (a5 := .int .i64 rr.kept.commit) (a6 := .slice E1 rr.have_.length d1) (a7 := .slice E2 rr.wants.length d2) (a8 := .slice E3 rr.gives.length d3) (a9 := .slice E4 rr.given.length d4) hz3 (Nat.zero_le _) (by decide)
  have hwb2 := blk_keep hwb hsm (by simp)
  have q0 := hwb2.cell 0
  have q1 := hwb2.cell 1
  simp only [List.getElem?_toArray, List.getElem?_cons_zero, List.getElem?_cons_succ] at q0 q1
  have hT := hw3.own.is.same (hsm.mono (by simp) (Nat.le_refl _))
  have hO := hw3.out.is.same (Ts := [9, 31]) (by simp) (hsm.mono (by simp) (Nat.le_refl _)) (fun _ _ h => h.same (Ts := [9, 31]) (by simp) (hsm.mono (by simp) (Nat.le_refl _)))
  have hL := below_set10 (a0 := .int .i64 rr.me) (a1 := .int .i64 rr.kept.view) (a2 := .int .i64 rr.kept.normal) (a3 := .bool rr.kept.calm) (a4 := .slice E0 m0 d0) (a5 := .int .i64 rr.kept.commit) (a6 := .slice E1 rr.have_.length d1) (a7 := .slice E2 rr.wants.length d2) (a8 := .slice E3 rr.gives.length d3) (a9 := .slice E4 rr.given.length d4) hb3 (show w.heap.size ≤ w.heap.size + 2 by omega)
  have r0 := hr.cell 0
  have r1 := hr.cell 1
  have r2 := hr.cell 2
  have r3 := hr.cell 3
  have r4 := hr.cell 4
  have r5 := hr.cell 5
  have r6 := hr.cell 6
  have r7 := hr.cell 7
  have r8 := hr.cell 8
  have r9 := hr.cell 9
  simp only [List.getElem?_toArray, List.getElem?_cons_zero, List.getElem?_cons_succ] at r0 r1 r2 r3 r4 r5 r6 r7 r8 r9
  have rz := hr.frozen
  have rl := hr.lt
  have hA : ∀ g, (Value.slice Ao ms.length co).ownBlock = some g → w.heap.size ≤ g := fun g hg => by have := (hw3.out.row.lt g hg).1; omega
  have HT := Lib.hid (And.intro hT (And.intro hO (And.intro hL hA)))
  clear hr hsm hT hO hL hwb hrb hw3 hz3 hb3 hwb2 hA
  go_wp2_with fail
  go_region
  go_wp2
  refine bodyPost_ret (v := .tuple #[.agg #[.int .i64 rr.me, .int .i64 rr.kept.view, .int .i64 rr.kept.normal, .bool rr.kept.calm, .slice E0 m0 d0, .int .i64 rr.kept.commit, .slice E1 rr.have_.length d1, .slice E2 rr.wants.length d2, .slice E3 rr.gives.length d3, .slice E4 rr.given.length d4], .slice Ao ms.length co, .int .i64 0]) (by simp [results, Try.results5, go_sem, r0, r1, r2, r3, r4, r5, r6, r7, r8, r9]) rfl ?_
  exact ⟨⟨_, _, _, _, _, _, rfl, HT.out.1.same (Same.drew _), HT.out.2.1.same (Ts := [9, 31]) (by simp) (Same.drew _) (fun _ _ h => h.same (Ts := [9]) (by simp) (Same.drew _)), HT.out.2.2.2⟩, HT.out.2.2.1.drew⟩
theorem hear_6 (lv hv wv gv nv xv : Value) (r : Scu.Replica) (m : Scu.Message) (w : World) (B : Nat) (hr : IsRep w B lv hv wv gv nv r) (hx : IsStrs w B xv m.log) (hf : Scu.repFault r = 0) (hg : Scu.msgFault m = 0) (ht : m.tq = r.me) (hv' : ¬ m.view < r.kept.view) (rr : Scu.Replica) (ms : List Scu.Message) (hkd : m.kind = 2) (hms : Scu.hearHas r m = (rr, ms)) :
    Calls Try.prog 5 #[.agg #[.int .i64 r.me, .int .i64 r.kept.view, .int .i64 r.kept.normal, .bool r.kept.calm, lv, .int .i64 r.kept.commit, hv, wv, gv, nv], .agg #[.int .i64 m.kind, .int .i64 m.from_, .int .i64 m.tq, .int .i64 m.view, .int .i64 m.normal, .int .i64 m.commit, .int .i64 m.n, xv]] w fun e w' => TellN w.heap.size w' rr ms 0 e ∧ Below w.heap.size w w' := by
  have htb : (m.tq != r.me) = false := by simpa using ht
  have hvb : decide (m.view < r.kept.view) = false := by simpa using hv'
  have HG := Lib.hid hg
  have HMF := Lib.hid (Scu.msgFault_ok hg)
  have HT := Lib.hid ht
  have HMS := Lib.hid hms
  have H3R := Lib.hid (rep_three hf)
  have q1 : (m.kind == 1) = false := by rw [hkd]; rfl
  have q2 : (m.kind == 2) = true := by rw [hkd]; rfl
  have q3 : (m.kind == 3) = false := by rw [hkd]; rfl
  clear ht hg hv' hms hkd
  have hvw := rep_view hf
  have HV := Lib.hid hr
  have HX := Lib.hid hx
  have HF := Lib.hid hf
  obtain ⟨A0, n0, c0, A1, c1, A2, c2, A3, c3, A4, c4, rfl, rfl, rfl, rfl, rfl⟩ := hr.forms
  obtain ⟨A, c, rfl, _, _⟩ := hx.ex
  clear hr hf hx
  go_enter Try.func5, Try.ntmps5
  go_wp2_with fail
  have h0 : Below w.heap.size w (((w.alloc (Obj.cells #[.int .i64 r.me, .int .i64 r.kept.view, .int .i64 r.kept.normal, .bool r.kept.calm, .slice A0 n0 c0, .int .i64 r.kept.commit, .slice A1 r.have_.length c1, .slice A2 r.wants.length c2, .slice A3 r.gives.length c3, .slice A4 r.given.length c4] 29)).alloc (Obj.cells #[.int .i64 m.kind, .int .i64 m.from_, .int .i64 m.tq, .int .i64 m.view, .int .i64 m.normal, .int .i64 m.commit, .int .i64 m.n, .slice A m.log.length c] 31)).alloc (Obj.cells #[.int .i64 0, .int .i64 0, .int .i64 0, .bool false, .slice none 0 0, .int .i64 0, .slice none 0 0, .slice none 0 0, .slice none 0 0, .slice none 0 0] 29)) := below_three w _ _ _
  refine (begin_2 _ _ _ _ _ r _ B (HV.out.below h0) HF.out).mono ?_; rintro en w1 ⟨⟨gw, gr, lu, hu, wu, gu, nu, rfl, hW, _⟩, h1⟩
  have e2 : (((w.alloc (Obj.cells #[.int .i64 r.me, .int .i64 r.kept.view, .int .i64 r.kept.normal, .bool r.kept.calm, .slice A0 n0 c0, .int .i64 r.kept.commit, .slice A1 r.have_.length c1, .slice A2 r.wants.length c2, .slice A3 r.gives.length c3, .slice A4 r.given.length c4] 29)).alloc (Obj.cells #[.int .i64 m.kind, .int .i64 m.from_, .int .i64 m.tq, .int .i64 m.view, .int .i64 m.normal, .int .i64 m.commit, .int .i64 m.n, .slice A m.log.length c] 31)).alloc (Obj.cells #[.int .i64 0, .int .i64 0, .int .i64 0, .bool false, .slice none 0 0, .int .i64 0, .slice none 0 0, .slice none 0 0, .slice none 0 0, .slice none 0 0] 29)).heap.size = w.heap.size + 3 := by simp
  rw [e2] at hW
  have hs : Blk w1 w.heap.size 29 #[.int .i64 r.me, .int .i64 r.kept.view, .int .i64 r.kept.normal, .bool r.kept.calm, .slice A0 n0 c0, .int .i64 r.kept.commit, .slice A1 r.have_.length c1, .slice A2 r.wants.length c2, .slice A3 r.gives.length c3, .slice A4 r.given.length c4] := (((Blk.new w _ _).alloc _).alloc _).same h1
  have hk : Blk w1 (w.heap.size + 1) 31 #[.int .i64 m.kind, .int .i64 m.from_, .int .i64 m.tq, .int .i64 m.view, .int .i64 m.normal, .int .i64 m.commit, .int .i64 m.n, .slice A m.log.length c] := ((Blk.new' (by simp)).alloc _).same h1
  have hz : Blk w1 (w.heap.size + 2) 29 #[.int .i64 0, .int .i64 0, .int .i64 0, .bool false, .slice none 0 0, .int .i64 0, .slice none 0 0, .slice none 0 0, .slice none 0 0, .slice none 0 0] := (Blk.new' (by simp)).same h1
  have hb := h0.trans (h1.mono h0.size)
  have hsz : w.heap.size + 3 ≤ w1.heap.size := by have := h1.size; rw [e2] at this; exact this
  have H1 := Lib.hid (And.intro hW (And.intro hs (And.intro hk (And.intro hz (And.intro hb hsz)))))
  have k0 := hk.cell 0
  have k1 := hk.cell 1
  have k2 := hk.cell 2
  have k3 := hk.cell 3
  have k4 := hk.cell 4
  have k5 := hk.cell 5
  have k6 := hk.cell 6
  have k7 := hk.cell 7
  simp only [List.getElem?_toArray, List.getElem?_cons_zero, List.getElem?_cons_succ] at k0 k1 k2 k3 k4 k5 k6 k7
  have kl := hk.lt
  clear h1 h0 hs hz hb hW e2 hsz HF hk
  go_wp2_with fail
  refine (msgCheck_a _ m w1 B (HX.out.below H1.out.2.2.2.2.1) 0 HG.out).mono ?_; rintro en w2 ⟨rfl, h2⟩
  have H2 := Lib.hid (show Work w2 (w.heap.size + 3) gw gr r lu hu wu gu nu (.slice none 0 0) [] [] ∧ Blk w2 w.heap.size 29 #[.int .i64 r.me, .int .i64 r.kept.view, .int .i64 r.kept.normal, .bool r.kept.calm, .slice A0 n0 c0, .int .i64 r.kept.commit, .slice A1 r.have_.length c1, .slice A2 r.wants.length c2, .slice A3 r.gives.length c3, .slice A4 r.given.length c4] ∧ Blk w2 (w.heap.size + 1) 31 #[.int .i64 m.kind, .int .i64 m.from_, .int .i64 m.tq, .int .i64 m.view, .int .i64 m.normal, .int .i64 m.commit, .int .i64 m.n, .slice A m.log.length c] ∧ Blk w2 (w.heap.size + 2) 29 #[.int .i64 0, .int .i64 0, .int .i64 0, .bool false, .slice none 0 0, .int .i64 0, .slice none 0 0, .slice none 0 0, .slice none 0 0, .slice none 0 0] ∧ Below w.heap.size w w2 ∧ w.heap.size + 3 ≤ w2.heap.size from
    ⟨H1.out.1.below h2, H1.out.2.1.same h2, H1.out.2.2.1.same h2, H1.out.2.2.2.1.same h2, H1.out.2.2.2.2.1.trans (h2.mono H1.out.2.2.2.2.1.size), Nat.le_trans H1.out.2.2.2.2.2 h2.size⟩)
  clear h2 k0 k1 k2 k3 k4 k5 k6 k7 kl
  have hs := H2.out.2.1
  have s0 := hs.cell 0
  have s1 := hs.cell 1
  simp only [List.getElem?_toArray, List.getElem?_cons_zero, List.getElem?_cons_succ] at s0 s1
  have sl := hs.lt
  have hk := H2.out.2.2.1
  have k0 := hk.cell 0
  have k2 := hk.cell 2
  have k3 := hk.cell 3
  simp only [List.getElem?_toArray, List.getElem?_cons_zero, List.getElem?_cons_succ] at k0 k2 k3
  have kl := hk.lt
  clear hs hk
  have H3 := Lib.hid (show Work w2 (w.heap.size + 3) gw gr r lu hu wu gu nu (.slice none 0 0) [] [] ∧ Blk w2 (w.heap.size + 1) 31 #[.int .i64 m.kind, .int .i64 m.from_, .int .i64 m.tq, .int .i64 m.view, .int .i64 m.normal, .int .i64 m.commit, .int .i64 m.n, .slice A m.log.length c] ∧ Blk w2 (w.heap.size + 2) 29 #[.int .i64 0, .int .i64 0, .int .i64 0, .bool false, .slice none 0 0, .int .i64 0, .slice none 0 0, .slice none 0 0, .slice none 0 0, .slice none 0 0] ∧ Below w.heap.size w w2 ∧ w.heap.size + 3 ≤ w2.heap.size from
    ⟨H2.out.1, H2.out.2.2.1, H2.out.2.2.2.1, H2.out.2.2.2.2.1, H2.out.2.2.2.2.2⟩)
  clear k0 k2 k3 kl
  have hk := H3.out.2.1
  have k0 := hk.cell 0
  have k1 := hk.cell 1
  have k2 := hk.cell 2
  have k3 := hk.cell 3
  have k4 := hk.cell 4
  have k5 := hk.cell 5
  have k6 := hk.cell 6
  have k7 := hk.cell 7
  simp only [List.getElem?_toArray, List.getElem?_cons_zero, List.getElem?_cons_succ] at k0 k1 k2 k3 k4 k5 k6 k7
  have kl := hk.lt
  clear hk
  have hft : m.from_ ≠ r.me := fun e => HMF.out.2.2.2.2.1 (e.trans HT.out.symm)
  have hf0 : 0 ≤ m.from_ := HMF.out.2.2.1.1
  have hf3 : m.from_ < 3 := by have := HMF.out.2.2.1; unfold Scu.InR at this; omega
  have HFR := Lib.hid (And.intro hft (And.intro hf0 hf3))
  have HLX := Lib.hid (((LowStrs.of HX.out).keep H3.out.2.2.2.1).up (show w.heap.size ≤ w.heap.size + 3 by omega))
  clear hft hf0 hf3
  go_wp2_with fail
  refine (onHas_e w2 (w.heap.size + 3) gw gr r m A m.log.length c [] H3.out.1.e H3.out.2.2.2.2 H3R.out hvw HFR.out.2.1 HFR.out.2.2 (by simp [R47])).mono ?_; rintro en w3 ⟨rfl, hw3, h3⟩
  rw [List.nil_append, HMS.out] at hw3
  have hz3 : Blk w3 (w.heap.size + 2) 29 #[.int .i64 0, .int .i64 0, .int .i64 0, .bool false, .slice none 0 0, .int .i64 0, .slice none 0 0, .slice none 0 0, .slice none 0 0, .slice none 0 0] := H3.out.2.2.1.below h3 (by omega)
  have hb3 : Below w.heap.size w w3 := H3.out.2.2.2.1.trans (h3.mono (by omega))
  clear h3 k0 k1 k2 k3 k4 k5 k6 k7 kl s0 s1 sl
  obtain ⟨lu3, hv3, wv3, gv3, nv3, ov3, css3, hw3⟩ := hw3
  obtain ⟨Ao, co, rfl⟩ := hw3.out.form
  obtain ⟨E0, m0, d0, E1, d1, E2, d2, E3, d3, E4, d4, rfl, rfl, rfl, rfl, rfl⟩ := hw3.own.is.forms
  have hwb := hw3.wb
  have hrb := hw3.rb
  have f0 := hwb.cell 0
  have f1 := hwb.cell 1
  simp only [List.getElem?_toArray, List.getElem?_cons_zero, List.getElem?_cons_succ] at f0 f1
  have fl := hwb.lt
  have k0 := hrb.cell 0
  have k1 := hrb.cell 1
  have k2 := hrb.cell 2
  have k3 := hrb.cell 3
  have k4 := hrb.cell 4
  have k5 := hrb.cell 5
  have k6 := hrb.cell 6
  have k7 := hrb.cell 7
  have k8 := hrb.cell 8
  have k9 := hrb.cell 9
  simp only [List.getElem?_toArray, List.getElem?_cons_zero, List.getElem?_cons_succ] at k0 k1 k2 k3 k4 k5 k6 k7 k8 k9
  have kz := hrb.frozen
  have kl := hrb.lt
  have z0 := hz3.cell 0
  have z1 := hz3.cell 1
  have z2 := hz3.cell 2
  have z3 := hz3.cell 3
  have z4 := hz3.cell 4
  have z5 := hz3.cell 5
  have z6 := hz3.cell 6
  have z7 := hz3.cell 7
  have z8 := hz3.cell 8
  have z9 := hz3.cell 9
  simp only [List.getElem?_toArray, List.getElem?_cons_zero, List.getElem?_cons_succ] at z0 z1 z2 z3 z4 z5 z6 z7 z8 z9
  have zz := hz3.frozen
  have zl := hz3.lt
  have hr := blk_set10 (a0 := .int .i64 rr.me) (a1 := .int .i64 rr.kept.view) (a2 := .int .i64 rr.kept.normal) (a3 := .bool rr.kept.calm) (a4 := .slice E0 m0 d0) (a5 := .int .i64 rr.kept.commit) (a6 := .slice E1 rr.have_.length d1) (a7 := .slice E2 rr.wants.length d2) (a8 := .slice E3 rr.gives.length d3) (a9 := .slice E4 rr.given.length d4) hz3
  have hsm := Same.sets10 (Ts := [9, 3, 4, 24, 31, 48]) (B := 0) (a0 := .int .i64 rr.me) (a1 := .int .i64 rr.kept.view) (a2 := .int .i64 rr.kept.normal) (a3 := .bool rr.kept.calm) (a4 := .slice E0 m0 d0) (a5 := .int .i64 rr.kept.commit) (a6 := .slice E1 rr.have_.length d1) (a7 := .slice E2 rr.wants.length d2) (a8 := .slice E3 rr.gives.length d3) (a9 := .slice E4 rr.given.length d4) hz3 (Nat.zero_le _) (by decide)
  have hwb2 := blk_keep hwb hsm (by simp)
  have q0 := hwb2.cell 0
  have q1 := hwb2.cell 1
  simp only [List.getElem?_toArray, List.getElem?_cons_zero, List.getElem?_cons_succ] at q0 q1
  have hT := hw3.own.is.same (hsm.mono (by simp) (Nat.le_refl _))
  have hO := hw3.out.is.same (Ts := [9, 31]) (by simp) (hsm.mono (by simp) (Nat.le_refl _)) (fun _ _ h => h.same (Ts := [9, 31]) (by simp) (hsm.mono (by simp) (Nat.le_refl _)))
  have hL := below_set10 (a0 := .int .i64 rr.me) (a1 := .int .i64 rr.kept.view) (a2 := .int .i64 rr.kept.normal) (a3 := .bool rr.kept.calm) (a4 := .slice E0 m0 d0) (a5 := .int .i64 rr.kept.commit) (a6 := .slice E1 rr.have_.length d1) (a7 := .slice E2 rr.wants.length d2) (a8 := .slice E3 rr.gives.length d3) (a9 := .slice E4 rr.given.length d4) hb3 (show w.heap.size ≤ w.heap.size + 2 by omega)
  have r0 := hr.cell 0
  have r1 := hr.cell 1
  have r2 := hr.cell 2
  have r3 := hr.cell 3
  have r4 := hr.cell 4
  have r5 := hr.cell 5
  have r6 := hr.cell 6
  have r7 := hr.cell 7
  have r8 := hr.cell 8
  have r9 := hr.cell 9
  simp only [List.getElem?_toArray, List.getElem?_cons_zero, List.getElem?_cons_succ] at r0 r1 r2 r3 r4 r5 r6 r7 r8 r9
  have rz := hr.frozen
  have rl := hr.lt
  have hA : ∀ g, (Value.slice Ao ms.length co).ownBlock = some g → w.heap.size ≤ g := fun g hg => by have := (hw3.out.row.lt g hg).1; omega
  have HT := Lib.hid (And.intro hT (And.intro hO (And.intro hL hA)))
  clear hr hsm hT hO hL hwb hrb hw3 hz3 hb3 hwb2 hA
  go_wp2_with fail
  go_region
  go_wp2
  refine bodyPost_ret (v := .tuple #[.agg #[.int .i64 rr.me, .int .i64 rr.kept.view, .int .i64 rr.kept.normal, .bool rr.kept.calm, .slice E0 m0 d0, .int .i64 rr.kept.commit, .slice E1 rr.have_.length d1, .slice E2 rr.wants.length d2, .slice E3 rr.gives.length d3, .slice E4 rr.given.length d4], .slice Ao ms.length co, .int .i64 0]) (by simp [results, Try.results5, go_sem, r0, r1, r2, r3, r4, r5, r6, r7, r8, r9]) rfl ?_
  exact ⟨⟨_, _, _, _, _, _, rfl, HT.out.1.same (Same.drew _), HT.out.2.1.same (Ts := [9, 31]) (by simp) (Same.drew _) (fun _ _ h => h.same (Ts := [9]) (by simp) (Same.drew _)), HT.out.2.2.2⟩, HT.out.2.2.1.drew⟩
theorem hear_7 (lv hv wv gv nv xv : Value) (r : Scu.Replica) (m : Scu.Message) (w : World) (B : Nat) (hr : IsRep w B lv hv wv gv nv r) (hx : IsStrs w B xv m.log) (hf : Scu.repFault r = 0) (hg : Scu.msgFault m = 0) (ht : m.tq = r.me) (hv' : ¬ m.view < r.kept.view) (rr : Scu.Replica) (ms : List Scu.Message) (hkd : m.kind = 3) (hms : Scu.hearWant r m = (rr, ms)) :
    Calls Try.prog 5 #[.agg #[.int .i64 r.me, .int .i64 r.kept.view, .int .i64 r.kept.normal, .bool r.kept.calm, lv, .int .i64 r.kept.commit, hv, wv, gv, nv], .agg #[.int .i64 m.kind, .int .i64 m.from_, .int .i64 m.tq, .int .i64 m.view, .int .i64 m.normal, .int .i64 m.commit, .int .i64 m.n, xv]] w fun e w' => TellN w.heap.size w' rr ms 0 e ∧ Below w.heap.size w w' := by
  have htb : (m.tq != r.me) = false := by simpa using ht
  have hvb : decide (m.view < r.kept.view) = false := by simpa using hv'
  have HG := Lib.hid hg
  have HMF := Lib.hid (Scu.msgFault_ok hg)
  have HT := Lib.hid ht
  have HMS := Lib.hid hms
  have H3R := Lib.hid (rep_three hf)
  have q1 : (m.kind == 1) = false := by rw [hkd]; rfl
  have q2 : (m.kind == 2) = false := by rw [hkd]; rfl
  have q3 : (m.kind == 3) = true := by rw [hkd]; rfl
  clear ht hg hv' hms hkd
  have hvw := rep_view hf
  have HV := Lib.hid hr
  have HX := Lib.hid hx
  have HF := Lib.hid hf
  obtain ⟨A0, n0, c0, A1, c1, A2, c2, A3, c3, A4, c4, rfl, rfl, rfl, rfl, rfl⟩ := hr.forms
  obtain ⟨A, c, rfl, _, _⟩ := hx.ex
  clear hr hf hx
  go_enter Try.func5, Try.ntmps5
  go_wp2_with fail
  have h0 : Below w.heap.size w (((w.alloc (Obj.cells #[.int .i64 r.me, .int .i64 r.kept.view, .int .i64 r.kept.normal, .bool r.kept.calm, .slice A0 n0 c0, .int .i64 r.kept.commit, .slice A1 r.have_.length c1, .slice A2 r.wants.length c2, .slice A3 r.gives.length c3, .slice A4 r.given.length c4] 29)).alloc (Obj.cells #[.int .i64 m.kind, .int .i64 m.from_, .int .i64 m.tq, .int .i64 m.view, .int .i64 m.normal, .int .i64 m.commit, .int .i64 m.n, .slice A m.log.length c] 31)).alloc (Obj.cells #[.int .i64 0, .int .i64 0, .int .i64 0, .bool false, .slice none 0 0, .int .i64 0, .slice none 0 0, .slice none 0 0, .slice none 0 0, .slice none 0 0] 29)) := below_three w _ _ _
  refine (begin_2 _ _ _ _ _ r _ B (HV.out.below h0) HF.out).mono ?_; rintro en w1 ⟨⟨gw, gr, lu, hu, wu, gu, nu, rfl, hW, _⟩, h1⟩
  have e2 : (((w.alloc (Obj.cells #[.int .i64 r.me, .int .i64 r.kept.view, .int .i64 r.kept.normal, .bool r.kept.calm, .slice A0 n0 c0, .int .i64 r.kept.commit, .slice A1 r.have_.length c1, .slice A2 r.wants.length c2, .slice A3 r.gives.length c3, .slice A4 r.given.length c4] 29)).alloc (Obj.cells #[.int .i64 m.kind, .int .i64 m.from_, .int .i64 m.tq, .int .i64 m.view, .int .i64 m.normal, .int .i64 m.commit, .int .i64 m.n, .slice A m.log.length c] 31)).alloc (Obj.cells #[.int .i64 0, .int .i64 0, .int .i64 0, .bool false, .slice none 0 0, .int .i64 0, .slice none 0 0, .slice none 0 0, .slice none 0 0, .slice none 0 0] 29)).heap.size = w.heap.size + 3 := by simp
  rw [e2] at hW
  have hs : Blk w1 w.heap.size 29 #[.int .i64 r.me, .int .i64 r.kept.view, .int .i64 r.kept.normal, .bool r.kept.calm, .slice A0 n0 c0, .int .i64 r.kept.commit, .slice A1 r.have_.length c1, .slice A2 r.wants.length c2, .slice A3 r.gives.length c3, .slice A4 r.given.length c4] := (((Blk.new w _ _).alloc _).alloc _).same h1
  have hk : Blk w1 (w.heap.size + 1) 31 #[.int .i64 m.kind, .int .i64 m.from_, .int .i64 m.tq, .int .i64 m.view, .int .i64 m.normal, .int .i64 m.commit, .int .i64 m.n, .slice A m.log.length c] := ((Blk.new' (by simp)).alloc _).same h1
  have hz : Blk w1 (w.heap.size + 2) 29 #[.int .i64 0, .int .i64 0, .int .i64 0, .bool false, .slice none 0 0, .int .i64 0, .slice none 0 0, .slice none 0 0, .slice none 0 0, .slice none 0 0] := (Blk.new' (by simp)).same h1
  have hb := h0.trans (h1.mono h0.size)
  have hsz : w.heap.size + 3 ≤ w1.heap.size := by have := h1.size; rw [e2] at this; exact this
  have H1 := Lib.hid (And.intro hW (And.intro hs (And.intro hk (And.intro hz (And.intro hb hsz)))))
  have k0 := hk.cell 0
  have k1 := hk.cell 1
  have k2 := hk.cell 2
  have k3 := hk.cell 3
  have k4 := hk.cell 4
  have k5 := hk.cell 5
  have k6 := hk.cell 6
  have k7 := hk.cell 7
  simp only [List.getElem?_toArray, List.getElem?_cons_zero, List.getElem?_cons_succ] at k0 k1 k2 k3 k4 k5 k6 k7
  have kl := hk.lt
  clear h1 h0 hs hz hb hW e2 hsz HF hk
  go_wp2_with fail
  refine (msgCheck_a _ m w1 B (HX.out.below H1.out.2.2.2.2.1) 0 HG.out).mono ?_; rintro en w2 ⟨rfl, h2⟩
  have H2 := Lib.hid (show Work w2 (w.heap.size + 3) gw gr r lu hu wu gu nu (.slice none 0 0) [] [] ∧ Blk w2 w.heap.size 29 #[.int .i64 r.me, .int .i64 r.kept.view, .int .i64 r.kept.normal, .bool r.kept.calm, .slice A0 n0 c0, .int .i64 r.kept.commit, .slice A1 r.have_.length c1, .slice A2 r.wants.length c2, .slice A3 r.gives.length c3, .slice A4 r.given.length c4] ∧ Blk w2 (w.heap.size + 1) 31 #[.int .i64 m.kind, .int .i64 m.from_, .int .i64 m.tq, .int .i64 m.view, .int .i64 m.normal, .int .i64 m.commit, .int .i64 m.n, .slice A m.log.length c] ∧ Blk w2 (w.heap.size + 2) 29 #[.int .i64 0, .int .i64 0, .int .i64 0, .bool false, .slice none 0 0, .int .i64 0, .slice none 0 0, .slice none 0 0, .slice none 0 0, .slice none 0 0] ∧ Below w.heap.size w w2 ∧ w.heap.size + 3 ≤ w2.heap.size from
    ⟨H1.out.1.below h2, H1.out.2.1.same h2, H1.out.2.2.1.same h2, H1.out.2.2.2.1.same h2, H1.out.2.2.2.2.1.trans (h2.mono H1.out.2.2.2.2.1.size), Nat.le_trans H1.out.2.2.2.2.2 h2.size⟩)
  clear h2 k0 k1 k2 k3 k4 k5 k6 k7 kl
  have hs := H2.out.2.1
  have s0 := hs.cell 0
  have s1 := hs.cell 1
  simp only [List.getElem?_toArray, List.getElem?_cons_zero, List.getElem?_cons_succ] at s0 s1
  have sl := hs.lt
  have hk := H2.out.2.2.1
  have k0 := hk.cell 0
  have k2 := hk.cell 2
  have k3 := hk.cell 3
  simp only [List.getElem?_toArray, List.getElem?_cons_zero, List.getElem?_cons_succ] at k0 k2 k3
  have kl := hk.lt
  clear hs hk
  have H3 := Lib.hid (show Work w2 (w.heap.size + 3) gw gr r lu hu wu gu nu (.slice none 0 0) [] [] ∧ Blk w2 (w.heap.size + 1) 31 #[.int .i64 m.kind, .int .i64 m.from_, .int .i64 m.tq, .int .i64 m.view, .int .i64 m.normal, .int .i64 m.commit, .int .i64 m.n, .slice A m.log.length c] ∧ Blk w2 (w.heap.size + 2) 29 #[.int .i64 0, .int .i64 0, .int .i64 0, .bool false, .slice none 0 0, .int .i64 0, .slice none 0 0, .slice none 0 0, .slice none 0 0, .slice none 0 0] ∧ Below w.heap.size w w2 ∧ w.heap.size + 3 ≤ w2.heap.size from
    ⟨H2.out.1, H2.out.2.2.1, H2.out.2.2.2.1, H2.out.2.2.2.2.1, H2.out.2.2.2.2.2⟩)
  clear k0 k2 k3 kl
  have hk := H3.out.2.1
  have k0 := hk.cell 0
  have k1 := hk.cell 1
  have k2 := hk.cell 2
  have k3 := hk.cell 3
  have k4 := hk.cell 4
  have k5 := hk.cell 5
  have k6 := hk.cell 6
  have k7 := hk.cell 7
  simp only [List.getElem?_toArray, List.getElem?_cons_zero, List.getElem?_cons_succ] at k0 k1 k2 k3 k4 k5 k6 k7
  have kl := hk.lt
  clear hk
  have hft : m.from_ ≠ r.me := fun e => HMF.out.2.2.2.2.1 (e.trans HT.out.symm)
  have hf0 : 0 ≤ m.from_ := HMF.out.2.2.1.1
  have hf3 : m.from_ < 3 := by have := HMF.out.2.2.1; unfold Scu.InR at this; omega
  have HFR := Lib.hid (And.intro hft (And.intro hf0 hf3))
  have HLX := Lib.hid (((LowStrs.of HX.out).keep H3.out.2.2.2.1).up (show w.heap.size ≤ w.heap.size + 3 by omega))
  clear hft hf0 hf3
  go_wp2_with fail
  refine (onWant_e w2 (w.heap.size + 3) gw gr r m A m.log.length c [] H3.out.1.e H3.out.2.2.2.2 H3R.out hvw HFR.out.2.1 HFR.out.2.2 (by simp [R47])).mono ?_; rintro en w3 ⟨rfl, hw3, h3⟩
  rw [List.nil_append, HMS.out] at hw3
  have hz3 : Blk w3 (w.heap.size + 2) 29 #[.int .i64 0, .int .i64 0, .int .i64 0, .bool false, .slice none 0 0, .int .i64 0, .slice none 0 0, .slice none 0 0, .slice none 0 0, .slice none 0 0] := H3.out.2.2.1.below h3 (by omega)
  have hb3 : Below w.heap.size w w3 := H3.out.2.2.2.1.trans (h3.mono (by omega))
  clear h3 k0 k1 k2 k3 k4 k5 k6 k7 kl s0 s1 sl
  obtain ⟨lu3, hv3, wv3, gv3, nv3, ov3, css3, hw3⟩ := hw3
  obtain ⟨Ao, co, rfl⟩ := hw3.out.form
  obtain ⟨E0, m0, d0, E1, d1, E2, d2, E3, d3, E4, d4, rfl, rfl, rfl, rfl, rfl⟩ := hw3.own.is.forms
  have hwb := hw3.wb
  have hrb := hw3.rb
  have f0 := hwb.cell 0
  have f1 := hwb.cell 1
  simp only [List.getElem?_toArray, List.getElem?_cons_zero, List.getElem?_cons_succ] at f0 f1
  have fl := hwb.lt
  have k0 := hrb.cell 0
  have k1 := hrb.cell 1
  have k2 := hrb.cell 2
  have k3 := hrb.cell 3
  have k4 := hrb.cell 4
  have k5 := hrb.cell 5
  have k6 := hrb.cell 6
  have k7 := hrb.cell 7
  have k8 := hrb.cell 8
  have k9 := hrb.cell 9
  simp only [List.getElem?_toArray, List.getElem?_cons_zero, List.getElem?_cons_succ] at k0 k1 k2 k3 k4 k5 k6 k7 k8 k9
  have kz := hrb.frozen
  have kl := hrb.lt
  have z0 := hz3.cell 0
  have z1 := hz3.cell 1
  have z2 := hz3.cell 2
  have z3 := hz3.cell 3
  have z4 := hz3.cell 4
  have z5 := hz3.cell 5
  have z6 := hz3.cell 6
  have z7 := hz3.cell 7
  have z8 := hz3.cell 8
  have z9 := hz3.cell 9
  simp only [List.getElem?_toArray, List.getElem?_cons_zero, List.getElem?_cons_succ] at z0 z1 z2 z3 z4 z5 z6 z7 z8 z9
  have zz := hz3.frozen
  have zl := hz3.lt
  have hr := blk_set10 (a0 := .int .i64 rr.me) (a1 := .int .i64 rr.kept.view) (a2 := .int .i64 rr.kept.normal) (a3 := .bool rr.kept.calm) (a4 := .slice E0 m0 d0) (a5 := .int .i64 rr.kept.commit) (a6 := .slice E1 rr.have_.length d1) (a7 := .slice E2 rr.wants.length d2) (a8 := .slice E3 rr.gives.length d3) (a9 := .slice E4 rr.given.length d4) hz3
  have hsm := Same.sets10 (Ts := [9, 3, 4, 24, 31, 48]) (B := 0) (a0 := .int .i64 rr.me) (a1 := .int .i64 rr.kept.view) (a2 := .int .i64 rr.kept.normal) (a3 := .bool rr.kept.calm) (a4 := .slice E0 m0 d0) (a5 := .int .i64 rr.kept.commit) (a6 := .slice E1 rr.have_.length d1) (a7 := .slice E2 rr.wants.length d2) (a8 := .slice E3 rr.gives.length d3) (a9 := .slice E4 rr.given.length d4) hz3 (Nat.zero_le _) (by decide)
  have hwb2 := blk_keep hwb hsm (by simp)
  have q0 := hwb2.cell 0
  have q1 := hwb2.cell 1
  simp only [List.getElem?_toArray, List.getElem?_cons_zero, List.getElem?_cons_succ] at q0 q1
  have hT := hw3.own.is.same (hsm.mono (by simp) (Nat.le_refl _))
  have hO := hw3.out.is.same (Ts := [9, 31]) (by simp) (hsm.mono (by simp) (Nat.le_refl _)) (fun _ _ h => h.same (Ts := [9, 31]) (by simp) (hsm.mono (by simp) (Nat.le_refl _)))
  have hL := below_set10 (a0 := .int .i64 rr.me) (a1 := .int .i64 rr.kept.view) (a2 := .int .i64 rr.kept.normal) (a3 := .bool rr.kept.calm) (a4 := .slice E0 m0 d0) (a5 := .int .i64 rr.kept.commit) (a6 := .slice E1 rr.have_.length d1) (a7 := .slice E2 rr.wants.length d2) (a8 := .slice E3 rr.gives.length d3) (a9 := .slice E4 rr.given.length d4) hb3 (show w.heap.size ≤ w.heap.size + 2 by omega)
  have r0 := hr.cell 0
  have r1 := hr.cell 1
  have r2 := hr.cell 2
  have r3 := hr.cell 3
  have r4 := hr.cell 4
  have r5 := hr.cell 5
  have r6 := hr.cell 6
  have r7 := hr.cell 7
  have r8 := hr.cell 8
  have r9 := hr.cell 9
  simp only [List.getElem?_toArray, List.getElem?_cons_zero, List.getElem?_cons_succ] at r0 r1 r2 r3 r4 r5 r6 r7 r8 r9
  have rz := hr.frozen
  have rl := hr.lt
  have hA : ∀ g, (Value.slice Ao ms.length co).ownBlock = some g → w.heap.size ≤ g := fun g hg => by have := (hw3.out.row.lt g hg).1; omega
  have HT := Lib.hid (And.intro hT (And.intro hO (And.intro hL hA)))
  clear hr hsm hT hO hL hwb hrb hw3 hz3 hb3 hwb2 hA
  go_wp2_with fail
  go_region
  go_wp2
  refine bodyPost_ret (v := .tuple #[.agg #[.int .i64 rr.me, .int .i64 rr.kept.view, .int .i64 rr.kept.normal, .bool rr.kept.calm, .slice E0 m0 d0, .int .i64 rr.kept.commit, .slice E1 rr.have_.length d1, .slice E2 rr.wants.length d2, .slice E3 rr.gives.length d3, .slice E4 rr.given.length d4], .slice Ao ms.length co, .int .i64 0]) (by simp [results, Try.results5, go_sem, r0, r1, r2, r3, r4, r5, r6, r7, r8, r9]) rfl ?_
  exact ⟨⟨_, _, _, _, _, _, rfl, HT.out.1.same (Same.drew _), HT.out.2.1.same (Ts := [9, 31]) (by simp) (Same.drew _) (fun _ _ h => h.same (Ts := [9]) (by simp) (Same.drew _)), HT.out.2.2.2⟩, HT.out.2.2.1.drew⟩
theorem hear_8 (lv hv wv gv nv xv : Value) (r : Scu.Replica) (m : Scu.Message) (w : World) (B : Nat) (hr : IsRep w B lv hv wv gv nv r) (hx : IsStrs w B xv m.log) (hf : Scu.repFault r = 0) (hg : Scu.msgFault m = 0) (ht : m.tq = r.me) (hv' : ¬ m.view < r.kept.view) (rr : Scu.Replica) (ms : List Scu.Message) (hkd : m.kind = 4) (hms : Scu.hearGive r m = (rr, ms)) :
    Calls Try.prog 5 #[.agg #[.int .i64 r.me, .int .i64 r.kept.view, .int .i64 r.kept.normal, .bool r.kept.calm, lv, .int .i64 r.kept.commit, hv, wv, gv, nv], .agg #[.int .i64 m.kind, .int .i64 m.from_, .int .i64 m.tq, .int .i64 m.view, .int .i64 m.normal, .int .i64 m.commit, .int .i64 m.n, xv]] w fun e w' => TellN w.heap.size w' rr ms 0 e ∧ Below w.heap.size w w' := by
  have htb : (m.tq != r.me) = false := by simpa using ht
  have hvb : decide (m.view < r.kept.view) = false := by simpa using hv'
  have HG := Lib.hid hg
  have HMF := Lib.hid (Scu.msgFault_ok hg)
  have HT := Lib.hid ht
  have HMS := Lib.hid hms
  have H3R := Lib.hid (rep_three hf)
  have q1 : (m.kind == 1) = false := by rw [hkd]; rfl
  have q2 : (m.kind == 2) = false := by rw [hkd]; rfl
  have q3 : (m.kind == 3) = false := by rw [hkd]; rfl
  clear ht hg hv' hms hkd
  have hvw := rep_view hf
  have HV := Lib.hid hr
  have HX := Lib.hid hx
  have HF := Lib.hid hf
  obtain ⟨A0, n0, c0, A1, c1, A2, c2, A3, c3, A4, c4, rfl, rfl, rfl, rfl, rfl⟩ := hr.forms
  obtain ⟨A, c, rfl, _, _⟩ := hx.ex
  clear hr hf hx
  go_enter Try.func5, Try.ntmps5
  go_wp2_with fail
  have h0 : Below w.heap.size w (((w.alloc (Obj.cells #[.int .i64 r.me, .int .i64 r.kept.view, .int .i64 r.kept.normal, .bool r.kept.calm, .slice A0 n0 c0, .int .i64 r.kept.commit, .slice A1 r.have_.length c1, .slice A2 r.wants.length c2, .slice A3 r.gives.length c3, .slice A4 r.given.length c4] 29)).alloc (Obj.cells #[.int .i64 m.kind, .int .i64 m.from_, .int .i64 m.tq, .int .i64 m.view, .int .i64 m.normal, .int .i64 m.commit, .int .i64 m.n, .slice A m.log.length c] 31)).alloc (Obj.cells #[.int .i64 0, .int .i64 0, .int .i64 0, .bool false, .slice none 0 0, .int .i64 0, .slice none 0 0, .slice none 0 0, .slice none 0 0, .slice none 0 0] 29)) := below_three w _ _ _
  refine (begin_2 _ _ _ _ _ r _ B (HV.out.below h0) HF.out).mono ?_; rintro en w1 ⟨⟨gw, gr, lu, hu, wu, gu, nu, rfl, hW, _⟩, h1⟩
  have e2 : (((w.alloc (Obj.cells #[.int .i64 r.me, .int .i64 r.kept.view, .int .i64 r.kept.normal, .bool r.kept.calm, .slice A0 n0 c0, .int .i64 r.kept.commit, .slice A1 r.have_.length c1, .slice A2 r.wants.length c2, .slice A3 r.gives.length c3, .slice A4 r.given.length c4] 29)).alloc (Obj.cells #[.int .i64 m.kind, .int .i64 m.from_, .int .i64 m.tq, .int .i64 m.view, .int .i64 m.normal, .int .i64 m.commit, .int .i64 m.n, .slice A m.log.length c] 31)).alloc (Obj.cells #[.int .i64 0, .int .i64 0, .int .i64 0, .bool false, .slice none 0 0, .int .i64 0, .slice none 0 0, .slice none 0 0, .slice none 0 0, .slice none 0 0] 29)).heap.size = w.heap.size + 3 := by simp
  rw [e2] at hW
  have hs : Blk w1 w.heap.size 29 #[.int .i64 r.me, .int .i64 r.kept.view, .int .i64 r.kept.normal, .bool r.kept.calm, .slice A0 n0 c0, .int .i64 r.kept.commit, .slice A1 r.have_.length c1, .slice A2 r.wants.length c2, .slice A3 r.gives.length c3, .slice A4 r.given.length c4] := (((Blk.new w _ _).alloc _).alloc _).same h1
  have hk : Blk w1 (w.heap.size + 1) 31 #[.int .i64 m.kind, .int .i64 m.from_, .int .i64 m.tq, .int .i64 m.view, .int .i64 m.normal, .int .i64 m.commit, .int .i64 m.n, .slice A m.log.length c] := ((Blk.new' (by simp)).alloc _).same h1
  have hz : Blk w1 (w.heap.size + 2) 29 #[.int .i64 0, .int .i64 0, .int .i64 0, .bool false, .slice none 0 0, .int .i64 0, .slice none 0 0, .slice none 0 0, .slice none 0 0, .slice none 0 0] := (Blk.new' (by simp)).same h1
  have hb := h0.trans (h1.mono h0.size)
  have hsz : w.heap.size + 3 ≤ w1.heap.size := by have := h1.size; rw [e2] at this; exact this
  have H1 := Lib.hid (And.intro hW (And.intro hs (And.intro hk (And.intro hz (And.intro hb hsz)))))
  have k0 := hk.cell 0
  have k1 := hk.cell 1
  have k2 := hk.cell 2
  have k3 := hk.cell 3
  have k4 := hk.cell 4
  have k5 := hk.cell 5
  have k6 := hk.cell 6
  have k7 := hk.cell 7
  simp only [List.getElem?_toArray, List.getElem?_cons_zero, List.getElem?_cons_succ] at k0 k1 k2 k3 k4 k5 k6 k7
  have kl := hk.lt
  clear h1 h0 hs hz hb hW e2 hsz HF hk
  go_wp2_with fail
  refine (msgCheck_a _ m w1 B (HX.out.below H1.out.2.2.2.2.1) 0 HG.out).mono ?_; rintro en w2 ⟨rfl, h2⟩
  have H2 := Lib.hid (show Work w2 (w.heap.size + 3) gw gr r lu hu wu gu nu (.slice none 0 0) [] [] ∧ Blk w2 w.heap.size 29 #[.int .i64 r.me, .int .i64 r.kept.view, .int .i64 r.kept.normal, .bool r.kept.calm, .slice A0 n0 c0, .int .i64 r.kept.commit, .slice A1 r.have_.length c1, .slice A2 r.wants.length c2, .slice A3 r.gives.length c3, .slice A4 r.given.length c4] ∧ Blk w2 (w.heap.size + 1) 31 #[.int .i64 m.kind, .int .i64 m.from_, .int .i64 m.tq, .int .i64 m.view, .int .i64 m.normal, .int .i64 m.commit, .int .i64 m.n, .slice A m.log.length c] ∧ Blk w2 (w.heap.size + 2) 29 #[.int .i64 0, .int .i64 0, .int .i64 0, .bool false, .slice none 0 0, .int .i64 0, .slice none 0 0, .slice none 0 0, .slice none 0 0, .slice none 0 0] ∧ Below w.heap.size w w2 ∧ w.heap.size + 3 ≤ w2.heap.size from
    ⟨H1.out.1.below h2, H1.out.2.1.same h2, H1.out.2.2.1.same h2, H1.out.2.2.2.1.same h2, H1.out.2.2.2.2.1.trans (h2.mono H1.out.2.2.2.2.1.size), Nat.le_trans H1.out.2.2.2.2.2 h2.size⟩)
  clear h2 k0 k1 k2 k3 k4 k5 k6 k7 kl
  have hs := H2.out.2.1
  have s0 := hs.cell 0
  have s1 := hs.cell 1
  simp only [List.getElem?_toArray, List.getElem?_cons_zero, List.getElem?_cons_succ] at s0 s1
  have sl := hs.lt
  have hk := H2.out.2.2.1
  have k0 := hk.cell 0
  have k2 := hk.cell 2
  have k3 := hk.cell 3
  simp only [List.getElem?_toArray, List.getElem?_cons_zero, List.getElem?_cons_succ] at k0 k2 k3
  have kl := hk.lt
  clear hs hk
  have H3 := Lib.hid (show Work w2 (w.heap.size + 3) gw gr r lu hu wu gu nu (.slice none 0 0) [] [] ∧ Blk w2 (w.heap.size + 1) 31 #[.int .i64 m.kind, .int .i64 m.from_, .int .i64 m.tq, .int .i64 m.view, .int .i64 m.normal, .int .i64 m.commit, .int .i64 m.n, .slice A m.log.length c] ∧ Blk w2 (w.heap.size + 2) 29 #[.int .i64 0, .int .i64 0, .int .i64 0, .bool false, .slice none 0 0, .int .i64 0, .slice none 0 0, .slice none 0 0, .slice none 0 0, .slice none 0 0] ∧ Below w.heap.size w w2 ∧ w.heap.size + 3 ≤ w2.heap.size from
    ⟨H2.out.1, H2.out.2.2.1, H2.out.2.2.2.1, H2.out.2.2.2.2.1, H2.out.2.2.2.2.2⟩)
  clear k0 k2 k3 kl
  have hk := H3.out.2.1
  have k0 := hk.cell 0
  have k1 := hk.cell 1
  have k2 := hk.cell 2
  have k3 := hk.cell 3
  have k4 := hk.cell 4
  have k5 := hk.cell 5
  have k6 := hk.cell 6
  have k7 := hk.cell 7
  simp only [List.getElem?_toArray, List.getElem?_cons_zero, List.getElem?_cons_succ] at k0 k1 k2 k3 k4 k5 k6 k7
  have kl := hk.lt
  clear hk
  have hft : m.from_ ≠ r.me := fun e => HMF.out.2.2.2.2.1 (e.trans HT.out.symm)
  have hf0 : 0 ≤ m.from_ := HMF.out.2.2.1.1
  have hf3 : m.from_ < 3 := by have := HMF.out.2.2.1; unfold Scu.InR at this; omega
  have HFR := Lib.hid (And.intro hft (And.intro hf0 hf3))
  have HLX := Lib.hid (((LowStrs.of HX.out).keep H3.out.2.2.2.1).up (show w.heap.size ≤ w.heap.size + 3 by omega))
  clear hft hf0 hf3
  go_wp2_with fail
  refine (onGive_e w2 (w.heap.size + 3) gw gr r m A c [] H3.out.1.e H3.out.2.2.2.2 H3R.out hvw HFR.out.2.1 HFR.out.2.2 HLX.out (by simp [R47])).mono ?_; rintro en w3 ⟨rfl, hw3, h3⟩
  rw [List.nil_append, HMS.out] at hw3
  have hz3 : Blk w3 (w.heap.size + 2) 29 #[.int .i64 0, .int .i64 0, .int .i64 0, .bool false, .slice none 0 0, .int .i64 0, .slice none 0 0, .slice none 0 0, .slice none 0 0, .slice none 0 0] := H3.out.2.2.1.below h3 (by omega)
  have hb3 : Below w.heap.size w w3 := H3.out.2.2.2.1.trans (h3.mono (by omega))
  clear h3 k0 k1 k2 k3 k4 k5 k6 k7 kl s0 s1 sl
  obtain ⟨lu3, hv3, wv3, gv3, nv3, ov3, css3, hw3⟩ := hw3
  obtain ⟨Ao, co, rfl⟩ := hw3.out.form
  obtain ⟨E0, m0, d0, E1, d1, E2, d2, E3, d3, E4, d4, rfl, rfl, rfl, rfl, rfl⟩ := hw3.own.is.forms
  have hwb := hw3.wb
  have hrb := hw3.rb
  have f0 := hwb.cell 0
  have f1 := hwb.cell 1
  simp only [List.getElem?_toArray, List.getElem?_cons_zero, List.getElem?_cons_succ] at f0 f1
  have fl := hwb.lt
  have k0 := hrb.cell 0
  have k1 := hrb.cell 1
  have k2 := hrb.cell 2
  have k3 := hrb.cell 3
  have k4 := hrb.cell 4
  have k5 := hrb.cell 5
  have k6 := hrb.cell 6
  have k7 := hrb.cell 7
  have k8 := hrb.cell 8
  have k9 := hrb.cell 9
  simp only [List.getElem?_toArray, List.getElem?_cons_zero, List.getElem?_cons_succ] at k0 k1 k2 k3 k4 k5 k6 k7 k8 k9
  have kz := hrb.frozen
  have kl := hrb.lt
  have z0 := hz3.cell 0
  have z1 := hz3.cell 1
  have z2 := hz3.cell 2
  have z3 := hz3.cell 3
  have z4 := hz3.cell 4
  have z5 := hz3.cell 5
  have z6 := hz3.cell 6
  have z7 := hz3.cell 7
  have z8 := hz3.cell 8
  have z9 := hz3.cell 9
  simp only [List.getElem?_toArray, List.getElem?_cons_zero, List.getElem?_cons_succ] at z0 z1 z2 z3 z4 z5 z6 z7 z8 z9
  have zz := hz3.frozen
  have zl := hz3.lt
  have hr := blk_set10 (a0 := .int .i64 rr.me) (a1 := .int .i64 rr.kept.view) (a2 := .int .i64 rr.kept.normal) (a3 := .bool rr.kept.calm) (a4 := .slice E0 m0 d0) (a5 := .int .i64 rr.kept.commit) (a6 := .slice E1 rr.have_.length d1) (a7 := .slice E2 rr.wants.length d2) (a8 := .slice E3 rr.gives.length d3) (a9 := .slice E4 rr.given.length d4) hz3
  have hsm := Same.sets10 (Ts := [9, 3, 4, 24, 31, 48]) (B := 0) (a0 := .int .i64 rr.me) (a1 := .int .i64 rr.kept.view) (a2 := .int .i64 rr.kept.normal) (a3 := .bool rr.kept.calm) (a4 := .slice E0 m0 d0) (a5 := .int .i64 rr.kept.commit) (a6 := .slice E1 rr.have_.length d1) (a7 := .slice E2 rr.wants.length d2) (a8 := .slice E3 rr.gives.length d3) (a9 := .slice E4 rr.given.length d4) hz3 (Nat.zero_le _) (by decide)
  have hwb2 := blk_keep hwb hsm (by simp)
  have q0 := hwb2.cell 0
  have q1 := hwb2.cell 1
  simp only [List.getElem?_toArray, List.getElem?_cons_zero, List.getElem?_cons_succ] at q0 q1
  have hT := hw3.own.is.same (hsm.mono (by simp) (Nat.le_refl _))
  have hO := hw3.out.is.same (Ts := [9, 31]) (by simp) (hsm.mono (by simp) (Nat.le_refl _)) (fun _ _ h => h.same (Ts := [9, 31]) (by simp) (hsm.mono (by simp) (Nat.le_refl _)))
  have hL := below_set10 (a0 := .int .i64 rr.me) (a1 := .int .i64 rr.kept.view) (a2 := .int .i64 rr.kept.normal) (a3 := .bool rr.kept.calm) (a4 := .slice E0 m0 d0) (a5 := .int .i64 rr.kept.commit) (a6 := .slice E1 rr.have_.length d1) (a7 := .slice E2 rr.wants.length d2) (a8 := .slice E3 rr.gives.length d3) (a9 := .slice E4 rr.given.length d4) hb3 (show w.heap.size ≤ w.heap.size + 2 by omega)
  have r0 := hr.cell 0
  have r1 := hr.cell 1
  have r2 := hr.cell 2
  have r3 := hr.cell 3
  have r4 := hr.cell 4
  have r5 := hr.cell 5
  have r6 := hr.cell 6
  have r7 := hr.cell 7
  have r8 := hr.cell 8
  have r9 := hr.cell 9
  simp only [List.getElem?_toArray, List.getElem?_cons_zero, List.getElem?_cons_succ] at r0 r1 r2 r3 r4 r5 r6 r7 r8 r9
  have rz := hr.frozen
  have rl := hr.lt
  have hA : ∀ g, (Value.slice Ao ms.length co).ownBlock = some g → w.heap.size ≤ g := fun g hg => by have := (hw3.out.row.lt g hg).1; omega
  have HT := Lib.hid (And.intro hT (And.intro hO (And.intro hL hA)))
  clear hr hsm hT hO hL hwb hrb hw3 hz3 hb3 hwb2 hA
  go_wp2_with fail
  go_region
  go_wp2
  refine bodyPost_ret (v := .tuple #[.agg #[.int .i64 rr.me, .int .i64 rr.kept.view, .int .i64 rr.kept.normal, .bool rr.kept.calm, .slice E0 m0 d0, .int .i64 rr.kept.commit, .slice E1 rr.have_.length d1, .slice E2 rr.wants.length d2, .slice E3 rr.gives.length d3, .slice E4 rr.given.length d4], .slice Ao ms.length co, .int .i64 0]) (by simp [results, Try.results5, go_sem, r0, r1, r2, r3, r4, r5, r6, r7, r8, r9]) rfl ?_
  exact ⟨⟨_, _, _, _, _, _, rfl, HT.out.1.same (Same.drew _), HT.out.2.1.same (Ts := [9, 31]) (by simp) (Same.drew _) (fun _ _ h => h.same (Ts := [9]) (by simp) (Same.drew _)), HT.out.2.2.2⟩, HT.out.2.2.1.drew⟩
theorem hear_c (lv hv wv gv nv xv : Value) (r : Scu.Replica) (m : Scu.Message) (w : World) (B : Nat) (hr : IsRep w B lv hv wv gv nv r) (hx : IsStrs w B xv m.log) :
    Calls Try.prog 5 #[.agg #[.int .i64 r.me, .int .i64 r.kept.view, .int .i64 r.kept.normal, .bool r.kept.calm, lv, .int .i64 r.kept.commit, hv, wv, gv, nv], .agg #[.int .i64 m.kind, .int .i64 m.from_, .int .i64 m.tq, .int .i64 m.view, .int .i64 m.normal, .int .i64 m.commit, .int .i64 m.n, xv]] w fun e w' => TellN w.heap.size w' (Scu.hear r m).1 (Scu.hear r m).2.1 (Scu.hear r m).2.2 e ∧ Below w.heap.size w w' := by
  by_cases hf : Scu.repFault r = 0
  · by_cases hg : Scu.msgFault m = 0
    · by_cases ht : m.tq = r.me
      · by_cases hv' : m.view < r.kept.view
        · have e : Scu.hear r m = (Scu.replica0, [], 9) := by unfold Scu.hear; rw [if_neg (fun h => h hf), if_neg (fun h => h hg), if_neg (fun h => h ht), if_pos hv']
          rw [e]
          exact hear_4 lv hv wv gv nv xv r m w B hr hx hf hg ht hv'
        · have e : Scu.hear r m = ((Scu.hearIt r m).1, (Scu.hearIt r m).2, 0) := by unfold Scu.hear; rw [if_neg (fun h => h hf), if_neg (fun h => h hg), if_neg (fun h => h ht), if_neg hv']
          rw [e]
          have hk := Scu.msgFault_ok hg
          have h4 : m.kind = 1 ∨ m.kind = 2 ∨ m.kind = 3 ∨ m.kind = 4 := by have := hk.1; have := hk.2.1; omega
          unfold Scu.hearIt
          rcases h4 with h | h | h | h
          · rw [if_pos h]
            exact hear_5 lv hv wv gv nv xv r m w B hr hx hf hg ht hv' _ _ h rfl
          · rw [if_neg (by omega), if_pos h]
            exact hear_6 lv hv wv gv nv xv r m w B hr hx hf hg ht hv' _ _ h rfl
          · rw [if_neg (by omega), if_neg (by omega), if_pos h]
            exact hear_7 lv hv wv gv nv xv r m w B hr hx hf hg ht hv' _ _ h rfl
          · rw [if_neg (by omega), if_neg (by omega), if_neg (by omega)]
            exact hear_8 lv hv wv gv nv xv r m w B hr hx hf hg ht hv' _ _ h rfl
      · have e : Scu.hear r m = (Scu.replica0, [], 6) := by unfold Scu.hear; rw [if_neg (fun h => h hf), if_neg (fun h => h hg), if_pos ht]
        rw [e]
        exact hear_3 lv hv wv gv nv xv r m w B hr hx hf hg ht
    · have e : Scu.hear r m = (Scu.replica0, [], Scu.msgFault m) := by unfold Scu.hear; rw [if_neg (fun h => h hf), if_pos hg]
      rw [e]
      exact hear_2 lv hv wv gv nv xv r m w B hr hx hf _ rfl hg
  · have e : Scu.hear r m = (Scu.replica0, [], Scu.repFault r) := by unfold Scu.hear; rw [if_pos hf]
    rw [e]
    exact hear_1 lv hv wv gv nv xv r m w B hr hx _ rfl hf
end Go.Proofs.Ytlaibljdlpmbfaa

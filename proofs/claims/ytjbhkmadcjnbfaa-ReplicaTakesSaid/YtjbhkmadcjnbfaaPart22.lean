/- Part 22: words and walks under the law 'ReplicaTakes'. -/
import Derived.Test.YtjbhkmadcjnbfaaPart20
import Derived.Test.YtjbhkmadcjnbfaaPart21
set_option linter.unusedVariables false
set_option linter.unusedSimpArgs false
/- Walks: ref.TakenOf. -/
namespace Go.Proofs.Ytjbhkmadcjnbfaa
set_option linter.unusedVariables false
set_option linter.unusedSimpArgs false
open Go.RowKit
set_option maxHeartbeats 4000000
set_option maxRecDepth 100000

theorem OwnRep.push_log {P w4 : World} {base : Nat} {r : Scu.Replica} {lu hv wv gv nv v4 : Value} (h : OwnRep P base lu hv wv gv nv r) (hap : ApG P base gv r.gives lu) (hm : (r.kept.log.length + 1) * 16 ≤ R47) {e : Scu.Str} (he : e.size ≤ R47)
    (h4 : w4.ownsRow base 9 1 v4 (r.kept.log.length + 1) (r.kept.log.map Value.string ++ [.string e])) (hg : P.grownBy w4 lu.ownBlock) :
    OwnRep w4 base v4 hv wv gv nv { r with kept := { r.kept with log := r.kept.log ++ [e] } } := by
  have hrow := h.own.log.1
  have hs0 : Same [3, 4, 24] 0 P w4 := Same.own hrow hg (Nat.zero_le _) (by decide)
  obtain ⟨kss, hk, hka⟩ := hap
  have hk4 : OwnKs w4 base gv r.gives kss := ⟨hk.len, hk.five, own_same hk.row (Ts := [24]) (by simp) (hs0.mono (by simp) (Nat.le_refl _)), fun j cs k a b => by
    obtain ⟨lv, e', hl⟩ := hk.each j cs k a b
    refine ⟨lv, e', hl.grown_ap hg fun x hx => hka cs (List.mem_of_getElem? a) lv (by rw [e']; simp) x hx⟩, hk.max⟩
  refine ⟨⟨⟨?_, by simpa using hm, fun s hs => ?_⟩, h.own.have_.same (hs0.mono (by simp) (Nat.le_refl _)), h.own.wants.same (hs0.mono (by simp) (Nat.le_refl _)), h.own.given.same (hs0.mono (by simp) (Nat.le_refl _)), h.own.apart⟩, kss, hk4⟩
  · rw [List.length_append, List.map_append]
    exact h4
  · rcases List.mem_append.1 hs with h' | h'
    · exact h.own.log.2.2 s h'
    · rw [List.mem_singleton] at h'
      subst h'
      exact he
theorem takenOf_1 (lv hv wv gv nv : Value) (r : Scu.Replica) (e : Scu.Str) (w : World) (B : Nat) (hr : IsRep w B lv hv wv gv nv r) (f : Int) (hf : Scu.repFault r = f) (hn : f ≠ 0) :
    Calls Try.prog 13 #[.agg #[.int .i64 r.me, .int .i64 r.kept.view, .int .i64 r.kept.normal, .bool r.kept.calm, lv, .int .i64 r.kept.commit, hv, wv, gv, nv], .string e] w fun en w' => TellRet w' Scu.replica0 [] f en ∧ Below w.heap.size w w' := by
  have hfb : (f != 0) = true := by simpa using hn
  have hfe : (f == 0) = false := by simpa using hn
  clear hn
  have HV := Lib.hid hr
  have HF := Lib.hid hf
  obtain ⟨A0, n0, c0, A1, c1, A2, c2, A3, c3, A4, c4, rfl, rfl, rfl, rfl, rfl⟩ := hr.forms
  clear hr hf
  go_enter Try.func13, Try.ntmps13
  go_wp2_with fail
  have h0 : Below w.heap.size w ((w.alloc (Obj.cells #[.int .i64 r.me, .int .i64 r.kept.view, .int .i64 r.kept.normal, .bool r.kept.calm, .slice A0 n0 c0, .int .i64 r.kept.commit, .slice A1 r.have_.length c1, .slice A2 r.wants.length c2, .slice A3 r.gives.length c3, .slice A4 r.given.length c4] 29)).alloc (Obj.cells #[.int .i64 0, .int .i64 0, .int .i64 0, .bool false, .slice none 0 0, .int .i64 0, .slice none 0 0, .slice none 0 0, .slice none 0 0, .slice none 0 0] 29)) := (below_alloc w _).alloc (by simp) _
  refine (repFaultRef_a _ _ _ _ _ r _ B (HV.out.below h0) f HF.out).mono ?_; rintro en w1 ⟨rfl, h1⟩
  have hz : Blk w1 (w.heap.size + 1) 29 #[.int .i64 0, .int .i64 0, .int .i64 0, .bool false, .slice none 0 0, .int .i64 0, .slice none 0 0, .slice none 0 0, .slice none 0 0, .slice none 0 0] := (Blk.new' (by simp)).same h1
  have hb := h0.trans (h1.mono h0.size)
  have z0 := hz.cell 0
  have z1 := hz.cell 1
  have z2 := hz.cell 2
  have z3 := hz.cell 3
  have z4 := hz.cell 4
  have z5 := hz.cell 5
  have z6 := hz.cell 6
  have z7 := hz.cell 7
  have z8 := hz.cell 8
  have z9 := hz.cell 9
  simp only [List.getElem?_toArray, List.getElem?_cons_zero, List.getElem?_cons_succ] at z0 z1 z2 z3 z4 z5 z6 z7 z8 z9
  have zz := hz.frozen
  have zl := hz.lt
  have hr := blk_set10 (a0 := .int .i64 0) (a1 := .int .i64 0) (a2 := .int .i64 0) (a3 := .bool false) (a4 := .slice none 0 0) (a5 := .int .i64 0) (a6 := .slice none 0 0) (a7 := .slice none 0 0) (a8 := .slice none 0 0) (a9 := .slice none 0 0) hz
  have r0 := hr.cell 0
  have r1 := hr.cell 1
  have r2 := hr.cell 2
  have r3 := hr.cell 3
  have r4 := hr.cell 4
  have r5 := hr.cell 5
  have r6 := hr.cell 6
  have r7 := hr.cell 7
  have r8 := hr.cell 8
  have r9 := hr.cell 9
  simp only [List.getElem?_toArray, List.getElem?_cons_zero, List.getElem?_cons_succ] at r0 r1 r2 r3 r4 r5 r6 r7 r8 r9
  have rz := hr.frozen
  have rl := hr.lt
  clear h1 h0
  go_wp2
  refine bodyPost_ret (v := .tuple #[.agg #[.int .i64 0, .int .i64 0, .int .i64 0, .bool false, .slice none 0 0, .int .i64 0, .slice none 0 0, .slice none 0 0, .slice none 0 0, .slice none 0 0], .slice none 0 0, .int .i64 f]) (by simp [results, Try.results13, go_sem, r0, r1, r2, r3, r4, r5, r6, r7, r8, r9]) rfl ?_
  exact ⟨tell_zero _ _, below_set10 hb (by omega)⟩
/- looked at, and led or not: the world behind is wb -/
theorem takenOf_2 (lv hv wv gv nv : Value) (r : Scu.Replica) (e : Scu.Str) (w : World) (B : Nat) (hr : IsRep w B lv hv wv gv nv r) (hf : Scu.repFault r = 0) (hl : Scu.leads r = false) :
    Calls Try.prog 13 #[.agg #[.int .i64 r.me, .int .i64 r.kept.view, .int .i64 r.kept.normal, .bool r.kept.calm, lv, .int .i64 r.kept.commit, hv, wv, gv, nv], .string e] w fun en w' => TellRet w' Scu.replica0 [] 14 en ∧ Below w.heap.size w w' := by
  have HL := Lib.hid hl
  clear hl
  have hvw := rep_view hf
  have HV := Lib.hid hr
  have HF := Lib.hid hf
  obtain ⟨A0, n0, c0, A1, c1, A2, c2, A3, c3, A4, c4, rfl, rfl, rfl, rfl, rfl⟩ := hr.forms
  clear hr hf
  go_enter Try.func13, Try.ntmps13
  go_wp2_with fail
  have h0 : Below w.heap.size w ((w.alloc (Obj.cells #[.int .i64 r.me, .int .i64 r.kept.view, .int .i64 r.kept.normal, .bool r.kept.calm, .slice A0 n0 c0, .int .i64 r.kept.commit, .slice A1 r.have_.length c1, .slice A2 r.wants.length c2, .slice A3 r.gives.length c3, .slice A4 r.given.length c4] 29)).alloc (Obj.cells #[.int .i64 0, .int .i64 0, .int .i64 0, .bool false, .slice none 0 0, .int .i64 0, .slice none 0 0, .slice none 0 0, .slice none 0 0, .slice none 0 0] 29)) := (below_alloc w _).alloc (by simp) _
  refine (repFaultRef_a _ _ _ _ _ r _ B (HV.out.below h0) 0 HF.out).mono ?_; rintro en wa ⟨rfl, h1⟩
  have hs : Blk wa w.heap.size 29 #[.int .i64 r.me, .int .i64 r.kept.view, .int .i64 r.kept.normal, .bool r.kept.calm, .slice A0 n0 c0, .int .i64 r.kept.commit, .slice A1 r.have_.length c1, .slice A2 r.wants.length c2, .slice A3 r.gives.length c3, .slice A4 r.given.length c4] := ((Blk.new w _ _).alloc _).same h1
  have hz : Blk wa (w.heap.size + 1) 29 #[.int .i64 0, .int .i64 0, .int .i64 0, .bool false, .slice none 0 0, .int .i64 0, .slice none 0 0, .slice none 0 0, .slice none 0 0, .slice none 0 0] := (Blk.new' (by simp)).same h1
  have hb := h0.trans (h1.mono h0.size)
  have HA := Lib.hid (And.intro hs (And.intro hz hb))
  have s0 := hs.cell 0
  have s1 := hs.cell 1
  have s2 := hs.cell 2
  have s3 := hs.cell 3
  have s4 := hs.cell 4
  have s5 := hs.cell 5
  have s6 := hs.cell 6
  have s7 := hs.cell 7
  have s8 := hs.cell 8
  have s9 := hs.cell 9
  simp only [List.getElem?_toArray, List.getElem?_cons_zero, List.getElem?_cons_succ] at s0 s1 s2 s3 s4 s5 s6 s7 s8 s9
  have sz := hs.frozen
  have sl := hs.lt
  clear h1 h0 hs hz hb HF
  go_wp2_with fail
  refine (leadsNow_a _ _ _ _ _ r hvw _ false HL.out).mono ?_; rintro en wb ⟨rfl, h2⟩
  have HB := Lib.hid (And.intro (HA.out.1.same h2) (And.intro (HA.out.2.1.same h2) (HA.out.2.2.trans (h2.mono HA.out.2.2.size))))
  clear h2 s0 s1 s2 s3 s4 s5 s6 s7 s8 s9 sz sl
  have hz := HB.out.2.1
  have z0 := hz.cell 0
  have z1 := hz.cell 1
  have z2 := hz.cell 2
  have z3 := hz.cell 3
  have z4 := hz.cell 4
  have z5 := hz.cell 5
  have z6 := hz.cell 6
  have z7 := hz.cell 7
  have z8 := hz.cell 8
  have z9 := hz.cell 9
  simp only [List.getElem?_toArray, List.getElem?_cons_zero, List.getElem?_cons_succ] at z0 z1 z2 z3 z4 z5 z6 z7 z8 z9
  have zz := hz.frozen
  have zl := hz.lt
  have hr := blk_set10 (a0 := .int .i64 0) (a1 := .int .i64 0) (a2 := .int .i64 0) (a3 := .bool false) (a4 := .slice none 0 0) (a5 := .int .i64 0) (a6 := .slice none 0 0) (a7 := .slice none 0 0) (a8 := .slice none 0 0) (a9 := .slice none 0 0) hz
  have r0 := hr.cell 0
  have r1 := hr.cell 1
  have r2 := hr.cell 2
  have r3 := hr.cell 3
  have r4 := hr.cell 4
  have r5 := hr.cell 5
  have r6 := hr.cell 6
  have r7 := hr.cell 7
  have r8 := hr.cell 8
  have r9 := hr.cell 9
  simp only [List.getElem?_toArray, List.getElem?_cons_zero, List.getElem?_cons_succ] at r0 r1 r2 r3 r4 r5 r6 r7 r8 r9
  have rz := hr.frozen
  have rl := hr.lt
  go_wp2
  refine bodyPost_ret (v := .tuple #[.agg #[.int .i64 0, .int .i64 0, .int .i64 0, .bool false, .slice none 0 0, .int .i64 0, .slice none 0 0, .slice none 0 0, .slice none 0 0, .slice none 0 0], .slice none 0 0, .int .i64 14]) (by simp [results, Try.results13, go_sem, r0, r1, r2, r3, r4, r5, r6, r7, r8, r9]) rfl ?_
  exact ⟨tell_zero _ _, below_set10 HB.out.2.2 (by omega)⟩
theorem takenOf_3 (lv hv wv gv nv : Value) (r : Scu.Replica) (e : Scu.Str) (w : World) (B : Nat) (hr : IsRep w B lv hv wv gv nv r) (hf : Scu.repFault r = 0) (hl : Scu.leads r = true) (h60 : r.kept.log.length = 60) :
    Calls Try.prog 13 #[.agg #[.int .i64 r.me, .int .i64 r.kept.view, .int .i64 r.kept.normal, .bool r.kept.calm, lv, .int .i64 r.kept.commit, hv, wv, gv, nv], .string e] w fun en w' => TellRet w' Scu.replica0 [] 7 en ∧ Below w.heap.size w w' := by
  have HL := Lib.hid hl
  have H60 := Lib.hid h60
  clear hl h60
  have hvw := rep_view hf
  have HV := Lib.hid hr
  have HF := Lib.hid hf
  obtain ⟨A0, n0, c0, A1, c1, A2, c2, A3, c3, A4, c4, rfl, rfl, rfl, rfl, rfl⟩ := hr.forms
  clear hr hf
  go_enter Try.func13, Try.ntmps13
  go_wp2_with fail
  have h0 : Below w.heap.size w ((w.alloc (Obj.cells #[.int .i64 r.me, .int .i64 r.kept.view, .int .i64 r.kept.normal, .bool r.kept.calm, .slice A0 n0 c0, .int .i64 r.kept.commit, .slice A1 r.have_.length c1, .slice A2 r.wants.length c2, .slice A3 r.gives.length c3, .slice A4 r.given.length c4] 29)).alloc (Obj.cells #[.int .i64 0, .int .i64 0, .int .i64 0, .bool false, .slice none 0 0, .int .i64 0, .slice none 0 0, .slice none 0 0, .slice none 0 0, .slice none 0 0] 29)) := (below_alloc w _).alloc (by simp) _
  refine (repFaultRef_a _ _ _ _ _ r _ B (HV.out.below h0) 0 HF.out).mono ?_; rintro en wa ⟨rfl, h1⟩
  have hs : Blk wa w.heap.size 29 #[.int .i64 r.me, .int .i64 r.kept.view, .int .i64 r.kept.normal, .bool r.kept.calm, .slice A0 n0 c0, .int .i64 r.kept.commit, .slice A1 r.have_.length c1, .slice A2 r.wants.length c2, .slice A3 r.gives.length c3, .slice A4 r.given.length c4] := ((Blk.new w _ _).alloc _).same h1
  have hz : Blk wa (w.heap.size + 1) 29 #[.int .i64 0, .int .i64 0, .int .i64 0, .bool false, .slice none 0 0, .int .i64 0, .slice none 0 0, .slice none 0 0, .slice none 0 0, .slice none 0 0] := (Blk.new' (by simp)).same h1
  have hb := h0.trans (h1.mono h0.size)
  have HA := Lib.hid (And.intro hs (And.intro hz hb))
  have s0 := hs.cell 0
  have s1 := hs.cell 1
  have s2 := hs.cell 2
  have s3 := hs.cell 3
  have s4 := hs.cell 4
  have s5 := hs.cell 5
  have s6 := hs.cell 6
  have s7 := hs.cell 7
  have s8 := hs.cell 8
  have s9 := hs.cell 9
  simp only [List.getElem?_toArray, List.getElem?_cons_zero, List.getElem?_cons_succ] at s0 s1 s2 s3 s4 s5 s6 s7 s8 s9
  have sz := hs.frozen
  have sl := hs.lt
  clear h1 h0 hs hz hb HF
  go_wp2_with fail
  refine (leadsNow_a _ _ _ _ _ r hvw _ true HL.out).mono ?_; rintro en wb ⟨rfl, h2⟩
  have HB := Lib.hid (And.intro (HA.out.1.same h2) (And.intro (HA.out.2.1.same h2) (HA.out.2.2.trans (h2.mono HA.out.2.2.size))))
  clear h2 s0 s1 s2 s3 s4 s5 s6 s7 s8 s9 sz sl
  have hn0 : n0 = r.kept.log.length := by
    obtain ⟨A', c', e, _⟩ := HV.out.log.ex
    cases e
    rfl
  subst hn0
  have s4 := HB.out.1.cell 4
  simp only [List.getElem?_toArray, List.getElem?_cons_zero, List.getElem?_cons_succ] at s4
  have sl := HB.out.1.lt
  rw [H60.out] at s4
  have hz := HB.out.2.1
  have z0 := hz.cell 0
  have z1 := hz.cell 1
  have z2 := hz.cell 2
  have z3 := hz.cell 3
  have z4 := hz.cell 4
  have z5 := hz.cell 5
  have z6 := hz.cell 6
  have z7 := hz.cell 7
  have z8 := hz.cell 8
  have z9 := hz.cell 9
  simp only [List.getElem?_toArray, List.getElem?_cons_zero, List.getElem?_cons_succ] at z0 z1 z2 z3 z4 z5 z6 z7 z8 z9
  have zz := hz.frozen
  have zl := hz.lt
  have hr := blk_set10 (a0 := .int .i64 0) (a1 := .int .i64 0) (a2 := .int .i64 0) (a3 := .bool false) (a4 := .slice none 0 0) (a5 := .int .i64 0) (a6 := .slice none 0 0) (a7 := .slice none 0 0) (a8 := .slice none 0 0) (a9 := .slice none 0 0) hz
  have r0 := hr.cell 0
  have r1 := hr.cell 1
  have r2 := hr.cell 2
  have r3 := hr.cell 3
  have r4 := hr.cell 4
  have r5 := hr.cell 5
  have r6 := hr.cell 6
  have r7 := hr.cell 7
  have r8 := hr.cell 8
  have r9 := hr.cell 9
  simp only [List.getElem?_toArray, List.getElem?_cons_zero, List.getElem?_cons_succ] at r0 r1 r2 r3 r4 r5 r6 r7 r8 r9
  have rz := hr.frozen
  have rl := hr.lt
  go_wp2
  refine bodyPost_ret (v := .tuple #[.agg #[.int .i64 0, .int .i64 0, .int .i64 0, .bool false, .slice none 0 0, .int .i64 0, .slice none 0 0, .slice none 0 0, .slice none 0 0, .slice none 0 0], .slice none 0 0, .int .i64 7]) (by simp [results, Try.results13, go_sem, r0, r1, r2, r3, r4, r5, r6, r7, r8, r9]) rfl ?_
  exact ⟨tell_zero _ _, below_set10 HB.out.2.2 (by omega)⟩
/- and the entry read: the world behind is w1 -/
theorem takenOf_4 (lv hv wv gv nv : Value) (r : Scu.Replica) (e : Scu.Str) (w : World) (B : Nat) (hr : IsRep w B lv hv wv gv nv r) (hf : Scu.repFault r = 0) (hl : Scu.leads r = true) (h60 : r.kept.log.length < 60) (f : Int) (q : Scu.Request) (hd : Scu.decode e = (q, f)) (hn : f ≠ 0) :
    Calls Try.prog 13 #[.agg #[.int .i64 r.me, .int .i64 r.kept.view, .int .i64 r.kept.normal, .bool r.kept.calm, lv, .int .i64 r.kept.commit, hv, wv, gv, nv], .string e] w fun en w' => TellRet w' Scu.replica0 [] f en ∧ Below w.heap.size w w' := by
  have HL := Lib.hid hl
  have HD := Lib.hid hd
  have hfb : (f != 0) = true := by simpa using hn
  clear hl hd hn
  have hvw := rep_view hf
  have HV := Lib.hid hr
  have HF := Lib.hid hf
  obtain ⟨A0, n0, c0, A1, c1, A2, c2, A3, c3, A4, c4, rfl, rfl, rfl, rfl, rfl⟩ := hr.forms
  clear hr hf
  go_enter Try.func13, Try.ntmps13
  go_wp2_with fail
  have h0 : Below w.heap.size w ((w.alloc (Obj.cells #[.int .i64 r.me, .int .i64 r.kept.view, .int .i64 r.kept.normal, .bool r.kept.calm, .slice A0 n0 c0, .int .i64 r.kept.commit, .slice A1 r.have_.length c1, .slice A2 r.wants.length c2, .slice A3 r.gives.length c3, .slice A4 r.given.length c4] 29)).alloc (Obj.cells #[.int .i64 0, .int .i64 0, .int .i64 0, .bool false, .slice none 0 0, .int .i64 0, .slice none 0 0, .slice none 0 0, .slice none 0 0, .slice none 0 0] 29)) := (below_alloc w _).alloc (by simp) _
  refine (repFaultRef_a _ _ _ _ _ r _ B (HV.out.below h0) 0 HF.out).mono ?_; rintro en wa ⟨rfl, h1⟩
  have hs : Blk wa w.heap.size 29 #[.int .i64 r.me, .int .i64 r.kept.view, .int .i64 r.kept.normal, .bool r.kept.calm, .slice A0 n0 c0, .int .i64 r.kept.commit, .slice A1 r.have_.length c1, .slice A2 r.wants.length c2, .slice A3 r.gives.length c3, .slice A4 r.given.length c4] := ((Blk.new w _ _).alloc _).same h1
  have hz : Blk wa (w.heap.size + 1) 29 #[.int .i64 0, .int .i64 0, .int .i64 0, .bool false, .slice none 0 0, .int .i64 0, .slice none 0 0, .slice none 0 0, .slice none 0 0, .slice none 0 0] := (Blk.new' (by simp)).same h1
  have hb := h0.trans (h1.mono h0.size)
  have HA := Lib.hid (And.intro hs (And.intro hz hb))
  have s0 := hs.cell 0
  have s1 := hs.cell 1
  have s2 := hs.cell 2
  have s3 := hs.cell 3
  have s4 := hs.cell 4
  have s5 := hs.cell 5
  have s6 := hs.cell 6
  have s7 := hs.cell 7
  have s8 := hs.cell 8
  have s9 := hs.cell 9
  simp only [List.getElem?_toArray, List.getElem?_cons_zero, List.getElem?_cons_succ] at s0 s1 s2 s3 s4 s5 s6 s7 s8 s9
  have sz := hs.frozen
  have sl := hs.lt
  clear h1 h0 hs hz hb HF
  go_wp2_with fail
  refine (leadsNow_a _ _ _ _ _ r hvw _ true HL.out).mono ?_; rintro en wb ⟨rfl, h2⟩
  have HB := Lib.hid (And.intro (HA.out.1.same h2) (And.intro (HA.out.2.1.same h2) (HA.out.2.2.trans (h2.mono HA.out.2.2.size))))
  clear h2 s0 s1 s2 s3 s4 s5 s6 s7 s8 s9 sz sl
  have hn0 : n0 = r.kept.log.length := by
    obtain ⟨A', c', e, _⟩ := HV.out.log.ex
    cases e
    rfl
  subst hn0
  have s4 := HB.out.1.cell 4
  simp only [List.getElem?_toArray, List.getElem?_cons_zero, List.getElem?_cons_succ] at s4
  have sl := HB.out.1.lt
  have h60b : decide ((60 : Int) ≤ (r.kept.log.length : Int)) = false := by simp; omega
  go_wp2_with fail
  refine (entryOf_a e _ q f HD.out).mono ?_; rintro en w1 ⟨rfl, h3⟩
  have H1 := Lib.hid (And.intro (HB.out.1.same h3) (And.intro (HB.out.2.1.same h3) (HB.out.2.2.trans (h3.mono HB.out.2.2.size))))
  clear h3 s4 sl
  have hz := H1.out.2.1
  have z0 := hz.cell 0
  have z1 := hz.cell 1
  have z2 := hz.cell 2
  have z3 := hz.cell 3
  have z4 := hz.cell 4
  have z5 := hz.cell 5
  have z6 := hz.cell 6
  have z7 := hz.cell 7
  have z8 := hz.cell 8
  have z9 := hz.cell 9
  simp only [List.getElem?_toArray, List.getElem?_cons_zero, List.getElem?_cons_succ] at z0 z1 z2 z3 z4 z5 z6 z7 z8 z9
  have zz := hz.frozen
  have zl := hz.lt
  have hr := blk_set10 (a0 := .int .i64 0) (a1 := .int .i64 0) (a2 := .int .i64 0) (a3 := .bool false) (a4 := .slice none 0 0) (a5 := .int .i64 0) (a6 := .slice none 0 0) (a7 := .slice none 0 0) (a8 := .slice none 0 0) (a9 := .slice none 0 0) hz
  have r0 := hr.cell 0
  have r1 := hr.cell 1
  have r2 := hr.cell 2
  have r3 := hr.cell 3
  have r4 := hr.cell 4
  have r5 := hr.cell 5
  have r6 := hr.cell 6
  have r7 := hr.cell 7
  have r8 := hr.cell 8
  have r9 := hr.cell 9
  simp only [List.getElem?_toArray, List.getElem?_cons_zero, List.getElem?_cons_succ] at r0 r1 r2 r3 r4 r5 r6 r7 r8 r9
  have rz := hr.frozen
  have rl := hr.lt
  go_wp2
  refine bodyPost_ret (v := .tuple #[.agg #[.int .i64 0, .int .i64 0, .int .i64 0, .bool false, .slice none 0 0, .int .i64 0, .slice none 0 0, .slice none 0 0, .slice none 0 0, .slice none 0 0], .slice none 0 0, .int .i64 f]) (by simp [results, Try.results13, go_sem, r0, r1, r2, r3, r4, r5, r6, r7, r8, r9]) rfl ?_
  exact ⟨tell_zero _ _, below_set10 H1.out.2.2 (by omega)⟩
theorem takenOf_5 (lv hv wv gv nv : Value) (r : Scu.Replica) (e : Scu.Str) (hes : e.size ≤ R47) (w : World) (B : Nat) (hr : IsRep w B lv hv wv gv nv r) (hf : Scu.repFault r = 0) (hl : Scu.leads r = true) (h60 : r.kept.log.length < 60) (q : Scu.Request) (hd : Scu.decode e = (q, 0)) (rr : Scu.Replica) (ms : List Scu.Message) (hrr : { r with kept := { r.kept with log := r.kept.log ++ [e] } } = rr) (hms : Scu.leadOn rr = ms) :
    Calls Try.prog 13 #[.agg #[.int .i64 r.me, .int .i64 r.kept.view, .int .i64 r.kept.normal, .bool r.kept.calm, lv, .int .i64 r.kept.commit, hv, wv, gv, nv], .string e] w fun en w' => TellRet w' rr ms 0 en ∧ Below w.heap.size w w' := by
  have HL := Lib.hid hl
  have HD := Lib.hid hd
  have HES := Lib.hid hes
  have HMS := Lib.hid (And.intro hrr hms)
  clear hl hd hes hrr hms
  have hvw := rep_view hf
  have HV := Lib.hid hr
  have HF := Lib.hid hf
  obtain ⟨A0, n0, c0, A1, c1, A2, c2, A3, c3, A4, c4, rfl, rfl, rfl, rfl, rfl⟩ := hr.forms
  clear hr hf
  go_enter Try.func13, Try.ntmps13
  go_wp2_with fail
  have h0 : Below w.heap.size w ((w.alloc (Obj.cells #[.int .i64 r.me, .int .i64 r.kept.view, .int .i64 r.kept.normal, .bool r.kept.calm, .slice A0 n0 c0, .int .i64 r.kept.commit, .slice A1 r.have_.length c1, .slice A2 r.wants.length c2, .slice A3 r.gives.length c3, .slice A4 r.given.length c4] 29)).alloc (Obj.cells #[.int .i64 0, .int .i64 0, .int .i64 0, .bool false, .slice none 0 0, .int .i64 0, .slice none 0 0, .slice none 0 0, .slice none 0 0, .slice none 0 0] 29)) := (below_alloc w _).alloc (by simp) _
  refine (repFaultRef_a _ _ _ _ _ r _ B (HV.out.below h0) 0 HF.out).mono ?_; rintro en wa ⟨rfl, h1⟩
  have hs : Blk wa w.heap.size 29 #[.int .i64 r.me, .int .i64 r.kept.view, .int .i64 r.kept.normal, .bool r.kept.calm, .slice A0 n0 c0, .int .i64 r.kept.commit, .slice A1 r.have_.length c1, .slice A2 r.wants.length c2, .slice A3 r.gives.length c3, .slice A4 r.given.length c4] := ((Blk.new w _ _).alloc _).same h1
  have hz : Blk wa (w.heap.size + 1) 29 #[.int .i64 0, .int .i64 0, .int .i64 0, .bool false, .slice none 0 0, .int .i64 0, .slice none 0 0, .slice none 0 0, .slice none 0 0, .slice none 0 0] := (Blk.new' (by simp)).same h1
  have hb := h0.trans (h1.mono h0.size)
  have HA := Lib.hid (And.intro hs (And.intro hz hb))
  have s0 := hs.cell 0
  have s1 := hs.cell 1
  have s2 := hs.cell 2
  have s3 := hs.cell 3
  have s4 := hs.cell 4
  have s5 := hs.cell 5
  have s6 := hs.cell 6
  have s7 := hs.cell 7
  have s8 := hs.cell 8
  have s9 := hs.cell 9
  simp only [List.getElem?_toArray, List.getElem?_cons_zero, List.getElem?_cons_succ] at s0 s1 s2 s3 s4 s5 s6 s7 s8 s9
  have sz := hs.frozen
  have sl := hs.lt
  clear h1 h0 hs hz hb HF
  go_wp2_with fail
  refine (leadsNow_a _ _ _ _ _ r hvw _ true HL.out).mono ?_; rintro en wb ⟨rfl, h2⟩
  have HB := Lib.hid (And.intro (HA.out.1.same h2) (And.intro (HA.out.2.1.same h2) (HA.out.2.2.trans (h2.mono HA.out.2.2.size))))
  clear h2 s0 s1 s2 s3 s4 s5 s6 s7 s8 s9 sz sl
  have hn0 : n0 = r.kept.log.length := by
    obtain ⟨A', c', e, _⟩ := HV.out.log.ex
    cases e
    rfl
  subst hn0
  have s4 := HB.out.1.cell 4
  simp only [List.getElem?_toArray, List.getElem?_cons_zero, List.getElem?_cons_succ] at s4
  have sl := HB.out.1.lt
  have h60b : decide ((60 : Int) ≤ (r.kept.log.length : Int)) = false := by simp; omega
  go_wp2_with fail
  refine (entryOf_a e _ q 0 HD.out).mono ?_; rintro en w1 ⟨rfl, h3⟩
  have H1 := Lib.hid (And.intro (HB.out.1.same h3) (And.intro (HB.out.2.1.same h3) (HB.out.2.2.trans (h3.mono HB.out.2.2.size))))
  clear h3 s4 sl
  go_upto_region 10 with fail
  have hsc := H1.out.1
  have s0 := hsc.cell 0
  have s1 := hsc.cell 1
  have s2 := hsc.cell 2
  have s3 := hsc.cell 3
  have s4 := hsc.cell 4
  have s5 := hsc.cell 5
  have s6 := hsc.cell 6
  have s7 := hsc.cell 7
  have s8 := hsc.cell 8
  have s9 := hsc.cell 9
  simp only [List.getElem?_toArray, List.getElem?_cons_zero, List.getElem?_cons_succ] at s0 s1 s2 s3 s4 s5 s6 s7 s8 s9
  have sz := hsc.frozen
  have sl := hsc.lt
  clear hsc h60b
  go_wp2_with fail
  refine (repCopyRef_c A0 r.kept.log.length c0 A1 c1 A2 c2 A3 r.gives.length c3 A4 c4 r _ B (HV.out.below H1.out.2.2)).mono ?_; rintro en w2 ⟨⟨lu, hu, wu, gu, nu, rfl, ho, hap⟩, h2⟩
  obtain ⟨D0, y0, u0, E1, d1, E2, d2, E3, d3, E4, d4, rfl, rfl, rfl, rfl, rfl⟩ := ho.is.forms
  have hy0 : y0 = r.kept.log.length := by
    obtain ⟨A', c', e, _⟩ := ho.is.log.ex
    cases e
    rfl
  subst hy0
  clear s0 s1 s2 s3 s4 s5 s6 s7 s8 s9 sz sl
  go_upto_region 11 with fail
  obtain ⟨Wc, hWc⟩ : ∃ W, W = w2.alloc (Obj.cells #[.int .i64 r.me, .int .i64 r.kept.view, .int .i64 r.kept.normal, .bool r.kept.calm, .slice D0 r.kept.log.length u0, .int .i64 r.kept.commit, .slice E1 r.have_.length d1, .slice E2 r.wants.length d2, .slice E3 r.gives.length d3, .slice E4 r.given.length d4] 29) := ⟨_, rfl⟩
  rw [← hWc]
  have hbc : Below w2.heap.size w2 Wc := by rw [hWc]; exact below_alloc _ _
  have hcp : Blk Wc w2.heap.size 29 #[.int .i64 r.me, .int .i64 r.kept.view, .int .i64 r.kept.normal, .bool r.kept.calm, .slice D0 r.kept.log.length u0, .int .i64 r.kept.commit, .slice E1 r.have_.length d1, .slice E2 r.wants.length d2, .slice E3 r.gives.length d3, .slice E4 r.given.length d4] := by rw [hWc]; exact Blk.new _ _ _
  have hsz := H1.out.2.2.size
  have hs1 := H1.out.1.lt
  have hs2 := H1.out.2.1.lt
  have HC := Lib.hid (show Blk Wc (w.heap.size + 1) 29 #[.int .i64 0, .int .i64 0, .int .i64 0, .bool false, .slice none 0 0, .int .i64 0, .slice none 0 0, .slice none 0 0, .slice none 0 0, .slice none 0 0] ∧ Below w.heap.size w Wc ∧ OwnRep Wc w1.heap.size (.slice D0 r.kept.log.length u0) (.slice E1 r.have_.length d1) (.slice E2 r.wants.length d2) (.slice E3 r.gives.length d3) (.slice E4 r.given.length d4) r ∧ w1.heap.size ≤ w2.heap.size ∧ Blk Wc w2.heap.size 29 #[.int .i64 r.me, .int .i64 r.kept.view, .int .i64 r.kept.normal, .bool r.kept.calm, .slice D0 r.kept.log.length u0, .int .i64 r.kept.commit, .slice E1 r.have_.length d1, .slice E2 r.wants.length d2, .slice E3 r.gives.length d3, .slice E4 r.given.length d4] ∧ ApG Wc w1.heap.size (.slice E3 r.gives.length d3) r.gives (.slice D0 r.kept.log.length u0) from
    ⟨(H1.out.2.1.same h2).same hbc, H1.out.2.2.trans ((h2.trans (hbc.mono h2.size)).mono hsz), ho.below hbc, h2.size, hcp, hap.below hbc⟩)
  have o4 := hcp.cell 4
  simp only [List.getElem?_toArray, List.getElem?_cons_zero, List.getElem?_cons_succ] at o4
  have oz := hcp.frozen
  have ol := hcp.lt
  have hwl : w1.heap.size ≤ Wc.heap.size := Nat.le_trans h2.size hbc.size
  clear hWc hbc hcp ho hap h2
  have HROW := Lib.hid HC.out.2.2.1.own.log.1
  go_wp2_with (at_builtin; refine list_app _ rfl _ _ 22 rfl el_strs w1.heap.size (.slice D0 r.kept.log.length u0) r.kept.log.length (r.kept.log.map Value.string) rfl (own_below HROW.out (below_alloc Wc (Obj.cells #[.string e] 9))) (.slice (some ⟨Wc.heap.size, 0, none⟩) 1 1) 1 [.string e] rfl ⟨rfl, .inr ⟨_, _, rfl, ?e1⟩⟩ ?e2 (by unfold maxLen; omega) (by omega) (by simp; omega) ?_)
  case e1 =>
    intro j v hj
    have hj8 : j < 1 := by (rcases Nat.lt_or_ge j 1 with h | h; exact h; rw [List.getElem?_eq_none h] at hj; cases hj)
    have hadd : (⟨Wc.heap.size, 0, none⟩ : Addr).add j = ⟨Wc.heap.size, j, none⟩ := by (unfold Addr.add; split <;> simp_all)
    rw [hadd]
    refine ((Blk.new Wc 9 #[.string e]).cell j).trans ?_
    simpa using hj
  case e2 => (intro v hv; rw [List.mem_singleton] at hv; subst hv; rfl)
  intro v4 x4 h4 hg4 _
  have hal := below_alloc Wc (Obj.cells #[.string e] 9)
  have hP := HC.out.2.2.1.below hal
  have hpu := hP.push_log (HC.out.2.2.2.2.2.below hal) (by unfold R47; omega) HES.out h4 hg4
  have hs4 : Same [29] 0 (Wc.alloc (Obj.cells #[.string e] 9)) x4 := Same.own hP.own.log.1 hg4 (Nat.zero_le _) (by decide)
  have hz4 := blk_keep (HC.out.1.same hal) hs4 (by simp)
  have hc4 := blk_keep (HC.out.2.2.2.2.1.same hal) hs4 (by simp)
  have hb4 : Below w.heap.size w x4 := (HC.out.2.1.trans (hal.mono HC.out.2.1.size)).grown hg4 (Nat.le_trans HC.out.2.1.size hal.size) (fun q hq => Nat.le_trans hsz (hP.own.log.1.lt q hq).1)
  obtain ⟨E0, d0, rfl, _, _, _, _⟩ := rd_own h4
  obtain ⟨m0, hm0⟩ : ∃ n, n = r.kept.log.length + 1 := ⟨_, rfl⟩
  rw [← hm0] at hpu ⊢
  have HX4 := Lib.hid (And.intro hpu (And.intro hz4 (And.intro hc4 hb4)))
  clear h4 hg4 hpu hP hs4 hz4 hb4 hal o4 oz ol hm0
  have o4 := hc4.cell 4
  simp only [List.getElem?_toArray, List.getElem?_cons_zero, List.getElem?_cons_succ] at o4
  have oz := hc4.frozen
  have ol := hc4.lt
  clear hc4
  go_upto_region 12 with fail
  obtain ⟨w3, hw3⟩ : ∃ W, W = x4.setCell ⟨w2.heap.size, 4, none⟩ (.slice E0 m0 d0) := ⟨_, rfl⟩
  rw [← hw3]
  have hzo : w.heap.size + 1 ≠ w2.heap.size := by have := HC.out.2.2.2.1; omega
  have H3 := Lib.hid (show Blk w3 w2.heap.size 29 #[.int .i64 rr.me, .int .i64 rr.kept.view, .int .i64 rr.kept.normal, .bool rr.kept.calm, .slice E0 m0 d0, .int .i64 rr.kept.commit, .slice E1 rr.have_.length d1, .slice E2 rr.wants.length d2, .slice E3 rr.gives.length d3, .slice E4 rr.given.length d4] ∧ Blk w3 (w.heap.size + 1) 29 #[.int .i64 0, .int .i64 0, .int .i64 0, .bool false, .slice none 0 0, .int .i64 0, .slice none 0 0, .slice none 0 0, .slice none 0 0, .slice none 0 0] ∧ Below w.heap.size w w3 ∧ OwnRep w3 w1.heap.size (.slice E0 m0 d0) (.slice E1 rr.have_.length d1) (.slice E2 rr.wants.length d2) (.slice E3 rr.gives.length d3) (.slice E4 rr.given.length d4) rr from by
    rw [hw3, ← HMS.out.1]
    exact ⟨HX4.out.2.2.1.set_ 4 _, HX4.out.2.1.far (p := ⟨w2.heap.size, 4, none⟩) hzo _, HX4.out.2.2.2.setCell (p := ⟨w2.heap.size, 4, none⟩) (by show w.heap.size ≤ w2.heap.size; have := HC.out.2.2.2.1; omega) _, HX4.out.1.same (Same.set_ HX4.out.2.2.1 (Nat.zero_le _) (by decide) 4 _)⟩)
  clear hw3 o4 oz ol
  have nzo : w2.heap.size ≠ w.heap.size + 1 := fun h => hzo h.symm
  have hcp := H3.out.1
  have o0 := hcp.cell 0
  have o1 := hcp.cell 1
  have o2 := hcp.cell 2
  have o3 := hcp.cell 3
  have o4 := hcp.cell 4
  have o5 := hcp.cell 5
  have o6 := hcp.cell 6
  have o7 := hcp.cell 7
  have o8 := hcp.cell 8
  have o9 := hcp.cell 9
  simp only [List.getElem?_toArray, List.getElem?_cons_zero, List.getElem?_cons_succ] at o0 o1 o2 o3 o4 o5 o6 o7 o8 o9
  have oz := hcp.frozen
  have ol := hcp.lt
  clear hcp
  go_wp2_with fail
  go_region_held3 (fun w' => w'.cell? ⟨w2.heap.size, 0, none⟩ = some (.int .i64 rr.me) ∧ w'.cell? ⟨w2.heap.size, 1, none⟩ = some (.int .i64 rr.kept.view) ∧ w'.cell? ⟨w2.heap.size, 2, none⟩ = some (.int .i64 rr.kept.normal) ∧ w'.cell? ⟨w2.heap.size, 3, none⟩ = some (.bool rr.kept.calm) ∧ w'.cell? ⟨w2.heap.size, 4, none⟩ = some (.slice E0 m0 d0) ∧ w'.cell? ⟨w2.heap.size, 5, none⟩ = some (.int .i64 rr.kept.commit) ∧ w'.cell? ⟨w2.heap.size, 6, none⟩ = some (.slice E1 rr.have_.length d1) ∧ w'.cell? ⟨w2.heap.size, 7, none⟩ = some (.slice E2 rr.wants.length d2) ∧ w'.cell? ⟨w2.heap.size, 8, none⟩ = some (.slice E3 rr.gives.length d3) ∧ w'.cell? ⟨w2.heap.size, 9, none⟩ = some (.slice E4 rr.given.length d4))
    (first | (go_split_ands; (try dsimp only); (repeat' apply And.intro) <;> first | (with_reducible assumption) | (with_reducible (refine (cell_far10 ?_).trans ?_ <;> assumption))) | (go_split_ands; (try dsimp only); exact ⟨o0, o1, o2, o3, o4, o5, o6, o7, o8, o9⟩))
    (first
      | (go_at_call 27; refine (ledBy_a E0 m0 d0 E1 d1 E2 d2 E3 d3 E4 d4 rr _ 0 (Nat.zero_le _) (H3.out.2.2.2.is.log.drewN 1) ms HMS.out.2).mono ?_; rintro en x1 ⟨⟨Ao, co, css, rfl, hu⟩, k1'⟩
         have nn1 : Below w3.heap.size w3 x1 := (below_drewN (Below.refl _ _) 1).trans k1'
         have M1 := Lib.hid nn1
         have y0 := (nn1.cell (p := ⟨w2.heap.size, 0, none⟩) ol).trans o0
         have y1 := (nn1.cell (p := ⟨w2.heap.size, 1, none⟩) ol).trans o1
         have y2 := (nn1.cell (p := ⟨w2.heap.size, 2, none⟩) ol).trans o2
         have y3 := (nn1.cell (p := ⟨w2.heap.size, 3, none⟩) ol).trans o3
         have y4 := (nn1.cell (p := ⟨w2.heap.size, 4, none⟩) ol).trans o4
         have y5 := (nn1.cell (p := ⟨w2.heap.size, 5, none⟩) ol).trans o5
         have y6 := (nn1.cell (p := ⟨w2.heap.size, 6, none⟩) ol).trans o6
         have y7 := (nn1.cell (p := ⟨w2.heap.size, 7, none⟩) ol).trans o7
         have y8 := (nn1.cell (p := ⟨w2.heap.size, 8, none⟩) ol).trans o8
         have y9 := (nn1.cell (p := ⟨w2.heap.size, 9, none⟩) ol).trans o9
         have hz1 := H3.out.2.1.same nn1
         have z0 := hz1.cell 0
         have z1 := hz1.cell 1
         have z2 := hz1.cell 2
         have z3 := hz1.cell 3
         have z4 := hz1.cell 4
         have z5 := hz1.cell 5
         have z6 := hz1.cell 6
         have z7 := hz1.cell 7
         have z8 := hz1.cell 8
         have z9 := hz1.cell 9
         simp only [List.getElem?_toArray, List.getElem?_cons_zero, List.getElem?_cons_succ] at z0 z1 z2 z3 z4 z5 z6 z7 z8 z9
         have zz := hz1.frozen
         have zl := hz1.lt
         have HU := Lib.hid hu.is
         clear nn1 hu k1'))
  all_goals
    rename_i hHeld
    clear hHeld
    have hr := blk_set10 (a0 := .int .i64 rr.me) (a1 := .int .i64 rr.kept.view) (a2 := .int .i64 rr.kept.normal) (a3 := .bool rr.kept.calm) (a4 := .slice E0 m0 d0) (a5 := .int .i64 rr.kept.commit) (a6 := .slice E1 rr.have_.length d1) (a7 := .slice E2 rr.wants.length d2) (a8 := .slice E3 rr.gives.length d3) (a9 := .slice E4 rr.given.length d4) hz1
    have hsm := Same.sets10 (Ts := [9, 3, 4, 24, 41]) (B := 0) (a0 := .int .i64 rr.me) (a1 := .int .i64 rr.kept.view) (a2 := .int .i64 rr.kept.normal) (a3 := .bool rr.kept.calm) (a4 := .slice E0 m0 d0) (a5 := .int .i64 rr.kept.commit) (a6 := .slice E1 rr.have_.length d1) (a7 := .slice E2 rr.wants.length d2) (a8 := .slice E3 rr.gives.length d3) (a9 := .slice E4 rr.given.length d4) hz1 (Nat.zero_le _) (by decide)
    have hT := IsRep.same (H3.out.2.2.2.is.below M1.out) (hsm.mono (by simp) (Nat.le_refl _))
    have hO := IsRow.same (Ts := [9, 41]) HU.out (by simp) (hsm.mono (by simp) (Nat.le_refl _)) (fun _ _ h => h.same (Ts := [9, 41]) (by simp) (hsm.mono (by simp) (Nat.le_refl _)))
    have hL := below_set10 (a0 := .int .i64 rr.me) (a1 := .int .i64 rr.kept.view) (a2 := .int .i64 rr.kept.normal) (a3 := .bool rr.kept.calm) (a4 := .slice E0 m0 d0) (a5 := .int .i64 rr.kept.commit) (a6 := .slice E1 rr.have_.length d1) (a7 := .slice E2 rr.wants.length d2) (a8 := .slice E3 rr.gives.length d3) (a9 := .slice E4 rr.given.length d4) (H3.out.2.2.1.trans (M1.out.mono H3.out.2.2.1.size)) (show w.heap.size ≤ w.heap.size + 1 by omega)
    have r0 := hr.cell 0
    have r1 := hr.cell 1
    have r2 := hr.cell 2
    have r3 := hr.cell 3
    have r4 := hr.cell 4
    have r5 := hr.cell 5
    have r6 := hr.cell 6
    have r7 := hr.cell 7
    have r8 := hr.cell 8
    have r9 := hr.cell 9
    simp only [List.getElem?_toArray, List.getElem?_cons_zero, List.getElem?_cons_succ] at r0 r1 r2 r3 r4 r5 r6 r7 r8 r9
    have rz := hr.frozen
    have rl := hr.lt
    have HT := Lib.hid (And.intro hT (And.intro hO hL))
    clear hr hsm hT hO hL hz1
    go_wp2
    refine bodyPost_ret (v := .tuple #[.agg #[.int .i64 rr.me, .int .i64 rr.kept.view, .int .i64 rr.kept.normal, .bool rr.kept.calm, .slice E0 m0 d0, .int .i64 rr.kept.commit, .slice E1 rr.have_.length d1, .slice E2 rr.wants.length d2, .slice E3 rr.gives.length d3, .slice E4 rr.given.length d4], .slice Ao ms.length co, .int .i64 0]) (by simp [results, Try.results13, go_sem, r0, r1, r2, r3, r4, r5, r6, r7, r8, r9]) rfl ?_
    first
    | exact ⟨⟨_, _, _, _, _, _, rfl, HT.out.1, HT.out.2.1⟩, HT.out.2.2⟩
    | exact ⟨⟨_, _, _, _, _, _, rfl, HT.out.1.same (Same.drew _), HT.out.2.1.same (Ts := [9, 41]) (by simp) (Same.drew _) (fun _ _ h => h.same (Ts := [9]) (by simp) (Same.drew _))⟩, HT.out.2.2.drew⟩
theorem takenOf_c (lv hv wv gv nv : Value) (r : Scu.Replica) (e : Scu.Str) (hes : e.size ≤ R47) (w : World) (B : Nat) (hr : IsRep w B lv hv wv gv nv r) :
    Calls Try.prog 13 #[.agg #[.int .i64 r.me, .int .i64 r.kept.view, .int .i64 r.kept.normal, .bool r.kept.calm, lv, .int .i64 r.kept.commit, hv, wv, gv, nv], .string e] w fun en w' => TellRet w' (Scu.take r e).1 (Scu.take r e).2.1 (Scu.take r e).2.2 en ∧ Below w.heap.size w w' := by
  by_cases hf : Scu.repFault r = 0
  · by_cases hl : Scu.leads r = false
    · have q : Scu.take r e = (Scu.replica0, [], 14) := by unfold Scu.take; rw [if_neg (fun h => h hf), if_pos hl]
      rw [q]
      exact takenOf_2 lv hv wv gv nv r e w B hr hf hl
    · have hl' : Scu.leads r = true := by simpa using hl
      by_cases h60 : r.kept.log.length = 60
      · have q : Scu.take r e = (Scu.replica0, [], 7) := by unfold Scu.take; rw [if_neg (fun h => h hf), if_neg hl, if_pos h60]
        rw [q]
        exact takenOf_3 lv hv wv gv nv r e w B hr hf hl' h60
      · have hm : r.kept.log.length ≤ 60 := (Scu.keptFault_ok (Scu.repFault_ok hf).2.2.2.2.2.2.2).2.2.2.2.2.1
        by_cases hd : (Scu.decode e).2 = 0
        · have q : Scu.take r e = ({ r with kept := { r.kept with log := r.kept.log ++ [e] } }, Scu.leadOn { r with kept := { r.kept with log := r.kept.log ++ [e] } }, 0) := by unfold Scu.take; rw [if_neg (fun h => h hf), if_neg hl, if_neg h60, if_neg (fun h => h hd)]
          rw [q]
          exact takenOf_5 lv hv wv gv nv r e hes w B hr hf hl' (by omega) (Scu.decode e).1 (by rw [← hd]) _ _ rfl rfl
        · have q : Scu.take r e = (Scu.replica0, [], (Scu.decode e).2) := by unfold Scu.take; rw [if_neg (fun h => h hf), if_neg hl, if_neg h60, if_pos hd]
          rw [q]
          exact takenOf_4 lv hv wv gv nv r e w B hr hf hl' (by omega) _ (Scu.decode e).1 rfl hd
  · have q : Scu.take r e = (Scu.replica0, [], Scu.repFault r) := by unfold Scu.take; rw [if_pos hf]
    rw [q]
    exact takenOf_1 lv hv wv gv nv r e w B hr _ rfl hf
end Go.Proofs.Ytjbhkmadcjnbfaa

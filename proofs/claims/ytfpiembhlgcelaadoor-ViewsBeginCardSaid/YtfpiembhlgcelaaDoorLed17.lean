/- Part 17: words and walks under the law 'LeadersLead'. -/
import Derived.Test.YtfpiembhlgcelaaDoorLed11
import Derived.Deep.RegionLaw
set_option linter.unusedVariables false
set_option linter.unusedSimpArgs false
/- Walks: replica.Alarm. -/
namespace Go.Proofs.YtfpiembhlgcelaaDoor
open Go.RowKit
set_option maxHeartbeats 2000000
set_option maxRecDepth 100000

theorem alarm_1 (lv hv wv gv nv : Value) (r : Scu.Replica) (w : World) (B : Nat) (hr : IsRep w B lv hv wv gv nv r) (f : Int) (hf : Scu.repFault r = f) (hn : f ≠ 0) :
    Calls Tryd.prog 44 #[.agg #[.int .i64 r.me, .int .i64 r.kept.view, .int .i64 r.kept.normal, .bool r.kept.calm, lv, .int .i64 r.kept.commit, hv, wv, gv, nv]] w fun e w' => TellN w.heap.size w' Scu.replica0 [] f e ∧ Below w.heap.size w w' := by
  have hfb : (f != 0) = true := by simpa using hn
  have HN := Lib.hid hn
  clear hn
  have HV := Lib.hid hr
  have HF := Lib.hid hf
  obtain ⟨A0, n0, c0, A1, c1, A2, c2, A3, c3, A4, c4, rfl, rfl, rfl, rfl, rfl⟩ := hr.forms
  clear hr hf
  go_enter Tryd.func44, Tryd.ntmps44
  go_wp2_with fail
  have h0 : Below w.heap.size w ((w.alloc (Obj.cells #[.int .i64 r.me, .int .i64 r.kept.view, .int .i64 r.kept.normal, .bool r.kept.calm, .slice A0 n0 c0, .int .i64 r.kept.commit, .slice A1 r.have_.length c1, .slice A2 r.wants.length c2, .slice A3 r.gives.length c3, .slice A4 r.given.length c4] 81)).alloc (Obj.cells #[.int .i64 0, .int .i64 0, .int .i64 0, .bool false, .slice none 0 0, .int .i64 0, .slice none 0 0, .slice none 0 0, .slice none 0 0, .slice none 0 0] 81)) := (below_alloc w _).alloc (by simp) _
  refine (begin_1 _ _ _ _ _ r _ B (HV.out.below h0) f HF.out HN.out).mono ?_; rintro en w1 ⟨rfl, h1⟩
  have hz : Blk w1 (w.heap.size + 1) 81 #[.int .i64 0, .int .i64 0, .int .i64 0, .bool false, .slice none 0 0, .int .i64 0, .slice none 0 0, .slice none 0 0, .slice none 0 0, .slice none 0 0] := (Blk.new' (by simp)).same h1
  have hb := h0.trans (h1.mono h0.size)
  have z0 := hz.cell 0
  have z1 := hz.cell 1
  have z2 := hz.cell 2
  have z3 := hz.cell 3
  have z4 := hz.cell 4
  have z5 := hz.cell 5
  have z6 := hz.cell 6
  have z7 := hz.cell 7
  have z8 := hz.cell 8
  have z9 := hz.cell 9
  simp only [List.getElem?_toArray, List.getElem?_cons_zero, List.getElem?_cons_succ] at z0 z1 z2 z3 z4 z5 z6 z7 z8 z9
  have zz := hz.frozen
  have zl := hz.lt
  have hr := blk_set10 (a0 := .int .i64 0) (a1 := .int .i64 0) (a2 := .int .i64 0) (a3 := .bool false) (a4 := .slice none 0 0) (a5 := .int .i64 0) (a6 := .slice none 0 0) (a7 := .slice none 0 0) (a8 := .slice none 0 0) (a9 := .slice none 0 0) hz
  have r0 := hr.cell 0
  have r1 := hr.cell 1
  have r2 := hr.cell 2
  have r3 := hr.cell 3
  have r4 := hr.cell 4
  have r5 := hr.cell 5
  have r6 := hr.cell 6
  have r7 := hr.cell 7
  have r8 := hr.cell 8
  have r9 := hr.cell 9
  simp only [List.getElem?_toArray, List.getElem?_cons_zero, List.getElem?_cons_succ] at r0 r1 r2 r3 r4 r5 r6 r7 r8 r9
  have rz := hr.frozen
  have rl := hr.lt
  clear h1 h0
  go_wp2
  refine bodyPost_ret (v := .tuple #[.agg #[.int .i64 0, .int .i64 0, .int .i64 0, .bool false, .slice none 0 0, .int .i64 0, .slice none 0 0, .slice none 0 0, .slice none 0 0, .slice none 0 0], .slice none 0 0, .int .i64 f]) (by simp [results, Tryd.results44, go_sem, r0, r1, r2, r3, r4, r5, r6, r7, r8, r9]) rfl ?_
  exact ⟨tell_zeroN _ _ _, below_set10 hb (by omega)⟩
theorem alarm_2 (lv hv wv gv nv : Value) (r : Scu.Replica) (w : World) (B : Nat) (hr : IsRep w B lv hv wv gv nv r) (hf : Scu.repFault r = 0) (hm : r.kept.view = 1048576) :
    Calls Tryd.prog 44 #[.agg #[.int .i64 r.me, .int .i64 r.kept.view, .int .i64 r.kept.normal, .bool r.kept.calm, lv, .int .i64 r.kept.commit, hv, wv, gv, nv]] w fun e w' => TellN w.heap.size w' Scu.replica0 [] 7 e ∧ Below w.heap.size w w' := by
  have hmb : (r.kept.view == 1048576) = true := by simpa using hm
  clear hm
  have hvw := rep_view hf
  have HV := Lib.hid hr
  have HF := Lib.hid hf
  obtain ⟨A0, n0, c0, A1, c1, A2, c2, A3, c3, A4, c4, rfl, rfl, rfl, rfl, rfl⟩ := hr.forms
  clear hr hf
  go_enter Tryd.func44, Tryd.ntmps44
  go_wp2_with fail
  have h0 : Below w.heap.size w ((w.alloc (Obj.cells #[.int .i64 r.me, .int .i64 r.kept.view, .int .i64 r.kept.normal, .bool r.kept.calm, .slice A0 n0 c0, .int .i64 r.kept.commit, .slice A1 r.have_.length c1, .slice A2 r.wants.length c2, .slice A3 r.gives.length c3, .slice A4 r.given.length c4] 81)).alloc (Obj.cells #[.int .i64 0, .int .i64 0, .int .i64 0, .bool false, .slice none 0 0, .int .i64 0, .slice none 0 0, .slice none 0 0, .slice none 0 0, .slice none 0 0] 81)) := (below_alloc w _).alloc (by simp) _
  refine (begin_2 _ _ _ _ _ r _ B (HV.out.below h0) HF.out).mono ?_; rintro en w1 ⟨⟨gw, gr, lu, hu, wu, gu, nu, rfl, hW, hap⟩, h1⟩
  have e2 : ((w.alloc (Obj.cells #[.int .i64 r.me, .int .i64 r.kept.view, .int .i64 r.kept.normal, .bool r.kept.calm, .slice A0 n0 c0, .int .i64 r.kept.commit, .slice A1 r.have_.length c1, .slice A2 r.wants.length c2, .slice A3 r.gives.length c3, .slice A4 r.given.length c4] 81)).alloc (Obj.cells #[.int .i64 0, .int .i64 0, .int .i64 0, .bool false, .slice none 0 0, .int .i64 0, .slice none 0 0, .slice none 0 0, .slice none 0 0, .slice none 0 0] 81)).heap.size = w.heap.size + 2 := by simp
  rw [e2] at hW hap
  have hs : Blk w1 w.heap.size 81 #[.int .i64 r.me, .int .i64 r.kept.view, .int .i64 r.kept.normal, .bool r.kept.calm, .slice A0 n0 c0, .int .i64 r.kept.commit, .slice A1 r.have_.length c1, .slice A2 r.wants.length c2, .slice A3 r.gives.length c3, .slice A4 r.given.length c4] := ((Blk.new w _ _).alloc _).same h1
  have hz : Blk w1 (w.heap.size + 1) 81 #[.int .i64 0, .int .i64 0, .int .i64 0, .bool false, .slice none 0 0, .int .i64 0, .slice none 0 0, .slice none 0 0, .slice none 0 0, .slice none 0 0] := (Blk.new' (by simp)).same h1
  have hb := h0.trans (h1.mono h0.size)
  have hsz : w.heap.size + 2 ≤ w1.heap.size := by have := h1.size; rw [e2] at this; exact this
  have H1 := Lib.hid (And.intro hW (And.intro hs (And.intro hz (And.intro hb (And.intro hsz hap)))))
  clear h1 h0 hs hz hb hW e2 hsz HF hap
  have hs := H1.out.2.1
  have s1 := hs.cell 1
  simp only [List.getElem?_toArray, List.getElem?_cons_zero, List.getElem?_cons_succ] at s1
  have sl := hs.lt
  have hz := H1.out.2.2.1
  have z0 := hz.cell 0
  have z1 := hz.cell 1
  have z2 := hz.cell 2
  have z3 := hz.cell 3
  have z4 := hz.cell 4
  have z5 := hz.cell 5
  have z6 := hz.cell 6
  have z7 := hz.cell 7
  have z8 := hz.cell 8
  have z9 := hz.cell 9
  simp only [List.getElem?_toArray, List.getElem?_cons_zero, List.getElem?_cons_succ] at z0 z1 z2 z3 z4 z5 z6 z7 z8 z9
  have zz := hz.frozen
  have zl := hz.lt
  have hr := blk_set10 (a0 := .int .i64 0) (a1 := .int .i64 0) (a2 := .int .i64 0) (a3 := .bool false) (a4 := .slice none 0 0) (a5 := .int .i64 0) (a6 := .slice none 0 0) (a7 := .slice none 0 0) (a8 := .slice none 0 0) (a9 := .slice none 0 0) hz
  have r0 := hr.cell 0
  have r1 := hr.cell 1
  have r2 := hr.cell 2
  have r3 := hr.cell 3
  have r4 := hr.cell 4
  have r5 := hr.cell 5
  have r6 := hr.cell 6
  have r7 := hr.cell 7
  have r8 := hr.cell 8
  have r9 := hr.cell 9
  simp only [List.getElem?_toArray, List.getElem?_cons_zero, List.getElem?_cons_succ] at r0 r1 r2 r3 r4 r5 r6 r7 r8 r9
  have rz := hr.frozen
  have rl := hr.lt
  clear hs
  go_wp2
  refine bodyPost_ret (v := .tuple #[.agg #[.int .i64 0, .int .i64 0, .int .i64 0, .bool false, .slice none 0 0, .int .i64 0, .slice none 0 0, .slice none 0 0, .slice none 0 0, .slice none 0 0], .slice none 0 0, .int .i64 7]) (by simp [results, Tryd.results44, go_sem, r0, r1, r2, r3, r4, r5, r6, r7, r8, r9]) rfl ?_
  exact ⟨tell_zeroN _ _ _, below_set10 H1.out.2.2.2.1 (by omega)⟩
theorem alarm_3 (lv hv wv gv nv : Value) (r : Scu.Replica) (w : World) (B : Nat) (hr : IsRep w B lv hv wv gv nv r) (hf : Scu.repFault r = 0) (hm : r.kept.view ≠ 1048576) (rr : Scu.Replica) (ms : List Scu.Message) (hrr : Scu.want r (r.kept.view + 1) = (rr, ms)) :
    Calls Tryd.prog 44 #[.agg #[.int .i64 r.me, .int .i64 r.kept.view, .int .i64 r.kept.normal, .bool r.kept.calm, lv, .int .i64 r.kept.commit, hv, wv, gv, nv]] w fun e w' => TellN w.heap.size w' rr ms 0 e ∧ Below w.heap.size w w' := by
  have hmb : (r.kept.view == 1048576) = false := by simpa using hm
  have hvm : r.kept.view ≤ 1048576 := (Scu.keptFault_ok (Scu.repFault_ok hf).2.2.2.2.2.2.2).2.1
  have H3 := Lib.hid (And.intro (rep_three hf) hrr)
  clear hm hrr
  have hvw := rep_view hf
  have HV := Lib.hid hr
  have HF := Lib.hid hf
  obtain ⟨A0, n0, c0, A1, c1, A2, c2, A3, c3, A4, c4, rfl, rfl, rfl, rfl, rfl⟩ := hr.forms
  clear hr hf
  go_enter Tryd.func44, Tryd.ntmps44
  go_wp2_with fail
  have h0 : Below w.heap.size w ((w.alloc (Obj.cells #[.int .i64 r.me, .int .i64 r.kept.view, .int .i64 r.kept.normal, .bool r.kept.calm, .slice A0 n0 c0, .int .i64 r.kept.commit, .slice A1 r.have_.length c1, .slice A2 r.wants.length c2, .slice A3 r.gives.length c3, .slice A4 r.given.length c4] 81)).alloc (Obj.cells #[.int .i64 0, .int .i64 0, .int .i64 0, .bool false, .slice none 0 0, .int .i64 0, .slice none 0 0, .slice none 0 0, .slice none 0 0, .slice none 0 0] 81)) := (below_alloc w _).alloc (by simp) _
  refine (begin_2 _ _ _ _ _ r _ B (HV.out.below h0) HF.out).mono ?_; rintro en w1 ⟨⟨gw, gr, lu, hu, wu, gu, nu, rfl, hW, hap⟩, h1⟩
  have e2 : ((w.alloc (Obj.cells #[.int .i64 r.me, .int .i64 r.kept.view, .int .i64 r.kept.normal, .bool r.kept.calm, .slice A0 n0 c0, .int .i64 r.kept.commit, .slice A1 r.have_.length c1, .slice A2 r.wants.length c2, .slice A3 r.gives.length c3, .slice A4 r.given.length c4] 81)).alloc (Obj.cells #[.int .i64 0, .int .i64 0, .int .i64 0, .bool false, .slice none 0 0, .int .i64 0, .slice none 0 0, .slice none 0 0, .slice none 0 0, .slice none 0 0] 81)).heap.size = w.heap.size + 2 := by simp
  rw [e2] at hW hap
  have hs : Blk w1 w.heap.size 81 #[.int .i64 r.me, .int .i64 r.kept.view, .int .i64 r.kept.normal, .bool r.kept.calm, .slice A0 n0 c0, .int .i64 r.kept.commit, .slice A1 r.have_.length c1, .slice A2 r.wants.length c2, .slice A3 r.gives.length c3, .slice A4 r.given.length c4] := ((Blk.new w _ _).alloc _).same h1
  have hz : Blk w1 (w.heap.size + 1) 81 #[.int .i64 0, .int .i64 0, .int .i64 0, .bool false, .slice none 0 0, .int .i64 0, .slice none 0 0, .slice none 0 0, .slice none 0 0, .slice none 0 0] := (Blk.new' (by simp)).same h1
  have hb := h0.trans (h1.mono h0.size)
  have hsz : w.heap.size + 2 ≤ w1.heap.size := by have := h1.size; rw [e2] at this; exact this
  have H1 := Lib.hid (And.intro hW (And.intro hs (And.intro hz (And.intro hb (And.intro hsz hap)))))
  clear h1 h0 hs hz hb hW e2 hsz HF hap
  have hs := H1.out.2.1
  have s1 := hs.cell 1
  simp only [List.getElem?_toArray, List.getElem?_cons_zero, List.getElem?_cons_succ] at s1
  have sl := hs.lt
  clear hs
  go_wp2_with fail
  refine (want_e w1 (w.heap.size + 2) gw gr r (r.kept.view + 1) [] H1.out.1.e H1.out.2.2.2.2.1 H3.out.1 (by simp [R47])).mono ?_; rintro en w3 ⟨rfl, hw3, h3⟩
  rw [List.nil_append, H3.out.2] at hw3
  have hz3 : Blk w3 (w.heap.size + 1) 81 #[.int .i64 0, .int .i64 0, .int .i64 0, .bool false, .slice none 0 0, .int .i64 0, .slice none 0 0, .slice none 0 0, .slice none 0 0, .slice none 0 0] := H1.out.2.2.1.below h3 (by omega)
  have hb3 : Below w.heap.size w w3 := H1.out.2.2.2.1.trans (h3.mono (by omega))
  clear h3 s1 sl
  obtain ⟨lu3, hv3, wv3, gv3, nv3, ov3, css3, hw3⟩ := hw3
  obtain ⟨Ao, co, rfl⟩ := hw3.out.form
  obtain ⟨E0, m0, d0, E1, d1, E2, d2, E3, d3, E4, d4, rfl, rfl, rfl, rfl, rfl⟩ := hw3.own.is.forms
  have hwb := hw3.wb
  have hrb := hw3.rb
  have f0 := hwb.cell 0
  have f1 := hwb.cell 1
  simp only [List.getElem?_toArray, List.getElem?_cons_zero, List.getElem?_cons_succ] at f0 f1
  have fl := hwb.lt
  have k0 := hrb.cell 0
  have k1 := hrb.cell 1
  have k2 := hrb.cell 2
  have k3 := hrb.cell 3
  have k4 := hrb.cell 4
  have k5 := hrb.cell 5
  have k6 := hrb.cell 6
  have k7 := hrb.cell 7
  have k8 := hrb.cell 8
  have k9 := hrb.cell 9
  simp only [List.getElem?_toArray, List.getElem?_cons_zero, List.getElem?_cons_succ] at k0 k1 k2 k3 k4 k5 k6 k7 k8 k9
  have kz := hrb.frozen
  have kl := hrb.lt
  have z0 := hz3.cell 0
  have z1 := hz3.cell 1
  have z2 := hz3.cell 2
  have z3 := hz3.cell 3
  have z4 := hz3.cell 4
  have z5 := hz3.cell 5
  have z6 := hz3.cell 6
  have z7 := hz3.cell 7
  have z8 := hz3.cell 8
  have z9 := hz3.cell 9
  simp only [List.getElem?_toArray, List.getElem?_cons_zero, List.getElem?_cons_succ] at z0 z1 z2 z3 z4 z5 z6 z7 z8 z9
  have zz := hz3.frozen
  have zl := hz3.lt
  have hr := blk_set10 (a0 := .int .i64 rr.me) (a1 := .int .i64 rr.kept.view) (a2 := .int .i64 rr.kept.normal) (a3 := .bool rr.kept.calm) (a4 := .slice E0 m0 d0) (a5 := .int .i64 rr.kept.commit) (a6 := .slice E1 rr.have_.length d1) (a7 := .slice E2 rr.wants.length d2) (a8 := .slice E3 rr.gives.length d3) (a9 := .slice E4 rr.given.length d4) hz3
  have hsm := Same.sets10 (Ts := [9, 3, 4, 64, 89, 146]) (B := 0) (a0 := .int .i64 rr.me) (a1 := .int .i64 rr.kept.view) (a2 := .int .i64 rr.kept.normal) (a3 := .bool rr.kept.calm) (a4 := .slice E0 m0 d0) (a5 := .int .i64 rr.kept.commit) (a6 := .slice E1 rr.have_.length d1) (a7 := .slice E2 rr.wants.length d2) (a8 := .slice E3 rr.gives.length d3) (a9 := .slice E4 rr.given.length d4) hz3 (Nat.zero_le _) (by decide)
  have hwb2 := blk_keep hwb hsm (by simp)
  have q0 := hwb2.cell 0
  have q1 := hwb2.cell 1
  simp only [List.getElem?_toArray, List.getElem?_cons_zero, List.getElem?_cons_succ] at q0 q1
  have hT := hw3.own.is.same (hsm.mono (by simp) (Nat.le_refl _))
  have hO := hw3.out.is.same (Ts := [9, 89]) (by simp) (hsm.mono (by simp) (Nat.le_refl _)) (fun _ _ h => h.same (Ts := [9, 89]) (by simp) (hsm.mono (by simp) (Nat.le_refl _)))
  have hL := below_set10 (a0 := .int .i64 rr.me) (a1 := .int .i64 rr.kept.view) (a2 := .int .i64 rr.kept.normal) (a3 := .bool rr.kept.calm) (a4 := .slice E0 m0 d0) (a5 := .int .i64 rr.kept.commit) (a6 := .slice E1 rr.have_.length d1) (a7 := .slice E2 rr.wants.length d2) (a8 := .slice E3 rr.gives.length d3) (a9 := .slice E4 rr.given.length d4) hb3 (show w.heap.size ≤ w.heap.size + 1 by omega)
  have r0 := hr.cell 0
  have r1 := hr.cell 1
  have r2 := hr.cell 2
  have r3 := hr.cell 3
  have r4 := hr.cell 4
  have r5 := hr.cell 5
  have r6 := hr.cell 6
  have r7 := hr.cell 7
  have r8 := hr.cell 8
  have r9 := hr.cell 9
  simp only [List.getElem?_toArray, List.getElem?_cons_zero, List.getElem?_cons_succ] at r0 r1 r2 r3 r4 r5 r6 r7 r8 r9
  have rz := hr.frozen
  have rl := hr.lt
  have hA : ∀ g, (Value.slice Ao ms.length co).ownBlock = some g → w.heap.size ≤ g := fun g hg => by have := (hw3.out.row.lt g hg).1; omega
  have HT := Lib.hid (And.intro hT (And.intro hO (And.intro hL hA)))
  clear hr hsm hT hO hL hwb hrb hw3 hz3 hb3 hwb2 hA
  go_wp2_with fail
  go_region
  go_wp2
  refine bodyPost_ret (v := .tuple #[.agg #[.int .i64 rr.me, .int .i64 rr.kept.view, .int .i64 rr.kept.normal, .bool rr.kept.calm, .slice E0 m0 d0, .int .i64 rr.kept.commit, .slice E1 rr.have_.length d1, .slice E2 rr.wants.length d2, .slice E3 rr.gives.length d3, .slice E4 rr.given.length d4], .slice Ao ms.length co, .int .i64 0]) (by simp [results, Tryd.results44, go_sem, r0, r1, r2, r3, r4, r5, r6, r7, r8, r9]) rfl ?_
  exact ⟨⟨_, _, _, _, _, _, rfl, HT.out.1.same (Same.drew _), HT.out.2.1.same (Ts := [9, 89]) (by simp) (Same.drew _) (fun _ _ h => h.same (Ts := [9]) (by simp) (Same.drew _)), HT.out.2.2.2⟩, HT.out.2.2.1.drew⟩
theorem alarm_c (lv hv wv gv nv : Value) (r : Scu.Replica) (w : World) (B : Nat) (hr : IsRep w B lv hv wv gv nv r) :
    Calls Tryd.prog 44 #[.agg #[.int .i64 r.me, .int .i64 r.kept.view, .int .i64 r.kept.normal, .bool r.kept.calm, lv, .int .i64 r.kept.commit, hv, wv, gv, nv]] w fun e w' => TellN w.heap.size w' (Scu.alarm r).1 (Scu.alarm r).2.1 (Scu.alarm r).2.2 e ∧ Below w.heap.size w w' := by
  by_cases hf : Scu.repFault r = 0
  · by_cases hm : r.kept.view = 1048576
    · have e : Scu.alarm r = (Scu.replica0, [], 7) := by unfold Scu.alarm; rw [if_neg (fun h => h hf), if_pos hm]
      rw [e]
      exact alarm_2 lv hv wv gv nv r w B hr hf hm
    · have e : Scu.alarm r = ((Scu.want r (r.kept.view + 1)).1, (Scu.want r (r.kept.view + 1)).2, 0) := by unfold Scu.alarm; rw [if_neg (fun h => h hf), if_neg hm]
      rw [e]
      exact alarm_3 lv hv wv gv nv r w B hr hf hm _ _ rfl
  · have e : Scu.alarm r = (Scu.replica0, [], Scu.repFault r) := by unfold Scu.alarm; rw [if_pos hf]
    rw [e]
    exact alarm_1 lv hv wv gv nv r w B hr _ rfl hf
end Go.Proofs.YtfpiembhlgcelaaDoor
/- Walks: replica.Take. -/
namespace Go.Proofs.YtfpiembhlgcelaaDoor
open Go.RowKit
set_option maxHeartbeats 4000000
set_option maxRecDepth 100000

theorem IsStrs.grown_ap {w w' : World} {v : Value} {xs : List Scu.Str} {row : Option Nat} (h : IsStrs w 0 v xs) (hg : w.grownBy w' row) (hne : ∀ x, row = some x → v.ownBlock ≠ some x) : IsStrs w' 0 v xs := by
  obtain ⟨⟨A, c, rfl, hc, hr⟩, h2, h3⟩ := h
  refine ⟨⟨A, c, rfl, hc, ?_⟩, h2, h3⟩
  rcases hr with h | ⟨g, o, rfl, hlt, hk, h4⟩
  · exact .inl h
  · have hb := hg.block g hlt (fun e => hne g e.symm rfl)
    refine .inr ⟨g, o, rfl, Nat.lt_of_lt_of_le hlt hg.size, ?_, fun j u hj => ?_⟩
    · rw [hb]; exact hk
    · rw [World.cell?_of_block (w := w) (w' := w') (a := ⟨g, o + j, none⟩) hb]; exact h4 j u hj
theorem Work.push_log {P w4 : World} {base gw gr : Nat} {r : Scu.Replica} {lu hv wv gv nv ov v4 : Value} {css : List (List Value)} (h : Work P base gw gr r lu hv wv gv nv ov [] css) (hap : ApG P base gv r.gives lu) (hm : (r.kept.log.length + 1) * 16 ≤ R47) {e : Scu.Str} (he : e.size ≤ R47)
    (h4 : w4.ownsRow base 9 1 v4 (r.kept.log.length + 1) (r.kept.log.map Value.string ++ [.string e])) (hg : P.grownBy w4 lu.ownBlock) (hb : base ≤ P.heap.size) :
    Work (w4.setCell ⟨gr, 4, none⟩ v4) base gw gr { r with kept := { r.kept with log := r.kept.log ++ [e] } } v4 hv wv gv nv ov [] css ∧ Below base P (w4.setCell ⟨gr, 4, none⟩ v4) := by
  have hrow := h.own.own.log.1
  have hs0 : Same [3, 4, 64, 81, 146, 89] 0 P w4 := Same.own hrow hg (Nat.zero_le _) (by decide)
  have hrb := blk_keep h.rb hs0 (by simp)
  have hs1 : Same [9, 3, 4, 64, 146, 89] 0 w4 (w4.setCell ⟨gr, 4, none⟩ v4) := Same.set_ hrb (Nat.zero_le _) (by decide) 4 _
  obtain ⟨kss, hk, hka⟩ := hap
  have hk4 : OwnKs w4 base gv r.gives kss := ⟨hk.len, hk.five, own_same hk.row (Ts := [64]) (by simp) (hs0.mono (by simp) (Nat.le_refl _)), fun j cs k a b => by
    obtain ⟨lv, e', hl⟩ := hk.each j cs k a b
    refine ⟨lv, e', hl.grown_ap hg fun x hx => hka cs (List.mem_of_getElem? a) lv (by rw [e']; simp) x hx⟩, hk.max⟩
  have hlog : OwnStrs w4 base v4 (r.kept.log ++ [e]) := by
    refine ⟨?_, by simpa using hm, fun s hs => ?_⟩
    · rw [List.length_append, List.map_append]
      exact h4
    · rcases List.mem_append.1 hs with h' | h'
      · exact h.own.own.log.2.2 s h'
      · rw [List.mem_singleton] at h'
        subst h'
        exact he
  refine ⟨⟨blk_keep (blk_keep h.wb hs0 (by simp)) hs1 (by simp), hrb.set_ 4 v4, ⟨⟨hlog.same (hs1.mono (by simp) (Nat.le_refl _)), (h.own.own.have_.same (hs0.mono (by simp) (Nat.le_refl _))).same (hs1.mono (by simp) (Nat.le_refl _)), (h.own.own.wants.same (hs0.mono (by simp) (Nat.le_refl _))).same (hs1.mono (by simp) (Nat.le_refl _)), (h.own.own.given.same (hs0.mono (by simp) (Nat.le_refl _))).same (hs1.mono (by simp) (Nat.le_refl _)), h.own.own.apart⟩, kss, hk4.same (hs1.mono (by simp) (Nat.le_refl _))⟩, ?_, h.lw, h.lr⟩, ?_⟩
  · have ho := h.out
    exact ⟨ho.len, ho.eight, own_same (own_same ho.row (Ts := [89]) (by simp) (hs0.mono (by simp) (Nat.le_refl _))) (Ts := [89]) (by simp) (hs1.mono (by simp) (Nat.le_refl _)), fun j cs m _ b => by simp at b, ho.max⟩
  · exact ((Below.refl base P).grown hg hb (fun q hq => (hrow.lt q hq).1)).setCell (p := ⟨gr, 4, none⟩) h.lr v4
theorem logFault_snoc (e : Scu.Str) : ∀ l : List Scu.Str, (∀ x ∈ l, (Scu.decode x).2 = 0) → Scu.logFault (l ++ [e]) = (Scu.decode e).2
  | [], _ => by
    simp only [List.nil_append, Scu.logFault]
    split
    · rfl
    · rename_i h; exact (Decidable.not_not.1 h).symm
  | x :: l, h => by
    simp only [List.cons_append, Scu.logFault]
    rw [if_neg (fun hx => hx (h x List.mem_cons_self))]
    exact logFault_snoc e l fun y hy => h y (List.mem_cons_of_mem _ hy)
theorem keptFault_push {k : Scu.Kept} (h : Scu.keptFault k = 0) (h60 : k.log.length < 60) (e : Scu.Str) : Scu.keptFault { k with log := k.log ++ [e] } = (Scu.decode e).2 := by
  obtain ⟨h1, h2, h3, h4, h5, h6, h7, h8, h9⟩ := Scu.keptFault_ok h
  unfold Scu.keptFault
  simp only [List.length_append, List.length_cons, List.length_nil]
  rw [if_neg (by
    rintro (h | h | h | h | ⟨ha, hb⟩)
    · omega
    · omega
    · omega
    · omega
    · exact hb (h5 ha)), if_neg (by omega), if_neg (by push_cast; omega)]
  exact logFault_snoc e k.log h9
theorem taken_1 (lv hv wv gv nv : Value) (r : Scu.Replica) (e : Scu.Str) (w : World) (B : Nat) (hr : IsRep w B lv hv wv gv nv r) (f : Int) (hf : Scu.repFault r = f) (hn : f ≠ 0) :
    Calls Tryd.prog 40 #[.agg #[.int .i64 r.me, .int .i64 r.kept.view, .int .i64 r.kept.normal, .bool r.kept.calm, lv, .int .i64 r.kept.commit, hv, wv, gv, nv], .string e] w fun en w' => TellN w.heap.size w' Scu.replica0 [] f en ∧ Below w.heap.size w w' := by
  have hfb : (f != 0) = true := by simpa using hn
  have HN := Lib.hid hn
  clear hn
  have HV := Lib.hid hr
  have HF := Lib.hid hf
  obtain ⟨A0, n0, c0, A1, c1, A2, c2, A3, c3, A4, c4, rfl, rfl, rfl, rfl, rfl⟩ := hr.forms
  clear hr hf
  go_enter Tryd.func40, Tryd.ntmps40
  go_wp2_with fail
  have h0 : Below w.heap.size w ((w.alloc (Obj.cells #[.int .i64 r.me, .int .i64 r.kept.view, .int .i64 r.kept.normal, .bool r.kept.calm, .slice A0 n0 c0, .int .i64 r.kept.commit, .slice A1 r.have_.length c1, .slice A2 r.wants.length c2, .slice A3 r.gives.length c3, .slice A4 r.given.length c4] 81)).alloc (Obj.cells #[.int .i64 0, .int .i64 0, .int .i64 0, .bool false, .slice none 0 0, .int .i64 0, .slice none 0 0, .slice none 0 0, .slice none 0 0, .slice none 0 0] 81)) := (below_alloc w _).alloc (by simp) _
  refine (begin_1 _ _ _ _ _ r _ B (HV.out.below h0) f HF.out HN.out).mono ?_; rintro en w1 ⟨rfl, h1⟩
  have hz : Blk w1 (w.heap.size + 1) 81 #[.int .i64 0, .int .i64 0, .int .i64 0, .bool false, .slice none 0 0, .int .i64 0, .slice none 0 0, .slice none 0 0, .slice none 0 0, .slice none 0 0] := (Blk.new' (by simp)).same h1
  have hb := h0.trans (h1.mono h0.size)
  have z0 := hz.cell 0
  have z1 := hz.cell 1
  have z2 := hz.cell 2
  have z3 := hz.cell 3
  have z4 := hz.cell 4
  have z5 := hz.cell 5
  have z6 := hz.cell 6
  have z7 := hz.cell 7
  have z8 := hz.cell 8
  have z9 := hz.cell 9
  simp only [List.getElem?_toArray, List.getElem?_cons_zero, List.getElem?_cons_succ] at z0 z1 z2 z3 z4 z5 z6 z7 z8 z9
  have zz := hz.frozen
  have zl := hz.lt
  have hr := blk_set10 (a0 := .int .i64 0) (a1 := .int .i64 0) (a2 := .int .i64 0) (a3 := .bool false) (a4 := .slice none 0 0) (a5 := .int .i64 0) (a6 := .slice none 0 0) (a7 := .slice none 0 0) (a8 := .slice none 0 0) (a9 := .slice none 0 0) hz
  have r0 := hr.cell 0
  have r1 := hr.cell 1
  have r2 := hr.cell 2
  have r3 := hr.cell 3
  have r4 := hr.cell 4
  have r5 := hr.cell 5
  have r6 := hr.cell 6
  have r7 := hr.cell 7
  have r8 := hr.cell 8
  have r9 := hr.cell 9
  simp only [List.getElem?_toArray, List.getElem?_cons_zero, List.getElem?_cons_succ] at r0 r1 r2 r3 r4 r5 r6 r7 r8 r9
  have rz := hr.frozen
  have rl := hr.lt
  clear h1 h0
  go_wp2
  refine bodyPost_ret (v := .tuple #[.agg #[.int .i64 0, .int .i64 0, .int .i64 0, .bool false, .slice none 0 0, .int .i64 0, .slice none 0 0, .slice none 0 0, .slice none 0 0, .slice none 0 0], .slice none 0 0, .int .i64 f]) (by simp [results, Tryd.results40, go_sem, r0, r1, r2, r3, r4, r5, r6, r7, r8, r9]) rfl ?_
  exact ⟨tell_zeroN _ _ _, below_set10 hb (by omega)⟩
theorem taken_2 (lv hv wv gv nv : Value) (r : Scu.Replica) (e : Scu.Str) (w : World) (B : Nat) (hr : IsRep w B lv hv wv gv nv r) (hf : Scu.repFault r = 0) (hl : Scu.leads r = false) :
    Calls Tryd.prog 40 #[.agg #[.int .i64 r.me, .int .i64 r.kept.view, .int .i64 r.kept.normal, .bool r.kept.calm, lv, .int .i64 r.kept.commit, hv, wv, gv, nv], .string e] w fun en w' => TellN w.heap.size w' Scu.replica0 [] 14 en ∧ Below w.heap.size w w' := by
  have HL := Lib.hid hl
  clear hl
  have hvw := rep_view hf
  have HV := Lib.hid hr
  have HF := Lib.hid hf
  obtain ⟨A0, n0, c0, A1, c1, A2, c2, A3, c3, A4, c4, rfl, rfl, rfl, rfl, rfl⟩ := hr.forms
  clear hr hf
  go_enter Tryd.func40, Tryd.ntmps40
  go_wp2_with fail
  have h0 : Below w.heap.size w ((w.alloc (Obj.cells #[.int .i64 r.me, .int .i64 r.kept.view, .int .i64 r.kept.normal, .bool r.kept.calm, .slice A0 n0 c0, .int .i64 r.kept.commit, .slice A1 r.have_.length c1, .slice A2 r.wants.length c2, .slice A3 r.gives.length c3, .slice A4 r.given.length c4] 81)).alloc (Obj.cells #[.int .i64 0, .int .i64 0, .int .i64 0, .bool false, .slice none 0 0, .int .i64 0, .slice none 0 0, .slice none 0 0, .slice none 0 0, .slice none 0 0] 81)) := (below_alloc w _).alloc (by simp) _
  refine (begin_2 _ _ _ _ _ r _ B (HV.out.below h0) HF.out).mono ?_; rintro en w1 ⟨⟨gw, gr, lu, hu, wu, gu, nu, rfl, hW, hap⟩, h1⟩
  have e2 : ((w.alloc (Obj.cells #[.int .i64 r.me, .int .i64 r.kept.view, .int .i64 r.kept.normal, .bool r.kept.calm, .slice A0 n0 c0, .int .i64 r.kept.commit, .slice A1 r.have_.length c1, .slice A2 r.wants.length c2, .slice A3 r.gives.length c3, .slice A4 r.given.length c4] 81)).alloc (Obj.cells #[.int .i64 0, .int .i64 0, .int .i64 0, .bool false, .slice none 0 0, .int .i64 0, .slice none 0 0, .slice none 0 0, .slice none 0 0, .slice none 0 0] 81)).heap.size = w.heap.size + 2 := by simp
  rw [e2] at hW hap
  have hs : Blk w1 w.heap.size 81 #[.int .i64 r.me, .int .i64 r.kept.view, .int .i64 r.kept.normal, .bool r.kept.calm, .slice A0 n0 c0, .int .i64 r.kept.commit, .slice A1 r.have_.length c1, .slice A2 r.wants.length c2, .slice A3 r.gives.length c3, .slice A4 r.given.length c4] := ((Blk.new w _ _).alloc _).same h1
  have hz : Blk w1 (w.heap.size + 1) 81 #[.int .i64 0, .int .i64 0, .int .i64 0, .bool false, .slice none 0 0, .int .i64 0, .slice none 0 0, .slice none 0 0, .slice none 0 0, .slice none 0 0] := (Blk.new' (by simp)).same h1
  have hb := h0.trans (h1.mono h0.size)
  have hsz : w.heap.size + 2 ≤ w1.heap.size := by have := h1.size; rw [e2] at this; exact this
  have H1 := Lib.hid (And.intro hW (And.intro hs (And.intro hz (And.intro hb (And.intro hsz hap)))))
  clear h1 h0 hs hz hb hW e2 hsz HF hap
  have hs := H1.out.2.1
  have s0 := hs.cell 0
  have s1 := hs.cell 1
  have s2 := hs.cell 2
  have s3 := hs.cell 3
  have s4 := hs.cell 4
  have s5 := hs.cell 5
  have s6 := hs.cell 6
  have s7 := hs.cell 7
  have s8 := hs.cell 8
  have s9 := hs.cell 9
  simp only [List.getElem?_toArray, List.getElem?_cons_zero, List.getElem?_cons_succ] at s0 s1 s2 s3 s4 s5 s6 s7 s8 s9
  have sz := hs.frozen
  have sl := hs.lt
  clear hs
  go_wp2_with fail
  refine (leads_a _ _ _ _ _ r hvw _ false HL.out).mono ?_; rintro en w2 ⟨rfl, h2⟩
  have H2 := Lib.hid (show Work w2 (w.heap.size + 2) gw gr r lu hu wu gu nu (.slice none 0 0) [] [] ∧ Blk w2 w.heap.size 81 #[.int .i64 r.me, .int .i64 r.kept.view, .int .i64 r.kept.normal, .bool r.kept.calm, .slice A0 n0 c0, .int .i64 r.kept.commit, .slice A1 r.have_.length c1, .slice A2 r.wants.length c2, .slice A3 r.gives.length c3, .slice A4 r.given.length c4] ∧ Blk w2 (w.heap.size + 1) 81 #[.int .i64 0, .int .i64 0, .int .i64 0, .bool false, .slice none 0 0, .int .i64 0, .slice none 0 0, .slice none 0 0, .slice none 0 0, .slice none 0 0] ∧ Below w.heap.size w w2 ∧ w.heap.size + 2 ≤ w2.heap.size ∧ ApG w2 (w.heap.size + 2) gu r.gives lu from
    ⟨H1.out.1.below h2, H1.out.2.1.same h2, H1.out.2.2.1.same h2, H1.out.2.2.2.1.trans (h2.mono H1.out.2.2.2.1.size), Nat.le_trans H1.out.2.2.2.2.1 h2.size, H1.out.2.2.2.2.2.below h2⟩)
  clear h2 s0 s1 s2 s3 s4 s5 s6 s7 s8 s9 sz sl
  have hz := H2.out.2.2.1
  have z0 := hz.cell 0
  have z1 := hz.cell 1
  have z2 := hz.cell 2
  have z3 := hz.cell 3
  have z4 := hz.cell 4
  have z5 := hz.cell 5
  have z6 := hz.cell 6
  have z7 := hz.cell 7
  have z8 := hz.cell 8
  have z9 := hz.cell 9
  simp only [List.getElem?_toArray, List.getElem?_cons_zero, List.getElem?_cons_succ] at z0 z1 z2 z3 z4 z5 z6 z7 z8 z9
  have zz := hz.frozen
  have zl := hz.lt
  have hr := blk_set10 (a0 := .int .i64 0) (a1 := .int .i64 0) (a2 := .int .i64 0) (a3 := .bool false) (a4 := .slice none 0 0) (a5 := .int .i64 0) (a6 := .slice none 0 0) (a7 := .slice none 0 0) (a8 := .slice none 0 0) (a9 := .slice none 0 0) hz
  have r0 := hr.cell 0
  have r1 := hr.cell 1
  have r2 := hr.cell 2
  have r3 := hr.cell 3
  have r4 := hr.cell 4
  have r5 := hr.cell 5
  have r6 := hr.cell 6
  have r7 := hr.cell 7
  have r8 := hr.cell 8
  have r9 := hr.cell 9
  simp only [List.getElem?_toArray, List.getElem?_cons_zero, List.getElem?_cons_succ] at r0 r1 r2 r3 r4 r5 r6 r7 r8 r9
  have rz := hr.frozen
  have rl := hr.lt
  go_wp2
  refine bodyPost_ret (v := .tuple #[.agg #[.int .i64 0, .int .i64 0, .int .i64 0, .bool false, .slice none 0 0, .int .i64 0, .slice none 0 0, .slice none 0 0, .slice none 0 0, .slice none 0 0], .slice none 0 0, .int .i64 14]) (by simp [results, Tryd.results40, go_sem, r0, r1, r2, r3, r4, r5, r6, r7, r8, r9]) rfl ?_
  exact ⟨tell_zeroN _ _ _, below_set10 H2.out.2.2.2.1 (by omega)⟩
theorem taken_3 (lv hv wv gv nv : Value) (r : Scu.Replica) (e : Scu.Str) (w : World) (B : Nat) (hr : IsRep w B lv hv wv gv nv r) (hf : Scu.repFault r = 0) (hl : Scu.leads r = true) (h60 : r.kept.log.length = 60) :
    Calls Tryd.prog 40 #[.agg #[.int .i64 r.me, .int .i64 r.kept.view, .int .i64 r.kept.normal, .bool r.kept.calm, lv, .int .i64 r.kept.commit, hv, wv, gv, nv], .string e] w fun en w' => TellN w.heap.size w' Scu.replica0 [] 7 en ∧ Below w.heap.size w w' := by
  have HL := Lib.hid hl
  have H60 := Lib.hid h60
  clear hl h60
  have hvw := rep_view hf
  have HV := Lib.hid hr
  have HF := Lib.hid hf
  obtain ⟨A0, n0, c0, A1, c1, A2, c2, A3, c3, A4, c4, rfl, rfl, rfl, rfl, rfl⟩ := hr.forms
  clear hr hf
  go_enter Tryd.func40, Tryd.ntmps40
  go_wp2_with fail
  have h0 : Below w.heap.size w ((w.alloc (Obj.cells #[.int .i64 r.me, .int .i64 r.kept.view, .int .i64 r.kept.normal, .bool r.kept.calm, .slice A0 n0 c0, .int .i64 r.kept.commit, .slice A1 r.have_.length c1, .slice A2 r.wants.length c2, .slice A3 r.gives.length c3, .slice A4 r.given.length c4] 81)).alloc (Obj.cells #[.int .i64 0, .int .i64 0, .int .i64 0, .bool false, .slice none 0 0, .int .i64 0, .slice none 0 0, .slice none 0 0, .slice none 0 0, .slice none 0 0] 81)) := (below_alloc w _).alloc (by simp) _
  refine (begin_2 _ _ _ _ _ r _ B (HV.out.below h0) HF.out).mono ?_; rintro en w1 ⟨⟨gw, gr, lu, hu, wu, gu, nu, rfl, hW, hap⟩, h1⟩
  have e2 : ((w.alloc (Obj.cells #[.int .i64 r.me, .int .i64 r.kept.view, .int .i64 r.kept.normal, .bool r.kept.calm, .slice A0 n0 c0, .int .i64 r.kept.commit, .slice A1 r.have_.length c1, .slice A2 r.wants.length c2, .slice A3 r.gives.length c3, .slice A4 r.given.length c4] 81)).alloc (Obj.cells #[.int .i64 0, .int .i64 0, .int .i64 0, .bool false, .slice none 0 0, .int .i64 0, .slice none 0 0, .slice none 0 0, .slice none 0 0, .slice none 0 0] 81)).heap.size = w.heap.size + 2 := by simp
  rw [e2] at hW hap
  have hs : Blk w1 w.heap.size 81 #[.int .i64 r.me, .int .i64 r.kept.view, .int .i64 r.kept.normal, .bool r.kept.calm, .slice A0 n0 c0, .int .i64 r.kept.commit, .slice A1 r.have_.length c1, .slice A2 r.wants.length c2, .slice A3 r.gives.length c3, .slice A4 r.given.length c4] := ((Blk.new w _ _).alloc _).same h1
  have hz : Blk w1 (w.heap.size + 1) 81 #[.int .i64 0, .int .i64 0, .int .i64 0, .bool false, .slice none 0 0, .int .i64 0, .slice none 0 0, .slice none 0 0, .slice none 0 0, .slice none 0 0] := (Blk.new' (by simp)).same h1
  have hb := h0.trans (h1.mono h0.size)
  have hsz : w.heap.size + 2 ≤ w1.heap.size := by have := h1.size; rw [e2] at this; exact this
  have H1 := Lib.hid (And.intro hW (And.intro hs (And.intro hz (And.intro hb (And.intro hsz hap)))))
  clear h1 h0 hs hz hb hW e2 hsz HF hap
  have hs := H1.out.2.1
  have s0 := hs.cell 0
  have s1 := hs.cell 1
  have s2 := hs.cell 2
  have s3 := hs.cell 3
  have s4 := hs.cell 4
  have s5 := hs.cell 5
  have s6 := hs.cell 6
  have s7 := hs.cell 7
  have s8 := hs.cell 8
  have s9 := hs.cell 9
  simp only [List.getElem?_toArray, List.getElem?_cons_zero, List.getElem?_cons_succ] at s0 s1 s2 s3 s4 s5 s6 s7 s8 s9
  have sz := hs.frozen
  have sl := hs.lt
  clear hs
  go_wp2_with fail
  refine (leads_a _ _ _ _ _ r hvw _ true HL.out).mono ?_; rintro en w2 ⟨rfl, h2⟩
  have H2 := Lib.hid (show Work w2 (w.heap.size + 2) gw gr r lu hu wu gu nu (.slice none 0 0) [] [] ∧ Blk w2 w.heap.size 81 #[.int .i64 r.me, .int .i64 r.kept.view, .int .i64 r.kept.normal, .bool r.kept.calm, .slice A0 n0 c0, .int .i64 r.kept.commit, .slice A1 r.have_.length c1, .slice A2 r.wants.length c2, .slice A3 r.gives.length c3, .slice A4 r.given.length c4] ∧ Blk w2 (w.heap.size + 1) 81 #[.int .i64 0, .int .i64 0, .int .i64 0, .bool false, .slice none 0 0, .int .i64 0, .slice none 0 0, .slice none 0 0, .slice none 0 0, .slice none 0 0] ∧ Below w.heap.size w w2 ∧ w.heap.size + 2 ≤ w2.heap.size ∧ ApG w2 (w.heap.size + 2) gu r.gives lu from
    ⟨H1.out.1.below h2, H1.out.2.1.same h2, H1.out.2.2.1.same h2, H1.out.2.2.2.1.trans (h2.mono H1.out.2.2.2.1.size), Nat.le_trans H1.out.2.2.2.2.1 h2.size, H1.out.2.2.2.2.2.below h2⟩)
  clear h2 s0 s1 s2 s3 s4 s5 s6 s7 s8 s9 sz sl
  have hn0 : n0 = r.kept.log.length := by
    obtain ⟨A', c', e, _⟩ := HV.out.log.ex
    cases e
    rfl
  subst hn0
  have s4 := H2.out.2.1.cell 4
  simp only [List.getElem?_toArray, List.getElem?_cons_zero, List.getElem?_cons_succ] at s4
  have sl := H2.out.2.1.lt
  rw [H60.out] at s4
  have hz := H2.out.2.2.1
  have z0 := hz.cell 0
  have z1 := hz.cell 1
  have z2 := hz.cell 2
  have z3 := hz.cell 3
  have z4 := hz.cell 4
  have z5 := hz.cell 5
  have z6 := hz.cell 6
  have z7 := hz.cell 7
  have z8 := hz.cell 8
  have z9 := hz.cell 9
  simp only [List.getElem?_toArray, List.getElem?_cons_zero, List.getElem?_cons_succ] at z0 z1 z2 z3 z4 z5 z6 z7 z8 z9
  have zz := hz.frozen
  have zl := hz.lt
  have hr := blk_set10 (a0 := .int .i64 0) (a1 := .int .i64 0) (a2 := .int .i64 0) (a3 := .bool false) (a4 := .slice none 0 0) (a5 := .int .i64 0) (a6 := .slice none 0 0) (a7 := .slice none 0 0) (a8 := .slice none 0 0) (a9 := .slice none 0 0) hz
  have r0 := hr.cell 0
  have r1 := hr.cell 1
  have r2 := hr.cell 2
  have r3 := hr.cell 3
  have r4 := hr.cell 4
  have r5 := hr.cell 5
  have r6 := hr.cell 6
  have r7 := hr.cell 7
  have r8 := hr.cell 8
  have r9 := hr.cell 9
  simp only [List.getElem?_toArray, List.getElem?_cons_zero, List.getElem?_cons_succ] at r0 r1 r2 r3 r4 r5 r6 r7 r8 r9
  have rz := hr.frozen
  have rl := hr.lt
  go_wp2
  refine bodyPost_ret (v := .tuple #[.agg #[.int .i64 0, .int .i64 0, .int .i64 0, .bool false, .slice none 0 0, .int .i64 0, .slice none 0 0, .slice none 0 0, .slice none 0 0, .slice none 0 0], .slice none 0 0, .int .i64 7]) (by simp [results, Tryd.results40, go_sem, r0, r1, r2, r3, r4, r5, r6, r7, r8, r9]) rfl ?_
  exact ⟨tell_zeroN _ _ _, below_set10 H2.out.2.2.2.1 (by omega)⟩
end Go.Proofs.YtfpiembhlgcelaaDoor

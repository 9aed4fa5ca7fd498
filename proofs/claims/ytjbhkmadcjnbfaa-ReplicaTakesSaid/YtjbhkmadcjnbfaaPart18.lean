/- Part 18: words and walks under the law 'ReplicaTicks'. -/
import Derived.Test.YtjbhkmadcjnbfaaPart15
import Derived.Test.YtjbhkmadcjnbfaaPart17
import Derived.Test.YtjbhkmadcjnbfaaPart13
import Derived.Test.YtjbhkmadcjnbfaaPart16
import Derived.Deep.RegionHeld3
import Derived.BigRegion
set_option linter.unusedVariables false
set_option linter.unusedSimpArgs false
/- Walks: ref.ledBy, ref.TickedOf. -/
namespace Go.Proofs.Ytjbhkmadcjnbfaa
set_option linter.unusedVariables false
set_option linter.unusedSimpArgs false
open Go.RowKit
set_option maxHeartbeats 4000000
set_option maxRecDepth 100000

theorem ledBy_c (r : Scu.Replica) (lv hv wv gv nv : Value) (w : World) (B : Nat) (hBw : B ≤ w.heap.size) (hx : IsStrs w B lv r.kept.log) :
    Calls Try.prog 27 #[.agg #[.int .i64 r.me, .int .i64 r.kept.view, .int .i64 r.kept.normal, .bool r.kept.calm, lv, .int .i64 r.kept.commit, hv, wv, gv, nv]] w fun e w' => (∃ ov css, e = .returned ov ∧ OwnMs w' w.heap.size ov (Scu.leadOn r) css) ∧ Below w.heap.size w w' := by
  obtain ⟨A, n, c, rfl⟩ := hx.form
  have HX := Lib.hid hx
  clear hx
  go_enter Try.func27, Try.ntmps27
  go_wp2_with fail
  have h0 := below_alloc w (Obj.cells #[.int .i64 r.me, .int .i64 r.kept.view, .int .i64 r.kept.normal, .bool r.kept.calm, .slice A n c, .int .i64 r.kept.commit, hv, wv, gv, nv] 29)
  refine (toAll_c r.me r.kept.view r.kept.normal r.kept.calm (.slice A n c) r.kept.commit hv wv gv nv (.slice A n c) (leadMsg r) _ B (Nat.le_trans hBw h0.size) (HX.out.below h0)).mono ?_; rintro en w1 ⟨⟨ov, css, rfl, ho⟩, h1⟩
  obtain ⟨Ao, co, rfl⟩ := ho.form
  have HO := Lib.hid (And.intro (ho.base_ h0.size) (h0.trans (h1.mono h0.size)))
  clear ho h1 h0
  go_wp2
  go_ret
  exact ⟨⟨_, css, rfl, HO.out.1⟩, HO.out.2⟩
theorem ledBy_a (A0 : Option Addr) (n0 c0 : Nat) (A1 : Option Addr) (c1 : Nat) (A2 : Option Addr) (c2 : Nat) (A3 : Option Addr) (c3 : Nat) (A4 : Option Addr) (c4 : Nat) (r : Scu.Replica) (w : World) (B : Nat) (hBw : B ≤ w.heap.size) (hx : IsStrs w B (.slice A0 n0 c0) r.kept.log) (ms : List Scu.Message) (hms : Scu.leadOn r = ms) :
    Calls Try.prog 27 #[.agg #[.int .i64 r.me, .int .i64 r.kept.view, .int .i64 r.kept.normal, .bool r.kept.calm, .slice A0 n0 c0, .int .i64 r.kept.commit, .slice A1 r.have_.length c1, .slice A2 r.wants.length c2, .slice A3 r.gives.length c3, .slice A4 r.given.length c4]] w fun e w' => (∃ Ao co css, e = .returned (.slice Ao ms.length co) ∧ OwnMs w' w.heap.size (.slice Ao ms.length co) ms css) ∧ Below w.heap.size w w' := by
  subst hms
  refine (ledBy_c r _ _ _ _ _ w B hBw hx).mono ?_
  rintro e w' ⟨⟨ov, css, rfl, ho⟩, h⟩
  obtain ⟨Ao, co, rfl⟩ := ho.form
  exact ⟨⟨_, _, _, rfl, ho⟩, h⟩
theorem cell_far10 {w : World} {g : Nat} {q : Addr} (h : q.block ≠ g) {x0 x1 x2 x3 x4 x5 x6 x7 x8 x9 : Value} :
    ((((((((((w.setCell ⟨g, 0, none⟩ x0).setCell ⟨g, 1, none⟩ x1).setCell ⟨g, 2, none⟩ x2).setCell ⟨g, 3, none⟩ x3).setCell ⟨g, 4, none⟩ x4).setCell ⟨g, 5, none⟩ x5).setCell ⟨g, 6, none⟩ x6).setCell ⟨g, 7, none⟩ x7).setCell ⟨g, 8, none⟩ x8).setCell ⟨g, 9, none⟩ x9).cell? q = w.cell? q := by
  rw [cell_far h, cell_far h, cell_far h, cell_far h, cell_far h, cell_far h, cell_far h, cell_far h, cell_far h, cell_far h]
theorem repFaultRef_a (lv hv0 wv gv nv : Value) (r : Scu.Replica) (w : World) (B : Nat) (hv : IsRep w B lv hv0 wv gv nv r) (f : Int) (h : Scu.repFault r = f) :
    Calls Try.prog 25 #[.agg #[.int .i64 r.me, .int .i64 r.kept.view, .int .i64 r.kept.normal, .bool r.kept.calm, lv, .int .i64 r.kept.commit, hv0, wv, gv, nv]] w fun e w' => e = .returned (.int .i64 f) ∧ Below w.heap.size w w' := by
  have := replicaFault_c lv hv0 wv gv nv r w B hv
  rw [h] at this
  exact this
theorem leadsNow_a (lv hv wv gv nv : Value) (r : Scu.Replica) (h0 : 0 ≤ r.kept.view) (w : World) (b : Bool) (hb : Scu.leads r = b) :
    Calls Try.prog 26 #[.agg #[.int .i64 r.me, .int .i64 r.kept.view, .int .i64 r.kept.normal, .bool r.kept.calm, lv, .int .i64 r.kept.commit, hv, wv, gv, nv]] w fun e w' => e = .returned (.bool b) ∧ Below w.heap.size w w' := by
  subst hb
  exact leadsNow_c lv hv wv gv nv r h0 w
theorem ticked_1 (lv hv wv gv nv : Value) (r : Scu.Replica) (w : World) (B : Nat) (hr : IsRep w B lv hv wv gv nv r) (f : Int) (hf : Scu.repFault r = f) (hn : f ≠ 0) :
    Calls Try.prog 9 #[.agg #[.int .i64 r.me, .int .i64 r.kept.view, .int .i64 r.kept.normal, .bool r.kept.calm, lv, .int .i64 r.kept.commit, hv, wv, gv, nv]] w fun e w' => TellRet w' Scu.replica0 [] f e ∧ Below w.heap.size w w' := by
  have hfb : (f != 0) = true := by simpa using hn
  clear hn
  have HV := Lib.hid hr
  have HF := Lib.hid hf
  obtain ⟨A0, n0, c0, A1, c1, A2, c2, A3, c3, A4, c4, rfl, rfl, rfl, rfl, rfl⟩ := hr.forms
  clear hr hf
  go_enter Try.func9, Try.ntmps9
  go_wp2_with fail
  have h0 : Below w.heap.size w ((w.alloc (Obj.cells #[.int .i64 r.me, .int .i64 r.kept.view, .int .i64 r.kept.normal, .bool r.kept.calm, .slice A0 n0 c0, .int .i64 r.kept.commit, .slice A1 r.have_.length c1, .slice A2 r.wants.length c2, .slice A3 r.gives.length c3, .slice A4 r.given.length c4] 29)).alloc (Obj.cells #[.int .i64 0, .int .i64 0, .int .i64 0, .bool false, .slice none 0 0, .int .i64 0, .slice none 0 0, .slice none 0 0, .slice none 0 0, .slice none 0 0] 29)) := (below_alloc w _).alloc (by simp) _
  refine (repFaultRef_a _ _ _ _ _ r _ B (HV.out.below h0) f HF.out).mono ?_; rintro en w1 ⟨rfl, h1⟩
  have hz : Blk w1 (w.heap.size + 1) 29 #[.int .i64 0, .int .i64 0, .int .i64 0, .bool false, .slice none 0 0, .int .i64 0, .slice none 0 0, .slice none 0 0, .slice none 0 0, .slice none 0 0] := (Blk.new' (by simp)).same h1
  have hb := h0.trans (h1.mono h0.size)
  have z0 := hz.cell 0
  have z1 := hz.cell 1
  have z2 := hz.cell 2
  have z3 := hz.cell 3
  have z4 := hz.cell 4
  have z5 := hz.cell 5
  have z6 := hz.cell 6
  have z7 := hz.cell 7
  have z8 := hz.cell 8
  have z9 := hz.cell 9
  simp only [List.getElem?_toArray, List.getElem?_cons_zero, List.getElem?_cons_succ] at z0 z1 z2 z3 z4 z5 z6 z7 z8 z9
  have zz := hz.frozen
  have zl := hz.lt
  have hr := blk_set10 (a0 := .int .i64 0) (a1 := .int .i64 0) (a2 := .int .i64 0) (a3 := .bool false) (a4 := .slice none 0 0) (a5 := .int .i64 0) (a6 := .slice none 0 0) (a7 := .slice none 0 0) (a8 := .slice none 0 0) (a9 := .slice none 0 0) hz
  have r0 := hr.cell 0
  have r1 := hr.cell 1
  have r2 := hr.cell 2
  have r3 := hr.cell 3
  have r4 := hr.cell 4
  have r5 := hr.cell 5
  have r6 := hr.cell 6
  have r7 := hr.cell 7
  have r8 := hr.cell 8
  have r9 := hr.cell 9
  simp only [List.getElem?_toArray, List.getElem?_cons_zero, List.getElem?_cons_succ] at r0 r1 r2 r3 r4 r5 r6 r7 r8 r9
  have rz := hr.frozen
  have rl := hr.lt
  clear h1 h0
  go_wp2
  refine bodyPost_ret (v := .tuple #[.agg #[.int .i64 0, .int .i64 0, .int .i64 0, .bool false, .slice none 0 0, .int .i64 0, .slice none 0 0, .slice none 0 0, .slice none 0 0, .slice none 0 0], .slice none 0 0, .int .i64 f]) (by simp [results, Try.results9, go_sem, r0, r1, r2, r3, r4, r5, r6, r7, r8, r9]) rfl ?_
  exact ⟨tell_zero _ _, below_set10 hb (by omega)⟩
/-- Copied, and led or not: the copy's box is the last block. -/
theorem ticked_2 (lv hv wv gv nv : Value) (r : Scu.Replica) (w : World) (B : Nat) (hBw : B ≤ w.heap.size) (hr : IsRep w B lv hv wv gv nv r) (hf : Scu.repFault r = 0) (hl : Scu.leads r = true) (ms : List Scu.Message) (hms : Scu.leadOn r = ms) :
    Calls Try.prog 9 #[.agg #[.int .i64 r.me, .int .i64 r.kept.view, .int .i64 r.kept.normal, .bool r.kept.calm, lv, .int .i64 r.kept.commit, hv, wv, gv, nv]] w fun e w' => TellRet w' r ms 0 e ∧ Below w.heap.size w w' := by
  have HL := Lib.hid hl
  have HMS := Lib.hid hms
  clear hl hms
  have hvw := rep_view hf
  have HV := Lib.hid hr
  have HF := Lib.hid hf
  obtain ⟨A0, n0, c0, A1, c1, A2, c2, A3, c3, A4, c4, rfl, rfl, rfl, rfl, rfl⟩ := hr.forms
  clear hr hf
  go_enter Try.func9, Try.ntmps9
  go_wp2_with fail
  have h0 : Below w.heap.size w ((w.alloc (Obj.cells #[.int .i64 r.me, .int .i64 r.kept.view, .int .i64 r.kept.normal, .bool r.kept.calm, .slice A0 n0 c0, .int .i64 r.kept.commit, .slice A1 r.have_.length c1, .slice A2 r.wants.length c2, .slice A3 r.gives.length c3, .slice A4 r.given.length c4] 29)).alloc (Obj.cells #[.int .i64 0, .int .i64 0, .int .i64 0, .bool false, .slice none 0 0, .int .i64 0, .slice none 0 0, .slice none 0 0, .slice none 0 0, .slice none 0 0] 29)) := (below_alloc w _).alloc (by simp) _
  refine (repFaultRef_a _ _ _ _ _ r _ B (HV.out.below h0) 0 HF.out).mono ?_; rintro en w1 ⟨rfl, h1⟩
  have hs : Blk w1 w.heap.size 29 #[.int .i64 r.me, .int .i64 r.kept.view, .int .i64 r.kept.normal, .bool r.kept.calm, .slice A0 n0 c0, .int .i64 r.kept.commit, .slice A1 r.have_.length c1, .slice A2 r.wants.length c2, .slice A3 r.gives.length c3, .slice A4 r.given.length c4] := ((Blk.new w _ _).alloc _).same h1
  have hz : Blk w1 (w.heap.size + 1) 29 #[.int .i64 0, .int .i64 0, .int .i64 0, .bool false, .slice none 0 0, .int .i64 0, .slice none 0 0, .slice none 0 0, .slice none 0 0, .slice none 0 0] := (Blk.new' (by simp)).same h1
  have hb := h0.trans (h1.mono h0.size)
  have H1 := Lib.hid (And.intro hs (And.intro hz hb))
  have s0 := hs.cell 0
  have s1 := hs.cell 1
  have s2 := hs.cell 2
  have s3 := hs.cell 3
  have s4 := hs.cell 4
  have s5 := hs.cell 5
  have s6 := hs.cell 6
  have s7 := hs.cell 7
  have s8 := hs.cell 8
  have s9 := hs.cell 9
  simp only [List.getElem?_toArray, List.getElem?_cons_zero, List.getElem?_cons_succ] at s0 s1 s2 s3 s4 s5 s6 s7 s8 s9
  have sz := hs.frozen
  have sl := hs.lt
  clear h1 h0 hs hz hb HF
  go_upto_region 4 with fail
  go_wp2_with fail
  refine (repCopyRef_c A0 n0 c0 A1 c1 A2 c2 A3 r.gives.length c3 A4 c4 r _ B (HV.out.below H1.out.2.2)).mono ?_; rintro en w2 ⟨⟨lu, hu, wu, gu, nu, rfl, ho, hap⟩, h2⟩
  obtain ⟨E0, m0, d0, E1, d1, E2, d2, E3, d3, E4, d4, rfl, rfl, rfl, rfl, rfl⟩ := ho.is.forms
  obtain ⟨Wc, hWc⟩ : ∃ W, W = w2.alloc (Obj.cells #[.int .i64 r.me, .int .i64 r.kept.view, .int .i64 r.kept.normal, .bool r.kept.calm, .slice E0 m0 d0, .int .i64 r.kept.commit, .slice E1 r.have_.length d1, .slice E2 r.wants.length d2, .slice E3 r.gives.length d3, .slice E4 r.given.length d4] 29) := ⟨_, rfl⟩
  have hbc : Below w2.heap.size w2 Wc := by rw [hWc]; exact below_alloc _ _
  have hcp : Blk Wc w2.heap.size 29 #[.int .i64 r.me, .int .i64 r.kept.view, .int .i64 r.kept.normal, .bool r.kept.calm, .slice E0 m0 d0, .int .i64 r.kept.commit, .slice E1 r.have_.length d1, .slice E2 r.wants.length d2, .slice E3 r.gives.length d3, .slice E4 r.given.length d4] := by rw [hWc]; exact Blk.new _ _ _
  have hsz := H1.out.2.2.size
  have hs1 := H1.out.1.lt
  have hs2 := H1.out.2.1.lt
  have HC := Lib.hid (show Blk Wc w.heap.size 29 #[.int .i64 r.me, .int .i64 r.kept.view, .int .i64 r.kept.normal, .bool r.kept.calm, .slice A0 n0 c0, .int .i64 r.kept.commit, .slice A1 r.have_.length c1, .slice A2 r.wants.length c2, .slice A3 r.gives.length c3, .slice A4 r.given.length c4] ∧ Blk Wc (w.heap.size + 1) 29 #[.int .i64 0, .int .i64 0, .int .i64 0, .bool false, .slice none 0 0, .int .i64 0, .slice none 0 0, .slice none 0 0, .slice none 0 0, .slice none 0 0] ∧ Below w.heap.size w Wc ∧ OwnRep Wc w1.heap.size (.slice E0 m0 d0) (.slice E1 r.have_.length d1) (.slice E2 r.wants.length d2) (.slice E3 r.gives.length d3) (.slice E4 r.given.length d4) r ∧ w1.heap.size ≤ w2.heap.size from ⟨(H1.out.1.same h2).same hbc, (H1.out.2.1.same h2).same hbc, H1.out.2.2.trans ((h2.trans (hbc.mono h2.size)).mono hsz), ho.below hbc, h2.size⟩)
  go_upto_region 5 with fail
  rw [← hWc]
  clear hWc s0 s1 s2 s3 s4 s5 s6 s7 s8 s9 sz sl hs1 hs2 ho hap h2 hsz
  have hsc := HC.out.1
  have s0 := hsc.cell 0
  have s1 := hsc.cell 1
  have s2 := hsc.cell 2
  have s3 := hsc.cell 3
  have s4 := hsc.cell 4
  have s5 := hsc.cell 5
  have s6 := hsc.cell 6
  have s7 := hsc.cell 7
  have s8 := hsc.cell 8
  have s9 := hsc.cell 9
  simp only [List.getElem?_toArray, List.getElem?_cons_zero, List.getElem?_cons_succ] at s0 s1 s2 s3 s4 s5 s6 s7 s8 s9
  have sz := hsc.frozen
  have sl := hsc.lt
  have HCP := Lib.hid (And.intro hcp hbc)
  clear hsc hcp hbc
  go_wp2_with fail
  refine (leadsNow_a _ _ _ _ _ r hvw _ true HL.out).mono ?_; rintro en w3 ⟨rfl, h3⟩
  have H3 := Lib.hid (show Blk w3 w.heap.size 29 #[.int .i64 r.me, .int .i64 r.kept.view, .int .i64 r.kept.normal, .bool r.kept.calm, .slice A0 n0 c0, .int .i64 r.kept.commit, .slice A1 r.have_.length c1, .slice A2 r.wants.length c2, .slice A3 r.gives.length c3, .slice A4 r.given.length c4] ∧ Blk w3 (w.heap.size + 1) 29 #[.int .i64 0, .int .i64 0, .int .i64 0, .bool false, .slice none 0 0, .int .i64 0, .slice none 0 0, .slice none 0 0, .slice none 0 0, .slice none 0 0] ∧ Below w.heap.size w w3 ∧ OwnRep w3 w1.heap.size (.slice E0 m0 d0) (.slice E1 r.have_.length d1) (.slice E2 r.wants.length d2) (.slice E3 r.gives.length d3) (.slice E4 r.given.length d4) r ∧ w1.heap.size ≤ w2.heap.size ∧ Blk w3 w2.heap.size 29 #[.int .i64 r.me, .int .i64 r.kept.view, .int .i64 r.kept.normal, .bool r.kept.calm, .slice E0 m0 d0, .int .i64 r.kept.commit, .slice E1 r.have_.length d1, .slice E2 r.wants.length d2, .slice E3 r.gives.length d3, .slice E4 r.given.length d4] from
    ⟨HC.out.1.same h3, HC.out.2.1.same h3, HC.out.2.2.1.trans (h3.mono HC.out.2.2.1.size), HC.out.2.2.2.1.below h3, HC.out.2.2.2.2, HCP.out.1.same h3⟩)
  clear h3 s0 s1 s2 s3 s4 s5 s6 s7 s8 s9 sz sl HL
  have hcp := H3.out.2.2.2.2.2
  have o0 := hcp.cell 0
  have o1 := hcp.cell 1
  have o2 := hcp.cell 2
  have o3 := hcp.cell 3
  have o4 := hcp.cell 4
  have o5 := hcp.cell 5
  have o6 := hcp.cell 6
  have o7 := hcp.cell 7
  have o8 := hcp.cell 8
  have o9 := hcp.cell 9
  simp only [List.getElem?_toArray, List.getElem?_cons_zero, List.getElem?_cons_succ] at o0 o1 o2 o3 o4 o5 o6 o7 o8 o9
  have oz := hcp.frozen
  have ol := hcp.lt
  have hzz := H3.out.2.1
  have nzo : w2.heap.size ≠ w.heap.size + 1 := by have := H1.out.2.1.lt; have := H3.out.2.2.2.2.1; omega
  clear hcp hzz
  go_wp2_with fail
  go_region_held3 (fun w' => w'.cell? ⟨w2.heap.size, 0, none⟩ = some (.int .i64 r.me) ∧ w'.cell? ⟨w2.heap.size, 1, none⟩ = some (.int .i64 r.kept.view) ∧ w'.cell? ⟨w2.heap.size, 2, none⟩ = some (.int .i64 r.kept.normal) ∧ w'.cell? ⟨w2.heap.size, 3, none⟩ = some (.bool r.kept.calm) ∧ w'.cell? ⟨w2.heap.size, 4, none⟩ = some (.slice E0 m0 d0) ∧ w'.cell? ⟨w2.heap.size, 5, none⟩ = some (.int .i64 r.kept.commit) ∧ w'.cell? ⟨w2.heap.size, 6, none⟩ = some (.slice E1 r.have_.length d1) ∧ w'.cell? ⟨w2.heap.size, 7, none⟩ = some (.slice E2 r.wants.length d2) ∧ w'.cell? ⟨w2.heap.size, 8, none⟩ = some (.slice E3 r.gives.length d3) ∧ w'.cell? ⟨w2.heap.size, 9, none⟩ = some (.slice E4 r.given.length d4))
    (first | (go_split_ands; (try dsimp only); (repeat' apply And.intro) <;> first | (with_reducible assumption) | (with_reducible (refine (cell_far10 ?_).trans ?_ <;> assumption))) | (go_split_ands; (try dsimp only); exact ⟨o0, o1, o2, o3, o4, o5, o6, o7, o8, o9⟩))
    (first
      | (go_at_call 27; refine (ledBy_a E0 m0 d0 E1 d1 E2 d2 E3 d3 E4 d4 r _ 0 (Nat.zero_le _) (H3.out.2.2.2.1.is.log.drewN 1) ms HMS.out).mono ?_; rintro en x1 ⟨⟨Ao, co, css, rfl, hu⟩, k1'⟩
         have nn1 : Below w3.heap.size w3 x1 := (below_drewN (Below.refl _ _) 1).trans k1'
         have M1 := Lib.hid nn1
         have y0 := (nn1.cell (p := ⟨w2.heap.size, 0, none⟩) ol).trans o0
         have y1 := (nn1.cell (p := ⟨w2.heap.size, 1, none⟩) ol).trans o1
         have y2 := (nn1.cell (p := ⟨w2.heap.size, 2, none⟩) ol).trans o2
         have y3 := (nn1.cell (p := ⟨w2.heap.size, 3, none⟩) ol).trans o3
         have y4 := (nn1.cell (p := ⟨w2.heap.size, 4, none⟩) ol).trans o4
         have y5 := (nn1.cell (p := ⟨w2.heap.size, 5, none⟩) ol).trans o5
         have y6 := (nn1.cell (p := ⟨w2.heap.size, 6, none⟩) ol).trans o6
         have y7 := (nn1.cell (p := ⟨w2.heap.size, 7, none⟩) ol).trans o7
         have y8 := (nn1.cell (p := ⟨w2.heap.size, 8, none⟩) ol).trans o8
         have y9 := (nn1.cell (p := ⟨w2.heap.size, 9, none⟩) ol).trans o9
         have hz1 := H3.out.2.1.same nn1
         have z0 := hz1.cell 0
         have z1 := hz1.cell 1
         have z2 := hz1.cell 2
         have z3 := hz1.cell 3
         have z4 := hz1.cell 4
         have z5 := hz1.cell 5
         have z6 := hz1.cell 6
         have z7 := hz1.cell 7
         have z8 := hz1.cell 8
         have z9 := hz1.cell 9
         simp only [List.getElem?_toArray, List.getElem?_cons_zero, List.getElem?_cons_succ] at z0 z1 z2 z3 z4 z5 z6 z7 z8 z9
         have zz := hz1.frozen
         have zl := hz1.lt
         have HU := Lib.hid hu.is
         clear nn1 hu k1'))
  all_goals
    rename_i hHeld
    clear hHeld
    have hr := blk_set10 (a0 := .int .i64 r.me) (a1 := .int .i64 r.kept.view) (a2 := .int .i64 r.kept.normal) (a3 := .bool r.kept.calm) (a4 := .slice E0 m0 d0) (a5 := .int .i64 r.kept.commit) (a6 := .slice E1 r.have_.length d1) (a7 := .slice E2 r.wants.length d2) (a8 := .slice E3 r.gives.length d3) (a9 := .slice E4 r.given.length d4) hz1
    have hsm := Same.sets10 (Ts := [9, 3, 4, 24, 41]) (B := 0) (a0 := .int .i64 r.me) (a1 := .int .i64 r.kept.view) (a2 := .int .i64 r.kept.normal) (a3 := .bool r.kept.calm) (a4 := .slice E0 m0 d0) (a5 := .int .i64 r.kept.commit) (a6 := .slice E1 r.have_.length d1) (a7 := .slice E2 r.wants.length d2) (a8 := .slice E3 r.gives.length d3) (a9 := .slice E4 r.given.length d4) hz1 (Nat.zero_le _) (by decide)
    have hT := IsRep.same (H3.out.2.2.2.1.is.below M1.out) (hsm.mono (by simp) (Nat.le_refl _))
    have hO := IsRow.same (Ts := [9, 41]) HU.out (by simp) (hsm.mono (by simp) (Nat.le_refl _)) (fun _ _ h => h.same (Ts := [9, 41]) (by simp) (hsm.mono (by simp) (Nat.le_refl _)))
    have hL := below_set10 (a0 := .int .i64 r.me) (a1 := .int .i64 r.kept.view) (a2 := .int .i64 r.kept.normal) (a3 := .bool r.kept.calm) (a4 := .slice E0 m0 d0) (a5 := .int .i64 r.kept.commit) (a6 := .slice E1 r.have_.length d1) (a7 := .slice E2 r.wants.length d2) (a8 := .slice E3 r.gives.length d3) (a9 := .slice E4 r.given.length d4) (H3.out.2.2.1.trans (M1.out.mono H3.out.2.2.1.size)) (show w.heap.size ≤ w.heap.size + 1 by omega)
    have r0 := hr.cell 0
    have r1 := hr.cell 1
    have r2 := hr.cell 2
    have r3 := hr.cell 3
    have r4 := hr.cell 4
    have r5 := hr.cell 5
    have r6 := hr.cell 6
    have r7 := hr.cell 7
    have r8 := hr.cell 8
    have r9 := hr.cell 9
    simp only [List.getElem?_toArray, List.getElem?_cons_zero, List.getElem?_cons_succ] at r0 r1 r2 r3 r4 r5 r6 r7 r8 r9
    have rz := hr.frozen
    have rl := hr.lt
    have HT := Lib.hid (And.intro hT (And.intro hO hL))
    clear hr hsm hT hO hL hz1
    go_wp2
    refine bodyPost_ret (v := .tuple #[.agg #[.int .i64 r.me, .int .i64 r.kept.view, .int .i64 r.kept.normal, .bool r.kept.calm, .slice E0 m0 d0, .int .i64 r.kept.commit, .slice E1 r.have_.length d1, .slice E2 r.wants.length d2, .slice E3 r.gives.length d3, .slice E4 r.given.length d4], .slice Ao ms.length co, .int .i64 0]) (by simp [results, Try.results9, go_sem, r0, r1, r2, r3, r4, r5, r6, r7, r8, r9]) rfl ?_
    first
    | exact ⟨⟨_, _, _, _, _, _, rfl, HT.out.1, HT.out.2.1⟩, HT.out.2.2⟩
    | exact ⟨⟨_, _, _, _, _, _, rfl, HT.out.1.same (Same.drew _), HT.out.2.1.same (Ts := [9, 41]) (by simp) (Same.drew _) (fun _ _ h => h.same (Ts := [9]) (by simp) (Same.drew _))⟩, HT.out.2.2.drew⟩
theorem OwnRep.put_wants {w : World} {base g n c : Nat} {lv hv gv nv : Value} {r : Scu.Replica} (h : OwnRep w base lv hv (.slice (some ⟨g, 0, none⟩) n c) gv nv r) {cur : Array Value} (hB : Blk w g 4 cur) (j : Nat) (b : Bool) :
    OwnRep (w.setCell ⟨g, j, none⟩ (.bool b)) base lv hv (.slice (some ⟨g, 0, none⟩) n c) gv nv { r with wants := r.wants.set j b } := by
  have hs : Same [9, 3, 24] 0 w (w.setCell ⟨g, j, none⟩ (.bool b)) := Same.set_ hB (Nat.zero_le _) (by decide) j _
  obtain ⟨css', hgv⟩ := h.giv
  exact ⟨⟨h.own.log.same (hs.mono (by simp) (Nat.le_refl _)), h.own.have_.same (hs.mono (by simp) (Nat.le_refl _)), h.own.wants.put j b, h.own.given.far (h.own.apart g rfl) _, h.own.apart⟩, css', hgv.same (hs.mono (by simp) (Nat.le_refl _))⟩
theorem ownMs_one {w : World} {base g : Nat} {cs : Array Value} (h : Blk w g 41 cs) {m : Scu.Message} (hc : cs = (msgV m (.slice none 0 0)).toArray) (hl : m.log = []) (hb : base ≤ g) : OwnMs w base (.slice (some ⟨g, 0, none⟩) 1 1) [m] [msgV m (.slice none 0 0)] := by
  subst hc
  refine ⟨rfl, ?_, own_blkm (size := 8) (n := 1) (xs := [msgV m (.slice none 0 0)].flatten) (by simpa using h) hb rfl (by decide), ?_, by simp [R47]⟩
  · intro cs hcs
    rw [List.mem_singleton] at hcs
    subst hcs
    rfl
  · intro j cs x h1 h2
    rcases j with _ | j
    · simp at h1 h2
      subst h1 h2
      exact ⟨_, rfl, by rw [hl]; exact IsStrs.nil_⟩
    · simp at h1
theorem ticked_3 (lv hv wv gv nv : Value) (r : Scu.Replica) (w : World) (B : Nat) (hr : IsRep w B lv hv wv gv nv r) (hf : Scu.repFault r = 0) (hl : Scu.leads r = false) (hc : r.kept.calm = true) :
    Calls Try.prog 9 #[.agg #[.int .i64 r.me, .int .i64 r.kept.view, .int .i64 r.kept.normal, .bool r.kept.calm, lv, .int .i64 r.kept.commit, hv, wv, gv, nv]] w fun e w' => TellRet w' r [⟨2, r.me, Scu.leader r.kept.view, r.kept.view, 0, 0, r.kept.log.length, []⟩] 0 e ∧ Below w.heap.size w w' := by
  have HL := Lib.hid hl
  have HCC := Lib.hid hc
  clear hl hc
  have hvw := rep_view hf
  have HV := Lib.hid hr
  have HF := Lib.hid hf
  obtain ⟨A0, n0, c0, A1, c1, A2, c2, A3, c3, A4, c4, rfl, rfl, rfl, rfl, rfl⟩ := hr.forms
  clear hr hf
  go_enter Try.func9, Try.ntmps9
  go_wp2_with fail
  have h0 : Below w.heap.size w ((w.alloc (Obj.cells #[.int .i64 r.me, .int .i64 r.kept.view, .int .i64 r.kept.normal, .bool r.kept.calm, .slice A0 n0 c0, .int .i64 r.kept.commit, .slice A1 r.have_.length c1, .slice A2 r.wants.length c2, .slice A3 r.gives.length c3, .slice A4 r.given.length c4] 29)).alloc (Obj.cells #[.int .i64 0, .int .i64 0, .int .i64 0, .bool false, .slice none 0 0, .int .i64 0, .slice none 0 0, .slice none 0 0, .slice none 0 0, .slice none 0 0] 29)) := (below_alloc w _).alloc (by simp) _
  refine (repFaultRef_a _ _ _ _ _ r _ B (HV.out.below h0) 0 HF.out).mono ?_; rintro en w1 ⟨rfl, h1⟩
  have hs : Blk w1 w.heap.size 29 #[.int .i64 r.me, .int .i64 r.kept.view, .int .i64 r.kept.normal, .bool r.kept.calm, .slice A0 n0 c0, .int .i64 r.kept.commit, .slice A1 r.have_.length c1, .slice A2 r.wants.length c2, .slice A3 r.gives.length c3, .slice A4 r.given.length c4] := ((Blk.new w _ _).alloc _).same h1
  have hz : Blk w1 (w.heap.size + 1) 29 #[.int .i64 0, .int .i64 0, .int .i64 0, .bool false, .slice none 0 0, .int .i64 0, .slice none 0 0, .slice none 0 0, .slice none 0 0, .slice none 0 0] := (Blk.new' (by simp)).same h1
  have hb := h0.trans (h1.mono h0.size)
  have H1 := Lib.hid (And.intro hs (And.intro hz hb))
  have s0 := hs.cell 0
  have s1 := hs.cell 1
  have s2 := hs.cell 2
  have s3 := hs.cell 3
  have s4 := hs.cell 4
  have s5 := hs.cell 5
  have s6 := hs.cell 6
  have s7 := hs.cell 7
  have s8 := hs.cell 8
  have s9 := hs.cell 9
  simp only [List.getElem?_toArray, List.getElem?_cons_zero, List.getElem?_cons_succ] at s0 s1 s2 s3 s4 s5 s6 s7 s8 s9
  have sz := hs.frozen
  have sl := hs.lt
  clear h1 h0 hs hz hb HF
  go_upto_region 4 with fail
  go_wp2_with fail
  refine (repCopyRef_c A0 n0 c0 A1 c1 A2 c2 A3 r.gives.length c3 A4 c4 r _ B (HV.out.below H1.out.2.2)).mono ?_; rintro en w2 ⟨⟨lu, hu, wu, gu, nu, rfl, ho, hap⟩, h2⟩
  obtain ⟨E0, m0, d0, E1, d1, E2, d2, E3, d3, E4, d4, rfl, rfl, rfl, rfl, rfl⟩ := ho.is.forms
  obtain ⟨Wc, hWc⟩ : ∃ W, W = w2.alloc (Obj.cells #[.int .i64 r.me, .int .i64 r.kept.view, .int .i64 r.kept.normal, .bool r.kept.calm, .slice E0 m0 d0, .int .i64 r.kept.commit, .slice E1 r.have_.length d1, .slice E2 r.wants.length d2, .slice E3 r.gives.length d3, .slice E4 r.given.length d4] 29) := ⟨_, rfl⟩
  have hbc : Below w2.heap.size w2 Wc := by rw [hWc]; exact below_alloc _ _
  have hcp : Blk Wc w2.heap.size 29 #[.int .i64 r.me, .int .i64 r.kept.view, .int .i64 r.kept.normal, .bool r.kept.calm, .slice E0 m0 d0, .int .i64 r.kept.commit, .slice E1 r.have_.length d1, .slice E2 r.wants.length d2, .slice E3 r.gives.length d3, .slice E4 r.given.length d4] := by rw [hWc]; exact Blk.new _ _ _
  have hsz := H1.out.2.2.size
  have hs1 := H1.out.1.lt
  have hs2 := H1.out.2.1.lt
  have HC := Lib.hid (show Blk Wc w.heap.size 29 #[.int .i64 r.me, .int .i64 r.kept.view, .int .i64 r.kept.normal, .bool r.kept.calm, .slice A0 n0 c0, .int .i64 r.kept.commit, .slice A1 r.have_.length c1, .slice A2 r.wants.length c2, .slice A3 r.gives.length c3, .slice A4 r.given.length c4] ∧ Blk Wc (w.heap.size + 1) 29 #[.int .i64 0, .int .i64 0, .int .i64 0, .bool false, .slice none 0 0, .int .i64 0, .slice none 0 0, .slice none 0 0, .slice none 0 0, .slice none 0 0] ∧ Below w.heap.size w Wc ∧ OwnRep Wc w1.heap.size (.slice E0 m0 d0) (.slice E1 r.have_.length d1) (.slice E2 r.wants.length d2) (.slice E3 r.gives.length d3) (.slice E4 r.given.length d4) r ∧ w1.heap.size ≤ w2.heap.size from ⟨(H1.out.1.same h2).same hbc, (H1.out.2.1.same h2).same hbc, H1.out.2.2.trans ((h2.trans (hbc.mono h2.size)).mono hsz), ho.below hbc, h2.size⟩)
  go_upto_region 5 with fail
  rw [← hWc]
  clear hWc s0 s1 s2 s3 s4 s5 s6 s7 s8 s9 sz sl hs1 hs2 ho hap h2 hsz
  have hsc := HC.out.1
  have s0 := hsc.cell 0
  have s1 := hsc.cell 1
  have s2 := hsc.cell 2
  have s3 := hsc.cell 3
  have s4 := hsc.cell 4
  have s5 := hsc.cell 5
  have s6 := hsc.cell 6
  have s7 := hsc.cell 7
  have s8 := hsc.cell 8
  have s9 := hsc.cell 9
  simp only [List.getElem?_toArray, List.getElem?_cons_zero, List.getElem?_cons_succ] at s0 s1 s2 s3 s4 s5 s6 s7 s8 s9
  have sz := hsc.frozen
  have sl := hsc.lt
  have HCP := Lib.hid (And.intro hcp hbc)
  clear hsc hcp hbc
  go_wp2_with fail
  refine (leadsNow_a _ _ _ _ _ r hvw _ false HL.out).mono ?_; rintro en w3 ⟨rfl, h3⟩
  have H3 := Lib.hid (show Blk w3 w.heap.size 29 #[.int .i64 r.me, .int .i64 r.kept.view, .int .i64 r.kept.normal, .bool r.kept.calm, .slice A0 n0 c0, .int .i64 r.kept.commit, .slice A1 r.have_.length c1, .slice A2 r.wants.length c2, .slice A3 r.gives.length c3, .slice A4 r.given.length c4] ∧ Blk w3 (w.heap.size + 1) 29 #[.int .i64 0, .int .i64 0, .int .i64 0, .bool false, .slice none 0 0, .int .i64 0, .slice none 0 0, .slice none 0 0, .slice none 0 0, .slice none 0 0] ∧ Below w.heap.size w w3 ∧ OwnRep w3 w1.heap.size (.slice E0 m0 d0) (.slice E1 r.have_.length d1) (.slice E2 r.wants.length d2) (.slice E3 r.gives.length d3) (.slice E4 r.given.length d4) r ∧ w1.heap.size ≤ w2.heap.size ∧ Blk w3 w2.heap.size 29 #[.int .i64 r.me, .int .i64 r.kept.view, .int .i64 r.kept.normal, .bool r.kept.calm, .slice E0 m0 d0, .int .i64 r.kept.commit, .slice E1 r.have_.length d1, .slice E2 r.wants.length d2, .slice E3 r.gives.length d3, .slice E4 r.given.length d4] from
    ⟨HC.out.1.same h3, HC.out.2.1.same h3, HC.out.2.2.1.trans (h3.mono HC.out.2.2.1.size), HC.out.2.2.2.1.below h3, HC.out.2.2.2.2, HCP.out.1.same h3⟩)
  clear h3 s0 s1 s2 s3 s4 s5 s6 s7 s8 s9 sz sl HL
  have hcp := H3.out.2.2.2.2.2
  have o0 := hcp.cell 0
  have o1 := hcp.cell 1
  have o2 := hcp.cell 2
  have o3 := hcp.cell 3
  have o4 := hcp.cell 4
  have o5 := hcp.cell 5
  have o6 := hcp.cell 6
  have o7 := hcp.cell 7
  have o8 := hcp.cell 8
  have o9 := hcp.cell 9
  simp only [List.getElem?_toArray, List.getElem?_cons_zero, List.getElem?_cons_succ] at o0 o1 o2 o3 o4 o5 o6 o7 o8 o9
  have oz := hcp.frozen
  have ol := hcp.lt
  have hzz := H3.out.2.1
  have nzo : w2.heap.size ≠ w.heap.size + 1 := by have := H1.out.2.1.lt; have := H3.out.2.2.2.2.1; omega
  clear hcp hzz
  have hn0 : n0 = r.kept.log.length := by
    obtain ⟨A', c', e, _⟩ := HV.out.log.ex
    cases e
    rfl
  subst hn0
  have hsc := H3.out.1
  have s0 := hsc.cell 0
  have s1 := hsc.cell 1
  have s2 := hsc.cell 2
  have s3 := hsc.cell 3
  have s4 := hsc.cell 4
  have s5 := hsc.cell 5
  have s6 := hsc.cell 6
  have s7 := hsc.cell 7
  have s8 := hsc.cell 8
  have s9 := hsc.cell 9
  simp only [List.getElem?_toArray, List.getElem?_cons_zero, List.getElem?_cons_succ] at s0 s1 s2 s3 s4 s5 s6 s7 s8 s9
  have sz := hsc.frozen
  have sl := hsc.lt
  rw [HCC.out] at s3
  have hz1 := H3.out.2.1
  have z0 := hz1.cell 0
  have z1 := hz1.cell 1
  have z2 := hz1.cell 2
  have z3 := hz1.cell 3
  have z4 := hz1.cell 4
  have z5 := hz1.cell 5
  have z6 := hz1.cell 6
  have z7 := hz1.cell 7
  have z8 := hz1.cell 8
  have z9 := hz1.cell 9
  simp only [List.getElem?_toArray, List.getElem?_cons_zero, List.getElem?_cons_succ] at z0 z1 z2 z3 z4 z5 z6 z7 z8 z9
  have zz := hz1.frozen
  have zl := hz1.lt
  clear hsc
  go_wp2_with fail
  go_region
  have hr := blk_set10 (a0 := .int .i64 r.me) (a1 := .int .i64 r.kept.view) (a2 := .int .i64 r.kept.normal) (a3 := .bool r.kept.calm) (a4 := .slice E0 m0 d0) (a5 := .int .i64 r.kept.commit) (a6 := .slice E1 r.have_.length d1) (a7 := .slice E2 r.wants.length d2) (a8 := .slice E3 r.gives.length d3) (a9 := .slice E4 r.given.length d4) hz1
  have hsm := Same.sets10 (Ts := [9, 3, 4, 24, 41]) (B := 0) (a0 := .int .i64 r.me) (a1 := .int .i64 r.kept.view) (a2 := .int .i64 r.kept.normal) (a3 := .bool r.kept.calm) (a4 := .slice E0 m0 d0) (a5 := .int .i64 r.kept.commit) (a6 := .slice E1 r.have_.length d1) (a7 := .slice E2 r.wants.length d2) (a8 := .slice E3 r.gives.length d3) (a9 := .slice E4 r.given.length d4) hz1 (Nat.zero_le _) (by decide)
  have hT := IsRep.same H3.out.2.2.2.1.is (hsm.mono (by simp) (Nat.le_refl _))
  have hL := below_set10 (a0 := .int .i64 r.me) (a1 := .int .i64 r.kept.view) (a2 := .int .i64 r.kept.normal) (a3 := .bool r.kept.calm) (a4 := .slice E0 m0 d0) (a5 := .int .i64 r.kept.commit) (a6 := .slice E1 r.have_.length d1) (a7 := .slice E2 r.wants.length d2) (a8 := .slice E3 r.gives.length d3) (a9 := .slice E4 r.given.length d4) H3.out.2.2.1 (show w.heap.size ≤ w.heap.size + 1 by omega)
  obtain ⟨Wv, hWv⟩ : ∃ W, W = (((((((((w3.setCell ⟨w.heap.size + 1, 0, none⟩ (.int .i64 r.me)).setCell ⟨w.heap.size + 1, 1, none⟩ (.int .i64 r.kept.view)).setCell ⟨w.heap.size + 1, 2, none⟩ (.int .i64 r.kept.normal)).setCell ⟨w.heap.size + 1, 3, none⟩ (.bool r.kept.calm)).setCell ⟨w.heap.size + 1, 4, none⟩ (.slice E0 m0 d0)).setCell ⟨w.heap.size + 1, 5, none⟩ (.int .i64 r.kept.commit)).setCell ⟨w.heap.size + 1, 6, none⟩ (.slice E1 r.have_.length d1)).setCell ⟨w.heap.size + 1, 7, none⟩ (.slice E2 r.wants.length d2)).setCell ⟨w.heap.size + 1, 8, none⟩ (.slice E3 r.gives.length d3)).setCell ⟨w.heap.size + 1, 9, none⟩ (.slice E4 r.given.length d4) := ⟨_, rfl⟩
  have hsw : Wv.heap.size = w3.heap.size := by rw [hWv]; simp [World.setCell]
  rw [← hWv] at hr hT hL ⊢
  rw [← hsw]
  have hal := below_alloc Wv (Obj.cells #[.int .i64 2, .int .i64 r.me, .int .i64 (r.kept.view % 3), .int .i64 r.kept.view, .int .i64 0, .int .i64 0, .int .i64 r.kept.log.length, .slice none 0 0] 41)
  have hr2 := hr.same hal
  have r0 := hr2.cell 0
  have r1 := hr2.cell 1
  have r2 := hr2.cell 2
  have r3 := hr2.cell 3
  have r4 := hr2.cell 4
  have r5 := hr2.cell 5
  have r6 := hr2.cell 6
  have r7 := hr2.cell 7
  have r8 := hr2.cell 8
  have r9 := hr2.cell 9
  simp only [List.getElem?_toArray, List.getElem?_cons_zero, List.getElem?_cons_succ] at r0 r1 r2 r3 r4 r5 r6 r7 r8 r9
  have rz := hr2.frozen
  have rl := hr2.lt
  have HT := Lib.hid (And.intro (hT.below hal) (And.intro (ownMs_one (Blk.new Wv 41 #[.int .i64 2, .int .i64 r.me, .int .i64 (r.kept.view % 3), .int .i64 r.kept.view, .int .i64 0, .int .i64 0, .int .i64 r.kept.log.length, .slice none 0 0]) (m := ⟨2, r.me, Scu.leader r.kept.view, r.kept.view, 0, 0, r.kept.log.length, []⟩) rfl rfl (Nat.zero_le _)).is (hL.trans (hal.mono hL.size))))
  clear hr hsm hT hL hz1 hWv hr2 hal hsw
  go_wp2
  refine bodyPost_ret (v := .tuple #[.agg #[.int .i64 r.me, .int .i64 r.kept.view, .int .i64 r.kept.normal, .bool r.kept.calm, .slice E0 m0 d0, .int .i64 r.kept.commit, .slice E1 r.have_.length d1, .slice E2 r.wants.length d2, .slice E3 r.gives.length d3, .slice E4 r.given.length d4], .slice (some ⟨Wv.heap.size, 0, none⟩) 1 1, .int .i64 0]) (by simp [results, Try.results9, go_sem, r0, r1, r2, r3, r4, r5, r6, r7, r8, r9]) rfl ?_
  exact ⟨⟨_, _, _, _, _, _, rfl, HT.out.1.same (Same.drew _), HT.out.2.1.same (Ts := [9, 41]) (by simp) (Same.drew _) (fun _ _ h => h.same (Ts := [9]) (by simp) (Same.drew _))⟩, HT.out.2.2.drew⟩
theorem ticked_4 (lv hv wv gv nv : Value) (r : Scu.Replica) (w : World) (B : Nat) (hr : IsRep w B lv hv wv gv nv r) (hf : Scu.repFault r = 0) (hl : Scu.leads r = false) (hc : r.kept.calm = false) (ms : List Scu.Message) (hms : Scu.toAll r.me r.kept.view { Scu.msg0 with kind := 3 } = ms) (rr : Scu.Replica) (hrr : { r with wants := r.wants.set r.me.toNat true } = rr) :
    Calls Try.prog 9 #[.agg #[.int .i64 r.me, .int .i64 r.kept.view, .int .i64 r.kept.normal, .bool r.kept.calm, lv, .int .i64 r.kept.commit, hv, wv, gv, nv]] w fun e w' => TellRet w' rr ms 0 e ∧ Below w.heap.size w w' := by
  have HL := Lib.hid hl
  have HCC := Lib.hid hc
  have HMS := Lib.hid (And.intro hms hrr)
  have HT3 := Lib.hid (rep_three hf)
  clear hl hc hms hrr
  have hvw := rep_view hf
  have HV := Lib.hid hr
  have HF := Lib.hid hf
  obtain ⟨A0, n0, c0, A1, c1, A2, c2, A3, c3, A4, c4, rfl, rfl, rfl, rfl, rfl⟩ := hr.forms
  clear hr hf
  go_enter Try.func9, Try.ntmps9
  go_wp2_with fail
  have h0 : Below w.heap.size w ((w.alloc (Obj.cells #[.int .i64 r.me, .int .i64 r.kept.view, .int .i64 r.kept.normal, .bool r.kept.calm, .slice A0 n0 c0, .int .i64 r.kept.commit, .slice A1 r.have_.length c1, .slice A2 r.wants.length c2, .slice A3 r.gives.length c3, .slice A4 r.given.length c4] 29)).alloc (Obj.cells #[.int .i64 0, .int .i64 0, .int .i64 0, .bool false, .slice none 0 0, .int .i64 0, .slice none 0 0, .slice none 0 0, .slice none 0 0, .slice none 0 0] 29)) := (below_alloc w _).alloc (by simp) _
  refine (repFaultRef_a _ _ _ _ _ r _ B (HV.out.below h0) 0 HF.out).mono ?_; rintro en w1 ⟨rfl, h1⟩
  have hs : Blk w1 w.heap.size 29 #[.int .i64 r.me, .int .i64 r.kept.view, .int .i64 r.kept.normal, .bool r.kept.calm, .slice A0 n0 c0, .int .i64 r.kept.commit, .slice A1 r.have_.length c1, .slice A2 r.wants.length c2, .slice A3 r.gives.length c3, .slice A4 r.given.length c4] := ((Blk.new w _ _).alloc _).same h1
  have hz : Blk w1 (w.heap.size + 1) 29 #[.int .i64 0, .int .i64 0, .int .i64 0, .bool false, .slice none 0 0, .int .i64 0, .slice none 0 0, .slice none 0 0, .slice none 0 0, .slice none 0 0] := (Blk.new' (by simp)).same h1
  have hb := h0.trans (h1.mono h0.size)
  have H1 := Lib.hid (And.intro hs (And.intro hz hb))
  have s0 := hs.cell 0
  have s1 := hs.cell 1
  have s2 := hs.cell 2
  have s3 := hs.cell 3
  have s4 := hs.cell 4
  have s5 := hs.cell 5
  have s6 := hs.cell 6
  have s7 := hs.cell 7
  have s8 := hs.cell 8
  have s9 := hs.cell 9
  simp only [List.getElem?_toArray, List.getElem?_cons_zero, List.getElem?_cons_succ] at s0 s1 s2 s3 s4 s5 s6 s7 s8 s9
  have sz := hs.frozen
  have sl := hs.lt
  clear h1 h0 hs hz hb HF
  go_upto_region 4 with fail
  go_wp2_with fail
  refine (repCopyRef_c A0 n0 c0 A1 c1 A2 c2 A3 r.gives.length c3 A4 c4 r _ B (HV.out.below H1.out.2.2)).mono ?_; rintro en w2 ⟨⟨lu, hu, wu, gu, nu, rfl, ho, hap⟩, h2⟩
  obtain ⟨E0, m0, d0, E1, d1, E2, d2, E3, d3, E4, d4, rfl, rfl, rfl, rfl, rfl⟩ := ho.is.forms
  obtain ⟨Wc, hWc⟩ : ∃ W, W = w2.alloc (Obj.cells #[.int .i64 r.me, .int .i64 r.kept.view, .int .i64 r.kept.normal, .bool r.kept.calm, .slice E0 m0 d0, .int .i64 r.kept.commit, .slice E1 r.have_.length d1, .slice E2 r.wants.length d2, .slice E3 r.gives.length d3, .slice E4 r.given.length d4] 29) := ⟨_, rfl⟩
  have hbc : Below w2.heap.size w2 Wc := by rw [hWc]; exact below_alloc _ _
  have hcp : Blk Wc w2.heap.size 29 #[.int .i64 r.me, .int .i64 r.kept.view, .int .i64 r.kept.normal, .bool r.kept.calm, .slice E0 m0 d0, .int .i64 r.kept.commit, .slice E1 r.have_.length d1, .slice E2 r.wants.length d2, .slice E3 r.gives.length d3, .slice E4 r.given.length d4] := by rw [hWc]; exact Blk.new _ _ _
  have hsz := H1.out.2.2.size
  have hs1 := H1.out.1.lt
  have hs2 := H1.out.2.1.lt
  have HC := Lib.hid (show Blk Wc w.heap.size 29 #[.int .i64 r.me, .int .i64 r.kept.view, .int .i64 r.kept.normal, .bool r.kept.calm, .slice A0 n0 c0, .int .i64 r.kept.commit, .slice A1 r.have_.length c1, .slice A2 r.wants.length c2, .slice A3 r.gives.length c3, .slice A4 r.given.length c4] ∧ Blk Wc (w.heap.size + 1) 29 #[.int .i64 0, .int .i64 0, .int .i64 0, .bool false, .slice none 0 0, .int .i64 0, .slice none 0 0, .slice none 0 0, .slice none 0 0, .slice none 0 0] ∧ Below w.heap.size w Wc ∧ OwnRep Wc w1.heap.size (.slice E0 m0 d0) (.slice E1 r.have_.length d1) (.slice E2 r.wants.length d2) (.slice E3 r.gives.length d3) (.slice E4 r.given.length d4) r ∧ w1.heap.size ≤ w2.heap.size from ⟨(H1.out.1.same h2).same hbc, (H1.out.2.1.same h2).same hbc, H1.out.2.2.trans ((h2.trans (hbc.mono h2.size)).mono hsz), ho.below hbc, h2.size⟩)
  go_upto_region 5 with fail
  rw [← hWc]
  clear hWc s0 s1 s2 s3 s4 s5 s6 s7 s8 s9 sz sl hs1 hs2 ho hap h2 hsz
  have hsc := HC.out.1
  have s0 := hsc.cell 0
  have s1 := hsc.cell 1
  have s2 := hsc.cell 2
  have s3 := hsc.cell 3
  have s4 := hsc.cell 4
  have s5 := hsc.cell 5
  have s6 := hsc.cell 6
  have s7 := hsc.cell 7
  have s8 := hsc.cell 8
  have s9 := hsc.cell 9
  simp only [List.getElem?_toArray, List.getElem?_cons_zero, List.getElem?_cons_succ] at s0 s1 s2 s3 s4 s5 s6 s7 s8 s9
  have sz := hsc.frozen
  have sl := hsc.lt
  have HCP := Lib.hid (And.intro hcp hbc)
  clear hsc hcp hbc
  go_wp2_with fail
  refine (leadsNow_a _ _ _ _ _ r hvw _ false HL.out).mono ?_; rintro en w3 ⟨rfl, h3⟩
  have H3 := Lib.hid (show Blk w3 w.heap.size 29 #[.int .i64 r.me, .int .i64 r.kept.view, .int .i64 r.kept.normal, .bool r.kept.calm, .slice A0 n0 c0, .int .i64 r.kept.commit, .slice A1 r.have_.length c1, .slice A2 r.wants.length c2, .slice A3 r.gives.length c3, .slice A4 r.given.length c4] ∧ Blk w3 (w.heap.size + 1) 29 #[.int .i64 0, .int .i64 0, .int .i64 0, .bool false, .slice none 0 0, .int .i64 0, .slice none 0 0, .slice none 0 0, .slice none 0 0, .slice none 0 0] ∧ Below w.heap.size w w3 ∧ OwnRep w3 w1.heap.size (.slice E0 m0 d0) (.slice E1 r.have_.length d1) (.slice E2 r.wants.length d2) (.slice E3 r.gives.length d3) (.slice E4 r.given.length d4) r ∧ w1.heap.size ≤ w2.heap.size ∧ Blk w3 w2.heap.size 29 #[.int .i64 r.me, .int .i64 r.kept.view, .int .i64 r.kept.normal, .bool r.kept.calm, .slice E0 m0 d0, .int .i64 r.kept.commit, .slice E1 r.have_.length d1, .slice E2 r.wants.length d2, .slice E3 r.gives.length d3, .slice E4 r.given.length d4] from
    ⟨HC.out.1.same h3, HC.out.2.1.same h3, HC.out.2.2.1.trans (h3.mono HC.out.2.2.1.size), HC.out.2.2.2.1.below h3, HC.out.2.2.2.2, HCP.out.1.same h3⟩)
  clear h3 s0 s1 s2 s3 s4 s5 s6 s7 s8 s9 sz sl HL
  have hcp := H3.out.2.2.2.2.2
  have o0 := hcp.cell 0
  have o1 := hcp.cell 1
  have o2 := hcp.cell 2
  have o3 := hcp.cell 3
  have o4 := hcp.cell 4
  have o5 := hcp.cell 5
  have o6 := hcp.cell 6
  have o7 := hcp.cell 7
  have o8 := hcp.cell 8
  have o9 := hcp.cell 9
  simp only [List.getElem?_toArray, List.getElem?_cons_zero, List.getElem?_cons_succ] at o0 o1 o2 o3 o4 o5 o6 o7 o8 o9
  have oz := hcp.frozen
  have ol := hcp.lt
  have hzz := H3.out.2.1
  have nzo : w2.heap.size ≠ w.heap.size + 1 := by have := H1.out.2.1.lt; have := H3.out.2.2.2.2.1; omega
  clear hcp hzz
  have hme0 : 0 ≤ r.me := HT3.out.2.2.2.2.1
  have hme3 : r.me < 3 := HT3.out.2.2.2.2.2
  obtain ⟨gq, cq, hwq⟩ := ones3f H3.out.2.2.2.1.own.wants HT3.out.2.1
  simp only [Value.slice.injEq] at hwq
  obtain ⟨rfl, _, rfl⟩ := hwq
  have hw3l : r.wants.length = 3 := HT3.out.2.1
  have hown := H3.out.2.2.2.1
  rw [hw3l] at hown o7
  obtain ⟨hgb, ⟨cur, hB⟩, hcw, hfw, hxx⟩ := ones3' hown.own.wants HT3.out.2.1
  obtain ⟨u, hu⟩ := Option.isSome_iff_exists.1 (hcw r.me.toNat (by omega))
  have dz := hfw r.me.toNat
  have HB := Lib.hid (And.intro hB (And.intro hgb hown))
  have hsc := H3.out.1
  have s0 := hsc.cell 0
  have s1 := hsc.cell 1
  have s2 := hsc.cell 2
  have s3 := hsc.cell 3
  have s4 := hsc.cell 4
  have s5 := hsc.cell 5
  have s6 := hsc.cell 6
  have s7 := hsc.cell 7
  have s8 := hsc.cell 8
  have s9 := hsc.cell 9
  simp only [List.getElem?_toArray, List.getElem?_cons_zero, List.getElem?_cons_succ] at s0 s1 s2 s3 s4 s5 s6 s7 s8 s9
  have sz := hsc.frozen
  have sl := hsc.lt
  rw [HCC.out] at s3
  clear hsc hB hcw hfw hxx hgb hown
  go_wp2_with fail
  obtain ⟨Wv, hWv⟩ : ∃ W, W = w3.setCell ⟨gq, r.me.toNat, none⟩ (.bool true) := ⟨_, rfl⟩
  rw [← hWv]
  have hlt1 : w.heap.size + 1 < w1.heap.size := H1.out.2.1.lt
  have hgb := HB.out.2.1
  have HV4 := Lib.hid (show OwnRep Wv w1.heap.size (.slice E0 m0 d0) (.slice E1 r.have_.length d1) (.slice (some ⟨gq, 0, none⟩) 3 d2) (.slice E3 r.gives.length d3) (.slice E4 r.given.length d4) rr ∧ Blk Wv (w.heap.size + 1) 29 #[.int .i64 0, .int .i64 0, .int .i64 0, .bool false, .slice none 0 0, .int .i64 0, .slice none 0 0, .slice none 0 0, .slice none 0 0, .slice none 0 0] ∧ Below w.heap.size w Wv from by
    rw [hWv, ← HMS.out.2]
    exact ⟨HB.out.2.2.put_wants HB.out.1 r.me.toNat true, H3.out.2.1.far (p := ⟨gq, r.me.toNat, none⟩) (by show w.heap.size + 1 ≠ gq; omega) _, H3.out.2.2.1.setCell (p := ⟨gq, r.me.toNat, none⟩) (by show w.heap.size ≤ gq; omega) _⟩)
  have hcp4 : Blk Wv w2.heap.size 29 #[.int .i64 r.me, .int .i64 r.kept.view, .int .i64 r.kept.normal, .bool r.kept.calm, .slice E0 m0 d0, .int .i64 r.kept.commit, .slice E1 r.have_.length d1, .slice (some ⟨gq, 0, none⟩) 3 d2, .slice E3 r.gives.length d3, .slice E4 r.given.length d4] := by
    have h := H3.out.2.2.2.2.2
    rw [hw3l] at h
    rw [hWv]
    exact h.far (p := ⟨gq, r.me.toNat, none⟩) (blk_ne h HB.out.1 (by decide)) _
  clear hWv s0 s1 s2 s3 s4 s5 s6 s7 s8 s9 sz sl o0 o1 o2 o3 o4 o5 o6 o7 o8 o9 oz ol hu dz
  have o0 := hcp4.cell 0
  have o1 := hcp4.cell 1
  have o2 := hcp4.cell 2
  have o3 := hcp4.cell 3
  have o4 := hcp4.cell 4
  have o5 := hcp4.cell 5
  have o6 := hcp4.cell 6
  have o7 := hcp4.cell 7
  have o8 := hcp4.cell 8
  have o9 := hcp4.cell 9
  simp only [List.getElem?_toArray, List.getElem?_cons_zero, List.getElem?_cons_succ] at o0 o1 o2 o3 o4 o5 o6 o7 o8 o9
  have oz := hcp4.frozen
  have ol := hcp4.lt
  clear hcp4
  go_wp2_with fail
  go_region_held3 (fun w' => w'.cell? ⟨w2.heap.size, 0, none⟩ = some (.int .i64 r.me) ∧ w'.cell? ⟨w2.heap.size, 1, none⟩ = some (.int .i64 r.kept.view) ∧ w'.cell? ⟨w2.heap.size, 2, none⟩ = some (.int .i64 r.kept.normal) ∧ w'.cell? ⟨w2.heap.size, 3, none⟩ = some (.bool r.kept.calm) ∧ w'.cell? ⟨w2.heap.size, 4, none⟩ = some (.slice E0 m0 d0) ∧ w'.cell? ⟨w2.heap.size, 5, none⟩ = some (.int .i64 r.kept.commit) ∧ w'.cell? ⟨w2.heap.size, 6, none⟩ = some (.slice E1 r.have_.length d1) ∧ w'.cell? ⟨w2.heap.size, 7, none⟩ = some (.slice (some ⟨gq, 0, none⟩) 3 d2) ∧ w'.cell? ⟨w2.heap.size, 8, none⟩ = some (.slice E3 r.gives.length d3) ∧ w'.cell? ⟨w2.heap.size, 9, none⟩ = some (.slice E4 r.given.length d4))
    (first | (go_split_ands; (try dsimp only); (repeat' apply And.intro) <;> first | (with_reducible assumption) | (with_reducible (refine (cell_far10 ?_).trans ?_ <;> assumption))) | (go_split_ands; (try dsimp only); exact ⟨o0, o1, o2, o3, o4, o5, o6, o7, o8, o9⟩))
    (first
      | (go_at_call 28; refine (toAll_c r.me r.kept.view r.kept.normal r.kept.calm (.slice E0 m0 d0) r.kept.commit (.slice E1 r.have_.length d1) (.slice (some ⟨gq, 0, none⟩) 3 d2) (.slice E3 r.gives.length d3) (.slice E4 r.given.length d4) (.slice none 0 0) { Scu.msg0 with kind := 3 } _ 0 (Nat.zero_le _) IsStrs.nil_).mono ?_; rintro en x1 ⟨⟨ov, css, rfl, hu⟩, k1'⟩
         have nn1 : Below Wv.heap.size Wv x1 := (below_drewN (Below.refl _ _) 1).trans k1'
         rw [show partAll r.me r.kept.view { Scu.msg0 with kind := 3 } 3 = ms from HMS.out.1] at hu
         obtain ⟨Ao, co, rfl⟩ := hu.form
         have M1 := Lib.hid nn1
         have y0 := (nn1.cell (p := ⟨w2.heap.size, 0, none⟩) ol).trans o0
         have y1 := (nn1.cell (p := ⟨w2.heap.size, 1, none⟩) ol).trans o1
         have y2 := (nn1.cell (p := ⟨w2.heap.size, 2, none⟩) ol).trans o2
         have y3 := (nn1.cell (p := ⟨w2.heap.size, 3, none⟩) ol).trans o3
         have y4 := (nn1.cell (p := ⟨w2.heap.size, 4, none⟩) ol).trans o4
         have y5 := (nn1.cell (p := ⟨w2.heap.size, 5, none⟩) ol).trans o5
         have y6 := (nn1.cell (p := ⟨w2.heap.size, 6, none⟩) ol).trans o6
         have y7 := (nn1.cell (p := ⟨w2.heap.size, 7, none⟩) ol).trans o7
         have y8 := (nn1.cell (p := ⟨w2.heap.size, 8, none⟩) ol).trans o8
         have y9 := (nn1.cell (p := ⟨w2.heap.size, 9, none⟩) ol).trans o9
         have hz1 := HV4.out.2.1.same nn1
         have z0 := hz1.cell 0
         have z1 := hz1.cell 1
         have z2 := hz1.cell 2
         have z3 := hz1.cell 3
         have z4 := hz1.cell 4
         have z5 := hz1.cell 5
         have z6 := hz1.cell 6
         have z7 := hz1.cell 7
         have z8 := hz1.cell 8
         have z9 := hz1.cell 9
         simp only [List.getElem?_toArray, List.getElem?_cons_zero, List.getElem?_cons_succ] at z0 z1 z2 z3 z4 z5 z6 z7 z8 z9
         have zz := hz1.frozen
         have zl := hz1.lt
         have HU := Lib.hid hu.is
         clear nn1 hu k1'))
  all_goals
    rename_i hHeld
    clear hHeld
    obtain ⟨hm1, hrr⟩ := HMS.out
    subst hrr
    have hr := blk_set10 (a0 := .int .i64 r.me) (a1 := .int .i64 r.kept.view) (a2 := .int .i64 r.kept.normal) (a3 := .bool r.kept.calm) (a4 := .slice E0 m0 d0) (a5 := .int .i64 r.kept.commit) (a6 := .slice E1 r.have_.length d1) (a7 := .slice (some ⟨gq, 0, none⟩) 3 d2) (a8 := .slice E3 r.gives.length d3) (a9 := .slice E4 r.given.length d4) hz1
    have hsm := Same.sets10 (Ts := [9, 3, 4, 24, 41]) (B := 0) (a0 := .int .i64 r.me) (a1 := .int .i64 r.kept.view) (a2 := .int .i64 r.kept.normal) (a3 := .bool r.kept.calm) (a4 := .slice E0 m0 d0) (a5 := .int .i64 r.kept.commit) (a6 := .slice E1 r.have_.length d1) (a7 := .slice (some ⟨gq, 0, none⟩) 3 d2) (a8 := .slice E3 r.gives.length d3) (a9 := .slice E4 r.given.length d4) hz1 (Nat.zero_le _) (by decide)
    have hT := IsRep.same (HV4.out.1.is.below M1.out) (hsm.mono (by simp) (Nat.le_refl _))
    have hO := IsRow.same (Ts := [9, 41]) HU.out (by simp) (hsm.mono (by simp) (Nat.le_refl _)) (fun _ _ h => h.same (Ts := [9, 41]) (by simp) (hsm.mono (by simp) (Nat.le_refl _)))
    have hL := below_set10 (a0 := .int .i64 r.me) (a1 := .int .i64 r.kept.view) (a2 := .int .i64 r.kept.normal) (a3 := .bool r.kept.calm) (a4 := .slice E0 m0 d0) (a5 := .int .i64 r.kept.commit) (a6 := .slice E1 r.have_.length d1) (a7 := .slice (some ⟨gq, 0, none⟩) 3 d2) (a8 := .slice E3 r.gives.length d3) (a9 := .slice E4 r.given.length d4) (HV4.out.2.2.trans (M1.out.mono HV4.out.2.2.size)) (show w.heap.size ≤ w.heap.size + 1 by omega)
    have r0 := hr.cell 0
    have r1 := hr.cell 1
    have r2 := hr.cell 2
    have r3 := hr.cell 3
    have r4 := hr.cell 4
    have r5 := hr.cell 5
    have r6 := hr.cell 6
    have r7 := hr.cell 7
    have r8 := hr.cell 8
    have r9 := hr.cell 9
    simp only [List.getElem?_toArray, List.getElem?_cons_zero, List.getElem?_cons_succ] at r0 r1 r2 r3 r4 r5 r6 r7 r8 r9
    have rz := hr.frozen
    have rl := hr.lt
    have HT := Lib.hid (And.intro hT (And.intro hO hL))
    clear hr hsm hT hO hL hz1
    go_wp2
    refine bodyPost_ret (v := .tuple #[.agg #[.int .i64 r.me, .int .i64 r.kept.view, .int .i64 r.kept.normal, .bool r.kept.calm, .slice E0 m0 d0, .int .i64 r.kept.commit, .slice E1 r.have_.length d1, .slice (some ⟨gq, 0, none⟩) 3 d2, .slice E3 r.gives.length d3, .slice E4 r.given.length d4], .slice Ao ms.length co, .int .i64 0]) (by simp [results, Try.results9, go_sem, r0, r1, r2, r3, r4, r5, r6, r7, r8, r9]) rfl ?_
    first
    | exact ⟨⟨_, _, _, _, _, _, rfl, HT.out.1, HT.out.2.1⟩, HT.out.2.2⟩
    | exact ⟨⟨_, _, _, _, _, _, rfl, HT.out.1.same (Same.drew _), HT.out.2.1.same (Ts := [9, 41]) (by simp) (Same.drew _) (fun _ _ h => h.same (Ts := [9]) (by simp) (Same.drew _))⟩, HT.out.2.2.drew⟩
theorem ticked_c (lv hv wv gv nv : Value) (r : Scu.Replica) (w : World) (B : Nat) (hBw : B ≤ w.heap.size) (hr : IsRep w B lv hv wv gv nv r) :
    Calls Try.prog 9 #[.agg #[.int .i64 r.me, .int .i64 r.kept.view, .int .i64 r.kept.normal, .bool r.kept.calm, lv, .int .i64 r.kept.commit, hv, wv, gv, nv]] w fun e w' => TellRet w' (Scu.tick r).1 (Scu.tick r).2.1 (Scu.tick r).2.2 e ∧ Below w.heap.size w w' := by
  by_cases hf : Scu.repFault r = 0
  · by_cases hl : Scu.leads r = true
    · have e : Scu.tick r = (r, Scu.leadOn r, 0) := by unfold Scu.tick; rw [if_neg (fun h => h hf), if_pos hl]
      rw [e]
      exact ticked_2 lv hv wv gv nv r w B hBw hr hf hl _ rfl
    · have hl' : Scu.leads r = false := by simpa using hl
      by_cases hc : r.kept.calm = true
      · have e : Scu.tick r = (r, [⟨2, r.me, Scu.leader r.kept.view, r.kept.view, 0, 0, r.kept.log.length, []⟩], 0) := by unfold Scu.tick; rw [if_neg (fun h => h hf), if_neg hl, if_pos hc]; rfl
        rw [e]
        exact ticked_3 lv hv wv gv nv r w B hr hf hl' hc
      · have e : Scu.tick r = ({ r with wants := r.wants.set r.me.toNat true }, Scu.toAll r.me r.kept.view { Scu.msg0 with kind := 3 }, 0) := by unfold Scu.tick; rw [if_neg (fun h => h hf), if_neg hl, if_neg hc]
        rw [e]
        exact ticked_4 lv hv wv gv nv r w B hr hf hl' (by simpa using hc) _ rfl _ rfl
  · have e : Scu.tick r = (Scu.replica0, [], Scu.repFault r) := by unfold Scu.tick; rw [if_pos hf]
    rw [e]
    exact ticked_1 lv hv wv gv nv r w B hr _ rfl hf
end Go.Proofs.Ytjbhkmadcjnbfaa

/- Part 23: words and walks under the law 'ReplicaTakes'. -/
import Derived.Test.YtjbhkmadcjnbfaaPart21
import Derived.Deep.DeepCutAuto
import Derived.Deep.RegionHeld3
import Derived.Test.YtjbhkmadcjnbfaaPart3
set_option linter.unusedVariables false
set_option linter.unusedSimpArgs false
/- Walks: replica.Take, the append. -/
namespace Go.Proofs.Ytjbhkmadcjnbfaa
set_option linter.unusedVariables false
set_option linter.unusedSimpArgs false
open Go.RowKit
set_option maxHeartbeats 4000000
set_option maxRecDepth 100000

theorem keptCheck_a (lv : Value) (k : Scu.Kept) (w : World) (B : Nat) (hv : IsStrs w B lv k.log) (f : Int) (h : Scu.keptFault k = f) :
    Calls Try.prog 31 #[.agg #[.int .i64 k.view, .int .i64 k.normal, .bool k.calm, lv, .int .i64 k.commit]] w fun e w' => e = .returned (.int .i64 f) ∧ Below w.heap.size w w' := by
  have := stageCheck_c lv k w B hv
  rw [h] at this
  exact this
theorem addr_add0 (g j : Nat) : (⟨g, 0, none⟩ : Addr).add j = ⟨g, j, none⟩ := by unfold Addr.add; split <;> simp_all
def PushI (w2 : World) (base gw gr : Nat) (r : Scu.Replica) (e : Scu.Str) (hu wu gu nu : Value) (wx : World) : Prop :=
  ∃ A9 c9, Work wx base gw gr { r with kept := { r.kept with log := r.kept.log ++ [e] } } (.slice A9 (r.kept.log.length + 1) c9) hu wu gu nu (.slice none 0 0) [] [] ∧ Below base w2 wx
theorem taken_4 (lv hv wv gv nv : Value) (r : Scu.Replica) (e : Scu.Str) (hes : e.size ≤ R47) (w : World) (B : Nat) (hr : IsRep w B lv hv wv gv nv r) (hf : Scu.repFault r = 0) (hl : Scu.leads r = true) (h60 : r.kept.log.length < 60) (f : Int) (hd : (Scu.decode e).2 = f) (hn : f ≠ 0) :
    Calls Try.prog 12 #[.agg #[.int .i64 r.me, .int .i64 r.kept.view, .int .i64 r.kept.normal, .bool r.kept.calm, lv, .int .i64 r.kept.commit, hv, wv, gv, nv], .string e] w fun en w' => TellRet w' Scu.replica0 [] f en ∧ Below w.heap.size w w' := by
  have HL := Lib.hid hl
  have HES := Lib.hid hes
  have hkf := (Scu.repFault_ok hf).2.2.2.2.2.2.2
  have HKF := Lib.hid ((keptFault_push hkf h60 e).trans hd)
  have hfb : (f != 0) = true := by simpa using hn
  clear hl hes hkf hd hn
  have hvw := rep_view hf
  have HV := Lib.hid hr
  have HF := Lib.hid hf
  obtain ⟨A0, n0, c0, A1, c1, A2, c2, A3, c3, A4, c4, rfl, rfl, rfl, rfl, rfl⟩ := hr.forms
  clear hr hf
  go_enter Try.func12, Try.ntmps12
  go_wp2_with fail
  have h0 : Below w.heap.size w ((w.alloc (Obj.cells #[.int .i64 r.me, .int .i64 r.kept.view, .int .i64 r.kept.normal, .bool r.kept.calm, .slice A0 n0 c0, .int .i64 r.kept.commit, .slice A1 r.have_.length c1, .slice A2 r.wants.length c2, .slice A3 r.gives.length c3, .slice A4 r.given.length c4] 29)).alloc (Obj.cells #[.int .i64 0, .int .i64 0, .int .i64 0, .bool false, .slice none 0 0, .int .i64 0, .slice none 0 0, .slice none 0 0, .slice none 0 0, .slice none 0 0] 29)) := (below_alloc w _).alloc (by simp) _
  refine (begin_2 _ _ _ _ _ r _ B (HV.out.below h0) HF.out).mono ?_; rintro en w1 ⟨⟨gw, gr, lu, hu, wu, gu, nu, rfl, hW, hap⟩, h1⟩
  have e2 : ((w.alloc (Obj.cells #[.int .i64 r.me, .int .i64 r.kept.view, .int .i64 r.kept.normal, .bool r.kept.calm, .slice A0 n0 c0, .int .i64 r.kept.commit, .slice A1 r.have_.length c1, .slice A2 r.wants.length c2, .slice A3 r.gives.length c3, .slice A4 r.given.length c4] 29)).alloc (Obj.cells #[.int .i64 0, .int .i64 0, .int .i64 0, .bool false, .slice none 0 0, .int .i64 0, .slice none 0 0, .slice none 0 0, .slice none 0 0, .slice none 0 0] 29)).heap.size = w.heap.size + 2 := by simp
  rw [e2] at hW hap
  have hs : Blk w1 w.heap.size 29 #[.int .i64 r.me, .int .i64 r.kept.view, .int .i64 r.kept.normal, .bool r.kept.calm, .slice A0 n0 c0, .int .i64 r.kept.commit, .slice A1 r.have_.length c1, .slice A2 r.wants.length c2, .slice A3 r.gives.length c3, .slice A4 r.given.length c4] := ((Blk.new w _ _).alloc _).same h1
  have hz : Blk w1 (w.heap.size + 1) 29 #[.int .i64 0, .int .i64 0, .int .i64 0, .bool false, .slice none 0 0, .int .i64 0, .slice none 0 0, .slice none 0 0, .slice none 0 0, .slice none 0 0] := (Blk.new' (by simp)).same h1
  have hb := h0.trans (h1.mono h0.size)
  have hsz : w.heap.size + 2 ≤ w1.heap.size := by have := h1.size; rw [e2] at this; exact this
  have H1 := Lib.hid (And.intro hW (And.intro hs (And.intro hz (And.intro hb (And.intro hsz hap)))))
  clear h1 h0 hs hz hb hW e2 hsz HF hap
  have hs := H1.out.2.1
  have s0 := hs.cell 0
  have s1 := hs.cell 1
  have s2 := hs.cell 2
  have s3 := hs.cell 3
  have s4 := hs.cell 4
  have s5 := hs.cell 5
  have s6 := hs.cell 6
  have s7 := hs.cell 7
  have s8 := hs.cell 8
  have s9 := hs.cell 9
  simp only [List.getElem?_toArray, List.getElem?_cons_zero, List.getElem?_cons_succ] at s0 s1 s2 s3 s4 s5 s6 s7 s8 s9
  have sz := hs.frozen
  have sl := hs.lt
  clear hs
  go_wp2_with fail
  refine (leads_a _ _ _ _ _ r hvw _ true HL.out).mono ?_; rintro en w2 ⟨rfl, h2⟩
  have H2 := Lib.hid (show Work w2 (w.heap.size + 2) gw gr r lu hu wu gu nu (.slice none 0 0) [] [] ∧ Blk w2 w.heap.size 29 #[.int .i64 r.me, .int .i64 r.kept.view, .int .i64 r.kept.normal, .bool r.kept.calm, .slice A0 n0 c0, .int .i64 r.kept.commit, .slice A1 r.have_.length c1, .slice A2 r.wants.length c2, .slice A3 r.gives.length c3, .slice A4 r.given.length c4] ∧ Blk w2 (w.heap.size + 1) 29 #[.int .i64 0, .int .i64 0, .int .i64 0, .bool false, .slice none 0 0, .int .i64 0, .slice none 0 0, .slice none 0 0, .slice none 0 0, .slice none 0 0] ∧ Below w.heap.size w w2 ∧ w.heap.size + 2 ≤ w2.heap.size ∧ ApG w2 (w.heap.size + 2) gu r.gives lu from
    ⟨H1.out.1.below h2, H1.out.2.1.same h2, H1.out.2.2.1.same h2, H1.out.2.2.2.1.trans (h2.mono H1.out.2.2.2.1.size), Nat.le_trans H1.out.2.2.2.2.1 h2.size, H1.out.2.2.2.2.2.below h2⟩)
  clear h2 s0 s1 s2 s3 s4 s5 s6 s7 s8 s9 sz sl
  have hn0 : n0 = r.kept.log.length := by
    obtain ⟨A', c', e, _⟩ := HV.out.log.ex
    cases e
    rfl
  subst hn0
  have s4 := H2.out.2.1.cell 4
  simp only [List.getElem?_toArray, List.getElem?_cons_zero, List.getElem?_cons_succ] at s4
  have sl := H2.out.2.1.lt
  have HLEN := Lib.hid h60
  have hcell := H2.out.1
  obtain ⟨A5, c5, hlu, _, _⟩ := hcell.own.is.log.ex
  subst hlu
  have d0 := hcell.wb.cell 0
  have d4 := hcell.rb.cell 4
  simp only [List.getElem?_toArray, List.getElem?_cons_zero, List.getElem?_cons_succ] at d0 d4
  have dl := hcell.wb.lt
  have dm := hcell.rb.lt
  have HROW := Lib.hid hcell.own.own.log.1
  have hnl : ¬ (r.kept.log.length : Int) = 60 := by omega
  have hnlb : ((r.kept.log.length : Int) == 60) = false := by simpa using hnl
  clear hcell hnl
  go_upto_region 8 with fail
  have hwr : gw ≠ gr := blk_ne H2.out.1.wb H2.out.1.rb (by decide)
  go_cut [8] (fun e8 wx => e8 = .int .i64 0 ∧ PushI w2 (w.heap.size + 2) gw gr r e hu wu gu nu wx)
  case first =>
    go_region_law (first
    | (refine step_app _ rfl (.tmp 40) (.tmp 42) 22 rfl el_strs (w.heap.size + 2) (.slice A5 r.kept.log.length c5) r.kept.log.length (r.kept.log.map Value.string) rfl ?_ (.slice (some ⟨w2.heap.size, 0, none⟩) 1 1) 1 [.string e] rfl ⟨rfl, .inr ⟨_, _, rfl, ?_⟩⟩ ?_ ?_ ?_ ?_ ?_
       · exact (own_below HROW.out (below_alloc w2 _).drew)
       · intro j v hj
         have hj8 : j < 1 := by (rcases Nat.lt_or_ge j 1 with h | h; exact h; rw [List.getElem?_eq_none h] at hj; cases hj)
         rw [addr_add0]
         refine (((Blk.new w2 9 #[.string e]).drew).cell j).trans ?_
         simpa using hj
       · (intro v hv; rw [List.mem_singleton] at hv; subst hv; rfl)
       · (unfold maxLen; omega)
       · omega
       · (have := H2.out.2.2.2.2.1; simp; omega)
       intro v4 x4 h4 hg4 hv4
       have hP := H2.out.1.below (below_alloc w2 (Obj.cells #[.string e] 9)).drew
       have hnx := hP.push_log (H2.out.2.2.2.2.2.below (below_alloc w2 (Obj.cells #[.string e] 9)).drew) (by unfold R47; omega) HES.out h4 hg4 (by have := H2.out.2.2.2.2.1; simp; omega)
       have hrb4 := blk_keep hP.rb (Ts := [29]) (Same.own hP.own.own.log.1 hg4 (Nat.zero_le _) (by decide)) (by simp)
       have hwb4 := blk_keep hP.wb (Ts := [52]) (Same.own hP.own.own.log.1 hg4 (Nat.zero_le _) (by decide)) (by simp)
       have g4 := hrb4.cell 4
       have g0 := hwb4.cell 0
       simp only [List.getElem?_toArray, List.getElem?_cons_zero, List.getElem?_cons_succ] at g4 g0
       have gz := hrb4.frozen
       have gl := hrb4.lt
       have gk := hwb4.lt
       obtain ⟨A9, c9, rfl, _, _, _, _⟩ := rd_own h4
       have HNX := Lib.hid (And.intro hnx.1 (((below_alloc w2 (Obj.cells #[.string e] 9)).drew.mono H2.out.2.2.2.2.1).trans hnx.2))
       clear hP hnx h4 hg4 hrb4 hwb4 hv4))
    all_goals
      obtain ⟨W5, hW5⟩ : ∃ W, W = x4.setCell ⟨gr, 4, none⟩ (.slice A9 (r.kept.log.length + 1) c9) := ⟨_, rfl⟩
      have HN5 := HNX
      rw [← hW5] at HN5 ⊢
      clear HNX hW5 g0 g4 gz gl gk d0 d4 dl dm
      go_wp2_with fail
      go_meet
      exact ⟨rfl, A9, c9, HN5.out⟩
  case rest =>
    obtain ⟨rfl, A9, c9, hN⟩ := hcut
    have HN5 := Lib.hid hN
    clear hN d0 d4 dl dm
    have hrb5 := HN5.out.1.rb
    have d0 := HN5.out.1.wb.cell 0
    have q1 := hrb5.cell 1
    have q2 := hrb5.cell 2
    have q3 := hrb5.cell 3
    have q4 := hrb5.cell 4
    have q5 := hrb5.cell 5
    simp only [List.getElem?_toArray, List.getElem?_cons_zero, List.getElem?_cons_succ] at d0 q1 q2 q3 q4 q5
    have dl := HN5.out.1.wb.lt
    have dm := hrb5.lt
    clear hrb5
    go_wp2_with fail
    have H := keptCheck_a (.slice A9 (r.kept.log.length + 1) c9) ⟨r.kept.view, r.kept.normal, r.kept.calm, r.kept.log ++ [e], r.kept.commit⟩ wc 0 HN5.out.1.own.is.log f HKF.out
    refine H.mono ?_
    clear H
    rintro en w6 ⟨rfl, h6⟩
    have HN6 := Lib.hid (And.intro (HN5.out.1.below h6) (HN5.out.2.trans (h6.mono (Nat.le_trans H2.out.2.2.2.2.1 HN5.out.2.size))))
    clear h6 d0 q1 q2 q3 q4 q5 dl dm HN5
    have hz := H2.out.2.2.1.below (HN6.out.2) (by omega)
    have z0 := hz.cell 0
    have z1 := hz.cell 1
    have z2 := hz.cell 2
    have z3 := hz.cell 3
    have z4 := hz.cell 4
    have z5 := hz.cell 5
    have z6 := hz.cell 6
    have z7 := hz.cell 7
    have z8 := hz.cell 8
    have z9 := hz.cell 9
    simp only [List.getElem?_toArray, List.getElem?_cons_zero, List.getElem?_cons_succ] at z0 z1 z2 z3 z4 z5 z6 z7 z8 z9
    have zz := hz.frozen
    have zl := hz.lt
    have hr := blk_set10 (a0 := .int .i64 0) (a1 := .int .i64 0) (a2 := .int .i64 0) (a3 := .bool false) (a4 := .slice none 0 0) (a5 := .int .i64 0) (a6 := .slice none 0 0) (a7 := .slice none 0 0) (a8 := .slice none 0 0) (a9 := .slice none 0 0) hz
    have r0 := hr.cell 0
    have r1 := hr.cell 1
    have r2 := hr.cell 2
    have r3 := hr.cell 3
    have r4 := hr.cell 4
    have r5 := hr.cell 5
    have r6 := hr.cell 6
    have r7 := hr.cell 7
    have r8 := hr.cell 8
    have r9 := hr.cell 9
    simp only [List.getElem?_toArray, List.getElem?_cons_zero, List.getElem?_cons_succ] at r0 r1 r2 r3 r4 r5 r6 r7 r8 r9
    have rz := hr.frozen
    have rl := hr.lt
    clear hnlb H1
    go_wp2
    refine bodyPost_ret (v := .tuple #[.agg #[.int .i64 0, .int .i64 0, .int .i64 0, .bool false, .slice none 0 0, .int .i64 0, .slice none 0 0, .slice none 0 0, .slice none 0 0, .slice none 0 0], .slice none 0 0, .int .i64 f]) (by simp [results, Try.results12, go_sem, r0, r1, r2, r3, r4, r5, r6, r7, r8, r9]) rfl ?_
    exact ⟨tell_zero _ _, below_set10 (H2.out.2.2.2.1.trans (HN6.out.2.mono (by omega))) (by omega)⟩
theorem taken_5 (lv hv wv gv nv : Value) (r : Scu.Replica) (e : Scu.Str) (hes : e.size ≤ R47) (w : World) (B : Nat) (hr : IsRep w B lv hv wv gv nv r) (hf : Scu.repFault r = 0) (hl : Scu.leads r = true) (h60 : r.kept.log.length < 60) (hd : (Scu.decode e).2 = 0) (rr : Scu.Replica) (ms : List Scu.Message) (hrr : { r with kept := { r.kept with log := r.kept.log ++ [e] } } = rr) (hms : Scu.leadOn rr = ms) :
    Calls Try.prog 12 #[.agg #[.int .i64 r.me, .int .i64 r.kept.view, .int .i64 r.kept.normal, .bool r.kept.calm, lv, .int .i64 r.kept.commit, hv, wv, gv, nv], .string e] w fun en w' => TellRet w' rr ms 0 en ∧ Below w.heap.size w w' := by
  have HL := Lib.hid hl
  have HES := Lib.hid hes
  have hkf := (Scu.repFault_ok hf).2.2.2.2.2.2.2
  have HKF := Lib.hid ((keptFault_push hkf h60 e).trans hd)
  have HMS := Lib.hid (And.intro hrr hms)
  clear hl hes hkf hd hrr hms
  have hvw := rep_view hf
  have HV := Lib.hid hr
  have HF := Lib.hid hf
  obtain ⟨A0, n0, c0, A1, c1, A2, c2, A3, c3, A4, c4, rfl, rfl, rfl, rfl, rfl⟩ := hr.forms
  clear hr hf
  go_enter Try.func12, Try.ntmps12
  go_wp2_with fail
  have h0 : Below w.heap.size w ((w.alloc (Obj.cells #[.int .i64 r.me, .int .i64 r.kept.view, .int .i64 r.kept.normal, .bool r.kept.calm, .slice A0 n0 c0, .int .i64 r.kept.commit, .slice A1 r.have_.length c1, .slice A2 r.wants.length c2, .slice A3 r.gives.length c3, .slice A4 r.given.length c4] 29)).alloc (Obj.cells #[.int .i64 0, .int .i64 0, .int .i64 0, .bool false, .slice none 0 0, .int .i64 0, .slice none 0 0, .slice none 0 0, .slice none 0 0, .slice none 0 0] 29)) := (below_alloc w _).alloc (by simp) _
  refine (begin_2 _ _ _ _ _ r _ B (HV.out.below h0) HF.out).mono ?_; rintro en w1 ⟨⟨gw, gr, lu, hu, wu, gu, nu, rfl, hW, hap⟩, h1⟩
  have e2 : ((w.alloc (Obj.cells #[.int .i64 r.me, .int .i64 r.kept.view, .int .i64 r.kept.normal, .bool r.kept.calm, .slice A0 n0 c0, .int .i64 r.kept.commit, .slice A1 r.have_.length c1, .slice A2 r.wants.length c2, .slice A3 r.gives.length c3, .slice A4 r.given.length c4] 29)).alloc (Obj.cells #[.int .i64 0, .int .i64 0, .int .i64 0, .bool false, .slice none 0 0, .int .i64 0, .slice none 0 0, .slice none 0 0, .slice none 0 0, .slice none 0 0] 29)).heap.size = w.heap.size + 2 := by simp
  rw [e2] at hW hap
  have hs : Blk w1 w.heap.size 29 #[.int .i64 r.me, .int .i64 r.kept.view, .int .i64 r.kept.normal, .bool r.kept.calm, .slice A0 n0 c0, .int .i64 r.kept.commit, .slice A1 r.have_.length c1, .slice A2 r.wants.length c2, .slice A3 r.gives.length c3, .slice A4 r.given.length c4] := ((Blk.new w _ _).alloc _).same h1
  have hz : Blk w1 (w.heap.size + 1) 29 #[.int .i64 0, .int .i64 0, .int .i64 0, .bool false, .slice none 0 0, .int .i64 0, .slice none 0 0, .slice none 0 0, .slice none 0 0, .slice none 0 0] := (Blk.new' (by simp)).same h1
  have hb := h0.trans (h1.mono h0.size)
  have hsz : w.heap.size + 2 ≤ w1.heap.size := by have := h1.size; rw [e2] at this; exact this
  have H1 := Lib.hid (And.intro hW (And.intro hs (And.intro hz (And.intro hb (And.intro hsz hap)))))
  clear h1 h0 hs hz hb hW e2 hsz HF hap
  have hs := H1.out.2.1
  have s0 := hs.cell 0
  have s1 := hs.cell 1
  have s2 := hs.cell 2
  have s3 := hs.cell 3
  have s4 := hs.cell 4
  have s5 := hs.cell 5
  have s6 := hs.cell 6
  have s7 := hs.cell 7
  have s8 := hs.cell 8
  have s9 := hs.cell 9
  simp only [List.getElem?_toArray, List.getElem?_cons_zero, List.getElem?_cons_succ] at s0 s1 s2 s3 s4 s5 s6 s7 s8 s9
  have sz := hs.frozen
  have sl := hs.lt
  clear hs
  go_wp2_with fail
  refine (leads_a _ _ _ _ _ r hvw _ true HL.out).mono ?_; rintro en w2 ⟨rfl, h2⟩
  have H2 := Lib.hid (show Work w2 (w.heap.size + 2) gw gr r lu hu wu gu nu (.slice none 0 0) [] [] ∧ Blk w2 w.heap.size 29 #[.int .i64 r.me, .int .i64 r.kept.view, .int .i64 r.kept.normal, .bool r.kept.calm, .slice A0 n0 c0, .int .i64 r.kept.commit, .slice A1 r.have_.length c1, .slice A2 r.wants.length c2, .slice A3 r.gives.length c3, .slice A4 r.given.length c4] ∧ Blk w2 (w.heap.size + 1) 29 #[.int .i64 0, .int .i64 0, .int .i64 0, .bool false, .slice none 0 0, .int .i64 0, .slice none 0 0, .slice none 0 0, .slice none 0 0, .slice none 0 0] ∧ Below w.heap.size w w2 ∧ w.heap.size + 2 ≤ w2.heap.size ∧ ApG w2 (w.heap.size + 2) gu r.gives lu from
    ⟨H1.out.1.below h2, H1.out.2.1.same h2, H1.out.2.2.1.same h2, H1.out.2.2.2.1.trans (h2.mono H1.out.2.2.2.1.size), Nat.le_trans H1.out.2.2.2.2.1 h2.size, H1.out.2.2.2.2.2.below h2⟩)
  clear h2 s0 s1 s2 s3 s4 s5 s6 s7 s8 s9 sz sl
  have hn0 : n0 = r.kept.log.length := by
    obtain ⟨A', c', e, _⟩ := HV.out.log.ex
    cases e
    rfl
  subst hn0
  have s4 := H2.out.2.1.cell 4
  simp only [List.getElem?_toArray, List.getElem?_cons_zero, List.getElem?_cons_succ] at s4
  have sl := H2.out.2.1.lt
  have HLEN := Lib.hid h60
  have hcell := H2.out.1
  obtain ⟨A5, c5, hlu, _, _⟩ := hcell.own.is.log.ex
  subst hlu
  have d0 := hcell.wb.cell 0
  have d4 := hcell.rb.cell 4
  simp only [List.getElem?_toArray, List.getElem?_cons_zero, List.getElem?_cons_succ] at d0 d4
  have dl := hcell.wb.lt
  have dm := hcell.rb.lt
  have HROW := Lib.hid hcell.own.own.log.1
  have hnl : ¬ (r.kept.log.length : Int) = 60 := by omega
  have hnlb : ((r.kept.log.length : Int) == 60) = false := by simpa using hnl
  clear hcell hnl
  go_upto_region 8 with fail
  have hwr : gw ≠ gr := blk_ne H2.out.1.wb H2.out.1.rb (by decide)
  go_cut [8] (fun e8 wx => e8 = .int .i64 0 ∧ PushI w2 (w.heap.size + 2) gw gr r e hu wu gu nu wx)
  case first =>
    go_region_law (first
    | (refine step_app _ rfl (.tmp 40) (.tmp 42) 22 rfl el_strs (w.heap.size + 2) (.slice A5 r.kept.log.length c5) r.kept.log.length (r.kept.log.map Value.string) rfl ?_ (.slice (some ⟨w2.heap.size, 0, none⟩) 1 1) 1 [.string e] rfl ⟨rfl, .inr ⟨_, _, rfl, ?_⟩⟩ ?_ ?_ ?_ ?_ ?_
       · exact (own_below HROW.out (below_alloc w2 _).drew)
       · intro j v hj
         have hj8 : j < 1 := by (rcases Nat.lt_or_ge j 1 with h | h; exact h; rw [List.getElem?_eq_none h] at hj; cases hj)
         rw [addr_add0]
         refine (((Blk.new w2 9 #[.string e]).drew).cell j).trans ?_
         simpa using hj
       · (intro v hv; rw [List.mem_singleton] at hv; subst hv; rfl)
       · (unfold maxLen; omega)
       · omega
       · (have := H2.out.2.2.2.2.1; simp; omega)
       intro v4 x4 h4 hg4 hv4
       have hP := H2.out.1.below (below_alloc w2 (Obj.cells #[.string e] 9)).drew
       have hnx := hP.push_log (H2.out.2.2.2.2.2.below (below_alloc w2 (Obj.cells #[.string e] 9)).drew) (by unfold R47; omega) HES.out h4 hg4 (by have := H2.out.2.2.2.2.1; simp; omega)
       have hrb4 := blk_keep hP.rb (Ts := [29]) (Same.own hP.own.own.log.1 hg4 (Nat.zero_le _) (by decide)) (by simp)
       have hwb4 := blk_keep hP.wb (Ts := [52]) (Same.own hP.own.own.log.1 hg4 (Nat.zero_le _) (by decide)) (by simp)
       have g4 := hrb4.cell 4
       have g0 := hwb4.cell 0
       simp only [List.getElem?_toArray, List.getElem?_cons_zero, List.getElem?_cons_succ] at g4 g0
       have gz := hrb4.frozen
       have gl := hrb4.lt
       have gk := hwb4.lt
       obtain ⟨A9, c9, rfl, _, _, _, _⟩ := rd_own h4
       have HNX := Lib.hid (And.intro hnx.1 (((below_alloc w2 (Obj.cells #[.string e] 9)).drew.mono H2.out.2.2.2.2.1).trans hnx.2))
       clear hP hnx h4 hg4 hrb4 hwb4 hv4))
    all_goals
      obtain ⟨W5, hW5⟩ : ∃ W, W = x4.setCell ⟨gr, 4, none⟩ (.slice A9 (r.kept.log.length + 1) c9) := ⟨_, rfl⟩
      have HN5 := HNX
      rw [← hW5] at HN5 ⊢
      clear HNX hW5 g0 g4 gz gl gk d0 d4 dl dm
      go_wp2_with fail
      go_meet
      exact ⟨rfl, A9, c9, HN5.out⟩
  case rest =>
    obtain ⟨rfl, A9, c9, hN⟩ := hcut
    have HN5 := Lib.hid hN
    clear hN d0 d4 dl dm
    have hrb5 := HN5.out.1.rb
    have d0 := HN5.out.1.wb.cell 0
    have q1 := hrb5.cell 1
    have q2 := hrb5.cell 2
    have q3 := hrb5.cell 3
    have q4 := hrb5.cell 4
    have q5 := hrb5.cell 5
    simp only [List.getElem?_toArray, List.getElem?_cons_zero, List.getElem?_cons_succ] at d0 q1 q2 q3 q4 q5
    have dl := HN5.out.1.wb.lt
    have dm := hrb5.lt
    clear hrb5
    go_wp2_with fail
    have H := keptCheck_a (.slice A9 (r.kept.log.length + 1) c9) ⟨r.kept.view, r.kept.normal, r.kept.calm, r.kept.log ++ [e], r.kept.commit⟩ wc 0 HN5.out.1.own.is.log 0 HKF.out
    refine H.mono ?_
    clear H
    rintro en w6 ⟨rfl, h6⟩
    have HN6 := Lib.hid (And.intro (HN5.out.1.below h6) (HN5.out.2.trans (h6.mono (Nat.le_trans H2.out.2.2.2.2.1 HN5.out.2.size))))
    clear h6 d0 q1 q2 q3 q4 q5 dl dm HN5
    go_wp2_with fail
    refine (lead_e w6 (w.heap.size + 2) gw gr rr [] (by rw [← HMS.out.1]; exact HN6.out.1.e) (Nat.le_trans H2.out.2.2.2.2.1 HN6.out.2.size) (by simp [R47])).mono ?_; rintro en w3 ⟨rfl, hw3, h3⟩
    rw [List.nil_append, HMS.out.2] at hw3
    have hz3 : Blk w3 (w.heap.size + 1) 29 #[.int .i64 0, .int .i64 0, .int .i64 0, .bool false, .slice none 0 0, .int .i64 0, .slice none 0 0, .slice none 0 0, .slice none 0 0, .slice none 0 0] := H2.out.2.2.1.below (HN6.out.2.trans h3) (by omega)
    have hb3 : Below w.heap.size w w3 := H2.out.2.2.2.1.trans ((HN6.out.2.trans h3).mono (by omega))
    clear h3
    obtain ⟨lu3, hv3, wv3, gv3, nv3, ov3, css3, hw3⟩ := hw3
    obtain ⟨Ao, co, rfl⟩ := hw3.out.form
    obtain ⟨E0, m0, d0, E1, d1, E2, d2, E3, d3, E4, d4, rfl, rfl, rfl, rfl, rfl⟩ := hw3.own.is.forms
    have hwb := hw3.wb
    have hrb := hw3.rb
    have f0 := hwb.cell 0
    have f1 := hwb.cell 1
    simp only [List.getElem?_toArray, List.getElem?_cons_zero, List.getElem?_cons_succ] at f0 f1
    have fl := hwb.lt
    have k0 := hrb.cell 0
    have k1 := hrb.cell 1
    have k2 := hrb.cell 2
    have k3 := hrb.cell 3
    have k4 := hrb.cell 4
    have k5 := hrb.cell 5
    have k6 := hrb.cell 6
    have k7 := hrb.cell 7
    have k8 := hrb.cell 8
    have k9 := hrb.cell 9
    simp only [List.getElem?_toArray, List.getElem?_cons_zero, List.getElem?_cons_succ] at k0 k1 k2 k3 k4 k5 k6 k7 k8 k9
    have kz := hrb.frozen
    have kl := hrb.lt
    have z0 := hz3.cell 0
    have z1 := hz3.cell 1
    have z2 := hz3.cell 2
    have z3 := hz3.cell 3
    have z4 := hz3.cell 4
    have z5 := hz3.cell 5
    have z6 := hz3.cell 6
    have z7 := hz3.cell 7
    have z8 := hz3.cell 8
    have z9 := hz3.cell 9
    simp only [List.getElem?_toArray, List.getElem?_cons_zero, List.getElem?_cons_succ] at z0 z1 z2 z3 z4 z5 z6 z7 z8 z9
    have zz := hz3.frozen
    have zl := hz3.lt
    have hr := blk_set10 (a0 := .int .i64 rr.me) (a1 := .int .i64 rr.kept.view) (a2 := .int .i64 rr.kept.normal) (a3 := .bool rr.kept.calm) (a4 := .slice E0 m0 d0) (a5 := .int .i64 rr.kept.commit) (a6 := .slice E1 rr.have_.length d1) (a7 := .slice E2 rr.wants.length d2) (a8 := .slice E3 rr.gives.length d3) (a9 := .slice E4 rr.given.length d4) hz3
    have hsm := Same.sets10 (Ts := [9, 3, 4, 24, 41, 52]) (B := 0) (a0 := .int .i64 rr.me) (a1 := .int .i64 rr.kept.view) (a2 := .int .i64 rr.kept.normal) (a3 := .bool rr.kept.calm) (a4 := .slice E0 m0 d0) (a5 := .int .i64 rr.kept.commit) (a6 := .slice E1 rr.have_.length d1) (a7 := .slice E2 rr.wants.length d2) (a8 := .slice E3 rr.gives.length d3) (a9 := .slice E4 rr.given.length d4) hz3 (Nat.zero_le _) (by decide)
    have hwb2 := blk_keep hwb hsm (by simp)
    have q0 := hwb2.cell 0
    have q1 := hwb2.cell 1
    simp only [List.getElem?_toArray, List.getElem?_cons_zero, List.getElem?_cons_succ] at q0 q1
    have hT := hw3.own.is.same (hsm.mono (by simp) (Nat.le_refl _))
    have hO := hw3.out.is.same (Ts := [9, 41]) (by simp) (hsm.mono (by simp) (Nat.le_refl _)) (fun _ _ h => h.same (Ts := [9, 41]) (by simp) (hsm.mono (by simp) (Nat.le_refl _)))
    have hL := below_set10 (a0 := .int .i64 rr.me) (a1 := .int .i64 rr.kept.view) (a2 := .int .i64 rr.kept.normal) (a3 := .bool rr.kept.calm) (a4 := .slice E0 m0 d0) (a5 := .int .i64 rr.kept.commit) (a6 := .slice E1 rr.have_.length d1) (a7 := .slice E2 rr.wants.length d2) (a8 := .slice E3 rr.gives.length d3) (a9 := .slice E4 rr.given.length d4) hb3 (show w.heap.size ≤ w.heap.size + 1 by omega)
    have r0 := hr.cell 0
    have r1 := hr.cell 1
    have r2 := hr.cell 2
    have r3 := hr.cell 3
    have r4 := hr.cell 4
    have r5 := hr.cell 5
    have r6 := hr.cell 6
    have r7 := hr.cell 7
    have r8 := hr.cell 8
    have r9 := hr.cell 9
    simp only [List.getElem?_toArray, List.getElem?_cons_zero, List.getElem?_cons_succ] at r0 r1 r2 r3 r4 r5 r6 r7 r8 r9
    have rz := hr.frozen
    have rl := hr.lt
    have HT := Lib.hid (And.intro hT (And.intro hO hL))
    clear hr hsm hT hO hL hwb hrb hw3 hz3 hb3 hwb2
    go_wp2_with fail
    go_region
    go_wp2
    refine bodyPost_ret (v := .tuple #[.agg #[.int .i64 rr.me, .int .i64 rr.kept.view, .int .i64 rr.kept.normal, .bool rr.kept.calm, .slice E0 m0 d0, .int .i64 rr.kept.commit, .slice E1 rr.have_.length d1, .slice E2 rr.wants.length d2, .slice E3 rr.gives.length d3, .slice E4 rr.given.length d4], .slice Ao ms.length co, .int .i64 0]) (by simp [results, Try.results12, go_sem, r0, r1, r2, r3, r4, r5, r6, r7, r8, r9]) rfl ?_
    exact ⟨⟨_, _, _, _, _, _, rfl, HT.out.1.same (Same.drew _), HT.out.2.1.same (Ts := [9, 41]) (by simp) (Same.drew _) (fun _ _ h => h.same (Ts := [9]) (by simp) (Same.drew _))⟩, HT.out.2.2.drew⟩
theorem take_c (lv hv wv gv nv : Value) (r : Scu.Replica) (e : Scu.Str) (hes : e.size ≤ R47) (w : World) (B : Nat) (hr : IsRep w B lv hv wv gv nv r) :
    Calls Try.prog 12 #[.agg #[.int .i64 r.me, .int .i64 r.kept.view, .int .i64 r.kept.normal, .bool r.kept.calm, lv, .int .i64 r.kept.commit, hv, wv, gv, nv], .string e] w fun en w' => TellRet w' (Scu.take r e).1 (Scu.take r e).2.1 (Scu.take r e).2.2 en ∧ Below w.heap.size w w' := by
  by_cases hf : Scu.repFault r = 0
  · by_cases hl : Scu.leads r = false
    · have q : Scu.take r e = (Scu.replica0, [], 14) := by unfold Scu.take; rw [if_neg (fun h => h hf), if_pos hl]
      rw [q]
      exact taken_2 lv hv wv gv nv r e w B hr hf hl
    · have hl' : Scu.leads r = true := by simpa using hl
      by_cases h60 : r.kept.log.length = 60
      · have q : Scu.take r e = (Scu.replica0, [], 7) := by unfold Scu.take; rw [if_neg (fun h => h hf), if_neg hl, if_pos h60]
        rw [q]
        exact taken_3 lv hv wv gv nv r e w B hr hf hl' h60
      · have hm : r.kept.log.length ≤ 60 := (Scu.keptFault_ok (Scu.repFault_ok hf).2.2.2.2.2.2.2).2.2.2.2.2.1
        by_cases hd : (Scu.decode e).2 = 0
        · have q : Scu.take r e = ({ r with kept := { r.kept with log := r.kept.log ++ [e] } }, Scu.leadOn { r with kept := { r.kept with log := r.kept.log ++ [e] } }, 0) := by unfold Scu.take; rw [if_neg (fun h => h hf), if_neg hl, if_neg h60, if_neg (fun h => h hd)]
          rw [q]
          exact taken_5 lv hv wv gv nv r e hes w B hr hf hl' (by omega) hd _ _ rfl rfl
        · have q : Scu.take r e = (Scu.replica0, [], (Scu.decode e).2) := by unfold Scu.take; rw [if_neg (fun h => h hf), if_neg hl, if_neg h60, if_pos hd]
          rw [q]
          exact taken_4 lv hv wv gv nv r e hes w B hr hf hl' (by omega) _ rfl hd
  · have q : Scu.take r e = (Scu.replica0, [], Scu.repFault r) := by unfold Scu.take; rw [if_pos hf]
    rw [q]
    exact taken_1 lv hv wv gv nv r e w B hr _ rfl hf
end Go.Proofs.Ytjbhkmadcjnbfaa
/- A string argument, opened with its size. -/
namespace Go.Proofs.Ytjbhkmadcjnbfaa
open Go.RowKit Go.ChangeShapes Go.WideShapes Go.ChangeAt
open Go.ChangeMaps (open_string)
section
variable {H : Type} {enc : TypeId × Value → H} {w : World} {base : Nat} {spare : Nat → Bool} {held : Bool}
theorem openS_stringS {v : Value} {d : DataW H} {p : List MemPlace} {b0 : Nat} (hv : Value.okWide Try.prog w .any b0 9 v) (h : DataW.Trod enc Try.prog w base spare held 9 v d p)
    (hw : ∀ k ∈ d.weights Try.prog 9, k ≤ reachBytes) : ∃ s : ByteArray, v = .string s ∧ s.size ≤ R47 := by
  obtain ⟨a, rfl, hd, _, _⟩ := open_string Try.underlying9 hv h
  refine ⟨a, rfl, ?_⟩
  subst hd
  have := hw a.size (by simp [DataW.weights])
  simpa [reachBytes, R47] using this
end
end Go.Proofs.Ytjbhkmadcjnbfaa

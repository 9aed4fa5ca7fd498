/- Part 18: words and walks under the law 'LeadersLead'. -/
import Derived.Test.YtfpiembhlgcelaaDoorLed17
import Derived.Deep.DeepCutAuto
import Derived.Deep.RegionHeld3
import Derived.Test.YtfpiembhlgcelaaDoorLed5
import Derived.Deep.MidRow
set_option linter.unusedVariables false
set_option linter.unusedSimpArgs false
/- Walks: replica.Take, the append. -/
namespace Go.Proofs.YtfpiembhlgcelaaDoor
set_option linter.unusedVariables false
set_option linter.unusedSimpArgs false
open Go.RowKit
set_option maxHeartbeats 4000000
set_option maxRecDepth 100000

theorem keptCheck_a (lv : Value) (k : Scu.Kept) (w : World) (B : Nat) (hv : IsStrs w B lv k.log) (f : Int) (h : Scu.keptFault k = f) :
    Calls Tryd.prog 73 #[.agg #[.int .i64 k.view, .int .i64 k.normal, .bool k.calm, lv, .int .i64 k.commit]] w fun e w' => e = .returned (.int .i64 f) ∧ Below w.heap.size w w' := by
  have := stageCheck_c lv k w B hv
  rw [h] at this
  exact this
theorem addr_add0 (g j : Nat) : (⟨g, 0, none⟩ : Addr).add j = ⟨g, j, none⟩ := by unfold Addr.add; split <;> simp_all
def PushI (w2 : World) (base gw gr : Nat) (r : Scu.Replica) (e : Scu.Str) (hu wu gu nu : Value) (wx : World) : Prop :=
  ∃ A9 c9, Work wx base gw gr { r with kept := { r.kept with log := r.kept.log ++ [e] } } (.slice A9 (r.kept.log.length + 1) c9) hu wu gu nu (.slice none 0 0) [] [] ∧ Below base w2 wx
theorem taken_4 (lv hv wv gv nv : Value) (r : Scu.Replica) (e : Scu.Str) (hes : e.size ≤ R47) (w : World) (B : Nat) (hr : IsRep w B lv hv wv gv nv r) (hf : Scu.repFault r = 0) (hl : Scu.leads r = true) (h60 : r.kept.log.length < 60) (f : Int) (hd : (Scu.decode e).2 = f) (hn : f ≠ 0) :
    Calls Tryd.prog 40 #[.agg #[.int .i64 r.me, .int .i64 r.kept.view, .int .i64 r.kept.normal, .bool r.kept.calm, lv, .int .i64 r.kept.commit, hv, wv, gv, nv], .string e] w fun en w' => TellN w.heap.size w' Scu.replica0 [] f en ∧ Below w.heap.size w w' := by
  have HL := Lib.hid hl
  have HES := Lib.hid hes
  have hkf := (Scu.repFault_ok hf).2.2.2.2.2.2.2
  have HKF := Lib.hid ((keptFault_push hkf h60 e).trans hd)
  have hfb : (f != 0) = true := by simpa using hn
  clear hl hes hkf hd hn
  have hvw := rep_view hf
  have HV := Lib.hid hr
  have HF := Lib.hid hf
  obtain ⟨A0, n0, c0, A1, c1, A2, c2, A3, c3, A4, c4, rfl, rfl, rfl, rfl, rfl⟩ := hr.forms
  clear hr hf
  go_enter Tryd.func40, Tryd.ntmps40
  go_wp2_with fail
  have h0 : Below w.heap.size w ((w.alloc (Obj.cells #[.int .i64 r.me, .int .i64 r.kept.view, .int .i64 r.kept.normal, .bool r.kept.calm, .slice A0 n0 c0, .int .i64 r.kept.commit, .slice A1 r.have_.length c1, .slice A2 r.wants.length c2, .slice A3 r.gives.length c3, .slice A4 r.given.length c4] 81)).alloc (Obj.cells #[.int .i64 0, .int .i64 0, .int .i64 0, .bool false, .slice none 0 0, .int .i64 0, .slice none 0 0, .slice none 0 0, .slice none 0 0, .slice none 0 0] 81)) := (below_alloc w _).alloc (by simp) _
  refine (begin_2 _ _ _ _ _ r _ B (HV.out.below h0) HF.out).mono ?_; rintro en w1 ⟨⟨gw, gr, lu, hu, wu, gu, nu, rfl, hW, hap⟩, h1⟩
  have e2 : ((w.alloc (Obj.cells #[.int .i64 r.me, .int .i64 r.kept.view, .int .i64 r.kept.normal, .bool r.kept.calm, .slice A0 n0 c0, .int .i64 r.kept.commit, .slice A1 r.have_.length c1, .slice A2 r.wants.length c2, .slice A3 r.gives.length c3, .slice A4 r.given.length c4] 81)).alloc (Obj.cells #[.int .i64 0, .int .i64 0, .int .i64 0, .bool false, .slice none 0 0, .int .i64 0, .slice none 0 0, .slice none 0 0, .slice none 0 0, .slice none 0 0] 81)).heap.size = w.heap.size + 2 := by simp
  rw [e2] at hW hap
  have hs : Blk w1 w.heap.size 81 #[.int .i64 r.me, .int .i64 r.kept.view, .int .i64 r.kept.normal, .bool r.kept.calm, .slice A0 n0 c0, .int .i64 r.kept.commit, .slice A1 r.have_.length c1, .slice A2 r.wants.length c2, .slice A3 r.gives.length c3, .slice A4 r.given.length c4] := ((Blk.new w _ _).alloc _).same h1
  have hz : Blk w1 (w.heap.size + 1) 81 #[.int .i64 0, .int .i64 0, .int .i64 0, .bool false, .slice none 0 0, .int .i64 0, .slice none 0 0, .slice none 0 0, .slice none 0 0, .slice none 0 0] := (Blk.new' (by simp)).same h1
  have hb := h0.trans (h1.mono h0.size)
  have hsz : w.heap.size + 2 ≤ w1.heap.size := by have := h1.size; rw [e2] at this; exact this
  have H1 := Lib.hid (And.intro hW (And.intro hs (And.intro hz (And.intro hb (And.intro hsz hap)))))
  clear h1 h0 hs hz hb hW e2 hsz HF hap
  have hs := H1.out.2.1
  have s0 := hs.cell 0
  have s1 := hs.cell 1
  have s2 := hs.cell 2
  have s3 := hs.cell 3
  have s4 := hs.cell 4
  have s5 := hs.cell 5
  have s6 := hs.cell 6
  have s7 := hs.cell 7
  have s8 := hs.cell 8
  have s9 := hs.cell 9
  simp only [List.getElem?_toArray, List.getElem?_cons_zero, List.getElem?_cons_succ] at s0 s1 s2 s3 s4 s5 s6 s7 s8 s9
  have sz := hs.frozen
  have sl := hs.lt
  clear hs
  go_wp2_with fail
  refine (leads_a _ _ _ _ _ r hvw _ true HL.out).mono ?_; rintro en w2 ⟨rfl, h2⟩
  have H2 := Lib.hid (show Work w2 (w.heap.size + 2) gw gr r lu hu wu gu nu (.slice none 0 0) [] [] ∧ Blk w2 w.heap.size 81 #[.int .i64 r.me, .int .i64 r.kept.view, .int .i64 r.kept.normal, .bool r.kept.calm, .slice A0 n0 c0, .int .i64 r.kept.commit, .slice A1 r.have_.length c1, .slice A2 r.wants.length c2, .slice A3 r.gives.length c3, .slice A4 r.given.length c4] ∧ Blk w2 (w.heap.size + 1) 81 #[.int .i64 0, .int .i64 0, .int .i64 0, .bool false, .slice none 0 0, .int .i64 0, .slice none 0 0, .slice none 0 0, .slice none 0 0, .slice none 0 0] ∧ Below w.heap.size w w2 ∧ w.heap.size + 2 ≤ w2.heap.size ∧ ApG w2 (w.heap.size + 2) gu r.gives lu from
    ⟨H1.out.1.below h2, H1.out.2.1.same h2, H1.out.2.2.1.same h2, H1.out.2.2.2.1.trans (h2.mono H1.out.2.2.2.1.size), Nat.le_trans H1.out.2.2.2.2.1 h2.size, H1.out.2.2.2.2.2.below h2⟩)
  clear h2 s0 s1 s2 s3 s4 s5 s6 s7 s8 s9 sz sl
  have hn0 : n0 = r.kept.log.length := by
    obtain ⟨A', c', e, _⟩ := HV.out.log.ex
    cases e
    rfl
  subst hn0
  have s4 := H2.out.2.1.cell 4
  simp only [List.getElem?_toArray, List.getElem?_cons_zero, List.getElem?_cons_succ] at s4
  have sl := H2.out.2.1.lt
  have HLEN := Lib.hid h60
  have hcell := H2.out.1
  obtain ⟨A5, c5, hlu, _, _⟩ := hcell.own.is.log.ex
  subst hlu
  have d0 := hcell.wb.cell 0
  have d4 := hcell.rb.cell 4
  simp only [List.getElem?_toArray, List.getElem?_cons_zero, List.getElem?_cons_succ] at d0 d4
  have dl := hcell.wb.lt
  have dm := hcell.rb.lt
  have HROW := Lib.hid hcell.own.own.log.1
  have hnl : ¬ (r.kept.log.length : Int) = 60 := by omega
  have hnlb : ((r.kept.log.length : Int) == 60) = false := by simpa using hnl
  clear hcell hnl
  go_upto_region 8 with fail
  have hwr : gw ≠ gr := blk_ne H2.out.1.wb H2.out.1.rb (by decide)
  go_cut [8] (fun e8 wx => e8 = .int .i64 0 ∧ PushI w2 (w.heap.size + 2) gw gr r e hu wu gu nu wx)
  case first =>
    go_region_law (first
    | (refine step_app _ rfl (.tmp 40) (.tmp 42) 36 rfl el_strs (w.heap.size + 2) (.slice A5 r.kept.log.length c5) r.kept.log.length (r.kept.log.map Value.string) rfl ?_ (.slice (some ⟨w2.heap.size, 0, none⟩) 1 1) 1 [.string e] rfl ⟨rfl, .inr ⟨_, _, rfl, ?_⟩⟩ ?_ ?_ ?_ ?_ ?_
       · exact (own_below HROW.out (below_alloc w2 _).drew)
       · intro j v hj
         have hj8 : j < 1 := by (rcases Nat.lt_or_ge j 1 with h | h; exact h; rw [List.getElem?_eq_none h] at hj; cases hj)
         rw [addr_add0]
         refine (((Blk.new w2 9 #[.string e]).drew).cell j).trans ?_
         simpa using hj
       · (intro v hv; rw [List.mem_singleton] at hv; subst hv; rfl)
       · (unfold maxLen; omega)
       · omega
       · (have := H2.out.2.2.2.2.1; simp; omega)
       intro v4 x4 h4 hg4 hv4
       have hP := H2.out.1.below (below_alloc w2 (Obj.cells #[.string e] 9)).drew
       have hnx := hP.push_log (H2.out.2.2.2.2.2.below (below_alloc w2 (Obj.cells #[.string e] 9)).drew) (by unfold R47; omega) HES.out h4 hg4 (by have := H2.out.2.2.2.2.1; simp; omega)
       have hrb4 := blk_keep hP.rb (Ts := [81]) (Same.own hP.own.own.log.1 hg4 (Nat.zero_le _) (by decide)) (by simp)
       have hwb4 := blk_keep hP.wb (Ts := [146]) (Same.own hP.own.own.log.1 hg4 (Nat.zero_le _) (by decide)) (by simp)
       have g4 := hrb4.cell 4
       have g0 := hwb4.cell 0
       simp only [List.getElem?_toArray, List.getElem?_cons_zero, List.getElem?_cons_succ] at g4 g0
       have gz := hrb4.frozen
       have gl := hrb4.lt
       have gk := hwb4.lt
       obtain ⟨A9, c9, rfl, _, _, _, _⟩ := rd_own h4
       have HNX := Lib.hid (And.intro hnx.1 (((below_alloc w2 (Obj.cells #[.string e] 9)).drew.mono H2.out.2.2.2.2.1).trans hnx.2))
       clear hP hnx h4 hg4 hrb4 hwb4 hv4))
    all_goals
      obtain ⟨W5, hW5⟩ : ∃ W, W = x4.setCell ⟨gr, 4, none⟩ (.slice A9 (r.kept.log.length + 1) c9) := ⟨_, rfl⟩
      have HN5 := HNX
      rw [← hW5] at HN5 ⊢
      clear HNX hW5 g0 g4 gz gl gk d0 d4 dl dm
      go_wp2_with fail
      go_meet
      exact ⟨rfl, A9, c9, HN5.out⟩
  case rest =>
    obtain ⟨rfl, A9, c9, hN⟩ := hcut
    have HN5 := Lib.hid hN
    clear hN d0 d4 dl dm
    have hrb5 := HN5.out.1.rb
    have d0 := HN5.out.1.wb.cell 0
    have q1 := hrb5.cell 1
    have q2 := hrb5.cell 2
    have q3 := hrb5.cell 3
    have q4 := hrb5.cell 4
    have q5 := hrb5.cell 5
    simp only [List.getElem?_toArray, List.getElem?_cons_zero, List.getElem?_cons_succ] at d0 q1 q2 q3 q4 q5
    have dl := HN5.out.1.wb.lt
    have dm := hrb5.lt
    clear hrb5
    go_wp2_with fail
    have H := keptCheck_a (.slice A9 (r.kept.log.length + 1) c9) ⟨r.kept.view, r.kept.normal, r.kept.calm, r.kept.log ++ [e], r.kept.commit⟩ wc 0 HN5.out.1.own.is.log f HKF.out
    refine H.mono ?_
    clear H
    rintro en w6 ⟨rfl, h6⟩
    have HN6 := Lib.hid (And.intro (HN5.out.1.below h6) (HN5.out.2.trans (h6.mono (Nat.le_trans H2.out.2.2.2.2.1 HN5.out.2.size))))
    clear h6 d0 q1 q2 q3 q4 q5 dl dm HN5
    have hz := H2.out.2.2.1.below (HN6.out.2) (by omega)
    have z0 := hz.cell 0
    have z1 := hz.cell 1
    have z2 := hz.cell 2
    have z3 := hz.cell 3
    have z4 := hz.cell 4
    have z5 := hz.cell 5
    have z6 := hz.cell 6
    have z7 := hz.cell 7
    have z8 := hz.cell 8
    have z9 := hz.cell 9
    simp only [List.getElem?_toArray, List.getElem?_cons_zero, List.getElem?_cons_succ] at z0 z1 z2 z3 z4 z5 z6 z7 z8 z9
    have zz := hz.frozen
    have zl := hz.lt
    have hr := blk_set10 (a0 := .int .i64 0) (a1 := .int .i64 0) (a2 := .int .i64 0) (a3 := .bool false) (a4 := .slice none 0 0) (a5 := .int .i64 0) (a6 := .slice none 0 0) (a7 := .slice none 0 0) (a8 := .slice none 0 0) (a9 := .slice none 0 0) hz
    have r0 := hr.cell 0
    have r1 := hr.cell 1
    have r2 := hr.cell 2
    have r3 := hr.cell 3
    have r4 := hr.cell 4
    have r5 := hr.cell 5
    have r6 := hr.cell 6
    have r7 := hr.cell 7
    have r8 := hr.cell 8
    have r9 := hr.cell 9
    simp only [List.getElem?_toArray, List.getElem?_cons_zero, List.getElem?_cons_succ] at r0 r1 r2 r3 r4 r5 r6 r7 r8 r9
    have rz := hr.frozen
    have rl := hr.lt
    clear hnlb H1
    go_wp2
    refine bodyPost_ret (v := .tuple #[.agg #[.int .i64 0, .int .i64 0, .int .i64 0, .bool false, .slice none 0 0, .int .i64 0, .slice none 0 0, .slice none 0 0, .slice none 0 0, .slice none 0 0], .slice none 0 0, .int .i64 f]) (by simp [results, Tryd.results40, go_sem, r0, r1, r2, r3, r4, r5, r6, r7, r8, r9]) rfl ?_
    exact ⟨tell_zeroN _ _ _, below_set10 (H2.out.2.2.2.1.trans (HN6.out.2.mono (by omega))) (by omega)⟩
theorem taken_5 (lv hv wv gv nv : Value) (r : Scu.Replica) (e : Scu.Str) (hes : e.size ≤ R47) (w : World) (B : Nat) (hr : IsRep w B lv hv wv gv nv r) (hf : Scu.repFault r = 0) (hl : Scu.leads r = true) (h60 : r.kept.log.length < 60) (hd : (Scu.decode e).2 = 0) (rr : Scu.Replica) (ms : List Scu.Message) (hrr : { r with kept := { r.kept with log := r.kept.log ++ [e] } } = rr) (hms : Scu.leadOn rr = ms) :
    Calls Tryd.prog 40 #[.agg #[.int .i64 r.me, .int .i64 r.kept.view, .int .i64 r.kept.normal, .bool r.kept.calm, lv, .int .i64 r.kept.commit, hv, wv, gv, nv], .string e] w fun en w' => TellN w.heap.size w' rr ms 0 en ∧ Below w.heap.size w w' := by
  have HL := Lib.hid hl
  have HES := Lib.hid hes
  have hkf := (Scu.repFault_ok hf).2.2.2.2.2.2.2
  have HKF := Lib.hid ((keptFault_push hkf h60 e).trans hd)
  have HMS := Lib.hid (And.intro hrr hms)
  clear hl hes hkf hd hrr hms
  have hvw := rep_view hf
  have HV := Lib.hid hr
  have HF := Lib.hid hf
  obtain ⟨A0, n0, c0, A1, c1, A2, c2, A3, c3, A4, c4, rfl, rfl, rfl, rfl, rfl⟩ := hr.forms
  clear hr hf
  go_enter Tryd.func40, Tryd.ntmps40
  go_wp2_with fail
  have h0 : Below w.heap.size w ((w.alloc (Obj.cells #[.int .i64 r.me, .int .i64 r.kept.view, .int .i64 r.kept.normal, .bool r.kept.calm, .slice A0 n0 c0, .int .i64 r.kept.commit, .slice A1 r.have_.length c1, .slice A2 r.wants.length c2, .slice A3 r.gives.length c3, .slice A4 r.given.length c4] 81)).alloc (Obj.cells #[.int .i64 0, .int .i64 0, .int .i64 0, .bool false, .slice none 0 0, .int .i64 0, .slice none 0 0, .slice none 0 0, .slice none 0 0, .slice none 0 0] 81)) := (below_alloc w _).alloc (by simp) _
  refine (begin_2 _ _ _ _ _ r _ B (HV.out.below h0) HF.out).mono ?_; rintro en w1 ⟨⟨gw, gr, lu, hu, wu, gu, nu, rfl, hW, hap⟩, h1⟩
  have e2 : ((w.alloc (Obj.cells #[.int .i64 r.me, .int .i64 r.kept.view, .int .i64 r.kept.normal, .bool r.kept.calm, .slice A0 n0 c0, .int .i64 r.kept.commit, .slice A1 r.have_.length c1, .slice A2 r.wants.length c2, .slice A3 r.gives.length c3, .slice A4 r.given.length c4] 81)).alloc (Obj.cells #[.int .i64 0, .int .i64 0, .int .i64 0, .bool false, .slice none 0 0, .int .i64 0, .slice none 0 0, .slice none 0 0, .slice none 0 0, .slice none 0 0] 81)).heap.size = w.heap.size + 2 := by simp
  rw [e2] at hW hap
  have hs : Blk w1 w.heap.size 81 #[.int .i64 r.me, .int .i64 r.kept.view, .int .i64 r.kept.normal, .bool r.kept.calm, .slice A0 n0 c0, .int .i64 r.kept.commit, .slice A1 r.have_.length c1, .slice A2 r.wants.length c2, .slice A3 r.gives.length c3, .slice A4 r.given.length c4] := ((Blk.new w _ _).alloc _).same h1
  have hz : Blk w1 (w.heap.size + 1) 81 #[.int .i64 0, .int .i64 0, .int .i64 0, .bool false, .slice none 0 0, .int .i64 0, .slice none 0 0, .slice none 0 0, .slice none 0 0, .slice none 0 0] := (Blk.new' (by simp)).same h1
  have hb := h0.trans (h1.mono h0.size)
  have hsz : w.heap.size + 2 ≤ w1.heap.size := by have := h1.size; rw [e2] at this; exact this
  have H1 := Lib.hid (And.intro hW (And.intro hs (And.intro hz (And.intro hb (And.intro hsz hap)))))
  clear h1 h0 hs hz hb hW e2 hsz HF hap
  have hs := H1.out.2.1
  have s0 := hs.cell 0
  have s1 := hs.cell 1
  have s2 := hs.cell 2
  have s3 := hs.cell 3
  have s4 := hs.cell 4
  have s5 := hs.cell 5
  have s6 := hs.cell 6
  have s7 := hs.cell 7
  have s8 := hs.cell 8
  have s9 := hs.cell 9
  simp only [List.getElem?_toArray, List.getElem?_cons_zero, List.getElem?_cons_succ] at s0 s1 s2 s3 s4 s5 s6 s7 s8 s9
  have sz := hs.frozen
  have sl := hs.lt
  clear hs
  go_wp2_with fail
  refine (leads_a _ _ _ _ _ r hvw _ true HL.out).mono ?_; rintro en w2 ⟨rfl, h2⟩
  have H2 := Lib.hid (show Work w2 (w.heap.size + 2) gw gr r lu hu wu gu nu (.slice none 0 0) [] [] ∧ Blk w2 w.heap.size 81 #[.int .i64 r.me, .int .i64 r.kept.view, .int .i64 r.kept.normal, .bool r.kept.calm, .slice A0 n0 c0, .int .i64 r.kept.commit, .slice A1 r.have_.length c1, .slice A2 r.wants.length c2, .slice A3 r.gives.length c3, .slice A4 r.given.length c4] ∧ Blk w2 (w.heap.size + 1) 81 #[.int .i64 0, .int .i64 0, .int .i64 0, .bool false, .slice none 0 0, .int .i64 0, .slice none 0 0, .slice none 0 0, .slice none 0 0, .slice none 0 0] ∧ Below w.heap.size w w2 ∧ w.heap.size + 2 ≤ w2.heap.size ∧ ApG w2 (w.heap.size + 2) gu r.gives lu from
    ⟨H1.out.1.below h2, H1.out.2.1.same h2, H1.out.2.2.1.same h2, H1.out.2.2.2.1.trans (h2.mono H1.out.2.2.2.1.size), Nat.le_trans H1.out.2.2.2.2.1 h2.size, H1.out.2.2.2.2.2.below h2⟩)
  clear h2 s0 s1 s2 s3 s4 s5 s6 s7 s8 s9 sz sl
  have hn0 : n0 = r.kept.log.length := by
    obtain ⟨A', c', e, _⟩ := HV.out.log.ex
    cases e
    rfl
  subst hn0
  have s4 := H2.out.2.1.cell 4
  simp only [List.getElem?_toArray, List.getElem?_cons_zero, List.getElem?_cons_succ] at s4
  have sl := H2.out.2.1.lt
  have HLEN := Lib.hid h60
  have hcell := H2.out.1
  obtain ⟨A5, c5, hlu, _, _⟩ := hcell.own.is.log.ex
  subst hlu
  have d0 := hcell.wb.cell 0
  have d4 := hcell.rb.cell 4
  simp only [List.getElem?_toArray, List.getElem?_cons_zero, List.getElem?_cons_succ] at d0 d4
  have dl := hcell.wb.lt
  have dm := hcell.rb.lt
  have HROW := Lib.hid hcell.own.own.log.1
  have hnl : ¬ (r.kept.log.length : Int) = 60 := by omega
  have hnlb : ((r.kept.log.length : Int) == 60) = false := by simpa using hnl
  clear hcell hnl
  go_upto_region 8 with fail
  have hwr : gw ≠ gr := blk_ne H2.out.1.wb H2.out.1.rb (by decide)
  go_cut [8] (fun e8 wx => e8 = .int .i64 0 ∧ PushI w2 (w.heap.size + 2) gw gr r e hu wu gu nu wx)
  case first =>
    go_region_law (first
    | (refine step_app _ rfl (.tmp 40) (.tmp 42) 36 rfl el_strs (w.heap.size + 2) (.slice A5 r.kept.log.length c5) r.kept.log.length (r.kept.log.map Value.string) rfl ?_ (.slice (some ⟨w2.heap.size, 0, none⟩) 1 1) 1 [.string e] rfl ⟨rfl, .inr ⟨_, _, rfl, ?_⟩⟩ ?_ ?_ ?_ ?_ ?_
       · exact (own_below HROW.out (below_alloc w2 _).drew)
       · intro j v hj
         have hj8 : j < 1 := by (rcases Nat.lt_or_ge j 1 with h | h; exact h; rw [List.getElem?_eq_none h] at hj; cases hj)
         rw [addr_add0]
         refine (((Blk.new w2 9 #[.string e]).drew).cell j).trans ?_
         simpa using hj
       · (intro v hv; rw [List.mem_singleton] at hv; subst hv; rfl)
       · (unfold maxLen; omega)
       · omega
       · (have := H2.out.2.2.2.2.1; simp; omega)
       intro v4 x4 h4 hg4 hv4
       have hP := H2.out.1.below (below_alloc w2 (Obj.cells #[.string e] 9)).drew
       have hnx := hP.push_log (H2.out.2.2.2.2.2.below (below_alloc w2 (Obj.cells #[.string e] 9)).drew) (by unfold R47; omega) HES.out h4 hg4 (by have := H2.out.2.2.2.2.1; simp; omega)
       have hrb4 := blk_keep hP.rb (Ts := [81]) (Same.own hP.own.own.log.1 hg4 (Nat.zero_le _) (by decide)) (by simp)
       have hwb4 := blk_keep hP.wb (Ts := [146]) (Same.own hP.own.own.log.1 hg4 (Nat.zero_le _) (by decide)) (by simp)
       have g4 := hrb4.cell 4
       have g0 := hwb4.cell 0
       simp only [List.getElem?_toArray, List.getElem?_cons_zero, List.getElem?_cons_succ] at g4 g0
       have gz := hrb4.frozen
       have gl := hrb4.lt
       have gk := hwb4.lt
       obtain ⟨A9, c9, rfl, _, _, _, _⟩ := rd_own h4
       have HNX := Lib.hid (And.intro hnx.1 (((below_alloc w2 (Obj.cells #[.string e] 9)).drew.mono H2.out.2.2.2.2.1).trans hnx.2))
       clear hP hnx h4 hg4 hrb4 hwb4 hv4))
    all_goals
      obtain ⟨W5, hW5⟩ : ∃ W, W = x4.setCell ⟨gr, 4, none⟩ (.slice A9 (r.kept.log.length + 1) c9) := ⟨_, rfl⟩
      have HN5 := HNX
      rw [← hW5] at HN5 ⊢
      clear HNX hW5 g0 g4 gz gl gk d0 d4 dl dm
      go_wp2_with fail
      go_meet
      exact ⟨rfl, A9, c9, HN5.out⟩
  case rest =>
    obtain ⟨rfl, A9, c9, hN⟩ := hcut
    have HN5 := Lib.hid hN
    clear hN d0 d4 dl dm
    have hrb5 := HN5.out.1.rb
    have d0 := HN5.out.1.wb.cell 0
    have q1 := hrb5.cell 1
    have q2 := hrb5.cell 2
    have q3 := hrb5.cell 3
    have q4 := hrb5.cell 4
    have q5 := hrb5.cell 5
    simp only [List.getElem?_toArray, List.getElem?_cons_zero, List.getElem?_cons_succ] at d0 q1 q2 q3 q4 q5
    have dl := HN5.out.1.wb.lt
    have dm := hrb5.lt
    clear hrb5
    go_wp2_with fail
    have H := keptCheck_a (.slice A9 (r.kept.log.length + 1) c9) ⟨r.kept.view, r.kept.normal, r.kept.calm, r.kept.log ++ [e], r.kept.commit⟩ wc 0 HN5.out.1.own.is.log 0 HKF.out
    refine H.mono ?_
    clear H
    rintro en w6 ⟨rfl, h6⟩
    have HN6 := Lib.hid (And.intro (HN5.out.1.below h6) (HN5.out.2.trans (h6.mono (Nat.le_trans H2.out.2.2.2.2.1 HN5.out.2.size))))
    clear h6 d0 q1 q2 q3 q4 q5 dl dm HN5
    go_wp2_with fail
    refine (lead_e w6 (w.heap.size + 2) gw gr rr [] (by rw [← HMS.out.1]; exact HN6.out.1.e) (Nat.le_trans H2.out.2.2.2.2.1 HN6.out.2.size) (by simp [R47])).mono ?_; rintro en w3 ⟨rfl, hw3, h3⟩
    rw [List.nil_append, HMS.out.2] at hw3
    have hz3 : Blk w3 (w.heap.size + 1) 81 #[.int .i64 0, .int .i64 0, .int .i64 0, .bool false, .slice none 0 0, .int .i64 0, .slice none 0 0, .slice none 0 0, .slice none 0 0, .slice none 0 0] := H2.out.2.2.1.below (HN6.out.2.trans h3) (by omega)
    have hb3 : Below w.heap.size w w3 := H2.out.2.2.2.1.trans ((HN6.out.2.trans h3).mono (by omega))
    clear h3
    obtain ⟨lu3, hv3, wv3, gv3, nv3, ov3, css3, hw3⟩ := hw3
    obtain ⟨Ao, co, rfl⟩ := hw3.out.form
    obtain ⟨E0, m0, d0, E1, d1, E2, d2, E3, d3, E4, d4, rfl, rfl, rfl, rfl, rfl⟩ := hw3.own.is.forms
    have hwb := hw3.wb
    have hrb := hw3.rb
    have f0 := hwb.cell 0
    have f1 := hwb.cell 1
    simp only [List.getElem?_toArray, List.getElem?_cons_zero, List.getElem?_cons_succ] at f0 f1
    have fl := hwb.lt
    have k0 := hrb.cell 0
    have k1 := hrb.cell 1
    have k2 := hrb.cell 2
    have k3 := hrb.cell 3
    have k4 := hrb.cell 4
    have k5 := hrb.cell 5
    have k6 := hrb.cell 6
    have k7 := hrb.cell 7
    have k8 := hrb.cell 8
    have k9 := hrb.cell 9
    simp only [List.getElem?_toArray, List.getElem?_cons_zero, List.getElem?_cons_succ] at k0 k1 k2 k3 k4 k5 k6 k7 k8 k9
    have kz := hrb.frozen
    have kl := hrb.lt
    have z0 := hz3.cell 0
    have z1 := hz3.cell 1
    have z2 := hz3.cell 2
    have z3 := hz3.cell 3
    have z4 := hz3.cell 4
    have z5 := hz3.cell 5
    have z6 := hz3.cell 6
    have z7 := hz3.cell 7
    have z8 := hz3.cell 8
    have z9 := hz3.cell 9
    simp only [List.getElem?_toArray, List.getElem?_cons_zero, List.getElem?_cons_succ] at z0 z1 z2 z3 z4 z5 z6 z7 z8 z9
    have zz := hz3.frozen
    have zl := hz3.lt
    have hr := blk_set10 (a0 := .int .i64 rr.me) (a1 := .int .i64 rr.kept.view) (a2 := .int .i64 rr.kept.normal) (a3 := .bool rr.kept.calm) (a4 := .slice E0 m0 d0) (a5 := .int .i64 rr.kept.commit) (a6 := .slice E1 rr.have_.length d1) (a7 := .slice E2 rr.wants.length d2) (a8 := .slice E3 rr.gives.length d3) (a9 := .slice E4 rr.given.length d4) hz3
    have hsm := Same.sets10 (Ts := [9, 3, 4, 64, 89, 146]) (B := 0) (a0 := .int .i64 rr.me) (a1 := .int .i64 rr.kept.view) (a2 := .int .i64 rr.kept.normal) (a3 := .bool rr.kept.calm) (a4 := .slice E0 m0 d0) (a5 := .int .i64 rr.kept.commit) (a6 := .slice E1 rr.have_.length d1) (a7 := .slice E2 rr.wants.length d2) (a8 := .slice E3 rr.gives.length d3) (a9 := .slice E4 rr.given.length d4) hz3 (Nat.zero_le _) (by decide)
    have hwb2 := blk_keep hwb hsm (by simp)
    have q0 := hwb2.cell 0
    have q1 := hwb2.cell 1
    simp only [List.getElem?_toArray, List.getElem?_cons_zero, List.getElem?_cons_succ] at q0 q1
    have hT := hw3.own.is.same (hsm.mono (by simp) (Nat.le_refl _))
    have hO := hw3.out.is.same (Ts := [9, 89]) (by simp) (hsm.mono (by simp) (Nat.le_refl _)) (fun _ _ h => h.same (Ts := [9, 89]) (by simp) (hsm.mono (by simp) (Nat.le_refl _)))
    have hL := below_set10 (a0 := .int .i64 rr.me) (a1 := .int .i64 rr.kept.view) (a2 := .int .i64 rr.kept.normal) (a3 := .bool rr.kept.calm) (a4 := .slice E0 m0 d0) (a5 := .int .i64 rr.kept.commit) (a6 := .slice E1 rr.have_.length d1) (a7 := .slice E2 rr.wants.length d2) (a8 := .slice E3 rr.gives.length d3) (a9 := .slice E4 rr.given.length d4) hb3 (show w.heap.size ≤ w.heap.size + 1 by omega)
    have r0 := hr.cell 0
    have r1 := hr.cell 1
    have r2 := hr.cell 2
    have r3 := hr.cell 3
    have r4 := hr.cell 4
    have r5 := hr.cell 5
    have r6 := hr.cell 6
    have r7 := hr.cell 7
    have r8 := hr.cell 8
    have r9 := hr.cell 9
    simp only [List.getElem?_toArray, List.getElem?_cons_zero, List.getElem?_cons_succ] at r0 r1 r2 r3 r4 r5 r6 r7 r8 r9
    have rz := hr.frozen
    have rl := hr.lt
    have hA : ∀ g, (Value.slice Ao ms.length co).ownBlock = some g → w.heap.size ≤ g := fun g hg => by have := (hw3.out.row.lt g hg).1; omega
    have HT := Lib.hid (And.intro hT (And.intro hO (And.intro hL hA)))
    clear hr hsm hT hO hL hwb hrb hw3 hz3 hb3 hwb2 hA
    go_wp2_with fail
    go_region
    go_wp2
    refine bodyPost_ret (v := .tuple #[.agg #[.int .i64 rr.me, .int .i64 rr.kept.view, .int .i64 rr.kept.normal, .bool rr.kept.calm, .slice E0 m0 d0, .int .i64 rr.kept.commit, .slice E1 rr.have_.length d1, .slice E2 rr.wants.length d2, .slice E3 rr.gives.length d3, .slice E4 rr.given.length d4], .slice Ao ms.length co, .int .i64 0]) (by simp [results, Tryd.results40, go_sem, r0, r1, r2, r3, r4, r5, r6, r7, r8, r9]) rfl ?_
    exact ⟨⟨_, _, _, _, _, _, rfl, HT.out.1.same (Same.drew _), HT.out.2.1.same (Ts := [9, 89]) (by simp) (Same.drew _) (fun _ _ h => h.same (Ts := [9]) (by simp) (Same.drew _)), HT.out.2.2.2⟩, HT.out.2.2.1.drew⟩
theorem take_c (lv hv wv gv nv : Value) (r : Scu.Replica) (e : Scu.Str) (hes : e.size ≤ R47) (w : World) (B : Nat) (hr : IsRep w B lv hv wv gv nv r) :
    Calls Tryd.prog 40 #[.agg #[.int .i64 r.me, .int .i64 r.kept.view, .int .i64 r.kept.normal, .bool r.kept.calm, lv, .int .i64 r.kept.commit, hv, wv, gv, nv], .string e] w fun en w' => TellN w.heap.size w' (Scu.take r e).1 (Scu.take r e).2.1 (Scu.take r e).2.2 en ∧ Below w.heap.size w w' := by
  by_cases hf : Scu.repFault r = 0
  · by_cases hl : Scu.leads r = false
    · have q : Scu.take r e = (Scu.replica0, [], 14) := by unfold Scu.take; rw [if_neg (fun h => h hf), if_pos hl]
      rw [q]
      exact taken_2 lv hv wv gv nv r e w B hr hf hl
    · have hl' : Scu.leads r = true := by simpa using hl
      by_cases h60 : r.kept.log.length = 60
      · have q : Scu.take r e = (Scu.replica0, [], 7) := by unfold Scu.take; rw [if_neg (fun h => h hf), if_neg hl, if_pos h60]
        rw [q]
        exact taken_3 lv hv wv gv nv r e w B hr hf hl' h60
      · have hm : r.kept.log.length ≤ 60 := (Scu.keptFault_ok (Scu.repFault_ok hf).2.2.2.2.2.2.2).2.2.2.2.2.1
        by_cases hd : (Scu.decode e).2 = 0
        · have q : Scu.take r e = ({ r with kept := { r.kept with log := r.kept.log ++ [e] } }, Scu.leadOn { r with kept := { r.kept with log := r.kept.log ++ [e] } }, 0) := by unfold Scu.take; rw [if_neg (fun h => h hf), if_neg hl, if_neg h60, if_neg (fun h => h hd)]
          rw [q]
          exact taken_5 lv hv wv gv nv r e hes w B hr hf hl' (by omega) hd _ _ rfl rfl
        · have q : Scu.take r e = (Scu.replica0, [], (Scu.decode e).2) := by unfold Scu.take; rw [if_neg (fun h => h hf), if_neg hl, if_neg h60, if_pos hd]
          rw [q]
          exact taken_4 lv hv wv gv nv r e hes w B hr hf hl' (by omega) _ rfl hd
  · have q : Scu.take r e = (Scu.replica0, [], Scu.repFault r) := by unfold Scu.take; rw [if_pos hf]
    rw [q]
    exact taken_1 lv hv wv gv nv r e w B hr _ rfl hf
end Go.Proofs.YtfpiembhlgcelaaDoor
/- Words: rows of structs of the call's own, whatever the struct; cells set in one stroke. -/
namespace Go.Proofs.YtfpiembhlgcelaaDoor
set_option linter.unusedVariables false
set_option linter.unusedSimpArgs false
open Go.RowKit
set_option maxHeartbeats 1000000
set_option maxRecDepth 100000

theorem own_putr {w : World} {base size n g c : Nat} {e : TypeId} {xs : List Value} (h : w.ownsRow base e size (.slice (some ⟨g, 0, none⟩) n c) n xs) (j : Nat) (u : Value) :
    (w.setCell ⟨g, j, none⟩ u).ownsRow base e size (.slice (some ⟨g, 0, none⟩) n c) n (xs.set j u) := by
  obtain ⟨hl, ⟨h0, _⟩ | ⟨g', cap, cur, e1, hb, hh, hnc, hm, hcs, ht⟩⟩ := h
  · cases h0
  · cases e1
    have hB : Blk w g e cur := hh
    refine ⟨by simp [hl], .inr ⟨g, c, cur.setIfInBounds j u, rfl, hb, hB.set_ j u, hnc, hm, by simpa using hcs, ?_⟩⟩
    rw [Array.toList_setIfInBounds, List.take_set, ht]
theorem rwm_same {w w' : World} {Ts : List TypeId} {B base : Nat} {e : TypeId} {size n : Nat} {v : Value} {xs : List Value} (h : w.ownsRow base e size v n xs) (ht : e ∈ Ts) (hs : Same Ts B w w') : w'.ownsRow base e size v n xs := by
  obtain ⟨h1, h2 | ⟨g, cap, cur, rfl, h3, h4, h5⟩⟩ := h
  · exact ⟨h1, .inl h2⟩
  · have hlt : g < w.heap.size := by
      rcases Nat.lt_or_ge g w.heap.size with hlt | hge
      · exact hlt
      · rw [Array.getElem?_eq_none hge] at h4; cases h4
    have := hs.keep g hlt (.inr ⟨_, _, _, ht, h4⟩)
    exact ⟨h1, .inr ⟨g, cap, cur, rfl, h3, by rw [this]; exact h4, h5⟩⟩
/- cells set in one stroke -/
def putAt : List Value → Nat → List Value → List Value
  | l, _, [] => l
  | l, o, v :: r => putAt (l.set o v) (o + 1) r
theorem putAt_length : ∀ (vs : List Value) (l : List Value) (o : Nat), (putAt l o vs).length = l.length
  | [], _, _ => rfl
  | v :: r, l, o => by rw [putAt, putAt_length r, List.length_set]
theorem putAt_cons (a : Value) : ∀ (vs : List Value) (l : List Value) (o : Nat), putAt (a :: l) (o + 1) vs = a :: putAt l o vs
  | [], _, _ => rfl
  | v :: r, l, o => by rw [putAt, putAt, List.set_cons_succ, putAt_cons a r]
theorem putAt_left : ∀ (pre : List Value) (vs : List Value) (l : List Value) (o : Nat), putAt (pre ++ l) (pre.length + o) vs = pre ++ putAt l o vs
  | [], vs, l, o => by simp
  | a :: pre, vs, l, o => by
    rw [List.cons_append, List.length_cons, show pre.length + 1 + o = pre.length + o + 1 by omega, putAt_cons, putAt_left pre]
    rfl
theorem putAt_whole : ∀ (vs cs l : List Value), cs.length = vs.length → putAt (cs ++ l) 0 vs = vs ++ l
  | [], cs, l, h => by simp at h; subst h; rfl
  | v :: r, [], l, h => by simp at h
  | v :: r, c :: cs, l, h => by
    rw [putAt, List.cons_append, List.set_cons_zero, putAt_cons, putAt_whole r cs l (by simpa using h)]
    rfl
theorem putAt_flatten {m : Nat} : ∀ {css : List (List Value)} (_ : ∀ cs ∈ css, cs.length = m) (k : Nat) (_ : k < css.length) (vs : List Value) (_ : vs.length = m), putAt css.flatten (k * m) vs = (css.set k vs).flatten
  | [], _, k, hk, _, _ => by cases hk
  | c :: css, h, 0, _, vs, hv => by
    rw [Nat.zero_mul, List.flatten_cons, putAt_whole vs c _ (by rw [h c List.mem_cons_self, hv]), List.set_cons_zero, List.flatten_cons]
  | c :: css, h, k + 1, hk, vs, hv => by
    have hc := h c List.mem_cons_self
    rw [List.flatten_cons, show (k + 1) * m = c.length + k * m by rw [hc, Nat.succ_mul]; omega, putAt_left, List.set_cons_succ, List.flatten_cons,
      putAt_flatten (fun x hx => h x (List.mem_cons_of_mem _ hx)) k (by simpa using hk) vs hv]
section
variable {w w' : World} {base size n g c : Nat} {e t : TypeId} {xs : List Value} {cur : Array Value} {Ts : List TypeId}
theorem own_puts : ∀ (vs : List Value) (o : Nat) (xs : List Value) (w : World), w.ownsRow base e size (.slice (some ⟨g, 0, none⟩) n c) n xs → (w.setCells g o vs).ownsRow base e size (.slice (some ⟨g, 0, none⟩) n c) n (putAt xs o vs)
  | [], _, _, _, h => h
  | v :: r, o, xs, w, h => own_puts r (o + 1) _ _ (own_putr h o v)
theorem blk_sets : ∀ (vs : List Value) (o : Nat) (w : World) (cur : Array Value), Blk w g t cur → ∃ cur', Blk (w.setCells g o vs) g t cur'
  | [], _, _, cur, h => ⟨cur, h⟩
  | v :: r, o, w, cur, h => blk_sets r (o + 1) _ _ (h.set_ o v)
theorem blk_puts : ∀ (vs : List Value) (o : Nat) (w : World) (xs : List Value), Blk w g t xs.toArray → Blk (w.setCells g o vs) g t (putAt xs o vs).toArray
  | [], _, _, _, h => h
  | v :: r, o, w, xs, h => by
    have := h.set_ o v
    rw [List.setIfInBounds_toArray] at this
    exact blk_puts r (o + 1) _ _ this
/-- A whole box is written anew. -/
theorem blk_all {vs xs : List Value} (h : Blk w g t xs.toArray) (hl : xs.length = vs.length) : Blk (w.setCells g 0 vs) g t vs.toArray := by
  have := blk_puts vs 0 w xs h
  have e : putAt xs 0 vs = vs := by
    have := putAt_whole vs xs [] hl
    simpa using this
  rwa [e] at this
theorem Same.sets : ∀ (vs : List Value) (o : Nat) (w : World) (cur : Array Value), Blk w g t cur → t ∉ Ts → Same Ts 0 w (w.setCells g o vs)
  | [], _, w, _, _, _ => Same.refl _ _ _
  | v :: r, o, w, cur, h, ht => (Same.set_ h (Nat.zero_le _) ht o v).trans (Same.sets r (o + 1) _ _ (h.set_ o v) ht)
theorem below_sets {B : Nat} (hB : B ≤ g) : ∀ (vs : List Value) (o : Nat) (w0 w : World), Below B w0 w → Below B w0 (w.setCells g o vs)
  | [], _, _, _, h => h
  | v :: r, o, w0, w, h => below_sets hB r (o + 1) w0 _ (h.setCell (p := ⟨g, o, none⟩) hB v)
theorem size_sets : ∀ (vs : List Value) (o : Nat) (w : World), (w.setCells g o vs).heap.size = w.heap.size
  | [], _, _ => rfl
  | v :: r, o, w => by rw [World.setCells, size_sets r]; simp [World.setCell]
theorem blk_far_sets {g' : Nat} {t' : TypeId} {cs : Array Value} (hne : g' ≠ g) : ∀ (vs : List Value) (o : Nat) (w : World), Blk w g' t' cs → Blk (w.setCells g o vs) g' t' cs
  | [], _, _, h => h
  | v :: r, o, w, h => blk_far_sets hne r (o + 1) _ (h.far (p := ⟨g, o, none⟩) hne v)
theorem Blk.range {xs : List Value} (h : Blk w g t xs.toArray) : w.rangeAt g 0 xs := fun j v hj => by
  rw [Nat.zero_add, h.cell]
  simpa using hj
theorem Blk.there {xs : List Value} (h : Blk w g t xs.toArray) : w.there g 0 xs.length := fun j hj => by
  rw [Nat.zero_add]
  exact ⟨by rw [h.cell]; simp [hj], h.frozen j⟩
end
/-- Structs in a row of the call's own: css the cells of each. -/
structure OwnR {α : Type} (t : TypeId) (size bytes : Nat) (El : World → Nat → List Value → α → Prop) (w : World) (base : Nat) (v : Value) (xs : List α) (css : List (List Value)) : Prop where
  len : css.length = xs.length
  sz : ∀ cs ∈ css, cs.length = size
  row : w.ownsRow base t size v xs.length css.flatten
  each : ∀ (j : Nat) (cs : List Value) (x : α), css[j]? = some cs → xs[j]? = some x → El w 0 cs x
  max : xs.length * bytes ≤ R47
section
variable {α : Type} {t : TypeId} {size bytes : Nat} {El : World → Nat → List Value → α → Prop} {w w' : World} {base base' : Nat} {v : Value} {xs : List α} {css : List (List Value)} {Ts : List TypeId}
theorem OwnR.is (h : OwnR t size bytes El w base v xs css) : IsRow t size bytes El w 0 v xs := by
  obtain ⟨A, c, rfl, hc, _, hr, _⟩ := rd_own h.row
  exact ⟨⟨A, c, css, rfl, hc, h.len, h.sz, hr, h.each⟩, h.max⟩
theorem OwnR.same {B : Nat} (h : OwnR t size bytes El w base v xs css) (ht : t ∈ Ts) (hs : Same Ts B w w') (hel : ∀ cs x, El w 0 cs x → El w' 0 cs x) : OwnR t size bytes El w' base v xs css :=
  ⟨h.len, h.sz, rwm_same h.row ht hs, fun j cs x a b => hel cs x (h.each j cs x a b), h.max⟩
theorem OwnR.base_ (h : OwnR t size bytes El w base v xs css) (hb : base' ≤ base) : OwnR t size bytes El w base' v xs css := ⟨h.len, h.sz, ownsRow_base h.row hb, h.each, h.max⟩
theorem OwnR.nil_ : OwnR t size bytes El w base (.slice none 0 0) [] [] := ⟨rfl, by simp, World.ownsRow_nil _ _ _ _, fun j cs m h => by simp at h, by simp [R47]⟩
theorem OwnR.form (h : OwnR t size bytes El w base v xs css) : ∃ A c, v = .slice A xs.length c := by
  obtain ⟨A, c, e, _⟩ := rd_own h.row
  exact ⟨A, c, e⟩
theorem OwnR.lt (h : OwnR t size bytes El w base v xs css) : ∀ g, v.ownBlock = some g → base ≤ g ∧ g < w.heap.size := h.row.lt
/-- One of the row: where it lies, and what it tells. -/
theorem OwnR.at_ (h : OwnR t size bytes El w base v xs css) {k : Nat} (hk : k < xs.length) : ∃ g c cs, v = .slice (some ⟨g, 0, none⟩) xs.length c ∧ base ≤ g ∧ (∃ cur, Blk w g t cur) ∧ css[k]? = some cs ∧ cs.length = size ∧ El w 0 cs xs[k] ∧ w.rangeAt g (k * size) cs ∧ w.there g (k * size) size := by
  have hkc : k < css.length := by rw [h.len]; exact hk
  have hcs := List.getElem?_eq_getElem hkc
  have hsz := h.sz _ (List.getElem_mem hkc)
  have hel := h.each k _ _ hcs (List.getElem?_eq_getElem hk)
  obtain ⟨hl, ⟨h0, hn⟩ | ⟨g, cap, cur, e, hb, hh, hnc, hm, hcz, ht⟩⟩ := h.row
  · omega
  · have hB : Blk w g t cur := hh
    have hcell : ∀ j, j < size → w.cell? ⟨g, k * size + j, none⟩ = css[k][j]? := fun j hj => by
      have hlt : k * size + j < xs.length * size := by
        calc k * size + j < k * size + size := by omega
          _ = (k + 1) * size := by rw [Nat.succ_mul]
          _ ≤ xs.length * size := Nat.mul_le_mul_right _ hk
      have := flatten_get h.sz hcs j hj
      rw [← ht, List.getElem?_take_of_lt hlt] at this
      rw [hB.cell, ← this]
      simp
    refine ⟨g, cap, css[k], e, hb, ⟨cur, hB⟩, hcs, hsz, hel, fun j u hj => ?_, fun j hj => ⟨?_, hB.frozen _⟩⟩
    · have hjs : j < size := by
        rcases Nat.lt_or_ge j size with h' | h'
        · exact h'
        · rw [List.getElem?_eq_none (by omega)] at hj; cases hj
      rw [hcell j hjs, hj]
    · rw [hcell j hj, List.getElem?_eq_getElem (by omega)]
      rfl
/-- One of the row is set, all its cells in one stroke. -/
theorem OwnR.put {g c n : Nat} (h : OwnR t size bytes El w base (.slice (some ⟨g, 0, none⟩) n c) xs css) {k : Nat} (hk : k < xs.length) {cs : List Value} {x : α} (hcs : cs.length = size) (hx : El w 0 cs x)
    {cs' : List Value} (hel : ∀ cs x, El w 0 cs x → El (w.setCells g (k * size) cs') 0 cs x) (e : cs' = cs) : OwnR t size bytes El (w.setCells g (k * size) cs') base (.slice (some ⟨g, 0, none⟩) n c) (xs.set k x) (css.set k cs) := by
  subst e
  have hn : n = xs.length := by
    obtain ⟨A, c', e, _⟩ := rd_own h.row
    cases e
    rfl
  subst hn
  have hkc : k < css.length := by rw [h.len]; exact hk
  refine ⟨by simp [h.len], ?_, ?_, ?_, by simpa using h.max⟩
  · intro c' hc'
    rcases List.mem_or_eq_of_mem_set hc' with h' | rfl
    · exact h.sz c' h'
    · exact hcs
  · rw [List.length_set, ← putAt_flatten h.sz k hkc cs' hcs]
    exact own_puts cs' (k * size) _ _ h.row
  · intro j c' y h1 h2
    by_cases hj : j = k
    · subst hj
      rw [List.getElem?_set_self hkc] at h1
      rw [List.getElem?_set_self hk] at h2
      cases h1
      cases h2
      exact hel _ _ hx
    · rw [List.getElem?_set_ne (fun e => hj e.symm)] at h1 h2
      exact hel _ _ (h.each j c' y h1 h2)
/-- One more is appended. -/
theorem OwnR.push {v4 : Value} {cs : List Value} {x : α} (h : OwnR t size bytes El w base v xs css) (hm : (xs.length + 1) * bytes ≤ R47) (hcs : cs.length = size) (hx : El w' 0 cs x)
    (h4 : w'.ownsRow base t size v4 (xs.length + 1) (css.flatten ++ cs)) (hel : ∀ cs x, El w 0 cs x → El w' 0 cs x) : OwnR t size bytes El w' base v4 (xs ++ [x]) (css ++ [cs]) := by
  refine ⟨by simp only [List.length_append, h.len, List.length_cons, List.length_nil], ?_, ?_, ?_, by simpa using hm⟩
  · intro c hc
    rcases List.mem_append.1 hc with h' | h'
    · exact h.sz c h'
    · rw [List.mem_singleton] at h'
      subst h'
      exact hcs
  · rw [List.length_append, List.flatten_append]
    simpa using h4
  · intro j c y hc hy
    rcases Nat.lt_or_ge j xs.length with hj | hj
    · rw [List.getElem?_append_left (by rw [h.len]; exact hj)] at hc
      rw [List.getElem?_append_left hj] at hy
      exact hel _ _ (h.each j c y hc hy)
    · rw [List.getElem?_append_right (by rw [h.len]; exact hj), h.len] at hc
      rw [List.getElem?_append_right hj] at hy
      have hj0 : j - xs.length = 0 := by
        rcases Nat.eq_zero_or_pos (j - xs.length) with h' | h'
        · exact h'
        · rw [List.getElem?_eq_none (by simp; omega)] at hc
          cases hc
      rw [hj0] at hc hy
      simp only [List.getElem?_cons_zero, Option.some.injEq] at hc hy
      subst hc
      subst hy
      exact hx
end
end Go.Proofs.YtfpiembhlgcelaaDoor

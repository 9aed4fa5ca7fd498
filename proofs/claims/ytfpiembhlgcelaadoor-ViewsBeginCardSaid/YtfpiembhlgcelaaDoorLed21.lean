/- Part 21: words and walks under the law 'LeadersLead'. -/
import Derived.Test.YtfpiembhlgcelaaDoorLed20
import Derived.Test.YtfpiembhlgcelaaDoorLed9
import Derived.Test.YtfpiembhlgcelaaDoorLed7
import Derived.Test.YtfpiembhlgcelaaDoorLed19
import Derived.Deep.RegionHeld3
import Derived.Deep.MidRow
set_option linter.unusedVariables false
set_option linter.unusedSimpArgs false
/- Walks: the newest of both slots. -/
namespace Go.Proofs.YtfpiembhlgcelaaDoor
open Go.RowKit
set_option maxHeartbeats 4000000
set_option maxRecDepth 100000

theorem stageLoad_c (v : Value) (l : List Scu.Str) (w : World) (B : Nat) (hv : IsStrs w B v l) :
    Calls Tryd.prog 38 #[v] w fun e w' => LoadRet w' w.heap.size (Scu.load l) e ∧ Below w.heap.size w w' := by
  obtain ⟨⟨A, c, rfl, _, hr⟩, hl, he⟩ := hv
  unfold R47 at hl
  by_cases h2 : l.length = 2
  · obtain ⟨a, b, rfl⟩ : ∃ a b, l = [a, b] := by match l, h2 with | [a, b], _ => exact ⟨a, b, rfl⟩
    obtain ⟨g, o, rfl, hg, hc0⟩ := str_get hr (k := 0) (by simp)
    obtain ⟨g', o', e0, _, hc1⟩ := str_get hr (k := 1) (by simp)
    cases e0
    simp only [Nat.add_zero, List.getElem_cons_zero, List.getElem_cons_succ] at hc0 hc1
    generalize da : Scu.stageDecode a = qa
    generalize db : Scu.stageDecode b = qb
    obtain ⟨ka, ga, ea⟩ := qa
    obtain ⟨kb, gb, eb⟩ := qb
    have HLD := Lib.hid (Scu.load_two da db)
    have HA := Lib.hid (fun W => stageDecode_a a W ka ga ea da)
    have HB := Lib.hid (fun W => stageDecode_a b W kb gb eb db)
    clear da db h2 hl he hr
    go_enter Tryd.func38, Tryd.ntmps38
    go_wp2_with fail
    refine (HA.out _).mono ?_; rintro e w1 ⟨⟨lv1, rfl, hu1⟩, h1⟩
    obtain ⟨A1, n1, c1, rfl⟩ := hu1.form
    have hB1 := below_box h1
    have hsz1 := box_lt h1
    have hg1 : g < w1.heap.size := by omega
    have hcc : w1.cell? ⟨g, o + 1, none⟩ = some (.string b) := (hB1.cell (p := ⟨g, o + 1, none⟩) hg).trans hc1
    have HZ1 := Lib.hid ((Blk.new w 64 #[.int .i64 0, .int .i64 0, .bool false, .slice none 0 0, .int .i64 0]).same h1)
    have HU1 := Lib.hid (hu1.base_ (base' := w.heap.size) (by simp))
    have HB1 := Lib.hid hB1
    clear hB1 h1 hu1 hc0 hc1
    go_wp2_with fail
    refine (HB.out _).mono ?_; rintro e w2 ⟨⟨lv2, rfl, hu2⟩, h2⟩
    obtain ⟨A2, n2, c2, rfl⟩ := hu2.form
    have hsz2 := box_lt h2
    have hsz3 : w.heap.size < w2.heap.size := by omega
    have hk1 : Blk w2 w1.heap.size 64 #[.int .i64 ka.view, .int .i64 ka.normal, .bool ka.calm, .slice A1 n1 c1, .int .i64 ka.commit] := (Blk.new w1 64 #[.int .i64 ka.view, .int .i64 ka.normal, .bool ka.calm, .slice A1 n1 c1, .int .i64 ka.commit]).same h2
    have hz := (HZ1.out.alloc (Obj.cells #[.int .i64 ka.view, .int .i64 ka.normal, .bool ka.calm, .slice A1 n1 c1, .int .i64 ka.commit] 64)).same h2
    have hB2 := HB1.out.trans ((below_box h2).mono HB1.out.size)
    have hU1 := (HU1.out.alloc _).below h2
    have hU2 := hu2.base_ (base' := w.heap.size) (by have := HB1.out.size; simp; omega)
    clear h2 hu2 HU1
    go_upto_region 5 with fail
    obtain ⟨Wd, hWd⟩ : ∃ W, W = w2.alloc (Obj.cells #[.int .i64 kb.view, .int .i64 kb.normal, .bool kb.calm, .slice A2 n2 c2, .int .i64 kb.commit] 64) := ⟨_, rfl⟩
    rw [← hWd]
    have hbw : Below w2.heap.size w2 Wd := by rw [hWd]; exact below_alloc _ _
    have hk2 : Blk Wd w2.heap.size 64 #[.int .i64 kb.view, .int .i64 kb.normal, .bool kb.calm, .slice A2 n2 c2, .int .i64 kb.commit] := by rw [hWd]; exact Blk.new _ _ _
    have hk1 := hk1.same hbw
    have hz := hz.same hbw
    have HB2 := Lib.hid (hB2.trans (hbw.mono hB2.size))
    have HU1' := Lib.hid (hU1.below hbw)
    have HU2 := Lib.hid (hU2.below hbw)
    have kc0 := hk1.cell 0
    have kc1 := hk1.cell 1
    have kc2 := hk1.cell 2
    have kc3 := hk1.cell 3
    have kc4 := hk1.cell 4
    simp only [List.getElem?_toArray, List.getElem?_cons_zero, List.getElem?_cons_succ] at kc0 kc1 kc2 kc3 kc4
    have kcz := hk1.frozen
    have kd0 := hk2.cell 0
    have kd1 := hk2.cell 1
    have kd2 := hk2.cell 2
    have kd3 := hk2.cell 3
    have kd4 := hk2.cell 4
    simp only [List.getElem?_toArray, List.getElem?_cons_zero, List.getElem?_cons_succ] at kd0 kd1 kd2 kd3 kd4
    have kdz := hk2.frozen
    have zc0 := hz.cell 0
    have zc1 := hz.cell 1
    have zc2 := hz.cell 2
    have zc3 := hz.cell 3
    have zc4 := hz.cell 4
    simp only [List.getElem?_toArray, List.getElem?_cons_zero, List.getElem?_cons_succ] at zc0 zc1 zc2 zc3 zc4
    have zcz := hz.frozen
    have hlz := hz.lt
    have hl1 := hk1.lt
    have hl2 := hk2.lt
    have HZ := Lib.hid hz
    clear hz hk1 hk2 hB2 hU1 hU2 hbw hWd hcc
    by_cases ha : ea = 0
    · subst ha
      by_cases hb : eb = 0
      · subst hb
        by_cases hlt : ga < gb
        · have HF := Lib.hid (show Scu.load [a, b] = (kb, gb, 1, 0) by rw [HLD.out]; rw [if_neg (by simp), if_pos (.inr ⟨rfl, hlt⟩)])
          have hr5 : Blk _ w.heap.size 64 #[.int .i64 kb.view, .int .i64 kb.normal, .bool kb.calm, .slice A2 n2 c2, .int .i64 kb.commit] := ((((HZ.out.set_ 0 (.int .i64 kb.view)).set_ 1 (.int .i64 kb.normal)).set_ 2 (.bool kb.calm)).set_ 3 (.slice A2 n2 c2)).set_ 4 (.int .i64 kb.commit)
          have r0 := hr5.cell 0
          have r1 := hr5.cell 1
          have r2 := hr5.cell 2
          have r3 := hr5.cell 3
          have r4 := hr5.cell 4
          simp only [List.getElem?_toArray, List.getElem?_cons_zero, List.getElem?_cons_succ] at r0 r1 r2 r3 r4
          have rz := hr5.frozen
          clear HLD hr5
          go_wp2
          refine bodyPost_ret (v := .tuple #[.agg #[.int .i64 kb.view, .int .i64 kb.normal, .bool kb.calm, .slice A2 n2 c2, .int .i64 kb.commit], .int .i64 gb, .int .i64 1, .int .i64 0]) (by simp [results, Tryd.results38, go_sem, r0, r1, r2, r3, r4]) rfl ?_
          refine ⟨?_, below_set5 HB2.out (Nat.le_refl _)⟩
          rw [HF.out]
          exact ⟨_, rfl, HU2.out.same (Same.sets5 (B := 0) HZ.out (Nat.zero_le _) (by decide) _ _ _ _ _)⟩
        · have hge : gb ≤ ga := by omega
          have HF := Lib.hid (show Scu.load [a, b] = (ka, ga, 0, 0) by rw [HLD.out]; rw [if_neg (by simp), if_neg (by omega)])
          have hr5 : Blk _ w.heap.size 64 #[.int .i64 ka.view, .int .i64 ka.normal, .bool ka.calm, .slice A1 n1 c1, .int .i64 ka.commit] := ((((HZ.out.set_ 0 (.int .i64 ka.view)).set_ 1 (.int .i64 ka.normal)).set_ 2 (.bool ka.calm)).set_ 3 (.slice A1 n1 c1)).set_ 4 (.int .i64 ka.commit)
          have r0 := hr5.cell 0
          have r1 := hr5.cell 1
          have r2 := hr5.cell 2
          have r3 := hr5.cell 3
          have r4 := hr5.cell 4
          simp only [List.getElem?_toArray, List.getElem?_cons_zero, List.getElem?_cons_succ] at r0 r1 r2 r3 r4
          have rz := hr5.frozen
          clear HLD hlt hr5
          go_wp2
          refine bodyPost_ret (v := .tuple #[.agg #[.int .i64 ka.view, .int .i64 ka.normal, .bool ka.calm, .slice A1 n1 c1, .int .i64 ka.commit], .int .i64 ga, .int .i64 0, .int .i64 0]) (by simp [results, Tryd.results38, go_sem, r0, r1, r2, r3, r4]) rfl ?_
          refine ⟨?_, below_set5 HB2.out (Nat.le_refl _)⟩
          rw [HF.out]
          exact ⟨_, rfl, HU1'.out.same (Same.sets5 (B := 0) HZ.out (Nat.zero_le _) (by decide) _ _ _ _ _)⟩
      · have hbb : (eb != 0) = true := by simpa using hb
        have hbe : (eb == 0) = false := by simpa using hb
        have HF := Lib.hid (show Scu.load [a, b] = (ka, ga, 0, 0) by rw [HLD.out]; rw [if_neg (by simp), if_neg (by omega)])
        have hr5 : Blk _ w.heap.size 64 #[.int .i64 ka.view, .int .i64 ka.normal, .bool ka.calm, .slice A1 n1 c1, .int .i64 ka.commit] := ((((HZ.out.set_ 0 (.int .i64 ka.view)).set_ 1 (.int .i64 ka.normal)).set_ 2 (.bool ka.calm)).set_ 3 (.slice A1 n1 c1)).set_ 4 (.int .i64 ka.commit)
        have r0 := hr5.cell 0
        have r1 := hr5.cell 1
        have r2 := hr5.cell 2
        have r3 := hr5.cell 3
        have r4 := hr5.cell 4
        simp only [List.getElem?_toArray, List.getElem?_cons_zero, List.getElem?_cons_succ] at r0 r1 r2 r3 r4
        have rz := hr5.frozen
        clear HLD hb hr5
        go_wp2
        refine bodyPost_ret (v := .tuple #[.agg #[.int .i64 ka.view, .int .i64 ka.normal, .bool ka.calm, .slice A1 n1 c1, .int .i64 ka.commit], .int .i64 ga, .int .i64 0, .int .i64 0]) (by simp [results, Tryd.results38, go_sem, r0, r1, r2, r3, r4]) rfl ?_
        refine ⟨?_, below_set5 HB2.out (Nat.le_refl _)⟩
        rw [HF.out]
        exact ⟨_, rfl, HU1'.out.same (Same.sets5 (B := 0) HZ.out (Nat.zero_le _) (by decide) _ _ _ _ _)⟩
    · have hab : (ea != 0) = true := by simpa using ha
      by_cases hb : eb = 0
      · subst hb
        have HF := Lib.hid (show Scu.load [a, b] = (kb, gb, 1, 0) by rw [HLD.out]; rw [if_neg (by simp), if_pos (.inl ha)])
        have hr5 : Blk _ w.heap.size 64 #[.int .i64 kb.view, .int .i64 kb.normal, .bool kb.calm, .slice A2 n2 c2, .int .i64 kb.commit] := ((((HZ.out.set_ 0 (.int .i64 kb.view)).set_ 1 (.int .i64 kb.normal)).set_ 2 (.bool kb.calm)).set_ 3 (.slice A2 n2 c2)).set_ 4 (.int .i64 kb.commit)
        have r0 := hr5.cell 0
        have r1 := hr5.cell 1
        have r2 := hr5.cell 2
        have r3 := hr5.cell 3
        have r4 := hr5.cell 4
        simp only [List.getElem?_toArray, List.getElem?_cons_zero, List.getElem?_cons_succ] at r0 r1 r2 r3 r4
        have rz := hr5.frozen
        clear HLD ha hr5
        go_wp2
        refine bodyPost_ret (v := .tuple #[.agg #[.int .i64 kb.view, .int .i64 kb.normal, .bool kb.calm, .slice A2 n2 c2, .int .i64 kb.commit], .int .i64 gb, .int .i64 1, .int .i64 0]) (by simp [results, Tryd.results38, go_sem, r0, r1, r2, r3, r4]) rfl ?_
        refine ⟨?_, below_set5 HB2.out (Nat.le_refl _)⟩
        rw [HF.out]
        exact ⟨_, rfl, HU2.out.same (Same.sets5 (B := 0) HZ.out (Nat.zero_le _) (by decide) _ _ _ _ _)⟩
      · have hbb : (eb != 0) = true := by simpa using hb
        have HF := Lib.hid (show Scu.load [a, b] = (Scu.kept0, 0, 0, 13) by rw [HLD.out, if_pos ⟨ha, hb⟩])
        have hr5 : Blk _ w.heap.size 64 #[.int .i64 0, .int .i64 0, .bool false, .slice none 0 0, .int .i64 0] := ((((HZ.out.set_ 0 (.int .i64 0)).set_ 1 (.int .i64 0)).set_ 2 (.bool false)).set_ 3 (.slice none 0 0)).set_ 4 (.int .i64 0)
        have r0 := hr5.cell 0
        have r1 := hr5.cell 1
        have r2 := hr5.cell 2
        have r3 := hr5.cell 3
        have r4 := hr5.cell 4
        simp only [List.getElem?_toArray, List.getElem?_cons_zero, List.getElem?_cons_succ] at r0 r1 r2 r3 r4
        have rz := hr5.frozen
        clear ha hb hr5
        go_wp2
        refine bodyPost_ret (v := .tuple #[.agg #[.int .i64 0, .int .i64 0, .bool false, .slice none 0 0, .int .i64 0], .int .i64 0, .int .i64 0, .int .i64 13]) (by simp [results, Tryd.results38, go_sem, r0, r1, r2, r3, r4]) rfl ?_
        exact ⟨by rw [HF.out]; exact load_zero _ _ _, below_set5 HB2.out (Nat.le_refl _)⟩
  · rw [Scu.load_len h2]
    have hb : ((l.length : Int) != 2) = true := by simpa using (show ¬ (l.length : Int) = 2 by omega)
    clear h2 hr he
    go_enter Tryd.func38, Tryd.ntmps38
    go_wp2
    go_returns
    exact ⟨load_zero _ _ _, (Below.refl _ _).alloc (Nat.le_refl _) _⟩
end Go.Proofs.YtfpiembhlgcelaaDoor
/- replica.New, walked. -/
namespace Go.Proofs.YtfpiembhlgcelaaDoor
open Go.RowKit
set_option maxHeartbeats 2000000
set_option maxRecDepth 100000

def NewRet (w : World) (r : Scu.Replica) (c : Int) (e : Ending) : Prop := ∃ lu hv wv gv nv, e = .returned (.tuple #[.agg #[.int .i64 r.me, .int .i64 r.kept.view, .int .i64 r.kept.normal, .bool r.kept.calm, lu, .int .i64 r.kept.commit, hv, wv, gv, nv], .int .i64 c]) ∧ IsRep w 0 lu hv wv gv nv r
theorem new_zero (w : World) (c : Int) : NewRet w Scu.replica0 c (.returned (.tuple #[.agg #[.int .i64 0, .int .i64 0, .int .i64 0, .bool false, .slice none 0 0, .int .i64 0, .slice none 0 0, .slice none 0 0, .slice none 0 0, .slice none 0 0], .int .i64 c])) :=
  ⟨_, _, _, _, _, rfl, IsStrs.nil_, ⟨⟨none, 0, rfl, Nat.le_refl _, Rd.nil⟩, by simp [Scu.replica0, R47]⟩, ⟨⟨none, 0, rfl, Nat.le_refl _, Rd.nil⟩, by simp [Scu.replica0, R47]⟩, IsRow.nil_, ⟨⟨none, 0, rfl, Nat.le_refl _, Rd.nil⟩, by simp [Scu.replica0, R47]⟩⟩
section
variable {me : Int} {k : Scu.Kept}
theorem nw1 (h : me < 0 ∨ 3 ≤ me) : Scu.repNew me k = (Scu.replica0, 2) := if_pos h
theorem nw2 (h : ¬ (me < 0 ∨ 3 ≤ me)) (hk : Scu.keptFault k ≠ 0) : Scu.repNew me k = (Scu.replica0, Scu.keptFault k) := by unfold Scu.repNew; rw [if_neg h, if_pos hk]
theorem nw3 (h : ¬ (me < 0 ∨ 3 ≤ me)) (hk : ¬ Scu.keptFault k ≠ 0) : Scu.repNew me k = (⟨me, k, [0, 0, 0], [false, false, false], [Scu.kept0, Scu.kept0, Scu.kept0], [false, false, false]⟩, 0) := by unfold Scu.repNew; rw [if_neg h, if_neg hk]
end
theorem stageCheck_a (lv : Value) (k : Scu.Kept) (w : World) (B : Nat) (hv : IsStrs w B lv k.log) (f : Int) (h : Scu.keptFault k = f) :
    Calls Tryd.prog 73 #[.agg #[.int .i64 k.view, .int .i64 k.normal, .bool k.calm, lv, .int .i64 k.commit]] w fun e w' => e = .returned (.int .i64 f) ∧ Below w.heap.size w w' := by
  have := stageCheck_c lv k w B hv
  rw [h] at this
  exact this
theorem repNew_1 (A : Option Addr) (n c : Nat) (me : Int) (k : Scu.Kept) (w : World) (hm : me < 0 ∨ 3 ≤ me) :
    Calls Tryd.prog 39 #[.int .i64 me, .agg #[.int .i64 k.view, .int .i64 k.normal, .bool k.calm, .slice A n c, .int .i64 k.commit]] w fun e w' => NewRet w' Scu.replica0 2 e ∧ Below w.heap.size w w' := by
  have hb : Below w.heap.size w ((w.alloc (Obj.cells #[.int .i64 k.view, .int .i64 k.normal, .bool k.calm, .slice A n c, .int .i64 k.commit] 64)).alloc (Obj.cells #[.int .i64 0, .int .i64 0, .int .i64 0, .bool false, .slice none 0 0, .int .i64 0, .slice none 0 0, .slice none 0 0, .slice none 0 0, .slice none 0 0] 81)) := (below_alloc w _).alloc (by simp) _
  rcases hm with hm | hm
  all_goals
    go_enter Tryd.func39, Tryd.ntmps39
    go_wp2
    refine bodyPost_ret (v := .tuple #[.agg #[.int .i64 0, .int .i64 0, .int .i64 0, .bool false, .slice none 0 0, .int .i64 0, .slice none 0 0, .slice none 0 0, .slice none 0 0, .slice none 0 0], .int .i64 2]) (by simp [results, Tryd.results39, go_sem]) rfl ?_
    exact ⟨new_zero _ _, hb⟩
theorem repNew_2 (A : Option Addr) (n c : Nat) (me : Int) (k : Scu.Kept) (w : World) (B : Nat) (hk : IsStrs w B (.slice A n c) k.log) (hm0 : 0 ≤ me) (hm : me < 3) (f : Int) (hf : Scu.keptFault k = f) (h0 : f ≠ 0) :
    Calls Tryd.prog 39 #[.int .i64 me, .agg #[.int .i64 k.view, .int .i64 k.normal, .bool k.calm, .slice A n c, .int .i64 k.commit]] w fun e w' => NewRet w' Scu.replica0 f e ∧ Below w.heap.size w w' := by
  have HK := Lib.hid hk
  have HF := Lib.hid hf
  have hfb : (f != 0) = true := by simpa using h0
  clear hk hf h0
  go_enter Tryd.func39, Tryd.ntmps39
  go_wp2_with fail
  have hb0 : Below w.heap.size w ((w.alloc (Obj.cells #[.int .i64 k.view, .int .i64 k.normal, .bool k.calm, .slice A n c, .int .i64 k.commit] 64)).alloc (Obj.cells #[.int .i64 0, .int .i64 0, .int .i64 0, .bool false, .slice none 0 0, .int .i64 0, .slice none 0 0, .slice none 0 0, .slice none 0 0, .slice none 0 0] 81)) := (below_alloc w _).alloc (by simp) _
  refine (stageCheck_a _ k _ B (HK.out.below hb0) f HF.out).mono ?_; rintro en w1 ⟨rfl, h1⟩
  have hz : Blk w1 (w.heap.size + 1) 81 #[.int .i64 0, .int .i64 0, .int .i64 0, .bool false, .slice none 0 0, .int .i64 0, .slice none 0 0, .slice none 0 0, .slice none 0 0, .slice none 0 0] := (Blk.new' (by simp)).same h1
  have hb := hb0.trans (h1.mono hb0.size)
  have z0 := hz.cell 0
  have z1 := hz.cell 1
  have z2 := hz.cell 2
  have z3 := hz.cell 3
  have z4 := hz.cell 4
  have z5 := hz.cell 5
  have z6 := hz.cell 6
  have z7 := hz.cell 7
  have z8 := hz.cell 8
  have z9 := hz.cell 9
  simp only [List.getElem?_toArray, List.getElem?_cons_zero, List.getElem?_cons_succ] at z0 z1 z2 z3 z4 z5 z6 z7 z8 z9
  have zz := hz.frozen
  have zl := hz.lt
  have hr := blk_set10 (a0 := .int .i64 0) (a1 := .int .i64 0) (a2 := .int .i64 0) (a3 := .bool false) (a4 := .slice none 0 0) (a5 := .int .i64 0) (a6 := .slice none 0 0) (a7 := .slice none 0 0) (a8 := .slice none 0 0) (a9 := .slice none 0 0) hz
  have r0 := hr.cell 0
  have r1 := hr.cell 1
  have r2 := hr.cell 2
  have r3 := hr.cell 3
  have r4 := hr.cell 4
  have r5 := hr.cell 5
  have r6 := hr.cell 6
  have r7 := hr.cell 7
  have r8 := hr.cell 8
  have r9 := hr.cell 9
  simp only [List.getElem?_toArray, List.getElem?_cons_zero, List.getElem?_cons_succ] at r0 r1 r2 r3 r4 r5 r6 r7 r8 r9
  have rz := hr.frozen
  have rl := hr.lt
  clear h1 hb0
  go_wp2
  refine bodyPost_ret (v := .tuple #[.agg #[.int .i64 0, .int .i64 0, .int .i64 0, .bool false, .slice none 0 0, .int .i64 0, .slice none 0 0, .slice none 0 0, .slice none 0 0, .slice none 0 0], .int .i64 f]) (by simp [results, Tryd.results39, go_sem, r0, r1, r2, r3, r4, r5, r6, r7, r8, r9]) rfl ?_
  exact ⟨new_zero _ _, below_set10 hb (by omega)⟩
structure NewI (me : Int) (k : Scu.Kept) (b : Nat) (L : Array Bool) (x20 x21 x22 x23 x24 x25 x26 x27 kv : Value) (W : World) : Prop where
  f0 : Dn L 0 → x20 = .int .i64 me
  f1 : Dn L 1 → x21 = kv
  f2 : Dn L 2 → ∃ lu, x22 = .agg #[.int .i64 k.view, .int .i64 k.normal, .bool k.calm, lu, .int .i64 k.commit] ∧ IsStrs W 0 lu k.log
  f3 : Dn L 3 → IsOnes 3 8 vInt W 0 x23 [0, 0, 0]
  f4 : Dn L 4 → IsOnes 4 1 Value.bool W 0 x24 [false, false, false]
  f5 : Dn L 5 → IsRow 64 5 56 KeptEl W 0 x25 [Scu.kept0, Scu.kept0, Scu.kept0]
  f6 : Dn L 6 → IsOnes 4 1 Value.bool W 0 x26 [false, false, false]
  f7 : Dn L 7 → ∃ lu hv wv gv nv, x27 = .agg #[.int .i64 me, .int .i64 k.view, .int .i64 k.normal, .bool k.calm, lu, .int .i64 k.commit, hv, wv, gv, nv] ∧ IsRep W 0 lu hv wv gv nv ⟨me, k, [0, 0, 0], [false, false, false], [Scu.kept0, Scu.kept0, Scu.kept0], [false, false, false]⟩
  f8 : Dn L 8 → ∃ lu hv wv gv nv, Blk W b 81 #[.int .i64 me, .int .i64 k.view, .int .i64 k.normal, .bool k.calm, lu, .int .i64 k.commit, hv, wv, gv, nv] ∧ IsRep W 0 lu hv wv gv nv ⟨me, k, [0, 0, 0], [false, false, false], [Scu.kept0, Scu.kept0, Scu.kept0], [false, false, false]⟩
  res : ¬ Dn L 8 → Blk W b 81 #[.int .i64 0, .int .i64 0, .int .i64 0, .bool false, .slice none 0 0, .int .i64 0, .slice none 0 0, .slice none 0 0, .slice none 0 0, .slice none 0 0]
theorem NewI.below {me : Int} {k : Scu.Kept} {b : Nat} {L : Array Bool} {x20 x21 x22 x23 x24 x25 x26 x27 kv : Value} {W W' : World} (h : NewI me k b L x20 x21 x22 x23 x24 x25 x26 x27 kv W) (hb : Below W.heap.size W W') : NewI me k b L x20 x21 x22 x23 x24 x25 x26 x27 kv W' :=
  ⟨h.f0, h.f1, fun d => let ⟨lu, e, g⟩ := h.f2 d; ⟨lu, e, g.below hb⟩, fun d => (h.f3 d).below hb, fun d => (h.f4 d).below hb,
    fun d => (h.f5 d).same (Ts := [9, 64]) (by simp) (Same.below hb) (fun _ _ hk => hk.same (Ts := [9]) (by simp) (Same.below hb)), fun d => (h.f6 d).below hb,
    fun d => let ⟨a1, a2, a3, a4, a5, e, g⟩ := h.f7 d; ⟨a1, a2, a3, a4, a5, e, g.below hb⟩, fun d => let ⟨a1, a2, a3, a4, a5, e, g⟩ := h.f8 d; ⟨a1, a2, a3, a4, a5, e.same hb, g.below hb⟩, fun d => (h.res d).same hb⟩
theorem dn_new {L : Array Bool} {i k : Nat} (h : ¬ Dn (L.setIfInBounds i true) k) : ¬ Dn L k := fun hd => h (by
  unfold Dn at *
  by_cases e : i = k
  · subst e
    rw [Array.getD_eq_getD_getElem?] at hd ⊢
    rcases Nat.lt_or_ge i L.size with hl | hl
    · simp [hl]
    · rw [Array.getElem?_eq_none hl] at hd; cases hd
  · rw [Array.getD_eq_getD_getElem?, Array.getElem?_setIfInBounds_ne e, ← Array.getD_eq_getD_getElem?]
    exact hd)
theorem dn_of {L : Array Bool} {j : Nat} (h : L[j]?.getD false = true) : Dn L j := by
  unfold Dn
  rw [Array.getD_eq_getD_getElem?]
  exact h
theorem dn_self {L : Array Bool} {i : Nat} (h : i < L.size) : Dn (L.setIfInBounds i true) i := by
  unfold Dn
  rw [Array.getD_eq_getD_getElem?]
  simp [h]
theorem dn_not {L : Array Bool} {i : Nat} (h : L.getD i true = false) : ¬ Dn L i := fun hd => by
  unfold Dn at hd
  rw [Array.getD_eq_getD_getElem?] at h hd
  cases e : L[i]? with
  | none => rw [e] at hd; cases hd
  | some b => rw [e] at h hd; simp at h hd; rw [h] at hd; cases hd
theorem blk_same {W W' : World} {g : Nat} {t : TypeId} {cs : Array Value} {Ts : List TypeId} (h : Blk W g t cs) (hs : Same Ts 0 W W') (ht : t ∈ Ts) : Blk W' g t cs := (hs.keep g h.lt (.inr ⟨_, _, _, ht, h⟩)).trans h
theorem NewI.store {me : Int} {k : Scu.Kept} {b : Nat} {L : Array Bool} {x20 x21 x22 x23 x24 x25 x26 x27 kv lu hv wv gv nv : Value} {w : World} (h : NewI me k b L x20 x21 x22 x23 x24 x25 x26 x27 kv w) (hl : 8 < L.size) (hz : Blk w b 81 #[.int .i64 0, .int .i64 0, .int .i64 0, .bool false, .slice none 0 0, .int .i64 0, .slice none 0 0, .slice none 0 0, .slice none 0 0, .slice none 0 0])
    (hr : IsRep w 0 lu hv wv gv nv ⟨me, k, [0, 0, 0], [false, false, false], [Scu.kept0, Scu.kept0, Scu.kept0], [false, false, false]⟩) :
    NewI me k b (L.setIfInBounds 8 true) x20 x21 x22 x23 x24 x25 x26 x27 kv ((((((((((w.setCell ⟨b, 0, none⟩ (.int .i64 me)).setCell ⟨b, 1, none⟩ (.int .i64 k.view)).setCell ⟨b, 2, none⟩ (.int .i64 k.normal)).setCell ⟨b, 3, none⟩ (.bool k.calm)).setCell ⟨b, 4, none⟩ lu).setCell ⟨b, 5, none⟩ (.int .i64 k.commit)).setCell ⟨b, 6, none⟩ hv).setCell ⟨b, 7, none⟩ wv).setCell ⟨b, 8, none⟩ gv).setCell ⟨b, 9, none⟩ nv) := by
  have hs := Same.sets10 (Ts := [9, 3, 4, 64]) (B := 0) (a0 := .int .i64 me) (a1 := .int .i64 k.view) (a2 := .int .i64 k.normal) (a3 := .bool k.calm) (a4 := lu) (a5 := .int .i64 k.commit) (a6 := hv) (a7 := wv) (a8 := gv) (a9 := nv) hz (Nat.zero_le _) (by decide)
  exact ⟨fun d => h.f0 (dn_old d (by decide)), fun d => h.f1 (dn_old d (by decide)), fun d => let ⟨l, e, g⟩ := h.f2 (dn_old d (by decide)); ⟨l, e, g.same (by simp) hs⟩, fun d => (h.f3 (dn_old d (by decide))).same (by simp) hs, fun d => (h.f4 (dn_old d (by decide))).same (by simp) hs,
    fun d => (h.f5 (dn_old d (by decide))).same (by simp) hs (fun _ _ hk => hk.same (by simp) hs), fun d => (h.f6 (dn_old d (by decide))).same (by simp) hs, fun d => let ⟨a1, a2, a3, a4, a5, e, g⟩ := h.f7 (dn_old d (by decide)); ⟨a1, a2, a3, a4, a5, e, g.same hs⟩,
    fun _ => ⟨_, _, _, _, _, blk_set10 hz, hr.same hs⟩, fun d => (d (dn_self hl)).elim⟩
theorem made_ints (w : World) : (Instr.makeSlice 77 (.int .i64 3) (.int .i64 3)).run Tryd.prog w = .ok (.slice (some ⟨w.heap.size, 0, none⟩) 3 3) (w.alloc (.cells #[.int .i64 0, .int .i64 0, .int .i64 0] 3)) := by kernel_rfl
theorem made_bools (w : World) : (Instr.makeSlice 78 (.int .i64 3) (.int .i64 3)).run Tryd.prog w = .ok (.slice (some ⟨w.heap.size, 0, none⟩) 3 3) (w.alloc (.cells #[.bool false, .bool false, .bool false] 4)) := by kernel_rfl
theorem made_kepts (w : World) : (Instr.makeSlice 79 (.int .i64 3) (.int .i64 3)).run Tryd.prog w = .ok (.slice (some ⟨w.heap.size, 0, none⟩) 3 3) (w.alloc (.cells #[.int .i64 0, .int .i64 0, .bool false, .slice none 0 0, .int .i64 0, .int .i64 0, .int .i64 0, .bool false, .slice none 0 0, .int .i64 0, .int .i64 0, .int .i64 0, .bool false, .slice none 0 0, .int .i64 0] 64)) := by kernel_rfl
theorem ones_blk {α : Type} {t : TypeId} {bytes : Nat} {f : α → Value} {w : World} {g : Nat} {xs : List α} (h : Blk w g t (xs.map f).toArray) (h1 : xs.length * bytes ≤ R47) : IsOnes t bytes f w 0 (.slice (some ⟨g, 0, none⟩) xs.length xs.length) xs :=
  ⟨⟨_, _, rfl, Nat.le_refl _, .inr ⟨g, 0, rfl, h.lt, .inr ⟨_, _, h⟩, fun j u hj => by
    rw [h.cell]
    simpa using hj⟩⟩, h1⟩
theorem kepts_blk {w : World} {g : Nat} (h : Blk w g 64 #[.int .i64 0, .int .i64 0, .bool false, .slice none 0 0, .int .i64 0, .int .i64 0, .int .i64 0, .bool false, .slice none 0 0, .int .i64 0, .int .i64 0, .int .i64 0, .bool false, .slice none 0 0, .int .i64 0]) :
    IsRow 64 5 56 KeptEl w 0 (.slice (some ⟨g, 0, none⟩) 3 3) [Scu.kept0, Scu.kept0, Scu.kept0] :=
  ⟨⟨some ⟨g, 0, none⟩, 3, [keptV Scu.kept0 (.slice none 0 0), keptV Scu.kept0 (.slice none 0 0), keptV Scu.kept0 (.slice none 0 0)], rfl, Nat.le_refl _, rfl, (fun cs hc => by
      simp only [List.mem_cons, List.not_mem_nil, or_false] at hc
      rcases hc with rfl | rfl | rfl <;> rfl), .inr ⟨g, 0, rfl, h.lt, .inr ⟨_, _, h⟩, fun j u hj => by
    rw [h.cell]
    simpa [keptV, Scu.kept0] using hj⟩, fun j cs x hc hx => by
      rcases j with _ | _ | _ | j <;> simp only [List.getElem?_cons_zero, List.getElem?_cons_succ, List.getElem?_nil, Option.some.injEq, reduceCtorEq] at hc hx <;> (subst hc; subst hx; exact ⟨_, rfl, IsStrs.nil_⟩)⟩, by simp [R47]⟩
theorem repNew_3 (A : Option Addr) (n c : Nat) (me : Int) (k : Scu.Kept) (w : World) (B : Nat) (hk : IsStrs w B (.slice A n c) k.log) (hm0 : 0 ≤ me) (hm : me < 3) (hf : Scu.keptFault k = 0) :
    Calls Tryd.prog 39 #[.int .i64 me, .agg #[.int .i64 k.view, .int .i64 k.normal, .bool k.calm, .slice A n c, .int .i64 k.commit]] w fun e w' => NewRet w' ⟨me, k, [0, 0, 0], [false, false, false], [Scu.kept0, Scu.kept0, Scu.kept0], [false, false, false]⟩ 0 e ∧ Below w.heap.size w w' := by
  have HK := Lib.hid hk
  have HF := Lib.hid hf
  clear hk hf
  go_enter Tryd.func39, Tryd.ntmps39
  go_wp2_with fail
  have hb0 : Below w.heap.size w ((w.alloc (Obj.cells #[.int .i64 k.view, .int .i64 k.normal, .bool k.calm, .slice A n c, .int .i64 k.commit] 64)).alloc (Obj.cells #[.int .i64 0, .int .i64 0, .int .i64 0, .bool false, .slice none 0 0, .int .i64 0, .slice none 0 0, .slice none 0 0, .slice none 0 0, .slice none 0 0] 81)) := (below_alloc w _).alloc (by simp) _
  refine (stageCheck_a _ k _ B (HK.out.below hb0) 0 HF.out).mono ?_; rintro en w1 ⟨rfl, h1⟩
  have hz : Blk w1 (w.heap.size + 1) 81 #[.int .i64 0, .int .i64 0, .int .i64 0, .bool false, .slice none 0 0, .int .i64 0, .slice none 0 0, .slice none 0 0, .slice none 0 0, .slice none 0 0] := (Blk.new' (by simp)).same h1
  have hs : Blk w1 w.heap.size 64 #[.int .i64 k.view, .int .i64 k.normal, .bool k.calm, .slice A n c, .int .i64 k.commit] := ((Blk.new w _ _).alloc _).same h1
  have hb := hb0.trans (h1.mono hb0.size)
  go_upto_region 6 with fail
  have hmi := made_ints
  have hmb := made_bools
  have hmk := made_kepts
  refine wp_region_inv (by kernel_rfl) (fun L a W => L.size = 10 ∧ ∃ x20 x21 x22 x23 x24 x25 x26 x27, a = ⟨#[.int .i64 me, .agg #[.int .i64 k.view, .int .i64 k.normal, .bool k.calm, .slice A n c, .int .i64 k.commit], undef, .pointer (some ⟨w.heap.size, 0, none⟩), .pointer (some ⟨w.heap.size + 1, 0, none⟩), .int .i64 0, .int .i64 0, .int .i64 me, .bool (decide (me < 0)), .bool (decide (me < 0)), .int .i64 me, .bool (decide (3 ≤ me)), .bool (decide (me < 0) || decide (3 ≤ me)), undef, .agg #[.int .i64 k.view, .int .i64 k.normal, .bool k.calm, .slice A n c, .int .i64 k.commit], .int .i64 0, .int .i64 0, .bool false, undef, undef, x20, x21, x22, x23, x24, x25, x26, x27], []⟩ ∧ Hid (Blk W w.heap.size 64 #[.int .i64 k.view, .int .i64 k.normal, .bool k.calm, .slice A n c, .int .i64 k.commit] ∧ Below w.heap.size w W ∧ NewI me k (w.heap.size + 1) L x20 x21 x22 x23 x24 x25 x26 x27 (.agg #[.int .i64 k.view, .int .i64 k.normal, .bool k.calm, .slice A n c, .int .i64 k.commit]) W)) ?_ ?_ ?_
  · exact ⟨by simp, undef, undef, undef, undef, undef, undef, undef, undef, rfl, Lib.hid ⟨hs.drew, hb.drew, ⟨fun h => (not_dn0 h).elim, fun h => (not_dn0 h).elim, fun h => (not_dn0 h).elim, fun h => (not_dn0 h).elim, fun h => (not_dn0 h).elim, fun h => (not_dn0 h).elim, fun h => (not_dn0 h).elim, fun h => (not_dn0 h).elim, fun h => (not_dn0 h).elim, fun _ => hz.drew⟩⟩⟩
  · intro L a W i hI hi
    obtain ⟨hl, x20, x21, x22, x23, x24, x25, x26, x27, rfl, hX⟩ := hI
    obtain ⟨hsW, hwW, hN⟩ := hX.out
    obtain ⟨hi1, hi2, hi3⟩ := mem_ready hi
    have hcase : i = 0 ∨ i = 1 ∨ i = 2 ∨ i = 3 ∨ i = 4 ∨ i = 5 ∨ i = 6 ∨ i = 7 ∨ i = 8 ∨ i = 9 := by simp at hi1; omega
    have q0 := hsW.cell 0
    have q1 := hsW.cell 1
    have q2 := hsW.cell 2
    have q3 := hsW.cell 3
    have q4 := hsW.cell 4
    simp only [List.getElem?_toArray, List.getElem?_cons_zero, List.getElem?_cons_succ] at q0 q1 q2 q3 q4
    have HX := Lib.hid (And.intro hsW (And.intro hwW hN))
    clear hi hi1 hX hsW hwW hN hz hs hb hb0 h1
    rcases hcase with rfl | rfl | rfl | rfl | rfl | rfl | rfl | rfl | rfl | rfl
    · clear hi3
      refine wpOp_go rfl rfl ?_
      go_simp
      obtain ⟨hsW, hwW, hN⟩ := HX.out
      exact ⟨_, _, _, _, _, _, _, _, ⟨rfl, rfl, rfl, rfl, rfl, rfl, rfl, rfl⟩, Lib.hid ⟨hsW, hwW, ⟨fun _ => rfl, fun d => hN.f1 (dn_old d (by decide)), fun d => hN.f2 (dn_old d (by decide)), fun d => hN.f3 (dn_old d (by decide)), fun d => hN.f4 (dn_old d (by decide)), fun d => hN.f5 (dn_old d (by decide)), fun d => hN.f6 (dn_old d (by decide)), fun d => hN.f7 (dn_old d (by decide)), fun d => hN.f8 (dn_old d (by decide)), fun d => hN.res (dn_new d)⟩⟩⟩
    · clear hi3
      refine wpOp_go rfl rfl ?_
      go_simp
      obtain ⟨hsW, hwW, hN⟩ := HX.out
      exact ⟨_, _, _, _, _, _, _, _, ⟨rfl, rfl, rfl, rfl, rfl, rfl, rfl, rfl⟩, Lib.hid ⟨hsW, hwW, ⟨fun d => hN.f0 (dn_old d (by decide)), fun _ => rfl, fun d => hN.f2 (dn_old d (by decide)), fun d => hN.f3 (dn_old d (by decide)), fun d => hN.f4 (dn_old d (by decide)), fun d => hN.f5 (dn_old d (by decide)), fun d => hN.f6 (dn_old d (by decide)), fun d => hN.f7 (dn_old d (by decide)), fun d => hN.f8 (dn_old d (by decide)), fun d => hN.res (dn_new d)⟩⟩⟩
    · simp [Region.binds] at hi3
      have g1 := HX.out.2.2.f1 (dn_of hi3)
      subst g1
      refine wpOp_go rfl rfl ?_
      go_simp
      refine (stageCopy_c _ k W B (HK.out.below HX.out.2.1)).mono ?_; rintro en W2 ⟨⟨lu, rfl, hu⟩, h2⟩
      obtain ⟨hsW, hwW, hN0⟩ := HX.out
      have hN := hN0.below h2
      exact ⟨_, _, _, _, _, _, _, _, ⟨rfl, rfl, rfl, rfl, rfl, rfl, rfl, rfl⟩, Lib.hid ⟨hsW.same h2, hwW.trans (h2.mono hwW.size), ⟨fun d => hN.f0 (dn_old d (by decide)), fun d => hN.f1 (dn_old d (by decide)), fun _ => ⟨_, rfl, hu.is⟩, fun d => hN.f3 (dn_old d (by decide)), fun d => hN.f4 (dn_old d (by decide)), fun d => hN.f5 (dn_old d (by decide)), fun d => hN.f6 (dn_old d (by decide)), fun d => hN.f7 (dn_old d (by decide)), fun d => hN.f8 (dn_old d (by decide)), fun d => hN.res (dn_new d)⟩⟩⟩
    · clear hi3
      refine wpOp_go rfl rfl ?_
      go_simp
      obtain ⟨hsW, hwW, hN0⟩ := HX.out
      have hN := hN0.below (below_alloc W (Obj.cells #[.int .i64 0, .int .i64 0, .int .i64 0] 3))
      have hn : Blk (W.alloc (Obj.cells #[.int .i64 0, .int .i64 0, .int .i64 0] 3)) W.heap.size 3 #[.int .i64 0, .int .i64 0, .int .i64 0] := Blk.new _ _ _
      exact ⟨_, _, _, _, _, _, _, _, ⟨rfl, rfl, rfl, rfl, rfl, rfl, rfl, rfl⟩, Lib.hid ⟨hsW.alloc _, hwW.alloc hwW.size _, ⟨fun d => hN.f0 (dn_old d (by decide)), fun d => hN.f1 (dn_old d (by decide)), fun d => hN.f2 (dn_old d (by decide)), fun _ => ones_blk (xs := [0, 0, 0]) hn (by simp [R47]), fun d => hN.f4 (dn_old d (by decide)), fun d => hN.f5 (dn_old d (by decide)), fun d => hN.f6 (dn_old d (by decide)), fun d => hN.f7 (dn_old d (by decide)), fun d => hN.f8 (dn_old d (by decide)), fun d => hN.res (dn_new d)⟩⟩⟩
    · clear hi3
      refine wpOp_go rfl rfl ?_
      go_simp
      obtain ⟨hsW, hwW, hN0⟩ := HX.out
      have hN := hN0.below (below_alloc W (Obj.cells #[.bool false, .bool false, .bool false] 4))
      have hn : Blk (W.alloc (Obj.cells #[.bool false, .bool false, .bool false] 4)) W.heap.size 4 #[.bool false, .bool false, .bool false] := Blk.new _ _ _
      exact ⟨_, _, _, _, _, _, _, _, ⟨rfl, rfl, rfl, rfl, rfl, rfl, rfl, rfl⟩, Lib.hid ⟨hsW.alloc _, hwW.alloc hwW.size _, ⟨fun d => hN.f0 (dn_old d (by decide)), fun d => hN.f1 (dn_old d (by decide)), fun d => hN.f2 (dn_old d (by decide)), fun d => hN.f3 (dn_old d (by decide)), fun _ => ones_blk (xs := [false, false, false]) hn (by simp [R47]), fun d => hN.f5 (dn_old d (by decide)), fun d => hN.f6 (dn_old d (by decide)), fun d => hN.f7 (dn_old d (by decide)), fun d => hN.f8 (dn_old d (by decide)), fun d => hN.res (dn_new d)⟩⟩⟩
    · clear hi3
      refine wpOp_go rfl rfl ?_
      go_simp
      obtain ⟨hsW, hwW, hN0⟩ := HX.out
      have hN := hN0.below (below_alloc W (Obj.cells #[.int .i64 0, .int .i64 0, .bool false, .slice none 0 0, .int .i64 0, .int .i64 0, .int .i64 0, .bool false, .slice none 0 0, .int .i64 0, .int .i64 0, .int .i64 0, .bool false, .slice none 0 0, .int .i64 0] 64))
      have hn : Blk (W.alloc (Obj.cells #[.int .i64 0, .int .i64 0, .bool false, .slice none 0 0, .int .i64 0, .int .i64 0, .int .i64 0, .bool false, .slice none 0 0, .int .i64 0, .int .i64 0, .int .i64 0, .bool false, .slice none 0 0, .int .i64 0] 64)) W.heap.size 64 #[.int .i64 0, .int .i64 0, .bool false, .slice none 0 0, .int .i64 0, .int .i64 0, .int .i64 0, .bool false, .slice none 0 0, .int .i64 0, .int .i64 0, .int .i64 0, .bool false, .slice none 0 0, .int .i64 0] := Blk.new _ _ _
      exact ⟨_, _, _, _, _, _, _, _, ⟨rfl, rfl, rfl, rfl, rfl, rfl, rfl, rfl⟩, Lib.hid ⟨hsW.alloc _, hwW.alloc hwW.size _, ⟨fun d => hN.f0 (dn_old d (by decide)), fun d => hN.f1 (dn_old d (by decide)), fun d => hN.f2 (dn_old d (by decide)), fun d => hN.f3 (dn_old d (by decide)), fun d => hN.f4 (dn_old d (by decide)), fun _ => kepts_blk hn, fun d => hN.f6 (dn_old d (by decide)), fun d => hN.f7 (dn_old d (by decide)), fun d => hN.f8 (dn_old d (by decide)), fun d => hN.res (dn_new d)⟩⟩⟩
    · clear hi3
      refine wpOp_go rfl rfl ?_
      go_simp
      obtain ⟨hsW, hwW, hN0⟩ := HX.out
      have hN := hN0.below (below_alloc W (Obj.cells #[.bool false, .bool false, .bool false] 4))
      have hn : Blk (W.alloc (Obj.cells #[.bool false, .bool false, .bool false] 4)) W.heap.size 4 #[.bool false, .bool false, .bool false] := Blk.new _ _ _
      exact ⟨_, _, _, _, _, _, _, _, ⟨rfl, rfl, rfl, rfl, rfl, rfl, rfl, rfl⟩, Lib.hid ⟨hsW.alloc _, hwW.alloc hwW.size _, ⟨fun d => hN.f0 (dn_old d (by decide)), fun d => hN.f1 (dn_old d (by decide)), fun d => hN.f2 (dn_old d (by decide)), fun d => hN.f3 (dn_old d (by decide)), fun d => hN.f4 (dn_old d (by decide)), fun d => hN.f5 (dn_old d (by decide)), fun _ => ones_blk (xs := [false, false, false]) hn (by simp [R47]), fun d => hN.f7 (dn_old d (by decide)), fun d => hN.f8 (dn_old d (by decide)), fun d => hN.res (dn_new d)⟩⟩⟩
    · simp [Region.binds] at hi3
      obtain ⟨d0, d2, d3, d4, d5, d6⟩ := hi3
      have g0 := HX.out.2.2.f0 (dn_of d0)
      obtain ⟨lu, g2, gu⟩ := HX.out.2.2.f2 (dn_of d2)
      have g3 := HX.out.2.2.f3 (dn_of d3)
      have g4 := HX.out.2.2.f4 (dn_of d4)
      have g5 := HX.out.2.2.f5 (dn_of d5)
      have g6 := HX.out.2.2.f6 (dn_of d6)
      obtain ⟨A0, n0, c0, rfl⟩ := gu.form
      obtain ⟨A1, n1, c1, rfl⟩ := g3.form
      obtain ⟨A2, n2, c2, rfl⟩ := g4.form
      obtain ⟨A3, n3, c3, rfl⟩ := g5.form
      obtain ⟨A4, n4, c4, rfl⟩ := g6.form
      subst g0
      subst g2
      have HR := Lib.hid (show IsRep W 0 (.slice A0 n0 c0) (.slice A1 n1 c1) (.slice A2 n2 c2) (.slice A3 n3 c3) (.slice A4 n4 c4) ⟨me, k, [0, 0, 0], [false, false, false], [Scu.kept0, Scu.kept0, Scu.kept0], [false, false, false]⟩ from ⟨gu, g3, g4, g5, g6⟩)
      clear gu g3 g4 g5 g6 d0 d2 d3 d4 d5 d6
      refine wpOp_go rfl rfl ?_
      go_simp
      obtain ⟨hsW, hwW, hN⟩ := HX.out
      exact ⟨_, _, _, _, _, _, _, _, ⟨rfl, rfl, rfl, rfl, rfl, rfl, rfl, rfl⟩, Lib.hid ⟨hsW, hwW, ⟨fun d => hN.f0 (dn_old d (by decide)), fun d => hN.f1 (dn_old d (by decide)), fun d => hN.f2 (dn_old d (by decide)), fun d => hN.f3 (dn_old d (by decide)), fun d => hN.f4 (dn_old d (by decide)), fun d => hN.f5 (dn_old d (by decide)), fun d => hN.f6 (dn_old d (by decide)), fun _ => ⟨_, _, _, _, _, rfl, HR.out⟩, fun d => hN.f8 (dn_old d (by decide)), fun d => hN.res (dn_new d)⟩⟩⟩
    · have d8 := dn_not hi2
      simp [Region.binds] at hi3
      obtain ⟨d7, _⟩ := hi3
      obtain ⟨lu, hv, wv, gv, nv, g7, gr⟩ := HX.out.2.2.f7 (dn_of d7)
      obtain ⟨A0, n0, c0, A1, c1, A2, c2, A3, c3, A4, c4, rfl, rfl, rfl, rfl, rfl⟩ := gr.forms
      subst g7
      have hres := HX.out.2.2.res d8
      have z0 := hres.cell 0
      have z1 := hres.cell 1
      have z2 := hres.cell 2
      have z3 := hres.cell 3
      have z4 := hres.cell 4
      have z5 := hres.cell 5
      have z6 := hres.cell 6
      have z7 := hres.cell 7
      have z8 := hres.cell 8
      have z9 := hres.cell 9
      simp only [List.getElem?_toArray, List.getElem?_cons_zero, List.getElem?_cons_succ] at z0 z1 z2 z3 z4 z5 z6 z7 z8 z9
      have zz := hres.frozen
      have zl := hres.lt
      have HR := Lib.hid gr
      have HS := Lib.hid hres
      clear gr hres d7
      refine wpOp_go rfl rfl ?_
      go_simp
      obtain ⟨hsW, hwW, hN⟩ := HX.out
      have hsm := Same.sets10 (Ts := [64]) (B := 0) (a0 := .int .i64 me) (a1 := .int .i64 k.view) (a2 := .int .i64 k.normal) (a3 := .bool k.calm) (a4 := .slice A0 n0 c0) (a5 := .int .i64 k.commit) (a6 := .slice A1 3 c1) (a7 := .slice A2 3 c2) (a8 := .slice A3 3 c3) (a9 := .slice A4 3 c4) HS.out (Nat.zero_le _) (by decide)
      exact ⟨_, _, _, _, _, _, _, _, ⟨rfl, rfl, rfl, rfl, rfl, rfl, rfl, rfl⟩, Lib.hid ⟨blk_same hsW hsm (by simp), below_set10 hwW (Nat.le_succ _), hN.store (by omega) HS.out HR.out⟩⟩
    · clear hi3
      refine wpOp_go rfl rfl ?_
      go_simp
      obtain ⟨hsW, hwW, hN⟩ := HX.out
      exact ⟨_, _, _, _, _, _, _, _, ⟨rfl, rfl, rfl, rfl, rfl, rfl, rfl, rfl⟩, Lib.hid ⟨hsW, hwW, ⟨fun d => hN.f0 (dn_old d (by decide)), fun d => hN.f1 (dn_old d (by decide)), fun d => hN.f2 (dn_old d (by decide)), fun d => hN.f3 (dn_old d (by decide)), fun d => hN.f4 (dn_old d (by decide)), fun d => hN.f5 (dn_old d (by decide)), fun d => hN.f6 (dn_old d (by decide)), fun d => hN.f7 (dn_old d (by decide)), fun d => hN.f8 (dn_old d (by decide)), fun d => hN.res (dn_new d)⟩⟩⟩
  · intro L a W hI hr
    obtain ⟨hl, x20, x21, x22, x23, x24, x25, x26, x27, rfl, hX⟩ := hI
    obtain ⟨hsW, hwW, hN⟩ := hX.out
    have hd := all_done (by kernel_rfl) hl hr 8 (by simp)
    obtain ⟨lu, hv, wv, gv, nv, hB, hR⟩ := hN.f8 hd
    have r0 := hB.cell 0
    have r1 := hB.cell 1
    have r2 := hB.cell 2
    have r3 := hB.cell 3
    have r4 := hB.cell 4
    have r5 := hB.cell 5
    have r6 := hB.cell 6
    have r7 := hB.cell 7
    have r8 := hB.cell 8
    have r9 := hB.cell 9
    simp only [List.getElem?_toArray, List.getElem?_cons_zero, List.getElem?_cons_succ] at r0 r1 r2 r3 r4 r5 r6 r7 r8 r9
    have rz := hB.frozen
    have rl := hB.lt
    clear hX hsW hN hr hl hd
    rename_i hK
    refine hK _ _ (Go.wp_ret ?_)
    refine bodyPost_ret (v := .tuple #[.agg #[.int .i64 me, .int .i64 k.view, .int .i64 k.normal, .bool k.calm, lu, .int .i64 k.commit, hv, wv, gv, nv], .int .i64 0]) (by simp [results, Tryd.results39, go_sem, r0, r1, r2, r3, r4, r5, r6, r7, r8, r9]) rfl ?_
    exact ⟨⟨_, _, _, _, _, rfl, hR⟩, hwW⟩
theorem repNew_c (lv : Value) (me : Int) (k : Scu.Kept) (w : World) (B : Nat) (hk : IsStrs w B lv k.log) :
    Calls Tryd.prog 39 #[.int .i64 me, .agg #[.int .i64 k.view, .int .i64 k.normal, .bool k.calm, lv, .int .i64 k.commit]] w fun e w' => NewRet w' (Scu.repNew me k).1 (Scu.repNew me k).2 e ∧ Below w.heap.size w w' := by
  obtain ⟨A, n, c, rfl⟩ := hk.form
  by_cases hm : me < 0 ∨ 3 ≤ me
  · rw [nw1 hm]
    exact repNew_1 A n c me k w hm
  by_cases hf : Scu.keptFault k ≠ 0
  · rw [nw2 hm hf]
    exact repNew_2 A n c me k w B hk (by omega) (by omega) _ rfl hf
  · rw [nw3 hm hf]
    exact repNew_3 A n c me k w B hk (by omega) (by omega) (Decidable.not_not.1 hf)
end Go.Proofs.YtfpiembhlgcelaaDoor
/- Walks: net.crash: a replica begins anew with what it keeps. -/
namespace Go.Proofs.YtfpiembhlgcelaaDoor
set_option linter.unusedVariables false
set_option linter.unusedSimpArgs false
open Go.RowKit
set_option maxHeartbeats 4000000
set_option maxRecDepth 100000

theorem stageLoad_n (v : Value) (l : List Scu.Str) (w : World) (B : Nat) (hv : IsStrs w B v l) (k : Scu.Kept) (g a e : Int) (h : Scu.load l = (k, g, a, e)) :
    Calls Tryd.prog 38 #[v] w fun en w' => (∃ Al nl cl, en = .returned (.tuple #[.agg #[.int .i64 k.view, .int .i64 k.normal, .bool k.calm, .slice Al nl cl, .int .i64 k.commit], .int .i64 g, .int .i64 a, .int .i64 e]) ∧ IsStrs w' 0 (.slice Al nl cl) k.log) ∧ Below w.heap.size w w' := by
  have := stageLoad_c v l w B hv
  rw [h] at this
  refine this.mono ?_
  rintro en w' ⟨⟨lv, rfl, ho⟩, hb⟩
  obtain ⟨A, n, c, e'⟩ := ho.is.form
  dsimp only at e' ho ⊢
  subst e'
  exact ⟨⟨_, _, _, rfl, ho.is⟩, hb⟩
theorem repNew_n (A : Option Addr) (n c : Nat) (me : Int) (k : Scu.Kept) (w : World) (B : Nat) (hk : IsStrs w B (.slice A n c) k.log) (rr : Scu.Replica) (f : Int) (h : Scu.repNew me k = (rr, f)) :
    Calls Tryd.prog 39 #[.int .i64 me, .agg #[.int .i64 k.view, .int .i64 k.normal, .bool k.calm, .slice A n c, .int .i64 k.commit]] w fun e w' => (∃ lu hv wv gv nv, e = .returned (.tuple #[.agg #[.int .i64 rr.me, .int .i64 rr.kept.view, .int .i64 rr.kept.normal, .bool rr.kept.calm, lu, .int .i64 rr.kept.commit, hv, wv, gv, nv], .int .i64 f]) ∧ IsRep w' 0 lu hv wv gv nv rr) ∧ Below w.heap.size w w' := by
  have := repNew_c (.slice A n c) me k w B hk
  rw [h] at this
  exact this
theorem rep_one {r : Scu.Replica} {w : World} {B : Nat} {lu hv wv gv nv : Value} (h : IsRep w B lu hv wv gv nv r) : ∀ v ∈ repV r lu hv wv gv nv, v.oneCell' = true := by
  obtain ⟨A0, n0, c0, A1, c1, A2, c2, A3, c3, A4, c4, rfl, rfl, rfl, rfl, rfl⟩ := h.forms
  intro v hv
  simp only [repV, List.mem_cons, List.not_mem_nil, or_false] at hv
  rcases hv with rfl | rfl | rfl | rfl | rfl | rfl | rfl | rfl | rfl | rfl <;> rfl
/-- A replica is stored into its row. -/
theorem run_store_rep {r : Scu.Replica} {w W : World} {B g o : Nat} {lu hv wv gv nv : Value} (h : IsRep w B lu hv wv gv nv r) (ht : W.there g o 10) :
    (Instr.storeAt 81 (.pointer (some ⟨g, o, none⟩)) (.agg (repV r lu hv wv gv nv).toArray)).run Tryd.prog W = .ok () (W.setCells g o (repV r lu hv wv gv nv)) := by
  have := run_storeAt_mid (P := Tryd.prog) W g o 81 (repV r lu hv wv gv nv).toArray ht (by kernel_rfl) (all_oneCell_toArray (rep_one h))
  exact this
theorem cell_far1 {w : World} {g i : Nat} {q : Addr} (h : q.block ≠ g) {u : Value} : (w.setCell ⟨g, i, none⟩ u).cell? q = w.cell? q := World.cell?_of_block (Below.heap_setCell w ⟨g, i, none⟩ u q.block h)
theorem cell_farA {w : World} {g : Nat} {q : Addr} (h : q.block ≠ g) {o0 o1 o2 o3 o4 o5 o6 o7 o8 o9 : Nat} {x0 x1 x2 x3 x4 x5 x6 x7 x8 x9 : Value} : ((((((((((w.setCell ⟨g, o0, none⟩ x0).setCell ⟨g, o1, none⟩ x1).setCell ⟨g, o2, none⟩ x2).setCell ⟨g, o3, none⟩ x3).setCell ⟨g, o4, none⟩ x4).setCell ⟨g, o5, none⟩ x5).setCell ⟨g, o6, none⟩ x6).setCell ⟨g, o7, none⟩ x7).setCell ⟨g, o8, none⟩ x8).setCell ⟨g, o9, none⟩ x9).cell? q = w.cell? q := by
  rw [cell_far1 h, cell_far1 h, cell_far1 h, cell_far1 h, cell_far1 h, cell_far1 h, cell_far1 h, cell_far1 h, cell_far1 h, cell_far1 h]
/-- The ten cells of one of a row are there. -/
theorem there_ten {W : World} {g o : Nat} (h : W.there g o 10) : ∃ u0 u1 u2 u3 u4 u5 u6 u7 u8 u9, (W.cell? ⟨g, o, none⟩ = some u0 ∧ W.cell? ⟨g, o + 1, none⟩ = some u1 ∧ W.cell? ⟨g, o + 2, none⟩ = some u2 ∧ W.cell? ⟨g, o + 3, none⟩ = some u3 ∧ W.cell? ⟨g, o + 4, none⟩ = some u4 ∧ W.cell? ⟨g, o + 5, none⟩ = some u5 ∧ W.cell? ⟨g, o + 6, none⟩ = some u6 ∧ W.cell? ⟨g, o + 7, none⟩ = some u7 ∧ W.cell? ⟨g, o + 8, none⟩ = some u8 ∧ W.cell? ⟨g, o + 9, none⟩ = some u9) ∧ (W.frozen? ⟨g, o, none⟩ = false ∧ W.frozen? ⟨g, o + 1, none⟩ = false ∧ W.frozen? ⟨g, o + 2, none⟩ = false ∧ W.frozen? ⟨g, o + 3, none⟩ = false ∧ W.frozen? ⟨g, o + 4, none⟩ = false ∧ W.frozen? ⟨g, o + 5, none⟩ = false ∧ W.frozen? ⟨g, o + 6, none⟩ = false ∧ W.frozen? ⟨g, o + 7, none⟩ = false ∧ W.frozen? ⟨g, o + 8, none⟩ = false ∧ W.frozen? ⟨g, o + 9, none⟩ = false) := by
  have hs := fun j hj => Option.isSome_iff_exists.1 (h j hj).1
  obtain ⟨u0, h0⟩ := hs 0 (by decide)
  obtain ⟨u1, h1⟩ := hs 1 (by decide)
  obtain ⟨u2, h2⟩ := hs 2 (by decide)
  obtain ⟨u3, h3⟩ := hs 3 (by decide)
  obtain ⟨u4, h4⟩ := hs 4 (by decide)
  obtain ⟨u5, h5⟩ := hs 5 (by decide)
  obtain ⟨u6, h6⟩ := hs 6 (by decide)
  obtain ⟨u7, h7⟩ := hs 7 (by decide)
  obtain ⟨u8, h8⟩ := hs 8 (by decide)
  obtain ⟨u9, h9⟩ := hs 9 (by decide)
  exact ⟨u0, u1, u2, u3, u4, u5, u6, u7, u8, u9, ⟨h0, h1, h2, h3, h4, h5, h6, h7, h8, h9⟩, (h 0 (by decide)).2, (h 1 (by decide)).2, (h 2 (by decide)).2, (h 3 (by decide)).2, (h 4 (by decide)).2, (h 5 (by decide)).2, (h 6 (by decide)).2, (h 7 (by decide)).2, (h 8 (by decide)).2, (h 9 (by decide)).2⟩
theorem netCrash_c (r : Nat) (w : World) (base gx : Nat) (x : Scu.Net) (rv sv fv cv tv : Value) (hN : NetW w base gx x rv sv fv cv tv) (hb : base ≤ w.heap.size) (hr : r < x.replicas.length) (hs : r < x.slots.length) (hr3 : x.replicas.length = 3) (y : Scu.Net) (f : Int) (hy : Scu.crash x r = (y, f)) :
    Calls Tryd.prog 107 #[.pointer (some ⟨gx, 0, none⟩), .int .i64 r] w fun e w' => e = .returned (.int .i64 f) ∧ NetE w' base gx y ∧ Fr base w w' := by
  obtain ⟨B0, e0, B1, e1, B2, e2, B3, e3, B4, e4, rfl, rfl, rfl, rfl, rfl⟩ := hN.forms
  obtain ⟨gs, cs, u, es, hbs, hgs, hu, hcu, -, -⟩ := hN.slotAt hs
  obtain ⟨rfl, rfl⟩ : B1 = some ⟨gs, 0, none⟩ ∧ e1 = cs := by cases es; exact ⟨rfl, rfl⟩
  obtain ⟨Au, nu, cu, rfl⟩ := hu.form
  have d1 := hN.box.cell 1
  simp only [List.getElem?_toArray, List.getElem?_cons_zero, List.getElem?_cons_succ] at d1
  have dl := hN.box.lt
  obtain ⟨q, hq⟩ : ∃ q, Scu.load x.slots[r] = q := ⟨_, rfl⟩
  obtain ⟨k, g0, a0, er⟩ := q
  have hcr : Scu.crash x r = if er ≠ 0 then (x, er) else ({ x with replicas := x.replicas.set r (Scu.repNew r k).1 }, (Scu.repNew r k).2) := by
    unfold Scu.crash
    rw [List.getD_eq_getElem?_getD, List.getElem?_eq_getElem hs, Option.getD_some, hq]
  rw [hcr] at hy
  have hsl : (r : Int) < (x.slots.length : Int) := by omega
  have HN := Lib.hid hN
  have HU := Lib.hid hu
  have HQ := Lib.hid hq
  have HY := Lib.hid hy
  have HR3 := Lib.hid hr3
  clear hN hu hq hy es hcr hr3
  go_enter Tryd.func107, Tryd.ntmps107
  go_wp2_with fail
  refine (stageLoad_n _ _ w 0 HU.out k g0 a0 er HQ.out).mono ?_; rintro en w1 ⟨⟨Al, nl, cl, rfl, hl⟩, h1⟩
  go_upto_region 2 with fail
  obtain ⟨Wd, hWd⟩ : ∃ W, W = w1.alloc (Obj.cells #[.int .i64 k.view, .int .i64 k.normal, .bool k.calm, .slice Al nl cl, .int .i64 k.commit] 64) := ⟨_, rfl⟩
  rw [← hWd]
  have hbw : Below w1.heap.size w1 Wd := by rw [hWd]; exact below_alloc _ _
  have hn : Blk Wd w1.heap.size 64 #[.int .i64 k.view, .int .i64 k.normal, .bool k.calm, .slice Al nl cl, .int .i64 k.commit] := by rw [hWd]; exact Blk.new _ _ _
  have hwd := h1.trans (hbw.mono h1.size)
  have HND := Lib.hid (HN.out.below hwd)
  have HL := Lib.hid (hl.below hbw)
  have HFR := Lib.hid (Fr.of hwd hb)
  have HB := Lib.hid hn
  clear hWd hbw hn hwd h1 hl d1 hcu
  by_cases he : er = 0
  · subst he
    obtain ⟨nr, hnr⟩ : ∃ q, Scu.repNew r k = q := ⟨_, rfl⟩
    obtain ⟨rr, fr⟩ := nr
    have hy' : y = { x with replicas := x.replicas.set r rr } ∧ f = fr := by
      have h := HY.out
      rw [if_neg (by simp), hnr] at h
      exact ⟨(Prod.mk.inj h).1.symm, (Prod.mk.inj h).2.symm⟩
    obtain ⟨gr, cr, lu0, hv0, wv0, gv0, nv0, er', hbr, hgr, -, -, hth, curr, hBr⟩ := HND.out.repAt hr
    obtain ⟨rfl, rfl⟩ : B0 = some ⟨gr, 0, none⟩ ∧ e0 = cr := by cases er'; exact ⟨rfl, rfl⟩
    have d0 := HND.out.box.cell 0
    have q0 := HB.out.cell 0
    have q1 := HB.out.cell 1
    have q2 := HB.out.cell 2
    have q3 := HB.out.cell 3
    have q4 := HB.out.cell 4
    simp only [List.getElem?_toArray, List.getElem?_cons_zero, List.getElem?_cons_succ] at d0 q0 q1 q2 q3 q4
    have nxr : gx ≠ gr := blk_ne HND.out.box hBr (by decide)
    have nkr : w1.heap.size ≠ gr := blk_ne HB.out hBr (by decide)
    clear hBr
    have dl := HND.out.box.lt
    have ql := HB.out.lt
    have hrl : (r : Int) < (x.replicas.length : Int) := by omega
    have HNR := Lib.hid hnr
    have HY' := Lib.hid hy'
    have HTH := Lib.hid hth
    clear hnr hy' er' hth
    go_wp2_with fail
    go_region_held3 (fun w' => w'.cell? ⟨gx, 0, none⟩ = some (.slice (some ⟨gr, 0, none⟩) x.replicas.length e0) ∧ w'.cell? ⟨w1.heap.size, 0, none⟩ = some (.int .i64 k.view) ∧ w'.cell? ⟨w1.heap.size, 1, none⟩ = some (.int .i64 k.normal) ∧ w'.cell? ⟨w1.heap.size, 2, none⟩ = some (.bool k.calm) ∧ w'.cell? ⟨w1.heap.size, 3, none⟩ = some (.slice Al nl cl) ∧ w'.cell? ⟨w1.heap.size, 4, none⟩ = some (.int .i64 k.commit))
      (first | (go_split_ands; (try dsimp only); (repeat' apply And.intro) <;> first | (with_reducible assumption) | (with_reducible (refine (cell_farA ?_).trans ?_ <;> assumption))) | (go_split_ands; (try dsimp only); exact ⟨d0, q0, q1, q2, q3, q4⟩))
      (first
        | (go_at_call 39; refine (repNew_n Al nl cl r k _ 0 (HL.out.drewN 1) rr fr HNR.out).mono ?_; rintro en x1 ⟨⟨lu, hv, wv, gv, nv, rfl, hrp⟩, k1'⟩
           obtain ⟨E0, m0, d0', E1, d1', E2, d2', E3, d3', E4, d4', rfl, rfl, rfl, rfl, rfl⟩ := hrp.forms
           have nn1 : Below Wd.heap.size Wd x1 := (below_drewN (Below.refl _ _) 1).trans k1'
           have M1 := Lib.hid nn1
           have HRP := Lib.hid hrp
           obtain ⟨u0, u1, u2, u3, u4, u5, u6, u7, u8, u9, ⟨z0, z1, z2, z3, z4, z5, z6, z7, z8, z9⟩, f0, f1, f2, f3, f4, f5, f6, f7, f8, f9⟩ := there_ten (there_below HTH.out nn1 hgr)
           have gl1 : gr < x1.heap.size := Nat.lt_of_lt_of_le hgr nn1.size
           have y0 := (nn1.cell (p := ⟨gx, 0, none⟩) dl).trans d0
           have y1 := (nn1.cell (p := ⟨w1.heap.size, 0, none⟩) ql).trans q0
           have y2 := (nn1.cell (p := ⟨w1.heap.size, 1, none⟩) ql).trans q1
           have y3 := (nn1.cell (p := ⟨w1.heap.size, 2, none⟩) ql).trans q2
           have y4 := (nn1.cell (p := ⟨w1.heap.size, 3, none⟩) ql).trans q3
           have y5 := (nn1.cell (p := ⟨w1.heap.size, 4, none⟩) ql).trans q4
           clear nn1 k1' hrp))
    all_goals
      rename_i hHeld
      clear hHeld
      have hN1 := HND.out.below M1.out
      obtain ⟨hP, hF⟩ := hN1.putRep hr (cs := repV rr (.slice E0 m0 d0') (.slice E1 rr.have_.length d1') (.slice E2 rr.wants.length d2') (.slice E3 rr.gives.length d3') (.slice E4 rr.given.length d4')) (r := rr) ⟨_, _, _, _, _, rfl, HRP.out⟩
      have HP := Lib.hid (And.intro hP.e (HFR.out.trans ((Fr.of M1.out (Nat.le_trans hb HFR.out.size)).trans hF)))
      clear hN1 hP hF
      go_wp2
      go_ret
      first
      | exact ⟨ret_val (int_eq HY'.out.2.symm), by rw [HY'.out.1]; exact HP.out.1, HP.out.2⟩
      | exact ⟨ret_val (int_eq HY'.out.2.symm), by rw [HY'.out.1]; exact HP.out.1.below (Below.refl _ _).drew, HP.out.2.drew⟩
  · have heb : (er != 0) = true := by simpa using he
    have hy' : y = x ∧ f = er := by
      have h := HY.out
      rw [if_pos he] at h
      exact ⟨(Prod.mk.inj h).1.symm, (Prod.mk.inj h).2.symm⟩
    have HY' := Lib.hid hy'
    clear he hy'
    go_wp2
    go_ret
    exact ⟨ret_val (int_eq HY'.out.2.symm), by rw [HY'.out.1]; exact HND.out.e, HFR.out⟩
end Go.Proofs.YtfpiembhlgcelaaDoor

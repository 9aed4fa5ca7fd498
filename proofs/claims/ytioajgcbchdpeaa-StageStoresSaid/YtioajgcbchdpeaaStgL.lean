/- Walks: the newest of both slots. -/
import Derived.Test.YtioajgcbchdpeaaStgN
namespace Go.Proofs.Ytioajgcbchdpeaa
open Go.RowKit
set_option maxHeartbeats 4000000
set_option maxRecDepth 100000

theorem stageLoad_c (v : Value) (l : List Scu.Str) (w : World) (B : Nat) (hv : IsStrs w B v l) :
    Calls Try.prog 34 #[v] w fun e w' => LoadRet w' w.heap.size (Scu.load l) e ∧ Below w.heap.size w w' := by
  obtain ⟨⟨A, c, rfl, _, hr⟩, hl, he⟩ := hv
  unfold R47 at hl
  by_cases h2 : l.length = 2
  · obtain ⟨a, b, rfl⟩ : ∃ a b, l = [a, b] := by match l, h2 with | [a, b], _ => exact ⟨a, b, rfl⟩
    obtain ⟨g, o, rfl, hg, hc0⟩ := str_get hr (k := 0) (by simp)
    obtain ⟨g', o', e0, _, hc1⟩ := str_get hr (k := 1) (by simp)
    cases e0
    simp only [Nat.add_zero, List.getElem_cons_zero, List.getElem_cons_succ] at hc0 hc1
    generalize da : Scu.stageDecode a = qa
    generalize db : Scu.stageDecode b = qb
    obtain ⟨ka, ga, ea⟩ := qa
    obtain ⟨kb, gb, eb⟩ := qb
    have HLD := Lib.hid (Scu.load_two da db)
    have HA := Lib.hid (fun W => stageDecode_a a W ka ga ea da)
    have HB := Lib.hid (fun W => stageDecode_a b W kb gb eb db)
    clear da db h2 hl he hr
    go_enter Try.func34, Try.ntmps34
    go_wp2_with fail
    refine (HA.out _).mono ?_; rintro e w1 ⟨⟨lv1, rfl, hu1⟩, h1⟩
    obtain ⟨A1, n1, c1, rfl⟩ := hu1.form
    have hB1 := below_box h1
    have hsz1 := box_lt h1
    have hg1 : g < w1.heap.size := by omega
    have hcc : w1.cell? ⟨g, o + 1, none⟩ = some (.string b) := (hB1.cell (p := ⟨g, o + 1, none⟩) hg).trans hc1
    have HZ1 := Lib.hid ((Blk.new w 28 #[.int .i64 0, .int .i64 0, .bool false, .slice none 0 0, .int .i64 0]).same h1)
    have HU1 := Lib.hid (hu1.base_ (base' := w.heap.size) (by simp))
    have HB1 := Lib.hid hB1
    clear hB1 h1 hu1 hc0 hc1
    go_wp2_with fail
    refine (HB.out _).mono ?_; rintro e w2 ⟨⟨lv2, rfl, hu2⟩, h2⟩
    obtain ⟨A2, n2, c2, rfl⟩ := hu2.form
    have hsz2 := box_lt h2
    have hsz3 : w.heap.size < w2.heap.size := by omega
    have hk1 : Blk w2 w1.heap.size 28 #[.int .i64 ka.view, .int .i64 ka.normal, .bool ka.calm, .slice A1 n1 c1, .int .i64 ka.commit] := (Blk.new w1 28 #[.int .i64 ka.view, .int .i64 ka.normal, .bool ka.calm, .slice A1 n1 c1, .int .i64 ka.commit]).same h2
    have hz := (HZ1.out.alloc (Obj.cells #[.int .i64 ka.view, .int .i64 ka.normal, .bool ka.calm, .slice A1 n1 c1, .int .i64 ka.commit] 28)).same h2
    have hB2 := HB1.out.trans ((below_box h2).mono HB1.out.size)
    have hU1 := (HU1.out.alloc _).below h2
    have hU2 := hu2.base_ (base' := w.heap.size) (by have := HB1.out.size; simp; omega)
    clear h2 hu2 HU1
    go_upto_region 5 with fail
    obtain ⟨Wd, hWd⟩ : ∃ W, W = w2.alloc (Obj.cells #[.int .i64 kb.view, .int .i64 kb.normal, .bool kb.calm, .slice A2 n2 c2, .int .i64 kb.commit] 28) := ⟨_, rfl⟩
    rw [← hWd]
    have hbw : Below w2.heap.size w2 Wd := by rw [hWd]; exact below_alloc _ _
    have hk2 : Blk Wd w2.heap.size 28 #[.int .i64 kb.view, .int .i64 kb.normal, .bool kb.calm, .slice A2 n2 c2, .int .i64 kb.commit] := by rw [hWd]; exact Blk.new _ _ _
    have hk1 := hk1.same hbw
    have hz := hz.same hbw
    have HB2 := Lib.hid (hB2.trans (hbw.mono hB2.size))
    have HU1' := Lib.hid (hU1.below hbw)
    have HU2 := Lib.hid (hU2.below hbw)
    have kc0 := hk1.cell 0
    have kc1 := hk1.cell 1
    have kc2 := hk1.cell 2
    have kc3 := hk1.cell 3
    have kc4 := hk1.cell 4
    simp only [List.getElem?_toArray, List.getElem?_cons_zero, List.getElem?_cons_succ] at kc0 kc1 kc2 kc3 kc4
    have kcz := hk1.frozen
    have kd0 := hk2.cell 0
    have kd1 := hk2.cell 1
    have kd2 := hk2.cell 2
    have kd3 := hk2.cell 3
    have kd4 := hk2.cell 4
    simp only [List.getElem?_toArray, List.getElem?_cons_zero, List.getElem?_cons_succ] at kd0 kd1 kd2 kd3 kd4
    have kdz := hk2.frozen
    have zc0 := hz.cell 0
    have zc1 := hz.cell 1
    have zc2 := hz.cell 2
    have zc3 := hz.cell 3
    have zc4 := hz.cell 4
    simp only [List.getElem?_toArray, List.getElem?_cons_zero, List.getElem?_cons_succ] at zc0 zc1 zc2 zc3 zc4
    have zcz := hz.frozen
    have hlz := hz.lt
    have hl1 := hk1.lt
    have hl2 := hk2.lt
    have HZ := Lib.hid hz
    clear hz hk1 hk2 hB2 hU1 hU2 hbw hWd hcc
    by_cases ha : ea = 0
    · subst ha
      by_cases hb : eb = 0
      · subst hb
        by_cases hlt : ga < gb
        · have HF := Lib.hid (show Scu.load [a, b] = (kb, gb, 1, 0) by rw [HLD.out]; rw [if_neg (by simp), if_pos (.inr ⟨rfl, hlt⟩)])
          have hr5 : Blk _ w.heap.size 28 #[.int .i64 kb.view, .int .i64 kb.normal, .bool kb.calm, .slice A2 n2 c2, .int .i64 kb.commit] := ((((HZ.out.set_ 0 (.int .i64 kb.view)).set_ 1 (.int .i64 kb.normal)).set_ 2 (.bool kb.calm)).set_ 3 (.slice A2 n2 c2)).set_ 4 (.int .i64 kb.commit)
          have r0 := hr5.cell 0
          have r1 := hr5.cell 1
          have r2 := hr5.cell 2
          have r3 := hr5.cell 3
          have r4 := hr5.cell 4
          simp only [List.getElem?_toArray, List.getElem?_cons_zero, List.getElem?_cons_succ] at r0 r1 r2 r3 r4
          have rz := hr5.frozen
          clear HLD hr5
          go_wp2
          refine bodyPost_ret (v := .tuple #[.agg #[.int .i64 kb.view, .int .i64 kb.normal, .bool kb.calm, .slice A2 n2 c2, .int .i64 kb.commit], .int .i64 gb, .int .i64 1, .int .i64 0]) (by simp [results, Try.results34, go_sem, r0, r1, r2, r3, r4]) rfl ?_
          refine ⟨?_, below_set5 HB2.out (Nat.le_refl _)⟩
          rw [HF.out]
          exact ⟨_, rfl, HU2.out.same (Same.sets5 (B := 0) HZ.out (Nat.zero_le _) (by decide) _ _ _ _ _)⟩
        · have hge : gb ≤ ga := by omega
          have HF := Lib.hid (show Scu.load [a, b] = (ka, ga, 0, 0) by rw [HLD.out]; rw [if_neg (by simp), if_neg (by omega)])
          have hr5 : Blk _ w.heap.size 28 #[.int .i64 ka.view, .int .i64 ka.normal, .bool ka.calm, .slice A1 n1 c1, .int .i64 ka.commit] := ((((HZ.out.set_ 0 (.int .i64 ka.view)).set_ 1 (.int .i64 ka.normal)).set_ 2 (.bool ka.calm)).set_ 3 (.slice A1 n1 c1)).set_ 4 (.int .i64 ka.commit)
          have r0 := hr5.cell 0
          have r1 := hr5.cell 1
          have r2 := hr5.cell 2
          have r3 := hr5.cell 3
          have r4 := hr5.cell 4
          simp only [List.getElem?_toArray, List.getElem?_cons_zero, List.getElem?_cons_succ] at r0 r1 r2 r3 r4
          have rz := hr5.frozen
          clear HLD hlt hr5
          go_wp2
          refine bodyPost_ret (v := .tuple #[.agg #[.int .i64 ka.view, .int .i64 ka.normal, .bool ka.calm, .slice A1 n1 c1, .int .i64 ka.commit], .int .i64 ga, .int .i64 0, .int .i64 0]) (by simp [results, Try.results34, go_sem, r0, r1, r2, r3, r4]) rfl ?_
          refine ⟨?_, below_set5 HB2.out (Nat.le_refl _)⟩
          rw [HF.out]
          exact ⟨_, rfl, HU1'.out.same (Same.sets5 (B := 0) HZ.out (Nat.zero_le _) (by decide) _ _ _ _ _)⟩
      · have hbb : (eb != 0) = true := by simpa using hb
        have hbe : (eb == 0) = false := by simpa using hb
        have HF := Lib.hid (show Scu.load [a, b] = (ka, ga, 0, 0) by rw [HLD.out]; rw [if_neg (by simp), if_neg (by omega)])
        have hr5 : Blk _ w.heap.size 28 #[.int .i64 ka.view, .int .i64 ka.normal, .bool ka.calm, .slice A1 n1 c1, .int .i64 ka.commit] := ((((HZ.out.set_ 0 (.int .i64 ka.view)).set_ 1 (.int .i64 ka.normal)).set_ 2 (.bool ka.calm)).set_ 3 (.slice A1 n1 c1)).set_ 4 (.int .i64 ka.commit)
        have r0 := hr5.cell 0
        have r1 := hr5.cell 1
        have r2 := hr5.cell 2
        have r3 := hr5.cell 3
        have r4 := hr5.cell 4
        simp only [List.getElem?_toArray, List.getElem?_cons_zero, List.getElem?_cons_succ] at r0 r1 r2 r3 r4
        have rz := hr5.frozen
        clear HLD hb hr5
        go_wp2
        refine bodyPost_ret (v := .tuple #[.agg #[.int .i64 ka.view, .int .i64 ka.normal, .bool ka.calm, .slice A1 n1 c1, .int .i64 ka.commit], .int .i64 ga, .int .i64 0, .int .i64 0]) (by simp [results, Try.results34, go_sem, r0, r1, r2, r3, r4]) rfl ?_
        refine ⟨?_, below_set5 HB2.out (Nat.le_refl _)⟩
        rw [HF.out]
        exact ⟨_, rfl, HU1'.out.same (Same.sets5 (B := 0) HZ.out (Nat.zero_le _) (by decide) _ _ _ _ _)⟩
    · have hab : (ea != 0) = true := by simpa using ha
      by_cases hb : eb = 0
      · subst hb
        have HF := Lib.hid (show Scu.load [a, b] = (kb, gb, 1, 0) by rw [HLD.out]; rw [if_neg (by simp), if_pos (.inl ha)])
        have hr5 : Blk _ w.heap.size 28 #[.int .i64 kb.view, .int .i64 kb.normal, .bool kb.calm, .slice A2 n2 c2, .int .i64 kb.commit] := ((((HZ.out.set_ 0 (.int .i64 kb.view)).set_ 1 (.int .i64 kb.normal)).set_ 2 (.bool kb.calm)).set_ 3 (.slice A2 n2 c2)).set_ 4 (.int .i64 kb.commit)
        have r0 := hr5.cell 0
        have r1 := hr5.cell 1
        have r2 := hr5.cell 2
        have r3 := hr5.cell 3
        have r4 := hr5.cell 4
        simp only [List.getElem?_toArray, List.getElem?_cons_zero, List.getElem?_cons_succ] at r0 r1 r2 r3 r4
        have rz := hr5.frozen
        clear HLD ha hr5
        go_wp2
        refine bodyPost_ret (v := .tuple #[.agg #[.int .i64 kb.view, .int .i64 kb.normal, .bool kb.calm, .slice A2 n2 c2, .int .i64 kb.commit], .int .i64 gb, .int .i64 1, .int .i64 0]) (by simp [results, Try.results34, go_sem, r0, r1, r2, r3, r4]) rfl ?_
        refine ⟨?_, below_set5 HB2.out (Nat.le_refl _)⟩
        rw [HF.out]
        exact ⟨_, rfl, HU2.out.same (Same.sets5 (B := 0) HZ.out (Nat.zero_le _) (by decide) _ _ _ _ _)⟩
      · have hbb : (eb != 0) = true := by simpa using hb
        have HF := Lib.hid (show Scu.load [a, b] = (Scu.kept0, 0, 0, 13) by rw [HLD.out, if_pos ⟨ha, hb⟩])
        have hr5 : Blk _ w.heap.size 28 #[.int .i64 0, .int .i64 0, .bool false, .slice none 0 0, .int .i64 0] := ((((HZ.out.set_ 0 (.int .i64 0)).set_ 1 (.int .i64 0)).set_ 2 (.bool false)).set_ 3 (.slice none 0 0)).set_ 4 (.int .i64 0)
        have r0 := hr5.cell 0
        have r1 := hr5.cell 1
        have r2 := hr5.cell 2
        have r3 := hr5.cell 3
        have r4 := hr5.cell 4
        simp only [List.getElem?_toArray, List.getElem?_cons_zero, List.getElem?_cons_succ] at r0 r1 r2 r3 r4
        have rz := hr5.frozen
        clear ha hb hr5
        go_wp2
        refine bodyPost_ret (v := .tuple #[.agg #[.int .i64 0, .int .i64 0, .bool false, .slice none 0 0, .int .i64 0], .int .i64 0, .int .i64 0, .int .i64 13]) (by simp [results, Try.results34, go_sem, r0, r1, r2, r3, r4]) rfl ?_
        exact ⟨by rw [HF.out]; exact load_zero _ _ _, below_set5 HB2.out (Nat.le_refl _)⟩
  · rw [Scu.load_len h2]
    have hb : ((l.length : Int) != 2) = true := by simpa using (show ¬ (l.length : Int) = 2 by omega)
    clear h2 hr he
    go_enter Try.func34, Try.ntmps34
    go_wp2
    go_returns
    exact ⟨load_zero _ _ _, (Below.refl _ _).alloc (Nat.le_refl _) _⟩
end Go.Proofs.Ytioajgcbchdpeaa

/- Walks: new slots, and the newest of both; the laws StageNew and StageLoads. -/
import Derived.Test.YtioajgcbchdpeaaStgR
import Derived.Test.YtioajgcbchdpeaaStgE
import Derived.Test.YtioajgcbchdpeaaStgQ
namespace Go.Proofs.Ytioajgcbchdpeaa
open Go.RowKit
set_option maxHeartbeats 16000000
set_option maxRecDepth 100000

theorem keptNew_ok : Scu.keptFault Scu.keptNew = 0 := by
  unfold Scu.keptFault Scu.keptNew Scu.kept0
  simp [Scu.logFault]
theorem stageNew_size : (Scu.keptBytes Scu.keptNew 0).size ≤ 4000 := by
  unfold Scu.keptBytes
  rw [ByteArray.size_append, Scu.sealS_size, ← Scu.encT_all]
  have := Scu.encT_size keptNew_ok 0 Scu.keptNew.log.length
  omega
theorem encNew : Scu.stageEncode Scu.keptNew 0 = (Scu.keptBytes Scu.keptNew 0, 0) := enc_ok (by simp [keptNew_ok]) (by omega)
theorem own_two {w : World} {base g : Nat} {a b : Scu.Str} (h : Blk w g 9 #[.string a, .string b]) (hb : base ≤ g) (h1 : a.size ≤ R47) (h2 : b.size ≤ R47) : OwnStrs w base (.slice (some ⟨g, 0, none⟩) 2 2) [a, b] :=
  ⟨own_blk (xs := [.string a, .string b]) h hb rfl (by unfold maxLen; omega), by simp [R47], fun s hs => by
    simp only [List.mem_cons, List.not_mem_nil, or_false] at hs
    rcases hs with rfl | rfl
    · exact h1
    · exact h2⟩
theorem stageNew_c (w : World) :
    Calls Try.prog 31 #[] w fun e w' => (∃ u, e = .returned u ∧ OwnStrs w' w.heap.size u Scu.stageNew) ∧ Below w.heap.size w w' := by
  have K := Lib.hid (fun W => stageEncode_c (.slice none 0 0) Scu.keptNew 0 W 0 IsStrs.nil_)
  go_enter Try.func31, Try.ntmps31
  go_wp2_with fail
  refine (K.out _).mono ?_; rintro e w1 ⟨rfl, h1⟩
  go_wp2
  go_ret
  refine ⟨⟨_, rfl, ?_⟩, h1.alloc h1.size _⟩
  rw [encNew]
  exact own_two (Blk.new w1 _ _) h1.size (Nat.le_trans stageNew_size (by simp [R47])) (by simp [R47, Scu.str0])
theorem slotsOf_c (w : World) :
    Calls Try.prog 32 #[] w fun e w' => (∃ u, e = .returned u ∧ OwnStrs w' w.heap.size u Scu.stageNew) ∧ Below w.heap.size w w' := by
  have K := Lib.hid (fun W => keptBytes_c (.slice none 0 0) Scu.keptNew 0 W 0 IsStrs.nil_)
  go_enter Try.func32, Try.ntmps32
  go_wp2_with fail
  refine (K.out _).mono ?_; rintro e w1 ⟨rfl, h1⟩
  go_wp2
  go_ret
  refine ⟨⟨_, rfl, ?_⟩, h1.alloc h1.size _⟩
  rw [encNew]
  exact own_two (Blk.new w1 _ _) h1.size (Nat.le_trans stageNew_size (by simp [R47])) (by simp [R47, Scu.str0])
theorem lawStageNew_w (w : World) :
    Calls Try.prog 9 #[] w fun e w' => e = .returned (.bool true) ∧ Below w.heap.size w w' := by
  go_enter Try.func9, Try.ntmps9
  go_wp2_with fail
  refine (stageNew_c _).mono ?_; rintro e w1 ⟨⟨u, rfl, hu⟩, h1⟩
  have HU := Lib.hid hu
  clear hu
  go_wp2_with fail
  refine (slotsOf_c _).mono ?_; rintro e w2 ⟨⟨u2, rfl, hu2⟩, h2⟩
  have HU2 := Lib.hid hu2
  have HB := Lib.hid (h1.trans (h2.mono h1.size))
  have HU1 := Lib.hid (HU.out.below h2)
  clear hu2 HU
  go_wp2_with fail
  refine (sameTexts_c _ _ Scu.stageNew Scu.stageNew _ 0 0 HU1.out.is HU2.out.is).mono ?_; rintro e w3 ⟨rfl, n, rfl⟩
  go_wp2
  go_ret
  exact ⟨by simp, below_drewN HB.out _⟩

def LoadRet (w : World) (base : Nat) (q : Scu.Kept × Int × Int × Int) (e : Ending) : Prop :=
  ∃ lv, e = .returned (.tuple #[.agg #[.int .i64 q.1.view, .int .i64 q.1.normal, .bool q.1.calm, lv, .int .i64 q.1.commit], .int .i64 q.2.1, .int .i64 q.2.2.1, .int .i64 q.2.2.2]) ∧ OwnStrs w base lv q.1.log
theorem load_zero (w : World) (base : Nat) (e : Int) : LoadRet w base (Scu.kept0, 0, 0, e) (.returned (.tuple #[.agg #[.int .i64 0, .int .i64 0, .bool false, .slice none 0 0, .int .i64 0], .int .i64 0, .int .i64 0, .int .i64 e])) :=
  ⟨_, rfl, OwnStrs.nil_⟩
theorem stageDecode_a (s : ByteArray) (w : World) (k : Scu.Kept) (g e : Int) (h : Scu.stageDecode s = (k, g, e)) :
    Calls Try.prog 28 #[.string s] w fun en w' => DecRet w' w.heap.size (k, g, e) en ∧ Below w.heap.size w w' := by
  have := stageDecode_c s w
  rw [h] at this
  exact this
theorem keptOf_a (s : ByteArray) (w : World) (k : Scu.Kept) (g e : Int) (h : Scu.stageDecode s = (k, g, e)) :
    Calls Try.prog 29 #[.string s] w fun en w' => DecRet w' w.heap.size (k, g, e) en ∧ Below w.heap.size w w' := by
  have := keptOf_c s w
  rw [h] at this
  exact this
theorem stageLoad_c (v : Value) (l : List Scu.Str) (w : World) (B : Nat) (hv : IsStrs w B v l) :
    Calls Try.prog 34 #[v] w fun e w' => LoadRet w' w.heap.size (Scu.load l) e ∧ Below w.heap.size w w' := by
  obtain ⟨⟨A, c, rfl, _, hr⟩, hl, he⟩ := hv
  unfold R47 at hl
  by_cases h2 : l.length = 2
  · obtain ⟨a, b, rfl⟩ : ∃ a b, l = [a, b] := by match l, h2 with | [a, b], _ => exact ⟨a, b, rfl⟩
    obtain ⟨g, o, rfl, hg, hc0⟩ := str_get hr (k := 0) (by simp)
    obtain ⟨g', o', e0, _, hc1⟩ := str_get hr (k := 1) (by simp)
    cases e0
    simp only [Nat.add_zero, List.getElem_cons_zero, List.getElem_cons_succ] at hc0 hc1
    generalize da : Scu.stageDecode a = qa
    generalize db : Scu.stageDecode b = qb
    obtain ⟨ka, ga, ea⟩ := qa
    obtain ⟨kb, gb, eb⟩ := qb
    have HLD := Lib.hid (Scu.load_two da db)
    have HA := Lib.hid (fun W => stageDecode_a a W ka ga ea da)
    have HB := Lib.hid (fun W => stageDecode_a b W kb gb eb db)
    clear da db h2 hl he hr
    go_enter Try.func34, Try.ntmps34
    go_wp2_with fail
    refine (HA.out _).mono ?_; rintro e w1 ⟨⟨lv1, rfl, hu1⟩, h1⟩
    obtain ⟨A1, n1, c1, rfl⟩ := hu1.form
    have hB1 := below_box h1
    have hsz1 := box_lt h1
    have hg1 : g < w1.heap.size := by omega
    have hcc : w1.cell? ⟨g, o + 1, none⟩ = some (.string b) := (hB1.cell (p := ⟨g, o + 1, none⟩) hg).trans hc1
    have HZ1 := Lib.hid ((Blk.new w 28 #[.int .i64 0, .int .i64 0, .bool false, .slice none 0 0, .int .i64 0]).same h1)
    have HU1 := Lib.hid (hu1.base_ (base' := w.heap.size) (by simp))
    have HB1 := Lib.hid hB1
    clear hB1 h1 hu1 hc0 hc1
    go_wp2_with fail
    refine (HB.out _).mono ?_; rintro e w2 ⟨⟨lv2, rfl, hu2⟩, h2⟩
    obtain ⟨A2, n2, c2, rfl⟩ := hu2.form
    have hsz2 := box_lt h2
    have hsz3 : w.heap.size < w2.heap.size := by omega
    have hk1 := (Blk.new w1 28 #[.int .i64 ka.view, .int .i64 ka.normal, .bool ka.calm, .slice A1 n1 c1, .int .i64 ka.commit]).same h2
    have kc0 := hk1.cell 0
    have kc1 := hk1.cell 1
    have kc2 := hk1.cell 2
    have kc3 := hk1.cell 3
    have kc4 := hk1.cell 4
    simp only [List.getElem?_toArray, List.getElem?_cons_zero, List.getElem?_cons_succ] at kc0 kc1 kc2 kc3 kc4
    have kcz := hk1.frozen
    have hz := (HZ1.out.alloc (Obj.cells #[.int .i64 ka.view, .int .i64 ka.normal, .bool ka.calm, .slice A1 n1 c1, .int .i64 ka.commit] 28)).same h2
    have zc0 := hz.cell 0
    have zc1 := hz.cell 1
    have zc2 := hz.cell 2
    have zc3 := hz.cell 3
    have zc4 := hz.cell 4
    simp only [List.getElem?_toArray, List.getElem?_cons_zero, List.getElem?_cons_succ] at zc0 zc1 zc2 zc3 zc4
    have zcz := hz.frozen
    have HZ := Lib.hid hz
    have HB2 := Lib.hid (HB1.out.trans ((below_box h2).mono HB1.out.size))
    have HU1' := Lib.hid ((HU1.out.alloc _).below h2)
    have HU2 := Lib.hid (hu2.base_ (base' := w.heap.size) (by have := HB1.out.size; simp; omega))
    clear hz hk1 h2 hu2 HU1
    by_cases ha : ea = 0
    · subst ha
      by_cases hb : eb = 0
      · subst hb
        by_cases hlt : ga < gb
        · have HF := Lib.hid (show Scu.load [a, b] = (kb, gb, 1, 0) by rw [HLD.out]; rw [if_neg (by simp), if_pos (.inr ⟨rfl, hlt⟩)])
          have hr5 : Blk _ w.heap.size 28 #[.int .i64 kb.view, .int .i64 kb.normal, .bool kb.calm, .slice A2 n2 c2, .int .i64 kb.commit] := (((((HZ.out.set_ 0 (.int .i64 kb.view)).set_ 1 (.int .i64 kb.normal)).set_ 2 (.bool kb.calm)).set_ 3 (.slice A2 n2 c2)).set_ 4 (.int .i64 kb.commit)).alloc (Obj.cells #[.int .i64 kb.view, .int .i64 kb.normal, .bool kb.calm, .slice A2 n2 c2, .int .i64 kb.commit] 28)
          have r0 := hr5.cell 0
          have r1 := hr5.cell 1
          have r2 := hr5.cell 2
          have r3 := hr5.cell 3
          have r4 := hr5.cell 4
          simp only [List.getElem?_toArray, List.getElem?_cons_zero, List.getElem?_cons_succ] at r0 r1 r2 r3 r4
          have rz := hr5.frozen
          clear HLD hr5
          go_wp2
          refine bodyPost_ret (v := .tuple #[.agg #[.int .i64 kb.view, .int .i64 kb.normal, .bool kb.calm, .slice A2 n2 c2, .int .i64 kb.commit], .int .i64 gb, .int .i64 1, .int .i64 0]) (by simp [results, Try.results34, go_sem, r0, r1, r2, r3, r4]) rfl ?_
          refine ⟨?_, (below_set5 HB2.out (Nat.le_refl _)).alloc (by simpa [World.setCell] using HB2.out.size) _⟩
          rw [HF.out]
          exact ⟨_, rfl, (HU2.out.same (Same.sets5 (B := 0) HZ.out (Nat.zero_le _) (by decide) _ _ _ _ _)).alloc _⟩
        · have hge : gb ≤ ga := by omega
          have HF := Lib.hid (show Scu.load [a, b] = (ka, ga, 0, 0) by rw [HLD.out]; rw [if_neg (by simp), if_neg (by omega)])
          have hr5 : Blk _ w.heap.size 28 #[.int .i64 ka.view, .int .i64 ka.normal, .bool ka.calm, .slice A1 n1 c1, .int .i64 ka.commit] := (((((HZ.out.set_ 0 (.int .i64 ka.view)).set_ 1 (.int .i64 ka.normal)).set_ 2 (.bool ka.calm)).set_ 3 (.slice A1 n1 c1)).set_ 4 (.int .i64 ka.commit)).alloc (Obj.cells #[.int .i64 kb.view, .int .i64 kb.normal, .bool kb.calm, .slice A2 n2 c2, .int .i64 kb.commit] 28)
          have r0 := hr5.cell 0
          have r1 := hr5.cell 1
          have r2 := hr5.cell 2
          have r3 := hr5.cell 3
          have r4 := hr5.cell 4
          simp only [List.getElem?_toArray, List.getElem?_cons_zero, List.getElem?_cons_succ] at r0 r1 r2 r3 r4
          have rz := hr5.frozen
          clear HLD hlt hr5
          go_wp2
          refine bodyPost_ret (v := .tuple #[.agg #[.int .i64 ka.view, .int .i64 ka.normal, .bool ka.calm, .slice A1 n1 c1, .int .i64 ka.commit], .int .i64 ga, .int .i64 0, .int .i64 0]) (by simp [results, Try.results34, go_sem, r0, r1, r2, r3, r4]) rfl ?_
          refine ⟨?_, (below_set5 HB2.out (Nat.le_refl _)).alloc (by simpa [World.setCell] using HB2.out.size) _⟩
          rw [HF.out]
          exact ⟨_, rfl, (HU1'.out.same (Same.sets5 (B := 0) HZ.out (Nat.zero_le _) (by decide) _ _ _ _ _)).alloc _⟩
      · have hbb : (eb != 0) = true := by simpa using hb
        have hbe : (eb == 0) = false := by simpa using hb
        have HF := Lib.hid (show Scu.load [a, b] = (ka, ga, 0, 0) by rw [HLD.out]; rw [if_neg (by simp), if_neg (by omega)])
        have hr5 : Blk _ w.heap.size 28 #[.int .i64 ka.view, .int .i64 ka.normal, .bool ka.calm, .slice A1 n1 c1, .int .i64 ka.commit] := (((((HZ.out.set_ 0 (.int .i64 ka.view)).set_ 1 (.int .i64 ka.normal)).set_ 2 (.bool ka.calm)).set_ 3 (.slice A1 n1 c1)).set_ 4 (.int .i64 ka.commit)).alloc (Obj.cells #[.int .i64 kb.view, .int .i64 kb.normal, .bool kb.calm, .slice A2 n2 c2, .int .i64 kb.commit] 28)
        have r0 := hr5.cell 0
        have r1 := hr5.cell 1
        have r2 := hr5.cell 2
        have r3 := hr5.cell 3
        have r4 := hr5.cell 4
        simp only [List.getElem?_toArray, List.getElem?_cons_zero, List.getElem?_cons_succ] at r0 r1 r2 r3 r4
        have rz := hr5.frozen
        clear HLD hb hr5
        go_wp2
        refine bodyPost_ret (v := .tuple #[.agg #[.int .i64 ka.view, .int .i64 ka.normal, .bool ka.calm, .slice A1 n1 c1, .int .i64 ka.commit], .int .i64 ga, .int .i64 0, .int .i64 0]) (by simp [results, Try.results34, go_sem, r0, r1, r2, r3, r4]) rfl ?_
        refine ⟨?_, (below_set5 HB2.out (Nat.le_refl _)).alloc (by simpa [World.setCell] using HB2.out.size) _⟩
        rw [HF.out]
        exact ⟨_, rfl, (HU1'.out.same (Same.sets5 (B := 0) HZ.out (Nat.zero_le _) (by decide) _ _ _ _ _)).alloc _⟩
    · have hab : (ea != 0) = true := by simpa using ha
      by_cases hb : eb = 0
      · subst hb
        have HF := Lib.hid (show Scu.load [a, b] = (kb, gb, 1, 0) by rw [HLD.out]; rw [if_neg (by simp), if_pos (.inl ha)])
        have hr5 : Blk _ w.heap.size 28 #[.int .i64 kb.view, .int .i64 kb.normal, .bool kb.calm, .slice A2 n2 c2, .int .i64 kb.commit] := (((((HZ.out.set_ 0 (.int .i64 kb.view)).set_ 1 (.int .i64 kb.normal)).set_ 2 (.bool kb.calm)).set_ 3 (.slice A2 n2 c2)).set_ 4 (.int .i64 kb.commit)).alloc (Obj.cells #[.int .i64 kb.view, .int .i64 kb.normal, .bool kb.calm, .slice A2 n2 c2, .int .i64 kb.commit] 28)
        have r0 := hr5.cell 0
        have r1 := hr5.cell 1
        have r2 := hr5.cell 2
        have r3 := hr5.cell 3
        have r4 := hr5.cell 4
        simp only [List.getElem?_toArray, List.getElem?_cons_zero, List.getElem?_cons_succ] at r0 r1 r2 r3 r4
        have rz := hr5.frozen
        clear HLD ha hr5
        go_wp2
        refine bodyPost_ret (v := .tuple #[.agg #[.int .i64 kb.view, .int .i64 kb.normal, .bool kb.calm, .slice A2 n2 c2, .int .i64 kb.commit], .int .i64 gb, .int .i64 1, .int .i64 0]) (by simp [results, Try.results34, go_sem, r0, r1, r2, r3, r4]) rfl ?_
        refine ⟨?_, (below_set5 HB2.out (Nat.le_refl _)).alloc (by simpa [World.setCell] using HB2.out.size) _⟩
        rw [HF.out]
        exact ⟨_, rfl, (HU2.out.same (Same.sets5 (B := 0) HZ.out (Nat.zero_le _) (by decide) _ _ _ _ _)).alloc _⟩
      · have hbb : (eb != 0) = true := by simpa using hb
        have HF := Lib.hid (show Scu.load [a, b] = (Scu.kept0, 0, 0, 13) by rw [HLD.out, if_pos ⟨ha, hb⟩])
        have hr5 : Blk _ w.heap.size 28 #[.int .i64 0, .int .i64 0, .bool false, .slice none 0 0, .int .i64 0] := (((((HZ.out.set_ 0 (.int .i64 0)).set_ 1 (.int .i64 0)).set_ 2 (.bool false)).set_ 3 (.slice none 0 0)).set_ 4 (.int .i64 0)).alloc (Obj.cells #[.int .i64 kb.view, .int .i64 kb.normal, .bool kb.calm, .slice A2 n2 c2, .int .i64 kb.commit] 28)
        have r0 := hr5.cell 0
        have r1 := hr5.cell 1
        have r2 := hr5.cell 2
        have r3 := hr5.cell 3
        have r4 := hr5.cell 4
        simp only [List.getElem?_toArray, List.getElem?_cons_zero, List.getElem?_cons_succ] at r0 r1 r2 r3 r4
        have rz := hr5.frozen
        clear ha hb hr5
        go_wp2
        refine bodyPost_ret (v := .tuple #[.agg #[.int .i64 0, .int .i64 0, .bool false, .slice none 0 0, .int .i64 0], .int .i64 0, .int .i64 0, .int .i64 13]) (by simp [results, Try.results34, go_sem, r0, r1, r2, r3, r4]) rfl ?_
        exact ⟨by rw [HF.out]; exact load_zero _ _ _, (below_set5 HB2.out (Nat.le_refl _)).alloc (by simpa [World.setCell] using HB2.out.size) _⟩
  · rw [Scu.load_len h2]
    have hb : ((l.length : Int) != 2) = true := by simpa using (show ¬ (l.length : Int) = 2 by omega)
    clear h2 hr he
    go_enter Try.func34, Try.ntmps34
    go_wp2
    go_returns
    exact ⟨load_zero _ _ _, (Below.refl _ _).alloc (Nat.le_refl _) _⟩
end Go.Proofs.Ytioajgcbchdpeaa

/- Walks: the newest of both slots, by the reference; the law StageLoads. -/
import Derived.Test.YtioajgcbchdpeaaStgL
namespace Go.Proofs.Ytioajgcbchdpeaa
open Go.RowKit Go.ChangeShapes Go.WideShapes Go.ChangeAt
set_option maxHeartbeats 4000000
set_option maxRecDepth 100000

/-- What the loop over the slots holds: the best so far in a block, the answer's block still zero. -/
structure BestI (w : World) (A : Option Addr) (n c : Nat) (k : Scu.Kept) (wr : World) : Prop where
  best : Blk wr (w.heap.size + 1) 28 #[.int .i64 k.view, .int .i64 k.normal, .bool k.calm, .slice A n c, .int .i64 k.commit]
  own : OwnStrs wr w.heap.size (.slice A n c) k.log
  zero : Blk wr w.heap.size 28 #[.int .i64 0, .int .i64 0, .bool false, .slice none 0 0, .int .i64 0]
  low : Below w.heap.size w wr
section
variable {w wr w' : World} {A : Option Addr} {n c : Nat} {k : Scu.Kept}
theorem BestI.below (h : BestI w A n c k wr) (hb : Below wr.heap.size wr w') : BestI w A n c k w' :=
  ⟨h.best.same hb, h.own.below hb, h.zero.same hb, h.low.trans (hb.mono h.low.size)⟩
theorem BestI.alloc (h : BestI w A n c k wr) (o : Obj) : BestI w A n c k (wr.alloc o) := h.below (below_alloc wr o)
theorem BestI.next (h : BestI w A n c k wr) {A' : Option Addr} {n' c' : Nat} {k' : Scu.Kept} (ho : OwnStrs wr w.heap.size (.slice A' n' c') k'.log) :
    BestI w A' n' c' k' (((((wr.setCell ⟨w.heap.size + 1, 0, none⟩ (.int .i64 k'.view)).setCell ⟨w.heap.size + 1, 1, none⟩ (.int .i64 k'.normal)).setCell ⟨w.heap.size + 1, 2, none⟩ (.bool k'.calm)).setCell ⟨w.heap.size + 1, 3, none⟩ (.slice A' n' c')).setCell ⟨w.heap.size + 1, 4, none⟩ (.int .i64 k'.commit)) := by
  refine ⟨((((h.best.set_ 0 _).set_ 1 _).set_ 2 _).set_ 3 _).set_ 4 _, ho.same (Same.sets5 (B := 0) h.best (Nat.zero_le _) (by decide) _ _ _ _ _), ?_, below_set5 h.low (Nat.le_succ _)⟩
  exact ((((h.zero.far (by simp) _).far (by simp) _).far (by simp) _).far (by simp) _).far (by simp) _
end
theorem loadedOf_c (v : Value) (l : List Scu.Str) (w : World) (B : Nat) (hv : IsStrs w B v l) :
    Calls Try.prog 35 #[v] w fun e w' => LoadRet w' w.heap.size (Scu.load l) e ∧ Below w.heap.size w w' := by
  obtain ⟨⟨A, c, rfl, _, hr⟩, hl, he⟩ := hv
  unfold R47 at hl
  by_cases h2 : l.length = 2
  · have h2' : (l.length : Int) = 2 := by omega
    have hb : ((l.length : Int) != 2) = false := by simpa using h2'
    have HLD := Lib.hid (Scu.load_best h2)
    clear he h2
    go_enter Try.func35, Try.ntmps35
    go_wp2_with fail
    go_loopw [7, 8, 9] (fun gv av i wr => ∃ (j : Nat) (kq : Scu.Kept) (gq aq : Int) (A' : Option Addr) (n' c' : Nat), j ≤ 2 ∧ i = .int .i64 j ∧ gv = .int .i64 gq ∧ av = .int .i64 aq ∧ Hid (Scu.bestJ l j = (kq, gq, aq)) ∧ BestI w A' n' c' kq wr) (fun _ _ i _ => 2 - (intOf i).toNat)
    case atStart =>
      exact ⟨0, Scu.kept0, -1, 0, none, 0, 0, by omega, rfl, rfl, rfl, Lib.hid rfl, Blk.new' (by simp), OwnStrs.nil_, (Blk.new w _ _).alloc _, (below_alloc w _).alloc (by simp) _⟩
    case round =>
      obtain ⟨j, kq, gq, aq, A', n', c', hj, rfl, rfl, rfl, hq, hB⟩ := hrel
      by_cases hlt : j < 2
      · have hlt' : (j : Int) < 2 := by omega
        have hjl : j < l.length := by omega
        have hjl' : (j : Int) < (l.length : Int) := by omega
        obtain ⟨g, o, rfl, hg, hc0⟩ := str_get (hr.below hB.low) hjl
        generalize hd : Scu.stageDecode l[j] = q
        obtain ⟨k, gn, e⟩ := q
        have hn := Scu.bestJ_next hjl hd
        rw [hq.out] at hn
        simp only at hn
        have HN := Lib.hid hn
        have HD := Lib.hid (fun W => keptOf_a _ W k gn e hd)
        have HBI := Lib.hid hB
        clear hB hd hn hq
        go_wp2_with fail
        refine (HD.out _).mono ?_; rintro en w2 ⟨⟨lv, rfl, hu⟩, h2⟩
        obtain ⟨A1, n1, c1, rfl⟩ := hu.form
        have hbs := HBI.out.low.size
        have hB2 := HBI.out.below h2
        have hlt2 : w.heap.size + 1 < w2.heap.size := hB2.best.lt
        go_upto_region 10 with fail
        obtain ⟨Wd, hWd⟩ : ∃ W, W = w2.alloc (Obj.cells #[.int .i64 k.view, .int .i64 k.normal, .bool k.calm, .slice A1 n1 c1, .int .i64 k.commit] 28) := ⟨_, rfl⟩
        rw [← hWd]
        have hbw : Below w2.heap.size w2 Wd := by rw [hWd]; exact below_alloc _ _
        have hk2 : Blk Wd w2.heap.size 28 #[.int .i64 k.view, .int .i64 k.normal, .bool k.calm, .slice A1 n1 c1, .int .i64 k.commit] := by rw [hWd]; exact Blk.new _ _ _
        have HB2 := Lib.hid (hB2.below hbw)
        have HU := Lib.hid ((hu.below hbw).base_ hbs)
        have hbest := HB2.out.best
        have bc0 := hbest.cell 0
        have bc1 := hbest.cell 1
        have bc2 := hbest.cell 2
        have bc3 := hbest.cell 3
        have bc4 := hbest.cell 4
        simp only [List.getElem?_toArray, List.getElem?_cons_zero, List.getElem?_cons_succ] at bc0 bc1 bc2 bc3 bc4
        have bcz := hbest.frozen
        have kd0 := hk2.cell 0
        have kd1 := hk2.cell 1
        have kd2 := hk2.cell 2
        have kd3 := hk2.cell 3
        have kd4 := hk2.cell 4
        simp only [List.getElem?_toArray, List.getElem?_cons_zero, List.getElem?_cons_succ] at kd0 kd1 kd2 kd3 kd4
        have kdz := hk2.frozen
        have hl1 := hbest.lt
        have hl2 := hk2.lt
        clear hbest hk2 hB2 hu h2 hbw hWd
        by_cases he0 : e = 0
        · subst he0
          by_cases hgt : gq < gn
          · have HX := Lib.hid (show Scu.bestJ l (j + 1) = (k, gn, (j : Int)) by rw [HN.out, if_pos ⟨rfl, hgt⟩])
            clear HN
            go_wp2
            refine ⟨⟨j + 1, k, gn, j, A1, n1, c1, by omega, by go_num, rfl, rfl, HX, HB2.out.next HU.out⟩, ?_⟩
            simp [intOf]; omega
          · have hle : gn ≤ gq := by omega
            have HX := Lib.hid (show Scu.bestJ l (j + 1) = (kq, gq, aq) by rw [HN.out, if_neg (by rintro ⟨_, h⟩; exact hgt h)])
            clear HN hgt
            go_wp2
            refine ⟨⟨j + 1, kq, gq, aq, A', n', c', by omega, by go_num, rfl, rfl, HX, HB2.out⟩, ?_⟩
            simp [intOf]; omega
        · have hbe : (e == 0) = false := by simpa using he0
          have HX := Lib.hid (show Scu.bestJ l (j + 1) = (kq, gq, aq) by rw [HN.out, if_neg (by rintro ⟨h, _⟩; exact he0 h)])
          clear HN he0
          go_wp2
          refine ⟨⟨j + 1, kq, gq, aq, A', n', c', by omega, by go_num, rfl, rfl, HX, HB2.out⟩, ?_⟩
          simp [intOf]; omega
      · have hlt' : (2 : Int) ≤ (j : Int) := by omega
        obtain rfl : j = 2 := by omega
        have hld := HLD.out
        rw [hq.out] at hld
        simp only at hld
        have hbest := hB.best
        have bc0 := hbest.cell 0
        have bc1 := hbest.cell 1
        have bc2 := hbest.cell 2
        have bc3 := hbest.cell 3
        have bc4 := hbest.cell 4
        simp only [List.getElem?_toArray, List.getElem?_cons_zero, List.getElem?_cons_succ] at bc0 bc1 bc2 bc3 bc4
        have bcz := hbest.frozen
        have hz := hB.zero
        have zc0 := hz.cell 0
        have zc1 := hz.cell 1
        have zc2 := hz.cell 2
        have zc3 := hz.cell 3
        have zc4 := hz.cell 4
        simp only [List.getElem?_toArray, List.getElem?_cons_zero, List.getElem?_cons_succ] at zc0 zc1 zc2 zc3 zc4
        have zcz := hz.frozen
        have hl1 := hbest.lt
        have hl2 := hz.lt
        have HBI := Lib.hid hB
        clear hbest hz hB HLD hq
        by_cases hneg : gq < 0
        · have HF := Lib.hid (show Scu.load l = (Scu.kept0, 0, 0, 13) by rw [hld, if_pos hneg])
          clear hld
          go_wp2
          refine bodyPost_ret (v := .tuple #[.agg #[.int .i64 0, .int .i64 0, .bool false, .slice none 0 0, .int .i64 0], .int .i64 0, .int .i64 0, .int .i64 13]) (by simp [results, Try.results35, go_sem, zc0, zc1, zc2, zc3, zc4]) rfl ?_
          exact ⟨by rw [HF.out]; exact load_zero _ _ _, below_set5 HBI.out.low (Nat.le_refl _)⟩
        · have hpos : 0 ≤ gq := by omega
          have HF := Lib.hid (show Scu.load l = (kq, gq, aq, 0) by rw [hld, if_neg hneg])
          clear hld hneg
          go_wp2
          refine bodyPost_ret (v := .tuple #[.agg #[.int .i64 kq.view, .int .i64 kq.normal, .bool kq.calm, .slice A' n' c', .int .i64 kq.commit], .int .i64 gq, .int .i64 aq, .int .i64 0]) (by simp [results, Try.results35, go_sem, zc0, zc1, zc2, zc3, zc4]) rfl ?_
          refine ⟨?_, below_set5 HBI.out.low (Nat.le_refl _)⟩
          rw [HF.out]
          exact ⟨_, rfl, HBI.out.own.same (Same.sets5 (B := 0) HBI.out.zero (Nat.zero_le _) (by decide) _ _ _ _ _)⟩
  · rw [Scu.load_len h2]
    have hb : ((l.length : Int) != 2) = true := by simpa using (show ¬ (l.length : Int) = 2 by omega)
    clear h2 hr he
    go_enter Try.func35, Try.ntmps35
    go_wp2
    go_returns
    exact ⟨load_zero _ _ _, (Below.refl _ _).alloc (Nat.le_refl _) _⟩
section
variable {H : Type} {enc : TypeId × Value → H} {w : World} {base : Nat} {spare : Nat → Bool} {held : Bool}
theorem openS_Strs {v : Value} {d : DataW H} {p : List MemPlace} {b0 : Nat} (hv : Value.okWide Try.prog w .any b0 26 v) (h : DataW.Trod enc Try.prog w base spare held 26 v d p)
    (hw : ∀ k ∈ d.weights Try.prog 26, k ≤ reachBytes) : ∃ y, IsStrs w w.heap.size v y := by
  obtain ⟨a, len, cap, rfl⟩ := okWide_slice Try.underlying26 hv
  obtain ⟨fuel, hf⟩ := h
  exact trod_strs hf hw
end
theorem stageLoad_a (v : Value) (l : List Scu.Str) (w : World) (B : Nat) (hv : IsStrs w B v l) (k : Scu.Kept) (g a e : Int) (h : Scu.load l = (k, g, a, e)) :
    Calls Try.prog 34 #[v] w fun en w' => LoadRet w' w.heap.size (k, g, a, e) en ∧ Below w.heap.size w w' := by
  have := stageLoad_c v l w B hv
  rw [h] at this
  exact this
theorem loadedOf_a (v : Value) (l : List Scu.Str) (w : World) (B : Nat) (hv : IsStrs w B v l) (k : Scu.Kept) (g a e : Int) (h : Scu.load l = (k, g, a, e)) :
    Calls Try.prog 35 #[v] w fun en w' => LoadRet w' w.heap.size (k, g, a, e) en ∧ Below w.heap.size w w' := by
  have := loadedOf_c v l w B hv
  rw [h] at this
  exact this
theorem lawStageLoads_w (v : Value) (l : List Scu.Str) {w : World} (h : IsStrs w w.heap.size v l) (W : World) (hW : W = w) :
    Calls Try.prog 10 #[v] W fun e w' => e = .returned (.bool true) ∧ Below W.heap.size W w' := by
  subst hW
  obtain ⟨q, hq⟩ : ∃ q, Scu.load l = q := ⟨_, rfl⟩
  obtain ⟨k, g, a, e⟩ := q
  have HQ := Lib.hid hq
  have HV := Lib.hid h
  obtain ⟨A0, n0, c0, rfl⟩ := h.form
  clear h hq
  go_enter Try.func10, Try.ntmps10
  go_wp2_with fail
  refine (stageLoad_a _ l _ W.heap.size HV.out k g a e HQ.out).mono ?_; rintro en w1 ⟨⟨lv, rfl, hu⟩, h1⟩
  obtain ⟨A, n, c, rfl⟩ := hu.form
  have hsz := h1.size
  have HU := Lib.hid hu
  have HB1 := Lib.hid h1
  clear hu h1
  go_wp2_with fail
  refine (loadedOf_a _ l _ W.heap.size ((HV.out.below HB1.out).alloc _) k g a e HQ.out).mono ?_; rintro en w2 ⟨⟨lu, rfl, hu2⟩, h2⟩
  obtain ⟨A2, n2, c2, rfl⟩ := hu2.form
  obtain ⟨hc, hf⟩ := bcell h2
  have hlt := box_lt h2
  have HU1 := Lib.hid ((HU.out.alloc (Obj.cells #[.int .i64 k.view, .int .i64 k.normal, .bool k.calm, .slice A n c, .int .i64 k.commit] 28)).below h2)
  have HU2 := Lib.hid hu2
  have HB := Lib.hid (HB1.out.trans ((below_box h2).mono hsz))
  clear hu2 HU h2
  go_wp2_with fail
  refine (sameKept_c _ _ k k _ 0 0 (HU1.out.is.alloc _) (HU2.out.is.alloc _)).mono ?_; rintro en w3 ⟨rfl, h3⟩
  go_wp2
  go_ret
  exact ⟨by simp, HB.out.trans ((below_box h3).mono HB.out.size)⟩
end Go.Proofs.Ytioajgcbchdpeaa

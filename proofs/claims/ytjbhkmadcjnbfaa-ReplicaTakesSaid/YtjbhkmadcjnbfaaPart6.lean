/- Part 6: words and walks under the law 'ReplicaTicks'. -/
import Derived.Test.YtjbhkmadcjnbfaaPart5
import Derived.Test.YtjbhkmadcjnbfaaPart3
import Derived.Test.YtjbhkmadcjnbfaaPart1
import Derived.Orders
set_option linter.unusedVariables false
set_option linter.unusedSimpArgs false
/- Walks: what may be kept, by the reference; copies; whether it is the same; the laws StageCopies and StageChecks. -/
namespace Go.Proofs.Ytjbhkmadcjnbfaa
open Go.RowKit
set_option maxHeartbeats 400000
set_option maxRecDepth 100000

theorem inB_no {n a b : Int} (h : inB n a b = false) : n < a ∨ b < n := by
  unfold inB at h
  simp only [Bool.and_eq_false_iff, decide_eq_false_iff_not] at h
  omega
theorem inB_yes {n a b : Int} (h : inB n a b = true) : a ≤ n ∧ n ≤ b := by
  unfold inB at h
  simpa only [Bool.and_eq_true, decide_eq_true_eq] using h
theorem keptFault_x (lv : Value) (vi no : Int) (ca : Bool) (lo : List Scu.Str) (co : Int) (w : World) (B : Nat) (hv : IsStrs w B lv lo) :
    Calls Try.prog 46 #[.agg #[.int .i64 vi, .int .i64 no, .bool ca, lv, .int .i64 co]] w fun e w' => e = .returned (.int .i64 (Scu.keptFault ⟨vi, no, ca, lo, co⟩)) ∧ Below w.heap.size w w' := by
  obtain ⟨⟨A, c, rfl, _, hr⟩, hl, he⟩ := hv
  have HDEC := Lib.hid (fun (s : ByteArray) (W : World) => entryOf_a s W)
  unfold R47 at hl he
  cases t1 : inB vi 0 1048576 with
  | false =>
    have U1 := Lib.hid t1
    clear t1
    have HF := Lib.hid (show Scu.keptFault ⟨vi, no, ca, lo, co⟩ = 2 from kept_bad2 (by have := inB_no U1.out; show vi < 0 ∨ 1048576 < vi ∨ _; omega))
    clear hr hl he HDEC
    try clear hrest
    go_enter Try.func46, Try.ntmps46
    go_wp2_with (go_at_call 45; refine (inn_c _ _ _ _).mono ?_; rintro e w1 ⟨rfl, rfl⟩; first | rw [U1.out] | rw [U2.out] | rw [U4.out])
    go_ret
    exact ⟨ret_val (int_eq HF.out.symm), (Below.refl _ _).alloc (Nat.le_refl _) _⟩
  | true =>
  have U1 := Lib.hid t1
  have V1 := Lib.hid (inB_yes t1)
  clear t1
  cases t2 : inB no 0 vi with
  | false =>
    have U2 := Lib.hid t2
    clear t2
    have HF := Lib.hid (show Scu.keptFault ⟨vi, no, ca, lo, co⟩ = 2 from kept_bad2 (by have := inB_no U2.out; show vi < 0 ∨ 1048576 < vi ∨ no < 0 ∨ vi < no ∨ _; omega))
    clear hr hl he HDEC
    try clear hrest
    go_enter Try.func46, Try.ntmps46
    go_wp2_with (go_at_call 45; refine (inn_c _ _ _ _).mono ?_; rintro e w1 ⟨rfl, rfl⟩; first | rw [U1.out] | rw [U2.out] | rw [U4.out])
    go_ret
    exact ⟨ret_val (int_eq HF.out.symm), (Below.refl _ _).alloc (Nat.le_refl _) _⟩
  | true =>
  have U2 := Lib.hid t2
  have V2 := Lib.hid (inB_yes t2)
  clear t2
  have H5 : (ca = true ∧ (no != vi) = true) ∨ ((ca = false ∨ (ca = true ∧ (no != vi) = false))) := by
    cases ca <;> cases (no != vi) <;> simp
  rcases H5 with ⟨rfl, t6⟩ | H5
  · have HF := Lib.hid (show Scu.keptFault ⟨vi, no, true, lo, co⟩ = 2 from kept_bad2 (.inr (.inr (.inr (.inr ⟨rfl, by simpa using t6⟩)))))
    clear hr hl he HDEC
    try clear hrest
    go_enter Try.func46, Try.ntmps46
    go_wp2_with (go_at_call 45; refine (inn_c _ _ _ _).mono ?_; rintro e w1 ⟨rfl, rfl⟩; first | rw [U1.out] | rw [U2.out] | rw [U4.out])
    go_ret
    exact ⟨ret_val (int_eq HF.out.symm), (Below.refl _ _).alloc (Nat.le_refl _) _⟩
  have hrest : Scu.keptFault ⟨vi, no, ca, lo, co⟩ = if 60 < lo.length then 1 else if co < 0 ∨ (lo.length : Int) < co then 2 else Scu.logFault lo :=
    kept_rest (k := ⟨vi, no, ca, lo, co⟩) (kept_ok2 (by have := V1.out; show ¬ vi < 0; omega) (by have := V1.out; show ¬ 1048576 < vi; omega) (by have := V2.out; show ¬ no < 0; omega) (by have := V2.out; show ¬ vi < no; omega) (H5.imp id (fun h => by simpa using h.2)))
  cases t7 : decide ((60 : Int) < (lo.length : Int)) with
  | true =>
    rcases H5 with rfl | ⟨rfl, t6⟩
    · have HF := Lib.hid (show Scu.keptFault ⟨vi, no, false, lo, co⟩ = 1 from by rw [hrest, if_pos (by have := of_decide_eq_true t7; omega)])
      clear hr hl he HDEC
      try clear hrest
      go_enter Try.func46, Try.ntmps46
      go_wp2_with (go_at_call 45; refine (inn_c _ _ _ _).mono ?_; rintro e w1 ⟨rfl, rfl⟩; first | rw [U1.out] | rw [U2.out] | rw [U4.out])
      go_ret
      exact ⟨ret_val (int_eq HF.out.symm), (Below.refl _ _).alloc (Nat.le_refl _) _⟩
    · have HF := Lib.hid (show Scu.keptFault ⟨vi, no, true, lo, co⟩ = 1 from by rw [hrest, if_pos (by have := of_decide_eq_true t7; omega)])
      clear hr hl he HDEC
      try clear hrest
      go_enter Try.func46, Try.ntmps46
      go_wp2_with (go_at_call 45; refine (inn_c _ _ _ _).mono ?_; rintro e w1 ⟨rfl, rfl⟩; first | rw [U1.out] | rw [U2.out] | rw [U4.out])
      go_ret
      exact ⟨ret_val (int_eq HF.out.symm), (Below.refl _ _).alloc (Nat.le_refl _) _⟩
  | false =>
  rw [if_neg (by have := of_decide_eq_false t7; omega)] at hrest
  cases t8 : inB co 0 (lo.length : Int) with
  | false =>
    have U4 := Lib.hid t8
    clear t8
    rcases H5 with rfl | ⟨rfl, t6⟩
    · have HF := Lib.hid (show Scu.keptFault ⟨vi, no, false, lo, co⟩ = 2 from by rw [hrest, if_pos (by have := inB_no U4.out; omega)])
      clear hr hl he HDEC
      try clear hrest
      go_enter Try.func46, Try.ntmps46
      go_wp2_with (go_at_call 45; refine (inn_c _ _ _ _).mono ?_; rintro e w1 ⟨rfl, rfl⟩; first | rw [U1.out] | rw [U2.out] | rw [U4.out])
      go_ret
      exact ⟨ret_val (int_eq HF.out.symm), (Below.refl _ _).alloc (Nat.le_refl _) _⟩
    · have HF := Lib.hid (show Scu.keptFault ⟨vi, no, true, lo, co⟩ = 2 from by rw [hrest, if_pos (by have := inB_no U4.out; omega)])
      clear hr hl he HDEC
      try clear hrest
      go_enter Try.func46, Try.ntmps46
      go_wp2_with (go_at_call 45; refine (inn_c _ _ _ _).mono ?_; rintro e w1 ⟨rfl, rfl⟩; first | rw [U1.out] | rw [U2.out] | rw [U4.out])
      go_ret
      exact ⟨ret_val (int_eq HF.out.symm), (Below.refl _ _).alloc (Nat.le_refl _) _⟩
  | true =>
  have U4 := Lib.hid t8
  rw [if_neg (by have := inB_yes t8; omega)] at hrest
  have HF := Lib.hid hrest
  have HE := Lib.hid he
  clear hrest he t8
  rcases H5 with rfl | ⟨rfl, t6⟩
  all_goals
    go_enter Try.func46, Try.ntmps46
    go_wp2_with (go_at_call 45; refine (inn_c _ _ _ _).mono ?_; rintro e w1 ⟨rfl, rfl⟩; first | rw [U1.out] | rw [U2.out] | rw [U4.out])
    go_loopw [3] (fun i wr => ∃ j : Nat, j ≤ lo.length ∧ i = .int .i64 j ∧ Hid (Scu.logFault lo = Scu.logFault (lo.drop j)) ∧ Below (w.heap.size + 1) (w.alloc (Obj.cells #[.int .i64 vi, .int .i64 no, _, .slice A lo.length c, .int .i64 co] 24)) wr) (fun i _ => lo.length - (intOf i).toNat)
    case atStart => exact ⟨0, Nat.zero_le _, rfl, by simp [Hid], Below.refl _ _⟩
    case round =>
      obtain ⟨j, hj, rfl, ht, hbw⟩ := hrel
      have hrw := (hr.alloc _).below (hbw.mono (by simp))
      have hbs := hbw.size
      simp only [World.size_alloc] at hbs
      obtain ⟨hcc, hzz⟩ := bcell hbw
      by_cases hlt : j < lo.length
      · have hlt' : (j : Int) < (lo.length : Int) := by omega
        obtain ⟨g, o, rfl, hg, hc⟩ := str_get hrw hlt
        have hn := log_next hlt
        generalize hd : Scu.decode lo[j] = q at hn
        obtain ⟨r, cd⟩ := q
        have HD := Lib.hid hd
        have HBW := Lib.hid hbw
        clear hd hbw
        cases hx : (cd != 0)
        · have hcd : cd = 0 := by simpa using hx
          have HX := Lib.hid (show Scu.logFault lo = Scu.logFault (lo.drop (j + 1)) by rw [ht.out, hn, if_neg (by simpa using hcd)])
          clear hn hcd
          go_wp2_with fail
          refine (HDEC.out _ _ _ _ HD.out).mono ?_; rintro e w1 ⟨rfl, h1⟩
          go_wp2
          have HB1 := Lib.hid (HBW.out.trans (h1.mono hbs))
          go_roundw
          case rel =>
            refine ⟨j + 1, hlt, by go_num, HX, ?_⟩
            exact (HB1.out.alloc (by have := HB1.out.size; simpa using this) _)
          case measure => simp only [intOf]; omega
        · have hcd : cd ≠ 0 := by simpa using hx
          have HX := Lib.hid (show Scu.keptFault ⟨vi, no, _, lo, co⟩ = cd by rw [HF.out, ht.out, hn, if_pos hcd])
          clear hn hcd
          go_wp2_with fail
          refine (HDEC.out _ _ _ _ HD.out).mono ?_; rintro e w1 ⟨rfl, h1⟩
          go_wp2
          go_ret
          refine ⟨ret_val (int_eq HX.out.symm), ?_⟩
          have hb1 := HBW.out.trans (h1.mono hbs)
          exact ((below_alloc w _).trans (hb1.mono (by simp))).alloc (by have := hb1.size; simp at this; omega) _
      · have hlt' : (lo.length : Int) ≤ (j : Int) := by omega
        have HX := Lib.hid (show Scu.keptFault ⟨vi, no, _, lo, co⟩ = 0 by rw [HF.out, ht.out, List.drop_of_length_le (by omega)]; rfl)
        have HBW := Lib.hid hbw
        clear hbw
        go_wp2
        go_ret
        exact ⟨ret_val (int_eq HX.out.symm), (below_alloc w _).trans (HBW.out.mono (by simp))⟩
theorem keptFault_c (lv : Value) (k : Scu.Kept) (w : World) (B : Nat) (hv : IsStrs w B lv k.log) :
    Calls Try.prog 46 #[.agg #[.int .i64 k.view, .int .i64 k.normal, .bool k.calm, lv, .int .i64 k.commit]] w fun e w' => e = .returned (.int .i64 (Scu.keptFault k)) ∧ Below w.heap.size w w' :=
  keptFault_x lv k.view k.normal k.calm k.log k.commit w B hv
end Go.Proofs.Ytjbhkmadcjnbfaa
/- Walks: copies of what is kept, and whether it is the same; the laws StageCopies and StageChecks. -/
namespace Go.Proofs.Ytjbhkmadcjnbfaa
open Go.RowKit
set_option maxHeartbeats 400000
set_option maxRecDepth 100000

def OwnStrs (w : World) (base : Nat) (v : Value) (xs : List Scu.Str) : Prop := w.ownsRow base 9 1 v xs.length (xs.map Value.string) ∧ xs.length * 16 ≤ R47 ∧ ∀ s ∈ xs, s.size ≤ R47
theorem OwnStrs.is {w : World} {base : Nat} {v : Value} {xs : List Scu.Str} (h : OwnStrs w base v xs) : IsStrs w 0 v xs := strs_own h.1 h.2.1 h.2.2
theorem OwnStrs.form {w : World} {base : Nat} {v : Value} {xs : List Scu.Str} (h : OwnStrs w base v xs) : ∃ A n c, v = .slice A n c := h.is.form
theorem OwnStrs.below {w w' : World} {base : Nat} {v : Value} {xs : List Scu.Str} (h : OwnStrs w base v xs) (hb : Below w.heap.size w w') : OwnStrs w' base v xs := ⟨own_below h.1 hb, h.2.1, h.2.2⟩
theorem OwnStrs.alloc {w : World} {base : Nat} {v : Value} {xs : List Scu.Str} (h : OwnStrs w base v xs) (o : Obj) : OwnStrs (w.alloc o) base v xs := h.below (below_alloc w o)
theorem OwnStrs.base_ {w : World} {base base' : Nat} {v : Value} {xs : List Scu.Str} (h : OwnStrs w base v xs) (hb : base' ≤ base) : OwnStrs w base' v xs := ⟨ownsRow_base h.1 hb, h.2.1, h.2.2⟩
theorem OwnStrs.set_ {w : World} {base : Nat} {v : Value} {xs : List Scu.Str} (h : OwnStrs w base v xs) {g i : Nat} {t : TypeId} {cs : Array Value} (hb : Blk w g t cs) (hne : t ≠ 9) (u : Value) : OwnStrs (w.setCell ⟨g, i, none⟩ u) base v xs := ⟨own_set h.1 hb hne u, h.2.1, h.2.2⟩
theorem own_same {w w' : World} {Ts : List TypeId} {B base : Nat} {e : TypeId} {size n : Nat} {v : Value} {xs : List Value} (h : w.ownsRow base e size v n xs) (ht : e ∈ Ts) (hs : Same Ts B w w') : w'.ownsRow base e size v n xs := by
  obtain ⟨h1, h2 | ⟨g, cap, cur, rfl, h3, h4, h5⟩⟩ := h
  · exact ⟨h1, .inl h2⟩
  · have hlt : g < w.heap.size := by
      rcases Nat.lt_or_ge g w.heap.size with hlt | hge
      · exact hlt
      · rw [Array.getElem?_eq_none hge] at h4; cases h4
    have := hs.keep g hlt (.inr ⟨_, _, _, ht, h4⟩)
    exact ⟨h1, .inr ⟨g, cap, cur, rfl, h3, by rw [this]; exact h4, h5⟩⟩
theorem OwnStrs.same {w w' : World} {B base : Nat} {v : Value} {xs : List Scu.Str} (h : OwnStrs w base v xs) (hs : Same [9] B w w') : OwnStrs w' base v xs := ⟨own_same h.1 (by simp) hs, h.2.1, h.2.2⟩
theorem Same.sets5 {Ts : List TypeId} {B g : Nat} {w : World} {t : TypeId} {cs : Array Value} (hb : Blk w g t cs) (hB : B ≤ g) (ht : t ∉ Ts) (a b c d e : Value) :
    Same Ts B w (((((w.setCell ⟨g, 0, none⟩ a).setCell ⟨g, 1, none⟩ b).setCell ⟨g, 2, none⟩ c).setCell ⟨g, 3, none⟩ d).setCell ⟨g, 4, none⟩ e) :=
  ((((Same.set_ hb hB ht 0 a).trans (Same.set_ (hb.set_ 0 a) hB ht 1 b)).trans (Same.set_ ((hb.set_ 0 a).set_ 1 b) hB ht 2 c)).trans (Same.set_ (((hb.set_ 0 a).set_ 1 b).set_ 2 c) hB ht 3 d)).trans (Same.set_ ((((hb.set_ 0 a).set_ 1 b).set_ 2 c).set_ 3 d) hB ht 4 e)
theorem below_set5 {B g : Nat} {w w1 : World} {a b c d e : Value} (h : Below B w w1) (hg : B ≤ g) :
    Below B w (((((w1.setCell ⟨g, 0, none⟩ a).setCell ⟨g, 1, none⟩ b).setCell ⟨g, 2, none⟩ c).setCell ⟨g, 3, none⟩ d).setCell ⟨g, 4, none⟩ e) :=
  ((((h.setCell (p := ⟨g, 0, none⟩) hg _).setCell (p := ⟨g, 1, none⟩) hg _).setCell (p := ⟨g, 2, none⟩) hg _).setCell (p := ⟨g, 3, none⟩) hg _).setCell (p := ⟨g, 4, none⟩) hg _
def KeptRet (w : World) (base : Nat) (k : Scu.Kept) (e : Ending) : Prop := ∃ lv, e = .returned (.agg #[.int .i64 k.view, .int .i64 k.normal, .bool k.calm, lv, .int .i64 k.commit]) ∧ OwnStrs w base lv k.log

theorem stageCopy_c (lv : Value) (k : Scu.Kept) (w : World) (B : Nat) (hv : IsStrs w B lv k.log) :
    Calls Try.prog 57 #[.agg #[.int .i64 k.view, .int .i64 k.normal, .bool k.calm, lv, .int .i64 k.commit]] w fun e w' => KeptRet w' w.heap.size k e ∧ Below w.heap.size w w' := by
  have HV := Lib.hid hv
  obtain ⟨A, n, c, rfl⟩ := hv.form
  have hb0 := Blk.new w 24 #[.int .i64 k.view, .int .i64 k.normal, .bool k.calm, .slice A n c, .int .i64 k.commit]
  clear hv
  go_enter Try.func57, Try.ntmps57
  go_wp2_with fail
  refine (cloneStrs_c _ k.log _ B ((HV.out.alloc _).alloc _)).mono ?_; rintro e w1 ⟨⟨u, rfl, hu⟩, h1⟩
  obtain ⟨hc, hz⟩ := bcell h1
  have hsz : w.heap.size + 1 < w1.heap.size := by have := h1.size; simp at this; omega
  have hsz' : w.heap.size < w1.heap.size := by omega
  have HB1 := Lib.hid ((hb0.alloc (Obj.cells #[.int .i64 0, .int .i64 0, .bool false, .slice none 0 0, .int .i64 0] 24)).same h1)
  have HR1 := Lib.hid ((Blk.new (w.alloc (Obj.cells #[.int .i64 k.view, .int .i64 k.normal, .bool k.calm, .slice A n c, .int .i64 k.commit] 24)) 24 #[.int .i64 0, .int .i64 0, .bool false, .slice none 0 0, .int .i64 0]).same h1)
  obtain ⟨A2, c2, rfl, _, _, _, _⟩ := rd_own hu
  have hB1 : Below w.heap.size w w1 := (((Below.refl _ _).alloc (Nat.le_refl _) _).alloc (by simp) _).trans (h1.mono (by simp; omega))
  have HU := Lib.hid (show OwnStrs w1 _ _ k.log from ⟨hu, HV.out.len, HV.out.each⟩)
  clear hu hb0
  have hq := HB1.out.set_ 3 (.slice A2 k.log.length c2)
  have hr := HR1.out.far (p := ⟨w.heap.size, 3, none⟩) (by simp) (.slice A2 k.log.length c2)
  simp only [World.size_alloc] at hr
  have hr5 := ((((hr.set_ 0 (.int .i64 k.view)).set_ 1 (.int .i64 k.normal)).set_ 2 (.bool k.calm)).set_ 3 (.slice A2 k.log.length c2)).set_ 4 (.int .i64 k.commit)
  have u0 := hq.cell 0
  have u1 := hq.cell 1
  have u2 := hq.cell 2
  have u3 := hq.cell 3
  have u4 := hq.cell 4
  simp at u0 u1 u2 u3 u4
  have v0 := hr.cell 0
  have v1 := hr.cell 1
  have v2 := hr.cell 2
  have v3 := hr.cell 3
  have v4 := hr.cell 4
  simp at v0 v1 v2 v3 v4
  have x0 := hr5.cell 0
  have x1 := hr5.cell 1
  have x2 := hr5.cell 2
  have x3 := hr5.cell 3
  have x4 := hr5.cell 4
  simp at x0 x1 x2 x3 x4
  have uz := hq.frozen
  have vz := hr.frozen
  have HQ := Lib.hid (And.intro hq (And.intro hr hr5))
  clear hq hr hr5
  go_wp2
  refine bodyPost_ret (v := .agg #[.int .i64 k.view, .int .i64 k.normal, .bool k.calm, .slice A2 k.log.length c2, .int .i64 k.commit]) (by simp [results, Try.results57, go_sem, x0, x1, x2, x3, x4]) rfl ?_
  refine ⟨⟨_, rfl, ?_⟩, ?_⟩
  · exact ((HU.out.base_ (by simp; omega)).same (Same.set_ (B := 0) HB1.out (Nat.zero_le _) (by decide) 3 _)).same (Same.sets5 (B := 0) HQ.out.2.1 (Nat.zero_le _) (by decide) _ _ _ _ _)
  · exact below_set5 (hB1.setCell (p := ⟨w.heap.size, 3, none⟩) (Nat.le_refl _) _) (Nat.le_succ _)

theorem keptCopy_c (lv : Value) (k : Scu.Kept) (w : World) (B : Nat) (hv : IsStrs w B lv k.log) :
    Calls Try.prog 18 #[.agg #[.int .i64 k.view, .int .i64 k.normal, .bool k.calm, lv, .int .i64 k.commit]] w fun e w' => KeptRet w' w.heap.size k e ∧ Below w.heap.size w w' := by
  obtain ⟨⟨A, c, rfl, _, hr⟩, hl, he⟩ := hv
  have hl' := hl
  unfold R47 at hl'
  have hb0 := Blk.new w 24 #[.int .i64 k.view, .int .i64 k.normal, .bool k.calm, .slice A k.log.length c, .int .i64 k.commit]
  have hs0 : Src1 ((w.alloc (Obj.cells #[.int .i64 k.view, .int .i64 k.normal, .bool k.calm, .slice A k.log.length c, .int .i64 k.commit] 24)).alloc (Obj.cells #[.int .i64 0, .int .i64 0, .bool false, .slice none 0 0, .int .i64 0] 24)) 1 (.slice A k.log.length c) k.log.length (k.log.map Value.string) :=
    src_of_rd ((hr.alloc _).alloc _) (by simp) (fun e => by subst e; have := rd_none hr; simpa using this)
  have HS0 := Lib.hid hs0
  have HEL := Lib.hid (And.intro hl he)
  have HB0 := Lib.hid hb0
  clear hs0 hr he hl hb0
  go_enter Try.func18, Try.ntmps18
  go_wp2_with
    (at_builtin
     refine list_app _ rfl (.const (.slice none 0 0)) (.tmp 4) 22 rfl el_strs w.heap.size (.slice none 0 0) 0 [] rfl (World.ownsRow_nil _ _ _ _) (.slice A k.log.length c) k.log.length (k.log.map Value.string) rfl HS0.out (one_strs _) (by unfold maxLen; omega) (by omega) (by simp; omega) ?_
     intro u1 w1 hu hg1 _
     have h1 : Below ((w.alloc (Obj.cells #[.int .i64 k.view, .int .i64 k.normal, .bool k.calm, .slice A k.log.length c, .int .i64 k.commit] 24)).alloc (Obj.cells #[.int .i64 0, .int .i64 0, .bool false, .slice none 0 0, .int .i64 0] 24)).heap.size ((w.alloc (Obj.cells #[.int .i64 k.view, .int .i64 k.normal, .bool k.calm, .slice A k.log.length c, .int .i64 k.commit] 24)).alloc (Obj.cells #[.int .i64 0, .int .i64 0, .bool false, .slice none 0 0, .int .i64 0] 24)) w1 := below_grown hg1 (Nat.le_refl _) (fun q hq => by cases hq)
     have hu : w1.ownsRow w.heap.size 9 1 u1 k.log.length (k.log.map Value.string) := (by simpa only [Nat.zero_add, List.nil_append] using hu)
     have HU := Lib.hid (show OwnStrs w1 w.heap.size u1 k.log from ⟨hu, HEL.out.1, HEL.out.2⟩)
     obtain ⟨A2, c2, rfl, _, _, _, _⟩ := rd_own hu
     have hB1 : Below w.heap.size w w1 := (((Below.refl _ _).alloc (Nat.le_refl _) _).alloc (by simp) _).trans (h1.mono (by simp; omega))
     have HB1 := Lib.hid ((HB0.out.alloc (Obj.cells #[.int .i64 0, .int .i64 0, .bool false, .slice none 0 0, .int .i64 0] 24)).same h1)
     have HR1 := Lib.hid ((Blk.new (w.alloc (Obj.cells #[.int .i64 k.view, .int .i64 k.normal, .bool k.calm, .slice A k.log.length c, .int .i64 k.commit] 24)) 24 #[.int .i64 0, .int .i64 0, .bool false, .slice none 0 0, .int .i64 0]).same h1)
     have hb3 := HB1.out.cell 3
     simp at hb3
     have hbz := HB1.out.frozen
     have hq := HB1.out.set_ 3 (.slice A2 k.log.length c2)
     have hr := HR1.out.far (p := ⟨w.heap.size, 3, none⟩) (by simp) (.slice A2 k.log.length c2)
     simp only [World.size_alloc] at hr
     have hr5 := ((((hr.set_ 0 (.int .i64 k.view)).set_ 1 (.int .i64 k.normal)).set_ 2 (.bool k.calm)).set_ 3 (.slice A2 k.log.length c2)).set_ 4 (.int .i64 k.commit)
     have u0 := hq.cell 0
     have u1 := hq.cell 1
     have u2 := hq.cell 2
     have u3 := hq.cell 3
     have u4 := hq.cell 4
     simp at u0 u1 u2 u3 u4
     have v0 := hr.cell 0
     have v1 := hr.cell 1
     have v2 := hr.cell 2
     have v3 := hr.cell 3
     have v4 := hr.cell 4
     simp at v0 v1 v2 v3 v4
     have x0 := hr5.cell 0
     have x1 := hr5.cell 1
     have x2 := hr5.cell 2
     have x3 := hr5.cell 3
     have x4 := hr5.cell 4
     simp at x0 x1 x2 x3 x4
     have uz := hq.frozen
     have vz := hr.frozen
     have HQ := Lib.hid (And.intro hq (And.intro hr hr5))
     clear hq hr hr5 hg1 h1 hu)
  refine bodyPost_ret (v := .agg #[.int .i64 k.view, .int .i64 k.normal, .bool k.calm, .slice A2 k.log.length c2, .int .i64 k.commit]) (by simp [results, Try.results18, go_sem, x0, x1, x2, x3, x4]) rfl ?_
  refine ⟨⟨_, rfl, ?_⟩, ?_⟩
  · exact ((HU.out.base_ (by simp)).same (Same.set_ (B := 0) HB1.out (Nat.zero_le _) (by decide) 3 _)).same (Same.sets5 (B := 0) HQ.out.2.1 (Nat.zero_le _) (by decide) _ _ _ _ _)
  · exact below_set5 (hB1.setCell (p := ⟨w.heap.size, 3, none⟩) (Nat.le_refl _) _) (Nat.le_succ _)
end Go.Proofs.Ytjbhkmadcjnbfaa
/- Walks: whether two that are kept are the same; the laws StageCopies and StageChecks. -/
namespace Go.Proofs.Ytjbhkmadcjnbfaa
open Go.RowKit
set_option maxHeartbeats 400000
set_option maxRecDepth 100000

theorem sameKept_x (lv lu : Value) (va na : Int) (ca : Bool) (la : List Scu.Str) (coa vb nb : Int) (cb : Bool) (lb : List Scu.Str) (cob : Int) (w : World) (B B' : Nat) (hv : IsStrs w B lv la) (hu : IsStrs w B' lu lb) :
    Calls Try.prog 29 #[.agg #[.int .i64 va, .int .i64 na, .bool ca, lv, .int .i64 coa], .agg #[.int .i64 vb, .int .i64 nb, .bool cb, lu, .int .i64 cob]] w fun e w' =>
      e = .returned (.bool (decide ((⟨va, na, ca, la, coa⟩ : Scu.Kept) = ⟨vb, nb, cb, lb, cob⟩))) ∧ Below w.heap.size w w' := by
  obtain ⟨⟨A, c, rfl, _, hr⟩, hl, _⟩ := hv
  obtain ⟨⟨A', c', rfl, _, hr'⟩, hl', _⟩ := hu
  unfold R47 at hl hl'
  cases t1 : (va != vb) with
  | true =>
    have HNE := Lib.hid (show decide ((⟨va, na, ca, la, coa⟩ : Scu.Kept) = ⟨vb, nb, cb, lb, cob⟩) = false from decide_eq_false_iff_not.2 (fun e => by injection e with e1 e2 e3 e4 e5; exact (bne_iff_ne.1 t1) e1))
    clear hr hr'
    go_enter Try.func29, Try.ntmps29
    go_wp2
    go_ret
    exact ⟨ret_val (bool_eq HNE.out.symm), ((Below.refl _ _).alloc (Nat.le_refl _) _).alloc (by simp) _⟩
  | false =>
  cases t2 : (na != nb) with
  | true =>
    have HNE := Lib.hid (show decide ((⟨va, na, ca, la, coa⟩ : Scu.Kept) = ⟨vb, nb, cb, lb, cob⟩) = false from decide_eq_false_iff_not.2 (fun e => by injection e with e1 e2 e3 e4 e5; exact (bne_iff_ne.1 t2) e2))
    clear hr hr'
    go_enter Try.func29, Try.ntmps29
    go_wp2
    go_ret
    exact ⟨ret_val (bool_eq HNE.out.symm), ((Below.refl _ _).alloc (Nat.le_refl _) _).alloc (by simp) _⟩
  | false =>
  have H3 : (ca = true ∧ cb = false) ∨ (ca = false ∧ cb = true) ∨ (ca = true ∧ cb = true) ∨ (ca = false ∧ cb = false) := by cases ca <;> cases cb <;> simp
  rcases H3 with ⟨rfl, rfl⟩ | ⟨rfl, rfl⟩ | H3
  · have HNE := Lib.hid (show decide ((⟨va, na, true, la, coa⟩ : Scu.Kept) = ⟨vb, nb, false, lb, cob⟩) = false from decide_eq_false_iff_not.2 (fun e => by injection e with e1 e2 e3 e4 e5; cases e3))
    clear hr hr'
    go_enter Try.func29, Try.ntmps29
    go_wp2
    go_ret
    exact ⟨ret_val (bool_eq HNE.out.symm), ((Below.refl _ _).alloc (Nat.le_refl _) _).alloc (by simp) _⟩
  · have HNE := Lib.hid (show decide ((⟨va, na, false, la, coa⟩ : Scu.Kept) = ⟨vb, nb, true, lb, cob⟩) = false from decide_eq_false_iff_not.2 (fun e => by injection e with e1 e2 e3 e4 e5; cases e3))
    clear hr hr'
    go_enter Try.func29, Try.ntmps29
    go_wp2
    go_ret
    exact ⟨ret_val (bool_eq HNE.out.symm), ((Below.refl _ _).alloc (Nat.le_refl _) _).alloc (by simp) _⟩
  cases t4 : (coa != cob) with
  | true =>
    rcases H3 with ⟨rfl, rfl⟩ | ⟨rfl, rfl⟩
    · have HNE := Lib.hid (show decide ((⟨va, na, true, la, coa⟩ : Scu.Kept) = ⟨vb, nb, true, lb, cob⟩) = false from decide_eq_false_iff_not.2 (fun e => by injection e with e1 e2 e3 e4 e5; exact (bne_iff_ne.1 t4) e5))
      clear hr hr'
      go_enter Try.func29, Try.ntmps29
      go_wp2
      go_ret
      exact ⟨ret_val (bool_eq HNE.out.symm), ((Below.refl _ _).alloc (Nat.le_refl _) _).alloc (by simp) _⟩
    · have HNE := Lib.hid (show decide ((⟨va, na, false, la, coa⟩ : Scu.Kept) = ⟨vb, nb, false, lb, cob⟩) = false from decide_eq_false_iff_not.2 (fun e => by injection e with e1 e2 e3 e4 e5; exact (bne_iff_ne.1 t4) e5))
      clear hr hr'
      go_enter Try.func29, Try.ntmps29
      go_wp2
      go_ret
      exact ⟨ret_val (bool_eq HNE.out.symm), ((Below.refl _ _).alloc (Nat.le_refl _) _).alloc (by simp) _⟩
  | false =>
  cases t5 : ((la.length : Int) != (lb.length : Int)) with
  | true =>
    rcases H3 with ⟨rfl, rfl⟩ | ⟨rfl, rfl⟩
    · have HNE := Lib.hid (show decide ((⟨va, na, true, la, coa⟩ : Scu.Kept) = ⟨vb, nb, true, lb, cob⟩) = false from decide_eq_false_iff_not.2 (fun e => by injection e with e1 e2 e3 e4 e5; exact (bne_iff_ne.1 t5) (by rw [e4])))
      clear hr hr'
      go_enter Try.func29, Try.ntmps29
      go_wp2
      go_ret
      exact ⟨ret_val (bool_eq HNE.out.symm), ((Below.refl _ _).alloc (Nat.le_refl _) _).alloc (by simp) _⟩
    · have HNE := Lib.hid (show decide ((⟨va, na, false, la, coa⟩ : Scu.Kept) = ⟨vb, nb, false, lb, cob⟩) = false from decide_eq_false_iff_not.2 (fun e => by injection e with e1 e2 e3 e4 e5; exact (bne_iff_ne.1 t5) (by rw [e4])))
      clear hr hr'
      go_enter Try.func29, Try.ntmps29
      go_wp2
      go_ret
      exact ⟨ret_val (bool_eq HNE.out.symm), ((Below.refl _ _).alloc (Nat.le_refl _) _).alloc (by simp) _⟩
  | false =>
  have HE := Lib.hid (show la.length = lb.length by have h5 : (la.length : Int) = lb.length := by simpa using t5
                                                    omega)
  have HN := Lib.hid (show va = vb ∧ na = nb ∧ coa = cob from ⟨by simpa using t1, by simpa using t2, by simpa using t4⟩)
  rcases H3 with ⟨rfl, rfl⟩ | ⟨rfl, rfl⟩
  all_goals
    go_enter Try.func29, Try.ntmps29
    go_wp2
    go_loopw [5] (fun i wr => ∃ k : Nat, k ≤ la.length ∧ i = .int .i64 k ∧ Hid (la.take k = lb.take k) ∧ ∃ n, wr = ((w.alloc (Obj.cells #[.int .i64 va, .int .i64 na, _, .slice A la.length c, .int .i64 coa] 24)).alloc (Obj.cells #[.int .i64 vb, .int .i64 nb, _, .slice A' lb.length c', .int .i64 cob] 24)).drewN n) (fun i _ => la.length - (intOf i).toNat)
    case atStart => exact ⟨0, Nat.zero_le _, rfl, rfl, 0, rfl⟩
    case round =>
      obtain ⟨k, hk, rfl, ht, n, rfl⟩ := hrel
      by_cases hlt : k < la.length
      · have hlt' : (k : Int) < (la.length : Int) := by omega
        have hy : k < lb.length := by have := HE.out; omega
        have hy' : (k : Int) < (lb.length : Int) := by omega
        obtain ⟨g, o, rfl, hg, hc⟩ := str_get hr hlt
        obtain ⟨g', o', rfl, hg', hc'⟩ := str_get hr' hy
        by_cases hx : la[k] = lb[k]
        · have hb : (la[k].toList == lb[k].toList) = true := by rw [str_beq]; simp [hx]
          have HX := Lib.hid hx
          clear hx
          go_wp2
          go_quiet (fail)
          go_wp2
          exact ⟨⟨k + 1, hlt, by go_num, take_succ_eq ht.out hlt hy HX.out, _, rfl⟩, by simp only [intOf]; omega⟩
        · have hb : (la[k].toList == lb[k].toList) = false := by rw [str_beq]; simp [hx]
          have HNE := Lib.hid (show ∀ cc dd : Bool, decide ((⟨va, na, cc, la, coa⟩ : Scu.Kept) = ⟨vb, nb, dd, lb, cob⟩) = false from fun cc dd => decide_eq_false_iff_not.2 (fun e => by
            injection e with e1 e2 e3 e4 e5
            subst e4
            exact hx rfl))
          clear hx
          go_wp2
          go_quiet (fail)
          go_wp2
          go_ret
          exact ⟨ret_val (bool_eq (HNE.out _ _).symm), below_drewN (below_drewN (((Below.refl _ _).alloc (Nat.le_refl _) _).alloc (by simp) _) _) _⟩
      · have hlt' : (la.length : Int) ≤ (k : Int) := by omega
        have HEQ := Lib.hid (show ∀ cc : Bool, decide ((⟨va, na, cc, la, coa⟩ : Scu.Kept) = ⟨vb, nb, cc, lb, cob⟩) = true from fun cc => decide_eq_true_iff.2 (by
          have h1 := ht.out
          rw [List.take_of_length_le (by omega), List.take_of_length_le (by have := HE.out; omega)] at h1
          obtain ⟨e1, e2, e5⟩ := HN.out
          rw [e1, e2, e5, h1]))
        go_wp2
        go_ret
        exact ⟨ret_val (bool_eq (HEQ.out _).symm), below_drewN (((Below.refl _ _).alloc (Nat.le_refl _) _).alloc (by simp) _) _⟩
theorem sameKept_c (lv lu : Value) (a b : Scu.Kept) (w : World) (B B' : Nat) (hv : IsStrs w B lv a.log) (hu : IsStrs w B' lu b.log) :
    Calls Try.prog 29 #[.agg #[.int .i64 a.view, .int .i64 a.normal, .bool a.calm, lv, .int .i64 a.commit], .agg #[.int .i64 b.view, .int .i64 b.normal, .bool b.calm, lu, .int .i64 b.commit]] w fun e w' =>
      e = .returned (.bool (decide (a = b))) ∧ Below w.heap.size w w' :=
  sameKept_x lv lu a.view a.normal a.calm a.log a.commit b.view b.normal b.calm b.log b.commit w B B' hv hu

end Go.Proofs.Ytjbhkmadcjnbfaa
/- A law for regions that draw their order: what holds ahead of, and behind, each operation, in whatever order they come. -/
namespace Go.Proofs.Ytjbhkmadcjnbfaa
open Go.RowKit
set_option maxHeartbeats 400000

theorem mem_ready {md : Region.Mode} {ops : Array Oper} {listed : Array Bool} {i : Nat} (h : i ∈ Region.ready md ops listed) :
    i < ops.size ∧ listed.getD i true = false ∧ ((ops[i]?).map (·.after.all fun e => !Region.binds md e || listed.getD e.on false)).getD false = true := by
  unfold Region.ready at h
  rw [List.mem_filter] at h
  obtain ⟨h1, h2⟩ := h
  simp only [Bool.and_eq_true, Bool.not_eq_true'] at h2
  exact ⟨by simpa using h1, h2.1, h2.2⟩
def left_ (listed : Array Bool) : Nat := listed.countP (!·)
theorem getD_lt {listed : Array Bool} {i : Nat} (h : listed.getD i true = false) : ∃ hi : i < listed.size, listed[i] = false := by
  rcases Nat.lt_or_ge i listed.size with hlt | hge
  · exact ⟨hlt, by rw [← h]; simp [Array.getD, hlt]⟩
  · rw [Array.getD_eq_getD_getElem?, Array.getElem?_eq_none hge] at h
    cases h
theorem left_set {listed : Array Bool} {i : Nat} (h : listed.getD i true = false) : left_ (listed.setIfInBounds i true) + 1 ≤ left_ listed := by
  obtain ⟨hi, hf⟩ := getD_lt h
  unfold left_
  rw [Array.setIfInBounds_def, dif_pos hi, Array.countP_set]
  have : 0 < listed.countP (!·) := by
    rw [Array.countP_pos_iff]
    exact ⟨false, by rw [← hf]; exact Array.getElem_mem hi, rfl⟩
  rw [hf]
  simp
  omega
theorem left_zero {md : Region.Mode} {ops : Array Oper} {listed : Array Bool} (h : left_ listed = 0) : Region.ready md ops listed = [] := by
  rw [List.eq_nil_iff_forall_not_mem]
  intro i hi
  have := left_set (mem_ready hi).2.1
  omega
section
variable {P : Program} {ops : Array Oper} {Q : Exit → Act → World → Prop} {md : Region.Mode}
theorem wpAny_inv (I : Array Bool → Act → World → Prop)
    (hstep : ∀ listed a w i, I listed a w → i ∈ Region.ready md ops listed → wpOp P ops Q i (fun a' w' => I (listed.setIfInBounds i true) a' w') a w)
    (hend : ∀ listed a w, I listed a w → Region.ready md ops listed = [] → Q .normal a w) :
    ∀ fuel listed a w, left_ listed ≤ fuel → I listed a w → wpAny P md ops Q fuel listed a w
  | 0, listed, a, w, hl, hI => by
    have hr := left_zero (md := md) (ops := ops) (show left_ listed = 0 by omega)
    exact ⟨hr, hend listed a w hI hr⟩
  | fuel + 1, listed, a, w, hl, hI => by
    refine ⟨hend listed a w hI, fun i hi => ?_⟩
    have hlt := left_set (mem_ready hi).2.1
    exact wpOp_mono (fun a' w' h => wpAny_inv I hstep hend fuel _ a' w' (by omega) h) (hstep listed a w i hI hi)
/-- THE LAW. -/
theorem wp_region_inv {id : Nat} {a : Act} {w : World} (hm : P.follows .mixedOrders = true) (I : Array Bool → Act → World → Prop)
    (h0 : I (Array.replicate ops.size false) a { w with drawn := w.drawn + 1 })
    (hstep : ∀ listed a w i, I listed a w → i ∈ Region.ready .any ops listed → wpOp P ops Q i (fun a' w' => I (listed.setIfInBounds i true) a' w') a w)
    (hend : ∀ listed a w, I listed a w → Region.ready .any ops listed = [] → Q .normal a w) : (Code.region id ops true).wp P Q a w :=
  wp_region_any hm (wpAny_inv I hstep hend _ _ _ _ (by unfold left_; simp [Array.countP_replicate]) h0)
theorem wpOp_go {i : Nat} {o : Oper} {K : Act → World → Prop} {a : Act} {w : World} (hi : ops[i]? = some o) (hg : o.guard = none) (h : o.wp P a w K Q) : wpOp P ops Q i K a w := by
  unfold wpOp
  rw [hi]
  have hw : Region.wanted o (yielded ops a.tmps) = true := by simp [Region.wanted, hg]
  simp only [hw, if_true]
  exact .inl h
end
/-- whether k is done -/
def Dn (listed : Array Bool) (k : Nat) : Prop := listed.getD k false = true
theorem dn_set {listed : Array Bool} {i k : Nat} (h : Dn (listed.setIfInBounds i true) k) : k = i ∨ Dn listed k := by
  unfold Dn at *
  by_cases e : k = i
  · exact .inl e
  · refine .inr ?_
    rw [Array.getD_eq_getD_getElem?, Array.getElem?_setIfInBounds_ne (fun h => e h.symm), ← Array.getD_eq_getD_getElem?] at h
    exact h
theorem dn_old {listed : Array Bool} {i k : Nat} (h : Dn (listed.setIfInBounds i true) k) (hne : k ≠ i) : Dn listed k := (dn_set h).resolve_left hne
theorem not_dn0 {n k : Nat} (h : Dn (Array.replicate n false) k) : False := by
  unfold Dn at h
  rw [Array.getD_eq_getD_getElem?] at h
  by_cases hk : k < n
  · simp [hk] at h
  · rw [Array.getElem?_eq_none (by simpa using hk)] at h
    cases h
/-- all are done, where none is ready and the edges point back -/
theorem all_done {ops : Array Oper} {listed : Array Bool} (hb : (List.range ops.size).all (fun i => ((ops[i]?).map fun o => o.after.all fun e => decide (e.on < i)).getD false) = true)
    (hl : listed.size = ops.size) (h : Region.ready .any ops listed = []) : ∀ k, k < ops.size → Dn listed k := by
  intro k
  induction k using Nat.strongRecOn with
  | ind k ih =>
    intro hk
    unfold Dn
    cases hd : listed.getD k false with
    | true => rfl
    | false =>
      exfalso
      have hkt : listed.getD k true = false := by
        rw [Array.getD_eq_getD_getElem?] at hd ⊢
        rw [Array.getElem?_eq_getElem (by omega)] at hd ⊢
        exact hd
      have hb' := List.all_eq_true.1 hb k (by simpa using hk)
      rw [Array.getElem?_eq_getElem hk] at hb'
      simp only [Option.map_some, Option.getD_some, Array.all_eq_true', decide_eq_true_eq] at hb'
      have : k ∈ Region.ready .any ops listed := by
        unfold Region.ready
        rw [List.mem_filter]
        refine ⟨by simpa using hk, ?_⟩
        rw [hkt, Array.getElem?_eq_getElem hk]
        simp only [Bool.not_false, Bool.true_and, Option.map_some, Option.getD_some, Array.all_eq_true']
        intro e he
        have hlt := hb' e he
        have := ih e.on hlt (by omega)
        unfold Dn at this
        rw [this]
        simp
      rw [h] at this
      cases this
end Go.Proofs.Ytjbhkmadcjnbfaa

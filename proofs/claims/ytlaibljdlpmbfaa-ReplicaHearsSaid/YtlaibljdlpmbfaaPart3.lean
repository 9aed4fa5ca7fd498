/- Part 3: words and walks under the law 'ReplicaHears'. -/
import Derived.Test.YtlaibljdlpmbfaaPart2
import Derived.Test.YtlaibljdlpmbfaaPart1
import Derived.Orders
set_option linter.unusedVariables false
set_option linter.unusedSimpArgs false
/- Walks: what may be kept, its copies, and whether it is the same; the laws StageCopies and StageChecks. -/
namespace Go.Proofs.Ytlaibljdlpmbfaa
open Go.RowKit Go.ChangeShapes Go.WideShapes Go.ChangeAt
set_option maxHeartbeats 400000
set_option maxRecDepth 100000

def vKept (lv : Value) (k : Scu.Kept) : Value := .agg #[.int .i64 k.view, .int .i64 k.normal, .bool k.calm, lv, .int .i64 k.commit]
theorem cells_kept : Try.prog.cellsOf 24 = 5 := by kernel_rfl
theorem bytes_kept : Try.prog.bytesOf 24 = 56 := by kernel_rfl
def KeptEl (w : World) (B : Nat) (cs : List Value) (k : Scu.Kept) : Prop := ∃ lv, cs = [.int .i64 k.view, .int .i64 k.normal, .bool k.calm, lv, .int .i64 k.commit] ∧ IsStrs w B lv k.log
section
variable {H : Type} {enc : TypeId × Value → H} {w : World} {base : Nat} {spare : Nat → Bool} {held : Bool} {n : Nat}
theorem trod_kept {cs : List Value} {x : DataW H × List MemPlace} (h : DataW.trod enc Try.prog w base spare held n 24 cs = some x) (hw : ∀ k ∈ x.1.weights Try.prog 24, k ≤ reachBytes) : ∃ k, KeptEl w w.heap.size cs k := by
  obtain ⟨xs, m, _, hxe, hl, hxl, hf⟩ := DataW.trod_struct Try.underlying24 h
  rw [cells_kept] at hl
  match cs, hl with
  | [c0, c1, c2, c3, c4], _ =>
    have hxl5 : xs.length = 5 := hxl
    match xs, hxl5 with
    | [z0, z1, z2, z3, z4], _ =>
      subst hxe
      have hwt : ∀ k ∈ DataW.weights Try.prog 24 (DataW.agg [z0.1, z1.1, z2.1, z3.1, z4.1]), k ≤ reachBytes := hw
      simp only [DataW.weights, Try.underlying24, DataW.weightsEach, List.map_cons, List.map_nil, List.mem_append] at hwt
      obtain ⟨n0, h0, _⟩ := DataW.trod_int Try.underlying3 (hf 0 _ rfl)
      obtain ⟨n1, h1, _⟩ := DataW.trod_int Try.underlying3 (hf 1 _ rfl)
      obtain ⟨b2, h2, _⟩ := DataW.trod_bool Try.underlying4 (hf 2 _ rfl)
      obtain ⟨n4, h4, _⟩ := DataW.trod_int Try.underlying3 (hf 4 _ rfl)
      have h3 := hf 3 _ rfl
      simp [cells_int, cells_bool, cells_strs] at h0 h1 h2 h3 h4
      subst h0 h1 h2 h4
      obtain ⟨ls, h3'⟩ := trod_strs h3 (fun k hk => hwt k (.inr (.inr (.inr (.inl hk)))))
      exact ⟨⟨n0, n1, b2, ls, n4⟩, c3, rfl, h3'⟩
def IsKeptV (w : World) (v : Value) (x : Scu.Kept) : Prop := ∃ lv, v = .agg #[.int .i64 x.view, .int .i64 x.normal, .bool x.calm, lv, .int .i64 x.commit] ∧ IsStrs w w.heap.size lv x.log
theorem openS_Kept {v : Value} {d : DataW H} {p : List MemPlace} {b0 : Nat} (hv : Value.okWide Try.prog w .any b0 24 v) (h : DataW.Trod enc Try.prog w base spare held 24 v d p)
    (hw : ∀ k ∈ d.weights Try.prog 24, k ≤ reachBytes) : ∃ y, IsKeptV w v y := by
  obtain ⟨cs, rfl, _⟩ := okWide_struct Try.underlying24 hv
  obtain ⟨fuel, hf⟩ := h
  obtain ⟨k, lv, e, hy⟩ := trod_kept hf hw
  refine ⟨k, lv, ?_, hy⟩
  have : cs = #[.int .i64 k.view, .int .i64 k.normal, .bool k.calm, lv, .int .i64 k.commit] := by
    apply Array.toList_inj.1
    simpa [Value.cells] using e
  rw [this]
end

/- what may be kept -/
theorem kept_bad2 {k : Scu.Kept} (h : k.view < 0 ∨ 1048576 < k.view ∨ k.normal < 0 ∨ k.view < k.normal ∨ (k.calm = true ∧ k.normal ≠ k.view)) : Scu.keptFault k = 2 := if_pos h
theorem kept_ok2 {k : Scu.Kept} (h1 : ¬ k.view < 0) (h2 : ¬ 1048576 < k.view) (h3 : ¬ k.normal < 0) (h4 : ¬ k.view < k.normal) (h5 : k.calm = false ∨ k.normal = k.view) :
    ¬ (k.view < 0 ∨ 1048576 < k.view ∨ k.normal < 0 ∨ k.view < k.normal ∨ (k.calm = true ∧ k.normal ≠ k.view)) := by
  rintro (h | h | h | h | ⟨h, h'⟩)
  · exact h1 h
  · exact h2 h
  · exact h3 h
  · exact h4 h
  · rcases h5 with h5 | h5
    · rw [h] at h5; cases h5
    · exact h' h5
theorem kept_rest {k : Scu.Kept} (h : ¬ (k.view < 0 ∨ 1048576 < k.view ∨ k.normal < 0 ∨ k.view < k.normal ∨ (k.calm = true ∧ k.normal ≠ k.view))) :
    Scu.keptFault k = if 60 < k.log.length then 1 else if k.commit < 0 ∨ (k.log.length : Int) < k.commit then 2 else Scu.logFault k.log := if_neg h
theorem log_next {l : List Scu.Str} {k : Nat} (h : k < l.length) : Scu.logFault (l.drop k) = if (Scu.decode l[k]).2 ≠ 0 then (Scu.decode l[k]).2 else Scu.logFault (l.drop (k + 1)) := by
  rw [List.drop_eq_getElem_cons h]
  rfl
theorem decode_a (s : ByteArray) (w : World) (r : Scu.Request) (c : Int) (h : Scu.decode s = (r, c)) :
    Calls Try.prog 44 #[.string s] w fun e w' => e = .returned (.tuple #[.agg #[.int .i64 r.client, .int .i64 r.num, .int .i64 r.op.kind, .int .i64 r.op.at_, .int .i64 r.op.snap, .string r.op.data], .int .i64 c]) ∧ Below w.heap.size w w' := by
  have := decode_c s w
  rw [h] at this
  exact this
theorem entryOf_a (s : ByteArray) (w : World) (r : Scu.Request) (c : Int) (h : Scu.decode s = (r, c)) :
    Calls Try.prog 46 #[.string s] w fun e w' => e = .returned (.tuple #[.agg #[.int .i64 r.client, .int .i64 r.num, .int .i64 r.op.kind, .int .i64 r.op.at_, .int .i64 r.op.snap, .string r.op.data], .int .i64 c]) ∧ Below w.heap.size w w' := by
  have := entryOf_c s w
  rw [h] at this
  exact this

theorem stageCheck_x (lv : Value) (vi no : Int) (ca : Bool) (lo : List Scu.Str) (co : Int) (w : World) (B : Nat) (hv : IsStrs w B lv lo) :
    Calls Try.prog 24 #[.agg #[.int .i64 vi, .int .i64 no, .bool ca, lv, .int .i64 co]] w fun e w' => e = .returned (.int .i64 (Scu.keptFault ⟨vi, no, ca, lo, co⟩)) ∧ Below w.heap.size w w' := by
  obtain ⟨⟨A, c, rfl, _, hr⟩, hl, he⟩ := hv
  have HDEC := Lib.hid (fun (s : ByteArray) (W : World) => decode_a s W)
  unfold R47 at hl he
  cases t1 : decide (vi < 0) with
  | true =>
    have HF := Lib.hid (show Scu.keptFault ⟨vi, no, ca, lo, co⟩ = 2 from kept_bad2 (.inl (of_decide_eq_true t1)))
    clear hr hl he HDEC
    try clear hrest
    go_enter Try.func24, Try.ntmps24
    go_wp2
    go_ret
    exact ⟨ret_val (int_eq HF.out.symm), (Below.refl _ _).alloc (Nat.le_refl _) _⟩
  | false =>
  cases t2 : decide ((1048576 : Int) < vi) with
  | true =>
    have HF := Lib.hid (show Scu.keptFault ⟨vi, no, ca, lo, co⟩ = 2 from kept_bad2 (.inr (.inl (of_decide_eq_true t2))))
    clear hr hl he HDEC
    try clear hrest
    go_enter Try.func24, Try.ntmps24
    go_wp2
    go_ret
    exact ⟨ret_val (int_eq HF.out.symm), (Below.refl _ _).alloc (Nat.le_refl _) _⟩
  | false =>
  cases t3 : decide (no < 0) with
  | true =>
    have HF := Lib.hid (show Scu.keptFault ⟨vi, no, ca, lo, co⟩ = 2 from kept_bad2 (.inr (.inr (.inl (of_decide_eq_true t3)))))
    clear hr hl he HDEC
    try clear hrest
    go_enter Try.func24, Try.ntmps24
    go_wp2
    go_ret
    exact ⟨ret_val (int_eq HF.out.symm), (Below.refl _ _).alloc (Nat.le_refl _) _⟩
  | false =>
  cases t4 : decide (vi < no) with
  | true =>
    have HF := Lib.hid (show Scu.keptFault ⟨vi, no, ca, lo, co⟩ = 2 from kept_bad2 (.inr (.inr (.inr (.inl (of_decide_eq_true t4))))))
    clear hr hl he HDEC
    try clear hrest
    go_enter Try.func24, Try.ntmps24
    go_wp2
    go_ret
    exact ⟨ret_val (int_eq HF.out.symm), (Below.refl _ _).alloc (Nat.le_refl _) _⟩
  | false =>
  have H5 : (ca = true ∧ (no != vi) = true) ∨ ((ca = false ∨ (ca = true ∧ (no != vi) = false))) := by
    cases ca <;> cases (no != vi) <;> simp
  rcases H5 with ⟨rfl, t6⟩ | H5
  · have HF := Lib.hid (show Scu.keptFault ⟨vi, no, true, lo, co⟩ = 2 from kept_bad2 (.inr (.inr (.inr (.inr ⟨rfl, by simpa using t6⟩)))))
    clear hr hl he HDEC
    try clear hrest
    go_enter Try.func24, Try.ntmps24
    go_wp2
    go_ret
    exact ⟨ret_val (int_eq HF.out.symm), (Below.refl _ _).alloc (Nat.le_refl _) _⟩
  have hrest : Scu.keptFault ⟨vi, no, ca, lo, co⟩ = if 60 < lo.length then 1 else if co < 0 ∨ (lo.length : Int) < co then 2 else Scu.logFault lo := kept_rest (k := ⟨vi, no, ca, lo, co⟩) (kept_ok2 (of_decide_eq_false t1) (of_decide_eq_false t2) (of_decide_eq_false t3) (of_decide_eq_false t4) (H5.imp id (fun h => by simpa using h.2)))
  cases t7 : decide ((60 : Int) < (lo.length : Int)) with
  | true =>
    rcases H5 with rfl | ⟨rfl, t6⟩
    · have HF := Lib.hid (show Scu.keptFault ⟨vi, no, false, lo, co⟩ = 1 from by rw [hrest, if_pos (by have := of_decide_eq_true t7; omega)])
      clear hr hl he HDEC
      try clear hrest
      go_enter Try.func24, Try.ntmps24
      go_wp2
      go_ret
      exact ⟨ret_val (int_eq HF.out.symm), (Below.refl _ _).alloc (Nat.le_refl _) _⟩
    · have HF := Lib.hid (show Scu.keptFault ⟨vi, no, true, lo, co⟩ = 1 from by rw [hrest, if_pos (by have := of_decide_eq_true t7; omega)])
      clear hr hl he HDEC
      try clear hrest
      go_enter Try.func24, Try.ntmps24
      go_wp2
      go_ret
      exact ⟨ret_val (int_eq HF.out.symm), (Below.refl _ _).alloc (Nat.le_refl _) _⟩
  | false =>
  rw [if_neg (by have := of_decide_eq_false t7; omega)] at hrest
  cases t8 : decide (co < 0) with
  | true =>
    rcases H5 with rfl | ⟨rfl, t6⟩
    · have HF := Lib.hid (show Scu.keptFault ⟨vi, no, false, lo, co⟩ = 2 from by rw [hrest, if_pos (.inl (of_decide_eq_true t8))])
      clear hr hl he HDEC
      try clear hrest
      go_enter Try.func24, Try.ntmps24
      go_wp2
      go_ret
      exact ⟨ret_val (int_eq HF.out.symm), (Below.refl _ _).alloc (Nat.le_refl _) _⟩
    · have HF := Lib.hid (show Scu.keptFault ⟨vi, no, true, lo, co⟩ = 2 from by rw [hrest, if_pos (.inl (of_decide_eq_true t8))])
      clear hr hl he HDEC
      try clear hrest
      go_enter Try.func24, Try.ntmps24
      go_wp2
      go_ret
      exact ⟨ret_val (int_eq HF.out.symm), (Below.refl _ _).alloc (Nat.le_refl _) _⟩
  | false =>
  cases t9 : decide ((lo.length : Int) < co) with
  | true =>
    rcases H5 with rfl | ⟨rfl, t6⟩
    · have HF := Lib.hid (show Scu.keptFault ⟨vi, no, false, lo, co⟩ = 2 from by rw [hrest, if_pos (.inr (of_decide_eq_true t9))])
      clear hr hl he HDEC
      try clear hrest
      go_enter Try.func24, Try.ntmps24
      go_wp2
      go_ret
      exact ⟨ret_val (int_eq HF.out.symm), (Below.refl _ _).alloc (Nat.le_refl _) _⟩
    · have HF := Lib.hid (show Scu.keptFault ⟨vi, no, true, lo, co⟩ = 2 from by rw [hrest, if_pos (.inr (of_decide_eq_true t9))])
      clear hr hl he HDEC
      try clear hrest
      go_enter Try.func24, Try.ntmps24
      go_wp2
      go_ret
      exact ⟨ret_val (int_eq HF.out.symm), (Below.refl _ _).alloc (Nat.le_refl _) _⟩
  | false =>
  rw [if_neg (by have := of_decide_eq_false t8; have := of_decide_eq_false t9; omega)] at hrest
  have HF := Lib.hid hrest
  have HE := Lib.hid he
  clear hrest he
  rcases H5 with rfl | ⟨rfl, t6⟩
  all_goals
    go_enter Try.func24, Try.ntmps24
    go_wp2
    go_loopw [56] (fun i wr => ∃ j : Nat, j ≤ lo.length ∧ i = .int .i64 j ∧ Hid (Scu.logFault lo = Scu.logFault (lo.drop j)) ∧ Below w.heap.size w wr) (fun i _ => lo.length - (intOf i).toNat)
    case atStart => exact ⟨0, Nat.zero_le _, rfl, by simp [Hid], (Below.refl _ _).alloc (Nat.le_refl _) _⟩
    case round =>
      obtain ⟨j, hj, rfl, ht, hbw⟩ := hrel
      have hrw := hr.below hbw
      have hbs := hbw.size
      by_cases hlt : j < lo.length
      · have hlt' : (j : Int) < (lo.length : Int) := by omega
        obtain ⟨g, o, rfl, hg, hc⟩ := str_get hrw hlt
        have hn := log_next hlt
        generalize hd : Scu.decode lo[j] = q at hn
        obtain ⟨r, cd⟩ := q
        have HD := Lib.hid hd
        clear hd
        cases hx : (cd != 0)
        · have hcd : cd = 0 := by simpa using hx
          have HX := Lib.hid (show Scu.logFault lo = Scu.logFault (lo.drop (j + 1)) by rw [ht.out, hn, if_neg (by simpa using hcd)])
          clear hn hcd
          go_wp2_with fail
          refine (HDEC.out _ _ _ _ HD.out).mono ?_; rintro e w1 ⟨rfl, h1⟩
          go_wp2
          have hb1 := hbw.trans (h1.mono hbs)
          have HB1 := Lib.hid hb1
          clear hb1
          go_roundw
          case rel =>
            refine ⟨j + 1, hlt, by go_num, HX, ?_⟩
            exact (HB1.out.alloc HB1.out.size _)
          case measure => simp only [intOf]; omega
        · have hcd : cd ≠ 0 := by simpa using hx
          have HX := Lib.hid (show Scu.keptFault ⟨vi, no, _, lo, co⟩ = cd by rw [HF.out, ht.out, hn, if_pos hcd])
          clear hn hcd
          go_wp2_with fail
          refine (HDEC.out _ _ _ _ HD.out).mono ?_; rintro e w1 ⟨rfl, h1⟩
          go_wp2
          go_ret
          refine ⟨ret_val (int_eq HX.out.symm), ?_⟩
          have hb1 := hbw.trans (h1.mono hbs)
          exact (hb1.alloc hb1.size _)
      · have hlt' : (lo.length : Int) ≤ (j : Int) := by omega
        have HX := Lib.hid (show Scu.keptFault ⟨vi, no, _, lo, co⟩ = 0 by rw [HF.out, ht.out, List.drop_of_length_le (by omega)]; rfl)
        go_wp2
        go_ret
        exact ⟨ret_val (int_eq HX.out.symm), hbw⟩
theorem stageCheck_c (lv : Value) (k : Scu.Kept) (w : World) (B : Nat) (hv : IsStrs w B lv k.log) :
    Calls Try.prog 24 #[.agg #[.int .i64 k.view, .int .i64 k.normal, .bool k.calm, lv, .int .i64 k.commit]] w fun e w' => e = .returned (.int .i64 (Scu.keptFault k)) ∧ Below w.heap.size w w' :=
  stageCheck_x lv k.view k.normal k.calm k.log k.commit w B hv
end Go.Proofs.Ytlaibljdlpmbfaa
/- Walks: what may be kept, by the reference; copies; whether it is the same; the laws StageCopies and StageChecks. -/
namespace Go.Proofs.Ytlaibljdlpmbfaa
open Go.RowKit
set_option maxHeartbeats 400000
set_option maxRecDepth 100000

theorem inB_no {n a b : Int} (h : inB n a b = false) : n < a ∨ b < n := by
  unfold inB at h
  simp only [Bool.and_eq_false_iff, decide_eq_false_iff_not] at h
  omega
theorem inB_yes {n a b : Int} (h : inB n a b = true) : a ≤ n ∧ n ≤ b := by
  unfold inB at h
  simpa only [Bool.and_eq_true, decide_eq_true_eq] using h
theorem keptFault_x (lv : Value) (vi no : Int) (ca : Bool) (lo : List Scu.Str) (co : Int) (w : World) (B : Nat) (hv : IsStrs w B lv lo) :
    Calls Try.prog 34 #[.agg #[.int .i64 vi, .int .i64 no, .bool ca, lv, .int .i64 co]] w fun e w' => e = .returned (.int .i64 (Scu.keptFault ⟨vi, no, ca, lo, co⟩)) ∧ Below w.heap.size w w' := by
  obtain ⟨⟨A, c, rfl, _, hr⟩, hl, he⟩ := hv
  have HDEC := Lib.hid (fun (s : ByteArray) (W : World) => entryOf_a s W)
  unfold R47 at hl he
  cases t1 : inB vi 0 1048576 with
  | false =>
    have U1 := Lib.hid t1
    clear t1
    have HF := Lib.hid (show Scu.keptFault ⟨vi, no, ca, lo, co⟩ = 2 from kept_bad2 (by have := inB_no U1.out; show vi < 0 ∨ 1048576 < vi ∨ _; omega))
    clear hr hl he HDEC
    try clear hrest
    go_enter Try.func34, Try.ntmps34
    go_wp2_with (go_at_call 33; refine (inn_c _ _ _ _).mono ?_; rintro e w1 ⟨rfl, rfl⟩; first | rw [U1.out] | rw [U2.out] | rw [U4.out])
    go_ret
    exact ⟨ret_val (int_eq HF.out.symm), (Below.refl _ _).alloc (Nat.le_refl _) _⟩
  | true =>
  have U1 := Lib.hid t1
  have V1 := Lib.hid (inB_yes t1)
  clear t1
  cases t2 : inB no 0 vi with
  | false =>
    have U2 := Lib.hid t2
    clear t2
    have HF := Lib.hid (show Scu.keptFault ⟨vi, no, ca, lo, co⟩ = 2 from kept_bad2 (by have := inB_no U2.out; show vi < 0 ∨ 1048576 < vi ∨ no < 0 ∨ vi < no ∨ _; omega))
    clear hr hl he HDEC
    try clear hrest
    go_enter Try.func34, Try.ntmps34
    go_wp2_with (go_at_call 33; refine (inn_c _ _ _ _).mono ?_; rintro e w1 ⟨rfl, rfl⟩; first | rw [U1.out] | rw [U2.out] | rw [U4.out])
    go_ret
    exact ⟨ret_val (int_eq HF.out.symm), (Below.refl _ _).alloc (Nat.le_refl _) _⟩
  | true =>
  have U2 := Lib.hid t2
  have V2 := Lib.hid (inB_yes t2)
  clear t2
  have H5 : (ca = true ∧ (no != vi) = true) ∨ ((ca = false ∨ (ca = true ∧ (no != vi) = false))) := by
    cases ca <;> cases (no != vi) <;> simp
  rcases H5 with ⟨rfl, t6⟩ | H5
  · have HF := Lib.hid (show Scu.keptFault ⟨vi, no, true, lo, co⟩ = 2 from kept_bad2 (.inr (.inr (.inr (.inr ⟨rfl, by simpa using t6⟩)))))
    clear hr hl he HDEC
    try clear hrest
    go_enter Try.func34, Try.ntmps34
    go_wp2_with (go_at_call 33; refine (inn_c _ _ _ _).mono ?_; rintro e w1 ⟨rfl, rfl⟩; first | rw [U1.out] | rw [U2.out] | rw [U4.out])
    go_ret
    exact ⟨ret_val (int_eq HF.out.symm), (Below.refl _ _).alloc (Nat.le_refl _) _⟩
  have hrest : Scu.keptFault ⟨vi, no, ca, lo, co⟩ = if 60 < lo.length then 1 else if co < 0 ∨ (lo.length : Int) < co then 2 else Scu.logFault lo :=
    kept_rest (k := ⟨vi, no, ca, lo, co⟩) (kept_ok2 (by have := V1.out; show ¬ vi < 0; omega) (by have := V1.out; show ¬ 1048576 < vi; omega) (by have := V2.out; show ¬ no < 0; omega) (by have := V2.out; show ¬ vi < no; omega) (H5.imp id (fun h => by simpa using h.2)))
  cases t7 : decide ((60 : Int) < (lo.length : Int)) with
  | true =>
    rcases H5 with rfl | ⟨rfl, t6⟩
    · have HF := Lib.hid (show Scu.keptFault ⟨vi, no, false, lo, co⟩ = 1 from by rw [hrest, if_pos (by have := of_decide_eq_true t7; omega)])
      clear hr hl he HDEC
      try clear hrest
      go_enter Try.func34, Try.ntmps34
      go_wp2_with (go_at_call 33; refine (inn_c _ _ _ _).mono ?_; rintro e w1 ⟨rfl, rfl⟩; first | rw [U1.out] | rw [U2.out] | rw [U4.out])
      go_ret
      exact ⟨ret_val (int_eq HF.out.symm), (Below.refl _ _).alloc (Nat.le_refl _) _⟩
    · have HF := Lib.hid (show Scu.keptFault ⟨vi, no, true, lo, co⟩ = 1 from by rw [hrest, if_pos (by have := of_decide_eq_true t7; omega)])
      clear hr hl he HDEC
      try clear hrest
      go_enter Try.func34, Try.ntmps34
      go_wp2_with (go_at_call 33; refine (inn_c _ _ _ _).mono ?_; rintro e w1 ⟨rfl, rfl⟩; first | rw [U1.out] | rw [U2.out] | rw [U4.out])
      go_ret
      exact ⟨ret_val (int_eq HF.out.symm), (Below.refl _ _).alloc (Nat.le_refl _) _⟩
  | false =>
  rw [if_neg (by have := of_decide_eq_false t7; omega)] at hrest
  cases t8 : inB co 0 (lo.length : Int) with
  | false =>
    have U4 := Lib.hid t8
    clear t8
    rcases H5 with rfl | ⟨rfl, t6⟩
    · have HF := Lib.hid (show Scu.keptFault ⟨vi, no, false, lo, co⟩ = 2 from by rw [hrest, if_pos (by have := inB_no U4.out; omega)])
      clear hr hl he HDEC
      try clear hrest
      go_enter Try.func34, Try.ntmps34
      go_wp2_with (go_at_call 33; refine (inn_c _ _ _ _).mono ?_; rintro e w1 ⟨rfl, rfl⟩; first | rw [U1.out] | rw [U2.out] | rw [U4.out])
      go_ret
      exact ⟨ret_val (int_eq HF.out.symm), (Below.refl _ _).alloc (Nat.le_refl _) _⟩
    · have HF := Lib.hid (show Scu.keptFault ⟨vi, no, true, lo, co⟩ = 2 from by rw [hrest, if_pos (by have := inB_no U4.out; omega)])
      clear hr hl he HDEC
      try clear hrest
      go_enter Try.func34, Try.ntmps34
      go_wp2_with (go_at_call 33; refine (inn_c _ _ _ _).mono ?_; rintro e w1 ⟨rfl, rfl⟩; first | rw [U1.out] | rw [U2.out] | rw [U4.out])
      go_ret
      exact ⟨ret_val (int_eq HF.out.symm), (Below.refl _ _).alloc (Nat.le_refl _) _⟩
  | true =>
  have U4 := Lib.hid t8
  rw [if_neg (by have := inB_yes t8; omega)] at hrest
  have HF := Lib.hid hrest
  have HE := Lib.hid he
  clear hrest he t8
  rcases H5 with rfl | ⟨rfl, t6⟩
  all_goals
    go_enter Try.func34, Try.ntmps34
    go_wp2_with (go_at_call 33; refine (inn_c _ _ _ _).mono ?_; rintro e w1 ⟨rfl, rfl⟩; first | rw [U1.out] | rw [U2.out] | rw [U4.out])
    go_loopw [3] (fun i wr => ∃ j : Nat, j ≤ lo.length ∧ i = .int .i64 j ∧ Hid (Scu.logFault lo = Scu.logFault (lo.drop j)) ∧ Below (w.heap.size + 1) (w.alloc (Obj.cells #[.int .i64 vi, .int .i64 no, _, .slice A lo.length c, .int .i64 co] 24)) wr) (fun i _ => lo.length - (intOf i).toNat)
    case atStart => exact ⟨0, Nat.zero_le _, rfl, by simp [Hid], Below.refl _ _⟩
    case round =>
      obtain ⟨j, hj, rfl, ht, hbw⟩ := hrel
      have hrw := (hr.alloc _).below (hbw.mono (by simp))
      have hbs := hbw.size
      simp only [World.size_alloc] at hbs
      obtain ⟨hcc, hzz⟩ := bcell hbw
      by_cases hlt : j < lo.length
      · have hlt' : (j : Int) < (lo.length : Int) := by omega
        obtain ⟨g, o, rfl, hg, hc⟩ := str_get hrw hlt
        have hn := log_next hlt
        generalize hd : Scu.decode lo[j] = q at hn
        obtain ⟨r, cd⟩ := q
        have HD := Lib.hid hd
        have HBW := Lib.hid hbw
        clear hd hbw
        cases hx : (cd != 0)
        · have hcd : cd = 0 := by simpa using hx
          have HX := Lib.hid (show Scu.logFault lo = Scu.logFault (lo.drop (j + 1)) by rw [ht.out, hn, if_neg (by simpa using hcd)])
          clear hn hcd
          go_wp2_with fail
          refine (HDEC.out _ _ _ _ HD.out).mono ?_; rintro e w1 ⟨rfl, h1⟩
          go_wp2
          have HB1 := Lib.hid (HBW.out.trans (h1.mono hbs))
          go_roundw
          case rel =>
            refine ⟨j + 1, hlt, by go_num, HX, ?_⟩
            exact (HB1.out.alloc (by have := HB1.out.size; simpa using this) _)
          case measure => simp only [intOf]; omega
        · have hcd : cd ≠ 0 := by simpa using hx
          have HX := Lib.hid (show Scu.keptFault ⟨vi, no, _, lo, co⟩ = cd by rw [HF.out, ht.out, hn, if_pos hcd])
          clear hn hcd
          go_wp2_with fail
          refine (HDEC.out _ _ _ _ HD.out).mono ?_; rintro e w1 ⟨rfl, h1⟩
          go_wp2
          go_ret
          refine ⟨ret_val (int_eq HX.out.symm), ?_⟩
          have hb1 := HBW.out.trans (h1.mono hbs)
          exact ((below_alloc w _).trans (hb1.mono (by simp))).alloc (by have := hb1.size; simp at this; omega) _
      · have hlt' : (lo.length : Int) ≤ (j : Int) := by omega
        have HX := Lib.hid (show Scu.keptFault ⟨vi, no, _, lo, co⟩ = 0 by rw [HF.out, ht.out, List.drop_of_length_le (by omega)]; rfl)
        have HBW := Lib.hid hbw
        clear hbw
        go_wp2
        go_ret
        exact ⟨ret_val (int_eq HX.out.symm), (below_alloc w _).trans (HBW.out.mono (by simp))⟩
theorem keptFault_c (lv : Value) (k : Scu.Kept) (w : World) (B : Nat) (hv : IsStrs w B lv k.log) :
    Calls Try.prog 34 #[.agg #[.int .i64 k.view, .int .i64 k.normal, .bool k.calm, lv, .int .i64 k.commit]] w fun e w' => e = .returned (.int .i64 (Scu.keptFault k)) ∧ Below w.heap.size w w' :=
  keptFault_x lv k.view k.normal k.calm k.log k.commit w B hv
end Go.Proofs.Ytlaibljdlpmbfaa
/- Walks: copies of what is kept, and whether it is the same; the laws StageCopies and StageChecks. -/
namespace Go.Proofs.Ytlaibljdlpmbfaa
open Go.RowKit
set_option maxHeartbeats 400000
set_option maxRecDepth 100000

def OwnStrs (w : World) (base : Nat) (v : Value) (xs : List Scu.Str) : Prop := w.ownsRow base 9 1 v xs.length (xs.map Value.string) ∧ xs.length * 16 ≤ R47 ∧ ∀ s ∈ xs, s.size ≤ R47
theorem OwnStrs.is {w : World} {base : Nat} {v : Value} {xs : List Scu.Str} (h : OwnStrs w base v xs) : IsStrs w 0 v xs := strs_own h.1 h.2.1 h.2.2
theorem OwnStrs.form {w : World} {base : Nat} {v : Value} {xs : List Scu.Str} (h : OwnStrs w base v xs) : ∃ A n c, v = .slice A n c := h.is.form
theorem OwnStrs.below {w w' : World} {base : Nat} {v : Value} {xs : List Scu.Str} (h : OwnStrs w base v xs) (hb : Below w.heap.size w w') : OwnStrs w' base v xs := ⟨own_below h.1 hb, h.2.1, h.2.2⟩
theorem OwnStrs.alloc {w : World} {base : Nat} {v : Value} {xs : List Scu.Str} (h : OwnStrs w base v xs) (o : Obj) : OwnStrs (w.alloc o) base v xs := h.below (below_alloc w o)
theorem OwnStrs.base_ {w : World} {base base' : Nat} {v : Value} {xs : List Scu.Str} (h : OwnStrs w base v xs) (hb : base' ≤ base) : OwnStrs w base' v xs := ⟨ownsRow_base h.1 hb, h.2.1, h.2.2⟩
theorem OwnStrs.set_ {w : World} {base : Nat} {v : Value} {xs : List Scu.Str} (h : OwnStrs w base v xs) {g i : Nat} {t : TypeId} {cs : Array Value} (hb : Blk w g t cs) (hne : t ≠ 9) (u : Value) : OwnStrs (w.setCell ⟨g, i, none⟩ u) base v xs := ⟨own_set h.1 hb hne u, h.2.1, h.2.2⟩
theorem own_same {w w' : World} {Ts : List TypeId} {B base : Nat} {e : TypeId} {size n : Nat} {v : Value} {xs : List Value} (h : w.ownsRow base e size v n xs) (ht : e ∈ Ts) (hs : Same Ts B w w') : w'.ownsRow base e size v n xs := by
  obtain ⟨h1, h2 | ⟨g, cap, cur, rfl, h3, h4, h5⟩⟩ := h
  · exact ⟨h1, .inl h2⟩
  · have hlt : g < w.heap.size := by
      rcases Nat.lt_or_ge g w.heap.size with hlt | hge
      · exact hlt
      · rw [Array.getElem?_eq_none hge] at h4; cases h4
    have := hs.keep g hlt (.inr ⟨_, _, _, ht, h4⟩)
    exact ⟨h1, .inr ⟨g, cap, cur, rfl, h3, by rw [this]; exact h4, h5⟩⟩
theorem OwnStrs.same {w w' : World} {B base : Nat} {v : Value} {xs : List Scu.Str} (h : OwnStrs w base v xs) (hs : Same [9] B w w') : OwnStrs w' base v xs := ⟨own_same h.1 (by simp) hs, h.2.1, h.2.2⟩
theorem Same.sets5 {Ts : List TypeId} {B g : Nat} {w : World} {t : TypeId} {cs : Array Value} (hb : Blk w g t cs) (hB : B ≤ g) (ht : t ∉ Ts) (a b c d e : Value) :
    Same Ts B w (((((w.setCell ⟨g, 0, none⟩ a).setCell ⟨g, 1, none⟩ b).setCell ⟨g, 2, none⟩ c).setCell ⟨g, 3, none⟩ d).setCell ⟨g, 4, none⟩ e) :=
  ((((Same.set_ hb hB ht 0 a).trans (Same.set_ (hb.set_ 0 a) hB ht 1 b)).trans (Same.set_ ((hb.set_ 0 a).set_ 1 b) hB ht 2 c)).trans (Same.set_ (((hb.set_ 0 a).set_ 1 b).set_ 2 c) hB ht 3 d)).trans (Same.set_ ((((hb.set_ 0 a).set_ 1 b).set_ 2 c).set_ 3 d) hB ht 4 e)
theorem below_set5 {B g : Nat} {w w1 : World} {a b c d e : Value} (h : Below B w w1) (hg : B ≤ g) :
    Below B w (((((w1.setCell ⟨g, 0, none⟩ a).setCell ⟨g, 1, none⟩ b).setCell ⟨g, 2, none⟩ c).setCell ⟨g, 3, none⟩ d).setCell ⟨g, 4, none⟩ e) :=
  ((((h.setCell (p := ⟨g, 0, none⟩) hg _).setCell (p := ⟨g, 1, none⟩) hg _).setCell (p := ⟨g, 2, none⟩) hg _).setCell (p := ⟨g, 3, none⟩) hg _).setCell (p := ⟨g, 4, none⟩) hg _
def KeptRet (w : World) (base : Nat) (k : Scu.Kept) (e : Ending) : Prop := ∃ lv, e = .returned (.agg #[.int .i64 k.view, .int .i64 k.normal, .bool k.calm, lv, .int .i64 k.commit]) ∧ OwnStrs w base lv k.log

theorem stageCopy_c (lv : Value) (k : Scu.Kept) (w : World) (B : Nat) (hv : IsStrs w B lv k.log) :
    Calls Try.prog 41 #[.agg #[.int .i64 k.view, .int .i64 k.normal, .bool k.calm, lv, .int .i64 k.commit]] w fun e w' => KeptRet w' w.heap.size k e ∧ Below w.heap.size w w' := by
  have HV := Lib.hid hv
  obtain ⟨A, n, c, rfl⟩ := hv.form
  have hb0 := Blk.new w 24 #[.int .i64 k.view, .int .i64 k.normal, .bool k.calm, .slice A n c, .int .i64 k.commit]
  clear hv
  go_enter Try.func41, Try.ntmps41
  go_wp2_with fail
  refine (cloneStrs_c _ k.log _ B ((HV.out.alloc _).alloc _)).mono ?_; rintro e w1 ⟨⟨u, rfl, hu⟩, h1⟩
  obtain ⟨hc, hz⟩ := bcell h1
  have hsz : w.heap.size + 1 < w1.heap.size := by have := h1.size; simp at this; omega
  have hsz' : w.heap.size < w1.heap.size := by omega
  have HB1 := Lib.hid ((hb0.alloc (Obj.cells #[.int .i64 0, .int .i64 0, .bool false, .slice none 0 0, .int .i64 0] 24)).same h1)
  have HR1 := Lib.hid ((Blk.new (w.alloc (Obj.cells #[.int .i64 k.view, .int .i64 k.normal, .bool k.calm, .slice A n c, .int .i64 k.commit] 24)) 24 #[.int .i64 0, .int .i64 0, .bool false, .slice none 0 0, .int .i64 0]).same h1)
  obtain ⟨A2, c2, rfl, _, _, _, _⟩ := rd_own hu
  have hB1 : Below w.heap.size w w1 := (((Below.refl _ _).alloc (Nat.le_refl _) _).alloc (by simp) _).trans (h1.mono (by simp; omega))
  have HU := Lib.hid (show OwnStrs w1 _ _ k.log from ⟨hu, HV.out.len, HV.out.each⟩)
  clear hu hb0
  have hq := HB1.out.set_ 3 (.slice A2 k.log.length c2)
  have hr := HR1.out.far (p := ⟨w.heap.size, 3, none⟩) (by simp) (.slice A2 k.log.length c2)
  simp only [World.size_alloc] at hr
  have hr5 := ((((hr.set_ 0 (.int .i64 k.view)).set_ 1 (.int .i64 k.normal)).set_ 2 (.bool k.calm)).set_ 3 (.slice A2 k.log.length c2)).set_ 4 (.int .i64 k.commit)
  have u0 := hq.cell 0
  have u1 := hq.cell 1
  have u2 := hq.cell 2
  have u3 := hq.cell 3
  have u4 := hq.cell 4
  simp at u0 u1 u2 u3 u4
  have v0 := hr.cell 0
  have v1 := hr.cell 1
  have v2 := hr.cell 2
  have v3 := hr.cell 3
  have v4 := hr.cell 4
  simp at v0 v1 v2 v3 v4
  have x0 := hr5.cell 0
  have x1 := hr5.cell 1
  have x2 := hr5.cell 2
  have x3 := hr5.cell 3
  have x4 := hr5.cell 4
  simp at x0 x1 x2 x3 x4
  have uz := hq.frozen
  have vz := hr.frozen
  have HQ := Lib.hid (And.intro hq (And.intro hr hr5))
  clear hq hr hr5
  go_wp2
  refine bodyPost_ret (v := .agg #[.int .i64 k.view, .int .i64 k.normal, .bool k.calm, .slice A2 k.log.length c2, .int .i64 k.commit]) (by simp [results, Try.results41, go_sem, x0, x1, x2, x3, x4]) rfl ?_
  refine ⟨⟨_, rfl, ?_⟩, ?_⟩
  · exact ((HU.out.base_ (by simp; omega)).same (Same.set_ (B := 0) HB1.out (Nat.zero_le _) (by decide) 3 _)).same (Same.sets5 (B := 0) HQ.out.2.1 (Nat.zero_le _) (by decide) _ _ _ _ _)
  · exact below_set5 (hB1.setCell (p := ⟨w.heap.size, 3, none⟩) (Nat.le_refl _) _) (Nat.le_succ _)

theorem keptCopy_c (lv : Value) (k : Scu.Kept) (w : World) (B : Nat) (hv : IsStrs w B lv k.log) :
    Calls Try.prog 9 #[.agg #[.int .i64 k.view, .int .i64 k.normal, .bool k.calm, lv, .int .i64 k.commit]] w fun e w' => KeptRet w' w.heap.size k e ∧ Below w.heap.size w w' := by
  obtain ⟨⟨A, c, rfl, _, hr⟩, hl, he⟩ := hv
  have hl' := hl
  unfold R47 at hl'
  have hb0 := Blk.new w 24 #[.int .i64 k.view, .int .i64 k.normal, .bool k.calm, .slice A k.log.length c, .int .i64 k.commit]
  have hs0 : Src1 ((w.alloc (Obj.cells #[.int .i64 k.view, .int .i64 k.normal, .bool k.calm, .slice A k.log.length c, .int .i64 k.commit] 24)).alloc (Obj.cells #[.int .i64 0, .int .i64 0, .bool false, .slice none 0 0, .int .i64 0] 24)) 1 (.slice A k.log.length c) k.log.length (k.log.map Value.string) :=
    src_of_rd ((hr.alloc _).alloc _) (by simp) (fun e => by subst e; have := rd_none hr; simpa using this)
  have HS0 := Lib.hid hs0
  have HEL := Lib.hid (And.intro hl he)
  have HB0 := Lib.hid hb0
  clear hs0 hr he hl hb0
  go_enter Try.func9, Try.ntmps9
  go_wp2_with
    (at_builtin
     refine list_app _ rfl (.const (.slice none 0 0)) (.tmp 4) 22 rfl el_strs w.heap.size (.slice none 0 0) 0 [] rfl (World.ownsRow_nil _ _ _ _) (.slice A k.log.length c) k.log.length (k.log.map Value.string) rfl HS0.out (one_strs _) (by unfold maxLen; omega) (by omega) (by simp; omega) ?_
     intro u1 w1 hu hg1 _
     have h1 : Below ((w.alloc (Obj.cells #[.int .i64 k.view, .int .i64 k.normal, .bool k.calm, .slice A k.log.length c, .int .i64 k.commit] 24)).alloc (Obj.cells #[.int .i64 0, .int .i64 0, .bool false, .slice none 0 0, .int .i64 0] 24)).heap.size ((w.alloc (Obj.cells #[.int .i64 k.view, .int .i64 k.normal, .bool k.calm, .slice A k.log.length c, .int .i64 k.commit] 24)).alloc (Obj.cells #[.int .i64 0, .int .i64 0, .bool false, .slice none 0 0, .int .i64 0] 24)) w1 := below_grown hg1 (Nat.le_refl _) (fun q hq => by cases hq)
     have hu : w1.ownsRow w.heap.size 9 1 u1 k.log.length (k.log.map Value.string) := (by simpa only [Nat.zero_add, List.nil_append] using hu)
     have HU := Lib.hid (show OwnStrs w1 w.heap.size u1 k.log from ⟨hu, HEL.out.1, HEL.out.2⟩)
     obtain ⟨A2, c2, rfl, _, _, _, _⟩ := rd_own hu
     have hB1 : Below w.heap.size w w1 := (((Below.refl _ _).alloc (Nat.le_refl _) _).alloc (by simp) _).trans (h1.mono (by simp; omega))
     have HB1 := Lib.hid ((HB0.out.alloc (Obj.cells #[.int .i64 0, .int .i64 0, .bool false, .slice none 0 0, .int .i64 0] 24)).same h1)
     have HR1 := Lib.hid ((Blk.new (w.alloc (Obj.cells #[.int .i64 k.view, .int .i64 k.normal, .bool k.calm, .slice A k.log.length c, .int .i64 k.commit] 24)) 24 #[.int .i64 0, .int .i64 0, .bool false, .slice none 0 0, .int .i64 0]).same h1)
     have hb3 := HB1.out.cell 3
     simp at hb3
     have hbz := HB1.out.frozen
     have hq := HB1.out.set_ 3 (.slice A2 k.log.length c2)
     have hr := HR1.out.far (p := ⟨w.heap.size, 3, none⟩) (by simp) (.slice A2 k.log.length c2)
     simp only [World.size_alloc] at hr
     have hr5 := ((((hr.set_ 0 (.int .i64 k.view)).set_ 1 (.int .i64 k.normal)).set_ 2 (.bool k.calm)).set_ 3 (.slice A2 k.log.length c2)).set_ 4 (.int .i64 k.commit)
     have u0 := hq.cell 0
     have u1 := hq.cell 1
     have u2 := hq.cell 2
     have u3 := hq.cell 3
     have u4 := hq.cell 4
     simp at u0 u1 u2 u3 u4
     have v0 := hr.cell 0
     have v1 := hr.cell 1
     have v2 := hr.cell 2
     have v3 := hr.cell 3
     have v4 := hr.cell 4
     simp at v0 v1 v2 v3 v4
     have x0 := hr5.cell 0
     have x1 := hr5.cell 1
     have x2 := hr5.cell 2
     have x3 := hr5.cell 3
     have x4 := hr5.cell 4
     simp at x0 x1 x2 x3 x4
     have uz := hq.frozen
     have vz := hr.frozen
     have HQ := Lib.hid (And.intro hq (And.intro hr hr5))
     clear hq hr hr5 hg1 h1 hu)
  refine bodyPost_ret (v := .agg #[.int .i64 k.view, .int .i64 k.normal, .bool k.calm, .slice A2 k.log.length c2, .int .i64 k.commit]) (by simp [results, Try.results9, go_sem, x0, x1, x2, x3, x4]) rfl ?_
  refine ⟨⟨_, rfl, ?_⟩, ?_⟩
  · exact ((HU.out.base_ (by simp)).same (Same.set_ (B := 0) HB1.out (Nat.zero_le _) (by decide) 3 _)).same (Same.sets5 (B := 0) HQ.out.2.1 (Nat.zero_le _) (by decide) _ _ _ _ _)
  · exact below_set5 (hB1.setCell (p := ⟨w.heap.size, 3, none⟩) (Nat.le_refl _) _) (Nat.le_succ _)
end Go.Proofs.Ytlaibljdlpmbfaa
/- Walks: whether two that are kept are the same; the laws StageCopies and StageChecks. -/
namespace Go.Proofs.Ytlaibljdlpmbfaa
open Go.RowKit
set_option maxHeartbeats 400000
set_option maxRecDepth 100000

theorem sameKept_x (lv lu : Value) (va na : Int) (ca : Bool) (la : List Scu.Str) (coa vb nb : Int) (cb : Bool) (lb : List Scu.Str) (cob : Int) (w : World) (B B' : Nat) (hv : IsStrs w B lv la) (hu : IsStrs w B' lu lb) :
    Calls Try.prog 19 #[.agg #[.int .i64 va, .int .i64 na, .bool ca, lv, .int .i64 coa], .agg #[.int .i64 vb, .int .i64 nb, .bool cb, lu, .int .i64 cob]] w fun e w' =>
      e = .returned (.bool (decide ((⟨va, na, ca, la, coa⟩ : Scu.Kept) = ⟨vb, nb, cb, lb, cob⟩))) ∧ Below w.heap.size w w' := by
  obtain ⟨⟨A, c, rfl, _, hr⟩, hl, _⟩ := hv
  obtain ⟨⟨A', c', rfl, _, hr'⟩, hl', _⟩ := hu
  unfold R47 at hl hl'
  cases t1 : (va != vb) with
  | true =>
    have HNE := Lib.hid (show decide ((⟨va, na, ca, la, coa⟩ : Scu.Kept) = ⟨vb, nb, cb, lb, cob⟩) = false from decide_eq_false_iff_not.2 (fun e => by injection e with e1 e2 e3 e4 e5; exact (bne_iff_ne.1 t1) e1))
    clear hr hr'
    go_enter Try.func19, Try.ntmps19
    go_wp2
    go_ret
    exact ⟨ret_val (bool_eq HNE.out.symm), ((Below.refl _ _).alloc (Nat.le_refl _) _).alloc (by simp) _⟩
  | false =>
  cases t2 : (na != nb) with
  | true =>
    have HNE := Lib.hid (show decide ((⟨va, na, ca, la, coa⟩ : Scu.Kept) = ⟨vb, nb, cb, lb, cob⟩) = false from decide_eq_false_iff_not.2 (fun e => by injection e with e1 e2 e3 e4 e5; exact (bne_iff_ne.1 t2) e2))
    clear hr hr'
    go_enter Try.func19, Try.ntmps19
    go_wp2
    go_ret
    exact ⟨ret_val (bool_eq HNE.out.symm), ((Below.refl _ _).alloc (Nat.le_refl _) _).alloc (by simp) _⟩
  | false =>
  have H3 : (ca = true ∧ cb = false) ∨ (ca = false ∧ cb = true) ∨ (ca = true ∧ cb = true) ∨ (ca = false ∧ cb = false) := by cases ca <;> cases cb <;> simp
  rcases H3 with ⟨rfl, rfl⟩ | ⟨rfl, rfl⟩ | H3
  · have HNE := Lib.hid (show decide ((⟨va, na, true, la, coa⟩ : Scu.Kept) = ⟨vb, nb, false, lb, cob⟩) = false from decide_eq_false_iff_not.2 (fun e => by injection e with e1 e2 e3 e4 e5; cases e3))
    clear hr hr'
    go_enter Try.func19, Try.ntmps19
    go_wp2
    go_ret
    exact ⟨ret_val (bool_eq HNE.out.symm), ((Below.refl _ _).alloc (Nat.le_refl _) _).alloc (by simp) _⟩
  · have HNE := Lib.hid (show decide ((⟨va, na, false, la, coa⟩ : Scu.Kept) = ⟨vb, nb, true, lb, cob⟩) = false from decide_eq_false_iff_not.2 (fun e => by injection e with e1 e2 e3 e4 e5; cases e3))
    clear hr hr'
    go_enter Try.func19, Try.ntmps19
    go_wp2
    go_ret
    exact ⟨ret_val (bool_eq HNE.out.symm), ((Below.refl _ _).alloc (Nat.le_refl _) _).alloc (by simp) _⟩
  cases t4 : (coa != cob) with
  | true =>
    rcases H3 with ⟨rfl, rfl⟩ | ⟨rfl, rfl⟩
    · have HNE := Lib.hid (show decide ((⟨va, na, true, la, coa⟩ : Scu.Kept) = ⟨vb, nb, true, lb, cob⟩) = false from decide_eq_false_iff_not.2 (fun e => by injection e with e1 e2 e3 e4 e5; exact (bne_iff_ne.1 t4) e5))
      clear hr hr'
      go_enter Try.func19, Try.ntmps19
      go_wp2
      go_ret
      exact ⟨ret_val (bool_eq HNE.out.symm), ((Below.refl _ _).alloc (Nat.le_refl _) _).alloc (by simp) _⟩
    · have HNE := Lib.hid (show decide ((⟨va, na, false, la, coa⟩ : Scu.Kept) = ⟨vb, nb, false, lb, cob⟩) = false from decide_eq_false_iff_not.2 (fun e => by injection e with e1 e2 e3 e4 e5; exact (bne_iff_ne.1 t4) e5))
      clear hr hr'
      go_enter Try.func19, Try.ntmps19
      go_wp2
      go_ret
      exact ⟨ret_val (bool_eq HNE.out.symm), ((Below.refl _ _).alloc (Nat.le_refl _) _).alloc (by simp) _⟩
  | false =>
  cases t5 : ((la.length : Int) != (lb.length : Int)) with
  | true =>
    rcases H3 with ⟨rfl, rfl⟩ | ⟨rfl, rfl⟩
    · have HNE := Lib.hid (show decide ((⟨va, na, true, la, coa⟩ : Scu.Kept) = ⟨vb, nb, true, lb, cob⟩) = false from decide_eq_false_iff_not.2 (fun e => by injection e with e1 e2 e3 e4 e5; exact (bne_iff_ne.1 t5) (by rw [e4])))
      clear hr hr'
      go_enter Try.func19, Try.ntmps19
      go_wp2
      go_ret
      exact ⟨ret_val (bool_eq HNE.out.symm), ((Below.refl _ _).alloc (Nat.le_refl _) _).alloc (by simp) _⟩
    · have HNE := Lib.hid (show decide ((⟨va, na, false, la, coa⟩ : Scu.Kept) = ⟨vb, nb, false, lb, cob⟩) = false from decide_eq_false_iff_not.2 (fun e => by injection e with e1 e2 e3 e4 e5; exact (bne_iff_ne.1 t5) (by rw [e4])))
      clear hr hr'
      go_enter Try.func19, Try.ntmps19
      go_wp2
      go_ret
      exact ⟨ret_val (bool_eq HNE.out.symm), ((Below.refl _ _).alloc (Nat.le_refl _) _).alloc (by simp) _⟩
  | false =>
  have HE := Lib.hid (show la.length = lb.length by have h5 : (la.length : Int) = lb.length := by simpa using t5
                                                    omega)
  have HN := Lib.hid (show va = vb ∧ na = nb ∧ coa = cob from ⟨by simpa using t1, by simpa using t2, by simpa using t4⟩)
  rcases H3 with ⟨rfl, rfl⟩ | ⟨rfl, rfl⟩
  all_goals
    go_enter Try.func19, Try.ntmps19
    go_wp2
    go_loopw [5] (fun i wr => ∃ k : Nat, k ≤ la.length ∧ i = .int .i64 k ∧ Hid (la.take k = lb.take k) ∧ ∃ n, wr = ((w.alloc (Obj.cells #[.int .i64 va, .int .i64 na, _, .slice A la.length c, .int .i64 coa] 24)).alloc (Obj.cells #[.int .i64 vb, .int .i64 nb, _, .slice A' lb.length c', .int .i64 cob] 24)).drewN n) (fun i _ => la.length - (intOf i).toNat)
    case atStart => exact ⟨0, Nat.zero_le _, rfl, rfl, 0, rfl⟩
    case round =>
      obtain ⟨k, hk, rfl, ht, n, rfl⟩ := hrel
      by_cases hlt : k < la.length
      · have hlt' : (k : Int) < (la.length : Int) := by omega
        have hy : k < lb.length := by have := HE.out; omega
        have hy' : (k : Int) < (lb.length : Int) := by omega
        obtain ⟨g, o, rfl, hg, hc⟩ := str_get hr hlt
        obtain ⟨g', o', rfl, hg', hc'⟩ := str_get hr' hy
        by_cases hx : la[k] = lb[k]
        · have hb : (la[k].toList == lb[k].toList) = true := by rw [str_beq]; simp [hx]
          have HX := Lib.hid hx
          clear hx
          go_wp2
          go_quiet (fail)
          go_wp2
          exact ⟨⟨k + 1, hlt, by go_num, take_succ_eq ht.out hlt hy HX.out, _, rfl⟩, by simp only [intOf]; omega⟩
        · have hb : (la[k].toList == lb[k].toList) = false := by rw [str_beq]; simp [hx]
          have HNE := Lib.hid (show ∀ cc dd : Bool, decide ((⟨va, na, cc, la, coa⟩ : Scu.Kept) = ⟨vb, nb, dd, lb, cob⟩) = false from fun cc dd => decide_eq_false_iff_not.2 (fun e => by
            injection e with e1 e2 e3 e4 e5
            subst e4
            exact hx rfl))
          clear hx
          go_wp2
          go_quiet (fail)
          go_wp2
          go_ret
          exact ⟨ret_val (bool_eq (HNE.out _ _).symm), below_drewN (below_drewN (((Below.refl _ _).alloc (Nat.le_refl _) _).alloc (by simp) _) _) _⟩
      · have hlt' : (la.length : Int) ≤ (k : Int) := by omega
        have HEQ := Lib.hid (show ∀ cc : Bool, decide ((⟨va, na, cc, la, coa⟩ : Scu.Kept) = ⟨vb, nb, cc, lb, cob⟩) = true from fun cc => decide_eq_true_iff.2 (by
          have h1 := ht.out
          rw [List.take_of_length_le (by omega), List.take_of_length_le (by have := HE.out; omega)] at h1
          obtain ⟨e1, e2, e5⟩ := HN.out
          rw [e1, e2, e5, h1]))
        go_wp2
        go_ret
        exact ⟨ret_val (bool_eq (HEQ.out _).symm), below_drewN (((Below.refl _ _).alloc (Nat.le_refl _) _).alloc (by simp) _) _⟩
theorem sameKept_c (lv lu : Value) (a b : Scu.Kept) (w : World) (B B' : Nat) (hv : IsStrs w B lv a.log) (hu : IsStrs w B' lu b.log) :
    Calls Try.prog 19 #[.agg #[.int .i64 a.view, .int .i64 a.normal, .bool a.calm, lv, .int .i64 a.commit], .agg #[.int .i64 b.view, .int .i64 b.normal, .bool b.calm, lu, .int .i64 b.commit]] w fun e w' =>
      e = .returned (.bool (decide (a = b))) ∧ Below w.heap.size w w' :=
  sameKept_x lv lu a.view a.normal a.calm a.log a.commit b.view b.normal b.calm b.log b.commit w B B' hv hu

end Go.Proofs.Ytlaibljdlpmbfaa
/- A law for regions that draw their order: what holds ahead of, and behind, each operation, in whatever order they come. -/
namespace Go.Proofs.Ytlaibljdlpmbfaa
open Go.RowKit
set_option maxHeartbeats 400000

theorem mem_ready {md : Region.Mode} {ops : Array Oper} {listed : Array Bool} {i : Nat} (h : i ∈ Region.ready md ops listed) :
    i < ops.size ∧ listed.getD i true = false ∧ ((ops[i]?).map (·.after.all fun e => !Region.binds md e || listed.getD e.on false)).getD false = true := by
  unfold Region.ready at h
  rw [List.mem_filter] at h
  obtain ⟨h1, h2⟩ := h
  simp only [Bool.and_eq_true, Bool.not_eq_true'] at h2
  exact ⟨by simpa using h1, h2.1, h2.2⟩
def left_ (listed : Array Bool) : Nat := listed.countP (!·)
theorem getD_lt {listed : Array Bool} {i : Nat} (h : listed.getD i true = false) : ∃ hi : i < listed.size, listed[i] = false := by
  rcases Nat.lt_or_ge i listed.size with hlt | hge
  · exact ⟨hlt, by rw [← h]; simp [Array.getD, hlt]⟩
  · rw [Array.getD_eq_getD_getElem?, Array.getElem?_eq_none hge] at h
    cases h
theorem left_set {listed : Array Bool} {i : Nat} (h : listed.getD i true = false) : left_ (listed.setIfInBounds i true) + 1 ≤ left_ listed := by
  obtain ⟨hi, hf⟩ := getD_lt h
  unfold left_
  rw [Array.setIfInBounds_def, dif_pos hi, Array.countP_set]
  have : 0 < listed.countP (!·) := by
    rw [Array.countP_pos_iff]
    exact ⟨false, by rw [← hf]; exact Array.getElem_mem hi, rfl⟩
  rw [hf]
  simp
  omega
theorem left_zero {md : Region.Mode} {ops : Array Oper} {listed : Array Bool} (h : left_ listed = 0) : Region.ready md ops listed = [] := by
  rw [List.eq_nil_iff_forall_not_mem]
  intro i hi
  have := left_set (mem_ready hi).2.1
  omega
section
variable {P : Program} {ops : Array Oper} {Q : Exit → Act → World → Prop} {md : Region.Mode}
theorem wpAny_inv (I : Array Bool → Act → World → Prop)
    (hstep : ∀ listed a w i, I listed a w → i ∈ Region.ready md ops listed → wpOp P ops Q i (fun a' w' => I (listed.setIfInBounds i true) a' w') a w)
    (hend : ∀ listed a w, I listed a w → Region.ready md ops listed = [] → Q .normal a w) :
    ∀ fuel listed a w, left_ listed ≤ fuel → I listed a w → wpAny P md ops Q fuel listed a w
  | 0, listed, a, w, hl, hI => by
    have hr := left_zero (md := md) (ops := ops) (show left_ listed = 0 by omega)
    exact ⟨hr, hend listed a w hI hr⟩
  | fuel + 1, listed, a, w, hl, hI => by
    refine ⟨hend listed a w hI, fun i hi => ?_⟩
    have hlt := left_set (mem_ready hi).2.1
    exact wpOp_mono (fun a' w' h => wpAny_inv I hstep hend fuel _ a' w' (by omega) h) (hstep listed a w i hI hi)
/-- THE LAW. -/
theorem wp_region_inv {id : Nat} {a : Act} {w : World} (hm : P.follows .mixedOrders = true) (I : Array Bool → Act → World → Prop)
    (h0 : I (Array.replicate ops.size false) a { w with drawn := w.drawn + 1 })
    (hstep : ∀ listed a w i, I listed a w → i ∈ Region.ready .any ops listed → wpOp P ops Q i (fun a' w' => I (listed.setIfInBounds i true) a' w') a w)
    (hend : ∀ listed a w, I listed a w → Region.ready .any ops listed = [] → Q .normal a w) : (Code.region id ops true).wp P Q a w :=
  wp_region_any hm (wpAny_inv I hstep hend _ _ _ _ (by unfold left_; simp [Array.countP_replicate]) h0)
theorem wpOp_go {i : Nat} {o : Oper} {K : Act → World → Prop} {a : Act} {w : World} (hi : ops[i]? = some o) (hg : o.guard = none) (h : o.wp P a w K Q) : wpOp P ops Q i K a w := by
  unfold wpOp
  rw [hi]
  have hw : Region.wanted o (yielded ops a.tmps) = true := by simp [Region.wanted, hg]
  simp only [hw, if_true]
  exact .inl h
end
/-- whether k is done -/
def Dn (listed : Array Bool) (k : Nat) : Prop := listed.getD k false = true
theorem dn_set {listed : Array Bool} {i k : Nat} (h : Dn (listed.setIfInBounds i true) k) : k = i ∨ Dn listed k := by
  unfold Dn at *
  by_cases e : k = i
  · exact .inl e
  · refine .inr ?_
    rw [Array.getD_eq_getD_getElem?, Array.getElem?_setIfInBounds_ne (fun h => e h.symm), ← Array.getD_eq_getD_getElem?] at h
    exact h
theorem dn_old {listed : Array Bool} {i k : Nat} (h : Dn (listed.setIfInBounds i true) k) (hne : k ≠ i) : Dn listed k := (dn_set h).resolve_left hne
theorem not_dn0 {n k : Nat} (h : Dn (Array.replicate n false) k) : False := by
  unfold Dn at h
  rw [Array.getD_eq_getD_getElem?] at h
  by_cases hk : k < n
  · simp [hk] at h
  · rw [Array.getElem?_eq_none (by simpa using hk)] at h
    cases h
/-- all are done, where none is ready and the edges point back -/
theorem all_done {ops : Array Oper} {listed : Array Bool} (hb : (List.range ops.size).all (fun i => ((ops[i]?).map fun o => o.after.all fun e => decide (e.on < i)).getD false) = true)
    (hl : listed.size = ops.size) (h : Region.ready .any ops listed = []) : ∀ k, k < ops.size → Dn listed k := by
  intro k
  induction k using Nat.strongRecOn with
  | ind k ih =>
    intro hk
    unfold Dn
    cases hd : listed.getD k false with
    | true => rfl
    | false =>
      exfalso
      have hkt : listed.getD k true = false := by
        rw [Array.getD_eq_getD_getElem?] at hd ⊢
        rw [Array.getElem?_eq_getElem (by omega)] at hd ⊢
        exact hd
      have hb' := List.all_eq_true.1 hb k (by simpa using hk)
      rw [Array.getElem?_eq_getElem hk] at hb'
      simp only [Option.map_some, Option.getD_some, Array.all_eq_true', decide_eq_true_eq] at hb'
      have : k ∈ Region.ready .any ops listed := by
        unfold Region.ready
        rw [List.mem_filter]
        refine ⟨by simpa using hk, ?_⟩
        rw [hkt, Array.getElem?_eq_getElem hk]
        simp only [Bool.not_false, Bool.true_and, Option.map_some, Option.getD_some, Array.all_eq_true']
        intro e he
        have hlt := hb' e he
        have := ih e.on hlt (by omega)
        unfold Dn at this
        rw [this]
        simp
      rw [h] at this
      cases this
end Go.Proofs.Ytlaibljdlpmbfaa
/- Words for memory: replicas. Walks: clones of numbers and of flags. How a replica that came in is opened. -/
namespace Go.Proofs.Ytlaibljdlpmbfaa
open Go.RowKit Go.ChangeShapes Go.WideShapes Go.ChangeAt
set_option maxHeartbeats 400000
set_option maxRecDepth 100000

abbrev vInt : Int → Value := Value.int .i64
theorem el_ints : ElT 25 3 1 8 := by
  obtain ⟨i, h1, h2, h3, h4⟩ := info_parts (P := Try.prog) (e := 3) (z := .int .i64 0) (size := 1) (bytes := 8) (by kernel_rfl)
  exact ⟨Try.underlying25, by omega, i, _, h1, h2, h3, h4, rfl⟩
theorem el_bools : ElT 26 4 1 1 := by
  obtain ⟨i, h1, h2, h3, h4⟩ := info_parts (P := Try.prog) (e := 4) (z := .bool false) (size := 1) (bytes := 1) (by kernel_rfl)
  exact ⟨Try.underlying26, by omega, i, _, h1, h2, h3, h4, rfl⟩
theorem el_kepts : ElT 27 24 5 56 := by
  obtain ⟨i, h1, h2, h3, h4⟩ := info_parts (P := Try.prog) (e := 24) (z := .agg #[.int .i64 0, .int .i64 0, .bool false, .slice none 0 0, .int .i64 0]) (size := 5) (bytes := 56) (by kernel_rfl)
  exact ⟨Try.underlying27, by omega, i, _, h1, h2, h3, h4, rfl⟩
theorem one_ints (xs : List Int) : ∀ u ∈ xs.map vInt, u.oneCell' = true := fun u hu => by
  obtain ⟨s, _, rfl⟩ := List.mem_map.1 hu
  rfl
theorem one_bools (xs : List Bool) : ∀ u ∈ xs.map Value.bool, u.oneCell' = true := fun u hu => by
  obtain ⟨s, _, rfl⟩ := List.mem_map.1 hu
  rfl

theorem cloneInts_c (v : Value) (xs : List Int) (w : World) (B : Nat) (hv : IsOnes 3 8 vInt w B v xs) :
    Calls Try.prog 42 #[v] w fun e w' => (∃ u, e = .returned u ∧ w'.ownsRow w.heap.size 3 1 u xs.length (xs.map vInt)) ∧ Below w.heap.size w w' := by
  obtain ⟨⟨A, c, rfl, hlc, hr⟩, hl⟩ := hv
  have heq := fun (W : World) => Lib.run_eql_slice_nil (P := Try.prog) W 25 3 A xs.length c 0 0 Try.underlying25
  rcases A with _ | ad
  · have hx : xs = [] := by
      have := rd_none hr
      simpa using this
    subst hx
    have heq0 := fun (W : World) => Lib.run_eql_slice_nil (P := Try.prog) W 25 3 none 0 c 0 0 Try.underlying25
    clear heq
    go_enter Try.func42, Try.ntmps42
    go_wp2
    go_ret
    exact ⟨⟨_, rfl, World.ownsRow_nil _ _ _ _⟩, Below.refl _ _⟩
  · have hl' := hl
    unfold R47 at hl'
    go_enter Try.func42, Try.ntmps42
    go_wp2_with (at_builtin; refine list_app _ rfl _ _ 25 rfl el_ints w.heap.size _ 0 [] rfl (own_new (Nat.le_refl _)) _ xs.length (xs.map vInt) rfl ?c1 (one_ints xs) (by unfold maxLen; omega) (by omega) (by simp) ?_)
    case c1 => exact src_of_rd (hr.alloc _) (by simp) (fun e => by cases e)
    intro v1 w1 hown hg hw
    have HO := Lib.hid hown
    have HW := Lib.hid hw
    clear hown hw
    go_wp2
    go_ret
    refine ⟨⟨_, rfl, HO.out⟩, ?_⟩
    exact ((Below.refl _ _).alloc (Nat.le_refl _) _).trans (below_grown hg (by simp) (fun k hk => by simp [Value.ownBlock] at hk; omega))
theorem cloneBools_c (v : Value) (xs : List Bool) (w : World) (B : Nat) (hv : IsOnes 4 1 Value.bool w B v xs) :
    Calls Try.prog 43 #[v] w fun e w' => (∃ u, e = .returned u ∧ w'.ownsRow w.heap.size 4 1 u xs.length (xs.map Value.bool)) ∧ Below w.heap.size w w' := by
  obtain ⟨⟨A, c, rfl, hlc, hr⟩, hl⟩ := hv
  have heq := fun (W : World) => Lib.run_eql_slice_nil (P := Try.prog) W 26 4 A xs.length c 0 0 Try.underlying26
  rcases A with _ | ad
  · have hx : xs = [] := by
      have := rd_none hr
      simpa using this
    subst hx
    have heq0 := fun (W : World) => Lib.run_eql_slice_nil (P := Try.prog) W 26 4 none 0 c 0 0 Try.underlying26
    clear heq
    go_enter Try.func43, Try.ntmps43
    go_wp2
    go_ret
    exact ⟨⟨_, rfl, World.ownsRow_nil _ _ _ _⟩, Below.refl _ _⟩
  · have hl' := hl
    unfold R47 at hl'
    go_enter Try.func43, Try.ntmps43
    go_wp2_with (at_builtin; refine list_app _ rfl _ _ 26 rfl el_bools w.heap.size _ 0 [] rfl (own_new (Nat.le_refl _)) _ xs.length (xs.map Value.bool) rfl ?c1 (one_bools xs) (by unfold maxLen; omega) (by omega) (by simp) ?_)
    case c1 => exact src_of_rd (hr.alloc _) (by simp) (fun e => by cases e)
    intro v1 w1 hown hg hw
    have HO := Lib.hid hown
    have HW := Lib.hid hw
    clear hown hw
    go_wp2
    go_ret
    refine ⟨⟨_, rfl, HO.out⟩, ?_⟩
    exact ((Below.refl _ _).alloc (Nat.le_refl _) _).trans (below_grown hg (by simp) (fun k hk => by simp [Value.ownBlock] at hk; omega))

theorem KeptEl.same {w w' : World} {B : Nat} {Ts : List TypeId} {cs : List Value} {k : Scu.Kept} (h : KeptEl w B cs k) (ht : 9 ∈ Ts) (hs : Same Ts B w w') : KeptEl w' B cs k := by
  obtain ⟨lv, e, h⟩ := h
  exact ⟨lv, e, h.same ht hs⟩
theorem KeptEl.len {w : World} {B : Nat} {cs : List Value} {k : Scu.Kept} (h : KeptEl w B cs k) : cs.length = 5 := by
  obtain ⟨lv, rfl, _⟩ := h
  rfl
structure IsRep (w : World) (B : Nat) (lv hv wv gv nv : Value) (r : Scu.Replica) : Prop where
  log : IsStrs w B lv r.kept.log
  have_ : IsOnes 3 8 vInt w B hv r.have_
  wants : IsOnes 4 1 Value.bool w B wv r.wants
  gives : IsRow 24 5 56 KeptEl w B gv r.gives
  given : IsOnes 4 1 Value.bool w B nv r.given
section
variable {w w' : World} {B B' : Nat} {lv hv wv gv nv : Value} {r : Scu.Replica} {Ts : List TypeId}
theorem IsRep.same (h : IsRep w B lv hv wv gv nv r) (hs : Same [9, 3, 4, 24] B w w') : IsRep w' B lv hv wv gv nv r :=
  ⟨h.log.same (by simp) hs, h.have_.same (by simp) hs, h.wants.same (by simp) hs, h.gives.same (by simp) hs (fun _ _ hk => hk.same (by simp) hs), h.given.same (by simp) hs⟩
theorem IsRep.below (h : IsRep w B lv hv wv gv nv r) (hb : Below w.heap.size w w') : IsRep w' B lv hv wv gv nv r := h.same (Same.below hb)
theorem IsRep.alloc (h : IsRep w B lv hv wv gv nv r) (o : Obj) : IsRep (w.alloc o) B lv hv wv gv nv r := h.same (Same.alloc w o)
end
theorem bytes_int : Try.prog.bytesOf 3 = 8 := by kernel_rfl
theorem bytes_bool : Try.prog.bytesOf 4 = 1 := by kernel_rfl
theorem cells_replica : Try.prog.cellsOf 29 = 10 := by kernel_rfl
theorem cells_ints : Try.prog.cellsOf 25 = 1 := by kernel_rfl
theorem cells_bools : Try.prog.cellsOf 26 = 1 := by kernel_rfl
theorem cells_kepts : Try.prog.cellsOf 27 = 1 := by kernel_rfl
section
variable {H : Type} {enc : TypeId × Value → H} {w : World} {base : Nat} {spare : Nat → Bool} {held : Bool} {n : Nat}
theorem trod_ints {v : Value} {x : DataW H × List MemPlace} (h : DataW.trod enc Try.prog w base spare held n 25 [v] = some x) (hw : ∀ k ∈ x.1.weights Try.prog 25, k ≤ reachBytes) : ∃ xs, IsOnes 3 8 vInt w w.heap.size v xs :=
  trod_ones (0 : Int) Try.underlying25 cells_int bytes_int (fun h => by obtain ⟨a, h, _⟩ := DataW.trod_int Try.underlying3 h; exact ⟨a, h⟩) h hw
theorem trod_bools {v : Value} {x : DataW H × List MemPlace} (h : DataW.trod enc Try.prog w base spare held n 26 [v] = some x) (hw : ∀ k ∈ x.1.weights Try.prog 26, k ≤ reachBytes) : ∃ xs, IsOnes 4 1 Value.bool w w.heap.size v xs :=
  trod_ones false Try.underlying26 cells_bool bytes_bool (fun h => by obtain ⟨a, h, _⟩ := DataW.trod_bool Try.underlying4 h; exact ⟨a, h⟩) h hw
theorem trod_kepts {v : Value} {x : DataW H × List MemPlace} (h : DataW.trod enc Try.prog w base spare held n 27 [v] = some x) (hw : ∀ k ∈ x.1.weights Try.prog 27, k ≤ reachBytes) : ∃ xs, IsRow 24 5 56 KeptEl w w.heap.size v xs :=
  trod_row Scu.kept0 Try.underlying27 cells_kept bytes_kept (by omega) (fun h hw => trod_kept h hw) h hw
theorem trod_rep {cs : List Value} {x : DataW H × List MemPlace} (h : DataW.trod enc Try.prog w base spare held n 29 cs = some x) (hw : ∀ k ∈ x.1.weights Try.prog 29, k ≤ reachBytes) :
    ∃ r lv hv wv gv nv, cs = [.int .i64 r.me, .int .i64 r.kept.view, .int .i64 r.kept.normal, .bool r.kept.calm, lv, .int .i64 r.kept.commit, hv, wv, gv, nv] ∧ IsRep w w.heap.size lv hv wv gv nv r := by
  obtain ⟨xs, m, _, hxe, hl, hxl, hf⟩ := DataW.trod_struct Try.underlying29 h
  rw [cells_replica] at hl
  match cs, hl with
  | [c0, c1, c2, c3, c4, c5, c6, c7, c8, c9], _ =>
    have hxl6 : xs.length = 6 := hxl
    match xs, hxl6 with
    | [z0, z1, z2, z3, z4, z5], _ =>
      subst hxe
      have hwt : ∀ k ∈ DataW.weights Try.prog 29 (DataW.agg [z0.1, z1.1, z2.1, z3.1, z4.1, z5.1]), k ≤ reachBytes := hw
      simp only [DataW.weights, Try.underlying29, DataW.weightsEach, List.map_cons, List.map_nil, List.mem_append] at hwt
      obtain ⟨n0, h0, _⟩ := DataW.trod_int Try.underlying3 (hf 0 _ rfl)
      have h1 := hf 1 _ rfl
      have h2 := hf 2 _ rfl
      have h3 := hf 3 _ rfl
      have h4 := hf 4 _ rfl
      have h5 := hf 5 _ rfl
      simp [cells_int, cells_kept, cells_ints, cells_bools, cells_kepts] at h0 h1 h2 h3 h4 h5
      obtain ⟨k, lv, ek, hk⟩ := trod_kept h1 (fun k hk => hwt k (.inr (.inl hk)))
      obtain ⟨hs, h2'⟩ := trod_ints h2 (fun k hk => hwt k (.inr (.inr (.inl hk))))
      obtain ⟨ws, h3'⟩ := trod_bools h3 (fun k hk => hwt k (.inr (.inr (.inr (.inl hk)))))
      obtain ⟨gs, h4'⟩ := trod_kepts h4 (fun k hk => hwt k (.inr (.inr (.inr (.inr (.inl hk))))))
      obtain ⟨ns, h5'⟩ := trod_bools h5 (fun k hk => hwt k (.inr (.inr (.inr (.inr (.inr (.inl hk)))))))
      simp only [List.cons.injEq, and_true] at ek
      obtain ⟨rfl, rfl, rfl, rfl, rfl⟩ := ek
      subst h0
      exact ⟨⟨n0, k, hs, ws, gs, ns⟩, c4, c6, c7, c8, c9, rfl, hk, h2', h3', h4', h5'⟩
def IsRepV (w : World) (v : Value) (r : Scu.Replica) : Prop :=
  ∃ lv hv wv gv nv, v = .agg #[.int .i64 r.me, .int .i64 r.kept.view, .int .i64 r.kept.normal, .bool r.kept.calm, lv, .int .i64 r.kept.commit, hv, wv, gv, nv] ∧ IsRep w w.heap.size lv hv wv gv nv r
theorem openS_Replica {v : Value} {d : DataW H} {p : List MemPlace} {b0 : Nat} (hv : Value.okWide Try.prog w .any b0 29 v) (h : DataW.Trod enc Try.prog w base spare held 29 v d p)
    (hw : ∀ k ∈ d.weights Try.prog 29, k ≤ reachBytes) : ∃ y, IsRepV w v y := by
  obtain ⟨cs, rfl, _⟩ := okWide_struct Try.underlying29 hv
  obtain ⟨fuel, hf⟩ := h
  obtain ⟨r, lv, hv, wv, gv, nv, e, hy⟩ := trod_rep hf hw
  refine ⟨r, lv, hv, wv, gv, nv, ?_, hy⟩
  have : cs = #[.int .i64 r.me, .int .i64 r.kept.view, .int .i64 r.kept.normal, .bool r.kept.calm, lv, .int .i64 r.kept.commit, hv, wv, gv, nv] := by
    apply Array.toList_inj.1
    simpa [Value.cells] using e
  rw [this]
end
end Go.Proofs.Ytlaibljdlpmbfaa
/- Walks: may a replica be? The program's. -/
namespace Go.Proofs.Ytlaibljdlpmbfaa
open Go.RowKit
set_option maxHeartbeats 400000
set_option maxRecDepth 100000

def haveBad (n : Nat) (h : Int) : Bool := decide (h < 0) || decide ((n : Int) < h)
def giveBad (g : Scu.Kept) : Bool := decide (Scu.keptFault g ≠ 0)
theorem rep_bad2 {r : Scu.Replica} (h : r.me < 0 ∨ 3 ≤ r.me) : Scu.repFault r = 2 := if_pos h
theorem rep_bad8 {r : Scu.Replica} (h : ¬ (r.me < 0 ∨ 3 ≤ r.me)) (h' : r.have_.length ≠ 3 ∨ r.wants.length ≠ 3 ∨ r.gives.length ≠ 3 ∨ r.given.length ≠ 3) : Scu.repFault r = 8 := by
  unfold Scu.repFault
  rw [if_neg h, if_pos h']
theorem rep_rest {r : Scu.Replica} (h : ¬ (r.me < 0 ∨ 3 ≤ r.me)) (h1 : r.have_.length = 3) (h2 : r.wants.length = 3) (h3 : r.gives.length = 3) (h4 : r.given.length = 3) :
    Scu.repFault r = if (r.have_.any (haveBad r.kept.log.length) || r.gives.any giveBad) = true then 8 else Scu.keptFault r.kept := by
  unfold Scu.repFault
  rw [if_neg h, if_neg (by omega)]
  rfl
theorem kepts_get {w : World} {B : Nat} {A : Option Addr} {css : List (List Value)} {gs : List Scu.Kept} {k : Nat} (hl : css.length = gs.length) (hm : ∀ cs ∈ css, cs.length = 5) (h : Rd w B 24 A css.flatten)
    (h6 : ∀ (j : Nat) (cs : List Value) (x : Scu.Kept), css[j]? = some cs → gs[j]? = some x → KeptEl w B cs x) (hk : k < gs.length) :
    ∃ g o lv, A = some ⟨g, o, none⟩ ∧ g < w.heap.size ∧ w.cell? ⟨g, o + k * 5, none⟩ = some (.int .i64 gs[k].view) ∧ w.cell? ⟨g, o + k * 5 + 1, none⟩ = some (.int .i64 gs[k].normal) ∧ w.cell? ⟨g, o + k * 5 + 2, none⟩ = some (.bool gs[k].calm) ∧
      w.cell? ⟨g, o + k * 5 + 3, none⟩ = some lv ∧ w.cell? ⟨g, o + k * 5 + 4, none⟩ = some (.int .i64 gs[k].commit) ∧ IsStrs w B lv gs[k].log := by
  obtain ⟨g, o, cs, h1, h2, _, h4, lv, rfl, h5⟩ := row_get hl hm (by omega) h h6 hk
  exact ⟨g, o, lv, h1, h2, h4 0 _ rfl, by rw [Nat.add_assoc]; exact h4 1 _ rfl, by rw [Nat.add_assoc]; exact h4 2 _ rfl, by rw [Nat.add_assoc]; exact h4 3 _ rfl, by rw [Nat.add_assoc]; exact h4 4 _ rfl, h5⟩

theorem repCheck_c (lv hv0 wv gv nv : Value) (r : Scu.Replica) (w : World) (B : Nat) (hv : IsRep w B lv hv0 wv gv nv r) :
    Calls Try.prog 21 #[.agg #[.int .i64 r.me, .int .i64 r.kept.view, .int .i64 r.kept.normal, .bool r.kept.calm, lv, .int .i64 r.kept.commit, hv0, wv, gv, nv]] w fun e w' =>
      e = .returned (.int .i64 (Scu.repFault r)) ∧ Below w.heap.size w w' := by
  have HV := Lib.hid hv
  obtain ⟨⟨A0, c0, rfl, _, hr0⟩, hl0, he0⟩ := hv.log
  obtain ⟨⟨A1, c1, rfl, _, hr1⟩, hl1⟩ := hv.have_
  obtain ⟨⟨A2, c2, rfl, _, hr2⟩, hl2⟩ := hv.wants
  obtain ⟨⟨A3, c3, css, rfl, _, hcl, hcm, hr3, hce⟩, hl3⟩ := hv.gives
  obtain ⟨⟨A4, c4, rfl, _, hr4⟩, hl4⟩ := hv.given
  unfold R47 at hl0 hl1 hl2 hl3 hl4
  have HCE := Lib.hid (And.intro hcl (And.intro hcm hce))
  clear hv hcl hcm hce
  cases t1 : decide (r.me < 0) with
  | true =>
    have HF := Lib.hid (show Scu.repFault r = 2 from rep_bad2 (.inl (of_decide_eq_true t1)))
    clear hr0 hr1 hr2 hr3 hr4 HCE he0
    go_enter Try.func21, Try.ntmps21
    go_wp2
    go_ret
    exact ⟨ret_val (int_eq HF.out.symm), (Below.refl _ _).alloc (Nat.le_refl _) _⟩
  | false =>
  cases t2 : decide ((3 : Int) ≤ r.me) with
  | true =>
    have HF := Lib.hid (show Scu.repFault r = 2 from rep_bad2 (.inr (of_decide_eq_true t2)))
    clear hr0 hr1 hr2 hr3 hr4 HCE he0
    go_enter Try.func21, Try.ntmps21
    go_wp2
    go_ret
    exact ⟨ret_val (int_eq HF.out.symm), (Below.refl _ _).alloc (Nat.le_refl _) _⟩
  | false =>
  have HME := Lib.hid (show ¬ (r.me < 0 ∨ 3 ≤ r.me) from fun h => h.elim (of_decide_eq_false t1) (of_decide_eq_false t2))
  cases t3 : ((r.have_.length : Int) != 3) with
  | true =>
    have HF := Lib.hid (show Scu.repFault r = 8 from rep_bad8 HME.out (.inl (by have := bne_iff_ne.1 t3; omega)))
    clear hr0 hr1 hr2 hr3 hr4 HCE he0
    go_enter Try.func21, Try.ntmps21
    go_wp2
    go_ret
    exact ⟨ret_val (int_eq HF.out.symm), (Below.refl _ _).alloc (Nat.le_refl _) _⟩
  | false =>
  cases t4 : ((r.wants.length : Int) != 3) with
  | true =>
    have HF := Lib.hid (show Scu.repFault r = 8 from rep_bad8 HME.out (.inr (.inl (by have := bne_iff_ne.1 t4; omega))))
    clear hr0 hr1 hr2 hr3 hr4 HCE he0
    go_enter Try.func21, Try.ntmps21
    go_wp2
    go_ret
    exact ⟨ret_val (int_eq HF.out.symm), (Below.refl _ _).alloc (Nat.le_refl _) _⟩
  | false =>
  cases t5 : ((r.gives.length : Int) != 3) with
  | true =>
    have HF := Lib.hid (show Scu.repFault r = 8 from rep_bad8 HME.out (.inr (.inr (.inl (by have := bne_iff_ne.1 t5; omega)))))
    clear hr0 hr1 hr2 hr3 hr4 HCE he0
    go_enter Try.func21, Try.ntmps21
    go_wp2
    go_ret
    exact ⟨ret_val (int_eq HF.out.symm), (Below.refl _ _).alloc (Nat.le_refl _) _⟩
  | false =>
  cases t6 : ((r.given.length : Int) != 3) with
  | true =>
    have HF := Lib.hid (show Scu.repFault r = 8 from rep_bad8 HME.out (.inr (.inr (.inr (by have := bne_iff_ne.1 t6; omega)))))
    clear hr0 hr1 hr2 hr3 hr4 HCE he0
    go_enter Try.func21, Try.ntmps21
    go_wp2
    go_ret
    exact ⟨ret_val (int_eq HF.out.symm), (Below.refl _ _).alloc (Nat.le_refl _) _⟩
  | false =>
  have l1 : r.have_.length = 3 := by have h : (r.have_.length : Int) = 3 := by simpa using t3
                                     omega
  have l2 : r.wants.length = 3 := by have h : (r.wants.length : Int) = 3 := by simpa using t4
                                     omega
  have l3 : r.gives.length = 3 := by have h : (r.gives.length : Int) = 3 := by simpa using t5
                                     omega
  have l4 : r.given.length = 3 := by have h : (r.given.length : Int) = 3 := by simpa using t6
                                     omega
  have HF := Lib.hid (rep_rest HME.out l1 l2 l3 l4)
  have L1 := Lib.hid l1
  have L3 := Lib.hid l3
  have HE0 := Lib.hid he0
  clear l1 l2 l3 l4 he0
  go_enter Try.func21, Try.ntmps21
  go_wp2
  go_loopw [38] (fun i wr => ∃ j : Nat, j ≤ r.gives.length ∧ i = .int .i64 j ∧ Hid ((r.have_.take j).any (haveBad r.kept.log.length) = false ∧ (r.gives.take j).any giveBad = false) ∧ Below (w.heap.size + 1) (w.alloc (Obj.cells #[.int .i64 r.me, .int .i64 r.kept.view, .int .i64 r.kept.normal, .bool r.kept.calm, .slice A0 r.kept.log.length c0, .int .i64 r.kept.commit, .slice A1 r.have_.length c1, .slice A2 r.wants.length c2, .slice A3 r.gives.length c3, .slice A4 r.given.length c4] 29)) wr) (fun i _ => r.gives.length - (intOf i).toNat)
  case atStart => exact ⟨0, Nat.zero_le _, rfl, by simp [Hid], Below.refl _ _⟩
  case round =>
    obtain ⟨j, hj, rfl, ht, hbw⟩ := hrel
    have hbs := hbw.size
    simp only [World.size_alloc] at hbs
    have hbs' : w.heap.size < wr.heap.size := by omega
    obtain ⟨hcc, hzz⟩ := bcell hbw
    by_cases hlt : j < r.gives.length
    · have hlt' : (j : Int) < (r.gives.length : Int) := by omega
      have hlh : j < r.have_.length := by have := L1.out; have := L3.out; omega
      have hlh' : (j : Int) < (r.have_.length : Int) := by omega
      have HVW := Lib.hid ((HV.out.alloc (Obj.cells #[.int .i64 r.me, .int .i64 r.kept.view, .int .i64 r.kept.normal, .bool r.kept.calm, .slice A0 r.kept.log.length c0, .int .i64 r.kept.commit, .slice A1 r.have_.length c1, .slice A2 r.wants.length c2, .slice A3 r.gives.length c3, .slice A4 r.given.length c4] 29)).below (hbw.mono (by simp)))
      obtain ⟨g, o, lvj, e3, hg, k0, k1, k2, k3, k4, hls⟩ := kepts_get HCE.out.1 HCE.out.2.1 ((hr3.alloc (Obj.cells #[.int .i64 r.me, .int .i64 r.kept.view, .int .i64 r.kept.normal, .bool r.kept.calm, .slice A0 r.kept.log.length c0, .int .i64 r.kept.commit, .slice A1 r.have_.length c1, .slice A2 r.wants.length c2, .slice A3 r.gives.length c3, .slice A4 r.given.length c4] 29)).below (hbw.mono (by simp))) (fun j cs x a b => ((HCE.out.2.2 j cs x a b).same (Ts := [9]) (by simp) (Same.alloc w (Obj.cells #[.int .i64 r.me, .int .i64 r.kept.view, .int .i64 r.kept.normal, .bool r.kept.calm, .slice A0 r.kept.log.length c0, .int .i64 r.kept.commit, .slice A1 r.have_.length c1, .slice A2 r.wants.length c2, .slice A3 r.gives.length c3, .slice A4 r.given.length c4] 29))).same (Ts := [9]) (by simp) (Same.below (hbw.mono (by simp)))) hlt
      obtain ⟨g1, o1, e1, hg1, m0⟩ := ones_get ((hr1.alloc (Obj.cells #[.int .i64 r.me, .int .i64 r.kept.view, .int .i64 r.kept.normal, .bool r.kept.calm, .slice A0 r.kept.log.length c0, .int .i64 r.kept.commit, .slice A1 r.have_.length c1, .slice A2 r.wants.length c2, .slice A3 r.gives.length c3, .slice A4 r.given.length c4] 29)).below (hbw.mono (by simp))) hlh
      subst e3 e1
      have HLS := Lib.hid hls
      obtain ⟨Aj, nj, cj, rfl⟩ := hls.form
      have HBW := Lib.hid hbw
      clear hls hbw
      cases u1 : decide (r.have_[j] < 0) with
      | true =>
        have HX := Lib.hid (show Scu.repFault r = 8 by rw [HF.out, any_found (haveBad r.kept.log.length) r.have_ j hlh (by unfold haveBad; rw [u1]; rfl)]; rfl)
        go_wp2
        go_quiet (fail)
        go_wp2
        go_ret
        exact ⟨ret_val (int_eq HX.out.symm), below_drewN (((below_alloc w _).trans (HBW.out.mono (by simp))).alloc (by omega) _) _⟩
      | false =>
      cases u2 : decide ((r.kept.log.length : Int) < r.have_[j]) with
      | true =>
        have HX := Lib.hid (show Scu.repFault r = 8 by rw [HF.out, any_found (haveBad r.kept.log.length) r.have_ j hlh (by unfold haveBad; rw [u1, u2]; rfl)]; rfl)
        go_wp2
        go_quiet (fail)
        go_wp2
        go_ret
        exact ⟨ret_val (int_eq HX.out.symm), below_drewN (((below_alloc w _).trans (HBW.out.mono (by simp))).alloc (by omega) _) _⟩
      | false =>
        have hq : w.heap.size < wr.heap.size + 1 := by omega
        have HH := Lib.hid (show haveBad r.kept.log.length r.have_[j] = false by unfold haveBad; rw [u1, u2]; rfl)
        cases u3 : (Scu.keptFault r.gives[j] != 0)
        all_goals
          have U3 := Lib.hid u3
          go_wp2_with fail
          go_region_held3 (fun w' => w'.cell? ⟨w.heap.size, 6, none⟩ = some (.slice (some ⟨g1, o1, none⟩) r.have_.length c1) ∧ w'.cell? ⟨w.heap.size, 4, none⟩ = some (.slice A0 r.kept.log.length c0) ∧ w'.cell? ⟨g1, o1 + j, none⟩ = some (.int .i64 r.have_[j]) ∧
              w'.cell? ⟨wr.heap.size, 0, none⟩ = some (.int .i64 r.gives[j].view) ∧ w'.cell? ⟨wr.heap.size, 1, none⟩ = some (.int .i64 r.gives[j].normal) ∧ w'.cell? ⟨wr.heap.size, 2, none⟩ = some (.bool r.gives[j].calm) ∧
              w'.cell? ⟨wr.heap.size, 3, none⟩ = some (.slice Aj nj cj) ∧ w'.cell? ⟨wr.heap.size, 4, none⟩ = some (.int .i64 r.gives[j].commit)) (first | go_keep | (go_split_ands; refine ⟨?_, ?_, ?_, ?_, ?_, ?_, ?_, ?_⟩ <;> (refine (h1.cell (by first | (simp; done) | (simp; omega))).trans ?_; assumption)))
            ((go_at_call 24; refine (stageCheck_c _ r.gives[j] _ B ((HLS.out.alloc _).drewN _)).mono ?_; rintro e w1 ⟨rfl, h1⟩))
          have hb1 := below_drewN (((below_alloc w _).trans (HBW.out.mono (by simp))).alloc (by omega) (Obj.cells #[.int .i64 r.gives[j].view, .int .i64 r.gives[j].normal, .bool r.gives[j].calm, .slice Aj nj cj, .int .i64 r.gives[j].commit] 24)) 1
          have hb2 := below_drewN (HBW.out.alloc (by omega) (Obj.cells #[.int .i64 r.gives[j].view, .int .i64 r.gives[j].normal, .bool r.gives[j].calm, .slice Aj nj cj, .int .i64 r.gives[j].commit] 24)) 1
          have HB1 := Lib.hid (hb1.trans (h1.mono hb1.size))
          have HB2 := Lib.hid (hb2.trans (h1.mono (by simp; omega)))
          clear hb1 hb2
          go_wp2
        · go_roundw
          case rel =>
            refine ⟨j + 1, hlt, by go_num, ⟨?_, ?_⟩, HB2.out⟩
            · rw [any_take _ r.have_ j hlh, ht.out.1, HH.out]; rfl
            · rw [any_take _ r.gives j hlt, ht.out.2]
              unfold giveBad
              have := U3.out
              simpa using this
          case measure => simp only [intOf]; omega
        · have HX := Lib.hid (show Scu.repFault r = 8 by
            rw [HF.out, any_found giveBad r.gives j hlt (by unfold giveBad; have := U3.out; simpa using this)]
            simp)
          go_ret
          exact ⟨ret_val (int_eq HX.out.symm), HB1.out⟩
    · have hlt' : (r.gives.length : Int) ≤ (j : Int) := by omega
      have HX := Lib.hid (show Scu.repFault r = Scu.keptFault r.kept by
        have e1 := any_none _ r.have_ j (by have := L1.out; have := L3.out; omega) ht.out.1
        have e2 := any_none _ r.gives j (by omega) ht.out.2
        rw [HF.out, e1, e2]; rfl)
      have HBW := Lib.hid hbw
      have HB1 := Lib.hid ((below_alloc w _).trans (hbw.mono (by simp)))
      clear hbw
      go_wp2_with fail
      refine (stageCheck_c _ r.kept _ B (HV.out.log.below HB1.out)).mono ?_; rintro e w1 ⟨rfl, h1⟩
      go_wp2
      go_ret
      exact ⟨ret_val (int_eq HX.out.symm), HB1.out.trans (h1.mono HB1.out.size)⟩
end Go.Proofs.Ytlaibljdlpmbfaa

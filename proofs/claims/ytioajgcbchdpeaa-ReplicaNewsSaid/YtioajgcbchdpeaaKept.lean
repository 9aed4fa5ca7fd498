/- Walks: what may be kept, its copies, and whether it is the same; the laws StageCopies and StageChecks. -/
import Derived.Test.YtioajgcbchdpeaaMach
import Derived.Test.YtioajgcbchdpeaaEntryR
namespace Go.Proofs.Ytioajgcbchdpeaa
open Go.RowKit Go.ChangeShapes Go.WideShapes Go.ChangeAt
set_option maxHeartbeats 400000
set_option maxRecDepth 100000

def vKept (lv : Value) (k : Scu.Kept) : Value := .agg #[.int .i64 k.view, .int .i64 k.normal, .bool k.calm, lv, .int .i64 k.commit]
theorem cells_kept : Try.prog.cellsOf 28 = 5 := by kernel_rfl
theorem bytes_kept : Try.prog.bytesOf 28 = 56 := by kernel_rfl
def KeptEl (w : World) (B : Nat) (cs : List Value) (k : Scu.Kept) : Prop := ∃ lv, cs = [.int .i64 k.view, .int .i64 k.normal, .bool k.calm, lv, .int .i64 k.commit] ∧ IsStrs w B lv k.log
section
variable {H : Type} {enc : TypeId × Value → H} {w : World} {base : Nat} {spare : Nat → Bool} {held : Bool} {n : Nat}
theorem trod_kept {cs : List Value} {x : DataW H × List MemPlace} (h : DataW.trod enc Try.prog w base spare held n 28 cs = some x) (hw : ∀ k ∈ x.1.weights Try.prog 28, k ≤ reachBytes) : ∃ k, KeptEl w w.heap.size cs k := by
  obtain ⟨xs, m, _, hxe, hl, hxl, hf⟩ := DataW.trod_struct Try.underlying28 h
  rw [cells_kept] at hl
  match cs, hl with
  | [c0, c1, c2, c3, c4], _ =>
    have hxl5 : xs.length = 5 := hxl
    match xs, hxl5 with
    | [z0, z1, z2, z3, z4], _ =>
      subst hxe
      have hwt : ∀ k ∈ DataW.weights Try.prog 28 (DataW.agg [z0.1, z1.1, z2.1, z3.1, z4.1]), k ≤ reachBytes := hw
      simp only [DataW.weights, Try.underlying28, DataW.weightsEach, List.map_cons, List.map_nil, List.mem_append] at hwt
      obtain ⟨n0, h0, _⟩ := DataW.trod_int Try.underlying3 (hf 0 _ rfl)
      obtain ⟨n1, h1, _⟩ := DataW.trod_int Try.underlying3 (hf 1 _ rfl)
      obtain ⟨b2, h2, _⟩ := DataW.trod_bool Try.underlying4 (hf 2 _ rfl)
      obtain ⟨n4, h4, _⟩ := DataW.trod_int Try.underlying3 (hf 4 _ rfl)
      have h3 := hf 3 _ rfl
      simp [cells_int, cells_bool, cells_strs] at h0 h1 h2 h3 h4
      subst h0 h1 h2 h4
      obtain ⟨ls, h3'⟩ := trod_strs h3 (fun k hk => hwt k (.inr (.inr (.inr (.inl hk)))))
      exact ⟨⟨n0, n1, b2, ls, n4⟩, c3, rfl, h3'⟩
def IsKeptV (w : World) (v : Value) (x : Scu.Kept) : Prop := ∃ lv, v = .agg #[.int .i64 x.view, .int .i64 x.normal, .bool x.calm, lv, .int .i64 x.commit] ∧ IsStrs w w.heap.size lv x.log
theorem openS_Kept {v : Value} {d : DataW H} {p : List MemPlace} {b0 : Nat} (hv : Value.okWide Try.prog w .any b0 28 v) (h : DataW.Trod enc Try.prog w base spare held 28 v d p)
    (hw : ∀ k ∈ d.weights Try.prog 28, k ≤ reachBytes) : ∃ y, IsKeptV w v y := by
  obtain ⟨cs, rfl, _⟩ := okWide_struct Try.underlying28 hv
  obtain ⟨fuel, hf⟩ := h
  obtain ⟨k, lv, e, hy⟩ := trod_kept hf hw
  refine ⟨k, lv, ?_, hy⟩
  have : cs = #[.int .i64 k.view, .int .i64 k.normal, .bool k.calm, lv, .int .i64 k.commit] := by
    apply Array.toList_inj.1
    simpa [Value.cells] using e
  rw [this]
end

/- what may be kept -/
theorem kept_bad2 {k : Scu.Kept} (h : k.view < 0 ∨ 1048576 < k.view ∨ k.normal < 0 ∨ k.view < k.normal ∨ (k.calm = true ∧ k.normal ≠ k.view)) : Scu.keptFault k = 2 := if_pos h
theorem kept_ok2 {k : Scu.Kept} (h1 : ¬ k.view < 0) (h2 : ¬ 1048576 < k.view) (h3 : ¬ k.normal < 0) (h4 : ¬ k.view < k.normal) (h5 : k.calm = false ∨ k.normal = k.view) :
    ¬ (k.view < 0 ∨ 1048576 < k.view ∨ k.normal < 0 ∨ k.view < k.normal ∨ (k.calm = true ∧ k.normal ≠ k.view)) := by
  rintro (h | h | h | h | ⟨h, h'⟩)
  · exact h1 h
  · exact h2 h
  · exact h3 h
  · exact h4 h
  · rcases h5 with h5 | h5
    · rw [h] at h5; cases h5
    · exact h' h5
theorem kept_rest {k : Scu.Kept} (h : ¬ (k.view < 0 ∨ 1048576 < k.view ∨ k.normal < 0 ∨ k.view < k.normal ∨ (k.calm = true ∧ k.normal ≠ k.view))) :
    Scu.keptFault k = if 60 < k.log.length then 1 else if k.commit < 0 ∨ (k.log.length : Int) < k.commit then 2 else Scu.logFault k.log := if_neg h
theorem log_next {l : List Scu.Str} {k : Nat} (h : k < l.length) : Scu.logFault (l.drop k) = if (Scu.decode l[k]).2 ≠ 0 then (Scu.decode l[k]).2 else Scu.logFault (l.drop (k + 1)) := by
  rw [List.drop_eq_getElem_cons h]
  rfl
theorem decode_a (s : ByteArray) (w : World) (r : Scu.Request) (c : Int) (h : Scu.decode s = (r, c)) :
    Calls Try.prog 78 #[.string s] w fun e w' => e = .returned (.tuple #[.agg #[.int .i64 r.client, .int .i64 r.num, .int .i64 r.op.kind, .int .i64 r.op.at_, .int .i64 r.op.snap, .string r.op.data], .int .i64 c]) ∧ Below w.heap.size w w' := by
  have := decode_c s w
  rw [h] at this
  exact this
theorem entryOf_a (s : ByteArray) (w : World) (r : Scu.Request) (c : Int) (h : Scu.decode s = (r, c)) :
    Calls Try.prog 81 #[.string s] w fun e w' => e = .returned (.tuple #[.agg #[.int .i64 r.client, .int .i64 r.num, .int .i64 r.op.kind, .int .i64 r.op.at_, .int .i64 r.op.snap, .string r.op.data], .int .i64 c]) ∧ Below w.heap.size w w' := by
  have := entryOf_c s w
  rw [h] at this
  exact this

theorem stageCheck_x (lv : Value) (vi no : Int) (ca : Bool) (lo : List Scu.Str) (co : Int) (w : World) (B : Nat) (hv : IsStrs w B lv lo) :
    Calls Try.prog 62 #[.agg #[.int .i64 vi, .int .i64 no, .bool ca, lv, .int .i64 co]] w fun e w' => e = .returned (.int .i64 (Scu.keptFault ⟨vi, no, ca, lo, co⟩)) ∧ Below w.heap.size w w' := by
  obtain ⟨⟨A, c, rfl, _, hr⟩, hl, he⟩ := hv
  have HDEC := Lib.hid (fun (s : ByteArray) (W : World) => decode_a s W)
  unfold R47 at hl he
  cases t1 : decide (vi < 0) with
  | true =>
    have HF := Lib.hid (show Scu.keptFault ⟨vi, no, ca, lo, co⟩ = 2 from kept_bad2 (.inl (of_decide_eq_true t1)))
    clear hr hl he HDEC
    try clear hrest
    go_enter Try.func62, Try.ntmps62
    go_wp2
    go_ret
    exact ⟨ret_val (int_eq HF.out.symm), (Below.refl _ _).alloc (Nat.le_refl _) _⟩
  | false =>
  cases t2 : decide ((1048576 : Int) < vi) with
  | true =>
    have HF := Lib.hid (show Scu.keptFault ⟨vi, no, ca, lo, co⟩ = 2 from kept_bad2 (.inr (.inl (of_decide_eq_true t2))))
    clear hr hl he HDEC
    try clear hrest
    go_enter Try.func62, Try.ntmps62
    go_wp2
    go_ret
    exact ⟨ret_val (int_eq HF.out.symm), (Below.refl _ _).alloc (Nat.le_refl _) _⟩
  | false =>
  cases t3 : decide (no < 0) with
  | true =>
    have HF := Lib.hid (show Scu.keptFault ⟨vi, no, ca, lo, co⟩ = 2 from kept_bad2 (.inr (.inr (.inl (of_decide_eq_true t3)))))
    clear hr hl he HDEC
    try clear hrest
    go_enter Try.func62, Try.ntmps62
    go_wp2
    go_ret
    exact ⟨ret_val (int_eq HF.out.symm), (Below.refl _ _).alloc (Nat.le_refl _) _⟩
  | false =>
  cases t4 : decide (vi < no) with
  | true =>
    have HF := Lib.hid (show Scu.keptFault ⟨vi, no, ca, lo, co⟩ = 2 from kept_bad2 (.inr (.inr (.inr (.inl (of_decide_eq_true t4))))))
    clear hr hl he HDEC
    try clear hrest
    go_enter Try.func62, Try.ntmps62
    go_wp2
    go_ret
    exact ⟨ret_val (int_eq HF.out.symm), (Below.refl _ _).alloc (Nat.le_refl _) _⟩
  | false =>
  have H5 : (ca = true ∧ (no != vi) = true) ∨ ((ca = false ∨ (ca = true ∧ (no != vi) = false))) := by
    cases ca <;> cases (no != vi) <;> simp
  rcases H5 with ⟨rfl, t6⟩ | H5
  · have HF := Lib.hid (show Scu.keptFault ⟨vi, no, true, lo, co⟩ = 2 from kept_bad2 (.inr (.inr (.inr (.inr ⟨rfl, by simpa using t6⟩)))))
    clear hr hl he HDEC
    try clear hrest
    go_enter Try.func62, Try.ntmps62
    go_wp2
    go_ret
    exact ⟨ret_val (int_eq HF.out.symm), (Below.refl _ _).alloc (Nat.le_refl _) _⟩
  have hrest : Scu.keptFault ⟨vi, no, ca, lo, co⟩ = if 60 < lo.length then 1 else if co < 0 ∨ (lo.length : Int) < co then 2 else Scu.logFault lo := kept_rest (k := ⟨vi, no, ca, lo, co⟩) (kept_ok2 (of_decide_eq_false t1) (of_decide_eq_false t2) (of_decide_eq_false t3) (of_decide_eq_false t4) (H5.imp id (fun h => by simpa using h.2)))
  cases t7 : decide ((60 : Int) < (lo.length : Int)) with
  | true =>
    rcases H5 with rfl | ⟨rfl, t6⟩
    · have HF := Lib.hid (show Scu.keptFault ⟨vi, no, false, lo, co⟩ = 1 from by rw [hrest, if_pos (by have := of_decide_eq_true t7; omega)])
      clear hr hl he HDEC
      try clear hrest
      go_enter Try.func62, Try.ntmps62
      go_wp2
      go_ret
      exact ⟨ret_val (int_eq HF.out.symm), (Below.refl _ _).alloc (Nat.le_refl _) _⟩
    · have HF := Lib.hid (show Scu.keptFault ⟨vi, no, true, lo, co⟩ = 1 from by rw [hrest, if_pos (by have := of_decide_eq_true t7; omega)])
      clear hr hl he HDEC
      try clear hrest
      go_enter Try.func62, Try.ntmps62
      go_wp2
      go_ret
      exact ⟨ret_val (int_eq HF.out.symm), (Below.refl _ _).alloc (Nat.le_refl _) _⟩
  | false =>
  rw [if_neg (by have := of_decide_eq_false t7; omega)] at hrest
  cases t8 : decide (co < 0) with
  | true =>
    rcases H5 with rfl | ⟨rfl, t6⟩
    · have HF := Lib.hid (show Scu.keptFault ⟨vi, no, false, lo, co⟩ = 2 from by rw [hrest, if_pos (.inl (of_decide_eq_true t8))])
      clear hr hl he HDEC
      try clear hrest
      go_enter Try.func62, Try.ntmps62
      go_wp2
      go_ret
      exact ⟨ret_val (int_eq HF.out.symm), (Below.refl _ _).alloc (Nat.le_refl _) _⟩
    · have HF := Lib.hid (show Scu.keptFault ⟨vi, no, true, lo, co⟩ = 2 from by rw [hrest, if_pos (.inl (of_decide_eq_true t8))])
      clear hr hl he HDEC
      try clear hrest
      go_enter Try.func62, Try.ntmps62
      go_wp2
      go_ret
      exact ⟨ret_val (int_eq HF.out.symm), (Below.refl _ _).alloc (Nat.le_refl _) _⟩
  | false =>
  cases t9 : decide ((lo.length : Int) < co) with
  | true =>
    rcases H5 with rfl | ⟨rfl, t6⟩
    · have HF := Lib.hid (show Scu.keptFault ⟨vi, no, false, lo, co⟩ = 2 from by rw [hrest, if_pos (.inr (of_decide_eq_true t9))])
      clear hr hl he HDEC
      try clear hrest
      go_enter Try.func62, Try.ntmps62
      go_wp2
      go_ret
      exact ⟨ret_val (int_eq HF.out.symm), (Below.refl _ _).alloc (Nat.le_refl _) _⟩
    · have HF := Lib.hid (show Scu.keptFault ⟨vi, no, true, lo, co⟩ = 2 from by rw [hrest, if_pos (.inr (of_decide_eq_true t9))])
      clear hr hl he HDEC
      try clear hrest
      go_enter Try.func62, Try.ntmps62
      go_wp2
      go_ret
      exact ⟨ret_val (int_eq HF.out.symm), (Below.refl _ _).alloc (Nat.le_refl _) _⟩
  | false =>
  rw [if_neg (by have := of_decide_eq_false t8; have := of_decide_eq_false t9; omega)] at hrest
  have HF := Lib.hid hrest
  have HE := Lib.hid he
  clear hrest he
  rcases H5 with rfl | ⟨rfl, t6⟩
  all_goals
    go_enter Try.func62, Try.ntmps62
    go_wp2
    go_loopw [56] (fun i wr => ∃ j : Nat, j ≤ lo.length ∧ i = .int .i64 j ∧ Hid (Scu.logFault lo = Scu.logFault (lo.drop j)) ∧ Below w.heap.size w wr) (fun i _ => lo.length - (intOf i).toNat)
    case atStart => exact ⟨0, Nat.zero_le _, rfl, by simp [Hid], (Below.refl _ _).alloc (Nat.le_refl _) _⟩
    case round =>
      obtain ⟨j, hj, rfl, ht, hbw⟩ := hrel
      have hrw := hr.below hbw
      have hbs := hbw.size
      by_cases hlt : j < lo.length
      · have hlt' : (j : Int) < (lo.length : Int) := by omega
        obtain ⟨g, o, rfl, hg, hc⟩ := str_get hrw hlt
        have hn := log_next hlt
        generalize hd : Scu.decode lo[j] = q at hn
        obtain ⟨r, cd⟩ := q
        have HD := Lib.hid hd
        clear hd
        cases hx : (cd != 0)
        · have hcd : cd = 0 := by simpa using hx
          have HX := Lib.hid (show Scu.logFault lo = Scu.logFault (lo.drop (j + 1)) by rw [ht.out, hn, if_neg (by simpa using hcd)])
          clear hn hcd
          go_wp2_with fail
          refine (HDEC.out _ _ _ _ HD.out).mono ?_; rintro e w1 ⟨rfl, h1⟩
          go_wp2
          have hb1 := hbw.trans (h1.mono hbs)
          have HB1 := Lib.hid hb1
          clear hb1
          go_roundw
          case rel =>
            refine ⟨j + 1, hlt, by go_num, HX, ?_⟩
            exact (HB1.out.alloc HB1.out.size _)
          case measure => simp only [intOf]; omega
        · have hcd : cd ≠ 0 := by simpa using hx
          have HX := Lib.hid (show Scu.keptFault ⟨vi, no, _, lo, co⟩ = cd by rw [HF.out, ht.out, hn, if_pos hcd])
          clear hn hcd
          go_wp2_with fail
          refine (HDEC.out _ _ _ _ HD.out).mono ?_; rintro e w1 ⟨rfl, h1⟩
          go_wp2
          go_ret
          refine ⟨ret_val (int_eq HX.out.symm), ?_⟩
          have hb1 := hbw.trans (h1.mono hbs)
          exact (hb1.alloc hb1.size _)
      · have hlt' : (lo.length : Int) ≤ (j : Int) := by omega
        have HX := Lib.hid (show Scu.keptFault ⟨vi, no, _, lo, co⟩ = 0 by rw [HF.out, ht.out, List.drop_of_length_le (by omega)]; rfl)
        go_wp2
        go_ret
        exact ⟨ret_val (int_eq HX.out.symm), hbw⟩
theorem stageCheck_c (lv : Value) (k : Scu.Kept) (w : World) (B : Nat) (hv : IsStrs w B lv k.log) :
    Calls Try.prog 62 #[.agg #[.int .i64 k.view, .int .i64 k.normal, .bool k.calm, lv, .int .i64 k.commit]] w fun e w' => e = .returned (.int .i64 (Scu.keptFault k)) ∧ Below w.heap.size w w' :=
  stageCheck_x lv k.view k.normal k.calm k.log k.commit w B hv
end Go.Proofs.Ytioajgcbchdpeaa

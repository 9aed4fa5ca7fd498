/- Walks: what may be kept, by the reference; copies; whether it is the same; the laws StageCopies and StageChecks. -/
import Derived.Test.YtioajgcbchdpeaaKept
namespace Go.Proofs.Ytioajgcbchdpeaa
open Go.RowKit
set_option maxHeartbeats 400000
set_option maxRecDepth 100000

theorem inB_no {n a b : Int} (h : inB n a b = false) : n < a ∨ b < n := by
  unfold inB at h
  simp only [Bool.and_eq_false_iff, decide_eq_false_iff_not] at h
  omega
theorem inB_yes {n a b : Int} (h : inB n a b = true) : a ≤ n ∧ n ≤ b := by
  unfold inB at h
  simpa only [Bool.and_eq_true, decide_eq_true_eq] using h
theorem keptFault_x (lv : Value) (vi no : Int) (ca : Bool) (lo : List Scu.Str) (co : Int) (w : World) (B : Nat) (hv : IsStrs w B lv lo) :
    Calls Try.prog 64 #[.agg #[.int .i64 vi, .int .i64 no, .bool ca, lv, .int .i64 co]] w fun e w' => e = .returned (.int .i64 (Scu.keptFault ⟨vi, no, ca, lo, co⟩)) ∧ Below w.heap.size w w' := by
  obtain ⟨⟨A, c, rfl, _, hr⟩, hl, he⟩ := hv
  have HDEC := Lib.hid (fun (s : ByteArray) (W : World) => entryOf_a s W)
  unfold R47 at hl he
  cases t1 : inB vi 0 1048576 with
  | false =>
    have U1 := Lib.hid t1
    clear t1
    have HF := Lib.hid (show Scu.keptFault ⟨vi, no, ca, lo, co⟩ = 2 from kept_bad2 (by have := inB_no U1.out; show vi < 0 ∨ 1048576 < vi ∨ _; omega))
    clear hr hl he HDEC
    try clear hrest
    go_enter Try.func64, Try.ntmps64
    go_wp2_with (go_at_call 63; refine (inn_c _ _ _ _).mono ?_; rintro e w1 ⟨rfl, rfl⟩; first | rw [U1.out] | rw [U2.out] | rw [U4.out])
    go_ret
    exact ⟨ret_val (int_eq HF.out.symm), (Below.refl _ _).alloc (Nat.le_refl _) _⟩
  | true =>
  have U1 := Lib.hid t1
  have V1 := Lib.hid (inB_yes t1)
  clear t1
  cases t2 : inB no 0 vi with
  | false =>
    have U2 := Lib.hid t2
    clear t2
    have HF := Lib.hid (show Scu.keptFault ⟨vi, no, ca, lo, co⟩ = 2 from kept_bad2 (by have := inB_no U2.out; show vi < 0 ∨ 1048576 < vi ∨ no < 0 ∨ vi < no ∨ _; omega))
    clear hr hl he HDEC
    try clear hrest
    go_enter Try.func64, Try.ntmps64
    go_wp2_with (go_at_call 63; refine (inn_c _ _ _ _).mono ?_; rintro e w1 ⟨rfl, rfl⟩; first | rw [U1.out] | rw [U2.out] | rw [U4.out])
    go_ret
    exact ⟨ret_val (int_eq HF.out.symm), (Below.refl _ _).alloc (Nat.le_refl _) _⟩
  | true =>
  have U2 := Lib.hid t2
  have V2 := Lib.hid (inB_yes t2)
  clear t2
  have H5 : (ca = true ∧ (no != vi) = true) ∨ ((ca = false ∨ (ca = true ∧ (no != vi) = false))) := by
    cases ca <;> cases (no != vi) <;> simp
  rcases H5 with ⟨rfl, t6⟩ | H5
  · have HF := Lib.hid (show Scu.keptFault ⟨vi, no, true, lo, co⟩ = 2 from kept_bad2 (.inr (.inr (.inr (.inr ⟨rfl, by simpa using t6⟩)))))
    clear hr hl he HDEC
    try clear hrest
    go_enter Try.func64, Try.ntmps64
    go_wp2_with (go_at_call 63; refine (inn_c _ _ _ _).mono ?_; rintro e w1 ⟨rfl, rfl⟩; first | rw [U1.out] | rw [U2.out] | rw [U4.out])
    go_ret
    exact ⟨ret_val (int_eq HF.out.symm), (Below.refl _ _).alloc (Nat.le_refl _) _⟩
  have hrest : Scu.keptFault ⟨vi, no, ca, lo, co⟩ = if 60 < lo.length then 1 else if co < 0 ∨ (lo.length : Int) < co then 2 else Scu.logFault lo :=
    kept_rest (k := ⟨vi, no, ca, lo, co⟩) (kept_ok2 (by have := V1.out; show ¬ vi < 0; omega) (by have := V1.out; show ¬ 1048576 < vi; omega) (by have := V2.out; show ¬ no < 0; omega) (by have := V2.out; show ¬ vi < no; omega) (H5.imp id (fun h => by simpa using h.2)))
  cases t7 : decide ((60 : Int) < (lo.length : Int)) with
  | true =>
    rcases H5 with rfl | ⟨rfl, t6⟩
    · have HF := Lib.hid (show Scu.keptFault ⟨vi, no, false, lo, co⟩ = 1 from by rw [hrest, if_pos (by have := of_decide_eq_true t7; omega)])
      clear hr hl he HDEC
      try clear hrest
      go_enter Try.func64, Try.ntmps64
      go_wp2_with (go_at_call 63; refine (inn_c _ _ _ _).mono ?_; rintro e w1 ⟨rfl, rfl⟩; first | rw [U1.out] | rw [U2.out] | rw [U4.out])
      go_ret
      exact ⟨ret_val (int_eq HF.out.symm), (Below.refl _ _).alloc (Nat.le_refl _) _⟩
    · have HF := Lib.hid (show Scu.keptFault ⟨vi, no, true, lo, co⟩ = 1 from by rw [hrest, if_pos (by have := of_decide_eq_true t7; omega)])
      clear hr hl he HDEC
      try clear hrest
      go_enter Try.func64, Try.ntmps64
      go_wp2_with (go_at_call 63; refine (inn_c _ _ _ _).mono ?_; rintro e w1 ⟨rfl, rfl⟩; first | rw [U1.out] | rw [U2.out] | rw [U4.out])
      go_ret
      exact ⟨ret_val (int_eq HF.out.symm), (Below.refl _ _).alloc (Nat.le_refl _) _⟩
  | false =>
  rw [if_neg (by have := of_decide_eq_false t7; omega)] at hrest
  cases t8 : inB co 0 (lo.length : Int) with
  | false =>
    have U4 := Lib.hid t8
    clear t8
    rcases H5 with rfl | ⟨rfl, t6⟩
    · have HF := Lib.hid (show Scu.keptFault ⟨vi, no, false, lo, co⟩ = 2 from by rw [hrest, if_pos (by have := inB_no U4.out; omega)])
      clear hr hl he HDEC
      try clear hrest
      go_enter Try.func64, Try.ntmps64
      go_wp2_with (go_at_call 63; refine (inn_c _ _ _ _).mono ?_; rintro e w1 ⟨rfl, rfl⟩; first | rw [U1.out] | rw [U2.out] | rw [U4.out])
      go_ret
      exact ⟨ret_val (int_eq HF.out.symm), (Below.refl _ _).alloc (Nat.le_refl _) _⟩
    · have HF := Lib.hid (show Scu.keptFault ⟨vi, no, true, lo, co⟩ = 2 from by rw [hrest, if_pos (by have := inB_no U4.out; omega)])
      clear hr hl he HDEC
      try clear hrest
      go_enter Try.func64, Try.ntmps64
      go_wp2_with (go_at_call 63; refine (inn_c _ _ _ _).mono ?_; rintro e w1 ⟨rfl, rfl⟩; first | rw [U1.out] | rw [U2.out] | rw [U4.out])
      go_ret
      exact ⟨ret_val (int_eq HF.out.symm), (Below.refl _ _).alloc (Nat.le_refl _) _⟩
  | true =>
  have U4 := Lib.hid t8
  rw [if_neg (by have := inB_yes t8; omega)] at hrest
  have HF := Lib.hid hrest
  have HE := Lib.hid he
  clear hrest he t8
  rcases H5 with rfl | ⟨rfl, t6⟩
  all_goals
    go_enter Try.func64, Try.ntmps64
    go_wp2_with (go_at_call 63; refine (inn_c _ _ _ _).mono ?_; rintro e w1 ⟨rfl, rfl⟩; first | rw [U1.out] | rw [U2.out] | rw [U4.out])
    go_loopw [3] (fun i wr => ∃ j : Nat, j ≤ lo.length ∧ i = .int .i64 j ∧ Hid (Scu.logFault lo = Scu.logFault (lo.drop j)) ∧ Below (w.heap.size + 1) (w.alloc (Obj.cells #[.int .i64 vi, .int .i64 no, _, .slice A lo.length c, .int .i64 co] 28)) wr) (fun i _ => lo.length - (intOf i).toNat)
    case atStart => exact ⟨0, Nat.zero_le _, rfl, by simp [Hid], Below.refl _ _⟩
    case round =>
      obtain ⟨j, hj, rfl, ht, hbw⟩ := hrel
      have hrw := (hr.alloc _).below (hbw.mono (by simp))
      have hbs := hbw.size
      simp only [World.size_alloc] at hbs
      obtain ⟨hcc, hzz⟩ := bcell hbw
      by_cases hlt : j < lo.length
      · have hlt' : (j : Int) < (lo.length : Int) := by omega
        obtain ⟨g, o, rfl, hg, hc⟩ := str_get hrw hlt
        have hn := log_next hlt
        generalize hd : Scu.decode lo[j] = q at hn
        obtain ⟨r, cd⟩ := q
        have HD := Lib.hid hd
        have HBW := Lib.hid hbw
        clear hd hbw
        cases hx : (cd != 0)
        · have hcd : cd = 0 := by simpa using hx
          have HX := Lib.hid (show Scu.logFault lo = Scu.logFault (lo.drop (j + 1)) by rw [ht.out, hn, if_neg (by simpa using hcd)])
          clear hn hcd
          go_wp2_with fail
          refine (HDEC.out _ _ _ _ HD.out).mono ?_; rintro e w1 ⟨rfl, h1⟩
          go_wp2
          have HB1 := Lib.hid (HBW.out.trans (h1.mono hbs))
          go_roundw
          case rel =>
            refine ⟨j + 1, hlt, by go_num, HX, ?_⟩
            exact (HB1.out.alloc (by have := HB1.out.size; simpa using this) _)
          case measure => simp only [intOf]; omega
        · have hcd : cd ≠ 0 := by simpa using hx
          have HX := Lib.hid (show Scu.keptFault ⟨vi, no, _, lo, co⟩ = cd by rw [HF.out, ht.out, hn, if_pos hcd])
          clear hn hcd
          go_wp2_with fail
          refine (HDEC.out _ _ _ _ HD.out).mono ?_; rintro e w1 ⟨rfl, h1⟩
          go_wp2
          go_ret
          refine ⟨ret_val (int_eq HX.out.symm), ?_⟩
          have hb1 := HBW.out.trans (h1.mono hbs)
          exact ((below_alloc w _).trans (hb1.mono (by simp))).alloc (by have := hb1.size; simp at this; omega) _
      · have hlt' : (lo.length : Int) ≤ (j : Int) := by omega
        have HX := Lib.hid (show Scu.keptFault ⟨vi, no, _, lo, co⟩ = 0 by rw [HF.out, ht.out, List.drop_of_length_le (by omega)]; rfl)
        have HBW := Lib.hid hbw
        clear hbw
        go_wp2
        go_ret
        exact ⟨ret_val (int_eq HX.out.symm), (below_alloc w _).trans (HBW.out.mono (by simp))⟩
theorem keptFault_c (lv : Value) (k : Scu.Kept) (w : World) (B : Nat) (hv : IsStrs w B lv k.log) :
    Calls Try.prog 64 #[.agg #[.int .i64 k.view, .int .i64 k.normal, .bool k.calm, lv, .int .i64 k.commit]] w fun e w' => e = .returned (.int .i64 (Scu.keptFault k)) ∧ Below w.heap.size w w' :=
  keptFault_x lv k.view k.normal k.calm k.log k.commit w B hv
end Go.Proofs.Ytioajgcbchdpeaa

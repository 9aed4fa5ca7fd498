/- Walks: may a message be? The program's and the reference's; the law ReplicaMessages. -/
import Derived.Test.YtioajgcbchdpeaaRepS
namespace Go.Proofs.Ytioajgcbchdpeaa
open Go.RowKit Go.ChangeShapes Go.WideShapes Go.ChangeAt
set_option maxHeartbeats 4000000
set_option maxRecDepth 100000

def MC2 (fr to vi n : Int) : Prop := fr < 0 ∨ 3 ≤ fr ∨ to < 0 ∨ 3 ≤ to ∨ fr = to ∨ vi < 0 ∨ 1048576 < vi ∨ n < 0 ∨ 60 < n
def MC3 (ki no co n : Int) (lo : List Scu.Str) : Prop := (ki ≠ 4 ∧ no ≠ 0) ∨ (ki ≠ 2 ∧ n ≠ 0) ∨ ((ki = 2 ∨ ki = 3) ∧ (co ≠ 0 ∨ lo ≠ []))
def MC4 (ki fr to vi : Int) : Prop := (ki = 1 ∧ fr ≠ vi % 3) ∨ ((ki = 2 ∨ ki = 4) ∧ to ≠ vi % 3)
section
variable {ki fr to vi no co n : Int} {lo : List Scu.Str}
theorem msg_bad3 (h : ki < 1 ∨ 4 < ki) : Scu.msgFault ⟨ki, fr, to, vi, no, co, n, lo⟩ = 3 := if_pos h
theorem msg_bad2 (h1 : ¬ (ki < 1 ∨ 4 < ki)) (h2 : MC2 fr to vi n) : Scu.msgFault ⟨ki, fr, to, vi, no, co, n, lo⟩ = 2 := (if_neg h1).trans (if_pos h2)
theorem msg_bad4a (h1 : ¬ (ki < 1 ∨ 4 < ki)) (h2 : ¬ MC2 fr to vi n) (h3 : MC3 ki no co n lo) : Scu.msgFault ⟨ki, fr, to, vi, no, co, n, lo⟩ = 4 := ((if_neg h1).trans (if_neg h2)).trans (if_pos h3)
theorem msg_bad4b (h1 : ¬ (ki < 1 ∨ 4 < ki)) (h2 : ¬ MC2 fr to vi n) (h3 : ¬ MC3 ki no co n lo) (h4 : MC4 ki fr to vi) : Scu.msgFault ⟨ki, fr, to, vi, no, co, n, lo⟩ = 4 := (((if_neg h1).trans (if_neg h2)).trans (if_neg h3)).trans (if_pos h4)
theorem msg_ok (h1 : ¬ (ki < 1 ∨ 4 < ki)) (h2 : ¬ MC2 fr to vi n) (h3 : ¬ MC3 ki no co n lo) (h4 : ¬ MC4 ki fr to vi) : Scu.msgFault ⟨ki, fr, to, vi, no, co, n, lo⟩ = Scu.keptFault ⟨vi, no, false, lo, co⟩ := (((if_neg h1).trans (if_neg h2)).trans (if_neg h3)).trans (if_neg h4)
end
theorem nil_of {lo : List Scu.Str} (h : decide (0 < lo.length) = false) : lo = [] := by
  have := of_decide_eq_false h
  exact List.eq_nil_of_length_eq_zero (by omega)
theorem not_nil {lo : List Scu.Str} (h : decide (0 < lo.length) = true) : lo ≠ [] := by
  have := of_decide_eq_true h
  rintro rfl
  simp at this

theorem msgCheck_x (lv : Value) (ki fr to vi no co n : Int) (lo : List Scu.Str) (w : World) (B : Nat) (hv : IsStrs w B lv lo) :
    Calls Try.prog 96 #[.agg #[.int .i64 ki, .int .i64 fr, .int .i64 to, .int .i64 vi, .int .i64 no, .int .i64 co, .int .i64 n, lv]] w fun e w' =>
      e = .returned (.int .i64 (Scu.msgFault ⟨ki, fr, to, vi, no, co, n, lo⟩)) ∧ Below w.heap.size w w' := by
  have HV := Lib.hid hv
  obtain ⟨⟨A, c, rfl, _, hr⟩, hl, he⟩ := hv
  unfold R47 at hl
  clear hr he
  cases t1 : decide (ki < 1) with
  | true =>
    have HF := Lib.hid (show Scu.msgFault ⟨ki, fr, to, vi, no, co, n, lo⟩ = 3 from msg_bad3 (.inl (of_decide_eq_true t1)))
    clear HV
    go_enter Try.func96, Try.ntmps96
    go_wp2
    go_ret
    exact ⟨ret_val (int_eq HF.out.symm), below_alloc w _⟩
  | false =>
  cases t2 : decide ((4 : Int) < ki) with
  | true =>
    have HF := Lib.hid (show Scu.msgFault ⟨ki, fr, to, vi, no, co, n, lo⟩ = 3 from msg_bad3 (.inr (of_decide_eq_true t2)))
    clear HV
    go_enter Try.func96, Try.ntmps96
    go_wp2
    go_ret
    exact ⟨ret_val (int_eq HF.out.symm), below_alloc w _⟩
  | false =>
  have H1 := Lib.hid (show ¬ (ki < 1 ∨ 4 < ki) from fun h => h.elim (of_decide_eq_false t1) (of_decide_eq_false t2))
  cases t3 : decide (fr < 0) with
  | true =>
    have HF := Lib.hid (show Scu.msgFault ⟨ki, fr, to, vi, no, co, n, lo⟩ = 2 from msg_bad2 H1.out (.inl (of_decide_eq_true t3)))
    clear HV
    go_enter Try.func96, Try.ntmps96
    go_wp2
    go_ret
    exact ⟨ret_val (int_eq HF.out.symm), below_alloc w _⟩
  | false =>
  cases t4 : decide ((3 : Int) ≤ fr) with
  | true =>
    have HF := Lib.hid (show Scu.msgFault ⟨ki, fr, to, vi, no, co, n, lo⟩ = 2 from msg_bad2 H1.out (.inr (.inl (of_decide_eq_true t4))))
    clear HV
    go_enter Try.func96, Try.ntmps96
    go_wp2
    go_ret
    exact ⟨ret_val (int_eq HF.out.symm), below_alloc w _⟩
  | false =>
  cases t5 : decide (to < 0) with
  | true =>
    have HF := Lib.hid (show Scu.msgFault ⟨ki, fr, to, vi, no, co, n, lo⟩ = 2 from msg_bad2 H1.out (.inr (.inr (.inl (of_decide_eq_true t5)))))
    clear HV
    go_enter Try.func96, Try.ntmps96
    go_wp2
    go_ret
    exact ⟨ret_val (int_eq HF.out.symm), below_alloc w _⟩
  | false =>
  cases t6 : decide ((3 : Int) ≤ to) with
  | true =>
    have HF := Lib.hid (show Scu.msgFault ⟨ki, fr, to, vi, no, co, n, lo⟩ = 2 from msg_bad2 H1.out (.inr (.inr (.inr (.inl (of_decide_eq_true t6))))))
    clear HV
    go_enter Try.func96, Try.ntmps96
    go_wp2
    go_ret
    exact ⟨ret_val (int_eq HF.out.symm), below_alloc w _⟩
  | false =>
  cases t7 : (fr == to) with
  | true =>
    have HF := Lib.hid (show Scu.msgFault ⟨ki, fr, to, vi, no, co, n, lo⟩ = 2 from msg_bad2 H1.out (.inr (.inr (.inr (.inr (.inl (by simpa using t7)))))))
    clear HV
    go_enter Try.func96, Try.ntmps96
    go_wp2
    go_ret
    exact ⟨ret_val (int_eq HF.out.symm), below_alloc w _⟩
  | false =>
  cases t8 : decide (vi < 0) with
  | true =>
    have HF := Lib.hid (show Scu.msgFault ⟨ki, fr, to, vi, no, co, n, lo⟩ = 2 from msg_bad2 H1.out (.inr (.inr (.inr (.inr (.inr (.inl (of_decide_eq_true t8))))))))
    clear HV
    go_enter Try.func96, Try.ntmps96
    go_wp2
    go_ret
    exact ⟨ret_val (int_eq HF.out.symm), below_alloc w _⟩
  | false =>
  cases t9 : decide ((1048576 : Int) < vi) with
  | true =>
    have HF := Lib.hid (show Scu.msgFault ⟨ki, fr, to, vi, no, co, n, lo⟩ = 2 from msg_bad2 H1.out (.inr (.inr (.inr (.inr (.inr (.inr (.inl (of_decide_eq_true t9)))))))))
    clear HV
    go_enter Try.func96, Try.ntmps96
    go_wp2
    go_ret
    exact ⟨ret_val (int_eq HF.out.symm), below_alloc w _⟩
  | false =>
  cases t10 : decide (n < 0) with
  | true =>
    have HF := Lib.hid (show Scu.msgFault ⟨ki, fr, to, vi, no, co, n, lo⟩ = 2 from msg_bad2 H1.out (.inr (.inr (.inr (.inr (.inr (.inr (.inr (.inl (of_decide_eq_true t10))))))))))
    clear HV
    go_enter Try.func96, Try.ntmps96
    go_wp2
    go_ret
    exact ⟨ret_val (int_eq HF.out.symm), below_alloc w _⟩
  | false =>
  cases t11 : decide ((60 : Int) < n) with
  | true =>
    have HF := Lib.hid (show Scu.msgFault ⟨ki, fr, to, vi, no, co, n, lo⟩ = 2 from msg_bad2 H1.out (.inr (.inr (.inr (.inr (.inr (.inr (.inr (.inr (of_decide_eq_true t11))))))))))
    clear HV
    go_enter Try.func96, Try.ntmps96
    go_wp2
    go_ret
    exact ⟨ret_val (int_eq HF.out.symm), below_alloc w _⟩
  | false =>
  have H2 := Lib.hid (show ¬ MC2 fr to vi n by
    have := of_decide_eq_false t3
    have := of_decide_eq_false t4
    have := of_decide_eq_false t5
    have := of_decide_eq_false t6
    have h7 : fr ≠ to := by simpa using t7
    have := of_decide_eq_false t8
    have := of_decide_eq_false t9
    have := of_decide_eq_false t10
    have := of_decide_eq_false t11
    unfold MC2
    omega)
  have hvi : 0 ≤ vi := by have := of_decide_eq_false t8; omega
  have h4 : ki = 1 ∨ ki = 2 ∨ ki = 3 ∨ ki = 4 := by have := H1.out; omega
  rcases h4 with rfl | rfl | rfl | rfl
  all_goals clear t1 t2
  · cases u1 : (no != 0) with
    | true =>
      have HF := Lib.hid (show Scu.msgFault ⟨1, fr, to, vi, no, co, n, lo⟩ = 4 from msg_bad4a H1.out H2.out (.inl ⟨by decide, by simpa using u1⟩))
      clear HV
      go_enter Try.func96, Try.ntmps96
      go_wp2
      go_ret
      exact ⟨ret_val (int_eq HF.out.symm), below_alloc w _⟩
    | false =>
    cases u2 : (n != 0) with
    | true =>
      have HF := Lib.hid (show Scu.msgFault ⟨1, fr, to, vi, no, co, n, lo⟩ = 4 from msg_bad4a H1.out H2.out (.inr (.inl ⟨by decide, by simpa using u2⟩)))
      clear HV
      go_enter Try.func96, Try.ntmps96
      go_wp2
      go_ret
      exact ⟨ret_val (int_eq HF.out.symm), below_alloc w _⟩
    | false =>
    have H3 := Lib.hid (show ¬ MC3 1 no co n lo by
      have : no = 0 := by simpa using u1
      have : n = 0 := by simpa using u2
      unfold MC3; simp; omega)
    cases u3 : (fr != vi % 3) with
    | true =>
      have HF := Lib.hid (show Scu.msgFault ⟨1, fr, to, vi, no, co, n, lo⟩ = 4 from msg_bad4b H1.out H2.out H3.out (.inl ⟨rfl, by simpa using u3⟩))
      clear HV
      go_enter Try.func96, Try.ntmps96
      go_wp2
      go_quiet ((go_at_call 86; exact quiet_at ((leader_c _ _ hvi).mono fun _ _ h => ⟨h.1, 0, h.2.symm⟩)))
      go_wp2
      go_ret
      exact ⟨ret_val (int_eq HF.out.symm), below_drewN (below_alloc w _) _⟩
    | false =>
    have HF := Lib.hid (show Scu.msgFault ⟨1, fr, to, vi, no, co, n, lo⟩ = Scu.keptFault ⟨vi, no, false, lo, co⟩ from msg_ok H1.out H2.out H3.out (by have h : fr = vi % 3 := by { simpa using u3 }; unfold MC4; omega))
    go_enter Try.func96, Try.ntmps96
    go_wp2
    go_quiet ((go_at_call 86; exact quiet_at ((leader_c _ _ hvi).mono fun _ _ h => ⟨h.1, 0, h.2.symm⟩)))
    have hB := below_drewN (below_alloc w (Obj.cells #[.int .i64 1, .int .i64 fr, .int .i64 to, .int .i64 vi, .int .i64 no, .int .i64 co, .int .i64 n, .slice A lo.length c] 81))
    have HB := Lib.hid hB
    clear hB
    go_wp2_with fail
    refine (stageCheck_x _ vi no false lo co _ B ((HV.out.alloc _).drewN _)).mono ?_; rintro e w1 ⟨rfl, h1⟩
    go_wp2
    go_ret
    exact ⟨ret_val (int_eq HF.out.symm), (HB.out _).trans (h1.mono (HB.out _).size)⟩
  · cases u1 : (no != 0) with
    | true =>
      have HF := Lib.hid (show Scu.msgFault ⟨2, fr, to, vi, no, co, n, lo⟩ = 4 from msg_bad4a H1.out H2.out (.inl ⟨by decide, by simpa using u1⟩))
      clear HV
      go_enter Try.func96, Try.ntmps96
      go_wp2
      go_ret
      exact ⟨ret_val (int_eq HF.out.symm), below_alloc w _⟩
    | false =>
    cases u2 : (co != 0) with
    | true =>
      have HF := Lib.hid (show Scu.msgFault ⟨2, fr, to, vi, no, co, n, lo⟩ = 4 from msg_bad4a H1.out H2.out (.inr (.inr ⟨.inl rfl, .inl (by simpa using u2)⟩)))
      clear HV
      go_enter Try.func96, Try.ntmps96
      go_wp2
      go_ret
      exact ⟨ret_val (int_eq HF.out.symm), below_alloc w _⟩
    | false =>
    cases u4 : decide (0 < lo.length) with
    | true =>
      have HF := Lib.hid (show Scu.msgFault ⟨2, fr, to, vi, no, co, n, lo⟩ = 4 from msg_bad4a H1.out H2.out (.inr (.inr ⟨.inl rfl, .inr (not_nil u4)⟩)))
      clear HV
      go_enter Try.func96, Try.ntmps96
      go_wp2
      go_ret
      exact ⟨ret_val (int_eq HF.out.symm), below_alloc w _⟩
    | false =>
    have H3 := Lib.hid (show ¬ MC3 2 no co n lo by
      have : no = 0 := by simpa using u1
      have : co = 0 := by simpa using u2
      have h5 := nil_of u4
      unfold MC3; simp [h5]; omega)
    cases u3 : (to != vi % 3) with
    | true =>
      have HF := Lib.hid (show Scu.msgFault ⟨2, fr, to, vi, no, co, n, lo⟩ = 4 from msg_bad4b H1.out H2.out H3.out (.inr ⟨.inl rfl, by simpa using u3⟩))
      clear HV
      go_enter Try.func96, Try.ntmps96
      go_wp2
      go_quiet ((go_at_call 86; exact quiet_at ((leader_c _ _ hvi).mono fun _ _ h => ⟨h.1, 0, h.2.symm⟩)))
      go_wp2
      go_ret
      exact ⟨ret_val (int_eq HF.out.symm), below_drewN (below_alloc w _) _⟩
    | false =>
    have HF := Lib.hid (show Scu.msgFault ⟨2, fr, to, vi, no, co, n, lo⟩ = Scu.keptFault ⟨vi, no, false, lo, co⟩ from msg_ok H1.out H2.out H3.out (by have h : to = vi % 3 := by { simpa using u3 }; unfold MC4; omega))
    go_enter Try.func96, Try.ntmps96
    go_wp2
    go_quiet ((go_at_call 86; exact quiet_at ((leader_c _ _ hvi).mono fun _ _ h => ⟨h.1, 0, h.2.symm⟩)))
    have hB := below_drewN (below_alloc w (Obj.cells #[.int .i64 2, .int .i64 fr, .int .i64 to, .int .i64 vi, .int .i64 no, .int .i64 co, .int .i64 n, .slice A lo.length c] 81))
    have HB := Lib.hid hB
    clear hB
    go_wp2_with fail
    refine (stageCheck_x _ vi no false lo co _ B ((HV.out.alloc _).drewN _)).mono ?_; rintro e w1 ⟨rfl, h1⟩
    go_wp2
    go_ret
    exact ⟨ret_val (int_eq HF.out.symm), (HB.out _).trans (h1.mono (HB.out _).size)⟩
  · cases u1 : (no != 0) with
    | true =>
      have HF := Lib.hid (show Scu.msgFault ⟨3, fr, to, vi, no, co, n, lo⟩ = 4 from msg_bad4a H1.out H2.out (.inl ⟨by decide, by simpa using u1⟩))
      clear HV
      go_enter Try.func96, Try.ntmps96
      go_wp2
      go_ret
      exact ⟨ret_val (int_eq HF.out.symm), below_alloc w _⟩
    | false =>
    cases u5 : (n != 0) with
    | true =>
      have HF := Lib.hid (show Scu.msgFault ⟨3, fr, to, vi, no, co, n, lo⟩ = 4 from msg_bad4a H1.out H2.out (.inr (.inl ⟨by decide, by simpa using u5⟩)))
      clear HV
      go_enter Try.func96, Try.ntmps96
      go_wp2
      go_ret
      exact ⟨ret_val (int_eq HF.out.symm), below_alloc w _⟩
    | false =>
    cases u2 : (co != 0) with
    | true =>
      have HF := Lib.hid (show Scu.msgFault ⟨3, fr, to, vi, no, co, n, lo⟩ = 4 from msg_bad4a H1.out H2.out (.inr (.inr ⟨.inr rfl, .inl (by simpa using u2)⟩)))
      clear HV
      go_enter Try.func96, Try.ntmps96
      go_wp2
      go_ret
      exact ⟨ret_val (int_eq HF.out.symm), below_alloc w _⟩
    | false =>
    cases u4 : decide (0 < lo.length) with
    | true =>
      have HF := Lib.hid (show Scu.msgFault ⟨3, fr, to, vi, no, co, n, lo⟩ = 4 from msg_bad4a H1.out H2.out (.inr (.inr ⟨.inr rfl, .inr (not_nil u4)⟩)))
      clear HV
      go_enter Try.func96, Try.ntmps96
      go_wp2
      go_ret
      exact ⟨ret_val (int_eq HF.out.symm), below_alloc w _⟩
    | false =>
    have H3 := Lib.hid (show ¬ MC3 3 no co n lo by
      have : no = 0 := by simpa using u1
      have : co = 0 := by simpa using u2
      have : n = 0 := by simpa using u5
      have h5 := nil_of u4
      unfold MC3; simp [h5]; omega)
    have HF := Lib.hid (show Scu.msgFault ⟨3, fr, to, vi, no, co, n, lo⟩ = Scu.keptFault ⟨vi, no, false, lo, co⟩ from msg_ok H1.out H2.out H3.out (by unfold MC4; omega))
    go_enter Try.func96, Try.ntmps96
    go_wp2
    go_quiet ((go_at_call 86; exact quiet_at ((leader_c _ _ hvi).mono fun _ _ h => ⟨h.1, 0, h.2.symm⟩)))
    have hB := below_drewN (below_alloc w (Obj.cells #[.int .i64 3, .int .i64 fr, .int .i64 to, .int .i64 vi, .int .i64 no, .int .i64 co, .int .i64 n, .slice A lo.length c] 81))
    have HB := Lib.hid hB
    clear hB
    go_wp2_with fail
    refine (stageCheck_x _ vi no false lo co _ B ((HV.out.alloc _).drewN _)).mono ?_; rintro e w1 ⟨rfl, h1⟩
    go_wp2
    go_ret
    exact ⟨ret_val (int_eq HF.out.symm), (HB.out _).trans (h1.mono (HB.out _).size)⟩
  · cases u2 : (n != 0) with
    | true =>
      have HF := Lib.hid (show Scu.msgFault ⟨4, fr, to, vi, no, co, n, lo⟩ = 4 from msg_bad4a H1.out H2.out (.inr (.inl ⟨by decide, by simpa using u2⟩)))
      clear HV
      go_enter Try.func96, Try.ntmps96
      go_wp2
      go_ret
      exact ⟨ret_val (int_eq HF.out.symm), below_alloc w _⟩
    | false =>
    have H3 := Lib.hid (show ¬ MC3 4 no co n lo by
      have : n = 0 := by simpa using u2
      unfold MC3; simp; omega)
    cases u3 : (to != vi % 3) with
    | true =>
      have HF := Lib.hid (show Scu.msgFault ⟨4, fr, to, vi, no, co, n, lo⟩ = 4 from msg_bad4b H1.out H2.out H3.out (.inr ⟨.inr rfl, by simpa using u3⟩))
      clear HV
      go_enter Try.func96, Try.ntmps96
      go_wp2
      go_quiet ((go_at_call 86; exact quiet_at ((leader_c _ _ hvi).mono fun _ _ h => ⟨h.1, 0, h.2.symm⟩)))
      go_wp2
      go_ret
      exact ⟨ret_val (int_eq HF.out.symm), below_drewN (below_alloc w _) _⟩
    | false =>
    have HF := Lib.hid (show Scu.msgFault ⟨4, fr, to, vi, no, co, n, lo⟩ = Scu.keptFault ⟨vi, no, false, lo, co⟩ from msg_ok H1.out H2.out H3.out (by have h : to = vi % 3 := by { simpa using u3 }; unfold MC4; omega))
    go_enter Try.func96, Try.ntmps96
    go_wp2
    go_quiet ((go_at_call 86; exact quiet_at ((leader_c _ _ hvi).mono fun _ _ h => ⟨h.1, 0, h.2.symm⟩)))
    have hB := below_drewN (below_alloc w (Obj.cells #[.int .i64 4, .int .i64 fr, .int .i64 to, .int .i64 vi, .int .i64 no, .int .i64 co, .int .i64 n, .slice A lo.length c] 81))
    have HB := Lib.hid hB
    clear hB
    go_wp2_with fail
    refine (stageCheck_x _ vi no false lo co _ B ((HV.out.alloc _).drewN _)).mono ?_; rintro e w1 ⟨rfl, h1⟩
    go_wp2
    go_ret
    exact ⟨ret_val (int_eq HF.out.symm), (HB.out _).trans (h1.mono (HB.out _).size)⟩
end Go.Proofs.Ytioajgcbchdpeaa

/- Part 8: words and walks under the law 'LeadersLead'. -/
import Derived.Test.YtfpiembhlgcelaaDoorLed7
import Derived.Test.YtfpiembhlgcelaaDoorLed5
import Derived.Test.YtfpiembhlgcelaaDoorLed4
set_option linter.unusedVariables false
set_option linter.unusedSimpArgs false
/- Walks: may a message be? The program's and the reference's; the law ReplicaMessages. -/
namespace Go.Proofs.YtfpiembhlgcelaaDoor
open Go.RowKit Go.ChangeShapes Go.WideShapes Go.ChangeAt
set_option maxHeartbeats 4000000
set_option maxRecDepth 100000

def MC2 (fr to vi n : Int) : Prop := fr < 0 ∨ 3 ≤ fr ∨ to < 0 ∨ 3 ≤ to ∨ fr = to ∨ vi < 0 ∨ 1048576 < vi ∨ n < 0 ∨ 60 < n
def MC3 (ki no co n : Int) (lo : List Scu.Str) : Prop := (ki ≠ 4 ∧ no ≠ 0) ∨ (ki ≠ 2 ∧ n ≠ 0) ∨ ((ki = 2 ∨ ki = 3) ∧ (co ≠ 0 ∨ lo ≠ []))
def MC4 (ki fr to vi : Int) : Prop := (ki = 1 ∧ fr ≠ vi % 3) ∨ ((ki = 2 ∨ ki = 4) ∧ to ≠ vi % 3)
section
variable {ki fr to vi no co n : Int} {lo : List Scu.Str}
theorem msg_bad3 (h : ki < 1 ∨ 4 < ki) : Scu.msgFault ⟨ki, fr, to, vi, no, co, n, lo⟩ = 3 := if_pos h
theorem msg_bad2 (h1 : ¬ (ki < 1 ∨ 4 < ki)) (h2 : MC2 fr to vi n) : Scu.msgFault ⟨ki, fr, to, vi, no, co, n, lo⟩ = 2 := (if_neg h1).trans (if_pos h2)
theorem msg_bad4a (h1 : ¬ (ki < 1 ∨ 4 < ki)) (h2 : ¬ MC2 fr to vi n) (h3 : MC3 ki no co n lo) : Scu.msgFault ⟨ki, fr, to, vi, no, co, n, lo⟩ = 4 := ((if_neg h1).trans (if_neg h2)).trans (if_pos h3)
theorem msg_bad4b (h1 : ¬ (ki < 1 ∨ 4 < ki)) (h2 : ¬ MC2 fr to vi n) (h3 : ¬ MC3 ki no co n lo) (h4 : MC4 ki fr to vi) : Scu.msgFault ⟨ki, fr, to, vi, no, co, n, lo⟩ = 4 := (((if_neg h1).trans (if_neg h2)).trans (if_neg h3)).trans (if_pos h4)
theorem msg_ok (h1 : ¬ (ki < 1 ∨ 4 < ki)) (h2 : ¬ MC2 fr to vi n) (h3 : ¬ MC3 ki no co n lo) (h4 : ¬ MC4 ki fr to vi) : Scu.msgFault ⟨ki, fr, to, vi, no, co, n, lo⟩ = Scu.keptFault ⟨vi, no, false, lo, co⟩ := (((if_neg h1).trans (if_neg h2)).trans (if_neg h3)).trans (if_neg h4)
end
theorem nil_of {lo : List Scu.Str} (h : decide (0 < lo.length) = false) : lo = [] := by
  have := of_decide_eq_false h
  exact List.eq_nil_of_length_eq_zero (by omega)
theorem not_nil {lo : List Scu.Str} (h : decide (0 < lo.length) = true) : lo ≠ [] := by
  have := of_decide_eq_true h
  rintro rfl
  simp at this

theorem msgCheck_x (lv : Value) (ki fr to vi no co n : Int) (lo : List Scu.Str) (w : World) (B : Nat) (hv : IsStrs w B lv lo) :
    Calls Tryd.prog 78 #[.agg #[.int .i64 ki, .int .i64 fr, .int .i64 to, .int .i64 vi, .int .i64 no, .int .i64 co, .int .i64 n, lv]] w fun e w' =>
      e = .returned (.int .i64 (Scu.msgFault ⟨ki, fr, to, vi, no, co, n, lo⟩)) ∧ Below w.heap.size w w' := by
  have HV := Lib.hid hv
  obtain ⟨⟨A, c, rfl, _, hr⟩, hl, he⟩ := hv
  unfold R47 at hl
  clear hr he
  cases t1 : decide (ki < 1) with
  | true =>
    have HF := Lib.hid (show Scu.msgFault ⟨ki, fr, to, vi, no, co, n, lo⟩ = 3 from msg_bad3 (.inl (of_decide_eq_true t1)))
    clear HV
    go_enter Tryd.func78, Tryd.ntmps78
    go_wp2
    go_ret
    exact ⟨ret_val (int_eq HF.out.symm), below_alloc w _⟩
  | false =>
  cases t2 : decide ((4 : Int) < ki) with
  | true =>
    have HF := Lib.hid (show Scu.msgFault ⟨ki, fr, to, vi, no, co, n, lo⟩ = 3 from msg_bad3 (.inr (of_decide_eq_true t2)))
    clear HV
    go_enter Tryd.func78, Tryd.ntmps78
    go_wp2
    go_ret
    exact ⟨ret_val (int_eq HF.out.symm), below_alloc w _⟩
  | false =>
  have H1 := Lib.hid (show ¬ (ki < 1 ∨ 4 < ki) from fun h => h.elim (of_decide_eq_false t1) (of_decide_eq_false t2))
  cases t3 : decide (fr < 0) with
  | true =>
    have HF := Lib.hid (show Scu.msgFault ⟨ki, fr, to, vi, no, co, n, lo⟩ = 2 from msg_bad2 H1.out (.inl (of_decide_eq_true t3)))
    clear HV
    go_enter Tryd.func78, Tryd.ntmps78
    go_wp2
    go_ret
    exact ⟨ret_val (int_eq HF.out.symm), below_alloc w _⟩
  | false =>
  cases t4 : decide ((3 : Int) ≤ fr) with
  | true =>
    have HF := Lib.hid (show Scu.msgFault ⟨ki, fr, to, vi, no, co, n, lo⟩ = 2 from msg_bad2 H1.out (.inr (.inl (of_decide_eq_true t4))))
    clear HV
    go_enter Tryd.func78, Tryd.ntmps78
    go_wp2
    go_ret
    exact ⟨ret_val (int_eq HF.out.symm), below_alloc w _⟩
  | false =>
  cases t5 : decide (to < 0) with
  | true =>
    have HF := Lib.hid (show Scu.msgFault ⟨ki, fr, to, vi, no, co, n, lo⟩ = 2 from msg_bad2 H1.out (.inr (.inr (.inl (of_decide_eq_true t5)))))
    clear HV
    go_enter Tryd.func78, Tryd.ntmps78
    go_wp2
    go_ret
    exact ⟨ret_val (int_eq HF.out.symm), below_alloc w _⟩
  | false =>
  cases t6 : decide ((3 : Int) ≤ to) with
  | true =>
    have HF := Lib.hid (show Scu.msgFault ⟨ki, fr, to, vi, no, co, n, lo⟩ = 2 from msg_bad2 H1.out (.inr (.inr (.inr (.inl (of_decide_eq_true t6))))))
    clear HV
    go_enter Tryd.func78, Tryd.ntmps78
    go_wp2
    go_ret
    exact ⟨ret_val (int_eq HF.out.symm), below_alloc w _⟩
  | false =>
  cases t7 : (fr == to) with
  | true =>
    have HF := Lib.hid (show Scu.msgFault ⟨ki, fr, to, vi, no, co, n, lo⟩ = 2 from msg_bad2 H1.out (.inr (.inr (.inr (.inr (.inl (by simpa using t7)))))))
    clear HV
    go_enter Tryd.func78, Tryd.ntmps78
    go_wp2
    go_ret
    exact ⟨ret_val (int_eq HF.out.symm), below_alloc w _⟩
  | false =>
  cases t8 : decide (vi < 0) with
  | true =>
    have HF := Lib.hid (show Scu.msgFault ⟨ki, fr, to, vi, no, co, n, lo⟩ = 2 from msg_bad2 H1.out (.inr (.inr (.inr (.inr (.inr (.inl (of_decide_eq_true t8))))))))
    clear HV
    go_enter Tryd.func78, Tryd.ntmps78
    go_wp2
    go_ret
    exact ⟨ret_val (int_eq HF.out.symm), below_alloc w _⟩
  | false =>
  cases t9 : decide ((1048576 : Int) < vi) with
  | true =>
    have HF := Lib.hid (show Scu.msgFault ⟨ki, fr, to, vi, no, co, n, lo⟩ = 2 from msg_bad2 H1.out (.inr (.inr (.inr (.inr (.inr (.inr (.inl (of_decide_eq_true t9)))))))))
    clear HV
    go_enter Tryd.func78, Tryd.ntmps78
    go_wp2
    go_ret
    exact ⟨ret_val (int_eq HF.out.symm), below_alloc w _⟩
  | false =>
  cases t10 : decide (n < 0) with
  | true =>
    have HF := Lib.hid (show Scu.msgFault ⟨ki, fr, to, vi, no, co, n, lo⟩ = 2 from msg_bad2 H1.out (.inr (.inr (.inr (.inr (.inr (.inr (.inr (.inl (of_decide_eq_true t10))))))))))
    clear HV
    go_enter Tryd.func78, Tryd.ntmps78
    go_wp2
    go_ret
    exact ⟨ret_val (int_eq HF.out.symm), below_alloc w _⟩
  | false =>
  cases t11 : decide ((60 : Int) < n) with
  | true =>
    have HF := Lib.hid (show Scu.msgFault ⟨ki, fr, to, vi, no, co, n, lo⟩ = 2 from msg_bad2 H1.out (.inr (.inr (.inr (.inr (.inr (.inr (.inr (.inr (of_decide_eq_true t11))))))))))
    clear HV
    go_enter Tryd.func78, Tryd.ntmps78
    go_wp2
    go_ret
    exact ⟨ret_val (int_eq HF.out.symm), below_alloc w _⟩
  | false =>
  have H2 := Lib.hid (show ¬ MC2 fr to vi n by
    have := of_decide_eq_false t3
    have := of_decide_eq_false t4
    have := of_decide_eq_false t5
    have := of_decide_eq_false t6
    have h7 : fr ≠ to := by simpa using t7
    have := of_decide_eq_false t8
    have := of_decide_eq_false t9
    have := of_decide_eq_false t10
    have := of_decide_eq_false t11
    unfold MC2
    omega)
  have hvi : 0 ≤ vi := by have := of_decide_eq_false t8; omega
  have h4 : ki = 1 ∨ ki = 2 ∨ ki = 3 ∨ ki = 4 := by have := H1.out; omega
  rcases h4 with rfl | rfl | rfl | rfl
  all_goals clear t1 t2
  · cases u1 : (no != 0) with
    | true =>
      have HF := Lib.hid (show Scu.msgFault ⟨1, fr, to, vi, no, co, n, lo⟩ = 4 from msg_bad4a H1.out H2.out (.inl ⟨by decide, by simpa using u1⟩))
      clear HV
      go_enter Tryd.func78, Tryd.ntmps78
      go_wp2
      go_ret
      exact ⟨ret_val (int_eq HF.out.symm), below_alloc w _⟩
    | false =>
    cases u2 : (n != 0) with
    | true =>
      have HF := Lib.hid (show Scu.msgFault ⟨1, fr, to, vi, no, co, n, lo⟩ = 4 from msg_bad4a H1.out H2.out (.inr (.inl ⟨by decide, by simpa using u2⟩)))
      clear HV
      go_enter Tryd.func78, Tryd.ntmps78
      go_wp2
      go_ret
      exact ⟨ret_val (int_eq HF.out.symm), below_alloc w _⟩
    | false =>
    have H3 := Lib.hid (show ¬ MC3 1 no co n lo by
      have : no = 0 := by simpa using u1
      have : n = 0 := by simpa using u2
      unfold MC3; simp; omega)
    cases u3 : (fr != vi % 3) with
    | true =>
      have HF := Lib.hid (show Scu.msgFault ⟨1, fr, to, vi, no, co, n, lo⟩ = 4 from msg_bad4b H1.out H2.out H3.out (.inl ⟨rfl, by simpa using u3⟩))
      clear HV
      go_enter Tryd.func78, Tryd.ntmps78
      go_wp2
      go_quiet ((go_at_call 47; exact quiet_at ((leader_c _ _ hvi).mono fun _ _ h => ⟨h.1, 0, h.2.symm⟩)))
      go_wp2
      go_ret
      exact ⟨ret_val (int_eq HF.out.symm), below_drewN (below_alloc w _) _⟩
    | false =>
    have HF := Lib.hid (show Scu.msgFault ⟨1, fr, to, vi, no, co, n, lo⟩ = Scu.keptFault ⟨vi, no, false, lo, co⟩ from msg_ok H1.out H2.out H3.out (by have h : fr = vi % 3 := by { simpa using u3 }; unfold MC4; omega))
    go_enter Tryd.func78, Tryd.ntmps78
    go_wp2
    go_quiet ((go_at_call 47; exact quiet_at ((leader_c _ _ hvi).mono fun _ _ h => ⟨h.1, 0, h.2.symm⟩)))
    have hB := below_drewN (below_alloc w (Obj.cells #[.int .i64 1, .int .i64 fr, .int .i64 to, .int .i64 vi, .int .i64 no, .int .i64 co, .int .i64 n, .slice A lo.length c] 89))
    have HB := Lib.hid hB
    clear hB
    go_wp2_with fail
    refine (stageCheck_x _ vi no false lo co _ B ((HV.out.alloc _).drewN _)).mono ?_; rintro e w1 ⟨rfl, h1⟩
    go_wp2
    go_ret
    exact ⟨ret_val (int_eq HF.out.symm), (HB.out _).trans (h1.mono (HB.out _).size)⟩
  · cases u1 : (no != 0) with
    | true =>
      have HF := Lib.hid (show Scu.msgFault ⟨2, fr, to, vi, no, co, n, lo⟩ = 4 from msg_bad4a H1.out H2.out (.inl ⟨by decide, by simpa using u1⟩))
      clear HV
      go_enter Tryd.func78, Tryd.ntmps78
      go_wp2
      go_ret
      exact ⟨ret_val (int_eq HF.out.symm), below_alloc w _⟩
    | false =>
    cases u2 : (co != 0) with
    | true =>
      have HF := Lib.hid (show Scu.msgFault ⟨2, fr, to, vi, no, co, n, lo⟩ = 4 from msg_bad4a H1.out H2.out (.inr (.inr ⟨.inl rfl, .inl (by simpa using u2)⟩)))
      clear HV
      go_enter Tryd.func78, Tryd.ntmps78
      go_wp2
      go_ret
      exact ⟨ret_val (int_eq HF.out.symm), below_alloc w _⟩
    | false =>
    cases u4 : decide (0 < lo.length) with
    | true =>
      have HF := Lib.hid (show Scu.msgFault ⟨2, fr, to, vi, no, co, n, lo⟩ = 4 from msg_bad4a H1.out H2.out (.inr (.inr ⟨.inl rfl, .inr (not_nil u4)⟩)))
      clear HV
      go_enter Tryd.func78, Tryd.ntmps78
      go_wp2
      go_ret
      exact ⟨ret_val (int_eq HF.out.symm), below_alloc w _⟩
    | false =>
    have H3 := Lib.hid (show ¬ MC3 2 no co n lo by
      have : no = 0 := by simpa using u1
      have : co = 0 := by simpa using u2
      have h5 := nil_of u4
      unfold MC3; simp [h5]; omega)
    cases u3 : (to != vi % 3) with
    | true =>
      have HF := Lib.hid (show Scu.msgFault ⟨2, fr, to, vi, no, co, n, lo⟩ = 4 from msg_bad4b H1.out H2.out H3.out (.inr ⟨.inl rfl, by simpa using u3⟩))
      clear HV
      go_enter Tryd.func78, Tryd.ntmps78
      go_wp2
      go_quiet ((go_at_call 47; exact quiet_at ((leader_c _ _ hvi).mono fun _ _ h => ⟨h.1, 0, h.2.symm⟩)))
      go_wp2
      go_ret
      exact ⟨ret_val (int_eq HF.out.symm), below_drewN (below_alloc w _) _⟩
    | false =>
    have HF := Lib.hid (show Scu.msgFault ⟨2, fr, to, vi, no, co, n, lo⟩ = Scu.keptFault ⟨vi, no, false, lo, co⟩ from msg_ok H1.out H2.out H3.out (by have h : to = vi % 3 := by { simpa using u3 }; unfold MC4; omega))
    go_enter Tryd.func78, Tryd.ntmps78
    go_wp2
    go_quiet ((go_at_call 47; exact quiet_at ((leader_c _ _ hvi).mono fun _ _ h => ⟨h.1, 0, h.2.symm⟩)))
    have hB := below_drewN (below_alloc w (Obj.cells #[.int .i64 2, .int .i64 fr, .int .i64 to, .int .i64 vi, .int .i64 no, .int .i64 co, .int .i64 n, .slice A lo.length c] 89))
    have HB := Lib.hid hB
    clear hB
    go_wp2_with fail
    refine (stageCheck_x _ vi no false lo co _ B ((HV.out.alloc _).drewN _)).mono ?_; rintro e w1 ⟨rfl, h1⟩
    go_wp2
    go_ret
    exact ⟨ret_val (int_eq HF.out.symm), (HB.out _).trans (h1.mono (HB.out _).size)⟩
  · cases u1 : (no != 0) with
    | true =>
      have HF := Lib.hid (show Scu.msgFault ⟨3, fr, to, vi, no, co, n, lo⟩ = 4 from msg_bad4a H1.out H2.out (.inl ⟨by decide, by simpa using u1⟩))
      clear HV
      go_enter Tryd.func78, Tryd.ntmps78
      go_wp2
      go_ret
      exact ⟨ret_val (int_eq HF.out.symm), below_alloc w _⟩
    | false =>
    cases u5 : (n != 0) with
    | true =>
      have HF := Lib.hid (show Scu.msgFault ⟨3, fr, to, vi, no, co, n, lo⟩ = 4 from msg_bad4a H1.out H2.out (.inr (.inl ⟨by decide, by simpa using u5⟩)))
      clear HV
      go_enter Tryd.func78, Tryd.ntmps78
      go_wp2
      go_ret
      exact ⟨ret_val (int_eq HF.out.symm), below_alloc w _⟩
    | false =>
    cases u2 : (co != 0) with
    | true =>
      have HF := Lib.hid (show Scu.msgFault ⟨3, fr, to, vi, no, co, n, lo⟩ = 4 from msg_bad4a H1.out H2.out (.inr (.inr ⟨.inr rfl, .inl (by simpa using u2)⟩)))
      clear HV
      go_enter Tryd.func78, Tryd.ntmps78
      go_wp2
      go_ret
      exact ⟨ret_val (int_eq HF.out.symm), below_alloc w _⟩
    | false =>
    cases u4 : decide (0 < lo.length) with
    | true =>
      have HF := Lib.hid (show Scu.msgFault ⟨3, fr, to, vi, no, co, n, lo⟩ = 4 from msg_bad4a H1.out H2.out (.inr (.inr ⟨.inr rfl, .inr (not_nil u4)⟩)))
      clear HV
      go_enter Tryd.func78, Tryd.ntmps78
      go_wp2
      go_ret
      exact ⟨ret_val (int_eq HF.out.symm), below_alloc w _⟩
    | false =>
    have H3 := Lib.hid (show ¬ MC3 3 no co n lo by
      have : no = 0 := by simpa using u1
      have : co = 0 := by simpa using u2
      have : n = 0 := by simpa using u5
      have h5 := nil_of u4
      unfold MC3; simp [h5]; omega)
    have HF := Lib.hid (show Scu.msgFault ⟨3, fr, to, vi, no, co, n, lo⟩ = Scu.keptFault ⟨vi, no, false, lo, co⟩ from msg_ok H1.out H2.out H3.out (by unfold MC4; omega))
    go_enter Tryd.func78, Tryd.ntmps78
    go_wp2
    go_quiet ((go_at_call 47; exact quiet_at ((leader_c _ _ hvi).mono fun _ _ h => ⟨h.1, 0, h.2.symm⟩)))
    have hB := below_drewN (below_alloc w (Obj.cells #[.int .i64 3, .int .i64 fr, .int .i64 to, .int .i64 vi, .int .i64 no, .int .i64 co, .int .i64 n, .slice A lo.length c] 89))
    have HB := Lib.hid hB
    clear hB
    go_wp2_with fail
    refine (stageCheck_x _ vi no false lo co _ B ((HV.out.alloc _).drewN _)).mono ?_; rintro e w1 ⟨rfl, h1⟩
    go_wp2
    go_ret
    exact ⟨ret_val (int_eq HF.out.symm), (HB.out _).trans (h1.mono (HB.out _).size)⟩
  · cases u2 : (n != 0) with
    | true =>
      have HF := Lib.hid (show Scu.msgFault ⟨4, fr, to, vi, no, co, n, lo⟩ = 4 from msg_bad4a H1.out H2.out (.inr (.inl ⟨by decide, by simpa using u2⟩)))
      clear HV
      go_enter Tryd.func78, Tryd.ntmps78
      go_wp2
      go_ret
      exact ⟨ret_val (int_eq HF.out.symm), below_alloc w _⟩
    | false =>
    have H3 := Lib.hid (show ¬ MC3 4 no co n lo by
      have : n = 0 := by simpa using u2
      unfold MC3; simp; omega)
    cases u3 : (to != vi % 3) with
    | true =>
      have HF := Lib.hid (show Scu.msgFault ⟨4, fr, to, vi, no, co, n, lo⟩ = 4 from msg_bad4b H1.out H2.out H3.out (.inr ⟨.inr rfl, by simpa using u3⟩))
      clear HV
      go_enter Tryd.func78, Tryd.ntmps78
      go_wp2
      go_quiet ((go_at_call 47; exact quiet_at ((leader_c _ _ hvi).mono fun _ _ h => ⟨h.1, 0, h.2.symm⟩)))
      go_wp2
      go_ret
      exact ⟨ret_val (int_eq HF.out.symm), below_drewN (below_alloc w _) _⟩
    | false =>
    have HF := Lib.hid (show Scu.msgFault ⟨4, fr, to, vi, no, co, n, lo⟩ = Scu.keptFault ⟨vi, no, false, lo, co⟩ from msg_ok H1.out H2.out H3.out (by have h : to = vi % 3 := by { simpa using u3 }; unfold MC4; omega))
    go_enter Tryd.func78, Tryd.ntmps78
    go_wp2
    go_quiet ((go_at_call 47; exact quiet_at ((leader_c _ _ hvi).mono fun _ _ h => ⟨h.1, 0, h.2.symm⟩)))
    have hB := below_drewN (below_alloc w (Obj.cells #[.int .i64 4, .int .i64 fr, .int .i64 to, .int .i64 vi, .int .i64 no, .int .i64 co, .int .i64 n, .slice A lo.length c] 89))
    have HB := Lib.hid hB
    clear hB
    go_wp2_with fail
    refine (stageCheck_x _ vi no false lo co _ B ((HV.out.alloc _).drewN _)).mono ?_; rintro e w1 ⟨rfl, h1⟩
    go_wp2
    go_ret
    exact ⟨ret_val (int_eq HF.out.symm), (HB.out _).trans (h1.mono (HB.out _).size)⟩
end Go.Proofs.YtfpiembhlgcelaaDoor
/- Walks: may a message be? The reference's; how a message that came in is opened; the law ReplicaMessages. -/
namespace Go.Proofs.YtfpiembhlgcelaaDoor
open Go.RowKit Go.ChangeShapes Go.WideShapes Go.ChangeAt
set_option maxHeartbeats 4000000
set_option maxRecDepth 100000
/- messages -/
def MsgEl (w : World) (B : Nat) (cs : List Value) (m : Scu.Message) : Prop := ∃ lv, cs = [.int .i64 m.kind, .int .i64 m.from_, .int .i64 m.to, .int .i64 m.view, .int .i64 m.normal, .int .i64 m.commit, .int .i64 m.n, lv] ∧ IsStrs w B lv m.log
theorem cells_message : Tryd.prog.cellsOf 89 = 8 := by kernel_rfl
theorem bytes_message : Tryd.prog.bytesOf 89 = 80 := by kernel_rfl
section
variable {H : Type} {enc : TypeId × Value → H} {w : World} {base : Nat} {spare : Nat → Bool} {held : Bool} {n : Nat}
theorem trod_message {cs : List Value} {x : DataW H × List MemPlace} (h : DataW.trod enc Tryd.prog w base spare held n 89 cs = some x) (hw : ∀ k ∈ x.1.weights Tryd.prog 89, k ≤ reachBytes) : ∃ m, MsgEl w w.heap.size cs m := by
  obtain ⟨xs, m, _, hxe, hl, hxl, hf⟩ := DataW.trod_struct Tryd.underlying89 h
  rw [cells_message] at hl
  match cs, hl with
  | [c0, c1, c2, c3, c4, c5, c6, c7], _ =>
    have hxl8 : xs.length = 8 := hxl
    match xs, hxl8 with
    | [z0, z1, z2, z3, z4, z5, z6, z7], _ =>
      subst hxe
      have hwt : ∀ k ∈ DataW.weights Tryd.prog 89 (DataW.agg [z0.1, z1.1, z2.1, z3.1, z4.1, z5.1, z6.1, z7.1]), k ≤ reachBytes := hw
      simp only [DataW.weights, Tryd.underlying89, DataW.weightsEach, List.map_cons, List.map_nil, List.mem_append] at hwt
      obtain ⟨n0, h0, _⟩ := DataW.trod_int Tryd.underlying3 (hf 0 _ rfl)
      obtain ⟨n1, h1, _⟩ := DataW.trod_int Tryd.underlying3 (hf 1 _ rfl)
      obtain ⟨n2, h2, _⟩ := DataW.trod_int Tryd.underlying3 (hf 2 _ rfl)
      obtain ⟨n3, h3, _⟩ := DataW.trod_int Tryd.underlying3 (hf 3 _ rfl)
      obtain ⟨n4, h4, _⟩ := DataW.trod_int Tryd.underlying3 (hf 4 _ rfl)
      obtain ⟨n5, h5, _⟩ := DataW.trod_int Tryd.underlying3 (hf 5 _ rfl)
      obtain ⟨n6, h6, _⟩ := DataW.trod_int Tryd.underlying3 (hf 6 _ rfl)
      have h7 := hf 7 _ rfl
      simp [cells_int, cells_strs] at h0 h1 h2 h3 h4 h5 h6 h7
      subst h0 h1 h2 h3 h4 h5 h6
      obtain ⟨ls, h7'⟩ := trod_strs h7 (fun k hk => hwt k (.inr (.inr (.inr (.inr (.inr (.inr (.inr (.inl hk)))))))))
      exact ⟨⟨n0, n1, n2, n3, n4, n5, n6, ls⟩, c7, rfl, h7'⟩
def IsMsgV (w : World) (v : Value) (m : Scu.Message) : Prop := ∃ lv, v = .agg #[.int .i64 m.kind, .int .i64 m.from_, .int .i64 m.to, .int .i64 m.view, .int .i64 m.normal, .int .i64 m.commit, .int .i64 m.n, lv] ∧ IsStrs w w.heap.size lv m.log
theorem openS_Message {v : Value} {d : DataW H} {p : List MemPlace} {b0 : Nat} (hv : Value.okWide Tryd.prog w .any b0 89 v) (h : DataW.Trod enc Tryd.prog w base spare held 89 v d p)
    (hw : ∀ k ∈ d.weights Tryd.prog 89, k ≤ reachBytes) : ∃ y, IsMsgV w v y := by
  obtain ⟨cs, rfl, _⟩ := okWide_struct Tryd.underlying89 hv
  obtain ⟨fuel, hf⟩ := h
  obtain ⟨m, lv, e, hy⟩ := trod_message hf hw
  refine ⟨m, lv, ?_, hy⟩
  have : cs = #[.int .i64 m.kind, .int .i64 m.from_, .int .i64 m.to, .int .i64 m.view, .int .i64 m.normal, .int .i64 m.commit, .int .i64 m.n, lv] := by
    apply Array.toList_inj.1
    simpa [Value.cells] using e
  rw [this]
end
end Go.Proofs.YtfpiembhlgcelaaDoor
/- Words: a replica of the call's own. -/
namespace Go.Proofs.YtfpiembhlgcelaaDoor
open Go.RowKit
set_option maxHeartbeats 1000000
set_option maxRecDepth 100000
def OwnOnes {α : Type} (t : TypeId) (bytes : Nat) (f : α → Value) (w : World) (base : Nat) (v : Value) (xs : List α) : Prop := w.ownsRow base t 1 v xs.length (xs.map f) ∧ xs.length * bytes ≤ R47
section
variable {α : Type} {t : TypeId} {bytes : Nat} {f : α → Value} {w w' : World} {B base base' : Nat} {v : Value} {xs : List α}
theorem OwnOnes.is (h : OwnOnes t bytes f w base v xs) : IsOnes t bytes f w 0 v xs := by
  obtain ⟨A, c, rfl, hc, _, hr, _⟩ := rd_own h.1
  exact ⟨⟨_, _, rfl, hc, hr⟩, h.2⟩
theorem OwnOnes.form (h : OwnOnes t bytes f w base v xs) : ∃ A n c, v = .slice A n c := h.is.form
theorem OwnOnes.same (h : OwnOnes t bytes f w base v xs) (hs : Same [t] B w w') : OwnOnes t bytes f w' base v xs := ⟨own_same h.1 (by simp) hs, h.2⟩
theorem OwnOnes.below (h : OwnOnes t bytes f w base v xs) (hb : Below w.heap.size w w') : OwnOnes t bytes f w' base v xs := h.same (B := 0) (Same.below hb)
theorem OwnOnes.base_ (h : OwnOnes t bytes f w base v xs) (hb : base' ≤ base) : OwnOnes t bytes f w base' v xs := ⟨ownsRow_base h.1 hb, h.2⟩
theorem OwnOnes.lt (h : OwnOnes t bytes f w base v xs) {g : Nat} (hg : v.ownBlock = some g) : base ≤ g ∧ g < w.heap.size := h.1.lt g hg
end
/-- The parts of a replica that the call has made, but for what others gave. -/
structure OwnRep0 (w : World) (base : Nat) (lv hv wv nv : Value) (r : Scu.Replica) : Prop where
  log : OwnStrs w base lv r.kept.log
  have_ : OwnOnes 3 8 vInt w base hv r.have_
  wants : OwnOnes 4 1 Value.bool w base wv r.wants
  given : OwnOnes 4 1 Value.bool w base nv r.given
  apart : ∀ g, wv.ownBlock = some g → nv.ownBlock ≠ some g
section
variable {w w' : World} {B base base' : Nat} {lv hv wv nv : Value} {r : Scu.Replica}
theorem OwnRep0.same (h : OwnRep0 w base lv hv wv nv r) (hs : Same [9, 3, 4] B w w') : OwnRep0 w' base lv hv wv nv r :=
  ⟨h.log.same (hs.mono (by simp) (Nat.le_refl _)), h.have_.same (hs.mono (by simp) (Nat.le_refl _)), h.wants.same (hs.mono (by simp) (Nat.le_refl _)), h.given.same (hs.mono (by simp) (Nat.le_refl _)), h.apart⟩
theorem OwnRep0.below (h : OwnRep0 w base lv hv wv nv r) (hb : Below w.heap.size w w') : OwnRep0 w' base lv hv wv nv r := h.same (B := 0) (Same.below hb)
theorem OwnRep0.base_ (h : OwnRep0 w base lv hv wv nv r) (hb : base' ≤ base) : OwnRep0 w base' lv hv wv nv r := ⟨h.log.base_ hb, h.have_.base_ hb, h.wants.base_ hb, h.given.base_ hb, h.apart⟩
end
section
variable {w : World} {g : Nat} {t : TypeId} {a0 a1 a2 a3 a4 a5 a6 a7 a8 a9 b0 b1 b2 b3 b4 b5 b6 b7 b8 b9 : Value}
theorem blk_set10 (h : Blk w g t #[b0, b1, b2, b3, b4, b5, b6, b7, b8, b9]) : Blk ((((((((((w.setCell ⟨g, 0, none⟩ a0).setCell ⟨g, 1, none⟩ a1).setCell ⟨g, 2, none⟩ a2).setCell ⟨g, 3, none⟩ a3).setCell ⟨g, 4, none⟩ a4).setCell ⟨g, 5, none⟩ a5).setCell ⟨g, 6, none⟩ a6).setCell ⟨g, 7, none⟩ a7).setCell ⟨g, 8, none⟩ a8).setCell ⟨g, 9, none⟩ a9) g t #[a0, a1, a2, a3, a4, a5, a6, a7, a8, a9] := by
  have h0 : Blk _ g t #[a0, b1, b2, b3, b4, b5, b6, b7, b8, b9] := h.set_ 0 a0
  have h1 : Blk _ g t #[a0, a1, b2, b3, b4, b5, b6, b7, b8, b9] := h0.set_ 1 a1
  have h2 : Blk _ g t #[a0, a1, a2, b3, b4, b5, b6, b7, b8, b9] := h1.set_ 2 a2
  have h3 : Blk _ g t #[a0, a1, a2, a3, b4, b5, b6, b7, b8, b9] := h2.set_ 3 a3
  have h4 : Blk _ g t #[a0, a1, a2, a3, a4, b5, b6, b7, b8, b9] := h3.set_ 4 a4
  have h5 : Blk _ g t #[a0, a1, a2, a3, a4, a5, b6, b7, b8, b9] := h4.set_ 5 a5
  have h6 : Blk _ g t #[a0, a1, a2, a3, a4, a5, a6, b7, b8, b9] := h5.set_ 6 a6
  have h7 : Blk _ g t #[a0, a1, a2, a3, a4, a5, a6, a7, b8, b9] := h6.set_ 7 a7
  have h8 : Blk _ g t #[a0, a1, a2, a3, a4, a5, a6, a7, a8, b9] := h7.set_ 8 a8
  have h9 : Blk _ g t #[a0, a1, a2, a3, a4, a5, a6, a7, a8, a9] := h8.set_ 9 a9
  exact h9
theorem Same.sets10 {Ts : List TypeId} {B : Nat} (h : Blk w g t #[b0, b1, b2, b3, b4, b5, b6, b7, b8, b9]) (hB : B ≤ g) (ht : t ∉ Ts) : Same Ts B w ((((((((((w.setCell ⟨g, 0, none⟩ a0).setCell ⟨g, 1, none⟩ a1).setCell ⟨g, 2, none⟩ a2).setCell ⟨g, 3, none⟩ a3).setCell ⟨g, 4, none⟩ a4).setCell ⟨g, 5, none⟩ a5).setCell ⟨g, 6, none⟩ a6).setCell ⟨g, 7, none⟩ a7).setCell ⟨g, 8, none⟩ a8).setCell ⟨g, 9, none⟩ a9) :=
  (((((((((Same.set_ h hB ht 0 a0).trans (Same.set_ (h.set_ 0 a0) hB ht 1 a1)).trans (Same.set_ ((h.set_ 0 a0).set_ 1 a1) hB ht 2 a2)).trans (Same.set_ (((h.set_ 0 a0).set_ 1 a1).set_ 2 a2) hB ht 3 a3)).trans
    (Same.set_ ((((h.set_ 0 a0).set_ 1 a1).set_ 2 a2).set_ 3 a3) hB ht 4 a4)).trans (Same.set_ (((((h.set_ 0 a0).set_ 1 a1).set_ 2 a2).set_ 3 a3).set_ 4 a4) hB ht 5 a5)).trans
    (Same.set_ ((((((h.set_ 0 a0).set_ 1 a1).set_ 2 a2).set_ 3 a3).set_ 4 a4).set_ 5 a5) hB ht 6 a6)).trans (Same.set_ (((((((h.set_ 0 a0).set_ 1 a1).set_ 2 a2).set_ 3 a3).set_ 4 a4).set_ 5 a5).set_ 6 a6) hB ht 7 a7)).trans
    (Same.set_ ((((((((h.set_ 0 a0).set_ 1 a1).set_ 2 a2).set_ 3 a3).set_ 4 a4).set_ 5 a5).set_ 6 a6).set_ 7 a7) hB ht 8 a8)).trans (Same.set_ (((((((((h.set_ 0 a0).set_ 1 a1).set_ 2 a2).set_ 3 a3).set_ 4 a4).set_ 5 a5).set_ 6 a6).set_ 7 a7).set_ 8 a8) hB ht 9 a9)
theorem below_set10 {B : Nat} {w0 : World} (h : Below B w0 w) (hg : B ≤ g) : Below B w0 ((((((((((w.setCell ⟨g, 0, none⟩ a0).setCell ⟨g, 1, none⟩ a1).setCell ⟨g, 2, none⟩ a2).setCell ⟨g, 3, none⟩ a3).setCell ⟨g, 4, none⟩ a4).setCell ⟨g, 5, none⟩ a5).setCell ⟨g, 6, none⟩ a6).setCell ⟨g, 7, none⟩ a7).setCell ⟨g, 8, none⟩ a8).setCell ⟨g, 9, none⟩ a9) :=
  (((((((((h.setCell (p := ⟨g, 0, none⟩) hg a0).setCell (p := ⟨g, 1, none⟩) hg a1).setCell (p := ⟨g, 2, none⟩) hg a2).setCell (p := ⟨g, 3, none⟩) hg a3).setCell (p := ⟨g, 4, none⟩) hg a4).setCell (p := ⟨g, 5, none⟩) hg a5).setCell (p := ⟨g, 6, none⟩) hg a6).setCell (p := ⟨g, 7, none⟩) hg a7).setCell (p := ⟨g, 8, none⟩) hg a8).setCell (p := ⟨g, 9, none⟩) hg a9
end
/-- What the first statement of a copy leaves. -/
structure Rep0 (Wd : World) (r : Scu.Replica) (g : Nat) (lu hv wv nv : Value) (wx : World) : Prop where
  out : Blk wx g 81 #[.int .i64 r.me, .int .i64 r.kept.view, .int .i64 r.kept.normal, .bool r.kept.calm, lu, .int .i64 r.kept.commit, hv, wv, .slice none 0 0, nv]
  lo : Wd.heap.size ≤ g
  own : OwnRep0 wx Wd.heap.size lu hv wv nv r
  low : Below Wd.heap.size Wd wx
theorem rep0_new {Wd x : World} {r : Scu.Replica} {lu hv wv nv : Value} (hb : Below Wd.heap.size Wd x) (ho : OwnRep0 x Wd.heap.size lu hv wv nv r) :
    Rep0 Wd r x.heap.size lu hv wv nv (x.alloc (Obj.cells #[.int .i64 r.me, .int .i64 r.kept.view, .int .i64 r.kept.normal, .bool r.kept.calm, lu, .int .i64 r.kept.commit, hv, wv, .slice none 0 0, nv] 81)) :=
  ⟨Blk.new x _ _, hb.size, ho.below (below_alloc x _), hb.alloc hb.size _⟩
theorem rep0_set {Wd w : World} {r : Scu.Replica} {g : Nat} {lu hv wv nv b0 b1 b2 b3 b4 b5 b6 b7 b8 b9 : Value} (hb : Below Wd.heap.size Wd w) (ho : OwnRep0 w Wd.heap.size lu hv wv nv r) (h : Blk w g 81 #[b0, b1, b2, b3, b4, b5, b6, b7, b8, b9]) (hg : Wd.heap.size ≤ g) :
    Rep0 Wd r g lu hv wv nv ((((((((((w.setCell ⟨g, 0, none⟩ (.int .i64 r.me)).setCell ⟨g, 1, none⟩ (.int .i64 r.kept.view)).setCell ⟨g, 2, none⟩ (.int .i64 r.kept.normal)).setCell ⟨g, 3, none⟩ (.bool r.kept.calm)).setCell ⟨g, 4, none⟩ lu).setCell ⟨g, 5, none⟩ (.int .i64 r.kept.commit)).setCell ⟨g, 6, none⟩ hv).setCell ⟨g, 7, none⟩ wv).setCell ⟨g, 8, none⟩ (.slice none 0 0)).setCell ⟨g, 9, none⟩ nv) :=
  ⟨blk_set10 h, hg, ho.same (Same.sets10 (B := 0) h (Nat.zero_le _) (by decide)), below_set10 hb hg⟩
theorem use_ {P Q : Prop} (h : P) (k : P → Q) : Q := k h
end Go.Proofs.YtfpiembhlgcelaaDoor
/- Rows that are whole blocks: as what an append goes onto, and as what it takes. -/
namespace Go.Proofs.YtfpiembhlgcelaaDoor
open Go.RowKit
set_option maxHeartbeats 400000
set_option maxRecDepth 100000
abbrev nInt : Int → Value := Value.int .i64
theorem el_ints' : ElT 77 3 1 8 := by
  obtain ⟨i, h1, h2, h3, h4⟩ := info_parts (P := Tryd.prog) (e := 3) (z := .int .i64 0) (size := 1) (bytes := 8) (by kernel_rfl)
  exact ⟨Tryd.underlying77, by omega, i, _, h1, h2, h3, h4, rfl⟩
theorem one_ints' (xs : List Int) : ∀ u ∈ xs.map nInt, u.oneCell' = true := fun u hu => by
  obtain ⟨s, _, rfl⟩ := List.mem_map.1 hu
  rfl
theorem own_blk {w : World} {base g n : Nat} {e : TypeId} {xs : List Value} (h : Blk w g e xs.toArray) (hb : base ≤ g) (hn : xs.length = n) (hm : n ≤ maxLen) : w.ownsRow base e 1 (.slice (some ⟨g, 0, none⟩) n n) n xs :=
  ⟨by simpa using hn, .inr ⟨g, n, xs.toArray, rfl, hb, h, Nat.le_refl _, hm, by simp [hn], by rw [Nat.mul_one, ← hn]; simp⟩⟩
theorem src_blk {w : World} {g n : Nat} {e : TypeId} {xs : List Value} (h : Blk w g e xs.toArray) (hn : xs.length = n) : Src1 w 1 (.slice (some ⟨g, 0, none⟩) n n) n xs :=
  ⟨by simpa using hn, .inr ⟨_, _, rfl, fun j u hj => by
    have : (⟨g, 0, none⟩ : Addr).add j = ⟨g, j, none⟩ := by unfold Addr.add; split <;> simp_all
    rw [this, h.cell]
    simpa using hj⟩⟩
end Go.Proofs.YtfpiembhlgcelaaDoor
/- A cell of an owned row is set. -/
namespace Go.Proofs.YtfpiembhlgcelaaDoor
open Go.RowKit
set_option maxHeartbeats 400000
set_option maxRecDepth 100000

theorem own_at {w : World} {base n : Nat} {e : TypeId} {v : Value} {xs : List Value} (h : w.ownsRow base e 1 v n xs) (hn : 0 < n) :
    ∃ g c cur, v = .slice (some ⟨g, 0, none⟩) n c ∧ base ≤ g ∧ Blk w g e cur ∧ ∀ j, j < n → w.cell? ⟨g, j, none⟩ = xs[j]? := by
  obtain ⟨hl, ⟨rfl, rfl⟩ | ⟨g, cap, cur, rfl, hb, hh, hnc, _, hcs, ht⟩⟩ := h
  · omega
  · refine ⟨g, cap, cur, rfl, hb, hh, fun j hj => ?_⟩
    have hB : Blk w g e cur := hh
    rw [hB.cell, ← ht, List.getElem?_take_of_lt (by omega)]
    simp
theorem own_put {w : World} {base n g c : Nat} {e : TypeId} {xs : List Value} (h : w.ownsRow base e 1 (.slice (some ⟨g, 0, none⟩) n c) n xs) (j : Nat) (u : Value) :
    (w.setCell ⟨g, j, none⟩ u).ownsRow base e 1 (.slice (some ⟨g, 0, none⟩) n c) n (xs.set j u) := by
  obtain ⟨hl, ⟨h0, _⟩ | ⟨g', cap, cur, e1, hb, hh, hnc, hm, hcs, ht⟩⟩ := h
  · cases h0
  · cases e1
    have hB : Blk w g e cur := hh
    refine ⟨by simp [hl], .inr ⟨g, c, cur.setIfInBounds j u, rfl, hb, hB.set_ j u, hnc, hm, by simpa using hcs, ?_⟩⟩
    rw [Array.toList_setIfInBounds, List.take_set, ht]
theorem OwnStrs.at_ {w : World} {base : Nat} {v : Value} {xs : List Scu.Str} (h : OwnStrs w base v xs) (hn : 0 < xs.length) :
    ∃ g c cur, v = .slice (some ⟨g, 0, none⟩) xs.length c ∧ base ≤ g ∧ Blk w g 9 cur ∧ ∀ j, j < xs.length → w.cell? ⟨g, j, none⟩ = (xs.map Value.string)[j]? := own_at h.1 hn
theorem OwnStrs.put {w : World} {base g c n : Nat} {xs : List Scu.Str} (h : OwnStrs w base (.slice (some ⟨g, 0, none⟩) n c) xs) (j : Nat) (s : Scu.Str) (hs : s.size ≤ R47) :
    OwnStrs (w.setCell ⟨g, j, none⟩ (.string s)) base (.slice (some ⟨g, 0, none⟩) n c) (xs.set j s) := by
  have hn : n = xs.length := by
    obtain ⟨A, c', e, _⟩ := h.is.ex
    cases e
    rfl
  subst hn
  refine ⟨?_, by simpa using h.2.1, fun t ht => ?_⟩
  · rw [List.length_set, List.map_set]
    exact own_put h.1 j _
  · rcases List.mem_or_eq_of_mem_set ht with h' | rfl
    · exact h.2.2 t h'
    · exact hs
end Go.Proofs.YtfpiembhlgcelaaDoor
/- A volume of the call's own: a sector is set, a snapshot put behind the others. -/
namespace Go.Proofs.YtfpiembhlgcelaaDoor
open Go.RowKit
set_option maxHeartbeats 400000
set_option maxRecDepth 100000

theorem IsStrs.far {w : World} {B : Nat} {v : Value} {xs : List Scu.Str} (h : IsStrs w B v xs) {p : Addr} (hne : v.ownBlock ≠ some p.block) (u : Value) : IsStrs (w.setCell p u) B v xs := by
  obtain ⟨⟨A, c, rfl, hc, hr⟩, h1, h2⟩ := h
  refine ⟨⟨A, c, rfl, hc, ?_⟩, h1, h2⟩
  rcases hr with hr | ⟨g, o, rfl, hg, hk, hcell⟩
  · exact .inl hr
  · have hgp : g ≠ p.block := fun e => hne (by simp [Value.ownBlock, e])
    have e := Below.heap_setCell w p u g hgp
    exact .inr ⟨g, o, rfl, by simpa [World.setCell] using hg, by rw [e]; exact hk, fun j u' hj => by
      rw [World.cell?_of_block (w := w) (w' := w.setCell p u) (a := ⟨g, o + j, none⟩) e]
      exact hcell j u' hj⟩
theorem own_blk_ex {w : World} {base n g c : Nat} {e : TypeId} {xs : List Value} (h : w.ownsRow base e 1 (.slice (some ⟨g, 0, none⟩) n c) n xs) : ∃ cur, Blk w g e cur ∧ base ≤ g := by
  obtain ⟨_, ⟨h0, _⟩ | ⟨g', cap, cur, e1, hb, hh, _⟩⟩ := h
  · cases h0
  · cases e1
    exact ⟨cur, hh, hb⟩
theorem OwnVol.same {w w' : World} {B base : Nat} {nv sv : Value} {x : Scu.Volume} (h : OwnVol w base nv sv x) (hs : Same [9, 36] B w w') : OwnVol w' base nv sv x := by
  obtain ⟨hn, hnl, hne, hl, vs, b, hrow, heach, hlo, hhi⟩ := h
  have hs0 : Same [9, 36] 0 w w' := hs.mono (fun _ h => h) (Nat.zero_le _)
  exact ⟨own_same hn (by simp) hs0, hnl, hne, hl, vs, b, own_same hrow (by simp) hs0, fun j u y h1 h2 => (heach j u y h1 h2).same (by simp) hs0, hlo, hhi⟩
theorem OwnVol.below {w w' : World} {base : Nat} {nv sv : Value} {x : Scu.Volume} (h : OwnVol w base nv sv x) (hb : Below w.heap.size w w') : OwnVol w' base nv sv x := h.same (B := 0) (Same.below hb)
theorem OwnVol.alloc {w : World} {base : Nat} {nv sv : Value} {x : Scu.Volume} (h : OwnVol w base nv sv x) (o : Obj) : OwnVol (w.alloc o) base nv sv x := h.below (below_alloc w o)
theorem OwnVol.base_ {w : World} {base base' : Nat} {nv sv : Value} {x : Scu.Volume} (h : OwnVol w base nv sv x) (hb : base' ≤ base) : OwnVol w base' nv sv x := by
  obtain ⟨hn, hnl, hne, hl, vs, b, hrow, hrest⟩ := h
  exact ⟨ownsRow_base hn hb, hnl, hne, hl, vs, b, ownsRow_base hrow hb, hrest⟩
theorem OwnVol.zero_ (w : World) (base : Nat) : OwnVol w base (.slice none 0 0) (.slice none 0 0) Scu.vol0 :=
  ⟨World.ownsRow_nil _ _ _ _, by simp [Scu.vol0], (fun s hs => by cases hs), by simp [Scu.vol0], [], 0, World.ownsRow_nil _ _ _ _, (fun j u y h => by simp at h), (fun g h => by simp [Value.ownBlock] at h), (fun u h => by simp at h)⟩
theorem OwnVol.put {w : World} {base g n c : Nat} {sv : Value} {x : Scu.Volume} (h : OwnVol w base (.slice (some ⟨g, 0, none⟩) n c) sv x) (j : Nat) (s : Scu.Str) (hs : s.size ≤ R47) :
    OwnVol (w.setCell ⟨g, j, none⟩ (.string s)) base (.slice (some ⟨g, 0, none⟩) n c) sv ⟨x.now.set j s, x.snaps⟩ := by
  obtain ⟨hn, hnl, hne, hl, vs, b, hrow, heach, hlo, hhi⟩ := h
  have hp := OwnStrs.put (xs := x.now) ⟨hn, hnl, hne⟩ j s hs
  have hn' : n = x.now.length := by
    obtain ⟨A, c', e, _⟩ := rd_own hn
    cases e
    rfl
  subst hn'
  obtain ⟨cur, hb, _⟩ := own_blk_ex hn
  refine ⟨hp.1, hp.2.1, hp.2.2, hl, vs, b, own_set hrow hb (by decide) _, fun i u y h1 h2 => (heach i u y h1 h2).far (fun e => ?_) _, hlo, hhi⟩
  have h3 := hhi u (List.mem_of_getElem? h1) g e
  have h4 := hlo g rfl
  omega
theorem OwnVol.push {w w' : World} {base b : Nat} {nv sv u v4 : Value} {x : Scu.Volume} {vs : List Value} {y : List Scu.Str}
    (hn : w.ownsRow base 9 1 nv x.now.length (x.now.map Value.string)) (hnl : x.now.length * 16 ≤ R47) (hne : ∀ s ∈ x.now, s.size ≤ R47) (hrow : w.ownsRow base 36 1 sv x.snaps.length vs)
    (heach : ∀ (j : Nat) (u : Value) (y : List Scu.Str), vs[j]? = some u → x.snaps[j]? = some y → IsStrs w 0 u y) (hlo : ∀ g, nv.ownBlock = some g → g < b) (hhi : ∀ u ∈ vs, ∀ g, u.ownBlock = some g → b ≤ g)
    (hu : IsStrs w 0 u y) (hub : ∀ g, nv.ownBlock = some g → ∀ g', u.ownBlock = some g' → g < g') (hl : (x.snaps.length + 1) * 24 ≤ R47) (hg : w.grownBy w' sv.ownBlock)
    (h4 : w'.ownsRow base 36 1 v4 (x.snaps.length + 1) (vs ++ [u])) : OwnVol w' base nv v4 ⟨x.now, x.snaps ++ [y]⟩ := by
  have hs : Same [9] 0 w w' := Same.own hrow hg (Nat.zero_le _) (by decide)
  refine ⟨own_same hn (by simp) hs, hnl, hne, by simpa using hl, vs ++ [u], (nv.ownBlock.map (· + 1)).getD 0, by simpa using h4, ?_, ?_, ?_⟩
  · intro j v z hv hz
    have hvl : vs.length = x.snaps.length := by simpa using hrow.1
    rcases Nat.lt_or_ge j vs.length with hj | hj
    · rw [List.getElem?_append_left hj] at hv
      rw [List.getElem?_append_left (by omega)] at hz
      exact (heach j v z hv hz).same (by simp) hs
    · rw [List.getElem?_append_right hj] at hv
      rw [List.getElem?_append_right (by omega)] at hz
      have hj0 : j - vs.length = 0 := by
        rcases Nat.eq_zero_or_pos (j - vs.length) with h | h
        · exact h
        · rw [List.getElem?_eq_none (by simp; omega)] at hv
          cases hv
      rw [hj0] at hv
      rw [show j - x.snaps.length = 0 by omega] at hz
      simp only [List.getElem?_cons_zero, Option.some.injEq] at hv hz
      subst hv
      subst hz
      exact hu.same (by simp) hs
  · intro g hg'
    simp [hg']
  · intro v hv g hg'
    cases hnb : nv.ownBlock with
    | none => simp
    | some g0 =>
      simp only [Option.map_some, Option.getD_some]
      rcases List.mem_append.1 hv with h | h
      · have := hhi v h g hg'
        have := hlo g0 hnb
        omega
      · rw [List.mem_singleton] at h
        subst h
        have := hub g0 hnb g hg'
        omega
theorem blk_grow {w w' : World} {base g n : Nat} {t e : TypeId} {cs : Array Value} {lv : Value} {xs : List Value} (hb : Blk w g t cs) (hown : w.ownsRow base e 1 lv n xs) (hne : t ≠ e) (hg : w.grownBy w' lv.ownBlock) : Blk w' g t cs :=
  (hg.block g hb.lt fun e' => by
    obtain ⟨C', fz', hh⟩ := own_kind hown e'.symm
    unfold Blk at hb
    rw [hh] at hb
    cases hb
    exact hne rfl).trans hb
theorem Same.sets2 {Ts : List TypeId} {B g : Nat} {w : World} {t : TypeId} {cs : Array Value} (hb : Blk w g t cs) (hB : B ≤ g) (ht : t ∉ Ts) (a b : Value) :
    Same Ts B w ((w.setCell ⟨g, 0, none⟩ a).setCell ⟨g, 1, none⟩ b) := (Same.set_ hb hB ht 0 a).trans (Same.set_ (hb.set_ 0 a) hB ht 1 b)
theorem Same.sets3 {Ts : List TypeId} {B g : Nat} {w : World} {t : TypeId} {cs : Array Value} (hb : Blk w g t cs) (hB : B ≤ g) (ht : t ∉ Ts) (a b c : Value) :
    Same Ts B w (((w.setCell ⟨g, 0, none⟩ a).setCell ⟨g, 1, none⟩ b).setCell ⟨g, 2, none⟩ c) := (Same.sets2 hb hB ht a b).trans (Same.set_ ((hb.set_ 0 a).set_ 1 b) hB ht 2 c)
theorem strs_at {w : World} {u : Value} {ys : List Scu.Str} {k : Nat} (h : IsStrs w 0 u ys) (hk : k < ys.length) :
    ∃ g o c, u = .slice (some ⟨g, o, none⟩) ys.length c ∧ g < w.heap.size ∧ (∀ q t cs, Blk w q t cs → t ≠ 9 → g ≠ q) ∧ w.cell? ⟨g, o + k, none⟩ = some (.string ys[k]) := by
  obtain ⟨⟨A, c, rfl, _, hr⟩, _, _⟩ := h
  rcases hr with hr | ⟨g, o, rfl, hg, hb, hc⟩
  · have : ys.length = 0 := by simpa using congrArg List.length hr
    omega
  · refine ⟨g, o, c, rfl, hg, ?_, hc k _ (by simp [hk])⟩
    rintro q t cs hq ht rfl
    rcases hb with hb | ⟨C, fz, hb⟩
    · omega
    · unfold Blk at hq
      rw [hb] at hq
      cases hq
      exact ht rfl
theorem rows_at {w : World} {v : Value} {xss : List (List Scu.Str)} {k : Nat} (h : IsRows w 0 v xss) (hk : k < xss.length) :
    ∃ g o c u, v = .slice (some ⟨g, o, none⟩) xss.length c ∧ g < w.heap.size ∧ (∀ q t cs, Blk w q t cs → t ≠ 36 → g ≠ q) ∧ w.cell? ⟨g, o + k, none⟩ = some u ∧ IsStrs w 0 u xss[k] := by
  obtain ⟨⟨A, c, vs, rfl, _, hr, hvl, hve⟩, _⟩ := h
  have hkv : k < vs.length := by omega
  rcases hr with hr | ⟨g, o, rfl, hg, hb, hc⟩
  · subst hr
    simp at hkv
  · refine ⟨g, o, c, vs[k], rfl, hg, ?_, hc k _ (List.getElem?_eq_getElem hkv), hve k _ _ (List.getElem?_eq_getElem hkv) (List.getElem?_eq_getElem hk)⟩
    rintro q t cs hq ht rfl
    rcases hb with hb | ⟨C, fz, hb⟩
    · omega
    · unfold Blk at hq
      rw [hb] at hq
      cases hq
      exact ht rfl
/-- The answer's two blocks are filled. -/
theorem do_end {X : World} {b2 b3 : Nat} {p q p' q' r' : Value} (h2 : Blk X b2 39 #[p, q]) (h3 : Blk X b3 45 #[p', q', r']) (hne : b2 ≠ b3) (a b x y z : Value) :
    Blk (((((X.setCell ⟨b2, 0, none⟩ a).setCell ⟨b2, 1, none⟩ b).setCell ⟨b3, 0, none⟩ x).setCell ⟨b3, 1, none⟩ y).setCell ⟨b3, 2, none⟩ z) b2 39 #[a, b] ∧ Blk (((((X.setCell ⟨b2, 0, none⟩ a).setCell ⟨b2, 1, none⟩ b).setCell ⟨b3, 0, none⟩ x).setCell ⟨b3, 1, none⟩ y).setCell ⟨b3, 2, none⟩ z) b3 45 #[x, y, z] ∧ Same [9, 36] 0 X (((((X.setCell ⟨b2, 0, none⟩ a).setCell ⟨b2, 1, none⟩ b).setCell ⟨b3, 0, none⟩ x).setCell ⟨b3, 1, none⟩ y).setCell ⟨b3, 2, none⟩ z) := by
  have k2 := (h2.set_ 0 a).set_ 1 b
  have k3 := (h3.far (p := ⟨b2, 0, none⟩) (fun e => hne e.symm) a).far (p := ⟨b2, 1, none⟩) (fun e => hne e.symm) b
  refine ⟨((k2.far (p := ⟨b3, 0, none⟩) hne x).far (p := ⟨b3, 1, none⟩) hne y).far (p := ⟨b3, 2, none⟩) hne z, ((k3.set_ 0 x).set_ 1 y).set_ 2 z, ?_⟩
  exact (Same.sets2 (B := 0) h2 (Nat.zero_le _) (by decide) a b).trans (Same.sets3 (B := 0) k3 (Nat.zero_le _) (by decide) x y z)
theorem do_below {X w : World} {b2 b3 B : Nat} (h : Below B w X) (h2 : B ≤ b2) (h3 : B ≤ b3) (a b x y z : Value) : Below B w (((((X.setCell ⟨b2, 0, none⟩ a).setCell ⟨b2, 1, none⟩ b).setCell ⟨b3, 0, none⟩ x).setCell ⟨b3, 1, none⟩ y).setCell ⟨b3, 2, none⟩ z) :=
  ((((h.setCell (p := ⟨b2, 0, none⟩) h2 _).setCell (p := ⟨b2, 1, none⟩) h2 _).setCell (p := ⟨b3, 0, none⟩) h3 _).setCell (p := ⟨b3, 1, none⟩) h3 _).setCell (p := ⟨b3, 2, none⟩) h3 _
end Go.Proofs.YtfpiembhlgcelaaDoor
/- Words: what others gave, in a row of the call's own; the loop that copies it. -/
namespace Go.Proofs.YtfpiembhlgcelaaDoor
open Go.RowKit
set_option maxHeartbeats 1000000
set_option maxRecDepth 100000

def keptV (k : Scu.Kept) (lv : Value) : List Value := [.int .i64 k.view, .int .i64 k.normal, .bool k.calm, lv, .int .i64 k.commit]
/-- A row of kept things of the call's own: css the cells of each. -/
structure OwnKs (w : World) (base : Nat) (v : Value) (gs : List Scu.Kept) (css : List (List Value)) : Prop where
  len : css.length = gs.length
  five : ∀ cs ∈ css, cs.length = 5
  row : w.ownsRow base 64 5 v gs.length css.flatten
  each : ∀ (j : Nat) (cs : List Value) (k : Scu.Kept), css[j]? = some cs → gs[j]? = some k → KeptEl w 0 cs k
  max : gs.length * 56 ≤ R47
def OwnKepts (w : World) (base : Nat) (v : Value) (gs : List Scu.Kept) : Prop := ∃ css, OwnKs w base v gs css
section
variable {w w' : World} {B base base' : Nat} {v : Value} {gs : List Scu.Kept} {css : List (List Value)}
theorem OwnKs.is (h : OwnKs w base v gs css) : IsRow 64 5 56 KeptEl w 0 v gs := by
  obtain ⟨A, c, rfl, hc, _, hr, _⟩ := rd_own h.row
  exact ⟨⟨A, c, css, rfl, hc, h.len, h.five, hr, h.each⟩, h.max⟩
theorem OwnKs.same (h : OwnKs w base v gs css) (hs : Same [9, 64] B w w') : OwnKs w' base v gs css :=
  ⟨h.len, h.five, own_same h.row (by simp) hs, fun j cs k a b => (h.each j cs k a b).same (B := 0) (Ts := [9, 64]) (by simp) (hs.mono (fun _ h => h) (Nat.zero_le _)), h.max⟩
theorem OwnKs.below (h : OwnKs w base v gs css) (hb : Below w.heap.size w w') : OwnKs w' base v gs css := h.same (B := 0) (Same.below hb)
theorem OwnKs.base_ (h : OwnKs w base v gs css) (hb : base' ≤ base) : OwnKs w base' v gs css := ⟨h.len, h.five, ownsRow_base h.row hb, h.each, h.max⟩
theorem OwnKs.nil_ : OwnKs w base (.slice none 0 0) [] [] := ⟨rfl, by simp, World.ownsRow_nil _ _ _ _, fun j cs k h => by simp at h, by simp [R47]⟩
theorem OwnKepts.below (h : OwnKepts w base v gs) (hb : Below w.heap.size w w') : OwnKepts w' base v gs := let ⟨css, h⟩ := h; ⟨css, h.below hb⟩
theorem OwnKepts.is (h : OwnKepts w base v gs) : IsRow 64 5 56 KeptEl w 0 v gs := let ⟨_, h⟩ := h; h.is
end
/-- A replica that the call has made. -/
structure OwnRep (w : World) (base : Nat) (lv hv wv gv nv : Value) (r : Scu.Replica) : Prop where
  own : OwnRep0 w base lv hv wv nv r
  giv : OwnKepts w base gv r.gives
theorem OwnRep.is {w : World} {base : Nat} {lv hv wv gv nv : Value} {r : Scu.Replica} (h : OwnRep w base lv hv wv gv nv r) : IsRep w 0 lv hv wv gv nv r :=
  ⟨h.own.log.is, h.own.have_.is, h.own.wants.is, h.giv.is, h.own.given.is⟩
theorem OwnRep.same {w w' : World} {base : Nat} {lv hv wv gv nv : Value} {r : Scu.Replica} (h : OwnRep w base lv hv wv gv nv r) (hs : Same [9, 3, 4, 64] 0 w w') : OwnRep w' base lv hv wv gv nv r :=
  ⟨h.own.same (hs.mono (by simp) (Nat.le_refl _)), let ⟨css, g⟩ := h.giv; ⟨css, g.same (hs.mono (by simp) (Nat.le_refl _))⟩⟩
theorem OwnRep.below {w w' : World} {base : Nat} {lv hv wv gv nv : Value} {r : Scu.Replica} (h : OwnRep w base lv hv wv gv nv r) (hb : Below w.heap.size w w') : OwnRep w' base lv hv wv gv nv r := h.same (Same.below hb)
/-- The logs of what others gave lie in other blocks than a value's. -/
def ApL (lu : Value) (css : List (List Value)) : Prop := ∀ cs ∈ css, ∀ u ∈ cs, ∀ x, lu.ownBlock = some x → u.ownBlock ≠ some x
def ApG (w : World) (base : Nat) (gv : Value) (gs : List Scu.Kept) (lu : Value) : Prop := ∃ css, OwnKs w base gv gs css ∧ ApL lu css
theorem ApG.below {w w' : World} {base : Nat} {gv lu : Value} {gs : List Scu.Kept} (h : ApG w base gv gs lu) (hb : Below w.heap.size w w') : ApG w' base gv gs lu := let ⟨css, h, a⟩ := h; ⟨css, h.below hb, a⟩
theorem ApG.same {w w' : World} {base : Nat} {gv lu : Value} {gs : List Scu.Kept} (h : ApG w base gv gs lu) (hs : Same [9, 64] 0 w w') : ApG w' base gv gs lu := let ⟨css, h, a⟩ := h; ⟨css, h.same hs, a⟩
theorem ApG.base_ {w : World} {base base' : Nat} {gv lu : Value} {gs : List Scu.Kept} (h : ApG w base gv gs lu) (hb : base' ≤ base) : ApG w base' gv gs lu := let ⟨css, h, a⟩ := h; ⟨css, h.base_ hb, a⟩
def RepRet (w : World) (base : Nat) (r : Scu.Replica) (e : Ending) : Prop := ∃ lu hv wv gv nv, e = .returned (.agg #[.int .i64 r.me, .int .i64 r.kept.view, .int .i64 r.kept.normal, .bool r.kept.calm, lu, .int .i64 r.kept.commit, hv, wv, gv, nv]) ∧ OwnRep w base lu hv wv gv nv r ∧ ApG w base gv r.gives lu
/-- What the loop over what others gave holds. -/
structure GivI (w : World) (cs : Array Value) (g : Nat) (r : Scu.Replica) (lu hv wv nv : Value) (k : Nat) (gv : Value) (css : List (List Value)) (wr : World) : Prop where
  res : Blk wr (w.heap.size + 1) 81 #[.int .i64 0, .int .i64 0, .int .i64 0, .bool false, .slice none 0 0, .int .i64 0, .slice none 0 0, .slice none 0 0, .slice none 0 0, .slice none 0 0]
  arg : Blk wr w.heap.size 81 cs
  out : Blk wr g 81 #[.int .i64 r.me, .int .i64 r.kept.view, .int .i64 r.kept.normal, .bool r.kept.calm, lu, .int .i64 r.kept.commit, hv, wv, gv, nv]
  own : OwnRep0 wr w.heap.size lu hv wv nv r
  giv : OwnKs wr w.heap.size gv (r.gives.take k) css
  lo : w.heap.size + 1 < g
  low : Below w.heap.size w wr
  apt : ApL lu css
theorem GivI.below {w : World} {cs : Array Value} {g k : Nat} {r : Scu.Replica} {lu hv wv nv gv : Value} {css : List (List Value)} {wr w' : World} (h : GivI w cs g r lu hv wv nv k gv css wr) (hb : Below wr.heap.size wr w') : GivI w cs g r lu hv wv nv k gv css w' :=
  ⟨h.res.same hb, h.arg.same hb, h.out.same hb, h.own.below hb, h.giv.below hb, h.lo, h.low.trans (hb.mono h.low.size), h.apt⟩
theorem take_next {α : Type} {l : List α} {k : Nat} (hk : k < l.length) : l.take (k + 1) = l.take k ++ [l[k]] := by
  rw [List.take_add_one, List.getElem?_eq_getElem hk]
  rfl
theorem blk_growm {w w' : World} {base g n m : Nat} {t e : TypeId} {cs : Array Value} {lv : Value} {xs : List Value} (hb : Blk w g t cs) (hown : w.ownsRow base e m lv n xs) (hne : t ≠ e) (hg : w.grownBy w' lv.ownBlock) : Blk w' g t cs :=
  (hg.block g hb.lt fun e' => by
    obtain ⟨C', fz', hh⟩ := own_kind hown e'.symm
    unfold Blk at hb
    rw [hh] at hb
    cases hb
    exact hne rfl).trans hb
/-- Across the append and the store behind it: P the world that the append meets. -/
theorem giv_next {w : World} {cs : Array Value} {g k : Nat} {r : Scu.Replica} {lu hv wv nv gv v4 lx : Value} {css : List (List Value)} {P w4 : World} {b : Nat} (h : GivI w cs g r lu hv wv nv k gv css P) (hk : k < r.gives.length) (hm : r.gives.length * 56 ≤ R47)
    (hx : OwnStrs P b lx r.gives[k].log) (hub : ∀ x, lu.ownBlock = some x → x < b) (h4 : w4.ownsRow w.heap.size 64 5 v4 (k + 1) (css.flatten ++ keptV r.gives[k] lx)) (hg : P.grownBy w4 gv.ownBlock) :
    GivI w cs g r lu hv wv nv (k + 1) v4 (css ++ [keptV r.gives[k] lx]) (w4.setCell ⟨g, 8, none⟩ v4) := by
  have hrow := h.giv.row
  have e1 : (r.gives.take k).length = k := by rw [List.length_take]; omega
  have hs0 : Same [9, 3, 4] 0 P w4 := Same.own hrow hg (Nat.zero_le _) (by decide)
  have hout4 := blk_growm h.out hrow (by decide) hg
  have hs1 : Same [9, 3, 4, 64] 0 w4 (w4.setCell ⟨g, 8, none⟩ v4) := Same.set_ hout4 (Nat.zero_le _) (by decide) 8 v4
  have hs2 : Same [9] 0 P (w4.setCell ⟨g, 8, none⟩ v4) := (hs0.mono (by simp) (Nat.le_refl _)).trans (hs1.mono (by simp) (Nat.le_refl _))
  have hlo := h.lo
  refine ⟨(blk_growm h.res hrow (by decide) hg).far (by simp; omega) v4, (blk_growm h.arg hrow (by decide) hg).far (by simp; omega) v4, ?_, ?_, ?_, h.lo, ?_, ?_⟩
  · have h8 : Blk (w4.setCell ⟨g, 8, none⟩ v4) g 81 #[.int .i64 r.me, .int .i64 r.kept.view, .int .i64 r.kept.normal, .bool r.kept.calm, lu, .int .i64 r.kept.commit, hv, wv, v4, nv] := hout4.set_ 8 v4
    exact h8
  · exact (h.own.same hs0).same (hs1.mono (by simp) (Nat.le_refl _))
  · rw [take_next hk]
    refine ⟨by simp only [List.length_append, h.giv.len, List.length_cons, List.length_nil], ?_, ?_, ?_, ?_⟩
    · intro c hc
      rcases List.mem_append.1 hc with h' | h'
      · exact h.giv.five c h'
      · rw [List.mem_singleton] at h'
        subst h'
        rfl
    · rw [List.length_append, e1, List.flatten_append]
      have h5 : w4.ownsRow w.heap.size 64 5 v4 (k + [r.gives[k]].length) (css.flatten ++ [keptV r.gives[k] lx].flatten) := by simpa using h4
      exact own_set h5 hout4 (by decide) v4
    · intro j c x hc hx'
      rcases Nat.lt_or_ge j k with hj | hj
      · rw [List.getElem?_append_left (by rw [h.giv.len, e1]; exact hj)] at hc
        rw [List.getElem?_append_left (by rw [e1]; exact hj)] at hx'
        exact (h.giv.each j c x hc hx').same (B := 0) (Ts := [9]) (by simp) hs2
      · rw [List.getElem?_append_right (by rw [h.giv.len, e1]; exact hj), h.giv.len, e1] at hc
        rw [List.getElem?_append_right (by rw [e1]; exact hj), e1] at hx'
        have hj0 : j - k = 0 := by
          rcases Nat.eq_zero_or_pos (j - k) with h' | h'
          · exact h'
          · rw [List.getElem?_eq_none (by simp; omega)] at hc
            cases hc
        rw [hj0] at hc hx'
        simp only [List.getElem?_cons_zero, Option.some.injEq] at hc hx'
        subst hc
        subst hx'
        exact ⟨lx, rfl, (hx.same hs2).is⟩
    · rw [List.length_append, e1]
      simp only [List.length_cons, List.length_nil]
      omega
  · exact (h.low.grown hg h.low.size (fun q hq => (hrow.lt q hq).1)).setCell (by show w.heap.size ≤ g; omega) v4
  · intro c hc u hu x hl e
    rcases List.mem_append.1 hc with h' | h'
    · exact h.apt c h' u hu x hl e
    · rw [List.mem_singleton] at h'
      subst h'
      simp only [keptV, List.mem_cons, List.not_mem_nil, or_false] at hu
      rcases hu with rfl | rfl | rfl | rfl | rfl
      · cases e
      · cases e
      · cases e
      · have := (hx.1.lt x e).1
        have := hub x hl
        omega
      · cases e
end Go.Proofs.YtfpiembhlgcelaaDoor

/- Part 10: words and walks under the law 'ReplicaTicks'. -/
import Derived.Test.YtjbhkmadcjnbfaaPart7
import Derived.Test.YtjbhkmadcjnbfaaPart9
set_option linter.unusedVariables false
set_option linter.unusedSimpArgs false
/- Walks: who leads; the laws ReplicaChecks and ReplicaLeads. -/
namespace Go.Proofs.Ytjbhkmadcjnbfaa
open Go.RowKit
set_option maxHeartbeats 400000
set_option maxRecDepth 100000
theorem leads_at (r : Scu.Replica) (h : r.kept.calm = true) : Scu.leads r = (r.kept.view % 3 == r.me) := by
  unfold Scu.leads Scu.leader
  rw [h, Bool.eq_iff_iff]
  simp
theorem leader_c (vi : Int) (w : World) (h0 : 0 ≤ vi) : Calls Try.prog 23 #[.int .i64 vi] w fun e w' => e = .returned (.int .i64 (vi % 3)) ∧ w = w' := by
  go_enter Try.func23, Try.ntmps23
  go_wp2
  go_ret
  exact ⟨rfl, rfl⟩
theorem leads_x (me vi no : Int) (ca : Bool) (lv : Value) (co : Int) (hv wv gv nv : Value) (r : Scu.Replica) (h0 : 0 ≤ vi) (h1 : r.me = me) (h2 : r.kept.view = vi) (h3 : r.kept.calm = ca) (w : World) :
    Calls Try.prog 20 #[.agg #[.int .i64 me, .int .i64 vi, .int .i64 no, .bool ca, lv, .int .i64 co, hv, wv, gv, nv]] w fun e w' => e = .returned (.bool (Scu.leads r)) ∧ Below w.heap.size w w' := by
  cases ca
  · have HF := Lib.hid (show Scu.leads r = false by unfold Scu.leads; rw [h3]; rfl)
    clear h1 h2 h3
    go_enter Try.func20, Try.ntmps20
    go_wp2
    go_quiet (fail)
    go_wp2
    go_ret
    exact ⟨ret_val (bool_eq HF.out.symm), below_drewN (below_alloc w _) _⟩
  · have HF := Lib.hid (show Scu.leads r = (vi % 3 == me) by rw [leads_at r h3, h1, h2])
    clear h1 h2 h3
    go_enter Try.func20, Try.ntmps20
    go_wp2
    go_quiet ((go_at_call 23; exact quiet_at ((leader_c _ _ h0).mono fun _ _ h => ⟨h.1, 0, h.2.symm⟩)))
    go_wp2
    go_ret
    exact ⟨ret_val (bool_eq HF.out.symm), below_drewN (below_alloc w _) _⟩
theorem leadsNow_x (me vi no : Int) (ca : Bool) (lv : Value) (co : Int) (hv wv gv nv : Value) (r : Scu.Replica) (h0 : 0 ≤ vi) (h1 : r.me = me) (h2 : r.kept.view = vi) (h3 : r.kept.calm = ca) (w : World) :
    Calls Try.prog 26 #[.agg #[.int .i64 me, .int .i64 vi, .int .i64 no, .bool ca, lv, .int .i64 co, hv, wv, gv, nv]] w fun e w' => e = .returned (.bool (Scu.leads r)) ∧ Below w.heap.size w w' := by
  cases ca
  · have HF := Lib.hid (show Scu.leads r = false by unfold Scu.leads; rw [h3]; rfl)
    clear h1 h2 h3
    go_enter Try.func26, Try.ntmps26
    go_wp2
    go_ret
    exact ⟨ret_val (bool_eq HF.out.symm), below_alloc w _⟩
  · have HF := Lib.hid (show Scu.leads r = (vi % 3 == me) by rw [leads_at r h3, h1, h2])
    clear h1 h2 h3
    go_enter Try.func26, Try.ntmps26
    go_wp2
    go_ret
    exact ⟨ret_val (bool_eq HF.out.symm), below_alloc w _⟩
theorem leads_c (lv hv wv gv nv : Value) (r : Scu.Replica) (h0 : 0 ≤ r.kept.view) (w : World) : Calls Try.prog 20 #[.agg #[.int .i64 r.me, .int .i64 r.kept.view, .int .i64 r.kept.normal, .bool r.kept.calm, lv, .int .i64 r.kept.commit, hv, wv, gv, nv]] w fun e w' => e = .returned (.bool (Scu.leads r)) ∧ Below w.heap.size w w' :=
  leads_x _ _ _ _ _ _ _ _ _ _ r h0 rfl rfl rfl w
theorem leadsNow_c (lv hv wv gv nv : Value) (r : Scu.Replica) (h0 : 0 ≤ r.kept.view) (w : World) : Calls Try.prog 26 #[.agg #[.int .i64 r.me, .int .i64 r.kept.view, .int .i64 r.kept.normal, .bool r.kept.calm, lv, .int .i64 r.kept.commit, hv, wv, gv, nv]] w fun e w' => e = .returned (.bool (Scu.leads r)) ∧ Below w.heap.size w w' :=
  leadsNow_x _ _ _ _ _ _ _ _ _ _ r h0 rfl rfl rfl w
end Go.Proofs.Ytjbhkmadcjnbfaa
/- Walks: may a message be? The program's and the reference's; the law ReplicaMessages. -/
namespace Go.Proofs.Ytjbhkmadcjnbfaa
open Go.RowKit Go.ChangeShapes Go.WideShapes Go.ChangeAt
set_option maxHeartbeats 4000000
set_option maxRecDepth 100000

def MC2 (fr to vi n : Int) : Prop := fr < 0 ∨ 3 ≤ fr ∨ to < 0 ∨ 3 ≤ to ∨ fr = to ∨ vi < 0 ∨ 1048576 < vi ∨ n < 0 ∨ 60 < n
def MC3 (ki no co n : Int) (lo : List Scu.Str) : Prop := (ki ≠ 4 ∧ no ≠ 0) ∨ (ki ≠ 2 ∧ n ≠ 0) ∨ ((ki = 2 ∨ ki = 3) ∧ (co ≠ 0 ∨ lo ≠ []))
def MC4 (ki fr to vi : Int) : Prop := (ki = 1 ∧ fr ≠ vi % 3) ∨ ((ki = 2 ∨ ki = 4) ∧ to ≠ vi % 3)
section
variable {ki fr to vi no co n : Int} {lo : List Scu.Str}
theorem msg_bad3 (h : ki < 1 ∨ 4 < ki) : Scu.msgFault ⟨ki, fr, to, vi, no, co, n, lo⟩ = 3 := if_pos h
theorem msg_bad2 (h1 : ¬ (ki < 1 ∨ 4 < ki)) (h2 : MC2 fr to vi n) : Scu.msgFault ⟨ki, fr, to, vi, no, co, n, lo⟩ = 2 := (if_neg h1).trans (if_pos h2)
theorem msg_bad4a (h1 : ¬ (ki < 1 ∨ 4 < ki)) (h2 : ¬ MC2 fr to vi n) (h3 : MC3 ki no co n lo) : Scu.msgFault ⟨ki, fr, to, vi, no, co, n, lo⟩ = 4 := ((if_neg h1).trans (if_neg h2)).trans (if_pos h3)
theorem msg_bad4b (h1 : ¬ (ki < 1 ∨ 4 < ki)) (h2 : ¬ MC2 fr to vi n) (h3 : ¬ MC3 ki no co n lo) (h4 : MC4 ki fr to vi) : Scu.msgFault ⟨ki, fr, to, vi, no, co, n, lo⟩ = 4 := (((if_neg h1).trans (if_neg h2)).trans (if_neg h3)).trans (if_pos h4)
theorem msg_ok (h1 : ¬ (ki < 1 ∨ 4 < ki)) (h2 : ¬ MC2 fr to vi n) (h3 : ¬ MC3 ki no co n lo) (h4 : ¬ MC4 ki fr to vi) : Scu.msgFault ⟨ki, fr, to, vi, no, co, n, lo⟩ = Scu.keptFault ⟨vi, no, false, lo, co⟩ := (((if_neg h1).trans (if_neg h2)).trans (if_neg h3)).trans (if_neg h4)
end
theorem nil_of {lo : List Scu.Str} (h : decide (0 < lo.length) = false) : lo = [] := by
  have := of_decide_eq_false h
  exact List.eq_nil_of_length_eq_zero (by omega)
theorem not_nil {lo : List Scu.Str} (h : decide (0 < lo.length) = true) : lo ≠ [] := by
  have := of_decide_eq_true h
  rintro rfl
  simp at this

theorem msgCheck_x (lv : Value) (ki fr to vi no co n : Int) (lo : List Scu.Str) (w : World) (B : Nat) (hv : IsStrs w B lv lo) :
    Calls Try.prog 35 #[.agg #[.int .i64 ki, .int .i64 fr, .int .i64 to, .int .i64 vi, .int .i64 no, .int .i64 co, .int .i64 n, lv]] w fun e w' =>
      e = .returned (.int .i64 (Scu.msgFault ⟨ki, fr, to, vi, no, co, n, lo⟩)) ∧ Below w.heap.size w w' := by
  have HV := Lib.hid hv
  obtain ⟨⟨A, c, rfl, _, hr⟩, hl, he⟩ := hv
  unfold R47 at hl
  clear hr he
  cases t1 : decide (ki < 1) with
  | true =>
    have HF := Lib.hid (show Scu.msgFault ⟨ki, fr, to, vi, no, co, n, lo⟩ = 3 from msg_bad3 (.inl (of_decide_eq_true t1)))
    clear HV
    go_enter Try.func35, Try.ntmps35
    go_wp2
    go_ret
    exact ⟨ret_val (int_eq HF.out.symm), below_alloc w _⟩
  | false =>
  cases t2 : decide ((4 : Int) < ki) with
  | true =>
    have HF := Lib.hid (show Scu.msgFault ⟨ki, fr, to, vi, no, co, n, lo⟩ = 3 from msg_bad3 (.inr (of_decide_eq_true t2)))
    clear HV
    go_enter Try.func35, Try.ntmps35
    go_wp2
    go_ret
    exact ⟨ret_val (int_eq HF.out.symm), below_alloc w _⟩
  | false =>
  have H1 := Lib.hid (show ¬ (ki < 1 ∨ 4 < ki) from fun h => h.elim (of_decide_eq_false t1) (of_decide_eq_false t2))
  cases t3 : decide (fr < 0) with
  | true =>
    have HF := Lib.hid (show Scu.msgFault ⟨ki, fr, to, vi, no, co, n, lo⟩ = 2 from msg_bad2 H1.out (.inl (of_decide_eq_true t3)))
    clear HV
    go_enter Try.func35, Try.ntmps35
    go_wp2
    go_ret
    exact ⟨ret_val (int_eq HF.out.symm), below_alloc w _⟩
  | false =>
  cases t4 : decide ((3 : Int) ≤ fr) with
  | true =>
    have HF := Lib.hid (show Scu.msgFault ⟨ki, fr, to, vi, no, co, n, lo⟩ = 2 from msg_bad2 H1.out (.inr (.inl (of_decide_eq_true t4))))
    clear HV
    go_enter Try.func35, Try.ntmps35
    go_wp2
    go_ret
    exact ⟨ret_val (int_eq HF.out.symm), below_alloc w _⟩
  | false =>
  cases t5 : decide (to < 0) with
  | true =>
    have HF := Lib.hid (show Scu.msgFault ⟨ki, fr, to, vi, no, co, n, lo⟩ = 2 from msg_bad2 H1.out (.inr (.inr (.inl (of_decide_eq_true t5)))))
    clear HV
    go_enter Try.func35, Try.ntmps35
    go_wp2
    go_ret
    exact ⟨ret_val (int_eq HF.out.symm), below_alloc w _⟩
  | false =>
  cases t6 : decide ((3 : Int) ≤ to) with
  | true =>
    have HF := Lib.hid (show Scu.msgFault ⟨ki, fr, to, vi, no, co, n, lo⟩ = 2 from msg_bad2 H1.out (.inr (.inr (.inr (.inl (of_decide_eq_true t6))))))
    clear HV
    go_enter Try.func35, Try.ntmps35
    go_wp2
    go_ret
    exact ⟨ret_val (int_eq HF.out.symm), below_alloc w _⟩
  | false =>
  cases t7 : (fr == to) with
  | true =>
    have HF := Lib.hid (show Scu.msgFault ⟨ki, fr, to, vi, no, co, n, lo⟩ = 2 from msg_bad2 H1.out (.inr (.inr (.inr (.inr (.inl (by simpa using t7)))))))
    clear HV
    go_enter Try.func35, Try.ntmps35
    go_wp2
    go_ret
    exact ⟨ret_val (int_eq HF.out.symm), below_alloc w _⟩
  | false =>
  cases t8 : decide (vi < 0) with
  | true =>
    have HF := Lib.hid (show Scu.msgFault ⟨ki, fr, to, vi, no, co, n, lo⟩ = 2 from msg_bad2 H1.out (.inr (.inr (.inr (.inr (.inr (.inl (of_decide_eq_true t8))))))))
    clear HV
    go_enter Try.func35, Try.ntmps35
    go_wp2
    go_ret
    exact ⟨ret_val (int_eq HF.out.symm), below_alloc w _⟩
  | false =>
  cases t9 : decide ((1048576 : Int) < vi) with
  | true =>
    have HF := Lib.hid (show Scu.msgFault ⟨ki, fr, to, vi, no, co, n, lo⟩ = 2 from msg_bad2 H1.out (.inr (.inr (.inr (.inr (.inr (.inr (.inl (of_decide_eq_true t9)))))))))
    clear HV
    go_enter Try.func35, Try.ntmps35
    go_wp2
    go_ret
    exact ⟨ret_val (int_eq HF.out.symm), below_alloc w _⟩
  | false =>
  cases t10 : decide (n < 0) with
  | true =>
    have HF := Lib.hid (show Scu.msgFault ⟨ki, fr, to, vi, no, co, n, lo⟩ = 2 from msg_bad2 H1.out (.inr (.inr (.inr (.inr (.inr (.inr (.inr (.inl (of_decide_eq_true t10))))))))))
    clear HV
    go_enter Try.func35, Try.ntmps35
    go_wp2
    go_ret
    exact ⟨ret_val (int_eq HF.out.symm), below_alloc w _⟩
  | false =>
  cases t11 : decide ((60 : Int) < n) with
  | true =>
    have HF := Lib.hid (show Scu.msgFault ⟨ki, fr, to, vi, no, co, n, lo⟩ = 2 from msg_bad2 H1.out (.inr (.inr (.inr (.inr (.inr (.inr (.inr (.inr (of_decide_eq_true t11))))))))))
    clear HV
    go_enter Try.func35, Try.ntmps35
    go_wp2
    go_ret
    exact ⟨ret_val (int_eq HF.out.symm), below_alloc w _⟩
  | false =>
  have H2 := Lib.hid (show ¬ MC2 fr to vi n by
    have := of_decide_eq_false t3
    have := of_decide_eq_false t4
    have := of_decide_eq_false t5
    have := of_decide_eq_false t6
    have h7 : fr ≠ to := by simpa using t7
    have := of_decide_eq_false t8
    have := of_decide_eq_false t9
    have := of_decide_eq_false t10
    have := of_decide_eq_false t11
    unfold MC2
    omega)
  have hvi : 0 ≤ vi := by have := of_decide_eq_false t8; omega
  have h4 : ki = 1 ∨ ki = 2 ∨ ki = 3 ∨ ki = 4 := by have := H1.out; omega
  rcases h4 with rfl | rfl | rfl | rfl
  all_goals clear t1 t2
  · cases u1 : (no != 0) with
    | true =>
      have HF := Lib.hid (show Scu.msgFault ⟨1, fr, to, vi, no, co, n, lo⟩ = 4 from msg_bad4a H1.out H2.out (.inl ⟨by decide, by simpa using u1⟩))
      clear HV
      go_enter Try.func35, Try.ntmps35
      go_wp2
      go_ret
      exact ⟨ret_val (int_eq HF.out.symm), below_alloc w _⟩
    | false =>
    cases u2 : (n != 0) with
    | true =>
      have HF := Lib.hid (show Scu.msgFault ⟨1, fr, to, vi, no, co, n, lo⟩ = 4 from msg_bad4a H1.out H2.out (.inr (.inl ⟨by decide, by simpa using u2⟩)))
      clear HV
      go_enter Try.func35, Try.ntmps35
      go_wp2
      go_ret
      exact ⟨ret_val (int_eq HF.out.symm), below_alloc w _⟩
    | false =>
    have H3 := Lib.hid (show ¬ MC3 1 no co n lo by
      have : no = 0 := by simpa using u1
      have : n = 0 := by simpa using u2
      unfold MC3; simp; omega)
    cases u3 : (fr != vi % 3) with
    | true =>
      have HF := Lib.hid (show Scu.msgFault ⟨1, fr, to, vi, no, co, n, lo⟩ = 4 from msg_bad4b H1.out H2.out H3.out (.inl ⟨rfl, by simpa using u3⟩))
      clear HV
      go_enter Try.func35, Try.ntmps35
      go_wp2
      go_quiet ((go_at_call 23; exact quiet_at ((leader_c _ _ hvi).mono fun _ _ h => ⟨h.1, 0, h.2.symm⟩)))
      go_wp2
      go_ret
      exact ⟨ret_val (int_eq HF.out.symm), below_drewN (below_alloc w _) _⟩
    | false =>
    have HF := Lib.hid (show Scu.msgFault ⟨1, fr, to, vi, no, co, n, lo⟩ = Scu.keptFault ⟨vi, no, false, lo, co⟩ from msg_ok H1.out H2.out H3.out (by have h : fr = vi % 3 := by { simpa using u3 }; unfold MC4; omega))
    go_enter Try.func35, Try.ntmps35
    go_wp2
    go_quiet ((go_at_call 23; exact quiet_at ((leader_c _ _ hvi).mono fun _ _ h => ⟨h.1, 0, h.2.symm⟩)))
    have hB := below_drewN (below_alloc w (Obj.cells #[.int .i64 1, .int .i64 fr, .int .i64 to, .int .i64 vi, .int .i64 no, .int .i64 co, .int .i64 n, .slice A lo.length c] 41))
    have HB := Lib.hid hB
    clear hB
    go_wp2_with fail
    refine (stageCheck_x _ vi no false lo co _ B ((HV.out.alloc _).drewN _)).mono ?_; rintro e w1 ⟨rfl, h1⟩
    go_wp2
    go_ret
    exact ⟨ret_val (int_eq HF.out.symm), (HB.out _).trans (h1.mono (HB.out _).size)⟩
  · cases u1 : (no != 0) with
    | true =>
      have HF := Lib.hid (show Scu.msgFault ⟨2, fr, to, vi, no, co, n, lo⟩ = 4 from msg_bad4a H1.out H2.out (.inl ⟨by decide, by simpa using u1⟩))
      clear HV
      go_enter Try.func35, Try.ntmps35
      go_wp2
      go_ret
      exact ⟨ret_val (int_eq HF.out.symm), below_alloc w _⟩
    | false =>
    cases u2 : (co != 0) with
    | true =>
      have HF := Lib.hid (show Scu.msgFault ⟨2, fr, to, vi, no, co, n, lo⟩ = 4 from msg_bad4a H1.out H2.out (.inr (.inr ⟨.inl rfl, .inl (by simpa using u2)⟩)))
      clear HV
      go_enter Try.func35, Try.ntmps35
      go_wp2
      go_ret
      exact ⟨ret_val (int_eq HF.out.symm), below_alloc w _⟩
    | false =>
    cases u4 : decide (0 < lo.length) with
    | true =>
      have HF := Lib.hid (show Scu.msgFault ⟨2, fr, to, vi, no, co, n, lo⟩ = 4 from msg_bad4a H1.out H2.out (.inr (.inr ⟨.inl rfl, .inr (not_nil u4)⟩)))
      clear HV
      go_enter Try.func35, Try.ntmps35
      go_wp2
      go_ret
      exact ⟨ret_val (int_eq HF.out.symm), below_alloc w _⟩
    | false =>
    have H3 := Lib.hid (show ¬ MC3 2 no co n lo by
      have : no = 0 := by simpa using u1
      have : co = 0 := by simpa using u2
      have h5 := nil_of u4
      unfold MC3; simp [h5]; omega)
    cases u3 : (to != vi % 3) with
    | true =>
      have HF := Lib.hid (show Scu.msgFault ⟨2, fr, to, vi, no, co, n, lo⟩ = 4 from msg_bad4b H1.out H2.out H3.out (.inr ⟨.inl rfl, by simpa using u3⟩))
      clear HV
      go_enter Try.func35, Try.ntmps35
      go_wp2
      go_quiet ((go_at_call 23; exact quiet_at ((leader_c _ _ hvi).mono fun _ _ h => ⟨h.1, 0, h.2.symm⟩)))
      go_wp2
      go_ret
      exact ⟨ret_val (int_eq HF.out.symm), below_drewN (below_alloc w _) _⟩
    | false =>
    have HF := Lib.hid (show Scu.msgFault ⟨2, fr, to, vi, no, co, n, lo⟩ = Scu.keptFault ⟨vi, no, false, lo, co⟩ from msg_ok H1.out H2.out H3.out (by have h : to = vi % 3 := by { simpa using u3 }; unfold MC4; omega))
    go_enter Try.func35, Try.ntmps35
    go_wp2
    go_quiet ((go_at_call 23; exact quiet_at ((leader_c _ _ hvi).mono fun _ _ h => ⟨h.1, 0, h.2.symm⟩)))
    have hB := below_drewN (below_alloc w (Obj.cells #[.int .i64 2, .int .i64 fr, .int .i64 to, .int .i64 vi, .int .i64 no, .int .i64 co, .int .i64 n, .slice A lo.length c] 41))
    have HB := Lib.hid hB
    clear hB
    go_wp2_with fail
    refine (stageCheck_x _ vi no false lo co _ B ((HV.out.alloc _).drewN _)).mono ?_; rintro e w1 ⟨rfl, h1⟩
    go_wp2
    go_ret
    exact ⟨ret_val (int_eq HF.out.symm), (HB.out _).trans (h1.mono (HB.out _).size)⟩
  · cases u1 : (no != 0) with
    | true =>
      have HF := Lib.hid (show Scu.msgFault ⟨3, fr, to, vi, no, co, n, lo⟩ = 4 from msg_bad4a H1.out H2.out (.inl ⟨by decide, by simpa using u1⟩))
      clear HV
      go_enter Try.func35, Try.ntmps35
      go_wp2
      go_ret
      exact ⟨ret_val (int_eq HF.out.symm), below_alloc w _⟩
    | false =>
    cases u5 : (n != 0) with
    | true =>
      have HF := Lib.hid (show Scu.msgFault ⟨3, fr, to, vi, no, co, n, lo⟩ = 4 from msg_bad4a H1.out H2.out (.inr (.inl ⟨by decide, by simpa using u5⟩)))
      clear HV
      go_enter Try.func35, Try.ntmps35
      go_wp2
      go_ret
      exact ⟨ret_val (int_eq HF.out.symm), below_alloc w _⟩
    | false =>
    cases u2 : (co != 0) with
    | true =>
      have HF := Lib.hid (show Scu.msgFault ⟨3, fr, to, vi, no, co, n, lo⟩ = 4 from msg_bad4a H1.out H2.out (.inr (.inr ⟨.inr rfl, .inl (by simpa using u2)⟩)))
      clear HV
      go_enter Try.func35, Try.ntmps35
      go_wp2
      go_ret
      exact ⟨ret_val (int_eq HF.out.symm), below_alloc w _⟩
    | false =>
    cases u4 : decide (0 < lo.length) with
    | true =>
      have HF := Lib.hid (show Scu.msgFault ⟨3, fr, to, vi, no, co, n, lo⟩ = 4 from msg_bad4a H1.out H2.out (.inr (.inr ⟨.inr rfl, .inr (not_nil u4)⟩)))
      clear HV
      go_enter Try.func35, Try.ntmps35
      go_wp2
      go_ret
      exact ⟨ret_val (int_eq HF.out.symm), below_alloc w _⟩
    | false =>
    have H3 := Lib.hid (show ¬ MC3 3 no co n lo by
      have : no = 0 := by simpa using u1
      have : co = 0 := by simpa using u2
      have : n = 0 := by simpa using u5
      have h5 := nil_of u4
      unfold MC3; simp [h5]; omega)
    have HF := Lib.hid (show Scu.msgFault ⟨3, fr, to, vi, no, co, n, lo⟩ = Scu.keptFault ⟨vi, no, false, lo, co⟩ from msg_ok H1.out H2.out H3.out (by unfold MC4; omega))
    go_enter Try.func35, Try.ntmps35
    go_wp2
    go_quiet ((go_at_call 23; exact quiet_at ((leader_c _ _ hvi).mono fun _ _ h => ⟨h.1, 0, h.2.symm⟩)))
    have hB := below_drewN (below_alloc w (Obj.cells #[.int .i64 3, .int .i64 fr, .int .i64 to, .int .i64 vi, .int .i64 no, .int .i64 co, .int .i64 n, .slice A lo.length c] 41))
    have HB := Lib.hid hB
    clear hB
    go_wp2_with fail
    refine (stageCheck_x _ vi no false lo co _ B ((HV.out.alloc _).drewN _)).mono ?_; rintro e w1 ⟨rfl, h1⟩
    go_wp2
    go_ret
    exact ⟨ret_val (int_eq HF.out.symm), (HB.out _).trans (h1.mono (HB.out _).size)⟩
  · cases u2 : (n != 0) with
    | true =>
      have HF := Lib.hid (show Scu.msgFault ⟨4, fr, to, vi, no, co, n, lo⟩ = 4 from msg_bad4a H1.out H2.out (.inr (.inl ⟨by decide, by simpa using u2⟩)))
      clear HV
      go_enter Try.func35, Try.ntmps35
      go_wp2
      go_ret
      exact ⟨ret_val (int_eq HF.out.symm), below_alloc w _⟩
    | false =>
    have H3 := Lib.hid (show ¬ MC3 4 no co n lo by
      have : n = 0 := by simpa using u2
      unfold MC3; simp; omega)
    cases u3 : (to != vi % 3) with
    | true =>
      have HF := Lib.hid (show Scu.msgFault ⟨4, fr, to, vi, no, co, n, lo⟩ = 4 from msg_bad4b H1.out H2.out H3.out (.inr ⟨.inr rfl, by simpa using u3⟩))
      clear HV
      go_enter Try.func35, Try.ntmps35
      go_wp2
      go_quiet ((go_at_call 23; exact quiet_at ((leader_c _ _ hvi).mono fun _ _ h => ⟨h.1, 0, h.2.symm⟩)))
      go_wp2
      go_ret
      exact ⟨ret_val (int_eq HF.out.symm), below_drewN (below_alloc w _) _⟩
    | false =>
    have HF := Lib.hid (show Scu.msgFault ⟨4, fr, to, vi, no, co, n, lo⟩ = Scu.keptFault ⟨vi, no, false, lo, co⟩ from msg_ok H1.out H2.out H3.out (by have h : to = vi % 3 := by { simpa using u3 }; unfold MC4; omega))
    go_enter Try.func35, Try.ntmps35
    go_wp2
    go_quiet ((go_at_call 23; exact quiet_at ((leader_c _ _ hvi).mono fun _ _ h => ⟨h.1, 0, h.2.symm⟩)))
    have hB := below_drewN (below_alloc w (Obj.cells #[.int .i64 4, .int .i64 fr, .int .i64 to, .int .i64 vi, .int .i64 no, .int .i64 co, .int .i64 n, .slice A lo.length c] 41))
    have HB := Lib.hid hB
    clear hB
    go_wp2_with fail
    refine (stageCheck_x _ vi no false lo co _ B ((HV.out.alloc _).drewN _)).mono ?_; rintro e w1 ⟨rfl, h1⟩
    go_wp2
    go_ret
    exact ⟨ret_val (int_eq HF.out.symm), (HB.out _).trans (h1.mono (HB.out _).size)⟩
end Go.Proofs.Ytjbhkmadcjnbfaa
/- Walks: may a message be? The reference's; how a message that came in is opened; the law ReplicaMessages. -/
namespace Go.Proofs.Ytjbhkmadcjnbfaa
open Go.RowKit Go.ChangeShapes Go.WideShapes Go.ChangeAt
set_option maxHeartbeats 4000000
set_option maxRecDepth 100000
theorem messageFault_x (lv : Value) (ki fr to vi no co n : Int) (lo : List Scu.Str) (w : World) (B : Nat) (hv : IsStrs w B lv lo) :
    Calls Try.prog 40 #[.agg #[.int .i64 ki, .int .i64 fr, .int .i64 to, .int .i64 vi, .int .i64 no, .int .i64 co, .int .i64 n, lv]] w fun e w' =>
      e = .returned (.int .i64 (Scu.msgFault ⟨ki, fr, to, vi, no, co, n, lo⟩)) ∧ Below w.heap.size w w' := by
  have HV := Lib.hid hv
  obtain ⟨⟨A, c, rfl, _, hr⟩, hl, he⟩ := hv
  unfold R47 at hl
  clear hr he
  cases t1 : inB ki 1 4 with
  | false =>
    have U1 := Lib.hid t1
    clear t1
    have HF := Lib.hid (show Scu.msgFault ⟨ki, fr, to, vi, no, co, n, lo⟩ = 3 from msg_bad3 (by have := inB_no U1.out; omega))
    clear HV
    go_enter Try.func40, Try.ntmps40
    go_wp2_with (go_at_call 45; refine (inn_c _ _ _ _).mono ?_; rintro e w1 ⟨rfl, rfl⟩; first | rw [U1.out] | rw [U2.out] | rw [U3.out] | rw [U4.out] | rw [U5.out])
    go_ret
    exact ⟨ret_val (int_eq HF.out.symm), below_alloc w _⟩
  | true =>
  have U1 := Lib.hid t1
  have H1 := Lib.hid (show ¬ (ki < 1 ∨ 4 < ki) by have := inB_yes t1; omega)
  clear t1
  cases t2 : inB fr 0 2 with
  | false =>
    have U2 := Lib.hid t2
    clear t2
    have HF := Lib.hid (show Scu.msgFault ⟨ki, fr, to, vi, no, co, n, lo⟩ = 2 from msg_bad2 H1.out (by have := inB_no U2.out; unfold MC2; omega))
    clear HV
    go_enter Try.func40, Try.ntmps40
    go_wp2_with (go_at_call 45; refine (inn_c _ _ _ _).mono ?_; rintro e w1 ⟨rfl, rfl⟩; first | rw [U1.out] | rw [U2.out] | rw [U3.out] | rw [U4.out] | rw [U5.out])
    go_ret
    exact ⟨ret_val (int_eq HF.out.symm), below_alloc w _⟩
  | true =>
  have U2 := Lib.hid t2
  clear t2
  cases t3 : inB to 0 2 with
  | false =>
    have U3 := Lib.hid t3
    clear t3
    have HF := Lib.hid (show Scu.msgFault ⟨ki, fr, to, vi, no, co, n, lo⟩ = 2 from msg_bad2 H1.out (by have := inB_no U3.out; unfold MC2; omega))
    clear HV
    go_enter Try.func40, Try.ntmps40
    go_wp2_with (go_at_call 45; refine (inn_c _ _ _ _).mono ?_; rintro e w1 ⟨rfl, rfl⟩; first | rw [U1.out] | rw [U2.out] | rw [U3.out] | rw [U4.out] | rw [U5.out])
    go_ret
    exact ⟨ret_val (int_eq HF.out.symm), below_alloc w _⟩
  | true =>
  have U3 := Lib.hid t3
  clear t3
  cases t7 : (fr == to) with
  | true =>
    have HF := Lib.hid (show Scu.msgFault ⟨ki, fr, to, vi, no, co, n, lo⟩ = 2 from msg_bad2 H1.out (.inr (.inr (.inr (.inr (.inl (by simpa using t7)))))))
    clear HV
    go_enter Try.func40, Try.ntmps40
    go_wp2_with (go_at_call 45; refine (inn_c _ _ _ _).mono ?_; rintro e w1 ⟨rfl, rfl⟩; first | rw [U1.out] | rw [U2.out] | rw [U3.out] | rw [U4.out] | rw [U5.out])
    go_ret
    exact ⟨ret_val (int_eq HF.out.symm), below_alloc w _⟩
  | false =>
  cases t4 : inB vi 0 1048576 with
  | false =>
    have U4 := Lib.hid t4
    clear t4
    have HF := Lib.hid (show Scu.msgFault ⟨ki, fr, to, vi, no, co, n, lo⟩ = 2 from msg_bad2 H1.out (by have := inB_no U4.out; unfold MC2; omega))
    clear HV
    go_enter Try.func40, Try.ntmps40
    go_wp2_with (go_at_call 45; refine (inn_c _ _ _ _).mono ?_; rintro e w1 ⟨rfl, rfl⟩; first | rw [U1.out] | rw [U2.out] | rw [U3.out] | rw [U4.out] | rw [U5.out])
    go_ret
    exact ⟨ret_val (int_eq HF.out.symm), below_alloc w _⟩
  | true =>
  have U4 := Lib.hid t4
  clear t4
  cases t5 : inB n 0 60 with
  | false =>
    have U5 := Lib.hid t5
    clear t5
    have HF := Lib.hid (show Scu.msgFault ⟨ki, fr, to, vi, no, co, n, lo⟩ = 2 from msg_bad2 H1.out (by have := inB_no U5.out; unfold MC2; omega))
    clear HV
    go_enter Try.func40, Try.ntmps40
    go_wp2_with (go_at_call 45; refine (inn_c _ _ _ _).mono ?_; rintro e w1 ⟨rfl, rfl⟩; first | rw [U1.out] | rw [U2.out] | rw [U3.out] | rw [U4.out] | rw [U5.out])
    go_ret
    exact ⟨ret_val (int_eq HF.out.symm), below_alloc w _⟩
  | true =>
  have U5 := Lib.hid t5
  clear t5
  have H2 := Lib.hid (show ¬ MC2 fr to vi n by
    have := inB_yes U2.out
    have := inB_yes U3.out
    have := inB_yes U4.out
    have := inB_yes U5.out
    have h7 : fr ≠ to := by simpa using t7
    unfold MC2
    omega)
  have hvi : 0 ≤ vi := by have := inB_yes U4.out; omega
  have h4 : ki = 1 ∨ ki = 2 ∨ ki = 3 ∨ ki = 4 := by have := H1.out; omega
  rcases h4 with rfl | rfl | rfl | rfl
  · cases u1 : (no != 0) with
    | true =>
      have HF := Lib.hid (show Scu.msgFault ⟨1, fr, to, vi, no, co, n, lo⟩ = 4 from msg_bad4a H1.out H2.out (.inl ⟨by decide, by simpa using u1⟩))
      clear HV
      go_enter Try.func40, Try.ntmps40
      go_wp2_with (go_at_call 45; refine (inn_c _ _ _ _).mono ?_; rintro e w1 ⟨rfl, rfl⟩; first | rw [U1.out] | rw [U2.out] | rw [U3.out] | rw [U4.out] | rw [U5.out])
      go_ret
      exact ⟨ret_val (int_eq HF.out.symm), below_alloc w _⟩
    | false =>
    cases u2 : (n != 0) with
    | true =>
      have HF := Lib.hid (show Scu.msgFault ⟨1, fr, to, vi, no, co, n, lo⟩ = 4 from msg_bad4a H1.out H2.out (.inr (.inl ⟨by decide, by simpa using u2⟩)))
      clear HV
      go_enter Try.func40, Try.ntmps40
      go_wp2_with (go_at_call 45; refine (inn_c _ _ _ _).mono ?_; rintro e w1 ⟨rfl, rfl⟩; first | rw [U1.out] | rw [U2.out] | rw [U3.out] | rw [U4.out] | rw [U5.out])
      go_ret
      exact ⟨ret_val (int_eq HF.out.symm), below_alloc w _⟩
    | false =>
    have H3 := Lib.hid (show ¬ MC3 1 no co n lo by
      have : no = 0 := by simpa using u1
      have : n = 0 := by simpa using u2
      unfold MC3; simp; omega)
    cases u3 : (fr != vi % 3) with
    | true =>
      have HF := Lib.hid (show Scu.msgFault ⟨1, fr, to, vi, no, co, n, lo⟩ = 4 from msg_bad4b H1.out H2.out H3.out (.inl ⟨rfl, by simpa using u3⟩))
      clear HV
      go_enter Try.func40, Try.ntmps40
      go_wp2_with (go_at_call 45; refine (inn_c _ _ _ _).mono ?_; rintro e w1 ⟨rfl, rfl⟩; first | rw [U1.out] | rw [U2.out] | rw [U3.out] | rw [U4.out] | rw [U5.out])
      go_ret
      exact ⟨ret_val (int_eq HF.out.symm), below_alloc w _⟩
    | false =>
    have HF := Lib.hid (show Scu.msgFault ⟨1, fr, to, vi, no, co, n, lo⟩ = Scu.keptFault ⟨vi, no, false, lo, co⟩ from msg_ok H1.out H2.out H3.out (by have h : fr = vi % 3 := by { simpa using u3 }; unfold MC4; omega))
    go_enter Try.func40, Try.ntmps40
    go_wp2_with (go_at_call 45; refine (inn_c _ _ _ _).mono ?_; rintro e w1 ⟨rfl, rfl⟩; first | rw [U1.out] | rw [U2.out] | rw [U3.out] | rw [U4.out] | rw [U5.out])
    refine (keptFault_x _ vi no false lo co _ B (HV.out.alloc _)).mono ?_; rintro e w1 ⟨rfl, h1⟩
    go_wp2
    go_ret
    exact ⟨ret_val (int_eq HF.out.symm), below_box h1⟩
  · cases u1 : (no != 0) with
    | true =>
      have HF := Lib.hid (show Scu.msgFault ⟨2, fr, to, vi, no, co, n, lo⟩ = 4 from msg_bad4a H1.out H2.out (.inl ⟨by decide, by simpa using u1⟩))
      clear HV
      go_enter Try.func40, Try.ntmps40
      go_wp2_with (go_at_call 45; refine (inn_c _ _ _ _).mono ?_; rintro e w1 ⟨rfl, rfl⟩; first | rw [U1.out] | rw [U2.out] | rw [U3.out] | rw [U4.out] | rw [U5.out])
      go_ret
      exact ⟨ret_val (int_eq HF.out.symm), below_alloc w _⟩
    | false =>
    cases u2 : (co != 0) with
    | true =>
      have HF := Lib.hid (show Scu.msgFault ⟨2, fr, to, vi, no, co, n, lo⟩ = 4 from msg_bad4a H1.out H2.out (.inr (.inr ⟨.inl rfl, .inl (by simpa using u2)⟩)))
      clear HV
      go_enter Try.func40, Try.ntmps40
      go_wp2_with (go_at_call 45; refine (inn_c _ _ _ _).mono ?_; rintro e w1 ⟨rfl, rfl⟩; first | rw [U1.out] | rw [U2.out] | rw [U3.out] | rw [U4.out] | rw [U5.out])
      go_ret
      exact ⟨ret_val (int_eq HF.out.symm), below_alloc w _⟩
    | false =>
    cases u4 : ((lo.length : Int) != 0) with
    | true =>
      have HF := Lib.hid (show Scu.msgFault ⟨2, fr, to, vi, no, co, n, lo⟩ = 4 from msg_bad4a H1.out H2.out (.inr (.inr ⟨.inl rfl, .inr (by rintro rfl; simp at u4)⟩)))
      clear HV
      go_enter Try.func40, Try.ntmps40
      go_wp2_with (go_at_call 45; refine (inn_c _ _ _ _).mono ?_; rintro e w1 ⟨rfl, rfl⟩; first | rw [U1.out] | rw [U2.out] | rw [U3.out] | rw [U4.out] | rw [U5.out])
      go_ret
      exact ⟨ret_val (int_eq HF.out.symm), below_alloc w _⟩
    | false =>
    have H3 := Lib.hid (show ¬ MC3 2 no co n lo by
      have : no = 0 := by simpa using u1
      have : co = 0 := by simpa using u2
      have h5 : lo = [] := by simpa using u4
      unfold MC3; simp [h5]; omega)
    cases u3 : (to != vi % 3) with
    | true =>
      have HF := Lib.hid (show Scu.msgFault ⟨2, fr, to, vi, no, co, n, lo⟩ = 4 from msg_bad4b H1.out H2.out H3.out (.inr ⟨.inl rfl, by simpa using u3⟩))
      clear HV
      go_enter Try.func40, Try.ntmps40
      go_wp2_with (go_at_call 45; refine (inn_c _ _ _ _).mono ?_; rintro e w1 ⟨rfl, rfl⟩; first | rw [U1.out] | rw [U2.out] | rw [U3.out] | rw [U4.out] | rw [U5.out])
      go_ret
      exact ⟨ret_val (int_eq HF.out.symm), below_alloc w _⟩
    | false =>
    have HF := Lib.hid (show Scu.msgFault ⟨2, fr, to, vi, no, co, n, lo⟩ = Scu.keptFault ⟨vi, no, false, lo, co⟩ from msg_ok H1.out H2.out H3.out (by have h : to = vi % 3 := by { simpa using u3 }; unfold MC4; omega))
    go_enter Try.func40, Try.ntmps40
    go_wp2_with (go_at_call 45; refine (inn_c _ _ _ _).mono ?_; rintro e w1 ⟨rfl, rfl⟩; first | rw [U1.out] | rw [U2.out] | rw [U3.out] | rw [U4.out] | rw [U5.out])
    refine (keptFault_x _ vi no false lo co _ B (HV.out.alloc _)).mono ?_; rintro e w1 ⟨rfl, h1⟩
    go_wp2
    go_ret
    exact ⟨ret_val (int_eq HF.out.symm), below_box h1⟩
  · cases u1 : (no != 0) with
    | true =>
      have HF := Lib.hid (show Scu.msgFault ⟨3, fr, to, vi, no, co, n, lo⟩ = 4 from msg_bad4a H1.out H2.out (.inl ⟨by decide, by simpa using u1⟩))
      clear HV
      go_enter Try.func40, Try.ntmps40
      go_wp2_with (go_at_call 45; refine (inn_c _ _ _ _).mono ?_; rintro e w1 ⟨rfl, rfl⟩; first | rw [U1.out] | rw [U2.out] | rw [U3.out] | rw [U4.out] | rw [U5.out])
      go_ret
      exact ⟨ret_val (int_eq HF.out.symm), below_alloc w _⟩
    | false =>
    cases u5 : (n != 0) with
    | true =>
      have HF := Lib.hid (show Scu.msgFault ⟨3, fr, to, vi, no, co, n, lo⟩ = 4 from msg_bad4a H1.out H2.out (.inr (.inl ⟨by decide, by simpa using u5⟩)))
      clear HV
      go_enter Try.func40, Try.ntmps40
      go_wp2_with (go_at_call 45; refine (inn_c _ _ _ _).mono ?_; rintro e w1 ⟨rfl, rfl⟩; first | rw [U1.out] | rw [U2.out] | rw [U3.out] | rw [U4.out] | rw [U5.out])
      go_ret
      exact ⟨ret_val (int_eq HF.out.symm), below_alloc w _⟩
    | false =>
    cases u2 : (co != 0) with
    | true =>
      have HF := Lib.hid (show Scu.msgFault ⟨3, fr, to, vi, no, co, n, lo⟩ = 4 from msg_bad4a H1.out H2.out (.inr (.inr ⟨.inr rfl, .inl (by simpa using u2)⟩)))
      clear HV
      go_enter Try.func40, Try.ntmps40
      go_wp2_with (go_at_call 45; refine (inn_c _ _ _ _).mono ?_; rintro e w1 ⟨rfl, rfl⟩; first | rw [U1.out] | rw [U2.out] | rw [U3.out] | rw [U4.out] | rw [U5.out])
      go_ret
      exact ⟨ret_val (int_eq HF.out.symm), below_alloc w _⟩
    | false =>
    cases u4 : ((lo.length : Int) != 0) with
    | true =>
      have HF := Lib.hid (show Scu.msgFault ⟨3, fr, to, vi, no, co, n, lo⟩ = 4 from msg_bad4a H1.out H2.out (.inr (.inr ⟨.inr rfl, .inr (by rintro rfl; simp at u4)⟩)))
      clear HV
      go_enter Try.func40, Try.ntmps40
      go_wp2_with (go_at_call 45; refine (inn_c _ _ _ _).mono ?_; rintro e w1 ⟨rfl, rfl⟩; first | rw [U1.out] | rw [U2.out] | rw [U3.out] | rw [U4.out] | rw [U5.out])
      go_ret
      exact ⟨ret_val (int_eq HF.out.symm), below_alloc w _⟩
    | false =>
    have H3 := Lib.hid (show ¬ MC3 3 no co n lo by
      have : no = 0 := by simpa using u1
      have : co = 0 := by simpa using u2
      have : n = 0 := by simpa using u5
      have h5 : lo = [] := by simpa using u4
      unfold MC3; simp [h5]; omega)
    have HF := Lib.hid (show Scu.msgFault ⟨3, fr, to, vi, no, co, n, lo⟩ = Scu.keptFault ⟨vi, no, false, lo, co⟩ from msg_ok H1.out H2.out H3.out (by unfold MC4; omega))
    go_enter Try.func40, Try.ntmps40
    go_wp2_with (go_at_call 45; refine (inn_c _ _ _ _).mono ?_; rintro e w1 ⟨rfl, rfl⟩; first | rw [U1.out] | rw [U2.out] | rw [U3.out] | rw [U4.out] | rw [U5.out])
    refine (keptFault_x _ vi no false lo co _ B (HV.out.alloc _)).mono ?_; rintro e w1 ⟨rfl, h1⟩
    go_wp2
    go_ret
    exact ⟨ret_val (int_eq HF.out.symm), below_box h1⟩
  · cases u2 : (n != 0) with
    | true =>
      have HF := Lib.hid (show Scu.msgFault ⟨4, fr, to, vi, no, co, n, lo⟩ = 4 from msg_bad4a H1.out H2.out (.inr (.inl ⟨by decide, by simpa using u2⟩)))
      clear HV
      go_enter Try.func40, Try.ntmps40
      go_wp2_with (go_at_call 45; refine (inn_c _ _ _ _).mono ?_; rintro e w1 ⟨rfl, rfl⟩; first | rw [U1.out] | rw [U2.out] | rw [U3.out] | rw [U4.out] | rw [U5.out])
      go_ret
      exact ⟨ret_val (int_eq HF.out.symm), below_alloc w _⟩
    | false =>
    have H3 := Lib.hid (show ¬ MC3 4 no co n lo by
      have : n = 0 := by simpa using u2
      unfold MC3; simp; omega)
    cases u3 : (to != vi % 3) with
    | true =>
      have HF := Lib.hid (show Scu.msgFault ⟨4, fr, to, vi, no, co, n, lo⟩ = 4 from msg_bad4b H1.out H2.out H3.out (.inr ⟨.inr rfl, by simpa using u3⟩))
      clear HV
      go_enter Try.func40, Try.ntmps40
      go_wp2_with (go_at_call 45; refine (inn_c _ _ _ _).mono ?_; rintro e w1 ⟨rfl, rfl⟩; first | rw [U1.out] | rw [U2.out] | rw [U3.out] | rw [U4.out] | rw [U5.out])
      go_ret
      exact ⟨ret_val (int_eq HF.out.symm), below_alloc w _⟩
    | false =>
    have HF := Lib.hid (show Scu.msgFault ⟨4, fr, to, vi, no, co, n, lo⟩ = Scu.keptFault ⟨vi, no, false, lo, co⟩ from msg_ok H1.out H2.out H3.out (by have h : to = vi % 3 := by { simpa using u3 }; unfold MC4; omega))
    go_enter Try.func40, Try.ntmps40
    go_wp2_with (go_at_call 45; refine (inn_c _ _ _ _).mono ?_; rintro e w1 ⟨rfl, rfl⟩; first | rw [U1.out] | rw [U2.out] | rw [U3.out] | rw [U4.out] | rw [U5.out])
    refine (keptFault_x _ vi no false lo co _ B (HV.out.alloc _)).mono ?_; rintro e w1 ⟨rfl, h1⟩
    go_wp2
    go_ret
    exact ⟨ret_val (int_eq HF.out.symm), below_box h1⟩

/- messages -/
def MsgEl (w : World) (B : Nat) (cs : List Value) (m : Scu.Message) : Prop := ∃ lv, cs = [.int .i64 m.kind, .int .i64 m.from_, .int .i64 m.to, .int .i64 m.view, .int .i64 m.normal, .int .i64 m.commit, .int .i64 m.n, lv] ∧ IsStrs w B lv m.log
theorem cells_message : Try.prog.cellsOf 41 = 8 := by kernel_rfl
theorem bytes_message : Try.prog.bytesOf 41 = 80 := by kernel_rfl
section
variable {H : Type} {enc : TypeId × Value → H} {w : World} {base : Nat} {spare : Nat → Bool} {held : Bool} {n : Nat}
theorem trod_message {cs : List Value} {x : DataW H × List MemPlace} (h : DataW.trod enc Try.prog w base spare held n 41 cs = some x) (hw : ∀ k ∈ x.1.weights Try.prog 41, k ≤ reachBytes) : ∃ m, MsgEl w w.heap.size cs m := by
  obtain ⟨xs, m, _, hxe, hl, hxl, hf⟩ := DataW.trod_struct Try.underlying41 h
  rw [cells_message] at hl
  match cs, hl with
  | [c0, c1, c2, c3, c4, c5, c6, c7], _ =>
    have hxl8 : xs.length = 8 := hxl
    match xs, hxl8 with
    | [z0, z1, z2, z3, z4, z5, z6, z7], _ =>
      subst hxe
      have hwt : ∀ k ∈ DataW.weights Try.prog 41 (DataW.agg [z0.1, z1.1, z2.1, z3.1, z4.1, z5.1, z6.1, z7.1]), k ≤ reachBytes := hw
      simp only [DataW.weights, Try.underlying41, DataW.weightsEach, List.map_cons, List.map_nil, List.mem_append] at hwt
      obtain ⟨n0, h0, _⟩ := DataW.trod_int Try.underlying3 (hf 0 _ rfl)
      obtain ⟨n1, h1, _⟩ := DataW.trod_int Try.underlying3 (hf 1 _ rfl)
      obtain ⟨n2, h2, _⟩ := DataW.trod_int Try.underlying3 (hf 2 _ rfl)
      obtain ⟨n3, h3, _⟩ := DataW.trod_int Try.underlying3 (hf 3 _ rfl)
      obtain ⟨n4, h4, _⟩ := DataW.trod_int Try.underlying3 (hf 4 _ rfl)
      obtain ⟨n5, h5, _⟩ := DataW.trod_int Try.underlying3 (hf 5 _ rfl)
      obtain ⟨n6, h6, _⟩ := DataW.trod_int Try.underlying3 (hf 6 _ rfl)
      have h7 := hf 7 _ rfl
      simp [cells_int, cells_strs] at h0 h1 h2 h3 h4 h5 h6 h7
      subst h0 h1 h2 h3 h4 h5 h6
      obtain ⟨ls, h7'⟩ := trod_strs h7 (fun k hk => hwt k (.inr (.inr (.inr (.inr (.inr (.inr (.inr (.inl hk)))))))))
      exact ⟨⟨n0, n1, n2, n3, n4, n5, n6, ls⟩, c7, rfl, h7'⟩
def IsMsgV (w : World) (v : Value) (m : Scu.Message) : Prop := ∃ lv, v = .agg #[.int .i64 m.kind, .int .i64 m.from_, .int .i64 m.to, .int .i64 m.view, .int .i64 m.normal, .int .i64 m.commit, .int .i64 m.n, lv] ∧ IsStrs w w.heap.size lv m.log
theorem openS_Message {v : Value} {d : DataW H} {p : List MemPlace} {b0 : Nat} (hv : Value.okWide Try.prog w .any b0 41 v) (h : DataW.Trod enc Try.prog w base spare held 41 v d p)
    (hw : ∀ k ∈ d.weights Try.prog 41, k ≤ reachBytes) : ∃ y, IsMsgV w v y := by
  obtain ⟨cs, rfl, _⟩ := okWide_struct Try.underlying41 hv
  obtain ⟨fuel, hf⟩ := h
  obtain ⟨m, lv, e, hy⟩ := trod_message hf hw
  refine ⟨m, lv, ?_, hy⟩
  have : cs = #[.int .i64 m.kind, .int .i64 m.from_, .int .i64 m.to, .int .i64 m.view, .int .i64 m.normal, .int .i64 m.commit, .int .i64 m.n, lv] := by
    apply Array.toList_inj.1
    simpa [Value.cells] using e
  rw [this]
end
end Go.Proofs.Ytjbhkmadcjnbfaa

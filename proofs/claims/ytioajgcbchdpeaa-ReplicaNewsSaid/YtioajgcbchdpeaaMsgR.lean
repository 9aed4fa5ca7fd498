/- Walks: may a message be? The reference's; how a message that came in is opened; the law ReplicaMessages. -/
import Derived.Test.YtioajgcbchdpeaaMsg
namespace Go.Proofs.Ytioajgcbchdpeaa
open Go.RowKit Go.ChangeShapes Go.WideShapes Go.ChangeAt
set_option maxHeartbeats 4000000
set_option maxRecDepth 100000
theorem messageFault_x (lv : Value) (ki fr to vi no co n : Int) (lo : List Scu.Str) (w : World) (B : Nat) (hv : IsStrs w B lv lo) :
    Calls Try.prog 101 #[.agg #[.int .i64 ki, .int .i64 fr, .int .i64 to, .int .i64 vi, .int .i64 no, .int .i64 co, .int .i64 n, lv]] w fun e w' =>
      e = .returned (.int .i64 (Scu.msgFault ⟨ki, fr, to, vi, no, co, n, lo⟩)) ∧ Below w.heap.size w w' := by
  have HV := Lib.hid hv
  obtain ⟨⟨A, c, rfl, _, hr⟩, hl, he⟩ := hv
  unfold R47 at hl
  clear hr he
  cases t1 : inB ki 1 4 with
  | false =>
    have U1 := Lib.hid t1
    clear t1
    have HF := Lib.hid (show Scu.msgFault ⟨ki, fr, to, vi, no, co, n, lo⟩ = 3 from msg_bad3 (by have := inB_no U1.out; omega))
    clear HV
    go_enter Try.func101, Try.ntmps101
    go_wp2_with (go_at_call 63; refine (inn_c _ _ _ _).mono ?_; rintro e w1 ⟨rfl, rfl⟩; first | rw [U1.out] | rw [U2.out] | rw [U3.out] | rw [U4.out] | rw [U5.out])
    go_ret
    exact ⟨ret_val (int_eq HF.out.symm), below_alloc w _⟩
  | true =>
  have U1 := Lib.hid t1
  have H1 := Lib.hid (show ¬ (ki < 1 ∨ 4 < ki) by have := inB_yes t1; omega)
  clear t1
  cases t2 : inB fr 0 2 with
  | false =>
    have U2 := Lib.hid t2
    clear t2
    have HF := Lib.hid (show Scu.msgFault ⟨ki, fr, to, vi, no, co, n, lo⟩ = 2 from msg_bad2 H1.out (by have := inB_no U2.out; unfold MC2; omega))
    clear HV
    go_enter Try.func101, Try.ntmps101
    go_wp2_with (go_at_call 63; refine (inn_c _ _ _ _).mono ?_; rintro e w1 ⟨rfl, rfl⟩; first | rw [U1.out] | rw [U2.out] | rw [U3.out] | rw [U4.out] | rw [U5.out])
    go_ret
    exact ⟨ret_val (int_eq HF.out.symm), below_alloc w _⟩
  | true =>
  have U2 := Lib.hid t2
  clear t2
  cases t3 : inB to 0 2 with
  | false =>
    have U3 := Lib.hid t3
    clear t3
    have HF := Lib.hid (show Scu.msgFault ⟨ki, fr, to, vi, no, co, n, lo⟩ = 2 from msg_bad2 H1.out (by have := inB_no U3.out; unfold MC2; omega))
    clear HV
    go_enter Try.func101, Try.ntmps101
    go_wp2_with (go_at_call 63; refine (inn_c _ _ _ _).mono ?_; rintro e w1 ⟨rfl, rfl⟩; first | rw [U1.out] | rw [U2.out] | rw [U3.out] | rw [U4.out] | rw [U5.out])
    go_ret
    exact ⟨ret_val (int_eq HF.out.symm), below_alloc w _⟩
  | true =>
  have U3 := Lib.hid t3
  clear t3
  cases t7 : (fr == to) with
  | true =>
    have HF := Lib.hid (show Scu.msgFault ⟨ki, fr, to, vi, no, co, n, lo⟩ = 2 from msg_bad2 H1.out (.inr (.inr (.inr (.inr (.inl (by simpa using t7)))))))
    clear HV
    go_enter Try.func101, Try.ntmps101
    go_wp2_with (go_at_call 63; refine (inn_c _ _ _ _).mono ?_; rintro e w1 ⟨rfl, rfl⟩; first | rw [U1.out] | rw [U2.out] | rw [U3.out] | rw [U4.out] | rw [U5.out])
    go_ret
    exact ⟨ret_val (int_eq HF.out.symm), below_alloc w _⟩
  | false =>
  cases t4 : inB vi 0 1048576 with
  | false =>
    have U4 := Lib.hid t4
    clear t4
    have HF := Lib.hid (show Scu.msgFault ⟨ki, fr, to, vi, no, co, n, lo⟩ = 2 from msg_bad2 H1.out (by have := inB_no U4.out; unfold MC2; omega))
    clear HV
    go_enter Try.func101, Try.ntmps101
    go_wp2_with (go_at_call 63; refine (inn_c _ _ _ _).mono ?_; rintro e w1 ⟨rfl, rfl⟩; first | rw [U1.out] | rw [U2.out] | rw [U3.out] | rw [U4.out] | rw [U5.out])
    go_ret
    exact ⟨ret_val (int_eq HF.out.symm), below_alloc w _⟩
  | true =>
  have U4 := Lib.hid t4
  clear t4
  cases t5 : inB n 0 60 with
  | false =>
    have U5 := Lib.hid t5
    clear t5
    have HF := Lib.hid (show Scu.msgFault ⟨ki, fr, to, vi, no, co, n, lo⟩ = 2 from msg_bad2 H1.out (by have := inB_no U5.out; unfold MC2; omega))
    clear HV
    go_enter Try.func101, Try.ntmps101
    go_wp2_with (go_at_call 63; refine (inn_c _ _ _ _).mono ?_; rintro e w1 ⟨rfl, rfl⟩; first | rw [U1.out] | rw [U2.out] | rw [U3.out] | rw [U4.out] | rw [U5.out])
    go_ret
    exact ⟨ret_val (int_eq HF.out.symm), below_alloc w _⟩
  | true =>
  have U5 := Lib.hid t5
  clear t5
  have H2 := Lib.hid (show ¬ MC2 fr to vi n by
    have := inB_yes U2.out
    have := inB_yes U3.out
    have := inB_yes U4.out
    have := inB_yes U5.out
    have h7 : fr ≠ to := by simpa using t7
    unfold MC2
    omega)
  have hvi : 0 ≤ vi := by have := inB_yes U4.out; omega
  have h4 : ki = 1 ∨ ki = 2 ∨ ki = 3 ∨ ki = 4 := by have := H1.out; omega
  rcases h4 with rfl | rfl | rfl | rfl
  · cases u1 : (no != 0) with
    | true =>
      have HF := Lib.hid (show Scu.msgFault ⟨1, fr, to, vi, no, co, n, lo⟩ = 4 from msg_bad4a H1.out H2.out (.inl ⟨by decide, by simpa using u1⟩))
      clear HV
      go_enter Try.func101, Try.ntmps101
      go_wp2_with (go_at_call 63; refine (inn_c _ _ _ _).mono ?_; rintro e w1 ⟨rfl, rfl⟩; first | rw [U1.out] | rw [U2.out] | rw [U3.out] | rw [U4.out] | rw [U5.out])
      go_ret
      exact ⟨ret_val (int_eq HF.out.symm), below_alloc w _⟩
    | false =>
    cases u2 : (n != 0) with
    | true =>
      have HF := Lib.hid (show Scu.msgFault ⟨1, fr, to, vi, no, co, n, lo⟩ = 4 from msg_bad4a H1.out H2.out (.inr (.inl ⟨by decide, by simpa using u2⟩)))
      clear HV
      go_enter Try.func101, Try.ntmps101
      go_wp2_with (go_at_call 63; refine (inn_c _ _ _ _).mono ?_; rintro e w1 ⟨rfl, rfl⟩; first | rw [U1.out] | rw [U2.out] | rw [U3.out] | rw [U4.out] | rw [U5.out])
      go_ret
      exact ⟨ret_val (int_eq HF.out.symm), below_alloc w _⟩
    | false =>
    have H3 := Lib.hid (show ¬ MC3 1 no co n lo by
      have : no = 0 := by simpa using u1
      have : n = 0 := by simpa using u2
      unfold MC3; simp; omega)
    cases u3 : (fr != vi % 3) with
    | true =>
      have HF := Lib.hid (show Scu.msgFault ⟨1, fr, to, vi, no, co, n, lo⟩ = 4 from msg_bad4b H1.out H2.out H3.out (.inl ⟨rfl, by simpa using u3⟩))
      clear HV
      go_enter Try.func101, Try.ntmps101
      go_wp2_with (go_at_call 63; refine (inn_c _ _ _ _).mono ?_; rintro e w1 ⟨rfl, rfl⟩; first | rw [U1.out] | rw [U2.out] | rw [U3.out] | rw [U4.out] | rw [U5.out])
      go_ret
      exact ⟨ret_val (int_eq HF.out.symm), below_alloc w _⟩
    | false =>
    have HF := Lib.hid (show Scu.msgFault ⟨1, fr, to, vi, no, co, n, lo⟩ = Scu.keptFault ⟨vi, no, false, lo, co⟩ from msg_ok H1.out H2.out H3.out (by have h : fr = vi % 3 := by { simpa using u3 }; unfold MC4; omega))
    go_enter Try.func101, Try.ntmps101
    go_wp2_with (go_at_call 63; refine (inn_c _ _ _ _).mono ?_; rintro e w1 ⟨rfl, rfl⟩; first | rw [U1.out] | rw [U2.out] | rw [U3.out] | rw [U4.out] | rw [U5.out])
    refine (keptFault_x _ vi no false lo co _ B (HV.out.alloc _)).mono ?_; rintro e w1 ⟨rfl, h1⟩
    go_wp2
    go_ret
    exact ⟨ret_val (int_eq HF.out.symm), below_box h1⟩
  · cases u1 : (no != 0) with
    | true =>
      have HF := Lib.hid (show Scu.msgFault ⟨2, fr, to, vi, no, co, n, lo⟩ = 4 from msg_bad4a H1.out H2.out (.inl ⟨by decide, by simpa using u1⟩))
      clear HV
      go_enter Try.func101, Try.ntmps101
      go_wp2_with (go_at_call 63; refine (inn_c _ _ _ _).mono ?_; rintro e w1 ⟨rfl, rfl⟩; first | rw [U1.out] | rw [U2.out] | rw [U3.out] | rw [U4.out] | rw [U5.out])
      go_ret
      exact ⟨ret_val (int_eq HF.out.symm), below_alloc w _⟩
    | false =>
    cases u2 : (co != 0) with
    | true =>
      have HF := Lib.hid (show Scu.msgFault ⟨2, fr, to, vi, no, co, n, lo⟩ = 4 from msg_bad4a H1.out H2.out (.inr (.inr ⟨.inl rfl, .inl (by simpa using u2)⟩)))
      clear HV
      go_enter Try.func101, Try.ntmps101
      go_wp2_with (go_at_call 63; refine (inn_c _ _ _ _).mono ?_; rintro e w1 ⟨rfl, rfl⟩; first | rw [U1.out] | rw [U2.out] | rw [U3.out] | rw [U4.out] | rw [U5.out])
      go_ret
      exact ⟨ret_val (int_eq HF.out.symm), below_alloc w _⟩
    | false =>
    cases u4 : ((lo.length : Int) != 0) with
    | true =>
      have HF := Lib.hid (show Scu.msgFault ⟨2, fr, to, vi, no, co, n, lo⟩ = 4 from msg_bad4a H1.out H2.out (.inr (.inr ⟨.inl rfl, .inr (by rintro rfl; simp at u4)⟩)))
      clear HV
      go_enter Try.func101, Try.ntmps101
      go_wp2_with (go_at_call 63; refine (inn_c _ _ _ _).mono ?_; rintro e w1 ⟨rfl, rfl⟩; first | rw [U1.out] | rw [U2.out] | rw [U3.out] | rw [U4.out] | rw [U5.out])
      go_ret
      exact ⟨ret_val (int_eq HF.out.symm), below_alloc w _⟩
    | false =>
    have H3 := Lib.hid (show ¬ MC3 2 no co n lo by
      have : no = 0 := by simpa using u1
      have : co = 0 := by simpa using u2
      have h5 : lo = [] := by simpa using u4
      unfold MC3; simp [h5]; omega)
    cases u3 : (to != vi % 3) with
    | true =>
      have HF := Lib.hid (show Scu.msgFault ⟨2, fr, to, vi, no, co, n, lo⟩ = 4 from msg_bad4b H1.out H2.out H3.out (.inr ⟨.inl rfl, by simpa using u3⟩))
      clear HV
      go_enter Try.func101, Try.ntmps101
      go_wp2_with (go_at_call 63; refine (inn_c _ _ _ _).mono ?_; rintro e w1 ⟨rfl, rfl⟩; first | rw [U1.out] | rw [U2.out] | rw [U3.out] | rw [U4.out] | rw [U5.out])
      go_ret
      exact ⟨ret_val (int_eq HF.out.symm), below_alloc w _⟩
    | false =>
    have HF := Lib.hid (show Scu.msgFault ⟨2, fr, to, vi, no, co, n, lo⟩ = Scu.keptFault ⟨vi, no, false, lo, co⟩ from msg_ok H1.out H2.out H3.out (by have h : to = vi % 3 := by { simpa using u3 }; unfold MC4; omega))
    go_enter Try.func101, Try.ntmps101
    go_wp2_with (go_at_call 63; refine (inn_c _ _ _ _).mono ?_; rintro e w1 ⟨rfl, rfl⟩; first | rw [U1.out] | rw [U2.out] | rw [U3.out] | rw [U4.out] | rw [U5.out])
    refine (keptFault_x _ vi no false lo co _ B (HV.out.alloc _)).mono ?_; rintro e w1 ⟨rfl, h1⟩
    go_wp2
    go_ret
    exact ⟨ret_val (int_eq HF.out.symm), below_box h1⟩
  · cases u1 : (no != 0) with
    | true =>
      have HF := Lib.hid (show Scu.msgFault ⟨3, fr, to, vi, no, co, n, lo⟩ = 4 from msg_bad4a H1.out H2.out (.inl ⟨by decide, by simpa using u1⟩))
      clear HV
      go_enter Try.func101, Try.ntmps101
      go_wp2_with (go_at_call 63; refine (inn_c _ _ _ _).mono ?_; rintro e w1 ⟨rfl, rfl⟩; first | rw [U1.out] | rw [U2.out] | rw [U3.out] | rw [U4.out] | rw [U5.out])
      go_ret
      exact ⟨ret_val (int_eq HF.out.symm), below_alloc w _⟩
    | false =>
    cases u5 : (n != 0) with
    | true =>
      have HF := Lib.hid (show Scu.msgFault ⟨3, fr, to, vi, no, co, n, lo⟩ = 4 from msg_bad4a H1.out H2.out (.inr (.inl ⟨by decide, by simpa using u5⟩)))
      clear HV
      go_enter Try.func101, Try.ntmps101
      go_wp2_with (go_at_call 63; refine (inn_c _ _ _ _).mono ?_; rintro e w1 ⟨rfl, rfl⟩; first | rw [U1.out] | rw [U2.out] | rw [U3.out] | rw [U4.out] | rw [U5.out])
      go_ret
      exact ⟨ret_val (int_eq HF.out.symm), below_alloc w _⟩
    | false =>
    cases u2 : (co != 0) with
    | true =>
      have HF := Lib.hid (show Scu.msgFault ⟨3, fr, to, vi, no, co, n, lo⟩ = 4 from msg_bad4a H1.out H2.out (.inr (.inr ⟨.inr rfl, .inl (by simpa using u2)⟩)))
      clear HV
      go_enter Try.func101, Try.ntmps101
      go_wp2_with (go_at_call 63; refine (inn_c _ _ _ _).mono ?_; rintro e w1 ⟨rfl, rfl⟩; first | rw [U1.out] | rw [U2.out] | rw [U3.out] | rw [U4.out] | rw [U5.out])
      go_ret
      exact ⟨ret_val (int_eq HF.out.symm), below_alloc w _⟩
    | false =>
    cases u4 : ((lo.length : Int) != 0) with
    | true =>
      have HF := Lib.hid (show Scu.msgFault ⟨3, fr, to, vi, no, co, n, lo⟩ = 4 from msg_bad4a H1.out H2.out (.inr (.inr ⟨.inr rfl, .inr (by rintro rfl; simp at u4)⟩)))
      clear HV
      go_enter Try.func101, Try.ntmps101
      go_wp2_with (go_at_call 63; refine (inn_c _ _ _ _).mono ?_; rintro e w1 ⟨rfl, rfl⟩; first | rw [U1.out] | rw [U2.out] | rw [U3.out] | rw [U4.out] | rw [U5.out])
      go_ret
      exact ⟨ret_val (int_eq HF.out.symm), below_alloc w _⟩
    | false =>
    have H3 := Lib.hid (show ¬ MC3 3 no co n lo by
      have : no = 0 := by simpa using u1
      have : co = 0 := by simpa using u2
      have : n = 0 := by simpa using u5
      have h5 : lo = [] := by simpa using u4
      unfold MC3; simp [h5]; omega)
    have HF := Lib.hid (show Scu.msgFault ⟨3, fr, to, vi, no, co, n, lo⟩ = Scu.keptFault ⟨vi, no, false, lo, co⟩ from msg_ok H1.out H2.out H3.out (by unfold MC4; omega))
    go_enter Try.func101, Try.ntmps101
    go_wp2_with (go_at_call 63; refine (inn_c _ _ _ _).mono ?_; rintro e w1 ⟨rfl, rfl⟩; first | rw [U1.out] | rw [U2.out] | rw [U3.out] | rw [U4.out] | rw [U5.out])
    refine (keptFault_x _ vi no false lo co _ B (HV.out.alloc _)).mono ?_; rintro e w1 ⟨rfl, h1⟩
    go_wp2
    go_ret
    exact ⟨ret_val (int_eq HF.out.symm), below_box h1⟩
  · cases u2 : (n != 0) with
    | true =>
      have HF := Lib.hid (show Scu.msgFault ⟨4, fr, to, vi, no, co, n, lo⟩ = 4 from msg_bad4a H1.out H2.out (.inr (.inl ⟨by decide, by simpa using u2⟩)))
      clear HV
      go_enter Try.func101, Try.ntmps101
      go_wp2_with (go_at_call 63; refine (inn_c _ _ _ _).mono ?_; rintro e w1 ⟨rfl, rfl⟩; first | rw [U1.out] | rw [U2.out] | rw [U3.out] | rw [U4.out] | rw [U5.out])
      go_ret
      exact ⟨ret_val (int_eq HF.out.symm), below_alloc w _⟩
    | false =>
    have H3 := Lib.hid (show ¬ MC3 4 no co n lo by
      have : n = 0 := by simpa using u2
      unfold MC3; simp; omega)
    cases u3 : (to != vi % 3) with
    | true =>
      have HF := Lib.hid (show Scu.msgFault ⟨4, fr, to, vi, no, co, n, lo⟩ = 4 from msg_bad4b H1.out H2.out H3.out (.inr ⟨.inr rfl, by simpa using u3⟩))
      clear HV
      go_enter Try.func101, Try.ntmps101
      go_wp2_with (go_at_call 63; refine (inn_c _ _ _ _).mono ?_; rintro e w1 ⟨rfl, rfl⟩; first | rw [U1.out] | rw [U2.out] | rw [U3.out] | rw [U4.out] | rw [U5.out])
      go_ret
      exact ⟨ret_val (int_eq HF.out.symm), below_alloc w _⟩
    | false =>
    have HF := Lib.hid (show Scu.msgFault ⟨4, fr, to, vi, no, co, n, lo⟩ = Scu.keptFault ⟨vi, no, false, lo, co⟩ from msg_ok H1.out H2.out H3.out (by have h : to = vi % 3 := by { simpa using u3 }; unfold MC4; omega))
    go_enter Try.func101, Try.ntmps101
    go_wp2_with (go_at_call 63; refine (inn_c _ _ _ _).mono ?_; rintro e w1 ⟨rfl, rfl⟩; first | rw [U1.out] | rw [U2.out] | rw [U3.out] | rw [U4.out] | rw [U5.out])
    refine (keptFault_x _ vi no false lo co _ B (HV.out.alloc _)).mono ?_; rintro e w1 ⟨rfl, h1⟩
    go_wp2
    go_ret
    exact ⟨ret_val (int_eq HF.out.symm), below_box h1⟩

/- messages -/
def MsgEl (w : World) (B : Nat) (cs : List Value) (m : Scu.Message) : Prop := ∃ lv, cs = [.int .i64 m.kind, .int .i64 m.from_, .int .i64 m.to, .int .i64 m.view, .int .i64 m.normal, .int .i64 m.commit, .int .i64 m.n, lv] ∧ IsStrs w B lv m.log
theorem cells_message : Try.prog.cellsOf 81 = 8 := by kernel_rfl
theorem bytes_message : Try.prog.bytesOf 81 = 80 := by kernel_rfl
section
variable {H : Type} {enc : TypeId × Value → H} {w : World} {base : Nat} {spare : Nat → Bool} {held : Bool} {n : Nat}
theorem trod_message {cs : List Value} {x : DataW H × List MemPlace} (h : DataW.trod enc Try.prog w base spare held n 81 cs = some x) (hw : ∀ k ∈ x.1.weights Try.prog 81, k ≤ reachBytes) : ∃ m, MsgEl w w.heap.size cs m := by
  obtain ⟨xs, m, _, hxe, hl, hxl, hf⟩ := DataW.trod_struct Try.underlying81 h
  rw [cells_message] at hl
  match cs, hl with
  | [c0, c1, c2, c3, c4, c5, c6, c7], _ =>
    have hxl8 : xs.length = 8 := hxl
    match xs, hxl8 with
    | [z0, z1, z2, z3, z4, z5, z6, z7], _ =>
      subst hxe
      have hwt : ∀ k ∈ DataW.weights Try.prog 81 (DataW.agg [z0.1, z1.1, z2.1, z3.1, z4.1, z5.1, z6.1, z7.1]), k ≤ reachBytes := hw
      simp only [DataW.weights, Try.underlying81, DataW.weightsEach, List.map_cons, List.map_nil, List.mem_append] at hwt
      obtain ⟨n0, h0, _⟩ := DataW.trod_int Try.underlying3 (hf 0 _ rfl)
      obtain ⟨n1, h1, _⟩ := DataW.trod_int Try.underlying3 (hf 1 _ rfl)
      obtain ⟨n2, h2, _⟩ := DataW.trod_int Try.underlying3 (hf 2 _ rfl)
      obtain ⟨n3, h3, _⟩ := DataW.trod_int Try.underlying3 (hf 3 _ rfl)
      obtain ⟨n4, h4, _⟩ := DataW.trod_int Try.underlying3 (hf 4 _ rfl)
      obtain ⟨n5, h5, _⟩ := DataW.trod_int Try.underlying3 (hf 5 _ rfl)
      obtain ⟨n6, h6, _⟩ := DataW.trod_int Try.underlying3 (hf 6 _ rfl)
      have h7 := hf 7 _ rfl
      simp [cells_int, cells_strs] at h0 h1 h2 h3 h4 h5 h6 h7
      subst h0 h1 h2 h3 h4 h5 h6
      obtain ⟨ls, h7'⟩ := trod_strs h7 (fun k hk => hwt k (.inr (.inr (.inr (.inr (.inr (.inr (.inr (.inl hk)))))))))
      exact ⟨⟨n0, n1, n2, n3, n4, n5, n6, ls⟩, c7, rfl, h7'⟩
def IsMsgV (w : World) (v : Value) (m : Scu.Message) : Prop := ∃ lv, v = .agg #[.int .i64 m.kind, .int .i64 m.from_, .int .i64 m.to, .int .i64 m.view, .int .i64 m.normal, .int .i64 m.commit, .int .i64 m.n, lv] ∧ IsStrs w w.heap.size lv m.log
theorem openS_Message {v : Value} {d : DataW H} {p : List MemPlace} {b0 : Nat} (hv : Value.okWide Try.prog w .any b0 81 v) (h : DataW.Trod enc Try.prog w base spare held 81 v d p)
    (hw : ∀ k ∈ d.weights Try.prog 81, k ≤ reachBytes) : ∃ y, IsMsgV w v y := by
  obtain ⟨cs, rfl, _⟩ := okWide_struct Try.underlying81 hv
  obtain ⟨fuel, hf⟩ := h
  obtain ⟨m, lv, e, hy⟩ := trod_message hf hw
  refine ⟨m, lv, ?_, hy⟩
  have : cs = #[.int .i64 m.kind, .int .i64 m.from_, .int .i64 m.to, .int .i64 m.view, .int .i64 m.normal, .int .i64 m.commit, .int .i64 m.n, lv] := by
    apply Array.toList_inj.1
    simpa [Value.cells] using e
  rw [this]
end
end Go.Proofs.Ytioajgcbchdpeaa

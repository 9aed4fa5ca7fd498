/- Walks: an operation, a request: may it be? -/
import Derived.Test.YtioajgcbchdpeaaCodecW
namespace Go.Proofs.Ytioajgcbchdpeaa
open Go.RowKit
attribute [local go_sem] conv_four conv_one byteAt_get
set_option maxHeartbeats 800000
set_option maxRecDepth 100000

theorem checkOp_c (o : Scu.Op) (w : World) :
    Calls Try.prog 57 #[.agg #[.int .i64 o.kind, .int .i64 o.at_, .int .i64 o.snap, .string o.data]] w fun e w' =>
      e = .returned (.int .i64 (Scu.opFault o)) ∧ Below w.heap.size w w' := by
  obtain ⟨k, a, n, d⟩ := o
  have hd := toList_eq_nil d
  go_enter Try.func57, Try.ntmps57
  go_wp2
  all_goals (go_ret; refine ⟨ret_val (int_eq ?_), (Below.refl _ _).alloc (Nat.le_refl _) _⟩)
  all_goals (try simp only [bne_iff_ne, ne_eq, bne_eq_false_iff_eq, Bool.not_eq_true', Bool.not_eq_false', List.isEmpty_iff, List.isEmpty_eq_false_iff, hd] at *)
  all_goals (unfold Scu.opFault; simp only []; repeat' split)
  all_goals first | rfl | omega

theorem opFault_c (o : Scu.Op) (w : World) :
    Calls Try.prog 61 #[.agg #[.int .i64 o.kind, .int .i64 o.at_, .int .i64 o.snap, .string o.data]] w fun e w' =>
      e = .returned (.int .i64 (Scu.opFault o)) ∧ Below w.heap.size w w' := by
  obtain ⟨k, a, n, d⟩ := o
  have hd := Lib.hid (toList_eq_nil d)
  have hk : (k < 1 ∨ 4 < k) ∨ k = 1 ∨ k = 2 ∨ k = 3 ∨ k = 4 := by omega
  rcases hk with hk | hk | hk | hk | hk <;> (try subst hk)
  all_goals
    go_enter Try.func61, Try.ntmps61
    go_wp2_with (go_at_call 63; refine (in_c _ _ _ _).mono ?_; rintro e w' ⟨rfl, rfl⟩)
  all_goals (go_ret; refine ⟨ret_val (int_eq ?_), (Below.refl _ _).alloc (Nat.le_refl _) _⟩)
  all_goals have hd' := hd.out
  all_goals (try simp only [bne_iff_ne, ne_eq, bne_eq_false_iff_eq, Bool.not_eq_true', Bool.not_eq_false', List.isEmpty_iff, List.isEmpty_eq_false_iff, hd', decide_eq_true_eq, decide_eq_false_iff_not] at *)
  all_goals (unfold Scu.opFault; simp only []; repeat' split)
  all_goals first | rfl | omega | (exfalso; simp_all; done)

theorem checkRequest_c (r : Scu.Request) (w : World) :
    Calls Try.prog 109 #[.agg #[.int .i64 r.client, .int .i64 r.num, .int .i64 r.op.kind, .int .i64 r.op.at_, .int .i64 r.op.snap, .string r.op.data]] w fun e w' =>
      e = .returned (.int .i64 (Scu.reqFault r)) ∧ Below w.heap.size w w' := by
  by_cases h : r.client < 1 ∨ 4 < r.client ∨ r.num < 1 ∨ 1048576 < r.num
  · have hs : Scu.reqFault r = 2 := if_pos h
    rw [hs]
    go_enter Try.func109, Try.ntmps109
    go_wp2_with fail
    all_goals (go_ret; exact ⟨rfl, (Below.refl _ _).alloc (Nat.le_refl _) _⟩)
  · have hs : Scu.reqFault r = Scu.opFault r.op := if_neg h
    rw [hs]
    have h1 : 1 ≤ r.client := by omega
    have h2 : r.client ≤ 4 := by omega
    have h3 : 1 ≤ r.num := by omega
    have h4 : r.num ≤ 1048576 := by omega
    clear h hs
    go_enter Try.func109, Try.ntmps109
    go_wp2_with fail
    refine (checkOp_c _ _).mono ?_; rintro e w' ⟨rfl, hb⟩
    go_wp2
    go_ret
    exact ⟨rfl, ((Below.refl _ _).alloc (Nat.le_refl _) _).trans (hb.mono (by simp))⟩

theorem requestFault_c (r : Scu.Request) (w : World) :
    Calls Try.prog 110 #[.agg #[.int .i64 r.client, .int .i64 r.num, .int .i64 r.op.kind, .int .i64 r.op.at_, .int .i64 r.op.snap, .string r.op.data]] w fun e w' =>
      e = .returned (.int .i64 (Scu.reqFault r)) ∧ Below w.heap.size w w' := by
  by_cases h : r.client < 1 ∨ 4 < r.client ∨ r.num < 1 ∨ 1048576 < r.num
  · have hs : Scu.reqFault r = 2 := if_pos h
    rw [hs]
    clear hs
    go_enter Try.func110, Try.ntmps110
    go_wp2_with (go_at_call 63; refine (in_c _ _ _ _).mono ?_; rintro e w' ⟨rfl, rfl⟩)
    all_goals first
      | (go_ret; exact ⟨rfl, (Below.refl _ _).alloc (Nat.le_refl _) _⟩)
      | (exfalso; simp only [Bool.not_eq_false', decide_eq_true_eq] at *; omega)
  · have hs : Scu.reqFault r = Scu.opFault r.op := if_neg h
    rw [hs]
    have h1 : 1 ≤ r.client := by omega
    have h2 : r.client ≤ 4 := by omega
    have h3 : 1 ≤ r.num := by omega
    have h4 : r.num ≤ 1048576 := by omega
    clear h hs
    go_enter Try.func110, Try.ntmps110
    go_wp2_with (go_at_call 63; refine (in_c _ _ _ _).mono ?_; rintro e w' ⟨rfl, rfl⟩)
    refine (opFault_c _ _).mono ?_; rintro e w' ⟨rfl, hb⟩
    go_wp2
    go_ret
    exact ⟨rfl, ((Below.refl _ _).alloc (Nat.le_refl _) _).trans (hb.mono (by simp))⟩
end Go.Proofs.Ytioajgcbchdpeaa

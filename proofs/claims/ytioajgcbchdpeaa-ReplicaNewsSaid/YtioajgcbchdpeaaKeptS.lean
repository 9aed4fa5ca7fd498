/- Walks: whether two that are kept are the same; the laws StageCopies and StageChecks. -/
import Derived.Test.YtioajgcbchdpeaaKeptC
namespace Go.Proofs.Ytioajgcbchdpeaa
open Go.RowKit
set_option maxHeartbeats 400000
set_option maxRecDepth 100000

theorem sameKept_x (lv lu : Value) (va na : Int) (ca : Bool) (la : List Scu.Str) (coa vb nb : Int) (cb : Bool) (lb : List Scu.Str) (cob : Int) (w : World) (B B' : Nat) (hv : IsStrs w B lv la) (hu : IsStrs w B' lu lb) :
    Calls Try.prog 30 #[.agg #[.int .i64 va, .int .i64 na, .bool ca, lv, .int .i64 coa], .agg #[.int .i64 vb, .int .i64 nb, .bool cb, lu, .int .i64 cob]] w fun e w' =>
      e = .returned (.bool (decide ((⟨va, na, ca, la, coa⟩ : Scu.Kept) = ⟨vb, nb, cb, lb, cob⟩))) ∧ Below w.heap.size w w' := by
  obtain ⟨⟨A, c, rfl, _, hr⟩, hl, _⟩ := hv
  obtain ⟨⟨A', c', rfl, _, hr'⟩, hl', _⟩ := hu
  unfold R47 at hl hl'
  cases t1 : (va != vb) with
  | true =>
    have HNE := Lib.hid (show decide ((⟨va, na, ca, la, coa⟩ : Scu.Kept) = ⟨vb, nb, cb, lb, cob⟩) = false from decide_eq_false_iff_not.2 (fun e => by injection e with e1 e2 e3 e4 e5; exact (bne_iff_ne.1 t1) e1))
    clear hr hr'
    go_enter Try.func30, Try.ntmps30
    go_wp2
    go_ret
    exact ⟨ret_val (bool_eq HNE.out.symm), ((Below.refl _ _).alloc (Nat.le_refl _) _).alloc (by simp) _⟩
  | false =>
  cases t2 : (na != nb) with
  | true =>
    have HNE := Lib.hid (show decide ((⟨va, na, ca, la, coa⟩ : Scu.Kept) = ⟨vb, nb, cb, lb, cob⟩) = false from decide_eq_false_iff_not.2 (fun e => by injection e with e1 e2 e3 e4 e5; exact (bne_iff_ne.1 t2) e2))
    clear hr hr'
    go_enter Try.func30, Try.ntmps30
    go_wp2
    go_ret
    exact ⟨ret_val (bool_eq HNE.out.symm), ((Below.refl _ _).alloc (Nat.le_refl _) _).alloc (by simp) _⟩
  | false =>
  have H3 : (ca = true ∧ cb = false) ∨ (ca = false ∧ cb = true) ∨ (ca = true ∧ cb = true) ∨ (ca = false ∧ cb = false) := by cases ca <;> cases cb <;> simp
  rcases H3 with ⟨rfl, rfl⟩ | ⟨rfl, rfl⟩ | H3
  · have HNE := Lib.hid (show decide ((⟨va, na, true, la, coa⟩ : Scu.Kept) = ⟨vb, nb, false, lb, cob⟩) = false from decide_eq_false_iff_not.2 (fun e => by injection e with e1 e2 e3 e4 e5; cases e3))
    clear hr hr'
    go_enter Try.func30, Try.ntmps30
    go_wp2
    go_ret
    exact ⟨ret_val (bool_eq HNE.out.symm), ((Below.refl _ _).alloc (Nat.le_refl _) _).alloc (by simp) _⟩
  · have HNE := Lib.hid (show decide ((⟨va, na, false, la, coa⟩ : Scu.Kept) = ⟨vb, nb, true, lb, cob⟩) = false from decide_eq_false_iff_not.2 (fun e => by injection e with e1 e2 e3 e4 e5; cases e3))
    clear hr hr'
    go_enter Try.func30, Try.ntmps30
    go_wp2
    go_ret
    exact ⟨ret_val (bool_eq HNE.out.symm), ((Below.refl _ _).alloc (Nat.le_refl _) _).alloc (by simp) _⟩
  cases t4 : (coa != cob) with
  | true =>
    rcases H3 with ⟨rfl, rfl⟩ | ⟨rfl, rfl⟩
    · have HNE := Lib.hid (show decide ((⟨va, na, true, la, coa⟩ : Scu.Kept) = ⟨vb, nb, true, lb, cob⟩) = false from decide_eq_false_iff_not.2 (fun e => by injection e with e1 e2 e3 e4 e5; exact (bne_iff_ne.1 t4) e5))
      clear hr hr'
      go_enter Try.func30, Try.ntmps30
      go_wp2
      go_ret
      exact ⟨ret_val (bool_eq HNE.out.symm), ((Below.refl _ _).alloc (Nat.le_refl _) _).alloc (by simp) _⟩
    · have HNE := Lib.hid (show decide ((⟨va, na, false, la, coa⟩ : Scu.Kept) = ⟨vb, nb, false, lb, cob⟩) = false from decide_eq_false_iff_not.2 (fun e => by injection e with e1 e2 e3 e4 e5; exact (bne_iff_ne.1 t4) e5))
      clear hr hr'
      go_enter Try.func30, Try.ntmps30
      go_wp2
      go_ret
      exact ⟨ret_val (bool_eq HNE.out.symm), ((Below.refl _ _).alloc (Nat.le_refl _) _).alloc (by simp) _⟩
  | false =>
  cases t5 : ((la.length : Int) != (lb.length : Int)) with
  | true =>
    rcases H3 with ⟨rfl, rfl⟩ | ⟨rfl, rfl⟩
    · have HNE := Lib.hid (show decide ((⟨va, na, true, la, coa⟩ : Scu.Kept) = ⟨vb, nb, true, lb, cob⟩) = false from decide_eq_false_iff_not.2 (fun e => by injection e with e1 e2 e3 e4 e5; exact (bne_iff_ne.1 t5) (by rw [e4])))
      clear hr hr'
      go_enter Try.func30, Try.ntmps30
      go_wp2
      go_ret
      exact ⟨ret_val (bool_eq HNE.out.symm), ((Below.refl _ _).alloc (Nat.le_refl _) _).alloc (by simp) _⟩
    · have HNE := Lib.hid (show decide ((⟨va, na, false, la, coa⟩ : Scu.Kept) = ⟨vb, nb, false, lb, cob⟩) = false from decide_eq_false_iff_not.2 (fun e => by injection e with e1 e2 e3 e4 e5; exact (bne_iff_ne.1 t5) (by rw [e4])))
      clear hr hr'
      go_enter Try.func30, Try.ntmps30
      go_wp2
      go_ret
      exact ⟨ret_val (bool_eq HNE.out.symm), ((Below.refl _ _).alloc (Nat.le_refl _) _).alloc (by simp) _⟩
  | false =>
  have HE := Lib.hid (show la.length = lb.length by have h5 : (la.length : Int) = lb.length := by simpa using t5
                                                    omega)
  have HN := Lib.hid (show va = vb ∧ na = nb ∧ coa = cob from ⟨by simpa using t1, by simpa using t2, by simpa using t4⟩)
  rcases H3 with ⟨rfl, rfl⟩ | ⟨rfl, rfl⟩
  all_goals
    go_enter Try.func30, Try.ntmps30
    go_wp2
    go_loopw [5] (fun i wr => ∃ k : Nat, k ≤ la.length ∧ i = .int .i64 k ∧ Hid (la.take k = lb.take k) ∧ ∃ n, wr = ((w.alloc (Obj.cells #[.int .i64 va, .int .i64 na, _, .slice A la.length c, .int .i64 coa] 28)).alloc (Obj.cells #[.int .i64 vb, .int .i64 nb, _, .slice A' lb.length c', .int .i64 cob] 28)).drewN n) (fun i _ => la.length - (intOf i).toNat)
    case atStart => exact ⟨0, Nat.zero_le _, rfl, rfl, 0, rfl⟩
    case round =>
      obtain ⟨k, hk, rfl, ht, n, rfl⟩ := hrel
      by_cases hlt : k < la.length
      · have hlt' : (k : Int) < (la.length : Int) := by omega
        have hy : k < lb.length := by have := HE.out; omega
        have hy' : (k : Int) < (lb.length : Int) := by omega
        obtain ⟨g, o, rfl, hg, hc⟩ := str_get hr hlt
        obtain ⟨g', o', rfl, hg', hc'⟩ := str_get hr' hy
        by_cases hx : la[k] = lb[k]
        · have hb : (la[k].toList == lb[k].toList) = true := by rw [str_beq]; simp [hx]
          have HX := Lib.hid hx
          clear hx
          go_wp2
          go_quiet (fail)
          go_wp2
          exact ⟨⟨k + 1, hlt, by go_num, take_succ_eq ht.out hlt hy HX.out, _, rfl⟩, by simp only [intOf]; omega⟩
        · have hb : (la[k].toList == lb[k].toList) = false := by rw [str_beq]; simp [hx]
          have HNE := Lib.hid (show ∀ cc dd : Bool, decide ((⟨va, na, cc, la, coa⟩ : Scu.Kept) = ⟨vb, nb, dd, lb, cob⟩) = false from fun cc dd => decide_eq_false_iff_not.2 (fun e => by
            injection e with e1 e2 e3 e4 e5
            subst e4
            exact hx rfl))
          clear hx
          go_wp2
          go_quiet (fail)
          go_wp2
          go_ret
          exact ⟨ret_val (bool_eq (HNE.out _ _).symm), below_drewN (below_drewN (((Below.refl _ _).alloc (Nat.le_refl _) _).alloc (by simp) _) _) _⟩
      · have hlt' : (la.length : Int) ≤ (k : Int) := by omega
        have HEQ := Lib.hid (show ∀ cc : Bool, decide ((⟨va, na, cc, la, coa⟩ : Scu.Kept) = ⟨vb, nb, cc, lb, cob⟩) = true from fun cc => decide_eq_true_iff.2 (by
          have h1 := ht.out
          rw [List.take_of_length_le (by omega), List.take_of_length_le (by have := HE.out; omega)] at h1
          obtain ⟨e1, e2, e5⟩ := HN.out
          rw [e1, e2, e5, h1]))
        go_wp2
        go_ret
        exact ⟨ret_val (bool_eq (HEQ.out _).symm), below_drewN (((Below.refl _ _).alloc (Nat.le_refl _) _).alloc (by simp) _) _⟩
theorem sameKept_c (lv lu : Value) (a b : Scu.Kept) (w : World) (B B' : Nat) (hv : IsStrs w B lv a.log) (hu : IsStrs w B' lu b.log) :
    Calls Try.prog 30 #[.agg #[.int .i64 a.view, .int .i64 a.normal, .bool a.calm, lv, .int .i64 a.commit], .agg #[.int .i64 b.view, .int .i64 b.normal, .bool b.calm, lu, .int .i64 b.commit]] w fun e w' =>
      e = .returned (.bool (decide (a = b))) ∧ Below w.heap.size w w' :=
  sameKept_x lv lu a.view a.normal a.calm a.log a.commit b.view b.normal b.calm b.log b.commit w B B' hv hu

end Go.Proofs.Ytioajgcbchdpeaa

/- Part 5: words and walks under the law 'ReplicaHears'. -/
import Derived.Test.YtlaibljdlpmbfaaPart4
import Derived.Test.YtlaibljdlpmbfaaPart2
import Derived.Test.YtlaibljdlpmbfaaPart1
import Derived.Test.YtlaibljdlpmbfaaPart3
set_option linter.unusedVariables false
set_option linter.unusedSimpArgs false
namespace Scu

theorem repFault_ok {r : Replica} (h : repFault r = 0) : InR r.me ∧ r.have_.length = 3 ∧ r.wants.length = 3 ∧ r.gives.length = 3 ∧ r.given.length = 3 ∧
    (∀ x ∈ r.have_, 0 ≤ x ∧ x ≤ r.kept.log.length) ∧ (∀ g ∈ r.gives, keptFault g = 0) ∧ keptFault r.kept = 0 := by
  unfold repFault at h
  split at h
  · omega
  split at h
  · omega
  split at h
  · omega
  rename_i h1 h2 h3
  refine ⟨by unfold InR; omega, by omega, by omega, by omega, by omega, ?_, ?_, h⟩
  · intro x hx
    simp only [Bool.or_eq_true, List.any_eq_true, decide_eq_true_eq, not_or, not_exists, not_and] at h3
    have := h3.1 x hx
    omega
  · intro g hg
    simp only [Bool.or_eq_true, List.any_eq_true, decide_eq_true_eq, not_or, not_exists, not_and] at h3
    have := h3.2 g hg
    omega
theorem repFault_mk {r : Replica} (h1 : InR r.me) (h2 : r.have_.length = 3) (h3 : r.wants.length = 3) (h4 : r.gives.length = 3) (h5 : r.given.length = 3)
    (h6 : ∀ x ∈ r.have_, 0 ≤ x ∧ x ≤ r.kept.log.length) (h7 : ∀ g ∈ r.gives, keptFault g = 0) (h8 : keptFault r.kept = 0) : repFault r = 0 := by
  unfold repFault
  rw [if_neg (by unfold InR at h1; omega), if_neg (by omega), if_neg, h8]
  simp only [Bool.or_eq_true, List.any_eq_true, decide_eq_true_eq, not_or, not_exists, not_and]
  refine ⟨fun x hx => ?_, fun g hg => ?_⟩
  · have := h6 x hx; omega
  · have := h7 g hg; omega
theorem keptFault0 : keptFault kept0 = 0 := by decide
theorem fresh_fault {r : Replica} (h1 : InR r.me) (h8 : keptFault r.kept = 0) : repFault (fresh r) = 0 := by
  refine repFault_mk h1 rfl rfl rfl rfl ?_ ?_ h8
  · intro x hx
    simp [fresh] at hx
    subst hx
    omega
  · intro g hg
    simp [fresh] at hg
    subst hg
    exact keptFault0
theorem mem_set {α : Type} {l : List α} {n : Nat} {x y : α} (h : y ∈ l.set n x) : y = x ∨ y ∈ l := by
  rcases List.mem_or_eq_of_mem_set h with h | h
  · exact .inr h
  · exact .inl h
theorem want_fault {r : Replica} {v : Int} (h : repFault r = 0) (h1 : r.kept.view < v) (h2 : v ≤ 1048576) : repFault (want r v).1 = 0 := by
  obtain ⟨f1, f2, f3, f4, f5, f6, f7, f8⟩ := repFault_ok h
  obtain ⟨k1, k2, k3, k4, k5, k6, k7, k8, k9⟩ := keptFault_ok f8
  have hk : keptFault { r.kept with view := v, calm := false } = 0 :=
    keptFault_mk (by show 0 ≤ v; omega) h2 k3 (by show r.kept.normal ≤ v; omega) (fun hc => by cases hc) k6 k7 k8 k9
  have hf := fresh_fault (r := { r with kept := { r.kept with view := v, calm := false } }) f1 hk
  obtain ⟨g1, g2, g3, g4, g5, g6, g7, g8⟩ := repFault_ok hf
  exact repFault_mk g1 g2 (by simp [want, fresh]) g4 g5 g6 g7 g8
theorem own_fault {k : Kept} (h : keptFault k = 0) : keptFault (own k) = 0 := by
  obtain ⟨k1, k2, k3, k4, k5, k6, k7, k8, k9⟩ := keptFault_ok h
  exact keptFault_mk k1 k2 k3 k4 (fun hc => by cases hc) k6 k7 k8 k9
theorem give1_fault {r : Replica} {i : Int} {k : Kept} (h : repFault r = 0) (hk : keptFault (own k) = 0) : repFault (give1 r i k) = 0 := by
  obtain ⟨f1, f2, f3, f4, f5, f6, f7, f8⟩ := repFault_ok h
  refine repFault_mk f1 f2 f3 (by simp [give1, f4]) (by simp [give1, f5]) f6 ?_ f8
  intro g hg
  rcases mem_set hg with rfl | hg
  · exact hk
  · exact f7 g hg
theorem wants_fault {r : Replica} (h : repFault r = 0) (l : List Bool) (hl : l.length = 3) : repFault { r with wants := l } = 0 := by
  obtain ⟨f1, f2, f3, f4, f5, f6, f7, f8⟩ := repFault_ok h
  exact repFault_mk f1 f2 hl f4 f5 f6 f7 f8
theorem begun_fault {r : Replica} (h : repFault r = 0) : repFault (begun r).1 = 0 := by
  obtain ⟨f1, f2, f3, f4, f5, f6, f7, f8⟩ := repFault_ok h
  obtain ⟨k1, k2, k3, k4, k5, k6, k7, k8, k9⟩ := keptFault_ok f8
  unfold begun
  split
  · exact h
  split
  · exact h
  rename_i hcnt
  refine fresh_fault f1 ?_
  have hb : bestOf (r.gives.zip r.given) = { kept0 with normal := -1 } ∨ keptFault (bestOf (r.gives.zip r.given)) = 0 := by
    obtain ⟨_, _, hb⟩ := bestOf_spec (r.gives.zip r.given) { kept0 with normal := -1 }
    rcases hb with hb | ⟨g, hg, _, hb⟩
    · exact .inl hb
    · refine .inr ?_
      have : bestOf (r.gives.zip r.given) = g.1 := hb
      rw [this]
      exact f7 _ (List.of_mem_zip hg).1
  have hm := (maxCommit_spec (r.gives.zip r.given) 0).1
  have hm' : 0 ≤ maxCommit (r.gives.zip r.given) := hm
  refine keptFault_mk k1 k2 k1 (Int.le_refl _) (fun _ => rfl) ?_ ?_ ?_ ?_
  · rcases hb with hb | hb
    · simp only [hb]; simp [kept0]
    · exact (keptFault_ok hb).2.2.2.2.2.1
  · show 0 ≤ min _ _
    omega
  · show min (maxCommit (r.gives.zip r.given)) ((bestOf (r.gives.zip r.given)).log.length : Int) ≤ ((bestOf (r.gives.zip r.given)).log.length : Int)
    omega
  · rcases hb with hb | hb
    · simp only [hb]; simp [kept0]
    · exact (keptFault_ok hb).2.2.2.2.2.2.2.2
theorem hearLead_fault {r : Replica} {m : Message} (h : repFault r = 0) (hm : msgFault m = 0) (_hv : r.kept.view ≤ m.view) : repFault (hearLead r m).1 = 0 := by
  obtain ⟨f1, f2, f3, f4, f5, f6, f7, f8⟩ := repFault_ok h
  obtain ⟨k1, k2, k3, k4, k5, k6, k7, k8, k9⟩ := keptFault_ok f8
  obtain ⟨q1, q2, q3, q4, q5, q6, q7, q8, q9⟩ := keptFault_ok (msgFault_ok hm).2.2.2.2.2.2.2.2.2.2.2
  simp only at q1 q2 q3 q4 q6 q7 q8 q9
  unfold hearLead
  simp only []
  split
  · refine fresh_fault (r := { r with kept := ⟨m.view, m.view, true, m.log, max (max m.commit (min r.kept.commit m.log.length)) (min m.commit m.log.length)⟩ }) f1 ?_
    refine keptFault_mk q1 q2 q1 (Int.le_refl _) (fun _ => rfl) q6 ?_ ?_ q9
    · show 0 ≤ max _ _; omega
    · show max (max m.commit (min r.kept.commit (m.log.length : Int))) (min m.commit (m.log.length : Int)) ≤ (m.log.length : Int); omega
  rename_i hc
  split
  · rename_i hl
    refine repFault_mk f1 f2 f3 f4 f5 ?_ f7 ?_
    · intro x hx
      have := f6 x hx
      show 0 ≤ x ∧ x ≤ (m.log.length : Int)
      omega
    · refine keptFault_mk k1 k2 k3 k4 k5 q6 ?_ ?_ q9
      · show 0 ≤ max _ _; omega
      · show max r.kept.commit (min m.commit (m.log.length : Int)) ≤ m.log.length; omega
  · refine repFault_mk f1 f2 f3 f4 f5 f6 f7 ?_
    refine keptFault_mk k1 k2 k3 k4 k5 k6 ?_ ?_ k9
    · show 0 ≤ max _ _; omega
    · show max r.kept.commit (min m.commit (r.kept.log.length : Int)) ≤ r.kept.log.length; omega
theorem hearHas_fault {r : Replica} {m : Message} (h : repFault r = 0) (hm : msgFault m = 0) : repFault (hearHas r m).1 = 0 := by
  obtain ⟨f1, f2, f3, f4, f5, f6, f7, f8⟩ := repFault_ok h
  obtain ⟨k1, k2, k3, k4, k5, k6, k7, k8, k9⟩ := keptFault_ok f8
  have hn := (msgFault_ok hm).2.2.2.2.2.2.2.1
  unfold hearHas
  split
  · exact h
  simp only []
  have hhave : ∀ x ∈ r.have_.set m.from_.toNat (max (r.have_.getD m.from_.toNat 0) (min m.n r.kept.log.length)), 0 ≤ x ∧ x ≤ (r.kept.log.length : Int) := by
    intro x hx
    rcases mem_set hx with rfl | hx
    · have : 0 ≤ r.have_.getD m.from_.toNat 0 ∧ r.have_.getD m.from_.toNat 0 ≤ (r.kept.log.length : Int) := by
        by_cases hlt : m.from_.toNat < r.have_.length
        · have := f6 _ (List.getElem_mem hlt)
          simpa [hlt] using this
        · simp [hlt]
      omega
    · exact f6 x hx
  split
  · refine repFault_mk f1 (by simp [f2]) f3 f4 f5 hhave f7 ?_
    refine keptFault_mk k1 k2 k3 k4 k5 k6 ?_ ?_ k9
    · show 0 ≤ min m.n (r.kept.log.length : Int); omega
    · show min m.n (r.kept.log.length : Int) ≤ r.kept.log.length; omega
  · exact repFault_mk f1 (by simp [f2]) f3 f4 f5 hhave f7 f8
theorem wantIf_fault {r : Replica} {v : Int} (h : repFault r = 0) (hv : v ≤ 1048576) : repFault (wantIf r v).1 = 0 := by
  unfold wantIf
  split
  · exact want_fault h (by assumption) hv
  · exact h
theorem hearWant_fault {r : Replica} {m : Message} (h : repFault r = 0) (hm : msgFault m = 0) : repFault (hearWant r m).1 = 0 := by
  have hw := wantIf_fault (v := m.view) h (msgFault_ok hm).2.2.2.2.2.2.1
  unfold hearWant
  generalize wantIf r m.view = x at *
  obtain ⟨r1, o1⟩ := x
  simp only at hw ⊢
  obtain ⟨f1, f2, f3, f4, f5, f6, f7, f8⟩ := repFault_ok hw
  split
  · exact hw
  have hw2 := wants_fault hw (r1.wants.set m.from_.toNat true) (by simp [f3])
  split
  · exact begun_fault (give1_fault hw2 (own_fault f8))
  · exact hw2
theorem hearGive_fault {r : Replica} {m : Message} (h : repFault r = 0) (hm : msgFault m = 0) : repFault (hearGive r m).1 = 0 := by
  have hw := wantIf_fault (v := m.view) h (msgFault_ok hm).2.2.2.2.2.2.1
  have hk := (msgFault_ok hm).2.2.2.2.2.2.2.2.2.2.2
  unfold hearGive
  generalize wantIf r m.view = x at *
  obtain ⟨r1, o1⟩ := x
  simp only at hw ⊢
  obtain ⟨f1, f2, f3, f4, f5, f6, f7, f8⟩ := repFault_ok hw
  split
  · exact hw
  refine begun_fault (give1_fault ?_ hk)
  split
  · exact give1_fault hw (own_fault f8)
  · exact hw
theorem hear_fault {r : Replica} {m : Message} (hok : (hear r m).2.2 = 0) : repFault (hear r m).1 = 0 := by
  unfold hear at hok ⊢
  split
  · rename_i hx; rw [if_pos hx] at hok; exact absurd hok hx
  rename_i hx; rw [if_neg hx] at hok
  split
  · rename_i hx; rw [if_pos hx] at hok; exact absurd hok hx
  rename_i hx2; rw [if_neg hx2] at hok
  split
  · rename_i hx; rw [if_pos hx] at hok; simp at hok
  rename_i hx3; rw [if_neg hx3] at hok
  split
  · rename_i hx; rw [if_pos hx] at hok; simp at hok
  rename_i hx4
  have h1 : repFault r = 0 := by omega
  have h2 : msgFault m = 0 := by omega
  simp only [hearIt]
  split
  · exact hearLead_fault h1 h2 (by omega)
  split
  · exact hearHas_fault h1 h2
  split
  · exact hearWant_fault h1 h2
  · exact hearGive_fault h1 h2
theorem take_fault {r : Replica} {e : Str} (hok : (take r e).2.2 = 0) : repFault (take r e).1 = 0 := by
  unfold take at hok ⊢
  split
  · rename_i hx; rw [if_pos hx] at hok; exact absurd hok hx
  rename_i hx; rw [if_neg hx] at hok
  split
  · rename_i hx; rw [if_pos hx] at hok; simp at hok
  rename_i hx2; rw [if_neg hx2] at hok
  split
  · rename_i hx; rw [if_pos hx] at hok; simp at hok
  rename_i hx3; rw [if_neg hx3] at hok
  split
  · rename_i hx; rw [if_pos hx] at hok; exact absurd hok hx
  rename_i hx4
  obtain ⟨f1, f2, f3, f4, f5, f6, f7, f8⟩ := repFault_ok (r := r) (by omega)
  obtain ⟨k1, k2, k3, k4, k5, k6, k7, k8, k9⟩ := keptFault_ok f8
  refine repFault_mk f1 f2 f3 f4 f5 ?_ f7 ?_
  · intro x hx
    have := f6 x hx
    show 0 ≤ x ∧ x ≤ ((r.kept.log ++ [e]).length : Int)
    rw [List.length_append]
    omega
  · refine keptFault_mk k1 k2 k3 k4 k5 ?_ k7 ?_ ?_
    · show (r.kept.log ++ [e]).length ≤ 60
      rw [List.length_append]
      simp only [List.length_cons, List.length_nil]
      omega
    · show r.kept.commit ≤ ((r.kept.log ++ [e]).length : Int)
      rw [List.length_append]
      omega
    · intro x hx
      rcases List.mem_append.1 hx with hx | hx
      · exact k9 x hx
      · simp only [List.mem_singleton] at hx
        subst hx
        omega
theorem tick_fault {r : Replica} (hok : (tick r).2.2 = 0) : repFault (tick r).1 = 0 := by
  unfold tick at hok ⊢
  split
  · rename_i hx; rw [if_pos hx] at hok; exact absurd hok hx
  rename_i hx; rw [if_neg hx] at hok
  have h1 : repFault r = 0 := by omega
  split
  · exact h1
  split
  · exact h1
  · exact wants_fault h1 _ (by simp [(repFault_ok h1).2.2.1])
theorem alarm_fault {r : Replica} (hok : (alarm r).2.2 = 0) : repFault (alarm r).1 = 0 := by
  unfold alarm at hok ⊢
  split
  · rename_i hx; rw [if_pos hx] at hok; exact absurd hok hx
  rename_i hx; rw [if_neg hx] at hok
  have h1 : repFault r = 0 := by omega
  split
  · rename_i hx; rw [if_pos hx] at hok; simp at hok
  · have := (keptFault_ok (repFault_ok h1).2.2.2.2.2.2.2).2.1
    exact want_fault h1 (by omega) (by omega)

/- where messages go -/
def ToR (l : List Message) : Prop := ∀ m ∈ l, InR m.tq
theorem toAll_to (me v : Int) (m : Message) : ToR (toAll me v m) := fun x hx => by
  obtain ⟨i, hi, _, rfl⟩ := mem_toAll hx
  exact hi
theorem ToR.app {a b : List Message} (h : ToR a) (k : ToR b) : ToR (a ++ b) := fun m hm => by
  rcases List.mem_append.1 hm with hm | hm
  · exact h m hm
  · exact k m hm
theorem ToR.nil : ToR [] := fun m hm => by simp at hm
theorem ToR.one {m : Message} (h : InR m.tq) : ToR [m] := fun x hx => by simp only [List.mem_singleton] at hx; subst hx; exact h
theorem begun_to (r : Replica) : ToR (begun r).2 := by
  unfold begun
  split
  · exact ToR.nil
  split
  · exact ToR.nil
  · exact toAll_to _ _ _
theorem wantIf_to (r : Replica) (v : Int) : ToR (wantIf r v).2 := by
  unfold wantIf
  split
  · exact toAll_to _ _ _
  · exact ToR.nil
theorem hear_to (r : Replica) (m : Message) : ToR (hear r m).2.1 := by
  unfold hear
  split
  · exact ToR.nil
  split
  · exact ToR.nil
  rename_i hx2
  split
  · exact ToR.nil
  split
  · exact ToR.nil
  have h2 : msgFault m = 0 := by omega
  simp only [hearIt]
  split
  · exact ToR.one (msgFault_ok h2).2.2.1
  split
  · unfold hearHas
    split
    · exact ToR.nil
    simp only []
    split
    · exact toAll_to _ _ _
    · exact ToR.nil
  split
  · have hw := wantIf_to r m.view
    unfold hearWant
    generalize wantIf r m.view = x at *
    obtain ⟨r1, o1⟩ := x
    simp only at hw ⊢
    split
    · exact hw
    split
    · exact hw.app (begun_to _)
    · exact hw.app (ToR.one (leader_in _))
  · have hw := wantIf_to r m.view
    unfold hearGive
    generalize wantIf r m.view = x at *
    obtain ⟨r1, o1⟩ := x
    simp only at hw ⊢
    split
    · exact hw
    · exact hw.app (begun_to _)
theorem take_to (r : Replica) (e : Str) : ToR (take r e).2.1 := by
  unfold take
  repeat' split
  all_goals first | exact ToR.nil | exact toAll_to _ _ _
theorem tick_to (r : Replica) : ToR (tick r).2.1 := by
  unfold tick
  split
  · exact ToR.nil
  split
  · exact toAll_to _ _ _
  split
  · exact ToR.one (leader_in _)
  · exact toAll_to _ _ _
theorem alarm_to (r : Replica) : ToR (alarm r).2.1 := by
  unfold alarm
  split
  · exact ToR.nil
  split
  · exact ToR.nil
  · exact toAll_to _ _ _
end Scu
/- Walks: who leads; the laws ReplicaChecks and ReplicaLeads. -/
namespace Go.Proofs.Ytlaibljdlpmbfaa
open Go.RowKit
set_option maxHeartbeats 400000
set_option maxRecDepth 100000
theorem leads_at (r : Scu.Replica) (h : r.kept.calm = true) : Scu.leads r = (r.kept.view % 3 == r.me) := by
  unfold Scu.leads Scu.leader
  rw [h, Bool.eq_iff_iff]
  simp
theorem leader_c (vi : Int) (w : World) (h0 : 0 ≤ vi) : Calls Try.prog 23 #[.int .i64 vi] w fun e w' => e = .returned (.int .i64 (vi % 3)) ∧ w = w' := by
  go_enter Try.func23, Try.ntmps23
  go_wp2
  go_ret
  exact ⟨rfl, rfl⟩
theorem leads_x (me vi no : Int) (ca : Bool) (lv : Value) (co : Int) (hv wv gv nv : Value) (r : Scu.Replica) (h0 : 0 ≤ vi) (h1 : r.me = me) (h2 : r.kept.view = vi) (h3 : r.kept.calm = ca) (w : World) :
    Calls Try.prog 28 #[.agg #[.int .i64 me, .int .i64 vi, .int .i64 no, .bool ca, lv, .int .i64 co, hv, wv, gv, nv]] w fun e w' => e = .returned (.bool (Scu.leads r)) ∧ Below w.heap.size w w' := by
  cases ca
  · have HF := Lib.hid (show Scu.leads r = false by unfold Scu.leads; rw [h3]; rfl)
    clear h1 h2 h3
    go_enter Try.func28, Try.ntmps28
    go_wp2
    go_quiet (fail)
    go_wp2
    go_ret
    exact ⟨ret_val (bool_eq HF.out.symm), below_drewN (below_alloc w _) _⟩
  · have HF := Lib.hid (show Scu.leads r = (vi % 3 == me) by rw [leads_at r h3, h1, h2])
    clear h1 h2 h3
    go_enter Try.func28, Try.ntmps28
    go_wp2
    go_quiet ((go_at_call 23; exact quiet_at ((leader_c _ _ h0).mono fun _ _ h => ⟨h.1, 0, h.2.symm⟩)))
    go_wp2
    go_ret
    exact ⟨ret_val (bool_eq HF.out.symm), below_drewN (below_alloc w _) _⟩
theorem leadsNow_x (me vi no : Int) (ca : Bool) (lv : Value) (co : Int) (hv wv gv nv : Value) (r : Scu.Replica) (h0 : 0 ≤ vi) (h1 : r.me = me) (h2 : r.kept.view = vi) (h3 : r.kept.calm = ca) (w : World) :
    Calls Try.prog 37 #[.agg #[.int .i64 me, .int .i64 vi, .int .i64 no, .bool ca, lv, .int .i64 co, hv, wv, gv, nv]] w fun e w' => e = .returned (.bool (Scu.leads r)) ∧ Below w.heap.size w w' := by
  cases ca
  · have HF := Lib.hid (show Scu.leads r = false by unfold Scu.leads; rw [h3]; rfl)
    clear h1 h2 h3
    go_enter Try.func37, Try.ntmps37
    go_wp2
    go_ret
    exact ⟨ret_val (bool_eq HF.out.symm), below_alloc w _⟩
  · have HF := Lib.hid (show Scu.leads r = (vi % 3 == me) by rw [leads_at r h3, h1, h2])
    clear h1 h2 h3
    go_enter Try.func37, Try.ntmps37
    go_wp2
    go_ret
    exact ⟨ret_val (bool_eq HF.out.symm), below_alloc w _⟩
theorem leads_c (lv hv wv gv nv : Value) (r : Scu.Replica) (h0 : 0 ≤ r.kept.view) (w : World) : Calls Try.prog 28 #[.agg #[.int .i64 r.me, .int .i64 r.kept.view, .int .i64 r.kept.normal, .bool r.kept.calm, lv, .int .i64 r.kept.commit, hv, wv, gv, nv]] w fun e w' => e = .returned (.bool (Scu.leads r)) ∧ Below w.heap.size w w' :=
  leads_x _ _ _ _ _ _ _ _ _ _ r h0 rfl rfl rfl w
theorem leadsNow_c (lv hv wv gv nv : Value) (r : Scu.Replica) (h0 : 0 ≤ r.kept.view) (w : World) : Calls Try.prog 37 #[.agg #[.int .i64 r.me, .int .i64 r.kept.view, .int .i64 r.kept.normal, .bool r.kept.calm, lv, .int .i64 r.kept.commit, hv, wv, gv, nv]] w fun e w' => e = .returned (.bool (Scu.leads r)) ∧ Below w.heap.size w w' :=
  leadsNow_x _ _ _ _ _ _ _ _ _ _ r h0 rfl rfl rfl w
end Go.Proofs.Ytlaibljdlpmbfaa
/- Walks: may a message be? The program's and the reference's; the law ReplicaMessages. -/
namespace Go.Proofs.Ytlaibljdlpmbfaa
open Go.RowKit Go.ChangeShapes Go.WideShapes Go.ChangeAt
set_option maxHeartbeats 4000000
set_option maxRecDepth 100000

def MC2 (fr tq vi n : Int) : Prop := fr < 0 ∨ 3 ≤ fr ∨ tq < 0 ∨ 3 ≤ tq ∨ fr = tq ∨ vi < 0 ∨ 1048576 < vi ∨ n < 0 ∨ 60 < n
def MC3 (ki no co n : Int) (lo : List Scu.Str) : Prop := (ki ≠ 4 ∧ no ≠ 0) ∨ (ki ≠ 2 ∧ n ≠ 0) ∨ ((ki = 2 ∨ ki = 3) ∧ (co ≠ 0 ∨ lo ≠ []))
def MC4 (ki fr tq vi : Int) : Prop := (ki = 1 ∧ fr ≠ vi % 3) ∨ ((ki = 2 ∨ ki = 4) ∧ tq ≠ vi % 3)
section
variable {ki fr tq vi no co n : Int} {lo : List Scu.Str}
theorem msg_bad3 (h : ki < 1 ∨ 4 < ki) : Scu.msgFault ⟨ki, fr, tq, vi, no, co, n, lo⟩ = 3 := if_pos h
theorem msg_bad2 (h1 : ¬ (ki < 1 ∨ 4 < ki)) (h2 : MC2 fr tq vi n) : Scu.msgFault ⟨ki, fr, tq, vi, no, co, n, lo⟩ = 2 := (if_neg h1).trans (if_pos h2)
theorem msg_bad4a (h1 : ¬ (ki < 1 ∨ 4 < ki)) (h2 : ¬ MC2 fr tq vi n) (h3 : MC3 ki no co n lo) : Scu.msgFault ⟨ki, fr, tq, vi, no, co, n, lo⟩ = 4 := ((if_neg h1).trans (if_neg h2)).trans (if_pos h3)
theorem msg_bad4b (h1 : ¬ (ki < 1 ∨ 4 < ki)) (h2 : ¬ MC2 fr tq vi n) (h3 : ¬ MC3 ki no co n lo) (h4 : MC4 ki fr tq vi) : Scu.msgFault ⟨ki, fr, tq, vi, no, co, n, lo⟩ = 4 := (((if_neg h1).trans (if_neg h2)).trans (if_neg h3)).trans (if_pos h4)
theorem msg_ok (h1 : ¬ (ki < 1 ∨ 4 < ki)) (h2 : ¬ MC2 fr tq vi n) (h3 : ¬ MC3 ki no co n lo) (h4 : ¬ MC4 ki fr tq vi) : Scu.msgFault ⟨ki, fr, tq, vi, no, co, n, lo⟩ = Scu.keptFault ⟨vi, no, false, lo, co⟩ := (((if_neg h1).trans (if_neg h2)).trans (if_neg h3)).trans (if_neg h4)
end
theorem nil_of {lo : List Scu.Str} (h : decide (0 < lo.length) = false) : lo = [] := by
  have := of_decide_eq_false h
  exact List.eq_nil_of_length_eq_zero (by omega)
theorem not_nil {lo : List Scu.Str} (h : decide (0 < lo.length) = true) : lo ≠ [] := by
  have := of_decide_eq_true h
  rintro rfl
  simp at this

theorem msgCheck_x (lv : Value) (ki fr tq vi no co n : Int) (lo : List Scu.Str) (w : World) (B : Nat) (hv : IsStrs w B lv lo) :
    Calls Try.prog 11 #[.agg #[.int .i64 ki, .int .i64 fr, .int .i64 tq, .int .i64 vi, .int .i64 no, .int .i64 co, .int .i64 n, lv]] w fun e w' =>
      e = .returned (.int .i64 (Scu.msgFault ⟨ki, fr, tq, vi, no, co, n, lo⟩)) ∧ Below w.heap.size w w' := by
  have HV := Lib.hid hv
  obtain ⟨⟨A, c, rfl, _, hr⟩, hl, he⟩ := hv
  unfold R47 at hl
  clear hr he
  cases t1 : decide (ki < 1) with
  | true =>
    have HF := Lib.hid (show Scu.msgFault ⟨ki, fr, tq, vi, no, co, n, lo⟩ = 3 from msg_bad3 (.inl (of_decide_eq_true t1)))
    clear HV
    go_enter Try.func11, Try.ntmps11
    go_wp2
    go_ret
    exact ⟨ret_val (int_eq HF.out.symm), below_alloc w _⟩
  | false =>
  cases t2 : decide ((4 : Int) < ki) with
  | true =>
    have HF := Lib.hid (show Scu.msgFault ⟨ki, fr, tq, vi, no, co, n, lo⟩ = 3 from msg_bad3 (.inr (of_decide_eq_true t2)))
    clear HV
    go_enter Try.func11, Try.ntmps11
    go_wp2
    go_ret
    exact ⟨ret_val (int_eq HF.out.symm), below_alloc w _⟩
  | false =>
  have H1 := Lib.hid (show ¬ (ki < 1 ∨ 4 < ki) from fun h => h.elim (of_decide_eq_false t1) (of_decide_eq_false t2))
  cases t3 : decide (fr < 0) with
  | true =>
    have HF := Lib.hid (show Scu.msgFault ⟨ki, fr, tq, vi, no, co, n, lo⟩ = 2 from msg_bad2 H1.out (.inl (of_decide_eq_true t3)))
    clear HV
    go_enter Try.func11, Try.ntmps11
    go_wp2
    go_ret
    exact ⟨ret_val (int_eq HF.out.symm), below_alloc w _⟩
  | false =>
  cases t4 : decide ((3 : Int) ≤ fr) with
  | true =>
    have HF := Lib.hid (show Scu.msgFault ⟨ki, fr, tq, vi, no, co, n, lo⟩ = 2 from msg_bad2 H1.out (.inr (.inl (of_decide_eq_true t4))))
    clear HV
    go_enter Try.func11, Try.ntmps11
    go_wp2
    go_ret
    exact ⟨ret_val (int_eq HF.out.symm), below_alloc w _⟩
  | false =>
  cases t5 : decide (tq < 0) with
  | true =>
    have HF := Lib.hid (show Scu.msgFault ⟨ki, fr, tq, vi, no, co, n, lo⟩ = 2 from msg_bad2 H1.out (.inr (.inr (.inl (of_decide_eq_true t5)))))
    clear HV
    go_enter Try.func11, Try.ntmps11
    go_wp2
    go_ret
    exact ⟨ret_val (int_eq HF.out.symm), below_alloc w _⟩
  | false =>
  cases t6 : decide ((3 : Int) ≤ tq) with
  | true =>
    have HF := Lib.hid (show Scu.msgFault ⟨ki, fr, tq, vi, no, co, n, lo⟩ = 2 from msg_bad2 H1.out (.inr (.inr (.inr (.inl (of_decide_eq_true t6))))))
    clear HV
    go_enter Try.func11, Try.ntmps11
    go_wp2
    go_ret
    exact ⟨ret_val (int_eq HF.out.symm), below_alloc w _⟩
  | false =>
  cases t7 : (fr == tq) with
  | true =>
    have HF := Lib.hid (show Scu.msgFault ⟨ki, fr, tq, vi, no, co, n, lo⟩ = 2 from msg_bad2 H1.out (.inr (.inr (.inr (.inr (.inl (by simpa using t7)))))))
    clear HV
    go_enter Try.func11, Try.ntmps11
    go_wp2
    go_ret
    exact ⟨ret_val (int_eq HF.out.symm), below_alloc w _⟩
  | false =>
  cases t8 : decide (vi < 0) with
  | true =>
    have HF := Lib.hid (show Scu.msgFault ⟨ki, fr, tq, vi, no, co, n, lo⟩ = 2 from msg_bad2 H1.out (.inr (.inr (.inr (.inr (.inr (.inl (of_decide_eq_true t8))))))))
    clear HV
    go_enter Try.func11, Try.ntmps11
    go_wp2
    go_ret
    exact ⟨ret_val (int_eq HF.out.symm), below_alloc w _⟩
  | false =>
  cases t9 : decide ((1048576 : Int) < vi) with
  | true =>
    have HF := Lib.hid (show Scu.msgFault ⟨ki, fr, tq, vi, no, co, n, lo⟩ = 2 from msg_bad2 H1.out (.inr (.inr (.inr (.inr (.inr (.inr (.inl (of_decide_eq_true t9)))))))))
    clear HV
    go_enter Try.func11, Try.ntmps11
    go_wp2
    go_ret
    exact ⟨ret_val (int_eq HF.out.symm), below_alloc w _⟩
  | false =>
  cases t10 : decide (n < 0) with
  | true =>
    have HF := Lib.hid (show Scu.msgFault ⟨ki, fr, tq, vi, no, co, n, lo⟩ = 2 from msg_bad2 H1.out (.inr (.inr (.inr (.inr (.inr (.inr (.inr (.inl (of_decide_eq_true t10))))))))))
    clear HV
    go_enter Try.func11, Try.ntmps11
    go_wp2
    go_ret
    exact ⟨ret_val (int_eq HF.out.symm), below_alloc w _⟩
  | false =>
  cases t11 : decide ((60 : Int) < n) with
  | true =>
    have HF := Lib.hid (show Scu.msgFault ⟨ki, fr, tq, vi, no, co, n, lo⟩ = 2 from msg_bad2 H1.out (.inr (.inr (.inr (.inr (.inr (.inr (.inr (.inr (of_decide_eq_true t11))))))))))
    clear HV
    go_enter Try.func11, Try.ntmps11
    go_wp2
    go_ret
    exact ⟨ret_val (int_eq HF.out.symm), below_alloc w _⟩
  | false =>
  have H2 := Lib.hid (show ¬ MC2 fr tq vi n by
    have := of_decide_eq_false t3
    have := of_decide_eq_false t4
    have := of_decide_eq_false t5
    have := of_decide_eq_false t6
    have h7 : fr ≠ tq := by simpa using t7
    have := of_decide_eq_false t8
    have := of_decide_eq_false t9
    have := of_decide_eq_false t10
    have := of_decide_eq_false t11
    unfold MC2
    omega)
  have hvi : 0 ≤ vi := by have := of_decide_eq_false t8; omega
  have h4 : ki = 1 ∨ ki = 2 ∨ ki = 3 ∨ ki = 4 := by have := H1.out; omega
  rcases h4 with rfl | rfl | rfl | rfl
  all_goals clear t1 t2
  · cases u1 : (no != 0) with
    | true =>
      have HF := Lib.hid (show Scu.msgFault ⟨1, fr, tq, vi, no, co, n, lo⟩ = 4 from msg_bad4a H1.out H2.out (.inl ⟨by decide, by simpa using u1⟩))
      clear HV
      go_enter Try.func11, Try.ntmps11
      go_wp2
      go_ret
      exact ⟨ret_val (int_eq HF.out.symm), below_alloc w _⟩
    | false =>
    cases u2 : (n != 0) with
    | true =>
      have HF := Lib.hid (show Scu.msgFault ⟨1, fr, tq, vi, no, co, n, lo⟩ = 4 from msg_bad4a H1.out H2.out (.inr (.inl ⟨by decide, by simpa using u2⟩)))
      clear HV
      go_enter Try.func11, Try.ntmps11
      go_wp2
      go_ret
      exact ⟨ret_val (int_eq HF.out.symm), below_alloc w _⟩
    | false =>
    have H3 := Lib.hid (show ¬ MC3 1 no co n lo by
      have : no = 0 := by simpa using u1
      have : n = 0 := by simpa using u2
      unfold MC3; simp; omega)
    cases u3 : (fr != vi % 3) with
    | true =>
      have HF := Lib.hid (show Scu.msgFault ⟨1, fr, tq, vi, no, co, n, lo⟩ = 4 from msg_bad4b H1.out H2.out H3.out (.inl ⟨rfl, by simpa using u3⟩))
      clear HV
      go_enter Try.func11, Try.ntmps11
      go_wp2
      go_quiet ((go_at_call 23; exact quiet_at ((leader_c _ _ hvi).mono fun _ _ h => ⟨h.1, 0, h.2.symm⟩)))
      go_wp2
      go_ret
      exact ⟨ret_val (int_eq HF.out.symm), below_drewN (below_alloc w _) _⟩
    | false =>
    have HF := Lib.hid (show Scu.msgFault ⟨1, fr, tq, vi, no, co, n, lo⟩ = Scu.keptFault ⟨vi, no, false, lo, co⟩ from msg_ok H1.out H2.out H3.out (by have h : fr = vi % 3 := by { simpa using u3 }; unfold MC4; omega))
    go_enter Try.func11, Try.ntmps11
    go_wp2
    go_quiet ((go_at_call 23; exact quiet_at ((leader_c _ _ hvi).mono fun _ _ h => ⟨h.1, 0, h.2.symm⟩)))
    have hB := below_drewN (below_alloc w (Obj.cells #[.int .i64 1, .int .i64 fr, .int .i64 tq, .int .i64 vi, .int .i64 no, .int .i64 co, .int .i64 n, .slice A lo.length c] 31))
    have HB := Lib.hid hB
    clear hB
    go_wp2_with fail
    refine (stageCheck_x _ vi no false lo co _ B ((HV.out.alloc _).drewN _)).mono ?_; rintro e w1 ⟨rfl, h1⟩
    go_wp2
    go_ret
    exact ⟨ret_val (int_eq HF.out.symm), (HB.out _).trans (h1.mono (HB.out _).size)⟩
  · cases u1 : (no != 0) with
    | true =>
      have HF := Lib.hid (show Scu.msgFault ⟨2, fr, tq, vi, no, co, n, lo⟩ = 4 from msg_bad4a H1.out H2.out (.inl ⟨by decide, by simpa using u1⟩))
      clear HV
      go_enter Try.func11, Try.ntmps11
      go_wp2
      go_ret
      exact ⟨ret_val (int_eq HF.out.symm), below_alloc w _⟩
    | false =>
    cases u2 : (co != 0) with
    | true =>
      have HF := Lib.hid (show Scu.msgFault ⟨2, fr, tq, vi, no, co, n, lo⟩ = 4 from msg_bad4a H1.out H2.out (.inr (.inr ⟨.inl rfl, .inl (by simpa using u2)⟩)))
      clear HV
      go_enter Try.func11, Try.ntmps11
      go_wp2
      go_ret
      exact ⟨ret_val (int_eq HF.out.symm), below_alloc w _⟩
    | false =>
    cases u4 : decide (0 < lo.length) with
    | true =>
      have HF := Lib.hid (show Scu.msgFault ⟨2, fr, tq, vi, no, co, n, lo⟩ = 4 from msg_bad4a H1.out H2.out (.inr (.inr ⟨.inl rfl, .inr (not_nil u4)⟩)))
      clear HV
      go_enter Try.func11, Try.ntmps11
      go_wp2
      go_ret
      exact ⟨ret_val (int_eq HF.out.symm), below_alloc w _⟩
    | false =>
    have H3 := Lib.hid (show ¬ MC3 2 no co n lo by
      have : no = 0 := by simpa using u1
      have : co = 0 := by simpa using u2
      have h5 := nil_of u4
      unfold MC3; simp [h5]; omega)
    cases u3 : (tq != vi % 3) with
    | true =>
      have HF := Lib.hid (show Scu.msgFault ⟨2, fr, tq, vi, no, co, n, lo⟩ = 4 from msg_bad4b H1.out H2.out H3.out (.inr ⟨.inl rfl, by simpa using u3⟩))
      clear HV
      go_enter Try.func11, Try.ntmps11
      go_wp2
      go_quiet ((go_at_call 23; exact quiet_at ((leader_c _ _ hvi).mono fun _ _ h => ⟨h.1, 0, h.2.symm⟩)))
      go_wp2
      go_ret
      exact ⟨ret_val (int_eq HF.out.symm), below_drewN (below_alloc w _) _⟩
    | false =>
    have HF := Lib.hid (show Scu.msgFault ⟨2, fr, tq, vi, no, co, n, lo⟩ = Scu.keptFault ⟨vi, no, false, lo, co⟩ from msg_ok H1.out H2.out H3.out (by have h : tq = vi % 3 := by { simpa using u3 }; unfold MC4; omega))
    go_enter Try.func11, Try.ntmps11
    go_wp2
    go_quiet ((go_at_call 23; exact quiet_at ((leader_c _ _ hvi).mono fun _ _ h => ⟨h.1, 0, h.2.symm⟩)))
    have hB := below_drewN (below_alloc w (Obj.cells #[.int .i64 2, .int .i64 fr, .int .i64 tq, .int .i64 vi, .int .i64 no, .int .i64 co, .int .i64 n, .slice A lo.length c] 31))
    have HB := Lib.hid hB
    clear hB
    go_wp2_with fail
    refine (stageCheck_x _ vi no false lo co _ B ((HV.out.alloc _).drewN _)).mono ?_; rintro e w1 ⟨rfl, h1⟩
    go_wp2
    go_ret
    exact ⟨ret_val (int_eq HF.out.symm), (HB.out _).trans (h1.mono (HB.out _).size)⟩
  · cases u1 : (no != 0) with
    | true =>
      have HF := Lib.hid (show Scu.msgFault ⟨3, fr, tq, vi, no, co, n, lo⟩ = 4 from msg_bad4a H1.out H2.out (.inl ⟨by decide, by simpa using u1⟩))
      clear HV
      go_enter Try.func11, Try.ntmps11
      go_wp2
      go_ret
      exact ⟨ret_val (int_eq HF.out.symm), below_alloc w _⟩
    | false =>
    cases u5 : (n != 0) with
    | true =>
      have HF := Lib.hid (show Scu.msgFault ⟨3, fr, tq, vi, no, co, n, lo⟩ = 4 from msg_bad4a H1.out H2.out (.inr (.inl ⟨by decide, by simpa using u5⟩)))
      clear HV
      go_enter Try.func11, Try.ntmps11
      go_wp2
      go_ret
      exact ⟨ret_val (int_eq HF.out.symm), below_alloc w _⟩
    | false =>
    cases u2 : (co != 0) with
    | true =>
      have HF := Lib.hid (show Scu.msgFault ⟨3, fr, tq, vi, no, co, n, lo⟩ = 4 from msg_bad4a H1.out H2.out (.inr (.inr ⟨.inr rfl, .inl (by simpa using u2)⟩)))
      clear HV
      go_enter Try.func11, Try.ntmps11
      go_wp2
      go_ret
      exact ⟨ret_val (int_eq HF.out.symm), below_alloc w _⟩
    | false =>
    cases u4 : decide (0 < lo.length) with
    | true =>
      have HF := Lib.hid (show Scu.msgFault ⟨3, fr, tq, vi, no, co, n, lo⟩ = 4 from msg_bad4a H1.out H2.out (.inr (.inr ⟨.inr rfl, .inr (not_nil u4)⟩)))
      clear HV
      go_enter Try.func11, Try.ntmps11
      go_wp2
      go_ret
      exact ⟨ret_val (int_eq HF.out.symm), below_alloc w _⟩
    | false =>
    have H3 := Lib.hid (show ¬ MC3 3 no co n lo by
      have : no = 0 := by simpa using u1
      have : co = 0 := by simpa using u2
      have : n = 0 := by simpa using u5
      have h5 := nil_of u4
      unfold MC3; simp [h5]; omega)
    have HF := Lib.hid (show Scu.msgFault ⟨3, fr, tq, vi, no, co, n, lo⟩ = Scu.keptFault ⟨vi, no, false, lo, co⟩ from msg_ok H1.out H2.out H3.out (by unfold MC4; omega))
    go_enter Try.func11, Try.ntmps11
    go_wp2
    go_quiet ((go_at_call 23; exact quiet_at ((leader_c _ _ hvi).mono fun _ _ h => ⟨h.1, 0, h.2.symm⟩)))
    have hB := below_drewN (below_alloc w (Obj.cells #[.int .i64 3, .int .i64 fr, .int .i64 tq, .int .i64 vi, .int .i64 no, .int .i64 co, .int .i64 n, .slice A lo.length c] 31))
    have HB := Lib.hid hB
    clear hB
    go_wp2_with fail
    refine (stageCheck_x _ vi no false lo co _ B ((HV.out.alloc _).drewN _)).mono ?_; rintro e w1 ⟨rfl, h1⟩
    go_wp2
    go_ret
    exact ⟨ret_val (int_eq HF.out.symm), (HB.out _).trans (h1.mono (HB.out _).size)⟩
  · cases u2 : (n != 0) with
    | true =>
      have HF := Lib.hid (show Scu.msgFault ⟨4, fr, tq, vi, no, co, n, lo⟩ = 4 from msg_bad4a H1.out H2.out (.inr (.inl ⟨by decide, by simpa using u2⟩)))
      clear HV
      go_enter Try.func11, Try.ntmps11
      go_wp2
      go_ret
      exact ⟨ret_val (int_eq HF.out.symm), below_alloc w _⟩
    | false =>
    have H3 := Lib.hid (show ¬ MC3 4 no co n lo by
      have : n = 0 := by simpa using u2
      unfold MC3; simp; omega)
    cases u3 : (tq != vi % 3) with
    | true =>
      have HF := Lib.hid (show Scu.msgFault ⟨4, fr, tq, vi, no, co, n, lo⟩ = 4 from msg_bad4b H1.out H2.out H3.out (.inr ⟨.inr rfl, by simpa using u3⟩))
      clear HV
      go_enter Try.func11, Try.ntmps11
      go_wp2
      go_quiet ((go_at_call 23; exact quiet_at ((leader_c _ _ hvi).mono fun _ _ h => ⟨h.1, 0, h.2.symm⟩)))
      go_wp2
      go_ret
      exact ⟨ret_val (int_eq HF.out.symm), below_drewN (below_alloc w _) _⟩
    | false =>
    have HF := Lib.hid (show Scu.msgFault ⟨4, fr, tq, vi, no, co, n, lo⟩ = Scu.keptFault ⟨vi, no, false, lo, co⟩ from msg_ok H1.out H2.out H3.out (by have h : tq = vi % 3 := by { simpa using u3 }; unfold MC4; omega))
    go_enter Try.func11, Try.ntmps11
    go_wp2
    go_quiet ((go_at_call 23; exact quiet_at ((leader_c _ _ hvi).mono fun _ _ h => ⟨h.1, 0, h.2.symm⟩)))
    have hB := below_drewN (below_alloc w (Obj.cells #[.int .i64 4, .int .i64 fr, .int .i64 tq, .int .i64 vi, .int .i64 no, .int .i64 co, .int .i64 n, .slice A lo.length c] 31))
    have HB := Lib.hid hB
    clear hB
    go_wp2_with fail
    refine (stageCheck_x _ vi no false lo co _ B ((HV.out.alloc _).drewN _)).mono ?_; rintro e w1 ⟨rfl, h1⟩
    go_wp2
    go_ret
    exact ⟨ret_val (int_eq HF.out.symm), (HB.out _).trans (h1.mono (HB.out _).size)⟩
end Go.Proofs.Ytlaibljdlpmbfaa
/- Walks: may a message be? The reference's; how a message that came in is opened; the law ReplicaMessages. -/
namespace Go.Proofs.Ytlaibljdlpmbfaa
open Go.RowKit Go.ChangeShapes Go.WideShapes Go.ChangeAt
set_option maxHeartbeats 4000000
set_option maxRecDepth 100000
theorem messageFault_x (lv : Value) (ki fr tq vi no co n : Int) (lo : List Scu.Str) (w : World) (B : Nat) (hv : IsStrs w B lv lo) :
    Calls Try.prog 17 #[.agg #[.int .i64 ki, .int .i64 fr, .int .i64 tq, .int .i64 vi, .int .i64 no, .int .i64 co, .int .i64 n, lv]] w fun e w' =>
      e = .returned (.int .i64 (Scu.msgFault ⟨ki, fr, tq, vi, no, co, n, lo⟩)) ∧ Below w.heap.size w w' := by
  have HV := Lib.hid hv
  obtain ⟨⟨A, c, rfl, _, hr⟩, hl, he⟩ := hv
  unfold R47 at hl
  clear hr he
  cases t1 : inB ki 1 4 with
  | false =>
    have U1 := Lib.hid t1
    clear t1
    have HF := Lib.hid (show Scu.msgFault ⟨ki, fr, tq, vi, no, co, n, lo⟩ = 3 from msg_bad3 (by have := inB_no U1.out; omega))
    clear HV
    go_enter Try.func17, Try.ntmps17
    go_wp2_with (go_at_call 33; refine (inn_c _ _ _ _).mono ?_; rintro e w1 ⟨rfl, rfl⟩; first | rw [U1.out] | rw [U2.out] | rw [U3.out] | rw [U4.out] | rw [U5.out])
    go_ret
    exact ⟨ret_val (int_eq HF.out.symm), below_alloc w _⟩
  | true =>
  have U1 := Lib.hid t1
  have H1 := Lib.hid (show ¬ (ki < 1 ∨ 4 < ki) by have := inB_yes t1; omega)
  clear t1
  cases t2 : inB fr 0 2 with
  | false =>
    have U2 := Lib.hid t2
    clear t2
    have HF := Lib.hid (show Scu.msgFault ⟨ki, fr, tq, vi, no, co, n, lo⟩ = 2 from msg_bad2 H1.out (by have := inB_no U2.out; unfold MC2; omega))
    clear HV
    go_enter Try.func17, Try.ntmps17
    go_wp2_with (go_at_call 33; refine (inn_c _ _ _ _).mono ?_; rintro e w1 ⟨rfl, rfl⟩; first | rw [U1.out] | rw [U2.out] | rw [U3.out] | rw [U4.out] | rw [U5.out])
    go_ret
    exact ⟨ret_val (int_eq HF.out.symm), below_alloc w _⟩
  | true =>
  have U2 := Lib.hid t2
  clear t2
  cases t3 : inB tq 0 2 with
  | false =>
    have U3 := Lib.hid t3
    clear t3
    have HF := Lib.hid (show Scu.msgFault ⟨ki, fr, tq, vi, no, co, n, lo⟩ = 2 from msg_bad2 H1.out (by have := inB_no U3.out; unfold MC2; omega))
    clear HV
    go_enter Try.func17, Try.ntmps17
    go_wp2_with (go_at_call 33; refine (inn_c _ _ _ _).mono ?_; rintro e w1 ⟨rfl, rfl⟩; first | rw [U1.out] | rw [U2.out] | rw [U3.out] | rw [U4.out] | rw [U5.out])
    go_ret
    exact ⟨ret_val (int_eq HF.out.symm), below_alloc w _⟩
  | true =>
  have U3 := Lib.hid t3
  clear t3
  cases t7 : (fr == tq) with
  | true =>
    have HF := Lib.hid (show Scu.msgFault ⟨ki, fr, tq, vi, no, co, n, lo⟩ = 2 from msg_bad2 H1.out (.inr (.inr (.inr (.inr (.inl (by simpa using t7)))))))
    clear HV
    go_enter Try.func17, Try.ntmps17
    go_wp2_with (go_at_call 33; refine (inn_c _ _ _ _).mono ?_; rintro e w1 ⟨rfl, rfl⟩; first | rw [U1.out] | rw [U2.out] | rw [U3.out] | rw [U4.out] | rw [U5.out])
    go_ret
    exact ⟨ret_val (int_eq HF.out.symm), below_alloc w _⟩
  | false =>
  cases t4 : inB vi 0 1048576 with
  | false =>
    have U4 := Lib.hid t4
    clear t4
    have HF := Lib.hid (show Scu.msgFault ⟨ki, fr, tq, vi, no, co, n, lo⟩ = 2 from msg_bad2 H1.out (by have := inB_no U4.out; unfold MC2; omega))
    clear HV
    go_enter Try.func17, Try.ntmps17
    go_wp2_with (go_at_call 33; refine (inn_c _ _ _ _).mono ?_; rintro e w1 ⟨rfl, rfl⟩; first | rw [U1.out] | rw [U2.out] | rw [U3.out] | rw [U4.out] | rw [U5.out])
    go_ret
    exact ⟨ret_val (int_eq HF.out.symm), below_alloc w _⟩
  | true =>
  have U4 := Lib.hid t4
  clear t4
  cases t5 : inB n 0 60 with
  | false =>
    have U5 := Lib.hid t5
    clear t5
    have HF := Lib.hid (show Scu.msgFault ⟨ki, fr, tq, vi, no, co, n, lo⟩ = 2 from msg_bad2 H1.out (by have := inB_no U5.out; unfold MC2; omega))
    clear HV
    go_enter Try.func17, Try.ntmps17
    go_wp2_with (go_at_call 33; refine (inn_c _ _ _ _).mono ?_; rintro e w1 ⟨rfl, rfl⟩; first | rw [U1.out] | rw [U2.out] | rw [U3.out] | rw [U4.out] | rw [U5.out])
    go_ret
    exact ⟨ret_val (int_eq HF.out.symm), below_alloc w _⟩
  | true =>
  have U5 := Lib.hid t5
  clear t5
  have H2 := Lib.hid (show ¬ MC2 fr tq vi n by
    have := inB_yes U2.out
    have := inB_yes U3.out
    have := inB_yes U4.out
    have := inB_yes U5.out
    have h7 : fr ≠ tq := by simpa using t7
    unfold MC2
    omega)
  have hvi : 0 ≤ vi := by have := inB_yes U4.out; omega
  have h4 : ki = 1 ∨ ki = 2 ∨ ki = 3 ∨ ki = 4 := by have := H1.out; omega
  rcases h4 with rfl | rfl | rfl | rfl
  · cases u1 : (no != 0) with
    | true =>
      have HF := Lib.hid (show Scu.msgFault ⟨1, fr, tq, vi, no, co, n, lo⟩ = 4 from msg_bad4a H1.out H2.out (.inl ⟨by decide, by simpa using u1⟩))
      clear HV
      go_enter Try.func17, Try.ntmps17
      go_wp2_with (go_at_call 33; refine (inn_c _ _ _ _).mono ?_; rintro e w1 ⟨rfl, rfl⟩; first | rw [U1.out] | rw [U2.out] | rw [U3.out] | rw [U4.out] | rw [U5.out])
      go_ret
      exact ⟨ret_val (int_eq HF.out.symm), below_alloc w _⟩
    | false =>
    cases u2 : (n != 0) with
    | true =>
      have HF := Lib.hid (show Scu.msgFault ⟨1, fr, tq, vi, no, co, n, lo⟩ = 4 from msg_bad4a H1.out H2.out (.inr (.inl ⟨by decide, by simpa using u2⟩)))
      clear HV
      go_enter Try.func17, Try.ntmps17
      go_wp2_with (go_at_call 33; refine (inn_c _ _ _ _).mono ?_; rintro e w1 ⟨rfl, rfl⟩; first | rw [U1.out] | rw [U2.out] | rw [U3.out] | rw [U4.out] | rw [U5.out])
      go_ret
      exact ⟨ret_val (int_eq HF.out.symm), below_alloc w _⟩
    | false =>
    have H3 := Lib.hid (show ¬ MC3 1 no co n lo by
      have : no = 0 := by simpa using u1
      have : n = 0 := by simpa using u2
      unfold MC3; simp; omega)
    cases u3 : (fr != vi % 3) with
    | true =>
      have HF := Lib.hid (show Scu.msgFault ⟨1, fr, tq, vi, no, co, n, lo⟩ = 4 from msg_bad4b H1.out H2.out H3.out (.inl ⟨rfl, by simpa using u3⟩))
      clear HV
      go_enter Try.func17, Try.ntmps17
      go_wp2_with (go_at_call 33; refine (inn_c _ _ _ _).mono ?_; rintro e w1 ⟨rfl, rfl⟩; first | rw [U1.out] | rw [U2.out] | rw [U3.out] | rw [U4.out] | rw [U5.out])
      go_ret
      exact ⟨ret_val (int_eq HF.out.symm), below_alloc w _⟩
    | false =>
    have HF := Lib.hid (show Scu.msgFault ⟨1, fr, tq, vi, no, co, n, lo⟩ = Scu.keptFault ⟨vi, no, false, lo, co⟩ from msg_ok H1.out H2.out H3.out (by have h : fr = vi % 3 := by { simpa using u3 }; unfold MC4; omega))
    go_enter Try.func17, Try.ntmps17
    go_wp2_with (go_at_call 33; refine (inn_c _ _ _ _).mono ?_; rintro e w1 ⟨rfl, rfl⟩; first | rw [U1.out] | rw [U2.out] | rw [U3.out] | rw [U4.out] | rw [U5.out])
    refine (keptFault_x _ vi no false lo co _ B (HV.out.alloc _)).mono ?_; rintro e w1 ⟨rfl, h1⟩
    go_wp2
    go_ret
    exact ⟨ret_val (int_eq HF.out.symm), below_box h1⟩
  · cases u1 : (no != 0) with
    | true =>
      have HF := Lib.hid (show Scu.msgFault ⟨2, fr, tq, vi, no, co, n, lo⟩ = 4 from msg_bad4a H1.out H2.out (.inl ⟨by decide, by simpa using u1⟩))
      clear HV
      go_enter Try.func17, Try.ntmps17
      go_wp2_with (go_at_call 33; refine (inn_c _ _ _ _).mono ?_; rintro e w1 ⟨rfl, rfl⟩; first | rw [U1.out] | rw [U2.out] | rw [U3.out] | rw [U4.out] | rw [U5.out])
      go_ret
      exact ⟨ret_val (int_eq HF.out.symm), below_alloc w _⟩
    | false =>
    cases u2 : (co != 0) with
    | true =>
      have HF := Lib.hid (show Scu.msgFault ⟨2, fr, tq, vi, no, co, n, lo⟩ = 4 from msg_bad4a H1.out H2.out (.inr (.inr ⟨.inl rfl, .inl (by simpa using u2)⟩)))
      clear HV
      go_enter Try.func17, Try.ntmps17
      go_wp2_with (go_at_call 33; refine (inn_c _ _ _ _).mono ?_; rintro e w1 ⟨rfl, rfl⟩; first | rw [U1.out] | rw [U2.out] | rw [U3.out] | rw [U4.out] | rw [U5.out])
      go_ret
      exact ⟨ret_val (int_eq HF.out.symm), below_alloc w _⟩
    | false =>
    cases u4 : ((lo.length : Int) != 0) with
    | true =>
      have HF := Lib.hid (show Scu.msgFault ⟨2, fr, tq, vi, no, co, n, lo⟩ = 4 from msg_bad4a H1.out H2.out (.inr (.inr ⟨.inl rfl, .inr (by rintro rfl; simp at u4)⟩)))
      clear HV
      go_enter Try.func17, Try.ntmps17
      go_wp2_with (go_at_call 33; refine (inn_c _ _ _ _).mono ?_; rintro e w1 ⟨rfl, rfl⟩; first | rw [U1.out] | rw [U2.out] | rw [U3.out] | rw [U4.out] | rw [U5.out])
      go_ret
      exact ⟨ret_val (int_eq HF.out.symm), below_alloc w _⟩
    | false =>
    have H3 := Lib.hid (show ¬ MC3 2 no co n lo by
      have : no = 0 := by simpa using u1
      have : co = 0 := by simpa using u2
      have h5 : lo = [] := by simpa using u4
      unfold MC3; simp [h5]; omega)
    cases u3 : (tq != vi % 3) with
    | true =>
      have HF := Lib.hid (show Scu.msgFault ⟨2, fr, tq, vi, no, co, n, lo⟩ = 4 from msg_bad4b H1.out H2.out H3.out (.inr ⟨.inl rfl, by simpa using u3⟩))
      clear HV
      go_enter Try.func17, Try.ntmps17
      go_wp2_with (go_at_call 33; refine (inn_c _ _ _ _).mono ?_; rintro e w1 ⟨rfl, rfl⟩; first | rw [U1.out] | rw [U2.out] | rw [U3.out] | rw [U4.out] | rw [U5.out])
      go_ret
      exact ⟨ret_val (int_eq HF.out.symm), below_alloc w _⟩
    | false =>
    have HF := Lib.hid (show Scu.msgFault ⟨2, fr, tq, vi, no, co, n, lo⟩ = Scu.keptFault ⟨vi, no, false, lo, co⟩ from msg_ok H1.out H2.out H3.out (by have h : tq = vi % 3 := by { simpa using u3 }; unfold MC4; omega))
    go_enter Try.func17, Try.ntmps17
    go_wp2_with (go_at_call 33; refine (inn_c _ _ _ _).mono ?_; rintro e w1 ⟨rfl, rfl⟩; first | rw [U1.out] | rw [U2.out] | rw [U3.out] | rw [U4.out] | rw [U5.out])
    refine (keptFault_x _ vi no false lo co _ B (HV.out.alloc _)).mono ?_; rintro e w1 ⟨rfl, h1⟩
    go_wp2
    go_ret
    exact ⟨ret_val (int_eq HF.out.symm), below_box h1⟩
  · cases u1 : (no != 0) with
    | true =>
      have HF := Lib.hid (show Scu.msgFault ⟨3, fr, tq, vi, no, co, n, lo⟩ = 4 from msg_bad4a H1.out H2.out (.inl ⟨by decide, by simpa using u1⟩))
      clear HV
      go_enter Try.func17, Try.ntmps17
      go_wp2_with (go_at_call 33; refine (inn_c _ _ _ _).mono ?_; rintro e w1 ⟨rfl, rfl⟩; first | rw [U1.out] | rw [U2.out] | rw [U3.out] | rw [U4.out] | rw [U5.out])
      go_ret
      exact ⟨ret_val (int_eq HF.out.symm), below_alloc w _⟩
    | false =>
    cases u5 : (n != 0) with
    | true =>
      have HF := Lib.hid (show Scu.msgFault ⟨3, fr, tq, vi, no, co, n, lo⟩ = 4 from msg_bad4a H1.out H2.out (.inr (.inl ⟨by decide, by simpa using u5⟩)))
      clear HV
      go_enter Try.func17, Try.ntmps17
      go_wp2_with (go_at_call 33; refine (inn_c _ _ _ _).mono ?_; rintro e w1 ⟨rfl, rfl⟩; first | rw [U1.out] | rw [U2.out] | rw [U3.out] | rw [U4.out] | rw [U5.out])
      go_ret
      exact ⟨ret_val (int_eq HF.out.symm), below_alloc w _⟩
    | false =>
    cases u2 : (co != 0) with
    | true =>
      have HF := Lib.hid (show Scu.msgFault ⟨3, fr, tq, vi, no, co, n, lo⟩ = 4 from msg_bad4a H1.out H2.out (.inr (.inr ⟨.inr rfl, .inl (by simpa using u2)⟩)))
      clear HV
      go_enter Try.func17, Try.ntmps17
      go_wp2_with (go_at_call 33; refine (inn_c _ _ _ _).mono ?_; rintro e w1 ⟨rfl, rfl⟩; first | rw [U1.out] | rw [U2.out] | rw [U3.out] | rw [U4.out] | rw [U5.out])
      go_ret
      exact ⟨ret_val (int_eq HF.out.symm), below_alloc w _⟩
    | false =>
    cases u4 : ((lo.length : Int) != 0) with
    | true =>
      have HF := Lib.hid (show Scu.msgFault ⟨3, fr, tq, vi, no, co, n, lo⟩ = 4 from msg_bad4a H1.out H2.out (.inr (.inr ⟨.inr rfl, .inr (by rintro rfl; simp at u4)⟩)))
      clear HV
      go_enter Try.func17, Try.ntmps17
      go_wp2_with (go_at_call 33; refine (inn_c _ _ _ _).mono ?_; rintro e w1 ⟨rfl, rfl⟩; first | rw [U1.out] | rw [U2.out] | rw [U3.out] | rw [U4.out] | rw [U5.out])
      go_ret
      exact ⟨ret_val (int_eq HF.out.symm), below_alloc w _⟩
    | false =>
    have H3 := Lib.hid (show ¬ MC3 3 no co n lo by
      have : no = 0 := by simpa using u1
      have : co = 0 := by simpa using u2
      have : n = 0 := by simpa using u5
      have h5 : lo = [] := by simpa using u4
      unfold MC3; simp [h5]; omega)
    have HF := Lib.hid (show Scu.msgFault ⟨3, fr, tq, vi, no, co, n, lo⟩ = Scu.keptFault ⟨vi, no, false, lo, co⟩ from msg_ok H1.out H2.out H3.out (by unfold MC4; omega))
    go_enter Try.func17, Try.ntmps17
    go_wp2_with (go_at_call 33; refine (inn_c _ _ _ _).mono ?_; rintro e w1 ⟨rfl, rfl⟩; first | rw [U1.out] | rw [U2.out] | rw [U3.out] | rw [U4.out] | rw [U5.out])
    refine (keptFault_x _ vi no false lo co _ B (HV.out.alloc _)).mono ?_; rintro e w1 ⟨rfl, h1⟩
    go_wp2
    go_ret
    exact ⟨ret_val (int_eq HF.out.symm), below_box h1⟩
  · cases u2 : (n != 0) with
    | true =>
      have HF := Lib.hid (show Scu.msgFault ⟨4, fr, tq, vi, no, co, n, lo⟩ = 4 from msg_bad4a H1.out H2.out (.inr (.inl ⟨by decide, by simpa using u2⟩)))
      clear HV
      go_enter Try.func17, Try.ntmps17
      go_wp2_with (go_at_call 33; refine (inn_c _ _ _ _).mono ?_; rintro e w1 ⟨rfl, rfl⟩; first | rw [U1.out] | rw [U2.out] | rw [U3.out] | rw [U4.out] | rw [U5.out])
      go_ret
      exact ⟨ret_val (int_eq HF.out.symm), below_alloc w _⟩
    | false =>
    have H3 := Lib.hid (show ¬ MC3 4 no co n lo by
      have : n = 0 := by simpa using u2
      unfold MC3; simp; omega)
    cases u3 : (tq != vi % 3) with
    | true =>
      have HF := Lib.hid (show Scu.msgFault ⟨4, fr, tq, vi, no, co, n, lo⟩ = 4 from msg_bad4b H1.out H2.out H3.out (.inr ⟨.inr rfl, by simpa using u3⟩))
      clear HV
      go_enter Try.func17, Try.ntmps17
      go_wp2_with (go_at_call 33; refine (inn_c _ _ _ _).mono ?_; rintro e w1 ⟨rfl, rfl⟩; first | rw [U1.out] | rw [U2.out] | rw [U3.out] | rw [U4.out] | rw [U5.out])
      go_ret
      exact ⟨ret_val (int_eq HF.out.symm), below_alloc w _⟩
    | false =>
    have HF := Lib.hid (show Scu.msgFault ⟨4, fr, tq, vi, no, co, n, lo⟩ = Scu.keptFault ⟨vi, no, false, lo, co⟩ from msg_ok H1.out H2.out H3.out (by have h : tq = vi % 3 := by { simpa using u3 }; unfold MC4; omega))
    go_enter Try.func17, Try.ntmps17
    go_wp2_with (go_at_call 33; refine (inn_c _ _ _ _).mono ?_; rintro e w1 ⟨rfl, rfl⟩; first | rw [U1.out] | rw [U2.out] | rw [U3.out] | rw [U4.out] | rw [U5.out])
    refine (keptFault_x _ vi no false lo co _ B (HV.out.alloc _)).mono ?_; rintro e w1 ⟨rfl, h1⟩
    go_wp2
    go_ret
    exact ⟨ret_val (int_eq HF.out.symm), below_box h1⟩

/- messages -/
def MsgEl (w : World) (B : Nat) (cs : List Value) (m : Scu.Message) : Prop := ∃ lv, cs = [.int .i64 m.kind, .int .i64 m.from_, .int .i64 m.tq, .int .i64 m.view, .int .i64 m.normal, .int .i64 m.commit, .int .i64 m.n, lv] ∧ IsStrs w B lv m.log
theorem cells_message : Try.prog.cellsOf 31 = 8 := by kernel_rfl
theorem bytes_message : Try.prog.bytesOf 31 = 80 := by kernel_rfl
section
variable {H : Type} {enc : TypeId × Value → H} {w : World} {base : Nat} {spare : Nat → Bool} {held : Bool} {n : Nat}
theorem trod_message {cs : List Value} {x : DataW H × List MemPlace} (h : DataW.trod enc Try.prog w base spare held n 31 cs = some x) (hw : ∀ k ∈ x.1.weights Try.prog 31, k ≤ reachBytes) : ∃ m, MsgEl w w.heap.size cs m := by
  obtain ⟨xs, m, _, hxe, hl, hxl, hf⟩ := DataW.trod_struct Try.underlying31 h
  rw [cells_message] at hl
  match cs, hl with
  | [c0, c1, c2, c3, c4, c5, c6, c7], _ =>
    have hxl8 : xs.length = 8 := hxl
    match xs, hxl8 with
    | [z0, z1, z2, z3, z4, z5, z6, z7], _ =>
      subst hxe
      have hwt : ∀ k ∈ DataW.weights Try.prog 31 (DataW.agg [z0.1, z1.1, z2.1, z3.1, z4.1, z5.1, z6.1, z7.1]), k ≤ reachBytes := hw
      simp only [DataW.weights, Try.underlying31, DataW.weightsEach, List.map_cons, List.map_nil, List.mem_append] at hwt
      obtain ⟨n0, h0, _⟩ := DataW.trod_int Try.underlying3 (hf 0 _ rfl)
      obtain ⟨n1, h1, _⟩ := DataW.trod_int Try.underlying3 (hf 1 _ rfl)
      obtain ⟨n2, h2, _⟩ := DataW.trod_int Try.underlying3 (hf 2 _ rfl)
      obtain ⟨n3, h3, _⟩ := DataW.trod_int Try.underlying3 (hf 3 _ rfl)
      obtain ⟨n4, h4, _⟩ := DataW.trod_int Try.underlying3 (hf 4 _ rfl)
      obtain ⟨n5, h5, _⟩ := DataW.trod_int Try.underlying3 (hf 5 _ rfl)
      obtain ⟨n6, h6, _⟩ := DataW.trod_int Try.underlying3 (hf 6 _ rfl)
      have h7 := hf 7 _ rfl
      simp [cells_int, cells_strs] at h0 h1 h2 h3 h4 h5 h6 h7
      subst h0 h1 h2 h3 h4 h5 h6
      obtain ⟨ls, h7'⟩ := trod_strs h7 (fun k hk => hwt k (.inr (.inr (.inr (.inr (.inr (.inr (.inr (.inl hk)))))))))
      exact ⟨⟨n0, n1, n2, n3, n4, n5, n6, ls⟩, c7, rfl, h7'⟩
def IsMsgV (w : World) (v : Value) (m : Scu.Message) : Prop := ∃ lv, v = .agg #[.int .i64 m.kind, .int .i64 m.from_, .int .i64 m.tq, .int .i64 m.view, .int .i64 m.normal, .int .i64 m.commit, .int .i64 m.n, lv] ∧ IsStrs w w.heap.size lv m.log
theorem openS_Message {v : Value} {d : DataW H} {p : List MemPlace} {b0 : Nat} (hv : Value.okWide Try.prog w .any b0 31 v) (h : DataW.Trod enc Try.prog w base spare held 31 v d p)
    (hw : ∀ k ∈ d.weights Try.prog 31, k ≤ reachBytes) : ∃ y, IsMsgV w v y := by
  obtain ⟨cs, rfl, _⟩ := okWide_struct Try.underlying31 hv
  obtain ⟨fuel, hf⟩ := h
  obtain ⟨m, lv, e, hy⟩ := trod_message hf hw
  refine ⟨m, lv, ?_, hy⟩
  have : cs = #[.int .i64 m.kind, .int .i64 m.from_, .int .i64 m.tq, .int .i64 m.view, .int .i64 m.normal, .int .i64 m.commit, .int .i64 m.n, lv] := by
    apply Array.toList_inj.1
    simpa [Value.cells] using e
  rw [this]
end
end Go.Proofs.Ytlaibljdlpmbfaa
/- Words: a replica of the call's own. -/
namespace Go.Proofs.Ytlaibljdlpmbfaa
open Go.RowKit
set_option maxHeartbeats 1000000
set_option maxRecDepth 100000
def OwnOnes {α : Type} (t : TypeId) (bytes : Nat) (f : α → Value) (w : World) (base : Nat) (v : Value) (xs : List α) : Prop := w.ownsRow base t 1 v xs.length (xs.map f) ∧ xs.length * bytes ≤ R47
section
variable {α : Type} {t : TypeId} {bytes : Nat} {f : α → Value} {w w' : World} {B base base' : Nat} {v : Value} {xs : List α}
theorem OwnOnes.is (h : OwnOnes t bytes f w base v xs) : IsOnes t bytes f w 0 v xs := by
  obtain ⟨A, c, rfl, hc, _, hr, _⟩ := rd_own h.1
  exact ⟨⟨_, _, rfl, hc, hr⟩, h.2⟩
theorem OwnOnes.form (h : OwnOnes t bytes f w base v xs) : ∃ A n c, v = .slice A n c := h.is.form
theorem OwnOnes.same (h : OwnOnes t bytes f w base v xs) (hs : Same [t] B w w') : OwnOnes t bytes f w' base v xs := ⟨own_same h.1 (by simp) hs, h.2⟩
theorem OwnOnes.below (h : OwnOnes t bytes f w base v xs) (hb : Below w.heap.size w w') : OwnOnes t bytes f w' base v xs := h.same (B := 0) (Same.below hb)
theorem OwnOnes.base_ (h : OwnOnes t bytes f w base v xs) (hb : base' ≤ base) : OwnOnes t bytes f w base' v xs := ⟨ownsRow_base h.1 hb, h.2⟩
theorem OwnOnes.lt (h : OwnOnes t bytes f w base v xs) {g : Nat} (hg : v.ownBlock = some g) : base ≤ g ∧ g < w.heap.size := h.1.lt g hg
end
/-- The parts of a replica that the call has made, but for what others gave. -/
structure OwnRep0 (w : World) (base : Nat) (lv hv wv nv : Value) (r : Scu.Replica) : Prop where
  log : OwnStrs w base lv r.kept.log
  have_ : OwnOnes 3 8 vInt w base hv r.have_
  wants : OwnOnes 4 1 Value.bool w base wv r.wants
  given : OwnOnes 4 1 Value.bool w base nv r.given
  apart : ∀ g, wv.ownBlock = some g → nv.ownBlock ≠ some g
section
variable {w w' : World} {B base base' : Nat} {lv hv wv nv : Value} {r : Scu.Replica}
theorem OwnRep0.same (h : OwnRep0 w base lv hv wv nv r) (hs : Same [9, 3, 4] B w w') : OwnRep0 w' base lv hv wv nv r :=
  ⟨h.log.same (hs.mono (by simp) (Nat.le_refl _)), h.have_.same (hs.mono (by simp) (Nat.le_refl _)), h.wants.same (hs.mono (by simp) (Nat.le_refl _)), h.given.same (hs.mono (by simp) (Nat.le_refl _)), h.apart⟩
theorem OwnRep0.below (h : OwnRep0 w base lv hv wv nv r) (hb : Below w.heap.size w w') : OwnRep0 w' base lv hv wv nv r := h.same (B := 0) (Same.below hb)
theorem OwnRep0.base_ (h : OwnRep0 w base lv hv wv nv r) (hb : base' ≤ base) : OwnRep0 w base' lv hv wv nv r := ⟨h.log.base_ hb, h.have_.base_ hb, h.wants.base_ hb, h.given.base_ hb, h.apart⟩
end
section
variable {w : World} {g : Nat} {t : TypeId} {a0 a1 a2 a3 a4 a5 a6 a7 a8 a9 b0 b1 b2 b3 b4 b5 b6 b7 b8 b9 : Value}
theorem blk_set10 (h : Blk w g t #[b0, b1, b2, b3, b4, b5, b6, b7, b8, b9]) : Blk ((((((((((w.setCell ⟨g, 0, none⟩ a0).setCell ⟨g, 1, none⟩ a1).setCell ⟨g, 2, none⟩ a2).setCell ⟨g, 3, none⟩ a3).setCell ⟨g, 4, none⟩ a4).setCell ⟨g, 5, none⟩ a5).setCell ⟨g, 6, none⟩ a6).setCell ⟨g, 7, none⟩ a7).setCell ⟨g, 8, none⟩ a8).setCell ⟨g, 9, none⟩ a9) g t #[a0, a1, a2, a3, a4, a5, a6, a7, a8, a9] := by
  have h0 : Blk _ g t #[a0, b1, b2, b3, b4, b5, b6, b7, b8, b9] := h.set_ 0 a0
  have h1 : Blk _ g t #[a0, a1, b2, b3, b4, b5, b6, b7, b8, b9] := h0.set_ 1 a1
  have h2 : Blk _ g t #[a0, a1, a2, b3, b4, b5, b6, b7, b8, b9] := h1.set_ 2 a2
  have h3 : Blk _ g t #[a0, a1, a2, a3, b4, b5, b6, b7, b8, b9] := h2.set_ 3 a3
  have h4 : Blk _ g t #[a0, a1, a2, a3, a4, b5, b6, b7, b8, b9] := h3.set_ 4 a4
  have h5 : Blk _ g t #[a0, a1, a2, a3, a4, a5, b6, b7, b8, b9] := h4.set_ 5 a5
  have h6 : Blk _ g t #[a0, a1, a2, a3, a4, a5, a6, b7, b8, b9] := h5.set_ 6 a6
  have h7 : Blk _ g t #[a0, a1, a2, a3, a4, a5, a6, a7, b8, b9] := h6.set_ 7 a7
  have h8 : Blk _ g t #[a0, a1, a2, a3, a4, a5, a6, a7, a8, b9] := h7.set_ 8 a8
  have h9 : Blk _ g t #[a0, a1, a2, a3, a4, a5, a6, a7, a8, a9] := h8.set_ 9 a9
  exact h9
theorem Same.sets10 {Ts : List TypeId} {B : Nat} (h : Blk w g t #[b0, b1, b2, b3, b4, b5, b6, b7, b8, b9]) (hB : B ≤ g) (ht : t ∉ Ts) : Same Ts B w ((((((((((w.setCell ⟨g, 0, none⟩ a0).setCell ⟨g, 1, none⟩ a1).setCell ⟨g, 2, none⟩ a2).setCell ⟨g, 3, none⟩ a3).setCell ⟨g, 4, none⟩ a4).setCell ⟨g, 5, none⟩ a5).setCell ⟨g, 6, none⟩ a6).setCell ⟨g, 7, none⟩ a7).setCell ⟨g, 8, none⟩ a8).setCell ⟨g, 9, none⟩ a9) :=
  (((((((((Same.set_ h hB ht 0 a0).trans (Same.set_ (h.set_ 0 a0) hB ht 1 a1)).trans (Same.set_ ((h.set_ 0 a0).set_ 1 a1) hB ht 2 a2)).trans (Same.set_ (((h.set_ 0 a0).set_ 1 a1).set_ 2 a2) hB ht 3 a3)).trans
    (Same.set_ ((((h.set_ 0 a0).set_ 1 a1).set_ 2 a2).set_ 3 a3) hB ht 4 a4)).trans (Same.set_ (((((h.set_ 0 a0).set_ 1 a1).set_ 2 a2).set_ 3 a3).set_ 4 a4) hB ht 5 a5)).trans
    (Same.set_ ((((((h.set_ 0 a0).set_ 1 a1).set_ 2 a2).set_ 3 a3).set_ 4 a4).set_ 5 a5) hB ht 6 a6)).trans (Same.set_ (((((((h.set_ 0 a0).set_ 1 a1).set_ 2 a2).set_ 3 a3).set_ 4 a4).set_ 5 a5).set_ 6 a6) hB ht 7 a7)).trans
    (Same.set_ ((((((((h.set_ 0 a0).set_ 1 a1).set_ 2 a2).set_ 3 a3).set_ 4 a4).set_ 5 a5).set_ 6 a6).set_ 7 a7) hB ht 8 a8)).trans (Same.set_ (((((((((h.set_ 0 a0).set_ 1 a1).set_ 2 a2).set_ 3 a3).set_ 4 a4).set_ 5 a5).set_ 6 a6).set_ 7 a7).set_ 8 a8) hB ht 9 a9)
theorem below_set10 {B : Nat} {w0 : World} (h : Below B w0 w) (hg : B ≤ g) : Below B w0 ((((((((((w.setCell ⟨g, 0, none⟩ a0).setCell ⟨g, 1, none⟩ a1).setCell ⟨g, 2, none⟩ a2).setCell ⟨g, 3, none⟩ a3).setCell ⟨g, 4, none⟩ a4).setCell ⟨g, 5, none⟩ a5).setCell ⟨g, 6, none⟩ a6).setCell ⟨g, 7, none⟩ a7).setCell ⟨g, 8, none⟩ a8).setCell ⟨g, 9, none⟩ a9) :=
  (((((((((h.setCell (p := ⟨g, 0, none⟩) hg a0).setCell (p := ⟨g, 1, none⟩) hg a1).setCell (p := ⟨g, 2, none⟩) hg a2).setCell (p := ⟨g, 3, none⟩) hg a3).setCell (p := ⟨g, 4, none⟩) hg a4).setCell (p := ⟨g, 5, none⟩) hg a5).setCell (p := ⟨g, 6, none⟩) hg a6).setCell (p := ⟨g, 7, none⟩) hg a7).setCell (p := ⟨g, 8, none⟩) hg a8).setCell (p := ⟨g, 9, none⟩) hg a9
end
/-- What the first statement of a copy leaves. -/
structure Rep0 (Wd : World) (r : Scu.Replica) (g : Nat) (lu hv wv nv : Value) (wx : World) : Prop where
  out : Blk wx g 29 #[.int .i64 r.me, .int .i64 r.kept.view, .int .i64 r.kept.normal, .bool r.kept.calm, lu, .int .i64 r.kept.commit, hv, wv, .slice none 0 0, nv]
  lo : Wd.heap.size ≤ g
  own : OwnRep0 wx Wd.heap.size lu hv wv nv r
  low : Below Wd.heap.size Wd wx
theorem rep0_new {Wd x : World} {r : Scu.Replica} {lu hv wv nv : Value} (hb : Below Wd.heap.size Wd x) (ho : OwnRep0 x Wd.heap.size lu hv wv nv r) :
    Rep0 Wd r x.heap.size lu hv wv nv (x.alloc (Obj.cells #[.int .i64 r.me, .int .i64 r.kept.view, .int .i64 r.kept.normal, .bool r.kept.calm, lu, .int .i64 r.kept.commit, hv, wv, .slice none 0 0, nv] 29)) :=
  ⟨Blk.new x _ _, hb.size, ho.below (below_alloc x _), hb.alloc hb.size _⟩
theorem rep0_set {Wd w : World} {r : Scu.Replica} {g : Nat} {lu hv wv nv b0 b1 b2 b3 b4 b5 b6 b7 b8 b9 : Value} (hb : Below Wd.heap.size Wd w) (ho : OwnRep0 w Wd.heap.size lu hv wv nv r) (h : Blk w g 29 #[b0, b1, b2, b3, b4, b5, b6, b7, b8, b9]) (hg : Wd.heap.size ≤ g) :
    Rep0 Wd r g lu hv wv nv ((((((((((w.setCell ⟨g, 0, none⟩ (.int .i64 r.me)).setCell ⟨g, 1, none⟩ (.int .i64 r.kept.view)).setCell ⟨g, 2, none⟩ (.int .i64 r.kept.normal)).setCell ⟨g, 3, none⟩ (.bool r.kept.calm)).setCell ⟨g, 4, none⟩ lu).setCell ⟨g, 5, none⟩ (.int .i64 r.kept.commit)).setCell ⟨g, 6, none⟩ hv).setCell ⟨g, 7, none⟩ wv).setCell ⟨g, 8, none⟩ (.slice none 0 0)).setCell ⟨g, 9, none⟩ nv) :=
  ⟨blk_set10 h, hg, ho.same (Same.sets10 (B := 0) h (Nat.zero_le _) (by decide)), below_set10 hb hg⟩
theorem use_ {P Q : Prop} (h : P) (k : P → Q) : Q := k h
end Go.Proofs.Ytlaibljdlpmbfaa
/- Rows that are whole blocks: as what an append goes onto, and as what it takes. -/
namespace Go.Proofs.Ytlaibljdlpmbfaa
open Go.RowKit
set_option maxHeartbeats 400000
set_option maxRecDepth 100000
abbrev nInt : Int → Value := Value.int .i64
theorem el_ints' : ElT 25 3 1 8 := by
  obtain ⟨i, h1, h2, h3, h4⟩ := info_parts (P := Try.prog) (e := 3) (z := .int .i64 0) (size := 1) (bytes := 8) (by kernel_rfl)
  exact ⟨Try.underlying25, by omega, i, _, h1, h2, h3, h4, rfl⟩
theorem one_ints' (xs : List Int) : ∀ u ∈ xs.map nInt, u.oneCell' = true := fun u hu => by
  obtain ⟨s, _, rfl⟩ := List.mem_map.1 hu
  rfl
theorem own_blk {w : World} {base g n : Nat} {e : TypeId} {xs : List Value} (h : Blk w g e xs.toArray) (hb : base ≤ g) (hn : xs.length = n) (hm : n ≤ maxLen) : w.ownsRow base e 1 (.slice (some ⟨g, 0, none⟩) n n) n xs :=
  ⟨by simpa using hn, .inr ⟨g, n, xs.toArray, rfl, hb, h, Nat.le_refl _, hm, by simp [hn], by rw [Nat.mul_one, ← hn]; simp⟩⟩
theorem src_blk {w : World} {g n : Nat} {e : TypeId} {xs : List Value} (h : Blk w g e xs.toArray) (hn : xs.length = n) : Src1 w 1 (.slice (some ⟨g, 0, none⟩) n n) n xs :=
  ⟨by simpa using hn, .inr ⟨_, _, rfl, fun j u hj => by
    have : (⟨g, 0, none⟩ : Addr).add j = ⟨g, j, none⟩ := by unfold Addr.add; split <;> simp_all
    rw [this, h.cell]
    simpa using hj⟩⟩
end Go.Proofs.Ytlaibljdlpmbfaa
/- A cell of an owned row is set. -/
namespace Go.Proofs.Ytlaibljdlpmbfaa
open Go.RowKit
set_option maxHeartbeats 400000
set_option maxRecDepth 100000

theorem own_at {w : World} {base n : Nat} {e : TypeId} {v : Value} {xs : List Value} (h : w.ownsRow base e 1 v n xs) (hn : 0 < n) :
    ∃ g c cur, v = .slice (some ⟨g, 0, none⟩) n c ∧ base ≤ g ∧ Blk w g e cur ∧ ∀ j, j < n → w.cell? ⟨g, j, none⟩ = xs[j]? := by
  obtain ⟨hl, ⟨rfl, rfl⟩ | ⟨g, cap, cur, rfl, hb, hh, hnc, _, hcs, ht⟩⟩ := h
  · omega
  · refine ⟨g, cap, cur, rfl, hb, hh, fun j hj => ?_⟩
    have hB : Blk w g e cur := hh
    rw [hB.cell, ← ht, List.getElem?_take_of_lt (by omega)]
    simp
theorem own_put {w : World} {base n g c : Nat} {e : TypeId} {xs : List Value} (h : w.ownsRow base e 1 (.slice (some ⟨g, 0, none⟩) n c) n xs) (j : Nat) (u : Value) :
    (w.setCell ⟨g, j, none⟩ u).ownsRow base e 1 (.slice (some ⟨g, 0, none⟩) n c) n (xs.set j u) := by
  obtain ⟨hl, ⟨h0, _⟩ | ⟨g', cap, cur, e1, hb, hh, hnc, hm, hcs, ht⟩⟩ := h
  · cases h0
  · cases e1
    have hB : Blk w g e cur := hh
    refine ⟨by simp [hl], .inr ⟨g, c, cur.setIfInBounds j u, rfl, hb, hB.set_ j u, hnc, hm, by simpa using hcs, ?_⟩⟩
    rw [Array.toList_setIfInBounds, List.take_set, ht]
theorem OwnStrs.at_ {w : World} {base : Nat} {v : Value} {xs : List Scu.Str} (h : OwnStrs w base v xs) (hn : 0 < xs.length) :
    ∃ g c cur, v = .slice (some ⟨g, 0, none⟩) xs.length c ∧ base ≤ g ∧ Blk w g 9 cur ∧ ∀ j, j < xs.length → w.cell? ⟨g, j, none⟩ = (xs.map Value.string)[j]? := own_at h.1 hn
theorem OwnStrs.put {w : World} {base g c n : Nat} {xs : List Scu.Str} (h : OwnStrs w base (.slice (some ⟨g, 0, none⟩) n c) xs) (j : Nat) (s : Scu.Str) (hs : s.size ≤ R47) :
    OwnStrs (w.setCell ⟨g, j, none⟩ (.string s)) base (.slice (some ⟨g, 0, none⟩) n c) (xs.set j s) := by
  have hn : n = xs.length := by
    obtain ⟨A, c', e, _⟩ := h.is.ex
    cases e
    rfl
  subst hn
  refine ⟨?_, by simpa using h.2.1, fun t ht => ?_⟩
  · rw [List.length_set, List.map_set]
    exact own_put h.1 j _
  · rcases List.mem_or_eq_of_mem_set ht with h' | rfl
    · exact h.2.2 t h'
    · exact hs
end Go.Proofs.Ytlaibljdlpmbfaa
/- A volume of the call's own: a sector is set, a snapshot put behind the others. -/
namespace Go.Proofs.Ytlaibljdlpmbfaa
open Go.RowKit
set_option maxHeartbeats 400000
set_option maxRecDepth 100000

theorem IsStrs.far {w : World} {B : Nat} {v : Value} {xs : List Scu.Str} (h : IsStrs w B v xs) {p : Addr} (hne : v.ownBlock ≠ some p.block) (u : Value) : IsStrs (w.setCell p u) B v xs := by
  obtain ⟨⟨A, c, rfl, hc, hr⟩, h1, h2⟩ := h
  refine ⟨⟨A, c, rfl, hc, ?_⟩, h1, h2⟩
  rcases hr with hr | ⟨g, o, rfl, hg, hk, hcell⟩
  · exact .inl hr
  · have hgp : g ≠ p.block := fun e => hne (by simp [Value.ownBlock, e])
    have e := Below.heap_setCell w p u g hgp
    exact .inr ⟨g, o, rfl, by simpa [World.setCell] using hg, by rw [e]; exact hk, fun j u' hj => by
      rw [World.cell?_of_block (w := w) (w' := w.setCell p u) (a := ⟨g, o + j, none⟩) e]
      exact hcell j u' hj⟩
theorem own_blk_ex {w : World} {base n g c : Nat} {e : TypeId} {xs : List Value} (h : w.ownsRow base e 1 (.slice (some ⟨g, 0, none⟩) n c) n xs) : ∃ cur, Blk w g e cur ∧ base ≤ g := by
  obtain ⟨_, ⟨h0, _⟩ | ⟨g', cap, cur, e1, hb, hh, _⟩⟩ := h
  · cases h0
  · cases e1
    exact ⟨cur, hh, hb⟩
theorem OwnVol.same {w w' : World} {B base : Nat} {nv sv : Value} {x : Scu.Volume} (h : OwnVol w base nv sv x) (hs : Same [9, 22] B w w') : OwnVol w' base nv sv x := by
  obtain ⟨hn, hnl, hne, hl, vs, b, hrow, heach, hlo, hhi⟩ := h
  have hs0 : Same [9, 22] 0 w w' := hs.mono (fun _ h => h) (Nat.zero_le _)
  exact ⟨own_same hn (by simp) hs0, hnl, hne, hl, vs, b, own_same hrow (by simp) hs0, fun j u y h1 h2 => (heach j u y h1 h2).same (by simp) hs0, hlo, hhi⟩
theorem OwnVol.below {w w' : World} {base : Nat} {nv sv : Value} {x : Scu.Volume} (h : OwnVol w base nv sv x) (hb : Below w.heap.size w w') : OwnVol w' base nv sv x := h.same (B := 0) (Same.below hb)
theorem OwnVol.alloc {w : World} {base : Nat} {nv sv : Value} {x : Scu.Volume} (h : OwnVol w base nv sv x) (o : Obj) : OwnVol (w.alloc o) base nv sv x := h.below (below_alloc w o)
theorem OwnVol.base_ {w : World} {base base' : Nat} {nv sv : Value} {x : Scu.Volume} (h : OwnVol w base nv sv x) (hb : base' ≤ base) : OwnVol w base' nv sv x := by
  obtain ⟨hn, hnl, hne, hl, vs, b, hrow, hrest⟩ := h
  exact ⟨ownsRow_base hn hb, hnl, hne, hl, vs, b, ownsRow_base hrow hb, hrest⟩
theorem OwnVol.zero_ (w : World) (base : Nat) : OwnVol w base (.slice none 0 0) (.slice none 0 0) Scu.vol0 :=
  ⟨World.ownsRow_nil _ _ _ _, by simp [Scu.vol0], (fun s hs => by cases hs), by simp [Scu.vol0], [], 0, World.ownsRow_nil _ _ _ _, (fun j u y h => by simp at h), (fun g h => by simp [Value.ownBlock] at h), (fun u h => by simp at h)⟩
theorem OwnVol.put {w : World} {base g n c : Nat} {sv : Value} {x : Scu.Volume} (h : OwnVol w base (.slice (some ⟨g, 0, none⟩) n c) sv x) (j : Nat) (s : Scu.Str) (hs : s.size ≤ R47) :
    OwnVol (w.setCell ⟨g, j, none⟩ (.string s)) base (.slice (some ⟨g, 0, none⟩) n c) sv ⟨x.now.set j s, x.snaps⟩ := by
  obtain ⟨hn, hnl, hne, hl, vs, b, hrow, heach, hlo, hhi⟩ := h
  have hp := OwnStrs.put (xs := x.now) ⟨hn, hnl, hne⟩ j s hs
  have hn' : n = x.now.length := by
    obtain ⟨A, c', e, _⟩ := rd_own hn
    cases e
    rfl
  subst hn'
  obtain ⟨cur, hb, _⟩ := own_blk_ex hn
  refine ⟨hp.1, hp.2.1, hp.2.2, hl, vs, b, own_set hrow hb (by decide) _, fun i u y h1 h2 => (heach i u y h1 h2).far (fun e => ?_) _, hlo, hhi⟩
  have h3 := hhi u (List.mem_of_getElem? h1) g e
  have h4 := hlo g rfl
  omega
theorem OwnVol.push {w w' : World} {base b : Nat} {nv sv u v4 : Value} {x : Scu.Volume} {vs : List Value} {y : List Scu.Str}
    (hn : w.ownsRow base 9 1 nv x.now.length (x.now.map Value.string)) (hnl : x.now.length * 16 ≤ R47) (hne : ∀ s ∈ x.now, s.size ≤ R47) (hrow : w.ownsRow base 22 1 sv x.snaps.length vs)
    (heach : ∀ (j : Nat) (u : Value) (y : List Scu.Str), vs[j]? = some u → x.snaps[j]? = some y → IsStrs w 0 u y) (hlo : ∀ g, nv.ownBlock = some g → g < b) (hhi : ∀ u ∈ vs, ∀ g, u.ownBlock = some g → b ≤ g)
    (hu : IsStrs w 0 u y) (hub : ∀ g, nv.ownBlock = some g → ∀ g', u.ownBlock = some g' → g < g') (hl : (x.snaps.length + 1) * 24 ≤ R47) (hg : w.grownBy w' sv.ownBlock)
    (h4 : w'.ownsRow base 22 1 v4 (x.snaps.length + 1) (vs ++ [u])) : OwnVol w' base nv v4 ⟨x.now, x.snaps ++ [y]⟩ := by
  have hs : Same [9] 0 w w' := Same.own hrow hg (Nat.zero_le _) (by decide)
  refine ⟨own_same hn (by simp) hs, hnl, hne, by simpa using hl, vs ++ [u], (nv.ownBlock.map (· + 1)).getD 0, by simpa using h4, ?_, ?_, ?_⟩
  · intro j v z hv hz
    have hvl : vs.length = x.snaps.length := by simpa using hrow.1
    rcases Nat.lt_or_ge j vs.length with hj | hj
    · rw [List.getElem?_append_left hj] at hv
      rw [List.getElem?_append_left (by omega)] at hz
      exact (heach j v z hv hz).same (by simp) hs
    · rw [List.getElem?_append_right hj] at hv
      rw [List.getElem?_append_right (by omega)] at hz
      have hj0 : j - vs.length = 0 := by
        rcases Nat.eq_zero_or_pos (j - vs.length) with h | h
        · exact h
        · rw [List.getElem?_eq_none (by simp; omega)] at hv
          cases hv
      rw [hj0] at hv
      rw [show j - x.snaps.length = 0 by omega] at hz
      simp only [List.getElem?_cons_zero, Option.some.injEq] at hv hz
      subst hv
      subst hz
      exact hu.same (by simp) hs
  · intro g hg'
    simp [hg']
  · intro v hv g hg'
    cases hnb : nv.ownBlock with
    | none => simp
    | some g0 =>
      simp only [Option.map_some, Option.getD_some]
      rcases List.mem_append.1 hv with h | h
      · have := hhi v h g hg'
        have := hlo g0 hnb
        omega
      · rw [List.mem_singleton] at h
        subst h
        have := hub g0 hnb g hg'
        omega
theorem blk_grow {w w' : World} {base g n : Nat} {t e : TypeId} {cs : Array Value} {lv : Value} {xs : List Value} (hb : Blk w g t cs) (hown : w.ownsRow base e 1 lv n xs) (hne : t ≠ e) (hg : w.grownBy w' lv.ownBlock) : Blk w' g t cs :=
  (hg.block g hb.lt fun e' => by
    obtain ⟨C', fz', hh⟩ := own_kind hown e'.symm
    unfold Blk at hb
    rw [hh] at hb
    cases hb
    exact hne rfl).trans hb
theorem Same.sets2 {Ts : List TypeId} {B g : Nat} {w : World} {t : TypeId} {cs : Array Value} (hb : Blk w g t cs) (hB : B ≤ g) (ht : t ∉ Ts) (a b : Value) :
    Same Ts B w ((w.setCell ⟨g, 0, none⟩ a).setCell ⟨g, 1, none⟩ b) := (Same.set_ hb hB ht 0 a).trans (Same.set_ (hb.set_ 0 a) hB ht 1 b)
theorem Same.sets3 {Ts : List TypeId} {B g : Nat} {w : World} {t : TypeId} {cs : Array Value} (hb : Blk w g t cs) (hB : B ≤ g) (ht : t ∉ Ts) (a b c : Value) :
    Same Ts B w (((w.setCell ⟨g, 0, none⟩ a).setCell ⟨g, 1, none⟩ b).setCell ⟨g, 2, none⟩ c) := (Same.sets2 hb hB ht a b).trans (Same.set_ ((hb.set_ 0 a).set_ 1 b) hB ht 2 c)
theorem strs_at {w : World} {u : Value} {ys : List Scu.Str} {k : Nat} (h : IsStrs w 0 u ys) (hk : k < ys.length) :
    ∃ g o c, u = .slice (some ⟨g, o, none⟩) ys.length c ∧ g < w.heap.size ∧ (∀ q t cs, Blk w q t cs → t ≠ 9 → g ≠ q) ∧ w.cell? ⟨g, o + k, none⟩ = some (.string ys[k]) := by
  obtain ⟨⟨A, c, rfl, _, hr⟩, _, _⟩ := h
  rcases hr with hr | ⟨g, o, rfl, hg, hb, hc⟩
  · have : ys.length = 0 := by simpa using congrArg List.length hr
    omega
  · refine ⟨g, o, c, rfl, hg, ?_, hc k _ (by simp [hk])⟩
    rintro q t cs hq ht rfl
    rcases hb with hb | ⟨C, fz, hb⟩
    · omega
    · unfold Blk at hq
      rw [hb] at hq
      cases hq
      exact ht rfl
theorem rows_at {w : World} {v : Value} {xss : List (List Scu.Str)} {k : Nat} (h : IsRows w 0 v xss) (hk : k < xss.length) :
    ∃ g o c u, v = .slice (some ⟨g, o, none⟩) xss.length c ∧ g < w.heap.size ∧ (∀ q t cs, Blk w q t cs → t ≠ 22 → g ≠ q) ∧ w.cell? ⟨g, o + k, none⟩ = some u ∧ IsStrs w 0 u xss[k] := by
  obtain ⟨⟨A, c, vs, rfl, _, hr, hvl, hve⟩, _⟩ := h
  have hkv : k < vs.length := by omega
  rcases hr with hr | ⟨g, o, rfl, hg, hb, hc⟩
  · subst hr
    simp at hkv
  · refine ⟨g, o, c, vs[k], rfl, hg, ?_, hc k _ (List.getElem?_eq_getElem hkv), hve k _ _ (List.getElem?_eq_getElem hkv) (List.getElem?_eq_getElem hk)⟩
    rintro q t cs hq ht rfl
    rcases hb with hb | ⟨C, fz, hb⟩
    · omega
    · unfold Blk at hq
      rw [hb] at hq
      cases hq
      exact ht rfl
/-- The answer's two blocks are filled. -/
theorem do_below {X w : World} {b2 b3 B : Nat} (h : Below B w X) (h2 : B ≤ b2) (h3 : B ≤ b3) (a b x y z : Value) : Below B w (((((X.setCell ⟨b2, 0, none⟩ a).setCell ⟨b2, 1, none⟩ b).setCell ⟨b3, 0, none⟩ x).setCell ⟨b3, 1, none⟩ y).setCell ⟨b3, 2, none⟩ z) :=
  ((((h.setCell (p := ⟨b2, 0, none⟩) h2 _).setCell (p := ⟨b2, 1, none⟩) h2 _).setCell (p := ⟨b3, 0, none⟩) h3 _).setCell (p := ⟨b3, 1, none⟩) h3 _).setCell (p := ⟨b3, 2, none⟩) h3 _
end Go.Proofs.Ytlaibljdlpmbfaa

import Derived.Test.YtioajgcbchdpeaaSafeS
import Derived.Test.YtioajgcbchdpeaaCodec
namespace Scu

theorem repFault_ok {r : Replica} (h : repFault r = 0) : InR r.me ∧ r.have_.length = 3 ∧ r.wants.length = 3 ∧ r.gives.length = 3 ∧ r.given.length = 3 ∧
    (∀ x ∈ r.have_, 0 ≤ x ∧ x ≤ r.kept.log.length) ∧ (∀ g ∈ r.gives, keptFault g = 0) ∧ keptFault r.kept = 0 := by
  unfold repFault at h
  split at h
  · omega
  split at h
  · omega
  split at h
  · omega
  rename_i h1 h2 h3
  refine ⟨by unfold InR; omega, by omega, by omega, by omega, by omega, ?_, ?_, h⟩
  · intro x hx
    simp only [Bool.or_eq_true, List.any_eq_true, decide_eq_true_eq, not_or, not_exists, not_and] at h3
    have := h3.1 x hx
    omega
  · intro g hg
    simp only [Bool.or_eq_true, List.any_eq_true, decide_eq_true_eq, not_or, not_exists, not_and] at h3
    have := h3.2 g hg
    omega
theorem repFault_mk {r : Replica} (h1 : InR r.me) (h2 : r.have_.length = 3) (h3 : r.wants.length = 3) (h4 : r.gives.length = 3) (h5 : r.given.length = 3)
    (h6 : ∀ x ∈ r.have_, 0 ≤ x ∧ x ≤ r.kept.log.length) (h7 : ∀ g ∈ r.gives, keptFault g = 0) (h8 : keptFault r.kept = 0) : repFault r = 0 := by
  unfold repFault
  rw [if_neg (by unfold InR at h1; omega), if_neg (by omega), if_neg, h8]
  simp only [Bool.or_eq_true, List.any_eq_true, decide_eq_true_eq, not_or, not_exists, not_and]
  refine ⟨fun x hx => ?_, fun g hg => ?_⟩
  · have := h6 x hx; omega
  · have := h7 g hg; omega
theorem keptFault0 : keptFault kept0 = 0 := by decide
theorem fresh_fault {r : Replica} (h1 : InR r.me) (h8 : keptFault r.kept = 0) : repFault (fresh r) = 0 := by
  refine repFault_mk h1 rfl rfl rfl rfl ?_ ?_ h8
  · intro x hx
    simp [fresh] at hx
    subst hx
    omega
  · intro g hg
    simp [fresh] at hg
    subst hg
    exact keptFault0
theorem mem_set {α : Type} {l : List α} {n : Nat} {x y : α} (h : y ∈ l.set n x) : y = x ∨ y ∈ l := by
  rcases List.mem_or_eq_of_mem_set h with h | h
  · exact .inr h
  · exact .inl h
theorem want_fault {r : Replica} {v : Int} (h : repFault r = 0) (h1 : r.kept.view < v) (h2 : v ≤ 1048576) : repFault (want r v).1 = 0 := by
  obtain ⟨f1, f2, f3, f4, f5, f6, f7, f8⟩ := repFault_ok h
  obtain ⟨k1, k2, k3, k4, k5, k6, k7, k8, k9⟩ := keptFault_ok f8
  have hk : keptFault { r.kept with view := v, calm := false } = 0 :=
    keptFault_mk (by show 0 ≤ v; omega) h2 k3 (by show r.kept.normal ≤ v; omega) (fun hc => by cases hc) k6 k7 k8 k9
  have hf := fresh_fault (r := { r with kept := { r.kept with view := v, calm := false } }) f1 hk
  obtain ⟨g1, g2, g3, g4, g5, g6, g7, g8⟩ := repFault_ok hf
  exact repFault_mk g1 g2 (by simp [want, fresh]) g4 g5 g6 g7 g8
theorem own_fault {k : Kept} (h : keptFault k = 0) : keptFault (own k) = 0 := by
  obtain ⟨k1, k2, k3, k4, k5, k6, k7, k8, k9⟩ := keptFault_ok h
  exact keptFault_mk k1 k2 k3 k4 (fun hc => by cases hc) k6 k7 k8 k9
theorem give1_fault {r : Replica} {i : Int} {k : Kept} (h : repFault r = 0) (hk : keptFault (own k) = 0) : repFault (give1 r i k) = 0 := by
  obtain ⟨f1, f2, f3, f4, f5, f6, f7, f8⟩ := repFault_ok h
  refine repFault_mk f1 f2 f3 (by simp [give1, f4]) (by simp [give1, f5]) f6 ?_ f8
  intro g hg
  rcases mem_set hg with rfl | hg
  · exact hk
  · exact f7 g hg
theorem wants_fault {r : Replica} (h : repFault r = 0) (l : List Bool) (hl : l.length = 3) : repFault { r with wants := l } = 0 := by
  obtain ⟨f1, f2, f3, f4, f5, f6, f7, f8⟩ := repFault_ok h
  exact repFault_mk f1 f2 hl f4 f5 f6 f7 f8
theorem begun_fault {r : Replica} (h : repFault r = 0) : repFault (begun r).1 = 0 := by
  obtain ⟨f1, f2, f3, f4, f5, f6, f7, f8⟩ := repFault_ok h
  obtain ⟨k1, k2, k3, k4, k5, k6, k7, k8, k9⟩ := keptFault_ok f8
  unfold begun
  split
  · exact h
  split
  · exact h
  rename_i hcnt
  refine fresh_fault f1 ?_
  have hb : bestOf (r.gives.zip r.given) = { kept0 with normal := -1 } ∨ keptFault (bestOf (r.gives.zip r.given)) = 0 := by
    obtain ⟨_, _, hb⟩ := bestOf_spec (r.gives.zip r.given) { kept0 with normal := -1 }
    rcases hb with hb | ⟨g, hg, _, hb⟩
    · exact .inl hb
    · refine .inr ?_
      have : bestOf (r.gives.zip r.given) = g.1 := hb
      rw [this]
      exact f7 _ (List.of_mem_zip hg).1
  have hm := (maxCommit_spec (r.gives.zip r.given) 0).1
  have hm' : 0 ≤ maxCommit (r.gives.zip r.given) := hm
  refine keptFault_mk k1 k2 k1 (Int.le_refl _) (fun _ => rfl) ?_ ?_ ?_ ?_
  · rcases hb with hb | hb
    · simp only [hb]; simp [kept0]
    · exact (keptFault_ok hb).2.2.2.2.2.1
  · show 0 ≤ min _ _
    omega
  · show min (maxCommit (r.gives.zip r.given)) ((bestOf (r.gives.zip r.given)).log.length : Int) ≤ ((bestOf (r.gives.zip r.given)).log.length : Int)
    omega
  · rcases hb with hb | hb
    · simp only [hb]; simp [kept0]
    · exact (keptFault_ok hb).2.2.2.2.2.2.2.2
theorem hearLead_fault {r : Replica} {m : Message} (h : repFault r = 0) (hm : msgFault m = 0) (_hv : r.kept.view ≤ m.view) : repFault (hearLead r m).1 = 0 := by
  obtain ⟨f1, f2, f3, f4, f5, f6, f7, f8⟩ := repFault_ok h
  obtain ⟨k1, k2, k3, k4, k5, k6, k7, k8, k9⟩ := keptFault_ok f8
  obtain ⟨q1, q2, q3, q4, q5, q6, q7, q8, q9⟩ := keptFault_ok (msgFault_ok hm).2.2.2.2.2.2.2.2.2.2.2
  simp only at q1 q2 q3 q4 q6 q7 q8 q9
  unfold hearLead
  simp only []
  split
  · refine fresh_fault (r := { r with kept := ⟨m.view, m.view, true, m.log, max (max m.commit (min r.kept.commit m.log.length)) (min m.commit m.log.length)⟩ }) f1 ?_
    refine keptFault_mk q1 q2 q1 (Int.le_refl _) (fun _ => rfl) q6 ?_ ?_ q9
    · show 0 ≤ max _ _; omega
    · show max (max m.commit (min r.kept.commit (m.log.length : Int))) (min m.commit (m.log.length : Int)) ≤ (m.log.length : Int); omega
  rename_i hc
  split
  · rename_i hl
    refine repFault_mk f1 f2 f3 f4 f5 ?_ f7 ?_
    · intro x hx
      have := f6 x hx
      show 0 ≤ x ∧ x ≤ (m.log.length : Int)
      omega
    · refine keptFault_mk k1 k2 k3 k4 k5 q6 ?_ ?_ q9
      · show 0 ≤ max _ _; omega
      · show max r.kept.commit (min m.commit (m.log.length : Int)) ≤ m.log.length; omega
  · refine repFault_mk f1 f2 f3 f4 f5 f6 f7 ?_
    refine keptFault_mk k1 k2 k3 k4 k5 k6 ?_ ?_ k9
    · show 0 ≤ max _ _; omega
    · show max r.kept.commit (min m.commit (r.kept.log.length : Int)) ≤ r.kept.log.length; omega
theorem hearHas_fault {r : Replica} {m : Message} (h : repFault r = 0) (hm : msgFault m = 0) : repFault (hearHas r m).1 = 0 := by
  obtain ⟨f1, f2, f3, f4, f5, f6, f7, f8⟩ := repFault_ok h
  obtain ⟨k1, k2, k3, k4, k5, k6, k7, k8, k9⟩ := keptFault_ok f8
  have hn := (msgFault_ok hm).2.2.2.2.2.2.2.1
  unfold hearHas
  split
  · exact h
  simp only []
  have hhave : ∀ x ∈ r.have_.set m.from_.toNat (max (r.have_.getD m.from_.toNat 0) (min m.n r.kept.log.length)), 0 ≤ x ∧ x ≤ (r.kept.log.length : Int) := by
    intro x hx
    rcases mem_set hx with rfl | hx
    · have : 0 ≤ r.have_.getD m.from_.toNat 0 ∧ r.have_.getD m.from_.toNat 0 ≤ (r.kept.log.length : Int) := by
        by_cases hlt : m.from_.toNat < r.have_.length
        · have := f6 _ (List.getElem_mem hlt)
          simpa [hlt] using this
        · simp [hlt]
      omega
    · exact f6 x hx
  split
  · refine repFault_mk f1 (by simp [f2]) f3 f4 f5 hhave f7 ?_
    refine keptFault_mk k1 k2 k3 k4 k5 k6 ?_ ?_ k9
    · show 0 ≤ min m.n (r.kept.log.length : Int); omega
    · show min m.n (r.kept.log.length : Int) ≤ r.kept.log.length; omega
  · exact repFault_mk f1 (by simp [f2]) f3 f4 f5 hhave f7 f8
theorem wantIf_fault {r : Replica} {v : Int} (h : repFault r = 0) (hv : v ≤ 1048576) : repFault (wantIf r v).1 = 0 := by
  unfold wantIf
  split
  · exact want_fault h (by assumption) hv
  · exact h
theorem hearWant_fault {r : Replica} {m : Message} (h : repFault r = 0) (hm : msgFault m = 0) : repFault (hearWant r m).1 = 0 := by
  have hw := wantIf_fault (v := m.view) h (msgFault_ok hm).2.2.2.2.2.2.1
  unfold hearWant
  generalize wantIf r m.view = x at *
  obtain ⟨r1, o1⟩ := x
  simp only at hw ⊢
  obtain ⟨f1, f2, f3, f4, f5, f6, f7, f8⟩ := repFault_ok hw
  split
  · exact hw
  have hw2 := wants_fault hw (r1.wants.set m.from_.toNat true) (by simp [f3])
  split
  · exact begun_fault (give1_fault hw2 (own_fault f8))
  · exact hw2
theorem hearGive_fault {r : Replica} {m : Message} (h : repFault r = 0) (hm : msgFault m = 0) : repFault (hearGive r m).1 = 0 := by
  have hw := wantIf_fault (v := m.view) h (msgFault_ok hm).2.2.2.2.2.2.1
  have hk := (msgFault_ok hm).2.2.2.2.2.2.2.2.2.2.2
  unfold hearGive
  generalize wantIf r m.view = x at *
  obtain ⟨r1, o1⟩ := x
  simp only at hw ⊢
  obtain ⟨f1, f2, f3, f4, f5, f6, f7, f8⟩ := repFault_ok hw
  split
  · exact hw
  refine begun_fault (give1_fault ?_ hk)
  split
  · exact give1_fault hw (own_fault f8)
  · exact hw
theorem hear_fault {r : Replica} {m : Message} (hok : (hear r m).2.2 = 0) : repFault (hear r m).1 = 0 := by
  unfold hear at hok ⊢
  split
  · rename_i hx; rw [if_pos hx] at hok; exact absurd hok hx
  rename_i hx; rw [if_neg hx] at hok
  split
  · rename_i hx; rw [if_pos hx] at hok; exact absurd hok hx
  rename_i hx2; rw [if_neg hx2] at hok
  split
  · rename_i hx; rw [if_pos hx] at hok; simp at hok
  rename_i hx3; rw [if_neg hx3] at hok
  split
  · rename_i hx; rw [if_pos hx] at hok; simp at hok
  rename_i hx4
  have h1 : repFault r = 0 := by omega
  have h2 : msgFault m = 0 := by omega
  simp only [hearIt]
  split
  · exact hearLead_fault h1 h2 (by omega)
  split
  · exact hearHas_fault h1 h2
  split
  · exact hearWant_fault h1 h2
  · exact hearGive_fault h1 h2
theorem take_fault {r : Replica} {e : Str} (hok : (take r e).2.2 = 0) : repFault (take r e).1 = 0 := by
  unfold take at hok ⊢
  split
  · rename_i hx; rw [if_pos hx] at hok; exact absurd hok hx
  rename_i hx; rw [if_neg hx] at hok
  split
  · rename_i hx; rw [if_pos hx] at hok; simp at hok
  rename_i hx2; rw [if_neg hx2] at hok
  split
  · rename_i hx; rw [if_pos hx] at hok; simp at hok
  rename_i hx3; rw [if_neg hx3] at hok
  split
  · rename_i hx; rw [if_pos hx] at hok; exact absurd hok hx
  rename_i hx4
  obtain ⟨f1, f2, f3, f4, f5, f6, f7, f8⟩ := repFault_ok (r := r) (by omega)
  obtain ⟨k1, k2, k3, k4, k5, k6, k7, k8, k9⟩ := keptFault_ok f8
  refine repFault_mk f1 f2 f3 f4 f5 ?_ f7 ?_
  · intro x hx
    have := f6 x hx
    show 0 ≤ x ∧ x ≤ ((r.kept.log ++ [e]).length : Int)
    rw [List.length_append]
    omega
  · refine keptFault_mk k1 k2 k3 k4 k5 ?_ k7 ?_ ?_
    · show (r.kept.log ++ [e]).length ≤ 60
      rw [List.length_append]
      simp only [List.length_cons, List.length_nil]
      omega
    · show r.kept.commit ≤ ((r.kept.log ++ [e]).length : Int)
      rw [List.length_append]
      omega
    · intro x hx
      rcases List.mem_append.1 hx with hx | hx
      · exact k9 x hx
      · simp only [List.mem_singleton] at hx
        subst hx
        omega
theorem tick_fault {r : Replica} (hok : (tick r).2.2 = 0) : repFault (tick r).1 = 0 := by
  unfold tick at hok ⊢
  split
  · rename_i hx; rw [if_pos hx] at hok; exact absurd hok hx
  rename_i hx; rw [if_neg hx] at hok
  have h1 : repFault r = 0 := by omega
  split
  · exact h1
  split
  · exact h1
  · exact wants_fault h1 _ (by simp [(repFault_ok h1).2.2.1])
theorem alarm_fault {r : Replica} (hok : (alarm r).2.2 = 0) : repFault (alarm r).1 = 0 := by
  unfold alarm at hok ⊢
  split
  · rename_i hx; rw [if_pos hx] at hok; exact absurd hok hx
  rename_i hx; rw [if_neg hx] at hok
  have h1 : repFault r = 0 := by omega
  split
  · rename_i hx; rw [if_pos hx] at hok; simp at hok
  · have := (keptFault_ok (repFault_ok h1).2.2.2.2.2.2.2).2.1
    exact want_fault h1 (by omega) (by omega)

/- where messages go -/
def ToR (l : List Message) : Prop := ∀ m ∈ l, InR m.to
theorem toAll_to (me v : Int) (m : Message) : ToR (toAll me v m) := fun x hx => by
  obtain ⟨i, hi, _, rfl⟩ := mem_toAll hx
  exact hi
theorem ToR.app {a b : List Message} (h : ToR a) (k : ToR b) : ToR (a ++ b) := fun m hm => by
  rcases List.mem_append.1 hm with hm | hm
  · exact h m hm
  · exact k m hm
theorem ToR.nil : ToR [] := fun m hm => by simp at hm
theorem ToR.one {m : Message} (h : InR m.to) : ToR [m] := fun x hx => by simp only [List.mem_singleton] at hx; subst hx; exact h
theorem begun_to (r : Replica) : ToR (begun r).2 := by
  unfold begun
  split
  · exact ToR.nil
  split
  · exact ToR.nil
  · exact toAll_to _ _ _
theorem wantIf_to (r : Replica) (v : Int) : ToR (wantIf r v).2 := by
  unfold wantIf
  split
  · exact toAll_to _ _ _
  · exact ToR.nil
theorem hear_to (r : Replica) (m : Message) : ToR (hear r m).2.1 := by
  unfold hear
  split
  · exact ToR.nil
  split
  · exact ToR.nil
  rename_i hx2
  split
  · exact ToR.nil
  split
  · exact ToR.nil
  have h2 : msgFault m = 0 := by omega
  simp only [hearIt]
  split
  · exact ToR.one (msgFault_ok h2).2.2.1
  split
  · unfold hearHas
    split
    · exact ToR.nil
    simp only []
    split
    · exact toAll_to _ _ _
    · exact ToR.nil
  split
  · have hw := wantIf_to r m.view
    unfold hearWant
    generalize wantIf r m.view = x at *
    obtain ⟨r1, o1⟩ := x
    simp only at hw ⊢
    split
    · exact hw
    split
    · exact hw.app (begun_to _)
    · exact hw.app (ToR.one (leader_in _))
  · have hw := wantIf_to r m.view
    unfold hearGive
    generalize wantIf r m.view = x at *
    obtain ⟨r1, o1⟩ := x
    simp only at hw ⊢
    split
    · exact hw
    · exact hw.app (begun_to _)
theorem take_to (r : Replica) (e : Str) : ToR (take r e).2.1 := by
  unfold take
  repeat' split
  all_goals first | exact ToR.nil | exact toAll_to _ _ _
theorem tick_to (r : Replica) : ToR (tick r).2.1 := by
  unfold tick
  split
  · exact ToR.nil
  split
  · exact toAll_to _ _ _
  split
  · exact ToR.one (leader_in _)
  · exact toAll_to _ _ _
theorem alarm_to (r : Replica) : ToR (alarm r).2.1 := by
  unfold alarm
  split
  · exact ToR.nil
  split
  · exact ToR.nil
  · exact toAll_to _ _ _
end Scu

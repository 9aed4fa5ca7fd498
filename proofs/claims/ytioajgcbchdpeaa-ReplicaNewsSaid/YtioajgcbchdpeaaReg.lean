/- A law for regions that draw their order: what holds ahead of, and behind, each operation, in whatever order they come. -/
import Derived.Test.YtioajgcbchdpeaaBase
import Derived.Orders
namespace Go.Proofs.Ytioajgcbchdpeaa
open Go.RowKit
set_option maxHeartbeats 400000

theorem mem_ready {md : Region.Mode} {ops : Array Oper} {listed : Array Bool} {i : Nat} (h : i ∈ Region.ready md ops listed) :
    i < ops.size ∧ listed.getD i true = false ∧ ((ops[i]?).map (·.after.all fun e => !Region.binds md e || listed.getD e.on false)).getD false = true := by
  unfold Region.ready at h
  rw [List.mem_filter] at h
  obtain ⟨h1, h2⟩ := h
  simp only [Bool.and_eq_true, Bool.not_eq_true'] at h2
  exact ⟨by simpa using h1, h2.1, h2.2⟩
def left_ (listed : Array Bool) : Nat := listed.countP (!·)
theorem getD_lt {listed : Array Bool} {i : Nat} (h : listed.getD i true = false) : ∃ hi : i < listed.size, listed[i] = false := by
  rcases Nat.lt_or_ge i listed.size with hlt | hge
  · exact ⟨hlt, by rw [← h]; simp [Array.getD, hlt]⟩
  · rw [Array.getD_eq_getD_getElem?, Array.getElem?_eq_none hge] at h
    cases h
theorem left_set {listed : Array Bool} {i : Nat} (h : listed.getD i true = false) : left_ (listed.setIfInBounds i true) + 1 ≤ left_ listed := by
  obtain ⟨hi, hf⟩ := getD_lt h
  unfold left_
  rw [Array.setIfInBounds_def, dif_pos hi, Array.countP_set]
  have : 0 < listed.countP (!·) := by
    rw [Array.countP_pos_iff]
    exact ⟨false, by rw [← hf]; exact Array.getElem_mem hi, rfl⟩
  rw [hf]
  simp
  omega
theorem left_zero {md : Region.Mode} {ops : Array Oper} {listed : Array Bool} (h : left_ listed = 0) : Region.ready md ops listed = [] := by
  rw [List.eq_nil_iff_forall_not_mem]
  intro i hi
  have := left_set (mem_ready hi).2.1
  omega
section
variable {P : Program} {ops : Array Oper} {Q : Exit → Act → World → Prop} {md : Region.Mode}
theorem wpAny_inv (I : Array Bool → Act → World → Prop)
    (hstep : ∀ listed a w i, I listed a w → i ∈ Region.ready md ops listed → wpOp P ops Q i (fun a' w' => I (listed.setIfInBounds i true) a' w') a w)
    (hend : ∀ listed a w, I listed a w → Region.ready md ops listed = [] → Q .normal a w) :
    ∀ fuel listed a w, left_ listed ≤ fuel → I listed a w → wpAny P md ops Q fuel listed a w
  | 0, listed, a, w, hl, hI => by
    have hr := left_zero (md := md) (ops := ops) (show left_ listed = 0 by omega)
    exact ⟨hr, hend listed a w hI hr⟩
  | fuel + 1, listed, a, w, hl, hI => by
    refine ⟨hend listed a w hI, fun i hi => ?_⟩
    have hlt := left_set (mem_ready hi).2.1
    exact wpOp_mono (fun a' w' h => wpAny_inv I hstep hend fuel _ a' w' (by omega) h) (hstep listed a w i hI hi)
/-- THE LAW. -/
theorem wp_region_inv {id : Nat} {a : Act} {w : World} (hm : P.follows .mixedOrders = true) (I : Array Bool → Act → World → Prop)
    (h0 : I (Array.replicate ops.size false) a { w with drawn := w.drawn + 1 })
    (hstep : ∀ listed a w i, I listed a w → i ∈ Region.ready .any ops listed → wpOp P ops Q i (fun a' w' => I (listed.setIfInBounds i true) a' w') a w)
    (hend : ∀ listed a w, I listed a w → Region.ready .any ops listed = [] → Q .normal a w) : (Code.region id ops true).wp P Q a w :=
  wp_region_any hm (wpAny_inv I hstep hend _ _ _ _ (by unfold left_; simp [Array.countP_replicate]) h0)
theorem wpOp_go {i : Nat} {o : Oper} {K : Act → World → Prop} {a : Act} {w : World} (hi : ops[i]? = some o) (hg : o.guard = none) (h : o.wp P a w K Q) : wpOp P ops Q i K a w := by
  unfold wpOp
  rw [hi]
  have hw : Region.wanted o (yielded ops a.tmps) = true := by simp [Region.wanted, hg]
  simp only [hw, if_true]
  exact .inl h
end
/-- whether k is done -/
def Dn (listed : Array Bool) (k : Nat) : Prop := listed.getD k false = true
theorem dn_set {listed : Array Bool} {i k : Nat} (h : Dn (listed.setIfInBounds i true) k) : k = i ∨ Dn listed k := by
  unfold Dn at *
  by_cases e : k = i
  · exact .inl e
  · refine .inr ?_
    rw [Array.getD_eq_getD_getElem?, Array.getElem?_setIfInBounds_ne (fun h => e h.symm), ← Array.getD_eq_getD_getElem?] at h
    exact h
theorem dn_old {listed : Array Bool} {i k : Nat} (h : Dn (listed.setIfInBounds i true) k) (hne : k ≠ i) : Dn listed k := (dn_set h).resolve_left hne
theorem not_dn0 {n k : Nat} (h : Dn (Array.replicate n false) k) : False := by
  unfold Dn at h
  rw [Array.getD_eq_getD_getElem?] at h
  by_cases hk : k < n
  · simp [hk] at h
  · rw [Array.getElem?_eq_none (by simpa using hk)] at h
    cases h
/-- all are done, where none is ready and the edges point back -/
theorem all_done {ops : Array Oper} {listed : Array Bool} (hb : (List.range ops.size).all (fun i => ((ops[i]?).map fun o => o.after.all fun e => decide (e.on < i)).getD false) = true)
    (hl : listed.size = ops.size) (h : Region.ready .any ops listed = []) : ∀ k, k < ops.size → Dn listed k := by
  intro k
  induction k using Nat.strongRecOn with
  | ind k ih =>
    intro hk
    unfold Dn
    cases hd : listed.getD k false with
    | true => rfl
    | false =>
      exfalso
      have hkt : listed.getD k true = false := by
        rw [Array.getD_eq_getD_getElem?] at hd ⊢
        rw [Array.getElem?_eq_getElem (by omega)] at hd ⊢
        exact hd
      have hb' := List.all_eq_true.1 hb k (by simpa using hk)
      rw [Array.getElem?_eq_getElem hk] at hb'
      simp only [Option.map_some, Option.getD_some, Array.all_eq_true', decide_eq_true_eq] at hb'
      have : k ∈ Region.ready .any ops listed := by
        unfold Region.ready
        rw [List.mem_filter]
        refine ⟨by simpa using hk, ?_⟩
        rw [hkt, Array.getElem?_eq_getElem hk]
        simp only [Bool.not_false, Bool.true_and, Option.map_some, Option.getD_some, Array.all_eq_true']
        intro e he
        have hlt := hb' e he
        have := ih e.on hlt (by omega)
        unfold Dn at this
        rw [this]
        simp
      rw [h] at this
      cases this
end Go.Proofs.Ytioajgcbchdpeaa

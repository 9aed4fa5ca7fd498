/- Walks: who leads; the laws ReplicaChecks and ReplicaLeads. -/
import Derived.Test.YtjofalgbelecbaaRepR
import Derived.Test.YtjofalgbelecbaaFault
namespace Go.Proofs.Ytjofalgbelecbaa
open Go.RowKit
set_option maxHeartbeats 400000
set_option maxRecDepth 100000
theorem leads_at (r : Scu.Replica) (h : r.kept.calm = true) : Scu.leads r = (r.kept.view % 3 == r.me) := by
  unfold Scu.leads Scu.leader
  rw [h, Bool.eq_iff_iff]
  simp
theorem leader_c (vi : Int) (w : World) (h0 : 0 ≤ vi) : Calls Try.prog 41 #[.int .i64 vi] w fun e w' => e = .returned (.int .i64 (vi % 3)) ∧ w = w' := by
  go_enter Try.func41, Try.ntmps41
  go_wp2
  go_ret
  exact ⟨rfl, rfl⟩
theorem leads_x (me vi no : Int) (ca : Bool) (lv : Value) (co : Int) (hv wv gv nv : Value) (r : Scu.Replica) (h0 : 0 ≤ vi) (h1 : r.me = me) (h2 : r.kept.view = vi) (h3 : r.kept.calm = ca) (w : World) :
    Calls Try.prog 43 #[.agg #[.int .i64 me, .int .i64 vi, .int .i64 no, .bool ca, lv, .int .i64 co, hv, wv, gv, nv]] w fun e w' => e = .returned (.bool (Scu.leads r)) ∧ Below w.heap.size w w' := by
  cases ca
  · have HF := Lib.hid (show Scu.leads r = false by unfold Scu.leads; rw [h3]; rfl)
    clear h1 h2 h3
    go_enter Try.func43, Try.ntmps43
    go_wp2
    go_quiet (fail)
    go_wp2
    go_ret
    exact ⟨ret_val (bool_eq HF.out.symm), below_drewN (below_alloc w _) _⟩
  · have HF := Lib.hid (show Scu.leads r = (vi % 3 == me) by rw [leads_at r h3, h1, h2])
    clear h1 h2 h3
    go_enter Try.func43, Try.ntmps43
    go_wp2
    go_quiet ((go_at_call 41; exact quiet_at ((leader_c _ _ h0).mono fun _ _ h => ⟨h.1, 0, h.2.symm⟩)))
    go_wp2
    go_ret
    exact ⟨ret_val (bool_eq HF.out.symm), below_drewN (below_alloc w _) _⟩
theorem leadsNow_x (me vi no : Int) (ca : Bool) (lv : Value) (co : Int) (hv wv gv nv : Value) (r : Scu.Replica) (h0 : 0 ≤ vi) (h1 : r.me = me) (h2 : r.kept.view = vi) (h3 : r.kept.calm = ca) (w : World) :
    Calls Try.prog 44 #[.agg #[.int .i64 me, .int .i64 vi, .int .i64 no, .bool ca, lv, .int .i64 co, hv, wv, gv, nv]] w fun e w' => e = .returned (.bool (Scu.leads r)) ∧ Below w.heap.size w w' := by
  cases ca
  · have HF := Lib.hid (show Scu.leads r = false by unfold Scu.leads; rw [h3]; rfl)
    clear h1 h2 h3
    go_enter Try.func44, Try.ntmps44
    go_wp2
    go_ret
    exact ⟨ret_val (bool_eq HF.out.symm), below_alloc w _⟩
  · have HF := Lib.hid (show Scu.leads r = (vi % 3 == me) by rw [leads_at r h3, h1, h2])
    clear h1 h2 h3
    go_enter Try.func44, Try.ntmps44
    go_wp2
    go_ret
    exact ⟨ret_val (bool_eq HF.out.symm), below_alloc w _⟩
theorem leads_c (lv hv wv gv nv : Value) (r : Scu.Replica) (h0 : 0 ≤ r.kept.view) (w : World) : Calls Try.prog 43 #[.agg #[.int .i64 r.me, .int .i64 r.kept.view, .int .i64 r.kept.normal, .bool r.kept.calm, lv, .int .i64 r.kept.commit, hv, wv, gv, nv]] w fun e w' => e = .returned (.bool (Scu.leads r)) ∧ Below w.heap.size w w' :=
  leads_x _ _ _ _ _ _ _ _ _ _ r h0 rfl rfl rfl w
theorem leadsNow_c (lv hv wv gv nv : Value) (r : Scu.Replica) (h0 : 0 ≤ r.kept.view) (w : World) : Calls Try.prog 44 #[.agg #[.int .i64 r.me, .int .i64 r.kept.view, .int .i64 r.kept.normal, .bool r.kept.calm, lv, .int .i64 r.kept.commit, hv, wv, gv, nv]] w fun e w' => e = .returned (.bool (Scu.leads r)) ∧ Below w.heap.size w w' :=
  leadsNow_x _ _ _ _ _ _ _ _ _ _ r h0 rfl rfl rfl w
theorem lawReplicaChecks_w (v : Value) (r : Scu.Replica) {w : World} (h : IsRepV w v r) (W : World) (hW : W = w) :
    Calls Try.prog 24 #[v] W fun e w' => e = .returned (.bool true) ∧ Below W.heap.size W w' := by
  subst hW
  obtain ⟨lv, hv, wv, gv, nv, rfl, hr⟩ := h
  obtain ⟨A0, n0, c0, rfl⟩ := hr.log.form
  obtain ⟨A1, n1, c1, rfl⟩ := hr.have_.form
  obtain ⟨A2, n2, c2, rfl⟩ := hr.wants.form
  obtain ⟨A3, n3, c3, rfl⟩ := hr.gives.form
  obtain ⟨A4, n4, c4, rfl⟩ := hr.given.form
  have HV := Lib.hid hr
  clear hr
  go_enter Try.func24, Try.ntmps24
  go_wp2_with fail
  refine (repCheck_c _ _ _ _ _ r _ _ (HV.out.alloc _)).mono ?_; rintro e w1 ⟨rfl, h1⟩
  obtain ⟨hc, hz⟩ := bcell h1
  have hsz := box_lt h1
  have hB1 := below_box h1
  go_wp2_with fail
  refine (replicaFault_c _ _ _ _ _ r _ _ (HV.out.below hB1)).mono ?_; rintro e w2 ⟨rfl, h2⟩
  go_wp2
  go_ret
  exact ⟨by simp, hB1.trans (h2.mono hB1.size)⟩
theorem lawReplicaLeads_w (v : Value) (r : Scu.Replica) {w : World} (h : IsRepV w v r) (W : World) (hW : W = w) :
    Calls Try.prog 6 #[v] W fun e w' => e = .returned (.bool true) ∧ Below W.heap.size W w' := by
  subst hW
  obtain ⟨lv, hv, wv, gv, nv, rfl, hr⟩ := h
  obtain ⟨A0, n0, c0, rfl⟩ := hr.log.form
  obtain ⟨A1, n1, c1, rfl⟩ := hr.have_.form
  obtain ⟨A2, n2, c2, rfl⟩ := hr.wants.form
  obtain ⟨A3, n3, c3, rfl⟩ := hr.gives.form
  obtain ⟨A4, n4, c4, rfl⟩ := hr.given.form
  have HV := Lib.hid hr
  clear hr
  cases t : (Scu.repFault r != 0)
  · have h0 : Scu.repFault r = 0 := by simpa using t
    have hvw := (Scu.keptFault_ok (Scu.repFault_ok h0).2.2.2.2.2.2.2).1
    clear h0
    go_enter Try.func6, Try.ntmps6
    go_wp2_with fail
    refine (replicaFault_c _ _ _ _ _ r _ _ (HV.out.alloc _)).mono ?_; rintro e w1 ⟨rfl, h1⟩
    obtain ⟨hc, hz⟩ := bcell h1
    have hsz := box_lt h1
    have hB1 := below_box h1
    go_wp2_with fail
    refine (leads_c _ _ _ _ _ r hvw _).mono ?_; rintro e w2 ⟨rfl, h2⟩
    have hB2 := hB1.trans (h2.mono hB1.size)
    have h12 := h1.trans (h2.mono h1.size)
    clear hc hz
    obtain ⟨hc, hz⟩ := bcell h12
    have hsz2 := box_lt h12
    go_wp2_with fail
    refine (leadsNow_c _ _ _ _ _ r hvw _).mono ?_; rintro e w3 ⟨rfl, h3⟩
    have hd : Scu.leads r = true ∨ Scu.leads r = false := by cases Scu.leads r <;> simp
    rcases hd with hd | hd
    all_goals
      rw [hd]
      go_wp2
      go_ret
      exact ⟨by simp, hB2.trans (h3.mono hB2.size)⟩
  · go_enter Try.func6, Try.ntmps6
    go_wp2_with fail
    refine (replicaFault_c _ _ _ _ _ r _ _ (HV.out.alloc _)).mono ?_; rintro e w1 ⟨rfl, h1⟩
    go_wp2
    go_ret
    exact ⟨rfl, below_box h1⟩
end Go.Proofs.Ytjofalgbelecbaa

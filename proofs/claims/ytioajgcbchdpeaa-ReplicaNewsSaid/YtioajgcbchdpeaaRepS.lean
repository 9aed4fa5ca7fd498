/- Walks: who leads; the laws ReplicaChecks and ReplicaLeads. -/
import Derived.Test.YtioajgcbchdpeaaRepR
import Derived.Test.YtioajgcbchdpeaaFault
namespace Go.Proofs.Ytioajgcbchdpeaa
open Go.RowKit
set_option maxHeartbeats 400000
set_option maxRecDepth 100000
theorem leads_at (r : Scu.Replica) (h : r.kept.calm = true) : Scu.leads r = (r.kept.view % 3 == r.me) := by
  unfold Scu.leads Scu.leader
  rw [h, Bool.eq_iff_iff]
  simp
theorem leader_c (vi : Int) (w : World) (h0 : 0 ≤ vi) : Calls Try.prog 86 #[.int .i64 vi] w fun e w' => e = .returned (.int .i64 (vi % 3)) ∧ w = w' := by
  go_enter Try.func86, Try.ntmps86
  go_wp2
  go_ret
  exact ⟨rfl, rfl⟩
theorem leads_x (me vi no : Int) (ca : Bool) (lv : Value) (co : Int) (hv wv gv nv : Value) (r : Scu.Replica) (h0 : 0 ≤ vi) (h1 : r.me = me) (h2 : r.kept.view = vi) (h3 : r.kept.calm = ca) (w : World) :
    Calls Try.prog 83 #[.agg #[.int .i64 me, .int .i64 vi, .int .i64 no, .bool ca, lv, .int .i64 co, hv, wv, gv, nv]] w fun e w' => e = .returned (.bool (Scu.leads r)) ∧ Below w.heap.size w w' := by
  cases ca
  · have HF := Lib.hid (show Scu.leads r = false by unfold Scu.leads; rw [h3]; rfl)
    clear h1 h2 h3
    go_enter Try.func83, Try.ntmps83
    go_wp2
    go_quiet (fail)
    go_wp2
    go_ret
    exact ⟨ret_val (bool_eq HF.out.symm), below_drewN (below_alloc w _) _⟩
  · have HF := Lib.hid (show Scu.leads r = (vi % 3 == me) by rw [leads_at r h3, h1, h2])
    clear h1 h2 h3
    go_enter Try.func83, Try.ntmps83
    go_wp2
    go_quiet ((go_at_call 86; exact quiet_at ((leader_c _ _ h0).mono fun _ _ h => ⟨h.1, 0, h.2.symm⟩)))
    go_wp2
    go_ret
    exact ⟨ret_val (bool_eq HF.out.symm), below_drewN (below_alloc w _) _⟩
theorem leadsNow_x (me vi no : Int) (ca : Bool) (lv : Value) (co : Int) (hv wv gv nv : Value) (r : Scu.Replica) (h0 : 0 ≤ vi) (h1 : r.me = me) (h2 : r.kept.view = vi) (h3 : r.kept.calm = ca) (w : World) :
    Calls Try.prog 89 #[.agg #[.int .i64 me, .int .i64 vi, .int .i64 no, .bool ca, lv, .int .i64 co, hv, wv, gv, nv]] w fun e w' => e = .returned (.bool (Scu.leads r)) ∧ Below w.heap.size w w' := by
  cases ca
  · have HF := Lib.hid (show Scu.leads r = false by unfold Scu.leads; rw [h3]; rfl)
    clear h1 h2 h3
    go_enter Try.func89, Try.ntmps89
    go_wp2
    go_ret
    exact ⟨ret_val (bool_eq HF.out.symm), below_alloc w _⟩
  · have HF := Lib.hid (show Scu.leads r = (vi % 3 == me) by rw [leads_at r h3, h1, h2])
    clear h1 h2 h3
    go_enter Try.func89, Try.ntmps89
    go_wp2
    go_ret
    exact ⟨ret_val (bool_eq HF.out.symm), below_alloc w _⟩
theorem leads_c (lv hv wv gv nv : Value) (r : Scu.Replica) (h0 : 0 ≤ r.kept.view) (w : World) : Calls Try.prog 83 #[.agg #[.int .i64 r.me, .int .i64 r.kept.view, .int .i64 r.kept.normal, .bool r.kept.calm, lv, .int .i64 r.kept.commit, hv, wv, gv, nv]] w fun e w' => e = .returned (.bool (Scu.leads r)) ∧ Below w.heap.size w w' :=
  leads_x _ _ _ _ _ _ _ _ _ _ r h0 rfl rfl rfl w
theorem leadsNow_c (lv hv wv gv nv : Value) (r : Scu.Replica) (h0 : 0 ≤ r.kept.view) (w : World) : Calls Try.prog 89 #[.agg #[.int .i64 r.me, .int .i64 r.kept.view, .int .i64 r.kept.normal, .bool r.kept.calm, lv, .int .i64 r.kept.commit, hv, wv, gv, nv]] w fun e w' => e = .returned (.bool (Scu.leads r)) ∧ Below w.heap.size w w' :=
  leadsNow_x _ _ _ _ _ _ _ _ _ _ r h0 rfl rfl rfl w
end Go.Proofs.Ytioajgcbchdpeaa

/- The laws on operations and requests, walked. -/
import Derived.Test.YtjofalgbelecbaaOpsW
import Derived.Test.YtjofalgbelecbaaOpen
namespace Go.Proofs.Ytjofalgbelecbaa
open Go.RowKit
set_option maxHeartbeats 400000
set_option maxRecDepth 100000
theorem lawVolumeOps_w (v : Value) (o : Scu.Op) (hv : v = vOp o) (w : World) :
    Calls Try.prog 13 #[v] w fun e w' => e = .returned (.bool true) ∧ Below w.heap.size w w' := by
  subst hv
  unfold vOp
  go_enter Try.func13, Try.ntmps13
  go_wp2_with fail
  refine (checkOp_c _ _).mono ?_; rintro e w1 ⟨rfl, h1⟩
  obtain ⟨hc, hf⟩ := bcell h1
  go_wp2_with fail
  refine (opFault_c _ _).mono ?_; rintro e w2 ⟨rfl, h2⟩
  go_wp2
  go_ret
  exact ⟨rfl, (below_box h1).trans (h2.mono (below_box h1).size)⟩
theorem lawMachineRequests_w (v : Value) (r : Scu.Request) (hv : v = vRequest r) (w : World) :
    Calls Try.prog 16 #[v] w fun e w' => e = .returned (.bool true) ∧ Below w.heap.size w w' := by
  subst hv
  unfold vRequest
  go_enter Try.func16, Try.ntmps16
  go_wp2_with fail
  refine (checkRequest_c _ _).mono ?_; rintro e w1 ⟨rfl, h1⟩
  obtain ⟨hc, hf⟩ := bcell h1
  go_wp2_with fail
  refine (requestFault_c _ _).mono ?_; rintro e w2 ⟨rfl, h2⟩
  go_wp2
  go_ret
  exact ⟨rfl, (below_box h1).trans (h2.mono (below_box h1).size)⟩
end Go.Proofs.Ytjofalgbelecbaa

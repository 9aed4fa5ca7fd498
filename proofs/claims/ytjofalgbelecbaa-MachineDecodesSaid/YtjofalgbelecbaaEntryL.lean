/- The laws on entries, walked. -/
import Derived.Test.YtjofalgbelecbaaEntryR
namespace Go.Proofs.Ytjofalgbelecbaa
open Go.RowKit
set_option maxHeartbeats 400000
set_option maxRecDepth 100000
theorem lawMachineEncodes_w (v : Value) (r : Scu.Request) (hv : v = vRequest r) (w : World) :
    Calls Try.prog 20 #[v] w fun e w' => e = .returned (.bool true) ∧ Below w.heap.size w w' := by
  subst hv
  unfold vRequest
  go_enter Try.func20, Try.ntmps20
  go_wp2_with fail
  refine (encode_c _ _).mono ?_; rintro e w1 ⟨rfl, h1⟩
  obtain ⟨hc, hf⟩ := bcell h1
  go_wp2_with fail
  refine (entryBytes_c _ _).mono ?_; rintro e w2 ⟨rfl, h2⟩
  go_wp2
  go_ret
  exact ⟨rfl, (below_box h1).trans (h2.mono (below_box h1).size)⟩
theorem lawMachineDecodes_w (s : ByteArray) (_ : s.size ≤ maxLen) (w : World) :
    Calls Try.prog 21 #[.string s] w fun e w' => e = .returned (.bool true) ∧ Below w.heap.size w w' := by
  have k1 := decode_c s
  have k2 := entryOf_c s
  generalize Scu.decode s = q at k1 k2
  obtain ⟨⟨c, n, ⟨k, a, m, d⟩⟩, x⟩ := q
  unfold vRequest at k1 k2
  simp only at k1 k2
  have K1 := Lib.hid k1
  have K2 := Lib.hid k2
  clear k1 k2
  go_enter Try.func21, Try.ntmps21
  go_wp2_with fail
  refine (K1.out _).mono ?_; rintro e w1 ⟨rfl, h1⟩
  have hsz := h1.size
  go_wp2_with fail
  refine (K2.out _).mono ?_; rintro e w2 ⟨rfl, h2⟩
  obtain ⟨hc, hf⟩ := bcell h2
  have hlt := box_lt h2
  go_wp2
  go_ret
  exact ⟨rfl, (h1.trans ((below_box h2).mono hsz)).alloc (by have := h1.size; omega) _⟩
end Go.Proofs.Ytjofalgbelecbaa

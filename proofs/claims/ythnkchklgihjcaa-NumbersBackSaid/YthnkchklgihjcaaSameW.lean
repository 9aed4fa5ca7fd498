/- Walks: the laws' own comparisons. -/
import Derived.Test.YthnkchklgihjcaaMem
namespace Go.Proofs.Ythnkchklgihjcaa
open Go.RowKit
set_option maxHeartbeats 400000
set_option maxRecDepth 100000
theorem str_beq (a b : ByteArray) : (a.toList == b.toList) = decide (a = b) := by
  rw [ByteArray.toList_eq, ByteArray.toList_eq, Bool.eq_iff_iff, beq_iff_eq, decide_eq_true_eq]
  exact ⟨fun e => ByteArray.ext (Array.toList_inj.1 e), fun e => by rw [e]⟩

/- volumes -/
section
variable {w w' : World} {B B' : Nat} {v : Value} {xss : List (List Scu.Str)}
end
theorem vol_eq {x y : Scu.Volume} (h1 : x.now = y.now) (h2 : x.snaps = y.snaps) : x = y := by
  cases x; cases y; simp_all
end Go.Proofs.Ythnkchklgihjcaa

/- How arguments are opened: what their reading says of cells and values. -/
import Derived.Test.YthnkchklgihjcaaSameW
import Derived.Deep.Slices
import Derived.Deep.Fields
namespace Go.Proofs.Ythnkchklgihjcaa
open Go.RowKit Go.ChangeShapes Go.WideShapes Go.ChangeAt
set_option maxRecDepth 100000

def opC (o : Scu.Op) : List Value := [.int .i64 o.kind, .int .i64 o.at_, .int .i64 o.snap, .string o.data]
def vOp (o : Scu.Op) : Value := .agg #[.int .i64 o.kind, .int .i64 o.at_, .int .i64 o.snap, .string o.data]
def vRequest (r : Scu.Request) : Value := .agg #[.int .i64 r.client, .int .i64 r.num, .int .i64 r.op.kind, .int .i64 r.op.at_, .int .i64 r.op.snap, .string r.op.data]

theorem cells_int : Try.prog.cellsOf 3 = 1 := by kernel_rfl
theorem cells_bool : Try.prog.cellsOf 4 = 1 := by kernel_rfl
theorem cells_string : Try.prog.cellsOf 9 = 1 := by kernel_rfl
section
variable {H : Type} {enc : TypeId × Value → H} {w : World} {base : Nat} {spare : Nat → Bool} {held : Bool} {n : Nat} {cs : List Value} {y : Option (DataW H × List MemPlace)}
theorem some_of {α : Type} {xs : List α} {m : Nat} (h : xs.length = m) {i : Nat} (hi : i < m) : ∃ z, xs[i]? = some z := ⟨_, List.getElem?_eq_getElem (by omega)⟩

end
section
variable {H : Type} {enc : TypeId × Value → H} {w : World} {base : Nat} {spare : Nat → Bool} {held : Bool} {d : DataW H} {p : List MemPlace} {v : Value} {b0 : Nat}
end
end Go.Proofs.Ythnkchklgihjcaa

/- How arguments are opened: what their reading says of cells and values. -/
import Derived.Test.YtioajgcbchdpeaaSameW
import Derived.Deep.Slices
import Derived.Deep.Fields
namespace Go.Proofs.Ytioajgcbchdpeaa
open Go.RowKit Go.ChangeShapes Go.WideShapes Go.ChangeAt
set_option maxRecDepth 100000

def opC (o : Scu.Op) : List Value := [.int .i64 o.kind, .int .i64 o.at_, .int .i64 o.snap, .string o.data]
def vOp (o : Scu.Op) : Value := .agg #[.int .i64 o.kind, .int .i64 o.at_, .int .i64 o.snap, .string o.data]
def vRequest (r : Scu.Request) : Value := .agg #[.int .i64 r.client, .int .i64 r.num, .int .i64 r.op.kind, .int .i64 r.op.at_, .int .i64 r.op.snap, .string r.op.data]

theorem cells_int : Try.prog.cellsOf 3 = 1 := by kernel_rfl
theorem cells_bool : Try.prog.cellsOf 4 = 1 := by kernel_rfl
theorem cells_string : Try.prog.cellsOf 9 = 1 := by kernel_rfl
theorem cells_strs : Try.prog.cellsOf 26 = 1 := by kernel_rfl
theorem cells_op : Try.prog.cellsOf 40 = 4 := by kernel_rfl
theorem cells_request : Try.prog.cellsOf 104 = 6 := by kernel_rfl

section
variable {H : Type} {enc : TypeId × Value → H} {w : World} {base : Nat} {spare : Nat → Bool} {held : Bool} {n : Nat} {cs : List Value} {y : Option (DataW H × List MemPlace)}
theorem some_of {α : Type} {xs : List α} {m : Nat} (h : xs.length = m) {i : Nat} (hi : i < m) : ∃ z, xs[i]? = some z := ⟨_, List.getElem?_eq_getElem (by omega)⟩

theorem trod_op {x : DataW H × List MemPlace} (h : DataW.trod enc Try.prog w base spare held n 40 cs = some x) : ∃ o : Scu.Op, cs = opC o ∧ o.data.size ≤ maxLen := by
  obtain ⟨xs, m, _, _, hl, hxl, hf⟩ := DataW.trod_struct Try.underlying40 h
  rw [cells_op] at hl
  match cs, hl with
  | [c0, c1, c2, c3], _ =>
    obtain ⟨z0, e0⟩ := some_of hxl (i := 0) (by simp)
    obtain ⟨z1, e1⟩ := some_of hxl (i := 1) (by simp)
    obtain ⟨z2, e2⟩ := some_of hxl (i := 2) (by simp)
    obtain ⟨z3, e3⟩ := some_of hxl (i := 3) (by simp)
    obtain ⟨n0, h0, _⟩ := DataW.trod_int Try.underlying3 ((hf 0 _ rfl).trans e0)
    obtain ⟨n1, h1, _⟩ := DataW.trod_int Try.underlying3 ((hf 1 _ rfl).trans e1)
    obtain ⟨n2, h2, _⟩ := DataW.trod_int Try.underlying3 ((hf 2 _ rfl).trans e2)
    obtain ⟨s, h3, _, hs⟩ := DataW.trod_string Try.underlying9 ((hf 3 _ rfl).trans e3)
    simp [cells_int, cells_string] at h0 h1 h2 h3
    subst h0 h1 h2 h3
    exact ⟨⟨n0, n1, n2, s⟩, rfl, hs⟩

theorem trod_request {x : DataW H × List MemPlace} (h : DataW.trod enc Try.prog w base spare held n 104 cs = some x) :
    ∃ r : Scu.Request, cs = .int .i64 r.client :: .int .i64 r.num :: opC r.op := by
  obtain ⟨xs, m, _, _, hl, hxl, hf⟩ := DataW.trod_struct Try.underlying104 h
  rw [cells_request] at hl
  match cs, hl with
  | [c0, c1, c2, c3, c4, c5], _ =>
    obtain ⟨z0, e0⟩ := some_of hxl (i := 0) (by simp)
    obtain ⟨z1, e1⟩ := some_of hxl (i := 1) (by simp)
    obtain ⟨z2, e2⟩ := some_of hxl (i := 2) (by simp)
    obtain ⟨n0, h0, _⟩ := DataW.trod_int Try.underlying3 ((hf 0 _ rfl).trans e0)
    obtain ⟨n1, h1, _⟩ := DataW.trod_int Try.underlying3 ((hf 1 _ rfl).trans e1)
    obtain ⟨o, h2, _⟩ := trod_op ((hf 2 _ rfl).trans e2)
    simp [cells_int, cells_op] at h0 h1 h2
    subst h0 h1
    exact ⟨⟨n0, n1, o⟩, by rw [← h2]⟩
end
section
variable {H : Type} {enc : TypeId × Value → H} {w : World} {base : Nat} {spare : Nat → Bool} {held : Bool} {d : DataW H} {p : List MemPlace} {v : Value} {b0 : Nat}
theorem open_Op (hv : Value.okWide Try.prog w .any b0 40 v) (h : DataW.Trod enc Try.prog w base spare held 40 v d p) : ∃ o, v = vOp o := by
  obtain ⟨cs, rfl, _⟩ := okWide_struct Try.underlying40 hv
  obtain ⟨fuel, hf⟩ := h
  obtain ⟨o, ho, _⟩ := trod_op hf
  refine ⟨o, ?_⟩
  have : cs = (opC o).toArray := by
    apply Array.toList_inj.1
    simpa [Value.cells] using ho
  rw [this]
  rfl
theorem open_Request (hv : Value.okWide Try.prog w .any b0 104 v) (h : DataW.Trod enc Try.prog w base spare held 104 v d p) : ∃ r, v = vRequest r := by
  obtain ⟨cs, rfl, _⟩ := okWide_struct Try.underlying104 hv
  obtain ⟨fuel, hf⟩ := h
  obtain ⟨o, ho⟩ := trod_request hf
  refine ⟨o, ?_⟩
  have : cs = (.int .i64 o.client :: .int .i64 o.num :: opC o.op : List Value).toArray := by
    apply Array.toList_inj.1
    simpa [Value.cells] using ho
  rw [this]
  rfl
end
end Go.Proofs.Ytioajgcbchdpeaa

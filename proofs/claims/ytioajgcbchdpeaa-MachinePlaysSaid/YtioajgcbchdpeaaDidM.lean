/- Words for ref.DidOf. -/
import Derived.Test.YtioajgcbchdpeaaVolM
namespace Go.Proofs.Ytioajgcbchdpeaa
open Go.RowKit
set_option maxHeartbeats 8000000
set_option maxRecDepth 100000

theorem opFault_a (o : Scu.Op) (w : World) (h : Scu.opFault o = 0) :
    Calls Try.prog 61 #[.agg #[.int .i64 o.kind, .int .i64 o.at_, .int .i64 o.snap, .string o.data]] w fun e w' => e = .returned (.int .i64 0) ∧ Below w.heap.size w w' := by
  have := opFault_c o w
  rw [h] at this
  exact this
theorem strs_cell {w : World} {B : Nat} {v : Value} {xs : List Scu.Str} {k : Nat} (h : IsStrs w B v xs) (hk : k < xs.length) :
    ∃ q o c, v = .slice (some ⟨q, o, none⟩) xs.length c ∧ q < w.heap.size ∧ w.cell? ⟨q, o + k, none⟩ = some (.string xs[k]) := by
  obtain ⟨⟨A, c, rfl, _, hr⟩, _, _⟩ := h
  obtain ⟨q, o, rfl, h2, h3⟩ := hr.get (show (xs.map Value.string)[k]? = some (.string xs[k]) by simp [hk])
  exact ⟨q, o, c, rfl, h2, h3⟩
theorem rows_cell {w : World} {B : Nat} {v : Value} {xss : List (List Scu.Str)} {k : Nat} (h : IsRows w B v xss) (hk : k < xss.length) :
    ∃ q o c u, v = .slice (some ⟨q, o, none⟩) xss.length c ∧ q < w.heap.size ∧ w.cell? ⟨q, o + k, none⟩ = some u ∧ IsStrs w B u xss[k] := by
  obtain ⟨⟨A, c, vs, rfl, _, hr, hvl, hve⟩, _⟩ := h
  obtain ⟨q, o, u, rfl, h2, h3, h4⟩ := rows_get hr hvl hve hk
  exact ⟨q, o, c, u, rfl, h2, h3, h4⟩
end Go.Proofs.Ytioajgcbchdpeaa

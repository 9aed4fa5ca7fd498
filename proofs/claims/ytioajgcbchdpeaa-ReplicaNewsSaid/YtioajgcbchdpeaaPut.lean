/- A cell of an owned row is set. -/
import Derived.Test.YtioajgcbchdpeaaOwn
import Derived.Test.YtioajgcbchdpeaaKeptC
namespace Go.Proofs.Ytioajgcbchdpeaa
open Go.RowKit
set_option maxHeartbeats 400000
set_option maxRecDepth 100000

theorem own_at {w : World} {base n : Nat} {e : TypeId} {v : Value} {xs : List Value} (h : w.ownsRow base e 1 v n xs) (hn : 0 < n) :
    ∃ g c cur, v = .slice (some ⟨g, 0, none⟩) n c ∧ base ≤ g ∧ Blk w g e cur ∧ ∀ j, j < n → w.cell? ⟨g, j, none⟩ = xs[j]? := by
  obtain ⟨hl, ⟨rfl, rfl⟩ | ⟨g, cap, cur, rfl, hb, hh, hnc, _, hcs, ht⟩⟩ := h
  · omega
  · refine ⟨g, cap, cur, rfl, hb, hh, fun j hj => ?_⟩
    have hB : Blk w g e cur := hh
    rw [hB.cell, ← ht, List.getElem?_take_of_lt (by omega)]
    simp
theorem own_put {w : World} {base n g c : Nat} {e : TypeId} {xs : List Value} (h : w.ownsRow base e 1 (.slice (some ⟨g, 0, none⟩) n c) n xs) (j : Nat) (u : Value) :
    (w.setCell ⟨g, j, none⟩ u).ownsRow base e 1 (.slice (some ⟨g, 0, none⟩) n c) n (xs.set j u) := by
  obtain ⟨hl, ⟨h0, _⟩ | ⟨g', cap, cur, e1, hb, hh, hnc, hm, hcs, ht⟩⟩ := h
  · cases h0
  · cases e1
    have hB : Blk w g e cur := hh
    refine ⟨by simp [hl], .inr ⟨g, c, cur.setIfInBounds j u, rfl, hb, hB.set_ j u, hnc, hm, by simpa using hcs, ?_⟩⟩
    rw [Array.toList_setIfInBounds, List.take_set, ht]
theorem OwnStrs.at_ {w : World} {base : Nat} {v : Value} {xs : List Scu.Str} (h : OwnStrs w base v xs) (hn : 0 < xs.length) :
    ∃ g c cur, v = .slice (some ⟨g, 0, none⟩) xs.length c ∧ base ≤ g ∧ Blk w g 9 cur ∧ ∀ j, j < xs.length → w.cell? ⟨g, j, none⟩ = (xs.map Value.string)[j]? := own_at h.1 hn
theorem OwnStrs.put {w : World} {base g c n : Nat} {xs : List Scu.Str} (h : OwnStrs w base (.slice (some ⟨g, 0, none⟩) n c) xs) (j : Nat) (s : Scu.Str) (hs : s.size ≤ R47) :
    OwnStrs (w.setCell ⟨g, j, none⟩ (.string s)) base (.slice (some ⟨g, 0, none⟩) n c) (xs.set j s) := by
  have hn : n = xs.length := by
    obtain ⟨A, c', e, _⟩ := h.is.ex
    cases e
    rfl
  subst hn
  refine ⟨?_, by simpa using h.2.1, fun t ht => ?_⟩
  · rw [List.length_set, List.map_set]
    exact own_put h.1 j _
  · rcases List.mem_or_eq_of_mem_set ht with h' | rfl
    · exact h.2.2 t h'
    · exact hs
end Go.Proofs.Ytioajgcbchdpeaa

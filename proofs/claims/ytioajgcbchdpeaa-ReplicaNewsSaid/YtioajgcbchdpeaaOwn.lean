/- Rows that are whole blocks: as what an append goes onto, and as what it takes. -/
import Derived.Test.YtioajgcbchdpeaaApp
import Derived.Test.YtioajgcbchdpeaaState
namespace Go.Proofs.Ytioajgcbchdpeaa
open Go.RowKit
set_option maxHeartbeats 400000
set_option maxRecDepth 100000
abbrev nInt : Int → Value := Value.int .i64
theorem el_ints' : ElT 24 3 1 8 := by
  obtain ⟨i, h1, h2, h3, h4⟩ := info_parts (P := Try.prog) (e := 3) (z := .int .i64 0) (size := 1) (bytes := 8) (by kernel_rfl)
  exact ⟨Try.underlying24, by omega, i, _, h1, h2, h3, h4, rfl⟩
theorem one_ints' (xs : List Int) : ∀ u ∈ xs.map nInt, u.oneCell' = true := fun u hu => by
  obtain ⟨s, _, rfl⟩ := List.mem_map.1 hu
  rfl
theorem own_blk {w : World} {base g n : Nat} {e : TypeId} {xs : List Value} (h : Blk w g e xs.toArray) (hb : base ≤ g) (hn : xs.length = n) (hm : n ≤ maxLen) : w.ownsRow base e 1 (.slice (some ⟨g, 0, none⟩) n n) n xs :=
  ⟨by simpa using hn, .inr ⟨g, n, xs.toArray, rfl, hb, h, Nat.le_refl _, hm, by simp [hn], by rw [Nat.mul_one, ← hn]; simp⟩⟩
theorem src_blk {w : World} {g n : Nat} {e : TypeId} {xs : List Value} (h : Blk w g e xs.toArray) (hn : xs.length = n) : Src1 w 1 (.slice (some ⟨g, 0, none⟩) n n) n xs :=
  ⟨by simpa using hn, .inr ⟨_, _, rfl, fun j u hj => by
    have : (⟨g, 0, none⟩ : Addr).add j = ⟨g, j, none⟩ := by unfold Addr.add; split <;> simp_all
    rw [this, h.cell]
    simpa using hj⟩⟩
end Go.Proofs.Ytioajgcbchdpeaa

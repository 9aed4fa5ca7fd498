/- Words for stage.Store: its answers. -/
import Derived.Test.YtioajgcbchdpeaaStgO
import Derived.Test.YtioajgcbchdpeaaPut
import Derived.Test.YtioajgcbchdpeaaKeptR
namespace Go.Proofs.Ytioajgcbchdpeaa
open Go.RowKit
set_option maxHeartbeats 4000000
set_option maxRecDepth 100000

section
variable {l : List Scu.Str} {k k' : Scu.Kept} {up g a e : Int}
theorem st1 (h : Scu.load l = (k', g, a, e)) (he : e ≠ 0) : Scu.store l k up = ([], e) := by
  unfold Scu.store
  simp only [h]
  rw [if_pos he]
theorem st2 (h : Scu.load l = (k', g, a, 0)) (hg : g = 1073741824) : Scu.store l k up = ([], 7) := by
  unfold Scu.store
  simp only [h]
  rw [if_neg (by simp), if_pos hg]
theorem st3 (h : Scu.load l = (k', g, a, 0)) (hg : g ≠ 1073741824) (hk : Scu.keptFault k ≠ 0) : Scu.store l k up = ([], Scu.keptFault k) := by
  unfold Scu.store
  simp only [h]
  rw [if_neg (by simp), if_neg hg, if_pos hk]
theorem st4 (h : Scu.load l = (k', g, a, 0)) (hg : g ≠ 1073741824) (hk : ¬ Scu.keptFault k ≠ 0) (hu : up < -1) : Scu.store l k up = ([], 2) := by
  unfold Scu.store
  simp only [h]
  rw [if_neg (by simp), if_neg hg, if_neg hk, if_pos hu]
theorem st5 (h : Scu.load l = (k', g, a, 0)) (hg : g ≠ 1073741824) (hk : ¬ Scu.keptFault k ≠ 0) (hu : ¬ up < -1) : Scu.store l k up = (l.set (1 - a).toNat (Scu.upTo (Scu.keptBytes k (g + 1)) up), 0) := by
  unfold Scu.store
  simp only [h]
  rw [if_neg (by simp), if_neg hg, if_neg hk, if_neg hu]
theorem upTo_cut {s : Scu.Str} (h0 : 0 ≤ up) (h1 : up < s.size) : Scu.upTo s up = s.extract 0 up.toNat := if_pos ⟨h0, h1⟩
theorem upTo_all {s : Scu.Str} (h : up < 0 ∨ (s.size : Int) ≤ up) : Scu.upTo s up = s := if_neg (by omega)
theorem upTo_size (s : Scu.Str) (up : Int) : (Scu.upTo s up).size ≤ s.size := by
  unfold Scu.upTo
  split
  · show (ByteArray.extract s 0 up.toNat).size ≤ _
    rw [ByteArray.size_extract]
    omega
  · exact Nat.le_refl _
end
theorem keptBytes_size {k : Scu.Kept} (h : Scu.keptFault k = 0) (g : Int) : (Scu.keptBytes k g).size ≤ 2488 := by
  unfold Scu.keptBytes
  rw [ByteArray.size_append, Scu.sealS_size, ← Scu.encT_all]
  have := Scu.encT_size h g k.log.length
  omega
def StoreRet (w : World) (base : Nat) (q : List Scu.Str × Int) (e : Ending) : Prop := ∃ u, e = .returned (.tuple #[u, .int .i64 q.2]) ∧ OwnStrs w base u q.1
theorem store_bad (w : World) (base : Nat) (e : Int) : StoreRet w base ([], e) (.returned (.tuple #[.slice none 0 0, .int .i64 e])) := ⟨_, rfl, OwnStrs.nil_⟩
theorem stageEncode_a (lv : Value) (k : Scu.Kept) (gen : Int) (w : World) (B : Nat) (hv : IsStrs w B lv k.log) (s : Scu.Str) (e : Int) (h : Scu.stageEncode k gen = (s, e)) :
    Calls Try.prog 26 #[.agg #[.int .i64 k.view, .int .i64 k.normal, .bool k.calm, lv, .int .i64 k.commit], .int .i64 gen] w fun en w' => en = .returned (.tuple #[.string s, .int .i64 e]) ∧ Below w.heap.size w w' := by
  have := stageEncode_c lv k gen w B hv
  rw [h] at this
  exact this
theorem keptBytes_a (lv : Value) (k : Scu.Kept) (gen : Int) (w : World) (B : Nat) (hv : IsStrs w B lv k.log) (s : Scu.Str) (e : Int) (h : Scu.stageEncode k gen = (s, e)) :
    Calls Try.prog 27 #[.agg #[.int .i64 k.view, .int .i64 k.normal, .bool k.calm, lv, .int .i64 k.commit], .int .i64 gen] w fun en w' => en = .returned (.tuple #[.string s, .int .i64 e]) ∧ Below w.heap.size w w' := by
  have := keptBytes_c lv k gen w B hv
  rw [h] at this
  exact this
end Go.Proofs.Ytioajgcbchdpeaa

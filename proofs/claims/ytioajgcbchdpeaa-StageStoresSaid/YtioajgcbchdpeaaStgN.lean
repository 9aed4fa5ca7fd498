/- Walks: new slots; the law StageNew. -/
import Derived.Test.YtioajgcbchdpeaaStgR
import Derived.Test.YtioajgcbchdpeaaStgE
import Derived.Test.YtioajgcbchdpeaaStgQ
namespace Go.Proofs.Ytioajgcbchdpeaa
open Go.RowKit
set_option maxHeartbeats 16000000
set_option maxRecDepth 100000

theorem keptNew_ok : Scu.keptFault Scu.keptNew = 0 := by
  unfold Scu.keptFault Scu.keptNew Scu.kept0
  simp [Scu.logFault]
theorem stageNew_size : (Scu.keptBytes Scu.keptNew 0).size ≤ 4000 := by
  unfold Scu.keptBytes
  rw [ByteArray.size_append, Scu.sealS_size, ← Scu.encT_all]
  have := Scu.encT_size keptNew_ok 0 Scu.keptNew.log.length
  omega
theorem encNew : Scu.stageEncode Scu.keptNew 0 = (Scu.keptBytes Scu.keptNew 0, 0) := enc_ok (by simp [keptNew_ok]) (by omega)
theorem own_two {w : World} {base g : Nat} {a b : Scu.Str} (h : Blk w g 9 #[.string a, .string b]) (hb : base ≤ g) (h1 : a.size ≤ R47) (h2 : b.size ≤ R47) : OwnStrs w base (.slice (some ⟨g, 0, none⟩) 2 2) [a, b] :=
  ⟨own_blk (xs := [.string a, .string b]) h hb rfl (by unfold maxLen; omega), by simp [R47], fun s hs => by
    simp only [List.mem_cons, List.not_mem_nil, or_false] at hs
    rcases hs with rfl | rfl
    · exact h1
    · exact h2⟩
theorem stageNew_c (w : World) :
    Calls Try.prog 31 #[] w fun e w' => (∃ u, e = .returned u ∧ OwnStrs w' w.heap.size u Scu.stageNew) ∧ Below w.heap.size w w' := by
  have K := Lib.hid (fun W => stageEncode_c (.slice none 0 0) Scu.keptNew 0 W 0 IsStrs.nil_)
  go_enter Try.func31, Try.ntmps31
  go_wp2_with fail
  refine (K.out _).mono ?_; rintro e w1 ⟨rfl, h1⟩
  go_wp2
  go_ret
  refine ⟨⟨_, rfl, ?_⟩, h1.alloc h1.size _⟩
  rw [encNew]
  exact own_two (Blk.new w1 _ _) h1.size (Nat.le_trans stageNew_size (by simp [R47])) (by simp [R47, Scu.str0])
theorem slotsOf_c (w : World) :
    Calls Try.prog 32 #[] w fun e w' => (∃ u, e = .returned u ∧ OwnStrs w' w.heap.size u Scu.stageNew) ∧ Below w.heap.size w w' := by
  have K := Lib.hid (fun W => keptBytes_c (.slice none 0 0) Scu.keptNew 0 W 0 IsStrs.nil_)
  go_enter Try.func32, Try.ntmps32
  go_wp2_with fail
  refine (K.out _).mono ?_; rintro e w1 ⟨rfl, h1⟩
  go_wp2
  go_ret
  refine ⟨⟨_, rfl, ?_⟩, h1.alloc h1.size _⟩
  rw [encNew]
  exact own_two (Blk.new w1 _ _) h1.size (Nat.le_trans stageNew_size (by simp [R47])) (by simp [R47, Scu.str0])
theorem lawStageNew_w (w : World) :
    Calls Try.prog 9 #[] w fun e w' => e = .returned (.bool true) ∧ Below w.heap.size w w' := by
  go_enter Try.func9, Try.ntmps9
  go_wp2_with fail
  refine (stageNew_c _).mono ?_; rintro e w1 ⟨⟨u, rfl, hu⟩, h1⟩
  have HU := Lib.hid hu
  clear hu
  go_wp2_with fail
  refine (slotsOf_c _).mono ?_; rintro e w2 ⟨⟨u2, rfl, hu2⟩, h2⟩
  have HU2 := Lib.hid hu2
  have HB := Lib.hid (h1.trans (h2.mono h1.size))
  have HU1 := Lib.hid (HU.out.below h2)
  clear hu2 HU
  go_wp2_with fail
  refine (sameTexts_c _ _ Scu.stageNew Scu.stageNew _ 0 0 HU1.out.is HU2.out.is).mono ?_; rintro e w3 ⟨rfl, n, rfl⟩
  go_wp2
  go_ret
  exact ⟨by simp, below_drewN HB.out _⟩

def LoadRet (w : World) (base : Nat) (q : Scu.Kept × Int × Int × Int) (e : Ending) : Prop :=
  ∃ lv, e = .returned (.tuple #[.agg #[.int .i64 q.1.view, .int .i64 q.1.normal, .bool q.1.calm, lv, .int .i64 q.1.commit], .int .i64 q.2.1, .int .i64 q.2.2.1, .int .i64 q.2.2.2]) ∧ OwnStrs w base lv q.1.log
theorem load_zero (w : World) (base : Nat) (e : Int) : LoadRet w base (Scu.kept0, 0, 0, e) (.returned (.tuple #[.agg #[.int .i64 0, .int .i64 0, .bool false, .slice none 0 0, .int .i64 0], .int .i64 0, .int .i64 0, .int .i64 e])) :=
  ⟨_, rfl, OwnStrs.nil_⟩
theorem stageDecode_a (s : ByteArray) (w : World) (k : Scu.Kept) (g e : Int) (h : Scu.stageDecode s = (k, g, e)) :
    Calls Try.prog 28 #[.string s] w fun en w' => DecRet w' w.heap.size (k, g, e) en ∧ Below w.heap.size w w' := by
  have := stageDecode_c s w
  rw [h] at this
  exact this
theorem keptOf_a (s : ByteArray) (w : World) (k : Scu.Kept) (g e : Int) (h : Scu.stageDecode s = (k, g, e)) :
    Calls Try.prog 29 #[.string s] w fun en w' => DecRet w' w.heap.size (k, g, e) en ∧ Below w.heap.size w w' := by
  have := keptOf_c s w
  rw [h] at this
  exact this
end Go.Proofs.Ytioajgcbchdpeaa

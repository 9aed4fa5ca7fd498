/- Walks: package codec, and the document's answer to it. -/
import Derived.Test.YtioajgcbchdpeaaBase
import Derived.Test.YtioajgcbchdpeaaCodec
namespace Go.Proofs.Ytioajgcbchdpeaa
open Go.RowKit
attribute [local go_sem] conv_four conv_one byteAt_get
set_option maxHeartbeats 400000
set_option maxRecDepth 100000

theorem numBytes_eq {n : Int} (h0 : 0 ≤ n) (h1 : n ≤ 1073741824) : strOfNums [n / 16777216, n / 65536 % 256, n / 256 % 256, n % 256] = Scu.numBytes n := by
  unfold strOfNums Scu.numBytes
  simp only [List.map_cons, List.map_nil, b8_mod]
  rw [b8_low (n := n / 16777216) (by omega) (by omega)]

theorem number_c (n : Int) (w : World) :
    Calls Try.prog 67 #[.int .i64 n] w fun e w' => e = .returned (.tuple #[.string (Scu.number n).1, .int .i64 (Scu.number n).2]) ∧ Below w.heap.size w w' := by
  by_cases h : n < 0 ∨ 1073741824 < n
  · have hs : Scu.number n = (Scu.str0, 2) := if_pos h
    rw [hs]
    go_enter Try.func67, Try.ntmps67
    go_wp2
    all_goals (go_ret2; exact ⟨rfl, Below.refl _ _⟩)
  · have hs : Scu.number n = (Scu.numBytes n, 0) := if_neg h
    rw [hs]
    have h0 : 0 ≤ n := by omega
    have h1 : n ≤ 1073741824 := by omega
    clear h
    go_enter Try.func67, Try.ntmps67
    go_wp2
    go_ret2
    exact ⟨ret_pair (str_eq (numBytes_eq h0 h1)) rfl, (Below.refl _ _).alloc (Nat.le_refl _) _⟩

theorem in_c (n lo hi : Int) (w : World) :
    Calls Try.prog 63 #[.int .i64 n, .int .i64 lo, .int .i64 hi] w fun e w' => e = .returned (.bool (decide (lo ≤ n) && decide (n ≤ hi))) ∧ w = w' := by
  go_enter Try.func63, Try.ntmps63
  go_wp2
  all_goals (go_ret; refine ⟨ret_val (bool_eq ?_), rfl⟩; simp; try omega)

theorem numberBytes_c (n : Int) (w : World) :
    Calls Try.prog 70 #[.int .i64 n] w fun e w' => e = .returned (.tuple #[.string (Scu.number n).1, .int .i64 (Scu.number n).2]) ∧ Below w.heap.size w w' := by
  by_cases h : n < 0 ∨ 1073741824 < n
  · have hs : Scu.number n = (Scu.str0, 2) := if_pos h
    rw [hs]
    have hd : (decide (0 ≤ n) && decide (n ≤ 1073741824)) = false := by simp; omega
    go_enter Try.func70, Try.ntmps70
    go_wp2_with (go_at_call 63; refine (in_c _ _ _ _).mono ?_; rintro e w' ⟨rfl, rfl⟩)
    all_goals (go_ret2; exact ⟨rfl, Below.refl _ _⟩)
  · have hs : Scu.number n = (Scu.numBytes n, 0) := if_neg h
    rw [hs]
    have hd : (decide (0 ≤ n) && decide (n ≤ 1073741824)) = true := by simp; omega
    have h0 : 0 ≤ n := by omega
    have h1 : n ≤ 1073741824 := by omega
    clear h
    go_enter Try.func70, Try.ntmps70
    go_wp2_with (go_at_call 63; refine (in_c _ _ _ _).mono ?_; rintro e w' ⟨rfl, rfl⟩)
    go_ret2
    exact ⟨ret_pair (str_eq (numBytes_eq h0 h1)) rfl, (Below.refl _ _).alloc (Nat.le_refl _) _⟩

theorem textBytes_eq {s : ByteArray} (h : s.size ≤ 255) : strOfNums [(s.size : Int)] ++ s = Scu.textBytes s := by
  unfold strOfNums Scu.textBytes
  simp only [List.map_cons, List.map_nil]
  rw [b8_low (n := (s.size : Int)) (by omega) (by omega)]

theorem strOfNums1_size (n : Int) : (strOfNums [n]).size = 1 := rfl

theorem text_c (s : ByteArray) (w : World) :
    Calls Try.prog 68 #[.string s] w fun e w' => e = .returned (.tuple #[.string (Scu.text s).1, .int .i64 (Scu.text s).2]) ∧ Below w.heap.size w w' := by
  by_cases h : 255 < s.size
  · have hs : Scu.text s = (Scu.str0, 1) := if_pos h
    rw [hs]
    have h' : (255 : Int) < s.size := by omega
    go_enter Try.func68, Try.ntmps68
    go_wp2
    all_goals (go_ret2; exact ⟨rfl, Below.refl _ _⟩)
  · have hs : Scu.text s = (Scu.textBytes s, 0) := if_neg h
    rw [hs]
    have h1 : (s.size : Int) ≤ 255 := by omega
    have h2 : (strOfNums [(s.size : Int)]).size + s.size ≤ 9223372036854775807 := by rw [strOfNums1_size]; omega
    have h3 := fun w => run_string_add_sum (P := Try.prog) (w := w) (strOfNums [(s.size : Int)]) s h2
    clear h2
    go_enter Try.func68, Try.ntmps68
    go_wp2
    go_ret2
    exact ⟨ret_pair (str_eq (textBytes_eq (by omega))) rfl, (Below.refl _ _).alloc (Nat.le_refl _) _⟩

theorem textBytesR_c (s : ByteArray) (w : World) :
    Calls Try.prog 71 #[.string s] w fun e w' => e = .returned (.tuple #[.string (Scu.text s).1, .int .i64 (Scu.text s).2]) ∧ Below w.heap.size w w' := by
  by_cases h : 255 < s.size
  · have hs : Scu.text s = (Scu.str0, 1) := if_pos h
    rw [hs]
    have h' : (255 : Int) < s.size := by omega
    go_enter Try.func71, Try.ntmps71
    go_wp2
    all_goals (go_ret2; exact ⟨rfl, Below.refl _ _⟩)
  · have hs : Scu.text s = (Scu.textBytes s, 0) := if_neg h
    rw [hs]
    have h1 : (s.size : Int) ≤ 255 := by omega
    have h2 : (strOfNums [(s.size : Int)]).size + s.size ≤ 9223372036854775807 := by rw [strOfNums1_size]; omega
    have h3 := fun w => run_string_add_sum (P := Try.prog) (w := w) (strOfNums [(s.size : Int)]) s h2
    clear h2
    go_enter Try.func71, Try.ntmps71
    go_wp2
    go_ret2
    exact ⟨ret_pair (str_eq (textBytes_eq (by omega))) rfl, (Below.refl _ _).alloc (Nat.le_refl _) _⟩

theorem readNumber_c (s : ByteArray) (w : World) :
    Calls Try.prog 73 #[.string s] w fun e w' => e = .returned (.tuple #[.int .i64 (Scu.readNumber s).1, .string (Scu.readNumber s).2.1, .int .i64 (Scu.readNumber s).2.2]) ∧ Below w.heap.size w w' := by
  by_cases h : s.size < 4
  · have hs : Scu.readNumber s = (0, Scu.str0, 5) := if_pos h
    rw [hs]
    have h' : (s.size : Int) < 4 := by omega
    go_enter Try.func73, Try.ntmps73
    go_wp2
    all_goals (go_ret3; exact ⟨rfl, Below.refl _ _⟩)
  · have h' : (4 : Int) ≤ s.size := by omega
    have g0 : (0 : Int) < s.size := by omega
    have g1 : (1 : Int) < s.size := by omega
    have g2 : (2 : Int) < s.size := by omega
    have g3 : (3 : Int) < s.size := by omega
    obtain ⟨a0, a1⟩ := byteAt_rng s 0
    obtain ⟨b0, b1⟩ := byteAt_rng s 1
    obtain ⟨c0, c1⟩ := byteAt_rng s 2
    obtain ⟨d0, d1⟩ := byteAt_rng s 3
    have o3 := or_bytes3 _ _ a0 a1 b0 b1
    have o2 := or_bytes2 _ _ _ a0 a1 b0 b1 c0 c1
    have o1 := or_bytes1 _ _ _ _ a0 a1 b0 b1 c0 c1 d0 d1
    by_cases hb : 1073741824 < Scu.num4 s
    · have hs : Scu.readNumber s = (0, Scu.str0, 4) := by unfold Scu.readNumber; rw [if_neg h, if_pos hb]
      rw [hs]
      unfold Scu.num4 at hb
      clear h
      go_enter Try.func73, Try.ntmps73
      go_wp2
      go_quiet (fail)
      go_wp2
      go_ret3
      exact ⟨rfl, below_drewN (Below.refl _ _) _⟩
    · have hs : Scu.readNumber s = (Scu.num4 s, Scu.dropS s 4, 0) := by unfold Scu.readNumber; rw [if_neg h, if_neg hb]
      rw [hs]
      unfold Scu.num4 at hb
      have hb' : Scu.byteAt s 0 * 16777216 + Scu.byteAt s 1 * 65536 + Scu.byteAt s 2 * 256 + Scu.byteAt s 3 ≤ 1073741824 := by omega
      clear h hb
      go_enter Try.func73, Try.ntmps73
      go_wp2
      go_quiet (fail)
      go_wp2
      go_quiet (fail)
      go_wp2
      go_ret3
      exact ⟨rfl, below_drewN (below_drewN (Below.refl _ _) _) _⟩

theorem numberOf_c (s : ByteArray) (w : World) :
    Calls Try.prog 75 #[.string s] w fun e w' => e = .returned (.tuple #[.int .i64 (Scu.readNumber s).1, .string (Scu.readNumber s).2.1, .int .i64 (Scu.readNumber s).2.2]) ∧ Below w.heap.size w w' := by
  by_cases h : s.size < 4
  · have hs : Scu.readNumber s = (0, Scu.str0, 5) := if_pos h
    rw [hs]
    have h' : (s.size : Int) < 4 := by omega
    go_enter Try.func75, Try.ntmps75
    go_wp2
    all_goals (go_ret3; exact ⟨rfl, Below.refl _ _⟩)
  · have h' : (4 : Int) ≤ s.size := by omega
    have g0 : (0 : Int) < s.size := by omega
    have g1 : (1 : Int) < s.size := by omega
    have g2 : (2 : Int) < s.size := by omega
    have g3 : (3 : Int) < s.size := by omega
    obtain ⟨a0, a1⟩ := byteAt_rng s 0
    obtain ⟨b0, b1⟩ := byteAt_rng s 1
    obtain ⟨c0, c1⟩ := byteAt_rng s 2
    obtain ⟨d0, d1⟩ := byteAt_rng s 3
    have hn : Scu.num4 s = 256 * (256 * (256 * Scu.byteAt s 0 + Scu.byteAt s 1) + Scu.byteAt s 2) + Scu.byteAt s 3 := by unfold Scu.num4; omega
    by_cases hb : 1073741824 < Scu.num4 s
    · have hs : Scu.readNumber s = (0, Scu.str0, 4) := by unfold Scu.readNumber; rw [if_neg h, if_pos hb]
      rw [hs]
      rw [hn] at hb
      clear h hn
      go_enter Try.func75, Try.ntmps75
      go_wp2
      go_rounds 5
      go_ret3
      exact ⟨rfl, Below.refl _ _⟩
    · have hs : Scu.readNumber s = (Scu.num4 s, Scu.dropS s 4, 0) := by unfold Scu.readNumber; rw [if_neg h, if_neg hb]
      rw [hs, hn]
      rw [hn] at hb
      have hb' := Int.not_lt.1 hb
      clear h hb hn
      go_enter Try.func75, Try.ntmps75
      go_wp2
      go_rounds 5
      go_quiet (fail)
      go_wp2
      go_ret3
      exact ⟨rfl, below_drewN (Below.refl _ _) _⟩

theorem toList_eq_nil (s : ByteArray) : s.toList = [] ↔ s.size = 0 := by
  rw [ByteArray.toList_eq, ← List.length_eq_zero_iff, Array.length_toList]
  rfl

theorem readText_c (s : ByteArray) (w : World) (hm : s.size ≤ maxLen) :
    Calls Try.prog 74 #[.string s] w fun e w' => e = .returned (.tuple #[.string (Scu.readText s).1, .string (Scu.readText s).2.1, .int .i64 (Scu.readText s).2.2]) ∧ Below w.heap.size w w' := by
  unfold maxLen at hm
  have hm' : (s.size : Int) ≤ 9223372036854775807 := by omega
  clear hm
  by_cases h : s.size = 0
  · have hs : Scu.readText s = (Scu.str0, Scu.str0, 5) := if_pos h
    rw [hs]
    have h' : s.toList = [] := (toList_eq_nil s).2 h
    clear h hs
    go_enter Try.func74, Try.ntmps74
    go_wp2
    all_goals (go_ret3; exact ⟨rfl, Below.refl _ _⟩)
  · have h' : ¬ s.toList = [] := fun e => h ((toList_eq_nil s).1 e)
    have h'' : s.toList.isEmpty = false := by simpa using h'
    have g0 : (0 : Int) < s.size := by omega
    obtain ⟨a0, a1⟩ := byteAt_rng s 0
    by_cases hb : (s.size : Int) - 1 < Scu.byteAt s 0
    · have hs : Scu.readText s = (Scu.str0, Scu.str0, 5) := by unfold Scu.readText; rw [if_neg h, if_pos hb]
      rw [hs]
      clear h hs
      go_enter Try.func74, Try.ntmps74
      go_wp2
      all_goals (go_ret3; exact ⟨rfl, Below.refl _ _⟩)
    · have hs : Scu.readText s = (s.extract 1 (1 + Scu.byteAt s 0).toNat, Scu.dropS s (1 + Scu.byteAt s 0).toNat, 0) := by unfold Scu.readText; rw [if_neg h, if_neg hb]
      rw [hs]
      have hb' := Int.not_lt.1 hb
      clear h hb hs
      go_enter Try.func74, Try.ntmps74
      go_wp2
      go_quiet (fail)
      go_wp2
      go_ret3
      exact ⟨rfl, below_drewN (Below.refl _ _) _⟩

theorem textOf_c (s : ByteArray) (w : World) (hm : s.size ≤ maxLen) :
    Calls Try.prog 76 #[.string s] w fun e w' => e = .returned (.tuple #[.string (Scu.readText s).1, .string (Scu.readText s).2.1, .int .i64 (Scu.readText s).2.2]) ∧ Below w.heap.size w w' := by
  unfold maxLen at hm
  have hm' : (s.size : Int) ≤ 9223372036854775807 := by omega
  clear hm
  by_cases h : s.size = 0
  · have hs : Scu.readText s = (Scu.str0, Scu.str0, 5) := if_pos h
    rw [hs]
    have h' : (s.size : Int) = 0 := by omega
    have hd : decide (s.size = 0) = true := by simpa using h
    have hd' : ((s.size : Int) == 0) = true := by simpa using h
    clear h hs
    go_enter Try.func76, Try.ntmps76
    go_wp2
    all_goals (go_ret3; exact ⟨rfl, Below.refl _ _⟩)
  · have h' : ¬ s.size = 0 := h
    have hd' : ((s.size : Int) == 0) = false := by simpa using h
    have g0 : (0 : Int) < s.size := by omega
    obtain ⟨a0, a1⟩ := byteAt_rng s 0
    by_cases hb : (s.size : Int) - 1 < Scu.byteAt s 0
    · have hs : Scu.readText s = (Scu.str0, Scu.str0, 5) := by unfold Scu.readText; rw [if_neg h, if_pos hb]
      rw [hs]
      have hb' : (s.size : Int) < 1 + Scu.byteAt s 0 := by omega
      clear h hs hb
      go_enter Try.func76, Try.ntmps76
      go_wp2
      all_goals (go_ret3; exact ⟨rfl, Below.refl _ _⟩)
    · have hs : Scu.readText s = (s.extract 1 (1 + Scu.byteAt s 0).toNat, Scu.dropS s (1 + Scu.byteAt s 0).toNat, 0) := by unfold Scu.readText; rw [if_neg h, if_neg hb]
      rw [hs]
      have hb' : 1 + Scu.byteAt s 0 ≤ (s.size : Int) := by omega
      clear h hb hs
      go_enter Try.func76, Try.ntmps76
      go_wp2
      go_quiet (fail)
      go_wp2
      go_ret3
      exact ⟨rfl, below_drewN (Below.refl _ _) _⟩

theorem sealXY_snoc (s : ByteArray) (k : Nat) (h : k < s.size) : Scu.sealXY (s.data.toList.take (k + 1)) =
    (((Scu.sealXY (s.data.toList.take k)).1 + Scu.byteAt s k) % 65521, ((Scu.sealXY (s.data.toList.take k)).2 + ((Scu.sealXY (s.data.toList.take k)).1 + Scu.byteAt s k) % 65521) % 65521) := by
  have hk : k < s.data.toList.length := by simpa using h
  rw [List.take_succ_eq_append_getElem hk]
  unfold Scu.sealXY
  rw [List.foldl_append]
  have hb : Scu.byteAt s k = (s.data.toList[k].toNat : Int) := by
    unfold Scu.byteAt
    rw [List.getD_eq_getElem?_getD, List.getElem?_eq_getElem hk]
    rfl
  rw [hb]
  rfl

theorem seal_bytes (s : ByteArray) : strOfNums [(Scu.sealXY s.data.toList).2 / 256, (Scu.sealXY s.data.toList).2 % 256, (Scu.sealXY s.data.toList).1 / 256, (Scu.sealXY s.data.toList).1 % 256] = Scu.sealS s := by
  obtain ⟨x0, x1, y0, y1⟩ := Scu.sealXY_bd s.data.toList
  unfold strOfNums Scu.sealS
  simp only [List.map_cons, List.map_nil, b8_mod]
  rw [b8_low (n := (Scu.sealXY s.data.toList).2 / 256) (by omega) (by omega), b8_low (n := (Scu.sealXY s.data.toList).1 / 256) (by omega) (by omega)]
theorem seal_bytesR (s : ByteArray) : strOfNums [(Scu.sealXY s.data.toList).2 / 256, (Scu.sealXY s.data.toList).2 % 256, (Scu.sealXY s.data.toList).1 / 256, (Scu.sealXY s.data.toList).1 % 256] = Scu.sealS s := seal_bytes s

theorem seal_c (s : ByteArray) (w : World) (hm : s.size ≤ maxLen) :
    Calls Try.prog 69 #[.string s] w fun e w' => e = .returned (.string (Scu.sealS s)) ∧ Below w.heap.size w w' := by
  unfold maxLen at hm
  have hm' : (s.size : Int) ≤ 9223372036854775807 := by omega
  clear hm
  go_enter Try.func69, Try.ntmps69
  go_wp2
  go_loop [3, 4, 8] (fun x y i => ∃ k : Nat, k ≤ s.size ∧ i = .int .i64 k ∧ x = .int .i64 (Scu.sealXY (s.data.toList.take k)).1 ∧ y = .int .i64 (Scu.sealXY (s.data.toList.take k)).2) (fun _ _ i => s.size - (intOf i).toNat)
  case atStart => exact ⟨0, Nat.zero_le _, rfl, rfl, rfl⟩
  case round =>
    obtain ⟨k, hk, rfl, rfl, rfl⟩ := hrel
    obtain ⟨x0, x1, y0, y1⟩ := Scu.sealXY_bd (s.data.toList.take k)
    obtain ⟨c0, c1⟩ := byteAt_rng s k
    by_cases hlt : k < s.size
    · have hlt' : (k : Int) < s.size := by omega
      go_wp2
      refine ⟨⟨k + 1, hlt, rfl, ?_, ?_⟩, ?_⟩
      · rw [sealXY_snoc s k hlt]
      · rw [sealXY_snoc s k hlt]
      · simp only [intOf]; omega
    · obtain rfl : k = s.size := by omega
      have ht : s.data.toList.take s.size = s.data.toList := List.take_of_length_le (by simp)
      rw [ht] at x0 x1 y0 y1 ⊢
      go_wp2
      go_ret
      exact ⟨ret_val (str_eq (seal_bytes s)), (Below.refl _ _).alloc (Nat.le_refl _) _⟩
theorem sealOf_c (s : ByteArray) (w : World) (hm : s.size ≤ maxLen) :
    Calls Try.prog 72 #[.string s] w fun e w' => e = .returned (.string (Scu.sealS s)) ∧ Below w.heap.size w w' := by
  unfold maxLen at hm
  have hm' : (s.size : Int) ≤ 9223372036854775807 := by omega
  clear hm
  go_enter Try.func72, Try.ntmps72
  go_wp2
  go_loop [3, 4, 5] (fun x y i => ∃ k : Nat, k ≤ s.size ∧ i = .int .i64 k ∧ x = .int .i64 (Scu.sealXY (s.data.toList.take k)).1 ∧ y = .int .i64 (Scu.sealXY (s.data.toList.take k)).2) (fun _ _ i => s.size - (intOf i).toNat)
  case atStart => exact ⟨0, Nat.zero_le _, rfl, rfl, rfl⟩
  case round =>
    obtain ⟨k, hk, rfl, rfl, rfl⟩ := hrel
    obtain ⟨x0, x1, y0, y1⟩ := Scu.sealXY_bd (s.data.toList.take k)
    obtain ⟨c0, c1⟩ := byteAt_rng s k
    by_cases hlt : k < s.size
    · have hlt' : (k : Int) < s.size := by omega
      go_wp2
      refine ⟨⟨k + 1, hlt, rfl, ?_, ?_⟩, ?_⟩
      · rw [sealXY_snoc s k hlt]
      · rw [sealXY_snoc s k hlt]
      · simp only [intOf]; omega
    · obtain rfl : k = s.size := by omega
      have ht : s.data.toList.take s.size = s.data.toList := List.take_of_length_le (by simp)
      rw [ht] at x0 x1 y0 y1 ⊢
      go_wp2
      go_ret
      exact ⟨ret_val (str_eq (seal_bytes s)), (Below.refl _ _).alloc (Nat.le_refl _) _⟩
end Go.Proofs.Ytioajgcbchdpeaa

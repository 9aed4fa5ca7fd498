/- The law NumbersBack, walked. -/
import Derived.Test.YthnkchklgihjcaaCodecW
import Derived.Test.YthnkchklgihjcaaOpenV
namespace Go.Proofs.Ythnkchklgihjcaa
open Go.RowKit Go.ChangeShapes Go.WideShapes Go.ChangeAt
open Go.ChangeMaps (open_string)
set_option maxHeartbeats 1000000
set_option maxRecDepth 100000

theorem picked_c (n : Int) (hn : -9223372036854775808 ≤ n ∧ n ≤ 9223372036854775807) (w : World) :
    Calls Try.prog 4 #[.int .i64 n, .int .i64 1073741824] w fun e w' => (∃ k, e = .returned (.int .i64 k) ∧ 0 ≤ k ∧ k ≤ 1073741823) ∧ w' = w := by
  obtain ⟨h0, h1⟩ := hn
  by_cases h : n < 0
  · obtain ⟨m, hm⟩ : ∃ m, m = -(n + 1) := ⟨_, rfl⟩
    have hm0 : 0 ≤ m := by omega
    have hm1 : m ≤ 9223372036854775807 := by omega
    go_enter Try.func4, Try.ntmps4
    go_wp2
    go_ret
    refine ⟨⟨_, rfl, ?_, ?_⟩, rfl⟩
    · rw [← Int.neg_tmod, Int.tmod_eq_emod_of_nonneg (by omega)]
      omega
    · rw [← Int.neg_tmod, Int.tmod_eq_emod_of_nonneg (by omega)]
      omega
  · go_enter Try.func4, Try.ntmps4
    go_wp2
    go_ret
    exact ⟨⟨_, rfl, by omega, by omega⟩, rfl⟩
theorem number_a (n : Int) (w : World) (h0 : 0 ≤ n) (h1 : n ≤ 1073741824) :
    Calls Try.prog 5 #[.int .i64 n] w fun e w' => e = .returned (.tuple #[.string (Scu.numBytes n), .int .i64 0]) ∧ Below w.heap.size w w' := by
  have := number_c n w
  rw [show Scu.number n = (Scu.numBytes n, 0) from if_neg (by omega)] at this
  exact this
theorem readNumber_a (s : ByteArray) (w : World) (x : Int) (r : Scu.Str) (c : Int) (h : Scu.readNumber s = (x, r, c)) :
    Calls Try.prog 6 #[.string s] w fun e w' => e = .returned (.tuple #[.int .i64 x, .string r, .int .i64 c]) ∧ Below w.heap.size w w' := by
  have := readNumber_c s w
  rw [h] at this
  exact this
theorem text_a (s : ByteArray) (w : World) (h : s.size ≤ 255) :
    Calls Try.prog 7 #[.string s] w fun e w' => e = .returned (.tuple #[.string (Scu.textBytes s), .int .i64 0]) ∧ Below w.heap.size w w' := by
  have := text_c s w
  rw [show Scu.text s = (Scu.textBytes s, 0) from if_neg (by omega)] at this
  exact this
theorem readText_a (s : ByteArray) (w : World) (hm : s.size ≤ maxLen) (x r : Scu.Str) (c : Int) (h : Scu.readText s = (x, r, c)) :
    Calls Try.prog 8 #[.string s] w fun e w' => e = .returned (.tuple #[.string x, .string r, .int .i64 c]) ∧ Below w.heap.size w w' := by
  have := readText_c s w hm
  rw [h] at this
  exact this
theorem lawNumbersBack_c (n : Int) (hn : -9223372036854775808 ≤ n ∧ n ≤ 9223372036854775807) (s : ByteArray) (hs : s.size ≤ 140737488351232) (w : World) :
    Calls Try.prog 3 #[.int .i64 n, .string s] w fun e w' => e = .returned (.bool true) ∧ Below w.heap.size w w' := by

  by_cases h5 : s.size ≤ 255
  · have h5' : (s.size : Int) ≤ 255 := by omega
    go_enter Try.func3, Try.ntmps3
    go_wp2_with fail
    refine (picked_c n hn w).mono ?_; rintro e w1 ⟨⟨k, rfl, k0, k1⟩, rfl⟩
    have K2 := Lib.hid (Scu.readNumber_numBytes k s k0 (by omega))
    have hk4 : (Scu.numBytes k).size = 4 := Scu.numBytes_size k
    have hk4' : ((Scu.numBytes k).size : Int) = 4 := by omega
    have hbig : ¬ 9223372036854775807 < (Scu.numBytes k).size + s.size := by omega
    have K5 := Lib.hid (show Scu.readNumber ((Scu.numBytes k).extract 0 3) = (0, Scu.str0, 5) from if_pos (by rw [ByteArray.size_extract]; omega))
    go_wp2_with fail
    refine (number_a k _ k0 (by omega)).mono ?_; rintro e w2 ⟨rfl, h2⟩
    go_wp2_with fail
    refine (readNumber_a _ _ k s 0 K2.out).mono ?_; rintro e w3 ⟨rfl, h3⟩
    go_wp2_with fail
    have hw : ByteArray.size s ≤ 255 := by exact h5
    have htw : (Scu.textBytes s).size = 1 + ByteArray.size s := Scu.textBytes_size _
    have K4 := Lib.hid (Scu.readText_textBytes s ⟨#[120]⟩ hw)
    have HT := Lib.hid (show ((Scu.textBytes s) ++ (⟨#[120]⟩ : ByteArray)).size ≤ maxLen by rw [ByteArray.size_append]; have : ByteArray.size ⟨#[120]⟩ = 1 := rfl; unfold maxLen; omega)
    have hb2 : ¬ 9223372036854775807 < (Scu.textBytes s).size + 1 := by omega
    refine (text_a s _ hw).mono ?_; rintro e w4 ⟨rfl, h4⟩
    go_wp2_with fail
    refine (readText_a _ _ HT.out s ⟨#[120]⟩ 0 K4.out).mono ?_; rintro e w5 ⟨rfl, h5x⟩
    go_wp2_with fail
    refine (readNumber_a _ _ 0 Scu.str0 5 K5.out).mono ?_; rintro e w6 ⟨rfl, h6⟩
    go_wp2
    go_ret
    exact ⟨by simp, (((h2.trans (h3.mono h2.size)).trans (h4.mono (Nat.le_trans h2.size h3.size))).trans (h5x.mono (Nat.le_trans (Nat.le_trans h2.size h3.size) h4.size))).trans (h6.mono (Nat.le_trans (Nat.le_trans (Nat.le_trans h2.size h3.size) h4.size) h5x.size))⟩
  · have h5' : (255 : Int) < s.size := by omega
    go_enter Try.func3, Try.ntmps3
    go_wp2_with fail
    refine (picked_c n hn w).mono ?_; rintro e w1 ⟨⟨k, rfl, k0, k1⟩, rfl⟩
    have K2 := Lib.hid (Scu.readNumber_numBytes k s k0 (by omega))
    have hk4 : (Scu.numBytes k).size = 4 := Scu.numBytes_size k
    have hk4' : ((Scu.numBytes k).size : Int) = 4 := by omega
    have hbig : ¬ 9223372036854775807 < (Scu.numBytes k).size + s.size := by omega
    have K5 := Lib.hid (show Scu.readNumber ((Scu.numBytes k).extract 0 3) = (0, Scu.str0, 5) from if_pos (by rw [ByteArray.size_extract]; omega))
    go_wp2_with fail
    refine (number_a k _ k0 (by omega)).mono ?_; rintro e w2 ⟨rfl, h2⟩
    go_wp2_with fail
    refine (readNumber_a _ _ k s 0 K2.out).mono ?_; rintro e w3 ⟨rfl, h3⟩
    go_wp2_with fail
    have hw : ByteArray.size (s.extract 0 255) ≤ 255 := by rw [ByteArray.size_extract]; omega
    have htw : (Scu.textBytes (s.extract 0 255)).size = 1 + ByteArray.size (s.extract 0 255) := Scu.textBytes_size _
    have K4 := Lib.hid (Scu.readText_textBytes (s.extract 0 255) ⟨#[120]⟩ hw)
    have HT := Lib.hid (show ((Scu.textBytes (s.extract 0 255)) ++ (⟨#[120]⟩ : ByteArray)).size ≤ maxLen by rw [ByteArray.size_append]; have : ByteArray.size ⟨#[120]⟩ = 1 := rfl; unfold maxLen; omega)
    have hb2 : ¬ 9223372036854775807 < (Scu.textBytes (s.extract 0 255)).size + 1 := by omega
    refine (text_a (s.extract 0 255) _ hw).mono ?_; rintro e w4 ⟨rfl, h4⟩
    go_wp2_with fail
    refine (readText_a _ _ HT.out (s.extract 0 255) ⟨#[120]⟩ 0 K4.out).mono ?_; rintro e w5 ⟨rfl, h5x⟩
    go_wp2_with fail
    refine (readNumber_a _ _ 0 Scu.str0 5 K5.out).mono ?_; rintro e w6 ⟨rfl, h6⟩
    go_wp2
    go_ret
    exact ⟨by simp, (((h2.trans (h3.mono h2.size)).trans (h4.mono (Nat.le_trans h2.size h3.size))).trans (h5x.mono (Nat.le_trans (Nat.le_trans h2.size h3.size) h4.size))).trans (h6.mono (Nat.le_trans (Nat.le_trans (Nat.le_trans h2.size h3.size) h4.size) h5x.size))⟩
theorem wf_range {n : Int} (h : (Lit.int .i64 n).wf = true) : -9223372036854775808 ≤ n ∧ n ≤ 9223372036854775807 := by
  have h' : IntKind.i64.min ≤ n ∧ n ≤ 9223372036854775807 := by simpa [Lit.wf] using h
  have hm : IntKind.i64.min = -9223372036854775808 := by decide
  omega
theorem lawNumbersBack_w (n : Int) (h : (Lit.int .i64 n).wf = true) (v : Value) (s : ByteArray) (hv : v = .string s ∧ s.size ≤ 140737488351232) {w : World} (W : World) (_hW : W = w) :
    Calls Try.prog 3 #[.int .i64 n, v] W fun e w' => e = .returned (.bool true) ∧ Below W.heap.size W w' := by

  obtain ⟨rfl, hs⟩ := hv
  exact lawNumbersBack_c n (wf_range h) s hs W
section
variable {H : Type} {enc : TypeId × Value → H} {w : World} {base : Nat} {spare : Nat → Bool} {held : Bool}
theorem openS_stringS {v : Value} {d : DataW H} {p : List MemPlace} {b0 : Nat} (hv : Value.okWide Try.prog w .any b0 9 v) (h : DataW.Trod enc Try.prog w base spare held 9 v d p)
    (hw : ∀ k ∈ d.weights Try.prog 9, k ≤ reachBytes) : ∃ s : ByteArray, v = .string s ∧ s.size ≤ 140737488351232 := by
  obtain ⟨a, rfl, hd, _, _⟩ := open_string Try.underlying9 hv h
  refine ⟨a, rfl, ?_⟩
  subst hd
  have := hw a.size (by simp [DataW.weights])
  simpa [reachBytes] using this
end
end Go.Proofs.Ythnkchklgihjcaa

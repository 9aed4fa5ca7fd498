/- Small laws for the walks: bytes made into a string; what a world keeps. -/
import Derived.Test.YtioajgcbchdpeaaChecked
import Derived.Test.YtioajgcbchdpeaaModel
import Derived.WalkKit
import Derived.WalkLawsBesides
import Derived.WalkSpells
import Derived.Deep.QuietTactic
import Derived.BigQuiet
import Derived.Lib.Hide
import Derived.Handy
import Derived.WalkSmall
import Derived.Deep.RegionWith
import Derived.Deep.RegionHeld3
import Derived.StillTailTactics
namespace Go.Proofs.Ytioajgcbchdpeaa
open Go.RowKit

theorem b8_low {n : Int} (h0 : 0 ≤ n) (h1 : n < 256) : UInt8.ofNat n.toNat = Scu.b8 n := by
  unfold Scu.b8
  rw [Int.emod_eq_of_lt h0 h1]
theorem b8_mod (n : Int) : UInt8.ofNat (n % 256).toNat = Scu.b8 n := rfl

theorem conv_list (w : World) (xs : List Int) :
    (convert 128 9 (.slice (some ⟨w.heap.size, 0, none⟩) xs.length xs.length)).run Try.prog (w.alloc (.cells (xs.map (Value.int .u8)).toArray 5)) =
      .ok (.string (strOfNums xs)) (w.alloc (.cells (xs.map (Value.int .u8)).toArray 5)) := by
  refine run_convert_bytes_arg _ 128 5 Try.underlying128 Try.underlying5 w.heap.size 0 xs.length xs.length xs rfl (fun i hi => ?_) 9 Try.underlying9
  have := World.cell?_alloc_mark w (xs.map (Value.int .u8)).toArray 5 (0, 0) (0 + i)
  rw [this]
  simp [List.getElem?_eq_getElem hi, List.getD]
theorem conv_four (w : World) (g : Nat) (a b c d : Int) (hg : g = w.heap.size) :
    (convert 128 9 (.slice (some ⟨g, 0, none⟩) 4 4)).run Try.prog (w.alloc (.cells #[.int .u8 a, .int .u8 b, .int .u8 c, .int .u8 d] 5)) =
      .ok (.string (strOfNums [a, b, c, d])) (w.alloc (.cells #[.int .u8 a, .int .u8 b, .int .u8 c, .int .u8 d] 5)) := by subst hg; exact conv_list w [a, b, c, d]
theorem conv_one (w : World) (g : Nat) (a : Int) (hg : g = w.heap.size) :
    (convert 128 9 (.slice (some ⟨g, 0, none⟩) 1 1)).run Try.prog (w.alloc (.cells #[.int .u8 a] 5)) =
      .ok (.string (strOfNums [a])) (w.alloc (.cells #[.int .u8 a] 5)) := by subst hg; exact conv_list w [a]
theorem ret_pair {a b c d : Value} (h : a = c) (k : b = d) : Ending.returned (.tuple #[a, b]) = Ending.returned (.tuple #[c, d]) := by rw [h, k]
theorem ret_val {a b : Value} (h : a = b) : Ending.returned a = Ending.returned b := by rw [h]
theorem str_eq {a b : ByteArray} (h : a = b) : Value.string a = Value.string b := by rw [h]
theorem int_eq {k : IntKind} {a b : Int} (h : a = b) : Value.int k a = Value.int k b := by rw [h]
theorem bool_eq {a b : Bool} (h : a = b) : Value.bool a = Value.bool b := by rw [h]

/- bytes of a text -/
theorem byteAt_get (s : ByteArray) (i : Nat) (h : i < s.size) : ((s[i]'h).toNat : Int) = Scu.byteAt s i := by
  unfold Scu.byteAt
  have h' : i < s.data.toList.length := by simpa using h
  rw [List.getD_eq_getElem?_getD, List.getElem?_eq_getElem h']
  rfl
theorem byteAt_rng (s : ByteArray) (i : Nat) : 0 ≤ Scu.byteAt s i ∧ Scu.byteAt s i < 256 := by
  unfold Scu.byteAt
  have := (s.data.toList.getD i 0).toNat_lt
  omega
theorem ofInt_i64 (a : Nat) (ha : a < 9223372036854775808) : (BitVec.ofInt 64 (a : Int)).toNat = a := by
  rw [BitVec.ofInt_natCast, BitVec.toNat_ofNat]; exact Nat.mod_eq_of_lt (by omega)
theorem i64_or_nat (a b : Nat) (ha : a < 9223372036854775808) (hb : b < 9223372036854775808) : bits .or .i64 (a : Int) (b : Int) = ((a ||| b : Nat) : Int) := by
  have hx : a ||| b < 2 ^ 63 := Nat.or_lt_two_pow (by omega) (by omega)
  show IntKind.i64.wrap ((BitVec.ofInt 64 (a : Int) ||| BitVec.ofInt 64 (b : Int)).toNat : Int) = _
  rw [BitVec.toNat_or, ofInt_i64 a ha, ofInt_i64 b hb, IntKind.wrap_i64]
  omega
/-- 'x | y' where y lies below the bits of x -/
theorem i64_or_sum (k : Nat) (hk : k ≤ 32) (a y : Int) (ha : 0 ≤ a) (hx : a * (2 ^ k : Nat) < 9223372036854775808) (hy : 0 ≤ y) (hyk : y < (2 ^ k : Nat)) :
    bits .or .i64 (a * (2 ^ k : Nat)) y = a * (2 ^ k : Nat) + y := by
  obtain ⟨n, rfl⟩ := Int.eq_ofNat_of_zero_le ha
  obtain ⟨m, rfl⟩ := Int.eq_ofNat_of_zero_le hy
  have hm : m < 2 ^ k := by omega
  have e : ((n : Int) * (2 ^ k : Nat)) = ((n * 2 ^ k : Nat) : Int) := by push_cast; rfl
  rw [e] at hx ⊢
  have h1 : n * 2 ^ k < 9223372036854775808 := by omega
  have hs := Nat.shiftLeft_add_eq_or_of_lt hm n
  rw [Nat.shiftLeft_eq] at hs
  have hp : 2 ^ k ≤ 2 ^ 32 := Nat.pow_le_pow_right (by omega) hk
  rw [i64_or_nat _ _ h1 (by omega), ← hs]
  push_cast
  rfl
theorem i64_or8 (a y : Int) (ha : 0 ≤ a) (hx : a < 16777216) (hy : 0 ≤ y) (hyk : y < 256) : bits .or .i64 (a * 256) y = a * 256 + y :=
  i64_or_sum 8 (by omega) a y ha (by omega) hy (by omega)
theorem i64_or16 (a y : Int) (ha : 0 ≤ a) (hx : a < 16777216) (hy : 0 ≤ y) (hyk : y < 65536) : bits .or .i64 (a * 65536) y = a * 65536 + y :=
  i64_or_sum 16 (by omega) a y ha (by omega) hy (by omega)
theorem i64_or24 (a y : Int) (ha : 0 ≤ a) (hx : a < 16777216) (hy : 0 ≤ y) (hyk : y < 16777216) : bits .or .i64 (a * 16777216) y = a * 16777216 + y :=
  i64_or_sum 24 (by omega) a y ha (by omega) hy (by omega)
theorem or_bytes3 (a b : Int) (ha : 0 ≤ a) (ha' : a < 256) (hb : 0 ≤ b) (hb' : b < 256) : bits .or .i64 (a * 16777216) (b * 65536) = a * 16777216 + b * 65536 :=
  i64_or24 a _ ha (by omega) (by omega) (by omega)
theorem or_bytes2 (a b c : Int) (ha : 0 ≤ a) (ha' : a < 256) (hb : 0 ≤ b) (hb' : b < 256) (hc : 0 ≤ c) (hc' : c < 256) :
    bits .or .i64 (a * 16777216 + b * 65536) (c * 256) = a * 16777216 + b * 65536 + c * 256 := by
  have := i64_or16 (a * 256 + b) (c * 256) (by omega) (by omega) (by omega) (by omega)
  rw [show (a * 256 + b) * 65536 = a * 16777216 + b * 65536 by omega] at this
  exact this
theorem or_bytes1 (a b c d : Int) (ha : 0 ≤ a) (ha' : a < 256) (hb : 0 ≤ b) (hb' : b < 256) (hc : 0 ≤ c) (hc' : c < 256) (hd : 0 ≤ d) (hd' : d < 256) :
    bits .or .i64 (a * 16777216 + b * 65536 + c * 256) d = a * 16777216 + b * 65536 + c * 256 + d := by
  have := i64_or8 (a * 65536 + b * 256 + c) d (by omega) (by omega) (by omega) (by omega)
  rw [show (a * 65536 + b * 256 + c) * 256 = a * 16777216 + b * 65536 + c * 256 by omega] at this
  exact this
end Go.Proofs.Ytioajgcbchdpeaa

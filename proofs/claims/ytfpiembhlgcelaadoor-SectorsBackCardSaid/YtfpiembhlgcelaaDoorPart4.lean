/- The card of the law 'EntriesBack': for every input the call returns true; each argument reads as it did. Condition: the three tables of numbers that the library reads hold what the program's text lays in them, which the card ties. -/
import Derived.Test.YtfpiembhlgcelaaDoorPart1
import Derived.Test.YtfpiembhlgcelaaDoorPart3
import Derived.Test.YtfpiembhlgcelaaDoorPart2
import Derived.Test.YtfpiembhlgcelaaDoorCards
import Derived.Test.YtfpiembhlgcelaaDoorTie
import Derived.SizedLaws
import Derived.LaidMore
import Derived.Stop.Joined
import Derived.SevenTiedAt
import Derived.WalkKit
import Derived.ProofKit
import Derived.OpenShut
import Derived.ShutString
import Derived.ChangeOld
import Derived.Below
set_option linter.unusedVariables false
set_option linter.unusedSimpArgs false
/- Walks: package codec, and the document's answer to it. -/
namespace Go.Proofs.YtfpiembhlgcelaaDoor
open Go.RowKit
attribute [local go_sem] conv_four conv_one byteAt_get
set_option maxHeartbeats 400000
set_option maxRecDepth 100000

theorem numBytes_eq {n : Int} (h0 : 0 ≤ n) (h1 : n ≤ 1073741824) : strOfNums [n / 16777216, n / 65536 % 256, n / 256 % 256, n % 256] = Scu.numBytes n := by
  unfold strOfNums Scu.numBytes
  simp only [List.map_cons, List.map_nil, b8_mod]
  rw [b8_low (n := n / 16777216) (by omega) (by omega)]

theorem number_c (n : Int) (w : World) :
    Calls Tryd.prog 59 #[.int .i64 n] w fun e w' => e = .returned (.tuple #[.string (Scu.number n).1, .int .i64 (Scu.number n).2]) ∧ Below w.heap.size w w' := by
  by_cases h : n < 0 ∨ 1073741824 < n
  · have hs : Scu.number n = (Scu.str0, 2) := if_pos h
    rw [hs]
    go_enter Tryd.func59, Tryd.ntmps59
    go_wp2
    all_goals (go_ret2; exact ⟨rfl, Below.refl _ _⟩)
  · have hs : Scu.number n = (Scu.numBytes n, 0) := if_neg h
    rw [hs]
    have h0 : 0 ≤ n := by omega
    have h1 : n ≤ 1073741824 := by omega
    clear h
    go_enter Tryd.func59, Tryd.ntmps59
    go_wp2
    go_ret2
    exact ⟨ret_pair (str_eq (numBytes_eq h0 h1)) rfl, (Below.refl _ _).alloc (Nat.le_refl _) _⟩

theorem textBytes_eq {s : ByteArray} (h : s.size ≤ 255) : strOfNums [(s.size : Int)] ++ s = Scu.textBytes s := by
  unfold strOfNums Scu.textBytes
  simp only [List.map_cons, List.map_nil]
  rw [b8_low (n := (s.size : Int)) (by omega) (by omega)]

theorem strOfNums1_size (n : Int) : (strOfNums [n]).size = 1 := rfl

theorem text_c (s : ByteArray) (w : World) :
    Calls Tryd.prog 60 #[.string s] w fun e w' => e = .returned (.tuple #[.string (Scu.text s).1, .int .i64 (Scu.text s).2]) ∧ Below w.heap.size w w' := by
  by_cases h : 255 < s.size
  · have hs : Scu.text s = (Scu.str0, 1) := if_pos h
    rw [hs]
    have h' : (255 : Int) < s.size := by omega
    go_enter Tryd.func60, Tryd.ntmps60
    go_wp2
    all_goals (go_ret2; exact ⟨rfl, Below.refl _ _⟩)
  · have hs : Scu.text s = (Scu.textBytes s, 0) := if_neg h
    rw [hs]
    have h1 : (s.size : Int) ≤ 255 := by omega
    have h2 : (strOfNums [(s.size : Int)]).size + s.size ≤ 9223372036854775807 := by rw [strOfNums1_size]; omega
    have h3 := fun w => run_string_add_sum (P := Tryd.prog) (w := w) (strOfNums [(s.size : Int)]) s h2
    clear h2
    go_enter Tryd.func60, Tryd.ntmps60
    go_wp2
    go_ret2
    exact ⟨ret_pair (str_eq (textBytes_eq (by omega))) rfl, (Below.refl _ _).alloc (Nat.le_refl _) _⟩

theorem readNumber_c (s : ByteArray) (w : World) :
    Calls Tryd.prog 61 #[.string s] w fun e w' => e = .returned (.tuple #[.int .i64 (Scu.readNumber s).1, .string (Scu.readNumber s).2.1, .int .i64 (Scu.readNumber s).2.2]) ∧ Below w.heap.size w w' := by
  by_cases h : s.size < 4
  · have hs : Scu.readNumber s = (0, Scu.str0, 5) := if_pos h
    rw [hs]
    have h' : (s.size : Int) < 4 := by omega
    go_enter Tryd.func61, Tryd.ntmps61
    go_wp2
    all_goals (go_ret3; exact ⟨rfl, Below.refl _ _⟩)
  · have h' : (4 : Int) ≤ s.size := by omega
    have g0 : (0 : Int) < s.size := by omega
    have g1 : (1 : Int) < s.size := by omega
    have g2 : (2 : Int) < s.size := by omega
    have g3 : (3 : Int) < s.size := by omega
    obtain ⟨a0, a1⟩ := byteAt_rng s 0
    obtain ⟨b0, b1⟩ := byteAt_rng s 1
    obtain ⟨c0, c1⟩ := byteAt_rng s 2
    obtain ⟨d0, d1⟩ := byteAt_rng s 3
    have o3 := or_bytes3 _ _ a0 a1 b0 b1
    have o2 := or_bytes2 _ _ _ a0 a1 b0 b1 c0 c1
    have o1 := or_bytes1 _ _ _ _ a0 a1 b0 b1 c0 c1 d0 d1
    by_cases hb : 1073741824 < Scu.num4 s
    · have hs : Scu.readNumber s = (0, Scu.str0, 4) := by unfold Scu.readNumber; rw [if_neg h, if_pos hb]
      rw [hs]
      unfold Scu.num4 at hb
      clear h
      go_enter Tryd.func61, Tryd.ntmps61
      go_wp2
      go_quiet (fail)
      go_wp2
      go_ret3
      exact ⟨rfl, below_drewN (Below.refl _ _) _⟩
    · have hs : Scu.readNumber s = (Scu.num4 s, Scu.dropS s 4, 0) := by unfold Scu.readNumber; rw [if_neg h, if_neg hb]
      rw [hs]
      unfold Scu.num4 at hb
      have hb' : Scu.byteAt s 0 * 16777216 + Scu.byteAt s 1 * 65536 + Scu.byteAt s 2 * 256 + Scu.byteAt s 3 ≤ 1073741824 := by omega
      clear h hb
      go_enter Tryd.func61, Tryd.ntmps61
      go_wp2
      go_quiet (fail)
      go_wp2
      go_quiet (fail)
      go_wp2
      go_ret3
      exact ⟨rfl, below_drewN (below_drewN (Below.refl _ _) _) _⟩

theorem toList_eq_nil (s : ByteArray) : s.toList = [] ↔ s.size = 0 := by
  rw [ByteArray.toList_eq, ← List.length_eq_zero_iff, Array.length_toList]
  rfl

theorem readText_c (s : ByteArray) (w : World) (hm : s.size ≤ maxLen) :
    Calls Tryd.prog 62 #[.string s] w fun e w' => e = .returned (.tuple #[.string (Scu.readText s).1, .string (Scu.readText s).2.1, .int .i64 (Scu.readText s).2.2]) ∧ Below w.heap.size w w' := by
  unfold maxLen at hm
  have hm' : (s.size : Int) ≤ 9223372036854775807 := by omega
  clear hm
  by_cases h : s.size = 0
  · have hs : Scu.readText s = (Scu.str0, Scu.str0, 5) := if_pos h
    rw [hs]
    have h' : s.toList = [] := (toList_eq_nil s).2 h
    clear h hs
    go_enter Tryd.func62, Tryd.ntmps62
    go_wp2
    all_goals (go_ret3; exact ⟨rfl, Below.refl _ _⟩)
  · have h' : ¬ s.toList = [] := fun e => h ((toList_eq_nil s).1 e)
    have h'' : s.toList.isEmpty = false := by simpa using h'
    have g0 : (0 : Int) < s.size := by omega
    obtain ⟨a0, a1⟩ := byteAt_rng s 0
    by_cases hb : (s.size : Int) - 1 < Scu.byteAt s 0
    · have hs : Scu.readText s = (Scu.str0, Scu.str0, 5) := by unfold Scu.readText; rw [if_neg h, if_pos hb]
      rw [hs]
      clear h hs
      go_enter Tryd.func62, Tryd.ntmps62
      go_wp2
      all_goals (go_ret3; exact ⟨rfl, Below.refl _ _⟩)
    · have hs : Scu.readText s = (s.extract 1 (1 + Scu.byteAt s 0).toNat, Scu.dropS s (1 + Scu.byteAt s 0).toNat, 0) := by unfold Scu.readText; rw [if_neg h, if_neg hb]
      rw [hs]
      have hb' := Int.not_lt.1 hb
      clear h hb hs
      go_enter Tryd.func62, Tryd.ntmps62
      go_wp2
      go_quiet (fail)
      go_wp2
      go_ret3
      exact ⟨rfl, below_drewN (Below.refl _ _) _⟩

theorem sealXY_snoc (s : ByteArray) (k : Nat) (h : k < s.size) : Scu.sealXY (s.data.toList.take (k + 1)) =
    (((Scu.sealXY (s.data.toList.take k)).1 + Scu.byteAt s k) % 65521, ((Scu.sealXY (s.data.toList.take k)).2 + ((Scu.sealXY (s.data.toList.take k)).1 + Scu.byteAt s k) % 65521) % 65521) := by
  have hk : k < s.data.toList.length := by simpa using h
  rw [List.take_succ_eq_append_getElem hk]
  unfold Scu.sealXY
  rw [List.foldl_append]
  have hb : Scu.byteAt s k = (s.data.toList[k].toNat : Int) := by
    unfold Scu.byteAt
    rw [List.getD_eq_getElem?_getD, List.getElem?_eq_getElem hk]
    rfl
  rw [hb]
  rfl

theorem seal_bytes (s : ByteArray) : strOfNums [(Scu.sealXY s.data.toList).2 / 256, (Scu.sealXY s.data.toList).2 % 256, (Scu.sealXY s.data.toList).1 / 256, (Scu.sealXY s.data.toList).1 % 256] = Scu.sealS s := by
  obtain ⟨x0, x1, y0, y1⟩ := Scu.sealXY_bd s.data.toList
  unfold strOfNums Scu.sealS
  simp only [List.map_cons, List.map_nil, b8_mod]
  rw [b8_low (n := (Scu.sealXY s.data.toList).2 / 256) (by omega) (by omega), b8_low (n := (Scu.sealXY s.data.toList).1 / 256) (by omega) (by omega)]
theorem seal_bytesR (s : ByteArray) : strOfNums [(Scu.sealXY s.data.toList).2 / 256, (Scu.sealXY s.data.toList).2 % 256, (Scu.sealXY s.data.toList).1 / 256, (Scu.sealXY s.data.toList).1 % 256] = Scu.sealS s := seal_bytes s

theorem seal_c (s : ByteArray) (w : World) (hm : s.size ≤ maxLen) :
    Calls Tryd.prog 74 #[.string s] w fun e w' => e = .returned (.string (Scu.sealS s)) ∧ Below w.heap.size w w' := by
  unfold maxLen at hm
  have hm' : (s.size : Int) ≤ 9223372036854775807 := by omega
  clear hm
  go_enter Tryd.func74, Tryd.ntmps74
  go_wp2
  go_loop [3, 4, 8] (fun x y i => ∃ k : Nat, k ≤ s.size ∧ i = .int .i64 k ∧ x = .int .i64 (Scu.sealXY (s.data.toList.take k)).1 ∧ y = .int .i64 (Scu.sealXY (s.data.toList.take k)).2) (fun _ _ i => s.size - (intOf i).toNat)
  case atStart => exact ⟨0, Nat.zero_le _, rfl, rfl, rfl⟩
  case round =>
    obtain ⟨k, hk, rfl, rfl, rfl⟩ := hrel
    obtain ⟨x0, x1, y0, y1⟩ := Scu.sealXY_bd (s.data.toList.take k)
    obtain ⟨c0, c1⟩ := byteAt_rng s k
    by_cases hlt : k < s.size
    · have hlt' : (k : Int) < s.size := by omega
      go_wp2
      refine ⟨⟨k + 1, hlt, rfl, ?_, ?_⟩, ?_⟩
      · rw [sealXY_snoc s k hlt]
      · rw [sealXY_snoc s k hlt]
      · simp only [intOf]; omega
    · obtain rfl : k = s.size := by omega
      have ht : s.data.toList.take s.size = s.data.toList := List.take_of_length_le (by simp)
      rw [ht] at x0 x1 y0 y1 ⊢
      go_wp2
      go_ret
      exact ⟨ret_val (str_eq (seal_bytes s)), (Below.refl _ _).alloc (Nat.le_refl _) _⟩
end Go.Proofs.YtfpiembhlgcelaaDoor
/- Walks: an operation, a request: may it be? -/
namespace Go.Proofs.YtfpiembhlgcelaaDoor
open Go.RowKit
attribute [local go_sem] conv_four conv_one byteAt_get
set_option maxHeartbeats 800000
set_option maxRecDepth 100000

theorem checkOp_c (o : Scu.Op) (w : World) :
    Calls Tryd.prog 64 #[.agg #[.int .i64 o.kind, .int .i64 o.at_, .int .i64 o.snap, .string o.data]] w fun e w' =>
      e = .returned (.int .i64 (Scu.opFault o)) ∧ Below w.heap.size w w' := by
  obtain ⟨k, a, n, d⟩ := o
  have hd := toList_eq_nil d
  go_enter Tryd.func64, Tryd.ntmps64
  go_wp2
  all_goals (go_ret; refine ⟨ret_val (int_eq ?_), (Below.refl _ _).alloc (Nat.le_refl _) _⟩)
  all_goals (try simp only [bne_iff_ne, ne_eq, bne_eq_false_iff_eq, Bool.not_eq_true', Bool.not_eq_false', List.isEmpty_iff, List.isEmpty_eq_false_iff, hd] at *)
  all_goals (unfold Scu.opFault; simp only []; repeat' split)
  all_goals first | rfl | omega

theorem checkRequest_c (r : Scu.Request) (w : World) :
    Calls Tryd.prog 58 #[.agg #[.int .i64 r.client, .int .i64 r.num, .int .i64 r.op.kind, .int .i64 r.op.at_, .int .i64 r.op.snap, .string r.op.data]] w fun e w' =>
      e = .returned (.int .i64 (Scu.reqFault r)) ∧ Below w.heap.size w w' := by
  by_cases h : r.client < 1 ∨ 4 < r.client ∨ r.num < 1 ∨ 1048576 < r.num
  · have hs : Scu.reqFault r = 2 := if_pos h
    rw [hs]
    go_enter Tryd.func58, Tryd.ntmps58
    go_wp2_with fail
    all_goals (go_ret; exact ⟨rfl, (Below.refl _ _).alloc (Nat.le_refl _) _⟩)
  · have hs : Scu.reqFault r = Scu.opFault r.op := if_neg h
    rw [hs]
    have h1 : 1 ≤ r.client := by omega
    have h2 : r.client ≤ 4 := by omega
    have h3 : 1 ≤ r.num := by omega
    have h4 : r.num ≤ 1048576 := by omega
    clear h hs
    go_enter Tryd.func58, Tryd.ntmps58
    go_wp2_with fail
    refine (checkOp_c _ _).mono ?_; rintro e w' ⟨rfl, hb⟩
    go_wp2
    go_ret
    exact ⟨rfl, ((Below.refl _ _).alloc (Nat.le_refl _) _).trans (hb.mono (by simp))⟩

end Go.Proofs.YtfpiembhlgcelaaDoor
/- Walks: a request as an entry, and back. -/
namespace Go.Proofs.YtfpiembhlgcelaaDoor
open Go.RowKit
attribute [local go_sem] conv_four conv_one byteAt_get
set_option maxHeartbeats 4000000
set_option maxRecDepth 100000

theorem number_ok (n : Int) (w : World) (h0 : 0 ≤ n) (h1 : n ≤ 1073741824) :
    Calls Tryd.prog 59 #[.int .i64 n] w fun e w' => e = .returned (.tuple #[.string (Scu.numBytes n), .int .i64 0]) ∧ Below w.heap.size w w' := by
  have := number_c n w
  rw [show Scu.number n = (Scu.numBytes n, 0) from if_neg (by omega)] at this
  exact this
theorem text_ok (s : ByteArray) (w : World) (h : s.size ≤ 255) :
    Calls Tryd.prog 60 #[.string s] w fun e w' => e = .returned (.tuple #[.string (Scu.textBytes s), .int .i64 0]) ∧ Below w.heap.size w w' := by
  have := text_c s w
  rw [show Scu.text s = (Scu.textBytes s, 0) from if_neg (by omega)] at this
  exact this
theorem head_eq (a b c d : Int) (a0 : 0 ≤ a) (a1 : a < 256) (b0 : 0 ≤ b) (b1 : b < 256) (c0 : 0 ≤ c) (c1 : c < 256) (d0 : 0 ≤ d) (d1 : d < 256) :
    strOfNums [a, b, c, d] = ⟨#[Scu.b8 a, Scu.b8 b, Scu.b8 c, Scu.b8 d]⟩ := by
  unfold strOfNums
  simp only [List.map_cons, List.map_nil]
  rw [b8_low a0 a1, b8_low b0 b1, b8_low c0 c1, b8_low d0 d1]

theorem encode_c (r : Scu.Request) (w : World) :
    Calls Tryd.prog 19 #[.agg #[.int .i64 r.client, .int .i64 r.num, .int .i64 r.op.kind, .int .i64 r.op.at_, .int .i64 r.op.snap, .string r.op.data]] w fun e w' =>
      e = .returned (.tuple #[.string (Scu.encode r).1, .int .i64 (Scu.encode r).2]) ∧ Below w.heap.size w w' := by
  by_cases hf : Scu.reqFault r = 0
  · have hs : Scu.encode r = (Scu.reqBytes r, 0) := if_neg (by simp [hf])
    rw [hs]
    obtain ⟨h1, h2, h3, h4, h5⟩ := Scu.reqFault_ok hf
    obtain ⟨o1, o2, o3, o4, o5, o6, o7, _, _, _⟩ := Scu.opFault_ok h5
    have e1 := head_eq r.client r.op.kind r.op.at_ r.op.snap (by omega) (by omega) (by omega) (by omega) (by omega) (by omega) (by omega) (by omega)
    have z1 : (strOfNums [r.client, r.op.kind, r.op.at_, r.op.snap]).size = 4 := by rw [e1]; rfl
    have z2 := Scu.numBytes_size r.num
    have z3 := Scu.textBytes_size r.op.data
    have a1 := fun w => run_string_add_sum (P := Tryd.prog) (w := w) (strOfNums [r.client, r.op.kind, r.op.at_, r.op.snap]) (Scu.numBytes r.num) (by omega)
    have a2 := fun w => run_string_add_sum (P := Tryd.prog) (w := w) (strOfNums [r.client, r.op.kind, r.op.at_, r.op.snap] ++ Scu.numBytes r.num) (Scu.textBytes r.op.data) (by rw [ByteArray.size_append]; omega)
    have hfin : strOfNums [r.client, r.op.kind, r.op.at_, r.op.snap] ++ Scu.numBytes r.num ++ Scu.textBytes r.op.data = Scu.reqBytes r := by rw [e1]; rfl
    have HFIN := Lib.hid hfin
    have h5' := Lib.hid h5
    have hd8 : r.op.data.size ≤ 255 := by omega
    clear hs e1 z1 z2 z3 hfin h5
    go_enter Tryd.func19, Tryd.ntmps19
    go_wp2_with fail
    refine (checkRequest_c _ _).mono ?_; rintro e w1 ⟨rfl, b1⟩
    obtain ⟨hc, hz⟩ := bcell b1
    go_wp2_with fail
    refine (number_ok _ _ (by omega) (by omega)).mono ?_; rintro e w2 ⟨rfl, b2⟩
    have c2 := b1.trans (b2.mono b1.size)
    clear hc hz
    obtain ⟨hc, hz⟩ := bcell c2
    go_wp2_with fail
    refine (text_ok _ _ hd8).mono ?_; rintro e w3 ⟨rfl, b3⟩
    have c3 := c2.trans (b3.mono c2.size)
    clear hc hz
    obtain ⟨hc, hz⟩ := bcell c3
    go_wp2
    go_ret2
    exact ⟨ret_pair (str_eq HFIN.out) rfl, (below_box c3).alloc (below_box c3).size _⟩
  · have hs : Scu.encode r = (Scu.str0, Scu.reqFault r) := if_pos hf
    rw [hs]
    have hb : (Scu.reqFault r != 0) = true := by simpa using hf
    clear hf hs
    go_enter Tryd.func19, Tryd.ntmps19
    go_wp2_with fail
    refine (checkRequest_c _ _).mono ?_; rintro e w1 ⟨rfl, b1⟩
    go_wp2_with fail
    go_ret2
    exact ⟨rfl, below_box b1⟩
theorem readNumber_err (s : Scu.Str) (h : (Scu.readNumber s).2.2 ≠ 0) : (Scu.readNumber s).1 = 0 ∧ (Scu.readNumber s).2.1 = Scu.str0 := by
  unfold Scu.readNumber at h ⊢
  split
  · exact ⟨rfl, rfl⟩
  split
  · exact ⟨rfl, rfl⟩
  · rename_i h1 h2; rw [if_neg h1, if_neg h2] at h; exact absurd rfl h
theorem readNumber_size (s : Scu.Str) : (Scu.readNumber s).2.1.size ≤ s.size := by
  unfold Scu.readNumber
  split
  · exact Nat.zero_le _
  split
  · exact Nat.zero_le _
  · show (Scu.dropS s 4).size ≤ s.size
    unfold Scu.dropS
    rw [ByteArray.size_extract]
    omega
def zReq : Value := .agg #[.int .i64 0, .int .i64 0, .int .i64 0, .int .i64 0, .int .i64 0, .string ⟨#[]⟩]
theorem below_set6 {B g : Nat} {w w1 : World} {a b c d e f : Value} (h : Below B w w1) (hg : B ≤ g) :
    Below B w ((((((w1.setCell ⟨g, 0, none⟩ a).setCell ⟨g, 1, none⟩ b).setCell ⟨g, 2, none⟩ c).setCell ⟨g, 3, none⟩ d).setCell ⟨g, 4, none⟩ e).setCell ⟨g, 5, none⟩ f) :=
  (((((h.setCell (p := ⟨g, 0, none⟩) hg _).setCell (p := ⟨g, 1, none⟩) hg _).setCell (p := ⟨g, 2, none⟩) hg _).setCell (p := ⟨g, 3, none⟩) hg _).setCell (p := ⟨g, 4, none⟩) hg _).setCell (p := ⟨g, 5, none⟩) hg _
theorem decode_c (s : ByteArray) (w : World) :
    Calls Tryd.prog 20 #[.string s] w fun e w' =>
      e = .returned (.tuple #[vRequest (Scu.decode s).1, .int .i64 (Scu.decode s).2]) ∧ Below w.heap.size w w' := by
  by_cases h40 : 40 < s.size
  · have hs : Scu.decode s = (Scu.req0, 1) := if_pos h40
    rw [hs]
    have h' : (40 : Int) < s.size := by omega
    clear hs h40
    go_enter Tryd.func20, Tryd.ntmps20
    go_wp2
    go_returns
    exact ⟨rfl, (Below.refl _ _).alloc (Nat.le_refl _) _⟩
  by_cases h4 : s.size < 4
  · have hs : Scu.decode s = (Scu.req0, 5) := by unfold Scu.decode; rw [if_neg h40, if_pos h4]
    rw [hs]
    have h' : (s.size : Int) < 4 := by omega
    clear hs h40 h4
    go_enter Tryd.func20, Tryd.ntmps20
    go_wp2
    go_returns
    exact ⟨rfl, (Below.refl _ _).alloc (Nat.le_refl _) _⟩
  have g40 : (s.size : Int) ≤ 40 := by omega
  have g4 : (4 : Int) ≤ s.size := by omega
  have g0 : (0 : Int) < s.size := by omega
  have g1 : (1 : Int) < s.size := by omega
  have g2 : (2 : Int) < s.size := by omega
  have g3 : (3 : Int) < s.size := by omega
  obtain ⟨a0, a1⟩ := byteAt_rng s 0
  obtain ⟨b0, b1⟩ := byteAt_rng s 1
  obtain ⟨c0, c1⟩ := byteAt_rng s 2
  obtain ⟨d0, d1⟩ := byteAt_rng s 3
  generalize hq1 : Scu.readNumber (Scu.dropS s 4) = q1
  obtain ⟨n, s1, e1⟩ := q1
  generalize hq2 : Scu.readText s1 = q2
  obtain ⟨d, s2, e2⟩ := q2
  have hd0 : Scu.decode s = if e1 ≠ 0 then (Scu.req0, e1) else if e2 ≠ 0 then (Scu.req0, e2) else
    if s2 ≠ Scu.str0 then (Scu.req0, 4) else if Scu.reqFault ⟨Scu.byteAt s 0, n, ⟨Scu.byteAt s 1, Scu.byteAt s 2, Scu.byteAt s 3, d⟩⟩ ≠ 0 then
      (Scu.req0, Scu.reqFault ⟨Scu.byteAt s 0, n, ⟨Scu.byteAt s 1, Scu.byteAt s 2, Scu.byteAt s 3, d⟩⟩) else (⟨Scu.byteAt s 0, n, ⟨Scu.byteAt s 1, Scu.byteAt s 2, Scu.byteAt s 3, d⟩⟩, 0) := by
    unfold Scu.decode; rw [if_neg h40, if_neg h4]; simp only [hq1, hq2]
  have hs1 : s1.size ≤ maxLen := by
    have h1 := readNumber_size (Scu.dropS s 4)
    rw [hq1] at h1
    have h2 : (Scu.dropS s 4).size ≤ s.size := by unfold Scu.dropS; rw [ByteArray.size_extract]; omega
    unfold maxLen
    simp only at h1
    omega
  have k1 : ∀ w, Calls Tryd.prog 61 #[.string (s.extract 4 s.size)] w fun e w' => e = .returned (.tuple #[.int .i64 n, .string s1, .int .i64 e1]) ∧ Below w.heap.size w w' := fun w => by
    have := readNumber_c (s.extract 4 s.size) w
    rw [show Scu.readNumber (s.extract 4 s.size) = (n, s1, e1) from hq1] at this
    exact this
  have k2 : ∀ w, Calls Tryd.prog 62 #[.string s1] w fun e w' => e = .returned (.tuple #[.string d, .string s2, .int .i64 e2]) ∧ Below w.heap.size w w' := fun w => by
    have := readText_c s1 w hs1
    rw [hq2] at this
    exact this
  have K1 := Lib.hid k1
  have K2 := Lib.hid k2
  have HD := Lib.hid hd0
  have htn := Lib.hid (toList_eq_nil s2)
  clear hd0 h40 h4 hq1 hq2 k1 k2 hs1
  go_enter Tryd.func20, Tryd.ntmps20
  go_wp2_with fail
  go_region
  go_wp2_with fail
  refine (K1.out _).mono ?_; rintro e w1 ⟨rfl, h1⟩
  obtain ⟨hc, hz⟩ := bcell h1
  have hsz : w.heap.size + 1 < w1.heap.size := by have := h1.size; simp at this; omega
  have hsz' : w.heap.size < w1.heap.size := by omega
  have hB0 : Below w.heap.size w w1 := (((Below.refl _ _).alloc (Nat.le_refl _) _).alloc (by simp) _).drew.trans (h1.mono (by simp; omega))
  by_cases he1 : e1 = 0
  · subst he1
    go_wp2_with fail
    refine (K2.out _).mono ?_; rintro e w2 ⟨rfl, h2⟩
    obtain ⟨hc2, hz2⟩ := bcell h2
    have hsz2 : w.heap.size + 1 < w2.heap.size := by have := h2.size; simp at this; omega
    have hsz2' : w.heap.size < w2.heap.size := by omega
    have hB2 : Below w.heap.size w w2 := (hB0.setCell (by simp) _).trans (h2.mono (by simp; omega))
    have hblk2 := ((((((Blk.new w 28 #[.int .i64 0, .int .i64 0, .int .i64 0, .int .i64 0, .int .i64 0, .string ⟨#[]⟩]).alloc (Obj.cells #[.int .i64 (Scu.byteAt s 0), .int .i64 0, .int .i64 (Scu.byteAt s 1), .int .i64 (Scu.byteAt s 2), .int .i64 (Scu.byteAt s 3), .string ⟨#[]⟩] 28)).drew).same h1).far (p := ⟨w.heap.size + 1, 1, none⟩) (by simp) (.int .i64 n)).same h2)
    have u0 := hblk2.cell 0
    have u1 := hblk2.cell 1
    have u2 := hblk2.cell 2
    have u3 := hblk2.cell 3
    have u4 := hblk2.cell 4
    have u5 := hblk2.cell 5
    simp only [List.getElem?_toArray, List.getElem?_cons_zero, List.getElem?_cons_succ] at u0 u1 u2 u3 u4 u5
    have HB2 := Lib.hid hblk2
    clear hblk2
    by_cases he2 : e2 = 0
    · subst he2
      by_cases hs2 : s2 = Scu.str0
      · have hs2' : s2.toList = [] := htn.out.2 (by rw [hs2]; rfl)
        have HS2 := Lib.hid hs2
        clear hs2
        go_wp2_with fail
        refine (checkRequest_c ⟨Scu.byteAt s 0, n, ⟨Scu.byteAt s 1, Scu.byteAt s 2, Scu.byteAt s 3, d⟩⟩ _).mono ?_; rintro e w3 ⟨rfl, h3⟩
        obtain ⟨hc3, hz3⟩ := bcell h3
        have hsz3 : w.heap.size + 1 < w3.heap.size := by have := h3.size; simp at this; omega
        have hsz3' : w.heap.size < w3.heap.size := by omega
        have hB3 : Below w.heap.size w w3 := (hB2.setCell (by simp) _).trans (h3.mono (by simp; omega))
        have hblk3 := (HB2.out.far (p := ⟨w.heap.size + 1, 5, none⟩) (by simp) (.string d)).same h3
        have y0 := hblk3.cell 0
        have y1 := hblk3.cell 1
        have y2 := hblk3.cell 2
        have y3 := hblk3.cell 3
        have y4 := hblk3.cell 4
        have y5 := hblk3.cell 5
        simp only [List.getElem?_toArray, List.getElem?_cons_zero, List.getElem?_cons_succ] at y0 y1 y2 y3 y4 y5
        have HB3 := Lib.hid hblk3
        clear hblk3
        by_cases hf : Scu.reqFault ⟨Scu.byteAt s 0, n, ⟨Scu.byteAt s 1, Scu.byteAt s 2, Scu.byteAt s 3, d⟩⟩ = 0
        · have hr : Scu.decode s = (⟨Scu.byteAt s 0, n, ⟨Scu.byteAt s 1, Scu.byteAt s 2, Scu.byteAt s 3, d⟩⟩, 0) := by
            rw [HD.out, if_neg (by simp), if_neg (by simp), if_neg (by simp [HS2.out]), if_neg (by simp [hf])]
          have HR := Lib.hid hr
          have hfb : (Scu.reqFault ⟨Scu.byteAt s 0, n, ⟨Scu.byteAt s 1, Scu.byteAt s 2, Scu.byteAt s 3, d⟩⟩ != 0) = false := by simpa using hf
          clear hr hf
          go_wp2
          refine bodyPost_ret (v := .tuple #[.agg #[.int .i64 (Scu.byteAt s 0), .int .i64 n, .int .i64 (Scu.byteAt s 1), .int .i64 (Scu.byteAt s 2), .int .i64 (Scu.byteAt s 3), .string d], .int .i64 0]) (by simp [results, Tryd.results20, go_sem, y0, y1, y2, y3, y4, y5]) rfl ?_
          exact ⟨by rw [HR.out]; rfl, below_set6 hB3 (Nat.le_refl _)⟩
        · have hr : Scu.decode s = (Scu.req0, Scu.reqFault ⟨Scu.byteAt s 0, n, ⟨Scu.byteAt s 1, Scu.byteAt s 2, Scu.byteAt s 3, d⟩⟩) := by
            rw [HD.out, if_neg (by simp), if_neg (by simp), if_neg (by simp [HS2.out]), if_pos hf]
          have HR := Lib.hid hr
          have hfb : (Scu.reqFault ⟨Scu.byteAt s 0, n, ⟨Scu.byteAt s 1, Scu.byteAt s 2, Scu.byteAt s 3, d⟩⟩ != 0) = true := by simpa using hf
          clear hr hf
          go_wp2
          refine bodyPost_ret (v := .tuple #[.agg #[.int .i64 0, .int .i64 0, .int .i64 0, .int .i64 0, .int .i64 0, .string ⟨#[]⟩], .int .i64 (Scu.reqFault ⟨Scu.byteAt s 0, n, ⟨Scu.byteAt s 1, Scu.byteAt s 2, Scu.byteAt s 3, d⟩⟩)]) (by simp [results, Tryd.results20, go_sem, y0, y1, y2, y3, y4, y5]) rfl ?_
          exact ⟨by rw [HR.out]; rfl, below_set6 hB3 (Nat.le_refl _)⟩
      · have hs2' : ¬ s2.toList = [] := fun e => hs2 ((Scu.size_zero_iff _).1 (htn.out.1 e))
        have hs2b : s2.toList.isEmpty = false := by simpa using hs2'
        have hr : Scu.decode s = (Scu.req0, 4) := by rw [HD.out, if_neg (by simp), if_neg (by simp), if_pos hs2]
        have HR := Lib.hid hr
        clear hr hs2
        go_wp2
        refine bodyPost_ret (v := .tuple #[.agg #[.int .i64 0, .int .i64 0, .int .i64 0, .int .i64 0, .int .i64 0, .string ⟨#[]⟩], .int .i64 4]) (by simp [results, Tryd.results20, go_sem, u0, u1, u2, u3, u4, u5]) rfl ?_
        exact ⟨by rw [HR.out]; rfl, below_set6 (hB2.setCell (by simp) _) (Nat.le_refl _)⟩
    · have hb2 : (e2 != 0) = true := by simpa using he2
      have hr : Scu.decode s = (Scu.req0, e2) := by rw [HD.out, if_neg (by simp), if_pos he2]
      have HR := Lib.hid hr
      clear hr he2
      go_wp2
      refine bodyPost_ret (v := .tuple #[.agg #[.int .i64 0, .int .i64 0, .int .i64 0, .int .i64 0, .int .i64 0, .string ⟨#[]⟩], .int .i64 e2]) (by simp [results, Tryd.results20, go_sem, u0, u1, u2, u3, u4, u5]) rfl ?_
      exact ⟨by rw [HR.out]; rfl, below_set6 (hB2.setCell (by simp) _) (Nat.le_refl _)⟩
  · have hb1 : (e1 != 0) = true := by simpa using he1
    have hr : Scu.decode s = (Scu.req0, e1) := by rw [HD.out, if_pos he1]
    have HR := Lib.hid hr
    clear hr he1
    go_wp2
    have hblk1 := (((Blk.new w 28 #[.int .i64 0, .int .i64 0, .int .i64 0, .int .i64 0, .int .i64 0, .string ⟨#[]⟩]).alloc (Obj.cells #[.int .i64 (Scu.byteAt s 0), .int .i64 0, .int .i64 (Scu.byteAt s 1), .int .i64 (Scu.byteAt s 2), .int .i64 (Scu.byteAt s 3), .string ⟨#[]⟩] 28)).drew).same h1
    have u0 := hblk1.cell 0
    have u1 := hblk1.cell 1
    have u2 := hblk1.cell 2
    have u3 := hblk1.cell 3
    have u4 := hblk1.cell 4
    have u5 := hblk1.cell 5
    simp only [List.getElem?_toArray, List.getElem?_cons_zero, List.getElem?_cons_succ] at u0 u1 u2 u3 u4 u5
    refine bodyPost_ret (v := .tuple #[.agg #[.int .i64 0, .int .i64 0, .int .i64 0, .int .i64 0, .int .i64 0, .string ⟨#[]⟩], .int .i64 e1]) (by simp [results, Tryd.results20, go_sem, u0, u1, u2, u3, u4, u5]) rfl ?_
    exact ⟨by rw [HR.out]; rfl, below_set6 (hB0.setCell (by simp) _) (Nat.le_refl _)⟩
end Go.Proofs.YtfpiembhlgcelaaDoor
/- The law EntriesBack, walked. -/
namespace Go.Proofs.YtfpiembhlgcelaaDoor
set_option linter.unusedVariables false
set_option linter.unusedSimpArgs false
open Go.RowKit
set_option maxHeartbeats 4000000
set_option maxRecDepth 100000

def IsReqs (w : World) (B : Nat) (v : Value) (l : List Scu.Request) : Prop := IsRow 28 6 56 ReqE w B v l
theorem req_at {w : World} {B : Nat} {v : Value} {l : List Scu.Request} (h : IsReqs w B v l) {k : Nat} (hk : k < l.length) :
    ∃ g o c, v = .slice (some ⟨g, o, none⟩) l.length c ∧ g < w.heap.size ∧ (∀ j u, (reqV l[k])[j]? = some u → w.cell? ⟨g, o + (k * 6 + j), none⟩ = some u) := by
  obtain ⟨⟨A, c, css, rfl, hc, hl, hm, hr, h6⟩, _⟩ := h
  obtain ⟨g, o, cs, rfl, hg, _, hcs, rfl⟩ := row_get hl hm (by omega) hr h6 hk
  exact ⟨g, o, c, rfl, hg, hcs⟩
theorem IsReqs.cell_at {w : World} {B g o c : Nat} {l : List Scu.Request} (h : IsReqs w B (.slice (some ⟨g, o, none⟩) l.length c) l) {k : Nat} (hk : k < l.length) (j : Nat) (hj : j < 6) : w.cell? ⟨g, o + k * 6 + j, none⟩ = (reqV l[k])[j]? := by
  obtain ⟨g', o', c', e, _, hc⟩ := req_at h hk
  cases e
  have hl : (reqV l[k])[j]? = some ((reqV l[k])[j]'(by simpa [reqV] using hj)) := List.getElem?_eq_getElem _
  rw [hl, Nat.add_assoc]
  exact hc j _ hl
theorem IsReqs.below {w w' : World} {B : Nat} {v : Value} {l : List Scu.Request} (h : IsReqs w B v l) (hb : Below w.heap.size w w') : IsReqs w' B v l :=
  IsRow.same h (Ts := [28]) (by simp) (Same.below hb) (fun _ _ h => h)
theorem encode_q (q : Scu.Request) (h : Scu.reqFault q = 0) (w : World) :
    Calls Tryd.prog 19 #[.agg #[.int .i64 q.client, .int .i64 q.num, .int .i64 q.op.kind, .int .i64 q.op.at_, .int .i64 q.op.snap, .string q.op.data]] w fun e w' =>
      e = .returned (.tuple #[.string (Scu.reqBytes q), .int .i64 0]) ∧ Below w.heap.size w w' := by
  have := encode_c q w
  rw [Scu.encode_ok h] at this
  exact this
theorem decode_q (s : ByteArray) (q : Scu.Request) (e : Int) (h : Scu.decode s = (q, e)) (w : World) :
    Calls Tryd.prog 20 #[.string s] w fun ee w' =>
      ee = .returned (.tuple #[.agg #[.int .i64 q.client, .int .i64 q.num, .int .i64 q.op.kind, .int .i64 q.op.at_, .int .i64 q.op.snap, .string q.op.data], .int .i64 e]) ∧ Below w.heap.size w w' := by
  have := decode_c s w
  rw [h] at this
  exact this
theorem decode_x {q : Scu.Request} {s : Scu.Str} (h : Scu.reqFault q = 0) (hs : Scu.reqBytes q = s) : Scu.decode (s ++ ⟨#[120]⟩) = (Scu.req0, 4) := by
  subst hs
  have h1 : ByteArray.size ⟨#[120]⟩ = 1 := rfl
  exact Scu.decode_more h ⟨#[120]⟩ h1
theorem lawEntriesBack_c (v : Value) (l : List Scu.Raw) (cut : Int) (hcut : InI cut) (w : World) (hl : IsRaws w w.heap.size v l) (ht : Tab w) :
    Calls Tryd.prog 3 #[v, .int .i64 cut] w fun e w' => e = .returned (.bool true) ∧ Below w.heap.size w w' := by
  obtain ⟨Al, cl, rfl, hll⟩ := hl.form'
  have HT := Lib.hid ht
  have HL := Lib.hid hl
  have HCUT := Lib.hid hcut
  clear ht hl hcut
  go_enter Tryd.func3, Tryd.ntmps3
  go_wp2_with fail
  refine (requests_c _ l 20 w w.heap.size (Nat.le_refl _) HL.out HT.out (by decide)).mono ?_; rintro e w1 ⟨⟨A, c, css, rfl, ho⟩, b1⟩
  have hq : IsReqs w1 0 (.slice A (Scu.requests l 20).length c) (Scu.requests l 20) := ho.is
  have hok := Scu.requests_ok l 20 (by decide)
  have hlen : (Scu.requests l 20).length ≤ 20 := by rw [Scu.requests_length]; omega
  obtain ⟨qs, hqs⟩ : ∃ qs, Scu.requests l 20 = qs := ⟨_, rfl⟩
  rw [hqs] at hq hok hlen ⊢
  clear hqs ho css
  have HQ := Lib.hid hq
  have HOK := Lib.hid hok
  have HB1 := Lib.hid b1
  clear hq hok b1
  go_wp2_with fail
  go_loopw [18] (fun i wr => ∃ k : Nat, k ≤ qs.length ∧ i = .int .i64 k ∧ IsReqs wr 0 (.slice A qs.length c) qs ∧ Below w.heap.size w wr) (fun i _ => qs.length - (intOf i).toNat)
  case atStart => exact ⟨0, Nat.zero_le _, rfl, HQ.out, HB1.out⟩
  case round =>
    obtain ⟨k, hk, rfl, hI, hb⟩ := hrel
    by_cases hlt : k < qs.length
    · have hlt' : (k : Int) < (qs.length : Int) := by omega
      obtain ⟨g, o, c', e, hg, -⟩ := req_at hI hlt
      obtain rfl : A = some ⟨g, o, none⟩ := by cases e; rfl
      clear e c'
      obtain ⟨q, hqq⟩ : ∃ q, qs[k] = q := ⟨_, rfl⟩
      have hf : Scu.reqFault q = 0 := by rw [← hqq]; exact HOK.out _ (List.getElem_mem _)
      have hc : ∀ j u, (reqV q)[j]? = some u → j < 6 → wr.cell? ⟨g, o + k * 6 + j, none⟩ = some u := fun j u h hj => by rw [hI.cell_at hlt j hj, hqq, h]
      have c0 : wr.cell? ⟨g, o + k * 6, none⟩ = some (.int .i64 q.client) := hc 0 _ rfl (by decide)
      have c1 : wr.cell? ⟨g, o + k * 6 + 1, none⟩ = some (.int .i64 q.num) := hc 1 _ rfl (by decide)
      have c2 : wr.cell? ⟨g, o + k * 6 + 2, none⟩ = some (.int .i64 q.op.kind) := hc 2 _ rfl (by decide)
      have c3 : wr.cell? ⟨g, o + k * 6 + 3, none⟩ = some (.int .i64 q.op.at_) := hc 3 _ rfl (by decide)
      have c4 : wr.cell? ⟨g, o + k * 6 + 4, none⟩ = some (.int .i64 q.op.snap) := hc 4 _ rfl (by decide)
      have c5 : wr.cell? ⟨g, o + k * 6 + 5, none⟩ = some (.string q.op.data) := hc 5 _ rfl (by decide)
      have HI := Lib.hid hI
      have HB := Lib.hid hb
      have HF := Lib.hid hf
      have HQQ := Lib.hid hqq
      clear hI hb hf hqq hc
      go_upto_region 4 with fail
      obtain ⟨Wd, hWd⟩ : ∃ W, W = wr.alloc (Obj.cells (reqV q).toArray 28) := ⟨_, rfl⟩
      rw [show wr.alloc (Obj.cells #[.int .i64 q.client, .int .i64 q.num, .int .i64 q.op.kind, .int .i64 q.op.at_, .int .i64 q.op.snap, .string q.op.data] 28) = Wd from hWd.symm]
      have hbl : Blk Wd wr.heap.size 28 (reqV q).toArray := by rw [hWd]; exact Blk.new _ _ _
      have hbd : Below wr.heap.size wr Wd := by rw [hWd]; exact below_alloc _ _
      clear hWd c0 c1 c2 c3 c4 c5
      have d0 : Wd.cell? ⟨wr.heap.size, 0, none⟩ = some (.int .i64 q.client) := hbl.cell 0
      have d1 : Wd.cell? ⟨wr.heap.size, 1, none⟩ = some (.int .i64 q.num) := hbl.cell 1
      have d2 : Wd.cell? ⟨wr.heap.size, 2, none⟩ = some (.int .i64 q.op.kind) := hbl.cell 2
      have d3 : Wd.cell? ⟨wr.heap.size, 3, none⟩ = some (.int .i64 q.op.at_) := hbl.cell 3
      have d4 : Wd.cell? ⟨wr.heap.size, 4, none⟩ = some (.int .i64 q.op.snap) := hbl.cell 4
      have d5 : Wd.cell? ⟨wr.heap.size, 5, none⟩ = some (.string q.op.data) := hbl.cell 5
      have hsz := Scu.reqBytes_size q
      have hsz2 : q.op.data.size ≤ 8 := (Scu.opFault_ok (Scu.reqFault_ok HF.out).2.2.2.2).2.2.2.2.2.2.1
      obtain ⟨s, hs⟩ : ∃ s, Scu.reqBytes q = s := ⟨_, rfl⟩
      rw [hs] at hsz
      have hs9 : 9 ≤ s.size := by omega
      have hs17 : s.size ≤ 17 := by omega
      have HS := Lib.hid hs
      have HBL := Lib.hid hbl
      have HBD := Lib.hid hbd
      clear hs hsz hsz2 hbl hbd
      go_wp2_with fail
      refine (encode_q q HF.out _).mono ?_; rintro e w2 ⟨rfl, b2⟩
      rw [HS.out]
      have B2 := Lib.hid b2
      clear b2
      go_wp2_with fail
      refine (decode_q s q 0 (by rw [← HS.out]; exact Scu.decode_reqBytes HF.out) _).mono ?_; rintro e w3 ⟨rfl, b3⟩
      have B3 := Lib.hid b3
      clear b3
      go_upto_region 6 with fail
      obtain ⟨W4, hW4⟩ : ∃ W, W = w3.alloc (Obj.cells (reqV q).toArray 28) := ⟨_, rfl⟩
      rw [show w3.alloc (Obj.cells #[.int .i64 q.client, .int .i64 q.num, .int .i64 q.op.kind, .int .i64 q.op.at_, .int .i64 q.op.snap, .string q.op.data] 28) = W4 from hW4.symm]
      have HC := Lib.hid (show Blk W4 w3.heap.size 28 (reqV q).toArray from by rw [hW4]; exact Blk.new _ _ _)
      have HCD := Lib.hid (show Below w3.heap.size w3 W4 from by rw [hW4]; exact below_alloc _ _)
      clear hW4 d0 d1 d2 d3 d4 d5
      have hmx : max (s.size : Int) 1 = s.size := by omega
      obtain ⟨p, hp⟩ : ∃ p, Scu.picked cut s.size = p := ⟨_, rfl⟩
      have hp01 := Scu.picked_lt (n := cut) (many := s.size) (by omega)
      rw [hp] at hp01
      obtain ⟨m, rfl⟩ : ∃ m : Nat, p = m := ⟨p.toNat, by omega⟩
      have hm1 : (m : Int) < s.size := hp01.2
      have hmn : m < s.size := by omega
      have HP := Lib.hid hp
      clear hp hp01
      go_wp2_with fail
      refine (picked_c cut s.size HCUT.out (by omega) (by omega) _).mono ?_; rintro e w5 ⟨rfl, rfl⟩
      rw [HP.out]
      go_wp2_with fail
      refine (decode_q (s.extract 0 m) Scu.req0 5 (by rw [← HS.out] at hmn ⊢; exact Scu.decode_cut HF.out m hmn) _).mono ?_; rintro e w5 ⟨rfl, b5⟩
      have B5 := Lib.hid b5
      clear b5
      go_upto_region 7 with fail
      obtain ⟨W6, hW6⟩ : ∃ W, W = w5.alloc (Obj.cells (reqV Scu.req0).toArray 28) := ⟨_, rfl⟩
      rw [show w5.alloc (Obj.cells #[.int .i64 Scu.req0.client, .int .i64 Scu.req0.num, .int .i64 Scu.req0.op.kind, .int .i64 Scu.req0.op.at_, .int .i64 Scu.req0.op.snap, .string Scu.req0.op.data] 28) = W6 from hW6.symm]
      have HED := Lib.hid (show Below w5.heap.size w5 W6 from by rw [hW6]; exact below_alloc _ _)
      clear hW6
      have hadd := fun w => run_string_add_sum (P := Tryd.prog) (w := w) s ⟨#[120]⟩ (by show s.size + 1 ≤ 9223372036854775807; omega)
      go_wp2_with fail
      have hx : Scu.decode (s ++ ⟨#[120]⟩) = (Scu.req0, 4) := decode_x HF.out HS.out
      refine (decode_q _ _ _ hx _).mono ?_; rintro e w7 ⟨rfl, b7⟩
      have B7 := Lib.hid b7
      clear b7 hadd
      go_upto_region 8 with fail
      obtain ⟨W8, hW8⟩ : ∃ W, W = w7.alloc (Obj.cells (reqV Scu.req0).toArray 28) := ⟨_, rfl⟩
      rw [show w7.alloc (Obj.cells #[.int .i64 Scu.req0.client, .int .i64 Scu.req0.num, .int .i64 Scu.req0.op.kind, .int .i64 Scu.req0.op.at_, .int .i64 Scu.req0.op.snap, .string Scu.req0.op.data] 28) = W8 from hW8.symm]
      have hfd : Below w7.heap.size w7 W8 := by rw [hW8]; exact below_alloc _ _
      clear hW8
      have e4 : Below w3.heap.size w3 W8 := ((HCD.out.trans (B5.out.mono HCD.out.size)).trans (HED.out.mono (Nat.le_trans HCD.out.size B5.out.size))).trans ((B7.out.trans (hfd.mono B7.out.size)).mono (Nat.le_trans (Nat.le_trans HCD.out.size B5.out.size) HED.out.size))
      have e0 : Below Wd.heap.size Wd W8 := (B2.out.trans (B3.out.mono B2.out.size)).trans (e4.mono (Nat.le_trans B2.out.size B3.out.size))
      have hb8 : Blk W8 wr.heap.size 28 (reqV q).toArray := HBL.out.same e0
      have hc8 : Blk W8 w3.heap.size 28 (reqV q).toArray := HC.out.same (((B5.out.trans (HED.out.mono B5.out.size)).trans ((B7.out.trans (hfd.mono B7.out.size)).mono (Nat.le_trans B5.out.size HED.out.size))))
      have hr8 : Below wr.heap.size wr W8 := HBD.out.trans (e0.mono HBD.out.size)
      have d0 : W8.cell? ⟨wr.heap.size, 0, none⟩ = some (.int .i64 q.client) := hb8.cell 0
      have d1 : W8.cell? ⟨wr.heap.size, 1, none⟩ = some (.int .i64 q.num) := hb8.cell 1
      have d2 : W8.cell? ⟨wr.heap.size, 2, none⟩ = some (.int .i64 q.op.kind) := hb8.cell 2
      have d3 : W8.cell? ⟨wr.heap.size, 3, none⟩ = some (.int .i64 q.op.at_) := hb8.cell 3
      have d4 : W8.cell? ⟨wr.heap.size, 4, none⟩ = some (.int .i64 q.op.snap) := hb8.cell 4
      have d5 : W8.cell? ⟨wr.heap.size, 5, none⟩ = some (.string q.op.data) := hb8.cell 5
      have f0 : W8.cell? ⟨w3.heap.size, 0, none⟩ = some (.int .i64 q.client) := hc8.cell 0
      have f1 : W8.cell? ⟨w3.heap.size, 1, none⟩ = some (.int .i64 q.num) := hc8.cell 1
      have f2 : W8.cell? ⟨w3.heap.size, 2, none⟩ = some (.int .i64 q.op.kind) := hc8.cell 2
      have f3 : W8.cell? ⟨w3.heap.size, 3, none⟩ = some (.int .i64 q.op.at_) := hc8.cell 3
      have f4 : W8.cell? ⟨w3.heap.size, 4, none⟩ = some (.int .i64 q.op.snap) := hc8.cell 4
      have f5 : W8.cell? ⟨w3.heap.size, 5, none⟩ = some (.string q.op.data) := hc8.cell 5
      have HI8 := Lib.hid (show IsReqs W8 0 (.slice (some ⟨g, o, none⟩) qs.length c) qs from HI.out.below hr8)
      have HB8 := Lib.hid (show Below w.heap.size w W8 from HB.out.trans (hr8.mono HB.out.size))
      clear e4 e0 hb8 hc8 hr8 hfd
      go_wp2_with fail
      exact ⟨⟨k + 1, by omega, rfl, HI8.out, HB8.out⟩, by simp only [intOf]; omega⟩
    · have hkl' : k = qs.length := by omega
      have HB := Lib.hid hb
      have hlt' : ¬ (k : Int) < (qs.length : Int) := by omega
      clear hI hb
      go_wp2
      go_ret
      exact ⟨rfl, HB.out⟩
theorem lawEntriesBack_w (v : Value) (l : List Scu.Raw) {w : World} (h : IsRaws w w.heap.size v l) (cut : Int) (hc : (Lit.int .i64 cut).wf = true) (W : World) (hW : W = w) (ht : Tab W) :
    Calls Tryd.prog 3 #[v, .int .i64 cut] W fun e w' => e = .returned (.bool true) ∧ Below W.heap.size W w' := by
  subst hW
  exact lawEntriesBack_c v l cut (ini_of hc) W h ht
end Go.Proofs.YtfpiembhlgcelaaDoor
namespace Go.Proofs.YtfpiembhlgcelaaDoor.entriesBackDone
open Go.ChangeShapes Go.WideShapes Go.ChangeAt Go.RowKit
open Go.ChangeMaps (open_string shut_string)
set_option linter.unusedVariables false
theorem own : ownKnob Tryd.prog.godebug = none := by kernel_rfl
theorem laidOut : laidOutB Tryd.prog = true := by kernel_rfl
set_option maxRecDepth 100000 in
theorem lifted (os : Os) (started : os.Started) (H : Type) (enc : TypeId × Value → H) :
    ReturnsInHanded {} Tryd.checked os 3 .any (fun w args => (Rows.entriesBackSpec.pre enc Tryd.prog Tryd.f3 [] false w args ∧ laidMetH Tryd.prog Rows.entriesBackRow.laid w) ∧ sizedMet enc Tryd.prog Tryd.f3 (OpenSpec.ofChange Rows.entriesBackSpec) false w args)
      (Rows.entriesBackSpec.post enc Tryd.prog Tryd.f3 false true false false) := by
  refine returnsInHanded_of_change_and (C := Tryd.checked) (X := fun w _ => laidMetH Tryd.prog Rows.entriesBackRow.laid w) (fun _ _ _ hh h => h.of_heap hh) own started (by kernel_rfl) Tryd.func3
    (ChangeSpec.witness_shaped (enc := enc) (C := Tryd.checked) (os := os) (X := fun w _ => laidMetH Tryd.prog Rows.entriesBackRow.laid w) false (World.doorLaid Tryd.prog doorFuel os) #[.slice none 0 0, .int .i64 0] 8 rfl (door_shaped os _) (by kernel_rfl) (by kernel_rfl) (by kernel_rfl) (door_met os _)) ?_
  intro W base args ds gs before hval0 hW _ hsz hL _
  have htab := tab_of hL
  have hwt0 : ∀ (j : Nat) (t : TypeId) (d : DataW H), (Tryd.f3.params.toList ++ Rows.entriesBackSpec.plain.varTypes Tryd.prog)[j]? = some t → (ds ++ gs)[j]? = some d → ∀ k ∈ d.weights Tryd.prog t, k ≤ reachBytes := fun j t d ht hd k hk => by
    have := List.all_eq_true.1 hsz k (DataW.weights_mem_each ht hd k hk)
    simpa using this
  clear hsz hL
  have hwt := hwt0
  rw [Tryd.params3] at hwt
  have hval : ∀ (j : Nat) t v, Tryd.f3.params[j]? = some t → args[j]? = some v → Value.okWide Tryd.prog W .any base t v := hval0
  have hW' := hW
  obtain ⟨p, q, hA0, hV, rfl, hfz, hnd⟩ := hW
  have hA : DataW.TrodAll enc Tryd.prog W 0 (fun _ => true) true Tryd.f3.params.toList args.toList ds p := hA0
  rw [Tryd.params3] at hA hval
  obtain ⟨v0, vs0, d0, ds0, p0, q0, hargs, rfl, rfl, h0, r0⟩ := trodAll_cons hA
  obtain ⟨v1, vs1, d1, ds1, p1, q1, rfl, rfl, rfl, h1, r1⟩ := trodAll_cons r0
  obtain ⟨rfl, rfl, rfl⟩ := trodAll_nil r1
  obtain rfl : args = #[v0, v1] := by cases args; simp_all
  obtain ⟨rfl, rfl⟩ := trodVars_none hV
  have k0 := h0
  have lt0 : ∀ x ∈ p0, x.block < W.heap.size := by obtain ⟨m, hm⟩ := k0; exact DataW.trod_lt m _ _ _ hm
  obtain ⟨a0, w0⟩ := openS_Raws (hval 0 22 v0 rfl rfl) h0 (hwt 0 22 d0 rfl rfl)
  have k1 := h1
  have lt1 : ∀ x ∈ p1, x.block < W.heap.size := by obtain ⟨m, hm⟩ := k1; exact DataW.trod_lt m _ _ _ hm
  obtain ⟨a1, hv1, hd1, hp1, w1⟩ := open_int Tryd.underlying3 (hval 1 3 v1 rfl rfl) h1
  subst hv1
  clear hA0 hval0
  refine (lawEntriesBack_w v0 a0 w0 a1 w1 W rfl htab).mono fun e W' ⟨he, bel⟩ => ?_
  subst he
  exact ⟨_, rfl, _, _, _, [], _, [], hW', trodAll_mk1 (shut_bool Tryd.underlying4 _), (trodAll_cons_mk (Below.trod laidOut (by kernel_rfl) (of_decide_eq_true (by kernel_rfl)) k0 bel lt0) (trodAll_cons_mk (Below.trod laidOut (by kernel_rfl) (of_decide_eq_true (by kernel_rfl)) k1 bel lt1) trodAll_mk0)), rfl, bel.frame _, fun h => by cases h⟩
theorem over : Rows.EntriesBackSaid :=
  OpenClaim.holds_of_wide 3 Tryd.f3 rfl rfl rfl rfl rfl rfl rfl ⟨rfl, rfl, rfl, rfl, rfl⟩ rfl rfl rfl rfl rfl (by kernel_rfl) Tryd.func3 (facts_of rfl rfl rfl rfl rfl rfl (by as_aux_lemma => kernel_rfl) (by as_aux_lemma => kernel_rfl) (by as_aux_lemma => kernel_rfl) (by as_aux_lemma => kernel_rfl) (by as_aux_lemma => kernel_rfl) (by as_aux_lemma => kernel_rfl) (by as_aux_lemma => kernel_rfl))
    (of_decide_eq_true (by kernel_rfl)) (by unfold Func.isWrapper; first | (rw [if_pos (by decide +kernel)]; kernel_rfl) | (rw [if_neg (by decide +kernel)]; exact ⟨rfl, rfl⟩))
    (fun os started H enc _ => lifted os started H enc)
theorem proved : Rows.EntriesBackCardSaid :=
  Claim7.holds_tied_plain_at .later [] [.data, .data, .data] true Rows.entriesBackCard.stood.harness false
    over (fun _ h => by cases h) (by kernel_rfl) (fun _ h => by cases h) entriesBack_row_tie rfl ⟨rfl, rfl⟩ (by kernel_rfl) rfl
    (fun f fn hf hfn => by
      obtain rfl : f = 3 := Option.some.inj ((show Tryd.prog.funcNamed Rows.entriesBackRow.func = some 3 by kernel_rfl).symm.trans hf) |>.symm
      obtain rfl : fn = Tryd.f3 := (Option.some.inj (Tryd.func3.symm.trans hfn)).symm
      exact ⟨by kernel_rfl, fun j t ht => by
        rw [Tryd.params3] at ht
        have hm : t ∈ [22, 3] := by simpa using Array.mem_of_getElem? ht
        have hall : ([22, 3].all fun u => !Tryd.prog.wantsStandIn u) = true := by kernel_rfl
        exact (show Tryd.prog.wantsStandIn t = false by simpa using List.all_eq_true.1 hall t hm)⟩)
    (by kernel_rfl)
end Go.Proofs.YtfpiembhlgcelaaDoor.entriesBackDone

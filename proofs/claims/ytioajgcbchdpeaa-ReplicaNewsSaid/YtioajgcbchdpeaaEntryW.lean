/- Walks: a request as an entry, and back. -/
import Derived.Test.YtioajgcbchdpeaaOpsW
import Derived.Test.YtioajgcbchdpeaaOpen
namespace Go.Proofs.Ytioajgcbchdpeaa
open Go.RowKit
attribute [local go_sem] conv_four conv_one byteAt_get
set_option maxHeartbeats 4000000
set_option maxRecDepth 100000

theorem number_ok (n : Int) (w : World) (h0 : 0 ≤ n) (h1 : n ≤ 1073741824) :
    Calls Try.prog 67 #[.int .i64 n] w fun e w' => e = .returned (.tuple #[.string (Scu.numBytes n), .int .i64 0]) ∧ Below w.heap.size w w' := by
  have := number_c n w
  rw [show Scu.number n = (Scu.numBytes n, 0) from if_neg (by omega)] at this
  exact this
theorem numberBytes_ok (n : Int) (w : World) (h0 : 0 ≤ n) (h1 : n ≤ 1073741824) :
    Calls Try.prog 70 #[.int .i64 n] w fun e w' => e = .returned (.tuple #[.string (Scu.numBytes n), .int .i64 0]) ∧ Below w.heap.size w w' := by
  have := numberBytes_c n w
  rw [show Scu.number n = (Scu.numBytes n, 0) from if_neg (by omega)] at this
  exact this
theorem text_ok (s : ByteArray) (w : World) (h : s.size ≤ 255) :
    Calls Try.prog 68 #[.string s] w fun e w' => e = .returned (.tuple #[.string (Scu.textBytes s), .int .i64 0]) ∧ Below w.heap.size w w' := by
  have := text_c s w
  rw [show Scu.text s = (Scu.textBytes s, 0) from if_neg (by omega)] at this
  exact this
theorem textBytesR_ok (s : ByteArray) (w : World) (h : s.size ≤ 255) :
    Calls Try.prog 71 #[.string s] w fun e w' => e = .returned (.tuple #[.string (Scu.textBytes s), .int .i64 0]) ∧ Below w.heap.size w w' := by
  have := textBytesR_c s w
  rw [show Scu.text s = (Scu.textBytes s, 0) from if_neg (by omega)] at this
  exact this

theorem head_eq (a b c d : Int) (a0 : 0 ≤ a) (a1 : a < 256) (b0 : 0 ≤ b) (b1 : b < 256) (c0 : 0 ≤ c) (c1 : c < 256) (d0 : 0 ≤ d) (d1 : d < 256) :
    strOfNums [a, b, c, d] = ⟨#[Scu.b8 a, Scu.b8 b, Scu.b8 c, Scu.b8 d]⟩ := by
  unfold strOfNums
  simp only [List.map_cons, List.map_nil]
  rw [b8_low a0 a1, b8_low b0 b1, b8_low c0 c1, b8_low d0 d1]

theorem readNumber_err (s : Scu.Str) (h : (Scu.readNumber s).2.2 ≠ 0) : (Scu.readNumber s).1 = 0 ∧ (Scu.readNumber s).2.1 = Scu.str0 := by
  unfold Scu.readNumber at h ⊢
  split
  · exact ⟨rfl, rfl⟩
  split
  · exact ⟨rfl, rfl⟩
  · rename_i h1 h2; rw [if_neg h1, if_neg h2] at h; exact absurd rfl h
theorem readNumber_size (s : Scu.Str) : (Scu.readNumber s).2.1.size ≤ s.size := by
  unfold Scu.readNumber
  split
  · exact Nat.zero_le _
  split
  · exact Nat.zero_le _
  · show (Scu.dropS s 4).size ≤ s.size
    unfold Scu.dropS
    rw [ByteArray.size_extract]
    omega
def zReq : Value := .agg #[.int .i64 0, .int .i64 0, .int .i64 0, .int .i64 0, .int .i64 0, .string ⟨#[]⟩]
theorem below_set6 {B g : Nat} {w w1 : World} {a b c d e f : Value} (h : Below B w w1) (hg : B ≤ g) :
    Below B w ((((((w1.setCell ⟨g, 0, none⟩ a).setCell ⟨g, 1, none⟩ b).setCell ⟨g, 2, none⟩ c).setCell ⟨g, 3, none⟩ d).setCell ⟨g, 4, none⟩ e).setCell ⟨g, 5, none⟩ f) :=
  (((((h.setCell (p := ⟨g, 0, none⟩) hg _).setCell (p := ⟨g, 1, none⟩) hg _).setCell (p := ⟨g, 2, none⟩) hg _).setCell (p := ⟨g, 3, none⟩) hg _).setCell (p := ⟨g, 4, none⟩) hg _).setCell (p := ⟨g, 5, none⟩) hg _
theorem decode_c (s : ByteArray) (w : World) :
    Calls Try.prog 78 #[.string s] w fun e w' =>
      e = .returned (.tuple #[vRequest (Scu.decode s).1, .int .i64 (Scu.decode s).2]) ∧ Below w.heap.size w w' := by
  by_cases h40 : 40 < s.size
  · have hs : Scu.decode s = (Scu.req0, 1) := if_pos h40
    rw [hs]
    have h' : (40 : Int) < s.size := by omega
    clear hs h40
    go_enter Try.func78, Try.ntmps78
    go_wp2
    go_returns
    exact ⟨rfl, (Below.refl _ _).alloc (Nat.le_refl _) _⟩
  by_cases h4 : s.size < 4
  · have hs : Scu.decode s = (Scu.req0, 5) := by unfold Scu.decode; rw [if_neg h40, if_pos h4]
    rw [hs]
    have h' : (s.size : Int) < 4 := by omega
    clear hs h40 h4
    go_enter Try.func78, Try.ntmps78
    go_wp2
    go_returns
    exact ⟨rfl, (Below.refl _ _).alloc (Nat.le_refl _) _⟩
  have g40 : (s.size : Int) ≤ 40 := by omega
  have g4 : (4 : Int) ≤ s.size := by omega
  have g0 : (0 : Int) < s.size := by omega
  have g1 : (1 : Int) < s.size := by omega
  have g2 : (2 : Int) < s.size := by omega
  have g3 : (3 : Int) < s.size := by omega
  obtain ⟨a0, a1⟩ := byteAt_rng s 0
  obtain ⟨b0, b1⟩ := byteAt_rng s 1
  obtain ⟨c0, c1⟩ := byteAt_rng s 2
  obtain ⟨d0, d1⟩ := byteAt_rng s 3
  generalize hq1 : Scu.readNumber (Scu.dropS s 4) = q1
  obtain ⟨n, s1, e1⟩ := q1
  generalize hq2 : Scu.readText s1 = q2
  obtain ⟨d, s2, e2⟩ := q2
  have hd0 : Scu.decode s = if e1 ≠ 0 then (Scu.req0, e1) else if e2 ≠ 0 then (Scu.req0, e2) else
    if s2 ≠ Scu.str0 then (Scu.req0, 4) else if Scu.reqFault ⟨Scu.byteAt s 0, n, ⟨Scu.byteAt s 1, Scu.byteAt s 2, Scu.byteAt s 3, d⟩⟩ ≠ 0 then
      (Scu.req0, Scu.reqFault ⟨Scu.byteAt s 0, n, ⟨Scu.byteAt s 1, Scu.byteAt s 2, Scu.byteAt s 3, d⟩⟩) else (⟨Scu.byteAt s 0, n, ⟨Scu.byteAt s 1, Scu.byteAt s 2, Scu.byteAt s 3, d⟩⟩, 0) := by
    unfold Scu.decode; rw [if_neg h40, if_neg h4]; simp only [hq1, hq2]
  have hs1 : s1.size ≤ maxLen := by
    have h1 := readNumber_size (Scu.dropS s 4)
    rw [hq1] at h1
    have h2 : (Scu.dropS s 4).size ≤ s.size := by unfold Scu.dropS; rw [ByteArray.size_extract]; omega
    unfold maxLen
    simp only at h1
    omega
  have k1 : ∀ w, Calls Try.prog 73 #[.string (s.extract 4 s.size)] w fun e w' => e = .returned (.tuple #[.int .i64 n, .string s1, .int .i64 e1]) ∧ Below w.heap.size w w' := fun w => by
    have := readNumber_c (s.extract 4 s.size) w
    rw [show Scu.readNumber (s.extract 4 s.size) = (n, s1, e1) from hq1] at this
    exact this
  have k2 : ∀ w, Calls Try.prog 74 #[.string s1] w fun e w' => e = .returned (.tuple #[.string d, .string s2, .int .i64 e2]) ∧ Below w.heap.size w w' := fun w => by
    have := readText_c s1 w hs1
    rw [hq2] at this
    exact this
  have K1 := Lib.hid k1
  have K2 := Lib.hid k2
  have HD := Lib.hid hd0
  have htn := Lib.hid (toList_eq_nil s2)
  clear hd0 h40 h4 hq1 hq2 k1 k2 hs1
  go_enter Try.func78, Try.ntmps78
  go_wp2_with fail
  go_region
  go_wp2_with fail
  refine (K1.out _).mono ?_; rintro e w1 ⟨rfl, h1⟩
  obtain ⟨hc, hz⟩ := bcell h1
  have hsz : w.heap.size + 1 < w1.heap.size := by have := h1.size; simp at this; omega
  have hsz' : w.heap.size < w1.heap.size := by omega
  have hB0 : Below w.heap.size w w1 := (((Below.refl _ _).alloc (Nat.le_refl _) _).alloc (by simp) _).drew.trans (h1.mono (by simp; omega))
  by_cases he1 : e1 = 0
  · subst he1
    go_wp2_with fail
    refine (K2.out _).mono ?_; rintro e w2 ⟨rfl, h2⟩
    obtain ⟨hc2, hz2⟩ := bcell h2
    have hsz2 : w.heap.size + 1 < w2.heap.size := by have := h2.size; simp at this; omega
    have hsz2' : w.heap.size < w2.heap.size := by omega
    have hB2 : Below w.heap.size w w2 := (hB0.setCell (by simp) _).trans (h2.mono (by simp; omega))
    have hblk2 := ((((((Blk.new w 104 #[.int .i64 0, .int .i64 0, .int .i64 0, .int .i64 0, .int .i64 0, .string ⟨#[]⟩]).alloc (Obj.cells #[.int .i64 (Scu.byteAt s 0), .int .i64 0, .int .i64 (Scu.byteAt s 1), .int .i64 (Scu.byteAt s 2), .int .i64 (Scu.byteAt s 3), .string ⟨#[]⟩] 104)).drew).same h1).far (p := ⟨w.heap.size + 1, 1, none⟩) (by simp) (.int .i64 n)).same h2)
    have u0 := hblk2.cell 0
    have u1 := hblk2.cell 1
    have u2 := hblk2.cell 2
    have u3 := hblk2.cell 3
    have u4 := hblk2.cell 4
    have u5 := hblk2.cell 5
    simp only [List.getElem?_toArray, List.getElem?_cons_zero, List.getElem?_cons_succ] at u0 u1 u2 u3 u4 u5
    have HB2 := Lib.hid hblk2
    clear hblk2
    by_cases he2 : e2 = 0
    · subst he2
      by_cases hs2 : s2 = Scu.str0
      · have hs2' : s2.toList = [] := htn.out.2 (by rw [hs2]; rfl)
        have HS2 := Lib.hid hs2
        clear hs2
        go_wp2_with fail
        refine (checkRequest_c ⟨Scu.byteAt s 0, n, ⟨Scu.byteAt s 1, Scu.byteAt s 2, Scu.byteAt s 3, d⟩⟩ _).mono ?_; rintro e w3 ⟨rfl, h3⟩
        obtain ⟨hc3, hz3⟩ := bcell h3
        have hsz3 : w.heap.size + 1 < w3.heap.size := by have := h3.size; simp at this; omega
        have hsz3' : w.heap.size < w3.heap.size := by omega
        have hB3 : Below w.heap.size w w3 := (hB2.setCell (by simp) _).trans (h3.mono (by simp; omega))
        have hblk3 := (HB2.out.far (p := ⟨w.heap.size + 1, 5, none⟩) (by simp) (.string d)).same h3
        have y0 := hblk3.cell 0
        have y1 := hblk3.cell 1
        have y2 := hblk3.cell 2
        have y3 := hblk3.cell 3
        have y4 := hblk3.cell 4
        have y5 := hblk3.cell 5
        simp only [List.getElem?_toArray, List.getElem?_cons_zero, List.getElem?_cons_succ] at y0 y1 y2 y3 y4 y5
        have HB3 := Lib.hid hblk3
        clear hblk3
        by_cases hf : Scu.reqFault ⟨Scu.byteAt s 0, n, ⟨Scu.byteAt s 1, Scu.byteAt s 2, Scu.byteAt s 3, d⟩⟩ = 0
        · have hr : Scu.decode s = (⟨Scu.byteAt s 0, n, ⟨Scu.byteAt s 1, Scu.byteAt s 2, Scu.byteAt s 3, d⟩⟩, 0) := by
            rw [HD.out, if_neg (by simp), if_neg (by simp), if_neg (by simp [HS2.out]), if_neg (by simp [hf])]
          have HR := Lib.hid hr
          have hfb : (Scu.reqFault ⟨Scu.byteAt s 0, n, ⟨Scu.byteAt s 1, Scu.byteAt s 2, Scu.byteAt s 3, d⟩⟩ != 0) = false := by simpa using hf
          clear hr hf
          go_wp2
          refine bodyPost_ret (v := .tuple #[.agg #[.int .i64 (Scu.byteAt s 0), .int .i64 n, .int .i64 (Scu.byteAt s 1), .int .i64 (Scu.byteAt s 2), .int .i64 (Scu.byteAt s 3), .string d], .int .i64 0]) (by simp [results, Try.results78, go_sem, y0, y1, y2, y3, y4, y5]) rfl ?_
          exact ⟨by rw [HR.out]; rfl, below_set6 hB3 (Nat.le_refl _)⟩
        · have hr : Scu.decode s = (Scu.req0, Scu.reqFault ⟨Scu.byteAt s 0, n, ⟨Scu.byteAt s 1, Scu.byteAt s 2, Scu.byteAt s 3, d⟩⟩) := by
            rw [HD.out, if_neg (by simp), if_neg (by simp), if_neg (by simp [HS2.out]), if_pos hf]
          have HR := Lib.hid hr
          have hfb : (Scu.reqFault ⟨Scu.byteAt s 0, n, ⟨Scu.byteAt s 1, Scu.byteAt s 2, Scu.byteAt s 3, d⟩⟩ != 0) = true := by simpa using hf
          clear hr hf
          go_wp2
          refine bodyPost_ret (v := .tuple #[.agg #[.int .i64 0, .int .i64 0, .int .i64 0, .int .i64 0, .int .i64 0, .string ⟨#[]⟩], .int .i64 (Scu.reqFault ⟨Scu.byteAt s 0, n, ⟨Scu.byteAt s 1, Scu.byteAt s 2, Scu.byteAt s 3, d⟩⟩)]) (by simp [results, Try.results78, go_sem, y0, y1, y2, y3, y4, y5]) rfl ?_
          exact ⟨by rw [HR.out]; rfl, below_set6 hB3 (Nat.le_refl _)⟩
      · have hs2' : ¬ s2.toList = [] := fun e => hs2 ((Scu.size_zero_iff _).1 (htn.out.1 e))
        have hs2b : s2.toList.isEmpty = false := by simpa using hs2'
        have hr : Scu.decode s = (Scu.req0, 4) := by rw [HD.out, if_neg (by simp), if_neg (by simp), if_pos hs2]
        have HR := Lib.hid hr
        clear hr hs2
        go_wp2
        refine bodyPost_ret (v := .tuple #[.agg #[.int .i64 0, .int .i64 0, .int .i64 0, .int .i64 0, .int .i64 0, .string ⟨#[]⟩], .int .i64 4]) (by simp [results, Try.results78, go_sem, u0, u1, u2, u3, u4, u5]) rfl ?_
        exact ⟨by rw [HR.out]; rfl, below_set6 (hB2.setCell (by simp) _) (Nat.le_refl _)⟩
    · have hb2 : (e2 != 0) = true := by simpa using he2
      have hr : Scu.decode s = (Scu.req0, e2) := by rw [HD.out, if_neg (by simp), if_pos he2]
      have HR := Lib.hid hr
      clear hr he2
      go_wp2
      refine bodyPost_ret (v := .tuple #[.agg #[.int .i64 0, .int .i64 0, .int .i64 0, .int .i64 0, .int .i64 0, .string ⟨#[]⟩], .int .i64 e2]) (by simp [results, Try.results78, go_sem, u0, u1, u2, u3, u4, u5]) rfl ?_
      exact ⟨by rw [HR.out]; rfl, below_set6 (hB2.setCell (by simp) _) (Nat.le_refl _)⟩
  · have hb1 : (e1 != 0) = true := by simpa using he1
    have hr : Scu.decode s = (Scu.req0, e1) := by rw [HD.out, if_pos he1]
    have HR := Lib.hid hr
    clear hr he1
    go_wp2
    have hblk1 := (((Blk.new w 104 #[.int .i64 0, .int .i64 0, .int .i64 0, .int .i64 0, .int .i64 0, .string ⟨#[]⟩]).alloc (Obj.cells #[.int .i64 (Scu.byteAt s 0), .int .i64 0, .int .i64 (Scu.byteAt s 1), .int .i64 (Scu.byteAt s 2), .int .i64 (Scu.byteAt s 3), .string ⟨#[]⟩] 104)).drew).same h1
    have u0 := hblk1.cell 0
    have u1 := hblk1.cell 1
    have u2 := hblk1.cell 2
    have u3 := hblk1.cell 3
    have u4 := hblk1.cell 4
    have u5 := hblk1.cell 5
    simp only [List.getElem?_toArray, List.getElem?_cons_zero, List.getElem?_cons_succ] at u0 u1 u2 u3 u4 u5
    refine bodyPost_ret (v := .tuple #[.agg #[.int .i64 0, .int .i64 0, .int .i64 0, .int .i64 0, .int .i64 0, .string ⟨#[]⟩], .int .i64 e1]) (by simp [results, Try.results78, go_sem, u0, u1, u2, u3, u4, u5]) rfl ?_
    exact ⟨by rw [HR.out]; rfl, below_set6 (hB0.setCell (by simp) _) (Nat.le_refl _)⟩
end Go.Proofs.Ytioajgcbchdpeaa

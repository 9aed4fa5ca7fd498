/- Part 5: words and walks under the law 'ReplicaTicks'. -/
import Derived.Test.YtjbhkmadcjnbfaaPart4
import Derived.Test.YtjbhkmadcjnbfaaPart2
set_option linter.unusedVariables false
set_option linter.unusedSimpArgs false
/- Walks: a request as an entry, and back. -/
namespace Go.Proofs.Ytjbhkmadcjnbfaa
open Go.RowKit
attribute [local go_sem] byteAt_get
set_option maxHeartbeats 4000000
set_option maxRecDepth 100000

theorem head_eq (a b c d : Int) (a0 : 0 ≤ a) (a1 : a < 256) (b0 : 0 ≤ b) (b1 : b < 256) (c0 : 0 ≤ c) (c1 : c < 256) (d0 : 0 ≤ d) (d1 : d < 256) :
    strOfNums [a, b, c, d] = ⟨#[Scu.b8 a, Scu.b8 b, Scu.b8 c, Scu.b8 d]⟩ := by
  unfold strOfNums
  simp only [List.map_cons, List.map_nil]
  rw [b8_low a0 a1, b8_low b0 b1, b8_low c0 c1, b8_low d0 d1]

theorem readNumber_err (s : Scu.Str) (h : (Scu.readNumber s).2.2 ≠ 0) : (Scu.readNumber s).1 = 0 ∧ (Scu.readNumber s).2.1 = Scu.str0 := by
  unfold Scu.readNumber at h ⊢
  split
  · exact ⟨rfl, rfl⟩
  split
  · exact ⟨rfl, rfl⟩
  · rename_i h1 h2; rw [if_neg h1, if_neg h2] at h; exact absurd rfl h
theorem readNumber_size (s : Scu.Str) : (Scu.readNumber s).2.1.size ≤ s.size := by
  unfold Scu.readNumber
  split
  · exact Nat.zero_le _
  split
  · exact Nat.zero_le _
  · show (Scu.dropS s 4).size ≤ s.size
    unfold Scu.dropS
    rw [ByteArray.size_extract]
    omega
def zReq : Value := .agg #[.int .i64 0, .int .i64 0, .int .i64 0, .int .i64 0, .int .i64 0, .string ⟨#[]⟩]
theorem below_set6 {B g : Nat} {w w1 : World} {a b c d e f : Value} (h : Below B w w1) (hg : B ≤ g) :
    Below B w ((((((w1.setCell ⟨g, 0, none⟩ a).setCell ⟨g, 1, none⟩ b).setCell ⟨g, 2, none⟩ c).setCell ⟨g, 3, none⟩ d).setCell ⟨g, 4, none⟩ e).setCell ⟨g, 5, none⟩ f) :=
  (((((h.setCell (p := ⟨g, 0, none⟩) hg _).setCell (p := ⟨g, 1, none⟩) hg _).setCell (p := ⟨g, 2, none⟩) hg _).setCell (p := ⟨g, 3, none⟩) hg _).setCell (p := ⟨g, 4, none⟩) hg _).setCell (p := ⟨g, 5, none⟩) hg _
theorem decode_c (s : ByteArray) (w : World) :
    Calls Try.prog 47 #[.string s] w fun e w' =>
      e = .returned (.tuple #[vRequest (Scu.decode s).1, .int .i64 (Scu.decode s).2]) ∧ Below w.heap.size w w' := by
  by_cases h40 : 40 < s.size
  · have hs : Scu.decode s = (Scu.req0, 1) := if_pos h40
    rw [hs]
    have h' : (40 : Int) < s.size := by omega
    clear hs h40
    go_enter Try.func47, Try.ntmps47
    go_wp2
    go_returns
    exact ⟨rfl, (Below.refl _ _).alloc (Nat.le_refl _) _⟩
  by_cases h4 : s.size < 4
  · have hs : Scu.decode s = (Scu.req0, 5) := by unfold Scu.decode; rw [if_neg h40, if_pos h4]
    rw [hs]
    have h' : (s.size : Int) < 4 := by omega
    clear hs h40 h4
    go_enter Try.func47, Try.ntmps47
    go_wp2
    go_returns
    exact ⟨rfl, (Below.refl _ _).alloc (Nat.le_refl _) _⟩
  have g40 : (s.size : Int) ≤ 40 := by omega
  have g4 : (4 : Int) ≤ s.size := by omega
  have g0 : (0 : Int) < s.size := by omega
  have g1 : (1 : Int) < s.size := by omega
  have g2 : (2 : Int) < s.size := by omega
  have g3 : (3 : Int) < s.size := by omega
  obtain ⟨a0, a1⟩ := byteAt_rng s 0
  obtain ⟨b0, b1⟩ := byteAt_rng s 1
  obtain ⟨c0, c1⟩ := byteAt_rng s 2
  obtain ⟨d0, d1⟩ := byteAt_rng s 3
  generalize hq1 : Scu.readNumber (Scu.dropS s 4) = q1
  obtain ⟨n, s1, e1⟩ := q1
  generalize hq2 : Scu.readText s1 = q2
  obtain ⟨d, s2, e2⟩ := q2
  have hd0 : Scu.decode s = if e1 ≠ 0 then (Scu.req0, e1) else if e2 ≠ 0 then (Scu.req0, e2) else
    if s2 ≠ Scu.str0 then (Scu.req0, 4) else if Scu.reqFault ⟨Scu.byteAt s 0, n, ⟨Scu.byteAt s 1, Scu.byteAt s 2, Scu.byteAt s 3, d⟩⟩ ≠ 0 then
      (Scu.req0, Scu.reqFault ⟨Scu.byteAt s 0, n, ⟨Scu.byteAt s 1, Scu.byteAt s 2, Scu.byteAt s 3, d⟩⟩) else (⟨Scu.byteAt s 0, n, ⟨Scu.byteAt s 1, Scu.byteAt s 2, Scu.byteAt s 3, d⟩⟩, 0) := by
    unfold Scu.decode; rw [if_neg h40, if_neg h4]; simp only [hq1, hq2]
  have hs1 : s1.size ≤ maxLen := by
    have h1 := readNumber_size (Scu.dropS s 4)
    rw [hq1] at h1
    have h2 : (Scu.dropS s 4).size ≤ s.size := by unfold Scu.dropS; rw [ByteArray.size_extract]; omega
    unfold maxLen
    simp only at h1
    omega
  have k1 : ∀ w, Calls Try.prog 60 #[.string (s.extract 4 s.size)] w fun e w' => e = .returned (.tuple #[.int .i64 n, .string s1, .int .i64 e1]) ∧ Below w.heap.size w w' := fun w => by
    have := readNumber_c (s.extract 4 s.size) w
    rw [show Scu.readNumber (s.extract 4 s.size) = (n, s1, e1) from hq1] at this
    exact this
  have k2 : ∀ w, Calls Try.prog 61 #[.string s1] w fun e w' => e = .returned (.tuple #[.string d, .string s2, .int .i64 e2]) ∧ Below w.heap.size w w' := fun w => by
    have := readText_c s1 w hs1
    rw [hq2] at this
    exact this
  have K1 := Lib.hid k1
  have K2 := Lib.hid k2
  have HD := Lib.hid hd0
  have htn := Lib.hid (toList_eq_nil s2)
  clear hd0 h40 h4 hq1 hq2 k1 k2 hs1
  go_enter Try.func47, Try.ntmps47
  go_wp2_with fail
  go_region
  go_wp2_with fail
  refine (K1.out _).mono ?_; rintro e w1 ⟨rfl, h1⟩
  obtain ⟨hc, hz⟩ := bcell h1
  have hsz : w.heap.size + 1 < w1.heap.size := by have := h1.size; simp at this; omega
  have hsz' : w.heap.size < w1.heap.size := by omega
  have hB0 : Below w.heap.size w w1 := (((Below.refl _ _).alloc (Nat.le_refl _) _).alloc (by simp) _).drew.trans (h1.mono (by simp; omega))
  by_cases he1 : e1 = 0
  · subst he1
    go_wp2_with fail
    refine (K2.out _).mono ?_; rintro e w2 ⟨rfl, h2⟩
    obtain ⟨hc2, hz2⟩ := bcell h2
    have hsz2 : w.heap.size + 1 < w2.heap.size := by have := h2.size; simp at this; omega
    have hsz2' : w.heap.size < w2.heap.size := by omega
    have hB2 : Below w.heap.size w w2 := (hB0.setCell (by simp) _).trans (h2.mono (by simp; omega))
    have hblk2 := ((((((Blk.new w 63 #[.int .i64 0, .int .i64 0, .int .i64 0, .int .i64 0, .int .i64 0, .string ⟨#[]⟩]).alloc (Obj.cells #[.int .i64 (Scu.byteAt s 0), .int .i64 0, .int .i64 (Scu.byteAt s 1), .int .i64 (Scu.byteAt s 2), .int .i64 (Scu.byteAt s 3), .string ⟨#[]⟩] 63)).drew).same h1).far (p := ⟨w.heap.size + 1, 1, none⟩) (by simp) (.int .i64 n)).same h2)
    have u0 := hblk2.cell 0
    have u1 := hblk2.cell 1
    have u2 := hblk2.cell 2
    have u3 := hblk2.cell 3
    have u4 := hblk2.cell 4
    have u5 := hblk2.cell 5
    simp only [List.getElem?_toArray, List.getElem?_cons_zero, List.getElem?_cons_succ] at u0 u1 u2 u3 u4 u5
    have HB2 := Lib.hid hblk2
    clear hblk2
    by_cases he2 : e2 = 0
    · subst he2
      by_cases hs2 : s2 = Scu.str0
      · have hs2' : s2.toList = [] := htn.out.2 (by rw [hs2]; rfl)
        have HS2 := Lib.hid hs2
        clear hs2
        go_wp2_with fail
        refine (checkRequest_c ⟨Scu.byteAt s 0, n, ⟨Scu.byteAt s 1, Scu.byteAt s 2, Scu.byteAt s 3, d⟩⟩ _).mono ?_; rintro e w3 ⟨rfl, h3⟩
        obtain ⟨hc3, hz3⟩ := bcell h3
        have hsz3 : w.heap.size + 1 < w3.heap.size := by have := h3.size; simp at this; omega
        have hsz3' : w.heap.size < w3.heap.size := by omega
        have hB3 : Below w.heap.size w w3 := (hB2.setCell (by simp) _).trans (h3.mono (by simp; omega))
        have hblk3 := (HB2.out.far (p := ⟨w.heap.size + 1, 5, none⟩) (by simp) (.string d)).same h3
        have y0 := hblk3.cell 0
        have y1 := hblk3.cell 1
        have y2 := hblk3.cell 2
        have y3 := hblk3.cell 3
        have y4 := hblk3.cell 4
        have y5 := hblk3.cell 5
        simp only [List.getElem?_toArray, List.getElem?_cons_zero, List.getElem?_cons_succ] at y0 y1 y2 y3 y4 y5
        have HB3 := Lib.hid hblk3
        clear hblk3
        by_cases hf : Scu.reqFault ⟨Scu.byteAt s 0, n, ⟨Scu.byteAt s 1, Scu.byteAt s 2, Scu.byteAt s 3, d⟩⟩ = 0
        · have hr : Scu.decode s = (⟨Scu.byteAt s 0, n, ⟨Scu.byteAt s 1, Scu.byteAt s 2, Scu.byteAt s 3, d⟩⟩, 0) := by
            rw [HD.out, if_neg (by simp), if_neg (by simp), if_neg (by simp [HS2.out]), if_neg (by simp [hf])]
          have HR := Lib.hid hr
          have hfb : (Scu.reqFault ⟨Scu.byteAt s 0, n, ⟨Scu.byteAt s 1, Scu.byteAt s 2, Scu.byteAt s 3, d⟩⟩ != 0) = false := by simpa using hf
          clear hr hf
          go_wp2
          refine bodyPost_ret (v := .tuple #[.agg #[.int .i64 (Scu.byteAt s 0), .int .i64 n, .int .i64 (Scu.byteAt s 1), .int .i64 (Scu.byteAt s 2), .int .i64 (Scu.byteAt s 3), .string d], .int .i64 0]) (by simp [results, Try.results47, go_sem, y0, y1, y2, y3, y4, y5]) rfl ?_
          exact ⟨by rw [HR.out]; rfl, below_set6 hB3 (Nat.le_refl _)⟩
        · have hr : Scu.decode s = (Scu.req0, Scu.reqFault ⟨Scu.byteAt s 0, n, ⟨Scu.byteAt s 1, Scu.byteAt s 2, Scu.byteAt s 3, d⟩⟩) := by
            rw [HD.out, if_neg (by simp), if_neg (by simp), if_neg (by simp [HS2.out]), if_pos hf]
          have HR := Lib.hid hr
          have hfb : (Scu.reqFault ⟨Scu.byteAt s 0, n, ⟨Scu.byteAt s 1, Scu.byteAt s 2, Scu.byteAt s 3, d⟩⟩ != 0) = true := by simpa using hf
          clear hr hf
          go_wp2
          refine bodyPost_ret (v := .tuple #[.agg #[.int .i64 0, .int .i64 0, .int .i64 0, .int .i64 0, .int .i64 0, .string ⟨#[]⟩], .int .i64 (Scu.reqFault ⟨Scu.byteAt s 0, n, ⟨Scu.byteAt s 1, Scu.byteAt s 2, Scu.byteAt s 3, d⟩⟩)]) (by simp [results, Try.results47, go_sem, y0, y1, y2, y3, y4, y5]) rfl ?_
          exact ⟨by rw [HR.out]; rfl, below_set6 hB3 (Nat.le_refl _)⟩
      · have hs2' : ¬ s2.toList = [] := fun e => hs2 ((Scu.size_zero_iff _).1 (htn.out.1 e))
        have hs2b : s2.toList.isEmpty = false := by simpa using hs2'
        have hr : Scu.decode s = (Scu.req0, 4) := by rw [HD.out, if_neg (by simp), if_neg (by simp), if_pos hs2]
        have HR := Lib.hid hr
        clear hr hs2
        go_wp2
        refine bodyPost_ret (v := .tuple #[.agg #[.int .i64 0, .int .i64 0, .int .i64 0, .int .i64 0, .int .i64 0, .string ⟨#[]⟩], .int .i64 4]) (by simp [results, Try.results47, go_sem, u0, u1, u2, u3, u4, u5]) rfl ?_
        exact ⟨by rw [HR.out]; rfl, below_set6 (hB2.setCell (by simp) _) (Nat.le_refl _)⟩
    · have hb2 : (e2 != 0) = true := by simpa using he2
      have hr : Scu.decode s = (Scu.req0, e2) := by rw [HD.out, if_neg (by simp), if_pos he2]
      have HR := Lib.hid hr
      clear hr he2
      go_wp2
      refine bodyPost_ret (v := .tuple #[.agg #[.int .i64 0, .int .i64 0, .int .i64 0, .int .i64 0, .int .i64 0, .string ⟨#[]⟩], .int .i64 e2]) (by simp [results, Try.results47, go_sem, u0, u1, u2, u3, u4, u5]) rfl ?_
      exact ⟨by rw [HR.out]; rfl, below_set6 (hB2.setCell (by simp) _) (Nat.le_refl _)⟩
  · have hb1 : (e1 != 0) = true := by simpa using he1
    have hr : Scu.decode s = (Scu.req0, e1) := by rw [HD.out, if_pos he1]
    have HR := Lib.hid hr
    clear hr he1
    go_wp2
    have hblk1 := (((Blk.new w 63 #[.int .i64 0, .int .i64 0, .int .i64 0, .int .i64 0, .int .i64 0, .string ⟨#[]⟩]).alloc (Obj.cells #[.int .i64 (Scu.byteAt s 0), .int .i64 0, .int .i64 (Scu.byteAt s 1), .int .i64 (Scu.byteAt s 2), .int .i64 (Scu.byteAt s 3), .string ⟨#[]⟩] 63)).drew).same h1
    have u0 := hblk1.cell 0
    have u1 := hblk1.cell 1
    have u2 := hblk1.cell 2
    have u3 := hblk1.cell 3
    have u4 := hblk1.cell 4
    have u5 := hblk1.cell 5
    simp only [List.getElem?_toArray, List.getElem?_cons_zero, List.getElem?_cons_succ] at u0 u1 u2 u3 u4 u5
    refine bodyPost_ret (v := .tuple #[.agg #[.int .i64 0, .int .i64 0, .int .i64 0, .int .i64 0, .int .i64 0, .string ⟨#[]⟩], .int .i64 e1]) (by simp [results, Try.results47, go_sem, u0, u1, u2, u3, u4, u5]) rfl ?_
    exact ⟨by rw [HR.out]; rfl, below_set6 (hB0.setCell (by simp) _) (Nat.le_refl _)⟩
end Go.Proofs.Ytjbhkmadcjnbfaa
/- Walk: the document's answer on an entry's bytes. -/
namespace Go.Proofs.Ytjbhkmadcjnbfaa
open Go.RowKit
attribute [local go_sem] byteAt_get
set_option maxHeartbeats 4000000
set_option maxRecDepth 100000
theorem entryOf_c (s : ByteArray) (w : World) :
    Calls Try.prog 32 #[.string s] w fun e w' =>
      e = .returned (.tuple #[vRequest (Scu.decode s).1, .int .i64 (Scu.decode s).2]) ∧ Below w.heap.size w w' := by
  by_cases h40 : 40 < s.size
  · have hs : Scu.decode s = (Scu.req0, 1) := if_pos h40
    rw [hs]
    have h' : (40 : Int) < s.size := by omega
    clear hs h40
    go_enter Try.func32, Try.ntmps32
    go_wp2
    go_returns
    exact ⟨rfl, (Below.refl _ _).alloc (Nat.le_refl _) _⟩
  by_cases h4 : s.size < 4
  · have hs : Scu.decode s = (Scu.req0, 5) := by unfold Scu.decode; rw [if_neg h40, if_pos h4]
    rw [hs]
    have h' : (s.size : Int) < 4 := by omega
    clear hs h40 h4
    go_enter Try.func32, Try.ntmps32
    go_wp2
    go_returns
    exact ⟨rfl, (Below.refl _ _).alloc (Nat.le_refl _) _⟩
  have g40 : (s.size : Int) ≤ 40 := by omega
  have g4 : (4 : Int) ≤ s.size := by omega
  have g0 : (0 : Int) < s.size := by omega
  have g1 : (1 : Int) < s.size := by omega
  have g2 : (2 : Int) < s.size := by omega
  have g3 : (3 : Int) < s.size := by omega
  obtain ⟨a0, a1⟩ := byteAt_rng s 0
  obtain ⟨b0, b1⟩ := byteAt_rng s 1
  obtain ⟨c0, c1⟩ := byteAt_rng s 2
  obtain ⟨d0, d1⟩ := byteAt_rng s 3
  generalize hq1 : Scu.readNumber (Scu.dropS s 4) = q1
  obtain ⟨n, s1, e1⟩ := q1
  generalize hq2 : Scu.readText s1 = q2
  obtain ⟨d, s2, e2⟩ := q2
  have hd0 : Scu.decode s = if e1 ≠ 0 then (Scu.req0, e1) else if e2 ≠ 0 then (Scu.req0, e2) else
    if s2 ≠ Scu.str0 then (Scu.req0, 4) else if Scu.reqFault ⟨Scu.byteAt s 0, n, ⟨Scu.byteAt s 1, Scu.byteAt s 2, Scu.byteAt s 3, d⟩⟩ ≠ 0 then
      (Scu.req0, Scu.reqFault ⟨Scu.byteAt s 0, n, ⟨Scu.byteAt s 1, Scu.byteAt s 2, Scu.byteAt s 3, d⟩⟩) else (⟨Scu.byteAt s 0, n, ⟨Scu.byteAt s 1, Scu.byteAt s 2, Scu.byteAt s 3, d⟩⟩, 0) := by
    unfold Scu.decode; rw [if_neg h40, if_neg h4]; simp only [hq1, hq2]
  have hs1 : s1.size ≤ maxLen := by
    have h1 := readNumber_size (Scu.dropS s 4)
    rw [hq1] at h1
    have h2 : (Scu.dropS s 4).size ≤ s.size := by unfold Scu.dropS; rw [ByteArray.size_extract]; omega
    unfold maxLen
    simp only at h1
    omega
  have k1 : ∀ w, Calls Try.prog 48 #[.string (s.extract 4 s.size)] w fun e w' => e = .returned (.tuple #[.int .i64 n, .string s1, .int .i64 e1]) ∧ Below w.heap.size w w' := fun w => by
    have := numberOf_c (s.extract 4 s.size) w
    rw [show Scu.readNumber (s.extract 4 s.size) = (n, s1, e1) from hq1] at this
    exact this
  have k2 : ∀ w, Calls Try.prog 49 #[.string s1] w fun e w' => e = .returned (.tuple #[.string d, .string s2, .int .i64 e2]) ∧ Below w.heap.size w w' := fun w => by
    have := textOf_c s1 w hs1
    rw [hq2] at this
    exact this
  have K1 := Lib.hid k1
  have K2 := Lib.hid k2
  have HD := Lib.hid hd0
  have htn := Lib.hid (toList_eq_nil s2)
  clear hd0 h40 h4 hq1 hq2 k1 k2 hs1
  go_enter Try.func32, Try.ntmps32
  go_wp2_with fail
  refine (K1.out _).mono ?_; rintro e w1 ⟨rfl, h1⟩
  obtain ⟨hc, hz⟩ := bcell h1
  have hsz : w.heap.size + 1 < w1.heap.size := by have := h1.size; simp at this; omega
  have hsz' : w.heap.size < w1.heap.size := by omega
  have hB0 : Below w.heap.size w w1 := (((Below.refl _ _).alloc (Nat.le_refl _) _).alloc (by simp) _).trans (h1.mono (by simp; omega))
  by_cases he1 : e1 = 0
  · subst he1
    go_wp2_with fail
    refine (K2.out _).mono ?_; rintro e w2 ⟨rfl, h2⟩
    obtain ⟨hc2, hz2⟩ := bcell h2
    have hsz2 : w.heap.size + 1 < w2.heap.size := by have := h2.size; omega
    have hsz2' : w.heap.size < w2.heap.size := by omega
    have hB2 : Below w.heap.size w w2 := hB0.trans (h2.mono (by omega))
    have hblk2 := ((((Blk.new w 63 #[.int .i64 0, .int .i64 0, .int .i64 0, .int .i64 0, .int .i64 0, .string ⟨#[]⟩]).alloc (Obj.cells #[.int .i64 (Scu.byteAt s 0), .int .i64 0, .int .i64 (Scu.byteAt s 1), .int .i64 (Scu.byteAt s 2), .int .i64 (Scu.byteAt s 3), .string ⟨#[]⟩] 63)).same h1).same h2)
    have u0 := hblk2.cell 0
    have u1 := hblk2.cell 1
    have u2 := hblk2.cell 2
    have u3 := hblk2.cell 3
    have u4 := hblk2.cell 4
    have u5 := hblk2.cell 5
    simp only [List.getElem?_toArray, List.getElem?_cons_zero, List.getElem?_cons_succ] at u0 u1 u2 u3 u4 u5
    have HB2 := Lib.hid hblk2
    clear hblk2
    by_cases he2 : e2 = 0
    · subst he2
      by_cases hs2 : s2 = Scu.str0
      · have hs2' : s2.toList = [] := htn.out.2 (by rw [hs2]; rfl)
        have HS2 := Lib.hid hs2
        clear hs2
        go_wp2_with fail
        refine (requestFault_c ⟨Scu.byteAt s 0, n, ⟨Scu.byteAt s 1, Scu.byteAt s 2, Scu.byteAt s 3, d⟩⟩ _).mono ?_; rintro e w3 ⟨rfl, h3⟩
        obtain ⟨hc3, hz3⟩ := bcell h3
        have hsz3 : w.heap.size + 1 < w3.heap.size := by have := h3.size; simp at this; omega
        have hsz3' : w.heap.size < w3.heap.size := by omega
        have hB3 : Below w.heap.size w w3 := ((hB2.setCell (p := ⟨w.heap.size + 1, 1, none⟩) (by simp) _).setCell (p := ⟨w.heap.size + 1, 5, none⟩) (by simp) _).trans (h3.mono (by simp; omega))
        have hblk3 := ((HB2.out.far (p := ⟨w.heap.size + 1, 1, none⟩) (by simp) (.int .i64 n)).far (p := ⟨w.heap.size + 1, 5, none⟩) (by simp) (.string d)).same h3
        have y0 := hblk3.cell 0
        have y1 := hblk3.cell 1
        have y2 := hblk3.cell 2
        have y3 := hblk3.cell 3
        have y4 := hblk3.cell 4
        have y5 := hblk3.cell 5
        simp only [List.getElem?_toArray, List.getElem?_cons_zero, List.getElem?_cons_succ] at y0 y1 y2 y3 y4 y5
        have HB3 := Lib.hid hblk3
        clear hblk3
        by_cases hf : Scu.reqFault ⟨Scu.byteAt s 0, n, ⟨Scu.byteAt s 1, Scu.byteAt s 2, Scu.byteAt s 3, d⟩⟩ = 0
        · have hr : Scu.decode s = (⟨Scu.byteAt s 0, n, ⟨Scu.byteAt s 1, Scu.byteAt s 2, Scu.byteAt s 3, d⟩⟩, 0) := by
            rw [HD.out, if_neg (by simp), if_neg (by simp), if_neg (by simp [HS2.out]), if_neg (by simp [hf])]
          have HR := Lib.hid hr
          have hfb : (Scu.reqFault ⟨Scu.byteAt s 0, n, ⟨Scu.byteAt s 1, Scu.byteAt s 2, Scu.byteAt s 3, d⟩⟩ != 0) = false := by simpa using hf
          clear hr hf
          go_wp2
          refine bodyPost_ret (v := .tuple #[.agg #[.int .i64 (Scu.byteAt s 0), .int .i64 n, .int .i64 (Scu.byteAt s 1), .int .i64 (Scu.byteAt s 2), .int .i64 (Scu.byteAt s 3), .string d], .int .i64 0]) (by simp [results, Try.results32, go_sem, y0, y1, y2, y3, y4, y5]) rfl ?_
          exact ⟨by rw [HR.out]; rfl, below_set6 hB3 (Nat.le_refl _)⟩
        · have hr : Scu.decode s = (Scu.req0, Scu.reqFault ⟨Scu.byteAt s 0, n, ⟨Scu.byteAt s 1, Scu.byteAt s 2, Scu.byteAt s 3, d⟩⟩) := by
            rw [HD.out, if_neg (by simp), if_neg (by simp), if_neg (by simp [HS2.out]), if_pos hf]
          have HR := Lib.hid hr
          have hfb : (Scu.reqFault ⟨Scu.byteAt s 0, n, ⟨Scu.byteAt s 1, Scu.byteAt s 2, Scu.byteAt s 3, d⟩⟩ != 0) = true := by simpa using hf
          clear hr hf
          go_wp2
          refine bodyPost_ret (v := .tuple #[.agg #[.int .i64 0, .int .i64 0, .int .i64 0, .int .i64 0, .int .i64 0, .string ⟨#[]⟩], .int .i64 (Scu.reqFault ⟨Scu.byteAt s 0, n, ⟨Scu.byteAt s 1, Scu.byteAt s 2, Scu.byteAt s 3, d⟩⟩)]) (by simp [results, Try.results32, go_sem, y0, y1, y2, y3, y4, y5]) rfl ?_
          exact ⟨by rw [HR.out]; rfl, below_set6 hB3 (Nat.le_refl _)⟩
      · have hs2' : ¬ s2.toList = [] := fun e => hs2 ((Scu.size_zero_iff _).1 (htn.out.1 e))
        have hs2b : s2.toList.isEmpty = false := by simpa using hs2'
        have hr : Scu.decode s = (Scu.req0, 4) := by rw [HD.out, if_neg (by simp), if_neg (by simp), if_pos hs2]
        have HR := Lib.hid hr
        clear hr hs2
        go_wp2
        refine bodyPost_ret (v := .tuple #[.agg #[.int .i64 0, .int .i64 0, .int .i64 0, .int .i64 0, .int .i64 0, .string ⟨#[]⟩], .int .i64 4]) (by simp [results, Try.results32, go_sem, u0, u1, u2, u3, u4, u5]) rfl ?_
        exact ⟨by rw [HR.out]; rfl, below_set6 hB2 (Nat.le_refl _)⟩
    · have hb2 : (e2 != 0) = true := by simpa using he2
      have hr : Scu.decode s = (Scu.req0, e2) := by rw [HD.out, if_neg (by simp), if_pos he2]
      have HR := Lib.hid hr
      clear hr he2
      go_wp2
      refine bodyPost_ret (v := .tuple #[.agg #[.int .i64 0, .int .i64 0, .int .i64 0, .int .i64 0, .int .i64 0, .string ⟨#[]⟩], .int .i64 e2]) (by simp [results, Try.results32, go_sem, u0, u1, u2, u3, u4, u5]) rfl ?_
      exact ⟨by rw [HR.out]; rfl, below_set6 hB2 (Nat.le_refl _)⟩
  · have hb1 : (e1 != 0) = true := by simpa using he1
    have hr : Scu.decode s = (Scu.req0, e1) := by rw [HD.out, if_pos he1]
    have HR := Lib.hid hr
    clear hr he1
    go_wp2
    have hblk1 := ((Blk.new w 63 #[.int .i64 0, .int .i64 0, .int .i64 0, .int .i64 0, .int .i64 0, .string ⟨#[]⟩]).alloc (Obj.cells #[.int .i64 (Scu.byteAt s 0), .int .i64 0, .int .i64 (Scu.byteAt s 1), .int .i64 (Scu.byteAt s 2), .int .i64 (Scu.byteAt s 3), .string ⟨#[]⟩] 63)).same h1
    have u0 := hblk1.cell 0
    have u1 := hblk1.cell 1
    have u2 := hblk1.cell 2
    have u3 := hblk1.cell 3
    have u4 := hblk1.cell 4
    have u5 := hblk1.cell 5
    simp only [List.getElem?_toArray, List.getElem?_cons_zero, List.getElem?_cons_succ] at u0 u1 u2 u3 u4 u5
    refine bodyPost_ret (v := .tuple #[.agg #[.int .i64 0, .int .i64 0, .int .i64 0, .int .i64 0, .int .i64 0, .string ⟨#[]⟩], .int .i64 e1]) (by simp [results, Try.results32, go_sem, u0, u1, u2, u3, u4, u5]) rfl ?_
    exact ⟨by rw [HR.out]; rfl, below_set6 hB0 (Nat.le_refl _)⟩
end Go.Proofs.Ytjbhkmadcjnbfaa
/- Walks: what may be kept, its copies, and whether it is the same; the laws StageCopies and StageChecks. -/
namespace Go.Proofs.Ytjbhkmadcjnbfaa
open Go.RowKit Go.ChangeShapes Go.WideShapes Go.ChangeAt
set_option maxHeartbeats 400000
set_option maxRecDepth 100000

def vKept (lv : Value) (k : Scu.Kept) : Value := .agg #[.int .i64 k.view, .int .i64 k.normal, .bool k.calm, lv, .int .i64 k.commit]
theorem cells_kept : Try.prog.cellsOf 24 = 5 := by kernel_rfl
theorem bytes_kept : Try.prog.bytesOf 24 = 56 := by kernel_rfl
def KeptEl (w : World) (B : Nat) (cs : List Value) (k : Scu.Kept) : Prop := ∃ lv, cs = [.int .i64 k.view, .int .i64 k.normal, .bool k.calm, lv, .int .i64 k.commit] ∧ IsStrs w B lv k.log
section
variable {H : Type} {enc : TypeId × Value → H} {w : World} {base : Nat} {spare : Nat → Bool} {held : Bool} {n : Nat}
theorem trod_kept {cs : List Value} {x : DataW H × List MemPlace} (h : DataW.trod enc Try.prog w base spare held n 24 cs = some x) (hw : ∀ k ∈ x.1.weights Try.prog 24, k ≤ reachBytes) : ∃ k, KeptEl w w.heap.size cs k := by
  obtain ⟨xs, m, _, hxe, hl, hxl, hf⟩ := DataW.trod_struct Try.underlying24 h
  rw [cells_kept] at hl
  match cs, hl with
  | [c0, c1, c2, c3, c4], _ =>
    have hxl5 : xs.length = 5 := hxl
    match xs, hxl5 with
    | [z0, z1, z2, z3, z4], _ =>
      subst hxe
      have hwt : ∀ k ∈ DataW.weights Try.prog 24 (DataW.agg [z0.1, z1.1, z2.1, z3.1, z4.1]), k ≤ reachBytes := hw
      simp only [DataW.weights, Try.underlying24, DataW.weightsEach, List.map_cons, List.map_nil, List.mem_append] at hwt
      obtain ⟨n0, h0, _⟩ := DataW.trod_int Try.underlying3 (hf 0 _ rfl)
      obtain ⟨n1, h1, _⟩ := DataW.trod_int Try.underlying3 (hf 1 _ rfl)
      obtain ⟨b2, h2, _⟩ := DataW.trod_bool Try.underlying4 (hf 2 _ rfl)
      obtain ⟨n4, h4, _⟩ := DataW.trod_int Try.underlying3 (hf 4 _ rfl)
      have h3 := hf 3 _ rfl
      simp [cells_int, cells_bool, cells_strs] at h0 h1 h2 h3 h4
      subst h0 h1 h2 h4
      obtain ⟨ls, h3'⟩ := trod_strs h3 (fun k hk => hwt k (.inr (.inr (.inr (.inl hk)))))
      exact ⟨⟨n0, n1, b2, ls, n4⟩, c3, rfl, h3'⟩
def IsKeptV (w : World) (v : Value) (x : Scu.Kept) : Prop := ∃ lv, v = .agg #[.int .i64 x.view, .int .i64 x.normal, .bool x.calm, lv, .int .i64 x.commit] ∧ IsStrs w w.heap.size lv x.log
theorem openS_Kept {v : Value} {d : DataW H} {p : List MemPlace} {b0 : Nat} (hv : Value.okWide Try.prog w .any b0 24 v) (h : DataW.Trod enc Try.prog w base spare held 24 v d p)
    (hw : ∀ k ∈ d.weights Try.prog 24, k ≤ reachBytes) : ∃ y, IsKeptV w v y := by
  obtain ⟨cs, rfl, _⟩ := okWide_struct Try.underlying24 hv
  obtain ⟨fuel, hf⟩ := h
  obtain ⟨k, lv, e, hy⟩ := trod_kept hf hw
  refine ⟨k, lv, ?_, hy⟩
  have : cs = #[.int .i64 k.view, .int .i64 k.normal, .bool k.calm, lv, .int .i64 k.commit] := by
    apply Array.toList_inj.1
    simpa [Value.cells] using e
  rw [this]
end

/- what may be kept -/
theorem kept_bad2 {k : Scu.Kept} (h : k.view < 0 ∨ 1048576 < k.view ∨ k.normal < 0 ∨ k.view < k.normal ∨ (k.calm = true ∧ k.normal ≠ k.view)) : Scu.keptFault k = 2 := if_pos h
theorem kept_ok2 {k : Scu.Kept} (h1 : ¬ k.view < 0) (h2 : ¬ 1048576 < k.view) (h3 : ¬ k.normal < 0) (h4 : ¬ k.view < k.normal) (h5 : k.calm = false ∨ k.normal = k.view) :
    ¬ (k.view < 0 ∨ 1048576 < k.view ∨ k.normal < 0 ∨ k.view < k.normal ∨ (k.calm = true ∧ k.normal ≠ k.view)) := by
  rintro (h | h | h | h | ⟨h, h'⟩)
  · exact h1 h
  · exact h2 h
  · exact h3 h
  · exact h4 h
  · rcases h5 with h5 | h5
    · rw [h] at h5; cases h5
    · exact h' h5
theorem kept_rest {k : Scu.Kept} (h : ¬ (k.view < 0 ∨ 1048576 < k.view ∨ k.normal < 0 ∨ k.view < k.normal ∨ (k.calm = true ∧ k.normal ≠ k.view))) :
    Scu.keptFault k = if 60 < k.log.length then 1 else if k.commit < 0 ∨ (k.log.length : Int) < k.commit then 2 else Scu.logFault k.log := if_neg h
theorem log_next {l : List Scu.Str} {k : Nat} (h : k < l.length) : Scu.logFault (l.drop k) = if (Scu.decode l[k]).2 ≠ 0 then (Scu.decode l[k]).2 else Scu.logFault (l.drop (k + 1)) := by
  rw [List.drop_eq_getElem_cons h]
  rfl
theorem decode_a (s : ByteArray) (w : World) (r : Scu.Request) (c : Int) (h : Scu.decode s = (r, c)) :
    Calls Try.prog 47 #[.string s] w fun e w' => e = .returned (.tuple #[.agg #[.int .i64 r.client, .int .i64 r.num, .int .i64 r.op.kind, .int .i64 r.op.at_, .int .i64 r.op.snap, .string r.op.data], .int .i64 c]) ∧ Below w.heap.size w w' := by
  have := decode_c s w
  rw [h] at this
  exact this
theorem entryOf_a (s : ByteArray) (w : World) (r : Scu.Request) (c : Int) (h : Scu.decode s = (r, c)) :
    Calls Try.prog 32 #[.string s] w fun e w' => e = .returned (.tuple #[.agg #[.int .i64 r.client, .int .i64 r.num, .int .i64 r.op.kind, .int .i64 r.op.at_, .int .i64 r.op.snap, .string r.op.data], .int .i64 c]) ∧ Below w.heap.size w w' := by
  have := entryOf_c s w
  rw [h] at this
  exact this

theorem stageCheck_x (lv : Value) (vi no : Int) (ca : Bool) (lo : List Scu.Str) (co : Int) (w : World) (B : Nat) (hv : IsStrs w B lv lo) :
    Calls Try.prog 31 #[.agg #[.int .i64 vi, .int .i64 no, .bool ca, lv, .int .i64 co]] w fun e w' => e = .returned (.int .i64 (Scu.keptFault ⟨vi, no, ca, lo, co⟩)) ∧ Below w.heap.size w w' := by
  obtain ⟨⟨A, c, rfl, _, hr⟩, hl, he⟩ := hv
  have HDEC := Lib.hid (fun (s : ByteArray) (W : World) => decode_a s W)
  unfold R47 at hl he
  cases t1 : decide (vi < 0) with
  | true =>
    have HF := Lib.hid (show Scu.keptFault ⟨vi, no, ca, lo, co⟩ = 2 from kept_bad2 (.inl (of_decide_eq_true t1)))
    clear hr hl he HDEC
    try clear hrest
    go_enter Try.func31, Try.ntmps31
    go_wp2
    go_ret
    exact ⟨ret_val (int_eq HF.out.symm), (Below.refl _ _).alloc (Nat.le_refl _) _⟩
  | false =>
  cases t2 : decide ((1048576 : Int) < vi) with
  | true =>
    have HF := Lib.hid (show Scu.keptFault ⟨vi, no, ca, lo, co⟩ = 2 from kept_bad2 (.inr (.inl (of_decide_eq_true t2))))
    clear hr hl he HDEC
    try clear hrest
    go_enter Try.func31, Try.ntmps31
    go_wp2
    go_ret
    exact ⟨ret_val (int_eq HF.out.symm), (Below.refl _ _).alloc (Nat.le_refl _) _⟩
  | false =>
  cases t3 : decide (no < 0) with
  | true =>
    have HF := Lib.hid (show Scu.keptFault ⟨vi, no, ca, lo, co⟩ = 2 from kept_bad2 (.inr (.inr (.inl (of_decide_eq_true t3)))))
    clear hr hl he HDEC
    try clear hrest
    go_enter Try.func31, Try.ntmps31
    go_wp2
    go_ret
    exact ⟨ret_val (int_eq HF.out.symm), (Below.refl _ _).alloc (Nat.le_refl _) _⟩
  | false =>
  cases t4 : decide (vi < no) with
  | true =>
    have HF := Lib.hid (show Scu.keptFault ⟨vi, no, ca, lo, co⟩ = 2 from kept_bad2 (.inr (.inr (.inr (.inl (of_decide_eq_true t4))))))
    clear hr hl he HDEC
    try clear hrest
    go_enter Try.func31, Try.ntmps31
    go_wp2
    go_ret
    exact ⟨ret_val (int_eq HF.out.symm), (Below.refl _ _).alloc (Nat.le_refl _) _⟩
  | false =>
  have H5 : (ca = true ∧ (no != vi) = true) ∨ ((ca = false ∨ (ca = true ∧ (no != vi) = false))) := by
    cases ca <;> cases (no != vi) <;> simp
  rcases H5 with ⟨rfl, t6⟩ | H5
  · have HF := Lib.hid (show Scu.keptFault ⟨vi, no, true, lo, co⟩ = 2 from kept_bad2 (.inr (.inr (.inr (.inr ⟨rfl, by simpa using t6⟩)))))
    clear hr hl he HDEC
    try clear hrest
    go_enter Try.func31, Try.ntmps31
    go_wp2
    go_ret
    exact ⟨ret_val (int_eq HF.out.symm), (Below.refl _ _).alloc (Nat.le_refl _) _⟩
  have hrest : Scu.keptFault ⟨vi, no, ca, lo, co⟩ = if 60 < lo.length then 1 else if co < 0 ∨ (lo.length : Int) < co then 2 else Scu.logFault lo := kept_rest (k := ⟨vi, no, ca, lo, co⟩) (kept_ok2 (of_decide_eq_false t1) (of_decide_eq_false t2) (of_decide_eq_false t3) (of_decide_eq_false t4) (H5.imp id (fun h => by simpa using h.2)))
  cases t7 : decide ((60 : Int) < (lo.length : Int)) with
  | true =>
    rcases H5 with rfl | ⟨rfl, t6⟩
    · have HF := Lib.hid (show Scu.keptFault ⟨vi, no, false, lo, co⟩ = 1 from by rw [hrest, if_pos (by have := of_decide_eq_true t7; omega)])
      clear hr hl he HDEC
      try clear hrest
      go_enter Try.func31, Try.ntmps31
      go_wp2
      go_ret
      exact ⟨ret_val (int_eq HF.out.symm), (Below.refl _ _).alloc (Nat.le_refl _) _⟩
    · have HF := Lib.hid (show Scu.keptFault ⟨vi, no, true, lo, co⟩ = 1 from by rw [hrest, if_pos (by have := of_decide_eq_true t7; omega)])
      clear hr hl he HDEC
      try clear hrest
      go_enter Try.func31, Try.ntmps31
      go_wp2
      go_ret
      exact ⟨ret_val (int_eq HF.out.symm), (Below.refl _ _).alloc (Nat.le_refl _) _⟩
  | false =>
  rw [if_neg (by have := of_decide_eq_false t7; omega)] at hrest
  cases t8 : decide (co < 0) with
  | true =>
    rcases H5 with rfl | ⟨rfl, t6⟩
    · have HF := Lib.hid (show Scu.keptFault ⟨vi, no, false, lo, co⟩ = 2 from by rw [hrest, if_pos (.inl (of_decide_eq_true t8))])
      clear hr hl he HDEC
      try clear hrest
      go_enter Try.func31, Try.ntmps31
      go_wp2
      go_ret
      exact ⟨ret_val (int_eq HF.out.symm), (Below.refl _ _).alloc (Nat.le_refl _) _⟩
    · have HF := Lib.hid (show Scu.keptFault ⟨vi, no, true, lo, co⟩ = 2 from by rw [hrest, if_pos (.inl (of_decide_eq_true t8))])
      clear hr hl he HDEC
      try clear hrest
      go_enter Try.func31, Try.ntmps31
      go_wp2
      go_ret
      exact ⟨ret_val (int_eq HF.out.symm), (Below.refl _ _).alloc (Nat.le_refl _) _⟩
  | false =>
  cases t9 : decide ((lo.length : Int) < co) with
  | true =>
    rcases H5 with rfl | ⟨rfl, t6⟩
    · have HF := Lib.hid (show Scu.keptFault ⟨vi, no, false, lo, co⟩ = 2 from by rw [hrest, if_pos (.inr (of_decide_eq_true t9))])
      clear hr hl he HDEC
      try clear hrest
      go_enter Try.func31, Try.ntmps31
      go_wp2
      go_ret
      exact ⟨ret_val (int_eq HF.out.symm), (Below.refl _ _).alloc (Nat.le_refl _) _⟩
    · have HF := Lib.hid (show Scu.keptFault ⟨vi, no, true, lo, co⟩ = 2 from by rw [hrest, if_pos (.inr (of_decide_eq_true t9))])
      clear hr hl he HDEC
      try clear hrest
      go_enter Try.func31, Try.ntmps31
      go_wp2
      go_ret
      exact ⟨ret_val (int_eq HF.out.symm), (Below.refl _ _).alloc (Nat.le_refl _) _⟩
  | false =>
  rw [if_neg (by have := of_decide_eq_false t8; have := of_decide_eq_false t9; omega)] at hrest
  have HF := Lib.hid hrest
  have HE := Lib.hid he
  clear hrest he
  rcases H5 with rfl | ⟨rfl, t6⟩
  all_goals
    go_enter Try.func31, Try.ntmps31
    go_wp2
    go_loopw [56] (fun i wr => ∃ j : Nat, j ≤ lo.length ∧ i = .int .i64 j ∧ Hid (Scu.logFault lo = Scu.logFault (lo.drop j)) ∧ Below w.heap.size w wr) (fun i _ => lo.length - (intOf i).toNat)
    case atStart => exact ⟨0, Nat.zero_le _, rfl, by simp [Hid], (Below.refl _ _).alloc (Nat.le_refl _) _⟩
    case round =>
      obtain ⟨j, hj, rfl, ht, hbw⟩ := hrel
      have hrw := hr.below hbw
      have hbs := hbw.size
      by_cases hlt : j < lo.length
      · have hlt' : (j : Int) < (lo.length : Int) := by omega
        obtain ⟨g, o, rfl, hg, hc⟩ := str_get hrw hlt
        have hn := log_next hlt
        generalize hd : Scu.decode lo[j] = q at hn
        obtain ⟨r, cd⟩ := q
        have HD := Lib.hid hd
        clear hd
        cases hx : (cd != 0)
        · have hcd : cd = 0 := by simpa using hx
          have HX := Lib.hid (show Scu.logFault lo = Scu.logFault (lo.drop (j + 1)) by rw [ht.out, hn, if_neg (by simpa using hcd)])
          clear hn hcd
          go_wp2_with fail
          refine (HDEC.out _ _ _ _ HD.out).mono ?_; rintro e w1 ⟨rfl, h1⟩
          go_wp2
          have hb1 := hbw.trans (h1.mono hbs)
          have HB1 := Lib.hid hb1
          clear hb1
          go_roundw
          case rel =>
            refine ⟨j + 1, hlt, by go_num, HX, ?_⟩
            exact (HB1.out.alloc HB1.out.size _)
          case measure => simp only [intOf]; omega
        · have hcd : cd ≠ 0 := by simpa using hx
          have HX := Lib.hid (show Scu.keptFault ⟨vi, no, _, lo, co⟩ = cd by rw [HF.out, ht.out, hn, if_pos hcd])
          clear hn hcd
          go_wp2_with fail
          refine (HDEC.out _ _ _ _ HD.out).mono ?_; rintro e w1 ⟨rfl, h1⟩
          go_wp2
          go_ret
          refine ⟨ret_val (int_eq HX.out.symm), ?_⟩
          have hb1 := hbw.trans (h1.mono hbs)
          exact (hb1.alloc hb1.size _)
      · have hlt' : (lo.length : Int) ≤ (j : Int) := by omega
        have HX := Lib.hid (show Scu.keptFault ⟨vi, no, _, lo, co⟩ = 0 by rw [HF.out, ht.out, List.drop_of_length_le (by omega)]; rfl)
        go_wp2
        go_ret
        exact ⟨ret_val (int_eq HX.out.symm), hbw⟩
theorem stageCheck_c (lv : Value) (k : Scu.Kept) (w : World) (B : Nat) (hv : IsStrs w B lv k.log) :
    Calls Try.prog 31 #[.agg #[.int .i64 k.view, .int .i64 k.normal, .bool k.calm, lv, .int .i64 k.commit]] w fun e w' => e = .returned (.int .i64 (Scu.keptFault k)) ∧ Below w.heap.size w w' :=
  stageCheck_x lv k.view k.normal k.calm k.log k.commit w B hv
end Go.Proofs.Ytjbhkmadcjnbfaa

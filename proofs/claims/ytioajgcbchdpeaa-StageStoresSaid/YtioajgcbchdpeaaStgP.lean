/- Plain: what the loops of stage.Encode and stage.Decode have written and read so far. -/
import Derived.Test.YtioajgcbchdpeaaCodec
namespace Scu
def encN (k : Kept) (gen : Int) (j : Nat) : Str := catS (((nums k gen).take j).map numBytes)
theorem encN_zero (k : Kept) (gen : Int) : encN k gen 0 = str0 := rfl
theorem catS_one (s : Str) : catS [s] = s := append_str0 s
theorem encN_succ {k : Kept} {gen : Int} {j : Nat} (h : j < (nums k gen).length) : encN k gen (j + 1) = encN k gen j ++ numBytes (nums k gen)[j] := by
  unfold encN
  rw [List.take_succ_eq_append_getElem h, List.map_append, catS_append, List.map_singleton, catS_one]
theorem nums_len (k : Kept) (gen : Int) : (nums k gen).length = 6 := rfl
theorem encN_size (k : Kept) (gen : Int) (j : Nat) : (encN k gen j).size ≤ 24 := by
  unfold encN
  rw [catS_nums_size, List.length_take, nums_len]
  omega
def encT (k : Kept) (gen : Int) (j : Nat) : Str := encN k gen 6 ++ catS ((k.log.take j).map textBytes)
theorem encT_zero (k : Kept) (gen : Int) : encT k gen 0 = encN k gen 6 := append_str0 _
theorem encT_succ {k : Kept} {gen : Int} {j : Nat} (h : j < k.log.length) : encT k gen (j + 1) = encT k gen j ++ textBytes k.log[j] := by
  unfold encT
  rw [List.take_succ_eq_append_getElem h, List.map_append, catS_append, List.map_singleton, catS_one, append_assoc_s]
theorem encT_all (k : Kept) (gen : Int) : encT k gen k.log.length = keptBody k gen := by
  unfold encT encN
  rw [keptBody_eq, List.take_length, List.take_of_length_le (by rw [nums_len]; omega)]
theorem encT_size {k : Kept} (h : keptFault k = 0) (gen : Int) (j : Nat) : (encT k gen j).size ≤ 2484 := by
  have h1 := encN_size k gen 6
  have h2 := catS_texts_size (k.log.take j) (fun s hs => log_small h s (List.mem_of_mem_take hs))
  have h3 := (keptFault_ok h).2.2.2.2.2.1
  have h4 : (k.log.take j).length ≤ k.log.length := by rw [List.length_take]; omega
  unfold encT
  rw [ByteArray.size_append]
  omega
theorem log_at {k : Kept} (h : keptFault k = 0) {j : Nat} (hj : j < k.log.length) : k.log[j].size ≤ 40 := log_small h _ (List.getElem_mem hj)

/- reading -/
section
variable {α : Type}
def glue (xs : List α) (q : List α × Str × Int) : List α × Str × Int := if q.2.2 ≠ 0 then ([], str0, q.2.2) else (xs ++ q.1, q.2.1, 0)
theorem glue_bad (xs : List α) (q : List α × Str × Int) (h : q.2.2 ≠ 0) : glue xs q = ([], str0, q.2.2) := if_pos h
theorem glue_glue (xs ys : List α) (q : List α × Str × Int) : glue xs (glue ys q) = glue (xs ++ ys) q := by
  unfold glue
  by_cases h : q.2.2 = 0
  · simp [h]
  · simp [h]
theorem glue_done (xs : List α) (s : Str) : glue xs ([], s, 0) = (xs, s, 0) := by simp [glue]
end
theorem readNumbers_bad {n : Nat} {s : Str} (h : (readNumber s).2.2 ≠ 0) : readNumbers (n + 1) s = ([], str0, (readNumber s).2.2) := by
  unfold readNumbers
  simp only
  rw [if_pos h]
theorem readNumbers_more {n : Nat} {s : Str} (h : (readNumber s).2.2 = 0) : readNumbers (n + 1) s = glue [(readNumber s).1] (readNumbers n (readNumber s).2.1) := by
  conv => lhs; unfold readNumbers
  simp only
  rw [if_neg (by simp [h])]
  rfl
theorem readTexts_bad {n : Nat} {s : Str} (h : (readText s).2.2 ≠ 0) : readTexts (n + 1) s = ([], str0, (readText s).2.2) := by
  unfold readTexts
  simp only
  rw [if_pos h]
theorem readTexts_more {n : Nat} {s : Str} (h : (readText s).2.2 = 0) : readTexts (n + 1) s = glue [(readText s).1] (readTexts n (readText s).2.1) := by
  conv => lhs; unfold readTexts
  simp only
  rw [if_neg (by simp [h])]
  rfl
theorem nil_glue (n : Nat) (s : Str) : readNumbers n s = glue [] (readNumbers n s) := by
  by_cases h : (readNumbers n s).2.2 = 0
  · unfold glue
    rw [if_neg (by simp [h])]
    rw [List.nil_append, ← h]
  · rw [glue_bad _ _ h]
    cases n with
    | zero => exact absurd rfl h
    | succ n =>
      by_cases hr : (readNumber s).2.2 = 0
      · rw [readNumbers_more hr] at h ⊢
        by_cases hq : (readNumbers n (readNumber s).2.1).2.2 = 0
        · exact absurd (by unfold glue; rw [if_neg (by simp [hq])]) h
        · rw [glue_bad _ _ hq]
      · rw [readNumbers_bad hr]
theorem nil_glueT (n : Nat) (s : Str) : readTexts n s = glue [] (readTexts n s) := by
  by_cases h : (readTexts n s).2.2 = 0
  · unfold glue
    rw [if_neg (by simp [h])]
    rw [List.nil_append, ← h]
  · rw [glue_bad _ _ h]
    cases n with
    | zero => exact absurd rfl h
    | succ n =>
      by_cases hr : (readText s).2.2 = 0
      · rw [readTexts_more hr] at h ⊢
        by_cases hq : (readTexts n (readText s).2.1).2.2 = 0
        · exact absurd (by unfold glue; rw [if_neg (by simp [hq])]) h
        · rw [glue_bad _ _ hq]
      · rw [readTexts_bad hr]
theorem rn_rng {s : Str} (h : (readNumber s).2.2 = 0) : 0 ≤ (readNumber s).1 ∧ (readNumber s).1 ≤ 1073741824 := by
  unfold readNumber at h ⊢
  split at h
  · cases h
  · split at h
    · cases h
    · rename_i h1 h2
      rw [if_neg h1, if_neg h2]
      have := num4_range s
      constructor
      · exact this.1
      · show num4 s ≤ 1073741824
        omega
theorem rn_size (s : Str) : (readNumber s).2.1.size ≤ s.size := by
  unfold readNumber
  split
  · exact Nat.zero_le _
  split
  · exact Nat.zero_le _
  · show (dropS s 4).size ≤ s.size
    unfold dropS
    rw [ByteArray.size_extract]
    omega
theorem rt_size (s : Str) : (readText s).2.1.size ≤ s.size ∧ (readText s).1.size ≤ s.size := by
  unfold readText
  split
  · exact ⟨Nat.zero_le _, Nat.zero_le _⟩
  split
  · exact ⟨Nat.zero_le _, Nat.zero_le _⟩
  · refine ⟨?_, ?_⟩
    · show (dropS s _).size ≤ s.size
      unfold dropS
      rw [ByteArray.size_extract]
      omega
    · show (s.extract 1 _).size ≤ s.size
      rw [ByteArray.size_extract]
      omega
section
variable {s : Str}
theorem dec1 (h : 4000 < s.size) : stageDecode s = (kept0, 0, 1) := if_pos h
theorem dec2 (h : s.size < 4) : stageDecode s = (kept0, 0, 5) := by unfold stageDecode; rw [if_neg (by omega), if_pos h]
theorem dec3 (h1 : ¬ 4000 < s.size) (h2 : ¬ s.size < 4) (h : sealS (dropS s 4) ≠ s.extract 0 4) : stageDecode s = (kept0, 0, 11) := by unfold stageDecode; rw [if_neg h1, if_neg h2, if_pos h]
theorem dec4 (h1 : ¬ 4000 < s.size) (h2 : ¬ s.size < 4) (h3 : ¬ sealS (dropS s 4) ≠ s.extract 0 4) {e : Int} (h : readNumbers 6 (dropS s 4) = ([], str0, e)) (he : e ≠ 0) : stageDecode s = (kept0, 0, e) := by
  unfold stageDecode
  rw [if_neg h1, if_neg h2, if_neg h3]
  simp only [h]
  rw [if_pos he]
theorem dec5 (h1 : ¬ 4000 < s.size) (h2 : ¬ s.size < 4) (h3 : ¬ sealS (dropS s 4) ≠ s.extract 0 4) {a b c d e f : Int} {t : Str} (h : readNumbers 6 (dropS s 4) = ([a, b, c, d, e, f], t, 0)) :
    stageDecode s = if 1 < d ∨ 60 < f then (kept0, 0, 4) else if (readTexts f.toNat t).2.2 ≠ 0 then (kept0, 0, (readTexts f.toNat t).2.2) else if (readTexts f.toNat t).2.1 ≠ str0 then (kept0, 0, 4) else
      if keptFault ⟨b, c, d == 1, (readTexts f.toNat t).1, e⟩ ≠ 0 then (kept0, 0, keptFault ⟨b, c, d == 1, (readTexts f.toNat t).1, e⟩) else (⟨b, c, d == 1, (readTexts f.toNat t).1, e⟩, a, 0) := by
  unfold stageDecode
  rw [if_neg h1, if_neg h2, if_neg h3]
  simp only [h]
  rfl
end
end Scu

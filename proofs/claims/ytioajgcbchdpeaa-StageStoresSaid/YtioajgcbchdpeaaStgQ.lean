/- Plain: what a slot that is read yields; the newest of both slots; what is stored. -/
import Derived.Test.YtioajgcbchdpeaaStgP
namespace Scu

theorem readNumber_rng {s : Str} (h : (readNumber s).2.2 = 0) : 0 ≤ (readNumber s).1 ∧ (readNumber s).1 ≤ 1073741824 := by
  unfold readNumber at h ⊢
  split
  · rename_i hx; rw [if_pos hx] at h; simp at h
  rename_i hx; rw [if_neg hx] at h
  split
  · rename_i hx; rw [if_pos hx] at h; simp at h
  · have := num4_range s
    exact ⟨this.1, by show num4 s ≤ _; omega⟩
theorem readNumbers_rng : ∀ (n : Nat) (s : Str), (readNumbers n s).2.2 = 0 → ∀ x ∈ (readNumbers n s).1, 0 ≤ x ∧ x ≤ 1073741824
  | 0, s, _, x, hx => by simp [readNumbers] at hx
  | n + 1, s, h, x, hx => by
    unfold readNumbers at h hx
    simp only [] at h hx
    by_cases h1 : (readNumber s).2.2 ≠ 0
    · rw [if_pos h1] at h; exact absurd h h1
    rw [if_neg h1] at h hx
    by_cases h2 : (readNumbers n (readNumber s).2.1).2.2 ≠ 0
    · rw [if_pos h2] at h; exact absurd h h2
    rw [if_neg h2] at hx
    rcases List.mem_cons.1 hx with rfl | hx
    · exact readNumber_rng (by omega)
    · exact readNumbers_rng n _ (by omega) x hx
theorem stageDecode_ok {s : Str} {k : Kept} {g : Int} (h : stageDecode s = (k, g, 0)) : keptFault k = 0 ∧ 0 ≤ g ∧ g ≤ 1073741824 := by
  unfold stageDecode at h
  split at h
  · simp at h
  split at h
  · simp at h
  split at h
  · simp at h
  simp only [] at h
  split at h
  · rename_i hx; simp only [Prod.mk.injEq] at h; omega
  rename_i hn
  split at h
  · simp at h
  split at h
  · rename_i hx; simp only [Prod.mk.injEq] at h; omega
  split at h
  · simp at h
  split at h
  · rename_i hx; simp only [Prod.mk.injEq] at h; omega
  rename_i hk
  simp only [Prod.mk.injEq] at h
  obtain ⟨rfl, rfl, _⟩ := h
  refine ⟨by omega, ?_⟩
  have hr := readNumbers_rng 6 (dropS s 4) (by omega)
  rcases Nat.lt_or_ge 0 (readNumbers 6 (dropS s 4)).1.length with hl | hl
  · rw [List.getD_eq_getElem?_getD, List.getElem?_eq_getElem hl]
    exact hr _ (List.getElem_mem hl)
  · rw [List.getD_eq_getElem?_getD, List.getElem?_eq_none hl]
    simp


/- loading -/
theorem load_len {l : List Str} (h : l.length ≠ 2) : load l = (kept0, 0, 0, 4) := if_pos h
theorem load_two {a b : Str} {ka kb : Kept} {ga gb ea eb : Int} (da : stageDecode a = (ka, ga, ea)) (db : stageDecode b = (kb, gb, eb)) :
    load [a, b] = if ea ≠ 0 ∧ eb ≠ 0 then (kept0, 0, 0, 13) else if ea ≠ 0 ∨ (eb = 0 ∧ ga < gb) then (kb, gb, 1, 0) else (ka, ga, 0, 0) := by
  unfold load
  rw [if_neg (by simp)]
  simp only [List.getD_cons_zero, List.getD_cons_succ, da, db]
/-- The best of the slots so far: what is kept, its generation, where it lies. -/
def better2 (q : Kept × Int × Int) (d : Kept × Int × Int) (j : Int) : Kept × Int × Int := if d.2.2 = 0 ∧ q.2.1 < d.2.1 then (d.1, d.2.1, j) else q
def best0 : Kept × Int × Int := (kept0, -1, 0)
def bestJ (l : List Str) : Nat → Kept × Int × Int
  | 0 => best0
  | j + 1 => better2 (bestJ l j) (stageDecode (l.getD j str0)) j
theorem bestJ_next {l : List Str} {j : Nat} (hj : j < l.length) {k : Kept} {g e : Int} (d : stageDecode l[j] = (k, g, e)) : bestJ l (j + 1) = if e = 0 ∧ (bestJ l j).2.1 < g then (k, g, (j : Int)) else bestJ l j := by
  show better2 (bestJ l j) (stageDecode (l.getD j str0)) j = _
  rw [List.getD_eq_getElem?_getD, List.getElem?_eq_getElem hj, Option.getD_some, d]
  rfl
theorem load_best {l : List Str} (h : l.length = 2) : load l = if (bestJ l 2).2.1 < 0 then (kept0, 0, 0, 13) else ((bestJ l 2).1, (bestJ l 2).2.1, (bestJ l 2).2.2, 0) := by
  match l, h with
  | [a, b], _ =>
    generalize da : stageDecode a = qa
    generalize db : stageDecode b = qb
    obtain ⟨ka, ga, ea⟩ := qa
    obtain ⟨kb, gb, eb⟩ := qb
    rw [load_two da db]
    have e1 : bestJ [a, b] 1 = if ea = 0 ∧ (-1 : Int) < ga then (ka, ga, 0) else best0 := bestJ_next (l := [a, b]) (j := 0) (by simp) da
    have e2 : bestJ [a, b] 2 = if eb = 0 ∧ (bestJ [a, b] 1).2.1 < gb then (kb, gb, 1) else bestJ [a, b] 1 := bestJ_next (l := [a, b]) (j := 1) (by simp) db
    by_cases ha : ea = 0
    · subst ha
      have hga := (stageDecode_ok da).2.1
      rw [if_pos ⟨rfl, by omega⟩] at e1
      rw [e1] at e2
      by_cases hb : eb = 0
      · subst hb
        have hgb := (stageDecode_ok db).2.1
        by_cases hlt : ga < gb
        · rw [if_pos ⟨rfl, hlt⟩] at e2
          rw [e2, if_neg (by simp), if_pos (.inr ⟨rfl, hlt⟩), if_neg (by show ¬ gb < 0; omega)]
        · rw [if_neg (by rintro ⟨_, h⟩; exact hlt h)] at e2
          rw [e2, if_neg (by simp), if_neg (by rintro (h | ⟨_, h⟩) <;> omega), if_neg (by show ¬ ga < 0; omega)]
      · rw [if_neg (by rintro ⟨h, _⟩; exact hb h)] at e2
        rw [e2, if_neg (by simp), if_neg (by rintro (h | ⟨h, _⟩); exact h rfl; exact hb h), if_neg (by show ¬ ga < 0; omega)]
    · rw [if_neg (by rintro ⟨h, _⟩; exact ha h)] at e1
      rw [e1] at e2
      by_cases hb : eb = 0
      · subst hb
        have hgb := (stageDecode_ok db).2.1
        rw [if_pos ⟨rfl, by show (-1 : Int) < gb; omega⟩] at e2
        rw [e2, if_neg (by simp), if_pos (.inl ha), if_neg (by show ¬ gb < 0; omega)]
      · rw [if_neg (by rintro ⟨h, _⟩; exact hb h)] at e2
        rw [e2, if_pos ⟨ha, hb⟩, if_pos (by show (-1 : Int) < 0; omega)]
theorem load_at {l : List Str} {k : Kept} {g a : Int} (h : load l = (k, g, a, 0)) : l.length = 2 ∧ (a = 0 ∨ a = 1) ∧ 0 ≤ g ∧ g ≤ 1073741824 := by
  by_cases hl : l.length = 2
  · match l, hl with
    | [x, y], _ =>
      generalize da : stageDecode x = qa at *
      generalize db : stageDecode y = qb at *
      obtain ⟨ka, ga, ea⟩ := qa
      obtain ⟨kb, gb, eb⟩ := qb
      rw [load_two da db] at h
      refine ⟨rfl, ?_⟩
      split at h
      · simp at h
      split at h
      · rename_i h1 h2
        simp only [Prod.mk.injEq] at h
        obtain ⟨rfl, rfl, rfl, _⟩ := h
        have : eb = 0 := by
          rcases h2 with h2 | h2
          · exact Decidable.byContradiction (fun hb => h1 ⟨h2, hb⟩)
          · exact h2.1
        subst this
        have := stageDecode_ok db
        exact ⟨.inr rfl, this.2⟩
      · rename_i h1 h2
        simp only [Prod.mk.injEq] at h
        obtain ⟨rfl, rfl, rfl, _⟩ := h
        have : ea = 0 := Decidable.byContradiction (fun ha => h2 (.inl ha))
        subst this
        have := stageDecode_ok da
        exact ⟨.inl rfl, this.2⟩
  · rw [load_len hl] at h
    simp at h
end Scu

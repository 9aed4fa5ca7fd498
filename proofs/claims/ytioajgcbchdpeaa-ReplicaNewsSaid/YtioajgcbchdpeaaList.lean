/- Words for memory: what stays as it was; rows of things that have several cells; how such arguments are opened. -/
import Derived.Test.YtioajgcbchdpeaaVolR
namespace Go.Proofs.Ytioajgcbchdpeaa
open Go.RowKit Go.ChangeShapes Go.WideShapes Go.ChangeAt
set_option maxHeartbeats 400000
set_option maxRecDepth 100000

/-- Old blocks below B, and those whose elements are of one of these types, are as they were. -/
structure Same (Ts : List TypeId) (B : Nat) (w w' : World) : Prop where
  size : w.heap.size ≤ w'.heap.size
  keep : ∀ g, g < w.heap.size → (g < B ∨ ∃ C fz t, t ∈ Ts ∧ w.heap[g]? = some (.cells C t fz)) → w'.heap[g]? = w.heap[g]?
section
variable {Ts Ts' : List TypeId} {B B' : Nat} {w w' w2 : World}
theorem Same.refl (Ts : List TypeId) (B : Nat) (w : World) : Same Ts B w w := ⟨Nat.le_refl _, fun _ _ _ => rfl⟩
theorem Same.trans (h : Same Ts B w w') (k : Same Ts B w' w2) : Same Ts B w w2 :=
  ⟨Nat.le_trans h.size k.size, fun g hg hh => by
    have e := h.keep g hg hh
    rw [← e]
    refine k.keep g (Nat.lt_of_lt_of_le hg h.size) ?_
    rw [e]; exact hh⟩
theorem Same.mono (h : Same Ts B w w') (hT : ∀ t ∈ Ts', t ∈ Ts) (hB : B' ≤ B) : Same Ts' B' w w' :=
  ⟨h.size, fun g hg hh => h.keep g hg (hh.imp (fun h => Nat.lt_of_lt_of_le h hB) fun ⟨C, fz, t, ht, e⟩ => ⟨C, fz, t, hT t ht, e⟩)⟩
theorem Same.below (h : Below w.heap.size w w') : Same Ts B w w' := ⟨h.size, fun g hg _ => h.block g hg⟩
theorem Same.drew (w : World) : Same Ts B w w.drew := ⟨Nat.le_refl _, fun _ _ _ => rfl⟩
theorem Same.drewN (w : World) (n : Nat) : Same Ts B w (w.drewN n) := ⟨Nat.le_refl _, fun _ _ _ => rfl⟩
theorem Same.alloc (w : World) (o : Obj) : Same Ts B w (w.alloc o) := ⟨by simp, fun g hg _ => Below.heap_alloc w o g hg⟩
theorem Same.setCell {p : Addr} {C : Array Value} {t' : TypeId} {fz : Nat × Nat} (hp : w.heap[p.block]? = some (.cells C t' fz)) (hB : B ≤ p.block) (ht : t' ∉ Ts) (u : Value) : Same Ts B w (w.setCell p u) :=
  ⟨by simp [World.setCell], fun g _ hh => Below.heap_setCell w p u g (by
    rintro rfl
    rcases hh with hh | ⟨C', fz', t, ht', hh⟩
    · omega
    · rw [hp] at hh; cases hh; exact ht ht')⟩
theorem Same.set_ {g : Nat} {cs : Array Value} {t' : TypeId} (hp : Blk w g t' cs) (hB : B ≤ g) (ht : t' ∉ Ts) (i : Nat) (u : Value) : Same Ts B w (w.setCell ⟨g, i, none⟩ u) := Same.setCell (p := ⟨g, i, none⟩) (C := cs) (fz := (0, 0)) hp hB ht u
theorem Same.grown {row : Option Nat} (hg : w.grownBy w' row) (hr : ∀ g, row = some g → B ≤ g ∧ ∃ C fz t', t' ∉ Ts ∧ w.heap[g]? = some (.cells C t' fz)) : Same Ts B w w' :=
  ⟨hg.size, fun g hlt hh => hg.block g hlt fun e => by
    obtain ⟨h1, C, fz, t', h2, h3⟩ := hr g e.symm
    rcases hh with hh | ⟨C', fz', t, ht', hh⟩
    · omega
    · rw [h3] at hh; cases hh; exact h2 ht'⟩
theorem Same.own {base : Nat} {e : TypeId} {size n : Nat} {v : Value} {xs : List Value} (h : w.ownsRow base e size v n xs) (hg : w.grownBy w' v.ownBlock) (hB : B ≤ base) (ht : e ∉ Ts) : Same Ts B w w' :=
  Same.grown hg fun g hv => by
    obtain ⟨C, fz, hh⟩ := own_kind h hv
    have := (h.lt g hv).1
    exact ⟨by omega, C, fz, e, ht, hh⟩
theorem Rd.same {t : TypeId} {A : Option Addr} {cs : List Value} (h : Rd w B t A cs) (ht : t ∈ Ts) (hs : Same Ts B w w') : Rd w' B t A cs :=
  h.keep hs.size fun g hg hh => hs.keep g hg (hh.imp id fun ⟨C, fz, e⟩ => ⟨C, fz, t, ht, e⟩)
theorem IsStrs.same {v : Value} {xs : List Scu.Str} (h : IsStrs w B v xs) (ht : 9 ∈ Ts) (hs : Same Ts B w w') : IsStrs w' B v xs :=
  h.keep hs.size fun g hg hh => hs.keep g hg (hh.imp id fun ⟨C, fz, e⟩ => ⟨C, fz, _, ht, e⟩)
end

/-- A row of things of one cell. -/
structure IsOnes {α : Type} (t : TypeId) (bytes : Nat) (f : α → Value) (w : World) (B : Nat) (v : Value) (xs : List α) : Prop where
  ex : ∃ A c, v = .slice A xs.length c ∧ xs.length ≤ c ∧ Rd w B t A (xs.map f)
  len : xs.length * bytes ≤ R47
section
variable {α : Type} {t : TypeId} {bytes : Nat} {f : α → Value} {w w' : World} {B B' : Nat} {v : Value} {xs : List α} {Ts : List TypeId}
theorem IsOnes.same (h : IsOnes t bytes f w B v xs) (ht : t ∈ Ts) (hs : Same Ts B w w') : IsOnes t bytes f w' B v xs := ⟨let ⟨A, c, h1, h2, h3⟩ := h.ex; ⟨A, c, h1, h2, h3.same ht hs⟩, h.len⟩
theorem IsOnes.below (h : IsOnes t bytes f w B v xs) (hb : Below w.heap.size w w') : IsOnes t bytes f w' B v xs := h.same (Ts := [t]) (by simp) (Same.below hb)
theorem IsOnes.drewN (h : IsOnes t bytes f w B v xs) (n : Nat) : IsOnes t bytes f (w.drewN n) B v xs := ⟨h.ex, h.len⟩
theorem IsOnes.alloc (h : IsOnes t bytes f w B v xs) (o : Obj) : IsOnes t bytes f (w.alloc o) B v xs := h.same (Ts := [t]) (by simp) (Same.alloc w o)
theorem IsOnes.mono (h : IsOnes t bytes f w B v xs) (hB : B ≤ B') : IsOnes t bytes f w B' v xs := ⟨let ⟨A, c, h1, h2, h3⟩ := h.ex; ⟨A, c, h1, h2, h3.mono hB⟩, h.len⟩
theorem IsOnes.form (h : IsOnes t bytes f w B v xs) : ∃ A n c, v = .slice A n c := by
  obtain ⟨A, c, e, _⟩ := h.ex
  exact ⟨A, _, c, e⟩
theorem ones_get {A : Option Addr} {k : Nat} (h : Rd w B t A (xs.map f)) (hk : k < xs.length) : ∃ g o, A = some ⟨g, o, none⟩ ∧ g < w.heap.size ∧ w.cell? ⟨g, o + k, none⟩ = some (f xs[k]) := h.get (by simp [hk])
end

/-- A row of things of m cells: El says what the cells of one tell. -/
structure IsRow {α : Type} (t : TypeId) (m bytes : Nat) (El : World → Nat → List Value → α → Prop) (w : World) (B : Nat) (v : Value) (xs : List α) : Prop where
  ex : ∃ (A : Option Addr) (c : Nat) (css : List (List Value)), v = .slice A xs.length c ∧ xs.length ≤ c ∧ css.length = xs.length ∧ (∀ cs ∈ css, cs.length = m) ∧ Rd w B t A css.flatten ∧
    ∀ (j : Nat) (cs : List Value) (x : α), css[j]? = some cs → xs[j]? = some x → El w B cs x
  len : xs.length * bytes ≤ R47
theorem flatten_get {m : Nat} : ∀ {css : List (List Value)} (_ : ∀ cs ∈ css, cs.length = m) {k : Nat} {cs : List Value}, css[k]? = some cs → ∀ j, j < m → css.flatten[k * m + j]? = cs[j]?
  | [], _, k, cs, hk, _, _ => by simp at hk
  | c :: css, h, 0, cs, hk, j, hj => by
    simp only [List.getElem?_cons_zero, Option.some.injEq] at hk
    subst hk
    rw [List.flatten_cons, Nat.zero_mul, Nat.zero_add, List.getElem?_append_left (by rw [h c List.mem_cons_self]; exact hj)]
  | c :: css, h, k + 1, cs, hk, j, hj => by
    have hc := h c List.mem_cons_self
    rw [List.flatten_cons, List.getElem?_append_right (by rw [hc, Nat.succ_mul]; omega), hc, show (k + 1) * m + j - m = k * m + j from by rw [Nat.succ_mul]; omega]
    exact flatten_get (fun x hx => h x (List.mem_cons_of_mem _ hx)) (by simpa using hk) j hj
theorem flatten_at {m : Nat} : ∀ {css : List (List Value)} (_ : ∀ cs ∈ css, cs.length = m) {j : Nat} {u : Value}, css.flatten[j]? = some u → ∃ k i cs, css[k]? = some cs ∧ cs[i]? = some u ∧ i < m ∧ j = k * m + i
  | [], _, j, u, hj => by simp at hj
  | c :: css, h, j, u, hj => by
    have hc := h c List.mem_cons_self
    rw [List.flatten_cons] at hj
    rcases Nat.lt_or_ge j m with hlt | hge
    · rw [List.getElem?_append_left (by omega)] at hj
      exact ⟨0, j, c, rfl, hj, hlt, by omega⟩
    · rw [List.getElem?_append_right (by omega), hc] at hj
      obtain ⟨k, i, cs, h1, h2, h3, h4⟩ := flatten_at (fun x hx => h x (List.mem_cons_of_mem _ hx)) hj
      exact ⟨k + 1, i, cs, by simpa using h1, h2, h3, by rw [Nat.succ_mul]; omega⟩
theorem flatten_len {m : Nat} : ∀ {css : List (List Value)} (_ : ∀ cs ∈ css, cs.length = m), css.flatten.length = css.length * m
  | [], _ => by simp
  | c :: css, h => by
    rw [List.flatten_cons, List.length_append, h c List.mem_cons_self, flatten_len (fun x hx => h x (List.mem_cons_of_mem _ hx)), List.length_cons, Nat.succ_mul]
    omega
section
variable {α : Type} {t : TypeId} {m bytes : Nat} {El : World → Nat → List Value → α → Prop} {w w' : World} {B B' : Nat} {v : Value} {xs : List α} {Ts : List TypeId}
theorem IsRow.same (h : IsRow t m bytes El w B v xs) (ht : t ∈ Ts) (hs : Same Ts B w w') (hel : ∀ cs x, El w B cs x → El w' B cs x) : IsRow t m bytes El w' B v xs :=
  ⟨let ⟨A, c, css, h1, h2, h3, h4, h5, h6⟩ := h.ex; ⟨A, c, css, h1, h2, h3, h4, h5.same ht hs, fun j cs x hj hx => hel cs x (h6 j cs x hj hx)⟩, h.len⟩
theorem IsRow.mono (h : IsRow t m bytes El w B v xs) (hB : B ≤ B') (hel : ∀ cs x, El w B cs x → El w B' cs x) : IsRow t m bytes El w B' v xs :=
  ⟨let ⟨A, c, css, h1, h2, h3, h4, h5, h6⟩ := h.ex; ⟨A, c, css, h1, h2, h3, h4, h5.mono hB, fun j cs x hj hx => hel cs x (h6 j cs x hj hx)⟩, h.len⟩
theorem IsRow.form (h : IsRow t m bytes El w B v xs) : ∃ A n c, v = .slice A n c := by
  obtain ⟨A, c, _, e, _⟩ := h.ex
  exact ⟨A, _, c, e⟩
theorem IsRow.nil_ : IsRow t m bytes El w B (.slice none 0 0) [] := ⟨⟨none, 0, [], rfl, Nat.le_refl _, rfl, (fun cs h => by simp at h), Rd.nil, (fun j cs x h => by simp at h)⟩, by simp [R47]⟩
/-- one of a row -/
theorem row_get {A : Option Addr} {css : List (List Value)} {k : Nat} (hl : css.length = xs.length) (hm : ∀ cs ∈ css, cs.length = m) (hpos : 0 < m) (h : Rd w B t A css.flatten)
    (h6 : ∀ (j : Nat) (cs : List Value) (x : α), css[j]? = some cs → xs[j]? = some x → El w B cs x) (hk : k < xs.length) :
    ∃ g o cs, A = some ⟨g, o, none⟩ ∧ g < w.heap.size ∧ cs.length = m ∧ (∀ j u, cs[j]? = some u → w.cell? ⟨g, o + (k * m + j), none⟩ = some u) ∧ El w B cs xs[k] := by
  have hkc : k < css.length := by omega
  have hcs := List.getElem?_eq_getElem hkc
  have hml := hm _ (List.getElem_mem hkc)
  have h0 : css[k][0]? = some (css[k][0]'(by omega)) := List.getElem?_eq_getElem (by omega)
  obtain ⟨g, o, hA, hg, _⟩ := h.get ((flatten_get hm hcs 0 hpos).trans h0)
  refine ⟨g, o, css[k], hA, hg, hml, fun j u hj => ?_, h6 k _ _ hcs (List.getElem?_eq_getElem hk)⟩
  have hjm : j < m := by
    rcases Nat.lt_or_ge j m with h | h
    · exact h
    · rw [List.getElem?_eq_none (by omega)] at hj; cases hj
  obtain ⟨g', o', hA', _, hc⟩ := h.get ((flatten_get hm hcs j hjm).trans hj)
  rw [hA] at hA'
  simp only [Option.some.injEq, Addr.mk.injEq, and_true] at hA'
  obtain ⟨rfl, rfl⟩ := hA'
  exact hc
end

/- how a row that came in is opened -/
section
variable {H : Type} {enc : TypeId × Value → H} {w : World} {base : Nat} {spare : Nat → Bool} {held : Bool} {n : Nat}
theorem trod_row {α : Type} (d0 : α) {t e : TypeId} {m bytes : Nat} {El : World → Nat → List Value → α → Prop} (ht : Try.prog.underlying t = some (.slice e)) (hm : Try.prog.cellsOf e = m) (hby : Try.prog.bytesOf e = bytes) (hpos : 0 < m)
    (hel : ∀ {n : Nat} {cs : List Value} {x : DataW H × List MemPlace}, DataW.trod enc Try.prog w base spare held n e cs = some x → (∀ k ∈ x.1.weights Try.prog e, k ≤ reachBytes) → ∃ a, El w w.heap.size cs a)
    {v : Value} {x : DataW H × List MemPlace} (h : DataW.trod enc Try.prog w base spare held n t [v] = some x) (hw : ∀ k ∈ x.1.weights Try.prog t, k ≤ reachBytes) : ∃ xs, IsRow e m bytes El w w.heap.size v xs := by
  rcases Go.Deep.open_slice ht h with ⟨e0, rfl⟩ | ⟨a, len, cap, mm, n', D, Pl, e0, hb, hl, hmx, hmm, rfl, hx⟩
  · simp at e0; subst e0; exact ⟨[], IsRow.nil_⟩
  · simp only [List.cons.injEq, and_true] at e0
    subst e0
    have hle : len ≤ mm := by rw [hmm]; split <;> omega
    have hwt : ∀ k ∈ DataW.weights Try.prog t (DataW.slice ((List.range len).map D) ((List.range (mm - len)).map fun j => D (len + j))), k ≤ reachBytes := hw
    simp only [DataW.weights, ht, List.mem_cons, List.mem_append, hby] at hwt
    have hwl := hwt _ (.inl rfl)
    simp only [List.length_map, List.length_range] at hwl
    have hall : ∀ i, ∃ p : List Value × α, i < len → w.cells? base (a.add (i * m)) m = some p.1 ∧ El w w.heap.size p.1 p.2 := by
      intro i
      by_cases hi : i < len
      · obtain ⟨cs, hc, htr⟩ := hx i (by omega)
        obtain ⟨y, hy⟩ := hel htr (fun k hk => hwt k (.inr (.inl (weightsAll_mem hk (List.mem_map.2 ⟨i, by simpa using hi, rfl⟩)))))
        exact ⟨(cs, y), fun _ => ⟨by rw [hm] at hc; exact hc, hy⟩⟩
      · exact ⟨([], d0), fun h => absurd h hi⟩
    obtain ⟨f, hf⟩ := Classical.axiomOfChoice hall
    have hlen : ∀ cs ∈ (List.range len).map (fun i => (f i).1), cs.length = m := by
      intro cs hcs
      obtain ⟨i, hi, rfl⟩ := List.mem_map.1 hcs
      exact (World.cells?_some (hf i (by simpa using hi)).1).2.1
    refine ⟨(List.range len).map (fun i => (f i).2), ⟨some a, cap, (List.range len).map (fun i => (f i).1), by simp, by simpa using hl, by simp, hlen, ?_, ?_⟩, ?_⟩
    · rcases Nat.eq_zero_or_pos len with h0 | h0
      · subst h0
        exact .inl (by simp)
      · obtain ⟨_, hcl, hat⟩ := World.cells?_some (hf 0 h0).1
        have hc0 : w.cell? ((a.add (0 * m)).add 0) = some ((f 0).1[0]'(by omega)) := by rw [hat 0 hpos, List.getElem?_eq_getElem (by omega)]
        rw [Nat.zero_mul, Go.Deep.add_add] at hc0
        obtain ⟨b, o, spot⟩ := a
        have hspot : spot = none := by simpa [Addr.add] using World.cell?_spot hc0
        subst hspot
        have hbl : b < w.heap.size := by
          rcases Nat.lt_or_ge b w.heap.size with h | h
          · exact h
          · simp [World.cell?, Addr.add, Array.getElem?_eq_none h] at hc0
        refine .inr ⟨b, o, rfl, hbl, .inl hbl, fun j u hj => ?_⟩
        obtain ⟨k, i, cs, h1, h2, h3, rfl⟩ := flatten_at hlen hj
        have hk' : k < len := by
          rcases Nat.lt_or_ge k len with h | h
          · exact h
          · rw [List.getElem?_eq_none (by simp; omega)] at h1; cases h1
        simp [hk'] at h1
        subst h1
        obtain ⟨_, _, hatk⟩ := World.cells?_some (hf k hk').1
        have := hatk i h3
        rw [Go.Deep.add_add] at this
        have e2 : (⟨b, o, none⟩ : Addr).add (k * m + i) = ⟨b, o + (k * m + i), none⟩ := by unfold Addr.add; split <;> simp_all
        rw [e2] at this
        rw [this, h2]
    · intro j cs y hu hy
      have hj' : j < len := by
        rcases Nat.lt_or_ge j len with h | h
        · exact h
        · rw [List.getElem?_eq_none (by simp; omega)] at hu; cases hu
      simp [hj'] at hu hy
      subst hu hy
      exact (hf j hj').2
    · have hrb : reachBytes = R47 := rfl
      simp only [List.length_map, List.length_range]
      rw [← hrb]
      refine Nat.le_trans ?_ hwl
      exact Nat.mul_le_mul_right _ (by omega)
theorem trod_ones {α : Type} (d0 : α) {t e : TypeId} {bytes : Nat} {f : α → Value} (ht : Try.prog.underlying t = some (.slice e)) (hm : Try.prog.cellsOf e = 1) (hby : Try.prog.bytesOf e = bytes)
    (hel : ∀ {n : Nat} {cs : List Value} {x : DataW H × List MemPlace}, DataW.trod enc Try.prog w base spare held n e cs = some x → ∃ a, cs = [f a])
    {v : Value} {x : DataW H × List MemPlace} (h : DataW.trod enc Try.prog w base spare held n t [v] = some x) (hw : ∀ k ∈ x.1.weights Try.prog t, k ≤ reachBytes) : ∃ xs, IsOnes e bytes f w w.heap.size v xs := by
  obtain ⟨xs, ⟨⟨A, c, css, h1, h2, h3, h4, h5, h6⟩, h7⟩⟩ := trod_row (m := 1) (bytes := bytes) (El := fun _ _ cs a => cs = [f a]) d0 ht hm hby (by omega) (fun h _ => hel h) h hw
  refine ⟨xs, ⟨A, c, h1, h2, ?_⟩, h7⟩
  have e : css.flatten = xs.map f := by
    have : css = xs.map fun a => [f a] := by
      apply List.ext_getElem (by simp [h3])
      intro j hj hj'
      have hjx : j < xs.length := by omega
      rw [List.getElem_map]
      exact h6 j _ _ (List.getElem?_eq_getElem hj) (List.getElem?_eq_getElem hjx)
    rw [this]
    clear this h6 h5 h4 h3 h2 h1 h7
    induction xs with
    | nil => rfl
    | cons y ys ih => simp [ih]
  rw [← e]
  exact h5
end
end Go.Proofs.Ytioajgcbchdpeaa

/- Part 9: words and walks under the law 'ReplicaHears'. -/
import Derived.Test.YtlaibljdlpmbfaaPart1
import Derived.Test.YtlaibljdlpmbfaaPart2
import Derived.Deep.MidRow
import Derived.Test.YtlaibljdlpmbfaaPart8
import Derived.OrdersHeld
import Derived.RegionTactic
set_option linter.unusedVariables false
set_option linter.unusedSimpArgs false
/- Words: rows of structs of the call's own, whatever the struct; cells set in one stroke. -/
namespace Go.Proofs.Ytlaibljdlpmbfaa
set_option linter.unusedVariables false
set_option linter.unusedSimpArgs false
open Go.RowKit
set_option maxHeartbeats 1000000
set_option maxRecDepth 100000

theorem own_putr {w : World} {base size n g c : Nat} {e : TypeId} {xs : List Value} (h : w.ownsRow base e size (.slice (some ⟨g, 0, none⟩) n c) n xs) (j : Nat) (u : Value) :
    (w.setCell ⟨g, j, none⟩ u).ownsRow base e size (.slice (some ⟨g, 0, none⟩) n c) n (xs.set j u) := by
  obtain ⟨hl, ⟨h0, _⟩ | ⟨g', cap, cur, e1, hb, hh, hnc, hm, hcs, ht⟩⟩ := h
  · cases h0
  · cases e1
    have hB : Blk w g e cur := hh
    refine ⟨by simp [hl], .inr ⟨g, c, cur.setIfInBounds j u, rfl, hb, hB.set_ j u, hnc, hm, by simpa using hcs, ?_⟩⟩
    rw [Array.toList_setIfInBounds, List.take_set, ht]
theorem rwm_same {w w' : World} {Ts : List TypeId} {B base : Nat} {e : TypeId} {size n : Nat} {v : Value} {xs : List Value} (h : w.ownsRow base e size v n xs) (ht : e ∈ Ts) (hs : Same Ts B w w') : w'.ownsRow base e size v n xs := by
  obtain ⟨h1, h2 | ⟨g, cap, cur, rfl, h3, h4, h5⟩⟩ := h
  · exact ⟨h1, .inl h2⟩
  · have hlt : g < w.heap.size := by
      rcases Nat.lt_or_ge g w.heap.size with hlt | hge
      · exact hlt
      · rw [Array.getElem?_eq_none hge] at h4; cases h4
    have := hs.keep g hlt (.inr ⟨_, _, _, ht, h4⟩)
    exact ⟨h1, .inr ⟨g, cap, cur, rfl, h3, by rw [this]; exact h4, h5⟩⟩
/- cells set in one stroke -/
def putAt : List Value → Nat → List Value → List Value
  | l, _, [] => l
  | l, o, v :: r => putAt (l.set o v) (o + 1) r
theorem putAt_length : ∀ (vs : List Value) (l : List Value) (o : Nat), (putAt l o vs).length = l.length
  | [], _, _ => rfl
  | v :: r, l, o => by rw [putAt, putAt_length r, List.length_set]
theorem putAt_cons (a : Value) : ∀ (vs : List Value) (l : List Value) (o : Nat), putAt (a :: l) (o + 1) vs = a :: putAt l o vs
  | [], _, _ => rfl
  | v :: r, l, o => by rw [putAt, putAt, List.set_cons_succ, putAt_cons a r]
theorem putAt_left : ∀ (pre : List Value) (vs : List Value) (l : List Value) (o : Nat), putAt (pre ++ l) (pre.length + o) vs = pre ++ putAt l o vs
  | [], vs, l, o => by simp
  | a :: pre, vs, l, o => by
    rw [List.cons_append, List.length_cons, show pre.length + 1 + o = pre.length + o + 1 by omega, putAt_cons, putAt_left pre]
    rfl
theorem putAt_whole : ∀ (vs cs l : List Value), cs.length = vs.length → putAt (cs ++ l) 0 vs = vs ++ l
  | [], cs, l, h => by simp at h; subst h; rfl
  | v :: r, [], l, h => by simp at h
  | v :: r, c :: cs, l, h => by
    rw [putAt, List.cons_append, List.set_cons_zero, putAt_cons, putAt_whole r cs l (by simpa using h)]
    rfl
theorem putAt_flatten {m : Nat} : ∀ {css : List (List Value)} (_ : ∀ cs ∈ css, cs.length = m) (k : Nat) (_ : k < css.length) (vs : List Value) (_ : vs.length = m), putAt css.flatten (k * m) vs = (css.set k vs).flatten
  | [], _, k, hk, _, _ => by cases hk
  | c :: css, h, 0, _, vs, hv => by
    rw [Nat.zero_mul, List.flatten_cons, putAt_whole vs c _ (by rw [h c List.mem_cons_self, hv]), List.set_cons_zero, List.flatten_cons]
  | c :: css, h, k + 1, hk, vs, hv => by
    have hc := h c List.mem_cons_self
    rw [List.flatten_cons, show (k + 1) * m = c.length + k * m by rw [hc, Nat.succ_mul]; omega, putAt_left, List.set_cons_succ, List.flatten_cons,
      putAt_flatten (fun x hx => h x (List.mem_cons_of_mem _ hx)) k (by simpa using hk) vs hv]
section
variable {w w' : World} {base size n g c : Nat} {e t : TypeId} {xs : List Value} {cur : Array Value} {Ts : List TypeId}
theorem own_puts : ∀ (vs : List Value) (o : Nat) (xs : List Value) (w : World), w.ownsRow base e size (.slice (some ⟨g, 0, none⟩) n c) n xs → (w.setCells g o vs).ownsRow base e size (.slice (some ⟨g, 0, none⟩) n c) n (putAt xs o vs)
  | [], _, _, _, h => h
  | v :: r, o, xs, w, h => own_puts r (o + 1) _ _ (own_putr h o v)
theorem blk_sets : ∀ (vs : List Value) (o : Nat) (w : World) (cur : Array Value), Blk w g t cur → ∃ cur', Blk (w.setCells g o vs) g t cur'
  | [], _, _, cur, h => ⟨cur, h⟩
  | v :: r, o, w, cur, h => blk_sets r (o + 1) _ _ (h.set_ o v)
theorem blk_puts : ∀ (vs : List Value) (o : Nat) (w : World) (xs : List Value), Blk w g t xs.toArray → Blk (w.setCells g o vs) g t (putAt xs o vs).toArray
  | [], _, _, _, h => h
  | v :: r, o, w, xs, h => by
    have := h.set_ o v
    rw [List.setIfInBounds_toArray] at this
    exact blk_puts r (o + 1) _ _ this
/-- A whole box is written anew. -/
theorem blk_all {vs xs : List Value} (h : Blk w g t xs.toArray) (hl : xs.length = vs.length) : Blk (w.setCells g 0 vs) g t vs.toArray := by
  have := blk_puts vs 0 w xs h
  have e : putAt xs 0 vs = vs := by
    have := putAt_whole vs xs [] hl
    simpa using this
  rwa [e] at this
theorem Same.sets : ∀ (vs : List Value) (o : Nat) (w : World) (cur : Array Value), Blk w g t cur → t ∉ Ts → Same Ts 0 w (w.setCells g o vs)
  | [], _, w, _, _, _ => Same.refl _ _ _
  | v :: r, o, w, cur, h, ht => (Same.set_ h (Nat.zero_le _) ht o v).trans (Same.sets r (o + 1) _ _ (h.set_ o v) ht)
theorem below_sets {B : Nat} (hB : B ≤ g) : ∀ (vs : List Value) (o : Nat) (w0 w : World), Below B w0 w → Below B w0 (w.setCells g o vs)
  | [], _, _, _, h => h
  | v :: r, o, w0, w, h => below_sets hB r (o + 1) w0 _ (h.setCell (p := ⟨g, o, none⟩) hB v)
theorem size_sets : ∀ (vs : List Value) (o : Nat) (w : World), (w.setCells g o vs).heap.size = w.heap.size
  | [], _, _ => rfl
  | v :: r, o, w => by rw [World.setCells, size_sets r]; simp [World.setCell]
theorem blk_far_sets {g' : Nat} {t' : TypeId} {cs : Array Value} (hne : g' ≠ g) : ∀ (vs : List Value) (o : Nat) (w : World), Blk w g' t' cs → Blk (w.setCells g o vs) g' t' cs
  | [], _, _, h => h
  | v :: r, o, w, h => blk_far_sets hne r (o + 1) _ (h.far (p := ⟨g, o, none⟩) hne v)
theorem Blk.range {xs : List Value} (h : Blk w g t xs.toArray) : w.rangeAt g 0 xs := fun j v hj => by
  rw [Nat.zero_add, h.cell]
  simpa using hj
theorem Blk.there {xs : List Value} (h : Blk w g t xs.toArray) : w.there g 0 xs.length := fun j hj => by
  rw [Nat.zero_add]
  exact ⟨by rw [h.cell]; simp [hj], h.frozen j⟩
end
/-- Structs in a row of the call's own: css the cells of each. -/
structure OwnR {α : Type} (t : TypeId) (size bytes : Nat) (El : World → Nat → List Value → α → Prop) (w : World) (base : Nat) (v : Value) (xs : List α) (css : List (List Value)) : Prop where
  len : css.length = xs.length
  sz : ∀ cs ∈ css, cs.length = size
  row : w.ownsRow base t size v xs.length css.flatten
  each : ∀ (j : Nat) (cs : List Value) (x : α), css[j]? = some cs → xs[j]? = some x → El w 0 cs x
  max : xs.length * bytes ≤ R47
section
variable {α : Type} {t : TypeId} {size bytes : Nat} {El : World → Nat → List Value → α → Prop} {w w' : World} {base base' : Nat} {v : Value} {xs : List α} {css : List (List Value)} {Ts : List TypeId}
theorem OwnR.is (h : OwnR t size bytes El w base v xs css) : IsRow t size bytes El w 0 v xs := by
  obtain ⟨A, c, rfl, hc, _, hr, _⟩ := rd_own h.row
  exact ⟨⟨A, c, css, rfl, hc, h.len, h.sz, hr, h.each⟩, h.max⟩
theorem OwnR.same {B : Nat} (h : OwnR t size bytes El w base v xs css) (ht : t ∈ Ts) (hs : Same Ts B w w') (hel : ∀ cs x, El w 0 cs x → El w' 0 cs x) : OwnR t size bytes El w' base v xs css :=
  ⟨h.len, h.sz, rwm_same h.row ht hs, fun j cs x a b => hel cs x (h.each j cs x a b), h.max⟩
theorem OwnR.base_ (h : OwnR t size bytes El w base v xs css) (hb : base' ≤ base) : OwnR t size bytes El w base' v xs css := ⟨h.len, h.sz, ownsRow_base h.row hb, h.each, h.max⟩
theorem OwnR.nil_ : OwnR t size bytes El w base (.slice none 0 0) [] [] := ⟨rfl, by simp, World.ownsRow_nil _ _ _ _, fun j cs m h => by simp at h, by simp [R47]⟩
theorem OwnR.form (h : OwnR t size bytes El w base v xs css) : ∃ A c, v = .slice A xs.length c := by
  obtain ⟨A, c, e, _⟩ := rd_own h.row
  exact ⟨A, c, e⟩
theorem OwnR.lt (h : OwnR t size bytes El w base v xs css) : ∀ g, v.ownBlock = some g → base ≤ g ∧ g < w.heap.size := h.row.lt
/-- One of the row: where it lies, and what it tells. -/
theorem OwnR.at_ (h : OwnR t size bytes El w base v xs css) {k : Nat} (hk : k < xs.length) : ∃ g c cs, v = .slice (some ⟨g, 0, none⟩) xs.length c ∧ base ≤ g ∧ (∃ cur, Blk w g t cur) ∧ css[k]? = some cs ∧ cs.length = size ∧ El w 0 cs xs[k] ∧ w.rangeAt g (k * size) cs ∧ w.there g (k * size) size := by
  have hkc : k < css.length := by rw [h.len]; exact hk
  have hcs := List.getElem?_eq_getElem hkc
  have hsz := h.sz _ (List.getElem_mem hkc)
  have hel := h.each k _ _ hcs (List.getElem?_eq_getElem hk)
  obtain ⟨hl, ⟨h0, hn⟩ | ⟨g, cap, cur, e, hb, hh, hnc, hm, hcz, ht⟩⟩ := h.row
  · omega
  · have hB : Blk w g t cur := hh
    have hcell : ∀ j, j < size → w.cell? ⟨g, k * size + j, none⟩ = css[k][j]? := fun j hj => by
      have hlt : k * size + j < xs.length * size := by
        calc k * size + j < k * size + size := by omega
          _ = (k + 1) * size := by rw [Nat.succ_mul]
          _ ≤ xs.length * size := Nat.mul_le_mul_right _ hk
      have := flatten_get h.sz hcs j hj
      rw [← ht, List.getElem?_take_of_lt hlt] at this
      rw [hB.cell, ← this]
      simp
    refine ⟨g, cap, css[k], e, hb, ⟨cur, hB⟩, hcs, hsz, hel, fun j u hj => ?_, fun j hj => ⟨?_, hB.frozen _⟩⟩
    · have hjs : j < size := by
        rcases Nat.lt_or_ge j size with h' | h'
        · exact h'
        · rw [List.getElem?_eq_none (by omega)] at hj; cases hj
      rw [hcell j hjs, hj]
    · rw [hcell j hj, List.getElem?_eq_getElem (by omega)]
      rfl
/-- One of the row is set, all its cells in one stroke. -/
theorem OwnR.put {g c n : Nat} (h : OwnR t size bytes El w base (.slice (some ⟨g, 0, none⟩) n c) xs css) {k : Nat} (hk : k < xs.length) {cs : List Value} {x : α} (hcs : cs.length = size) (hx : El w 0 cs x)
    {cs' : List Value} (hel : ∀ cs x, El w 0 cs x → El (w.setCells g (k * size) cs') 0 cs x) (e : cs' = cs) : OwnR t size bytes El (w.setCells g (k * size) cs') base (.slice (some ⟨g, 0, none⟩) n c) (xs.set k x) (css.set k cs) := by
  subst e
  have hn : n = xs.length := by
    obtain ⟨A, c', e, _⟩ := rd_own h.row
    cases e
    rfl
  subst hn
  have hkc : k < css.length := by rw [h.len]; exact hk
  refine ⟨by simp [h.len], ?_, ?_, ?_, by simpa using h.max⟩
  · intro c' hc'
    rcases List.mem_or_eq_of_mem_set hc' with h' | rfl
    · exact h.sz c' h'
    · exact hcs
  · rw [List.length_set, ← putAt_flatten h.sz k hkc cs' hcs]
    exact own_puts cs' (k * size) _ _ h.row
  · intro j c' y h1 h2
    by_cases hj : j = k
    · subst hj
      rw [List.getElem?_set_self hkc] at h1
      rw [List.getElem?_set_self hk] at h2
      cases h1
      cases h2
      exact hel _ _ hx
    · rw [List.getElem?_set_ne (fun e => hj e.symm)] at h1 h2
      exact hel _ _ (h.each j c' y h1 h2)
/-- One more is appended. -/
theorem OwnR.push {v4 : Value} {cs : List Value} {x : α} (h : OwnR t size bytes El w base v xs css) (hm : (xs.length + 1) * bytes ≤ R47) (hcs : cs.length = size) (hx : El w' 0 cs x)
    (h4 : w'.ownsRow base t size v4 (xs.length + 1) (css.flatten ++ cs)) (hel : ∀ cs x, El w 0 cs x → El w' 0 cs x) : OwnR t size bytes El w' base v4 (xs ++ [x]) (css ++ [cs]) := by
  refine ⟨by simp only [List.length_append, h.len, List.length_cons, List.length_nil], ?_, ?_, ?_, by simpa using hm⟩
  · intro c hc
    rcases List.mem_append.1 hc with h' | h'
    · exact h.sz c h'
    · rw [List.mem_singleton] at h'
      subst h'
      exact hcs
  · rw [List.length_append, List.flatten_append]
    simpa using h4
  · intro j c y hc hy
    rcases Nat.lt_or_ge j xs.length with hj | hj
    · rw [List.getElem?_append_left (by rw [h.len]; exact hj)] at hc
      rw [List.getElem?_append_left hj] at hy
      exact hel _ _ (h.each j c y hc hy)
    · rw [List.getElem?_append_right (by rw [h.len]; exact hj), h.len] at hc
      rw [List.getElem?_append_right hj] at hy
      have hj0 : j - xs.length = 0 := by
        rcases Nat.eq_zero_or_pos (j - xs.length) with h' | h'
        · exact h'
        · rw [List.getElem?_eq_none (by simp; omega)] at hc
          cases hc
      rw [hj0] at hc hy
      simp only [List.getElem?_cons_zero, Option.some.injEq] at hc hy
      subst hc
      subst hy
      exact hx
end
end Go.Proofs.Ytlaibljdlpmbfaa
/- Words: the cells of a block, all at once; lists' laws under short names. -/
namespace Go.Proofs.Ytlaibljdlpmbfaa
open Go.RowKit
section
variable {W : World} {g : Nat} {t : TypeId} {a b c d e f h i j k m : Value} {l : List Value}
theorem cz0 (q : Blk W g t l.toArray) (n : Nat) : W.cell? ⟨g, n, none⟩ = l[n]? := by rw [q.cell n]; simp
theorem cz1 (q : Blk W g t (a :: l).toArray) : W.cell? ⟨g, 0, none⟩ = some a := cz0 q 0
theorem cz2 (q : Blk W g t (a :: b :: l).toArray) : W.cell? ⟨g, 0, none⟩ = some a ∧ W.cell? ⟨g, 1, none⟩ = some b := ⟨cz0 q 0, cz0 q 1⟩
theorem cz3 (q : Blk W g t (a :: b :: c :: l).toArray) : W.cell? ⟨g, 0, none⟩ = some a ∧ W.cell? ⟨g, 1, none⟩ = some b ∧ W.cell? ⟨g, 2, none⟩ = some c := ⟨cz0 q 0, cz0 q 1, cz0 q 2⟩
theorem cz4 (q : Blk W g t (a :: b :: c :: d :: l).toArray) : W.cell? ⟨g, 0, none⟩ = some a ∧ W.cell? ⟨g, 1, none⟩ = some b ∧ W.cell? ⟨g, 2, none⟩ = some c ∧ W.cell? ⟨g, 3, none⟩ = some d := ⟨cz0 q 0, cz0 q 1, cz0 q 2, cz0 q 3⟩
theorem cz5 (q : Blk W g t (a :: b :: c :: d :: e :: l).toArray) : W.cell? ⟨g, 0, none⟩ = some a ∧ W.cell? ⟨g, 1, none⟩ = some b ∧ W.cell? ⟨g, 2, none⟩ = some c ∧ W.cell? ⟨g, 3, none⟩ = some d ∧ W.cell? ⟨g, 4, none⟩ = some e := ⟨cz0 q 0, cz0 q 1, cz0 q 2, cz0 q 3, cz0 q 4⟩
theorem cz6 (q : Blk W g t (a :: b :: c :: d :: e :: f :: l).toArray) : W.cell? ⟨g, 0, none⟩ = some a ∧ W.cell? ⟨g, 1, none⟩ = some b ∧ W.cell? ⟨g, 2, none⟩ = some c ∧ W.cell? ⟨g, 3, none⟩ = some d ∧ W.cell? ⟨g, 4, none⟩ = some e ∧ W.cell? ⟨g, 5, none⟩ = some f := ⟨cz0 q 0, cz0 q 1, cz0 q 2, cz0 q 3, cz0 q 4, cz0 q 5⟩
theorem cz7 (q : Blk W g t (a :: b :: c :: d :: e :: f :: h :: l).toArray) : W.cell? ⟨g, 0, none⟩ = some a ∧ W.cell? ⟨g, 1, none⟩ = some b ∧ W.cell? ⟨g, 2, none⟩ = some c ∧ W.cell? ⟨g, 3, none⟩ = some d ∧ W.cell? ⟨g, 4, none⟩ = some e ∧ W.cell? ⟨g, 5, none⟩ = some f ∧ W.cell? ⟨g, 6, none⟩ = some h := ⟨cz0 q 0, cz0 q 1, cz0 q 2, cz0 q 3, cz0 q 4, cz0 q 5, cz0 q 6⟩
theorem cz8 (q : Blk W g t (a :: b :: c :: d :: e :: f :: h :: i :: l).toArray) : W.cell? ⟨g, 0, none⟩ = some a ∧ W.cell? ⟨g, 1, none⟩ = some b ∧ W.cell? ⟨g, 2, none⟩ = some c ∧ W.cell? ⟨g, 3, none⟩ = some d ∧ W.cell? ⟨g, 4, none⟩ = some e ∧ W.cell? ⟨g, 5, none⟩ = some f ∧ W.cell? ⟨g, 6, none⟩ = some h ∧ W.cell? ⟨g, 7, none⟩ = some i := ⟨cz0 q 0, cz0 q 1, cz0 q 2, cz0 q 3, cz0 q 4, cz0 q 5, cz0 q 6, cz0 q 7⟩
theorem cz9 (q : Blk W g t (a :: b :: c :: d :: e :: f :: h :: i :: j :: l).toArray) : W.cell? ⟨g, 0, none⟩ = some a ∧ W.cell? ⟨g, 1, none⟩ = some b ∧ W.cell? ⟨g, 2, none⟩ = some c ∧ W.cell? ⟨g, 3, none⟩ = some d ∧ W.cell? ⟨g, 4, none⟩ = some e ∧ W.cell? ⟨g, 5, none⟩ = some f ∧ W.cell? ⟨g, 6, none⟩ = some h ∧ W.cell? ⟨g, 7, none⟩ = some i ∧ W.cell? ⟨g, 8, none⟩ = some j := ⟨cz0 q 0, cz0 q 1, cz0 q 2, cz0 q 3, cz0 q 4, cz0 q 5, cz0 q 6, cz0 q 7, cz0 q 8⟩
theorem cz10 (q : Blk W g t (a :: b :: c :: d :: e :: f :: h :: i :: j :: k :: l).toArray) : W.cell? ⟨g, 0, none⟩ = some a ∧ W.cell? ⟨g, 1, none⟩ = some b ∧ W.cell? ⟨g, 2, none⟩ = some c ∧ W.cell? ⟨g, 3, none⟩ = some d ∧ W.cell? ⟨g, 4, none⟩ = some e ∧ W.cell? ⟨g, 5, none⟩ = some f ∧ W.cell? ⟨g, 6, none⟩ = some h ∧ W.cell? ⟨g, 7, none⟩ = some i ∧ W.cell? ⟨g, 8, none⟩ = some j ∧ W.cell? ⟨g, 9, none⟩ = some k := ⟨cz0 q 0, cz0 q 1, cz0 q 2, cz0 q 3, cz0 q 4, cz0 q 5, cz0 q 6, cz0 q 7, cz0 q 8, cz0 q 9⟩
end
theorem cW {B : Nat} {w w' : World} {g i : Nat} {v : Value} (h : Below B w w') (l : g < B) (e : w.cell? ⟨g, i, none⟩ = some v) : w'.cell? ⟨g, i, none⟩ = some v := (h.cell (p := ⟨g, i, none⟩) l).trans e
theorem zp1 {α : Type} (l : List α) (i : Nat) (a : α) : l.toArray.setIfInBounds i a = (l.set i a).toArray := List.setIfInBounds_toArray ..
theorem zp2 {α : Type} (x : α) (l : List α) (a : α) : (x :: l).set 0 a = a :: l := rfl
theorem zp3 {α : Type} (x : α) (l : List α) (n : Nat) (a : α) : (x :: l).set (n + 1) a = x :: l.set n a := rfl
end Go.Proofs.Ytlaibljdlpmbfaa
/- Words: a replica in its box, its rows its own (the reference's hearing). -/
namespace Go.Proofs.Ytlaibljdlpmbfaa
open Go.RowKit
set_option maxHeartbeats 2000000
set_option maxRecDepth 100000
structure RWk (w : World) (base gr : Nat) (r : Scu.Replica) (lu hv wv gv nv : Value) : Prop where
  rb : Blk w gr 29 #[.int .i64 r.me, .int .i64 r.kept.view, .int .i64 r.kept.normal, .bool r.kept.calm, lu, .int .i64 r.kept.commit, hv, wv, gv, nv]
  own : OwnRep w base lu hv wv gv nv r
  lr : base ≤ gr
/-- The same, its rows left open. -/
def RWkE (w : World) (base gr : Nat) (r : Scu.Replica) : Prop := ∃ lu hv wv gv nv, RWk w base gr r lu hv wv gv nv
section
variable {w w' : World} {base gr g c n : Nat} {r : Scu.Replica} {lu hv wv gv nv : Value}
theorem RWk.e (h : RWk w base gr r lu hv wv gv nv) : RWkE w base gr r := ⟨_, _, _, _, _, h⟩
theorem RWk.below (h : RWk w base gr r lu hv wv gv nv) (hb : Below w.heap.size w w') : RWk w' base gr r lu hv wv gv nv := ⟨h.rb.same hb, h.own.below hb, h.lr⟩
theorem RWkE.below (h : RWkE w base gr r) (hb : Below w.heap.size w w') : RWkE w' base gr r := let ⟨_, _, _, _, _, h⟩ := h; (h.below hb).e
theorem RWk.base_le (h : RWk w base gr r lu hv wv gv nv) : base ≤ w.heap.size := Nat.le_of_lt (Nat.lt_of_le_of_lt h.lr h.rb.lt)
theorem RWk.rcell (h : RWk w base gr r lu hv wv gv nv) (i : Nat) (u : Value) : OwnRep (w.setCell ⟨gr, i, none⟩ u) base lu hv wv gv nv r ∧ Below base w (w.setCell ⟨gr, i, none⟩ u) :=
  ⟨h.own.same (Same.set_ (Ts := [9, 3, 4, 24]) h.rb (Nat.zero_le _) (by decide) i _), (Below.refl base w).setCell (p := ⟨gr, i, none⟩) h.lr _⟩
theorem RWk.set_commit (h : RWk w base gr r lu hv wv gv nv) (x : Int) : RWk (w.setCell ⟨gr, 5, none⟩ (.int .i64 x)) base gr { r with kept := { r.kept with commit := x } } lu hv wv gv nv :=
  let b := (h.rcell 5 (.int .i64 x)).1
  ⟨h.rb.set_ 5 _, ⟨⟨b.own.log, b.own.have_, b.own.wants, b.own.given, b.own.apart⟩, b.giv⟩, h.lr⟩
theorem RWk.set_log (h : RWk w base gr r lu hv wv gv nv) {v : Value} {l : List Scu.Str} (hl : OwnStrs w base v l) : RWk (w.setCell ⟨gr, 4, none⟩ v) base gr { r with kept := { r.kept with log := l } } v hv wv gv nv :=
  let b := (h.rcell 4 v).1
  ⟨h.rb.set_ 4 _, ⟨⟨hl.same (B := 0) (Same.set_ (Ts := [9]) h.rb (Nat.zero_le _) (by decide) 4 _), b.own.have_, b.own.wants, b.own.given, b.own.apart⟩, b.giv⟩, h.lr⟩
/-- All that it keeps is written anew. -/
theorem RWk.set_kept (h : RWk w base gr r lu hv wv gv nv) {k : Scu.Kept} {lx : Value} (hl : OwnStrs w base lx k.log) : RWk (((((w.setCell ⟨gr, 1, none⟩ (.int .i64 k.view)).setCell ⟨gr, 2, none⟩ (.int .i64 k.normal)).setCell ⟨gr, 3, none⟩ (.bool k.calm)).setCell ⟨gr, 4, none⟩ lx).setCell ⟨gr, 5, none⟩ (.int .i64 k.commit)) base gr { r with kept := k } lx hv wv gv nv ∧ Below base w (((((w.setCell ⟨gr, 1, none⟩ (.int .i64 k.view)).setCell ⟨gr, 2, none⟩ (.int .i64 k.normal)).setCell ⟨gr, 3, none⟩ (.bool k.calm)).setCell ⟨gr, 4, none⟩ lx).setCell ⟨gr, 5, none⟩ (.int .i64 k.commit)) := by
  have hs : Same [9, 3, 4, 24] 0 w (((((w.setCell ⟨gr, 1, none⟩ (.int .i64 k.view)).setCell ⟨gr, 2, none⟩ (.int .i64 k.normal)).setCell ⟨gr, 3, none⟩ (.bool k.calm)).setCell ⟨gr, 4, none⟩ lx).setCell ⟨gr, 5, none⟩ (.int .i64 k.commit)) := Same.set5 h.rb (by decide) _ _ _ _ _ _ _ _ _ _
  have ho := h.own.same hs
  refine ⟨⟨((((h.rb.set_ 1 _).set_ 2 _).set_ 3 _).set_ 4 _).set_ 5 _, ⟨⟨hl.same (hs.mono (by simp) (Nat.le_refl _)), ho.own.have_, ho.own.wants, ho.own.given, ho.own.apart⟩, ho.giv⟩, h.lr⟩, ?_⟩
  exact (((((Below.refl base w).setCell (p := ⟨gr, _, none⟩) h.lr _).setCell (p := ⟨gr, _, none⟩) h.lr _).setCell (p := ⟨gr, _, none⟩) h.lr _).setCell (p := ⟨gr, _, none⟩) h.lr _).setCell (p := ⟨gr, _, none⟩) h.lr _
theorem RWk.put_have (h : RWk w base gr r lu (.slice (some ⟨g, 0, none⟩) n c) wv gv nv) {cur : Array Value} (hB : Blk w g 3 cur) (hg : base ≤ g) (j : Nat) (x : Int) :
    RWk (w.setCell ⟨g, j, none⟩ (.int .i64 x)) base gr { r with have_ := r.have_.set j x } lu (.slice (some ⟨g, 0, none⟩) n c) wv gv nv ∧ Below base w (w.setCell ⟨g, j, none⟩ (.int .i64 x)) := by
  have hs : Same [9, 4, 24, 29] 0 w (w.setCell ⟨g, j, none⟩ (.int .i64 x)) := Same.set_ hB (Nat.zero_le _) (by decide) j _
  obtain ⟨css', hgv⟩ := h.own.giv
  exact ⟨⟨blk_keep h.rb hs (by simp), ⟨⟨h.own.own.log.same (hs.mono (by simp) (Nat.le_refl _)), h.own.own.have_.put j x, h.own.own.wants.same (hs.mono (by simp) (Nat.le_refl _)), h.own.own.given.same (hs.mono (by simp) (Nat.le_refl _)), h.own.own.apart⟩, css', hgv.same (hs.mono (by simp) (Nat.le_refl _))⟩, h.lr⟩,
    (Below.refl base w).setCell (p := ⟨g, j, none⟩) hg _⟩
theorem RWk.put_wants (h : RWk w base gr r lu hv (.slice (some ⟨g, 0, none⟩) n c) gv nv) {cur : Array Value} (hB : Blk w g 4 cur) (hg : base ≤ g) (j : Nat) (b : Bool) :
    RWk (w.setCell ⟨g, j, none⟩ (.bool b)) base gr { r with wants := r.wants.set j b } lu hv (.slice (some ⟨g, 0, none⟩) n c) gv nv ∧ Below base w (w.setCell ⟨g, j, none⟩ (.bool b)) :=
  have hs : Same [29] 0 w (w.setCell ⟨g, j, none⟩ (.bool b)) := Same.set_ hB (Nat.zero_le _) (by decide) j _
  ⟨⟨blk_keep h.rb hs (by simp), h.own.put_wants hB j b, h.lr⟩, (Below.refl base w).setCell (p := ⟨g, j, none⟩) hg _⟩
theorem RWk.put_given (h : RWk w base gr r lu hv wv gv (.slice (some ⟨g, 0, none⟩) n c)) {cur : Array Value} (hB : Blk w g 4 cur) (hg : base ≤ g) (j : Nat) (b : Bool) :
    RWk (w.setCell ⟨g, j, none⟩ (.bool b)) base gr { r with given := r.given.set j b } lu hv wv gv (.slice (some ⟨g, 0, none⟩) n c) ∧ Below base w (w.setCell ⟨g, j, none⟩ (.bool b)) := by
  have hs : Same [9, 3, 24, 29] 0 w (w.setCell ⟨g, j, none⟩ (.bool b)) := Same.set_ hB (Nat.zero_le _) (by decide) j _
  obtain ⟨css', hgv⟩ := h.own.giv
  exact ⟨⟨blk_keep h.rb hs (by simp), ⟨⟨h.own.own.log.same (hs.mono (by simp) (Nat.le_refl _)), h.own.own.have_.same (hs.mono (by simp) (Nat.le_refl _)), h.own.own.wants.far (fun e => h.own.own.apart g e rfl) _, h.own.own.given.put j b, h.own.own.apart⟩, css', hgv.same (hs.mono (by simp) (Nat.le_refl _))⟩, h.lr⟩,
    (Below.refl base w).setCell (p := ⟨g, j, none⟩) hg _⟩
theorem RWk.put_gives {i : Nat} (h : RWk w base gr r lu hv wv (.slice (some ⟨g, 0, none⟩) n c) nv) (hi : i < r.gives.length) {k : Scu.Kept} {lx : Value} (hx : IsStrs w 0 lx k.log) :
    RWk (((((w.setCell ⟨g, i * 5, none⟩ (.int .i64 k.view)).setCell ⟨g, i * 5 + 1, none⟩ (.int .i64 k.normal)).setCell ⟨g, i * 5 + 2, none⟩ (.bool k.calm)).setCell ⟨g, i * 5 + 3, none⟩ lx).setCell ⟨g, i * 5 + 4, none⟩ (.int .i64 k.commit)) base gr { r with gives := r.gives.set i k } lu hv wv (.slice (some ⟨g, 0, none⟩) n c) nv ∧ Below base w (((((w.setCell ⟨g, i * 5, none⟩ (.int .i64 k.view)).setCell ⟨g, i * 5 + 1, none⟩ (.int .i64 k.normal)).setCell ⟨g, i * 5 + 2, none⟩ (.bool k.calm)).setCell ⟨g, i * 5 + 3, none⟩ lx).setCell ⟨g, i * 5 + 4, none⟩ (.int .i64 k.commit)) := by
  obtain ⟨css', hgv⟩ := h.own.giv
  obtain ⟨hb, cur, hB⟩ := own_blk? hgv.row
  have hs : Same [9, 3, 4, 29] 0 w (((((w.setCell ⟨g, i * 5, none⟩ (.int .i64 k.view)).setCell ⟨g, i * 5 + 1, none⟩ (.int .i64 k.normal)).setCell ⟨g, i * 5 + 2, none⟩ (.bool k.calm)).setCell ⟨g, i * 5 + 3, none⟩ lx).setCell ⟨g, i * 5 + 4, none⟩ (.int .i64 k.commit)) := Same.set5 hB (by decide) _ _ _ _ _ _ _ _ _ _
  refine ⟨⟨blk_keep h.rb hs (by simp), ⟨(let o := h.own.own.same (hs.mono (by simp) (Nat.le_refl _)); ⟨o.log, o.have_, o.wants, o.given, o.apart⟩), _, hgv.put hi hx⟩, h.lr⟩, ?_⟩
  exact ((((Below.refl base w).setCell (p := ⟨g, _, none⟩) hb _).setCell (p := ⟨g, _, none⟩) hb _).setCell (p := ⟨g, _, none⟩) hb _).setCell (p := ⟨g, _, none⟩) hb _ |>.setCell (p := ⟨g, _, none⟩) hb _
/-- Below base as it was; texts and messages as they were. -/
structure BS (base : Nat) (w w' : World) : Prop where
  low : Below base w w'
  same : Same [9, 31] 0 w w'
theorem BS.refl (base : Nat) (w : World) : BS base w w := ⟨Below.refl _ _, Same.refl _ _ _⟩
theorem BS.trans {base : Nat} {a b c : World} (h : BS base a b) (k : BS base b c) : BS base a c := ⟨h.low.trans k.low, h.same.trans k.same⟩
theorem BS.of {base : Nat} {a b c : World} (h : BS base a b) (k : Below b.heap.size b c) (hb : base ≤ b.heap.size) : BS base a c := ⟨h.low.trans (k.mono hb), h.same.trans (Same.below k)⟩
theorem BS.drew {base : Nat} {a b : World} (h : BS base a b) : BS base a b.drew := ⟨h.low.drew, h.same.trans (Same.drew _)⟩
theorem forgotten_w (h : RWk w base gr r lu hv wv gv nv) : Calls Try.prog 36 #[.pointer (some ⟨gr, 0, none⟩)] w fun e w' => e = .returned (.tuple #[]) ∧ RWkE w' base gr (Scu.fresh r) ∧ BS base w w' := by
  refine (forgotten_c gr _ _ _ _ _ _ _ _ _ _ w h.rb).mono ?_
  rintro e w' ⟨rfl, ⟨hv', wv', gv', nv', hB2, _, _, _, _, hF⟩, hsm, hbl⟩
  obtain ⟨o1, o2, o3, o4, o5⟩ := forg_own hF h.base_le
  exact ⟨rfl, ⟨_, _, _, _, _, hB2, ⟨⟨h.own.own.log.same (hsm.mono (by simp) (Nat.le_refl _)), o1, o2, o4, o5⟩, _, o3⟩, h.lr⟩, hbl base h.lr, hsm.mono (by simp) (Nat.le_refl _)⟩
end
end Go.Proofs.Ytlaibljdlpmbfaa
/- A law for regions that draw their order and end in one operation, t: what is taken first is taken under a word on the world that need not hold behind t. -/
namespace Go.Proofs.Ytlaibljdlpmbfaa
open Go.RowKit
set_option maxHeartbeats 400000
section
variable {P : Program} {ops : Array Oper} {Q : Exit → Act → World → Prop} {md : Region.Mode} {S : World → Prop} {t : Nat}
/-- Whatever order is picked from here on; S holds behind each operation but t. -/
def wpAnyE (P : Program) (md : Region.Mode) (ops : Array Oper) (Q : Exit → Act → World → Prop) (S : World → Prop) (t : Nat) : Nat → Array Bool → Act → World → Prop
  | 0, listed, a, w => Region.ready md ops listed = [] ∧ Q .normal a w
  | fuel + 1, listed, a, w =>
    (Region.ready md ops listed = [] → Q .normal a w) ∧
    ∀ i ∈ Region.ready md ops listed, wpOp P ops Q i (fun a' w' => (i = t ∨ S w') ∧ wpAnyE P md ops Q S t fuel (listed.setIfInBounds i true) a' w') a w
theorem wpAny_of_E : ∀ (fuel : Nat) (listed : Array Bool) (a : Act) (w : World), wpAnyE P md ops Q S t fuel listed a w → wpAny P md ops Q fuel listed a w
  | 0, _, _, _, h => h
  | fuel + 1, _, _, _, h => ⟨h.1, fun i hi => wpOp_mono (fun a' w' h' => wpAny_of_E fuel _ a' w' h'.2) (h.2 i hi)⟩
/-- What has come up has all that it waits for. -/
def ShutL (md : Region.Mode) (ops : Array Oper) (l : Array Bool) : Prop := ∀ (j : Nat) (oj : Oper), ops[j]? = some oj → l.getD j false = true → ∀ e ∈ oj.after, Region.binds md e = true → l.getD e.on false = true
theorem ShutL.set {l : Array Bool} (h : ShutL md ops l) {i : Nat} (hi : i ∈ Region.ready md ops l) : ShutL md ops (l.setIfInBounds i true) := by
  intro j oj hoj hl e he hb
  obtain ⟨_, oi, hoi, hall⟩ := Go.mem_ready.1 hi
  by_cases hij : i = j
  · subst hij
    have : oj = oi := Option.some.inj (hoj.symm.trans hoi)
    subst this
    exact Go.getD_set_true (hall e he hb)
  · rw [Go.getD_set_ne false hij] at hl
    exact Go.getD_set_true (h j oj hoj hl e he hb)
/-- t waits for i, directly or through others. -/
def reachB (md : Region.Mode) (ops : Array Oper) (i : Nat) : Nat → Nat → Bool
  | 0, _ => false
  | f + 1, j => match ops[j]? with
    | some o => o.after.any fun e => Region.binds md e && (e.on == i || reachB md ops i f e.on)
    | none => false
theorem reach_listed {i : Nat} {l : Array Bool} (h : ShutL md ops l) : ∀ (f j : Nat), reachB md ops i f j = true → (∀ oj, ops[j]? = some oj → ∀ e ∈ oj.after, Region.binds md e = true → l.getD e.on false = true) → l.getD i false = true
  | 0, _, hr, _ => by cases hr
  | f + 1, j, hr, hall => by
    unfold reachB at hr
    cases ho : ops[j]? with
    | none => rw [ho] at hr; cases hr
    | some o =>
      rw [ho] at hr
      obtain ⟨e, he, hb⟩ := Array.any_eq_true'.1 hr
      simp only [Bool.and_eq_true, Bool.or_eq_true, beq_iff_eq] at hb
      have hl := hall o ho e he hb.1
      rcases hb.2 with hb | hb
      · rw [← hb]; exact hl
      · exact reach_listed h f e.on hb fun oj hoj e' he' hb' => h e.on oj hoj hl e' he' hb'
theorem not_ready {i f : Nat} {l : Array Bool} (h : ShutL md ops l) (hr : reachB md ops i f t = true) (hi : l.getD i true = false) : t ∉ Region.ready md ops l := fun ht => by
  obtain ⟨_, o, ho, hall⟩ := Go.mem_ready.1 ht
  have := reach_listed h f t hr (fun oj hoj e he hb => by
    have : oj = o := Option.some.inj (hoj.symm.trans ho)
    subst this
    exact hall e he hb)
  rcases Nat.lt_or_ge i l.size with h' | h'
  · simp [h'] at hi this; rw [hi] at this; cases this
  · simp [Array.getElem?_eq_none h'] at hi
theorem wpAnyE_first {i f : Nat} {oi : Oper} {v : Value} (hi : ops[i]? = some oi) (hsel : ∀ (j : Nat) (o : Oper) cs b, ops[j]? = some o → o.op ≠ .select cs b)
    (hQ : ∀ c a w, Q (.panic c) (a.put oi.dst v) w → Q (.panic c) a w) (hrt : reachB md ops i f t = true) : ∀ (fuel : Nat) (listed : Array Bool) (a : Act) (w : World),
      (∀ j oj, ops[j]? = some oj → j ≠ i → listed.getD j true = false → (∀ e ∈ oj.after, Region.binds md e = true → e.on ≠ i) → oi.apart ops oj = true) →
      i ∈ Region.ready md ops listed → ShutL md ops listed → YieldsIf P ops S oi v a → S w →
      wpAnyE P md ops Q S t fuel (listed.setIfInBounds i true) (a.put oi.dst v) w → wpAnyE P md ops Q S t (fuel + 1) listed a w := by
  intro fuel
  induction fuel with
  | zero =>
    intro listed a w _ hr hsh hy hS H
    refine ⟨fun h => (by rw [h] at hr; cases hr), fun j hj => ?_⟩
    by_cases hji : j = i
    · subst hji; exact hy.wpOp hi hS ⟨.inr hS, H⟩
    · have := Go.ready_mono hj hji
      rw [H.1] at this
      cases this
  | succ fuel ih =>
    intro listed a w hfree hr hsh hy hS H
    have h0 : listed.getD i true = false := (Go.mem_ready.1 hr).1
    refine ⟨fun h => (by rw [h] at hr; cases hr), fun j hj => ?_⟩
    by_cases hji : j = i
    · subst hji; exact hy.wpOp hi hS ⟨.inr hS, H⟩
    · have h1 := H.2 j (Go.ready_mono hj hji)
      have hjt : j ≠ t := fun e => not_ready hsh hrt h0 (e ▸ hj)
      obtain ⟨hjun, oj, hoj, hall⟩ := Go.mem_ready.1 hj
      have hnot : ∀ e ∈ oj.after, Region.binds md e = true → e.on ≠ i := fun e he hb heq => by
        have h1 := hall e he hb
        rw [heq] at h1
        rcases Nat.lt_or_ge i listed.size with h' | h'
        · simp [h'] at h0 h1; rw [h0] at h1; cases h1
        · simp [Array.getElem?_eq_none h'] at h1
      have h2 := wpOp_putIf hoj (hfree j oj hoj hji hjun hnot) (fun cs b => hsel i oi cs b hi) (fun cs b => hsel j oj cs b hoj) hQ hy h1
      have hfree' : ∀ k ok, ops[k]? = some ok → k ≠ i → (listed.setIfInBounds j true).getD k true = false →
          (∀ e ∈ ok.after, Region.binds md e = true → e.on ≠ i) → oi.apart ops ok = true := fun k ok hk hki hun hno => by
        refine hfree k ok hk hki ?_ hno
        by_cases hjk : j = k
        · subst hjk; exact hjun
        · rw [Go.getD_set_ne true hjk] at hun; exact hun
      refine wpOp_mono (fun a' w' h3 => ?_) h2
      obtain ⟨h4, h5, h6⟩ := h3
      have h5 := h5.resolve_left hjt
      refine ⟨.inr h5, ih (listed.setIfInBounds j true) a' w' hfree' (Go.ready_mono hr (Ne.symm hji)) (hsh.set hj) h4 h5 ?_⟩
      rw [Array.setIfInBounds_comm _ _ hji]
      exact h6
/-- Number i first. -/
theorem wpAnyE_take {i : Nat} (f : Nat) {oi : Oper} {v : Value} {fuel : Nat} {listed : Array Bool} {a : Act} {w : World} (hi : ops[i]? = some oi)
    (hs : Region.noSelect ops = true) (hf : Region.free md ops listed i = true) (hr : (Region.ready md ops listed).contains i = true) (hrt : reachB md ops i f t = true)
    (hQ : ∀ c a w, Q (.panic c) (a.put oi.dst v) w → Q (.panic c) a w) (hy : YieldsIf P ops S oi v a) (hsh : ShutL md ops listed) (hS : S w)
    (h : ShutL md ops (listed.setIfInBounds i true) → wpAnyE P md ops Q S t fuel (listed.setIfInBounds i true) (a.put oi.dst v) w) : wpAnyE P md ops Q S t (fuel + 1) listed a w :=
  have hr' : i ∈ Region.ready md ops listed := by simpa using hr
  wpAnyE_first hi (Region.noSelect_spec hs) hQ hrt fuel listed a w (Region.free_spec hi hf) hr' hsh hy hS (h (hsh.set hr'))
theorem wpAnyE_all {rs : List Nat} {fuel : Nat} {listed : Array Bool} {a : Act} {w : World} (hr : Region.ready md ops listed = rs) (hne : rs ≠ [])
    (h : ∀ i ∈ rs, wpOp P ops Q i (fun a' w' => (i = t ∨ S w') ∧ wpAnyE P md ops Q S t fuel (listed.setIfInBounds i true) a' w') a w) : wpAnyE P md ops Q S t (fuel + 1) listed a w :=
  ⟨fun h0 => absurd (hr ▸ h0) hne, hr ▸ h⟩
theorem wpAnyE_done {listed : Array Bool} {a : Act} {w : World} (hr : Region.ready md ops listed = []) (h : Q .normal a w) : ∀ fuel, wpAnyE P md ops Q S t fuel listed a w
  | 0 => ⟨hr, h⟩
  | _ + 1 => ⟨fun _ => h, by rw [hr]; simp⟩
theorem wp_region_E {id : Nat} {a : Act} {w : World} (S : World → Prop) (t : Nat) (hm : P.follows .mixedOrders = true)
    (h : ShutL .any ops (Array.replicate ops.size false) → wpAnyE P .any ops Q S t ops.size (Array.replicate ops.size false) a { w with drawn := w.drawn + 1 }) : (Code.region id ops true).wp P Q a w :=
  wp_region_any hm (wpAny_of_E _ _ _ _ (h fun j oj _ hl => by
    exfalso
    rw [Array.getD_eq_getD_getElem?] at hl
    by_cases hk : j < ops.size
    · simp [hk] at hl
    · rw [Array.getElem?_eq_none (by simpa using hk)] at hl
      cases hl))
end
end Go.Proofs.Ytlaibljdlpmbfaa
/- Words: operations of a drawn region taken first, one after the other, said shortly. -/
namespace Go.Proofs.Ytlaibljdlpmbfaa
open Go.RowKit
section
variable {P : Program} {ops : Array Oper} {Q : Exit → Act → World → Prop} {md : Region.Mode} {S : World → Prop} {t fuel i : Nat} {is : List Nat} {oi : Oper} {v : Value} {listed : Array Bool} {a : Act} {w : World} {K : Act → World → Prop}
theorem tkH (i : Nat) (hi : ops.toList[i]? = some oi) (hb : (Region.noSelect ops && Region.free md ops listed i && (Region.ready md ops listed).contains i) = true)
    (hQ : ∀ c a w, Q (.panic c) (a.put oi.dst v) w → Q (.panic c) a w) (hy : YieldsIf P ops S oi v a) (hS : S w)
    (h : wpAnyH P md ops Q S fuel (listed.setIfInBounds i true) (a.put oi.dst v) w) : wpAnyH P md ops Q S (fuel + 1) listed a w := by
  rw [Bool.and_eq_true, Bool.and_eq_true] at hb
  exact wpAnyH_take (by rw [← Array.getElem?_toList]; exact hi) hb.1.1 hb.1.2 hb.2 hQ hy hS h
theorem tkE (i f : Nat) (hi : ops.toList[i]? = some oi) (hb : (Region.noSelect ops && Region.free md ops listed i && (Region.ready md ops listed).contains i && reachB md ops i f t) = true)
    (hQ : ∀ c a w, Q (.panic c) (a.put oi.dst v) w → Q (.panic c) a w) (hy : YieldsIf P ops S oi v a) (hsh : ShutL md ops listed) (hS : S w)
    (h : ShutL md ops (listed.setIfInBounds i true) → wpAnyE P md ops Q S t fuel (listed.setIfInBounds i true) (a.put oi.dst v) w) : wpAnyE P md ops Q S t (fuel + 1) listed a w := by
  rw [Bool.and_eq_true, Bool.and_eq_true, Bool.and_eq_true] at hb
  exact wpAnyE_take f (by rw [← Array.getElem?_toList]; exact hi) hb.1.1.1 hb.1.1.2 hb.1.2 hb.2 hQ hy hsh hS h
/-- A row of numbers that may be taken first, one after the other. -/
def chR (md : Region.Mode) (ops : Array Oper) (t f : Nat) (e : Bool) : List Nat → Array Bool → Bool
  | [], _ => true
  | i :: is, l => (ops.toList[i]?.bind (·.dst)).isSome && Region.free md ops l i && (Region.ready md ops l).contains i && (!e || reachB md ops i f t) && chR md ops t f e is (l.setIfInBounds i true)
/-- What a row of operations yields, one after the other; K behind them. -/
def tkR (P : Program) (ops : Array Oper) (S : World → Prop) (K : Nat → Array Bool → Act → Prop) : List Nat → Nat → Array Bool → Act → Prop
  | [] => fun n l a => K n l a
  | i :: is => fun n l a => ∃ m oi v, n = m + 1 ∧ ops.toList[i]? = some oi ∧ YieldsIf P ops S oi v a ∧ tkR P ops S K is m (l.setIfInBounds i true) (a.put oi.dst v)
theorem tkc {K : Nat → Array Bool → Act → Prop} (hi : ops.toList[i]? = some oi) (hy : YieldsIf P ops S oi v a) (h : tkR P ops S K is fuel (listed.setIfInBounds i true) (a.put oi.dst v)) :
    tkR P ops S K (i :: is) (fuel + 1) listed a := ⟨_, _, _, rfl, hi, hy, h⟩
theorem tkz {K : Nat → Array Bool → Act → Prop} (h : K fuel listed a) : tkR P ops S K [] fuel listed a := h
theorem tkHs (is : List Nat) (hb : (Region.noSelect ops && chR md ops 0 0 false is listed) = true) (hQ : ∀ d v c a w, Q (.panic c) (a.put (some d) v) w → Q (.panic c) a w) (hS : S w)
    (h : tkR P ops S (fun n l a => wpAnyH P md ops Q S n l a w) is fuel listed a) : wpAnyH P md ops Q S fuel listed a w := by
  rw [Bool.and_eq_true] at hb
  obtain ⟨hn, hb⟩ := hb
  induction is generalizing fuel listed a with
  | nil => exact h
  | cons i is ih =>
    obtain ⟨m, oi, v, rfl, hi, hy, h⟩ := h
    simp only [chR, Bool.and_eq_true, hi, Option.bind_some] at hb
    obtain ⟨d, hd⟩ := Option.isSome_iff_exists.1 hb.1.1.1.1
    exact wpAnyH_take (by rw [← Array.getElem?_toList]; exact hi) hn hb.1.1.1.2 hb.1.1.2 (by rw [hd]; exact hQ _ _) hy hS (ih h hb.2)
theorem tkEs (f : Nat) (is : List Nat) (hb : (Region.noSelect ops && chR md ops t f true is listed) = true) (hQ : ∀ d v c a w, Q (.panic c) (a.put (some d) v) w → Q (.panic c) a w) (hsh : ShutL md ops listed) (hS : S w)
    (h : tkR P ops S (fun n l a => ShutL md ops l → wpAnyE P md ops Q S t n l a w) is fuel listed a) : wpAnyE P md ops Q S t fuel listed a w := by
  rw [Bool.and_eq_true] at hb
  obtain ⟨hn, hb⟩ := hb
  induction is generalizing fuel listed a with
  | nil => exact h hsh
  | cons i is ih =>
    obtain ⟨m, oi, v, rfl, hi, hy, h⟩ := h
    simp only [chR, Bool.and_eq_true, hi, Option.bind_some] at hb
    obtain ⟨d, hd⟩ := Option.isSome_iff_exists.1 hb.1.1.1.1
    exact wpAnyE_take f (by rw [← Array.getElem?_toList]; exact hi) hn hb.1.1.1.2 hb.1.1.2 (by simpa using hb.1.2) (by rw [hd]; exact hQ _ _) hy hsh hS fun hsh => ih hsh h hb.2
theorem alH (i : Nat) (hr : Region.ready md ops listed = [i])
    (h : wpOp P ops Q i (fun a' w' => S w' ∧ wpAnyH P md ops Q S fuel (listed.setIfInBounds i true) a' w') a w) : wpAnyH P md ops Q S (fuel + 1) listed a w :=
  wpAnyH_all hr (by simp) (by simpa using h)
theorem alE (i : Nat) (hr : Region.ready md ops listed = [i])
    (h : wpOp P ops Q i (fun a' w' => (i = t ∨ S w') ∧ wpAnyE P md ops Q S t fuel (listed.setIfInBounds i true) a' w') a w) : wpAnyE P md ops Q S t (fuel + 1) listed a w :=
  wpAnyE_all hr (by simp) (by simpa using h)
end
end Go.Proofs.Ytlaibljdlpmbfaa
/- Walks: ref.own: what a replica gives. -/
namespace Go.Proofs.Ytlaibljdlpmbfaa
set_option linter.unusedVariables false
set_option linter.unusedSimpArgs false
open Go.RowKit
set_option maxHeartbeats 4000000
set_option maxRecDepth 100000
theorem blk_thr {w : World} {g n : Nat} {t : TypeId} {cs : Array Value} (h : Blk w g t cs) (hn : cs.size = n := by rfl) : w.there g 0 n := fun j hj => by
  rw [Nat.zero_add, h.cell]
  exact ⟨by simp [hn, hj], h.frozen j⟩
theorem one_kept {a b : Int} {c : Bool} {A : Option Addr} {n m : Nat} {e : Int} : (#[.int .i64 a, .int .i64 b, .bool c, .slice A n m, .int .i64 e] : Array Value).all (·.oneCell') = true := by
  simp [Value.oneCell']
theorem own_c (A0 : Option Addr) (c0 : Nat) (A1 : Option Addr) (c1 : Nat) (A2 : Option Addr) (c2 : Nat) (A3 : Option Addr) (c3 : Nat) (A4 : Option Addr) (c4 : Nat) (r : Scu.Replica) (w : World) (hx : IsStrs w 0 (.slice A0 r.kept.log.length c0) r.kept.log) :
    Calls Try.prog 39 #[.agg #[.int .i64 r.me, .int .i64 r.kept.view, .int .i64 r.kept.normal, .bool r.kept.calm, .slice A0 r.kept.log.length c0, .int .i64 r.kept.commit, .slice A1 r.have_.length c1, .slice A2 r.wants.length c2, .slice A3 r.gives.length c3, .slice A4 r.given.length c4]] w fun e w' => (∃ Au cu, e = .returned (.agg #[.int .i64 r.kept.view, .int .i64 r.kept.normal, .bool false, .slice Au r.kept.log.length cu, .int .i64 r.kept.commit]) ∧ OwnStrs w' w.heap.size (.slice Au r.kept.log.length cu) r.kept.log) ∧ Below w.heap.size w w' := by
  obtain ⟨⟨A', c', e, hlc, hrd⟩, hl, he⟩ := hx
  cases e
  have hl' := hl
  unfold R47 at hl'
  have hbW : Below w.heap.size w ((w.alloc (Obj.cells #[.int .i64 r.me, .int .i64 r.kept.view, .int .i64 r.kept.normal, .bool r.kept.calm, .slice A0 r.kept.log.length c0, .int .i64 r.kept.commit, .slice A1 r.have_.length c1, .slice A2 r.wants.length c2, .slice A3 r.gives.length c3, .slice A4 r.given.length c4] 29)).alloc (Obj.cells #[.int .i64 0, .int .i64 0, .bool false, .slice none 0 0, .int .i64 0] 24)) := (below_alloc w _).alloc (by simp) _
  have hRB : Blk ((w.alloc (Obj.cells #[.int .i64 r.me, .int .i64 r.kept.view, .int .i64 r.kept.normal, .bool r.kept.calm, .slice A0 r.kept.log.length c0, .int .i64 r.kept.commit, .slice A1 r.have_.length c1, .slice A2 r.wants.length c2, .slice A3 r.gives.length c3, .slice A4 r.given.length c4] 29)).alloc (Obj.cells #[.int .i64 0, .int .i64 0, .bool false, .slice none 0 0, .int .i64 0] 24)) w.heap.size 29 #[.int .i64 r.me, .int .i64 r.kept.view, .int .i64 r.kept.normal, .bool r.kept.calm, .slice A0 r.kept.log.length c0, .int .i64 r.kept.commit, .slice A1 r.have_.length c1, .slice A2 r.wants.length c2, .slice A3 r.gives.length c3, .slice A4 r.given.length c4] := (Blk.new w _ _).alloc _
  have hKB : Blk ((w.alloc (Obj.cells #[.int .i64 r.me, .int .i64 r.kept.view, .int .i64 r.kept.normal, .bool r.kept.calm, .slice A0 r.kept.log.length c0, .int .i64 r.kept.commit, .slice A1 r.have_.length c1, .slice A2 r.wants.length c2, .slice A3 r.gives.length c3, .slice A4 r.given.length c4] 29)).alloc (Obj.cells #[.int .i64 0, .int .i64 0, .bool false, .slice none 0 0, .int .i64 0] 24)) (w.heap.size + 1) 24 #[.int .i64 0, .int .i64 0, .bool false, .slice none 0 0, .int .i64 0] := Blk.new' (by simp)
  have hrd2 := (hrd.alloc (Obj.cells #[.int .i64 r.me, .int .i64 r.kept.view, .int .i64 r.kept.normal, .bool r.kept.calm, .slice A0 r.kept.log.length c0, .int .i64 r.kept.commit, .slice A1 r.have_.length c1, .slice A2 r.wants.length c2, .slice A3 r.gives.length c3, .slice A4 r.given.length c4] 29)).alloc (Obj.cells #[.int .i64 0, .int .i64 0, .bool false, .slice none 0 0, .int .i64 0] 24)
  go_enter Try.func39, Try.ntmps39
  go_upto_region 1 with fail
  obtain ⟨Wd, hWd⟩ : ∃ W, W = ((w.alloc (Obj.cells #[.int .i64 r.me, .int .i64 r.kept.view, .int .i64 r.kept.normal, .bool r.kept.calm, .slice A0 r.kept.log.length c0, .int .i64 r.kept.commit, .slice A1 r.have_.length c1, .slice A2 r.wants.length c2, .slice A3 r.gives.length c3, .slice A4 r.given.length c4] 29)).alloc (Obj.cells #[.int .i64 0, .int .i64 0, .bool false, .slice none 0 0, .int .i64 0] 24)) := ⟨_, rfl⟩
  have hsz : Wd.heap.size = w.heap.size + 2 := by rw [hWd]; simp
  rw [← hWd] at hbW hRB hKB hrd2 ⊢
  clear hWd
  obtain ⟨-, x1, x2, -, x4, x5⟩ := cz6 hRB
  have HKB := Lib.hid hKB
  have HBW := Lib.hid hbW
  have HE := Lib.hid he
  have HSR := Lib.hid (src_of_rd (size := 1) (m := r.kept.log.length) (c := c0) (hrd2.drewN 1) (by simp) (fun e => by subst e; have := rd_none hrd2; simpa using this))
  have hlt : w.heap.size < w.heap.size + 1 := Nat.lt_succ_self _
  clear hRB hKB hbW hrd hrd2 he
  obtain ⟨S, hSd⟩ : ∃ S : World → Prop, S = fun w' => Below (w.heap.size + 1) Wd w' := ⟨_, rfl⟩
  have hS0 : S Wd.drew := by rw [hSd]; exact (Below.refl _ _).drew
  refine wp_region_held (S := S) (by kernel_rfl) ?_
  change wpAnyH _ _ _ _ _ _ _ _ Wd.drew
  refine tkHs [0, 1, 2, 3, 4, 5, 6, 7, 8, 9, 10, 11] (by kernel_rfl) (fun _ _ _ _ _ h => h) hS0 ?_
  iterate 12
    refine tkc (v := ?_) rfl (Or.inl ⟨by rfl, ?_⟩) ?_
    rotate_left
    · (intro wv hSw; rw [hSd] at hSw; have q1 := cW hSw hlt x1; have q2 := cW hSw hlt x2; have q4 := cW hSw hlt x4; have q5 := cW hSw hlt x5; go_simp; (try with_reducible rfl))
    (try simp only [Act.put, zp1, zp2, zp3])
  refine tkz ?_
  refine alH 12 (by kernel_rfl) (wpOp_step (o := _) rfl fun KA hKA => ?_)
  rw [if_pos (by rfl)]
  refine wp_app _ (.const (.slice none 0 0)) (.tmp 14) 22 rfl el_strs Wd.heap.size _ 0 [] rfl (World.ownsRow_nil _ _ _ _) (.slice A0 r.kept.log.length c0) r.kept.log.length (r.kept.log.map Value.string) rfl HSR.out (one_strs _) (by unfold maxLen; omega) (by omega) (Nat.le_refl _) ?_
  intro v4 x4 h4 hg4 _
  have hb4 : Below Wd.heap.size Wd x4 := ((Below.refl Wd.heap.size Wd).drew).grown hg4 (Nat.le_refl _) (fun q hq => by cases hq)
  have h4 : x4.ownsRow Wd.heap.size 9 1 v4 r.kept.log.length (r.kept.log.map Value.string) := by simpa only [Nat.zero_add, List.nil_append] using h4
  obtain ⟨Au, cu, rfl, _, _, _, _⟩ := rd_own h4
  have hKB4 := HKB.out.same hb4
  have hS0 : S x4 := by rw [hSd]; exact hb4.mono (by omega)
  refine hKA _ _ ⟨hS0, ?_⟩
  have HKB4 := Lib.hid hKB4
  have H4 := Lib.hid (And.intro h4 hb4)
  clear h4 hb4 hKB4 hKA hg4
  (try simp only [Act.put, List.getElem_toArray, List.getElem_cons_succ, List.getElem_cons_zero, zp1, zp2, zp3])
  refine tkHs [13] (by kernel_rfl) (fun _ _ _ _ _ h => h) hS0 ?_
  iterate 1
    refine tkc (v := ?_) rfl (Or.inl ⟨by rfl, ?_⟩) ?_
    rotate_left
    · (intro wv hSw; go_simp; (try with_reducible rfl))
    (try simp only [Act.put, zp1, zp2, zp3])
  refine tkz ?_
  refine alH 14 (by kernel_rfl) (wpOp_step (o := _) rfl fun KB hKB => ?_)
  rw [if_pos (by rfl)]
  refine wp_store_mid 24 (.tmp 2) (.tmp 16) rfl (w.heap.size + 1) 0 #[.int .i64 r.kept.view, .int .i64 r.kept.normal, .bool false, .slice Au r.kept.log.length cu, .int .i64 r.kept.commit] rfl rfl (blk_thr HKB4.out) (by kernel_rfl) one_kept ?_
  have hS1 : S (x4.setCells (w.heap.size + 1) 0 [.int .i64 r.kept.view, .int .i64 r.kept.normal, .bool false, .slice Au r.kept.log.length cu, .int .i64 r.kept.commit]) := by rw [hSd] at hS0 ⊢; exact below_sets (Nat.le_refl _) _ 0 _ _ hS0
  refine hKB _ _ ⟨hS1, wpAnyH_done (by kernel_rfl) ?_ _⟩
  (try simp only [Act.put, List.getElem_toArray, List.getElem_cons_succ, List.getElem_cons_zero, zp1, zp2, zp3])
  obtain ⟨W5, hW5⟩ : ∃ W, W = x4.setCells (w.heap.size + 1) 0 [.int .i64 r.kept.view, .int .i64 r.kept.normal, .bool false, .slice Au r.kept.log.length cu, .int .i64 r.kept.commit] := ⟨_, rfl⟩
  change Exit.then _ _ _ _ (x4.setCells (w.heap.size + 1) 0 [.int .i64 r.kept.view, .int .i64 r.kept.normal, .bool false, .slice Au r.kept.log.length cu, .int .i64 r.kept.commit])
  have hB5 : Blk W5 (w.heap.size + 1) 24 #[.int .i64 r.kept.view, .int .i64 r.kept.normal, .bool false, .slice Au r.kept.log.length cu, .int .i64 r.kept.commit] := by rw [hW5]; exact blk_all (vs := [.int .i64 r.kept.view, .int .i64 r.kept.normal, .bool false, .slice Au r.kept.log.length cu, .int .i64 r.kept.commit]) HKB4.out rfl
  have hb5 : Below w.heap.size w W5 := by rw [hW5]; exact below_sets (by omega) _ 0 _ _ (HBW.out.trans (H4.out.2.mono (by omega)))
  have hs5 : Same [9] 0 x4 W5 := by rw [hW5]; exact Same.sets _ 0 _ _ HKB4.out (by decide)
  have ho5 : OwnStrs W5 w.heap.size (.slice Au r.kept.log.length cu) r.kept.log := OwnStrs.same (OwnStrs.base_ ⟨H4.out.1, hl, HE.out⟩ (by omega)) hs5
  rw [← hW5]
  obtain ⟨r0, r1, r2, r3, r4⟩ := cz5 hB5
  have HF := Lib.hid (And.intro ho5 hb5)
  clear hW5 hB5 hb5 hs5 ho5 hS0 hS1 hKB hSd
  go_wp2
  refine bodyPost_ret (v := .agg #[.int .i64 r.kept.view, .int .i64 r.kept.normal, .bool false, .slice Au r.kept.log.length cu, .int .i64 r.kept.commit]) (by simp [results, Try.results39, go_sem, r0, r1, r2, r3, r4]) rfl ?_
  exact ⟨⟨_, _, rfl, HF.out.1⟩, HF.out.2⟩
end Go.Proofs.Ytlaibljdlpmbfaa

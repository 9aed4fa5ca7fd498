/- Part 2: words and walks under the law 'ReplicaHears'. -/
import Derived.Test.YtlaibljdlpmbfaaPart1
set_option linter.unusedVariables false
set_option linter.unusedSimpArgs false
/- Words for memory: what stays as it was; rows of things that have several cells; how such arguments are opened. -/
namespace Go.Proofs.Ytlaibljdlpmbfaa
open Go.RowKit Go.ChangeShapes Go.WideShapes Go.ChangeAt
set_option maxHeartbeats 400000
set_option maxRecDepth 100000

/-- Old blocks below B, and those whose elements are of one of these types, are as they were. -/
structure Same (Ts : List TypeId) (B : Nat) (w w' : World) : Prop where
  size : w.heap.size ≤ w'.heap.size
  keep : ∀ g, g < w.heap.size → (g < B ∨ ∃ C fz t, t ∈ Ts ∧ w.heap[g]? = some (.cells C t fz)) → w'.heap[g]? = w.heap[g]?
section
variable {Ts Ts' : List TypeId} {B B' : Nat} {w w' w2 : World}
theorem Same.refl (Ts : List TypeId) (B : Nat) (w : World) : Same Ts B w w := ⟨Nat.le_refl _, fun _ _ _ => rfl⟩
theorem Same.trans (h : Same Ts B w w') (k : Same Ts B w' w2) : Same Ts B w w2 :=
  ⟨Nat.le_trans h.size k.size, fun g hg hh => by
    have e := h.keep g hg hh
    rw [← e]
    refine k.keep g (Nat.lt_of_lt_of_le hg h.size) ?_
    rw [e]; exact hh⟩
theorem Same.mono (h : Same Ts B w w') (hT : ∀ t ∈ Ts', t ∈ Ts) (hB : B' ≤ B) : Same Ts' B' w w' :=
  ⟨h.size, fun g hg hh => h.keep g hg (hh.imp (fun h => Nat.lt_of_lt_of_le h hB) fun ⟨C, fz, t, ht, e⟩ => ⟨C, fz, t, hT t ht, e⟩)⟩
theorem Same.below (h : Below w.heap.size w w') : Same Ts B w w' := ⟨h.size, fun g hg _ => h.block g hg⟩
theorem Same.drew (w : World) : Same Ts B w w.drew := ⟨Nat.le_refl _, fun _ _ _ => rfl⟩
theorem Same.drewN (w : World) (n : Nat) : Same Ts B w (w.drewN n) := ⟨Nat.le_refl _, fun _ _ _ => rfl⟩
theorem Same.alloc (w : World) (o : Obj) : Same Ts B w (w.alloc o) := ⟨by simp, fun g hg _ => Below.heap_alloc w o g hg⟩
theorem Same.setCell {p : Addr} {C : Array Value} {t' : TypeId} {fz : Nat × Nat} (hp : w.heap[p.block]? = some (.cells C t' fz)) (hB : B ≤ p.block) (ht : t' ∉ Ts) (u : Value) : Same Ts B w (w.setCell p u) :=
  ⟨by simp [World.setCell], fun g _ hh => Below.heap_setCell w p u g (by
    rintro rfl
    rcases hh with hh | ⟨C', fz', t, ht', hh⟩
    · omega
    · rw [hp] at hh; cases hh; exact ht ht')⟩
theorem Same.set_ {g : Nat} {cs : Array Value} {t' : TypeId} (hp : Blk w g t' cs) (hB : B ≤ g) (ht : t' ∉ Ts) (i : Nat) (u : Value) : Same Ts B w (w.setCell ⟨g, i, none⟩ u) := Same.setCell (p := ⟨g, i, none⟩) (C := cs) (fz := (0, 0)) hp hB ht u
theorem Same.grown {row : Option Nat} (hg : w.grownBy w' row) (hr : ∀ g, row = some g → B ≤ g ∧ ∃ C fz t', t' ∉ Ts ∧ w.heap[g]? = some (.cells C t' fz)) : Same Ts B w w' :=
  ⟨hg.size, fun g hlt hh => hg.block g hlt fun e => by
    obtain ⟨h1, C, fz, t', h2, h3⟩ := hr g e.symm
    rcases hh with hh | ⟨C', fz', t, ht', hh⟩
    · omega
    · rw [h3] at hh; cases hh; exact h2 ht'⟩
theorem Same.own {base : Nat} {e : TypeId} {size n : Nat} {v : Value} {xs : List Value} (h : w.ownsRow base e size v n xs) (hg : w.grownBy w' v.ownBlock) (hB : B ≤ base) (ht : e ∉ Ts) : Same Ts B w w' :=
  Same.grown hg fun g hv => by
    obtain ⟨C, fz, hh⟩ := own_kind h hv
    have := (h.lt g hv).1
    exact ⟨by omega, C, fz, e, ht, hh⟩
theorem Rd.same {t : TypeId} {A : Option Addr} {cs : List Value} (h : Rd w B t A cs) (ht : t ∈ Ts) (hs : Same Ts B w w') : Rd w' B t A cs :=
  h.keep hs.size fun g hg hh => hs.keep g hg (hh.imp id fun ⟨C, fz, e⟩ => ⟨C, fz, t, ht, e⟩)
theorem IsStrs.same {v : Value} {xs : List Scu.Str} (h : IsStrs w B v xs) (ht : 9 ∈ Ts) (hs : Same Ts B w w') : IsStrs w' B v xs :=
  h.keep hs.size fun g hg hh => hs.keep g hg (hh.imp id fun ⟨C, fz, e⟩ => ⟨C, fz, _, ht, e⟩)
end

/-- A row of things of one cell. -/
structure IsOnes {α : Type} (t : TypeId) (bytes : Nat) (f : α → Value) (w : World) (B : Nat) (v : Value) (xs : List α) : Prop where
  ex : ∃ A c, v = .slice A xs.length c ∧ xs.length ≤ c ∧ Rd w B t A (xs.map f)
  len : xs.length * bytes ≤ R47
section
variable {α : Type} {t : TypeId} {bytes : Nat} {f : α → Value} {w w' : World} {B B' : Nat} {v : Value} {xs : List α} {Ts : List TypeId}
theorem IsOnes.same (h : IsOnes t bytes f w B v xs) (ht : t ∈ Ts) (hs : Same Ts B w w') : IsOnes t bytes f w' B v xs := ⟨let ⟨A, c, h1, h2, h3⟩ := h.ex; ⟨A, c, h1, h2, h3.same ht hs⟩, h.len⟩
theorem IsOnes.below (h : IsOnes t bytes f w B v xs) (hb : Below w.heap.size w w') : IsOnes t bytes f w' B v xs := h.same (Ts := [t]) (by simp) (Same.below hb)
theorem IsOnes.drewN (h : IsOnes t bytes f w B v xs) (n : Nat) : IsOnes t bytes f (w.drewN n) B v xs := ⟨h.ex, h.len⟩
theorem IsOnes.alloc (h : IsOnes t bytes f w B v xs) (o : Obj) : IsOnes t bytes f (w.alloc o) B v xs := h.same (Ts := [t]) (by simp) (Same.alloc w o)
theorem IsOnes.mono (h : IsOnes t bytes f w B v xs) (hB : B ≤ B') : IsOnes t bytes f w B' v xs := ⟨let ⟨A, c, h1, h2, h3⟩ := h.ex; ⟨A, c, h1, h2, h3.mono hB⟩, h.len⟩
theorem IsOnes.form (h : IsOnes t bytes f w B v xs) : ∃ A n c, v = .slice A n c := by
  obtain ⟨A, c, e, _⟩ := h.ex
  exact ⟨A, _, c, e⟩
theorem ones_get {A : Option Addr} {k : Nat} (h : Rd w B t A (xs.map f)) (hk : k < xs.length) : ∃ g o, A = some ⟨g, o, none⟩ ∧ g < w.heap.size ∧ w.cell? ⟨g, o + k, none⟩ = some (f xs[k]) := h.get (by simp [hk])
end

/-- A row of things of m cells: El says what the cells of one tell. -/
structure IsRow {α : Type} (t : TypeId) (m bytes : Nat) (El : World → Nat → List Value → α → Prop) (w : World) (B : Nat) (v : Value) (xs : List α) : Prop where
  ex : ∃ (A : Option Addr) (c : Nat) (css : List (List Value)), v = .slice A xs.length c ∧ xs.length ≤ c ∧ css.length = xs.length ∧ (∀ cs ∈ css, cs.length = m) ∧ Rd w B t A css.flatten ∧
    ∀ (j : Nat) (cs : List Value) (x : α), css[j]? = some cs → xs[j]? = some x → El w B cs x
  len : xs.length * bytes ≤ R47
theorem flatten_get {m : Nat} : ∀ {css : List (List Value)} (_ : ∀ cs ∈ css, cs.length = m) {k : Nat} {cs : List Value}, css[k]? = some cs → ∀ j, j < m → css.flatten[k * m + j]? = cs[j]?
  | [], _, k, cs, hk, _, _ => by simp at hk
  | c :: css, h, 0, cs, hk, j, hj => by
    simp only [List.getElem?_cons_zero, Option.some.injEq] at hk
    subst hk
    rw [List.flatten_cons, Nat.zero_mul, Nat.zero_add, List.getElem?_append_left (by rw [h c List.mem_cons_self]; exact hj)]
  | c :: css, h, k + 1, cs, hk, j, hj => by
    have hc := h c List.mem_cons_self
    rw [List.flatten_cons, List.getElem?_append_right (by rw [hc, Nat.succ_mul]; omega), hc, show (k + 1) * m + j - m = k * m + j from by rw [Nat.succ_mul]; omega]
    exact flatten_get (fun x hx => h x (List.mem_cons_of_mem _ hx)) (by simpa using hk) j hj
theorem flatten_at {m : Nat} : ∀ {css : List (List Value)} (_ : ∀ cs ∈ css, cs.length = m) {j : Nat} {u : Value}, css.flatten[j]? = some u → ∃ k i cs, css[k]? = some cs ∧ cs[i]? = some u ∧ i < m ∧ j = k * m + i
  | [], _, j, u, hj => by simp at hj
  | c :: css, h, j, u, hj => by
    have hc := h c List.mem_cons_self
    rw [List.flatten_cons] at hj
    rcases Nat.lt_or_ge j m with hlt | hge
    · rw [List.getElem?_append_left (by omega)] at hj
      exact ⟨0, j, c, rfl, hj, hlt, by omega⟩
    · rw [List.getElem?_append_right (by omega), hc] at hj
      obtain ⟨k, i, cs, h1, h2, h3, h4⟩ := flatten_at (fun x hx => h x (List.mem_cons_of_mem _ hx)) hj
      exact ⟨k + 1, i, cs, by simpa using h1, h2, h3, by rw [Nat.succ_mul]; omega⟩
theorem flatten_len {m : Nat} : ∀ {css : List (List Value)} (_ : ∀ cs ∈ css, cs.length = m), css.flatten.length = css.length * m
  | [], _ => by simp
  | c :: css, h => by
    rw [List.flatten_cons, List.length_append, h c List.mem_cons_self, flatten_len (fun x hx => h x (List.mem_cons_of_mem _ hx)), List.length_cons, Nat.succ_mul]
    omega
section
variable {α : Type} {t : TypeId} {m bytes : Nat} {El : World → Nat → List Value → α → Prop} {w w' : World} {B B' : Nat} {v : Value} {xs : List α} {Ts : List TypeId}
theorem IsRow.same (h : IsRow t m bytes El w B v xs) (ht : t ∈ Ts) (hs : Same Ts B w w') (hel : ∀ cs x, El w B cs x → El w' B cs x) : IsRow t m bytes El w' B v xs :=
  ⟨let ⟨A, c, css, h1, h2, h3, h4, h5, h6⟩ := h.ex; ⟨A, c, css, h1, h2, h3, h4, h5.same ht hs, fun j cs x hj hx => hel cs x (h6 j cs x hj hx)⟩, h.len⟩
theorem IsRow.mono (h : IsRow t m bytes El w B v xs) (hB : B ≤ B') (hel : ∀ cs x, El w B cs x → El w B' cs x) : IsRow t m bytes El w B' v xs :=
  ⟨let ⟨A, c, css, h1, h2, h3, h4, h5, h6⟩ := h.ex; ⟨A, c, css, h1, h2, h3, h4, h5.mono hB, fun j cs x hj hx => hel cs x (h6 j cs x hj hx)⟩, h.len⟩
theorem IsRow.form (h : IsRow t m bytes El w B v xs) : ∃ A n c, v = .slice A n c := by
  obtain ⟨A, c, _, e, _⟩ := h.ex
  exact ⟨A, _, c, e⟩
theorem IsRow.nil_ : IsRow t m bytes El w B (.slice none 0 0) [] := ⟨⟨none, 0, [], rfl, Nat.le_refl _, rfl, (fun cs h => by simp at h), Rd.nil, (fun j cs x h => by simp at h)⟩, by simp [R47]⟩
/-- one of a row -/
theorem row_get {A : Option Addr} {css : List (List Value)} {k : Nat} (hl : css.length = xs.length) (hm : ∀ cs ∈ css, cs.length = m) (hpos : 0 < m) (h : Rd w B t A css.flatten)
    (h6 : ∀ (j : Nat) (cs : List Value) (x : α), css[j]? = some cs → xs[j]? = some x → El w B cs x) (hk : k < xs.length) :
    ∃ g o cs, A = some ⟨g, o, none⟩ ∧ g < w.heap.size ∧ cs.length = m ∧ (∀ j u, cs[j]? = some u → w.cell? ⟨g, o + (k * m + j), none⟩ = some u) ∧ El w B cs xs[k] := by
  have hkc : k < css.length := by omega
  have hcs := List.getElem?_eq_getElem hkc
  have hml := hm _ (List.getElem_mem hkc)
  have h0 : css[k][0]? = some (css[k][0]'(by omega)) := List.getElem?_eq_getElem (by omega)
  obtain ⟨g, o, hA, hg, _⟩ := h.get ((flatten_get hm hcs 0 hpos).trans h0)
  refine ⟨g, o, css[k], hA, hg, hml, fun j u hj => ?_, h6 k _ _ hcs (List.getElem?_eq_getElem hk)⟩
  have hjm : j < m := by
    rcases Nat.lt_or_ge j m with h | h
    · exact h
    · rw [List.getElem?_eq_none (by omega)] at hj; cases hj
  obtain ⟨g', o', hA', _, hc⟩ := h.get ((flatten_get hm hcs j hjm).trans hj)
  rw [hA] at hA'
  simp only [Option.some.injEq, Addr.mk.injEq, and_true] at hA'
  obtain ⟨rfl, rfl⟩ := hA'
  exact hc
end

/- how a row that came in is opened -/
section
variable {H : Type} {enc : TypeId × Value → H} {w : World} {base : Nat} {spare : Nat → Bool} {held : Bool} {n : Nat}
theorem trod_row {α : Type} (d0 : α) {t e : TypeId} {m bytes : Nat} {El : World → Nat → List Value → α → Prop} (ht : Try.prog.underlying t = some (.slice e)) (hm : Try.prog.cellsOf e = m) (hby : Try.prog.bytesOf e = bytes) (hpos : 0 < m)
    (hel : ∀ {n : Nat} {cs : List Value} {x : DataW H × List MemPlace}, DataW.trod enc Try.prog w base spare held n e cs = some x → (∀ k ∈ x.1.weights Try.prog e, k ≤ reachBytes) → ∃ a, El w w.heap.size cs a)
    {v : Value} {x : DataW H × List MemPlace} (h : DataW.trod enc Try.prog w base spare held n t [v] = some x) (hw : ∀ k ∈ x.1.weights Try.prog t, k ≤ reachBytes) : ∃ xs, IsRow e m bytes El w w.heap.size v xs := by
  rcases Go.Deep.open_slice ht h with ⟨e0, rfl⟩ | ⟨a, len, cap, mm, n', D, Pl, e0, hb, hl, hmx, hmm, rfl, hx⟩
  · simp at e0; subst e0; exact ⟨[], IsRow.nil_⟩
  · simp only [List.cons.injEq, and_true] at e0
    subst e0
    have hle : len ≤ mm := by rw [hmm]; split <;> omega
    have hwt : ∀ k ∈ DataW.weights Try.prog t (DataW.slice ((List.range len).map D) ((List.range (mm - len)).map fun j => D (len + j))), k ≤ reachBytes := hw
    simp only [DataW.weights, ht, List.mem_cons, List.mem_append, hby] at hwt
    have hwl := hwt _ (.inl rfl)
    simp only [List.length_map, List.length_range] at hwl
    have hall : ∀ i, ∃ p : List Value × α, i < len → w.cells? base (a.add (i * m)) m = some p.1 ∧ El w w.heap.size p.1 p.2 := by
      intro i
      by_cases hi : i < len
      · obtain ⟨cs, hc, htr⟩ := hx i (by omega)
        obtain ⟨y, hy⟩ := hel htr (fun k hk => hwt k (.inr (.inl (weightsAll_mem hk (List.mem_map.2 ⟨i, by simpa using hi, rfl⟩)))))
        exact ⟨(cs, y), fun _ => ⟨by rw [hm] at hc; exact hc, hy⟩⟩
      · exact ⟨([], d0), fun h => absurd h hi⟩
    obtain ⟨f, hf⟩ := Classical.axiomOfChoice hall
    have hlen : ∀ cs ∈ (List.range len).map (fun i => (f i).1), cs.length = m := by
      intro cs hcs
      obtain ⟨i, hi, rfl⟩ := List.mem_map.1 hcs
      exact (World.cells?_some (hf i (by simpa using hi)).1).2.1
    refine ⟨(List.range len).map (fun i => (f i).2), ⟨some a, cap, (List.range len).map (fun i => (f i).1), by simp, by simpa using hl, by simp, hlen, ?_, ?_⟩, ?_⟩
    · rcases Nat.eq_zero_or_pos len with h0 | h0
      · subst h0
        exact .inl (by simp)
      · obtain ⟨_, hcl, hat⟩ := World.cells?_some (hf 0 h0).1
        have hc0 : w.cell? ((a.add (0 * m)).add 0) = some ((f 0).1[0]'(by omega)) := by rw [hat 0 hpos, List.getElem?_eq_getElem (by omega)]
        rw [Nat.zero_mul, Go.Deep.add_add] at hc0
        obtain ⟨b, o, spot⟩ := a
        have hspot : spot = none := by simpa [Addr.add] using World.cell?_spot hc0
        subst hspot
        have hbl : b < w.heap.size := by
          rcases Nat.lt_or_ge b w.heap.size with h | h
          · exact h
          · simp [World.cell?, Addr.add, Array.getElem?_eq_none h] at hc0
        refine .inr ⟨b, o, rfl, hbl, .inl hbl, fun j u hj => ?_⟩
        obtain ⟨k, i, cs, h1, h2, h3, rfl⟩ := flatten_at hlen hj
        have hk' : k < len := by
          rcases Nat.lt_or_ge k len with h | h
          · exact h
          · rw [List.getElem?_eq_none (by simp; omega)] at h1; cases h1
        simp [hk'] at h1
        subst h1
        obtain ⟨_, _, hatk⟩ := World.cells?_some (hf k hk').1
        have := hatk i h3
        rw [Go.Deep.add_add] at this
        have e2 : (⟨b, o, none⟩ : Addr).add (k * m + i) = ⟨b, o + (k * m + i), none⟩ := by unfold Addr.add; split <;> simp_all
        rw [e2] at this
        rw [this, h2]
    · intro j cs y hu hy
      have hj' : j < len := by
        rcases Nat.lt_or_ge j len with h | h
        · exact h
        · rw [List.getElem?_eq_none (by simp; omega)] at hu; cases hu
      simp [hj'] at hu hy
      subst hu hy
      exact (hf j hj').2
    · have hrb : reachBytes = R47 := rfl
      simp only [List.length_map, List.length_range]
      rw [← hrb]
      refine Nat.le_trans ?_ hwl
      exact Nat.mul_le_mul_right _ (by omega)
theorem trod_ones {α : Type} (d0 : α) {t e : TypeId} {bytes : Nat} {f : α → Value} (ht : Try.prog.underlying t = some (.slice e)) (hm : Try.prog.cellsOf e = 1) (hby : Try.prog.bytesOf e = bytes)
    (hel : ∀ {n : Nat} {cs : List Value} {x : DataW H × List MemPlace}, DataW.trod enc Try.prog w base spare held n e cs = some x → ∃ a, cs = [f a])
    {v : Value} {x : DataW H × List MemPlace} (h : DataW.trod enc Try.prog w base spare held n t [v] = some x) (hw : ∀ k ∈ x.1.weights Try.prog t, k ≤ reachBytes) : ∃ xs, IsOnes e bytes f w w.heap.size v xs := by
  obtain ⟨xs, ⟨⟨A, c, css, h1, h2, h3, h4, h5, h6⟩, h7⟩⟩ := trod_row (m := 1) (bytes := bytes) (El := fun _ _ cs a => cs = [f a]) d0 ht hm hby (by omega) (fun h _ => hel h) h hw
  refine ⟨xs, ⟨A, c, h1, h2, ?_⟩, h7⟩
  have e : css.flatten = xs.map f := by
    have : css = xs.map fun a => [f a] := by
      apply List.ext_getElem (by simp [h3])
      intro j hj hj'
      have hjx : j < xs.length := by omega
      rw [List.getElem_map]
      exact h6 j _ _ (List.getElem?_eq_getElem hj) (List.getElem?_eq_getElem hjx)
    rw [this]
    clear this h6 h5 h4 h3 h2 h1 h7
    induction xs with
    | nil => rfl
    | cons y ys ih => simp [ih]
  rw [← e]
  exact h5
end
end Go.Proofs.Ytlaibljdlpmbfaa
/- Equations on runs: structs compared. -/
namespace Go.Proofs.Ytlaibljdlpmbfaa
open Go.RowKit
set_option maxHeartbeats 400000
set_option maxRecDepth 100000
theorem op_dec (a b : Scu.Op) : decide (a = b) = (a.kind == b.kind && (a.at_ == b.at_ && (a.snap == b.snap && decide (a.data = b.data)))) := by
  cases a; cases b
  rw [Bool.eq_iff_iff]
  simp
theorem reply_dec (a b : Scu.Reply) : decide (a = b) = (a.code == b.code && (a.n == b.n && decide (a.data = b.data))) := by
  cases a; cases b
  rw [Bool.eq_iff_iff]
  simp
theorem last_dec (a b : Scu.Last) : decide (a = b) = (a.num == b.num && decide (a.reply = b.reply)) := by
  cases a; cases b
  rw [Bool.eq_iff_iff]
  simp
theorem request_dec (a b : Scu.Request) : decide (a = b) = (a.client == b.client && (a.num == b.num && decide (a.op = b.op))) := by
  cases a; cases b
  rw [Bool.eq_iff_iff]
  simp
end Go.Proofs.Ytlaibljdlpmbfaa
/- Walks: the comparison of states; laws on new states. -/
namespace Go.Proofs.Ytlaibljdlpmbfaa
open Go.RowKit
set_option maxHeartbeats 400000
set_option maxRecDepth 100000
theorem state_eq {x y : Scu.State} (h1 : x.volume = y.volume) (h2 : x.lasts = y.lasts) : x = y := by
  cases x; cases y; simp_all
theorem last_ne (a b : Scu.Last) : (!(a.num == b.num && a.reply.code == b.reply.code && a.reply.n == b.reply.n && decide (a.reply.data = b.reply.data))) = !decide (a = b) := by
  obtain ⟨n, ⟨c, m, d⟩⟩ := a
  obtain ⟨n', ⟨c', m', d'⟩⟩ := b
  simp only [Bool.not_eq_eq_eq_not, Bool.not_not]
  rw [Bool.eq_iff_iff]
  simp [and_assoc]
end Go.Proofs.Ytlaibljdlpmbfaa
/- Walks: may a state be? The program's and the reference's; the law MachineChecks. -/
namespace Go.Proofs.Ytlaibljdlpmbfaa
open Go.RowKit Go.ChangeShapes Go.WideShapes Go.ChangeAt
set_option maxHeartbeats 400000
set_option maxRecDepth 100000

theorem cells_errno : Try.prog.cellsOf 34 = 1 := by kernel_rfl
section
variable {H : Type} {enc : TypeId × Value → H} {w : World} {base : Nat} {spare : Nat → Bool} {held : Bool} {n : Nat}
end

def lastBad (l : Scu.Last) : Bool := decide (l.num < 0) || decide ((1048576 : Int) < l.num)
theorem lastsOk_any (ls : List Scu.Last) : Scu.lastsOk ls = (ls.length == 4 && !ls.any lastBad) := by
  unfold Scu.lastsOk
  rw [any_not ls lastBad _ (fun x _ => by unfold lastBad; rw [Bool.eq_iff_iff]; simp)]
theorem stateFault_any (x : Scu.State) : Scu.stateFault x = if (((x.lasts.length : Int) != 4) || x.lasts.any lastBad) = true then 8 else Scu.volFault x.volume := by
  unfold Scu.stateFault
  rw [lastsOk_any]
  have : ((x.lasts.length : Int) != 4) = !(x.lasts.length == 4) := by rw [Bool.eq_iff_iff]; simp; omega
  rw [this]
  cases (x.lasts.length == 4) <;> cases x.lasts.any lastBad <;> rfl
/- the reference's -/
def inB (n a b : Int) : Bool := decide (a ≤ n) && decide (n ≤ b)
theorem inn_c (n a b : Int) (w : World) : Calls Try.prog 33 #[.int .i64 n, .int .i64 a, .int .i64 b] w fun e w' => e = .returned (.bool (inB n a b)) ∧ w = w' := by
  cases h1 : decide (a ≤ n) <;> cases h2 : decide (n ≤ b)
  all_goals
    have HF := Lib.hid (show inB n a b = _ from by unfold inB; rw [h1, h2])
    go_enter Try.func33, Try.ntmps33
    go_wp2
    go_ret
    exact ⟨ret_val (bool_eq (by rw [HF.out]; rfl)), rfl⟩
def lastsTo (x : Scu.State) (k : Nat) : Bool := x.lasts.length == 4 && (x.lasts.take k).all fun l => inB l.num 0 1048576
theorem lastsTo_all (x : Scu.State) (k : Nat) (h : x.lasts.length ≤ k) : lastsTo x k = Scu.lastsOk x.lasts := by
  unfold lastsTo Scu.lastsOk
  rw [List.take_of_length_le h]
  rfl
theorem lastsTo_succ (x : Scu.State) (k : Nat) (h : k < x.lasts.length) : lastsTo x (k + 1) = (lastsTo x k && inB x.lasts[k].num 0 1048576) := by
  unfold lastsTo
  rw [List.take_succ_eq_append_getElem h, List.all_append]
  simp only [List.all_cons, List.all_nil, Bool.and_true, Bool.and_assoc]
theorem lastsTo_zero (x : Scu.State) : lastsTo x 0 = ((x.lasts.length : Int) == 4) := by
  unfold lastsTo
  rw [Bool.eq_iff_iff]; simp; omega
end Go.Proofs.Ytlaibljdlpmbfaa
namespace Scu

def L (s : Str) : List UInt8 := s.data.toList
theorem L_ext {s t : Str} (h : L s = L t) : s = t := by
  apply ByteArray.ext
  exact Array.toList_inj.1 h
theorem L_append (s t : Str) : L (s ++ t) = L s ++ L t := by
  simp [L, ByteArray.data_append]
theorem L_size (s : Str) : (L s).length = s.size := by simp [L]
theorem L_str0 : L str0 = [] := rfl
theorem L_mk (l : List UInt8) : L ⟨l.toArray⟩ = l := rfl
theorem L_extract (s : Str) (a b : Nat) : L (s.extract a b) = ((L s).drop a).take (b - a) := by
  simp [L, ByteArray.data_extract]
theorem L_dropS (s : Str) (k : Nat) : L (dropS s k) = (L s).drop k := by
  unfold dropS
  rw [L_extract, List.take_of_length_le (by rw [List.length_drop, L_size]; omega)]
theorem size_zero_iff (s : Str) : s.size = 0 ↔ s = str0 := by
  constructor
  · intro h
    apply L_ext
    rw [L_str0]
    exact List.length_eq_zero_iff.1 (by rw [L_size]; exact h)
  · rintro rfl; rfl
theorem str0_append (s : Str) : str0 ++ s = s := L_ext (by rw [L_append, L_str0, List.nil_append])
theorem append_str0 (s : Str) : s ++ str0 = s := L_ext (by rw [L_append, L_str0, List.append_nil])
theorem append_assoc_s (a b c : Str) : a ++ b ++ c = a ++ (b ++ c) := L_ext (by simp only [L_append, List.append_assoc])
theorem dropS_append (a b : Str) : dropS (a ++ b) a.size = b := L_ext (by rw [L_dropS, L_append, ← L_size, List.drop_left])
theorem extract_append (a b : Str) : (a ++ b).extract 0 a.size = a := L_ext (by rw [L_extract, L_append, ← L_size]; simp)
theorem byteAt_L (s : Str) (i : Nat) : byteAt s i = (((L s).getD i 0).toNat : Int) := rfl
theorem byteAt_append_lt (a b : Str) (i : Nat) (h : i < a.size) : byteAt (a ++ b) i = byteAt a i := by
  rw [byteAt_L, byteAt_L, L_append]
  simp [List.getElem?_append_left (by rw [L_size]; exact h : i < (L a).length)]
theorem byteAt_range (s : Str) (i : Nat) : 0 ≤ byteAt s i ∧ byteAt s i < 256 := by
  unfold byteAt
  have := (s.data.toList.getD i 0).toNat_lt
  omega
theorem b8_toNat (n : Int) : ((b8 n).toNat : Int) = n % 256 := by
  unfold b8
  rw [UInt8.toNat_ofNat']
  omega
theorem b8_of_byte (x : UInt8) : b8 (x.toNat : Int) = x := by
  apply UInt8.toNat_inj.1
  have := b8_toNat (x.toNat : Int)
  have := x.toNat_lt
  omega

theorem numBytes_size (n : Int) : (numBytes n).size = 4 := rfl
theorem num4_range (s : Str) : 0 ≤ num4 s ∧ num4 s < 4294967296 := by
  unfold num4
  have := byteAt_range s 0; have := byteAt_range s 1; have := byteAt_range s 2; have := byteAt_range s 3
  omega
theorem num4_numBytes (n : Int) (t : Str) (h0 : 0 ≤ n) (h1 : n ≤ 1073741824) : num4 (numBytes n ++ t) = n := by
  unfold num4
  rw [byteAt_append_lt _ _ 0 (by rw [numBytes_size]; omega), byteAt_append_lt _ _ 1 (by rw [numBytes_size]; omega), byteAt_append_lt _ _ 2 (by rw [numBytes_size]; omega), byteAt_append_lt _ _ 3 (by rw [numBytes_size]; omega)]
  have e0 : byteAt (numBytes n) 0 = (n / 16777216) % 256 := b8_toNat _
  have e1 : byteAt (numBytes n) 1 = (n / 65536) % 256 := b8_toNat _
  have e2 : byteAt (numBytes n) 2 = (n / 256) % 256 := b8_toNat _
  have e3 : byteAt (numBytes n) 3 = n % 256 := b8_toNat _
  rw [e0, e1, e2, e3]
  omega
theorem readNumber_numBytes (n : Int) (t : Str) (h0 : 0 ≤ n) (h1 : n ≤ 1073741824) : readNumber (numBytes n ++ t) = (n, t, 0) := by
  unfold readNumber
  rw [if_neg (by rw [ByteArray.size_append, numBytes_size]; omega), num4_numBytes n t h0 h1, if_neg (by omega)]
  have : dropS (numBytes n ++ t) 4 = t := dropS_append (numBytes n) t
  rw [this]
theorem textBytes_size (s : Str) : (textBytes s).size = 1 + s.size := by
  unfold textBytes
  rw [ByteArray.size_append]
  rfl
theorem byteAt_textBytes (s t : Str) (h : s.size ≤ 255) : byteAt (textBytes s ++ t) 0 = s.size := by
  rw [byteAt_append_lt _ _ 0 (by rw [textBytes_size]; omega)]
  unfold textBytes
  have e1 : byteAt ((⟨#[b8 (s.size : Int)]⟩ : Str) ++ s) 0 = byteAt (⟨#[b8 (s.size : Int)]⟩ : Str) 0 := byteAt_append_lt _ _ 0 (show 0 < 1 by omega)
  rw [e1]
  have : byteAt (⟨#[b8 (s.size : Int)]⟩ : Str) 0 = (s.size : Int) % 256 := b8_toNat _
  rw [this]
  omega
theorem readText_textBytes (s t : Str) (h : s.size ≤ 255) : readText (textBytes s ++ t) = (s, t, 0) := by
  unfold readText
  have hsz : (textBytes s ++ t).size = 1 + s.size + t.size := by rw [ByteArray.size_append, textBytes_size]
  rw [if_neg (by rw [hsz]; omega), byteAt_textBytes s t h, if_neg (by rw [hsz]; omega), show (1 + (s.size : Int)).toNat = 1 + s.size from by omega]
  have h1 : dropS (textBytes s ++ t) (1 + s.size) = t := by
    have := dropS_append (textBytes s) t
    rwa [textBytes_size] at this
  have h2 : (textBytes s ++ t).extract 1 (1 + s.size) = s := by
    apply L_ext
    rw [L_extract, L_append]
    unfold textBytes
    rw [L_append, L_mk]
    simp [← L_size]
  rw [h1, h2]

/- what begins so -/
def Pre (p s : Str) : Prop := L p <+: L s
theorem Pre.size {p s : Str} (h : Pre p s) : p.size ≤ s.size := by
  have := List.IsPrefix.length_le h
  rwa [L_size, L_size] at this
theorem Pre.split {p a b : Str} (h : Pre p (a ++ b)) (hs : a.size ≤ p.size) : ∃ q, p = a ++ q ∧ Pre q b := by
  unfold Pre at h
  rw [L_append] at h
  have ha : L a <+: L p := List.prefix_of_prefix_length_le (List.prefix_append _ _) h (by rw [L_size, L_size]; exact hs)
  obtain ⟨t, ht⟩ := ha
  refine ⟨⟨t.toArray⟩, L_ext (by rw [L_append, L_mk]; exact ht.symm), ?_⟩
  unfold Pre
  rw [L_mk]
  rw [← ht] at h
  exact (List.prefix_append_right_inj (L a)).1 h
theorem Pre.byte {p a : Str} (h : Pre p a) (i : Nat) (hi : i < p.size) : byteAt p i = byteAt a i := by
  obtain ⟨t, ht⟩ := h
  rw [byteAt_L, byteAt_L, ← ht]
  simp [List.getElem?_append_left (by rw [L_size]; exact hi : i < (L p).length)]

theorem readNumbers_numBytes : ∀ (l : List Int) (t : Str), (∀ n ∈ l, 0 ≤ n ∧ n ≤ 1073741824) → readNumbers l.length (catS (l.map numBytes) ++ t) = (l, t, 0)
  | [], t, _ => by simp [readNumbers, catS, str0_append]
  | n :: l, t, h => by
    have ih := readNumbers_numBytes l t (fun m hm => h m (List.mem_cons_of_mem _ hm))
    have hn := h n List.mem_cons_self
    simp only [List.length_cons, List.map_cons, catS, readNumbers]
    rw [append_assoc_s, readNumber_numBytes n _ hn.1 hn.2]
    simp [ih]
theorem readTexts_textBytes : ∀ (l : List Str) (t : Str), (∀ s ∈ l, s.size ≤ 255) → readTexts l.length (catS (l.map textBytes) ++ t) = (l, t, 0)
  | [], t, _ => by simp [readTexts, catS, str0_append]
  | s :: l, t, h => by
    have ih := readTexts_textBytes l t (fun m hm => h m (List.mem_cons_of_mem _ hm))
    have hn := h s List.mem_cons_self
    simp only [List.length_cons, List.map_cons, catS, readTexts]
    rw [append_assoc_s, readText_textBytes s _ hn]
    simp [ih]
/-- texts that are cut short are not read -/
theorem readTexts_cut : ∀ (l : List Str) (p : Str), (∀ s ∈ l, s.size ≤ 255) → Pre p (catS (l.map textBytes)) → p.size < (catS (l.map textBytes)).size →
    (readTexts l.length p).2.2 ≠ 0
  | [], p, _, _, hlt => by simp [catS, str0] at hlt
  | s :: l, p, h, hp, hlt => by
    have hs := h s List.mem_cons_self
    simp only [List.length_cons, List.map_cons, catS, readTexts] at hp hlt ⊢
    by_cases hsz : (textBytes s).size ≤ p.size
    · obtain ⟨q, rfl, hq⟩ := hp.split hsz
      rw [readText_textBytes s q hs]
      have hlt' : q.size < (catS (l.map textBytes)).size := by rw [ByteArray.size_append, ByteArray.size_append] at hlt; omega
      have := readTexts_cut l q (fun m hm => h m (List.mem_cons_of_mem _ hm)) hq hlt'
      simp [this]
    · have hr : (readText p).2.2 = 5 := by
        unfold readText
        rw [textBytes_size] at hsz
        by_cases h0 : p.size = 0
        · rw [if_pos h0]
        · rw [if_neg h0]
          have hb : byteAt p 0 = s.size := by rw [hp.byte 0 (by omega), byteAt_textBytes s _ hs]
          rw [hb, if_pos (by omega)]
      simp [hr]
/-- numbers that are cut short are not read -/
theorem readNumbers_cut : ∀ (l : List Int) (p t : Str), (∀ n ∈ l, 0 ≤ n ∧ n ≤ 1073741824) → Pre p (catS (l.map numBytes) ++ t) → p.size < 4 * l.length →
    (readNumbers l.length p).2.2 ≠ 0
  | [], p, t, _, _, hlt => by simp at hlt
  | n :: l, p, t, h, hp, hlt => by
    have hn := h n List.mem_cons_self
    simp only [List.length_cons, List.map_cons, catS, readNumbers] at hp hlt ⊢
    rw [append_assoc_s] at hp
    by_cases hsz : (numBytes n).size ≤ p.size
    · obtain ⟨q, rfl, hq⟩ := hp.split hsz
      rw [readNumber_numBytes n q hn.1 hn.2]
      have hlt' : q.size < 4 * l.length := by rw [ByteArray.size_append, numBytes_size] at hlt; omega
      have := readNumbers_cut l q t (fun m hm => h m (List.mem_cons_of_mem _ hm)) hq hlt'
      simp [this]
    · have hr : (readNumber p).2.2 = 5 := by
        unfold readNumber
        rw [numBytes_size] at hsz
        rw [if_pos (by omega)]
      simp [hr]

/- entries -/
theorem readText_rest (s : Str) (h : (readText s).2.2 = 0) : (readText s).1.size ≤ 255 := by
  unfold readText at h ⊢
  split
  · rename_i hx; rw [if_pos hx] at h; simp at h
  rename_i hx; rw [if_neg hx] at h
  split
  · rename_i hx; rw [if_pos hx] at h; simp at h
  · have := byteAt_range s 0
    simp only [ByteArray.size_extract]
    omega
theorem decode_size {s : Str} (h : (decode s).2 = 0) : s.size ≤ 40 := by
  unfold decode at h
  split at h
  · simp at h
  · omega
theorem opFault_ok {o : Op} (h : opFault o = 0) : 1 ≤ o.kind ∧ o.kind ≤ 4 ∧ 0 ≤ o.at_ ∧ o.at_ < 6 ∧ 0 ≤ o.snap ∧ o.snap ≤ 3 ∧ o.data.size ≤ 8 ∧
    (o.kind ≠ 3 → o.snap = 0) ∧ (o.kind = 4 → o.at_ = 0) ∧ (o.kind ≠ 1 → o.data = str0) := by
  unfold opFault at h
  split at h
  · omega
  split at h
  · omega
  split at h
  · omega
  split at h
  · omega
  rename_i h1 h2 h3 h4
  refine ⟨by omega, by omega, by omega, by omega, by omega, by omega, by omega, by omega, by omega, fun hk => ?_⟩
  apply (size_zero_iff _).1
  omega
theorem reqFault_ok {r : Request} (h : reqFault r = 0) : 1 ≤ r.client ∧ r.client ≤ 4 ∧ 1 ≤ r.num ∧ r.num ≤ 1048576 ∧ opFault r.op = 0 := by
  unfold reqFault at h
  split at h
  · omega
  · exact ⟨by omega, by omega, by omega, by omega, h⟩
theorem reqBytes_size (r : Request) : (reqBytes r).size = 9 + r.op.data.size := by
  unfold reqBytes
  rw [ByteArray.size_append, ByteArray.size_append, numBytes_size, textBytes_size]
  show 4 + 4 + _ = _
  omega
/-- a request is read as it was written -/
theorem decode_reqBytes {r : Request} (h : reqFault r = 0) : decode (reqBytes r) = (r, 0) := by
  obtain ⟨h1, h2, h3, h4, h5⟩ := reqFault_ok h
  obtain ⟨o1, o2, o3, o4, o5, o6, o7, o8, o9, o10⟩ := opFault_ok h5
  have hsz := reqBytes_size r
  have hd : dropS (reqBytes r) 4 = numBytes r.num ++ (textBytes r.op.data ++ str0) := by
    have := dropS_append (⟨#[b8 r.client, b8 r.op.kind, b8 r.op.at_, b8 r.op.snap]⟩ : Str) (numBytes r.num ++ textBytes r.op.data)
    unfold reqBytes
    rw [append_assoc_s, append_str0]
    exact this
  have hb : ∀ i, i < 4 → byteAt (reqBytes r) i = byteAt (⟨#[b8 r.client, b8 r.op.kind, b8 r.op.at_, b8 r.op.snap]⟩ : Str) i := fun i hi => by
    unfold reqBytes
    rw [append_assoc_s]
    exact byteAt_append_lt _ _ i hi
  have b0 : byteAt (reqBytes r) 0 = r.client := by
    rw [hb 0 (by omega)]
    have : byteAt (⟨#[b8 r.client, b8 r.op.kind, b8 r.op.at_, b8 r.op.snap]⟩ : Str) 0 = r.client % 256 := b8_toNat _
    omega
  have b1 : byteAt (reqBytes r) 1 = r.op.kind := by
    rw [hb 1 (by omega)]
    have : byteAt (⟨#[b8 r.client, b8 r.op.kind, b8 r.op.at_, b8 r.op.snap]⟩ : Str) 1 = r.op.kind % 256 := b8_toNat _
    omega
  have b2 : byteAt (reqBytes r) 2 = r.op.at_ := by
    rw [hb 2 (by omega)]
    have : byteAt (⟨#[b8 r.client, b8 r.op.kind, b8 r.op.at_, b8 r.op.snap]⟩ : Str) 2 = r.op.at_ % 256 := b8_toNat _
    omega
  have b3 : byteAt (reqBytes r) 3 = r.op.snap := by
    rw [hb 3 (by omega)]
    have : byteAt (⟨#[b8 r.client, b8 r.op.kind, b8 r.op.at_, b8 r.op.snap]⟩ : Str) 3 = r.op.snap % 256 := b8_toNat _
    omega
  unfold decode
  rw [if_neg (by omega), if_neg (by omega), hd, readNumber_numBytes _ _ (by omega) (by omega)]
  simp only [ne_eq, not_true_eq_false, if_false]
  rw [readText_textBytes _ _ (by omega), b0, b1, b2, b3]
  simp [h]

theorem logFault_ok : ∀ {l : List Str}, logFault l = 0 → ∀ e ∈ l, (decode e).2 = 0
  | [], _, _, he => by simp at he
  | x :: l, h, e, he => by
    unfold logFault at h
    split at h
    · exact absurd h (by assumption)
    · rcases List.mem_cons.1 he with rfl | he
      · omega
      · exact logFault_ok h e he
theorem logFault_mk : ∀ {l : List Str}, (∀ e ∈ l, (decode e).2 = 0) → logFault l = 0
  | [], _ => rfl
  | x :: l, h => by
    unfold logFault
    rw [if_neg (by have := h x List.mem_cons_self; omega)]
    exact logFault_mk fun e he => h e (List.mem_cons_of_mem _ he)
theorem keptFault_ok {k : Kept} (h : keptFault k = 0) : 0 ≤ k.view ∧ k.view ≤ 1048576 ∧ 0 ≤ k.normal ∧ k.normal ≤ k.view ∧ (k.calm = true → k.normal = k.view) ∧
    k.log.length ≤ 60 ∧ 0 ≤ k.commit ∧ k.commit ≤ k.log.length ∧ ∀ e ∈ k.log, (decode e).2 = 0 := by
  unfold keptFault at h
  split at h
  · omega
  split at h
  · omega
  split at h
  · omega
  rename_i h1 h2 h3
  refine ⟨by omega, by omega, by omega, by omega, fun hc => ?_, by omega, by omega, by omega, logFault_ok h⟩
  apply Classical.byContradiction
  intro hn
  exact h1 (.inr (.inr (.inr (.inr ⟨hc, hn⟩))))
theorem keptFault_mk {k : Kept} (h1 : 0 ≤ k.view) (h2 : k.view ≤ 1048576) (h3 : 0 ≤ k.normal) (h4 : k.normal ≤ k.view) (h5 : k.calm = true → k.normal = k.view)
    (h6 : k.log.length ≤ 60) (h7 : 0 ≤ k.commit) (h8 : k.commit ≤ k.log.length) (h9 : ∀ e ∈ k.log, (decode e).2 = 0) : keptFault k = 0 := by
  unfold keptFault
  rw [if_neg, if_neg (by omega), if_neg (by omega)]
  · exact logFault_mk h9
  · rintro (h | h | h | h | ⟨h, h'⟩)
    · omega
    · omega
    · omega
    · omega
    · exact h' (h5 h)

/- four bytes of a sum -/
theorem sealStep_bd (p : Int × Int) (b : UInt8) (_h : 0 ≤ p.1 ∧ 0 ≤ p.2) : 0 ≤ (sealStep p b).1 ∧ (sealStep p b).1 < 65521 ∧ 0 ≤ (sealStep p b).2 ∧ (sealStep p b).2 < 65521 := by
  unfold sealStep
  simp only
  omega
theorem sealXY_bd (l : List UInt8) : 0 ≤ (sealXY l).1 ∧ (sealXY l).1 < 65521 ∧ 0 ≤ (sealXY l).2 ∧ (sealXY l).2 < 65521 := by
  unfold sealXY
  have : ∀ (l : List UInt8) (p : Int × Int), (0 ≤ p.1 ∧ p.1 < 65521 ∧ 0 ≤ p.2 ∧ p.2 < 65521) → (0 ≤ (l.foldl sealStep p).1 ∧ (l.foldl sealStep p).1 < 65521 ∧ 0 ≤ (l.foldl sealStep p).2 ∧ (l.foldl sealStep p).2 < 65521) := by
    intro l
    induction l with
    | nil => intro p h; exact h
    | cons b l ih => intro p h; exact ih _ (sealStep_bd p b ⟨h.1, h.2.2.1⟩)
  exact this l (1, 0) (by simp)
def total (l : List UInt8) : Nat := (l.map UInt8.toNat).sum
theorem sealXY_x (l : List UInt8) : (sealXY l).1 = (1 + (total l : Int)) % 65521 := by
  unfold sealXY
  have : ∀ (l : List UInt8) (p : Int × Int), (0 ≤ p.1 ∧ p.1 < 65521) → (l.foldl sealStep p).1 = (p.1 + (total l : Int)) % 65521 := by
    intro l
    induction l with
    | nil => intro p h; simp [total]; omega
    | cons b l ih =>
      intro p h
      rw [List.foldl_cons, ih _ (by unfold sealStep; simp only; omega)]
      have e : (total (b :: l) : Int) = b.toNat + (total l : Int) := by simp [total]
      rw [e]
      unfold sealStep
      simp only
      omega
  exact this l (1, 0) (by simp)
theorem sealS_size (s : Str) : (sealS s).size = 4 := rfl
theorem sealS_inj_x {s t : Str} (h : sealS s = sealS t) : (sealXY (L s)).1 = (sealXY (L t)).1 := by
  have hs := sealXY_bd (L s)
  have ht := sealXY_bd (L t)
  have h2 : byteAt (sealS s) 2 = byteAt (sealS t) 2 := by rw [h]
  have h3 : byteAt (sealS s) 3 = byteAt (sealS t) 3 := by rw [h]
  have e2 : ∀ u : Str, byteAt (sealS u) 2 = ((sealXY (L u)).1 / 256) % 256 := fun u => b8_toNat _
  have e3 : ∀ u : Str, byteAt (sealS u) 3 = (sealXY (L u)).1 % 256 := fun u => b8_toNat _
  rw [e2, e2] at h2
  rw [e3, e3] at h3
  omega

/- what is kept -/
theorem catS_append (a b : List Str) : catS (a ++ b) = catS a ++ catS b := by
  induction a with
  | nil => simp [catS, str0_append]
  | cons x a ih => simp [catS, ih, append_assoc_s]
def nums (k : Kept) (gen : Int) : List Int := [gen, k.view, k.normal, if k.calm then 1 else 0, k.commit, k.log.length]
theorem keptBody_eq (k : Kept) (gen : Int) : keptBody k gen = catS ((nums k gen).map numBytes) ++ catS (k.log.map textBytes) := by
  unfold keptBody nums
  simp only [List.map_cons, List.map_nil, catS, append_assoc_s, str0_append]
theorem nums_bd {k : Kept} (h : keptFault k = 0) {gen : Int} (h0 : 0 ≤ gen) (h1 : gen ≤ 1073741824) : ∀ n ∈ nums k gen, 0 ≤ n ∧ n ≤ 1073741824 := by
  obtain ⟨k1, k2, k3, k4, k5, k6, k7, k8, k9⟩ := keptFault_ok h
  intro n hn
  simp only [nums, List.mem_cons, List.not_mem_nil, or_false] at hn
  rcases hn with rfl | rfl | rfl | rfl | rfl | rfl
  · omega
  · omega
  · omega
  · split <;> omega
  · omega
  · omega
theorem catS_nums_size (l : List Int) : (catS (l.map numBytes)).size = 4 * l.length := by
  induction l with
  | nil => rfl
  | cons n l ih => simp only [List.map_cons, catS, ByteArray.size_append, ih, numBytes_size, List.length_cons]; omega
theorem catS_texts_size (l : List Str) (h : ∀ s ∈ l, s.size ≤ 40) : (catS (l.map textBytes)).size ≤ 41 * l.length := by
  induction l with
  | nil => simp [catS, str0]
  | cons s l ih =>
    have := ih (fun x hx => h x (List.mem_cons_of_mem _ hx))
    have := h s List.mem_cons_self
    simp only [List.map_cons, catS, ByteArray.size_append, textBytes_size, List.length_cons]; omega
theorem log_small {k : Kept} (h : keptFault k = 0) : ∀ s ∈ k.log, s.size ≤ 40 := fun s hs => decode_size ((keptFault_ok h).2.2.2.2.2.2.2.2 s hs)
theorem keptBody_size {k : Kept} (h : keptFault k = 0) (gen : Int) : 24 ≤ (keptBody k gen).size ∧ (keptBody k gen).size ≤ 2484 := by
  rw [keptBody_eq, ByteArray.size_append, catS_nums_size]
  have := catS_texts_size k.log (log_small h)
  have := (keptFault_ok h).2.2.2.2.2.1
  simp only [nums, List.length_cons, List.length_nil]
  omega
theorem keptBytes_size {k : Kept} (h : keptFault k = 0) (gen : Int) : 28 ≤ (keptBytes k gen).size ∧ (keptBytes k gen).size ≤ 2488 := by
  unfold keptBytes
  rw [ByteArray.size_append, sealS_size]
  have := keptBody_size h gen
  omega
/-- WHAT IS KEPT IS READ AS IT WAS WRITTEN -/
theorem stageDecode_keptBytes {k : Kept} (h : keptFault k = 0) {gen : Int} (h0 : 0 ≤ gen) (h1 : gen ≤ 1073741824) : stageDecode (keptBytes k gen) = (k, gen, 0) := by
  have hsz := keptBytes_size h gen
  have hk := keptFault_ok h
  unfold stageDecode
  have hd : dropS (keptBytes k gen) 4 = keptBody k gen := dropS_append (sealS (keptBody k gen)) _
  have he : (keptBytes k gen).extract 0 4 = sealS (keptBody k gen) := extract_append (sealS (keptBody k gen)) _
  rw [if_neg (by omega), if_neg (by omega), hd, he, if_neg (by simp), keptBody_eq]
  have hn := readNumbers_numBytes (nums k gen) (catS (k.log.map textBytes)) (nums_bd h h0 h1)
  have hn' : readNumbers 6 (catS ((nums k gen).map numBytes) ++ catS (k.log.map textBytes)) = (nums k gen, catS (k.log.map textBytes), 0) := hn
  have ht := readTexts_textBytes k.log str0 (fun s hs => by have := log_small h s hs; omega)
  rw [append_str0] at ht
  rw [hn']
  have n3 : (nums k gen).getD 3 0 = if k.calm then 1 else 0 := rfl
  have n5 : (nums k gen).getD 5 0 = (k.log.length : Int) := rfl
  have n0 : (nums k gen).getD 0 0 = gen := rfl
  have n1 : (nums k gen).getD 1 0 = k.view := rfl
  have n2 : (nums k gen).getD 2 0 = k.normal := rfl
  have n4 : (nums k gen).getD 4 0 = k.commit := rfl
  simp only [ne_eq, not_true_eq_false, if_false, n0, n1, n2, n3, n4, n5, Int.toNat_natCast, ht]
  rw [if_neg (by rw [not_or]; refine ⟨by split <;> omega, by omega⟩)]
  have hc : ((if k.calm = true then (1 : Int) else 0) == 1) = k.calm := by cases k.calm <;> rfl
  rw [hc]
  have hkk : (⟨k.view, k.normal, k.calm, k.log, k.commit⟩ : Kept) = k := rfl
  rw [hkk]
  simp [h]
/-- what is torn is not read -/
theorem stageDecode_cut {k : Kept} (h : keptFault k = 0) {gen : Int} (h0 : 0 ≤ gen) (h1 : gen ≤ 1073741824) {p : Str} (hp : Pre p (keptBytes k gen))
    (hlt : p.size < (keptBytes k gen).size) : (stageDecode p).2.2 ≠ 0 := by
  have hsz := keptBytes_size h gen
  have hk := keptFault_ok h
  unfold stageDecode
  split
  · simp
  split
  · simp
  rename_i hs1 hs2
  split
  · simp
  obtain ⟨q, rfl, hq⟩ := Pre.split (a := sealS (keptBody k gen)) hp (by rw [sealS_size]; omega)
  have hd : dropS (sealS (keptBody k gen) ++ q) 4 = q := dropS_append (sealS (keptBody k gen)) _
  rw [hd]
  have hql : q.size < (keptBody k gen).size := by
    unfold keptBytes at hlt
    rw [ByteArray.size_append, ByteArray.size_append] at hlt
    omega
  rw [keptBody_eq] at hq hql
  have hbd := nums_bd h h0 h1
  by_cases h24 : q.size < 24
  · have := readNumbers_cut (nums k gen) q _ hbd hq h24
    have hn : (readNumbers 6 q).2.2 ≠ 0 := this
    simp only []
    rw [if_pos hn]
    exact hn
  · obtain ⟨q', rfl, hq'⟩ := hq.split (by rw [catS_nums_size]; show 4 * 6 ≤ q.size; omega)
    have hn := readNumbers_numBytes (nums k gen) q' hbd
    have hn' : readNumbers 6 (catS ((nums k gen).map numBytes) ++ q') = (nums k gen, q', 0) := hn
    have hql' : q'.size < (catS (k.log.map textBytes)).size := by rw [ByteArray.size_append, ByteArray.size_append] at hql; omega
    have ht := readTexts_cut k.log q' (fun s hs => by have := log_small h s hs; omega) hq' hql'
    have n3 : (nums k gen).getD 3 0 = if k.calm then 1 else 0 := rfl
    have n5 : (nums k gen).getD 5 0 = (k.log.length : Int) := rfl
    rw [hn']
    simp only [ne_eq, not_true_eq_false, if_false, n3, n5, Int.toNat_natCast]
    rw [if_neg (by rw [not_or]; refine ⟨by split <;> omega, by omega⟩), if_pos ht]
    exact ht
end Scu
/- Walks: package codec, and the document's answer to it. -/
namespace Go.Proofs.Ytlaibljdlpmbfaa
open Go.RowKit
attribute [local go_sem] byteAt_get
set_option maxHeartbeats 400000
set_option maxRecDepth 100000

theorem numBytes_eq {n : Int} (h0 : 0 ≤ n) (h1 : n ≤ 1073741824) : strOfNums [n / 16777216, n / 65536 % 256, n / 256 % 256, n % 256] = Scu.numBytes n := by
  unfold strOfNums Scu.numBytes
  simp only [List.map_cons, List.map_nil, b8_mod]
  rw [b8_low (n := n / 16777216) (by omega) (by omega)]

theorem in_c (n lo hi : Int) (w : World) :
    Calls Try.prog 33 #[.int .i64 n, .int .i64 lo, .int .i64 hi] w fun e w' => e = .returned (.bool (decide (lo ≤ n) && decide (n ≤ hi))) ∧ w = w' := by
  go_enter Try.func33, Try.ntmps33
  go_wp2
  all_goals (go_ret; refine ⟨ret_val (bool_eq ?_), rfl⟩; simp; try omega)

theorem textBytes_eq {s : ByteArray} (h : s.size ≤ 255) : strOfNums [(s.size : Int)] ++ s = Scu.textBytes s := by
  unfold strOfNums Scu.textBytes
  simp only [List.map_cons, List.map_nil]
  rw [b8_low (n := (s.size : Int)) (by omega) (by omega)]

theorem strOfNums1_size (n : Int) : (strOfNums [n]).size = 1 := rfl

theorem readNumber_c (s : ByteArray) (w : World) :
    Calls Try.prog 48 #[.string s] w fun e w' => e = .returned (.tuple #[.int .i64 (Scu.readNumber s).1, .string (Scu.readNumber s).2.1, .int .i64 (Scu.readNumber s).2.2]) ∧ Below w.heap.size w w' := by
  by_cases h : s.size < 4
  · have hs : Scu.readNumber s = (0, Scu.str0, 5) := if_pos h
    rw [hs]
    have h' : (s.size : Int) < 4 := by omega
    go_enter Try.func48, Try.ntmps48
    go_wp2
    all_goals (go_ret3; exact ⟨rfl, Below.refl _ _⟩)
  · have h' : (4 : Int) ≤ s.size := by omega
    have g0 : (0 : Int) < s.size := by omega
    have g1 : (1 : Int) < s.size := by omega
    have g2 : (2 : Int) < s.size := by omega
    have g3 : (3 : Int) < s.size := by omega
    obtain ⟨a0, a1⟩ := byteAt_rng s 0
    obtain ⟨b0, b1⟩ := byteAt_rng s 1
    obtain ⟨c0, c1⟩ := byteAt_rng s 2
    obtain ⟨d0, d1⟩ := byteAt_rng s 3
    have o3 := or_bytes3 _ _ a0 a1 b0 b1
    have o2 := or_bytes2 _ _ _ a0 a1 b0 b1 c0 c1
    have o1 := or_bytes1 _ _ _ _ a0 a1 b0 b1 c0 c1 d0 d1
    by_cases hb : 1073741824 < Scu.num4 s
    · have hs : Scu.readNumber s = (0, Scu.str0, 4) := by unfold Scu.readNumber; rw [if_neg h, if_pos hb]
      rw [hs]
      unfold Scu.num4 at hb
      clear h
      go_enter Try.func48, Try.ntmps48
      go_wp2
      go_quiet (fail)
      go_wp2
      go_ret3
      exact ⟨rfl, below_drewN (Below.refl _ _) _⟩
    · have hs : Scu.readNumber s = (Scu.num4 s, Scu.dropS s 4, 0) := by unfold Scu.readNumber; rw [if_neg h, if_neg hb]
      rw [hs]
      unfold Scu.num4 at hb
      have hb' : Scu.byteAt s 0 * 16777216 + Scu.byteAt s 1 * 65536 + Scu.byteAt s 2 * 256 + Scu.byteAt s 3 ≤ 1073741824 := by omega
      clear h hb
      go_enter Try.func48, Try.ntmps48
      go_wp2
      go_quiet (fail)
      go_wp2
      go_quiet (fail)
      go_wp2
      go_ret3
      exact ⟨rfl, below_drewN (below_drewN (Below.refl _ _) _) _⟩

theorem numberOf_c (s : ByteArray) (w : World) :
    Calls Try.prog 51 #[.string s] w fun e w' => e = .returned (.tuple #[.int .i64 (Scu.readNumber s).1, .string (Scu.readNumber s).2.1, .int .i64 (Scu.readNumber s).2.2]) ∧ Below w.heap.size w w' := by
  by_cases h : s.size < 4
  · have hs : Scu.readNumber s = (0, Scu.str0, 5) := if_pos h
    rw [hs]
    have h' : (s.size : Int) < 4 := by omega
    go_enter Try.func51, Try.ntmps51
    go_wp2
    all_goals (go_ret3; exact ⟨rfl, Below.refl _ _⟩)
  · have h' : (4 : Int) ≤ s.size := by omega
    have g0 : (0 : Int) < s.size := by omega
    have g1 : (1 : Int) < s.size := by omega
    have g2 : (2 : Int) < s.size := by omega
    have g3 : (3 : Int) < s.size := by omega
    obtain ⟨a0, a1⟩ := byteAt_rng s 0
    obtain ⟨b0, b1⟩ := byteAt_rng s 1
    obtain ⟨c0, c1⟩ := byteAt_rng s 2
    obtain ⟨d0, d1⟩ := byteAt_rng s 3
    have hn : Scu.num4 s = 256 * (256 * (256 * Scu.byteAt s 0 + Scu.byteAt s 1) + Scu.byteAt s 2) + Scu.byteAt s 3 := by unfold Scu.num4; omega
    by_cases hb : 1073741824 < Scu.num4 s
    · have hs : Scu.readNumber s = (0, Scu.str0, 4) := by unfold Scu.readNumber; rw [if_neg h, if_pos hb]
      rw [hs]
      rw [hn] at hb
      clear h hn
      go_enter Try.func51, Try.ntmps51
      go_wp2
      go_rounds 5
      go_ret3
      exact ⟨rfl, Below.refl _ _⟩
    · have hs : Scu.readNumber s = (Scu.num4 s, Scu.dropS s 4, 0) := by unfold Scu.readNumber; rw [if_neg h, if_neg hb]
      rw [hs, hn]
      rw [hn] at hb
      have hb' := Int.not_lt.1 hb
      clear h hb hn
      go_enter Try.func51, Try.ntmps51
      go_wp2
      go_rounds 5
      go_quiet (fail)
      go_wp2
      go_ret3
      exact ⟨rfl, below_drewN (Below.refl _ _) _⟩

theorem toList_eq_nil (s : ByteArray) : s.toList = [] ↔ s.size = 0 := by
  rw [ByteArray.toList_eq, ← List.length_eq_zero_iff, Array.length_toList]
  rfl

theorem readText_c (s : ByteArray) (w : World) (hm : s.size ≤ maxLen) :
    Calls Try.prog 49 #[.string s] w fun e w' => e = .returned (.tuple #[.string (Scu.readText s).1, .string (Scu.readText s).2.1, .int .i64 (Scu.readText s).2.2]) ∧ Below w.heap.size w w' := by
  unfold maxLen at hm
  have hm' : (s.size : Int) ≤ 9223372036854775807 := by omega
  clear hm
  by_cases h : s.size = 0
  · have hs : Scu.readText s = (Scu.str0, Scu.str0, 5) := if_pos h
    rw [hs]
    have h' : s.toList = [] := (toList_eq_nil s).2 h
    clear h hs
    go_enter Try.func49, Try.ntmps49
    go_wp2
    all_goals (go_ret3; exact ⟨rfl, Below.refl _ _⟩)
  · have h' : ¬ s.toList = [] := fun e => h ((toList_eq_nil s).1 e)
    have h'' : s.toList.isEmpty = false := by simpa using h'
    have g0 : (0 : Int) < s.size := by omega
    obtain ⟨a0, a1⟩ := byteAt_rng s 0
    by_cases hb : (s.size : Int) - 1 < Scu.byteAt s 0
    · have hs : Scu.readText s = (Scu.str0, Scu.str0, 5) := by unfold Scu.readText; rw [if_neg h, if_pos hb]
      rw [hs]
      clear h hs
      go_enter Try.func49, Try.ntmps49
      go_wp2
      all_goals (go_ret3; exact ⟨rfl, Below.refl _ _⟩)
    · have hs : Scu.readText s = (s.extract 1 (1 + Scu.byteAt s 0).toNat, Scu.dropS s (1 + Scu.byteAt s 0).toNat, 0) := by unfold Scu.readText; rw [if_neg h, if_neg hb]
      rw [hs]
      have hb' := Int.not_lt.1 hb
      clear h hb hs
      go_enter Try.func49, Try.ntmps49
      go_wp2
      go_quiet (fail)
      go_wp2
      go_ret3
      exact ⟨rfl, below_drewN (Below.refl _ _) _⟩

theorem textOf_c (s : ByteArray) (w : World) (hm : s.size ≤ maxLen) :
    Calls Try.prog 52 #[.string s] w fun e w' => e = .returned (.tuple #[.string (Scu.readText s).1, .string (Scu.readText s).2.1, .int .i64 (Scu.readText s).2.2]) ∧ Below w.heap.size w w' := by
  unfold maxLen at hm
  have hm' : (s.size : Int) ≤ 9223372036854775807 := by omega
  clear hm
  by_cases h : s.size = 0
  · have hs : Scu.readText s = (Scu.str0, Scu.str0, 5) := if_pos h
    rw [hs]
    have h' : (s.size : Int) = 0 := by omega
    have hd : decide (s.size = 0) = true := by simpa using h
    have hd' : ((s.size : Int) == 0) = true := by simpa using h
    clear h hs
    go_enter Try.func52, Try.ntmps52
    go_wp2
    all_goals (go_ret3; exact ⟨rfl, Below.refl _ _⟩)
  · have h' : ¬ s.size = 0 := h
    have hd' : ((s.size : Int) == 0) = false := by simpa using h
    have g0 : (0 : Int) < s.size := by omega
    obtain ⟨a0, a1⟩ := byteAt_rng s 0
    by_cases hb : (s.size : Int) - 1 < Scu.byteAt s 0
    · have hs : Scu.readText s = (Scu.str0, Scu.str0, 5) := by unfold Scu.readText; rw [if_neg h, if_pos hb]
      rw [hs]
      have hb' : (s.size : Int) < 1 + Scu.byteAt s 0 := by omega
      clear h hs hb
      go_enter Try.func52, Try.ntmps52
      go_wp2
      all_goals (go_ret3; exact ⟨rfl, Below.refl _ _⟩)
    · have hs : Scu.readText s = (s.extract 1 (1 + Scu.byteAt s 0).toNat, Scu.dropS s (1 + Scu.byteAt s 0).toNat, 0) := by unfold Scu.readText; rw [if_neg h, if_neg hb]
      rw [hs]
      have hb' : 1 + Scu.byteAt s 0 ≤ (s.size : Int) := by omega
      clear h hb hs
      go_enter Try.func52, Try.ntmps52
      go_wp2
      go_quiet (fail)
      go_wp2
      go_ret3
      exact ⟨rfl, below_drewN (Below.refl _ _) _⟩

theorem sealXY_snoc (s : ByteArray) (k : Nat) (h : k < s.size) : Scu.sealXY (s.data.toList.take (k + 1)) =
    (((Scu.sealXY (s.data.toList.take k)).1 + Scu.byteAt s k) % 65521, ((Scu.sealXY (s.data.toList.take k)).2 + ((Scu.sealXY (s.data.toList.take k)).1 + Scu.byteAt s k) % 65521) % 65521) := by
  have hk : k < s.data.toList.length := by simpa using h
  rw [List.take_succ_eq_append_getElem hk]
  unfold Scu.sealXY
  rw [List.foldl_append]
  have hb : Scu.byteAt s k = (s.data.toList[k].toNat : Int) := by
    unfold Scu.byteAt
    rw [List.getD_eq_getElem?_getD, List.getElem?_eq_getElem hk]
    rfl
  rw [hb]
  rfl

theorem seal_bytes (s : ByteArray) : strOfNums [(Scu.sealXY s.data.toList).2 / 256, (Scu.sealXY s.data.toList).2 % 256, (Scu.sealXY s.data.toList).1 / 256, (Scu.sealXY s.data.toList).1 % 256] = Scu.sealS s := by
  obtain ⟨x0, x1, y0, y1⟩ := Scu.sealXY_bd s.data.toList
  unfold strOfNums Scu.sealS
  simp only [List.map_cons, List.map_nil, b8_mod]
  rw [b8_low (n := (Scu.sealXY s.data.toList).2 / 256) (by omega) (by omega), b8_low (n := (Scu.sealXY s.data.toList).1 / 256) (by omega) (by omega)]
theorem seal_bytesR (s : ByteArray) : strOfNums [(Scu.sealXY s.data.toList).2 / 256, (Scu.sealXY s.data.toList).2 % 256, (Scu.sealXY s.data.toList).1 / 256, (Scu.sealXY s.data.toList).1 % 256] = Scu.sealS s := seal_bytes s

end Go.Proofs.Ytlaibljdlpmbfaa
/- Walks: an operation, a request: may it be? -/
namespace Go.Proofs.Ytlaibljdlpmbfaa
open Go.RowKit
attribute [local go_sem] byteAt_get
set_option maxHeartbeats 800000
set_option maxRecDepth 100000

theorem checkOp_c (o : Scu.Op) (w : World) :
    Calls Try.prog 54 #[.agg #[.int .i64 o.kind, .int .i64 o.at_, .int .i64 o.snap, .string o.data]] w fun e w' =>
      e = .returned (.int .i64 (Scu.opFault o)) ∧ Below w.heap.size w w' := by
  obtain ⟨k, a, n, d⟩ := o
  have hd := toList_eq_nil d
  go_enter Try.func54, Try.ntmps54
  go_wp2
  all_goals (go_ret; refine ⟨ret_val (int_eq ?_), (Below.refl _ _).alloc (Nat.le_refl _) _⟩)
  all_goals (try simp only [bne_iff_ne, ne_eq, bne_eq_false_iff_eq, Bool.not_eq_true', Bool.not_eq_false', List.isEmpty_iff, List.isEmpty_eq_false_iff, hd] at *)
  all_goals (unfold Scu.opFault; simp only []; repeat' split)
  all_goals first | rfl | omega

theorem opFault_c (o : Scu.Op) (w : World) :
    Calls Try.prog 55 #[.agg #[.int .i64 o.kind, .int .i64 o.at_, .int .i64 o.snap, .string o.data]] w fun e w' =>
      e = .returned (.int .i64 (Scu.opFault o)) ∧ Below w.heap.size w w' := by
  obtain ⟨k, a, n, d⟩ := o
  have hd := Lib.hid (toList_eq_nil d)
  have hk : (k < 1 ∨ 4 < k) ∨ k = 1 ∨ k = 2 ∨ k = 3 ∨ k = 4 := by omega
  rcases hk with hk | hk | hk | hk | hk <;> (try subst hk)
  all_goals
    go_enter Try.func55, Try.ntmps55
    go_wp2_with (go_at_call 33; refine (in_c _ _ _ _).mono ?_; rintro e w' ⟨rfl, rfl⟩)
  all_goals (go_ret; refine ⟨ret_val (int_eq ?_), (Below.refl _ _).alloc (Nat.le_refl _) _⟩)
  all_goals have hd' := hd.out
  all_goals (try simp only [bne_iff_ne, ne_eq, bne_eq_false_iff_eq, Bool.not_eq_true', Bool.not_eq_false', List.isEmpty_iff, List.isEmpty_eq_false_iff, hd', decide_eq_true_eq, decide_eq_false_iff_not] at *)
  all_goals (unfold Scu.opFault; simp only []; repeat' split)
  all_goals first | rfl | omega | (exfalso; simp_all; done)

theorem checkRequest_c (r : Scu.Request) (w : World) :
    Calls Try.prog 50 #[.agg #[.int .i64 r.client, .int .i64 r.num, .int .i64 r.op.kind, .int .i64 r.op.at_, .int .i64 r.op.snap, .string r.op.data]] w fun e w' =>
      e = .returned (.int .i64 (Scu.reqFault r)) ∧ Below w.heap.size w w' := by
  by_cases h : r.client < 1 ∨ 4 < r.client ∨ r.num < 1 ∨ 1048576 < r.num
  · have hs : Scu.reqFault r = 2 := if_pos h
    rw [hs]
    go_enter Try.func50, Try.ntmps50
    go_wp2_with fail
    all_goals (go_ret; exact ⟨rfl, (Below.refl _ _).alloc (Nat.le_refl _) _⟩)
  · have hs : Scu.reqFault r = Scu.opFault r.op := if_neg h
    rw [hs]
    have h1 : 1 ≤ r.client := by omega
    have h2 : r.client ≤ 4 := by omega
    have h3 : 1 ≤ r.num := by omega
    have h4 : r.num ≤ 1048576 := by omega
    clear h hs
    go_enter Try.func50, Try.ntmps50
    go_wp2_with fail
    refine (checkOp_c _ _).mono ?_; rintro e w' ⟨rfl, hb⟩
    go_wp2
    go_ret
    exact ⟨rfl, ((Below.refl _ _).alloc (Nat.le_refl _) _).trans (hb.mono (by simp))⟩

theorem requestFault_c (r : Scu.Request) (w : World) :
    Calls Try.prog 53 #[.agg #[.int .i64 r.client, .int .i64 r.num, .int .i64 r.op.kind, .int .i64 r.op.at_, .int .i64 r.op.snap, .string r.op.data]] w fun e w' =>
      e = .returned (.int .i64 (Scu.reqFault r)) ∧ Below w.heap.size w w' := by
  by_cases h : r.client < 1 ∨ 4 < r.client ∨ r.num < 1 ∨ 1048576 < r.num
  · have hs : Scu.reqFault r = 2 := if_pos h
    rw [hs]
    clear hs
    go_enter Try.func53, Try.ntmps53
    go_wp2_with (go_at_call 33; refine (in_c _ _ _ _).mono ?_; rintro e w' ⟨rfl, rfl⟩)
    all_goals first
      | (go_ret; exact ⟨rfl, (Below.refl _ _).alloc (Nat.le_refl _) _⟩)
      | (exfalso; simp only [Bool.not_eq_false', decide_eq_true_eq] at *; omega)
  · have hs : Scu.reqFault r = Scu.opFault r.op := if_neg h
    rw [hs]
    have h1 : 1 ≤ r.client := by omega
    have h2 : r.client ≤ 4 := by omega
    have h3 : 1 ≤ r.num := by omega
    have h4 : r.num ≤ 1048576 := by omega
    clear h hs
    go_enter Try.func53, Try.ntmps53
    go_wp2_with (go_at_call 33; refine (in_c _ _ _ _).mono ?_; rintro e w' ⟨rfl, rfl⟩)
    refine (opFault_c _ _).mono ?_; rintro e w' ⟨rfl, hb⟩
    go_wp2
    go_ret
    exact ⟨rfl, ((Below.refl _ _).alloc (Nat.le_refl _) _).trans (hb.mono (by simp))⟩
end Go.Proofs.Ytlaibljdlpmbfaa
/- Walks: a request as an entry, and back. -/
namespace Go.Proofs.Ytlaibljdlpmbfaa
open Go.RowKit
attribute [local go_sem] byteAt_get
set_option maxHeartbeats 4000000
set_option maxRecDepth 100000

theorem head_eq (a b c d : Int) (a0 : 0 ≤ a) (a1 : a < 256) (b0 : 0 ≤ b) (b1 : b < 256) (c0 : 0 ≤ c) (c1 : c < 256) (d0 : 0 ≤ d) (d1 : d < 256) :
    strOfNums [a, b, c, d] = ⟨#[Scu.b8 a, Scu.b8 b, Scu.b8 c, Scu.b8 d]⟩ := by
  unfold strOfNums
  simp only [List.map_cons, List.map_nil]
  rw [b8_low a0 a1, b8_low b0 b1, b8_low c0 c1, b8_low d0 d1]

theorem readNumber_err (s : Scu.Str) (h : (Scu.readNumber s).2.2 ≠ 0) : (Scu.readNumber s).1 = 0 ∧ (Scu.readNumber s).2.1 = Scu.str0 := by
  unfold Scu.readNumber at h ⊢
  split
  · exact ⟨rfl, rfl⟩
  split
  · exact ⟨rfl, rfl⟩
  · rename_i h1 h2; rw [if_neg h1, if_neg h2] at h; exact absurd rfl h
theorem readNumber_size (s : Scu.Str) : (Scu.readNumber s).2.1.size ≤ s.size := by
  unfold Scu.readNumber
  split
  · exact Nat.zero_le _
  split
  · exact Nat.zero_le _
  · show (Scu.dropS s 4).size ≤ s.size
    unfold Scu.dropS
    rw [ByteArray.size_extract]
    omega
def zReq : Value := .agg #[.int .i64 0, .int .i64 0, .int .i64 0, .int .i64 0, .int .i64 0, .string ⟨#[]⟩]
theorem below_set6 {B g : Nat} {w w1 : World} {a b c d e f : Value} (h : Below B w w1) (hg : B ≤ g) :
    Below B w ((((((w1.setCell ⟨g, 0, none⟩ a).setCell ⟨g, 1, none⟩ b).setCell ⟨g, 2, none⟩ c).setCell ⟨g, 3, none⟩ d).setCell ⟨g, 4, none⟩ e).setCell ⟨g, 5, none⟩ f) :=
  (((((h.setCell (p := ⟨g, 0, none⟩) hg _).setCell (p := ⟨g, 1, none⟩) hg _).setCell (p := ⟨g, 2, none⟩) hg _).setCell (p := ⟨g, 3, none⟩) hg _).setCell (p := ⟨g, 4, none⟩) hg _).setCell (p := ⟨g, 5, none⟩) hg _
theorem decode_c (s : ByteArray) (w : World) :
    Calls Try.prog 44 #[.string s] w fun e w' =>
      e = .returned (.tuple #[vRequest (Scu.decode s).1, .int .i64 (Scu.decode s).2]) ∧ Below w.heap.size w w' := by
  by_cases h40 : 40 < s.size
  · have hs : Scu.decode s = (Scu.req0, 1) := if_pos h40
    rw [hs]
    have h' : (40 : Int) < s.size := by omega
    clear hs h40
    go_enter Try.func44, Try.ntmps44
    go_wp2
    go_returns
    exact ⟨rfl, (Below.refl _ _).alloc (Nat.le_refl _) _⟩
  by_cases h4 : s.size < 4
  · have hs : Scu.decode s = (Scu.req0, 5) := by unfold Scu.decode; rw [if_neg h40, if_pos h4]
    rw [hs]
    have h' : (s.size : Int) < 4 := by omega
    clear hs h40 h4
    go_enter Try.func44, Try.ntmps44
    go_wp2
    go_returns
    exact ⟨rfl, (Below.refl _ _).alloc (Nat.le_refl _) _⟩
  have g40 : (s.size : Int) ≤ 40 := by omega
  have g4 : (4 : Int) ≤ s.size := by omega
  have g0 : (0 : Int) < s.size := by omega
  have g1 : (1 : Int) < s.size := by omega
  have g2 : (2 : Int) < s.size := by omega
  have g3 : (3 : Int) < s.size := by omega
  obtain ⟨a0, a1⟩ := byteAt_rng s 0
  obtain ⟨b0, b1⟩ := byteAt_rng s 1
  obtain ⟨c0, c1⟩ := byteAt_rng s 2
  obtain ⟨d0, d1⟩ := byteAt_rng s 3
  generalize hq1 : Scu.readNumber (Scu.dropS s 4) = q1
  obtain ⟨n, s1, e1⟩ := q1
  generalize hq2 : Scu.readText s1 = q2
  obtain ⟨d, s2, e2⟩ := q2
  have hd0 : Scu.decode s = if e1 ≠ 0 then (Scu.req0, e1) else if e2 ≠ 0 then (Scu.req0, e2) else
    if s2 ≠ Scu.str0 then (Scu.req0, 4) else if Scu.reqFault ⟨Scu.byteAt s 0, n, ⟨Scu.byteAt s 1, Scu.byteAt s 2, Scu.byteAt s 3, d⟩⟩ ≠ 0 then
      (Scu.req0, Scu.reqFault ⟨Scu.byteAt s 0, n, ⟨Scu.byteAt s 1, Scu.byteAt s 2, Scu.byteAt s 3, d⟩⟩) else (⟨Scu.byteAt s 0, n, ⟨Scu.byteAt s 1, Scu.byteAt s 2, Scu.byteAt s 3, d⟩⟩, 0) := by
    unfold Scu.decode; rw [if_neg h40, if_neg h4]; simp only [hq1, hq2]
  have hs1 : s1.size ≤ maxLen := by
    have h1 := readNumber_size (Scu.dropS s 4)
    rw [hq1] at h1
    have h2 : (Scu.dropS s 4).size ≤ s.size := by unfold Scu.dropS; rw [ByteArray.size_extract]; omega
    unfold maxLen
    simp only at h1
    omega
  have k1 : ∀ w, Calls Try.prog 48 #[.string (s.extract 4 s.size)] w fun e w' => e = .returned (.tuple #[.int .i64 n, .string s1, .int .i64 e1]) ∧ Below w.heap.size w w' := fun w => by
    have := readNumber_c (s.extract 4 s.size) w
    rw [show Scu.readNumber (s.extract 4 s.size) = (n, s1, e1) from hq1] at this
    exact this
  have k2 : ∀ w, Calls Try.prog 49 #[.string s1] w fun e w' => e = .returned (.tuple #[.string d, .string s2, .int .i64 e2]) ∧ Below w.heap.size w w' := fun w => by
    have := readText_c s1 w hs1
    rw [hq2] at this
    exact this
  have K1 := Lib.hid k1
  have K2 := Lib.hid k2
  have HD := Lib.hid hd0
  have htn := Lib.hid (toList_eq_nil s2)
  clear hd0 h40 h4 hq1 hq2 k1 k2 hs1
  go_enter Try.func44, Try.ntmps44
  go_wp2_with fail
  go_region
  go_wp2_with fail
  refine (K1.out _).mono ?_; rintro e w1 ⟨rfl, h1⟩
  obtain ⟨hc, hz⟩ := bcell h1
  have hsz : w.heap.size + 1 < w1.heap.size := by have := h1.size; simp at this; omega
  have hsz' : w.heap.size < w1.heap.size := by omega
  have hB0 : Below w.heap.size w w1 := (((Below.refl _ _).alloc (Nat.le_refl _) _).alloc (by simp) _).drew.trans (h1.mono (by simp; omega))
  by_cases he1 : e1 = 0
  · subst he1
    go_wp2_with fail
    refine (K2.out _).mono ?_; rintro e w2 ⟨rfl, h2⟩
    obtain ⟨hc2, hz2⟩ := bcell h2
    have hsz2 : w.heap.size + 1 < w2.heap.size := by have := h2.size; simp at this; omega
    have hsz2' : w.heap.size < w2.heap.size := by omega
    have hB2 : Below w.heap.size w w2 := (hB0.setCell (by simp) _).trans (h2.mono (by simp; omega))
    have hblk2 := ((((((Blk.new w 72 #[.int .i64 0, .int .i64 0, .int .i64 0, .int .i64 0, .int .i64 0, .string ⟨#[]⟩]).alloc (Obj.cells #[.int .i64 (Scu.byteAt s 0), .int .i64 0, .int .i64 (Scu.byteAt s 1), .int .i64 (Scu.byteAt s 2), .int .i64 (Scu.byteAt s 3), .string ⟨#[]⟩] 72)).drew).same h1).far (p := ⟨w.heap.size + 1, 1, none⟩) (by simp) (.int .i64 n)).same h2)
    have u0 := hblk2.cell 0
    have u1 := hblk2.cell 1
    have u2 := hblk2.cell 2
    have u3 := hblk2.cell 3
    have u4 := hblk2.cell 4
    have u5 := hblk2.cell 5
    simp only [List.getElem?_toArray, List.getElem?_cons_zero, List.getElem?_cons_succ] at u0 u1 u2 u3 u4 u5
    have HB2 := Lib.hid hblk2
    clear hblk2
    by_cases he2 : e2 = 0
    · subst he2
      by_cases hs2 : s2 = Scu.str0
      · have hs2' : s2.toList = [] := htn.out.2 (by rw [hs2]; rfl)
        have HS2 := Lib.hid hs2
        clear hs2
        go_wp2_with fail
        refine (checkRequest_c ⟨Scu.byteAt s 0, n, ⟨Scu.byteAt s 1, Scu.byteAt s 2, Scu.byteAt s 3, d⟩⟩ _).mono ?_; rintro e w3 ⟨rfl, h3⟩
        obtain ⟨hc3, hz3⟩ := bcell h3
        have hsz3 : w.heap.size + 1 < w3.heap.size := by have := h3.size; simp at this; omega
        have hsz3' : w.heap.size < w3.heap.size := by omega
        have hB3 : Below w.heap.size w w3 := (hB2.setCell (by simp) _).trans (h3.mono (by simp; omega))
        have hblk3 := (HB2.out.far (p := ⟨w.heap.size + 1, 5, none⟩) (by simp) (.string d)).same h3
        have y0 := hblk3.cell 0
        have y1 := hblk3.cell 1
        have y2 := hblk3.cell 2
        have y3 := hblk3.cell 3
        have y4 := hblk3.cell 4
        have y5 := hblk3.cell 5
        simp only [List.getElem?_toArray, List.getElem?_cons_zero, List.getElem?_cons_succ] at y0 y1 y2 y3 y4 y5
        have HB3 := Lib.hid hblk3
        clear hblk3
        by_cases hf : Scu.reqFault ⟨Scu.byteAt s 0, n, ⟨Scu.byteAt s 1, Scu.byteAt s 2, Scu.byteAt s 3, d⟩⟩ = 0
        · have hr : Scu.decode s = (⟨Scu.byteAt s 0, n, ⟨Scu.byteAt s 1, Scu.byteAt s 2, Scu.byteAt s 3, d⟩⟩, 0) := by
            rw [HD.out, if_neg (by simp), if_neg (by simp), if_neg (by simp [HS2.out]), if_neg (by simp [hf])]
          have HR := Lib.hid hr
          have hfb : (Scu.reqFault ⟨Scu.byteAt s 0, n, ⟨Scu.byteAt s 1, Scu.byteAt s 2, Scu.byteAt s 3, d⟩⟩ != 0) = false := by simpa using hf
          clear hr hf
          go_wp2
          refine bodyPost_ret (v := .tuple #[.agg #[.int .i64 (Scu.byteAt s 0), .int .i64 n, .int .i64 (Scu.byteAt s 1), .int .i64 (Scu.byteAt s 2), .int .i64 (Scu.byteAt s 3), .string d], .int .i64 0]) (by simp [results, Try.results44, go_sem, y0, y1, y2, y3, y4, y5]) rfl ?_
          exact ⟨by rw [HR.out]; rfl, below_set6 hB3 (Nat.le_refl _)⟩
        · have hr : Scu.decode s = (Scu.req0, Scu.reqFault ⟨Scu.byteAt s 0, n, ⟨Scu.byteAt s 1, Scu.byteAt s 2, Scu.byteAt s 3, d⟩⟩) := by
            rw [HD.out, if_neg (by simp), if_neg (by simp), if_neg (by simp [HS2.out]), if_pos hf]
          have HR := Lib.hid hr
          have hfb : (Scu.reqFault ⟨Scu.byteAt s 0, n, ⟨Scu.byteAt s 1, Scu.byteAt s 2, Scu.byteAt s 3, d⟩⟩ != 0) = true := by simpa using hf
          clear hr hf
          go_wp2
          refine bodyPost_ret (v := .tuple #[.agg #[.int .i64 0, .int .i64 0, .int .i64 0, .int .i64 0, .int .i64 0, .string ⟨#[]⟩], .int .i64 (Scu.reqFault ⟨Scu.byteAt s 0, n, ⟨Scu.byteAt s 1, Scu.byteAt s 2, Scu.byteAt s 3, d⟩⟩)]) (by simp [results, Try.results44, go_sem, y0, y1, y2, y3, y4, y5]) rfl ?_
          exact ⟨by rw [HR.out]; rfl, below_set6 hB3 (Nat.le_refl _)⟩
      · have hs2' : ¬ s2.toList = [] := fun e => hs2 ((Scu.size_zero_iff _).1 (htn.out.1 e))
        have hs2b : s2.toList.isEmpty = false := by simpa using hs2'
        have hr : Scu.decode s = (Scu.req0, 4) := by rw [HD.out, if_neg (by simp), if_neg (by simp), if_pos hs2]
        have HR := Lib.hid hr
        clear hr hs2
        go_wp2
        refine bodyPost_ret (v := .tuple #[.agg #[.int .i64 0, .int .i64 0, .int .i64 0, .int .i64 0, .int .i64 0, .string ⟨#[]⟩], .int .i64 4]) (by simp [results, Try.results44, go_sem, u0, u1, u2, u3, u4, u5]) rfl ?_
        exact ⟨by rw [HR.out]; rfl, below_set6 (hB2.setCell (by simp) _) (Nat.le_refl _)⟩
    · have hb2 : (e2 != 0) = true := by simpa using he2
      have hr : Scu.decode s = (Scu.req0, e2) := by rw [HD.out, if_neg (by simp), if_pos he2]
      have HR := Lib.hid hr
      clear hr he2
      go_wp2
      refine bodyPost_ret (v := .tuple #[.agg #[.int .i64 0, .int .i64 0, .int .i64 0, .int .i64 0, .int .i64 0, .string ⟨#[]⟩], .int .i64 e2]) (by simp [results, Try.results44, go_sem, u0, u1, u2, u3, u4, u5]) rfl ?_
      exact ⟨by rw [HR.out]; rfl, below_set6 (hB2.setCell (by simp) _) (Nat.le_refl _)⟩
  · have hb1 : (e1 != 0) = true := by simpa using he1
    have hr : Scu.decode s = (Scu.req0, e1) := by rw [HD.out, if_pos he1]
    have HR := Lib.hid hr
    clear hr he1
    go_wp2
    have hblk1 := (((Blk.new w 72 #[.int .i64 0, .int .i64 0, .int .i64 0, .int .i64 0, .int .i64 0, .string ⟨#[]⟩]).alloc (Obj.cells #[.int .i64 (Scu.byteAt s 0), .int .i64 0, .int .i64 (Scu.byteAt s 1), .int .i64 (Scu.byteAt s 2), .int .i64 (Scu.byteAt s 3), .string ⟨#[]⟩] 72)).drew).same h1
    have u0 := hblk1.cell 0
    have u1 := hblk1.cell 1
    have u2 := hblk1.cell 2
    have u3 := hblk1.cell 3
    have u4 := hblk1.cell 4
    have u5 := hblk1.cell 5
    simp only [List.getElem?_toArray, List.getElem?_cons_zero, List.getElem?_cons_succ] at u0 u1 u2 u3 u4 u5
    refine bodyPost_ret (v := .tuple #[.agg #[.int .i64 0, .int .i64 0, .int .i64 0, .int .i64 0, .int .i64 0, .string ⟨#[]⟩], .int .i64 e1]) (by simp [results, Try.results44, go_sem, u0, u1, u2, u3, u4, u5]) rfl ?_
    exact ⟨by rw [HR.out]; rfl, below_set6 (hB0.setCell (by simp) _) (Nat.le_refl _)⟩
end Go.Proofs.Ytlaibljdlpmbfaa
/- Walk: the document's answer on an entry's bytes. -/
namespace Go.Proofs.Ytlaibljdlpmbfaa
open Go.RowKit
attribute [local go_sem] byteAt_get
set_option maxHeartbeats 4000000
set_option maxRecDepth 100000
theorem entryOf_c (s : ByteArray) (w : World) :
    Calls Try.prog 46 #[.string s] w fun e w' =>
      e = .returned (.tuple #[vRequest (Scu.decode s).1, .int .i64 (Scu.decode s).2]) ∧ Below w.heap.size w w' := by
  by_cases h40 : 40 < s.size
  · have hs : Scu.decode s = (Scu.req0, 1) := if_pos h40
    rw [hs]
    have h' : (40 : Int) < s.size := by omega
    clear hs h40
    go_enter Try.func46, Try.ntmps46
    go_wp2
    go_returns
    exact ⟨rfl, (Below.refl _ _).alloc (Nat.le_refl _) _⟩
  by_cases h4 : s.size < 4
  · have hs : Scu.decode s = (Scu.req0, 5) := by unfold Scu.decode; rw [if_neg h40, if_pos h4]
    rw [hs]
    have h' : (s.size : Int) < 4 := by omega
    clear hs h40 h4
    go_enter Try.func46, Try.ntmps46
    go_wp2
    go_returns
    exact ⟨rfl, (Below.refl _ _).alloc (Nat.le_refl _) _⟩
  have g40 : (s.size : Int) ≤ 40 := by omega
  have g4 : (4 : Int) ≤ s.size := by omega
  have g0 : (0 : Int) < s.size := by omega
  have g1 : (1 : Int) < s.size := by omega
  have g2 : (2 : Int) < s.size := by omega
  have g3 : (3 : Int) < s.size := by omega
  obtain ⟨a0, a1⟩ := byteAt_rng s 0
  obtain ⟨b0, b1⟩ := byteAt_rng s 1
  obtain ⟨c0, c1⟩ := byteAt_rng s 2
  obtain ⟨d0, d1⟩ := byteAt_rng s 3
  generalize hq1 : Scu.readNumber (Scu.dropS s 4) = q1
  obtain ⟨n, s1, e1⟩ := q1
  generalize hq2 : Scu.readText s1 = q2
  obtain ⟨d, s2, e2⟩ := q2
  have hd0 : Scu.decode s = if e1 ≠ 0 then (Scu.req0, e1) else if e2 ≠ 0 then (Scu.req0, e2) else
    if s2 ≠ Scu.str0 then (Scu.req0, 4) else if Scu.reqFault ⟨Scu.byteAt s 0, n, ⟨Scu.byteAt s 1, Scu.byteAt s 2, Scu.byteAt s 3, d⟩⟩ ≠ 0 then
      (Scu.req0, Scu.reqFault ⟨Scu.byteAt s 0, n, ⟨Scu.byteAt s 1, Scu.byteAt s 2, Scu.byteAt s 3, d⟩⟩) else (⟨Scu.byteAt s 0, n, ⟨Scu.byteAt s 1, Scu.byteAt s 2, Scu.byteAt s 3, d⟩⟩, 0) := by
    unfold Scu.decode; rw [if_neg h40, if_neg h4]; simp only [hq1, hq2]
  have hs1 : s1.size ≤ maxLen := by
    have h1 := readNumber_size (Scu.dropS s 4)
    rw [hq1] at h1
    have h2 : (Scu.dropS s 4).size ≤ s.size := by unfold Scu.dropS; rw [ByteArray.size_extract]; omega
    unfold maxLen
    simp only at h1
    omega
  have k1 : ∀ w, Calls Try.prog 51 #[.string (s.extract 4 s.size)] w fun e w' => e = .returned (.tuple #[.int .i64 n, .string s1, .int .i64 e1]) ∧ Below w.heap.size w w' := fun w => by
    have := numberOf_c (s.extract 4 s.size) w
    rw [show Scu.readNumber (s.extract 4 s.size) = (n, s1, e1) from hq1] at this
    exact this
  have k2 : ∀ w, Calls Try.prog 52 #[.string s1] w fun e w' => e = .returned (.tuple #[.string d, .string s2, .int .i64 e2]) ∧ Below w.heap.size w w' := fun w => by
    have := textOf_c s1 w hs1
    rw [hq2] at this
    exact this
  have K1 := Lib.hid k1
  have K2 := Lib.hid k2
  have HD := Lib.hid hd0
  have htn := Lib.hid (toList_eq_nil s2)
  clear hd0 h40 h4 hq1 hq2 k1 k2 hs1
  go_enter Try.func46, Try.ntmps46
  go_wp2_with fail
  refine (K1.out _).mono ?_; rintro e w1 ⟨rfl, h1⟩
  obtain ⟨hc, hz⟩ := bcell h1
  have hsz : w.heap.size + 1 < w1.heap.size := by have := h1.size; simp at this; omega
  have hsz' : w.heap.size < w1.heap.size := by omega
  have hB0 : Below w.heap.size w w1 := (((Below.refl _ _).alloc (Nat.le_refl _) _).alloc (by simp) _).trans (h1.mono (by simp; omega))
  by_cases he1 : e1 = 0
  · subst he1
    go_wp2_with fail
    refine (K2.out _).mono ?_; rintro e w2 ⟨rfl, h2⟩
    obtain ⟨hc2, hz2⟩ := bcell h2
    have hsz2 : w.heap.size + 1 < w2.heap.size := by have := h2.size; omega
    have hsz2' : w.heap.size < w2.heap.size := by omega
    have hB2 : Below w.heap.size w w2 := hB0.trans (h2.mono (by omega))
    have hblk2 := ((((Blk.new w 72 #[.int .i64 0, .int .i64 0, .int .i64 0, .int .i64 0, .int .i64 0, .string ⟨#[]⟩]).alloc (Obj.cells #[.int .i64 (Scu.byteAt s 0), .int .i64 0, .int .i64 (Scu.byteAt s 1), .int .i64 (Scu.byteAt s 2), .int .i64 (Scu.byteAt s 3), .string ⟨#[]⟩] 72)).same h1).same h2)
    have u0 := hblk2.cell 0
    have u1 := hblk2.cell 1
    have u2 := hblk2.cell 2
    have u3 := hblk2.cell 3
    have u4 := hblk2.cell 4
    have u5 := hblk2.cell 5
    simp only [List.getElem?_toArray, List.getElem?_cons_zero, List.getElem?_cons_succ] at u0 u1 u2 u3 u4 u5
    have HB2 := Lib.hid hblk2
    clear hblk2
    by_cases he2 : e2 = 0
    · subst he2
      by_cases hs2 : s2 = Scu.str0
      · have hs2' : s2.toList = [] := htn.out.2 (by rw [hs2]; rfl)
        have HS2 := Lib.hid hs2
        clear hs2
        go_wp2_with fail
        refine (requestFault_c ⟨Scu.byteAt s 0, n, ⟨Scu.byteAt s 1, Scu.byteAt s 2, Scu.byteAt s 3, d⟩⟩ _).mono ?_; rintro e w3 ⟨rfl, h3⟩
        obtain ⟨hc3, hz3⟩ := bcell h3
        have hsz3 : w.heap.size + 1 < w3.heap.size := by have := h3.size; simp at this; omega
        have hsz3' : w.heap.size < w3.heap.size := by omega
        have hB3 : Below w.heap.size w w3 := ((hB2.setCell (p := ⟨w.heap.size + 1, 1, none⟩) (by simp) _).setCell (p := ⟨w.heap.size + 1, 5, none⟩) (by simp) _).trans (h3.mono (by simp; omega))
        have hblk3 := ((HB2.out.far (p := ⟨w.heap.size + 1, 1, none⟩) (by simp) (.int .i64 n)).far (p := ⟨w.heap.size + 1, 5, none⟩) (by simp) (.string d)).same h3
        have y0 := hblk3.cell 0
        have y1 := hblk3.cell 1
        have y2 := hblk3.cell 2
        have y3 := hblk3.cell 3
        have y4 := hblk3.cell 4
        have y5 := hblk3.cell 5
        simp only [List.getElem?_toArray, List.getElem?_cons_zero, List.getElem?_cons_succ] at y0 y1 y2 y3 y4 y5
        have HB3 := Lib.hid hblk3
        clear hblk3
        by_cases hf : Scu.reqFault ⟨Scu.byteAt s 0, n, ⟨Scu.byteAt s 1, Scu.byteAt s 2, Scu.byteAt s 3, d⟩⟩ = 0
        · have hr : Scu.decode s = (⟨Scu.byteAt s 0, n, ⟨Scu.byteAt s 1, Scu.byteAt s 2, Scu.byteAt s 3, d⟩⟩, 0) := by
            rw [HD.out, if_neg (by simp), if_neg (by simp), if_neg (by simp [HS2.out]), if_neg (by simp [hf])]
          have HR := Lib.hid hr
          have hfb : (Scu.reqFault ⟨Scu.byteAt s 0, n, ⟨Scu.byteAt s 1, Scu.byteAt s 2, Scu.byteAt s 3, d⟩⟩ != 0) = false := by simpa using hf
          clear hr hf
          go_wp2
          refine bodyPost_ret (v := .tuple #[.agg #[.int .i64 (Scu.byteAt s 0), .int .i64 n, .int .i64 (Scu.byteAt s 1), .int .i64 (Scu.byteAt s 2), .int .i64 (Scu.byteAt s 3), .string d], .int .i64 0]) (by simp [results, Try.results46, go_sem, y0, y1, y2, y3, y4, y5]) rfl ?_
          exact ⟨by rw [HR.out]; rfl, below_set6 hB3 (Nat.le_refl _)⟩
        · have hr : Scu.decode s = (Scu.req0, Scu.reqFault ⟨Scu.byteAt s 0, n, ⟨Scu.byteAt s 1, Scu.byteAt s 2, Scu.byteAt s 3, d⟩⟩) := by
            rw [HD.out, if_neg (by simp), if_neg (by simp), if_neg (by simp [HS2.out]), if_pos hf]
          have HR := Lib.hid hr
          have hfb : (Scu.reqFault ⟨Scu.byteAt s 0, n, ⟨Scu.byteAt s 1, Scu.byteAt s 2, Scu.byteAt s 3, d⟩⟩ != 0) = true := by simpa using hf
          clear hr hf
          go_wp2
          refine bodyPost_ret (v := .tuple #[.agg #[.int .i64 0, .int .i64 0, .int .i64 0, .int .i64 0, .int .i64 0, .string ⟨#[]⟩], .int .i64 (Scu.reqFault ⟨Scu.byteAt s 0, n, ⟨Scu.byteAt s 1, Scu.byteAt s 2, Scu.byteAt s 3, d⟩⟩)]) (by simp [results, Try.results46, go_sem, y0, y1, y2, y3, y4, y5]) rfl ?_
          exact ⟨by rw [HR.out]; rfl, below_set6 hB3 (Nat.le_refl _)⟩
      · have hs2' : ¬ s2.toList = [] := fun e => hs2 ((Scu.size_zero_iff _).1 (htn.out.1 e))
        have hs2b : s2.toList.isEmpty = false := by simpa using hs2'
        have hr : Scu.decode s = (Scu.req0, 4) := by rw [HD.out, if_neg (by simp), if_neg (by simp), if_pos hs2]
        have HR := Lib.hid hr
        clear hr hs2
        go_wp2
        refine bodyPost_ret (v := .tuple #[.agg #[.int .i64 0, .int .i64 0, .int .i64 0, .int .i64 0, .int .i64 0, .string ⟨#[]⟩], .int .i64 4]) (by simp [results, Try.results46, go_sem, u0, u1, u2, u3, u4, u5]) rfl ?_
        exact ⟨by rw [HR.out]; rfl, below_set6 hB2 (Nat.le_refl _)⟩
    · have hb2 : (e2 != 0) = true := by simpa using he2
      have hr : Scu.decode s = (Scu.req0, e2) := by rw [HD.out, if_neg (by simp), if_pos he2]
      have HR := Lib.hid hr
      clear hr he2
      go_wp2
      refine bodyPost_ret (v := .tuple #[.agg #[.int .i64 0, .int .i64 0, .int .i64 0, .int .i64 0, .int .i64 0, .string ⟨#[]⟩], .int .i64 e2]) (by simp [results, Try.results46, go_sem, u0, u1, u2, u3, u4, u5]) rfl ?_
      exact ⟨by rw [HR.out]; rfl, below_set6 hB2 (Nat.le_refl _)⟩
  · have hb1 : (e1 != 0) = true := by simpa using he1
    have hr : Scu.decode s = (Scu.req0, e1) := by rw [HD.out, if_pos he1]
    have HR := Lib.hid hr
    clear hr he1
    go_wp2
    have hblk1 := ((Blk.new w 72 #[.int .i64 0, .int .i64 0, .int .i64 0, .int .i64 0, .int .i64 0, .string ⟨#[]⟩]).alloc (Obj.cells #[.int .i64 (Scu.byteAt s 0), .int .i64 0, .int .i64 (Scu.byteAt s 1), .int .i64 (Scu.byteAt s 2), .int .i64 (Scu.byteAt s 3), .string ⟨#[]⟩] 72)).same h1
    have u0 := hblk1.cell 0
    have u1 := hblk1.cell 1
    have u2 := hblk1.cell 2
    have u3 := hblk1.cell 3
    have u4 := hblk1.cell 4
    have u5 := hblk1.cell 5
    simp only [List.getElem?_toArray, List.getElem?_cons_zero, List.getElem?_cons_succ] at u0 u1 u2 u3 u4 u5
    refine bodyPost_ret (v := .tuple #[.agg #[.int .i64 0, .int .i64 0, .int .i64 0, .int .i64 0, .int .i64 0, .string ⟨#[]⟩], .int .i64 e1]) (by simp [results, Try.results46, go_sem, u0, u1, u2, u3, u4, u5]) rfl ?_
    exact ⟨by rw [HR.out]; rfl, below_set6 hB0 (Nat.le_refl _)⟩
end Go.Proofs.Ytlaibljdlpmbfaa

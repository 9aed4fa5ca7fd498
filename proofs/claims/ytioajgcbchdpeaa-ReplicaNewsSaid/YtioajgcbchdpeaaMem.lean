/- Words for memory: rows that are read, texts among them. -/
import Derived.Test.YtioajgcbchdpeaaBase
import Derived.Deep.Slices
import Derived.Deep.Fields
import Derived.Deep.Draws
import Derived.ProofKit
import Derived.OpenShut
import Derived.ShutString
namespace Go.Proofs.Ytioajgcbchdpeaa
open Go.RowKit

def R47 : Nat := 140737488351232

/-- From 'A' on stand the cells 'cs': in a block below B, or in one whose elements are of the type t. -/
def Rd (w : World) (B : Nat) (t : TypeId) (A : Option Addr) (cs : List Value) : Prop :=
  cs = [] ∨ ∃ g o, A = some ⟨g, o, none⟩ ∧ g < w.heap.size ∧ (g < B ∨ ∃ C fz, w.heap[g]? = some (.cells C t fz)) ∧ ∀ (j : Nat) (u : Value), cs[j]? = some u → w.cell? ⟨g, o + j, none⟩ = some u

section
variable {w w' : World} {B B' : Nat} {t : TypeId} {A : Option Addr} {cs : List Value}
theorem Rd.nil : Rd w B t A [] := .inl rfl
theorem Rd.get {k : Nat} {u : Value} (h : Rd w B t A cs) (hk : cs[k]? = some u) : ∃ g o, A = some ⟨g, o, none⟩ ∧ g < w.heap.size ∧ w.cell? ⟨g, o + k, none⟩ = some u := by
  rcases h with rfl | ⟨g, o, h1, h2, _, h4⟩
  · simp at hk
  · exact ⟨g, o, h1, h2, h4 k u hk⟩
/-- What stays as it was keeps the row. -/
theorem Rd.keep (h : Rd w B t A cs) (hs : w.heap.size ≤ w'.heap.size) (hk : ∀ g, g < w.heap.size → (g < B ∨ ∃ C fz, w.heap[g]? = some (.cells C t fz)) → w'.heap[g]? = w.heap[g]?) : Rd w' B t A cs := by
  rcases h with h | ⟨g, o, h1, h2, h3, h4⟩
  · exact .inl h
  · have e := hk g h2 h3
    refine .inr ⟨g, o, h1, by omega, ?_, fun j u hj => ?_⟩
    · rw [e]; exact h3
    · rw [World.cell?_of_block (w := w) (w' := w') (a := ⟨g, o + j, none⟩) e]; exact h4 j u hj
theorem Rd.below (h : Rd w B t A cs) (hb : Below w.heap.size w w') : Rd w' B t A cs := h.keep hb.size fun g hg _ => hb.block g hg
theorem Rd.drew (h : Rd w B t A cs) : Rd w.drew B t A cs := h
theorem Rd.drewN (h : Rd w B t A cs) (n : Nat) : Rd (w.drewN n) B t A cs := h
theorem Rd.alloc (h : Rd w B t A cs) (o : Obj) : Rd (w.alloc o) B t A cs := h.keep (by simp) fun g hg _ => Below.heap_alloc w o g hg
theorem Rd.mono (h : Rd w B t A cs) (hB : B ≤ B') : Rd w B' t A cs := by
  rcases h with h | ⟨g, o, h1, h2, h3, h4⟩
  · exact .inl h
  · exact .inr ⟨g, o, h1, h2, h3.imp (by omega) id, h4⟩
/-- A store into another block, of another type. -/
theorem Rd.setCell (h : Rd w B t A cs) {p : Addr} {C : Array Value} {t' : TypeId} {fz : Nat × Nat} (hp : w.heap[p.block]? = some (.cells C t' fz)) (hB : B ≤ p.block) (ht : t' ≠ t) (u : Value) : Rd (w.setCell p u) B t A cs :=
  h.keep (by simp [World.setCell]) fun g hg hk => Below.heap_setCell w p u g (by
    rintro rfl
    rcases hk with hk | ⟨C', fz', hk⟩
    · omega
    · rw [hp] at hk
      cases hk
      exact ht rfl)
/-- Behind an append onto a row of another type. -/
theorem Rd.grown (h : Rd w B t A cs) {row : Option Nat} (hg : w.grownBy w' row) (hr : ∀ g, row = some g → B ≤ g ∧ ∀ C fz, w.heap[g]? ≠ some (.cells C t fz)) : Rd w' B t A cs :=
  h.keep hg.size fun g hlt hk => hg.block g hlt fun e => by
    obtain ⟨h1, h2⟩ := hr g e.symm
    rcases hk with hk | ⟨C, fz, hk⟩
    · omega
    · exact h2 C fz hk
theorem Rd.take (h : Rd w B t A cs) (n : Nat) : Rd w B t A (cs.take n) := by
  rcases h with h | ⟨g, o, h1, h2, h3, h4⟩
  · subst h; exact .inl (by simp)
  · exact .inr ⟨g, o, h1, h2, h3, fun j u hj => h4 j u (by
      have : j < n := by
        rcases Nat.lt_or_ge j n with h | h
        · exact h
        · rw [List.getElem?_eq_none (by rw [List.length_take]; omega)] at hj; cases hj
      rwa [List.getElem?_take_of_lt this] at hj)⟩
end

/-- A block that is known whole. -/
def Blk (w : World) (g : Nat) (t : TypeId) (cs : Array Value) : Prop := w.heap[g]? = some (.cells cs t (0, 0))
section
variable {w w' : World} {g : Nat} {t : TypeId} {cs : Array Value}
theorem Blk.lt (h : Blk w g t cs) : g < w.heap.size := by
  rcases Nat.lt_or_ge g w.heap.size with hlt | hge
  · exact hlt
  · unfold Blk at h; rw [Array.getElem?_eq_none hge] at h; cases h
theorem Blk.cell (h : Blk w g t cs) (i : Nat) : w.cell? ⟨g, i, none⟩ = cs[i]? := by
  unfold Blk at h
  simp [World.cell?, h]
theorem Blk.frozen (h : Blk w g t cs) (i : Nat) : w.frozen? ⟨g, i, none⟩ = false := by
  unfold Blk at h
  simp [World.frozen?, h]
theorem Blk.new (w : World) (t : TypeId) (cs : Array Value) : Blk (w.alloc (.cells cs t)) w.heap.size t cs := by
  show (w.heap.push _)[w.heap.size]? = _
  simp
theorem Blk.new' {w : World} {g : Nat} {t : TypeId} {cs : Array Value} (h : g = w.heap.size) : Blk (w.alloc (.cells cs t)) g t cs := by subst h; exact Blk.new w t cs
theorem Blk.drew (h : Blk w g t cs) : Blk w.drew g t cs := h
theorem Blk.drewN (h : Blk w g t cs) (n : Nat) : Blk (w.drewN n) g t cs := h
theorem Blk.alloc (h : Blk w g t cs) (o : Obj) : Blk (w.alloc o) g t cs := (Below.heap_alloc w o g h.lt).trans h
theorem Blk.far (h : Blk w g t cs) {p : Addr} (hp : g ≠ p.block) (u : Value) : Blk (w.setCell p u) g t cs := (Below.heap_setCell w p u g hp).trans h
theorem Blk.below {B : Nat} (h : Blk w g t cs) (hb : Below B w w') (hg : g < B) : Blk w' g t cs := (hb.block g hg).trans h
theorem Blk.set_ (h : Blk w g t cs) (i : Nat) (u : Value) : Blk (w.setCell ⟨g, i, none⟩ u) g t (cs.setIfInBounds i u) := by
  unfold Blk at h ⊢
  simp [World.setCell, Array.getElem?_modify, h]
theorem Blk.same (h : Blk w g t cs) (hb : Below w.heap.size w w') : Blk w' g t cs := h.below hb h.lt
end

theorem bcell {W w1 : World} {B : Nat} (hb : Below B W w1) : (∀ b o, b < B → w1.cell? ⟨b, o, none⟩ = W.cell? ⟨b, o, none⟩) ∧ (∀ b o, b < B → w1.frozen? ⟨b, o, none⟩ = W.frozen? ⟨b, o, none⟩) :=
  ⟨fun b o h => hb.cell (p := ⟨b, o, none⟩) h, fun b o h => hb.frozen (p := ⟨b, o, none⟩) h⟩
theorem below_box {w w' : World} {o : Obj} (h : Below (w.alloc o).heap.size (w.alloc o) w') : Below w.heap.size w w' :=
  ((Below.refl _ _).alloc (Nat.le_refl _) _).trans (h.mono (by simp))

theorem box_lt {w w' : World} {o : Obj} (h : Below (w.alloc o).heap.size (w.alloc o) w') : w.heap.size < w'.heap.size := by
  have := h.size
  simp at this
  omega
/-- A quiet call behind draws. -/
theorem quiet_at {P : Program} {f : FuncId} {args : Array Value} {w : World} {a : Nat} {v : Value}
    (h : Calls P f args (w.drewN a) fun e w' => e = .returned v ∧ ∃ m, w' = (w.drewN a).drewN m) :
    Calls P f args (w.drewN a) fun e w'' => e = .returned v ∧ ∃ m, w'' = w.drewN m :=
  h.mono fun _ _ ⟨he, m, hm⟩ => ⟨he, a + m, by rw [hm, World.drewN_drewN]⟩
theorem quiet_add {P : Program} {f : FuncId} {args : Array Value} {w : World} {a n : Nat} {v : Value}
    (h : Calls P f args (w.drewN (a + n)) fun e w' => e = .returned v ∧ ∃ m, w' = (w.drewN (a + n)).drewN m) :
    Calls P f args (w.drewN (a + n)) fun e w'' => e = .returned v ∧ ∃ m, w'' = w.drewN (a + m) :=
  h.mono fun _ _ ⟨he, m, hm⟩ => ⟨he, n + m, by rw [hm, World.drewN_drewN, Nat.add_assoc]⟩

/- texts -/
structure IsStrs (w : World) (B : Nat) (v : Value) (xs : List Scu.Str) : Prop where
  ex : ∃ A c, v = .slice A xs.length c ∧ xs.length ≤ c ∧ Rd w B 9 A (xs.map Value.string)
  len : xs.length * 16 ≤ R47
  each : ∀ s ∈ xs, s.size ≤ R47

section
variable {w w' : World} {B B' : Nat} {v : Value} {xs : List Scu.Str}
theorem IsStrs.below (h : IsStrs w B v xs) (hb : Below w.heap.size w w') : IsStrs w' B v xs := ⟨let ⟨A, c, h1, h2, h3⟩ := h.ex; ⟨A, c, h1, h2, h3.below hb⟩, h.len, h.each⟩
theorem IsStrs.drewN (h : IsStrs w B v xs) (n : Nat) : IsStrs (w.drewN n) B v xs := ⟨h.ex, h.len, h.each⟩
theorem IsStrs.alloc (h : IsStrs w B v xs) (o : Obj) : IsStrs (w.alloc o) B v xs := ⟨let ⟨A, c, h1, h2, h3⟩ := h.ex; ⟨A, c, h1, h2, h3.alloc o⟩, h.len, h.each⟩
theorem IsStrs.mono (h : IsStrs w B v xs) (hB : B ≤ B') : IsStrs w B' v xs := ⟨let ⟨A, c, h1, h2, h3⟩ := h.ex; ⟨A, c, h1, h2, h3.mono hB⟩, h.len, h.each⟩
theorem IsStrs.keep (h : IsStrs w B v xs) (hs : w.heap.size ≤ w'.heap.size) (hk : ∀ g, g < w.heap.size → (g < B ∨ ∃ C fz, w.heap[g]? = some (.cells C 9 fz)) → w'.heap[g]? = w.heap[g]?) : IsStrs w' B v xs :=
  ⟨let ⟨A, c, h1, h2, h3⟩ := h.ex; ⟨A, c, h1, h2, h3.keep hs hk⟩, h.len, h.each⟩
theorem IsStrs.nil_ : IsStrs w B (.slice none 0 0) [] := ⟨⟨none, 0, rfl, Nat.le_refl _, Rd.nil⟩, by simp [R47], fun s hs => by cases hs⟩
end
theorem str_get {w : World} {B : Nat} {A : Option Addr} {xs : List Scu.Str} {k : Nat} (h : Rd w B 9 A (xs.map Value.string)) (hk : k < xs.length) :
    ∃ g o, A = some ⟨g, o, none⟩ ∧ g < w.heap.size ∧ w.cell? ⟨g, o + k, none⟩ = some (.string xs[k]) :=
  h.get (by simp [hk])
theorem take_succ_eq {α : Type} [DecidableEq α] {xs ys : List α} {k : Nat} (h : xs.take k = ys.take k) (hx : k < xs.length) (hy : k < ys.length) (he : xs[k] = ys[k]) : xs.take (k + 1) = ys.take (k + 1) := by
  rw [List.take_succ_eq_append_getElem hx, List.take_succ_eq_append_getElem hy, h, he]
end Go.Proofs.Ytioajgcbchdpeaa

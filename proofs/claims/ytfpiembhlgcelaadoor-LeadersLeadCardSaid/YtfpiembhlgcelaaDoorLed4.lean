/- Part 4: words and walks under the law 'LeadersLead'. -/
import Derived.Test.YtfpiembhlgcelaaDoorLed3
import Derived.Deep.Slices
import Derived.Deep.Fields
import Derived.Deep.Draws
import Derived.ProofKit
import Derived.OpenShut
import Derived.ShutString
set_option linter.unusedVariables false
set_option linter.unusedSimpArgs false
/- Words for memory: rows that are read, texts among them. -/
namespace Go.Proofs.YtfpiembhlgcelaaDoor
open Go.RowKit

def R47 : Nat := 140737488351232

/-- From 'A' on stand the cells 'cs': in a block below B, or in one whose elements are of the type t. -/
def Rd (w : World) (B : Nat) (t : TypeId) (A : Option Addr) (cs : List Value) : Prop :=
  cs = [] ∨ ∃ g o, A = some ⟨g, o, none⟩ ∧ g < w.heap.size ∧ (g < B ∨ ∃ C fz, w.heap[g]? = some (.cells C t fz)) ∧ ∀ (j : Nat) (u : Value), cs[j]? = some u → w.cell? ⟨g, o + j, none⟩ = some u

section
variable {w w' : World} {B B' : Nat} {t : TypeId} {A : Option Addr} {cs : List Value}
theorem Rd.nil : Rd w B t A [] := .inl rfl
theorem Rd.get {k : Nat} {u : Value} (h : Rd w B t A cs) (hk : cs[k]? = some u) : ∃ g o, A = some ⟨g, o, none⟩ ∧ g < w.heap.size ∧ w.cell? ⟨g, o + k, none⟩ = some u := by
  rcases h with rfl | ⟨g, o, h1, h2, _, h4⟩
  · simp at hk
  · exact ⟨g, o, h1, h2, h4 k u hk⟩
/-- What stays as it was keeps the row. -/
theorem Rd.keep (h : Rd w B t A cs) (hs : w.heap.size ≤ w'.heap.size) (hk : ∀ g, g < w.heap.size → (g < B ∨ ∃ C fz, w.heap[g]? = some (.cells C t fz)) → w'.heap[g]? = w.heap[g]?) : Rd w' B t A cs := by
  rcases h with h | ⟨g, o, h1, h2, h3, h4⟩
  · exact .inl h
  · have e := hk g h2 h3
    refine .inr ⟨g, o, h1, by omega, ?_, fun j u hj => ?_⟩
    · rw [e]; exact h3
    · rw [World.cell?_of_block (w := w) (w' := w') (a := ⟨g, o + j, none⟩) e]; exact h4 j u hj
theorem Rd.below (h : Rd w B t A cs) (hb : Below w.heap.size w w') : Rd w' B t A cs := h.keep hb.size fun g hg _ => hb.block g hg
theorem Rd.drew (h : Rd w B t A cs) : Rd w.drew B t A cs := h
theorem Rd.drewN (h : Rd w B t A cs) (n : Nat) : Rd (w.drewN n) B t A cs := h
theorem Rd.alloc (h : Rd w B t A cs) (o : Obj) : Rd (w.alloc o) B t A cs := h.keep (by simp) fun g hg _ => Below.heap_alloc w o g hg
theorem Rd.mono (h : Rd w B t A cs) (hB : B ≤ B') : Rd w B' t A cs := by
  rcases h with h | ⟨g, o, h1, h2, h3, h4⟩
  · exact .inl h
  · exact .inr ⟨g, o, h1, h2, h3.imp (by omega) id, h4⟩
/-- A store into another block, of another type. -/
theorem Rd.setCell (h : Rd w B t A cs) {p : Addr} {C : Array Value} {t' : TypeId} {fz : Nat × Nat} (hp : w.heap[p.block]? = some (.cells C t' fz)) (hB : B ≤ p.block) (ht : t' ≠ t) (u : Value) : Rd (w.setCell p u) B t A cs :=
  h.keep (by simp [World.setCell]) fun g hg hk => Below.heap_setCell w p u g (by
    rintro rfl
    rcases hk with hk | ⟨C', fz', hk⟩
    · omega
    · rw [hp] at hk
      cases hk
      exact ht rfl)
/-- Behind an append onto a row of another type. -/
theorem Rd.grown (h : Rd w B t A cs) {row : Option Nat} (hg : w.grownBy w' row) (hr : ∀ g, row = some g → B ≤ g ∧ ∀ C fz, w.heap[g]? ≠ some (.cells C t fz)) : Rd w' B t A cs :=
  h.keep hg.size fun g hlt hk => hg.block g hlt fun e => by
    obtain ⟨h1, h2⟩ := hr g e.symm
    rcases hk with hk | ⟨C, fz, hk⟩
    · omega
    · exact h2 C fz hk
theorem Rd.take (h : Rd w B t A cs) (n : Nat) : Rd w B t A (cs.take n) := by
  rcases h with h | ⟨g, o, h1, h2, h3, h4⟩
  · subst h; exact .inl (by simp)
  · exact .inr ⟨g, o, h1, h2, h3, fun j u hj => h4 j u (by
      have : j < n := by
        rcases Nat.lt_or_ge j n with h | h
        · exact h
        · rw [List.getElem?_eq_none (by rw [List.length_take]; omega)] at hj; cases hj
      rwa [List.getElem?_take_of_lt this] at hj)⟩
end

/-- A block that is known whole. -/
def Blk (w : World) (g : Nat) (t : TypeId) (cs : Array Value) : Prop := w.heap[g]? = some (.cells cs t (0, 0))
section
variable {w w' : World} {g : Nat} {t : TypeId} {cs : Array Value}
theorem Blk.lt (h : Blk w g t cs) : g < w.heap.size := by
  rcases Nat.lt_or_ge g w.heap.size with hlt | hge
  · exact hlt
  · unfold Blk at h; rw [Array.getElem?_eq_none hge] at h; cases h
theorem Blk.cell (h : Blk w g t cs) (i : Nat) : w.cell? ⟨g, i, none⟩ = cs[i]? := by
  unfold Blk at h
  simp [World.cell?, h]
theorem Blk.frozen (h : Blk w g t cs) (i : Nat) : w.frozen? ⟨g, i, none⟩ = false := by
  unfold Blk at h
  simp [World.frozen?, h]
theorem Blk.new (w : World) (t : TypeId) (cs : Array Value) : Blk (w.alloc (.cells cs t)) w.heap.size t cs := by
  show (w.heap.push _)[w.heap.size]? = _
  simp
theorem Blk.new' {w : World} {g : Nat} {t : TypeId} {cs : Array Value} (h : g = w.heap.size) : Blk (w.alloc (.cells cs t)) g t cs := by subst h; exact Blk.new w t cs
theorem Blk.drew (h : Blk w g t cs) : Blk w.drew g t cs := h
theorem Blk.drewN (h : Blk w g t cs) (n : Nat) : Blk (w.drewN n) g t cs := h
theorem Blk.alloc (h : Blk w g t cs) (o : Obj) : Blk (w.alloc o) g t cs := (Below.heap_alloc w o g h.lt).trans h
theorem Blk.far (h : Blk w g t cs) {p : Addr} (hp : g ≠ p.block) (u : Value) : Blk (w.setCell p u) g t cs := (Below.heap_setCell w p u g hp).trans h
theorem Blk.below {B : Nat} (h : Blk w g t cs) (hb : Below B w w') (hg : g < B) : Blk w' g t cs := (hb.block g hg).trans h
theorem Blk.set_ (h : Blk w g t cs) (i : Nat) (u : Value) : Blk (w.setCell ⟨g, i, none⟩ u) g t (cs.setIfInBounds i u) := by
  unfold Blk at h ⊢
  simp [World.setCell, Array.getElem?_modify, h]
theorem Blk.same (h : Blk w g t cs) (hb : Below w.heap.size w w') : Blk w' g t cs := h.below hb h.lt
end

theorem bcell {W w1 : World} {B : Nat} (hb : Below B W w1) : (∀ b o, b < B → w1.cell? ⟨b, o, none⟩ = W.cell? ⟨b, o, none⟩) ∧ (∀ b o, b < B → w1.frozen? ⟨b, o, none⟩ = W.frozen? ⟨b, o, none⟩) :=
  ⟨fun b o h => hb.cell (p := ⟨b, o, none⟩) h, fun b o h => hb.frozen (p := ⟨b, o, none⟩) h⟩
theorem below_box {w w' : World} {o : Obj} (h : Below (w.alloc o).heap.size (w.alloc o) w') : Below w.heap.size w w' :=
  ((Below.refl _ _).alloc (Nat.le_refl _) _).trans (h.mono (by simp))

theorem box_lt {w w' : World} {o : Obj} (h : Below (w.alloc o).heap.size (w.alloc o) w') : w.heap.size < w'.heap.size := by
  have := h.size
  simp at this
  omega
/-- A quiet call behind draws. -/
theorem quiet_at {P : Program} {f : FuncId} {args : Array Value} {w : World} {a : Nat} {v : Value}
    (h : Calls P f args (w.drewN a) fun e w' => e = .returned v ∧ ∃ m, w' = (w.drewN a).drewN m) :
    Calls P f args (w.drewN a) fun e w'' => e = .returned v ∧ ∃ m, w'' = w.drewN m :=
  h.mono fun _ _ ⟨he, m, hm⟩ => ⟨he, a + m, by rw [hm, World.drewN_drewN]⟩
theorem quiet_add {P : Program} {f : FuncId} {args : Array Value} {w : World} {a n : Nat} {v : Value}
    (h : Calls P f args (w.drewN (a + n)) fun e w' => e = .returned v ∧ ∃ m, w' = (w.drewN (a + n)).drewN m) :
    Calls P f args (w.drewN (a + n)) fun e w'' => e = .returned v ∧ ∃ m, w'' = w.drewN (a + m) :=
  h.mono fun _ _ ⟨he, m, hm⟩ => ⟨he, n + m, by rw [hm, World.drewN_drewN, Nat.add_assoc]⟩

/- texts -/
structure IsStrs (w : World) (B : Nat) (v : Value) (xs : List Scu.Str) : Prop where
  ex : ∃ A c, v = .slice A xs.length c ∧ xs.length ≤ c ∧ Rd w B 9 A (xs.map Value.string)
  len : xs.length * 16 ≤ R47
  each : ∀ s ∈ xs, s.size ≤ R47

section
variable {w w' : World} {B B' : Nat} {v : Value} {xs : List Scu.Str}
theorem IsStrs.below (h : IsStrs w B v xs) (hb : Below w.heap.size w w') : IsStrs w' B v xs := ⟨let ⟨A, c, h1, h2, h3⟩ := h.ex; ⟨A, c, h1, h2, h3.below hb⟩, h.len, h.each⟩
theorem IsStrs.drewN (h : IsStrs w B v xs) (n : Nat) : IsStrs (w.drewN n) B v xs := ⟨h.ex, h.len, h.each⟩
theorem IsStrs.alloc (h : IsStrs w B v xs) (o : Obj) : IsStrs (w.alloc o) B v xs := ⟨let ⟨A, c, h1, h2, h3⟩ := h.ex; ⟨A, c, h1, h2, h3.alloc o⟩, h.len, h.each⟩
theorem IsStrs.mono (h : IsStrs w B v xs) (hB : B ≤ B') : IsStrs w B' v xs := ⟨let ⟨A, c, h1, h2, h3⟩ := h.ex; ⟨A, c, h1, h2, h3.mono hB⟩, h.len, h.each⟩
theorem IsStrs.keep (h : IsStrs w B v xs) (hs : w.heap.size ≤ w'.heap.size) (hk : ∀ g, g < w.heap.size → (g < B ∨ ∃ C fz, w.heap[g]? = some (.cells C 9 fz)) → w'.heap[g]? = w.heap[g]?) : IsStrs w' B v xs :=
  ⟨let ⟨A, c, h1, h2, h3⟩ := h.ex; ⟨A, c, h1, h2, h3.keep hs hk⟩, h.len, h.each⟩
theorem IsStrs.nil_ : IsStrs w B (.slice none 0 0) [] := ⟨⟨none, 0, rfl, Nat.le_refl _, Rd.nil⟩, by simp [R47], fun s hs => by cases hs⟩
end
theorem str_get {w : World} {B : Nat} {A : Option Addr} {xs : List Scu.Str} {k : Nat} (h : Rd w B 9 A (xs.map Value.string)) (hk : k < xs.length) :
    ∃ g o, A = some ⟨g, o, none⟩ ∧ g < w.heap.size ∧ w.cell? ⟨g, o + k, none⟩ = some (.string xs[k]) :=
  h.get (by simp [hk])
theorem take_succ_eq {α : Type} [DecidableEq α] {xs ys : List α} {k : Nat} (h : xs.take k = ys.take k) (hx : k < xs.length) (hy : k < ys.length) (he : xs[k] = ys[k]) : xs.take (k + 1) = ys.take (k + 1) := by
  rw [List.take_succ_eq_append_getElem hx, List.take_succ_eq_append_getElem hy, h, he]
end Go.Proofs.YtfpiembhlgcelaaDoor
/- Walks: the laws' own comparisons. -/
namespace Go.Proofs.YtfpiembhlgcelaaDoor
open Go.RowKit
set_option maxHeartbeats 400000
set_option maxRecDepth 100000
theorem str_beq (a b : ByteArray) : (a.toList == b.toList) = decide (a = b) := by
  rw [ByteArray.toList_eq, ByteArray.toList_eq, Bool.eq_iff_iff, beq_iff_eq, decide_eq_true_eq]
  exact ⟨fun e => ByteArray.ext (Array.toList_inj.1 e), fun e => by rw [e]⟩

/- volumes -/
structure IsRows (w : World) (B : Nat) (v : Value) (xss : List (List Scu.Str)) : Prop where
  ex : ∃ A c vs, v = .slice A xss.length c ∧ xss.length ≤ c ∧ Rd w B 36 A vs ∧ vs.length = xss.length ∧ ∀ (j : Nat) (u : Value) (x : List Scu.Str), vs[j]? = some u → xss[j]? = some x → IsStrs w B u x
  len : xss.length * 24 ≤ R47
section
variable {w w' : World} {B B' : Nat} {v : Value} {xss : List (List Scu.Str)}
theorem IsRows.keep (h : IsRows w B v xss) (hs : w.heap.size ≤ w'.heap.size) (hk : ∀ g, g < w.heap.size → (g < B ∨ ∃ C fz t, (t = 9 ∨ t = 36) ∧ w.heap[g]? = some (.cells C t fz)) → w'.heap[g]? = w.heap[g]?) : IsRows w' B v xss :=
  ⟨let ⟨A, c, vs, h1, h2, h3, h4, h5⟩ := h.ex
   ⟨A, c, vs, h1, h2, h3.keep hs (fun g hg hh => hk g hg (hh.imp id fun ⟨C, fz, e⟩ => ⟨C, fz, _, .inr rfl, e⟩)), h4, fun j u x a b => (h5 j u x a b).keep hs (fun g hg hh => hk g hg (hh.imp id fun ⟨C, fz, e⟩ => ⟨C, fz, _, .inl rfl, e⟩))⟩, h.len⟩
theorem IsRows.below (h : IsRows w B v xss) (hb : Below w.heap.size w w') : IsRows w' B v xss := h.keep hb.size fun g hg _ => hb.block g hg
theorem IsRows.drewN (h : IsRows w B v xss) (n : Nat) : IsRows (w.drewN n) B v xss := h.keep (Nat.le_refl _) fun _ _ _ => rfl
theorem IsRows.alloc (h : IsRows w B v xss) (o : Obj) : IsRows (w.alloc o) B v xss := h.keep (by simp) fun g hg _ => Below.heap_alloc w o g hg
theorem IsRows.mono (h : IsRows w B v xss) (hB : B ≤ B') : IsRows w B' v xss :=
  ⟨let ⟨A, c, vs, h1, h2, h3, h4, h5⟩ := h.ex; ⟨A, c, vs, h1, h2, h3.mono hB, h4, fun j u x a b => (h5 j u x a b).mono hB⟩, h.len⟩
end
theorem rows_get {w : World} {B : Nat} {A : Option Addr} {vs : List Value} {xss : List (List Scu.Str)} {k : Nat} (h : Rd w B 36 A vs) (hl : vs.length = xss.length)
    (h5 : ∀ (j : Nat) (u : Value) (x : List Scu.Str), vs[j]? = some u → xss[j]? = some x → IsStrs w B u x) (hk : k < xss.length) :
    ∃ g o u, A = some ⟨g, o, none⟩ ∧ g < w.heap.size ∧ w.cell? ⟨g, o + k, none⟩ = some u ∧ IsStrs w B u xss[k] := by
  have hkv : k < vs.length := by omega
  obtain ⟨g, o, h1, h2, h3⟩ := h.get (List.getElem?_eq_getElem hkv)
  exact ⟨g, o, _, h1, h2, h3, h5 k _ _ (List.getElem?_eq_getElem hkv) (List.getElem?_eq_getElem hk)⟩

structure IsVolume (w : World) (B : Nat) (nv sv : Value) (x : Scu.Volume) : Prop where
  now : IsStrs w B nv x.now
  snaps : IsRows w B sv x.snaps
theorem IsVolume.below {w w' : World} {B : Nat} {nv sv : Value} {x : Scu.Volume} (h : IsVolume w B nv sv x) (hb : Below w.heap.size w w') : IsVolume w' B nv sv x := ⟨h.now.below hb, h.snaps.below hb⟩
theorem IsVolume.drewN {w : World} {B : Nat} {nv sv : Value} {x : Scu.Volume} (h : IsVolume w B nv sv x) (n : Nat) : IsVolume (w.drewN n) B nv sv x := ⟨h.now.drewN n, h.snaps.drewN n⟩
theorem IsVolume.alloc {w : World} {B : Nat} {nv sv : Value} {x : Scu.Volume} (h : IsVolume w B nv sv x) (o : Obj) : IsVolume (w.alloc o) B nv sv x := ⟨h.now.alloc o, h.snaps.alloc o⟩

theorem vol_eq {x y : Scu.Volume} (h1 : x.now = y.now) (h2 : x.snaps = y.snaps) : x = y := by
  cases x; cases y; simp_all
end Go.Proofs.YtfpiembhlgcelaaDoor
/- How arguments are opened: what their reading says of cells and values. -/
namespace Go.Proofs.YtfpiembhlgcelaaDoor
open Go.RowKit Go.ChangeShapes Go.WideShapes Go.ChangeAt
set_option maxRecDepth 100000

def opC (o : Scu.Op) : List Value := [.int .i64 o.kind, .int .i64 o.at_, .int .i64 o.snap, .string o.data]
def vOp (o : Scu.Op) : Value := .agg #[.int .i64 o.kind, .int .i64 o.at_, .int .i64 o.snap, .string o.data]
def vRequest (r : Scu.Request) : Value := .agg #[.int .i64 r.client, .int .i64 r.num, .int .i64 r.op.kind, .int .i64 r.op.at_, .int .i64 r.op.snap, .string r.op.data]

theorem cells_int : Tryd.prog.cellsOf 3 = 1 := by kernel_rfl
theorem cells_bool : Tryd.prog.cellsOf 4 = 1 := by kernel_rfl
theorem cells_string : Tryd.prog.cellsOf 9 = 1 := by kernel_rfl
theorem cells_strs : Tryd.prog.cellsOf 36 = 1 := by kernel_rfl
theorem cells_op : Tryd.prog.cellsOf 26 = 4 := by kernel_rfl
theorem cells_request : Tryd.prog.cellsOf 28 = 6 := by kernel_rfl

section
variable {H : Type} {enc : TypeId × Value → H} {w : World} {base : Nat} {spare : Nat → Bool} {held : Bool} {n : Nat} {cs : List Value} {y : Option (DataW H × List MemPlace)}
theorem some_of {α : Type} {xs : List α} {m : Nat} (h : xs.length = m) {i : Nat} (hi : i < m) : ∃ z, xs[i]? = some z := ⟨_, List.getElem?_eq_getElem (by omega)⟩

theorem trod_op {x : DataW H × List MemPlace} (h : DataW.trod enc Tryd.prog w base spare held n 26 cs = some x) : ∃ o : Scu.Op, cs = opC o ∧ o.data.size ≤ maxLen := by
  obtain ⟨xs, m, _, _, hl, hxl, hf⟩ := DataW.trod_struct Tryd.underlying26 h
  rw [cells_op] at hl
  match cs, hl with
  | [c0, c1, c2, c3], _ =>
    obtain ⟨z0, e0⟩ := some_of hxl (i := 0) (by simp)
    obtain ⟨z1, e1⟩ := some_of hxl (i := 1) (by simp)
    obtain ⟨z2, e2⟩ := some_of hxl (i := 2) (by simp)
    obtain ⟨z3, e3⟩ := some_of hxl (i := 3) (by simp)
    obtain ⟨n0, h0, _⟩ := DataW.trod_int Tryd.underlying3 ((hf 0 _ rfl).trans e0)
    obtain ⟨n1, h1, _⟩ := DataW.trod_int Tryd.underlying3 ((hf 1 _ rfl).trans e1)
    obtain ⟨n2, h2, _⟩ := DataW.trod_int Tryd.underlying3 ((hf 2 _ rfl).trans e2)
    obtain ⟨s, h3, _, hs⟩ := DataW.trod_string Tryd.underlying9 ((hf 3 _ rfl).trans e3)
    simp [cells_int, cells_string] at h0 h1 h2 h3
    subst h0 h1 h2 h3
    exact ⟨⟨n0, n1, n2, s⟩, rfl, hs⟩

theorem trod_request {x : DataW H × List MemPlace} (h : DataW.trod enc Tryd.prog w base spare held n 28 cs = some x) :
    ∃ r : Scu.Request, cs = .int .i64 r.client :: .int .i64 r.num :: opC r.op := by
  obtain ⟨xs, m, _, _, hl, hxl, hf⟩ := DataW.trod_struct Tryd.underlying28 h
  rw [cells_request] at hl
  match cs, hl with
  | [c0, c1, c2, c3, c4, c5], _ =>
    obtain ⟨z0, e0⟩ := some_of hxl (i := 0) (by simp)
    obtain ⟨z1, e1⟩ := some_of hxl (i := 1) (by simp)
    obtain ⟨z2, e2⟩ := some_of hxl (i := 2) (by simp)
    obtain ⟨n0, h0, _⟩ := DataW.trod_int Tryd.underlying3 ((hf 0 _ rfl).trans e0)
    obtain ⟨n1, h1, _⟩ := DataW.trod_int Tryd.underlying3 ((hf 1 _ rfl).trans e1)
    obtain ⟨o, h2, _⟩ := trod_op ((hf 2 _ rfl).trans e2)
    simp [cells_int, cells_op] at h0 h1 h2
    subst h0 h1
    exact ⟨⟨n0, n1, o⟩, by rw [← h2]⟩
end
section
variable {H : Type} {enc : TypeId × Value → H} {w : World} {base : Nat} {spare : Nat → Bool} {held : Bool} {d : DataW H} {p : List MemPlace} {v : Value} {b0 : Nat}
theorem open_Op (hv : Value.okWide Tryd.prog w .any b0 26 v) (h : DataW.Trod enc Tryd.prog w base spare held 26 v d p) : ∃ o, v = vOp o := by
  obtain ⟨cs, rfl, _⟩ := okWide_struct Tryd.underlying26 hv
  obtain ⟨fuel, hf⟩ := h
  obtain ⟨o, ho, _⟩ := trod_op hf
  refine ⟨o, ?_⟩
  have : cs = (opC o).toArray := by
    apply Array.toList_inj.1
    simpa [Value.cells] using ho
  rw [this]
  rfl
theorem open_Request (hv : Value.okWide Tryd.prog w .any b0 28 v) (h : DataW.Trod enc Tryd.prog w base spare held 28 v d p) : ∃ r, v = vRequest r := by
  obtain ⟨cs, rfl, _⟩ := okWide_struct Tryd.underlying28 hv
  obtain ⟨fuel, hf⟩ := h
  obtain ⟨o, ho⟩ := trod_request hf
  refine ⟨o, ?_⟩
  have : cs = (.int .i64 o.client :: .int .i64 o.num :: opC o.op : List Value).toArray := by
    apply Array.toList_inj.1
    simpa [Value.cells] using ho
  rw [this]
  rfl
end
end Go.Proofs.YtfpiembhlgcelaaDoor
/- Words for memory: what clients were told last; states. Walks: their comparison; new ones. -/
namespace Go.Proofs.YtfpiembhlgcelaaDoor
open Go.RowKit
set_option maxHeartbeats 400000
set_option maxRecDepth 100000

theorem flat_get {α : Type} (f : α → List Value) (m : Nat) (hf : ∀ x, (f x).length = m) : ∀ (l : List α) (k j : Nat) (hk : k < l.length), j < m → (l.flatMap f)[k * m + j]? = (f l[k])[j]?
  | x :: l, 0, j, _, hj => by
    simp only [List.flatMap_cons, Nat.zero_mul, Nat.zero_add, List.getElem_cons_zero]
    rw [List.getElem?_append_left (by rw [hf]; exact hj)]
  | x :: l, k + 1, j, hk, hj => by
    simp only [List.flatMap_cons, List.getElem_cons_succ]
    rw [List.getElem?_append_right (by rw [hf, Nat.succ_mul]; omega), hf, show (k + 1) * m + j - m = k * m + j from by rw [Nat.succ_mul]; omega]
    exact flat_get f m hf l k j (by simpa using hk) hj
theorem flat_len {α : Type} (f : α → List Value) (m : Nat) (hf : ∀ x, (f x).length = m) (l : List α) : (l.flatMap f).length = l.length * m := by
  induction l with
  | nil => simp
  | cons x l ih => simp only [List.flatMap_cons, List.length_append, hf, ih, List.length_cons, Nat.succ_mul]; omega

def lastC (l : Scu.Last) : List Value := [.int .i64 l.num, .int .i64 l.reply.code, .int .i64 l.reply.n, .string l.reply.data]
structure IsLasts (w : World) (B : Nat) (v : Value) (ls : List Scu.Last) : Prop where
  ex : ∃ A c, v = .slice A ls.length c ∧ ls.length ≤ c ∧ Rd w B 60 A (ls.flatMap lastC)
  len : ls.length * 40 ≤ R47
section
variable {w w' : World} {B B' : Nat} {v : Value} {ls : List Scu.Last}
theorem IsLasts.keep (h : IsLasts w B v ls) (hs : w.heap.size ≤ w'.heap.size) (hk : ∀ g, g < w.heap.size → (g < B ∨ ∃ C fz, w.heap[g]? = some (.cells C 60 fz)) → w'.heap[g]? = w.heap[g]?) : IsLasts w' B v ls :=
  ⟨let ⟨A, c, h1, h2, h3⟩ := h.ex; ⟨A, c, h1, h2, h3.keep hs hk⟩, h.len⟩
theorem IsLasts.below (h : IsLasts w B v ls) (hb : Below w.heap.size w w') : IsLasts w' B v ls := h.keep hb.size fun g hg _ => hb.block g hg
theorem IsLasts.drewN (h : IsLasts w B v ls) (n : Nat) : IsLasts (w.drewN n) B v ls := ⟨h.ex, h.len⟩
theorem IsLasts.alloc (h : IsLasts w B v ls) (o : Obj) : IsLasts (w.alloc o) B v ls := h.keep (by simp) fun g hg _ => Below.heap_alloc w o g hg
theorem IsLasts.mono (h : IsLasts w B v ls) (hB : B ≤ B') : IsLasts w B' v ls := ⟨let ⟨A, c, h1, h2, h3⟩ := h.ex; ⟨A, c, h1, h2, h3.mono hB⟩, h.len⟩
end
theorem last_get {w : World} {B : Nat} {A : Option Addr} {ls : List Scu.Last} {k : Nat} (h : Rd w B 60 A (ls.flatMap lastC)) (hk : k < ls.length) :
    ∃ g o, A = some ⟨g, o, none⟩ ∧ g < w.heap.size ∧ w.cell? ⟨g, o + k * 4, none⟩ = some (.int .i64 ls[k].num) ∧ w.cell? ⟨g, o + k * 4 + 1, none⟩ = some (.int .i64 ls[k].reply.code) ∧
      w.cell? ⟨g, o + k * 4 + 2, none⟩ = some (.int .i64 ls[k].reply.n) ∧ w.cell? ⟨g, o + k * 4 + 3, none⟩ = some (.string ls[k].reply.data) := by
  have e : ∀ j, j < 4 → (ls.flatMap lastC)[k * 4 + j]? = (lastC ls[k])[j]? := fun j hj => flat_get lastC 4 (fun _ => rfl) ls k j hk hj
  obtain ⟨g, o, h1, h2, h3⟩ := h.get (k := k * 4) (u := .int .i64 ls[k].num) (e 0 (by omega))
  obtain ⟨g', o', h1', _, h4⟩ := h.get (k := k * 4 + 1) (u := .int .i64 ls[k].reply.code) (e 1 (by omega))
  obtain ⟨g'', o'', h1'', _, h5⟩ := h.get (k := k * 4 + 2) (u := .int .i64 ls[k].reply.n) (e 2 (by omega))
  obtain ⟨g3, o3, h13, _, h6⟩ := h.get (k := k * 4 + 3) (u := .string ls[k].reply.data) (e 3 (by omega))
  rw [h1] at h1' h1'' h13
  simp only [Option.some.injEq, Addr.mk.injEq, and_true] at h1' h1'' h13
  obtain ⟨rfl, rfl⟩ := h1'
  obtain ⟨rfl, rfl⟩ := h1''
  obtain ⟨rfl, rfl⟩ := h13
  exact ⟨g, o, h1, h2, h3, by rw [Nat.add_assoc]; exact h4, by rw [Nat.add_assoc]; exact h5, by rw [Nat.add_assoc]; exact h6⟩

theorem IsVolume.keep {w w' : World} {B : Nat} {nv sv : Value} {x : Scu.Volume} (h : IsVolume w B nv sv x) (hs : w.heap.size ≤ w'.heap.size)
    (hk : ∀ g, g < w.heap.size → (g < B ∨ ∃ C fz t, (t = 9 ∨ t = 36) ∧ w.heap[g]? = some (.cells C t fz)) → w'.heap[g]? = w.heap[g]?) : IsVolume w' B nv sv x :=
  ⟨h.now.keep hs fun g hg hh => hk g hg (hh.imp id fun ⟨C, fz, e⟩ => ⟨C, fz, _, .inl rfl, e⟩), h.snaps.keep hs hk⟩
/-- A store into a block of another type. -/
theorem IsVolume.set_ {w : World} {B : Nat} {nv sv : Value} {x : Scu.Volume} (h : IsVolume w B nv sv x) {p : Addr} {t' : TypeId} {cs : Array Value} (hp : Blk w p.block t' cs) (hB : B ≤ p.block)
    (h1 : t' ≠ 9) (h2 : t' ≠ 36) (u : Value) : IsVolume (w.setCell p u) B nv sv x :=
  h.keep (by simp [World.setCell]) fun g _ hh => Below.heap_setCell w p u g (by
    rintro rfl
    rcases hh with hh | ⟨C, fz, t, ht, hh⟩
    · omega
    · unfold Blk at hp
      rw [hp] at hh
      cases hh
      rcases ht with ht | ht
      · exact h1 ht
      · exact h2 ht)
structure IsState (w : World) (B : Nat) (nv sv lv : Value) (x : Scu.State) : Prop where
  vol : IsVolume w B nv sv x.volume
  lasts : IsLasts w B lv x.lasts

/- rows that the call has made -/
theorem strs_blk {w : World} {g : Nat} {xs : List Scu.Str} (h : Blk w g 9 (xs.map Value.string).toArray) (h1 : xs.length * 16 ≤ R47) (h2 : ∀ s ∈ xs, s.size ≤ R47) :
    IsStrs w 0 (.slice (some ⟨g, 0, none⟩) xs.length xs.length) xs :=
  ⟨⟨_, _, rfl, Nat.le_refl _, .inr ⟨g, 0, rfl, h.lt, .inr ⟨_, _, h⟩, fun j u hj => by
    rw [h.cell]
    simpa using hj⟩⟩, h1, h2⟩
theorem lasts_blk {w : World} {g : Nat} {ls : List Scu.Last} (h : Blk w g 60 (ls.flatMap lastC).toArray) (h1 : ls.length * 40 ≤ R47) :
    IsLasts w 0 (.slice (some ⟨g, 0, none⟩) ls.length ls.length) ls :=
  ⟨⟨_, _, rfl, Nat.le_refl _, .inr ⟨g, 0, rfl, h.lt, .inr ⟨_, _, h⟩, fun j u hj => by
    rw [h.cell]
    simpa using hj⟩⟩, h1⟩

theorem make6 (w : World) : (Instr.makeSlice 36 (.int .i64 6) (.int .i64 6)).run Tryd.prog w =
    .ok (.slice (some ⟨w.heap.size, 0, none⟩) 6 6) (w.alloc (.cells #[.string ⟨#[]⟩, .string ⟨#[]⟩, .string ⟨#[]⟩, .string ⟨#[]⟩, .string ⟨#[]⟩, .string ⟨#[]⟩] 9)) := by kernel_rfl
theorem make4 (w : World) : (Instr.makeSlice 52 (.int .i64 4) (.int .i64 4)).run Tryd.prog w =
    .ok (.slice (some ⟨w.heap.size, 0, none⟩) 4 4) (w.alloc (.cells #[.int .i64 0, .int .i64 0, .int .i64 0, .string ⟨#[]⟩, .int .i64 0, .int .i64 0, .int .i64 0, .string ⟨#[]⟩, .int .i64 0, .int .i64 0, .int .i64 0, .string ⟨#[]⟩, .int .i64 0, .int .i64 0, .int .i64 0, .string ⟨#[]⟩] 60)) := by kernel_rfl

theorem rows_nil {w : World} {B : Nat} : IsRows w B (.slice none 0 0) [] :=
  ⟨⟨none, 0, [], rfl, Nat.le_refl _, Rd.nil, rfl, fun j u x h => by simp at h⟩, by simp [R47]⟩
def Got {α : Type} (P : α → World → Ending → Prop) (e : Ending) (w : World) : Prop := ∃ x, P x w e
theorem volNew_isv {w : World} {g : Nat} (h : Blk w g 9 #[.string ⟨#[]⟩, .string ⟨#[]⟩, .string ⟨#[]⟩, .string ⟨#[]⟩, .string ⟨#[]⟩, .string ⟨#[]⟩]) :
    IsVolume w 0 (.slice (some ⟨g, 0, none⟩) 6 6) (.slice none 0 0) Scu.volNew :=
  ⟨strs_blk (xs := List.replicate 6 Scu.str0) h (by simp [R47]) (fun s hs => by rw [List.eq_of_mem_replicate hs]; exact Nat.zero_le _), rows_nil⟩
theorem lastsNew_isl {w : World} {g : Nat} (h : Blk w g 60 #[.int .i64 0, .int .i64 0, .int .i64 0, .string ⟨#[]⟩, .int .i64 0, .int .i64 0, .int .i64 0, .string ⟨#[]⟩, .int .i64 0, .int .i64 0, .int .i64 0, .string ⟨#[]⟩, .int .i64 0, .int .i64 0, .int .i64 0, .string ⟨#[]⟩]) :
    IsLasts w 0 (.slice (some ⟨g, 0, none⟩) 4 4) (List.replicate 4 Scu.last0) :=
  lasts_blk (ls := List.replicate 4 Scu.last0) h (by simp [R47])

theorem IsStrs.form {w : World} {B : Nat} {v : Value} {xs : List Scu.Str} (h : IsStrs w B v xs) : ∃ A n c, v = .slice A n c := by
  obtain ⟨A, c, e, _⟩ := h.ex
  exact ⟨A, _, c, e⟩
theorem IsRows.form {w : World} {B : Nat} {v : Value} {xs : List (List Scu.Str)} (h : IsRows w B v xs) : ∃ A n c, v = .slice A n c := by
  obtain ⟨A, c, vs, e, _⟩ := h.ex
  exact ⟨A, _, c, e⟩
theorem IsLasts.form {w : World} {B : Nat} {v : Value} {xs : List Scu.Last} (h : IsLasts w B v xs) : ∃ A n c, v = .slice A n c := by
  obtain ⟨A, c, e, _⟩ := h.ex
  exact ⟨A, _, c, e⟩
theorem volNew_c (w : World) :
    Calls Tryd.prog 22 #[] w fun e w' => (∃ nv sv, e = .returned (.agg #[nv, sv]) ∧ IsVolume w' 0 nv sv Scu.volNew) ∧ Below w.heap.size w w' := by
  have hm := make6
  go_enter Tryd.func22, Tryd.ntmps22
  go_wp2
  refine bodyPost_ret (v := .agg #[.slice (some ⟨w.heap.size + 1, 0, none⟩) 6 6, .slice none 0 0]) (by simp [results, Tryd.results22, go_sem]) rfl ?_
  refine ⟨⟨_, _, rfl, volNew_isv ?_⟩, ((Below.refl _ _).alloc (Nat.le_refl _) _).alloc (by simp) _⟩
  exact Blk.new' (by simp)

theorem machineNew_c (w : World) :
    Calls Tryd.prog 69 #[] w fun e w' => (∃ nv sv lv, e = .returned (.agg #[nv, sv, lv]) ∧ IsState w' 0 nv sv lv Scu.stateNew) ∧ Below w.heap.size w w' := by
  have hm4 := make4
  go_enter Tryd.func69, Tryd.ntmps69
  go_wp2
  go_region_with (go_at_call 22; refine (volNew_c _).mono ?_; rintro e w1 ⟨⟨nv, sv, rfl, hv⟩, h1⟩; obtain ⟨A, n, c, rfl⟩ := hv.now.form; obtain ⟨A', n', c', rfl⟩ := hv.snaps.form; obtain ⟨hc, hf⟩ := bcell h1; have hlt : w.heap.size < w1.heap.size := (by have := h1.size; simp at this; omega))
  · have hb := ((Blk.new w 54 #[.slice none 0 0, .slice none 0 0, .slice none 0 0]).drew).same h1
    have hb1 := hb.set_ 0 (.slice A n c)
    have hb2 := hb1.set_ 1 (.slice A' n' c')
    have hb3 := (hb2.set_ 2 (.slice (some ⟨w1.heap.size, 0, none⟩) 4 4)).alloc (Obj.cells #[.int .i64 0, .int .i64 0, .int .i64 0, .string ⟨#[]⟩, .int .i64 0, .int .i64 0, .int .i64 0, .string ⟨#[]⟩, .int .i64 0, .int .i64 0, .int .i64 0, .string ⟨#[]⟩, .int .i64 0, .int .i64 0, .int .i64 0, .string ⟨#[]⟩] 60)
    have u0 := hb3.cell 0
    have u1 := hb3.cell 1
    have u2 := hb3.cell 2
    simp at u0 u1 u2
    have HV : IsVolume _ 0 _ _ Scu.volNew := ((hv.set_ (p := ⟨w.heap.size, 0, none⟩) hb (Nat.zero_le _) (by decide) (by decide) (.slice A n c)).set_ (p := ⟨w.heap.size, 1, none⟩) hb1 (Nat.zero_le _) (by decide) (by decide) (.slice A' n' c')).set_ (p := ⟨w.heap.size, 2, none⟩) hb2 (Nat.zero_le _) (by decide) (by decide) (.slice (some ⟨w1.heap.size, 0, none⟩) 4 4)
    have HH := Lib.hid (And.intro hb hlt)
    clear hb hb1 hb2 hb3
    go_wp2
    refine bodyPost_ret (v := .agg #[.slice A n c, .slice A' n' c', .slice (some ⟨w1.heap.size, 0, none⟩) 4 4]) (by simp [results, Tryd.results69, go_sem, u0, u1, u2]) rfl ?_
    have hB : Below w.heap.size w w1 := ((Below.refl _ _).alloc (Nat.le_refl _) _).drew.trans (h1.mono (by simp))
    have hB3 := ((hB.setCell (p := ⟨w.heap.size, 0, none⟩) (Nat.le_refl _) (.slice A n c)).setCell (p := ⟨w.heap.size, 1, none⟩) (Nat.le_refl _) (.slice A' n' c')).setCell (p := ⟨w.heap.size, 2, none⟩) (Nat.le_refl _) (.slice (some ⟨w1.heap.size, 0, none⟩) 4 4)
    exact ⟨⟨_, _, _, rfl, HV.alloc _, lastsNew_isl (Blk.new' (by simp))⟩, hB3.alloc hB3.size _⟩
  · have hb := (((Blk.new w 54 #[.slice none 0 0, .slice none 0 0, .slice none 0 0]).alloc (Obj.cells #[.int .i64 0, .int .i64 0, .int .i64 0, .string ⟨#[]⟩, .int .i64 0, .int .i64 0, .int .i64 0, .string ⟨#[]⟩, .int .i64 0, .int .i64 0, .int .i64 0, .string ⟨#[]⟩, .int .i64 0, .int .i64 0, .int .i64 0, .string ⟨#[]⟩] 60)).drew).same h1
    have hb1 := hb.set_ 0 (.slice A n c)
    have hb2 := hb1.set_ 1 (.slice A' n' c')
    have hb3 := hb2.set_ 2 (.slice (some ⟨w.heap.size + 1, 0, none⟩) 4 4)
    have u0 := hb3.cell 0
    have u1 := hb3.cell 1
    have u2 := hb3.cell 2
    simp at u0 u1 u2
    have HV : IsVolume _ 0 _ _ Scu.volNew := ((hv.set_ (p := ⟨w.heap.size, 0, none⟩) hb (Nat.zero_le _) (by decide) (by decide) (.slice A n c)).set_ (p := ⟨w.heap.size, 1, none⟩) hb1 (Nat.zero_le _) (by decide) (by decide) (.slice A' n' c')).set_ (p := ⟨w.heap.size, 2, none⟩) hb2 (Nat.zero_le _) (by decide) (by decide) (.slice (some ⟨w.heap.size + 1, 0, none⟩) 4 4)
    have hlb : Blk w1 (w.heap.size + 1) 60 #[.int .i64 0, .int .i64 0, .int .i64 0, .string ⟨#[]⟩, .int .i64 0, .int .i64 0, .int .i64 0, .string ⟨#[]⟩, .int .i64 0, .int .i64 0, .int .i64 0, .string ⟨#[]⟩, .int .i64 0, .int .i64 0, .int .i64 0, .string ⟨#[]⟩] :=
      (Blk.drew (Blk.new' (by simp))).same h1
    have HL : IsLasts _ 0 _ (List.replicate 4 Scu.last0) := lastsNew_isl (((hlb.far (p := ⟨w.heap.size, 0, none⟩) (by simp) (.slice A n c)).far (p := ⟨w.heap.size, 1, none⟩) (by simp) (.slice A' n' c')).far (p := ⟨w.heap.size, 2, none⟩) (by simp) (.slice (some ⟨w.heap.size + 1, 0, none⟩) 4 4))
    have HH := Lib.hid (And.intro hb hlt)
    clear hb hb1 hb2 hb3 hlb
    go_wp2
    refine bodyPost_ret (v := .agg #[.slice A n c, .slice A' n' c', .slice (some ⟨w.heap.size + 1, 0, none⟩) 4 4]) (by simp [results, Tryd.results69, go_sem, u0, u1, u2]) rfl ?_
    have hB : Below w.heap.size w w1 := (((Below.refl _ _).alloc (Nat.le_refl _) _).alloc (by simp) _).drew.trans (h1.mono (by simp; omega))
    have hB3 := ((hB.setCell (p := ⟨w.heap.size, 0, none⟩) (Nat.le_refl _) (.slice A n c)).setCell (p := ⟨w.heap.size, 1, none⟩) (Nat.le_refl _) (.slice A' n' c')).setCell (p := ⟨w.heap.size, 2, none⟩) (Nat.le_refl _) (.slice (some ⟨w.heap.size + 1, 0, none⟩) 4 4)
    exact ⟨⟨_, _, _, rfl, HV, HL⟩, hB3⟩

end Go.Proofs.YtfpiembhlgcelaaDoor
/- Walks: may a volume be? The program's and the reference's. -/
namespace Go.Proofs.YtfpiembhlgcelaaDoor
open Go.RowKit
set_option maxHeartbeats 400000
set_option maxRecDepth 100000

def IdxPost (b : Bool) (e : Ending) : Prop := ∃ r : Int, e = .returned (.int .i64 r) ∧ decide (0 ≤ r) = b
theorem any_take {α : Type} (p : α → Bool) (xs : List α) (k : Nat) (h : k < xs.length) : (xs.take (k + 1)).any p = ((xs.take k).any p || p xs[k]) := by
  rw [List.take_succ_eq_append_getElem h, List.any_append]
  simp
theorem any_found {α : Type} (p : α → Bool) (xs : List α) (k : Nat) (h : k < xs.length) (hp : p xs[k] = true) : xs.any p = true := List.any_eq_true.2 ⟨_, List.getElem_mem h, hp⟩
theorem any_none {α : Type} (p : α → Bool) (xs : List α) (k : Nat) (h : xs.length ≤ k) (hp : (xs.take k).any p = false) : xs.any p = false := by rwa [List.take_of_length_le h] at hp

theorem sectors1_c (s : ByteArray) (w : World) (hs : s.size ≤ R47) :
    Calls Tryd.prog 90 #[.string s] w fun e w' => e = .returned (.bool (decide (8 < s.size))) ∧ w = w' := by
  unfold R47 at hs
  have e : decide (8 < s.size) = decide ((8 : Int) < (s.size : Int)) := by rw [Bool.eq_iff_iff]; simp; omega
  rw [e]
  clear e
  go_enter Tryd.func90, Tryd.ntmps90
  go_wp2
  go_ret
  exact ⟨rfl, rfl⟩

theorem indexStrs_c (p : Scu.Str → Bool) (hp : ∀ (s : ByteArray) (w : World), s.size ≤ R47 → Calls Tryd.prog 90 #[.string s] w fun e w' => e = .returned (.bool (p s)) ∧ w = w') (v : Value) (xs : List Scu.Str) (w : World) (B : Nat) (hv : IsStrs w B v xs) :
    Calls Tryd.prog 86 #[v, .func (.func 90) #[] #[]] w fun e w' => IdxPost (xs.any p) e ∧ w = w' := by
  obtain ⟨⟨A, c, rfl, _, hr⟩, hl, he⟩ := hv
  unfold R47 at hl
  have HP := Lib.hid hp
  have HE := Lib.hid he
  clear hp he
  go_enter Tryd.func86, Tryd.ntmps86
  go_wp2
  go_loop [8] (fun i => ∃ k : Nat, k ≤ xs.length ∧ i = .int .i64 k ∧ Hid ((xs.take k).any p = false)) (fun i => xs.length - (intOf i).toNat)
  case atStart => exact ⟨0, Nat.zero_le _, rfl, by simp [Hid]⟩
  case round =>
    obtain ⟨k, hk, rfl, ht⟩ := hrel
    by_cases hlt : k < xs.length
    · have hlt' : (k : Int) < (xs.length : Int) := by omega
      obtain ⟨g, o, rfl, _, hc⟩ := str_get hr hlt
      by_cases hx : p xs[k] = true
      · have HX := Lib.hid (any_found p xs k hlt hx)
        go_wp2_with fail
        refine (HP.out _ _ (HE.out _ (List.getElem_mem hlt))).mono ?_; rintro e w1 ⟨rfl, rfl⟩
        go_wp2
        go_ret
        exact ⟨⟨_, rfl, by rw [HX.out]; simp⟩, rfl⟩
      · have hx' : p xs[k] = false := by simpa using hx
        have HX := Lib.hid (show (xs.take (k + 1)).any p = false by rw [any_take p xs k hlt, ht.out, hx']; rfl)
        clear hx
        go_wp2_with fail
        refine (HP.out _ _ (HE.out _ (List.getElem_mem hlt))).mono ?_; rintro e w1 ⟨rfl, rfl⟩
        go_wp2
        go_round
        case rel => exact ⟨k + 1, hlt, by go_num, HX⟩
        case measure => simp [intOf]; omega
    · have hlt' : (xs.length : Int) ≤ (k : Int) := by omega
      have HX := Lib.hid (any_none p xs k (by omega) ht.out)
      go_wp2
      go_ret
      exact ⟨⟨_, rfl, by rw [HX.out]; rfl⟩, rfl⟩
theorem containsStrs_c (p : Scu.Str → Bool) (hp : ∀ (s : ByteArray) (w : World), s.size ≤ R47 → Calls Tryd.prog 90 #[.string s] w fun e w' => e = .returned (.bool (p s)) ∧ w = w') (v : Value) (xs : List Scu.Str) (w : World) (B : Nat) (hv : IsStrs w B v xs) :
    Calls Tryd.prog 89 #[v, .func (.func 90) #[] #[]] w fun e w' => e = .returned (.bool (xs.any p)) ∧ w = w' := by
  have HC := Lib.hid (indexStrs_c p hp v xs w B hv)
  obtain ⟨⟨A, c, rfl, _, hr⟩, hl, he⟩ := hv
  clear hp hr he hl
  go_enter Tryd.func89, Tryd.ntmps89
  go_wp2_with fail
  refine HC.out.mono ?_; rintro e w1 ⟨⟨r, rfl, hr⟩, rfl⟩
  have HR := Lib.hid hr
  clear hr
  go_wp2
  go_ret
  exact ⟨ret_val (bool_eq HR.out), rfl⟩
theorem any_not {α : Type} (l : List α) (p q : α → Bool) (h : ∀ x ∈ l, p x = !q x) : l.all q = !l.any p := by
  induction l with
  | nil => rfl
  | cons x l ih =>
    rw [List.all_cons, List.any_cons, ih fun y hy => h y (List.mem_cons_of_mem _ hy), h x List.mem_cons_self]
    cases q x <;> simp
theorem sectorsOk_any (xs : List Scu.Str) : Scu.sectorsOk xs = (xs.length == 6 && !xs.any fun s => decide (8 < s.size)) := by
  unfold Scu.sectorsOk
  rw [any_not xs (fun s => decide (8 < s.size)) _ (fun x _ => by rw [Bool.eq_iff_iff]; simp)]
theorem sectors_c (v : Value) (xs : List Scu.Str) (w : World) (B : Nat) (hv : IsStrs w B v xs) :
    Calls Tryd.prog 66 #[v] w fun e w' => e = .returned (.bool (Scu.sectorsOk xs)) ∧ w = w' := by
  have HC := Lib.hid (containsStrs_c (fun s => decide (8 < s.size)) sectors1_c v xs w B hv)
  have hso := sectorsOk_any xs
  obtain ⟨⟨A, c, rfl, _, hr⟩, hl, he⟩ := hv
  clear hr he
  unfold R47 at hl
  by_cases h6 : xs.length = 6
  · have h6' : ((xs.length : Int) == 6) = true := by simp [h6]
    have hn : (xs.length == 6) = true := by simp [h6]
    rw [hn, Bool.true_and] at hso
    have HSO := Lib.hid hso
    clear hso hn h6
    go_enter Tryd.func66, Tryd.ntmps66
    go_wp2_with fail
    refine HC.out.mono ?_; rintro e w1 ⟨rfl, rfl⟩
    go_wp2
    go_ret
    exact ⟨ret_val (bool_eq HSO.out.symm), rfl⟩
  · have h6' : ((xs.length : Int) == 6) = false := by simp; omega
    have hn : (xs.length == 6) = false := by simp [h6]
    rw [hn, Bool.false_and] at hso
    have HSO := Lib.hid hso
    clear hso hn h6
    go_enter Tryd.func66, Tryd.ntmps66
    go_wp2
    go_ret
    exact ⟨ret_val (bool_eq HSO.out.symm), rfl⟩

theorem check1_c (v : Value) (xs : List Scu.Str) (w : World) (B : Nat) (hv : IsStrs w B v xs) :
    Calls Tryd.prog 68 #[v] w fun e w' => e = .returned (.bool (!Scu.sectorsOk xs)) ∧ w = w' := by
  have HC := Lib.hid (sectors_c v xs w B hv)
  obtain ⟨A, n, c, rfl⟩ := hv.form
  clear hv
  go_enter Tryd.func68, Tryd.ntmps68
  go_wp2_with fail
  refine HC.out.mono ?_; rintro e w1 ⟨rfl, rfl⟩
  go_wp2
  go_ret
  exact ⟨rfl, rfl⟩
theorem indexRows_c (v : Value) (xss : List (List Scu.Str)) (w : World) (B : Nat) (hv : IsRows w B v xss) :
    Calls Tryd.prog 91 #[v, .func (.func 68) #[] #[]] w fun e w' => IdxPost (xss.any fun l => !Scu.sectorsOk l) e ∧ w = w' := by
  obtain ⟨⟨A, c, vs, rfl, _, hr, hvl, hve⟩, hl⟩ := hv
  have HVL := Lib.hid hvl
  have HVE := Lib.hid hve
  clear hvl hve
  unfold R47 at hl
  go_enter Tryd.func91, Tryd.ntmps91
  go_wp2
  go_loop [8] (fun i => ∃ k : Nat, k ≤ xss.length ∧ i = .int .i64 k ∧ Hid ((xss.take k).any (fun l => !Scu.sectorsOk l) = false)) (fun i => xss.length - (intOf i).toNat)
  case atStart => exact ⟨0, Nat.zero_le _, rfl, by simp [Hid]⟩
  case round =>
    obtain ⟨k, hk, rfl, ht⟩ := hrel
    by_cases hlt : k < xss.length
    · have hlt' : (k : Int) < (xss.length : Int) := by omega
      obtain ⟨g, o, p, rfl, _, hc, hp⟩ := rows_get hr HVL.out HVE.out hlt
      have HPX := Lib.hid hp
      obtain ⟨A1, n1, c1, rfl⟩ := hp.form
      clear hp
      by_cases hx : (!Scu.sectorsOk xss[k]) = true
      · have HX := Lib.hid (any_found (fun l => !Scu.sectorsOk l) xss k hlt hx)
        go_wp2_with fail
        refine (check1_c _ _ _ B HPX.out).mono ?_; rintro e w1 ⟨rfl, rfl⟩
        go_wp2
        go_ret
        exact ⟨⟨_, rfl, by rw [HX.out]; simp⟩, rfl⟩
      · have hx' : (!Scu.sectorsOk xss[k]) = false := by simpa using hx
        have HX := Lib.hid (show (xss.take (k + 1)).any (fun l => !Scu.sectorsOk l) = false by rw [any_take _ xss k hlt, ht.out, hx']; rfl)
        clear hx
        go_wp2_with fail
        refine (check1_c _ _ _ B HPX.out).mono ?_; rintro e w1 ⟨rfl, rfl⟩
        go_wp2
        go_round
        case rel => exact ⟨k + 1, hlt, by go_num, HX⟩
        case measure => simp [intOf]; omega
    · have hlt' : (xss.length : Int) ≤ (k : Int) := by omega
      have HX := Lib.hid (any_none _ xss k (by omega) ht.out)
      go_wp2
      go_ret
      exact ⟨⟨_, rfl, by rw [HX.out]; rfl⟩, rfl⟩
theorem containsRows_c (v : Value) (xss : List (List Scu.Str)) (w : World) (B : Nat) (hv : IsRows w B v xss) :
    Calls Tryd.prog 67 #[v, .func (.func 68) #[] #[]] w fun e w' => e = .returned (.bool (xss.any fun l => !Scu.sectorsOk l)) ∧ w = w' := by
  have HC := Lib.hid (indexRows_c v xss w B hv)
  obtain ⟨A, n, c, rfl⟩ := hv.form
  clear hv
  go_enter Tryd.func67, Tryd.ntmps67
  go_wp2_with fail
  refine HC.out.mono ?_; rintro e w1 ⟨⟨r, rfl, hr⟩, rfl⟩
  have HR := Lib.hid hr
  clear hr
  go_wp2
  go_ret
  exact ⟨ret_val (bool_eq HR.out), rfl⟩
theorem volFault_any (x : Scu.Volume) : Scu.volFault x = if (!Scu.sectorsOk x.now || decide ((3 : Int) < (x.snaps.length : Int)) || x.snaps.any fun l => !Scu.sectorsOk l) = true then 8 else 0 := by
  have e : Scu.volOk x = !(!Scu.sectorsOk x.now || decide ((3 : Int) < (x.snaps.length : Int)) || x.snaps.any fun l => !Scu.sectorsOk l) := by
    unfold Scu.volOk
    rw [any_not x.snaps (fun l => !Scu.sectorsOk l) _ (fun _ _ => rfl)]
    have : decide (x.snaps.length ≤ 3) = !decide ((3 : Int) < (x.snaps.length : Int)) := by rw [Bool.eq_iff_iff]; simp; omega
    rw [this]
    simp
  unfold Scu.volFault
  rw [e]
  cases (!Scu.sectorsOk x.now || decide ((3 : Int) < (x.snaps.length : Int)) || x.snaps.any fun l => !Scu.sectorsOk l) <;> rfl
theorem volCheck_c (nv sv : Value) (x : Scu.Volume) (w : World) (B : Nat) (hv : IsVolume w B nv sv x) :
    Calls Tryd.prog 25 #[.agg #[nv, sv]] w fun e w' => e = .returned (.int .i64 (Scu.volFault x)) ∧ Below w.heap.size w w' := by
  have hf := volFault_any x
  have HV := Lib.hid hv
  obtain ⟨A1, n1, c1, rfl⟩ := hv.now.form
  obtain ⟨⟨A, c, vs, rfl, _, _, _, _⟩, hl⟩ := hv.snaps
  unfold R47 at hl
  clear hv
  cases h1 : Scu.sectorsOk x.now <;> cases h2 : decide ((3 : Int) < (x.snaps.length : Int)) <;> cases h3 : x.snaps.any fun l => !Scu.sectorsOk l
  all_goals
    rw [h1, h2, h3] at hf
    have HF := Lib.hid hf
    have H1 := Lib.hid h1
    have H3 := Lib.hid h3
    clear hf h1 h3
    go_enter Tryd.func25, Tryd.ntmps25
    go_wp2_with (first
      | (go_at_call 66; refine (sectors_c _ _ _ B (HV.out.now.alloc _)).mono ?_; rintro e w1 ⟨rfl, rfl⟩; rw [H1.out])
      | (go_at_call 67; refine (containsRows_c _ _ _ B (HV.out.snaps.alloc _)).mono ?_; rintro e w1 ⟨rfl, rfl⟩; rw [H3.out]))
    go_ret
    exact ⟨ret_val (int_eq (by rw [HF.out]; rfl)), (Below.refl _ _).alloc (Nat.le_refl _) _⟩
end Go.Proofs.YtfpiembhlgcelaaDoor

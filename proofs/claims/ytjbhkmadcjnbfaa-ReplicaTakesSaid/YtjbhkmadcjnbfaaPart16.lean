/- Part 16: words and walks under the law 'ReplicaTicks'. -/
import Derived.Test.YtjbhkmadcjnbfaaPart15
import Derived.Laws.IdiomCopy
set_option linter.unusedVariables false
set_option linter.unusedSimpArgs false
/- Words: cells of a working replica's rows are set; a row is cleared. Walks: work.fresh. -/
namespace Go.Proofs.Ytjbhkmadcjnbfaa
open Go.RowKit
set_option maxHeartbeats 2000000
set_option maxRecDepth 100000

theorem run_clear {P : Program} {t ty e : TypeId} {z : Value} (ht : P.underlying t = some (.slice e)) (hz : ∀ w, (zeroValue e).run P w = .ok z w) (h1 : z.oneCell' = true) (hzc : z.cells = #[z]) (n : Nat) (w : World) (g c : Nat)
    (hc : ∀ j, j < n + 1 → (w.cell? ⟨g, j, none⟩).isSome = true) (hf : ∀ j, w.frozen? ⟨g, j, none⟩ = false) :
    (Builtin.clear_ #[t] ty #[.slice (some ⟨g, 0, none⟩) (n + 1) c]).run P w = .ok (.tuple #[]) (w.setCells g 0 (List.replicate (n + 1) z)) := by
  have hl : (Builtin.zeroCells z.cells (n + 1)).toList = List.replicate (n + 1) z := by
    rw [hzc]
    unfold Builtin.zeroCells
    apply List.ext_getElem
    · simp
    · intro i h2 h3
      simp [Nat.mod_one]
  have hst := run_storeCells_cells (P := P) g 0 (List.replicate (n + 1) z) 0 w (fun j hj => by simpa using hc j (by simpa using hj)) (fun j _ => by simpa using hf j) (fun v hv => by rw [List.eq_of_mem_replicate hv]; exact h1)
  simp [Builtin.clear_, run_underlying ht, hz, Result.andThen, hl, hst]
theorem list_clear {ops : Array Oper} {rest : List Oper} {o : Oper} {a : Act} {w : World} {Q : Exit → Act → World → Prop} (hgd : o.guard = none) (s : Operand) (t : TypeId) (ho : o.op = .call { callee := .builtin .clear, args := #[s], argTypes := #[t] })
    {e : TypeId} {z : Value} (ht : Try.prog.underlying t = some (.slice e)) (hz : ∀ w, (zeroValue e).run Try.prog w = .ok z w) (h1 : z.oneCell' = true) (hzc : z.cells = #[z]) (n g c : Nat) (hs : a.eval s = .slice (some ⟨g, 0, none⟩) (n + 1) c)
    (hc : ∀ j, j < n + 1 → (w.cell? ⟨g, j, none⟩).isSome = true) (hf : ∀ j, w.frozen? ⟨g, j, none⟩ = false)
    (h : wpList Try.prog ops Q rest (a.put o.dst (.tuple #[])) (w.setCells g 0 (List.replicate (n + 1) z))) : wpList Try.prog ops Q (o :: rest) a w :=
  wpList_plain hgd fun K hK => by
    have hrun := run_clear (P := Try.prog) (ty := o.type) ht hz h1 hzc n w g c hc hf
    unfold Oper.wp execOp
    simp only [ho, resolve, invoke, builtin, Sem.run_bind, Sem.run_pure, Result.andThen_ok, List.map_toArray, List.map_cons, List.map_nil, hs, hrun]
    exact hK _ _ h
section
variable {w : World} {base gw gr g c n : Nat} {r : Scu.Replica} {lu hv wv gv nv ov : Value} {ms : List Scu.Message} {css : List (List Value)}
theorem Work.put_have (h : Work w base gw gr r lu (.slice (some ⟨g, 0, none⟩) n c) wv gv nv ov ms css) {cur : Array Value} (hB : Blk w g 3 cur) (hg : base ≤ g) (j : Nat) (x : Int) :
    Work (w.setCell ⟨g, j, none⟩ (.int .i64 x)) base gw gr { r with have_ := r.have_.set j x } lu (.slice (some ⟨g, 0, none⟩) n c) wv gv nv ov ms css ∧ Below base w (w.setCell ⟨g, j, none⟩ (.int .i64 x)) ∧ Blk (w.setCell ⟨g, j, none⟩ (.int .i64 x)) g 3 (cur.setIfInBounds j (.int .i64 x)) := by
  have hs : Same [9, 4, 24, 29, 52, 41] 0 w (w.setCell ⟨g, j, none⟩ (.int .i64 x)) := Same.set_ hB (Nat.zero_le _) (by decide) j _
  obtain ⟨css', hgv⟩ := h.own.giv
  exact ⟨⟨blk_keep h.wb hs (by simp), blk_keep h.rb hs (by simp), ⟨⟨h.own.own.log.same (hs.mono (by simp) (Nat.le_refl _)), h.own.own.have_.put j x, h.own.own.wants.same (hs.mono (by simp) (Nat.le_refl _)), h.own.own.given.same (hs.mono (by simp) (Nat.le_refl _)), h.own.own.apart⟩, css', hgv.same (hs.mono (by simp) (Nat.le_refl _))⟩, h.out.same (hs.mono (by simp) (Nat.le_refl _)), h.lw, h.lr⟩,
    (Below.refl base w).setCell (p := ⟨g, j, none⟩) hg _, hB.set_ j _⟩
theorem Work.put_wants (h : Work w base gw gr r lu hv (.slice (some ⟨g, 0, none⟩) n c) gv nv ov ms css) {cur : Array Value} (hB : Blk w g 4 cur) (hg : base ≤ g) (j : Nat) (b : Bool) :
    Work (w.setCell ⟨g, j, none⟩ (.bool b)) base gw gr { r with wants := r.wants.set j b } lu hv (.slice (some ⟨g, 0, none⟩) n c) gv nv ov ms css ∧ Below base w (w.setCell ⟨g, j, none⟩ (.bool b)) ∧ Blk (w.setCell ⟨g, j, none⟩ (.bool b)) g 4 (cur.setIfInBounds j (.bool b)) :=
  ⟨(h.want hB hg j b).1, (h.want hB hg j b).2, hB.set_ j _⟩
theorem Work.put_given (h : Work w base gw gr r lu hv wv gv (.slice (some ⟨g, 0, none⟩) n c) ov ms css) {cur : Array Value} (hB : Blk w g 4 cur) (hg : base ≤ g) (j : Nat) (b : Bool) :
    Work (w.setCell ⟨g, j, none⟩ (.bool b)) base gw gr { r with given := r.given.set j b } lu hv wv gv (.slice (some ⟨g, 0, none⟩) n c) ov ms css ∧ Below base w (w.setCell ⟨g, j, none⟩ (.bool b)) ∧ Blk (w.setCell ⟨g, j, none⟩ (.bool b)) g 4 (cur.setIfInBounds j (.bool b)) := by
  have hs : Same [9, 3, 24, 29, 52, 41] 0 w (w.setCell ⟨g, j, none⟩ (.bool b)) := Same.set_ hB (Nat.zero_le _) (by decide) j _
  obtain ⟨css', hgv⟩ := h.own.giv
  exact ⟨⟨blk_keep h.wb hs (by simp), blk_keep h.rb hs (by simp), ⟨⟨h.own.own.log.same (hs.mono (by simp) (Nat.le_refl _)), h.own.own.have_.same (hs.mono (by simp) (Nat.le_refl _)), h.own.own.wants.far (fun e => h.own.own.apart g e rfl) _, h.own.own.given.put j b, h.own.own.apart⟩, css', hgv.same (hs.mono (by simp) (Nat.le_refl _))⟩, h.out.same (hs.mono (by simp) (Nat.le_refl _)), h.lw, h.lr⟩,
    (Below.refl base w).setCell (p := ⟨g, j, none⟩) hg _, hB.set_ j _⟩
theorem set3 {α : Type} {l : List α} (h : l.length = 3) (x : α) : ((l.set 0 x).set 1 x).set 2 x = [x, x, x] := by
  match l, h with
  | [a, b, c], _ => rfl
theorem Work.clear_have (h : Work w base gw gr r lu (.slice (some ⟨g, 0, none⟩) n c) wv gv nv ov ms css) {cur : Array Value} (hB : Blk w g 3 cur) (hg : base ≤ g) (h3 : r.have_.length = 3) :
    Work (w.setCells g 0 (List.replicate 3 (.int .i64 0))) base gw gr { r with have_ := [0, 0, 0] } lu (.slice (some ⟨g, 0, none⟩) n c) wv gv nv ov ms css ∧ Below base w (w.setCells g 0 (List.replicate 3 (.int .i64 0))) := by
  obtain ⟨a1, a2, a3⟩ := h.put_have hB hg 0 0
  obtain ⟨b1, b2, b3⟩ := a1.put_have a3 hg 1 0
  obtain ⟨c1, c2, c3⟩ := b1.put_have b3 hg 2 0
  rw [← set3 h3 0]
  exact ⟨c1, (a2.trans b2).trans c2⟩
theorem Work.clear_wants (h : Work w base gw gr r lu hv (.slice (some ⟨g, 0, none⟩) n c) gv nv ov ms css) {cur : Array Value} (hB : Blk w g 4 cur) (hg : base ≤ g) (h3 : r.wants.length = 3) :
    Work (w.setCells g 0 (List.replicate 3 (.bool false))) base gw gr { r with wants := [false, false, false] } lu hv (.slice (some ⟨g, 0, none⟩) n c) gv nv ov ms css ∧ Below base w (w.setCells g 0 (List.replicate 3 (.bool false))) := by
  obtain ⟨a1, a2, a3⟩ := h.put_wants hB hg 0 false
  obtain ⟨b1, b2, b3⟩ := a1.put_wants a3 hg 1 false
  obtain ⟨c1, c2, c3⟩ := b1.put_wants b3 hg 2 false
  rw [← set3 h3 false]
  exact ⟨c1, (a2.trans b2).trans c2⟩
theorem Work.clear_given (h : Work w base gw gr r lu hv wv gv (.slice (some ⟨g, 0, none⟩) n c) ov ms css) {cur : Array Value} (hB : Blk w g 4 cur) (hg : base ≤ g) (h3 : r.given.length = 3) :
    Work (w.setCells g 0 (List.replicate 3 (.bool false))) base gw gr { r with given := [false, false, false] } lu hv wv gv (.slice (some ⟨g, 0, none⟩) n c) ov ms css ∧ Below base w (w.setCells g 0 (List.replicate 3 (.bool false))) := by
  obtain ⟨a1, a2, a3⟩ := h.put_given hB hg 0 false
  obtain ⟨b1, b2, b3⟩ := a1.put_given a3 hg 1 false
  obtain ⟨c1, c2, c3⟩ := b1.put_given b3 hg 2 false
  rw [← set3 h3 false]
  exact ⟨c1, (a2.trans b2).trans c2⟩
theorem own_blkm {e : TypeId} {size : Nat} {xs : List Value} (h : Blk w g e xs.toArray) (hb : base ≤ g) (hn : xs.length = n * size) (hm : n ≤ maxLen) : w.ownsRow base e size (.slice (some ⟨g, 0, none⟩) n n) n xs :=
  ⟨hn, .inr ⟨g, n, xs.toArray, rfl, hb, h, Nat.le_refl _, hm, by simp [hn], by rw [← hn]; simp⟩⟩
theorem ones3f {α : Type} {t : TypeId} {bytes : Nat} {f : α → Value} {v : Value} {xs : List α} (h : OwnOnes t bytes f w base v xs) (h3 : xs.length = 3) : ∃ g c, v = .slice (some ⟨g, 0, none⟩) 3 c :=
  let ⟨g, c, _, e, _⟩ := ones3 h h3; ⟨g, c, e⟩
theorem ones3' {α : Type} {t : TypeId} {bytes : Nat} {f : α → Value} {xs : List α} (h : OwnOnes t bytes f w base (.slice (some ⟨g, 0, none⟩) 3 c) xs) (h3 : xs.length = 3) :
    base ≤ g ∧ (∃ cur, Blk w g t cur) ∧ (∀ j, j < 2 + 1 → (w.cell? ⟨g, j, none⟩).isSome = true) ∧ (∀ j, w.frozen? ⟨g, j, none⟩ = false) ∧ ∀ j, j < 3 → w.cell? ⟨g, j, none⟩ = (xs.map f)[j]? := by
  obtain ⟨g', c', cur, h1, h2, hB, h4⟩ := ones3 h h3
  cases h1
  exact ⟨h2, ⟨cur, hB⟩, fun j hj => by rw [h4 j hj, List.getElem?_eq_getElem (by rw [List.length_map, h3]; exact hj)]; rfl, hB.frozen, h4⟩
theorem Same.setCells3 {Ts : List TypeId} {t : TypeId} {cur : Array Value} (hB : Blk w g t cur) (ht : t ∉ Ts) (x y z : Value) : Same Ts 0 w (w.setCells g 0 [x, y, z]) :=
  ((Same.set_ hB (Nat.zero_le _) ht 0 x).trans (Same.set_ (hB.set_ 0 x) (Nat.zero_le _) ht 1 y)).trans (Same.set_ ((hB.set_ 0 x).set_ 1 y) (Nat.zero_le _) ht 2 z)
def zeroK : List Value := [.int .i64 0, .int .i64 0, .bool false, .slice none 0 0, .int .i64 0]
theorem ownKs_zero (h : Blk w g 24 (zeroK ++ (zeroK ++ zeroK)).toArray) (hb : base ≤ g) : OwnKs w base (.slice (some ⟨g, 0, none⟩) 3 3) [Scu.kept0, Scu.kept0, Scu.kept0] [zeroK, zeroK, zeroK] := by
  refine ⟨rfl, ?_, own_blkm (size := 5) (n := 3) (xs := [zeroK, zeroK, zeroK].flatten) (by simpa using h) hb rfl (by decide), ?_, by simp [R47]⟩
  · intro cs hcs
    simp only [List.mem_cons, List.not_mem_nil, or_false, or_self] at hcs
    subst hcs
    rfl
  · intro j cs k h1 h2
    have : cs = zeroK ∧ k = Scu.kept0 := by
      rcases j with _ | _ | _ | j
      · simp at h1 h2; exact ⟨h1.symm, h2.symm⟩
      · simp at h1 h2; exact ⟨h1.symm, h2.symm⟩
      · simp at h1 h2; exact ⟨h1.symm, h2.symm⟩
      · simp at h1
    obtain ⟨rfl, rfl⟩ := this
    exact ⟨.slice none 0 0, rfl, IsStrs.nil_⟩
/-- The replica's block takes another row of what others gave. -/
theorem Work.new_gives (h : Work w base gw gr r lu hv wv gv nv ov ms css) {v : Value} {gs : List Scu.Kept} (hv' : OwnKepts w base v gs) :
    Work (w.setCell ⟨gr, 8, none⟩ v) base gw gr { r with gives := gs } lu hv wv v nv ov ms css ∧ Below base w (w.setCell ⟨gr, 8, none⟩ v) := by
  have hs : Same [9, 3, 4, 24, 52, 41] 0 w (w.setCell ⟨gr, 8, none⟩ v) := Same.set_ h.rb (Nat.zero_le _) (by decide) 8 _
  obtain ⟨css', hgv⟩ := hv'
  exact ⟨⟨blk_keep h.wb hs (by simp), h.rb.set_ 8 v, ⟨(let o := h.own.own.same (hs.mono (by simp) (Nat.le_refl _)); ⟨o.log, o.have_, o.wants, o.given, o.apart⟩), css', hgv.same (hs.mono (by simp) (Nat.le_refl _))⟩, h.out.same (hs.mono (by simp) (Nat.le_refl _)), h.lw, h.lr⟩, (Below.refl base w).setCell (p := ⟨gr, 8, none⟩) h.lr _⟩
/-- One cell of the replica's own block is set. -/
theorem Work.rcell (h : Work w base gw gr r lu hv wv gv nv ov ms css) (i : Nat) (u : Value) :
    (∀ g' t cs, t ≠ 29 → Blk w g' t cs → Blk (w.setCell ⟨gr, i, none⟩ u) g' t cs) ∧ OwnRep (w.setCell ⟨gr, i, none⟩ u) base lu hv wv gv nv r ∧ OwnMs (w.setCell ⟨gr, i, none⟩ u) base ov ms css ∧ Below base w (w.setCell ⟨gr, i, none⟩ u) := by
  have hs : Same [9, 3, 4, 24, 52, 41] 0 w (w.setCell ⟨gr, i, none⟩ u) := Same.set_ h.rb (Nat.zero_le _) (by decide) i _
  refine ⟨fun g' t cs ht hB => (Below.heap_setCell w ⟨gr, i, none⟩ u g' (fun e => ?_)).trans hB, h.own.same (hs.mono (by simp) (Nat.le_refl _)), h.out.same (hs.mono (by simp) (Nat.le_refl _)), (Below.refl base w).setCell (p := ⟨gr, i, none⟩) h.lr _⟩
  have hr := h.rb
  subst e
  unfold Blk at hB hr
  rw [hr] at hB
  cases hB
  exact ht rfl
theorem Work.set_view (h : Work w base gw gr r lu hv wv gv nv ov ms css) (x : Int) : Work (w.setCell ⟨gr, 1, none⟩ (.int .i64 x)) base gw gr { r with kept := { r.kept with view := x } } lu hv wv gv nv ov ms css :=
  let ⟨a, b, c, _⟩ := h.rcell 1 (.int .i64 x)
  ⟨a _ _ _ (by decide) h.wb, h.rb.set_ 1 _, ⟨⟨b.own.log, b.own.have_, b.own.wants, b.own.given, b.own.apart⟩, b.giv⟩, c, h.lw, h.lr⟩
theorem Work.set_normal (h : Work w base gw gr r lu hv wv gv nv ov ms css) (x : Int) : Work (w.setCell ⟨gr, 2, none⟩ (.int .i64 x)) base gw gr { r with kept := { r.kept with normal := x } } lu hv wv gv nv ov ms css :=
  let ⟨a, b, c, _⟩ := h.rcell 2 (.int .i64 x)
  ⟨a _ _ _ (by decide) h.wb, h.rb.set_ 2 _, ⟨⟨b.own.log, b.own.have_, b.own.wants, b.own.given, b.own.apart⟩, b.giv⟩, c, h.lw, h.lr⟩
theorem Work.set_calm (h : Work w base gw gr r lu hv wv gv nv ov ms css) (x : Bool) : Work (w.setCell ⟨gr, 3, none⟩ (.bool x)) base gw gr { r with kept := { r.kept with calm := x } } lu hv wv gv nv ov ms css :=
  let ⟨a, b, c, _⟩ := h.rcell 3 (.bool x)
  ⟨a _ _ _ (by decide) h.wb, h.rb.set_ 3 _, ⟨⟨b.own.log, b.own.have_, b.own.wants, b.own.given, b.own.apart⟩, b.giv⟩, c, h.lw, h.lr⟩
theorem Work.set_commit (h : Work w base gw gr r lu hv wv gv nv ov ms css) (x : Int) : Work (w.setCell ⟨gr, 5, none⟩ (.int .i64 x)) base gw gr { r with kept := { r.kept with commit := x } } lu hv wv gv nv ov ms css :=
  let ⟨a, b, c, _⟩ := h.rcell 5 (.int .i64 x)
  ⟨a _ _ _ (by decide) h.wb, h.rb.set_ 5 _, ⟨⟨b.own.log, b.own.have_, b.own.wants, b.own.given, b.own.apart⟩, b.giv⟩, c, h.lw, h.lr⟩
theorem Work.set_log (h : Work w base gw gr r lu hv wv gv nv ov ms css) {v : Value} {l : List Scu.Str} (hl : OwnStrs w base v l) : Work (w.setCell ⟨gr, 4, none⟩ v) base gw gr { r with kept := { r.kept with log := l } } v hv wv gv nv ov ms css :=
  let ⟨a, b, c, _⟩ := h.rcell 4 v
  ⟨a _ _ _ (by decide) h.wb, h.rb.set_ 4 _, ⟨⟨hl.same (B := 0) (Same.set_ (Ts := [9]) h.rb (Nat.zero_le _) (by decide) 4 _), b.own.have_, b.own.wants, b.own.given, b.own.apart⟩, b.giv⟩, c, h.lw, h.lr⟩
theorem Work.low (h : Work w base gw gr r lu hv wv gv nv ov ms css) (i : Nat) (u : Value) : Below base w (w.setCell ⟨gr, i, none⟩ u) := (Below.refl base w).setCell (p := ⟨gr, i, none⟩) h.lr _
end
theorem blk_ne {w : World} {a b : Nat} {t t' : TypeId} {cs cs' : Array Value} (h : Blk w a t cs) (h' : Blk w b t' cs') (ht : t ≠ t') : a ≠ b := fun e => by
  subst e
  unfold Blk at h h'
  rw [h] at h'
  cases h'
  exact ht rfl
theorem cell_far {w : World} {g i : Nat} {q : Addr} (h : q.block ≠ g) (u : Value) : (w.setCell ⟨g, i, none⟩ u).cell? q = w.cell? q := World.cell?_of_block (Below.heap_setCell w ⟨g, i, none⟩ u q.block h)
theorem cell_far5 {w : World} {g i0 i1 i2 i3 i4 : Nat} {q : Addr} (h : q.block ≠ g) {x0 x1 x2 x3 x4 : Value} :
    (((((w.setCell ⟨g, i0, none⟩ x0).setCell ⟨g, i1, none⟩ x1).setCell ⟨g, i2, none⟩ x2).setCell ⟨g, i3, none⟩ x3).setCell ⟨g, i4, none⟩ x4).cell? q = w.cell? q := by
  rw [cell_far h, cell_far h, cell_far h, cell_far h, cell_far h]
/- one of what others gave is set -/
theorem own_putm {w : World} {base size n g c : Nat} {e : TypeId} {xs : List Value} (h : w.ownsRow base e size (.slice (some ⟨g, 0, none⟩) n c) n xs) (j : Nat) (u : Value) :
    (w.setCell ⟨g, j, none⟩ u).ownsRow base e size (.slice (some ⟨g, 0, none⟩) n c) n (xs.set j u) := by
  obtain ⟨hl, ⟨h0, _⟩ | ⟨g', cap, cur, e1, hb, hh, hnc, hm, hcs, ht⟩⟩ := h
  · cases h0
  · cases e1
    have hB : Blk w g e cur := hh
    refine ⟨by simp [hl], .inr ⟨g, c, cur.setIfInBounds j u, rfl, hb, hB.set_ j u, hnc, hm, by simpa using hcs, ?_⟩⟩
    rw [Array.toList_setIfInBounds, List.take_set, ht]
theorem own_blk? {w : World} {base size n m g c : Nat} {e : TypeId} {xs : List Value} (h : w.ownsRow base e size (.slice (some ⟨g, 0, none⟩) m c) n xs) : base ≤ g ∧ ∃ cur, Blk w g e cur := by
  obtain ⟨hl, ⟨h0, _⟩ | ⟨g', cap, cur, e1, hb, hh, hnc, hm, hcs, ht⟩⟩ := h
  · cases h0
  · cases e1
    exact ⟨hb, cur, hh⟩
theorem flat_set5 {css : List (List Value)} (h5 : ∀ cs ∈ css, cs.length = 5) (i : Nat) (hi : i < css.length) (x0 x1 x2 x3 x4 : Value) :
    (css.set i [x0, x1, x2, x3, x4]).flatten = ((((css.flatten.set (i * 5) x0).set (i * 5 + 1) x1).set (i * 5 + 2) x2).set (i * 5 + 3) x3).set (i * 5 + 4) x4 := by
  induction css generalizing i with
  | nil => cases hi
  | cons a css ih =>
    have ha := h5 a List.mem_cons_self
    match a, ha with
    | [a0, a1, a2, a3, a4], _ =>
      cases i with
      | zero => rfl
      | succ i =>
        have := ih (fun cs hcs => h5 cs (List.mem_cons_of_mem _ hcs)) i (by simpa using hi)
        simp only [List.set_cons_succ, List.flatten_cons, this]
        simp only [show (i + 1) * 5 = i * 5 + 5 by omega, show i * 5 + 5 + 1 = i * 5 + 1 + 5 by omega, show i * 5 + 5 + 2 = i * 5 + 2 + 5 by omega, show i * 5 + 5 + 3 = i * 5 + 3 + 5 by omega, show i * 5 + 5 + 4 = i * 5 + 4 + 5 by omega]
        rfl
theorem Same.set5 {Ts : List TypeId} {w : World} {g : Nat} {t : TypeId} {cur : Array Value} (h : Blk w g t cur) (ht : t ∉ Ts) (i0 i1 i2 i3 i4 : Nat) (x0 x1 x2 x3 x4 : Value) :
    Same Ts 0 w (((((w.setCell ⟨g, i0, none⟩ x0).setCell ⟨g, i1, none⟩ x1).setCell ⟨g, i2, none⟩ x2).setCell ⟨g, i3, none⟩ x3).setCell ⟨g, i4, none⟩ x4) :=
  ((((Same.set_ h (Nat.zero_le _) ht i0 x0).trans (Same.set_ (h.set_ i0 x0) (Nat.zero_le _) ht i1 x1)).trans (Same.set_ ((h.set_ i0 x0).set_ i1 x1) (Nat.zero_le _) ht i2 x2)).trans
    (Same.set_ (((h.set_ i0 x0).set_ i1 x1).set_ i2 x2) (Nat.zero_le _) ht i3 x3)).trans (Same.set_ ((((h.set_ i0 x0).set_ i1 x1).set_ i2 x2).set_ i3 x3) (Nat.zero_le _) ht i4 x4)
theorem OwnKs.put {w : World} {base g c n i : Nat} {gs : List Scu.Kept} {css : List (List Value)} (h : OwnKs w base (.slice (some ⟨g, 0, none⟩) n c) gs css) (hi : i < gs.length) {k : Scu.Kept} {lx : Value} (hx : IsStrs w 0 lx k.log) :
    OwnKs (((((w.setCell ⟨g, i * 5, none⟩ (.int .i64 k.view)).setCell ⟨g, i * 5 + 1, none⟩ (.int .i64 k.normal)).setCell ⟨g, i * 5 + 2, none⟩ (.bool k.calm)).setCell ⟨g, i * 5 + 3, none⟩ lx).setCell ⟨g, i * 5 + 4, none⟩ (.int .i64 k.commit)) base (.slice (some ⟨g, 0, none⟩) n c) (gs.set i k) (css.set i (keptV k lx)) := by
  have hn : n = gs.length := by
    obtain ⟨A, c', e, _⟩ := rd_own h.row
    cases e
    rfl
  subst hn
  obtain ⟨hb, cur, hB⟩ := own_blk? h.row
  have hs : Same [9] 0 w (((((w.setCell ⟨g, i * 5, none⟩ (.int .i64 k.view)).setCell ⟨g, i * 5 + 1, none⟩ (.int .i64 k.normal)).setCell ⟨g, i * 5 + 2, none⟩ (.bool k.calm)).setCell ⟨g, i * 5 + 3, none⟩ lx).setCell ⟨g, i * 5 + 4, none⟩ (.int .i64 k.commit)) := Same.set5 hB (by decide) _ _ _ _ _ _ _ _ _ _
  refine ⟨by simp [h.len], ?_, ?_, ?_, by simpa using h.max⟩
  · intro cs hcs
    rcases List.mem_or_eq_of_mem_set hcs with h' | rfl
    · exact h.five cs h'
    · rfl
  · rw [List.length_set]
    have := own_putm (own_putm (own_putm (own_putm (own_putm h.row (i * 5) (.int .i64 k.view)) (i * 5 + 1) (.int .i64 k.normal)) (i * 5 + 2) (.bool k.calm)) (i * 5 + 3) lx) (i * 5 + 4) (.int .i64 k.commit)
    rw [← flat_set5 h.five i (by rw [h.len]; exact hi)] at this
    exact this
  · intro j cs x h1 h2
    by_cases hj : j = i
    · subst hj
      rw [List.getElem?_set_self (by rw [h.len]; exact hi)] at h1
      rw [List.getElem?_set_self hi] at h2
      cases h1
      cases h2
      exact ⟨lx, rfl, hx.same (by simp) hs⟩
    · rw [List.getElem?_set_ne (fun e => hj e.symm)] at h1 h2
      exact (h.each j cs x h1 h2).same (B := 0) (Ts := [9]) (by simp) hs
theorem OwnKs.cells {w : World} {base g c n : Nat} {gs : List Scu.Kept} {css : List (List Value)} (h : OwnKs w base (.slice (some ⟨g, 0, none⟩) n c) gs css) {i : Nat} (hi : i < gs.length) :
    (∀ j, w.frozen? ⟨g, j, none⟩ = false) ∧ ∃ lv, w.cell? ⟨g, i * 5, none⟩ = some (.int .i64 gs[i].view) ∧ w.cell? ⟨g, i * 5 + 1, none⟩ = some (.int .i64 gs[i].normal) ∧ w.cell? ⟨g, i * 5 + 2, none⟩ = some (.bool gs[i].calm) ∧
      w.cell? ⟨g, i * 5 + 3, none⟩ = some lv ∧ w.cell? ⟨g, i * 5 + 4, none⟩ = some (.int .i64 gs[i].commit) ∧ IsStrs w 0 lv gs[i].log := by
  obtain ⟨hb, cur, hB⟩ := own_blk? h.row
  obtain ⟨A, c', e, _, _, hr, _⟩ := rd_own h.row
  cases e
  obtain ⟨g', o, lv, e, _, h0, h1, h2, h3, h4, h5⟩ := kepts_get h.len h.five hr h.each hi
  cases e
  rw [Nat.zero_add] at h0 h1 h2 h3 h4
  exact ⟨hB.frozen, lv, h0, h1, h2, h3, h4, h5⟩
theorem Work.put_gives {w : World} {base gw gr g c n i : Nat} {r : Scu.Replica} {lu hv wv nv ov : Value} {ms : List Scu.Message} {css : List (List Value)} (h : Work w base gw gr r lu hv wv (.slice (some ⟨g, 0, none⟩) n c) nv ov ms css) (hi : i < r.gives.length) {k : Scu.Kept} {lx : Value} (hx : IsStrs w 0 lx k.log) :
    Work (((((w.setCell ⟨g, i * 5, none⟩ (.int .i64 k.view)).setCell ⟨g, i * 5 + 1, none⟩ (.int .i64 k.normal)).setCell ⟨g, i * 5 + 2, none⟩ (.bool k.calm)).setCell ⟨g, i * 5 + 3, none⟩ lx).setCell ⟨g, i * 5 + 4, none⟩ (.int .i64 k.commit)) base gw gr { r with gives := r.gives.set i k } lu hv wv (.slice (some ⟨g, 0, none⟩) n c) nv ov ms css ∧ Below base w (((((w.setCell ⟨g, i * 5, none⟩ (.int .i64 k.view)).setCell ⟨g, i * 5 + 1, none⟩ (.int .i64 k.normal)).setCell ⟨g, i * 5 + 2, none⟩ (.bool k.calm)).setCell ⟨g, i * 5 + 3, none⟩ lx).setCell ⟨g, i * 5 + 4, none⟩ (.int .i64 k.commit)) := by
  obtain ⟨css', hgv⟩ := h.own.giv
  obtain ⟨hb, cur, hB⟩ := own_blk? hgv.row
  have hs : Same [9, 3, 4, 29, 52, 41] 0 w (((((w.setCell ⟨g, i * 5, none⟩ (.int .i64 k.view)).setCell ⟨g, i * 5 + 1, none⟩ (.int .i64 k.normal)).setCell ⟨g, i * 5 + 2, none⟩ (.bool k.calm)).setCell ⟨g, i * 5 + 3, none⟩ lx).setCell ⟨g, i * 5 + 4, none⟩ (.int .i64 k.commit)) := Same.set5 hB (by decide) _ _ _ _ _ _ _ _ _ _
  refine ⟨⟨blk_keep h.wb hs (by simp), blk_keep h.rb hs (by simp), ⟨(let o := h.own.own.same (hs.mono (by simp) (Nat.le_refl _)); ⟨o.log, o.have_, o.wants, o.given, o.apart⟩), _, hgv.put hi hx⟩, h.out.same (hs.mono (by simp) (Nat.le_refl _)), h.lw, h.lr⟩, ?_⟩
  exact ((((Below.refl base w).setCell (p := ⟨g, _, none⟩) hb _).setCell (p := ⟨g, _, none⟩) hb _).setCell (p := ⟨g, _, none⟩) hb _).setCell (p := ⟨g, _, none⟩) hb _ |>.setCell (p := ⟨g, _, none⟩) hb _
/-- A box of the call's own, of the type of what is given, takes other cells. -/
theorem blk_set5 {w : World} {gb : Nat} {t : TypeId} {a0 a1 a2 a3 a4 b0 b1 b2 b3 b4 : Value} (h : Blk w gb t #[b0, b1, b2, b3, b4]) : Blk (((((w.setCell ⟨gb, 0, none⟩ a0).setCell ⟨gb, 1, none⟩ a1).setCell ⟨gb, 2, none⟩ a2).setCell ⟨gb, 3, none⟩ a3).setCell ⟨gb, 4, none⟩ a4) gb t #[a0, a1, a2, a3, a4] := by
  have h0 : Blk _ gb t #[a0, b1, b2, b3, b4] := h.set_ 0 a0
  have h1 : Blk _ gb t #[a0, a1, b2, b3, b4] := h0.set_ 1 a1
  have h2 : Blk _ gb t #[a0, a1, a2, b3, b4] := h1.set_ 2 a2
  have h3 : Blk _ gb t #[a0, a1, a2, a3, b4] := h2.set_ 3 a3
  have h4 : Blk _ gb t #[a0, a1, a2, a3, a4] := h3.set_ 4 a4
  exact h4
theorem Work.box5 {w : World} {base gw gr gb gg cg n : Nat} {r : Scu.Replica} {lu hv wv nv ov : Value} {ms : List Scu.Message} {css : List (List Value)} (h : Work w base gw gr r lu hv wv (.slice (some ⟨gg, 0, none⟩) n cg) nv ov ms css)
    {a0 a1 a2 a3 a4 b0 b1 b2 b3 b4 : Value} (hB : Blk w gb 24 #[b0, b1, b2, b3, b4]) (hne : gb ≠ gg) (hb : base ≤ gb) :
    Work (((((w.setCell ⟨gb, 0, none⟩ a0).setCell ⟨gb, 1, none⟩ a1).setCell ⟨gb, 2, none⟩ a2).setCell ⟨gb, 3, none⟩ a3).setCell ⟨gb, 4, none⟩ a4) base gw gr r lu hv wv (.slice (some ⟨gg, 0, none⟩) n cg) nv ov ms css ∧ Below base w (((((w.setCell ⟨gb, 0, none⟩ a0).setCell ⟨gb, 1, none⟩ a1).setCell ⟨gb, 2, none⟩ a2).setCell ⟨gb, 3, none⟩ a3).setCell ⟨gb, 4, none⟩ a4) ∧ Blk (((((w.setCell ⟨gb, 0, none⟩ a0).setCell ⟨gb, 1, none⟩ a1).setCell ⟨gb, 2, none⟩ a2).setCell ⟨gb, 3, none⟩ a3).setCell ⟨gb, 4, none⟩ a4) gb 24 #[a0, a1, a2, a3, a4] ∧ Same [9, 3, 4] 0 w (((((w.setCell ⟨gb, 0, none⟩ a0).setCell ⟨gb, 1, none⟩ a1).setCell ⟨gb, 2, none⟩ a2).setCell ⟨gb, 3, none⟩ a3).setCell ⟨gb, 4, none⟩ a4) := by
  have hs : Same [9, 3, 4, 29, 52, 41] 0 w (((((w.setCell ⟨gb, 0, none⟩ a0).setCell ⟨gb, 1, none⟩ a1).setCell ⟨gb, 2, none⟩ a2).setCell ⟨gb, 3, none⟩ a3).setCell ⟨gb, 4, none⟩ a4) := Same.set5 hB (by decide) _ _ _ _ _ _ _ _ _ _
  obtain ⟨css', hgv⟩ := h.own.giv
  have hq : ∀ i, (Value.slice (some ⟨gg, 0, none⟩) n cg).ownBlock ≠ some (⟨gb, i, none⟩ : Addr).block := fun i e => by
    simp only [Value.ownBlock, Option.some.injEq] at e
    exact hne e.symm
  refine ⟨⟨blk_keep h.wb hs (by simp), blk_keep h.rb hs (by simp), ⟨(let o := h.own.own.same (hs.mono (by simp) (Nat.le_refl _)); ⟨o.log, o.have_, o.wants, o.given, o.apart⟩), css', ?_⟩, h.out.same (hs.mono (by simp) (Nat.le_refl _)), h.lw, h.lr⟩, ?_, blk_set5 hB, hs.mono (by simp) (Nat.le_refl _)⟩
  · exact ⟨hgv.len, hgv.five, own_far (own_far (own_far (own_far (own_far hgv.row (hq 0) _) (hq 1) _) (hq 2) _) (hq 3) _) (hq 4) _, fun j cs k h1 h2 => (hgv.each j cs k h1 h2).same (B := 0) (Ts := [9]) (by simp) (hs.mono (by simp) (Nat.le_refl _)), hgv.max⟩
  · exact ((((Below.refl base w).setCell (p := ⟨gb, _, none⟩) hb _).setCell (p := ⟨gb, _, none⟩) hb _).setCell (p := ⟨gb, _, none⟩) hb _).setCell (p := ⟨gb, _, none⟩) hb _ |>.setCell (p := ⟨gb, _, none⟩) hb _
/-- Three of each. -/
def Rep3 (r : Scu.Replica) : Prop := r.have_.length = 3 ∧ r.wants.length = 3 ∧ r.gives.length = 3 ∧ r.given.length = 3 ∧ 0 ≤ r.me ∧ r.me < 3
end Go.Proofs.Ytjbhkmadcjnbfaa
/- Walks: work.fresh. -/
namespace Go.Proofs.Ytjbhkmadcjnbfaa
open Go.RowKit
set_option maxHeartbeats 2000000
set_option maxRecDepth 100000

theorem zero_int : ∀ w, (zeroValue 3).run Try.prog w = .ok (.int .i64 0) w := fun w => by kernel_rfl
theorem zero_bool : ∀ w, (zeroValue 4).run Try.prog w = .ok (.bool false) w := fun w => by kernel_rfl
theorem made_ks (w : World) : (Instr.makeSlice 27 (.int .i64 3) (.int .i64 3)).run Try.prog w = .ok (.slice (some ⟨w.heap.size, 0, none⟩) 3 3) (w.alloc (.cells #[.int .i64 0, .int .i64 0, .bool false, .slice none 0 0, .int .i64 0, .int .i64 0, .int .i64 0, .bool false, .slice none 0 0, .int .i64 0, .int .i64 0, .int .i64 0, .bool false, .slice none 0 0, .int .i64 0] 24)) := by kernel_rfl
theorem fresh_c (w : World) (base gw gr : Nat) (r : Scu.Replica) (lu hv wv gv nv ov : Value) (ms : List Scu.Message) (css : List (List Value)) (hW : Work w base gw gr r lu hv wv gv nv ov ms css) (hbase : base ≤ w.heap.size)
    (h1 : r.have_.length = 3) (h2 : r.wants.length = 3) (h3 : r.given.length = 3) :
    Calls Try.prog 51 #[.pointer (some ⟨gw, 0, none⟩)] w fun e w' => e = .returned (.tuple #[]) ∧ (∃ gv', Work w' base gw gr (Scu.fresh r) lu hv wv gv' nv ov ms css) ∧ Below base w w' ∧ Same [9, 41] 0 w w' := by
  obtain ⟨g1, c1, rfl⟩ := ones3f hW.own.own.have_ h1
  obtain ⟨g2, c2, rfl⟩ := ones3f hW.own.own.wants h2
  obtain ⟨g3, c3, rfl⟩ := ones3f hW.own.own.given h3
  obtain ⟨hb, ⟨cur, hB⟩, hc, hf, _⟩ := ones3' hW.own.own.have_ h1
  have hN := And.intro (hW.clear_have hB hb h1).1 (And.intro (hW.clear_have hB hb h1).2 (Same.setCells3 (Ts := [9, 41]) hB (by decide) (.int .i64 0) (.int .i64 0) (.int .i64 0)))
  have HN := Lib.hid hN
  have HB := Lib.hid (And.intro hc hf)
  have H3 := Lib.hid (And.intro h1 (And.intro h2 h3))
  have d0 := hW.wb.cell 0
  have d6 := hW.rb.cell 6
  simp only [List.getElem?_toArray, List.getElem?_cons_zero, List.getElem?_cons_succ] at d0 d6
  have dl := hW.wb.lt
  have dm := hW.rb.lt
  clear hW hB hc hf hN h1 h2 h3 hb
  go_enter Try.func51, Try.ntmps51
  have hrun : (Builtin.clear_ #[25] 0 #[.slice (some ⟨g1, 0, none⟩) 3 c1]).run Try.prog w = .ok (.tuple #[]) (w.setCells g1 0 [.int .i64 0, .int .i64 0, .int .i64 0]) := run_clear Try.underlying25 zero_int rfl rfl 2 w g1 c1 HB.out.1 HB.out.2
  go_upto_region 1 with fail
  clear hrun
  obtain ⟨W1, hW1⟩ : ∃ W, W = w.setCells g1 0 [.int .i64 0, .int .i64 0, .int .i64 0] := ⟨_, rfl⟩
  have HN1 := Lib.hid (hW1 ▸ HN.out : Work W1 base gw gr _ _ _ _ _ _ _ _ _ ∧ Below base w W1 ∧ Same [9, 41] 0 w W1)
  rw [← hW1]
  clear hW1 HN HB d0 d6 dl dm
  obtain ⟨hb, ⟨cur, hB⟩, hc, hf, _⟩ := ones3' HN1.out.1.own.own.wants H3.out.2.1
  have HN := Lib.hid (And.intro (HN1.out.1.clear_wants hB hb H3.out.2.1).1 (And.intro (HN1.out.1.clear_wants hB hb H3.out.2.1).2 (Same.setCells3 (Ts := [9, 41]) hB (by decide) (.bool false) (.bool false) (.bool false))))
  have HB := Lib.hid (And.intro hc hf)
  have d0 := HN1.out.1.wb.cell 0
  have d7 := HN1.out.1.rb.cell 7
  simp only [List.getElem?_toArray, List.getElem?_cons_zero, List.getElem?_cons_succ] at d0 d7
  have dl := HN1.out.1.wb.lt
  have dm := HN1.out.1.rb.lt
  clear hB hc hf hb
  have hrun : (Builtin.clear_ #[26] 0 #[.slice (some ⟨g2, 0, none⟩) 3 c2]).run Try.prog W1 = .ok (.tuple #[]) (W1.setCells g2 0 [.bool false, .bool false, .bool false]) := run_clear Try.underlying26 zero_bool rfl rfl 2 W1 g2 c2 HB.out.1 HB.out.2
  go_upto_region 2 with fail
  clear hrun
  obtain ⟨W2, hW2⟩ : ∃ W, W = W1.setCells g2 0 [.bool false, .bool false, .bool false] := ⟨_, rfl⟩
  have HN2 := Lib.hid (hW2 ▸ HN.out : Work W2 base gw gr _ _ _ _ _ _ _ _ _ ∧ Below base W1 W2 ∧ Same [9, 41] 0 W1 W2)
  rw [← hW2]
  clear hW2 HN HB d0 d7 dl dm
  obtain ⟨hb, ⟨cur, hB⟩, hc, hf, _⟩ := ones3' HN2.out.1.own.own.given H3.out.2.2
  have HN := Lib.hid (And.intro (HN2.out.1.clear_given hB hb H3.out.2.2).1 (And.intro (HN2.out.1.clear_given hB hb H3.out.2.2).2 (Same.setCells3 (Ts := [9, 41]) hB (by decide) (.bool false) (.bool false) (.bool false))))
  have HB := Lib.hid (And.intro hc hf)
  have d0 := HN2.out.1.wb.cell 0
  have d9 := HN2.out.1.rb.cell 9
  simp only [List.getElem?_toArray, List.getElem?_cons_zero, List.getElem?_cons_succ] at d0 d9
  have dl := HN2.out.1.wb.lt
  have dm := HN2.out.1.rb.lt
  clear hB hc hf hb
  have hrun : (Builtin.clear_ #[26] 0 #[.slice (some ⟨g3, 0, none⟩) 3 c3]).run Try.prog W2 = .ok (.tuple #[]) (W2.setCells g3 0 [.bool false, .bool false, .bool false]) := run_clear Try.underlying26 zero_bool rfl rfl 2 W2 g3 c3 HB.out.1 HB.out.2
  go_upto_region 3 with fail
  clear hrun
  obtain ⟨W3, hW3⟩ : ∃ W, W = W2.setCells g3 0 [.bool false, .bool false, .bool false] := ⟨_, rfl⟩
  have HN3 := Lib.hid (hW3 ▸ HN.out : Work W3 base gw gr _ _ _ _ _ _ _ _ _ ∧ Below base W2 W3 ∧ Same [9, 41] 0 W2 W3)
  rw [← hW3]
  clear hW3 HN HB d0 d9 dl dm
  have hsz : base ≤ W3.heap.size := Nat.le_trans (Nat.le_trans (Nat.le_trans hbase HN1.out.2.1.size) HN2.out.2.1.size) HN3.out.2.1.size
  have d0 := HN3.out.1.wb.cell 0
  have d8 := HN3.out.1.rb.cell 8
  simp only [List.getElem?_toArray, List.getElem?_cons_zero, List.getElem?_cons_succ] at d0 d8
  have dz := HN3.out.1.rb.frozen
  have dl := HN3.out.1.wb.lt
  have dm := HN3.out.1.rb.lt
  have HS := Lib.hid hsz
  clear hsz
  have hmk := made_ks W3.drew
  go_wp2_with fail
  go_region
  have hal : Below W3.heap.size W3 (W3.alloc (Obj.cells (zeroK ++ (zeroK ++ zeroK)).toArray 24)) := below_alloc _ _
  have hn := (HN3.out.1.below hal).new_gives (v := .slice (some ⟨W3.heap.size, 0, none⟩) 3 3) (gs := [Scu.kept0, Scu.kept0, Scu.kept0]) ⟨_, ownKs_zero (Blk.new W3 _ _) HS.out⟩
  have hs4 : Same [9, 41] 0 W3 ((W3.alloc (Obj.cells (zeroK ++ (zeroK ++ zeroK)).toArray 24)).setCell ⟨gr, 8, none⟩ (.slice (some ⟨W3.heap.size, 0, none⟩) 3 3)) := (Same.below hal).trans (Same.set_ (HN3.out.1.below hal).rb (Nat.zero_le _) (by decide) 8 _)
  have hn := And.intro hn hs4
  rw [World.setCell_alloc_past (w := W3) (n := gr) (i := 8) (hn := dm)] at hn
  have HN := Lib.hid hn
  clear hn d0 d8 dz dl dm hmk
  go_wp2
  go_end0
  refine ⟨rfl, ⟨_, HN.out.1.1.below (Below.refl _ _).drew⟩, (((HN1.out.2.1.trans HN2.out.2.1).trans HN3.out.2.1).trans ((hal.mono HS.out).trans HN.out.1.2)).drew, ?_⟩
  exact (((HN1.out.2.2.trans HN2.out.2.2).trans HN3.out.2.2).trans HN.out.2).trans (Same.drew _)
theorem fresh_e (w : World) (base gw gr : Nat) (r : Scu.Replica) (ms : List Scu.Message) (hW : WorkE w base gw gr r ms) (hbase : base ≤ w.heap.size) (h3 : Rep3 r) :
    Calls Try.prog 51 #[.pointer (some ⟨gw, 0, none⟩)] w fun e w' => e = .returned (.tuple #[]) ∧ WorkE w' base gw gr (Scu.fresh r) ms ∧ Below base w w' := by
  obtain ⟨lu, hv, wv, gv, nv, ov, css, hW⟩ := hW
  refine (fresh_c w base gw gr r lu hv wv gv nv ov ms css hW hbase h3.1 h3.2.1 h3.2.2.2.1).mono ?_
  rintro e w' ⟨h1, ⟨gv', h2⟩, h3, _⟩
  exact ⟨h1, h2.e, h3⟩
theorem fresh3 {r : Scu.Replica} (h : Rep3 r) : Rep3 (Scu.fresh r) := ⟨rfl, rfl, rfl, rfl, h.2.2.2.2⟩
end Go.Proofs.Ytjbhkmadcjnbfaa
/- Walks: work.want. -/
namespace Go.Proofs.Ytjbhkmadcjnbfaa
open Go.RowKit
set_option maxHeartbeats 2000000
set_option maxRecDepth 100000

theorem want_x (w : World) (base gw gr : Nat) (r : Scu.Replica) (v : Int) (lu hv wv gv nv ov : Value) (ms : List Scu.Message) (css : List (List Value)) (hW : Work w base gw gr r lu hv wv gv nv ov ms css) (hbase : base ≤ w.heap.size) (h3 : Rep3 r) (hm : (ms.length + 4) * 80 ≤ R47) :
    Calls Try.prog 33 #[.pointer (some ⟨gw, 0, none⟩), .int .i64 v] w fun e w' => e = .returned (.tuple #[]) ∧ (∃ lu' hv' wv' gv' nv' ov' css', Work w' base gw gr (Scu.want r v).1 lu' hv' wv' gv' nv' ov' (ms ++ (Scu.want r v).2) css' ∧ Far w w' ov ov') ∧ Below base w w' := by
  have hN := (hW.set_view v).set_calm false
  have hL := (hW.low 1 (.int .i64 v)).trans ((hW.set_view v).low 3 (.bool false))
  have hF : Far w ((w.setCell ⟨gr, 1, none⟩ (.int .i64 v)).setCell ⟨gr, 3, none⟩ (.bool false)) ov ov := Far.same (Ts := [41]) (by simp) ((Same.set_ hW.rb (Nat.zero_le _) (by decide) 1 _).trans (Same.set_ (hW.set_view v).rb (Nat.zero_le _) (by decide) 3 _))
  have HN := Lib.hid (And.intro hN (And.intro hL hF))
  have H3 := Lib.hid h3
  have HM := Lib.hid hm
  have d0 := hW.wb.cell 0
  have d1 := hW.rb.cell 1
  have d3 := hW.rb.cell 3
  simp only [List.getElem?_toArray, List.getElem?_cons_zero, List.getElem?_cons_succ] at d0 d1 d3
  have dz := hW.rb.frozen
  have dl := hW.wb.lt
  have dm := hW.rb.lt
  clear hW hN hL h3 hm hF
  go_enter Try.func33, Try.ntmps33
  go_wp2_with fail
  go_region
  obtain ⟨W1, hW1⟩ : ∃ W, W = ((w.setCell ⟨gr, 1, none⟩ (.int .i64 v)).setCell ⟨gr, 3, none⟩ (.bool false)).drew := ⟨_, rfl⟩
  rw [← hW1]
  have HN1 := Lib.hid (show Work W1 base gw gr { r with kept := { r.kept with view := v, calm := false } } lu hv wv gv nv ov ms css ∧ Below base w W1 ∧ Far w W1 ov ov from by rw [hW1]; exact ⟨HN.out.1.below (Below.refl _ _).drew, HN.out.2.1.drew, HN.out.2.2.trans (Far.below (Below.refl _ _).drew)⟩)
  have hs1 : base ≤ W1.heap.size := Nat.le_trans hbase HN1.out.2.1.size
  clear hW1 HN d0 d1 d3 dz dl dm
  go_wp2_with fail
  refine (fresh_c W1 base gw gr _ lu hv wv gv nv ov ms css HN1.out.1 hs1 H3.out.1 H3.out.2.1 H3.out.2.2.2.1).mono ?_; rintro en w2 ⟨rfl, ⟨gv2, hW2⟩, hb2, hsm2⟩
  obtain ⟨g2, c2, rfl⟩ := ones3f hW2.own.own.wants rfl
  have hF2 := HN1.out.2.2.trans (Far.same (by simp) hsm2 : Far W1 w2 ov ov)
  obtain ⟨hb, ⟨cur, hB⟩, hc, hf, hcw⟩ := ones3' hW2.own.own.wants rfl
  have hme0 : 0 ≤ r.me := H3.out.2.2.2.2.1
  have hme3 : r.me < 3 := H3.out.2.2.2.2.2
  have hN := hW2.put_wants hB hb r.me.toNat true
  have hF3 : Far w (w2.setCell ⟨g2, r.me.toNat, none⟩ (.bool true)) ov ov := hF2.trans (Far.same (Ts := [41]) (by simp) (Same.set_ hB (Nat.zero_le _) (by decide) _ _))
  have d0 := hW2.wb.cell 0
  have d3 := hW2.rb.cell 3
  have d7 := hW2.rb.cell 7
  have dme : w2.cell? ⟨gr, 0, none⟩ = some (.int .i64 r.me) := hW2.rb.cell 0
  simp only [List.getElem?_toArray, List.getElem?_cons_zero, List.getElem?_cons_succ] at d0 d3 d7
  have dz := hf r.me.toNat
  obtain ⟨u, hu⟩ := Option.isSome_iff_exists.1 (hc r.me.toNat (by omega))
  have dl := hW2.wb.lt
  have dm := hW2.rb.lt
  have hs2 : base ≤ w2.heap.size := Nat.le_trans hs1 hb2.size
  have HN2 := Lib.hid (And.intro hN (And.intro (HN1.out.2.1.trans hb2) (And.intro hs2 hF3)))
  clear hW2 hB hc hf hcw hN hb2 hb hs1 hs2 hsm2 hF2 hF3
  go_wp2_with fail
  go_region
  obtain ⟨W3, hW3⟩ : ∃ W, W = (w2.setCell ⟨g2, r.me.toNat, none⟩ (.bool true)).drew := ⟨_, rfl⟩
  rw [← hW3]
  have HN3 := Lib.hid (show Work W3 base gw gr (Scu.want r v).1 lu hv (.slice (some ⟨g2, 0, none⟩) 3 c2) gv2 nv ov ms css ∧ Below base w W3 ∧ Far w W3 ov ov from by rw [hW3]; exact ⟨HN2.out.1.1.below (Below.refl _ _).drew, (HN2.out.2.1.trans HN2.out.1.2.1).drew, HN2.out.2.2.2.trans (Far.below (Below.refl _ _).drew)⟩)
  have hs3 : base ≤ W3.heap.size := Nat.le_trans hbase HN3.out.2.1.size
  clear hW3 HN2 d0 d3 d7 dme dz dl dm hu
  go_wp2_with fail
  refine (all_x 3 W3 base gw gr _ lu hv (.slice (some ⟨g2, 0, none⟩) 3 c2) gv2 nv ov ms css HN3.out.1 hs3 HM.out).mono ?_; rintro en w4 ⟨rfl, ⟨ov4, css4, hW4, hF4⟩, hb4⟩
  have HN4 := Lib.hid (And.intro hW4 (And.intro (HN3.out.2.2.trans hF4) (HN3.out.2.1.trans hb4)))
  clear hW4 hb4 hF4
  go_wp2
  go_end0
  exact ⟨rfl, ⟨_, _, _, _, _, _, _, HN4.out.1, HN4.out.2.1⟩, HN4.out.2.2⟩
theorem want_e (w : World) (base gw gr : Nat) (r : Scu.Replica) (v : Int) (ms : List Scu.Message) (hW : WorkE w base gw gr r ms) (hbase : base ≤ w.heap.size) (h3 : Rep3 r) (hm : (ms.length + 4) * 80 ≤ R47) :
    Calls Try.prog 33 #[.pointer (some ⟨gw, 0, none⟩), .int .i64 v] w fun e w' => e = .returned (.tuple #[]) ∧ WorkE w' base gw gr (Scu.want r v).1 (ms ++ (Scu.want r v).2) ∧ Below base w w' := by
  obtain ⟨lu, hv, wv, gv, nv, ov, css, hW⟩ := hW
  refine (want_x w base gw gr r v lu hv wv gv nv ov ms css hW hbase h3 hm).mono ?_
  rintro e w' ⟨h1, ⟨_, _, _, _, _, _, _, h2, _⟩, h3⟩
  exact ⟨h1, h2.e, h3⟩
end Go.Proofs.Ytjbhkmadcjnbfaa

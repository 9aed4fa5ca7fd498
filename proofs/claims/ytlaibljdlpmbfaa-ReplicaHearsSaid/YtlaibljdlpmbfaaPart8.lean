/- Part 8: words and walks under the law 'ReplicaHears'. -/
import Derived.Test.YtlaibljdlpmbfaaPart7
import Derived.Laws.IdiomCopy
import Derived.Test.YtlaibljdlpmbfaaPart6
import Derived.Deep.RegionHeld3
import Derived.BigRegion
import Derived.Test.YtlaibljdlpmbfaaPart3
set_option linter.unusedVariables false
set_option linter.unusedSimpArgs false
/- Words: cells of a working replica's rows are set; a row is cleared. Walks: work.fresh. -/
namespace Go.Proofs.Ytlaibljdlpmbfaa
open Go.RowKit
set_option maxHeartbeats 2000000
set_option maxRecDepth 100000

theorem run_clear {P : Program} {t ty e : TypeId} {z : Value} (ht : P.underlying t = some (.slice e)) (hz : ∀ w, (zeroValue e).run P w = .ok z w) (h1 : z.oneCell' = true) (hzc : z.cells = #[z]) (n : Nat) (w : World) (g c : Nat)
    (hc : ∀ j, j < n + 1 → (w.cell? ⟨g, j, none⟩).isSome = true) (hf : ∀ j, w.frozen? ⟨g, j, none⟩ = false) :
    (Builtin.clear_ #[t] ty #[.slice (some ⟨g, 0, none⟩) (n + 1) c]).run P w = .ok (.tuple #[]) (w.setCells g 0 (List.replicate (n + 1) z)) := by
  have hl : (Builtin.zeroCells z.cells (n + 1)).toList = List.replicate (n + 1) z := by
    rw [hzc]
    unfold Builtin.zeroCells
    apply List.ext_getElem
    · simp
    · intro i h2 h3
      simp [Nat.mod_one]
  have hst := run_storeCells_cells (P := P) g 0 (List.replicate (n + 1) z) 0 w (fun j hj => by simpa using hc j (by simpa using hj)) (fun j _ => by simpa using hf j) (fun v hv => by rw [List.eq_of_mem_replicate hv]; exact h1)
  simp [Builtin.clear_, run_underlying ht, hz, Result.andThen, hl, hst]
theorem list_clear {ops : Array Oper} {rest : List Oper} {o : Oper} {a : Act} {w : World} {Q : Exit → Act → World → Prop} (hgd : o.guard = none) (s : Operand) (t : TypeId) (ho : o.op = .call { callee := .builtin .clear, args := #[s], argTypes := #[t] })
    {e : TypeId} {z : Value} (ht : Try.prog.underlying t = some (.slice e)) (hz : ∀ w, (zeroValue e).run Try.prog w = .ok z w) (h1 : z.oneCell' = true) (hzc : z.cells = #[z]) (n g c : Nat) (hs : a.eval s = .slice (some ⟨g, 0, none⟩) (n + 1) c)
    (hc : ∀ j, j < n + 1 → (w.cell? ⟨g, j, none⟩).isSome = true) (hf : ∀ j, w.frozen? ⟨g, j, none⟩ = false)
    (h : wpList Try.prog ops Q rest (a.put o.dst (.tuple #[])) (w.setCells g 0 (List.replicate (n + 1) z))) : wpList Try.prog ops Q (o :: rest) a w :=
  wpList_plain hgd fun K hK => by
    have hrun := run_clear (P := Try.prog) (ty := o.type) ht hz h1 hzc n w g c hc hf
    unfold Oper.wp execOp
    simp only [ho, resolve, invoke, builtin, Sem.run_bind, Sem.run_pure, Result.andThen_ok, List.map_toArray, List.map_cons, List.map_nil, hs, hrun]
    exact hK _ _ h
section
variable {w : World} {base gw gr g c n : Nat} {r : Scu.Replica} {lu hv wv gv nv ov : Value} {ms : List Scu.Message} {css : List (List Value)}
theorem Work.put_have (h : Work w base gw gr r lu (.slice (some ⟨g, 0, none⟩) n c) wv gv nv ov ms css) {cur : Array Value} (hB : Blk w g 3 cur) (hg : base ≤ g) (j : Nat) (x : Int) :
    Work (w.setCell ⟨g, j, none⟩ (.int .i64 x)) base gw gr { r with have_ := r.have_.set j x } lu (.slice (some ⟨g, 0, none⟩) n c) wv gv nv ov ms css ∧ Below base w (w.setCell ⟨g, j, none⟩ (.int .i64 x)) ∧ Blk (w.setCell ⟨g, j, none⟩ (.int .i64 x)) g 3 (cur.setIfInBounds j (.int .i64 x)) := by
  have hs : Same [9, 4, 24, 29, 48, 31] 0 w (w.setCell ⟨g, j, none⟩ (.int .i64 x)) := Same.set_ hB (Nat.zero_le _) (by decide) j _
  obtain ⟨css', hgv⟩ := h.own.giv
  exact ⟨⟨blk_keep h.wb hs (by simp), blk_keep h.rb hs (by simp), ⟨⟨h.own.own.log.same (hs.mono (by simp) (Nat.le_refl _)), h.own.own.have_.put j x, h.own.own.wants.same (hs.mono (by simp) (Nat.le_refl _)), h.own.own.given.same (hs.mono (by simp) (Nat.le_refl _)), h.own.own.apart⟩, css', hgv.same (hs.mono (by simp) (Nat.le_refl _))⟩, h.out.same (hs.mono (by simp) (Nat.le_refl _)), h.lw, h.lr⟩,
    (Below.refl base w).setCell (p := ⟨g, j, none⟩) hg _, hB.set_ j _⟩
theorem Work.put_wants (h : Work w base gw gr r lu hv (.slice (some ⟨g, 0, none⟩) n c) gv nv ov ms css) {cur : Array Value} (hB : Blk w g 4 cur) (hg : base ≤ g) (j : Nat) (b : Bool) :
    Work (w.setCell ⟨g, j, none⟩ (.bool b)) base gw gr { r with wants := r.wants.set j b } lu hv (.slice (some ⟨g, 0, none⟩) n c) gv nv ov ms css ∧ Below base w (w.setCell ⟨g, j, none⟩ (.bool b)) ∧ Blk (w.setCell ⟨g, j, none⟩ (.bool b)) g 4 (cur.setIfInBounds j (.bool b)) :=
  ⟨(h.want hB hg j b).1, (h.want hB hg j b).2, hB.set_ j _⟩
theorem Work.put_given (h : Work w base gw gr r lu hv wv gv (.slice (some ⟨g, 0, none⟩) n c) ov ms css) {cur : Array Value} (hB : Blk w g 4 cur) (hg : base ≤ g) (j : Nat) (b : Bool) :
    Work (w.setCell ⟨g, j, none⟩ (.bool b)) base gw gr { r with given := r.given.set j b } lu hv wv gv (.slice (some ⟨g, 0, none⟩) n c) ov ms css ∧ Below base w (w.setCell ⟨g, j, none⟩ (.bool b)) ∧ Blk (w.setCell ⟨g, j, none⟩ (.bool b)) g 4 (cur.setIfInBounds j (.bool b)) := by
  have hs : Same [9, 3, 24, 29, 48, 31] 0 w (w.setCell ⟨g, j, none⟩ (.bool b)) := Same.set_ hB (Nat.zero_le _) (by decide) j _
  obtain ⟨css', hgv⟩ := h.own.giv
  exact ⟨⟨blk_keep h.wb hs (by simp), blk_keep h.rb hs (by simp), ⟨⟨h.own.own.log.same (hs.mono (by simp) (Nat.le_refl _)), h.own.own.have_.same (hs.mono (by simp) (Nat.le_refl _)), h.own.own.wants.far (fun e => h.own.own.apart g e rfl) _, h.own.own.given.put j b, h.own.own.apart⟩, css', hgv.same (hs.mono (by simp) (Nat.le_refl _))⟩, h.out.same (hs.mono (by simp) (Nat.le_refl _)), h.lw, h.lr⟩,
    (Below.refl base w).setCell (p := ⟨g, j, none⟩) hg _, hB.set_ j _⟩
theorem set3 {α : Type} {l : List α} (h : l.length = 3) (x : α) : ((l.set 0 x).set 1 x).set 2 x = [x, x, x] := by
  match l, h with
  | [a, b, c], _ => rfl
theorem Work.clear_have (h : Work w base gw gr r lu (.slice (some ⟨g, 0, none⟩) n c) wv gv nv ov ms css) {cur : Array Value} (hB : Blk w g 3 cur) (hg : base ≤ g) (h3 : r.have_.length = 3) :
    Work (w.setCells g 0 (List.replicate 3 (.int .i64 0))) base gw gr { r with have_ := [0, 0, 0] } lu (.slice (some ⟨g, 0, none⟩) n c) wv gv nv ov ms css ∧ Below base w (w.setCells g 0 (List.replicate 3 (.int .i64 0))) := by
  obtain ⟨a1, a2, a3⟩ := h.put_have hB hg 0 0
  obtain ⟨b1, b2, b3⟩ := a1.put_have a3 hg 1 0
  obtain ⟨c1, c2, c3⟩ := b1.put_have b3 hg 2 0
  rw [← set3 h3 0]
  exact ⟨c1, (a2.trans b2).trans c2⟩
theorem Work.clear_wants (h : Work w base gw gr r lu hv (.slice (some ⟨g, 0, none⟩) n c) gv nv ov ms css) {cur : Array Value} (hB : Blk w g 4 cur) (hg : base ≤ g) (h3 : r.wants.length = 3) :
    Work (w.setCells g 0 (List.replicate 3 (.bool false))) base gw gr { r with wants := [false, false, false] } lu hv (.slice (some ⟨g, 0, none⟩) n c) gv nv ov ms css ∧ Below base w (w.setCells g 0 (List.replicate 3 (.bool false))) := by
  obtain ⟨a1, a2, a3⟩ := h.put_wants hB hg 0 false
  obtain ⟨b1, b2, b3⟩ := a1.put_wants a3 hg 1 false
  obtain ⟨c1, c2, c3⟩ := b1.put_wants b3 hg 2 false
  rw [← set3 h3 false]
  exact ⟨c1, (a2.trans b2).trans c2⟩
theorem Work.clear_given (h : Work w base gw gr r lu hv wv gv (.slice (some ⟨g, 0, none⟩) n c) ov ms css) {cur : Array Value} (hB : Blk w g 4 cur) (hg : base ≤ g) (h3 : r.given.length = 3) :
    Work (w.setCells g 0 (List.replicate 3 (.bool false))) base gw gr { r with given := [false, false, false] } lu hv wv gv (.slice (some ⟨g, 0, none⟩) n c) ov ms css ∧ Below base w (w.setCells g 0 (List.replicate 3 (.bool false))) := by
  obtain ⟨a1, a2, a3⟩ := h.put_given hB hg 0 false
  obtain ⟨b1, b2, b3⟩ := a1.put_given a3 hg 1 false
  obtain ⟨c1, c2, c3⟩ := b1.put_given b3 hg 2 false
  rw [← set3 h3 false]
  exact ⟨c1, (a2.trans b2).trans c2⟩
theorem own_blkm {e : TypeId} {size : Nat} {xs : List Value} (h : Blk w g e xs.toArray) (hb : base ≤ g) (hn : xs.length = n * size) (hm : n ≤ maxLen) : w.ownsRow base e size (.slice (some ⟨g, 0, none⟩) n n) n xs :=
  ⟨hn, .inr ⟨g, n, xs.toArray, rfl, hb, h, Nat.le_refl _, hm, by simp [hn], by rw [← hn]; simp⟩⟩
theorem ones3f {α : Type} {t : TypeId} {bytes : Nat} {f : α → Value} {v : Value} {xs : List α} (h : OwnOnes t bytes f w base v xs) (h3 : xs.length = 3) : ∃ g c, v = .slice (some ⟨g, 0, none⟩) 3 c :=
  let ⟨g, c, _, e, _⟩ := ones3 h h3; ⟨g, c, e⟩
theorem ones3' {α : Type} {t : TypeId} {bytes : Nat} {f : α → Value} {xs : List α} (h : OwnOnes t bytes f w base (.slice (some ⟨g, 0, none⟩) 3 c) xs) (h3 : xs.length = 3) :
    base ≤ g ∧ (∃ cur, Blk w g t cur) ∧ (∀ j, j < 2 + 1 → (w.cell? ⟨g, j, none⟩).isSome = true) ∧ (∀ j, w.frozen? ⟨g, j, none⟩ = false) ∧ ∀ j, j < 3 → w.cell? ⟨g, j, none⟩ = (xs.map f)[j]? := by
  obtain ⟨g', c', cur, h1, h2, hB, h4⟩ := ones3 h h3
  cases h1
  exact ⟨h2, ⟨cur, hB⟩, fun j hj => by rw [h4 j hj, List.getElem?_eq_getElem (by rw [List.length_map, h3]; exact hj)]; rfl, hB.frozen, h4⟩
theorem Same.setCells3 {Ts : List TypeId} {t : TypeId} {cur : Array Value} (hB : Blk w g t cur) (ht : t ∉ Ts) (x y z : Value) : Same Ts 0 w (w.setCells g 0 [x, y, z]) :=
  ((Same.set_ hB (Nat.zero_le _) ht 0 x).trans (Same.set_ (hB.set_ 0 x) (Nat.zero_le _) ht 1 y)).trans (Same.set_ ((hB.set_ 0 x).set_ 1 y) (Nat.zero_le _) ht 2 z)
def zeroK : List Value := [.int .i64 0, .int .i64 0, .bool false, .slice none 0 0, .int .i64 0]
theorem ownKs_zero (h : Blk w g 24 (zeroK ++ (zeroK ++ zeroK)).toArray) (hb : base ≤ g) : OwnKs w base (.slice (some ⟨g, 0, none⟩) 3 3) [Scu.kept0, Scu.kept0, Scu.kept0] [zeroK, zeroK, zeroK] := by
  refine ⟨rfl, ?_, own_blkm (size := 5) (n := 3) (xs := [zeroK, zeroK, zeroK].flatten) (by simpa using h) hb rfl (by decide), ?_, by simp [R47]⟩
  · intro cs hcs
    simp only [List.mem_cons, List.not_mem_nil, or_false, or_self] at hcs
    subst hcs
    rfl
  · intro j cs k h1 h2
    have : cs = zeroK ∧ k = Scu.kept0 := by
      rcases j with _ | _ | _ | j
      · simp at h1 h2; exact ⟨h1.symm, h2.symm⟩
      · simp at h1 h2; exact ⟨h1.symm, h2.symm⟩
      · simp at h1 h2; exact ⟨h1.symm, h2.symm⟩
      · simp at h1
    obtain ⟨rfl, rfl⟩ := this
    exact ⟨.slice none 0 0, rfl, IsStrs.nil_⟩
/-- The replica's block takes another row of what others gave. -/
theorem Work.new_gives (h : Work w base gw gr r lu hv wv gv nv ov ms css) {v : Value} {gs : List Scu.Kept} (hv' : OwnKepts w base v gs) :
    Work (w.setCell ⟨gr, 8, none⟩ v) base gw gr { r with gives := gs } lu hv wv v nv ov ms css ∧ Below base w (w.setCell ⟨gr, 8, none⟩ v) := by
  have hs : Same [9, 3, 4, 24, 48, 31] 0 w (w.setCell ⟨gr, 8, none⟩ v) := Same.set_ h.rb (Nat.zero_le _) (by decide) 8 _
  obtain ⟨css', hgv⟩ := hv'
  exact ⟨⟨blk_keep h.wb hs (by simp), h.rb.set_ 8 v, ⟨(let o := h.own.own.same (hs.mono (by simp) (Nat.le_refl _)); ⟨o.log, o.have_, o.wants, o.given, o.apart⟩), css', hgv.same (hs.mono (by simp) (Nat.le_refl _))⟩, h.out.same (hs.mono (by simp) (Nat.le_refl _)), h.lw, h.lr⟩, (Below.refl base w).setCell (p := ⟨gr, 8, none⟩) h.lr _⟩
/-- One cell of the replica's own block is set. -/
theorem Work.rcell (h : Work w base gw gr r lu hv wv gv nv ov ms css) (i : Nat) (u : Value) :
    (∀ g' t cs, t ≠ 29 → Blk w g' t cs → Blk (w.setCell ⟨gr, i, none⟩ u) g' t cs) ∧ OwnRep (w.setCell ⟨gr, i, none⟩ u) base lu hv wv gv nv r ∧ OwnMs (w.setCell ⟨gr, i, none⟩ u) base ov ms css ∧ Below base w (w.setCell ⟨gr, i, none⟩ u) := by
  have hs : Same [9, 3, 4, 24, 48, 31] 0 w (w.setCell ⟨gr, i, none⟩ u) := Same.set_ h.rb (Nat.zero_le _) (by decide) i _
  refine ⟨fun g' t cs ht hB => (Below.heap_setCell w ⟨gr, i, none⟩ u g' (fun e => ?_)).trans hB, h.own.same (hs.mono (by simp) (Nat.le_refl _)), h.out.same (hs.mono (by simp) (Nat.le_refl _)), (Below.refl base w).setCell (p := ⟨gr, i, none⟩) h.lr _⟩
  have hr := h.rb
  subst e
  unfold Blk at hB hr
  rw [hr] at hB
  cases hB
  exact ht rfl
theorem Work.set_view (h : Work w base gw gr r lu hv wv gv nv ov ms css) (x : Int) : Work (w.setCell ⟨gr, 1, none⟩ (.int .i64 x)) base gw gr { r with kept := { r.kept with view := x } } lu hv wv gv nv ov ms css :=
  let ⟨a, b, c, _⟩ := h.rcell 1 (.int .i64 x)
  ⟨a _ _ _ (by decide) h.wb, h.rb.set_ 1 _, ⟨⟨b.own.log, b.own.have_, b.own.wants, b.own.given, b.own.apart⟩, b.giv⟩, c, h.lw, h.lr⟩
theorem Work.set_normal (h : Work w base gw gr r lu hv wv gv nv ov ms css) (x : Int) : Work (w.setCell ⟨gr, 2, none⟩ (.int .i64 x)) base gw gr { r with kept := { r.kept with normal := x } } lu hv wv gv nv ov ms css :=
  let ⟨a, b, c, _⟩ := h.rcell 2 (.int .i64 x)
  ⟨a _ _ _ (by decide) h.wb, h.rb.set_ 2 _, ⟨⟨b.own.log, b.own.have_, b.own.wants, b.own.given, b.own.apart⟩, b.giv⟩, c, h.lw, h.lr⟩
theorem Work.set_calm (h : Work w base gw gr r lu hv wv gv nv ov ms css) (x : Bool) : Work (w.setCell ⟨gr, 3, none⟩ (.bool x)) base gw gr { r with kept := { r.kept with calm := x } } lu hv wv gv nv ov ms css :=
  let ⟨a, b, c, _⟩ := h.rcell 3 (.bool x)
  ⟨a _ _ _ (by decide) h.wb, h.rb.set_ 3 _, ⟨⟨b.own.log, b.own.have_, b.own.wants, b.own.given, b.own.apart⟩, b.giv⟩, c, h.lw, h.lr⟩
theorem Work.set_commit (h : Work w base gw gr r lu hv wv gv nv ov ms css) (x : Int) : Work (w.setCell ⟨gr, 5, none⟩ (.int .i64 x)) base gw gr { r with kept := { r.kept with commit := x } } lu hv wv gv nv ov ms css :=
  let ⟨a, b, c, _⟩ := h.rcell 5 (.int .i64 x)
  ⟨a _ _ _ (by decide) h.wb, h.rb.set_ 5 _, ⟨⟨b.own.log, b.own.have_, b.own.wants, b.own.given, b.own.apart⟩, b.giv⟩, c, h.lw, h.lr⟩
theorem Work.set_log (h : Work w base gw gr r lu hv wv gv nv ov ms css) {v : Value} {l : List Scu.Str} (hl : OwnStrs w base v l) : Work (w.setCell ⟨gr, 4, none⟩ v) base gw gr { r with kept := { r.kept with log := l } } v hv wv gv nv ov ms css :=
  let ⟨a, b, c, _⟩ := h.rcell 4 v
  ⟨a _ _ _ (by decide) h.wb, h.rb.set_ 4 _, ⟨⟨hl.same (B := 0) (Same.set_ (Ts := [9]) h.rb (Nat.zero_le _) (by decide) 4 _), b.own.have_, b.own.wants, b.own.given, b.own.apart⟩, b.giv⟩, c, h.lw, h.lr⟩
theorem Work.low (h : Work w base gw gr r lu hv wv gv nv ov ms css) (i : Nat) (u : Value) : Below base w (w.setCell ⟨gr, i, none⟩ u) := (Below.refl base w).setCell (p := ⟨gr, i, none⟩) h.lr _
end
theorem blk_ne {w : World} {a b : Nat} {t t' : TypeId} {cs cs' : Array Value} (h : Blk w a t cs) (h' : Blk w b t' cs') (ht : t ≠ t') : a ≠ b := fun e => by
  subst e
  unfold Blk at h h'
  rw [h] at h'
  cases h'
  exact ht rfl
theorem cell_far {w : World} {g i : Nat} {q : Addr} (h : q.block ≠ g) (u : Value) : (w.setCell ⟨g, i, none⟩ u).cell? q = w.cell? q := World.cell?_of_block (Below.heap_setCell w ⟨g, i, none⟩ u q.block h)
theorem cell_far5 {w : World} {g i0 i1 i2 i3 i4 : Nat} {q : Addr} (h : q.block ≠ g) {x0 x1 x2 x3 x4 : Value} :
    (((((w.setCell ⟨g, i0, none⟩ x0).setCell ⟨g, i1, none⟩ x1).setCell ⟨g, i2, none⟩ x2).setCell ⟨g, i3, none⟩ x3).setCell ⟨g, i4, none⟩ x4).cell? q = w.cell? q := by
  rw [cell_far h, cell_far h, cell_far h, cell_far h, cell_far h]
/- one of what others gave is set -/
theorem own_putm {w : World} {base size n g c : Nat} {e : TypeId} {xs : List Value} (h : w.ownsRow base e size (.slice (some ⟨g, 0, none⟩) n c) n xs) (j : Nat) (u : Value) :
    (w.setCell ⟨g, j, none⟩ u).ownsRow base e size (.slice (some ⟨g, 0, none⟩) n c) n (xs.set j u) := by
  obtain ⟨hl, ⟨h0, _⟩ | ⟨g', cap, cur, e1, hb, hh, hnc, hm, hcs, ht⟩⟩ := h
  · cases h0
  · cases e1
    have hB : Blk w g e cur := hh
    refine ⟨by simp [hl], .inr ⟨g, c, cur.setIfInBounds j u, rfl, hb, hB.set_ j u, hnc, hm, by simpa using hcs, ?_⟩⟩
    rw [Array.toList_setIfInBounds, List.take_set, ht]
theorem own_blk? {w : World} {base size n m g c : Nat} {e : TypeId} {xs : List Value} (h : w.ownsRow base e size (.slice (some ⟨g, 0, none⟩) m c) n xs) : base ≤ g ∧ ∃ cur, Blk w g e cur := by
  obtain ⟨hl, ⟨h0, _⟩ | ⟨g', cap, cur, e1, hb, hh, hnc, hm, hcs, ht⟩⟩ := h
  · cases h0
  · cases e1
    exact ⟨hb, cur, hh⟩
theorem flat_set5 {css : List (List Value)} (h5 : ∀ cs ∈ css, cs.length = 5) (i : Nat) (hi : i < css.length) (x0 x1 x2 x3 x4 : Value) :
    (css.set i [x0, x1, x2, x3, x4]).flatten = ((((css.flatten.set (i * 5) x0).set (i * 5 + 1) x1).set (i * 5 + 2) x2).set (i * 5 + 3) x3).set (i * 5 + 4) x4 := by
  induction css generalizing i with
  | nil => cases hi
  | cons a css ih =>
    have ha := h5 a List.mem_cons_self
    match a, ha with
    | [a0, a1, a2, a3, a4], _ =>
      cases i with
      | zero => rfl
      | succ i =>
        have := ih (fun cs hcs => h5 cs (List.mem_cons_of_mem _ hcs)) i (by simpa using hi)
        simp only [List.set_cons_succ, List.flatten_cons, this]
        simp only [show (i + 1) * 5 = i * 5 + 5 by omega, show i * 5 + 5 + 1 = i * 5 + 1 + 5 by omega, show i * 5 + 5 + 2 = i * 5 + 2 + 5 by omega, show i * 5 + 5 + 3 = i * 5 + 3 + 5 by omega, show i * 5 + 5 + 4 = i * 5 + 4 + 5 by omega]
        rfl
theorem Same.set5 {Ts : List TypeId} {w : World} {g : Nat} {t : TypeId} {cur : Array Value} (h : Blk w g t cur) (ht : t ∉ Ts) (i0 i1 i2 i3 i4 : Nat) (x0 x1 x2 x3 x4 : Value) :
    Same Ts 0 w (((((w.setCell ⟨g, i0, none⟩ x0).setCell ⟨g, i1, none⟩ x1).setCell ⟨g, i2, none⟩ x2).setCell ⟨g, i3, none⟩ x3).setCell ⟨g, i4, none⟩ x4) :=
  ((((Same.set_ h (Nat.zero_le _) ht i0 x0).trans (Same.set_ (h.set_ i0 x0) (Nat.zero_le _) ht i1 x1)).trans (Same.set_ ((h.set_ i0 x0).set_ i1 x1) (Nat.zero_le _) ht i2 x2)).trans
    (Same.set_ (((h.set_ i0 x0).set_ i1 x1).set_ i2 x2) (Nat.zero_le _) ht i3 x3)).trans (Same.set_ ((((h.set_ i0 x0).set_ i1 x1).set_ i2 x2).set_ i3 x3) (Nat.zero_le _) ht i4 x4)
theorem OwnKs.put {w : World} {base g c n i : Nat} {gs : List Scu.Kept} {css : List (List Value)} (h : OwnKs w base (.slice (some ⟨g, 0, none⟩) n c) gs css) (hi : i < gs.length) {k : Scu.Kept} {lx : Value} (hx : IsStrs w 0 lx k.log) :
    OwnKs (((((w.setCell ⟨g, i * 5, none⟩ (.int .i64 k.view)).setCell ⟨g, i * 5 + 1, none⟩ (.int .i64 k.normal)).setCell ⟨g, i * 5 + 2, none⟩ (.bool k.calm)).setCell ⟨g, i * 5 + 3, none⟩ lx).setCell ⟨g, i * 5 + 4, none⟩ (.int .i64 k.commit)) base (.slice (some ⟨g, 0, none⟩) n c) (gs.set i k) (css.set i (keptV k lx)) := by
  have hn : n = gs.length := by
    obtain ⟨A, c', e, _⟩ := rd_own h.row
    cases e
    rfl
  subst hn
  obtain ⟨hb, cur, hB⟩ := own_blk? h.row
  have hs : Same [9] 0 w (((((w.setCell ⟨g, i * 5, none⟩ (.int .i64 k.view)).setCell ⟨g, i * 5 + 1, none⟩ (.int .i64 k.normal)).setCell ⟨g, i * 5 + 2, none⟩ (.bool k.calm)).setCell ⟨g, i * 5 + 3, none⟩ lx).setCell ⟨g, i * 5 + 4, none⟩ (.int .i64 k.commit)) := Same.set5 hB (by decide) _ _ _ _ _ _ _ _ _ _
  refine ⟨by simp [h.len], ?_, ?_, ?_, by simpa using h.max⟩
  · intro cs hcs
    rcases List.mem_or_eq_of_mem_set hcs with h' | rfl
    · exact h.five cs h'
    · rfl
  · rw [List.length_set]
    have := own_putm (own_putm (own_putm (own_putm (own_putm h.row (i * 5) (.int .i64 k.view)) (i * 5 + 1) (.int .i64 k.normal)) (i * 5 + 2) (.bool k.calm)) (i * 5 + 3) lx) (i * 5 + 4) (.int .i64 k.commit)
    rw [← flat_set5 h.five i (by rw [h.len]; exact hi)] at this
    exact this
  · intro j cs x h1 h2
    by_cases hj : j = i
    · subst hj
      rw [List.getElem?_set_self (by rw [h.len]; exact hi)] at h1
      rw [List.getElem?_set_self hi] at h2
      cases h1
      cases h2
      exact ⟨lx, rfl, hx.same (by simp) hs⟩
    · rw [List.getElem?_set_ne (fun e => hj e.symm)] at h1 h2
      exact (h.each j cs x h1 h2).same (B := 0) (Ts := [9]) (by simp) hs
theorem OwnKs.cells {w : World} {base g c n : Nat} {gs : List Scu.Kept} {css : List (List Value)} (h : OwnKs w base (.slice (some ⟨g, 0, none⟩) n c) gs css) {i : Nat} (hi : i < gs.length) :
    (∀ j, w.frozen? ⟨g, j, none⟩ = false) ∧ ∃ lv, w.cell? ⟨g, i * 5, none⟩ = some (.int .i64 gs[i].view) ∧ w.cell? ⟨g, i * 5 + 1, none⟩ = some (.int .i64 gs[i].normal) ∧ w.cell? ⟨g, i * 5 + 2, none⟩ = some (.bool gs[i].calm) ∧
      w.cell? ⟨g, i * 5 + 3, none⟩ = some lv ∧ w.cell? ⟨g, i * 5 + 4, none⟩ = some (.int .i64 gs[i].commit) ∧ IsStrs w 0 lv gs[i].log := by
  obtain ⟨hb, cur, hB⟩ := own_blk? h.row
  obtain ⟨A, c', e, _, _, hr, _⟩ := rd_own h.row
  cases e
  obtain ⟨g', o, lv, e, _, h0, h1, h2, h3, h4, h5⟩ := kepts_get h.len h.five hr h.each hi
  cases e
  rw [Nat.zero_add] at h0 h1 h2 h3 h4
  exact ⟨hB.frozen, lv, h0, h1, h2, h3, h4, h5⟩
theorem Work.put_gives {w : World} {base gw gr g c n i : Nat} {r : Scu.Replica} {lu hv wv nv ov : Value} {ms : List Scu.Message} {css : List (List Value)} (h : Work w base gw gr r lu hv wv (.slice (some ⟨g, 0, none⟩) n c) nv ov ms css) (hi : i < r.gives.length) {k : Scu.Kept} {lx : Value} (hx : IsStrs w 0 lx k.log) :
    Work (((((w.setCell ⟨g, i * 5, none⟩ (.int .i64 k.view)).setCell ⟨g, i * 5 + 1, none⟩ (.int .i64 k.normal)).setCell ⟨g, i * 5 + 2, none⟩ (.bool k.calm)).setCell ⟨g, i * 5 + 3, none⟩ lx).setCell ⟨g, i * 5 + 4, none⟩ (.int .i64 k.commit)) base gw gr { r with gives := r.gives.set i k } lu hv wv (.slice (some ⟨g, 0, none⟩) n c) nv ov ms css ∧ Below base w (((((w.setCell ⟨g, i * 5, none⟩ (.int .i64 k.view)).setCell ⟨g, i * 5 + 1, none⟩ (.int .i64 k.normal)).setCell ⟨g, i * 5 + 2, none⟩ (.bool k.calm)).setCell ⟨g, i * 5 + 3, none⟩ lx).setCell ⟨g, i * 5 + 4, none⟩ (.int .i64 k.commit)) := by
  obtain ⟨css', hgv⟩ := h.own.giv
  obtain ⟨hb, cur, hB⟩ := own_blk? hgv.row
  have hs : Same [9, 3, 4, 29, 48, 31] 0 w (((((w.setCell ⟨g, i * 5, none⟩ (.int .i64 k.view)).setCell ⟨g, i * 5 + 1, none⟩ (.int .i64 k.normal)).setCell ⟨g, i * 5 + 2, none⟩ (.bool k.calm)).setCell ⟨g, i * 5 + 3, none⟩ lx).setCell ⟨g, i * 5 + 4, none⟩ (.int .i64 k.commit)) := Same.set5 hB (by decide) _ _ _ _ _ _ _ _ _ _
  refine ⟨⟨blk_keep h.wb hs (by simp), blk_keep h.rb hs (by simp), ⟨(let o := h.own.own.same (hs.mono (by simp) (Nat.le_refl _)); ⟨o.log, o.have_, o.wants, o.given, o.apart⟩), _, hgv.put hi hx⟩, h.out.same (hs.mono (by simp) (Nat.le_refl _)), h.lw, h.lr⟩, ?_⟩
  exact ((((Below.refl base w).setCell (p := ⟨g, _, none⟩) hb _).setCell (p := ⟨g, _, none⟩) hb _).setCell (p := ⟨g, _, none⟩) hb _).setCell (p := ⟨g, _, none⟩) hb _ |>.setCell (p := ⟨g, _, none⟩) hb _
/-- A box of the call's own, of the type of what is given, takes other cells. -/
theorem blk_set5 {w : World} {gb : Nat} {t : TypeId} {a0 a1 a2 a3 a4 b0 b1 b2 b3 b4 : Value} (h : Blk w gb t #[b0, b1, b2, b3, b4]) : Blk (((((w.setCell ⟨gb, 0, none⟩ a0).setCell ⟨gb, 1, none⟩ a1).setCell ⟨gb, 2, none⟩ a2).setCell ⟨gb, 3, none⟩ a3).setCell ⟨gb, 4, none⟩ a4) gb t #[a0, a1, a2, a3, a4] := by
  have h0 : Blk _ gb t #[a0, b1, b2, b3, b4] := h.set_ 0 a0
  have h1 : Blk _ gb t #[a0, a1, b2, b3, b4] := h0.set_ 1 a1
  have h2 : Blk _ gb t #[a0, a1, a2, b3, b4] := h1.set_ 2 a2
  have h3 : Blk _ gb t #[a0, a1, a2, a3, b4] := h2.set_ 3 a3
  have h4 : Blk _ gb t #[a0, a1, a2, a3, a4] := h3.set_ 4 a4
  exact h4
theorem Work.box5 {w : World} {base gw gr gb gg cg n : Nat} {r : Scu.Replica} {lu hv wv nv ov : Value} {ms : List Scu.Message} {css : List (List Value)} (h : Work w base gw gr r lu hv wv (.slice (some ⟨gg, 0, none⟩) n cg) nv ov ms css)
    {a0 a1 a2 a3 a4 b0 b1 b2 b3 b4 : Value} (hB : Blk w gb 24 #[b0, b1, b2, b3, b4]) (hne : gb ≠ gg) (hb : base ≤ gb) :
    Work (((((w.setCell ⟨gb, 0, none⟩ a0).setCell ⟨gb, 1, none⟩ a1).setCell ⟨gb, 2, none⟩ a2).setCell ⟨gb, 3, none⟩ a3).setCell ⟨gb, 4, none⟩ a4) base gw gr r lu hv wv (.slice (some ⟨gg, 0, none⟩) n cg) nv ov ms css ∧ Below base w (((((w.setCell ⟨gb, 0, none⟩ a0).setCell ⟨gb, 1, none⟩ a1).setCell ⟨gb, 2, none⟩ a2).setCell ⟨gb, 3, none⟩ a3).setCell ⟨gb, 4, none⟩ a4) ∧ Blk (((((w.setCell ⟨gb, 0, none⟩ a0).setCell ⟨gb, 1, none⟩ a1).setCell ⟨gb, 2, none⟩ a2).setCell ⟨gb, 3, none⟩ a3).setCell ⟨gb, 4, none⟩ a4) gb 24 #[a0, a1, a2, a3, a4] ∧ Same [9, 3, 4] 0 w (((((w.setCell ⟨gb, 0, none⟩ a0).setCell ⟨gb, 1, none⟩ a1).setCell ⟨gb, 2, none⟩ a2).setCell ⟨gb, 3, none⟩ a3).setCell ⟨gb, 4, none⟩ a4) := by
  have hs : Same [9, 3, 4, 29, 48, 31] 0 w (((((w.setCell ⟨gb, 0, none⟩ a0).setCell ⟨gb, 1, none⟩ a1).setCell ⟨gb, 2, none⟩ a2).setCell ⟨gb, 3, none⟩ a3).setCell ⟨gb, 4, none⟩ a4) := Same.set5 hB (by decide) _ _ _ _ _ _ _ _ _ _
  obtain ⟨css', hgv⟩ := h.own.giv
  have hq : ∀ i, (Value.slice (some ⟨gg, 0, none⟩) n cg).ownBlock ≠ some (⟨gb, i, none⟩ : Addr).block := fun i e => by
    simp only [Value.ownBlock, Option.some.injEq] at e
    exact hne e.symm
  refine ⟨⟨blk_keep h.wb hs (by simp), blk_keep h.rb hs (by simp), ⟨(let o := h.own.own.same (hs.mono (by simp) (Nat.le_refl _)); ⟨o.log, o.have_, o.wants, o.given, o.apart⟩), css', ?_⟩, h.out.same (hs.mono (by simp) (Nat.le_refl _)), h.lw, h.lr⟩, ?_, blk_set5 hB, hs.mono (by simp) (Nat.le_refl _)⟩
  · exact ⟨hgv.len, hgv.five, own_far (own_far (own_far (own_far (own_far hgv.row (hq 0) _) (hq 1) _) (hq 2) _) (hq 3) _) (hq 4) _, fun j cs k h1 h2 => (hgv.each j cs k h1 h2).same (B := 0) (Ts := [9]) (by simp) (hs.mono (by simp) (Nat.le_refl _)), hgv.max⟩
  · exact ((((Below.refl base w).setCell (p := ⟨gb, _, none⟩) hb _).setCell (p := ⟨gb, _, none⟩) hb _).setCell (p := ⟨gb, _, none⟩) hb _).setCell (p := ⟨gb, _, none⟩) hb _ |>.setCell (p := ⟨gb, _, none⟩) hb _
/-- Three of each. -/
def Rep3 (r : Scu.Replica) : Prop := r.have_.length = 3 ∧ r.wants.length = 3 ∧ r.gives.length = 3 ∧ r.given.length = 3 ∧ 0 ≤ r.me ∧ r.me < 3
end Go.Proofs.Ytlaibljdlpmbfaa
/- Walks: work.fresh. -/
namespace Go.Proofs.Ytlaibljdlpmbfaa
open Go.RowKit
set_option maxHeartbeats 2000000
set_option maxRecDepth 100000

theorem zero_int : ∀ w, (zeroValue 3).run Try.prog w = .ok (.int .i64 0) w := fun w => by kernel_rfl
theorem zero_bool : ∀ w, (zeroValue 4).run Try.prog w = .ok (.bool false) w := fun w => by kernel_rfl
theorem made_ks (w : World) : (Instr.makeSlice 27 (.int .i64 3) (.int .i64 3)).run Try.prog w = .ok (.slice (some ⟨w.heap.size, 0, none⟩) 3 3) (w.alloc (.cells #[.int .i64 0, .int .i64 0, .bool false, .slice none 0 0, .int .i64 0, .int .i64 0, .int .i64 0, .bool false, .slice none 0 0, .int .i64 0, .int .i64 0, .int .i64 0, .bool false, .slice none 0 0, .int .i64 0] 24)) := by kernel_rfl
theorem fresh_c (w : World) (base gw gr : Nat) (r : Scu.Replica) (lu hv wv gv nv ov : Value) (ms : List Scu.Message) (css : List (List Value)) (hW : Work w base gw gr r lu hv wv gv nv ov ms css) (hbase : base ≤ w.heap.size)
    (h1 : r.have_.length = 3) (h2 : r.wants.length = 3) (h3 : r.given.length = 3) :
    Calls Try.prog 26 #[.pointer (some ⟨gw, 0, none⟩)] w fun e w' => e = .returned (.tuple #[]) ∧ (∃ gv', Work w' base gw gr (Scu.fresh r) lu hv wv gv' nv ov ms css) ∧ Below base w w' ∧ Same [9, 31] 0 w w' := by
  obtain ⟨g1, c1, rfl⟩ := ones3f hW.own.own.have_ h1
  obtain ⟨g2, c2, rfl⟩ := ones3f hW.own.own.wants h2
  obtain ⟨g3, c3, rfl⟩ := ones3f hW.own.own.given h3
  obtain ⟨hb, ⟨cur, hB⟩, hc, hf, _⟩ := ones3' hW.own.own.have_ h1
  have hN := And.intro (hW.clear_have hB hb h1).1 (And.intro (hW.clear_have hB hb h1).2 (Same.setCells3 (Ts := [9, 31]) hB (by decide) (.int .i64 0) (.int .i64 0) (.int .i64 0)))
  have HN := Lib.hid hN
  have HB := Lib.hid (And.intro hc hf)
  have H3 := Lib.hid (And.intro h1 (And.intro h2 h3))
  have d0 := hW.wb.cell 0
  have d6 := hW.rb.cell 6
  simp only [List.getElem?_toArray, List.getElem?_cons_zero, List.getElem?_cons_succ] at d0 d6
  have dl := hW.wb.lt
  have dm := hW.rb.lt
  clear hW hB hc hf hN h1 h2 h3 hb
  go_enter Try.func26, Try.ntmps26
  have hrun : (Builtin.clear_ #[25] 0 #[.slice (some ⟨g1, 0, none⟩) 3 c1]).run Try.prog w = .ok (.tuple #[]) (w.setCells g1 0 [.int .i64 0, .int .i64 0, .int .i64 0]) := run_clear Try.underlying25 zero_int rfl rfl 2 w g1 c1 HB.out.1 HB.out.2
  go_upto_region 1 with fail
  clear hrun
  obtain ⟨W1, hW1⟩ : ∃ W, W = w.setCells g1 0 [.int .i64 0, .int .i64 0, .int .i64 0] := ⟨_, rfl⟩
  have HN1 := Lib.hid (hW1 ▸ HN.out : Work W1 base gw gr _ _ _ _ _ _ _ _ _ ∧ Below base w W1 ∧ Same [9, 31] 0 w W1)
  rw [← hW1]
  clear hW1 HN HB d0 d6 dl dm
  obtain ⟨hb, ⟨cur, hB⟩, hc, hf, _⟩ := ones3' HN1.out.1.own.own.wants H3.out.2.1
  have HN := Lib.hid (And.intro (HN1.out.1.clear_wants hB hb H3.out.2.1).1 (And.intro (HN1.out.1.clear_wants hB hb H3.out.2.1).2 (Same.setCells3 (Ts := [9, 31]) hB (by decide) (.bool false) (.bool false) (.bool false))))
  have HB := Lib.hid (And.intro hc hf)
  have d0 := HN1.out.1.wb.cell 0
  have d7 := HN1.out.1.rb.cell 7
  simp only [List.getElem?_toArray, List.getElem?_cons_zero, List.getElem?_cons_succ] at d0 d7
  have dl := HN1.out.1.wb.lt
  have dm := HN1.out.1.rb.lt
  clear hB hc hf hb
  have hrun : (Builtin.clear_ #[26] 0 #[.slice (some ⟨g2, 0, none⟩) 3 c2]).run Try.prog W1 = .ok (.tuple #[]) (W1.setCells g2 0 [.bool false, .bool false, .bool false]) := run_clear Try.underlying26 zero_bool rfl rfl 2 W1 g2 c2 HB.out.1 HB.out.2
  go_upto_region 2 with fail
  clear hrun
  obtain ⟨W2, hW2⟩ : ∃ W, W = W1.setCells g2 0 [.bool false, .bool false, .bool false] := ⟨_, rfl⟩
  have HN2 := Lib.hid (hW2 ▸ HN.out : Work W2 base gw gr _ _ _ _ _ _ _ _ _ ∧ Below base W1 W2 ∧ Same [9, 31] 0 W1 W2)
  rw [← hW2]
  clear hW2 HN HB d0 d7 dl dm
  obtain ⟨hb, ⟨cur, hB⟩, hc, hf, _⟩ := ones3' HN2.out.1.own.own.given H3.out.2.2
  have HN := Lib.hid (And.intro (HN2.out.1.clear_given hB hb H3.out.2.2).1 (And.intro (HN2.out.1.clear_given hB hb H3.out.2.2).2 (Same.setCells3 (Ts := [9, 31]) hB (by decide) (.bool false) (.bool false) (.bool false))))
  have HB := Lib.hid (And.intro hc hf)
  have d0 := HN2.out.1.wb.cell 0
  have d9 := HN2.out.1.rb.cell 9
  simp only [List.getElem?_toArray, List.getElem?_cons_zero, List.getElem?_cons_succ] at d0 d9
  have dl := HN2.out.1.wb.lt
  have dm := HN2.out.1.rb.lt
  clear hB hc hf hb
  have hrun : (Builtin.clear_ #[26] 0 #[.slice (some ⟨g3, 0, none⟩) 3 c3]).run Try.prog W2 = .ok (.tuple #[]) (W2.setCells g3 0 [.bool false, .bool false, .bool false]) := run_clear Try.underlying26 zero_bool rfl rfl 2 W2 g3 c3 HB.out.1 HB.out.2
  go_upto_region 3 with fail
  clear hrun
  obtain ⟨W3, hW3⟩ : ∃ W, W = W2.setCells g3 0 [.bool false, .bool false, .bool false] := ⟨_, rfl⟩
  have HN3 := Lib.hid (hW3 ▸ HN.out : Work W3 base gw gr _ _ _ _ _ _ _ _ _ ∧ Below base W2 W3 ∧ Same [9, 31] 0 W2 W3)
  rw [← hW3]
  clear hW3 HN HB d0 d9 dl dm
  have hsz : base ≤ W3.heap.size := Nat.le_trans (Nat.le_trans (Nat.le_trans hbase HN1.out.2.1.size) HN2.out.2.1.size) HN3.out.2.1.size
  have d0 := HN3.out.1.wb.cell 0
  have d8 := HN3.out.1.rb.cell 8
  simp only [List.getElem?_toArray, List.getElem?_cons_zero, List.getElem?_cons_succ] at d0 d8
  have dz := HN3.out.1.rb.frozen
  have dl := HN3.out.1.wb.lt
  have dm := HN3.out.1.rb.lt
  have HS := Lib.hid hsz
  clear hsz
  have hmk := made_ks W3.drew
  go_wp2_with fail
  go_region
  have hal : Below W3.heap.size W3 (W3.alloc (Obj.cells (zeroK ++ (zeroK ++ zeroK)).toArray 24)) := below_alloc _ _
  have hn := (HN3.out.1.below hal).new_gives (v := .slice (some ⟨W3.heap.size, 0, none⟩) 3 3) (gs := [Scu.kept0, Scu.kept0, Scu.kept0]) ⟨_, ownKs_zero (Blk.new W3 _ _) HS.out⟩
  have hs4 : Same [9, 31] 0 W3 ((W3.alloc (Obj.cells (zeroK ++ (zeroK ++ zeroK)).toArray 24)).setCell ⟨gr, 8, none⟩ (.slice (some ⟨W3.heap.size, 0, none⟩) 3 3)) := (Same.below hal).trans (Same.set_ (HN3.out.1.below hal).rb (Nat.zero_le _) (by decide) 8 _)
  have hn := And.intro hn hs4
  rw [World.setCell_alloc_past (w := W3) (n := gr) (i := 8) (hn := dm)] at hn
  have HN := Lib.hid hn
  clear hn d0 d8 dz dl dm hmk
  go_wp2
  go_end0
  refine ⟨rfl, ⟨_, HN.out.1.1.below (Below.refl _ _).drew⟩, (((HN1.out.2.1.trans HN2.out.2.1).trans HN3.out.2.1).trans ((hal.mono HS.out).trans HN.out.1.2)).drew, ?_⟩
  exact (((HN1.out.2.2.trans HN2.out.2.2).trans HN3.out.2.2).trans HN.out.2).trans (Same.drew _)
theorem fresh_e (w : World) (base gw gr : Nat) (r : Scu.Replica) (ms : List Scu.Message) (hW : WorkE w base gw gr r ms) (hbase : base ≤ w.heap.size) (h3 : Rep3 r) :
    Calls Try.prog 26 #[.pointer (some ⟨gw, 0, none⟩)] w fun e w' => e = .returned (.tuple #[]) ∧ WorkE w' base gw gr (Scu.fresh r) ms ∧ Below base w w' := by
  obtain ⟨lu, hv, wv, gv, nv, ov, css, hW⟩ := hW
  refine (fresh_c w base gw gr r lu hv wv gv nv ov ms css hW hbase h3.1 h3.2.1 h3.2.2.2.1).mono ?_
  rintro e w' ⟨h1, ⟨gv', h2⟩, h3, _⟩
  exact ⟨h1, h2.e, h3⟩
theorem fresh3 {r : Scu.Replica} (h : Rep3 r) : Rep3 (Scu.fresh r) := ⟨rfl, rfl, rfl, rfl, h.2.2.2.2⟩
end Go.Proofs.Ytlaibljdlpmbfaa
/- Walks: work.want. -/
namespace Go.Proofs.Ytlaibljdlpmbfaa
open Go.RowKit
set_option maxHeartbeats 2000000
set_option maxRecDepth 100000

theorem want_x (w : World) (base gw gr : Nat) (r : Scu.Replica) (v : Int) (lu hv wv gv nv ov : Value) (ms : List Scu.Message) (css : List (List Value)) (hW : Work w base gw gr r lu hv wv gv nv ov ms css) (hbase : base ≤ w.heap.size) (h3 : Rep3 r) (hm : (ms.length + 4) * 80 ≤ R47) :
    Calls Try.prog 30 #[.pointer (some ⟨gw, 0, none⟩), .int .i64 v] w fun e w' => e = .returned (.tuple #[]) ∧ (∃ lu' hv' wv' gv' nv' ov' css', Work w' base gw gr (Scu.want r v).1 lu' hv' wv' gv' nv' ov' (ms ++ (Scu.want r v).2) css' ∧ Far w w' ov ov') ∧ Below base w w' := by
  have hN := (hW.set_view v).set_calm false
  have hL := (hW.low 1 (.int .i64 v)).trans ((hW.set_view v).low 3 (.bool false))
  have hF : Far w ((w.setCell ⟨gr, 1, none⟩ (.int .i64 v)).setCell ⟨gr, 3, none⟩ (.bool false)) ov ov := Far.same (Ts := [31]) (by simp) ((Same.set_ hW.rb (Nat.zero_le _) (by decide) 1 _).trans (Same.set_ (hW.set_view v).rb (Nat.zero_le _) (by decide) 3 _))
  have HN := Lib.hid (And.intro hN (And.intro hL hF))
  have H3 := Lib.hid h3
  have HM := Lib.hid hm
  have d0 := hW.wb.cell 0
  have d1 := hW.rb.cell 1
  have d3 := hW.rb.cell 3
  simp only [List.getElem?_toArray, List.getElem?_cons_zero, List.getElem?_cons_succ] at d0 d1 d3
  have dz := hW.rb.frozen
  have dl := hW.wb.lt
  have dm := hW.rb.lt
  clear hW hN hL h3 hm hF
  go_enter Try.func30, Try.ntmps30
  go_wp2_with fail
  go_region
  obtain ⟨W1, hW1⟩ : ∃ W, W = ((w.setCell ⟨gr, 1, none⟩ (.int .i64 v)).setCell ⟨gr, 3, none⟩ (.bool false)).drew := ⟨_, rfl⟩
  rw [← hW1]
  have HN1 := Lib.hid (show Work W1 base gw gr { r with kept := { r.kept with view := v, calm := false } } lu hv wv gv nv ov ms css ∧ Below base w W1 ∧ Far w W1 ov ov from by rw [hW1]; exact ⟨HN.out.1.below (Below.refl _ _).drew, HN.out.2.1.drew, HN.out.2.2.trans (Far.below (Below.refl _ _).drew)⟩)
  have hs1 : base ≤ W1.heap.size := Nat.le_trans hbase HN1.out.2.1.size
  clear hW1 HN d0 d1 d3 dz dl dm
  go_wp2_with fail
  refine (fresh_c W1 base gw gr _ lu hv wv gv nv ov ms css HN1.out.1 hs1 H3.out.1 H3.out.2.1 H3.out.2.2.2.1).mono ?_; rintro en w2 ⟨rfl, ⟨gv2, hW2⟩, hb2, hsm2⟩
  obtain ⟨g2, c2, rfl⟩ := ones3f hW2.own.own.wants rfl
  have hF2 := HN1.out.2.2.trans (Far.same (by simp) hsm2 : Far W1 w2 ov ov)
  obtain ⟨hb, ⟨cur, hB⟩, hc, hf, hcw⟩ := ones3' hW2.own.own.wants rfl
  have hme0 : 0 ≤ r.me := H3.out.2.2.2.2.1
  have hme3 : r.me < 3 := H3.out.2.2.2.2.2
  have hN := hW2.put_wants hB hb r.me.toNat true
  have hF3 : Far w (w2.setCell ⟨g2, r.me.toNat, none⟩ (.bool true)) ov ov := hF2.trans (Far.same (Ts := [31]) (by simp) (Same.set_ hB (Nat.zero_le _) (by decide) _ _))
  have d0 := hW2.wb.cell 0
  have d3 := hW2.rb.cell 3
  have d7 := hW2.rb.cell 7
  have dme : w2.cell? ⟨gr, 0, none⟩ = some (.int .i64 r.me) := hW2.rb.cell 0
  simp only [List.getElem?_toArray, List.getElem?_cons_zero, List.getElem?_cons_succ] at d0 d3 d7
  have dz := hf r.me.toNat
  obtain ⟨u, hu⟩ := Option.isSome_iff_exists.1 (hc r.me.toNat (by omega))
  have dl := hW2.wb.lt
  have dm := hW2.rb.lt
  have hs2 : base ≤ w2.heap.size := Nat.le_trans hs1 hb2.size
  have HN2 := Lib.hid (And.intro hN (And.intro (HN1.out.2.1.trans hb2) (And.intro hs2 hF3)))
  clear hW2 hB hc hf hcw hN hb2 hb hs1 hs2 hsm2 hF2 hF3
  go_wp2_with fail
  go_region
  obtain ⟨W3, hW3⟩ : ∃ W, W = (w2.setCell ⟨g2, r.me.toNat, none⟩ (.bool true)).drew := ⟨_, rfl⟩
  rw [← hW3]
  have HN3 := Lib.hid (show Work W3 base gw gr (Scu.want r v).1 lu hv (.slice (some ⟨g2, 0, none⟩) 3 c2) gv2 nv ov ms css ∧ Below base w W3 ∧ Far w W3 ov ov from by rw [hW3]; exact ⟨HN2.out.1.1.below (Below.refl _ _).drew, (HN2.out.2.1.trans HN2.out.1.2.1).drew, HN2.out.2.2.2.trans (Far.below (Below.refl _ _).drew)⟩)
  have hs3 : base ≤ W3.heap.size := Nat.le_trans hbase HN3.out.2.1.size
  clear hW3 HN2 d0 d3 d7 dme dz dl dm hu
  go_wp2_with fail
  refine (all_x 3 W3 base gw gr _ lu hv (.slice (some ⟨g2, 0, none⟩) 3 c2) gv2 nv ov ms css HN3.out.1 hs3 HM.out).mono ?_; rintro en w4 ⟨rfl, ⟨ov4, css4, hW4, hF4⟩, hb4⟩
  have HN4 := Lib.hid (And.intro hW4 (And.intro (HN3.out.2.2.trans hF4) (HN3.out.2.1.trans hb4)))
  clear hW4 hb4 hF4
  go_wp2
  go_end0
  exact ⟨rfl, ⟨_, _, _, _, _, _, _, HN4.out.1, HN4.out.2.1⟩, HN4.out.2.2⟩
theorem want_e (w : World) (base gw gr : Nat) (r : Scu.Replica) (v : Int) (ms : List Scu.Message) (hW : WorkE w base gw gr r ms) (hbase : base ≤ w.heap.size) (h3 : Rep3 r) (hm : (ms.length + 4) * 80 ≤ R47) :
    Calls Try.prog 30 #[.pointer (some ⟨gw, 0, none⟩), .int .i64 v] w fun e w' => e = .returned (.tuple #[]) ∧ WorkE w' base gw gr (Scu.want r v).1 (ms ++ (Scu.want r v).2) ∧ Below base w w' := by
  obtain ⟨lu, hv, wv, gv, nv, ov, css, hW⟩ := hW
  refine (want_x w base gw gr r v lu hv wv gv nv ov ms css hW hbase h3 hm).mono ?_
  rintro e w' ⟨h1, ⟨_, _, _, _, _, _, _, h2, _⟩, h3⟩
  exact ⟨h1, h2.e, h3⟩
end Go.Proofs.Ytlaibljdlpmbfaa
/- Walks: replica.Tick. -/
namespace Go.Proofs.Ytlaibljdlpmbfaa
open Go.RowKit
set_option maxHeartbeats 2000000
set_option maxRecDepth 100000

/-- What a replica answers: itself then, what it sends, and a code. -/
def TellRet (w : World) (r : Scu.Replica) (ms : List Scu.Message) (c : Int) (e : Ending) : Prop := ∃ lu hv wv gv nv ov, e = .returned (.tuple #[.agg #[.int .i64 r.me, .int .i64 r.kept.view, .int .i64 r.kept.normal, .bool r.kept.calm, lu, .int .i64 r.kept.commit, hv, wv, gv, nv], ov, .int .i64 c]) ∧ IsRep w 0 lu hv wv gv nv r ∧ IsRow 31 8 80 MsgE w 0 ov ms
theorem tell_zero (w : World) (c : Int) : TellRet w Scu.replica0 [] c (.returned (.tuple #[.agg #[.int .i64 0, .int .i64 0, .int .i64 0, .bool false, .slice none 0 0, .int .i64 0, .slice none 0 0, .slice none 0 0, .slice none 0 0, .slice none 0 0], .slice none 0 0, .int .i64 c])) := by
  exact ⟨_, _, _, _, _, _, rfl, ⟨IsStrs.nil_, ⟨⟨none, 0, rfl, Nat.le_refl _, Rd.nil⟩, by simp [Scu.replica0, R47]⟩, ⟨⟨none, 0, rfl, Nat.le_refl _, Rd.nil⟩, by simp [Scu.replica0, R47]⟩, IsRow.nil_, ⟨⟨none, 0, rfl, Nat.le_refl _, Rd.nil⟩, by simp [Scu.replica0, R47]⟩⟩, IsRow.nil_⟩
/-- .. and the messages lie in memory from b on. -/
def TellN (b : Nat) (w : World) (r : Scu.Replica) (ms : List Scu.Message) (c : Int) (e : Ending) : Prop := ∃ lu hv wv gv nv ov, e = .returned (.tuple #[.agg #[.int .i64 r.me, .int .i64 r.kept.view, .int .i64 r.kept.normal, .bool r.kept.calm, lu, .int .i64 r.kept.commit, hv, wv, gv, nv], ov, .int .i64 c]) ∧ IsRep w 0 lu hv wv gv nv r ∧ IsRow 31 8 80 MsgE w 0 ov ms ∧ ∀ g, ov.ownBlock = some g → b ≤ g
theorem TellN.ret {b : Nat} {w : World} {r : Scu.Replica} {ms : List Scu.Message} {c : Int} {e : Ending} (h : TellN b w r ms c e) : TellRet w r ms c e := let ⟨a1, a2, a3, a4, a5, a6, h1, h2, h3, _⟩ := h; ⟨a1, a2, a3, a4, a5, a6, h1, h2, h3⟩
theorem tell_zeroN (b : Nat) (w : World) (c : Int) : TellN b w Scu.replica0 [] c (.returned (.tuple #[.agg #[.int .i64 0, .int .i64 0, .int .i64 0, .bool false, .slice none 0 0, .int .i64 0, .slice none 0 0, .slice none 0 0, .slice none 0 0, .slice none 0 0], .slice none 0 0, .int .i64 c])) := by
  obtain ⟨a1, a2, a3, a4, a5, a6, h1, h2, h3⟩ := tell_zero w c
  refine ⟨a1, a2, a3, a4, a5, a6, h1, h2, h3, fun g hg => ?_⟩
  simp only [Ending.returned.injEq, Value.tuple.injEq, Array.mk.injEq, List.cons.injEq] at h1
  obtain ⟨_, h1, _⟩ := h1
  subst h1
  cases hg
theorem leads_a (lv hv wv gv nv : Value) (r : Scu.Replica) (h0 : 0 ≤ r.kept.view) (w : World) (b : Bool) (hb : Scu.leads r = b) :
    Calls Try.prog 28 #[.agg #[.int .i64 r.me, .int .i64 r.kept.view, .int .i64 r.kept.normal, .bool r.kept.calm, lv, .int .i64 r.kept.commit, hv, wv, gv, nv]] w fun e w' => e = .returned (.bool b) ∧ Below w.heap.size w w' := by
  subst hb
  exact leads_c lv hv wv gv nv r h0 w
theorem rep_three {r : Scu.Replica} (h : Scu.repFault r = 0) : Rep3 r := by
  obtain ⟨h1, h2, h3, h4, h5, _⟩ := Scu.repFault_ok h
  exact ⟨h2, h3, h4, h5, h1.1, h1.2⟩
theorem rep_view {r : Scu.Replica} (h : Scu.repFault r = 0) : 0 ≤ r.kept.view := (Scu.keptFault_ok (Scu.repFault_ok h).2.2.2.2.2.2.2).1
end Go.Proofs.Ytlaibljdlpmbfaa
/- Walks: ref.ledBy, ref.TickedOf. -/
namespace Go.Proofs.Ytlaibljdlpmbfaa
set_option linter.unusedVariables false
set_option linter.unusedSimpArgs false
open Go.RowKit
set_option maxHeartbeats 4000000
set_option maxRecDepth 100000

theorem ledBy_c (r : Scu.Replica) (lv hv wv gv nv : Value) (w : World) (B : Nat) (hBw : B ≤ w.heap.size) (hx : IsStrs w B lv r.kept.log) :
    Calls Try.prog 38 #[.agg #[.int .i64 r.me, .int .i64 r.kept.view, .int .i64 r.kept.normal, .bool r.kept.calm, lv, .int .i64 r.kept.commit, hv, wv, gv, nv]] w fun e w' => (∃ ov css, e = .returned ov ∧ OwnMs w' w.heap.size ov (Scu.leadOn r) css) ∧ Below w.heap.size w w' := by
  obtain ⟨A, n, c, rfl⟩ := hx.form
  have HX := Lib.hid hx
  clear hx
  go_enter Try.func38, Try.ntmps38
  go_wp2_with fail
  have h0 := below_alloc w (Obj.cells #[.int .i64 r.me, .int .i64 r.kept.view, .int .i64 r.kept.normal, .bool r.kept.calm, .slice A n c, .int .i64 r.kept.commit, hv, wv, gv, nv] 29)
  refine (toAll_c r.me r.kept.view r.kept.normal r.kept.calm (.slice A n c) r.kept.commit hv wv gv nv (.slice A n c) (leadMsg r) _ B (Nat.le_trans hBw h0.size) (HX.out.below h0)).mono ?_; rintro en w1 ⟨⟨ov, css, rfl, ho⟩, h1⟩
  obtain ⟨Ao, co, rfl⟩ := ho.form
  have HO := Lib.hid (And.intro (ho.base_ h0.size) (h0.trans (h1.mono h0.size)))
  clear ho h1 h0
  go_wp2
  go_ret
  exact ⟨⟨_, css, rfl, HO.out.1⟩, HO.out.2⟩
theorem ledBy_a (A0 : Option Addr) (n0 c0 : Nat) (A1 : Option Addr) (c1 : Nat) (A2 : Option Addr) (c2 : Nat) (A3 : Option Addr) (c3 : Nat) (A4 : Option Addr) (c4 : Nat) (r : Scu.Replica) (w : World) (B : Nat) (hBw : B ≤ w.heap.size) (hx : IsStrs w B (.slice A0 n0 c0) r.kept.log) (ms : List Scu.Message) (hms : Scu.leadOn r = ms) :
    Calls Try.prog 38 #[.agg #[.int .i64 r.me, .int .i64 r.kept.view, .int .i64 r.kept.normal, .bool r.kept.calm, .slice A0 n0 c0, .int .i64 r.kept.commit, .slice A1 r.have_.length c1, .slice A2 r.wants.length c2, .slice A3 r.gives.length c3, .slice A4 r.given.length c4]] w fun e w' => (∃ Ao co css, e = .returned (.slice Ao ms.length co) ∧ OwnMs w' w.heap.size (.slice Ao ms.length co) ms css) ∧ Below w.heap.size w w' := by
  subst hms
  refine (ledBy_c r _ _ _ _ _ w B hBw hx).mono ?_
  rintro e w' ⟨⟨ov, css, rfl, ho⟩, h⟩
  obtain ⟨Ao, co, rfl⟩ := ho.form
  exact ⟨⟨_, _, _, rfl, ho⟩, h⟩
theorem cell_far10 {w : World} {g : Nat} {q : Addr} (h : q.block ≠ g) {x0 x1 x2 x3 x4 x5 x6 x7 x8 x9 : Value} :
    ((((((((((w.setCell ⟨g, 0, none⟩ x0).setCell ⟨g, 1, none⟩ x1).setCell ⟨g, 2, none⟩ x2).setCell ⟨g, 3, none⟩ x3).setCell ⟨g, 4, none⟩ x4).setCell ⟨g, 5, none⟩ x5).setCell ⟨g, 6, none⟩ x6).setCell ⟨g, 7, none⟩ x7).setCell ⟨g, 8, none⟩ x8).setCell ⟨g, 9, none⟩ x9).cell? q = w.cell? q := by
  rw [cell_far h, cell_far h, cell_far h, cell_far h, cell_far h, cell_far h, cell_far h, cell_far h, cell_far h, cell_far h]
theorem repFaultRef_a (lv hv0 wv gv nv : Value) (r : Scu.Replica) (w : World) (B : Nat) (hv : IsRep w B lv hv0 wv gv nv r) (f : Int) (h : Scu.repFault r = f) :
    Calls Try.prog 16 #[.agg #[.int .i64 r.me, .int .i64 r.kept.view, .int .i64 r.kept.normal, .bool r.kept.calm, lv, .int .i64 r.kept.commit, hv0, wv, gv, nv]] w fun e w' => e = .returned (.int .i64 f) ∧ Below w.heap.size w w' := by
  have := replicaFault_c lv hv0 wv gv nv r w B hv
  rw [h] at this
  exact this
theorem leadsNow_a (lv hv wv gv nv : Value) (r : Scu.Replica) (h0 : 0 ≤ r.kept.view) (w : World) (b : Bool) (hb : Scu.leads r = b) :
    Calls Try.prog 37 #[.agg #[.int .i64 r.me, .int .i64 r.kept.view, .int .i64 r.kept.normal, .bool r.kept.calm, lv, .int .i64 r.kept.commit, hv, wv, gv, nv]] w fun e w' => e = .returned (.bool b) ∧ Below w.heap.size w w' := by
  subst hb
  exact leadsNow_c lv hv wv gv nv r h0 w
/-- Copied, and led or not: the copy's box is the last block. -/
theorem OwnRep.put_wants {w : World} {base g n c : Nat} {lv hv gv nv : Value} {r : Scu.Replica} (h : OwnRep w base lv hv (.slice (some ⟨g, 0, none⟩) n c) gv nv r) {cur : Array Value} (hB : Blk w g 4 cur) (j : Nat) (b : Bool) :
    OwnRep (w.setCell ⟨g, j, none⟩ (.bool b)) base lv hv (.slice (some ⟨g, 0, none⟩) n c) gv nv { r with wants := r.wants.set j b } := by
  have hs : Same [9, 3, 24] 0 w (w.setCell ⟨g, j, none⟩ (.bool b)) := Same.set_ hB (Nat.zero_le _) (by decide) j _
  obtain ⟨css', hgv⟩ := h.giv
  exact ⟨⟨h.own.log.same (hs.mono (by simp) (Nat.le_refl _)), h.own.have_.same (hs.mono (by simp) (Nat.le_refl _)), h.own.wants.put j b, h.own.given.far (h.own.apart g rfl) _, h.own.apart⟩, css', hgv.same (hs.mono (by simp) (Nat.le_refl _))⟩
theorem ownMs_one {w : World} {base g : Nat} {cs : Array Value} (h : Blk w g 31 cs) {m : Scu.Message} (hc : cs = (msgV m (.slice none 0 0)).toArray) (hl : m.log = []) (hb : base ≤ g) : OwnMs w base (.slice (some ⟨g, 0, none⟩) 1 1) [m] [msgV m (.slice none 0 0)] := by
  subst hc
  refine ⟨rfl, ?_, own_blkm (size := 8) (n := 1) (xs := [msgV m (.slice none 0 0)].flatten) (by simpa using h) hb rfl (by decide), ?_, by simp [R47]⟩
  · intro cs hcs
    rw [List.mem_singleton] at hcs
    subst hcs
    rfl
  · intro j cs x h1 h2
    rcases j with _ | j
    · simp at h1 h2
      subst h1 h2
      exact ⟨_, rfl, by rw [hl]; exact IsStrs.nil_⟩
    · simp at h1
end Go.Proofs.Ytlaibljdlpmbfaa
/- replica.New, walked. -/
namespace Go.Proofs.Ytlaibljdlpmbfaa
open Go.RowKit
set_option maxHeartbeats 2000000
set_option maxRecDepth 100000

def NewRet (w : World) (r : Scu.Replica) (c : Int) (e : Ending) : Prop := ∃ lu hv wv gv nv, e = .returned (.tuple #[.agg #[.int .i64 r.me, .int .i64 r.kept.view, .int .i64 r.kept.normal, .bool r.kept.calm, lu, .int .i64 r.kept.commit, hv, wv, gv, nv], .int .i64 c]) ∧ IsRep w 0 lu hv wv gv nv r
theorem new_zero (w : World) (c : Int) : NewRet w Scu.replica0 c (.returned (.tuple #[.agg #[.int .i64 0, .int .i64 0, .int .i64 0, .bool false, .slice none 0 0, .int .i64 0, .slice none 0 0, .slice none 0 0, .slice none 0 0, .slice none 0 0], .int .i64 c])) :=
  ⟨_, _, _, _, _, rfl, IsStrs.nil_, ⟨⟨none, 0, rfl, Nat.le_refl _, Rd.nil⟩, by simp [Scu.replica0, R47]⟩, ⟨⟨none, 0, rfl, Nat.le_refl _, Rd.nil⟩, by simp [Scu.replica0, R47]⟩, IsRow.nil_, ⟨⟨none, 0, rfl, Nat.le_refl _, Rd.nil⟩, by simp [Scu.replica0, R47]⟩⟩
section
variable {me : Int} {k : Scu.Kept}
theorem nw1 (h : me < 0 ∨ 3 ≤ me) : Scu.repNew me k = (Scu.replica0, 2) := if_pos h
theorem nw2 (h : ¬ (me < 0 ∨ 3 ≤ me)) (hk : Scu.keptFault k ≠ 0) : Scu.repNew me k = (Scu.replica0, Scu.keptFault k) := by unfold Scu.repNew; rw [if_neg h, if_pos hk]
theorem nw3 (h : ¬ (me < 0 ∨ 3 ≤ me)) (hk : ¬ Scu.keptFault k ≠ 0) : Scu.repNew me k = (⟨me, k, [0, 0, 0], [false, false, false], [Scu.kept0, Scu.kept0, Scu.kept0], [false, false, false]⟩, 0) := by unfold Scu.repNew; rw [if_neg h, if_neg hk]
end
theorem stageCheck_a (lv : Value) (k : Scu.Kept) (w : World) (B : Nat) (hv : IsStrs w B lv k.log) (f : Int) (h : Scu.keptFault k = f) :
    Calls Try.prog 24 #[.agg #[.int .i64 k.view, .int .i64 k.normal, .bool k.calm, lv, .int .i64 k.commit]] w fun e w' => e = .returned (.int .i64 f) ∧ Below w.heap.size w w' := by
  have := stageCheck_c lv k w B hv
  rw [h] at this
  exact this
structure NewI (me : Int) (k : Scu.Kept) (b : Nat) (L : Array Bool) (x20 x21 x22 x23 x24 x25 x26 x27 kv : Value) (W : World) : Prop where
  f0 : Dn L 0 → x20 = .int .i64 me
  f1 : Dn L 1 → x21 = kv
  f2 : Dn L 2 → ∃ lu, x22 = .agg #[.int .i64 k.view, .int .i64 k.normal, .bool k.calm, lu, .int .i64 k.commit] ∧ IsStrs W 0 lu k.log
  f3 : Dn L 3 → IsOnes 3 8 vInt W 0 x23 [0, 0, 0]
  f4 : Dn L 4 → IsOnes 4 1 Value.bool W 0 x24 [false, false, false]
  f5 : Dn L 5 → IsRow 24 5 56 KeptEl W 0 x25 [Scu.kept0, Scu.kept0, Scu.kept0]
  f6 : Dn L 6 → IsOnes 4 1 Value.bool W 0 x26 [false, false, false]
  f7 : Dn L 7 → ∃ lu hv wv gv nv, x27 = .agg #[.int .i64 me, .int .i64 k.view, .int .i64 k.normal, .bool k.calm, lu, .int .i64 k.commit, hv, wv, gv, nv] ∧ IsRep W 0 lu hv wv gv nv ⟨me, k, [0, 0, 0], [false, false, false], [Scu.kept0, Scu.kept0, Scu.kept0], [false, false, false]⟩
  f8 : Dn L 8 → ∃ lu hv wv gv nv, Blk W b 29 #[.int .i64 me, .int .i64 k.view, .int .i64 k.normal, .bool k.calm, lu, .int .i64 k.commit, hv, wv, gv, nv] ∧ IsRep W 0 lu hv wv gv nv ⟨me, k, [0, 0, 0], [false, false, false], [Scu.kept0, Scu.kept0, Scu.kept0], [false, false, false]⟩
  res : ¬ Dn L 8 → Blk W b 29 #[.int .i64 0, .int .i64 0, .int .i64 0, .bool false, .slice none 0 0, .int .i64 0, .slice none 0 0, .slice none 0 0, .slice none 0 0, .slice none 0 0]
theorem NewI.below {me : Int} {k : Scu.Kept} {b : Nat} {L : Array Bool} {x20 x21 x22 x23 x24 x25 x26 x27 kv : Value} {W W' : World} (h : NewI me k b L x20 x21 x22 x23 x24 x25 x26 x27 kv W) (hb : Below W.heap.size W W') : NewI me k b L x20 x21 x22 x23 x24 x25 x26 x27 kv W' :=
  ⟨h.f0, h.f1, fun d => let ⟨lu, e, g⟩ := h.f2 d; ⟨lu, e, g.below hb⟩, fun d => (h.f3 d).below hb, fun d => (h.f4 d).below hb,
    fun d => (h.f5 d).same (Ts := [9, 24]) (by simp) (Same.below hb) (fun _ _ hk => hk.same (Ts := [9]) (by simp) (Same.below hb)), fun d => (h.f6 d).below hb,
    fun d => let ⟨a1, a2, a3, a4, a5, e, g⟩ := h.f7 d; ⟨a1, a2, a3, a4, a5, e, g.below hb⟩, fun d => let ⟨a1, a2, a3, a4, a5, e, g⟩ := h.f8 d; ⟨a1, a2, a3, a4, a5, e.same hb, g.below hb⟩, fun d => (h.res d).same hb⟩
theorem dn_new {L : Array Bool} {i k : Nat} (h : ¬ Dn (L.setIfInBounds i true) k) : ¬ Dn L k := fun hd => h (by
  unfold Dn at *
  by_cases e : i = k
  · subst e
    rw [Array.getD_eq_getD_getElem?] at hd ⊢
    rcases Nat.lt_or_ge i L.size with hl | hl
    · simp [hl]
    · rw [Array.getElem?_eq_none hl] at hd; cases hd
  · rw [Array.getD_eq_getD_getElem?, Array.getElem?_setIfInBounds_ne e, ← Array.getD_eq_getD_getElem?]
    exact hd)
theorem dn_of {L : Array Bool} {j : Nat} (h : L[j]?.getD false = true) : Dn L j := by
  unfold Dn
  rw [Array.getD_eq_getD_getElem?]
  exact h
theorem dn_self {L : Array Bool} {i : Nat} (h : i < L.size) : Dn (L.setIfInBounds i true) i := by
  unfold Dn
  rw [Array.getD_eq_getD_getElem?]
  simp [h]
theorem dn_not {L : Array Bool} {i : Nat} (h : L.getD i true = false) : ¬ Dn L i := fun hd => by
  unfold Dn at hd
  rw [Array.getD_eq_getD_getElem?] at h hd
  cases e : L[i]? with
  | none => rw [e] at hd; cases hd
  | some b => rw [e] at h hd; simp at h hd; rw [h] at hd; cases hd
theorem blk_same {W W' : World} {g : Nat} {t : TypeId} {cs : Array Value} {Ts : List TypeId} (h : Blk W g t cs) (hs : Same Ts 0 W W') (ht : t ∈ Ts) : Blk W' g t cs := (hs.keep g h.lt (.inr ⟨_, _, _, ht, h⟩)).trans h
theorem NewI.store {me : Int} {k : Scu.Kept} {b : Nat} {L : Array Bool} {x20 x21 x22 x23 x24 x25 x26 x27 kv lu hv wv gv nv : Value} {w : World} (h : NewI me k b L x20 x21 x22 x23 x24 x25 x26 x27 kv w) (hl : 8 < L.size) (hz : Blk w b 29 #[.int .i64 0, .int .i64 0, .int .i64 0, .bool false, .slice none 0 0, .int .i64 0, .slice none 0 0, .slice none 0 0, .slice none 0 0, .slice none 0 0])
    (hr : IsRep w 0 lu hv wv gv nv ⟨me, k, [0, 0, 0], [false, false, false], [Scu.kept0, Scu.kept0, Scu.kept0], [false, false, false]⟩) :
    NewI me k b (L.setIfInBounds 8 true) x20 x21 x22 x23 x24 x25 x26 x27 kv ((((((((((w.setCell ⟨b, 0, none⟩ (.int .i64 me)).setCell ⟨b, 1, none⟩ (.int .i64 k.view)).setCell ⟨b, 2, none⟩ (.int .i64 k.normal)).setCell ⟨b, 3, none⟩ (.bool k.calm)).setCell ⟨b, 4, none⟩ lu).setCell ⟨b, 5, none⟩ (.int .i64 k.commit)).setCell ⟨b, 6, none⟩ hv).setCell ⟨b, 7, none⟩ wv).setCell ⟨b, 8, none⟩ gv).setCell ⟨b, 9, none⟩ nv) := by
  have hs := Same.sets10 (Ts := [9, 3, 4, 24]) (B := 0) (a0 := .int .i64 me) (a1 := .int .i64 k.view) (a2 := .int .i64 k.normal) (a3 := .bool k.calm) (a4 := lu) (a5 := .int .i64 k.commit) (a6 := hv) (a7 := wv) (a8 := gv) (a9 := nv) hz (Nat.zero_le _) (by decide)
  exact ⟨fun d => h.f0 (dn_old d (by decide)), fun d => h.f1 (dn_old d (by decide)), fun d => let ⟨l, e, g⟩ := h.f2 (dn_old d (by decide)); ⟨l, e, g.same (by simp) hs⟩, fun d => (h.f3 (dn_old d (by decide))).same (by simp) hs, fun d => (h.f4 (dn_old d (by decide))).same (by simp) hs,
    fun d => (h.f5 (dn_old d (by decide))).same (by simp) hs (fun _ _ hk => hk.same (by simp) hs), fun d => (h.f6 (dn_old d (by decide))).same (by simp) hs, fun d => let ⟨a1, a2, a3, a4, a5, e, g⟩ := h.f7 (dn_old d (by decide)); ⟨a1, a2, a3, a4, a5, e, g.same hs⟩,
    fun _ => ⟨_, _, _, _, _, blk_set10 hz, hr.same hs⟩, fun d => (d (dn_self hl)).elim⟩
theorem made_ints (w : World) : (Instr.makeSlice 25 (.int .i64 3) (.int .i64 3)).run Try.prog w = .ok (.slice (some ⟨w.heap.size, 0, none⟩) 3 3) (w.alloc (.cells #[.int .i64 0, .int .i64 0, .int .i64 0] 3)) := by kernel_rfl
theorem made_bools (w : World) : (Instr.makeSlice 26 (.int .i64 3) (.int .i64 3)).run Try.prog w = .ok (.slice (some ⟨w.heap.size, 0, none⟩) 3 3) (w.alloc (.cells #[.bool false, .bool false, .bool false] 4)) := by kernel_rfl
theorem made_kepts (w : World) : (Instr.makeSlice 27 (.int .i64 3) (.int .i64 3)).run Try.prog w = .ok (.slice (some ⟨w.heap.size, 0, none⟩) 3 3) (w.alloc (.cells #[.int .i64 0, .int .i64 0, .bool false, .slice none 0 0, .int .i64 0, .int .i64 0, .int .i64 0, .bool false, .slice none 0 0, .int .i64 0, .int .i64 0, .int .i64 0, .bool false, .slice none 0 0, .int .i64 0] 24)) := by kernel_rfl
theorem ones_blk {α : Type} {t : TypeId} {bytes : Nat} {f : α → Value} {w : World} {g : Nat} {xs : List α} (h : Blk w g t (xs.map f).toArray) (h1 : xs.length * bytes ≤ R47) : IsOnes t bytes f w 0 (.slice (some ⟨g, 0, none⟩) xs.length xs.length) xs :=
  ⟨⟨_, _, rfl, Nat.le_refl _, .inr ⟨g, 0, rfl, h.lt, .inr ⟨_, _, h⟩, fun j u hj => by
    rw [h.cell]
    simpa using hj⟩⟩, h1⟩
theorem kepts_blk {w : World} {g : Nat} (h : Blk w g 24 #[.int .i64 0, .int .i64 0, .bool false, .slice none 0 0, .int .i64 0, .int .i64 0, .int .i64 0, .bool false, .slice none 0 0, .int .i64 0, .int .i64 0, .int .i64 0, .bool false, .slice none 0 0, .int .i64 0]) :
    IsRow 24 5 56 KeptEl w 0 (.slice (some ⟨g, 0, none⟩) 3 3) [Scu.kept0, Scu.kept0, Scu.kept0] :=
  ⟨⟨some ⟨g, 0, none⟩, 3, [keptV Scu.kept0 (.slice none 0 0), keptV Scu.kept0 (.slice none 0 0), keptV Scu.kept0 (.slice none 0 0)], rfl, Nat.le_refl _, rfl, (fun cs hc => by
      simp only [List.mem_cons, List.not_mem_nil, or_false] at hc
      rcases hc with rfl | rfl | rfl <;> rfl), .inr ⟨g, 0, rfl, h.lt, .inr ⟨_, _, h⟩, fun j u hj => by
    rw [h.cell]
    simpa [keptV, Scu.kept0] using hj⟩, fun j cs x hc hx => by
      rcases j with _ | _ | _ | j <;> simp only [List.getElem?_cons_zero, List.getElem?_cons_succ, List.getElem?_nil, Option.some.injEq, reduceCtorEq] at hc hx <;> (subst hc; subst hx; exact ⟨_, rfl, IsStrs.nil_⟩)⟩, by simp [R47]⟩
end Go.Proofs.Ytlaibljdlpmbfaa
/- ref.ReplicaOf, walked; the law ReplicaNews. -/
namespace Go.Proofs.Ytlaibljdlpmbfaa
open Go.RowKit
set_option maxHeartbeats 2000000
set_option maxRecDepth 100000

theorem forg_step {X : World} {g i : Nat} {cs : Array Value} (h : Blk X g 29 cs) (u : Value) (o : Obj) :
    Same [9, 3, 4, 24, 31] 0 X ((X.setCell ⟨g, i, none⟩ u).alloc o) ∧ ∀ B, B ≤ g → Below B X ((X.setCell ⟨g, i, none⟩ u).alloc o) :=
  ⟨(Same.set_ h (Nat.zero_le _) (by decide) i u).trans (Same.alloc _ _), fun B hB => ((Below.refl B X).setCell (p := ⟨g, i, none⟩) hB u).alloc (by have := h.lt; simp [World.setCell]; omega) o⟩
/-- The four rows that are made anew. -/
def ForgO (w w' : World) (hv wv gv nv : Value) : Prop := ∃ a b c d, hv = .slice (some ⟨a, 0, none⟩) 3 3 ∧ wv = .slice (some ⟨b, 0, none⟩) 3 3 ∧ gv = .slice (some ⟨c, 0, none⟩) 3 3 ∧ nv = .slice (some ⟨d, 0, none⟩) 3 3 ∧ w.heap.size ≤ a ∧ w.heap.size ≤ b ∧ w.heap.size ≤ c ∧ w.heap.size ≤ d ∧ b ≠ d ∧
  Blk w' a 3 #[.int .i64 0, .int .i64 0, .int .i64 0] ∧ Blk w' b 4 #[.bool false, .bool false, .bool false] ∧
  Blk w' c 24 #[.int .i64 0, .int .i64 0, .bool false, .slice none 0 0, .int .i64 0, .int .i64 0, .int .i64 0, .bool false, .slice none 0 0, .int .i64 0, .int .i64 0, .int .i64 0, .bool false, .slice none 0 0, .int .i64 0] ∧ Blk w' d 4 #[.bool false, .bool false, .bool false]
theorem blk_keep' {w w' : World} {g : Nat} {t : TypeId} {cs : Array Value} {Ts : List TypeId} (h : Blk w g t cs) (hs : Same Ts 0 w w') (ht : t ∈ Ts) : Blk w' g t cs := (hs.keep g h.lt (.inr ⟨_, _, _, ht, h⟩)).trans h
/-- forgotten: four new rows behind the pointer; all else is as it was. -/
theorem forgotten_c (g : Nat) (v0 v1 v2 v3 v4 v5 v6 v7 v8 v9 : Value) (w : World) (hb : Blk w g 29 #[v0, v1, v2, v3, v4, v5, v6, v7, v8, v9]) :
    Calls Try.prog 36 #[.pointer (some ⟨g, 0, none⟩)] w fun e w' => e = .returned (.tuple #[]) ∧ (∃ hv wv gv nv, Blk w' g 29 #[v0, v1, v2, v3, v4, v5, hv, wv, gv, nv] ∧ IsOnes 3 8 vInt w' 0 hv [0, 0, 0] ∧ IsOnes 4 1 Value.bool w' 0 wv [false, false, false] ∧
      IsRow 24 5 56 KeptEl w' 0 gv [Scu.kept0, Scu.kept0, Scu.kept0] ∧ IsOnes 4 1 Value.bool w' 0 nv [false, false, false] ∧ ForgO w w' hv wv gv nv) ∧ Same [9, 3, 4, 24, 31] 0 w w' ∧ (∀ B, B ≤ g → Below B w w') := by
  have hmi := made_ints
  have hmb := made_bools
  have hmk := made_kepts
  go_enter Try.func36, Try.ntmps36
  have z0 := hb.cell 6
  simp only [List.getElem?_toArray, List.getElem?_cons_zero, List.getElem?_cons_succ] at z0
  have zz0 := hb.frozen
  have zl0 := hb.lt
  have HH0 := Lib.hid hb
  clear hb
  go_upto_region 1 with fail
  obtain ⟨y1, he0⟩ : ∃ W, W = (w.setCell ⟨g, 6, none⟩ (.slice (some ⟨w.heap.size, 0, none⟩) 3 3)).alloc (Obj.cells #[.int .i64 0, .int .i64 0, .int .i64 0] 3) := ⟨_, rfl⟩
  rw [← he0]
  have hb1 : Blk y1 g 29 #[v0, v1, v2, v3, v4, v5, (.slice (some ⟨w.heap.size, 0, none⟩) 3 3), v7, v8, v9] := by rw [he0]; exact (HH0.out.set_ 6 _).alloc _
  have hn1 : Blk y1 w.heap.size 3 #[.int .i64 0, .int .i64 0, .int .i64 0] := by rw [he0]; exact Blk.new' (by simp [World.setCell])
  have hs1 : Same [9, 3, 4, 24, 31] 0 w y1 := by rw [he0]; exact (forg_step HH0.out _ _).1
  have hw1 : ∀ B, B ≤ g → Below B w y1 := by rw [he0]; exact (forg_step HH0.out _ _).2
  have r1 := ones_blk (bytes := 8) (f := vInt) (xs := [(0 : Int), 0, 0]) hn1 (by simp [R47])
  clear z0 zz0 zl0 he0
  have z1 := hb1.cell 7
  simp only [List.getElem?_toArray, List.getElem?_cons_zero, List.getElem?_cons_succ] at z1
  have zz1 := hb1.frozen
  have zl1 := hb1.lt
  have HH1 := Lib.hid hb1
  clear hb1
  go_upto_region 2 with fail
  obtain ⟨y2, he1⟩ : ∃ W, W = (y1.setCell ⟨g, 7, none⟩ (.slice (some ⟨y1.heap.size, 0, none⟩) 3 3)).alloc (Obj.cells #[.bool false, .bool false, .bool false] 4) := ⟨_, rfl⟩
  rw [← he1]
  have hb2 : Blk y2 g 29 #[v0, v1, v2, v3, v4, v5, (.slice (some ⟨w.heap.size, 0, none⟩) 3 3), (.slice (some ⟨y1.heap.size, 0, none⟩) 3 3), v8, v9] := by rw [he1]; exact (HH1.out.set_ 7 _).alloc _
  have hn2 : Blk y2 y1.heap.size 4 #[.bool false, .bool false, .bool false] := by rw [he1]; exact Blk.new' (by simp [World.setCell])
  have hs2 : Same [9, 3, 4, 24, 31] 0 y1 y2 := by rw [he1]; exact (forg_step HH1.out _ _).1
  have hw2 : ∀ B, B ≤ g → Below B y1 y2 := by rw [he1]; exact (forg_step HH1.out _ _).2
  have r2 := ones_blk (bytes := 1) (f := Value.bool) (xs := [false, false, false]) hn2 (by simp [R47])
  clear z1 zz1 zl1 he1
  have z2 := hb2.cell 8
  simp only [List.getElem?_toArray, List.getElem?_cons_zero, List.getElem?_cons_succ] at z2
  have zz2 := hb2.frozen
  have zl2 := hb2.lt
  have HH2 := Lib.hid hb2
  clear hb2
  go_upto_region 3 with fail
  obtain ⟨y3, he2⟩ : ∃ W, W = (y2.setCell ⟨g, 8, none⟩ (.slice (some ⟨y2.heap.size, 0, none⟩) 3 3)).alloc (Obj.cells #[.int .i64 0, .int .i64 0, .bool false, .slice none 0 0, .int .i64 0, .int .i64 0, .int .i64 0, .bool false, .slice none 0 0, .int .i64 0, .int .i64 0, .int .i64 0, .bool false, .slice none 0 0, .int .i64 0] 24) := ⟨_, rfl⟩
  rw [← he2]
  have hb3 : Blk y3 g 29 #[v0, v1, v2, v3, v4, v5, (.slice (some ⟨w.heap.size, 0, none⟩) 3 3), (.slice (some ⟨y1.heap.size, 0, none⟩) 3 3), (.slice (some ⟨y2.heap.size, 0, none⟩) 3 3), v9] := by rw [he2]; exact (HH2.out.set_ 8 _).alloc _
  have hn3 : Blk y3 y2.heap.size 24 #[.int .i64 0, .int .i64 0, .bool false, .slice none 0 0, .int .i64 0, .int .i64 0, .int .i64 0, .bool false, .slice none 0 0, .int .i64 0, .int .i64 0, .int .i64 0, .bool false, .slice none 0 0, .int .i64 0] := by rw [he2]; exact Blk.new' (by simp [World.setCell])
  have hs3 : Same [9, 3, 4, 24, 31] 0 y2 y3 := by rw [he2]; exact (forg_step HH2.out _ _).1
  have hw3 : ∀ B, B ≤ g → Below B y2 y3 := by rw [he2]; exact (forg_step HH2.out _ _).2
  have r3 := kepts_blk hn3
  clear z2 zz2 zl2 he2
  have z3 := hb3.cell 9
  simp only [List.getElem?_toArray, List.getElem?_cons_zero, List.getElem?_cons_succ] at z3
  have zz3 := hb3.frozen
  have zl3 := hb3.lt
  have HH3 := Lib.hid hb3
  clear hb3
  go_wp2
  obtain ⟨y4, he3⟩ : ∃ W, W = (y3.setCell ⟨g, 9, none⟩ (.slice (some ⟨y3.heap.size, 0, none⟩) 3 3)).alloc (Obj.cells #[.bool false, .bool false, .bool false] 4) := ⟨_, rfl⟩
  rw [← he3]
  have hb4 : Blk y4 g 29 #[v0, v1, v2, v3, v4, v5, (.slice (some ⟨w.heap.size, 0, none⟩) 3 3), (.slice (some ⟨y1.heap.size, 0, none⟩) 3 3), (.slice (some ⟨y2.heap.size, 0, none⟩) 3 3), (.slice (some ⟨y3.heap.size, 0, none⟩) 3 3)] := by rw [he3]; exact (HH3.out.set_ 9 _).alloc _
  have hn4 : Blk y4 y3.heap.size 4 #[.bool false, .bool false, .bool false] := by rw [he3]; exact Blk.new' (by simp [World.setCell])
  have hs4 : Same [9, 3, 4, 24, 31] 0 y3 y4 := by rw [he3]; exact (forg_step HH3.out _ _).1
  have hw4 : ∀ B, B ≤ g → Below B y3 y4 := by rw [he3]; exact (forg_step HH3.out _ _).2
  have r4 := ones_blk (bytes := 1) (f := Value.bool) (xs := [false, false, false]) hn4 (by simp [R47])
  clear z3 zz3 zl3 he3
  go_end0
  refine ⟨rfl, ⟨_, _, _, _, hb4, ((r1.same (by simp) hs2).same (by simp) hs3).same (by simp) hs4, (r2.same (by simp) hs3).same (by simp) hs4, r3.same (by simp) hs4 (fun _ _ hk => hk.same (by simp) hs4), r4, ⟨_, _, _, _, rfl, rfl, rfl, rfl, Nat.le_refl _, by have := hn1.lt; omega, by have := hn1.lt; have := hn2.lt; omega, by have := hn1.lt; have := hn2.lt; have := hn3.lt; omega, by have := hn2.lt; have := hn3.lt; omega, blk_keep' (blk_keep' (blk_keep' hn1 hs2 (by simp)) hs3 (by simp)) hs4 (by simp), blk_keep' (blk_keep' hn2 hs3 (by simp)) hs4 (by simp), blk_keep' hn3 hs4 (by simp), hn4⟩⟩, ((hs1.trans hs2).trans hs3).trans hs4, fun B hB => (((hw1 B hB).trans (hw2 B hB)).trans (hw3 B hB)).trans (hw4 B hB)⟩
theorem keptFaultN_a (lv : Value) (k : Scu.Kept) (w : World) (B : Nat) (hv : IsStrs w B lv k.log) (f : Int) (h : Scu.keptFault k = f) :
    Calls Try.prog 34 #[.agg #[.int .i64 k.view, .int .i64 k.normal, .bool k.calm, lv, .int .i64 k.commit]] w fun e w' => e = .returned (.int .i64 f) ∧ Below w.heap.size w w' := by
  have := keptFault_c lv k w B hv
  rw [h] at this
  exact this
end Go.Proofs.Ytlaibljdlpmbfaa
/- Walks: ref.wanted, ref.AlarmedOf. -/
namespace Go.Proofs.Ytlaibljdlpmbfaa
open Go.RowKit
set_option maxHeartbeats 4000000
set_option maxRecDepth 100000

theorem forg_own {w w' : World} {base : Nat} {hv wv gv nv : Value} (h : ForgO w w' hv wv gv nv) (hb : base ≤ w.heap.size) :
    OwnOnes 3 8 vInt w' base hv [0, 0, 0] ∧ OwnOnes 4 1 Value.bool w' base wv [false, false, false] ∧ OwnKs w' base gv [Scu.kept0, Scu.kept0, Scu.kept0] [zeroK, zeroK, zeroK] ∧ OwnOnes 4 1 Value.bool w' base nv [false, false, false] ∧ (∀ g, wv.ownBlock = some g → nv.ownBlock ≠ some g) := by
  obtain ⟨a, b, c, d, rfl, rfl, rfl, rfl, ha, hb', hc, hd, hbd, h1, h2, h3, h4⟩ := h
  refine ⟨⟨own_blk (xs := [vInt 0, vInt 0, vInt 0]) h1 (by omega) rfl (by decide), by simp [R47]⟩, ⟨own_blk (xs := [Value.bool false, Value.bool false, Value.bool false]) h2 (by omega) rfl (by decide), by simp [R47]⟩, ownKs_zero h3 (by omega), ⟨own_blk (xs := [Value.bool false, Value.bool false, Value.bool false]) h4 (by omega) rfl (by decide), by simp [R47]⟩, fun g e e' => ?_⟩
  simp only [Value.ownBlock, Option.some.injEq] at e e'
  omega
theorem wanted_c (g : Nat) (r : Scu.Replica) (lu hv wv gv nv : Value) (v : Int) (base : Nat) (w : World) (hB : Blk w g 29 #[.int .i64 r.me, .int .i64 r.kept.view, .int .i64 r.kept.normal, .bool r.kept.calm, lu, .int .i64 r.kept.commit, hv, wv, gv, nv]) (hl : OwnStrs w base lu r.kept.log) (hg : base ≤ g) (hm0 : 0 ≤ r.me) (hm3 : r.me < 3)
    (rr : Scu.Replica) (ms : List Scu.Message) (hrr : Scu.want r v = (rr, ms)) :
    Calls Try.prog 35 #[.pointer (some ⟨g, 0, none⟩), .int .i64 v] w fun e w' => (∃ Ao co css hv' wv' gv' nv', e = .returned (.slice Ao ms.length co) ∧ Blk w' g 29 #[.int .i64 rr.me, .int .i64 rr.kept.view, .int .i64 rr.kept.normal, .bool rr.kept.calm, lu, .int .i64 rr.kept.commit, hv', wv', gv', nv'] ∧ OwnRep w' base lu hv' wv' gv' nv' rr ∧ OwnMs w' base (.slice Ao ms.length co) ms css) ∧ Below base w w' ∧ Same [9, 31] 0 w w' := by
  have hgl := hB.lt
  have HL := Lib.hid (And.intro hl hB)
  have HRR := Lib.hid hrr
  have d1 := hB.cell 1
  have d3 := hB.cell 3
  simp only [List.getElem?_toArray, List.getElem?_cons_zero, List.getElem?_cons_succ] at d1 d3
  have dz := hB.frozen
  clear hl hB hrr
  go_enter Try.func35, Try.ntmps35
  go_upto_region 3 with fail
  obtain ⟨W1, hW1⟩ : ∃ W, W = (w.setCell ⟨g, 1, none⟩ (.int .i64 v)).setCell ⟨g, 3, none⟩ (.bool false) := ⟨_, rfl⟩
  rw [← hW1]
  have hB1 : Blk W1 g 29 #[.int .i64 r.me, .int .i64 v, .int .i64 r.kept.normal, .bool false, lu, .int .i64 r.kept.commit, hv, wv, gv, nv] := by rw [hW1]; exact (HL.out.2.set_ 1 _).set_ 3 _
  have hs1 : Same [9] 0 w W1 := by rw [hW1]; exact (Same.set_ HL.out.2 (Nat.zero_le _) (by decide) 1 _).trans (Same.set_ (HL.out.2.set_ 1 _) (Nat.zero_le _) (by decide) 3 _)
  have ht1 : Same [9, 31] 0 w W1 := by rw [hW1]; exact (Same.set_ HL.out.2 (Nat.zero_le _) (by decide) 1 _).trans (Same.set_ (HL.out.2.set_ 1 _) (Nat.zero_le _) (by decide) 3 _)
  have hb1 : Below base w W1 := by rw [hW1]; exact ((Below.refl base w).setCell (p := ⟨g, 1, none⟩) hg _).setCell (p := ⟨g, 3, none⟩) hg _
  have hz1 : base ≤ W1.heap.size := Nat.le_trans (by omega) hb1.size
  clear hW1 d1 d3 dz
  go_wp2_with fail
  refine (forgotten_c g _ _ _ _ _ _ _ _ _ _ W1 hB1).mono ?_; rintro en w2 ⟨rfl, ⟨hv', wv', gv', nv', hB2, _, _, _, _, hF⟩, hsm, hbl⟩
  have HT2 := Lib.hid (ht1.trans (hsm.mono (by simp) (Nat.le_refl _)))
  clear ht1
  have HO := Lib.hid (forg_own hF hz1)
  obtain ⟨a, b, c, d, rfl, rfl, rfl, rfl, ha, hb', hc, hd, hbd, _, hq, _, _⟩ := hF
  have hown : OwnRep w2 base lu (.slice (some ⟨a, 0, none⟩) 3 3) (.slice (some ⟨b, 0, none⟩) 3 3) (.slice (some ⟨c, 0, none⟩) 3 3) (.slice (some ⟨d, 0, none⟩) 3 3) (Scu.fresh { r with kept := { r.kept with view := v, calm := false } }) :=
    ⟨⟨(HL.out.1.same hs1).same (hsm.mono (by simp) (Nat.le_refl _)), HO.out.1, HO.out.2.1, HO.out.2.2.2.1, HO.out.2.2.2.2⟩, _, HO.out.2.2.1⟩
  have hu : w2.cell? ⟨b, r.me.toNat, none⟩ = some (.bool false) := by
    rw [hq.cell]
    have : r.me.toNat = 0 ∨ r.me.toNat = 1 ∨ r.me.toNat = 2 := by omega
    rcases this with h | h | h <;> rw [h] <;> rfl
  have dz := hq.frozen r.me.toNat
  have d0 := hB2.cell 0
  have d7 := hB2.cell 7
  simp only [List.getElem?_toArray, List.getElem?_cons_zero, List.getElem?_cons_succ] at d0 d7
  have dl := hB2.lt
  have ngb : g ≠ b := blk_ne hB2 hq (by decide)
  have H2 := Lib.hid (And.intro hown (And.intro hq (And.intro hB2 (And.intro (hb1.trans (hbl base hg)) (show base ≤ b from Nat.le_trans hz1 hb')))))
  clear hown hq hB2 hb1 hs1 hsm hbl hB1 ha hc hd hbd HO
  go_wp2_with fail
  go_region
  obtain ⟨W3, hW3⟩ : ∃ W, W = (w2.setCell ⟨b, r.me.toNat, none⟩ (.bool true)).drew := ⟨_, rfl⟩
  rw [← hW3]
  have hrr : rr = { Scu.fresh { r with kept := { r.kept with view := v, calm := false } } with wants := [false, false, false].set r.me.toNat true } := (congrArg Prod.fst HRR.out).symm
  have H3 := Lib.hid (show OwnRep W3 base lu (.slice (some ⟨a, 0, none⟩) 3 3) (.slice (some ⟨b, 0, none⟩) 3 3) (.slice (some ⟨c, 0, none⟩) 3 3) (.slice (some ⟨d, 0, none⟩) 3 3) rr ∧ Blk W3 g 29 #[.int .i64 r.me, .int .i64 v, .int .i64 r.kept.normal, .bool false, lu, .int .i64 r.kept.commit, .slice (some ⟨a, 0, none⟩) 3 3, .slice (some ⟨b, 0, none⟩) 3 3, .slice (some ⟨c, 0, none⟩) 3 3, .slice (some ⟨d, 0, none⟩) 3 3] ∧ Below base w W3 from by
    rw [hW3, hrr]
    exact ⟨(H2.out.1.put_wants H2.out.2.1 r.me.toNat true).same (Same.drew _), (H2.out.2.2.1.far (p := ⟨b, r.me.toNat, none⟩) ngb _).drew, (H2.out.2.2.2.1.setCell (p := ⟨b, r.me.toNat, none⟩) H2.out.2.2.2.2 _).drew⟩)
  have HT3 := Lib.hid (HT2.out.trans (show Same [9, 31] 0 w2 W3 by rw [hW3]; exact (Same.set_ H2.out.2.1 (Nat.zero_le _) (by decide) r.me.toNat _).trans (Same.drew _)))
  have hms : ms = Scu.toAll r.me v { Scu.msg0 with kind := 3 } := (congrArg Prod.snd HRR.out).symm
  have HMS := Lib.hid (And.intro hms hrr)
  clear hW3 d0 d7 dz dl hu hms hrr H2 ngb
  have hB3 := H3.out.2.1
  have s0 := hB3.cell 0
  have s1 := hB3.cell 1
  have s2 := hB3.cell 2
  have s3 := hB3.cell 3
  have s4 := hB3.cell 4
  have s5 := hB3.cell 5
  have s6 := hB3.cell 6
  have s7 := hB3.cell 7
  have s8 := hB3.cell 8
  have s9 := hB3.cell 9
  simp only [List.getElem?_toArray, List.getElem?_cons_zero, List.getElem?_cons_succ] at s0 s1 s2 s3 s4 s5 s6 s7 s8 s9
  have sz := hB3.frozen
  have sl := hB3.lt
  clear hB3
  obtain ⟨Al, nl, cl, rfl⟩ := H3.out.1.is.log.form
  go_wp2_with fail
  refine (toAll_c r.me v r.kept.normal false (.slice Al nl cl) r.kept.commit (.slice (some ⟨a, 0, none⟩) 3 3) (.slice (some ⟨b, 0, none⟩) 3 3) (.slice (some ⟨c, 0, none⟩) 3 3) (.slice (some ⟨d, 0, none⟩) 3 3) (.slice none 0 0) { Scu.msg0 with kind := 3 } _ 0 (Nat.zero_le _) IsStrs.nil_).mono ?_; rintro en w4 ⟨⟨ov, css, rfl, ho⟩, h4⟩
  rw [show partAll r.me v { Scu.msg0 with kind := 3 } 3 = ms from HMS.out.1.symm] at ho
  obtain ⟨Ao, co, rfl⟩ := ho.form
  have H4 := Lib.hid (And.intro (H3.out.1.below h4) (And.intro (H3.out.2.1.same h4) (And.intro (H3.out.2.2.trans (h4.mono (Nat.le_trans (by omega) H3.out.2.2.size))) (ho.base_ (Nat.le_trans (show base ≤ w.heap.size by omega) H3.out.2.2.size)))))
  have HT4 := Lib.hid (HT3.out.trans (Same.below h4))
  clear ho h4
  go_wp2
  go_ret
  refine ⟨⟨_, _, css, _, _, _, _, rfl, ?_, H4.out.1, H4.out.2.2.2⟩, H4.out.2.2.1, HT4.out⟩
  rw [HMS.out.2]
  exact H4.out.2.1
end Go.Proofs.Ytlaibljdlpmbfaa

/- Words: what others gave, in a row of the call's own; the loop that copies it. -/
import Derived.Test.YtioajgcbchdpeaaRepD
import Derived.Test.YtioajgcbchdpeaaVolP
namespace Go.Proofs.Ytioajgcbchdpeaa
open Go.RowKit
set_option maxHeartbeats 1000000
set_option maxRecDepth 100000

def keptV (k : Scu.Kept) (lv : Value) : List Value := [.int .i64 k.view, .int .i64 k.normal, .bool k.calm, lv, .int .i64 k.commit]
/-- A row of kept things of the call's own: css the cells of each. -/
structure OwnKs (w : World) (base : Nat) (v : Value) (gs : List Scu.Kept) (css : List (List Value)) : Prop where
  len : css.length = gs.length
  five : ∀ cs ∈ css, cs.length = 5
  row : w.ownsRow base 28 5 v gs.length css.flatten
  each : ∀ (j : Nat) (cs : List Value) (k : Scu.Kept), css[j]? = some cs → gs[j]? = some k → KeptEl w 0 cs k
  max : gs.length * 56 ≤ R47
def OwnKepts (w : World) (base : Nat) (v : Value) (gs : List Scu.Kept) : Prop := ∃ css, OwnKs w base v gs css
section
variable {w w' : World} {B base base' : Nat} {v : Value} {gs : List Scu.Kept} {css : List (List Value)}
theorem OwnKs.is (h : OwnKs w base v gs css) : IsRow 28 5 56 KeptEl w 0 v gs := by
  obtain ⟨A, c, rfl, hc, _, hr, _⟩ := rd_own h.row
  exact ⟨⟨A, c, css, rfl, hc, h.len, h.five, hr, h.each⟩, h.max⟩
theorem OwnKs.same (h : OwnKs w base v gs css) (hs : Same [9, 28] B w w') : OwnKs w' base v gs css :=
  ⟨h.len, h.five, own_same h.row (by simp) hs, fun j cs k a b => (h.each j cs k a b).same (B := 0) (Ts := [9, 28]) (by simp) (hs.mono (fun _ h => h) (Nat.zero_le _)), h.max⟩
theorem OwnKs.below (h : OwnKs w base v gs css) (hb : Below w.heap.size w w') : OwnKs w' base v gs css := h.same (B := 0) (Same.below hb)
theorem OwnKs.base_ (h : OwnKs w base v gs css) (hb : base' ≤ base) : OwnKs w base' v gs css := ⟨h.len, h.five, ownsRow_base h.row hb, h.each, h.max⟩
theorem OwnKs.nil_ : OwnKs w base (.slice none 0 0) [] [] := ⟨rfl, by simp, World.ownsRow_nil _ _ _ _, fun j cs k h => by simp at h, by simp [R47]⟩
theorem OwnKepts.below (h : OwnKepts w base v gs) (hb : Below w.heap.size w w') : OwnKepts w' base v gs := let ⟨css, h⟩ := h; ⟨css, h.below hb⟩
theorem OwnKepts.is (h : OwnKepts w base v gs) : IsRow 28 5 56 KeptEl w 0 v gs := let ⟨_, h⟩ := h; h.is
end
/-- A replica that the call has made. -/
structure OwnRep (w : World) (base : Nat) (lv hv wv gv nv : Value) (r : Scu.Replica) : Prop where
  own : OwnRep0 w base lv hv wv nv r
  giv : OwnKepts w base gv r.gives
theorem OwnRep.is {w : World} {base : Nat} {lv hv wv gv nv : Value} {r : Scu.Replica} (h : OwnRep w base lv hv wv gv nv r) : IsRep w 0 lv hv wv gv nv r :=
  ⟨h.own.log.is, h.own.have_.is, h.own.wants.is, h.giv.is, h.own.given.is⟩
theorem OwnRep.same {w w' : World} {base : Nat} {lv hv wv gv nv : Value} {r : Scu.Replica} (h : OwnRep w base lv hv wv gv nv r) (hs : Same [9, 3, 4, 28] 0 w w') : OwnRep w' base lv hv wv gv nv r :=
  ⟨h.own.same (hs.mono (by simp) (Nat.le_refl _)), let ⟨css, g⟩ := h.giv; ⟨css, g.same (hs.mono (by simp) (Nat.le_refl _))⟩⟩
theorem OwnRep.below {w w' : World} {base : Nat} {lv hv wv gv nv : Value} {r : Scu.Replica} (h : OwnRep w base lv hv wv gv nv r) (hb : Below w.heap.size w w') : OwnRep w' base lv hv wv gv nv r := h.same (Same.below hb)
def RepRet (w : World) (base : Nat) (r : Scu.Replica) (e : Ending) : Prop := ∃ lu hv wv gv nv, e = .returned (.agg #[.int .i64 r.me, .int .i64 r.kept.view, .int .i64 r.kept.normal, .bool r.kept.calm, lu, .int .i64 r.kept.commit, hv, wv, gv, nv]) ∧ OwnRep w base lu hv wv gv nv r
/-- What the loop over what others gave holds. -/
structure GivI (w : World) (cs : Array Value) (g : Nat) (r : Scu.Replica) (lu hv wv nv : Value) (k : Nat) (gv : Value) (css : List (List Value)) (wr : World) : Prop where
  res : Blk wr (w.heap.size + 1) 32 #[.int .i64 0, .int .i64 0, .int .i64 0, .bool false, .slice none 0 0, .int .i64 0, .slice none 0 0, .slice none 0 0, .slice none 0 0, .slice none 0 0]
  arg : Blk wr w.heap.size 32 cs
  out : Blk wr g 32 #[.int .i64 r.me, .int .i64 r.kept.view, .int .i64 r.kept.normal, .bool r.kept.calm, lu, .int .i64 r.kept.commit, hv, wv, gv, nv]
  own : OwnRep0 wr w.heap.size lu hv wv nv r
  giv : OwnKs wr w.heap.size gv (r.gives.take k) css
  lo : w.heap.size + 1 < g
  low : Below w.heap.size w wr
theorem GivI.below {w : World} {cs : Array Value} {g k : Nat} {r : Scu.Replica} {lu hv wv nv gv : Value} {css : List (List Value)} {wr w' : World} (h : GivI w cs g r lu hv wv nv k gv css wr) (hb : Below wr.heap.size wr w') : GivI w cs g r lu hv wv nv k gv css w' :=
  ⟨h.res.same hb, h.arg.same hb, h.out.same hb, h.own.below hb, h.giv.below hb, h.lo, h.low.trans (hb.mono h.low.size)⟩
theorem take_next {α : Type} {l : List α} {k : Nat} (hk : k < l.length) : l.take (k + 1) = l.take k ++ [l[k]] := by
  rw [List.take_add_one, List.getElem?_eq_getElem hk]
  rfl
theorem blk_growm {w w' : World} {base g n m : Nat} {t e : TypeId} {cs : Array Value} {lv : Value} {xs : List Value} (hb : Blk w g t cs) (hown : w.ownsRow base e m lv n xs) (hne : t ≠ e) (hg : w.grownBy w' lv.ownBlock) : Blk w' g t cs :=
  (hg.block g hb.lt fun e' => by
    obtain ⟨C', fz', hh⟩ := own_kind hown e'.symm
    unfold Blk at hb
    rw [hh] at hb
    cases hb
    exact hne rfl).trans hb
/-- Across the append and the store behind it: P the world that the append meets. -/
theorem giv_next {w : World} {cs : Array Value} {g k : Nat} {r : Scu.Replica} {lu hv wv nv gv v4 lx : Value} {css : List (List Value)} {P w4 : World} {b : Nat} (h : GivI w cs g r lu hv wv nv k gv css P) (hk : k < r.gives.length) (hm : r.gives.length * 56 ≤ R47)
    (hx : OwnStrs P b lx r.gives[k].log) (h4 : w4.ownsRow w.heap.size 28 5 v4 (k + 1) (css.flatten ++ keptV r.gives[k] lx)) (hg : P.grownBy w4 gv.ownBlock) :
    GivI w cs g r lu hv wv nv (k + 1) v4 (css ++ [keptV r.gives[k] lx]) (w4.setCell ⟨g, 8, none⟩ v4) := by
  have hrow := h.giv.row
  have e1 : (r.gives.take k).length = k := by rw [List.length_take]; omega
  have hs0 : Same [9, 3, 4] 0 P w4 := Same.own hrow hg (Nat.zero_le _) (by decide)
  have hout4 := blk_growm h.out hrow (by decide) hg
  have hs1 : Same [9, 3, 4, 28] 0 w4 (w4.setCell ⟨g, 8, none⟩ v4) := Same.set_ hout4 (Nat.zero_le _) (by decide) 8 v4
  have hs2 : Same [9] 0 P (w4.setCell ⟨g, 8, none⟩ v4) := (hs0.mono (by simp) (Nat.le_refl _)).trans (hs1.mono (by simp) (Nat.le_refl _))
  have hlo := h.lo
  refine ⟨(blk_growm h.res hrow (by decide) hg).far (by simp; omega) v4, (blk_growm h.arg hrow (by decide) hg).far (by simp; omega) v4, ?_, ?_, ?_, h.lo, ?_⟩
  · have h8 : Blk (w4.setCell ⟨g, 8, none⟩ v4) g 32 #[.int .i64 r.me, .int .i64 r.kept.view, .int .i64 r.kept.normal, .bool r.kept.calm, lu, .int .i64 r.kept.commit, hv, wv, v4, nv] := hout4.set_ 8 v4
    exact h8
  · exact (h.own.same hs0).same (hs1.mono (by simp) (Nat.le_refl _))
  · rw [take_next hk]
    refine ⟨by simp only [List.length_append, h.giv.len, List.length_cons, List.length_nil], ?_, ?_, ?_, ?_⟩
    · intro c hc
      rcases List.mem_append.1 hc with h' | h'
      · exact h.giv.five c h'
      · rw [List.mem_singleton] at h'
        subst h'
        rfl
    · rw [List.length_append, e1, List.flatten_append]
      have h5 : w4.ownsRow w.heap.size 28 5 v4 (k + [r.gives[k]].length) (css.flatten ++ [keptV r.gives[k] lx].flatten) := by simpa using h4
      exact own_set h5 hout4 (by decide) v4
    · intro j c x hc hx'
      rcases Nat.lt_or_ge j k with hj | hj
      · rw [List.getElem?_append_left (by rw [h.giv.len, e1]; exact hj)] at hc
        rw [List.getElem?_append_left (by rw [e1]; exact hj)] at hx'
        exact (h.giv.each j c x hc hx').same (B := 0) (Ts := [9]) (by simp) hs2
      · rw [List.getElem?_append_right (by rw [h.giv.len, e1]; exact hj), h.giv.len, e1] at hc
        rw [List.getElem?_append_right (by rw [e1]; exact hj), e1] at hx'
        have hj0 : j - k = 0 := by
          rcases Nat.eq_zero_or_pos (j - k) with h' | h'
          · exact h'
          · rw [List.getElem?_eq_none (by simp; omega)] at hc
            cases hc
        rw [hj0] at hc hx'
        simp only [List.getElem?_cons_zero, Option.some.injEq] at hc hx'
        subst hc
        subst hx'
        exact ⟨lx, rfl, (hx.same hs2).is⟩
    · rw [List.length_append, e1]
      simp only [List.length_cons, List.length_nil]
      omega
  · exact (h.low.grown hg h.low.size (fun q hq => (hrow.lt q hq).1)).setCell (by show w.heap.size ≤ g; omega) v4
end Go.Proofs.Ytioajgcbchdpeaa

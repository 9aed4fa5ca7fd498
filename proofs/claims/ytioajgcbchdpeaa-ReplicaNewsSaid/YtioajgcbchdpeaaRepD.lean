/- Words: a replica of the call's own. -/
import Derived.Test.YtioajgcbchdpeaaMsgR
namespace Go.Proofs.Ytioajgcbchdpeaa
open Go.RowKit
set_option maxHeartbeats 1000000
set_option maxRecDepth 100000
def OwnOnes {α : Type} (t : TypeId) (bytes : Nat) (f : α → Value) (w : World) (base : Nat) (v : Value) (xs : List α) : Prop := w.ownsRow base t 1 v xs.length (xs.map f) ∧ xs.length * bytes ≤ R47
section
variable {α : Type} {t : TypeId} {bytes : Nat} {f : α → Value} {w w' : World} {B base base' : Nat} {v : Value} {xs : List α}
theorem OwnOnes.is (h : OwnOnes t bytes f w base v xs) : IsOnes t bytes f w 0 v xs := by
  obtain ⟨A, c, rfl, hc, _, hr, _⟩ := rd_own h.1
  exact ⟨⟨_, _, rfl, hc, hr⟩, h.2⟩
theorem OwnOnes.form (h : OwnOnes t bytes f w base v xs) : ∃ A n c, v = .slice A n c := h.is.form
theorem OwnOnes.same (h : OwnOnes t bytes f w base v xs) (hs : Same [t] B w w') : OwnOnes t bytes f w' base v xs := ⟨own_same h.1 (by simp) hs, h.2⟩
theorem OwnOnes.below (h : OwnOnes t bytes f w base v xs) (hb : Below w.heap.size w w') : OwnOnes t bytes f w' base v xs := h.same (B := 0) (Same.below hb)
theorem OwnOnes.base_ (h : OwnOnes t bytes f w base v xs) (hb : base' ≤ base) : OwnOnes t bytes f w base' v xs := ⟨ownsRow_base h.1 hb, h.2⟩
theorem OwnOnes.lt (h : OwnOnes t bytes f w base v xs) {g : Nat} (hg : v.ownBlock = some g) : base ≤ g ∧ g < w.heap.size := h.1.lt g hg
end
/-- The parts of a replica that the call has made, but for what others gave. -/
structure OwnRep0 (w : World) (base : Nat) (lv hv wv nv : Value) (r : Scu.Replica) : Prop where
  log : OwnStrs w base lv r.kept.log
  have_ : OwnOnes 3 8 vInt w base hv r.have_
  wants : OwnOnes 4 1 Value.bool w base wv r.wants
  given : OwnOnes 4 1 Value.bool w base nv r.given
  apart : ∀ g, wv.ownBlock = some g → nv.ownBlock ≠ some g
section
variable {w w' : World} {B base base' : Nat} {lv hv wv nv : Value} {r : Scu.Replica}
theorem OwnRep0.same (h : OwnRep0 w base lv hv wv nv r) (hs : Same [9, 3, 4] B w w') : OwnRep0 w' base lv hv wv nv r :=
  ⟨h.log.same (hs.mono (by simp) (Nat.le_refl _)), h.have_.same (hs.mono (by simp) (Nat.le_refl _)), h.wants.same (hs.mono (by simp) (Nat.le_refl _)), h.given.same (hs.mono (by simp) (Nat.le_refl _)), h.apart⟩
theorem OwnRep0.below (h : OwnRep0 w base lv hv wv nv r) (hb : Below w.heap.size w w') : OwnRep0 w' base lv hv wv nv r := h.same (B := 0) (Same.below hb)
theorem OwnRep0.base_ (h : OwnRep0 w base lv hv wv nv r) (hb : base' ≤ base) : OwnRep0 w base' lv hv wv nv r := ⟨h.log.base_ hb, h.have_.base_ hb, h.wants.base_ hb, h.given.base_ hb, h.apart⟩
end
section
variable {w : World} {g : Nat} {t : TypeId} {a0 a1 a2 a3 a4 a5 a6 a7 a8 a9 b0 b1 b2 b3 b4 b5 b6 b7 b8 b9 : Value}
theorem blk_set10 (h : Blk w g t #[b0, b1, b2, b3, b4, b5, b6, b7, b8, b9]) : Blk ((((((((((w.setCell ⟨g, 0, none⟩ a0).setCell ⟨g, 1, none⟩ a1).setCell ⟨g, 2, none⟩ a2).setCell ⟨g, 3, none⟩ a3).setCell ⟨g, 4, none⟩ a4).setCell ⟨g, 5, none⟩ a5).setCell ⟨g, 6, none⟩ a6).setCell ⟨g, 7, none⟩ a7).setCell ⟨g, 8, none⟩ a8).setCell ⟨g, 9, none⟩ a9) g t #[a0, a1, a2, a3, a4, a5, a6, a7, a8, a9] := by
  have h0 : Blk _ g t #[a0, b1, b2, b3, b4, b5, b6, b7, b8, b9] := h.set_ 0 a0
  have h1 : Blk _ g t #[a0, a1, b2, b3, b4, b5, b6, b7, b8, b9] := h0.set_ 1 a1
  have h2 : Blk _ g t #[a0, a1, a2, b3, b4, b5, b6, b7, b8, b9] := h1.set_ 2 a2
  have h3 : Blk _ g t #[a0, a1, a2, a3, b4, b5, b6, b7, b8, b9] := h2.set_ 3 a3
  have h4 : Blk _ g t #[a0, a1, a2, a3, a4, b5, b6, b7, b8, b9] := h3.set_ 4 a4
  have h5 : Blk _ g t #[a0, a1, a2, a3, a4, a5, b6, b7, b8, b9] := h4.set_ 5 a5
  have h6 : Blk _ g t #[a0, a1, a2, a3, a4, a5, a6, b7, b8, b9] := h5.set_ 6 a6
  have h7 : Blk _ g t #[a0, a1, a2, a3, a4, a5, a6, a7, b8, b9] := h6.set_ 7 a7
  have h8 : Blk _ g t #[a0, a1, a2, a3, a4, a5, a6, a7, a8, b9] := h7.set_ 8 a8
  have h9 : Blk _ g t #[a0, a1, a2, a3, a4, a5, a6, a7, a8, a9] := h8.set_ 9 a9
  exact h9
theorem Same.sets10 {Ts : List TypeId} {B : Nat} (h : Blk w g t #[b0, b1, b2, b3, b4, b5, b6, b7, b8, b9]) (hB : B ≤ g) (ht : t ∉ Ts) : Same Ts B w ((((((((((w.setCell ⟨g, 0, none⟩ a0).setCell ⟨g, 1, none⟩ a1).setCell ⟨g, 2, none⟩ a2).setCell ⟨g, 3, none⟩ a3).setCell ⟨g, 4, none⟩ a4).setCell ⟨g, 5, none⟩ a5).setCell ⟨g, 6, none⟩ a6).setCell ⟨g, 7, none⟩ a7).setCell ⟨g, 8, none⟩ a8).setCell ⟨g, 9, none⟩ a9) :=
  (((((((((Same.set_ h hB ht 0 a0).trans (Same.set_ (h.set_ 0 a0) hB ht 1 a1)).trans (Same.set_ ((h.set_ 0 a0).set_ 1 a1) hB ht 2 a2)).trans (Same.set_ (((h.set_ 0 a0).set_ 1 a1).set_ 2 a2) hB ht 3 a3)).trans
    (Same.set_ ((((h.set_ 0 a0).set_ 1 a1).set_ 2 a2).set_ 3 a3) hB ht 4 a4)).trans (Same.set_ (((((h.set_ 0 a0).set_ 1 a1).set_ 2 a2).set_ 3 a3).set_ 4 a4) hB ht 5 a5)).trans
    (Same.set_ ((((((h.set_ 0 a0).set_ 1 a1).set_ 2 a2).set_ 3 a3).set_ 4 a4).set_ 5 a5) hB ht 6 a6)).trans (Same.set_ (((((((h.set_ 0 a0).set_ 1 a1).set_ 2 a2).set_ 3 a3).set_ 4 a4).set_ 5 a5).set_ 6 a6) hB ht 7 a7)).trans
    (Same.set_ ((((((((h.set_ 0 a0).set_ 1 a1).set_ 2 a2).set_ 3 a3).set_ 4 a4).set_ 5 a5).set_ 6 a6).set_ 7 a7) hB ht 8 a8)).trans (Same.set_ (((((((((h.set_ 0 a0).set_ 1 a1).set_ 2 a2).set_ 3 a3).set_ 4 a4).set_ 5 a5).set_ 6 a6).set_ 7 a7).set_ 8 a8) hB ht 9 a9)
theorem below_set10 {B : Nat} {w0 : World} (h : Below B w0 w) (hg : B ≤ g) : Below B w0 ((((((((((w.setCell ⟨g, 0, none⟩ a0).setCell ⟨g, 1, none⟩ a1).setCell ⟨g, 2, none⟩ a2).setCell ⟨g, 3, none⟩ a3).setCell ⟨g, 4, none⟩ a4).setCell ⟨g, 5, none⟩ a5).setCell ⟨g, 6, none⟩ a6).setCell ⟨g, 7, none⟩ a7).setCell ⟨g, 8, none⟩ a8).setCell ⟨g, 9, none⟩ a9) :=
  (((((((((h.setCell (p := ⟨g, 0, none⟩) hg a0).setCell (p := ⟨g, 1, none⟩) hg a1).setCell (p := ⟨g, 2, none⟩) hg a2).setCell (p := ⟨g, 3, none⟩) hg a3).setCell (p := ⟨g, 4, none⟩) hg a4).setCell (p := ⟨g, 5, none⟩) hg a5).setCell (p := ⟨g, 6, none⟩) hg a6).setCell (p := ⟨g, 7, none⟩) hg a7).setCell (p := ⟨g, 8, none⟩) hg a8).setCell (p := ⟨g, 9, none⟩) hg a9
end
/-- What the first statement of a copy leaves. -/
structure Rep0 (Wd : World) (r : Scu.Replica) (g : Nat) (lu hv wv nv : Value) (wx : World) : Prop where
  out : Blk wx g 32 #[.int .i64 r.me, .int .i64 r.kept.view, .int .i64 r.kept.normal, .bool r.kept.calm, lu, .int .i64 r.kept.commit, hv, wv, .slice none 0 0, nv]
  lo : Wd.heap.size ≤ g
  own : OwnRep0 wx Wd.heap.size lu hv wv nv r
  low : Below Wd.heap.size Wd wx
theorem rep0_new {Wd x : World} {r : Scu.Replica} {lu hv wv nv : Value} (hb : Below Wd.heap.size Wd x) (ho : OwnRep0 x Wd.heap.size lu hv wv nv r) :
    Rep0 Wd r x.heap.size lu hv wv nv (x.alloc (Obj.cells #[.int .i64 r.me, .int .i64 r.kept.view, .int .i64 r.kept.normal, .bool r.kept.calm, lu, .int .i64 r.kept.commit, hv, wv, .slice none 0 0, nv] 32)) :=
  ⟨Blk.new x _ _, hb.size, ho.below (below_alloc x _), hb.alloc hb.size _⟩
theorem rep0_set {Wd w : World} {r : Scu.Replica} {g : Nat} {lu hv wv nv b0 b1 b2 b3 b4 b5 b6 b7 b8 b9 : Value} (hb : Below Wd.heap.size Wd w) (ho : OwnRep0 w Wd.heap.size lu hv wv nv r) (h : Blk w g 32 #[b0, b1, b2, b3, b4, b5, b6, b7, b8, b9]) (hg : Wd.heap.size ≤ g) :
    Rep0 Wd r g lu hv wv nv ((((((((((w.setCell ⟨g, 0, none⟩ (.int .i64 r.me)).setCell ⟨g, 1, none⟩ (.int .i64 r.kept.view)).setCell ⟨g, 2, none⟩ (.int .i64 r.kept.normal)).setCell ⟨g, 3, none⟩ (.bool r.kept.calm)).setCell ⟨g, 4, none⟩ lu).setCell ⟨g, 5, none⟩ (.int .i64 r.kept.commit)).setCell ⟨g, 6, none⟩ hv).setCell ⟨g, 7, none⟩ wv).setCell ⟨g, 8, none⟩ (.slice none 0 0)).setCell ⟨g, 9, none⟩ nv) :=
  ⟨blk_set10 h, hg, ho.same (Same.sets10 (B := 0) h (Nat.zero_le _) (by decide)), below_set10 hb hg⟩
theorem use_ {P Q : Prop} (h : P) (k : P → Q) : Q := k h
end Go.Proofs.Ytioajgcbchdpeaa

/- Part 6: words and walks under the law 'ReplicaHears'. -/
import Derived.Test.YtlaibljdlpmbfaaPart5
import Derived.Test.YtlaibljdlpmbfaaPart3
import Derived.Deep.DeepCutAuto
import Derived.Deep.RegionHeld3
import Derived.Deep.RegionLaw
set_option linter.unusedVariables false
set_option linter.unusedSimpArgs false
/- Words: what others gave, in a row of the call's own; the loop that copies it. -/
namespace Go.Proofs.Ytlaibljdlpmbfaa
open Go.RowKit
set_option maxHeartbeats 1000000
set_option maxRecDepth 100000

def keptV (k : Scu.Kept) (lv : Value) : List Value := [.int .i64 k.view, .int .i64 k.normal, .bool k.calm, lv, .int .i64 k.commit]
/-- A row of kept things of the call's own: css the cells of each. -/
structure OwnKs (w : World) (base : Nat) (v : Value) (gs : List Scu.Kept) (css : List (List Value)) : Prop where
  len : css.length = gs.length
  five : ∀ cs ∈ css, cs.length = 5
  row : w.ownsRow base 24 5 v gs.length css.flatten
  each : ∀ (j : Nat) (cs : List Value) (k : Scu.Kept), css[j]? = some cs → gs[j]? = some k → KeptEl w 0 cs k
  max : gs.length * 56 ≤ R47
def OwnKepts (w : World) (base : Nat) (v : Value) (gs : List Scu.Kept) : Prop := ∃ css, OwnKs w base v gs css
section
variable {w w' : World} {B base base' : Nat} {v : Value} {gs : List Scu.Kept} {css : List (List Value)}
theorem OwnKs.is (h : OwnKs w base v gs css) : IsRow 24 5 56 KeptEl w 0 v gs := by
  obtain ⟨A, c, rfl, hc, _, hr, _⟩ := rd_own h.row
  exact ⟨⟨A, c, css, rfl, hc, h.len, h.five, hr, h.each⟩, h.max⟩
theorem OwnKs.same (h : OwnKs w base v gs css) (hs : Same [9, 24] B w w') : OwnKs w' base v gs css :=
  ⟨h.len, h.five, own_same h.row (by simp) hs, fun j cs k a b => (h.each j cs k a b).same (B := 0) (Ts := [9, 24]) (by simp) (hs.mono (fun _ h => h) (Nat.zero_le _)), h.max⟩
theorem OwnKs.below (h : OwnKs w base v gs css) (hb : Below w.heap.size w w') : OwnKs w' base v gs css := h.same (B := 0) (Same.below hb)
theorem OwnKs.base_ (h : OwnKs w base v gs css) (hb : base' ≤ base) : OwnKs w base' v gs css := ⟨h.len, h.five, ownsRow_base h.row hb, h.each, h.max⟩
theorem OwnKs.nil_ : OwnKs w base (.slice none 0 0) [] [] := ⟨rfl, by simp, World.ownsRow_nil _ _ _ _, fun j cs k h => by simp at h, by simp [R47]⟩
theorem OwnKepts.below (h : OwnKepts w base v gs) (hb : Below w.heap.size w w') : OwnKepts w' base v gs := let ⟨css, h⟩ := h; ⟨css, h.below hb⟩
theorem OwnKepts.is (h : OwnKepts w base v gs) : IsRow 24 5 56 KeptEl w 0 v gs := let ⟨_, h⟩ := h; h.is
end
/-- A replica that the call has made. -/
structure OwnRep (w : World) (base : Nat) (lv hv wv gv nv : Value) (r : Scu.Replica) : Prop where
  own : OwnRep0 w base lv hv wv nv r
  giv : OwnKepts w base gv r.gives
theorem OwnRep.is {w : World} {base : Nat} {lv hv wv gv nv : Value} {r : Scu.Replica} (h : OwnRep w base lv hv wv gv nv r) : IsRep w 0 lv hv wv gv nv r :=
  ⟨h.own.log.is, h.own.have_.is, h.own.wants.is, h.giv.is, h.own.given.is⟩
theorem OwnRep.same {w w' : World} {base : Nat} {lv hv wv gv nv : Value} {r : Scu.Replica} (h : OwnRep w base lv hv wv gv nv r) (hs : Same [9, 3, 4, 24] 0 w w') : OwnRep w' base lv hv wv gv nv r :=
  ⟨h.own.same (hs.mono (by simp) (Nat.le_refl _)), let ⟨css, g⟩ := h.giv; ⟨css, g.same (hs.mono (by simp) (Nat.le_refl _))⟩⟩
theorem OwnRep.below {w w' : World} {base : Nat} {lv hv wv gv nv : Value} {r : Scu.Replica} (h : OwnRep w base lv hv wv gv nv r) (hb : Below w.heap.size w w') : OwnRep w' base lv hv wv gv nv r := h.same (Same.below hb)
/-- The logs of what others gave lie in other blocks than a value's. -/
def ApL (lu : Value) (css : List (List Value)) : Prop := ∀ cs ∈ css, ∀ u ∈ cs, ∀ x, lu.ownBlock = some x → u.ownBlock ≠ some x
def ApG (w : World) (base : Nat) (gv : Value) (gs : List Scu.Kept) (lu : Value) : Prop := ∃ css, OwnKs w base gv gs css ∧ ApL lu css
theorem ApG.below {w w' : World} {base : Nat} {gv lu : Value} {gs : List Scu.Kept} (h : ApG w base gv gs lu) (hb : Below w.heap.size w w') : ApG w' base gv gs lu := let ⟨css, h, a⟩ := h; ⟨css, h.below hb, a⟩
theorem ApG.same {w w' : World} {base : Nat} {gv lu : Value} {gs : List Scu.Kept} (h : ApG w base gv gs lu) (hs : Same [9, 24] 0 w w') : ApG w' base gv gs lu := let ⟨css, h, a⟩ := h; ⟨css, h.same hs, a⟩
theorem ApG.base_ {w : World} {base base' : Nat} {gv lu : Value} {gs : List Scu.Kept} (h : ApG w base gv gs lu) (hb : base' ≤ base) : ApG w base' gv gs lu := let ⟨css, h, a⟩ := h; ⟨css, h.base_ hb, a⟩
def RepRet (w : World) (base : Nat) (r : Scu.Replica) (e : Ending) : Prop := ∃ lu hv wv gv nv, e = .returned (.agg #[.int .i64 r.me, .int .i64 r.kept.view, .int .i64 r.kept.normal, .bool r.kept.calm, lu, .int .i64 r.kept.commit, hv, wv, gv, nv]) ∧ OwnRep w base lu hv wv gv nv r ∧ ApG w base gv r.gives lu
/-- What the loop over what others gave holds. -/
structure GivI (w : World) (cs : Array Value) (g : Nat) (r : Scu.Replica) (lu hv wv nv : Value) (k : Nat) (gv : Value) (css : List (List Value)) (wr : World) : Prop where
  res : Blk wr (w.heap.size + 1) 29 #[.int .i64 0, .int .i64 0, .int .i64 0, .bool false, .slice none 0 0, .int .i64 0, .slice none 0 0, .slice none 0 0, .slice none 0 0, .slice none 0 0]
  arg : Blk wr w.heap.size 29 cs
  out : Blk wr g 29 #[.int .i64 r.me, .int .i64 r.kept.view, .int .i64 r.kept.normal, .bool r.kept.calm, lu, .int .i64 r.kept.commit, hv, wv, gv, nv]
  own : OwnRep0 wr w.heap.size lu hv wv nv r
  giv : OwnKs wr w.heap.size gv (r.gives.take k) css
  lo : w.heap.size + 1 < g
  low : Below w.heap.size w wr
  apt : ApL lu css
theorem GivI.below {w : World} {cs : Array Value} {g k : Nat} {r : Scu.Replica} {lu hv wv nv gv : Value} {css : List (List Value)} {wr w' : World} (h : GivI w cs g r lu hv wv nv k gv css wr) (hb : Below wr.heap.size wr w') : GivI w cs g r lu hv wv nv k gv css w' :=
  ⟨h.res.same hb, h.arg.same hb, h.out.same hb, h.own.below hb, h.giv.below hb, h.lo, h.low.trans (hb.mono h.low.size), h.apt⟩
theorem take_next {α : Type} {l : List α} {k : Nat} (hk : k < l.length) : l.take (k + 1) = l.take k ++ [l[k]] := by
  rw [List.take_add_one, List.getElem?_eq_getElem hk]
  rfl
theorem blk_growm {w w' : World} {base g n m : Nat} {t e : TypeId} {cs : Array Value} {lv : Value} {xs : List Value} (hb : Blk w g t cs) (hown : w.ownsRow base e m lv n xs) (hne : t ≠ e) (hg : w.grownBy w' lv.ownBlock) : Blk w' g t cs :=
  (hg.block g hb.lt fun e' => by
    obtain ⟨C', fz', hh⟩ := own_kind hown e'.symm
    unfold Blk at hb
    rw [hh] at hb
    cases hb
    exact hne rfl).trans hb
/-- Across the append and the store behind it: P the world that the append meets. -/
theorem giv_next {w : World} {cs : Array Value} {g k : Nat} {r : Scu.Replica} {lu hv wv nv gv v4 lx : Value} {css : List (List Value)} {P w4 : World} {b : Nat} (h : GivI w cs g r lu hv wv nv k gv css P) (hk : k < r.gives.length) (hm : r.gives.length * 56 ≤ R47)
    (hx : OwnStrs P b lx r.gives[k].log) (hub : ∀ x, lu.ownBlock = some x → x < b) (h4 : w4.ownsRow w.heap.size 24 5 v4 (k + 1) (css.flatten ++ keptV r.gives[k] lx)) (hg : P.grownBy w4 gv.ownBlock) :
    GivI w cs g r lu hv wv nv (k + 1) v4 (css ++ [keptV r.gives[k] lx]) (w4.setCell ⟨g, 8, none⟩ v4) := by
  have hrow := h.giv.row
  have e1 : (r.gives.take k).length = k := by rw [List.length_take]; omega
  have hs0 : Same [9, 3, 4] 0 P w4 := Same.own hrow hg (Nat.zero_le _) (by decide)
  have hout4 := blk_growm h.out hrow (by decide) hg
  have hs1 : Same [9, 3, 4, 24] 0 w4 (w4.setCell ⟨g, 8, none⟩ v4) := Same.set_ hout4 (Nat.zero_le _) (by decide) 8 v4
  have hs2 : Same [9] 0 P (w4.setCell ⟨g, 8, none⟩ v4) := (hs0.mono (by simp) (Nat.le_refl _)).trans (hs1.mono (by simp) (Nat.le_refl _))
  have hlo := h.lo
  refine ⟨(blk_growm h.res hrow (by decide) hg).far (by simp; omega) v4, (blk_growm h.arg hrow (by decide) hg).far (by simp; omega) v4, ?_, ?_, ?_, h.lo, ?_, ?_⟩
  · have h8 : Blk (w4.setCell ⟨g, 8, none⟩ v4) g 29 #[.int .i64 r.me, .int .i64 r.kept.view, .int .i64 r.kept.normal, .bool r.kept.calm, lu, .int .i64 r.kept.commit, hv, wv, v4, nv] := hout4.set_ 8 v4
    exact h8
  · exact (h.own.same hs0).same (hs1.mono (by simp) (Nat.le_refl _))
  · rw [take_next hk]
    refine ⟨by simp only [List.length_append, h.giv.len, List.length_cons, List.length_nil], ?_, ?_, ?_, ?_⟩
    · intro c hc
      rcases List.mem_append.1 hc with h' | h'
      · exact h.giv.five c h'
      · rw [List.mem_singleton] at h'
        subst h'
        rfl
    · rw [List.length_append, e1, List.flatten_append]
      have h5 : w4.ownsRow w.heap.size 24 5 v4 (k + [r.gives[k]].length) (css.flatten ++ [keptV r.gives[k] lx].flatten) := by simpa using h4
      exact own_set h5 hout4 (by decide) v4
    · intro j c x hc hx'
      rcases Nat.lt_or_ge j k with hj | hj
      · rw [List.getElem?_append_left (by rw [h.giv.len, e1]; exact hj)] at hc
        rw [List.getElem?_append_left (by rw [e1]; exact hj)] at hx'
        exact (h.giv.each j c x hc hx').same (B := 0) (Ts := [9]) (by simp) hs2
      · rw [List.getElem?_append_right (by rw [h.giv.len, e1]; exact hj), h.giv.len, e1] at hc
        rw [List.getElem?_append_right (by rw [e1]; exact hj), e1] at hx'
        have hj0 : j - k = 0 := by
          rcases Nat.eq_zero_or_pos (j - k) with h' | h'
          · exact h'
          · rw [List.getElem?_eq_none (by simp; omega)] at hc
            cases hc
        rw [hj0] at hc hx'
        simp only [List.getElem?_cons_zero, Option.some.injEq] at hc hx'
        subst hc
        subst hx'
        exact ⟨lx, rfl, (hx.same hs2).is⟩
    · rw [List.length_append, e1]
      simp only [List.length_cons, List.length_nil]
      omega
  · exact (h.low.grown hg h.low.size (fun q hq => (hrow.lt q hq).1)).setCell (by show w.heap.size ≤ g; omega) v4
  · intro c hc u hu x hl e
    rcases List.mem_append.1 hc with h' | h'
    · exact h.apt c h' u hu x hl e
    · rw [List.mem_singleton] at h'
      subst h'
      simp only [keptV, List.mem_cons, List.not_mem_nil, or_false] at hu
      rcases hu with rfl | rfl | rfl | rfl | rfl
      · cases e
      · cases e
      · cases e
      · have := (hx.1.lt x e).1
        have := hub x hl
        omega
      · cases e
end Go.Proofs.Ytlaibljdlpmbfaa
/- Walks: replica.Copy. -/
namespace Go.Proofs.Ytlaibljdlpmbfaa
open Go.RowKit
set_option maxHeartbeats 1000000
set_option maxRecDepth 100000
theorem use {P Q : Prop} (h : P) (k : P → Q) : Q := k h
theorem repCopy_c (A0 : Option Addr) (n0 c0 : Nat) (A1 : Option Addr) (n1 c1 : Nat) (A2 : Option Addr) (n2 c2 : Nat) (A3 : Option Addr) (n3 c3 : Nat) (A4 : Option Addr) (n4 c4 : Nat) (r : Scu.Replica) (w : World) (B : Nat) (hr : IsRep w B (.slice A0 n0 c0) (.slice A1 n1 c1) (.slice A2 n2 c2) (.slice A3 n3 c3) (.slice A4 n4 c4) r) :
    Calls Try.prog 22 #[.agg #[.int .i64 r.me, .int .i64 r.kept.view, .int .i64 r.kept.normal, .bool r.kept.calm, .slice A0 n0 c0, .int .i64 r.kept.commit, .slice A1 n1 c1, .slice A2 n2 c2, .slice A3 n3 c3, .slice A4 n4 c4]] w fun e w' => RepRet w' w.heap.size r e ∧ Below w.heap.size w w' := by
  have HV := Lib.hid hr
  clear hr
  go_enter Try.func22, Try.ntmps22
  go_upto_region 1 with fail
  obtain ⟨Wd, hWd⟩ : ∃ W, W = (w.alloc (Obj.cells #[.int .i64 r.me, .int .i64 r.kept.view, .int .i64 r.kept.normal, .bool r.kept.calm, .slice A0 n0 c0, .int .i64 r.kept.commit, .slice A1 n1 c1, .slice A2 n2 c2, .slice A3 n3 c3, .slice A4 n4 c4] 29)).alloc (Obj.cells #[.int .i64 0, .int .i64 0, .int .i64 0, .bool false, .slice none 0 0, .int .i64 0, .slice none 0 0, .slice none 0 0, .slice none 0 0, .slice none 0 0] 29) := ⟨_, rfl⟩
  rw [← hWd]
  have hb : Below w.heap.size w Wd := by rw [hWd]; exact (below_alloc w _).alloc (by simp) _
  have hs : Blk Wd w.heap.size 29 #[.int .i64 r.me, .int .i64 r.kept.view, .int .i64 r.kept.normal, .bool r.kept.calm, .slice A0 n0 c0, .int .i64 r.kept.commit, .slice A1 n1 c1, .slice A2 n2 c2, .slice A3 n3 c3, .slice A4 n4 c4] := by rw [hWd]; exact (Blk.new w _ _).alloc _
  have hz : Blk Wd (w.heap.size + 1) 29 #[.int .i64 0, .int .i64 0, .int .i64 0, .bool false, .slice none 0 0, .int .i64 0, .slice none 0 0, .slice none 0 0, .slice none 0 0, .slice none 0 0] := by rw [hWd]; exact Blk.new' (by simp)
  have s0 := hs.cell 0
  have s1 := hs.cell 1
  have s2 := hs.cell 2
  have s3 := hs.cell 3
  have s4 := hs.cell 4
  have s5 := hs.cell 5
  have s6 := hs.cell 6
  have s7 := hs.cell 7
  have s8 := hs.cell 8
  have s9 := hs.cell 9
  simp only [List.getElem?_toArray, List.getElem?_cons_zero, List.getElem?_cons_succ] at s0 s1 s2 s3 s4 s5 s6 s7 s8 s9
  have sz := hs.frozen
  have sl := hs.lt
  have hzl := hz.lt
  have HR0 := Lib.hid (HV.out.below hb)
  have HS := Lib.hid (And.intro hs (And.intro hz hb))
  clear hs hz hb hWd
  go_cut [3] (fun p wx => ∃ g lu hv wv nv, p = .pointer (some ⟨g, 0, none⟩) ∧ Rep0 Wd r g lu hv wv nv wx)
  case first =>
    go_region_held3 (fun w' => w'.cell? ⟨w.heap.size, 0, none⟩ = some (.int .i64 r.me) ∧ w'.cell? ⟨w.heap.size, 1, none⟩ = some (.int .i64 r.kept.view) ∧ w'.cell? ⟨w.heap.size, 2, none⟩ = some (.int .i64 r.kept.normal) ∧ w'.cell? ⟨w.heap.size, 3, none⟩ = some (.bool r.kept.calm) ∧ w'.cell? ⟨w.heap.size, 4, none⟩ = some (.slice A0 n0 c0) ∧ w'.cell? ⟨w.heap.size, 5, none⟩ = some (.int .i64 r.kept.commit) ∧ w'.cell? ⟨w.heap.size, 6, none⟩ = some (.slice A1 n1 c1) ∧ w'.cell? ⟨w.heap.size, 7, none⟩ = some (.slice A2 n2 c2) ∧ w'.cell? ⟨w.heap.size, 9, none⟩ = some (.slice A4 n4 c4)) (first | (go_split_ands; (try dsimp only); (repeat' apply And.intro) <;> first | (with_reducible refine ((below_set10 M4.out ?_).cell sl).trans ?_ <;> first | assumption | omega) | (with_reducible refine (M4.out.cell sl).trans ?_; assumption) | (with_reducible refine ((M4.out.alloc M4.out.size _).cell sl).trans ?_; assumption) | (with_reducible refine (M3.out.cell sl).trans ?_; assumption) | (with_reducible refine ((M3.out.alloc M3.out.size _).cell sl).trans ?_; assumption) | (with_reducible refine (M2.out.cell sl).trans ?_; assumption) | (with_reducible refine ((M2.out.alloc M2.out.size _).cell sl).trans ?_; assumption) | (with_reducible refine (M1.out.cell sl).trans ?_; assumption) | (with_reducible refine ((M1.out.alloc M1.out.size _).cell sl).trans ?_; assumption) | (with_reducible refine ((below_alloc Wd _).cell sl).trans ?_; assumption)) | go_keep | (go_split_ands; (try dsimp only); (repeat' apply And.intro) <;> go_keep))
      (first
      | (go_at_call 41; refine (stageCopy_c _ r.kept _ B ?_).mono ?_; (first | exact HR0.out.log.drewN 1 | exact (HR0.out.log.alloc _).drewN 1 | exact (HR0.out.log.drewN 1).alloc _); rintro en x1 ⟨⟨v1, rfl, hu⟩, k1⟩
         refine use (P := Below Wd.heap.size Wd x1) ?_ ?_
         (first | exact (below_drewN (Below.refl _ _) 1).trans k1 | exact (below_drewN (below_alloc Wd (Obj.cells #[.int .i64 0, .int .i64 0, .int .i64 0, .bool false, .slice none 0 0, .int .i64 0, .slice none 0 0, .slice none 0 0, .slice none 0 0, .slice none 0 0] 29)) 1).trans (k1.mono (Nat.le_succ_of_le (Nat.le_refl _))) | exact ((below_drewN (Below.refl _ _) 1).alloc (Nat.le_refl _) (Obj.cells #[.int .i64 0, .int .i64 0, .int .i64 0, .bool false, .slice none 0 0, .int .i64 0, .slice none 0 0, .slice none 0 0, .slice none 0 0, .slice none 0 0] 29)).trans (k1.mono (by simp)))
         intro nn1
         have N1 := Lib.hid nn1
         have M1 := Lib.hid (nn1)
         have sz1 := nn1.size
         have lw1 : w.heap.size < x1.heap.size := Nat.lt_of_lt_of_le sl nn1.size
         have ld1 : Wd.heap.size ≤ x1.heap.size := M1.out.size
         clear nn1
         refine use (P := OwnStrs x1 Wd.heap.size v1 r.kept.log) ?_ ?_
         (first | exact hu | exact hu.base_ (by simp))
         clear hu; intro hu
         obtain ⟨A5, n5, c5, rfl⟩ := hu.form
         have O1 := Lib.hid hu
         (try (refine use (P := Blk x1 Wd.heap.size 29 #[.int .i64 0, .int .i64 0, .int .i64 0, .bool false, .slice none 0 0, .int .i64 0, .slice none 0 0, .slice none 0 0, .slice none 0 0, .slice none 0 0]) ?_ ?_; (first | exact ((Blk.new Wd _ _).drew).same k1 | exact (Blk.new (Wd.drewN 1) _ _).same k1); intro hbo; have HBO := Lib.hid hbo; clear hbo))
         clear hu k1)
      | (go_at_call 42; refine (cloneInts_c _ r.have_ _ B ?_).mono ?_; (first | exact HR0.out.have_.below M1.out | exact (HR0.out.have_.below M1.out).alloc _); rintro en x2 ⟨⟨v2, rfl, hu⟩, k2⟩
         refine use (P := Below x1.heap.size x1 x2) ?_ ?_
         (first | exact k2 | exact (below_alloc x1 (Obj.cells #[.int .i64 0, .int .i64 0, .int .i64 0, .bool false, .slice none 0 0, .int .i64 0, .slice none 0 0, .slice none 0 0, .slice none 0 0, .slice none 0 0] 29)).trans (k2.mono (by simp)))
         intro nn2
         have N2 := Lib.hid nn2
         have M2 := Lib.hid (M1.out.trans (nn2.mono M1.out.size))
         have sz2 := nn2.size
         have lw2 : w.heap.size < x2.heap.size := Nat.lt_of_lt_of_le lw1 nn2.size
         have ld2 : Wd.heap.size ≤ x2.heap.size := M2.out.size
         clear nn2
         refine use (P := x2.ownsRow x1.heap.size 3 1 v2 r.have_.length (r.have_.map vInt)) ?_ ?_
         (first | exact hu | exact ownsRow_base hu (by simp))
         clear hu; intro hu
         obtain ⟨A6, c6, rfl, _, _, _, hlt2⟩ := rd_own hu
         have O2 := Lib.hid (ownsRow_base hu ld1)
         have L2 := Lib.hid hlt2
         clear hlt2
         (try (have hbo := HBO.out.same N2.out; have HBO := Lib.hid hbo; clear hbo))
         (try (refine use (P := Blk x2 x1.heap.size 29 #[.int .i64 0, .int .i64 0, .int .i64 0, .bool false, .slice none 0 0, .int .i64 0, .slice none 0 0, .slice none 0 0, .slice none 0 0, .slice none 0 0]) ?_ ?_; (first | exact (Blk.new x1 _ _).same k2); intro hbo; have HBO := Lib.hid hbo; clear hbo))
         clear hu k2)
      | (go_at_call 43; refine (cloneBools_c _ r.wants _ B ?_).mono ?_; (first | exact HR0.out.wants.below M2.out | exact (HR0.out.wants.below M2.out).alloc _); rintro en x3 ⟨⟨v3, rfl, hu⟩, k3⟩
         refine use (P := Below x2.heap.size x2 x3) ?_ ?_
         (first | exact k3 | exact (below_alloc x2 (Obj.cells #[.int .i64 0, .int .i64 0, .int .i64 0, .bool false, .slice none 0 0, .int .i64 0, .slice none 0 0, .slice none 0 0, .slice none 0 0, .slice none 0 0] 29)).trans (k3.mono (by simp)))
         intro nn3
         have N3 := Lib.hid nn3
         have M3 := Lib.hid (M2.out.trans (nn3.mono M2.out.size))
         have sz3 := nn3.size
         have lw3 : w.heap.size < x3.heap.size := Nat.lt_of_lt_of_le lw2 nn3.size
         have ld3 : Wd.heap.size ≤ x3.heap.size := M3.out.size
         clear nn3
         refine use (P := x3.ownsRow x2.heap.size 4 1 v3 r.wants.length (r.wants.map Value.bool)) ?_ ?_
         (first | exact hu | exact ownsRow_base hu (by simp))
         clear hu; intro hu
         obtain ⟨A7, c7, rfl, _, _, _, hlt3⟩ := rd_own hu
         have O3 := Lib.hid (ownsRow_base hu ld2)
         have L3 := Lib.hid hlt3
         clear hlt3
         (try (have hbo := HBO.out.same N3.out; have HBO := Lib.hid hbo; clear hbo))
         (try (refine use (P := Blk x3 x2.heap.size 29 #[.int .i64 0, .int .i64 0, .int .i64 0, .bool false, .slice none 0 0, .int .i64 0, .slice none 0 0, .slice none 0 0, .slice none 0 0, .slice none 0 0]) ?_ ?_; (first | exact (Blk.new x2 _ _).same k3); intro hbo; have HBO := Lib.hid hbo; clear hbo))
         clear hu k3)
      | (go_at_call 43; refine (cloneBools_c _ r.given _ B ?_).mono ?_; (first | exact HR0.out.given.below M3.out | exact (HR0.out.given.below M3.out).alloc _); rintro en x4 ⟨⟨v4, rfl, hu⟩, k4⟩
         refine use (P := Below x3.heap.size x3 x4) ?_ ?_
         (first | exact k4 | exact (below_alloc x3 (Obj.cells #[.int .i64 0, .int .i64 0, .int .i64 0, .bool false, .slice none 0 0, .int .i64 0, .slice none 0 0, .slice none 0 0, .slice none 0 0, .slice none 0 0] 29)).trans (k4.mono (by simp)))
         intro nn4
         have N4 := Lib.hid nn4
         have M4 := Lib.hid (M3.out.trans (nn4.mono M3.out.size))
         have sz4 := nn4.size
         have lw4 : w.heap.size < x4.heap.size := Nat.lt_of_lt_of_le lw3 nn4.size
         have ld4 : Wd.heap.size ≤ x4.heap.size := M4.out.size
         clear nn4
         refine use (P := x4.ownsRow x3.heap.size 4 1 v4 r.given.length (r.given.map Value.bool)) ?_ ?_
         (first | exact hu | exact ownsRow_base hu (by simp))
         clear hu; intro hu
         obtain ⟨A8, c8, rfl, _, _, _, hlt4⟩ := rd_own hu
         have O4 := Lib.hid (ownsRow_base hu ld3)
         have L4 := Lib.hid hlt4
         clear hlt4
         (try (have hbo := HBO.out.same N4.out; have HBO := Lib.hid hbo; clear hbo))
         (try (refine use (P := Blk x4 x3.heap.size 29 #[.int .i64 0, .int .i64 0, .int .i64 0, .bool false, .slice none 0 0, .int .i64 0, .slice none 0 0, .slice none 0 0, .slice none 0 0, .slice none 0 0]) ?_ ?_; (first | exact (Blk.new x3 _ _).same k4); intro hbo; have HBO := Lib.hid hbo; clear hbo))
         (try (have b0 := HBO.out.cell 0; have b1 := HBO.out.cell 1; have b2 := HBO.out.cell 2; have b3 := HBO.out.cell 3; have b4 := HBO.out.cell 4; have b5 := HBO.out.cell 5; have b6 := HBO.out.cell 6; have b7 := HBO.out.cell 7; have b8 := HBO.out.cell 8; have b9 := HBO.out.cell 9; simp only [List.getElem?_toArray, List.getElem?_cons_zero, List.getElem?_cons_succ] at b0 b1 b2 b3 b4 b5 b6 b7 b8 b9; have bz := HBO.out.frozen; have bl := HBO.out.lt))
         clear hu k4))
    all_goals
      go_wp2_with fail
      go_meet
      have O1' := (O1.out.below (N2.out.trans (N3.out.mono sz2))).below N4.out
      have O2' := own_below (own_below O2.out N3.out) N4.out
      have O3' := own_below O3.out N4.out
      have HOR : OwnRep0 x4 Wd.heap.size _ _ _ _ r := ⟨O1', ⟨O2', HV.out.have_.len⟩, ⟨O3', HV.out.wants.len⟩, ⟨O4.out, HV.out.given.len⟩, fun g h1 h2 => by have := (L3.out g h1).2; have := (L4.out g h2).1; omega⟩
      first
        | (refine ⟨x4.heap.size, .slice A5 n5 c5, .slice A6 r.have_.length c6, .slice A7 r.wants.length c7, .slice A8 r.given.length c8, rfl, ?_⟩; exact rep0_new M4.out HOR)
        | (refine ⟨Wd.heap.size, .slice A5 n5 c5, .slice A6 r.have_.length c6, .slice A7 r.wants.length c7, .slice A8 r.given.length c8, rfl, ?_⟩; exact rep0_set M4.out HOR HBO.out (Nat.le_refl _))
        | (refine ⟨x1.heap.size, .slice A5 n5 c5, .slice A6 r.have_.length c6, .slice A7 r.wants.length c7, .slice A8 r.given.length c8, rfl, ?_⟩; exact rep0_set M4.out HOR HBO.out ld1)
        | (refine ⟨x2.heap.size, .slice A5 n5 c5, .slice A6 r.have_.length c6, .slice A7 r.wants.length c7, .slice A8 r.given.length c8, rfl, ?_⟩; exact rep0_set M4.out HOR HBO.out ld2)
        | (refine ⟨x3.heap.size, .slice A5 n5 c5, .slice A6 r.have_.length c6, .slice A7 r.wants.length c7, .slice A8 r.given.length c8, rfl, ?_⟩; exact rep0_set M4.out HOR HBO.out ld3)
  case rest =>
  obtain ⟨g, lu, hv, wv, nv, rfl, hR⟩ := hcut
  obtain ⟨A5, n5, c5, rfl⟩ := hR.own.log.form
  obtain ⟨A6, n6, c6, rfl⟩ := hR.own.have_.form
  obtain ⟨A7, n7, c7, rfl⟩ := hR.own.wants.form
  obtain ⟨A8, n8, c8, rfl⟩ := hR.own.given.form
  have hlow := hR.low
  have hwd := HS.out.2.2.size
  have hs := HS.out.1.same hlow
  have hz := HS.out.2.1.same hlow
  have hb := HS.out.2.2.trans (hlow.mono hwd)
  obtain ⟨⟨Ag, cg, csg, eg, hcg, hcl, hc5, hrg, hge⟩, hgm⟩ := HV.out.gives
  obtain ⟨rfl, rfl, rfl⟩ : A3 = Ag ∧ n3 = r.gives.length ∧ c3 = cg := by cases eg; exact ⟨rfl, rfl, rfl⟩
  have hI : GivI w #[.int .i64 r.me, .int .i64 r.kept.view, .int .i64 r.kept.normal, .bool r.kept.calm, .slice A0 n0 c0, .int .i64 r.kept.commit, .slice A1 n1 c1, .slice A2 n2 c2, .slice A3 r.gives.length c3, .slice A4 n4 c4] g r (.slice A5 n5 c5) (.slice A6 n6 c6) (.slice A7 n7 c7) (.slice A8 n8 c8) 0 (.slice none 0 0) [] wc := ⟨hz, hs, hR.out, hR.own.base_ hwd, OwnKs.nil_, by have := hR.lo; omega, hb, fun c hc => by cases hc⟩
  have HI := Lib.hid hI
  have HG := Lib.hid (And.intro hcl (And.intro hc5 (And.intro hrg (And.intro hge hgm))))
  unfold R47 at hgm
  clear s0 s1 s2 s3 s4 s5 s6 s7 s8 s9 sz sl eg hcl hc5 hrg hge
  have s0 := hs.cell 0
  have s1 := hs.cell 1
  have s2 := hs.cell 2
  have s3 := hs.cell 3
  have s4 := hs.cell 4
  have s5 := hs.cell 5
  have s6 := hs.cell 6
  have s7 := hs.cell 7
  have s8 := hs.cell 8
  have s9 := hs.cell 9
  simp only [List.getElem?_toArray, List.getElem?_cons_zero, List.getElem?_cons_succ] at s0 s1 s2 s3 s4 s5 s6 s7 s8 s9
  have sz := hs.frozen
  have sl := hs.lt
  clear hs hz hb hI hR hlow
  go_wp2_with fail
  go_loopw [24] (fun i wr => ∃ (k : Nat) (Ak : Option Addr) (nk ck : Nat) (css : List (List Value)), k ≤ r.gives.length ∧ i = .int .i64 k ∧ GivI w #[.int .i64 r.me, .int .i64 r.kept.view, .int .i64 r.kept.normal, .bool r.kept.calm, .slice A0 n0 c0, .int .i64 r.kept.commit, .slice A1 n1 c1, .slice A2 n2 c2, .slice A3 r.gives.length c3, .slice A4 n4 c4] g r (.slice A5 n5 c5) (.slice A6 n6 c6) (.slice A7 n7 c7) (.slice A8 n8 c8) k (.slice Ak nk ck) css wr) (fun i _ => r.gives.length - (intOf i).toNat)
  case atStart => exact ⟨0, none, 0, 0, [], Nat.zero_le _, rfl, HI.out⟩
  case round =>
    obtain ⟨k, Ak, nk, ck, css, hk, rfl, hI⟩ := hrel
    have hlo := hI.lo
    have hout := hI.out
    have hres := hI.res
    have harg := hI.arg
    clear s0 s1 s2 s3 s4 s5 s6 s7 s8 s9 sz sl
    have o0 := hout.cell 0
    have o1 := hout.cell 1
    have o2 := hout.cell 2
    have o3 := hout.cell 3
    have o4 := hout.cell 4
    have o5 := hout.cell 5
    have o6 := hout.cell 6
    have o7 := hout.cell 7
    have o8 := hout.cell 8
    have o9 := hout.cell 9
    simp only [List.getElem?_toArray, List.getElem?_cons_zero, List.getElem?_cons_succ] at o0 o1 o2 o3 o4 o5 o6 o7 o8 o9
    have oz := hout.frozen
    have ol := hout.lt
    have hzl2 := hres.lt
    have HIr := Lib.hid hI
    by_cases hlt : k < r.gives.length
    · have hlt' : (k : Int) < (r.gives.length : Int) := by omega
      obtain ⟨gg, og, lg, rfl, hgg, k0, k1, k2, k3, k4, hlg⟩ := kepts_get (k := k) HG.out.1 HG.out.2.1 (HG.out.2.2.1.below HIr.out.low) (fun j cs x a b => (HG.out.2.2.2.1 j cs x a b).same (Ts := [9]) (by simp) (Same.below HIr.out.low)) hlt
      obtain ⟨Al, nl, cl, rfl⟩ := hlg.form
      have HLG := Lib.hid hlg
      clear hlg hI hout hres
      go_wp2_with fail
      obtain ⟨We, hWe⟩ : ∃ W, W = wr.alloc (Obj.cells #[.int .i64 r.gives[k].view, .int .i64 r.gives[k].normal, .bool r.gives[k].calm, .slice Al nl cl, .int .i64 r.gives[k].commit] 24) := ⟨_, rfl⟩
      rw [← hWe]
      have hbe : Below wr.heap.size wr We := by rw [hWe]; exact below_alloc _ _
      have hkb : Blk We wr.heap.size 24 #[.int .i64 r.gives[k].view, .int .i64 r.gives[k].normal, .bool r.gives[k].calm, .slice Al nl cl, .int .i64 r.gives[k].commit] := by rw [hWe]; exact Blk.new _ _ _
      have hIe := HIr.out.below hbe
      have hLe := HLG.out.below hbe
      have q0 := hkb.cell 0
      have q1 := hkb.cell 1
      have q2 := hkb.cell 2
      have q3 := hkb.cell 3
      have q4 := hkb.cell 4
      simp only [List.getElem?_toArray, List.getElem?_cons_zero, List.getElem?_cons_succ] at q0 q1 q2 q3 q4
      have ql := hkb.lt
      clear hWe hbe hkb k0 k1 k2 k3 k4 o0 o1 o2 o3 o4 o5 o6 o7 o8 o9 oz ol
      have HIE := Lib.hid hIe
      have HLE := Lib.hid hLe
      have e1 : (r.gives.take k).length = k := by rw [List.length_take]; omega
      have HROW := Lib.hid (show We.ownsRow w.heap.size 24 5 (.slice Ak nk ck) k css.flatten by have h := hIe.giv.row; rw [e1] at h; exact h)
      have hoe := hIe.out
      have e8 := hoe.cell 8
      simp only [List.getElem?_toArray, List.getElem?_cons_zero, List.getElem?_cons_succ] at e8
      have ez := hoe.frozen
      have el := hoe.lt
      clear hIe hLe hoe e1
      go_region_law (first
        | (go_simp; go_at_call 41; refine (stageCopy_c _ r.gives[k] _ B ?_).mono ?_; (first | exact HLE.out.drewN 1 | exact HLE.out); rintro en x3 ⟨⟨lx, rfl, hx⟩, h3⟩
           refine use (P := Below We.heap.size We x3) ?_ ?_
           (first | exact (below_drewN (Below.refl _ _) 1).trans h3 | exact h3)
           intro h3'
           refine use (P := OwnStrs x3 We.heap.size lx r.gives[k].log) ?_ ?_
           (exact hx)
           clear hx; intro hx
           obtain ⟨Ax, nx, cx, rfl⟩ := hx.form
           have HX := Lib.hid hx
           have H3 := Lib.hid h3'
           have f8 := (h3'.cell (p := ⟨g, 8, none⟩) el).trans e8
           have fz := ((bcell h3').2 g 8 el).trans (ez 8)
           have h3s := h3'.size
           have fl : g < x3.heap.size := Nat.lt_of_lt_of_le el h3s
           have f8a : ∀ o, (x3.alloc o).cell? ⟨g, 8, none⟩ = some (.slice Ak nk ck) := fun o => ((below_alloc x3 o).cell (p := ⟨g, 8, none⟩) fl).trans f8
           clear hx h3 h3')
        | (refine step_app _ rfl (.tmp 29) (.tmp 32) 27 rfl el_kepts w.heap.size (.slice Ak nk ck) k css.flatten rfl ?_ (.slice (some ⟨x3.heap.size, 0, none⟩) 1 1) 1 (keptV r.gives[k] (.slice Ax nx cx)) rfl ⟨rfl, .inr ⟨_, _, rfl, ?_⟩⟩ ?_ ?_ ?_ ?_ ?_
           · exact own_below (own_below HROW.out H3.out) (below_alloc x3 _)
           · intro j v hj
             have hj5 : j < 5 := by (rcases Nat.lt_or_ge j 5 with h | h; exact h; rw [List.getElem?_eq_none h] at hj; cases hj)
             have hadd : (⟨x3.heap.size, 0, none⟩ : Addr).add j = ⟨x3.heap.size, j, none⟩ := by (unfold Addr.add; split <;> simp_all)
             rw [hadd, (Blk.new x3 24 #[.int .i64 r.gives[k].view, .int .i64 r.gives[k].normal, .bool r.gives[k].calm, .slice Ax nx cx, .int .i64 r.gives[k].commit]).cell j]
             simpa [keptV] using hj
           · (intro v hv; simp only [keptV, List.mem_cons, List.not_mem_nil, or_false] at hv; rcases hv with rfl | rfl | rfl | rfl | rfl <;> rfl)
           · (unfold maxLen; omega)
           · omega
           · (have := HIE.out.low.size; simp; omega)
           intro v4 x4 h4 hg4 _
           have hIP := (HIE.out.below H3.out).below (below_alloc x3 (Obj.cells #[.int .i64 r.gives[k].view, .int .i64 r.gives[k].normal, .bool r.gives[k].calm, .slice Ax nx cx, .int .i64 r.gives[k].commit] 24))
           have hn4 := giv_next hIP hlt HG.out.2.2.2.2 (HX.out.below (below_alloc x3 (Obj.cells #[.int .i64 r.gives[k].view, .int .i64 r.gives[k].normal, .bool r.gives[k].calm, .slice Ax nx cx, .int .i64 r.gives[k].commit] 24))) (fun x hl => (HIE.out.own.log.1.lt x hl).2) h4 hg4
           have hrow3 := own_below (own_below HROW.out H3.out) (below_alloc x3 (Obj.cells #[.int .i64 r.gives[k].view, .int .i64 r.gives[k].normal, .bool r.gives[k].calm, .slice Ax nx cx, .int .i64 r.gives[k].commit] 24))
           have hb4 := blk_growm hIP.out hrow3 (by decide) hg4
           have g8 := hb4.cell 8
           simp only [List.getElem?_toArray, List.getElem?_cons_zero, List.getElem?_cons_succ] at g8
           have gz := hb4.frozen
           have gl := hb4.lt
           obtain ⟨A9, c9, rfl, _, _, _, _⟩ := rd_own h4
           have HN4 := Lib.hid hn4
           clear hIP hn4 h4 hg4 hb4 hrow3))
      all_goals (go_wp2; go_roundw)
      all_goals first
        | exact ⟨k + 1, A9, k + 1, c9, _, by omega, rfl, HN4.out⟩
        | (simp [intOf]; omega)
    · have hk' : k = r.gives.length := by omega
      have hge' : ¬ (k : Int) < (r.gives.length : Int) := by omega
      have hIe := hI
      have e1 : r.gives.take k = r.gives := by rw [hk', List.take_length]
      have HO := Lib.hid (show OwnRep wr w.heap.size (.slice A5 n5 c5) (.slice A6 n6 c6) (.slice A7 n7 c7) (.slice Ak nk ck) (.slice A8 n8 c8) r from ⟨hI.own, css, e1 ▸ hI.giv⟩)
      have HAP := Lib.hid (show ApG wr w.heap.size (.slice Ak nk ck) r.gives (.slice A5 n5 c5) from ⟨css, e1 ▸ hI.giv, hI.apt⟩)
      have HRS := Lib.hid hres
      have hr10 := blk_set10 (a0 := .int .i64 r.me) (a1 := .int .i64 r.kept.view) (a2 := .int .i64 r.kept.normal) (a3 := .bool r.kept.calm) (a4 := .slice A5 n5 c5) (a5 := .int .i64 r.kept.commit) (a6 := .slice A6 n6 c6) (a7 := .slice A7 n7 c7) (a8 := .slice Ak nk ck) (a9 := .slice A8 n8 c8) hres
      have z0 := hres.cell 0
      have z1 := hres.cell 1
      have z2 := hres.cell 2
      have z3 := hres.cell 3
      have z4 := hres.cell 4
      have z5 := hres.cell 5
      have z6 := hres.cell 6
      have z7 := hres.cell 7
      have z8 := hres.cell 8
      have z9 := hres.cell 9
      simp only [List.getElem?_toArray, List.getElem?_cons_zero, List.getElem?_cons_succ] at z0 z1 z2 z3 z4 z5 z6 z7 z8 z9
      have zz := hres.frozen
      have zl := hres.lt
      have r0 := hr10.cell 0
      have r1 := hr10.cell 1
      have r2 := hr10.cell 2
      have r3 := hr10.cell 3
      have r4 := hr10.cell 4
      have r5 := hr10.cell 5
      have r6 := hr10.cell 6
      have r7 := hr10.cell 7
      have r8 := hr10.cell 8
      have r9 := hr10.cell 9
      simp only [List.getElem?_toArray, List.getElem?_cons_zero, List.getElem?_cons_succ] at r0 r1 r2 r3 r4 r5 r6 r7 r8 r9
      have rz := hr10.frozen
      have rl := hr10.lt
      clear hI hout hIe hk' hk e1 hr10 hres
      go_wp2
      refine bodyPost_ret (v := .agg #[.int .i64 r.me, .int .i64 r.kept.view, .int .i64 r.kept.normal, .bool r.kept.calm, .slice A5 n5 c5, .int .i64 r.kept.commit, .slice A6 n6 c6, .slice A7 n7 c7, .slice Ak nk ck, .slice A8 n8 c8]) (by simp [results, Try.results22, go_sem, r0, r1, r2, r3, r4, r5, r6, r7, r8, r9]) rfl ?_
      exact ⟨⟨_, _, _, _, _, rfl, HO.out.same (Same.sets10 HRS.out (Nat.zero_le _) (by decide)), HAP.out.same (Same.sets10 HRS.out (Nat.zero_le _) (by decide))⟩, below_set10 HIr.out.low (Nat.le_succ _)⟩
end Go.Proofs.Ytlaibljdlpmbfaa
/- Walks: ref.ReplicaCopy. -/
namespace Go.Proofs.Ytlaibljdlpmbfaa
open Go.RowKit
set_option maxHeartbeats 1000000
set_option maxRecDepth 100000
theorem repCopyRef_c (A0 : Option Addr) (n0 c0 : Nat) (A1 : Option Addr) (c1 : Nat) (A2 : Option Addr) (c2 : Nat) (A3 : Option Addr) (n3 c3 : Nat) (A4 : Option Addr) (c4 : Nat) (r : Scu.Replica) (w : World) (B : Nat) (hr : IsRep w B (.slice A0 n0 c0) (.slice A1 r.have_.length c1) (.slice A2 r.wants.length c2) (.slice A3 n3 c3) (.slice A4 r.given.length c4) r) :
    Calls Try.prog 4 #[.agg #[.int .i64 r.me, .int .i64 r.kept.view, .int .i64 r.kept.normal, .bool r.kept.calm, .slice A0 n0 c0, .int .i64 r.kept.commit, .slice A1 r.have_.length c1, .slice A2 r.wants.length c2, .slice A3 n3 c3, .slice A4 r.given.length c4]] w fun e w' => RepRet w' w.heap.size r e ∧ Below w.heap.size w w' := by
  have HV := Lib.hid hr
  clear hr
  go_enter Try.func4, Try.ntmps4
  go_upto_region 1 with fail
  obtain ⟨Wd, hWd⟩ : ∃ W, W = (w.alloc (Obj.cells #[.int .i64 r.me, .int .i64 r.kept.view, .int .i64 r.kept.normal, .bool r.kept.calm, .slice A0 n0 c0, .int .i64 r.kept.commit, .slice A1 r.have_.length c1, .slice A2 r.wants.length c2, .slice A3 n3 c3, .slice A4 r.given.length c4] 29)).alloc (Obj.cells #[.int .i64 0, .int .i64 0, .int .i64 0, .bool false, .slice none 0 0, .int .i64 0, .slice none 0 0, .slice none 0 0, .slice none 0 0, .slice none 0 0] 29) := ⟨_, rfl⟩
  rw [← hWd]
  have hb : Below w.heap.size w Wd := by rw [hWd]; exact (below_alloc w _).alloc (by simp) _
  have hs : Blk Wd w.heap.size 29 #[.int .i64 r.me, .int .i64 r.kept.view, .int .i64 r.kept.normal, .bool r.kept.calm, .slice A0 n0 c0, .int .i64 r.kept.commit, .slice A1 r.have_.length c1, .slice A2 r.wants.length c2, .slice A3 n3 c3, .slice A4 r.given.length c4] := by rw [hWd]; exact (Blk.new w _ _).alloc _
  have hz : Blk Wd (w.heap.size + 1) 29 #[.int .i64 0, .int .i64 0, .int .i64 0, .bool false, .slice none 0 0, .int .i64 0, .slice none 0 0, .slice none 0 0, .slice none 0 0, .slice none 0 0] := by rw [hWd]; exact Blk.new' (by simp)
  have s0 := hs.cell 0
  have s1 := hs.cell 1
  have s2 := hs.cell 2
  have s3 := hs.cell 3
  have s4 := hs.cell 4
  have s5 := hs.cell 5
  have s6 := hs.cell 6
  have s7 := hs.cell 7
  have s8 := hs.cell 8
  have s9 := hs.cell 9
  simp only [List.getElem?_toArray, List.getElem?_cons_zero, List.getElem?_cons_succ] at s0 s1 s2 s3 s4 s5 s6 s7 s8 s9
  have sz := hs.frozen
  have sl := hs.lt
  have hzl := hz.lt
  have HR0 := Lib.hid (HV.out.below hb)
  have HS := Lib.hid (And.intro hs (And.intro hz hb))
  clear hs hz hb hWd
  obtain ⟨⟨B2, d2, f2, _, hd2⟩, hl2⟩ := HR0.out.have_
  obtain ⟨rfl, rfl⟩ : A1 = B2 ∧ c1 = d2 := by cases f2; exact ⟨rfl, rfl⟩
  have HRD2 := Lib.hid hd2
  have HNL2 := Lib.hid (show A1 = none → r.have_.length = 0 from fun e => by subst e; have := rd_none hd2; simpa using this)
  have HMX2 := Lib.hid (show 0 + r.have_.length ≤ maxLen ∧ (0 + r.have_.length) * 8 ≤ 140737488355328 by unfold R47 at hl2; unfold maxLen; omega)
  clear f2 hd2 hl2
  obtain ⟨⟨B3, d3, f3, _, hd3⟩, hl3⟩ := HR0.out.wants
  obtain ⟨rfl, rfl⟩ : A2 = B3 ∧ c2 = d3 := by cases f3; exact ⟨rfl, rfl⟩
  have HRD3 := Lib.hid hd3
  have HNL3 := Lib.hid (show A2 = none → r.wants.length = 0 from fun e => by subst e; have := rd_none hd3; simpa using this)
  have HMX3 := Lib.hid (show 0 + r.wants.length ≤ maxLen ∧ (0 + r.wants.length) * 1 ≤ 140737488355328 by unfold R47 at hl3; unfold maxLen; omega)
  clear f3 hd3 hl3
  obtain ⟨⟨B4, d4, f4, _, hd4⟩, hl4⟩ := HR0.out.given
  obtain ⟨rfl, rfl⟩ : A4 = B4 ∧ c4 = d4 := by cases f4; exact ⟨rfl, rfl⟩
  have HRD4 := Lib.hid hd4
  have HNL4 := Lib.hid (show A4 = none → r.given.length = 0 from fun e => by subst e; have := rd_none hd4; simpa using this)
  have HMX4 := Lib.hid (show 0 + r.given.length ≤ maxLen ∧ (0 + r.given.length) * 1 ≤ 140737488355328 by unfold R47 at hl4; unfold maxLen; omega)
  clear f4 hd4 hl4
  go_cut [3] (fun p wx => ∃ g lu hv wv nv, p = .pointer (some ⟨g, 0, none⟩) ∧ Rep0 Wd r g lu hv wv nv wx)
  case first =>
    go_region_held3 (fun w' => w'.cell? ⟨w.heap.size, 0, none⟩ = some (.int .i64 r.me) ∧ w'.cell? ⟨w.heap.size, 1, none⟩ = some (.int .i64 r.kept.view) ∧ w'.cell? ⟨w.heap.size, 2, none⟩ = some (.int .i64 r.kept.normal) ∧ w'.cell? ⟨w.heap.size, 3, none⟩ = some (.bool r.kept.calm) ∧ w'.cell? ⟨w.heap.size, 4, none⟩ = some (.slice A0 n0 c0) ∧ w'.cell? ⟨w.heap.size, 5, none⟩ = some (.int .i64 r.kept.commit) ∧ w'.cell? ⟨w.heap.size, 6, none⟩ = some (.slice A1 r.have_.length c1) ∧ w'.cell? ⟨w.heap.size, 7, none⟩ = some (.slice A2 r.wants.length c2) ∧ w'.cell? ⟨w.heap.size, 9, none⟩ = some (.slice A4 r.given.length c4)) (first | (go_split_ands; (try dsimp only); (repeat' apply And.intro) <;> first | (with_reducible refine ((below_set10 M4.out ?_).cell sl).trans ?_ <;> first | assumption | omega) | (with_reducible refine (M4.out.cell sl).trans ?_; assumption) | (with_reducible refine ((M4.out.alloc M4.out.size _).cell sl).trans ?_; assumption) | (with_reducible refine (M3.out.cell sl).trans ?_; assumption) | (with_reducible refine ((M3.out.alloc M3.out.size _).cell sl).trans ?_; assumption) | (with_reducible refine (M2.out.cell sl).trans ?_; assumption) | (with_reducible refine ((M2.out.alloc M2.out.size _).cell sl).trans ?_; assumption) | (with_reducible refine (M1.out.cell sl).trans ?_; assumption) | (with_reducible refine ((M1.out.alloc M1.out.size _).cell sl).trans ?_; assumption) | (with_reducible refine ((below_alloc Wd _).cell sl).trans ?_; assumption)) | go_keep | (go_split_ands; (try dsimp only); (repeat' apply And.intro) <;> go_keep))
      (first
      | (go_at_call 9; refine (keptCopy_c _ r.kept _ B ?_).mono ?_; (first | exact HR0.out.log.drewN 1 | exact (HR0.out.log.alloc _).drewN 1 | exact (HR0.out.log.drewN 1).alloc _); rintro en x1 ⟨⟨v1, rfl, hu⟩, k1⟩
         refine use (P := Below Wd.heap.size Wd x1) ?_ ?_
         (first | exact (below_drewN (Below.refl _ _) 1).trans k1 | exact (below_drewN (below_alloc Wd (Obj.cells #[.int .i64 0, .int .i64 0, .int .i64 0, .bool false, .slice none 0 0, .int .i64 0, .slice none 0 0, .slice none 0 0, .slice none 0 0, .slice none 0 0] 29)) 1).trans (k1.mono (Nat.le_succ_of_le (Nat.le_refl _))) | exact ((below_drewN (Below.refl _ _) 1).alloc (Nat.le_refl _) (Obj.cells #[.int .i64 0, .int .i64 0, .int .i64 0, .bool false, .slice none 0 0, .int .i64 0, .slice none 0 0, .slice none 0 0, .slice none 0 0, .slice none 0 0] 29)).trans (k1.mono (by simp)))
         intro nn1
         have N1 := Lib.hid nn1
         have M1 := Lib.hid (nn1)
         have sz1 := nn1.size
         have lw1 : w.heap.size < x1.heap.size := Nat.lt_of_lt_of_le sl nn1.size
         have ld1 : Wd.heap.size ≤ x1.heap.size := M1.out.size
         clear nn1
         refine use (P := OwnStrs x1 Wd.heap.size v1 r.kept.log) ?_ ?_
         (first | exact hu | exact hu.base_ (by simp))
         clear hu; intro hu
         obtain ⟨A5, n5, c5, rfl⟩ := hu.form
         have O1 := Lib.hid hu
         (try (refine use (P := Blk x1 Wd.heap.size 29 #[.int .i64 0, .int .i64 0, .int .i64 0, .bool false, .slice none 0 0, .int .i64 0, .slice none 0 0, .slice none 0 0, .slice none 0 0, .slice none 0 0]) ?_ ?_; (first | exact ((Blk.new Wd _ _).drew).same k1 | exact (Blk.new (Wd.drewN 1) _ _).same k1); intro hbo; have HBO := Lib.hid hbo; clear hbo))
         clear hu k1)
      | (refine step_app _ rfl (.const (.slice none 0 0)) (.tmp 11) 25 rfl el_ints x1.heap.size _ 0 [] rfl (World.ownsRow_nil _ _ _ _) (.slice A1 r.have_.length c1) r.have_.length (r.have_.map vInt) rfl ?_ (one_ints _) HMX2.out.1 HMX2.out.2 ?_ ?_
         · refine src_of_rd (size := 1) (B := B) (t := 3) ?_ (by simp) HNL2.out
           (first | exact HRD2.out.below M1.out | exact (HRD2.out.below M1.out).alloc _)
         · (first | exact Nat.le_refl _ | exact Nat.le_succ_of_le (Nat.le_refl _) | simp)
         intro v2 x2 hu hg _
         have k2 := below_grown hg (Nat.le_refl _) (fun q hq => by cases hq)
         refine use (P := Below x1.heap.size x1 x2) ?_ ?_
         (first | exact k2 | exact (below_alloc x1 (Obj.cells #[.int .i64 0, .int .i64 0, .int .i64 0, .bool false, .slice none 0 0, .int .i64 0, .slice none 0 0, .slice none 0 0, .slice none 0 0, .slice none 0 0] 29)).trans (k2.mono (by simp)))
         intro nn2
         have N2 := Lib.hid nn2
         have M2 := Lib.hid (M1.out.trans (nn2.mono M1.out.size))
         have sz2 := nn2.size
         have lw2 : w.heap.size < x2.heap.size := Nat.lt_of_lt_of_le lw1 nn2.size
         have ld2 : Wd.heap.size ≤ x2.heap.size := M2.out.size
         clear nn2
         refine use (P := x2.ownsRow x1.heap.size 3 1 v2 r.have_.length (r.have_.map vInt)) ?_ ?_
         (simpa only [Nat.zero_add, List.nil_append] using hu)
         clear hu; intro hu
         obtain ⟨A6, c6, rfl, _, _, _, hlt2⟩ := rd_own hu
         have O2 := Lib.hid (ownsRow_base hu ld1)
         have L2 := Lib.hid hlt2
         clear hlt2
         (try (have hbo := HBO.out.same N2.out; have HBO := Lib.hid hbo; clear hbo))
         (try (refine use (P := Blk x2 x1.heap.size 29 #[.int .i64 0, .int .i64 0, .int .i64 0, .bool false, .slice none 0 0, .int .i64 0, .slice none 0 0, .slice none 0 0, .slice none 0 0, .slice none 0 0]) ?_ ?_; (first | exact (Blk.new x1 _ _).same k2); intro hbo; have HBO := Lib.hid hbo; clear hbo))
         clear hu hg k2)
      | (refine step_app _ rfl (.const (.slice none 0 0)) (.tmp 14) 26 rfl el_bools x2.heap.size _ 0 [] rfl (World.ownsRow_nil _ _ _ _) (.slice A2 r.wants.length c2) r.wants.length (r.wants.map Value.bool) rfl ?_ (one_bools _) HMX3.out.1 HMX3.out.2 ?_ ?_
         · refine src_of_rd (size := 1) (B := B) (t := 4) ?_ (by simp) HNL3.out
           (first | exact HRD3.out.below M2.out | exact (HRD3.out.below M2.out).alloc _)
         · (first | exact Nat.le_refl _ | exact Nat.le_succ_of_le (Nat.le_refl _) | simp)
         intro v3 x3 hu hg _
         have k3 := below_grown hg (Nat.le_refl _) (fun q hq => by cases hq)
         refine use (P := Below x2.heap.size x2 x3) ?_ ?_
         (first | exact k3 | exact (below_alloc x2 (Obj.cells #[.int .i64 0, .int .i64 0, .int .i64 0, .bool false, .slice none 0 0, .int .i64 0, .slice none 0 0, .slice none 0 0, .slice none 0 0, .slice none 0 0] 29)).trans (k3.mono (by simp)))
         intro nn3
         have N3 := Lib.hid nn3
         have M3 := Lib.hid (M2.out.trans (nn3.mono M2.out.size))
         have sz3 := nn3.size
         have lw3 : w.heap.size < x3.heap.size := Nat.lt_of_lt_of_le lw2 nn3.size
         have ld3 : Wd.heap.size ≤ x3.heap.size := M3.out.size
         clear nn3
         refine use (P := x3.ownsRow x2.heap.size 4 1 v3 r.wants.length (r.wants.map Value.bool)) ?_ ?_
         (simpa only [Nat.zero_add, List.nil_append] using hu)
         clear hu; intro hu
         obtain ⟨A7, c7, rfl, _, _, _, hlt3⟩ := rd_own hu
         have O3 := Lib.hid (ownsRow_base hu ld2)
         have L3 := Lib.hid hlt3
         clear hlt3
         (try (have hbo := HBO.out.same N3.out; have HBO := Lib.hid hbo; clear hbo))
         (try (refine use (P := Blk x3 x2.heap.size 29 #[.int .i64 0, .int .i64 0, .int .i64 0, .bool false, .slice none 0 0, .int .i64 0, .slice none 0 0, .slice none 0 0, .slice none 0 0, .slice none 0 0]) ?_ ?_; (first | exact (Blk.new x2 _ _).same k3); intro hbo; have HBO := Lib.hid hbo; clear hbo))
         clear hu hg k3)
      | (refine step_app _ rfl (.const (.slice none 0 0)) (.tmp 17) 26 rfl el_bools x3.heap.size _ 0 [] rfl (World.ownsRow_nil _ _ _ _) (.slice A4 r.given.length c4) r.given.length (r.given.map Value.bool) rfl ?_ (one_bools _) HMX4.out.1 HMX4.out.2 ?_ ?_
         · refine src_of_rd (size := 1) (B := B) (t := 4) ?_ (by simp) HNL4.out
           (first | exact HRD4.out.below M3.out | exact (HRD4.out.below M3.out).alloc _)
         · (first | exact Nat.le_refl _ | exact Nat.le_succ_of_le (Nat.le_refl _) | simp)
         intro v4 x4 hu hg _
         have k4 := below_grown hg (Nat.le_refl _) (fun q hq => by cases hq)
         refine use (P := Below x3.heap.size x3 x4) ?_ ?_
         (first | exact k4 | exact (below_alloc x3 (Obj.cells #[.int .i64 0, .int .i64 0, .int .i64 0, .bool false, .slice none 0 0, .int .i64 0, .slice none 0 0, .slice none 0 0, .slice none 0 0, .slice none 0 0] 29)).trans (k4.mono (by simp)))
         intro nn4
         have N4 := Lib.hid nn4
         have M4 := Lib.hid (M3.out.trans (nn4.mono M3.out.size))
         have sz4 := nn4.size
         have lw4 : w.heap.size < x4.heap.size := Nat.lt_of_lt_of_le lw3 nn4.size
         have ld4 : Wd.heap.size ≤ x4.heap.size := M4.out.size
         clear nn4
         refine use (P := x4.ownsRow x3.heap.size 4 1 v4 r.given.length (r.given.map Value.bool)) ?_ ?_
         (simpa only [Nat.zero_add, List.nil_append] using hu)
         clear hu; intro hu
         obtain ⟨A8, c8, rfl, _, _, _, hlt4⟩ := rd_own hu
         have O4 := Lib.hid (ownsRow_base hu ld3)
         have L4 := Lib.hid hlt4
         clear hlt4
         (try (have hbo := HBO.out.same N4.out; have HBO := Lib.hid hbo; clear hbo))
         (try (refine use (P := Blk x4 x3.heap.size 29 #[.int .i64 0, .int .i64 0, .int .i64 0, .bool false, .slice none 0 0, .int .i64 0, .slice none 0 0, .slice none 0 0, .slice none 0 0, .slice none 0 0]) ?_ ?_; (first | exact (Blk.new x3 _ _).same k4); intro hbo; have HBO := Lib.hid hbo; clear hbo))
         (try (have b0 := HBO.out.cell 0; have b1 := HBO.out.cell 1; have b2 := HBO.out.cell 2; have b3 := HBO.out.cell 3; have b4 := HBO.out.cell 4; have b5 := HBO.out.cell 5; have b6 := HBO.out.cell 6; have b7 := HBO.out.cell 7; have b8 := HBO.out.cell 8; have b9 := HBO.out.cell 9; simp only [List.getElem?_toArray, List.getElem?_cons_zero, List.getElem?_cons_succ] at b0 b1 b2 b3 b4 b5 b6 b7 b8 b9; have bz := HBO.out.frozen; have bl := HBO.out.lt))
         clear hu hg k4))
    all_goals
      go_wp2_with fail
      go_meet
      have O1' := (O1.out.below (N2.out.trans (N3.out.mono sz2))).below N4.out
      have O2' := own_below (own_below O2.out N3.out) N4.out
      have O3' := own_below O3.out N4.out
      have HOR : OwnRep0 x4 Wd.heap.size _ _ _ _ r := ⟨O1', ⟨O2', HV.out.have_.len⟩, ⟨O3', HV.out.wants.len⟩, ⟨O4.out, HV.out.given.len⟩, fun g h1 h2 => by have := (L3.out g h1).2; have := (L4.out g h2).1; omega⟩
      first
        | (refine ⟨x4.heap.size, .slice A5 n5 c5, .slice A6 r.have_.length c6, .slice A7 r.wants.length c7, .slice A8 r.given.length c8, rfl, ?_⟩; exact rep0_new M4.out HOR)
        | (refine ⟨Wd.heap.size, .slice A5 n5 c5, .slice A6 r.have_.length c6, .slice A7 r.wants.length c7, .slice A8 r.given.length c8, rfl, ?_⟩; exact rep0_set M4.out HOR HBO.out (Nat.le_refl _))
        | (refine ⟨x1.heap.size, .slice A5 n5 c5, .slice A6 r.have_.length c6, .slice A7 r.wants.length c7, .slice A8 r.given.length c8, rfl, ?_⟩; exact rep0_set M4.out HOR HBO.out ld1)
        | (refine ⟨x2.heap.size, .slice A5 n5 c5, .slice A6 r.have_.length c6, .slice A7 r.wants.length c7, .slice A8 r.given.length c8, rfl, ?_⟩; exact rep0_set M4.out HOR HBO.out ld2)
        | (refine ⟨x3.heap.size, .slice A5 n5 c5, .slice A6 r.have_.length c6, .slice A7 r.wants.length c7, .slice A8 r.given.length c8, rfl, ?_⟩; exact rep0_set M4.out HOR HBO.out ld3)
  case rest =>
  obtain ⟨g, lu, hv, wv, nv, rfl, hR⟩ := hcut
  obtain ⟨A5, n5, c5, rfl⟩ := hR.own.log.form
  obtain ⟨A6, n6, c6, rfl⟩ := hR.own.have_.form
  obtain ⟨A7, n7, c7, rfl⟩ := hR.own.wants.form
  obtain ⟨A8, n8, c8, rfl⟩ := hR.own.given.form
  have hlow := hR.low
  have hwd := HS.out.2.2.size
  have hs := HS.out.1.same hlow
  have hz := HS.out.2.1.same hlow
  have hb := HS.out.2.2.trans (hlow.mono hwd)
  obtain ⟨⟨Ag, cg, csg, eg, hcg, hcl, hc5, hrg, hge⟩, hgm⟩ := HV.out.gives
  obtain ⟨rfl, rfl, rfl⟩ : A3 = Ag ∧ n3 = r.gives.length ∧ c3 = cg := by cases eg; exact ⟨rfl, rfl, rfl⟩
  have hI : GivI w #[.int .i64 r.me, .int .i64 r.kept.view, .int .i64 r.kept.normal, .bool r.kept.calm, .slice A0 n0 c0, .int .i64 r.kept.commit, .slice A1 r.have_.length c1, .slice A2 r.wants.length c2, .slice A3 r.gives.length c3, .slice A4 r.given.length c4] g r (.slice A5 n5 c5) (.slice A6 n6 c6) (.slice A7 n7 c7) (.slice A8 n8 c8) 0 (.slice none 0 0) [] wc := ⟨hz, hs, hR.out, hR.own.base_ hwd, OwnKs.nil_, by have := hR.lo; omega, hb, fun c hc => by cases hc⟩
  have HI := Lib.hid hI
  have HG := Lib.hid (And.intro hcl (And.intro hc5 (And.intro hrg (And.intro hge hgm))))
  unfold R47 at hgm
  clear s0 s1 s2 s3 s4 s5 s6 s7 s8 s9 sz sl eg hcl hc5 hrg hge
  have s0 := hs.cell 0
  have s1 := hs.cell 1
  have s2 := hs.cell 2
  have s3 := hs.cell 3
  have s4 := hs.cell 4
  have s5 := hs.cell 5
  have s6 := hs.cell 6
  have s7 := hs.cell 7
  have s8 := hs.cell 8
  have s9 := hs.cell 9
  simp only [List.getElem?_toArray, List.getElem?_cons_zero, List.getElem?_cons_succ] at s0 s1 s2 s3 s4 s5 s6 s7 s8 s9
  have sz := hs.frozen
  have sl := hs.lt
  clear hs hz hb hI hR hlow
  go_wp2_with fail
  go_loopw [4] (fun i wr => ∃ (k : Nat) (Ak : Option Addr) (nk ck : Nat) (css : List (List Value)), k ≤ r.gives.length ∧ i = .int .i64 k ∧ GivI w #[.int .i64 r.me, .int .i64 r.kept.view, .int .i64 r.kept.normal, .bool r.kept.calm, .slice A0 n0 c0, .int .i64 r.kept.commit, .slice A1 r.have_.length c1, .slice A2 r.wants.length c2, .slice A3 r.gives.length c3, .slice A4 r.given.length c4] g r (.slice A5 n5 c5) (.slice A6 n6 c6) (.slice A7 n7 c7) (.slice A8 n8 c8) k (.slice Ak nk ck) css wr) (fun i _ => r.gives.length - (intOf i).toNat)
  case atStart => exact ⟨0, none, 0, 0, [], Nat.zero_le _, rfl, HI.out⟩
  case round =>
    obtain ⟨k, Ak, nk, ck, css, hk, rfl, hI⟩ := hrel
    have hlo := hI.lo
    have hout := hI.out
    have hres := hI.res
    have harg := hI.arg
    clear s0 s1 s2 s3 s4 s5 s6 s7 s8 s9 sz sl
    have o0 := hout.cell 0
    have o1 := hout.cell 1
    have o2 := hout.cell 2
    have o3 := hout.cell 3
    have o4 := hout.cell 4
    have o5 := hout.cell 5
    have o6 := hout.cell 6
    have o7 := hout.cell 7
    have o8 := hout.cell 8
    have o9 := hout.cell 9
    simp only [List.getElem?_toArray, List.getElem?_cons_zero, List.getElem?_cons_succ] at o0 o1 o2 o3 o4 o5 o6 o7 o8 o9
    have oz := hout.frozen
    have ol := hout.lt
    have hzl2 := hres.lt
    have HIr := Lib.hid hI
    have s0 := harg.cell 0
    have s1 := harg.cell 1
    have s2 := harg.cell 2
    have s3 := harg.cell 3
    have s4 := harg.cell 4
    have s5 := harg.cell 5
    have s6 := harg.cell 6
    have s7 := harg.cell 7
    have s8 := harg.cell 8
    have s9 := harg.cell 9
    simp only [List.getElem?_toArray, List.getElem?_cons_zero, List.getElem?_cons_succ] at s0 s1 s2 s3 s4 s5 s6 s7 s8 s9
    have sz := harg.frozen
    have sl := harg.lt
    clear harg
    by_cases hlt : k < r.gives.length
    · have hlt' : (k : Int) < (r.gives.length : Int) := by omega
      obtain ⟨gg, og, lg, rfl, hgg, k0, k1, k2, k3, k4, hlg⟩ := kepts_get (k := k) HG.out.1 HG.out.2.1 (HG.out.2.2.1.below HIr.out.low) (fun j cs x a b => (HG.out.2.2.2.1 j cs x a b).same (Ts := [9]) (by simp) (Same.below HIr.out.low)) hlt
      obtain ⟨Al, nl, cl, rfl⟩ := hlg.form
      have HLG := Lib.hid hlg
      clear hlg hI hout hres
      go_wp2_with fail
      have hIe := HIr.out
      have hLe := HLG.out
      have HIE := Lib.hid hIe
      have HLE := Lib.hid hLe
      have e1 : (r.gives.take k).length = k := by rw [List.length_take]; omega
      have HROW := Lib.hid (show wr.ownsRow w.heap.size 24 5 (.slice Ak nk ck) k css.flatten by have h := hIe.giv.row; rw [e1] at h; exact h)
      have hoe := hIe.out
      have e8 := hoe.cell 8
      simp only [List.getElem?_toArray, List.getElem?_cons_zero, List.getElem?_cons_succ] at e8
      have ez := hoe.frozen
      have el := hoe.lt
      clear hIe hLe hoe e1
      go_region_law (first
        | (go_simp; go_at_call 9; refine (keptCopy_c _ r.gives[k] _ B ?_).mono ?_; (first | exact HLE.out.drewN 1 | exact HLE.out); rintro en x3 ⟨⟨lx, rfl, hx⟩, h3⟩
           refine use (P := Below wr.heap.size wr x3) ?_ ?_
           (first | exact (below_drewN (Below.refl _ _) 1).trans h3 | exact h3)
           intro h3'
           refine use (P := OwnStrs x3 wr.heap.size lx r.gives[k].log) ?_ ?_
           (exact hx)
           clear hx; intro hx
           obtain ⟨Ax, nx, cx, rfl⟩ := hx.form
           have HX := Lib.hid hx
           have H3 := Lib.hid h3'
           have f8 := (h3'.cell (p := ⟨g, 8, none⟩) el).trans e8
           have fz := ((bcell h3').2 g 8 el).trans (ez 8)
           have h3s := h3'.size
           have fl : g < x3.heap.size := Nat.lt_of_lt_of_le el h3s
           have f8a : ∀ o, (x3.alloc o).cell? ⟨g, 8, none⟩ = some (.slice Ak nk ck) := fun o => ((below_alloc x3 o).cell (p := ⟨g, 8, none⟩) fl).trans f8
           clear hx h3 h3')
        | (refine step_app _ rfl (.tmp 28) (.tmp 35) 27 rfl el_kepts w.heap.size (.slice Ak nk ck) k css.flatten rfl ?_ (.slice (some ⟨x3.heap.size, 0, none⟩) 1 1) 1 (keptV r.gives[k] (.slice Ax nx cx)) rfl ⟨rfl, .inr ⟨_, _, rfl, ?_⟩⟩ ?_ ?_ ?_ ?_ ?_
           · exact own_below (own_below HROW.out H3.out) (below_alloc x3 _)
           · intro j v hj
             have hj5 : j < 5 := by (rcases Nat.lt_or_ge j 5 with h | h; exact h; rw [List.getElem?_eq_none h] at hj; cases hj)
             have hadd : (⟨x3.heap.size, 0, none⟩ : Addr).add j = ⟨x3.heap.size, j, none⟩ := by (unfold Addr.add; split <;> simp_all)
             rw [hadd, (Blk.new x3 24 #[.int .i64 r.gives[k].view, .int .i64 r.gives[k].normal, .bool r.gives[k].calm, .slice Ax nx cx, .int .i64 r.gives[k].commit]).cell j]
             simpa [keptV] using hj
           · (intro v hv; simp only [keptV, List.mem_cons, List.not_mem_nil, or_false] at hv; rcases hv with rfl | rfl | rfl | rfl | rfl <;> rfl)
           · (unfold maxLen; omega)
           · omega
           · (have := HIE.out.low.size; simp; omega)
           intro v4 x4 h4 hg4 _
           have hIP := (HIE.out.below H3.out).below (below_alloc x3 (Obj.cells #[.int .i64 r.gives[k].view, .int .i64 r.gives[k].normal, .bool r.gives[k].calm, .slice Ax nx cx, .int .i64 r.gives[k].commit] 24))
           have hn4 := giv_next hIP hlt HG.out.2.2.2.2 (HX.out.below (below_alloc x3 (Obj.cells #[.int .i64 r.gives[k].view, .int .i64 r.gives[k].normal, .bool r.gives[k].calm, .slice Ax nx cx, .int .i64 r.gives[k].commit] 24))) (fun x hl => (HIE.out.own.log.1.lt x hl).2) h4 hg4
           have hrow3 := own_below (own_below HROW.out H3.out) (below_alloc x3 (Obj.cells #[.int .i64 r.gives[k].view, .int .i64 r.gives[k].normal, .bool r.gives[k].calm, .slice Ax nx cx, .int .i64 r.gives[k].commit] 24))
           have hb4 := blk_growm hIP.out hrow3 (by decide) hg4
           have g8 := hb4.cell 8
           simp only [List.getElem?_toArray, List.getElem?_cons_zero, List.getElem?_cons_succ] at g8
           have gz := hb4.frozen
           have gl := hb4.lt
           obtain ⟨A9, c9, rfl, _, _, _, _⟩ := rd_own h4
           have HN4 := Lib.hid hn4
           clear hIP hn4 h4 hg4 hb4 hrow3))
      all_goals (go_wp2; go_roundw)
      all_goals first
        | exact ⟨k + 1, A9, k + 1, c9, _, by omega, rfl, HN4.out⟩
        | (simp [intOf]; omega)
    · have hk' : k = r.gives.length := by omega
      have hge' : ¬ (k : Int) < (r.gives.length : Int) := by omega
      have hIe := hI
      have e1 : r.gives.take k = r.gives := by rw [hk', List.take_length]
      have HO := Lib.hid (show OwnRep wr w.heap.size (.slice A5 n5 c5) (.slice A6 n6 c6) (.slice A7 n7 c7) (.slice Ak nk ck) (.slice A8 n8 c8) r from ⟨hI.own, css, e1 ▸ hI.giv⟩)
      have HAP := Lib.hid (show ApG wr w.heap.size (.slice Ak nk ck) r.gives (.slice A5 n5 c5) from ⟨css, e1 ▸ hI.giv, hI.apt⟩)
      have HRS := Lib.hid hres
      have hr10 := blk_set10 (a0 := .int .i64 r.me) (a1 := .int .i64 r.kept.view) (a2 := .int .i64 r.kept.normal) (a3 := .bool r.kept.calm) (a4 := .slice A5 n5 c5) (a5 := .int .i64 r.kept.commit) (a6 := .slice A6 n6 c6) (a7 := .slice A7 n7 c7) (a8 := .slice Ak nk ck) (a9 := .slice A8 n8 c8) hres
      have z0 := hres.cell 0
      have z1 := hres.cell 1
      have z2 := hres.cell 2
      have z3 := hres.cell 3
      have z4 := hres.cell 4
      have z5 := hres.cell 5
      have z6 := hres.cell 6
      have z7 := hres.cell 7
      have z8 := hres.cell 8
      have z9 := hres.cell 9
      simp only [List.getElem?_toArray, List.getElem?_cons_zero, List.getElem?_cons_succ] at z0 z1 z2 z3 z4 z5 z6 z7 z8 z9
      have zz := hres.frozen
      have zl := hres.lt
      have r0 := hr10.cell 0
      have r1 := hr10.cell 1
      have r2 := hr10.cell 2
      have r3 := hr10.cell 3
      have r4 := hr10.cell 4
      have r5 := hr10.cell 5
      have r6 := hr10.cell 6
      have r7 := hr10.cell 7
      have r8 := hr10.cell 8
      have r9 := hr10.cell 9
      simp only [List.getElem?_toArray, List.getElem?_cons_zero, List.getElem?_cons_succ] at r0 r1 r2 r3 r4 r5 r6 r7 r8 r9
      have rz := hr10.frozen
      have rl := hr10.lt
      clear hI hout hIe hk' hk e1 hr10 hres
      go_wp2
      refine bodyPost_ret (v := .agg #[.int .i64 r.me, .int .i64 r.kept.view, .int .i64 r.kept.normal, .bool r.kept.calm, .slice A5 n5 c5, .int .i64 r.kept.commit, .slice A6 n6 c6, .slice A7 n7 c7, .slice Ak nk ck, .slice A8 n8 c8]) (by simp [results, Try.results4, go_sem, r0, r1, r2, r3, r4, r5, r6, r7, r8, r9]) rfl ?_
      exact ⟨⟨_, _, _, _, _, rfl, HO.out.same (Same.sets10 HRS.out (Nat.zero_le _) (by decide)), HAP.out.same (Same.sets10 HRS.out (Nat.zero_le _) (by decide))⟩, below_set10 HIr.out.low (Nat.le_succ _)⟩
end Go.Proofs.Ytlaibljdlpmbfaa
/- Walk: one and the same replica, compared with itself. -/
namespace Go.Proofs.Ytlaibljdlpmbfaa
open Go.RowKit
set_option maxHeartbeats 4000000
set_option maxRecDepth 100000

theorem sameRep_t (A0 : Option Addr) (n0 c0 : Nat) (A1 : Option Addr) (c1 : Nat) (A2 : Option Addr) (c2 : Nat) (A3 : Option Addr) (c3 : Nat) (A4 : Option Addr) (c4 : Nat) (E0 : Option Addr) (m0 d0 : Nat) (E1 : Option Addr) (d1 : Nat) (E2 : Option Addr) (d2 : Nat) (E3 : Option Addr) (d3 : Nat) (E4 : Option Addr) (d4 : Nat) (r : Scu.Replica) (w : World) (B B' : Nat)
    (hx : IsRep w B (.slice A0 n0 c0) (.slice A1 r.have_.length c1) (.slice A2 r.wants.length c2) (.slice A3 r.gives.length c3) (.slice A4 r.given.length c4) r)
    (hy : IsRep w B' (.slice E0 m0 d0) (.slice E1 r.have_.length d1) (.slice E2 r.wants.length d2) (.slice E3 r.gives.length d3) (.slice E4 r.given.length d4) r) :
    Calls Try.prog 7 #[.agg #[.int .i64 r.me, .int .i64 r.kept.view, .int .i64 r.kept.normal, .bool r.kept.calm, .slice A0 n0 c0, .int .i64 r.kept.commit, .slice A1 r.have_.length c1, .slice A2 r.wants.length c2, .slice A3 r.gives.length c3, .slice A4 r.given.length c4], .agg #[.int .i64 r.me, .int .i64 r.kept.view, .int .i64 r.kept.normal, .bool r.kept.calm, .slice E0 m0 d0, .int .i64 r.kept.commit, .slice E1 r.have_.length d1, .slice E2 r.wants.length d2, .slice E3 r.gives.length d3, .slice E4 r.given.length d4]] w fun e w' => e = .returned (.bool true) ∧ Below w.heap.size w w' := by
  have HX := Lib.hid hx
  have HY := Lib.hid hy
  obtain ⟨⟨_, _, e, _, hd⟩, hm1⟩ := hx.have_; cases e; have HA1 := Lib.hid hd
  obtain ⟨⟨_, _, e, _, hd⟩, _⟩ := hy.have_; cases e; have HE1 := Lib.hid hd
  obtain ⟨⟨_, _, e, _, hd⟩, hm2⟩ := hx.wants; cases e; have HA2 := Lib.hid hd
  obtain ⟨⟨_, _, e, _, hd⟩, _⟩ := hy.wants; cases e; have HE2 := Lib.hid hd
  obtain ⟨⟨_, _, e, _, hd⟩, hm4⟩ := hx.given; cases e; have HA4 := Lib.hid hd
  obtain ⟨⟨_, _, e, _, hd⟩, _⟩ := hy.given; cases e; have HE4 := Lib.hid hd
  obtain ⟨⟨_, _, csx, e, _, hx1, hx2, hx3, hx4⟩, hm3⟩ := hx.gives; cases e
  obtain ⟨⟨_, _, csy, e, _, hy1, hy2, hy3, hy4⟩, _⟩ := hy.gives; cases e
  have HA3 := Lib.hid (And.intro hx1 (And.intro hx2 (And.intro hx3 hx4)))
  have HE3 := Lib.hid (And.intro hy1 (And.intro hy2 (And.intro hy3 hy4)))
  unfold R47 at hm1 hm2 hm3 hm4
  clear hx hy hx1 hx2 hx3 hx4 hy1 hy2 hy3 hy4
  go_enter Try.func7, Try.ntmps7
  go_wp2_with fail
  have hb0 : Below w.heap.size w ((w.alloc (Obj.cells #[.int .i64 r.me, .int .i64 r.kept.view, .int .i64 r.kept.normal, .bool r.kept.calm, .slice A0 n0 c0, .int .i64 r.kept.commit, .slice A1 r.have_.length c1, .slice A2 r.wants.length c2, .slice A3 r.gives.length c3, .slice A4 r.given.length c4] 29)).alloc (Obj.cells #[.int .i64 r.me, .int .i64 r.kept.view, .int .i64 r.kept.normal, .bool r.kept.calm, .slice E0 m0 d0, .int .i64 r.kept.commit, .slice E1 r.have_.length d1, .slice E2 r.wants.length d2, .slice E3 r.gives.length d3, .slice E4 r.given.length d4] 29)) := (below_alloc w _).alloc (by simp) _
  refine (sameKept_c _ _ r.kept r.kept _ B B' (HX.out.log.below hb0) (HY.out.log.below hb0)).mono ?_; rintro e w1 ⟨rfl, h1⟩
  simp only [decide_true]
  have hp0 : Blk w1 w.heap.size 29 #[.int .i64 r.me, .int .i64 r.kept.view, .int .i64 r.kept.normal, .bool r.kept.calm, .slice A0 n0 c0, .int .i64 r.kept.commit, .slice A1 r.have_.length c1, .slice A2 r.wants.length c2, .slice A3 r.gives.length c3, .slice A4 r.given.length c4] := ((Blk.new w _ _).alloc _).same h1
  have hp1 : Blk w1 (w.heap.size + 1) 29 #[.int .i64 r.me, .int .i64 r.kept.view, .int .i64 r.kept.normal, .bool r.kept.calm, .slice E0 m0 d0, .int .i64 r.kept.commit, .slice E1 r.have_.length d1, .slice E2 r.wants.length d2, .slice E3 r.gives.length d3, .slice E4 r.given.length d4] := (Blk.new' (by simp)).same h1
  have hb1 := hb0.trans (h1.mono hb0.size)
  have s0 := hp0.cell 6
  have s1 := hp0.cell 7
  have s2 := hp0.cell 8
  have s3 := hp0.cell 9
  simp only [List.getElem?_toArray, List.getElem?_cons_zero, List.getElem?_cons_succ] at s0 s1 s2 s3
  have sl := hp0.lt
  have t0 := hp1.cell 6
  have t1 := hp1.cell 7
  have t2 := hp1.cell 8
  have t3 := hp1.cell 9
  simp only [List.getElem?_toArray, List.getElem?_cons_zero, List.getElem?_cons_succ] at t0 t1 t2 t3
  have tl := hp1.lt
  have HP := Lib.hid (And.intro hp0 (And.intro hp1 hb1))
  clear hp0 hp1 hb0 hb1 h1
  go_wp2_with fail
  clear s0 s1 s2 s3 sl t0 t1 t2 t3 tl
  go_loopw [5] (fun i wr => ∃ k : Nat, k ≤ r.have_.length ∧ i = .int .i64 k ∧ Below w1.heap.size w1 wr) (fun i _ => r.have_.length - (intOf i).toNat)
  case atStart => exact ⟨0, Nat.zero_le _, rfl, Below.refl _ _⟩
  case round =>
    obtain ⟨k, hk, rfl, hbw⟩ := hrel
    have hpa := HP.out.1.same hbw
    have hpb := HP.out.2.1.same hbw
    have p0 := hpa.cell 6
    have p1 := hpa.cell 7
    have p2 := hpa.cell 8
    have p3 := hpa.cell 9
    simp only [List.getElem?_toArray, List.getElem?_cons_zero, List.getElem?_cons_succ] at p0 p1 p2 p3
    have pl := hpa.lt
    have q0 := hpb.cell 6
    have q1 := hpb.cell 7
    have q2 := hpb.cell 8
    have q3 := hpb.cell 9
    simp only [List.getElem?_toArray, List.getElem?_cons_zero, List.getElem?_cons_succ] at q0 q1 q2 q3
    have ql := hpb.lt
    have hbm := HP.out.2.2.trans (hbw.mono HP.out.2.2.size)
    have HBW := Lib.hid hbw
    have HBM := Lib.hid hbm
    clear hpa hpb hbw hbm
    by_cases hlt : k < r.have_.length
    · have hlt' : (k : Int) < (r.have_.length : Int) := by omega
      obtain ⟨g, o, rfl, hg, hc⟩ := ones_get (HA1.out.below HBM.out) hlt
      obtain ⟨g', o', rfl, hg', hc'⟩ := ones_get (HE1.out.below HBM.out) hlt
      go_wp2_with fail
      go_quiet (fail)
      go_wp2_with fail
      exact ⟨⟨k + 1, hlt, by go_num, below_drewN HBW.out _⟩, by simp only [intOf]; omega⟩
    have hlt' : (r.have_.length : Int) ≤ (k : Int) := by omega
    obtain ⟨wa, hwa⟩ : ∃ x, x = wr := ⟨_, rfl⟩
    subst hwa
    go_wp2_with fail
    clear p0 p1 p2 p3 pl q0 q1 q2 q3 ql
    go_loopw [6] (fun i wr => ∃ k : Nat, k ≤ r.wants.length ∧ i = .int .i64 k ∧ Below w1.heap.size w1 wr) (fun i _ => r.wants.length - (intOf i).toNat)
    case atStart => exact ⟨0, Nat.zero_le _, rfl, HBW.out⟩
    case round =>
    clear hlt' HBM HBW
    obtain ⟨ka, hka⟩ : ∃ x, x = k := ⟨_, rfl⟩
    subst hka
    obtain ⟨k, hk, rfl, hbw⟩ := hrel
    have hpa := HP.out.1.same hbw
    have hpb := HP.out.2.1.same hbw
    have p0 := hpa.cell 6
    have p1 := hpa.cell 7
    have p2 := hpa.cell 8
    have p3 := hpa.cell 9
    simp only [List.getElem?_toArray, List.getElem?_cons_zero, List.getElem?_cons_succ] at p0 p1 p2 p3
    have pl := hpa.lt
    have q0 := hpb.cell 6
    have q1 := hpb.cell 7
    have q2 := hpb.cell 8
    have q3 := hpb.cell 9
    simp only [List.getElem?_toArray, List.getElem?_cons_zero, List.getElem?_cons_succ] at q0 q1 q2 q3
    have ql := hpb.lt
    have hbm := HP.out.2.2.trans (hbw.mono HP.out.2.2.size)
    have HBW := Lib.hid hbw
    have HBM := Lib.hid hbm
    clear hpa hpb hbw hbm
    by_cases hlt : k < r.wants.length
    · have hlt' : (k : Int) < (r.wants.length : Int) := by omega
      obtain ⟨g, o, rfl, hg, hc⟩ := ones_get (HA2.out.below HBM.out) hlt
      obtain ⟨g', o', rfl, hg', hc'⟩ := ones_get (HE2.out.below HBM.out) hlt
      go_wp2_with fail
      go_quiet (fail)
      go_wp2_with fail
      exact ⟨⟨k + 1, hlt, by go_num, below_drewN HBW.out _⟩, by simp only [intOf]; omega⟩
    have hlt' : (r.wants.length : Int) ≤ (k : Int) := by omega
    obtain ⟨wb, hwa⟩ : ∃ x, x = wr := ⟨_, rfl⟩
    subst hwa
    go_wp2_with fail
    clear p0 p1 p2 p3 pl q0 q1 q2 q3 ql
    go_loopw [7] (fun i wr => ∃ k : Nat, k ≤ r.gives.length ∧ i = .int .i64 k ∧ Below w1.heap.size w1 wr) (fun i _ => r.gives.length - (intOf i).toNat)
    case atStart => exact ⟨0, Nat.zero_le _, rfl, HBW.out⟩
    case round =>
    clear hlt' HBM HBW
    obtain ⟨kb, hkb⟩ : ∃ x, x = k := ⟨_, rfl⟩
    subst hkb
    obtain ⟨k, hk, rfl, hbw⟩ := hrel
    have hpa := HP.out.1.same hbw
    have hpb := HP.out.2.1.same hbw
    have p0 := hpa.cell 6
    have p1 := hpa.cell 7
    have p2 := hpa.cell 8
    have p3 := hpa.cell 9
    simp only [List.getElem?_toArray, List.getElem?_cons_zero, List.getElem?_cons_succ] at p0 p1 p2 p3
    have pl := hpa.lt
    have q0 := hpb.cell 6
    have q1 := hpb.cell 7
    have q2 := hpb.cell 8
    have q3 := hpb.cell 9
    simp only [List.getElem?_toArray, List.getElem?_cons_zero, List.getElem?_cons_succ] at q0 q1 q2 q3
    have ql := hpb.lt
    have hbm := HP.out.2.2.trans (hbw.mono HP.out.2.2.size)
    have HBW := Lib.hid hbw
    have HBM := Lib.hid hbm
    clear hpa hpb hbw hbm
    by_cases hlt : k < r.gives.length
    · have hlt' : (k : Int) < (r.gives.length : Int) := by omega
      obtain ⟨g, o, lg, rfl, hg, k0, k1, k2, k3, k4, hlg⟩ := kepts_get (k := k) HA3.out.1 HA3.out.2.1 (HA3.out.2.2.1.below HBM.out) (fun j cs x a b => (HA3.out.2.2.2 j cs x a b).same (Ts := [9]) (by simp) (Same.below HBM.out)) hlt
      obtain ⟨g', o', lg', rfl, hg', j0, j1, j2, j3, j4, hlg'⟩ := kepts_get (k := k) HE3.out.1 HE3.out.2.1 (HE3.out.2.2.1.below HBM.out) (fun j cs x a b => (HE3.out.2.2.2 j cs x a b).same (Ts := [9]) (by simp) (Same.below HBM.out)) hlt
      obtain ⟨Al, nl, cl, rfl⟩ := hlg.form
      obtain ⟨Am, nm, cm, rfl⟩ := hlg'.form
      have HLG := Lib.hid (And.intro hlg hlg')
      clear hlg hlg'
      go_upto_region 16 with fail
      go_cut [112] from 94 to 112 (fun b wx => b = .bool false ∧ Below wr.heap.size wr wx)
      case first =>
        go_region_with (go_at_call 19; refine (sameKept_c _ _ r.gives[k] r.gives[k] _ B B' (HLG.out.1.drewN 1) (HLG.out.2.drewN 1)).mono ?_; rintro e w2 ⟨rfl, h2⟩; simp only [decide_true])
        all_goals
          go_wp2_with fail
          go_meet
          exact ⟨rfl, (below_drewN (Below.refl _ _) 1).trans h2⟩
      case rest =>
        obtain ⟨rfl, h2⟩ := hcut
        go_wp2_with fail
        exact ⟨⟨k + 1, hlt, by go_num, HBW.out.trans (h2.mono HBW.out.size)⟩, by simp only [intOf]; omega⟩
    have hlt' : (r.gives.length : Int) ≤ (k : Int) := by omega
    obtain ⟨wd, hwa⟩ : ∃ x, x = wr := ⟨_, rfl⟩
    subst hwa
    go_wp2_with fail
    clear p0 p1 p2 p3 pl q0 q1 q2 q3 ql
    go_loopw [8] (fun i wr => ∃ k : Nat, k ≤ r.given.length ∧ i = .int .i64 k ∧ Below w1.heap.size w1 wr) (fun i _ => r.given.length - (intOf i).toNat)
    case atStart => exact ⟨0, Nat.zero_le _, rfl, HBW.out⟩
    case round =>
    clear hlt' HBM HBW
    obtain ⟨kc, hkc⟩ : ∃ x, x = k := ⟨_, rfl⟩
    subst hkc
    obtain ⟨k, hk, rfl, hbw⟩ := hrel
    have hpa := HP.out.1.same hbw
    have hpb := HP.out.2.1.same hbw
    have p0 := hpa.cell 6
    have p1 := hpa.cell 7
    have p2 := hpa.cell 8
    have p3 := hpa.cell 9
    simp only [List.getElem?_toArray, List.getElem?_cons_zero, List.getElem?_cons_succ] at p0 p1 p2 p3
    have pl := hpa.lt
    have q0 := hpb.cell 6
    have q1 := hpb.cell 7
    have q2 := hpb.cell 8
    have q3 := hpb.cell 9
    simp only [List.getElem?_toArray, List.getElem?_cons_zero, List.getElem?_cons_succ] at q0 q1 q2 q3
    have ql := hpb.lt
    have hbm := HP.out.2.2.trans (hbw.mono HP.out.2.2.size)
    have HBW := Lib.hid hbw
    have HBM := Lib.hid hbm
    clear hpa hpb hbw hbm
    by_cases hlt : k < r.given.length
    · have hlt' : (k : Int) < (r.given.length : Int) := by omega
      obtain ⟨g, o, rfl, hg, hc⟩ := ones_get (HA4.out.below HBM.out) hlt
      obtain ⟨g', o', rfl, hg', hc'⟩ := ones_get (HE4.out.below HBM.out) hlt
      go_wp2_with fail
      go_quiet (fail)
      go_wp2_with fail
      exact ⟨⟨k + 1, hlt, by go_num, below_drewN HBW.out _⟩, by simp only [intOf]; omega⟩
    have hlt' : (r.given.length : Int) ≤ (k : Int) := by omega

    go_wp2
    go_ret
    exact ⟨rfl, HBM.out⟩
end Go.Proofs.Ytlaibljdlpmbfaa
/- The law ReplicaCopies, walked. -/
namespace Go.Proofs.Ytlaibljdlpmbfaa
open Go.RowKit
set_option maxHeartbeats 1000000
set_option maxRecDepth 100000

theorem IsRep.forms {w : World} {B : Nat} {lv hv wv gv nv : Value} {r : Scu.Replica} (h : IsRep w B lv hv wv gv nv r) :
    ∃ A0 n0 c0 A1 c1 A2 c2 A3 c3 A4 c4, lv = .slice A0 n0 c0 ∧ hv = .slice A1 r.have_.length c1 ∧ wv = .slice A2 r.wants.length c2 ∧ gv = .slice A3 r.gives.length c3 ∧ nv = .slice A4 r.given.length c4 := by
  obtain ⟨A0, n0, c0, e0⟩ := h.log.form
  obtain ⟨⟨A1, c1, e1, _⟩, _⟩ := h.have_
  obtain ⟨⟨A2, c2, e2, _⟩, _⟩ := h.wants
  obtain ⟨⟨A3, c3, _, e3, _⟩, _⟩ := h.gives
  obtain ⟨⟨A4, c4, e4, _⟩, _⟩ := h.given
  exact ⟨A0, n0, c0, A1, c1, A2, c2, A3, c3, A4, c4, e0, e1, e2, e3, e4⟩
end Go.Proofs.Ytlaibljdlpmbfaa

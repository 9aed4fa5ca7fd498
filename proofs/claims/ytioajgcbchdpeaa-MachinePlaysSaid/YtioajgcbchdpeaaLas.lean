/- What clients were told last: rows of the call's own; states. Walk: their clone. -/
import Derived.Test.YtioajgcbchdpeaaPut
import Derived.Test.YtioajgcbchdpeaaMach
namespace Go.Proofs.Ytioajgcbchdpeaa
open Go.RowKit
set_option maxHeartbeats 400000
set_option maxRecDepth 100000

def OwnLasts (w : World) (base : Nat) (v : Value) (ls : List Scu.Last) : Prop := w.ownsRow base 109 4 v ls.length (ls.flatMap lastC) ∧ ls.length * 40 ≤ R47
theorem OwnLasts.is {w : World} {base : Nat} {v : Value} {ls : List Scu.Last} (h : OwnLasts w base v ls) : IsLasts w 0 v ls := by
  obtain ⟨A, c, rfl, hc, _, hr, _⟩ := rd_own h.1
  exact ⟨⟨A, c, rfl, hc, hr⟩, h.2⟩
theorem OwnLasts.below {w w' : World} {base : Nat} {v : Value} {xs : List Scu.Last} (h : OwnLasts w base v xs) (hb : Below w.heap.size w w') : OwnLasts w' base v xs := ⟨own_below h.1 hb, h.2⟩
theorem OwnLasts.base_ {w : World} {base base' : Nat} {v : Value} {xs : List Scu.Last} (h : OwnLasts w base v xs) (hb : base' ≤ base) : OwnLasts w base' v xs := ⟨ownsRow_base h.1 hb, h.2⟩
theorem OwnLasts.set_ {w : World} {base : Nat} {v : Value} {xs : List Scu.Last} (h : OwnLasts w base v xs) {g i : Nat} {t : TypeId} {cs : Array Value} (hb : Blk w g t cs) (hne : t ≠ 109) (u : Value) : OwnLasts (w.setCell ⟨g, i, none⟩ u) base v xs := ⟨own_set h.1 hb hne u, h.2⟩
theorem el_lasts : ElT 63 109 4 40 := by
  obtain ⟨i, h1, h2, h3, h4⟩ := info_parts (P := Try.prog) (e := 109) (z := .agg #[.int .i64 0, .int .i64 0, .int .i64 0, .string ⟨#[]⟩]) (size := 4) (bytes := 40) (by kernel_rfl)
  exact ⟨Try.underlying63, by omega, i, _, h1, h2, h3, h4, rfl⟩
theorem one_lasts (ls : List Scu.Last) : ∀ u ∈ ls.flatMap lastC, u.oneCell' = true := fun u hu => by
  obtain ⟨l, _, h⟩ := List.mem_flatMap.1 hu
  simp only [lastC, List.mem_cons, List.not_mem_nil, or_false] at h
  rcases h with rfl | rfl | rfl | rfl <;> rfl
theorem lasts_len (ls : List Scu.Last) : (ls.flatMap lastC).length = ls.length * 4 := flat_len lastC 4 (fun _ => rfl) ls
theorem cloneLasts_c (v : Value) (xs : List Scu.Last) (w : World) (B : Nat) (hv : IsLasts w B v xs) :
    Calls Try.prog 79 #[v] w fun e w' => (∃ u, e = .returned u ∧ OwnLasts w' w.heap.size u xs) ∧ Below w.heap.size w w' := by
  obtain ⟨⟨A, c, rfl, hlc, hr⟩, hl⟩ := hv
  have hl0 := hl
  rcases A with _ | ad
  · have hx : xs = [] := by
      have := rd_none hr
      have := congrArg List.length this
      rw [lasts_len] at this
      exact List.eq_nil_of_length_eq_zero (by simp only [List.length_nil] at this; omega)
    subst hx
    have heq0 := fun (W : World) => Lib.run_eql_slice_nil (P := Try.prog) W 63 109 none 0 c 0 0 Try.underlying63
    go_enter Try.func79, Try.ntmps79
    go_wp2
    go_ret
    exact ⟨⟨_, rfl, World.ownsRow_nil _ _ _ _, hl0⟩, Below.refl _ _⟩
  · have heq := fun (W : World) => Lib.run_eql_slice_nil (P := Try.prog) W 63 109 (some ad) xs.length c 0 0 Try.underlying63
    have hl' := hl
    unfold R47 at hl'
    go_enter Try.func79, Try.ntmps79
    go_wp2_with (at_builtin; refine list_app _ rfl _ _ 63 rfl el_lasts w.heap.size _ 0 [] rfl (own_new (Nat.le_refl _)) _ xs.length (xs.flatMap lastC) rfl ?c1 (one_lasts xs) (by unfold maxLen; omega) (by omega) (by simp) ?_)
    case c1 => exact src_of_rd (hr.alloc _) (lasts_len xs) (fun e => by cases e)
    intro v1 w1 hown hg hw
    have hown : w1.ownsRow w.heap.size 109 4 v1 xs.length (xs.flatMap lastC) := by simpa only [Nat.zero_add, List.nil_append] using hown
    have HO := Lib.hid hown
    have HW := Lib.hid hw
    clear hown hw
    go_wp2
    go_ret
    refine ⟨⟨_, rfl, HO.out, hl0⟩, ?_⟩
    exact ((Below.refl _ _).alloc (Nat.le_refl _) _).trans (below_grown hg (by simp) (fun k hk => by simp [Value.ownBlock] at hk; omega))
theorem flat_set4 : ∀ (ls : List Scu.Last) (k : Nat) (l : Scu.Last),
    ((((ls.flatMap lastC).set (k * 4) (.int .i64 l.num)).set (k * 4 + 1) (.int .i64 l.reply.code)).set (k * 4 + 2) (.int .i64 l.reply.n)).set (k * 4 + 3) (.string l.reply.data) = (ls.set k l).flatMap lastC
  | [], k, l => by simp
  | x :: t, 0, l => by simp [lastC]
  | x :: t, k + 1, l => by
    have ih := flat_set4 t k l
    have e0 : (k + 1) * 4 = k * 4 + 1 + 1 + 1 + 1 := by omega
    have e1 : k * 4 + 1 + 1 + 1 + 1 + 1 = k * 4 + 1 + 1 + 1 + 1 + 1 := rfl
    have e2 : k * 4 + 1 + 1 + 1 + 1 + 2 = k * 4 + 2 + 1 + 1 + 1 + 1 := by omega
    have e3 : k * 4 + 1 + 1 + 1 + 1 + 3 = k * 4 + 3 + 1 + 1 + 1 + 1 := by omega
    rw [List.set_cons_succ, List.flatMap_cons, List.flatMap_cons, ← ih, e0, e2, e3]
    simp only [lastC, List.cons_append, List.nil_append, List.set_cons_succ]
theorem own_putm {w : World} {base n g c m : Nat} {e : TypeId} {xs : List Value} (h : w.ownsRow base e m (.slice (some ⟨g, 0, none⟩) n c) n xs) (j : Nat) (u : Value) :
    (w.setCell ⟨g, j, none⟩ u).ownsRow base e m (.slice (some ⟨g, 0, none⟩) n c) n (xs.set j u) := by
  obtain ⟨hl, ⟨h0, _⟩ | ⟨g', cap, cur, e1, hb, hh, hnc, hm, hcs, ht⟩⟩ := h
  · cases h0
  · cases e1
    have hB : Blk w g e cur := hh
    refine ⟨by simp [hl], .inr ⟨g, c, cur.setIfInBounds j u, rfl, hb, hB.set_ j u, hnc, hm, by simpa using hcs, ?_⟩⟩
    rw [Array.toList_setIfInBounds, List.take_set, ht]
theorem OwnLasts.put {w : World} {base g c n : Nat} {ls : List Scu.Last} (h : OwnLasts w base (.slice (some ⟨g, 0, none⟩) n c) ls) (k : Nat) (l : Scu.Last) :
    OwnLasts ((((w.setCell ⟨g, k * 4, none⟩ (.int .i64 l.num)).setCell ⟨g, k * 4 + 1, none⟩ (.int .i64 l.reply.code)).setCell ⟨g, k * 4 + 2, none⟩ (.int .i64 l.reply.n)).setCell ⟨g, k * 4 + 3, none⟩ (.string l.reply.data)) base (.slice (some ⟨g, 0, none⟩) n c) (ls.set k l) := by
  have hn : n = ls.length := by
    obtain ⟨A, c', e, _⟩ := h.is.ex
    cases e
    rfl
  subst hn
  refine ⟨?_, by simpa using h.2⟩
  rw [List.length_set, ← flat_set4]
  exact own_putm (own_putm (own_putm (own_putm h.1 _ _) _ _) _ _) _ _
theorem OwnLasts.at_ {w : World} {base : Nat} {v : Value} {ls : List Scu.Last} (h : OwnLasts w base v ls) (hn : 0 < ls.length) :
    ∃ g c cur, v = .slice (some ⟨g, 0, none⟩) ls.length c ∧ base ≤ g ∧ Blk w g 109 cur ∧ ∀ j, j < ls.length * 4 → w.cell? ⟨g, j, none⟩ = (ls.flatMap lastC)[j]? := by
  obtain ⟨hl, ⟨_, h0⟩ | ⟨g, cap, cur, rfl, hb, hh, hnc, _, hcs, ht⟩⟩ := h.1
  · omega
  · refine ⟨g, cap, cur, rfl, hb, hh, fun j hj => ?_⟩
    have hB : Blk w g 109 cur := hh
    rw [hB.cell, ← ht, List.getElem?_take_of_lt (by omega)]
    simp
theorem Same.put4 {Ts : List TypeId} {B g : Nat} {w : World} {t : TypeId} {cs : Array Value} (hb : Blk w g t cs) (hB : B ≤ g) (ht : t ∉ Ts) (k : Nat) (l : Scu.Last) : Same Ts B w ((((w.setCell ⟨g, k * 4, none⟩ (.int .i64 l.num)).setCell ⟨g, k * 4 + 1, none⟩ (.int .i64 l.reply.code)).setCell ⟨g, k * 4 + 2, none⟩ (.int .i64 l.reply.n)).setCell ⟨g, k * 4 + 3, none⟩ (.string l.reply.data)) :=
  (((Same.set_ hb hB ht _ _).trans (Same.set_ (hb.set_ _ _) hB ht _ _)).trans (Same.set_ ((hb.set_ _ _).set_ _ _) hB ht _ _)).trans (Same.set_ (((hb.set_ _ _).set_ _ _).set_ _ _) hB ht _ _)
theorem IsVolume.same {w w' : World} {B : Nat} {nv sv : Value} {x : Scu.Volume} (h : IsVolume w 0 nv sv x) (hs : Same [9, 26] B w w') (hB : B = 0) : IsVolume w' 0 nv sv x := by
  subst hB
  exact h.keep hs.size fun g hg hh => hs.keep g hg (hh.imp id fun ⟨C, fz, t, ht, e⟩ => ⟨C, fz, t, by rcases ht with rfl | rfl <;> simp, e⟩)
theorem IsLasts.same {w w' : World} {v : Value} {ls : List Scu.Last} (h : IsLasts w 0 v ls) (hs : Same [109] 0 w w') : IsLasts w' 0 v ls :=
  h.keep hs.size fun g hg hh => hs.keep g hg (hh.imp id fun ⟨C, fz, e⟩ => ⟨C, fz, _, by simp, e⟩)
theorem OwnLasts.same {w w' : World} {base : Nat} {v : Value} {ls : List Scu.Last} (h : OwnLasts w base v ls) (hs : Same [109] 0 w w') : OwnLasts w' base v ls := ⟨own_same h.1 (by simp) hs, h.2⟩
end Go.Proofs.Ytioajgcbchdpeaa

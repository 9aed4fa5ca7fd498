/- A volume of the call's own: a sector is set, a snapshot put behind the others. -/
import Derived.Test.YtioajgcbchdpeaaPut
import Derived.Test.YtioajgcbchdpeaaList
namespace Go.Proofs.Ytioajgcbchdpeaa
open Go.RowKit
set_option maxHeartbeats 400000
set_option maxRecDepth 100000

theorem IsStrs.far {w : World} {B : Nat} {v : Value} {xs : List Scu.Str} (h : IsStrs w B v xs) {p : Addr} (hne : v.ownBlock ≠ some p.block) (u : Value) : IsStrs (w.setCell p u) B v xs := by
  obtain ⟨⟨A, c, rfl, hc, hr⟩, h1, h2⟩ := h
  refine ⟨⟨A, c, rfl, hc, ?_⟩, h1, h2⟩
  rcases hr with hr | ⟨g, o, rfl, hg, hk, hcell⟩
  · exact .inl hr
  · have hgp : g ≠ p.block := fun e => hne (by simp [Value.ownBlock, e])
    have e := Below.heap_setCell w p u g hgp
    exact .inr ⟨g, o, rfl, by simpa [World.setCell] using hg, by rw [e]; exact hk, fun j u' hj => by
      rw [World.cell?_of_block (w := w) (w' := w.setCell p u) (a := ⟨g, o + j, none⟩) e]
      exact hcell j u' hj⟩
theorem own_blk_ex {w : World} {base n g c : Nat} {e : TypeId} {xs : List Value} (h : w.ownsRow base e 1 (.slice (some ⟨g, 0, none⟩) n c) n xs) : ∃ cur, Blk w g e cur ∧ base ≤ g := by
  obtain ⟨_, ⟨h0, _⟩ | ⟨g', cap, cur, e1, hb, hh, _⟩⟩ := h
  · cases h0
  · cases e1
    exact ⟨cur, hh, hb⟩
theorem OwnVol.same {w w' : World} {B base : Nat} {nv sv : Value} {x : Scu.Volume} (h : OwnVol w base nv sv x) (hs : Same [9, 26] B w w') : OwnVol w' base nv sv x := by
  obtain ⟨hn, hnl, hne, hl, vs, b, hrow, heach, hlo, hhi⟩ := h
  have hs0 : Same [9, 26] 0 w w' := hs.mono (fun _ h => h) (Nat.zero_le _)
  exact ⟨own_same hn (by simp) hs0, hnl, hne, hl, vs, b, own_same hrow (by simp) hs0, fun j u y h1 h2 => (heach j u y h1 h2).same (by simp) hs0, hlo, hhi⟩
theorem OwnVol.below {w w' : World} {base : Nat} {nv sv : Value} {x : Scu.Volume} (h : OwnVol w base nv sv x) (hb : Below w.heap.size w w') : OwnVol w' base nv sv x := h.same (B := 0) (Same.below hb)
theorem OwnVol.alloc {w : World} {base : Nat} {nv sv : Value} {x : Scu.Volume} (h : OwnVol w base nv sv x) (o : Obj) : OwnVol (w.alloc o) base nv sv x := h.below (below_alloc w o)
theorem OwnVol.base_ {w : World} {base base' : Nat} {nv sv : Value} {x : Scu.Volume} (h : OwnVol w base nv sv x) (hb : base' ≤ base) : OwnVol w base' nv sv x := by
  obtain ⟨hn, hnl, hne, hl, vs, b, hrow, hrest⟩ := h
  exact ⟨ownsRow_base hn hb, hnl, hne, hl, vs, b, ownsRow_base hrow hb, hrest⟩
theorem OwnVol.zero_ (w : World) (base : Nat) : OwnVol w base (.slice none 0 0) (.slice none 0 0) Scu.vol0 :=
  ⟨World.ownsRow_nil _ _ _ _, by simp [Scu.vol0], (fun s hs => by cases hs), by simp [Scu.vol0], [], 0, World.ownsRow_nil _ _ _ _, (fun j u y h => by simp at h), (fun g h => by simp [Value.ownBlock] at h), (fun u h => by simp at h)⟩
theorem OwnVol.put {w : World} {base g n c : Nat} {sv : Value} {x : Scu.Volume} (h : OwnVol w base (.slice (some ⟨g, 0, none⟩) n c) sv x) (j : Nat) (s : Scu.Str) (hs : s.size ≤ R47) :
    OwnVol (w.setCell ⟨g, j, none⟩ (.string s)) base (.slice (some ⟨g, 0, none⟩) n c) sv ⟨x.now.set j s, x.snaps⟩ := by
  obtain ⟨hn, hnl, hne, hl, vs, b, hrow, heach, hlo, hhi⟩ := h
  have hp := OwnStrs.put (xs := x.now) ⟨hn, hnl, hne⟩ j s hs
  have hn' : n = x.now.length := by
    obtain ⟨A, c', e, _⟩ := rd_own hn
    cases e
    rfl
  subst hn'
  obtain ⟨cur, hb, _⟩ := own_blk_ex hn
  refine ⟨hp.1, hp.2.1, hp.2.2, hl, vs, b, own_set hrow hb (by decide) _, fun i u y h1 h2 => (heach i u y h1 h2).far (fun e => ?_) _, hlo, hhi⟩
  have h3 := hhi u (List.mem_of_getElem? h1) g e
  have h4 := hlo g rfl
  omega
theorem OwnVol.push {w w' : World} {base b : Nat} {nv sv u v4 : Value} {x : Scu.Volume} {vs : List Value} {y : List Scu.Str}
    (hn : w.ownsRow base 9 1 nv x.now.length (x.now.map Value.string)) (hnl : x.now.length * 16 ≤ R47) (hne : ∀ s ∈ x.now, s.size ≤ R47) (hrow : w.ownsRow base 26 1 sv x.snaps.length vs)
    (heach : ∀ (j : Nat) (u : Value) (y : List Scu.Str), vs[j]? = some u → x.snaps[j]? = some y → IsStrs w 0 u y) (hlo : ∀ g, nv.ownBlock = some g → g < b) (hhi : ∀ u ∈ vs, ∀ g, u.ownBlock = some g → b ≤ g)
    (hu : IsStrs w 0 u y) (hub : ∀ g, nv.ownBlock = some g → ∀ g', u.ownBlock = some g' → g < g') (hl : (x.snaps.length + 1) * 24 ≤ R47) (hg : w.grownBy w' sv.ownBlock)
    (h4 : w'.ownsRow base 26 1 v4 (x.snaps.length + 1) (vs ++ [u])) : OwnVol w' base nv v4 ⟨x.now, x.snaps ++ [y]⟩ := by
  have hs : Same [9] 0 w w' := Same.own hrow hg (Nat.zero_le _) (by decide)
  refine ⟨own_same hn (by simp) hs, hnl, hne, by simpa using hl, vs ++ [u], (nv.ownBlock.map (· + 1)).getD 0, by simpa using h4, ?_, ?_, ?_⟩
  · intro j v z hv hz
    have hvl : vs.length = x.snaps.length := by simpa using hrow.1
    rcases Nat.lt_or_ge j vs.length with hj | hj
    · rw [List.getElem?_append_left hj] at hv
      rw [List.getElem?_append_left (by omega)] at hz
      exact (heach j v z hv hz).same (by simp) hs
    · rw [List.getElem?_append_right hj] at hv
      rw [List.getElem?_append_right (by omega)] at hz
      have hj0 : j - vs.length = 0 := by
        rcases Nat.eq_zero_or_pos (j - vs.length) with h | h
        · exact h
        · rw [List.getElem?_eq_none (by simp; omega)] at hv
          cases hv
      rw [hj0] at hv
      rw [show j - x.snaps.length = 0 by omega] at hz
      simp only [List.getElem?_cons_zero, Option.some.injEq] at hv hz
      subst hv
      subst hz
      exact hu.same (by simp) hs
  · intro g hg'
    simp [hg']
  · intro v hv g hg'
    cases hnb : nv.ownBlock with
    | none => simp
    | some g0 =>
      simp only [Option.map_some, Option.getD_some]
      rcases List.mem_append.1 hv with h | h
      · have := hhi v h g hg'
        have := hlo g0 hnb
        omega
      · rw [List.mem_singleton] at h
        subst h
        have := hub g0 hnb g hg'
        omega
theorem blk_grow {w w' : World} {base g n : Nat} {t e : TypeId} {cs : Array Value} {lv : Value} {xs : List Value} (hb : Blk w g t cs) (hown : w.ownsRow base e 1 lv n xs) (hne : t ≠ e) (hg : w.grownBy w' lv.ownBlock) : Blk w' g t cs :=
  (hg.block g hb.lt fun e' => by
    obtain ⟨C', fz', hh⟩ := own_kind hown e'.symm
    unfold Blk at hb
    rw [hh] at hb
    cases hb
    exact hne rfl).trans hb
theorem Same.sets2 {Ts : List TypeId} {B g : Nat} {w : World} {t : TypeId} {cs : Array Value} (hb : Blk w g t cs) (hB : B ≤ g) (ht : t ∉ Ts) (a b : Value) :
    Same Ts B w ((w.setCell ⟨g, 0, none⟩ a).setCell ⟨g, 1, none⟩ b) := (Same.set_ hb hB ht 0 a).trans (Same.set_ (hb.set_ 0 a) hB ht 1 b)
theorem Same.sets3 {Ts : List TypeId} {B g : Nat} {w : World} {t : TypeId} {cs : Array Value} (hb : Blk w g t cs) (hB : B ≤ g) (ht : t ∉ Ts) (a b c : Value) :
    Same Ts B w (((w.setCell ⟨g, 0, none⟩ a).setCell ⟨g, 1, none⟩ b).setCell ⟨g, 2, none⟩ c) := (Same.sets2 hb hB ht a b).trans (Same.set_ ((hb.set_ 0 a).set_ 1 b) hB ht 2 c)
theorem strs_at {w : World} {u : Value} {ys : List Scu.Str} {k : Nat} (h : IsStrs w 0 u ys) (hk : k < ys.length) :
    ∃ g o c, u = .slice (some ⟨g, o, none⟩) ys.length c ∧ g < w.heap.size ∧ (∀ q t cs, Blk w q t cs → t ≠ 9 → g ≠ q) ∧ w.cell? ⟨g, o + k, none⟩ = some (.string ys[k]) := by
  obtain ⟨⟨A, c, rfl, _, hr⟩, _, _⟩ := h
  rcases hr with hr | ⟨g, o, rfl, hg, hb, hc⟩
  · have : ys.length = 0 := by simpa using congrArg List.length hr
    omega
  · refine ⟨g, o, c, rfl, hg, ?_, hc k _ (by simp [hk])⟩
    rintro q t cs hq ht rfl
    rcases hb with hb | ⟨C, fz, hb⟩
    · omega
    · unfold Blk at hq
      rw [hb] at hq
      cases hq
      exact ht rfl
theorem rows_at {w : World} {v : Value} {xss : List (List Scu.Str)} {k : Nat} (h : IsRows w 0 v xss) (hk : k < xss.length) :
    ∃ g o c u, v = .slice (some ⟨g, o, none⟩) xss.length c ∧ g < w.heap.size ∧ (∀ q t cs, Blk w q t cs → t ≠ 26 → g ≠ q) ∧ w.cell? ⟨g, o + k, none⟩ = some u ∧ IsStrs w 0 u xss[k] := by
  obtain ⟨⟨A, c, vs, rfl, _, hr, hvl, hve⟩, _⟩ := h
  have hkv : k < vs.length := by omega
  rcases hr with hr | ⟨g, o, rfl, hg, hb, hc⟩
  · subst hr
    simp at hkv
  · refine ⟨g, o, c, vs[k], rfl, hg, ?_, hc k _ (List.getElem?_eq_getElem hkv), hve k _ _ (List.getElem?_eq_getElem hkv) (List.getElem?_eq_getElem hk)⟩
    rintro q t cs hq ht rfl
    rcases hb with hb | ⟨C, fz, hb⟩
    · omega
    · unfold Blk at hq
      rw [hb] at hq
      cases hq
      exact ht rfl
/-- The answer's two blocks are filled. -/
theorem do_end {X : World} {b2 b3 : Nat} {p q p' q' r' : Value} (h2 : Blk X b2 38 #[p, q]) (h3 : Blk X b3 43 #[p', q', r']) (hne : b2 ≠ b3) (a b x y z : Value) :
    Blk (((((X.setCell ⟨b2, 0, none⟩ a).setCell ⟨b2, 1, none⟩ b).setCell ⟨b3, 0, none⟩ x).setCell ⟨b3, 1, none⟩ y).setCell ⟨b3, 2, none⟩ z) b2 38 #[a, b] ∧ Blk (((((X.setCell ⟨b2, 0, none⟩ a).setCell ⟨b2, 1, none⟩ b).setCell ⟨b3, 0, none⟩ x).setCell ⟨b3, 1, none⟩ y).setCell ⟨b3, 2, none⟩ z) b3 43 #[x, y, z] ∧ Same [9, 26] 0 X (((((X.setCell ⟨b2, 0, none⟩ a).setCell ⟨b2, 1, none⟩ b).setCell ⟨b3, 0, none⟩ x).setCell ⟨b3, 1, none⟩ y).setCell ⟨b3, 2, none⟩ z) := by
  have k2 := (h2.set_ 0 a).set_ 1 b
  have k3 := (h3.far (p := ⟨b2, 0, none⟩) (fun e => hne e.symm) a).far (p := ⟨b2, 1, none⟩) (fun e => hne e.symm) b
  refine ⟨((k2.far (p := ⟨b3, 0, none⟩) hne x).far (p := ⟨b3, 1, none⟩) hne y).far (p := ⟨b3, 2, none⟩) hne z, ((k3.set_ 0 x).set_ 1 y).set_ 2 z, ?_⟩
  exact (Same.sets2 (B := 0) h2 (Nat.zero_le _) (by decide) a b).trans (Same.sets3 (B := 0) k3 (Nat.zero_le _) (by decide) x y z)
theorem do_below {X w : World} {b2 b3 B : Nat} (h : Below B w X) (h2 : B ≤ b2) (h3 : B ≤ b3) (a b x y z : Value) : Below B w (((((X.setCell ⟨b2, 0, none⟩ a).setCell ⟨b2, 1, none⟩ b).setCell ⟨b3, 0, none⟩ x).setCell ⟨b3, 1, none⟩ y).setCell ⟨b3, 2, none⟩ z) :=
  ((((h.setCell (p := ⟨b2, 0, none⟩) h2 _).setCell (p := ⟨b2, 1, none⟩) h2 _).setCell (p := ⟨b3, 0, none⟩) h3 _).setCell (p := ⟨b3, 1, none⟩) h3 _).setCell (p := ⟨b3, 2, none⟩) h3 _
end Go.Proofs.Ytioajgcbchdpeaa

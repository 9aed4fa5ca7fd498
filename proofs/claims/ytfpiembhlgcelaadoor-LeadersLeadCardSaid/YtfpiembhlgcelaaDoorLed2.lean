/- Part 2: words and walks under the law 'LeadersLead'. -/
import Derived.Test.YtfpiembhlgcelaaDoorLed1
set_option linter.unusedVariables false
set_option linter.unusedSimpArgs false
namespace Scu

def EntG (A : Str → Prop) (G : Gh) : Prop := ∀ v, G.st v → ∀ e ∈ G.vl v, A e

/-- what one replica's step comes to -/
def Stepped (A : Str → Prop) (G : Gh) (i : Int) (r r' : Replica) (out : List Message) : Prop :=
  ∃ G', Ext i G G' ∧ GoodG G' ∧ EntG A G' ∧ GoodR G' i r' ∧ (∀ m ∈ out, GoodM G' m) ∧ r.kept.commit ≤ r'.kept.commit

theorem Stepped.trans {A : Str → Prop} {G : Gh} {i : Int} {r r1 r2 : Replica} {o1 o2 : List Message}
    (h : Stepped A G i r r1 o1) (k : ∀ G', Ext i G G' → GoodG G' → EntG A G' → GoodR G' i r1 → Stepped A G' i r1 r2 o2) : Stepped A G i r r2 (o1 ++ o2) := by
  obtain ⟨G1, e1, g1, a1, h1, m1, c1⟩ := h
  obtain ⟨G2, e2, g2, a2, h2, m2, c2⟩ := k G1 e1 g1 a1 h1
  refine ⟨G2, e1.trans e2, g2, a2, h2, fun m hm => ?_, Int.le_trans c1 c2⟩
  rcases List.mem_append.1 hm with hm | hm
  · exact (m1 m hm).ext e2
  · exact m2 m hm

theorem toNat_inj {i j : Int} (hi : InR i) (hj : InR j) : i.toNat = j.toNat ↔ i = j := by unfold InR at *; omega
theorem getD_set {α : Type} (l : List α) (i j : Int) (x d : α) (hi : InR i) (hj : InR j) (hl : l.length = 3) :
    (l.set i.toNat x).getD j.toNat d = if j = i then x else l.getD j.toNat d := by
  have hi' : i.toNat < l.length := by unfold InR at hi; omega
  by_cases h : j = i
  · subst h
    simp [hi']
  · have : i.toNat ≠ j.toNat := fun e => h ((toNat_inj hi hj).1 e).symm
    simp [List.getElem?_set_ne this, h]

theorem getD_zero {α : Type} (x d : α) (j : Int) (hj : InR j) : [x, x, x].getD j.toNat d = x := by
  unfold InR at hj
  have : j = 0 ∨ j = 1 ∨ j = 2 := by omega
  rcases this with rfl | rfl | rfl <;> rfl

def geq (a b : Kept) : Prop := b.normal < a.normal ∨ (a.normal = b.normal ∧ b.log.length ≤ a.log.length)
theorem geq_refl (a : Kept) : geq a a := .inr ⟨rfl, Nat.le_refl _⟩
theorem geq_trans {a b c : Kept} (h : geq a b) (k : geq b c) : geq a c := by unfold geq at *; omega

theorem bestOf_spec (l : List (Kept × Bool)) : ∀ b : Kept, geq (l.foldl (fun b g => if g.2 && better g.1 b then g.1 else b) b) b ∧
    (∀ g ∈ l, g.2 = true → geq (l.foldl (fun b g => if g.2 && better g.1 b then g.1 else b) b) g.1) ∧
    (l.foldl (fun b g => if g.2 && better g.1 b then g.1 else b) b = b ∨ ∃ g ∈ l, g.2 = true ∧ l.foldl (fun b g => if g.2 && better g.1 b then g.1 else b) b = g.1) := by
  induction l with
  | nil => intro b; exact ⟨geq_refl b, by simp, .inl rfl⟩
  | cons x l ih =>
    intro b
    simp only [List.foldl_cons]
    obtain ⟨h1, h2, h3⟩ := ih (if x.2 && better x.1 b then x.1 else b)
    generalize hr : l.foldl (fun b g => if g.2 && better g.1 b then g.1 else b) (if x.2 && better x.1 b then x.1 else b) = R at *
    by_cases hx : (x.2 && better x.1 b) = true
    · rw [if_pos hx] at h1 h3
      have hb : geq x.1 b := by
        simp only [Bool.and_eq_true, better, Bool.or_eq_true, decide_eq_true_eq] at hx
        unfold geq; omega
      have hx2 : x.2 = true := by simp at hx; exact hx.1
      refine ⟨geq_trans h1 hb, ?_, ?_⟩
      · intro g hg hg2
        rcases List.mem_cons.1 hg with rfl | hg
        · exact h1
        · exact h2 g hg hg2
      · rcases h3 with h3 | ⟨g, hg, h⟩
        · exact .inr ⟨x, List.mem_cons_self, hx2, h3⟩
        · exact .inr ⟨g, List.mem_cons_of_mem _ hg, h⟩
    · rw [if_neg hx] at h1 h3
      refine ⟨h1, ?_, ?_⟩
      · intro g hg hg2
        rcases List.mem_cons.1 hg with rfl | hg
        · refine geq_trans h1 ?_
          rw [hg2] at hx
          simp only [Bool.true_and, better, Bool.or_eq_true, Bool.and_eq_true, decide_eq_true_eq] at hx
          unfold geq; omega
        · exact h2 g hg hg2
      · rcases h3 with h3 | ⟨g, hg, h⟩
        · exact .inl h3
        · exact .inr ⟨g, List.mem_cons_of_mem _ hg, h⟩

theorem maxCommit_spec (l : List (Kept × Bool)) : ∀ c : Int, c ≤ l.foldl (fun c g => if g.2 then max c g.1.commit else c) c ∧
    (∀ g ∈ l, g.2 = true → g.1.commit ≤ l.foldl (fun c g => if g.2 then max c g.1.commit else c) c) ∧
    (l.foldl (fun c g => if g.2 then max c g.1.commit else c) c = c ∨ ∃ g ∈ l, g.2 = true ∧ l.foldl (fun c g => if g.2 then max c g.1.commit else c) c = g.1.commit) := by
  induction l with
  | nil => intro c; exact ⟨Int.le_refl _, by simp, .inl rfl⟩
  | cons x l ih =>
    intro c
    simp only [List.foldl_cons]
    obtain ⟨h1, h2, h3⟩ := ih (if x.2 then max c x.1.commit else c)
    generalize l.foldl (fun c g => if g.2 then max c g.1.commit else c) (if x.2 then max c x.1.commit else c) = R at *
    by_cases hx : x.2 = true
    · simp only [hx, if_true] at h1 h3
      refine ⟨by omega, ?_, ?_⟩
      · intro g hg hg2
        rcases List.mem_cons.1 hg with rfl | hg
        · omega
        · exact h2 g hg hg2
      · rcases h3 with h3 | ⟨g, hg, h⟩
        · rcases Int.le_total c x.1.commit with h | h
          · exact .inr ⟨x, List.mem_cons_self, hx, by omega⟩
          · exact .inl (by omega)
        · exact .inr ⟨g, List.mem_cons_of_mem _ hg, h⟩
    · rw [if_neg hx] at h1 h3
      refine ⟨h1, ?_, ?_⟩
      · intro g hg hg2
        rcases List.mem_cons.1 hg with rfl | hg
        · exact absurd hg2 hx
        · exact h2 g hg hg2
      · rcases h3 with h3 | ⟨g, hg, h⟩
        · exact .inl h3
        · exact .inr ⟨g, List.mem_cons_of_mem _ hg, h⟩

theorem len3 {α : Type} {l : List α} (h : l.length = 3) : ∃ a b c, l = [a, b, c] := by
  match l, h with
  | [a, b, c], _ => exact ⟨a, b, c, rfl⟩

theorem mem_zip3 {gs : List Kept} {bs : List Bool} (h1 : gs.length = 3) (h2 : bs.length = 3) (k : Kept) :
    (k, true) ∈ gs.zip bs ↔ ∃ j, InR j ∧ bs.getD j.toNat false = true ∧ gs.getD j.toNat kept0 = k := by
  obtain ⟨a, b, c, rfl⟩ := len3 h1
  obtain ⟨x, y, z, rfl⟩ := len3 h2
  constructor
  · intro h
    simp only [List.zip_cons_cons, List.zip_nil_right, List.mem_cons, Prod.mk.injEq, List.not_mem_nil, or_false] at h
    rcases h with ⟨rfl, rfl⟩ | ⟨rfl, rfl⟩ | ⟨rfl, rfl⟩
    · exact ⟨0, by unfold InR; omega, rfl, rfl⟩
    · exact ⟨1, by unfold InR; omega, rfl, rfl⟩
    · exact ⟨2, by unfold InR; omega, rfl, rfl⟩
  · rintro ⟨j, hj, h3, h4⟩
    have : j = 0 ∨ j = 1 ∨ j = 2 := by unfold InR at hj; omega
    rcases this with rfl | rfl | rfl <;> simp at h3 h4 <;> subst h3 <;> subst h4 <;> simp

theorem countP2 {bs : List Bool} (h2 : bs.length = 3) {i : Int} (hi : InR i) (hc : ¬ bs.countP id < 2) :
    ∃ q, InR q ∧ q ≠ i ∧ bs.getD q.toNat false = true := by
  obtain ⟨x, y, z, rfl⟩ := len3 h2
  have : i = 0 ∨ i = 1 ∨ i = 2 := by unfold InR at hi; omega
  have r0 : InR 0 := by unfold InR; omega
  have r1 : InR 1 := by unfold InR; omega
  have r2 : InR 2 := by unfold InR; omega
  rcases this with rfl | rfl | rfl
  · cases y
    · cases z
      · exfalso; revert hc; cases x <;> decide
      · exact ⟨2, r2, by decide, rfl⟩
    · exact ⟨1, r1, by decide, rfl⟩
  · cases x
    · cases z
      · exfalso; revert hc; cases y <;> decide
      · exact ⟨2, r2, by decide, rfl⟩
    · exact ⟨0, r0, by decide, rfl⟩
  · cases x
    · cases y
      · exfalso; revert hc; cases z <;> decide
      · exact ⟨1, r1, by decide, rfl⟩
    · exact ⟨0, r0, by decide, rfl⟩

theorem mem_toAll {me v : Int} {m x : Message} (h : x ∈ toAll me v m) : ∃ i, InR i ∧ i ≠ me ∧ x = { m with from_ := me, «to» := i, view := v } := by
  unfold toAll at h
  simp only [List.mem_map, List.mem_filter, decide_eq_true_eq] at h
  obtain ⟨i, ⟨h1, h2⟩, rfl⟩ := h
  refine ⟨i, ?_, h2, rfl⟩
  simp at h1
  unfold InR; omega

theorem leadOn_good {G : Gh} {r : Replica} (h1 : G.st r.kept.view) (h2 : G.sl r.kept.view <+: r.kept.log) (h3 : r.kept.log <+: G.vl r.kept.view)
    (h4 : ComOk G r.kept.view r.kept.log r.kept.commit) : ∀ m ∈ leadOn r, GoodM G m := by
  intro m hm
  obtain ⟨i, _, _, rfl⟩ := mem_toAll hm
  exact ⟨fun _ => ⟨h1, h2, h3, h4⟩, fun h => by simp at h, fun h => by simp at h⟩

theorem wants_good {G : Gh} {me v : Int} : ∀ m ∈ toAll me v { msg0 with kind := 3 }, GoodM G m := by
  intro m hm
  obtain ⟨i, _, _, rfl⟩ := mem_toAll hm
  exact ⟨fun h => by simp at h, fun h => by simp at h, fun h => by simp at h⟩

/-- a replica that knows nothing of others -/
theorem GoodR.fresh {G : Gh} {i : Int} {r : Replica} (hi : InR i) (hm : r.me = i) (hk : KeptOk G i r.kept) : GoodR G i (fresh r) where
  inr := hi
  me := hm
  have3 := rfl
  wants3 := rfl
  gives3 := rfl
  given3 := rfl
  kept := hk
  given j hj hg := by rw [show (Scu.fresh r).given = [false, false, false] from rfl, getD_zero _ _ _ hj] at hg; cases hg
  self hg := by rw [show (Scu.fresh r).given = [false, false, false] from rfl, getD_zero _ _ _ hi] at hg; cases hg

theorem GoodR.wants {G : Gh} {i : Int} {r : Replica} (h : GoodR G i r) (l : List Bool) (hl : l.length = 3) : GoodR G i { r with wants := l } :=
  { h with wants3 := hl }
theorem GoodR.haves {G : Gh} {i : Int} {r : Replica} (h : GoodR G i r) (l : List Int) (hl : l.length = 3) : GoodR G i { r with have_ := l } :=
  { h with have3 := hl }

/-- a wild replica's own gift -/
theorem KeptOk.gift {G : Gh} {i : Int} {k : Kept} (h : KeptOk G i k) (hc : k.calm = false) : VG G i k.view (own k) where
  seen := by rw [h.view]; exact Int.le_refl _
  lt := h.wild hc
  st := h.st
  lo := h.lo
  hi := h.hi
  led w _ hs hl := ⟨h.led w hs hl, fun he => by
    have he' : k.normal = w := he
    subst he'
    exact h.mine hl⟩
  acked w _ ha := h.acked w ha
  com := h.com

theorem give1_good {G : Gh} {i j : Int} {r : Replica} {k : Kept} (h : GoodR G i r) (hc : r.kept.calm = false) (hj : InR j) (hv : VG G j r.kept.view (own k))
    (hs : j = i → own k = own r.kept) : GoodR G i (give1 r j k) :=
  { h with
    gives3 := by simp [give1, h.gives3]
    given3 := by simp [give1, h.given3]
    given := fun l hl hg => by
      refine ⟨hc, ?_⟩
      simp only [give1] at hg ⊢
      rw [getD_set _ _ _ _ _ hj hl h.given3] at hg
      rw [getD_set _ _ _ _ _ hj hl h.gives3]
      by_cases e : l = j
      · subst e; rw [if_pos rfl]; exact hv
      · rw [if_neg e] at hg ⊢; exact (h.given l hl hg).2
    self := fun hg => by
      simp only [give1] at hg ⊢
      rw [getD_set _ _ _ _ _ hj h.inr h.given3] at hg
      rw [getD_set _ _ _ _ _ hj h.inr h.gives3]
      by_cases e : i = j
      · subst e; rw [if_pos rfl]; exact hs rfl
      · rw [if_neg e] at hg ⊢; exact h.self hg }

theorem Stepped.same {A : Str → Prop} {G : Gh} {i : Int} {r : Replica} (g : GoodG G) (a : EntG A G) (h : GoodR G i r) : Stepped A G i r r [] :=
  ⟨G, Ext.refl i G, g, a, h, by simp, Int.le_refl _⟩

theorem begun_ok {A : Str → Prop} {G : Gh} {i : Int} {r : Replica} (g : GoodG G) (a : EntG A G) (h : GoodR G i r) (hc : r.kept.calm = false) (hl : leader r.kept.view = i) :
    Stepped A G i r (begun r).1 (begun r).2 := by
  unfold begun
  rw [h.me]
  split
  · exact .same g a h
  rename_i hgi
  split
  · exact .same g a h
  rename_i hcnt
  have hgi' : r.given.getD i.toNat false = true := by simpa using hgi
  obtain ⟨q, hq, hqi, hgq⟩ := countP2 h.given3 h.inr hcnt
  let S : Int → Prop := fun j => InR j ∧ r.given.getD j.toNat false = true
  let K : Int → Kept := fun j => r.gives.getD j.toNat kept0
  have hS : ∀ j, S j → InR j ∧ VG G j r.kept.view (K j) := fun j hj => ⟨hj.1, (h.given j hj.1 hj.2).2⟩
  obtain ⟨_, hb2, hb3⟩ := bestOf_spec (r.gives.zip r.given) { kept0 with normal := -1 }
  obtain ⟨hm1, hm2, hm3⟩ := maxCommit_spec (r.gives.zip r.given) 0
  have hin : ∀ j, S j → (K j, true) ∈ r.gives.zip r.given := fun j hj => (mem_zip3 h.gives3 h.given3 _).2 ⟨j, hj.1, hj.2, rfl⟩
  have hbd : bestOf (r.gives.zip r.given) = (r.gives.zip r.given).foldl (fun b g => if g.2 && better g.1 b then g.1 else b) { kept0 with normal := -1 } := rfl
  have hmd : maxCommit (r.gives.zip r.given) = (r.gives.zip r.given).foldl (fun c g => if g.2 then max c g.1.commit else c) 0 := rfl
  rw [← hbd] at hb2 hb3
  rw [← hmd] at hm1 hm2 hm3
  obtain ⟨p, hp, hpb⟩ : ∃ p, S p ∧ bestOf (r.gives.zip r.given) = K p := by
    rcases hb3 with h0 | ⟨x, hx, hx2, he⟩
    · exfalso
      have := hb2 _ (hin i ⟨h.inr, hgi'⟩) rfl
      rw [h0] at this
      have hn := g.nn _ (hS i ⟨h.inr, hgi'⟩).2.st
      unfold geq at this
      simp only at this
      omega
    · obtain ⟨x1, x2⟩ := x
      simp only at hx2 he
      subst hx2
      obtain ⟨j, hj, hg, hk⟩ := (mem_zip3 h.gives3 h.given3 _).1 hx
      exact ⟨j, ⟨hj, hg⟩, by rw [he, ← hk]⟩
  have hbest : ∀ j, S j → (K j).normal < (K p).normal ∨ ((K j).normal = (K p).normal ∧ (K j).log.length ≤ (K p).log.length) := fun j hj => by
    have : geq (bestOf (r.gives.zip r.given)) (K j) := hb2 _ (hin j hj) rfl
    rw [hpb] at this
    unfold geq at this
    omega
  have hnot : ¬ G.st r.kept.view := fun hs => by have := h.kept.led _ hs hl; have := h.kept.wild hc; omega
  have hnn : 0 ≤ r.kept.view := by have := g.nn _ h.kept.st; have := h.kept.le; omega
  obtain ⟨e, g'⟩ := begins_good g hl h.kept.view hnot hnn K S hS ⟨h.inr, hgi'⟩ p q ⟨hq, hgq⟩ hqi hp hbest
  have hVp := (hS p hp).2
  -- commits of what was given are in the best log
  have hcom : ∀ j, S j → ComOk (G.begins r.kept.view (K p).log) r.kept.view (K p).log (K j).commit := fun j hj => by
    have hv := (hS j hj).2
    have hc' := hv.com.ext e
    refine hc'.move ?_ (by have := hv.lt; omega)
    have := hc'.in_view g' hv.lt (.inl rfl)
    simpa [Gh.begins] using this
  have hself : K i = own r.kept := h.self hgi'
  have hci := hcom i ⟨h.inr, hgi'⟩
  rw [hself] at hci
  have hci1 : (own r.kept).commit = r.kept.commit := rfl
  rw [hci1] at hci
  have hge : r.kept.commit ≤ maxCommit (r.gives.zip r.given) := by
    have := hm2 _ (hin i ⟨h.inr, hgi'⟩) rfl
    rw [hself] at this
    exact this
  have hmax : ComOk (G.begins r.kept.view (K p).log) r.kept.view (K p).log (maxCommit (r.gives.zip r.given)) := by
    rcases hm3 with h0 | ⟨x, hx, hx2, he⟩
    · have : maxCommit (r.gives.zip r.given) = r.kept.commit := by have := h.kept.com.1; omega
      rw [this]; exact hci
    · obtain ⟨x1, x2⟩ := x
      simp only at hx2 he
      subst hx2
      obtain ⟨j, hj, hg, hk⟩ := (mem_zip3 h.gives3 h.given3 _).1 hx
      rw [he, ← hk]
      exact hcom j ⟨hj, hg⟩
  have hmin : min (maxCommit (r.gives.zip r.given)) ((K p).log.length : Int) = maxCommit (r.gives.zip r.given) := Int.min_eq_left hmax.2.1
  have hack0 : G.ack i r.kept.view = 0 := by
    rcases Nat.eq_zero_or_pos (G.ack i r.kept.view) with h0 | h0
    · exact h0
    · exact absurd (g.ackSt _ _ h0).1 hnot
  have hk : KeptOk (G.begins r.kept.view (K p).log) i ⟨r.kept.view, r.kept.view, true, (K p).log, maxCommit (r.gives.zip r.given)⟩ :=
    { view := h.kept.view
      le := Int.le_refl _
      calm := fun _ => rfl
      wild := fun hx => by cases hx
      st := .inl rfl
      lo := by simp [Gh.begins]
      hi := by simp [Gh.begins]
      mine := fun _ => by simp [Gh.begins]
      led := fun w hs hw => by
        rcases hs with rfl | hs
        · exact Int.le_refl _
        · have := h.kept.led w hs hw; have := h.kept.le
          show w ≤ r.kept.view
          omega
      acked := fun w ha => by
        have ha' : 0 < G.ack i w := ha
        have hw := (h.kept.acked w ha').1
        have := h.kept.wild hc
        refine ⟨by show w ≤ r.kept.view; omega, fun he => ?_⟩
        exfalso
        have he' : r.kept.view = w := he
        omega
      com := hmax }
  refine ⟨_, e, g', ?_, ?_, ?_, ?_⟩
  · intro v hv x hx
    simp only [Gh.begins] at hv hx
    split at hx
    · exact a _ hVp.st x (hVp.hi.subset hx)
    · rename_i hne
      exact a v (hv.resolve_left hne) x hx
  · simp only [hpb, hmin]
    exact GoodR.fresh h.inr rfl hk
  · simp only [hpb, hmin]
    refine leadOn_good ?_ ?_ ?_ ?_
    · exact .inl rfl
    · simp [Scu.fresh, Gh.begins]
    · simp [Scu.fresh, Gh.begins]
    · exact hmax
  · simp only [hpb, hmin]
    exact hge

end Scu
namespace Scu

theorem want_ok {A : Str → Prop} {G : Gh} {i v : Int} {r : Replica} (g : GoodG G) (a : EntG A G) (h : GoodR G i r) (hv : r.kept.view < v) :
    Stepped A G i r (want r v).1 (want r v).2 := by
  have hle : G.vw i ≤ v := by rw [h.kept.view]; omega
  have e := moved_ext (G := G) (i := i) (v := v) hle
  have hk : KeptOk (G.moved i v) i { r.kept with view := v, calm := false } :=
    { view := by simp [Gh.moved]
      le := by have := h.kept.le; show r.kept.normal ≤ v; omega
      calm := fun hx => by cases hx
      wild := fun _ => by have := h.kept.le; show r.kept.normal < v; omega
      st := h.kept.st
      lo := h.kept.lo
      hi := h.kept.hi
      mine := h.kept.mine
      led := h.kept.led
      acked := h.kept.acked
      com := h.kept.com.ext e }
  refine ⟨G.moved i v, e, moved_good g hle, a, ?_, ?_, Int.le_refl _⟩
  · exact (GoodR.fresh (r := { r with kept := { r.kept with view := v, calm := false } }) h.inr h.me hk).wants _ (by simp [fresh])
  · exact wants_good

theorem hearLead_ok {A : Str → Prop} {G : Gh} {i : Int} {r : Replica} {m : Message} (g : GoodG G) (a : EntG A G) (h : GoodR G i r) (hm : GoodM G m)
    (hk : m.kind = 1) (hf : m.from_ = leader m.view) (hne : m.from_ ≠ i) (hv : r.kept.view ≤ m.view) :
    Stepped A G i r (hearLead r m).1 (hearLead r m).2 := by
  obtain ⟨hst, hlo, hhi, hcom⟩ := hm.lead hk
  have hil : i ≠ leader m.view := by rw [← hf]; exact hne.symm
  by_cases hcase : r.kept.view < m.view ∨ r.kept.calm = false
  · -- the view is new
    have hnv : r.kept.normal < m.view := by
      rcases hcase with hx | hx
      · have := h.kept.le; omega
      · have := h.kept.wild hx; omega
    have hle : G.vw i ≤ m.view := by rw [h.kept.view]; exact hv
    have e1 := moved_ext (G := G) (i := i) (v := m.view) hle
    have g1 := moved_good g hle
    have hvw1 : (G.moved i m.view).vw i = m.view := by simp [Gh.moved]
    have e2 := acks_ext (G := G.moved i m.view) (i := i) (v := m.view) (n := m.log.length) (by rw [hvw1]; exact Int.le_refl _)
    have g2 := acks_good g1 (n := m.log.length) hvw1 (show (G.moved i m.view).st m.view from hst) hhi.length_le hil
    have hold : G.ack i m.view = 0 := by
      rcases Nat.eq_zero_or_pos (G.ack i m.view) with h0 | h0
      · exact h0
      · have := (h.kept.acked _ h0).1; omega
    have hck : ComOk G m.view m.log r.kept.commit := h.kept.com.move ((h.kept.com.in_view g hnv hst).trans hlo) (by omega)
    have hmin : min r.kept.commit (m.log.length : Int) = r.kept.commit := Int.min_eq_left hck.2.1
    have hmin2 : min m.commit (m.log.length : Int) = m.commit := Int.min_eq_left hcom.2.1
    have hmx : max (max m.commit r.kept.commit) m.commit = max m.commit r.kept.commit := by omega
    have hcc : ComOk ((G.moved i m.view).acks i m.view m.log.length) m.view m.log (max m.commit r.kept.commit) := ((hcom.max hck).ext e1).ext e2
    have hkept : KeptOk ((G.moved i m.view).acks i m.view m.log.length) i ⟨m.view, m.view, true, m.log, max m.commit r.kept.commit⟩ :=
      { view := hvw1
        le := Int.le_refl _
        calm := fun _ => rfl
        wild := fun hx => by cases hx
        st := hst
        lo := hlo
        hi := hhi
        mine := fun hx => absurd hx.symm hil
        led := fun w hs hl => by have := h.kept.led w hs hl; show w ≤ m.view; omega
        acked := fun w ha => by
          simp only [Gh.acks, Gh.moved] at ha ⊢
          by_cases ew : w = m.view
          · subst ew
            refine ⟨Int.le_refl _, fun _ => ?_⟩
            rw [if_pos (by simp), hold]
            omega
          · rw [if_neg (fun hx => ew hx.2)] at ha
            have := (h.kept.acked w ha).1
            refine ⟨by show w ≤ m.view; omega, fun hx => absurd hx.symm ew⟩
        com := hcc }
    have heq : hearLead r m = ({ fresh { r with kept := ⟨m.view, m.view, true, m.log, max m.commit r.kept.commit⟩ } with me := r.me },
        [{ msg0 with kind := 2, from_ := r.me, «to» := m.from_, view := m.view, n := m.log.length }]) := by
      unfold hearLead
      simp only [if_pos hcase, fresh, hmin, hmin2, hmx]
    rw [heq]
    refine ⟨_, e1.trans e2, g2, a, GoodR.fresh (r := { r with kept := ⟨m.view, m.view, true, m.log, max m.commit r.kept.commit⟩ }) h.inr h.me hkept, ?_, ?_⟩
    · intro x hx
      simp only [List.mem_singleton] at hx
      subst hx
      refine ⟨fun hx => by simp at hx, fun _ => ?_, fun hx => by simp at hx⟩
      simp only [Gh.acks, Gh.moved, h.me]
      rw [if_pos (by simp)]
      omega
    · show r.kept.commit ≤ max m.commit r.kept.commit
      omega
  · -- the same view
    have hcalm : r.kept.calm = true := by cases hx : r.kept.calm <;> simp_all
    have hview : m.view = r.kept.view := by have : ¬ r.kept.view < m.view := fun hx => hcase (.inl hx); omega
    have hnorm := h.kept.calm hcalm
    have hvwi : G.vw i = m.view := by rw [h.kept.view, hview]
    let l := if r.kept.log.length < m.log.length then m.log else r.kept.log
    have hn : r.kept.normal = m.view := by rw [hnorm, hview]
    have hRlo : G.sl m.view <+: r.kept.log := hn ▸ h.kept.lo
    have hRhi : r.kept.log <+: G.vl m.view := hn ▸ h.kept.hi
    have hlm : m.log <+: l := by
      show m.log <+: (if r.kept.log.length < m.log.length then m.log else r.kept.log)
      split
      · exact List.prefix_refl _
      · exact prefix_of_two hhi hRhi (by omega)
    have hlr : r.kept.log <+: l := by
      show r.kept.log <+: (if r.kept.log.length < m.log.length then m.log else r.kept.log)
      split
      · exact prefix_of_two hRhi hhi (by omega)
      · exact List.prefix_refl _
    have hllo : G.sl m.view <+: l := hlo.trans hlm
    have hlhi : l <+: G.vl m.view := by
      show (if r.kept.log.length < m.log.length then m.log else r.kept.log) <+: _
      split <;> assumption
    have hcm : ComOk G m.view l m.commit := hcom.move ((List.take_prefix _ _).trans hlm) (Int.le_refl _)
    have hcr : ComOk G m.view l r.kept.commit := h.kept.com.move ((List.take_prefix _ _).trans hlr) (by omega)
    have hmin : min m.commit (l.length : Int) = m.commit := Int.min_eq_left hcm.2.1
    have e2 := acks_ext (G := G) (i := i) (v := m.view) (n := l.length) (by rw [hvwi]; exact Int.le_refl _)
    have g2 := acks_good g (n := l.length) hvwi hst hlhi.length_le hil
    have hkept : KeptOk (G.acks i m.view l.length) i ⟨m.view, m.view, true, l, max r.kept.commit m.commit⟩ :=
      { view := hvwi
        le := Int.le_refl _
        calm := fun _ => rfl
        wild := fun hx => by cases hx
        st := hst
        lo := hllo
        hi := hlhi
        mine := fun hx => absurd hx.symm hil
        led := fun w hs hl => by have := h.kept.led w hs hl; show w ≤ m.view; omega
        acked := fun w ha => by
          simp only [Gh.acks] at ha ⊢
          by_cases ew : w = m.view
          · subst ew
            refine ⟨Int.le_refl _, fun _ => ?_⟩
            rw [if_pos (by simp)]
            have h1 := hlr.length_le
            rcases Nat.eq_zero_or_pos (G.ack i m.view) with h0 | h0
            · omega
            · have := (h.kept.acked _ h0).2 hn; omega
          · rw [if_neg (fun hx => ew hx.2)] at ha
            have := (h.kept.acked w ha).1
            exact ⟨by show w ≤ m.view; omega, fun hx => absurd hx.symm ew⟩
        com := (hcr.max hcm).ext e2 }
    have heq : hearLead r m = ({ r with kept := ⟨m.view, m.view, true, l, max r.kept.commit m.commit⟩ },
        [{ msg0 with kind := 2, from_ := r.me, «to» := m.from_, view := m.view, n := l.length }]) := by
      unfold hearLead
      simp only [if_neg hcase]
      by_cases hlen : r.kept.log.length < m.log.length
      · have el : l = m.log := if_pos hlen
        rw [el] at hmin
        simp only [if_pos hlen, el, hmin, ← hview, hn, hcalm]
      · have el : l = r.kept.log := if_neg hlen
        rw [el] at hmin
        simp only [if_neg hlen, el, hmin, ← hview, hn, hcalm]
    rw [heq]
    refine ⟨_, e2, g2, a, ?_, ?_, ?_⟩
    · refine { h with kept := hkept, given := ?_, self := ?_ }
      · intro j hj hg
        have := (h.given j hj hg).1
        rw [hcalm] at this
        cases this
      · intro hg
        have := (h.given i h.inr hg).1
        rw [hcalm] at this
        cases this
    · intro x hx
      simp only [List.mem_singleton] at hx
      subst hx
      refine ⟨fun hx => by simp at hx, fun _ => ?_, fun hx => by simp at hx⟩
      simp only [Gh.acks, h.me]
      rw [if_pos (by simp)]
      omega
    · show r.kept.commit ≤ max r.kept.commit m.commit
      omega

theorem GoodR.calm_given {G : Gh} {i : Int} {r : Replica} (h : GoodR G i r) (hc : r.kept.calm = true) (j : Int) (hj : InR j) : ¬ r.given.getD j.toNat false = true := by
  intro hg
  have := (h.given j hj hg).1
  rw [hc] at this
  cases this

theorem GoodR.calm_kept {G G' : Gh} {i : Int} {r : Replica} {k : Kept} (h : GoodR G i r) (hc : r.kept.calm = true) (hk : KeptOk G' i k) : GoodR G' i { r with kept := k } :=
  { h with kept := hk, given := fun j hj hg => absurd hg (h.calm_given hc j hj), self := fun hg => absurd hg (h.calm_given hc i h.inr) }

theorem leads_iff {r : Replica} : leads r = true ↔ r.kept.calm = true ∧ leader r.kept.view = r.me := by
  unfold leads; simp

theorem hearHas_ok {A : Str → Prop} {G : Gh} {i : Int} {r : Replica} {m : Message} (g : GoodG G) (a : EntG A G) (h : GoodR G i r) (hm : GoodM G m)
    (hk : m.kind = 2) (hfr : InR m.from_) (hn0 : 0 ≤ m.n) (hto : i = leader m.view) (hne : m.from_ ≠ i) :
    Stepped A G i r (hearHas r m).1 (hearHas r m).2 := by
  unfold hearHas
  split
  · exact .same g a h
  rename_i hcond
  have hview : m.view = r.kept.view := by by_cases hx : m.view = r.kept.view; exact hx; exact absurd (.inl hx) hcond
  have hleads : leads r = true := by cases hx : leads r; exact absurd (.inr hx) hcond; rfl
  obtain ⟨hcalm, hld⟩ := leads_iff.1 hleads
  have hnorm := h.kept.calm hcalm
  have hh : GoodR G i { r with have_ := r.have_.set m.from_.toNat (max (r.have_.getD m.from_.toNat 0) (min m.n r.kept.log.length)) } := h.haves _ (by simp [h.have3])
  have hmn := hm.has hk
  simp only []
  split
  · rename_i hlt
    have hc : ComOk G r.kept.normal r.kept.log (min m.n r.kept.log.length) := by
      have h0 : 0 ≤ min m.n (r.kept.log.length : Int) := by omega
      have h1 : min m.n (r.kept.log.length : Int) ≤ (r.kept.log.length : Int) := by omega
      refine ⟨h0, h1, .inr ⟨r.kept.normal, m.from_, Int.le_refl _, h.kept.st, hfr, ?_, ?_, ?_⟩⟩
      · rw [hnorm, ← hview, ← hto]; exact hne
      · rw [hnorm, ← hview, List.length_take]
        omega
      · exact (List.take_prefix _ _).trans h.kept.hi
    have hk' : KeptOk G i { r.kept with commit := min m.n r.kept.log.length } := { h.kept with com := hc }
    have hr' := hh.calm_kept hcalm hk'
    refine ⟨G, Ext.refl i G, g, a, hr', ?_, ?_⟩
    · refine leadOn_good ?_ ?_ ?_ ?_
      · show G.st r.kept.view; rw [← hnorm]; exact h.kept.st
      · show G.sl r.kept.view <+: r.kept.log; rw [← hnorm]; exact h.kept.lo
      · show r.kept.log <+: G.vl r.kept.view; rw [← hnorm]; exact h.kept.hi
      · show ComOk G r.kept.view r.kept.log _; rw [← hnorm]; exact hc
    · show r.kept.commit ≤ min m.n r.kept.log.length
      omega
  · exact ⟨G, Ext.refl i G, g, a, hh, by simp, Int.le_refl _⟩

theorem wantIf_ok {A : Str → Prop} {G : Gh} {i v : Int} {r : Replica} (g : GoodG G) (a : EntG A G) (h : GoodR G i r) :
    Stepped A G i r (wantIf r v).1 (wantIf r v).2 := by
  unfold wantIf
  split
  · exact want_ok g a h (by assumption)
  · exact .same g a h
theorem wantIf_view {r : Replica} {v : Int} (h : r.kept.view ≤ v) : (wantIf r v).1.kept.view = v ∨ (wantIf r v).1.kept.view = v := by
  unfold wantIf
  split
  · exact .inl rfl
  · exact .inl (by show r.kept.view = v; omega)

theorem give_msg_good {G : Gh} {i «to» : Int} {r : Replica} (h : GoodR G i r) (hc : r.kept.calm = false) :
    GoodM G { msg0 with kind := 4, from_ := r.me, «to» := «to», view := r.kept.view, normal := r.kept.normal, commit := r.kept.commit, log := r.kept.log } := by
  refine ⟨fun hx => by simp at hx, fun hx => by simp at hx, fun _ => ?_⟩
  show VG G r.me r.kept.view _
  rw [h.me]
  have := h.kept.gift hc
  exact { seen := this.seen, lt := this.lt, st := this.st, lo := this.lo, hi := this.hi, led := this.led, acked := this.acked, com := this.com }

theorem Stepped.of_kept {A : Str → Prop} {G : Gh} {i : Int} {r r1 r2 : Replica} {o : List Message} (h : Stepped A G i r1 r2 o) (hc : r1.kept = r.kept) : Stepped A G i r r2 o := by
  unfold Stepped at *
  rw [← hc]
  exact h

theorem hearWant_ok {A : Str → Prop} {G : Gh} {i : Int} {r : Replica} {m : Message} (g : GoodG G) (a : EntG A G) (h : GoodR G i r) :
    Stepped A G i r (hearWant r m).1 (hearWant r m).2 := by
  have hw := wantIf_ok (v := m.view) g a h
  unfold hearWant
  generalize wantIf r m.view = x at *
  obtain ⟨r1, o1⟩ := x
  simp only at hw ⊢
  split
  · exact hw
  rename_i hcond
  have hc : r1.kept.calm = false := by cases hx : r1.kept.calm; rfl; exact absurd (.inl hx) hcond
  split
  · rename_i hto
    refine hw.trans fun G1 e1 g1 a1 h1 => ?_
    have hl : leader r1.kept.view = i := by rw [← h1.me]; exact hto
    have h2 : GoodR G1 i { r1 with wants := r1.wants.set m.from_.toNat true } := h1.wants _ (by simp [h1.wants3])
    have h3 := give1_good (j := leader r1.kept.view) (k := r1.kept) h2 hc (leader_in _) (by rw [hl]; exact h1.kept.gift hc) (fun _ => rfl)
    exact (begun_ok g1 a1 h3 hc hl).of_kept rfl
  · refine hw.trans fun G1 e1 g1 a1 h1 => ?_
    have h2 : GoodR G1 i { r1 with wants := r1.wants.set m.from_.toNat true } := h1.wants _ (by simp [h1.wants3])
    refine ⟨G1, Ext.refl i G1, g1, a1, h2, ?_, Int.le_refl _⟩
    intro x hx
    simp only [List.mem_singleton] at hx
    subst hx
    have := give_msg_good («to» := leader r1.kept.view) h2 hc
    exact this

theorem hearGive_ok {A : Str → Prop} {G : Gh} {i : Int} {r : Replica} {m : Message} (g : GoodG G) (a : EntG A G) (h : GoodR G i r) (hm : GoodM G m)
    (hk : m.kind = 4) (hfr : InR m.from_) (hne : m.from_ ≠ i) (hto : i = leader m.view) (hv : r.kept.view ≤ m.view) :
    Stepped A G i r (hearGive r m).1 (hearGive r m).2 := by
  have hw := wantIf_ok (v := m.view) g a h
  have hview := (wantIf_view hv).elim id id
  unfold hearGive
  generalize wantIf r m.view = x at *
  obtain ⟨r1, o1⟩ := x
  simp only at hw hview ⊢
  split
  · exact hw
  rename_i hcond
  have hc : r1.kept.calm = false := by cases hx : r1.kept.calm; rfl; exact absurd hx hcond
  refine hw.trans fun G1 e1 g1 a1 h1 => ?_
  have hl : leader r1.kept.view = i := by rw [hview, ← hto]
  have hvg := (hm.ext e1).give hk
  have h2 : ∃ r2 : Replica, r2 = (if r1.given.getD r1.me.toNat false = false then give1 r1 r1.me r1.kept else r1) ∧ GoodR G1 i r2 ∧ r2.kept = r1.kept := by
    refine ⟨_, rfl, ?_, ?_⟩
    · split
      · rw [h1.me]
        exact give1_good h1 hc h1.inr (h1.kept.gift hc) (fun _ => rfl)
      · exact h1
    · split <;> rfl
  obtain ⟨r2, e2, h2, hk2⟩ := h2
  rw [← e2]
  have h3 := give1_good (j := m.from_) (k := ⟨m.view, m.normal, false, m.log, m.commit⟩) h2 (by rw [hk2]; exact hc) hfr (by rw [hk2, hview]; exact hvg) (fun hx => absurd hx hne)
  refine (begun_ok g1 a1 h3 ?_ ?_).of_kept ?_
  · show r2.kept.calm = false; rw [hk2]; exact hc
  · show leader r2.kept.view = i; rw [hk2]; exact hl
  · show r2.kept = r1.kept; exact hk2

theorem msgFault_ok {m : Message} (h : msgFault m = 0) : 1 ≤ m.kind ∧ m.kind ≤ 4 ∧ InR m.from_ ∧ InR m.to ∧ m.from_ ≠ m.to ∧ 0 ≤ m.view ∧ m.view ≤ 1048576 ∧ 0 ≤ m.n ∧
    (m.kind = 1 → m.from_ = leader m.view) ∧ (m.kind = 2 → m.to = leader m.view) ∧ (m.kind = 4 → m.to = leader m.view) ∧
    keptFault ⟨m.view, m.normal, false, m.log, m.commit⟩ = 0 := by
  unfold msgFault at h
  split at h
  · omega
  split at h
  · omega
  split at h
  · omega
  split at h
  · omega
  unfold InR
  refine ⟨by omega, by omega, by omega, by omega, by omega, by omega, by omega, by omega, by omega, by omega, by omega, h⟩

theorem hear_ok {A : Str → Prop} {G : Gh} {i : Int} {r : Replica} {m : Message} (g : GoodG G) (a : EntG A G) (h : GoodR G i r) (hm : GoodM G m)
    (hok : (hear r m).2.2 = 0) : Stepped A G i r (hear r m).1 (hear r m).2.1 := by
  unfold hear at hok ⊢
  split
  · rename_i hx; rw [if_pos hx] at hok; exact absurd hok hx
  rename_i hx; rw [if_neg hx] at hok
  split
  · rename_i hx; rw [if_pos hx] at hok; exact absurd hok hx
  rename_i hx2; rw [if_neg hx2] at hok
  split
  · rename_i hx; rw [if_pos hx] at hok; simp at hok
  rename_i hx3; rw [if_neg hx3] at hok
  split
  · rename_i hx; rw [if_pos hx] at hok; simp at hok
  rename_i hx4
  have hx2' : msgFault m = 0 := by omega
  obtain ⟨f1, f2, f3, f4, f5, f6, f7, f8, f9, f10, f11, _⟩ := msgFault_ok hx2'
  have hto : m.to = i := by rw [← h.me]; omega
  simp only [hearIt]
  split
  · rename_i hk
    exact hearLead_ok g a h hm hk (f9 hk) (by rw [← hto]; exact f5) (by omega)
  split
  · rename_i hk
    exact hearHas_ok g a h hm hk f3 f8 (by rw [← hto]; exact f10 hk) (by rw [← hto]; exact f5)
  split
  · exact hearWant_ok g a h
  · have hk : m.kind = 4 := by omega
    exact hearGive_ok g a h hm hk f3 (by rw [← hto]; exact f5) (by rw [← hto]; exact f11 hk) (by omega)

theorem take_ok {A : Str → Prop} {G : Gh} {i : Int} {r : Replica} {e : Str} (g : GoodG G) (a : EntG A G) (h : GoodR G i r) (he : A e)
    (hok : (take r e).2.2 = 0) : Stepped A G i r (take r e).1 (take r e).2.1 := by
  unfold take at hok ⊢
  split
  · rename_i hx; rw [if_pos hx] at hok; exact absurd hok hx
  rename_i hx; rw [if_neg hx] at hok
  split
  · rename_i hx; rw [if_pos hx] at hok; simp at hok
  rename_i hx2; rw [if_neg hx2] at hok
  split
  · rename_i hx; rw [if_pos hx] at hok; simp at hok
  rename_i hx3; rw [if_neg hx3] at hok
  split
  · rename_i hx; rw [if_pos hx] at hok; exact absurd hok hx
  obtain ⟨hcalm, hld⟩ := leads_iff.1 (by cases hx : leads r; exact absurd hx hx2; rfl : leads r = true)
  rw [h.me] at hld
  have hnorm := h.kept.calm hcalm
  have hvw := h.kept.view
  have hlog : r.kept.log = G.vl r.kept.view := by rw [← hnorm]; exact h.kept.mine (by rw [hnorm]; exact hld)
  have hp : G.vl r.kept.view <+: r.kept.log ++ [e] := by rw [← hlog]; exact List.prefix_append _ _
  have ext := longer_ext (G := G) (i := i) (v := r.kept.view) (l := r.kept.log ++ [e]) (by rw [hvw]; exact Int.le_refl _) hld hp
  have g' := longer_good g hvw hld hp
  have hst : G.st r.kept.view := by rw [← hnorm]; exact h.kept.st
  have hlo : G.sl r.kept.view <+: r.kept.log ++ [e] := (g.pre _ hst).trans hp
  have hcom : ComOk G r.kept.view (r.kept.log ++ [e]) r.kept.commit :=
    h.kept.com.move ((List.take_prefix _ _).trans (List.prefix_append _ _)) (by omega)
  have hk : KeptOk (G.longer r.kept.view (r.kept.log ++ [e])) i { r.kept with log := r.kept.log ++ [e] } :=
    { view := hvw
      le := h.kept.le
      calm := h.kept.calm
      wild := h.kept.wild
      st := h.kept.st
      lo := by show G.sl r.kept.normal <+: _; rw [hnorm]; exact hlo
      hi := by simp [Gh.longer, hnorm]
      mine := fun _ => by simp [Gh.longer, hnorm]
      led := h.kept.led
      acked := fun w ha => by
        obtain ⟨h1, h2⟩ := h.kept.acked w ha
        refine ⟨h1, fun hx => ?_⟩
        have := h2 hx
        show G.ack i w ≤ (r.kept.log ++ [e]).length
        rw [List.length_append]
        omega
      com := by rw [show ({ r.kept with log := r.kept.log ++ [e] } : Kept).normal = r.kept.view from hnorm]; exact hcom.ext ext }
  refine ⟨_, ext, g', ?_, h.calm_kept hcalm hk, ?_, Int.le_refl _⟩
  · intro v hv x hx
    simp only [Gh.longer] at hv hx
    split at hx
    · rcases List.mem_append.1 hx with hx | hx
      · rw [hlog] at hx
        exact a _ hst x hx
      · simp only [List.mem_singleton] at hx
        subst hx
        exact he
    · exact a v hv x hx
  · refine leadOn_good ?_ ?_ ?_ ?_
    · exact hst
    · exact hlo
    · simp [Gh.longer]
    · exact hcom.ext ext

theorem tick_ok {A : Str → Prop} {G : Gh} {i : Int} {r : Replica} (g : GoodG G) (a : EntG A G) (h : GoodR G i r)
    (hok : (tick r).2.2 = 0) : Stepped A G i r (tick r).1 (tick r).2.1 := by
  unfold tick at hok ⊢
  split
  · rename_i hx; rw [if_pos hx] at hok; exact absurd hok hx
  split
  · rename_i hl
    obtain ⟨hcalm, hld⟩ := leads_iff.1 hl
    have hnorm := h.kept.calm hcalm
    refine ⟨G, Ext.refl i G, g, a, h, ?_, Int.le_refl _⟩
    refine leadOn_good ?_ ?_ ?_ ?_
    · rw [← hnorm]; exact h.kept.st
    · rw [← hnorm]; exact h.kept.lo
    · rw [← hnorm]; exact h.kept.hi
    · rw [← hnorm]; exact h.kept.com
  split
  · rename_i hl hcalm
    have hnorm := h.kept.calm hcalm
    have hil : i ≠ leader r.kept.view := fun hx => hl (leads_iff.2 ⟨hcalm, by rw [h.me]; exact hx.symm⟩)
    have hst : G.st r.kept.view := by rw [← hnorm]; exact h.kept.st
    have e2 := acks_ext (G := G) (i := i) (v := r.kept.view) (n := r.kept.log.length) (by rw [h.kept.view]; exact Int.le_refl _)
    have g2 := acks_good g (n := r.kept.log.length) h.kept.view hst (by rw [← hnorm]; exact h.kept.hi.length_le) hil
    have hk : KeptOk (G.acks i r.kept.view r.kept.log.length) i r.kept :=
      { h.kept with
        acked := fun w ha => by
          simp only [Gh.acks] at ha ⊢
          by_cases ew : w = r.kept.view
          · subst ew
            refine ⟨by omega, fun _ => ?_⟩
            rw [if_pos (by simp)]
            rcases Nat.eq_zero_or_pos (G.ack i r.kept.view) with h0 | h0
            · omega
            · have := (h.kept.acked _ h0).2 hnorm; omega
          · rw [if_neg (fun hx => ew hx.2)] at ha ⊢
            exact h.kept.acked w ha
        com := h.kept.com.ext e2 }
    refine ⟨_, e2, g2, a, h.calm_kept hcalm hk, ?_, Int.le_refl _⟩
    intro x hx
    simp only [List.mem_singleton] at hx
    subst hx
    refine ⟨fun hx => by simp at hx, fun _ => ?_, fun hx => by simp at hx⟩
    simp only [Gh.acks, h.me]
    rw [if_pos (by simp)]
    omega
  · refine ⟨G, Ext.refl i G, g, a, h.wants _ (by simp [h.wants3]), wants_good, Int.le_refl _⟩

theorem alarm_ok {A : Str → Prop} {G : Gh} {i : Int} {r : Replica} (g : GoodG G) (a : EntG A G) (h : GoodR G i r)
    (hok : (alarm r).2.2 = 0) : Stepped A G i r (alarm r).1 (alarm r).2.1 := by
  unfold alarm at hok ⊢
  split
  · rename_i hx; rw [if_pos hx] at hok; exact absurd hok hx
  rename_i hx; rw [if_neg hx] at hok
  split
  · rename_i hx; rw [if_pos hx] at hok; simp at hok
  · exact want_ok g a h (by omega)

end Scu

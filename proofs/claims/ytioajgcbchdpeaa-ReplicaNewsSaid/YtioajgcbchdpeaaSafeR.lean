import Derived.Test.YtioajgcbchdpeaaSafe
namespace Scu

def EntG (A : Str → Prop) (G : Gh) : Prop := ∀ v, G.st v → ∀ e ∈ G.vl v, A e

/-- what one replica's step comes to -/
def Stepped (A : Str → Prop) (G : Gh) (i : Int) (r r' : Replica) (out : List Message) : Prop :=
  ∃ G', Ext i G G' ∧ GoodG G' ∧ EntG A G' ∧ GoodR G' i r' ∧ (∀ m ∈ out, GoodM G' m) ∧ r.kept.commit ≤ r'.kept.commit

theorem Stepped.trans {A : Str → Prop} {G : Gh} {i : Int} {r r1 r2 : Replica} {o1 o2 : List Message}
    (h : Stepped A G i r r1 o1) (k : ∀ G', Ext i G G' → GoodG G' → EntG A G' → GoodR G' i r1 → Stepped A G' i r1 r2 o2) : Stepped A G i r r2 (o1 ++ o2) := by
  obtain ⟨G1, e1, g1, a1, h1, m1, c1⟩ := h
  obtain ⟨G2, e2, g2, a2, h2, m2, c2⟩ := k G1 e1 g1 a1 h1
  refine ⟨G2, e1.trans e2, g2, a2, h2, fun m hm => ?_, Int.le_trans c1 c2⟩
  rcases List.mem_append.1 hm with hm | hm
  · exact (m1 m hm).ext e2
  · exact m2 m hm

theorem toNat_inj {i j : Int} (hi : InR i) (hj : InR j) : i.toNat = j.toNat ↔ i = j := by unfold InR at *; omega
theorem getD_set {α : Type} (l : List α) (i j : Int) (x d : α) (hi : InR i) (hj : InR j) (hl : l.length = 3) :
    (l.set i.toNat x).getD j.toNat d = if j = i then x else l.getD j.toNat d := by
  have hi' : i.toNat < l.length := by unfold InR at hi; omega
  by_cases h : j = i
  · subst h
    simp [hi']
  · have : i.toNat ≠ j.toNat := fun e => h ((toNat_inj hi hj).1 e).symm
    simp [List.getElem?_set_ne this, h]

theorem getD_zero {α : Type} (x d : α) (j : Int) (hj : InR j) : [x, x, x].getD j.toNat d = x := by
  unfold InR at hj
  have : j = 0 ∨ j = 1 ∨ j = 2 := by omega
  rcases this with rfl | rfl | rfl <;> rfl

def geq (a b : Kept) : Prop := b.normal < a.normal ∨ (a.normal = b.normal ∧ b.log.length ≤ a.log.length)
theorem geq_refl (a : Kept) : geq a a := .inr ⟨rfl, Nat.le_refl _⟩
theorem geq_trans {a b c : Kept} (h : geq a b) (k : geq b c) : geq a c := by unfold geq at *; omega

theorem bestOf_spec (l : List (Kept × Bool)) : ∀ b : Kept, geq (l.foldl (fun b g => if g.2 && better g.1 b then g.1 else b) b) b ∧
    (∀ g ∈ l, g.2 = true → geq (l.foldl (fun b g => if g.2 && better g.1 b then g.1 else b) b) g.1) ∧
    (l.foldl (fun b g => if g.2 && better g.1 b then g.1 else b) b = b ∨ ∃ g ∈ l, g.2 = true ∧ l.foldl (fun b g => if g.2 && better g.1 b then g.1 else b) b = g.1) := by
  induction l with
  | nil => intro b; exact ⟨geq_refl b, by simp, .inl rfl⟩
  | cons x l ih =>
    intro b
    simp only [List.foldl_cons]
    obtain ⟨h1, h2, h3⟩ := ih (if x.2 && better x.1 b then x.1 else b)
    generalize hr : l.foldl (fun b g => if g.2 && better g.1 b then g.1 else b) (if x.2 && better x.1 b then x.1 else b) = R at *
    by_cases hx : (x.2 && better x.1 b) = true
    · rw [if_pos hx] at h1 h3
      have hb : geq x.1 b := by
        simp only [Bool.and_eq_true, better, Bool.or_eq_true, decide_eq_true_eq] at hx
        unfold geq; omega
      have hx2 : x.2 = true := by simp at hx; exact hx.1
      refine ⟨geq_trans h1 hb, ?_, ?_⟩
      · intro g hg hg2
        rcases List.mem_cons.1 hg with rfl | hg
        · exact h1
        · exact h2 g hg hg2
      · rcases h3 with h3 | ⟨g, hg, h⟩
        · exact .inr ⟨x, List.mem_cons_self, hx2, h3⟩
        · exact .inr ⟨g, List.mem_cons_of_mem _ hg, h⟩
    · rw [if_neg hx] at h1 h3
      refine ⟨h1, ?_, ?_⟩
      · intro g hg hg2
        rcases List.mem_cons.1 hg with rfl | hg
        · refine geq_trans h1 ?_
          rw [hg2] at hx
          simp only [Bool.true_and, better, Bool.or_eq_true, Bool.and_eq_true, decide_eq_true_eq] at hx
          unfold geq; omega
        · exact h2 g hg hg2
      · rcases h3 with h3 | ⟨g, hg, h⟩
        · exact .inl h3
        · exact .inr ⟨g, List.mem_cons_of_mem _ hg, h⟩

theorem maxCommit_spec (l : List (Kept × Bool)) : ∀ c : Int, c ≤ l.foldl (fun c g => if g.2 then max c g.1.commit else c) c ∧
    (∀ g ∈ l, g.2 = true → g.1.commit ≤ l.foldl (fun c g => if g.2 then max c g.1.commit else c) c) ∧
    (l.foldl (fun c g => if g.2 then max c g.1.commit else c) c = c ∨ ∃ g ∈ l, g.2 = true ∧ l.foldl (fun c g => if g.2 then max c g.1.commit else c) c = g.1.commit) := by
  induction l with
  | nil => intro c; exact ⟨Int.le_refl _, by simp, .inl rfl⟩
  | cons x l ih =>
    intro c
    simp only [List.foldl_cons]
    obtain ⟨h1, h2, h3⟩ := ih (if x.2 then max c x.1.commit else c)
    generalize l.foldl (fun c g => if g.2 then max c g.1.commit else c) (if x.2 then max c x.1.commit else c) = R at *
    by_cases hx : x.2 = true
    · simp only [hx, if_true] at h1 h3
      refine ⟨by omega, ?_, ?_⟩
      · intro g hg hg2
        rcases List.mem_cons.1 hg with rfl | hg
        · omega
        · exact h2 g hg hg2
      · rcases h3 with h3 | ⟨g, hg, h⟩
        · rcases Int.le_total c x.1.commit with h | h
          · exact .inr ⟨x, List.mem_cons_self, hx, by omega⟩
          · exact .inl (by omega)
        · exact .inr ⟨g, List.mem_cons_of_mem _ hg, h⟩
    · rw [if_neg hx] at h1 h3
      refine ⟨h1, ?_, ?_⟩
      · intro g hg hg2
        rcases List.mem_cons.1 hg with rfl | hg
        · exact absurd hg2 hx
        · exact h2 g hg hg2
      · rcases h3 with h3 | ⟨g, hg, h⟩
        · exact .inl h3
        · exact .inr ⟨g, List.mem_cons_of_mem _ hg, h⟩

theorem len3 {α : Type} {l : List α} (h : l.length = 3) : ∃ a b c, l = [a, b, c] := by
  match l, h with
  | [a, b, c], _ => exact ⟨a, b, c, rfl⟩

theorem mem_zip3 {gs : List Kept} {bs : List Bool} (h1 : gs.length = 3) (h2 : bs.length = 3) (k : Kept) :
    (k, true) ∈ gs.zip bs ↔ ∃ j, InR j ∧ bs.getD j.toNat false = true ∧ gs.getD j.toNat kept0 = k := by
  obtain ⟨a, b, c, rfl⟩ := len3 h1
  obtain ⟨x, y, z, rfl⟩ := len3 h2
  constructor
  · intro h
    simp only [List.zip_cons_cons, List.zip_nil_right, List.mem_cons, Prod.mk.injEq, List.not_mem_nil, or_false] at h
    rcases h with ⟨rfl, rfl⟩ | ⟨rfl, rfl⟩ | ⟨rfl, rfl⟩
    · exact ⟨0, by unfold InR; omega, rfl, rfl⟩
    · exact ⟨1, by unfold InR; omega, rfl, rfl⟩
    · exact ⟨2, by unfold InR; omega, rfl, rfl⟩
  · rintro ⟨j, hj, h3, h4⟩
    have : j = 0 ∨ j = 1 ∨ j = 2 := by unfold InR at hj; omega
    rcases this with rfl | rfl | rfl <;> simp at h3 h4 <;> subst h3 <;> subst h4 <;> simp

theorem countP2 {bs : List Bool} (h2 : bs.length = 3) {i : Int} (hi : InR i) (hc : ¬ bs.countP id < 2) :
    ∃ q, InR q ∧ q ≠ i ∧ bs.getD q.toNat false = true := by
  obtain ⟨x, y, z, rfl⟩ := len3 h2
  have : i = 0 ∨ i = 1 ∨ i = 2 := by unfold InR at hi; omega
  have r0 : InR 0 := by unfold InR; omega
  have r1 : InR 1 := by unfold InR; omega
  have r2 : InR 2 := by unfold InR; omega
  rcases this with rfl | rfl | rfl
  · cases y
    · cases z
      · exfalso; revert hc; cases x <;> decide
      · exact ⟨2, r2, by decide, rfl⟩
    · exact ⟨1, r1, by decide, rfl⟩
  · cases x
    · cases z
      · exfalso; revert hc; cases y <;> decide
      · exact ⟨2, r2, by decide, rfl⟩
    · exact ⟨0, r0, by decide, rfl⟩
  · cases x
    · cases y
      · exfalso; revert hc; cases z <;> decide
      · exact ⟨1, r1, by decide, rfl⟩
    · exact ⟨0, r0, by decide, rfl⟩

theorem mem_toAll {me v : Int} {m x : Message} (h : x ∈ toAll me v m) : ∃ i, InR i ∧ i ≠ me ∧ x = { m with from_ := me, to := i, view := v } := by
  unfold toAll at h
  simp only [List.mem_map, List.mem_filter, decide_eq_true_eq] at h
  obtain ⟨i, ⟨h1, h2⟩, rfl⟩ := h
  refine ⟨i, ?_, h2, rfl⟩
  simp at h1
  unfold InR; omega

theorem leadOn_good {G : Gh} {r : Replica} (h1 : G.st r.kept.view) (h2 : G.sl r.kept.view <+: r.kept.log) (h3 : r.kept.log <+: G.vl r.kept.view)
    (h4 : ComOk G r.kept.view r.kept.log r.kept.commit) : ∀ m ∈ leadOn r, GoodM G m := by
  intro m hm
  obtain ⟨i, _, _, rfl⟩ := mem_toAll hm
  exact ⟨fun _ => ⟨h1, h2, h3, h4⟩, fun h => by simp at h, fun h => by simp at h⟩

theorem wants_good {G : Gh} {me v : Int} : ∀ m ∈ toAll me v { msg0 with kind := 3 }, GoodM G m := by
  intro m hm
  obtain ⟨i, _, _, rfl⟩ := mem_toAll hm
  exact ⟨fun h => by simp at h, fun h => by simp at h, fun h => by simp at h⟩

/-- a replica that knows nothing of others -/
theorem GoodR.fresh {G : Gh} {i : Int} {r : Replica} (hi : InR i) (hm : r.me = i) (hk : KeptOk G i r.kept) : GoodR G i (fresh r) where
  inr := hi
  me := hm
  have3 := rfl
  wants3 := rfl
  gives3 := rfl
  given3 := rfl
  kept := hk
  given j hj hg := by rw [show (Scu.fresh r).given = [false, false, false] from rfl, getD_zero _ _ _ hj] at hg; cases hg
  self hg := by rw [show (Scu.fresh r).given = [false, false, false] from rfl, getD_zero _ _ _ hi] at hg; cases hg

theorem GoodR.wants {G : Gh} {i : Int} {r : Replica} (h : GoodR G i r) (l : List Bool) (hl : l.length = 3) : GoodR G i { r with wants := l } :=
  { h with wants3 := hl }
theorem GoodR.haves {G : Gh} {i : Int} {r : Replica} (h : GoodR G i r) (l : List Int) (hl : l.length = 3) : GoodR G i { r with have_ := l } :=
  { h with have3 := hl }

/-- a wild replica's own gift -/
theorem KeptOk.gift {G : Gh} {i : Int} {k : Kept} (h : KeptOk G i k) (hc : k.calm = false) : VG G i k.view (own k) where
  seen := by rw [h.view]; exact Int.le_refl _
  lt := h.wild hc
  st := h.st
  lo := h.lo
  hi := h.hi
  led w _ hs hl := ⟨h.led w hs hl, fun he => by
    have he' : k.normal = w := he
    subst he'
    exact h.mine hl⟩
  acked w _ ha := h.acked w ha
  com := h.com

theorem give1_good {G : Gh} {i j : Int} {r : Replica} {k : Kept} (h : GoodR G i r) (hc : r.kept.calm = false) (hj : InR j) (hv : VG G j r.kept.view (own k))
    (hs : j = i → own k = own r.kept) : GoodR G i (give1 r j k) :=
  { h with
    gives3 := by simp [give1, h.gives3]
    given3 := by simp [give1, h.given3]
    given := fun l hl hg => by
      refine ⟨hc, ?_⟩
      simp only [give1] at hg ⊢
      rw [getD_set _ _ _ _ _ hj hl h.given3] at hg
      rw [getD_set _ _ _ _ _ hj hl h.gives3]
      by_cases e : l = j
      · subst e; rw [if_pos rfl]; exact hv
      · rw [if_neg e] at hg ⊢; exact (h.given l hl hg).2
    self := fun hg => by
      simp only [give1] at hg ⊢
      rw [getD_set _ _ _ _ _ hj h.inr h.given3] at hg
      rw [getD_set _ _ _ _ _ hj h.inr h.gives3]
      by_cases e : i = j
      · subst e; rw [if_pos rfl]; exact hs rfl
      · rw [if_neg e] at hg ⊢; exact h.self hg }

theorem Stepped.same {A : Str → Prop} {G : Gh} {i : Int} {r : Replica} (g : GoodG G) (a : EntG A G) (h : GoodR G i r) : Stepped A G i r r [] :=
  ⟨G, Ext.refl i G, g, a, h, by simp, Int.le_refl _⟩

theorem begun_ok {A : Str → Prop} {G : Gh} {i : Int} {r : Replica} (g : GoodG G) (a : EntG A G) (h : GoodR G i r) (hc : r.kept.calm = false) (hl : leader r.kept.view = i) :
    Stepped A G i r (begun r).1 (begun r).2 := by
  unfold begun
  rw [h.me]
  split
  · exact .same g a h
  rename_i hgi
  split
  · exact .same g a h
  rename_i hcnt
  have hgi' : r.given.getD i.toNat false = true := by simpa using hgi
  obtain ⟨q, hq, hqi, hgq⟩ := countP2 h.given3 h.inr hcnt
  let S : Int → Prop := fun j => InR j ∧ r.given.getD j.toNat false = true
  let K : Int → Kept := fun j => r.gives.getD j.toNat kept0
  have hS : ∀ j, S j → InR j ∧ VG G j r.kept.view (K j) := fun j hj => ⟨hj.1, (h.given j hj.1 hj.2).2⟩
  obtain ⟨_, hb2, hb3⟩ := bestOf_spec (r.gives.zip r.given) { kept0 with normal := -1 }
  obtain ⟨hm1, hm2, hm3⟩ := maxCommit_spec (r.gives.zip r.given) 0
  have hin : ∀ j, S j → (K j, true) ∈ r.gives.zip r.given := fun j hj => (mem_zip3 h.gives3 h.given3 _).2 ⟨j, hj.1, hj.2, rfl⟩
  have hbd : bestOf (r.gives.zip r.given) = (r.gives.zip r.given).foldl (fun b g => if g.2 && better g.1 b then g.1 else b) { kept0 with normal := -1 } := rfl
  have hmd : maxCommit (r.gives.zip r.given) = (r.gives.zip r.given).foldl (fun c g => if g.2 then max c g.1.commit else c) 0 := rfl
  rw [← hbd] at hb2 hb3
  rw [← hmd] at hm1 hm2 hm3
  obtain ⟨p, hp, hpb⟩ : ∃ p, S p ∧ bestOf (r.gives.zip r.given) = K p := by
    rcases hb3 with h0 | ⟨x, hx, hx2, he⟩
    · exfalso
      have := hb2 _ (hin i ⟨h.inr, hgi'⟩) rfl
      rw [h0] at this
      have hn := g.nn _ (hS i ⟨h.inr, hgi'⟩).2.st
      unfold geq at this
      simp only at this
      omega
    · obtain ⟨x1, x2⟩ := x
      simp only at hx2 he
      subst hx2
      obtain ⟨j, hj, hg, hk⟩ := (mem_zip3 h.gives3 h.given3 _).1 hx
      exact ⟨j, ⟨hj, hg⟩, by rw [he, ← hk]⟩
  have hbest : ∀ j, S j → (K j).normal < (K p).normal ∨ ((K j).normal = (K p).normal ∧ (K j).log.length ≤ (K p).log.length) := fun j hj => by
    have : geq (bestOf (r.gives.zip r.given)) (K j) := hb2 _ (hin j hj) rfl
    rw [hpb] at this
    unfold geq at this
    omega
  have hnot : ¬ G.st r.kept.view := fun hs => by have := h.kept.led _ hs hl; have := h.kept.wild hc; omega
  have hnn : 0 ≤ r.kept.view := by have := g.nn _ h.kept.st; have := h.kept.le; omega
  obtain ⟨e, g'⟩ := begins_good g hl h.kept.view hnot hnn K S hS ⟨h.inr, hgi'⟩ p q ⟨hq, hgq⟩ hqi hp hbest
  have hVp := (hS p hp).2
  -- commits of what was given are in the best log
  have hcom : ∀ j, S j → ComOk (G.begins r.kept.view (K p).log) r.kept.view (K p).log (K j).commit := fun j hj => by
    have hv := (hS j hj).2
    have hc' := hv.com.ext e
    refine hc'.move ?_ (by have := hv.lt; omega)
    have := hc'.in_view g' hv.lt (.inl rfl)
    simpa [Gh.begins] using this
  have hself : K i = own r.kept := h.self hgi'
  have hci := hcom i ⟨h.inr, hgi'⟩
  rw [hself] at hci
  have hci1 : (own r.kept).commit = r.kept.commit := rfl
  rw [hci1] at hci
  have hge : r.kept.commit ≤ maxCommit (r.gives.zip r.given) := by
    have := hm2 _ (hin i ⟨h.inr, hgi'⟩) rfl
    rw [hself] at this
    exact this
  have hmax : ComOk (G.begins r.kept.view (K p).log) r.kept.view (K p).log (maxCommit (r.gives.zip r.given)) := by
    rcases hm3 with h0 | ⟨x, hx, hx2, he⟩
    · have : maxCommit (r.gives.zip r.given) = r.kept.commit := by have := h.kept.com.1; omega
      rw [this]; exact hci
    · obtain ⟨x1, x2⟩ := x
      simp only at hx2 he
      subst hx2
      obtain ⟨j, hj, hg, hk⟩ := (mem_zip3 h.gives3 h.given3 _).1 hx
      rw [he, ← hk]
      exact hcom j ⟨hj, hg⟩
  have hmin : min (maxCommit (r.gives.zip r.given)) ((K p).log.length : Int) = maxCommit (r.gives.zip r.given) := Int.min_eq_left hmax.2.1
  have hack0 : G.ack i r.kept.view = 0 := by
    rcases Nat.eq_zero_or_pos (G.ack i r.kept.view) with h0 | h0
    · exact h0
    · exact absurd (g.ackSt _ _ h0).1 hnot
  have hk : KeptOk (G.begins r.kept.view (K p).log) i ⟨r.kept.view, r.kept.view, true, (K p).log, maxCommit (r.gives.zip r.given)⟩ :=
    { view := h.kept.view
      le := Int.le_refl _
      calm := fun _ => rfl
      wild := fun hx => by cases hx
      st := .inl rfl
      lo := by simp [Gh.begins]
      hi := by simp [Gh.begins]
      mine := fun _ => by simp [Gh.begins]
      led := fun w hs hw => by
        rcases hs with rfl | hs
        · exact Int.le_refl _
        · have := h.kept.led w hs hw; have := h.kept.le
          show w ≤ r.kept.view
          omega
      acked := fun w ha => by
        have ha' : 0 < G.ack i w := ha
        have hw := (h.kept.acked w ha').1
        have := h.kept.wild hc
        refine ⟨by show w ≤ r.kept.view; omega, fun he => ?_⟩
        exfalso
        have he' : r.kept.view = w := he
        omega
      com := hmax }
  refine ⟨_, e, g', ?_, ?_, ?_, ?_⟩
  · intro v hv x hx
    simp only [Gh.begins] at hv hx
    split at hx
    · exact a _ hVp.st x (hVp.hi.subset hx)
    · rename_i hne
      exact a v (hv.resolve_left hne) x hx
  · simp only [hpb, hmin]
    exact GoodR.fresh h.inr rfl hk
  · simp only [hpb, hmin]
    refine leadOn_good ?_ ?_ ?_ ?_
    · exact .inl rfl
    · simp [Scu.fresh, Gh.begins]
    · simp [Scu.fresh, Gh.begins]
    · exact hmax
  · simp only [hpb, hmin]
    exact hge

end Scu

import Derived.Test.YtioajgcbchdpeaaModel
namespace Scu

structure Gh where
  st : Int → Prop
  sl : Int → List Str
  vl : Int → List Str
  ack : Int → Int → Nat
  vw : Int → Int

def InR (j : Int) : Prop := 0 ≤ j ∧ j < 3
theorem leader_in (v : Int) : InR (leader v) := by unfold InR leader; omega

def Valid (G : Gh) (n : Int) (P : List Str) : Prop :=
  P = [] ∨ ∃ w j, w ≤ n ∧ G.st w ∧ InR j ∧ j ≠ leader w ∧ P.length ≤ G.ack j w ∧ P <+: G.vl w

def ComOk (G : Gh) (n : Int) (log : List Str) (c : Int) : Prop :=
  0 ≤ c ∧ c ≤ log.length ∧ Valid G n (log.take c.toNat)

structure VG (G : Gh) (j v : Int) (k : Kept) : Prop where
  seen : v ≤ G.vw j
  lt : k.normal < v
  st : G.st k.normal
  lo : G.sl k.normal <+: k.log
  hi : k.log <+: G.vl k.normal
  led : ∀ w, w < v → G.st w → leader w = j → w ≤ k.normal ∧ (k.normal = w → k.log = G.vl w)
  acked : ∀ w, w < v → 0 < G.ack j w → w ≤ k.normal ∧ (k.normal = w → G.ack j w ≤ k.log.length)
  com : ComOk G k.normal k.log k.commit

structure GoodG (G : Gh) : Prop where
  nn : ∀ v, G.st v → 0 ≤ v
  two : ∀ v, G.st v → ∀ i j, InR i → InR j → i ≠ j → v ≤ G.vw i ∨ v ≤ G.vw j
  pre : ∀ v, G.st v → G.sl v <+: G.vl v
  ackLen : ∀ j w, G.ack j w ≤ (G.vl w).length
  ackSt : ∀ j w, 0 < G.ack j w → G.st w ∧ w ≤ G.vw j
  lc1 : ∀ w v j, w < v → G.st w → G.st v → InR j → j ≠ leader w → ∀ P, P <+: G.vl w → P.length ≤ G.ack j w → P <+: G.sl v
  lc2 : ∀ w v j, w < v → G.st w → G.st v → InR j → j ≠ leader w → G.vw j ≤ w → G.vl w <+: G.sl v

structure KeptOk (G : Gh) (i : Int) (k : Kept) : Prop where
  view : G.vw i = k.view
  le : k.normal ≤ k.view
  calm : k.calm = true → k.normal = k.view
  wild : k.calm = false → k.normal < k.view
  st : G.st k.normal
  lo : G.sl k.normal <+: k.log
  hi : k.log <+: G.vl k.normal
  mine : leader k.normal = i → k.log = G.vl k.normal
  led : ∀ w, G.st w → leader w = i → w ≤ k.normal
  acked : ∀ w, 0 < G.ack i w → w ≤ k.normal ∧ (k.normal = w → G.ack i w ≤ k.log.length)
  com : ComOk G k.normal k.log k.commit

structure GoodR (G : Gh) (i : Int) (r : Replica) : Prop where
  inr : InR i
  me : r.me = i
  have3 : r.have_.length = 3
  wants3 : r.wants.length = 3
  gives3 : r.gives.length = 3
  given3 : r.given.length = 3
  kept : KeptOk G i r.kept
  given : ∀ j, InR j → r.given.getD j.toNat false = true → r.kept.calm = false ∧ VG G j r.kept.view (r.gives.getD j.toNat kept0)
  self : r.given.getD i.toNat false = true → r.gives.getD i.toNat kept0 = own r.kept

structure GoodM (G : Gh) (m : Message) : Prop where
  lead : m.kind = 1 → G.st m.view ∧ G.sl m.view <+: m.log ∧ m.log <+: G.vl m.view ∧ ComOk G m.view m.log m.commit
  has : m.kind = 2 → m.n ≤ G.ack m.from_ m.view
  give : m.kind = 4 → VG G m.from_ m.view ⟨m.view, m.normal, false, m.log, m.commit⟩

/-- what replica a alone may do to the ghost -/
structure Ext (a : Int) (G G' : Gh) : Prop where
  st : ∀ v, G.st v → G'.st v
  sl : ∀ v, G.st v → G'.sl v = G.sl v
  vl : ∀ v, G.st v → G.vl v <+: G'.vl v
  ack : ∀ j w, G.ack j w ≤ G'.ack j w
  vw : ∀ j, G.vw j ≤ G'.vw j
  vwOther : ∀ j, j ≠ a → G'.vw j = G.vw j
  ackOther : ∀ j w, j ≠ a → G'.ack j w = G.ack j w
  stOther : ∀ v, leader v ≠ a → (G'.st v ↔ G.st v)
  vlOther : ∀ v, leader v ≠ a → G.st v → G'.vl v = G.vl v
  ackFrozen : ∀ j w, w < G.vw j → G'.ack j w = G.ack j w
  stFrozen : ∀ w, w < G.vw (leader w) → (G'.st w → G.st w)
  vlFrozen : ∀ w, w < G.vw (leader w) → G.st w → G'.vl w = G.vl w

theorem Ext.refl (a : Int) (G : Gh) : Ext a G G :=
  ⟨fun _ h => h, fun _ _ => rfl, fun _ _ => List.prefix_refl _, fun _ _ => Nat.le_refl _, fun _ => Int.le_refl _, fun _ _ => rfl, fun _ _ _ => rfl,
    fun _ _ => Iff.rfl, fun _ _ _ => rfl, fun _ _ _ => rfl, fun _ _ h => h, fun _ _ _ => rfl⟩

theorem Ext.trans {a : Int} {G H K : Gh} (h : Ext a G H) (k : Ext a H K) : Ext a G K where
  st v hv := k.st v (h.st v hv)
  sl v hv := (k.sl v (h.st v hv)).trans (h.sl v hv)
  vl v hv := (h.vl v hv).trans (k.vl v (h.st v hv))
  ack j w := Nat.le_trans (h.ack j w) (k.ack j w)
  vw j := Int.le_trans (h.vw j) (k.vw j)
  vwOther j hj := (k.vwOther j hj).trans (h.vwOther j hj)
  ackOther j w hj := (k.ackOther j w hj).trans (h.ackOther j w hj)
  stOther v hv := (k.stOther v hv).trans (h.stOther v hv)
  vlOther v hv hs := (k.vlOther v hv (h.st v hs)).trans (h.vlOther v hv hs)
  ackFrozen j w hw := (k.ackFrozen j w (by have := h.vw j; omega)).trans (h.ackFrozen j w hw)
  stFrozen w hw hs := h.stFrozen w hw (k.stFrozen w (by have := h.vw (leader w); omega) hs)
  vlFrozen w hw hs := (k.vlFrozen w (by have := h.vw (leader w); omega) (h.st w hs)).trans (h.vlFrozen w hw hs)

theorem Valid.ext {a : Int} {G G' : Gh} {n : Int} {P : List Str} (e : Ext a G G') (h : Valid G n P) : Valid G' n P := by
  rcases h with h | ⟨w, j, h1, h2, h3, h4, h5, h6⟩
  · exact .inl h
  · exact .inr ⟨w, j, h1, e.st w h2, h3, h4, Nat.le_trans h5 (e.ack j w), h6.trans (e.vl w h2)⟩
theorem Valid.mono {G : Gh} {n m : Int} {P : List Str} (h : Valid G n P) (hm : n ≤ m) : Valid G m P := by
  rcases h with h | ⟨w, j, h1, h2⟩
  · exact .inl h
  · exact .inr ⟨w, j, by omega, h2⟩
theorem ComOk.ext {a : Int} {G G' : Gh} {n : Int} {l : List Str} {c : Int} (e : Ext a G G') (h : ComOk G n l c) : ComOk G' n l c := ⟨h.1, h.2.1, h.2.2.ext e⟩
theorem VG.ext {a : Int} {G G' : Gh} {j v : Int} {k : Kept} (e : Ext a G G') (h : VG G j v k) : VG G' j v k where
  seen := Int.le_trans h.seen (e.vw j)
  lt := h.lt
  st := e.st _ h.st
  lo := by rw [e.sl _ h.st]; exact h.lo
  hi := h.hi.trans (e.vl _ h.st)
  led w hw hs hl := by
    have hv : w < G.vw (leader w) := by rw [hl]; have := h.seen; omega
    have hs' := e.stFrozen w hv hs
    obtain ⟨h1, h2⟩ := h.led w hw hs' hl
    exact ⟨h1, fun hn => by rw [e.vlFrozen w hv hs']; exact h2 hn⟩
  acked w hw ha := by
    have hv : w < G.vw j := by have := h.seen; omega
    rw [e.ackFrozen j w hv] at ha ⊢
    exact h.acked w hw ha
  com := h.com.ext e
theorem GoodM.ext {a : Int} {G G' : Gh} {m : Message} (e : Ext a G G') (h : GoodM G m) : GoodM G' m where
  lead hk := by
    obtain ⟨h1, h2, h3, h4⟩ := h.lead hk
    exact ⟨e.st _ h1, by rw [e.sl _ h1]; exact h2, h3.trans (e.vl _ h1), h4.ext e⟩
  has hk := by have := h.has hk; have := e.ack m.from_ m.view; omega
  give hk := (h.give hk).ext e
theorem KeptOk.ext {a i : Int} {G G' : Gh} {k : Kept} (e : Ext a G G') (hi : i ≠ a) (h : KeptOk G i k) : KeptOk G' i k where
  view := (e.vwOther i hi).trans h.view
  le := h.le
  calm := h.calm
  wild := h.wild
  st := e.st _ h.st
  lo := by rw [e.sl _ h.st]; exact h.lo
  hi := h.hi.trans (e.vl _ h.st)
  mine hl := by rw [e.vlOther _ (by rw [hl]; exact hi) h.st]; exact h.mine hl
  led w hs hl := h.led w ((e.stOther w (by rw [hl]; exact hi)).1 hs) hl
  acked w ha := by rw [e.ackOther i w hi] at ha ⊢; exact h.acked w ha
  com := h.com.ext e
theorem GoodR.ext {a i : Int} {G G' : Gh} {r : Replica} (e : Ext a G G') (hi : i ≠ a) (h : GoodR G i r) : GoodR G' i r :=
  { h with kept := h.kept.ext e hi, given := fun j hj hg => ⟨(h.given j hj hg).1, (h.given j hj hg).2.ext e⟩ }

/- facts on lists -/
theorem prefix_of_two {α : Type} {a b c : List α} (h : a <+: c) (k : b <+: c) (hl : a.length ≤ b.length) : a <+: b := List.prefix_of_prefix_length_le h k hl
theorem take_of_prefix {α : Type} {a b : List α} (h : a <+: b) {n : Nat} (hn : n ≤ a.length) : b.take n = a.take n := by
  obtain ⟨t, rfl⟩ := h
  rw [List.take_append_of_le_length hn]
theorem take_len_of_prefix {α : Type} {a b : List α} (h : a <+: b) : b.take a.length = a := by
  rw [take_of_prefix h (Nat.le_refl _), List.take_length]

/- two valid lists agree -/
theorem Valid.agree {G : Gh} (g : GoodG G) {n m : Int} {P Q : List Str} (hp : Valid G n P) (hq : Valid G m Q) : P <+: Q ∨ Q <+: P := by
  rcases hp with rfl | ⟨w, j, h1, h2, h3, h4, h5, h6⟩
  · exact .inl (List.nil_prefix)
  · rcases hq with rfl | ⟨u, i, k1, k2, k3, k4, k5, k6⟩
    · exact .inr (List.nil_prefix)
    · rcases Int.lt_trichotomy w u with h | h | h
      · have hu : P <+: G.vl u := (g.lc1 w u j h h2 k2 h3 h4 P h6 h5).trans (g.pre u k2)
        exact List.prefix_or_prefix_of_prefix hu k6
      · subst h
        exact List.prefix_or_prefix_of_prefix h6 k6
      · have hw : Q <+: G.vl w := (g.lc1 u w i h k2 h2 k3 k4 Q k6 k5).trans (g.pre w h2)
        exact List.prefix_or_prefix_of_prefix h6 hw
/-- what is valid is in every later view -/
theorem Valid.in_view {G : Gh} (g : GoodG G) {n v : Int} {P : List Str} (hp : Valid G n P) (hn : n < v) (hv : G.st v) : P <+: G.sl v := by
  rcases hp with rfl | ⟨w, j, h1, h2, h3, h4, h5, h6⟩
  · exact List.nil_prefix
  · exact g.lc1 w v j (by omega) h2 hv h3 h4 P h6 h5
theorem ComOk.in_view {G : Gh} (g : GoodG G) {n v : Int} {l : List Str} {c : Int} (h : ComOk G n l c) (hn : n < v) (hv : G.st v) : l.take c.toNat <+: G.sl v := h.2.2.in_view g hn hv

theorem ComOk.length {G : Gh} {n : Int} {l : List Str} {c : Int} (h : ComOk G n l c) : (l.take c.toNat).length = c.toNat := by
  rw [List.length_take]; have := h.1; have := h.2.1; omega

/-- what was committed in one log is committed in another one that has it -/
theorem ComOk.move {G : Gh} {n m : Int} {l l' : List Str} {c : Int} (h : ComOk G n l c) (hp : l.take c.toNat <+: l') (hm : n ≤ m) : ComOk G m l' c := by
  have hl := h.length
  have h' := hp.length_le
  refine ⟨h.1, by have := h.1; omega, ?_⟩
  have : l'.take c.toNat = l.take c.toNat := by
    have := take_len_of_prefix hp
    rwa [hl] at this
  rw [this]
  exact h.2.2.mono hm
theorem ComOk.max {G : Gh} {n : Int} {l : List Str} {c d : Int} (h : ComOk G n l c) (k : ComOk G n l d) : ComOk G n l (max c d) := by
  rcases Int.le_total c d with h1 | h1
  · rw [Int.max_eq_right h1]; exact k
  · rw [Int.max_eq_left h1]; exact h

/- the ghost's moves -/
def Gh.moved (G : Gh) (i v : Int) : Gh := { G with vw := fun j => if j = i then v else G.vw j }
def Gh.acks (G : Gh) (i v : Int) (n : Nat) : Gh := { G with ack := fun j w => if j = i ∧ w = v then max (G.ack i v) n else G.ack j w }
def Gh.begins (G : Gh) (v : Int) (l : List Str) : Gh :=
  { G with st := fun w => w = v ∨ G.st w, sl := fun w => if w = v then l else G.sl w, vl := fun w => if w = v then l else G.vl w }
def Gh.longer (G : Gh) (v : Int) (l : List Str) : Gh := { G with vl := fun w => if w = v then l else G.vl w }

theorem moved_ext {G : Gh} {i v : Int} (h : G.vw i ≤ v) : Ext i G (G.moved i v) :=
  { Ext.refl i G with
    vw := fun j => by
      simp only [Gh.moved]; split
      · rename_i e; rw [e]; exact h
      · exact Int.le_refl _
    vwOther := fun j hj => by simp only [Gh.moved]; rw [if_neg hj] }
theorem moved_good {G : Gh} (g : GoodG G) {i v : Int} (h : G.vw i ≤ v) : GoodG (G.moved i v) := by
  have hv := (moved_ext h).vw
  refine { g with two := ?_, ackSt := ?_, lc2 := ?_ }
  · intro u hu a b ha hb hab
    rcases g.two u hu a b ha hb hab with h1 | h1
    · exact .inl (Int.le_trans h1 (hv a))
    · exact .inr (Int.le_trans h1 (hv b))
  · intro j w ha
    exact ⟨(g.ackSt j w ha).1, Int.le_trans (g.ackSt j w ha).2 (hv j)⟩
  · intro w u j h1 h2 h3 h4 h5 h6
    exact g.lc2 w u j h1 h2 h3 h4 h5 (Int.le_trans (hv j) h6)

theorem acks_ext {G : Gh} {i v : Int} {n : Nat} (hv : G.vw i ≤ v) : Ext i G (G.acks i v n) :=
  { Ext.refl i G with
    ack := fun j w => by
      simp only [Gh.acks]; split
      · rename_i h; obtain ⟨rfl, rfl⟩ := h; exact Nat.le_max_left _ _
      · exact Nat.le_refl _
    ackOther := fun j w hj => by simp only [Gh.acks]; rw [if_neg (fun h => hj h.1)]
    ackFrozen := fun j w hw => by
      simp only [Gh.acks]
      rw [if_neg]
      rintro ⟨rfl, rfl⟩
      omega }
theorem acks_good {G : Gh} (g : GoodG G) {i v : Int} {n : Nat} (hv : G.vw i = v) (hs : G.st v) (hn : n ≤ (G.vl v).length) (hl : i ≠ leader v) :
    GoodG (G.acks i v n) := by
  refine { g with ackLen := ?_, ackSt := ?_, lc1 := ?_ }
  · intro j w
    simp only [Gh.acks]; split
    · rename_i h; obtain ⟨rfl, rfl⟩ := h; have := g.ackLen j w; omega
    · exact g.ackLen j w
  · intro j w ha
    simp only [Gh.acks] at ha ⊢
    by_cases h : j = i ∧ w = v
    · obtain ⟨rfl, rfl⟩ := h
      exact ⟨hs, by omega⟩
    · rw [if_neg h] at ha
      exact g.ackSt j w ha
  · intro w u j h1 h2 h3 h4 h5 P h6 h7
    simp only [Gh.acks] at h7 h6 h2 h3 ⊢
    by_cases h : j = i ∧ w = v
    · obtain ⟨rfl, rfl⟩ := h
      exact h6.trans (g.lc2 w u j h1 h2 h3 h4 h5 (by omega))
    · rw [if_neg h] at h7
      exact g.lc1 w u j h1 h2 h3 h4 h5 P h6 h7

theorem longer_ext {G : Gh} {i v : Int} {l : List Str} (hv : G.vw i ≤ v) (hl : leader v = i) (hp : G.vl v <+: l) : Ext i G (G.longer v l) :=
  { Ext.refl i G with
    vl := fun w _ => by
      simp only [Gh.longer]; split
      · subst_vars; exact hp
      · exact List.prefix_refl _
    vlOther := fun w hw _ => by
      simp only [Gh.longer]; rw [if_neg]; rintro rfl; exact hw hl
    vlFrozen := fun w hw _ => by
      simp only [Gh.longer]; rw [if_neg]; rintro rfl; rw [hl] at hw; omega }
theorem longer_good {G : Gh} (g : GoodG G) {i v : Int} {l : List Str} (hv : G.vw i = v) (hl : leader v = i) (hp : G.vl v <+: l) : GoodG (G.longer v l) := by
  refine { g with pre := ?_, ackLen := ?_, lc1 := ?_, lc2 := ?_ }
  · intro w hw
    simp only [Gh.longer]; split
    · subst_vars; exact (g.pre _ hw).trans hp
    · exact g.pre w hw
  · intro j w
    simp only [Gh.longer]; split
    · subst_vars; exact Nat.le_trans (g.ackLen j _) hp.length_le
    · exact g.ackLen j w
  · intro w u j h1 h2 h3 h4 h5 P h6 h7
    simp only [Gh.longer] at h6 h7 ⊢
    split at h6
    · rename_i e
      subst e
      exact g.lc1 w u j h1 h2 h3 h4 h5 P (prefix_of_two h6 hp (Nat.le_trans h7 (g.ackLen j w))) h7
    · exact g.lc1 w u j h1 h2 h3 h4 h5 P h6 h7
  · intro w u j h1 h2 h3 h4 h5 h6
    simp only [Gh.longer] at h6 ⊢
    split
    · rename_i e
      subst e
      exfalso
      have hi : InR i := by rw [← hl]; exact leader_in _
      rcases g.two u h3 j i h4 hi (by rw [← hl]; exact h5) with h | h <;> omega
    · exact g.lc2 w u j h1 h2 h3 h4 h5 h6

/-- THE HEART: a view begins with what two have given: all that may be committed in an earlier view is in it. -/
theorem begins_good {G : Gh} (g : GoodG G) {i v : Int} (hl : leader v = i) (hvi : G.vw i = v) (hnot : ¬ G.st v) (hnn : 0 ≤ v)
    (K : Int → Kept) (S : Int → Prop) (hS : ∀ j, S j → InR j ∧ VG G j v (K j)) (hi : S i) (p q : Int) (hq : S q) (hqi : q ≠ i) (hp : S p)
    (hbest : ∀ j, S j → (K j).normal < (K p).normal ∨ ((K j).normal = (K p).normal ∧ (K j).log.length ≤ (K p).log.length)) :
    Ext i G (G.begins v (K p).log) ∧ GoodG (G.begins v (K p).log) := by
  have hVp := (hS p hp).2
  have hN : ∀ w, G.st w → w ≠ v := fun w hw e => hnot (e ▸ hw)
  have hext : Ext i G (G.begins v (K p).log) :=
    { Ext.refl i G with
      st := fun w hw => .inr hw
      sl := fun w hw => by simp only [Gh.begins]; rw [if_neg (hN w hw)]
      vl := fun w hw => by simp only [Gh.begins]; rw [if_neg (hN w hw)]; exact List.prefix_refl _
      stOther := fun w hw => ⟨fun h => h.resolve_left (fun e => hw (e ▸ hl)), .inr⟩
      vlOther := fun w hw hs => by simp only [Gh.begins]; rw [if_neg (hN w hs)]
      stFrozen := fun w hw h => h.resolve_left (fun e => by subst e; rw [hl] at hw; omega)
      vlFrozen := fun w hw hs => by simp only [Gh.begins]; rw [if_neg (hN w hs)] }
  -- who gave a log of view N: the best is at least that
  have hge : ∀ j, S j → ∀ w, w ≤ (K j).normal → w ≤ (K p).normal := fun j hj w hw => by rcases hbest j hj with h | h <;> omega
  have hsame : ∀ j, S j → ∀ w, w ≤ (K j).normal → (K p).normal = w → (K j).normal = w ∧ (K j).log.length ≤ (K p).log.length := fun j hj w hw he => by
    rcases hbest j hj with h | h
    · omega
    · exact ⟨by omega, h.2⟩
  have hack0 : ∀ j, G.ack j v = 0 := fun j => by
    rcases Nat.eq_zero_or_pos (G.ack j v) with h | h
    · exact h
    · exact absurd (g.ackSt j v h).1 hnot
  have hone : ∀ j, InR j → ¬ S j → ∀ l, InR l → l ≠ j → S l := by
    intro j hj hn l hlr hlj
    have h1 : j ≠ i := fun e => hn (e ▸ hi)
    have h2 : j ≠ q := fun e => hn (e ▸ hq)
    have hir := (hS i hi).1
    have hqr := (hS q hq).1
    unfold InR at *
    by_cases e : l = i
    · exact e ▸ hi
    · have : l = q := by omega
      exact this ▸ hq
  have key1 : ∀ w j, w < v → G.st w → InR j → j ≠ leader w → ∀ P, P <+: G.vl w → P.length ≤ G.ack j w → P <+: (K p).log := by
    intro w j hwv hs hj hjl P hP hlen
    rcases Nat.eq_zero_or_pos P.length with h0 | h0
    · rw [List.length_eq_zero_iff.1 h0]; exact List.nil_prefix
    have hpos : 0 < G.ack j w := by omega
    have claim : w ≤ (K p).normal ∧ ((K p).normal = w → P.length ≤ (K p).log.length) := by
      by_cases hSj : S j
      · obtain ⟨a1, a2⟩ := (hS j hSj).2.acked w hwv hpos
        refine ⟨hge j hSj w a1, fun he => ?_⟩
        obtain ⟨b1, b2⟩ := hsame j hSj w a1 he
        have := a2 b1
        omega
      · have hSl := hone j hj hSj (leader w) (leader_in w) hjl.symm
        obtain ⟨a1, a2⟩ := (hS _ hSl).2.led w hwv hs rfl
        refine ⟨hge _ hSl w a1, fun he => ?_⟩
        obtain ⟨b1, b2⟩ := hsame _ hSl w a1 he
        rw [a2 b1] at b2
        have := hP.length_le
        omega
    obtain ⟨c1, c2⟩ := claim
    by_cases he : (K p).normal = w
    · exact prefix_of_two hP (he ▸ hVp.hi) (c2 he)
    · exact (g.lc1 w (K p).normal j (by omega) hs hVp.st hj hjl P hP hlen).trans hVp.lo
  have key2 : ∀ w j, w < v → G.st w → InR j → j ≠ leader w → G.vw j ≤ w → G.vl w <+: (K p).log := by
    intro w j hwv hs hj hjl hvw
    have hSj : ¬ S j := fun h => by have := (hS j h).2.seen; omega
    have hSl := hone j hj hSj (leader w) (leader_in w) hjl.symm
    obtain ⟨a1, a2⟩ := (hS _ hSl).2.led w hwv hs rfl
    have hw := hge _ hSl w a1
    by_cases he : (K p).normal = w
    · obtain ⟨b1, b2⟩ := hsame _ hSl w a1 he
      rw [a2 b1] at b2
      exact prefix_of_two (List.prefix_refl _) (he ▸ hVp.hi) b2
    · exact (g.lc2 w (K p).normal j (by omega) hs hVp.st hj hjl hvw).trans hVp.lo
  refine ⟨hext, ?_⟩
  refine { nn := ?_, two := ?_, pre := ?_, ackLen := ?_, ackSt := ?_, lc1 := ?_, lc2 := ?_ }
  · intro u hu
    rcases hu with rfl | hu
    · exact hnn
    · exact g.nn u hu
  · intro u hu a b ha hb hab
    rcases hu with rfl | hu
    · have hsi := (hS i hi).2.seen
      have hsq := (hS q hq).2.seen
      have hir := (hS i hi).1
      have hqr := (hS q hq).1
      show u ≤ G.vw a ∨ u ≤ G.vw b
      by_cases e1 : a = i
      · subst e1; exact .inl hsi
      by_cases e2 : a = q
      · subst e2; exact .inl hsq
      by_cases e3 : b = i
      · subst e3; exact .inr hsi
      · have : b = q := by unfold InR at *; omega
        subst this; exact .inr hsq
    · exact g.two u hu a b ha hb hab
  · intro w hw
    simp only [Gh.begins]
    split
    · exact List.prefix_refl _
    · rename_i hne
      exact g.pre w (hw.resolve_left hne)
  · intro j w
    simp only [Gh.begins]
    split
    · subst_vars; rw [hack0]; omega
    · exact g.ackLen j w
  · intro j w h
    exact ⟨.inr (g.ackSt j w h).1, (g.ackSt j w h).2⟩
  · intro w u j h1 h2 h3 h4 h5 P h6 h7
    simp only [Gh.begins] at h6 ⊢
    have h7' : P.length ≤ G.ack j w := h7
    by_cases ew : w = v
    · subst ew
      rw [hack0] at h7'
      have : P = [] := List.length_eq_zero_iff.1 (by omega)
      subst this
      exact List.nil_prefix
    · rw [if_neg ew] at h6
      have hsw := h2.resolve_left ew
      by_cases eu : u = v
      · rw [if_pos eu]
        exact key1 w j (by omega) hsw h4 h5 P h6 h7'
      · rw [if_neg eu]
        exact g.lc1 w u j h1 hsw (h3.resolve_left eu) h4 h5 P h6 h7'
  · intro w u j h1 h2 h3 h4 h5 h6
    simp only [Gh.begins] at ⊢
    have h6' : G.vw j ≤ w := h6
    by_cases ew : w = v
    · subst ew
      exfalso
      have hsu : G.st u := h3.resolve_left (by omega)
      have hir := (hS i hi).1
      rcases g.two u hsu j i h4 hir (by rw [← hl]; exact h5) with h | h <;> omega
    · rw [if_neg ew]
      have hsw := h2.resolve_left ew
      by_cases eu : u = v
      · rw [if_pos eu]
        exact key2 w j (by omega) hsw h4 h5 h6'
      · rw [if_neg eu]
        exact g.lc2 w u j h1 hsw (h3.resolve_left eu) h4 h5 h6'

end Scu

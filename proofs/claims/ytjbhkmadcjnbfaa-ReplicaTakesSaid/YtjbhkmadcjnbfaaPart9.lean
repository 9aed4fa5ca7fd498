/- Part 9: words and walks under the law 'ReplicaTicks'. -/
import Derived.Test.YtjbhkmadcjnbfaaPart8
import Derived.Test.YtjbhkmadcjnbfaaPart4
set_option linter.unusedVariables false
set_option linter.unusedSimpArgs false
namespace Scu

theorem want_ok {A : Str → Prop} {G : Gh} {i v : Int} {r : Replica} (g : GoodG G) (a : EntG A G) (h : GoodR G i r) (hv : r.kept.view < v) :
    Stepped A G i r (want r v).1 (want r v).2 := by
  have hle : G.vw i ≤ v := by rw [h.kept.view]; omega
  have e := moved_ext (G := G) (i := i) (v := v) hle
  have hk : KeptOk (G.moved i v) i { r.kept with view := v, calm := false } :=
    { view := by simp [Gh.moved]
      le := by have := h.kept.le; show r.kept.normal ≤ v; omega
      calm := fun hx => by cases hx
      wild := fun _ => by have := h.kept.le; show r.kept.normal < v; omega
      st := h.kept.st
      lo := h.kept.lo
      hi := h.kept.hi
      mine := h.kept.mine
      led := h.kept.led
      acked := h.kept.acked
      com := h.kept.com.ext e }
  refine ⟨G.moved i v, e, moved_good g hle, a, ?_, ?_, Int.le_refl _⟩
  · exact (GoodR.fresh (r := { r with kept := { r.kept with view := v, calm := false } }) h.inr h.me hk).wants _ (by simp [fresh])
  · exact wants_good

theorem hearLead_ok {A : Str → Prop} {G : Gh} {i : Int} {r : Replica} {m : Message} (g : GoodG G) (a : EntG A G) (h : GoodR G i r) (hm : GoodM G m)
    (hk : m.kind = 1) (hf : m.from_ = leader m.view) (hne : m.from_ ≠ i) (hv : r.kept.view ≤ m.view) :
    Stepped A G i r (hearLead r m).1 (hearLead r m).2 := by
  obtain ⟨hst, hlo, hhi, hcom⟩ := hm.lead hk
  have hil : i ≠ leader m.view := by rw [← hf]; exact hne.symm
  by_cases hcase : r.kept.view < m.view ∨ r.kept.calm = false
  · -- the view is new
    have hnv : r.kept.normal < m.view := by
      rcases hcase with hx | hx
      · have := h.kept.le; omega
      · have := h.kept.wild hx; omega
    have hle : G.vw i ≤ m.view := by rw [h.kept.view]; exact hv
    have e1 := moved_ext (G := G) (i := i) (v := m.view) hle
    have g1 := moved_good g hle
    have hvw1 : (G.moved i m.view).vw i = m.view := by simp [Gh.moved]
    have e2 := acks_ext (G := G.moved i m.view) (i := i) (v := m.view) (n := m.log.length) (by rw [hvw1]; exact Int.le_refl _)
    have g2 := acks_good g1 (n := m.log.length) hvw1 (show (G.moved i m.view).st m.view from hst) hhi.length_le hil
    have hold : G.ack i m.view = 0 := by
      rcases Nat.eq_zero_or_pos (G.ack i m.view) with h0 | h0
      · exact h0
      · have := (h.kept.acked _ h0).1; omega
    have hck : ComOk G m.view m.log r.kept.commit := h.kept.com.move ((h.kept.com.in_view g hnv hst).trans hlo) (by omega)
    have hmin : min r.kept.commit (m.log.length : Int) = r.kept.commit := Int.min_eq_left hck.2.1
    have hmin2 : min m.commit (m.log.length : Int) = m.commit := Int.min_eq_left hcom.2.1
    have hmx : max (max m.commit r.kept.commit) m.commit = max m.commit r.kept.commit := by omega
    have hcc : ComOk ((G.moved i m.view).acks i m.view m.log.length) m.view m.log (max m.commit r.kept.commit) := ((hcom.max hck).ext e1).ext e2
    have hkept : KeptOk ((G.moved i m.view).acks i m.view m.log.length) i ⟨m.view, m.view, true, m.log, max m.commit r.kept.commit⟩ :=
      { view := hvw1
        le := Int.le_refl _
        calm := fun _ => rfl
        wild := fun hx => by cases hx
        st := hst
        lo := hlo
        hi := hhi
        mine := fun hx => absurd hx.symm hil
        led := fun w hs hl => by have := h.kept.led w hs hl; show w ≤ m.view; omega
        acked := fun w ha => by
          simp only [Gh.acks, Gh.moved] at ha ⊢
          by_cases ew : w = m.view
          · subst ew
            refine ⟨Int.le_refl _, fun _ => ?_⟩
            rw [if_pos (by simp), hold]
            omega
          · rw [if_neg (fun hx => ew hx.2)] at ha
            have := (h.kept.acked w ha).1
            refine ⟨by show w ≤ m.view; omega, fun hx => absurd hx.symm ew⟩
        com := hcc }
    have heq : hearLead r m = ({ fresh { r with kept := ⟨m.view, m.view, true, m.log, max m.commit r.kept.commit⟩ } with me := r.me },
        [{ msg0 with kind := 2, from_ := r.me, to := m.from_, view := m.view, n := m.log.length }]) := by
      unfold hearLead
      simp only [if_pos hcase, fresh, hmin, hmin2, hmx]
    rw [heq]
    refine ⟨_, e1.trans e2, g2, a, GoodR.fresh (r := { r with kept := ⟨m.view, m.view, true, m.log, max m.commit r.kept.commit⟩ }) h.inr h.me hkept, ?_, ?_⟩
    · intro x hx
      simp only [List.mem_singleton] at hx
      subst hx
      refine ⟨fun hx => by simp at hx, fun _ => ?_, fun hx => by simp at hx⟩
      simp only [Gh.acks, Gh.moved, h.me]
      rw [if_pos (by simp)]
      omega
    · show r.kept.commit ≤ max m.commit r.kept.commit
      omega
  · -- the same view
    have hcalm : r.kept.calm = true := by cases hx : r.kept.calm <;> simp_all
    have hview : m.view = r.kept.view := by have : ¬ r.kept.view < m.view := fun hx => hcase (.inl hx); omega
    have hnorm := h.kept.calm hcalm
    have hvwi : G.vw i = m.view := by rw [h.kept.view, hview]
    let l := if r.kept.log.length < m.log.length then m.log else r.kept.log
    have hn : r.kept.normal = m.view := by rw [hnorm, hview]
    have hRlo : G.sl m.view <+: r.kept.log := hn ▸ h.kept.lo
    have hRhi : r.kept.log <+: G.vl m.view := hn ▸ h.kept.hi
    have hlm : m.log <+: l := by
      show m.log <+: (if r.kept.log.length < m.log.length then m.log else r.kept.log)
      split
      · exact List.prefix_refl _
      · exact prefix_of_two hhi hRhi (by omega)
    have hlr : r.kept.log <+: l := by
      show r.kept.log <+: (if r.kept.log.length < m.log.length then m.log else r.kept.log)
      split
      · exact prefix_of_two hRhi hhi (by omega)
      · exact List.prefix_refl _
    have hllo : G.sl m.view <+: l := hlo.trans hlm
    have hlhi : l <+: G.vl m.view := by
      show (if r.kept.log.length < m.log.length then m.log else r.kept.log) <+: _
      split <;> assumption
    have hcm : ComOk G m.view l m.commit := hcom.move ((List.take_prefix _ _).trans hlm) (Int.le_refl _)
    have hcr : ComOk G m.view l r.kept.commit := h.kept.com.move ((List.take_prefix _ _).trans hlr) (by omega)
    have hmin : min m.commit (l.length : Int) = m.commit := Int.min_eq_left hcm.2.1
    have e2 := acks_ext (G := G) (i := i) (v := m.view) (n := l.length) (by rw [hvwi]; exact Int.le_refl _)
    have g2 := acks_good g (n := l.length) hvwi hst hlhi.length_le hil
    have hkept : KeptOk (G.acks i m.view l.length) i ⟨m.view, m.view, true, l, max r.kept.commit m.commit⟩ :=
      { view := hvwi
        le := Int.le_refl _
        calm := fun _ => rfl
        wild := fun hx => by cases hx
        st := hst
        lo := hllo
        hi := hlhi
        mine := fun hx => absurd hx.symm hil
        led := fun w hs hl => by have := h.kept.led w hs hl; show w ≤ m.view; omega
        acked := fun w ha => by
          simp only [Gh.acks] at ha ⊢
          by_cases ew : w = m.view
          · subst ew
            refine ⟨Int.le_refl _, fun _ => ?_⟩
            rw [if_pos (by simp)]
            have h1 := hlr.length_le
            rcases Nat.eq_zero_or_pos (G.ack i m.view) with h0 | h0
            · omega
            · have := (h.kept.acked _ h0).2 hn; omega
          · rw [if_neg (fun hx => ew hx.2)] at ha
            have := (h.kept.acked w ha).1
            exact ⟨by show w ≤ m.view; omega, fun hx => absurd hx.symm ew⟩
        com := (hcr.max hcm).ext e2 }
    have heq : hearLead r m = ({ r with kept := ⟨m.view, m.view, true, l, max r.kept.commit m.commit⟩ },
        [{ msg0 with kind := 2, from_ := r.me, to := m.from_, view := m.view, n := l.length }]) := by
      unfold hearLead
      simp only [if_neg hcase]
      by_cases hlen : r.kept.log.length < m.log.length
      · have el : l = m.log := if_pos hlen
        rw [el] at hmin
        simp only [if_pos hlen, el, hmin, ← hview, hn, hcalm]
      · have el : l = r.kept.log := if_neg hlen
        rw [el] at hmin
        simp only [if_neg hlen, el, hmin, ← hview, hn, hcalm]
    rw [heq]
    refine ⟨_, e2, g2, a, ?_, ?_, ?_⟩
    · refine { h with kept := hkept, given := ?_, self := ?_ }
      · intro j hj hg
        have := (h.given j hj hg).1
        rw [hcalm] at this
        cases this
      · intro hg
        have := (h.given i h.inr hg).1
        rw [hcalm] at this
        cases this
    · intro x hx
      simp only [List.mem_singleton] at hx
      subst hx
      refine ⟨fun hx => by simp at hx, fun _ => ?_, fun hx => by simp at hx⟩
      simp only [Gh.acks, h.me]
      rw [if_pos (by simp)]
      omega
    · show r.kept.commit ≤ max r.kept.commit m.commit
      omega

theorem GoodR.calm_given {G : Gh} {i : Int} {r : Replica} (h : GoodR G i r) (hc : r.kept.calm = true) (j : Int) (hj : InR j) : ¬ r.given.getD j.toNat false = true := by
  intro hg
  have := (h.given j hj hg).1
  rw [hc] at this
  cases this

theorem GoodR.calm_kept {G G' : Gh} {i : Int} {r : Replica} {k : Kept} (h : GoodR G i r) (hc : r.kept.calm = true) (hk : KeptOk G' i k) : GoodR G' i { r with kept := k } :=
  { h with kept := hk, given := fun j hj hg => absurd hg (h.calm_given hc j hj), self := fun hg => absurd hg (h.calm_given hc i h.inr) }

theorem leads_iff {r : Replica} : leads r = true ↔ r.kept.calm = true ∧ leader r.kept.view = r.me := by
  unfold leads; simp

theorem hearHas_ok {A : Str → Prop} {G : Gh} {i : Int} {r : Replica} {m : Message} (g : GoodG G) (a : EntG A G) (h : GoodR G i r) (hm : GoodM G m)
    (hk : m.kind = 2) (hfr : InR m.from_) (hn0 : 0 ≤ m.n) (hto : i = leader m.view) (hne : m.from_ ≠ i) :
    Stepped A G i r (hearHas r m).1 (hearHas r m).2 := by
  unfold hearHas
  split
  · exact .same g a h
  rename_i hcond
  have hview : m.view = r.kept.view := by by_cases hx : m.view = r.kept.view; exact hx; exact absurd (.inl hx) hcond
  have hleads : leads r = true := by cases hx : leads r; exact absurd (.inr hx) hcond; rfl
  obtain ⟨hcalm, hld⟩ := leads_iff.1 hleads
  have hnorm := h.kept.calm hcalm
  have hh : GoodR G i { r with have_ := r.have_.set m.from_.toNat (max (r.have_.getD m.from_.toNat 0) (min m.n r.kept.log.length)) } := h.haves _ (by simp [h.have3])
  have hmn := hm.has hk
  simp only []
  split
  · rename_i hlt
    have hc : ComOk G r.kept.normal r.kept.log (min m.n r.kept.log.length) := by
      have h0 : 0 ≤ min m.n (r.kept.log.length : Int) := by omega
      have h1 : min m.n (r.kept.log.length : Int) ≤ (r.kept.log.length : Int) := by omega
      refine ⟨h0, h1, .inr ⟨r.kept.normal, m.from_, Int.le_refl _, h.kept.st, hfr, ?_, ?_, ?_⟩⟩
      · rw [hnorm, ← hview, ← hto]; exact hne
      · rw [hnorm, ← hview, List.length_take]
        omega
      · exact (List.take_prefix _ _).trans h.kept.hi
    have hk' : KeptOk G i { r.kept with commit := min m.n r.kept.log.length } := { h.kept with com := hc }
    have hr' := hh.calm_kept hcalm hk'
    refine ⟨G, Ext.refl i G, g, a, hr', ?_, ?_⟩
    · refine leadOn_good ?_ ?_ ?_ ?_
      · show G.st r.kept.view; rw [← hnorm]; exact h.kept.st
      · show G.sl r.kept.view <+: r.kept.log; rw [← hnorm]; exact h.kept.lo
      · show r.kept.log <+: G.vl r.kept.view; rw [← hnorm]; exact h.kept.hi
      · show ComOk G r.kept.view r.kept.log _; rw [← hnorm]; exact hc
    · show r.kept.commit ≤ min m.n r.kept.log.length
      omega
  · exact ⟨G, Ext.refl i G, g, a, hh, by simp, Int.le_refl _⟩

theorem wantIf_ok {A : Str → Prop} {G : Gh} {i v : Int} {r : Replica} (g : GoodG G) (a : EntG A G) (h : GoodR G i r) :
    Stepped A G i r (wantIf r v).1 (wantIf r v).2 := by
  unfold wantIf
  split
  · exact want_ok g a h (by assumption)
  · exact .same g a h
theorem wantIf_view {r : Replica} {v : Int} (h : r.kept.view ≤ v) : (wantIf r v).1.kept.view = v ∨ (wantIf r v).1.kept.view = v := by
  unfold wantIf
  split
  · exact .inl rfl
  · exact .inl (by show r.kept.view = v; omega)

theorem give_msg_good {G : Gh} {i to : Int} {r : Replica} (h : GoodR G i r) (hc : r.kept.calm = false) :
    GoodM G { msg0 with kind := 4, from_ := r.me, to := to, view := r.kept.view, normal := r.kept.normal, commit := r.kept.commit, log := r.kept.log } := by
  refine ⟨fun hx => by simp at hx, fun hx => by simp at hx, fun _ => ?_⟩
  show VG G r.me r.kept.view _
  rw [h.me]
  have := h.kept.gift hc
  exact { seen := this.seen, lt := this.lt, st := this.st, lo := this.lo, hi := this.hi, led := this.led, acked := this.acked, com := this.com }

theorem Stepped.of_kept {A : Str → Prop} {G : Gh} {i : Int} {r r1 r2 : Replica} {o : List Message} (h : Stepped A G i r1 r2 o) (hc : r1.kept = r.kept) : Stepped A G i r r2 o := by
  unfold Stepped at *
  rw [← hc]
  exact h

theorem hearWant_ok {A : Str → Prop} {G : Gh} {i : Int} {r : Replica} {m : Message} (g : GoodG G) (a : EntG A G) (h : GoodR G i r) :
    Stepped A G i r (hearWant r m).1 (hearWant r m).2 := by
  have hw := wantIf_ok (v := m.view) g a h
  unfold hearWant
  generalize wantIf r m.view = x at *
  obtain ⟨r1, o1⟩ := x
  simp only at hw ⊢
  split
  · exact hw
  rename_i hcond
  have hc : r1.kept.calm = false := by cases hx : r1.kept.calm; rfl; exact absurd (.inl hx) hcond
  split
  · rename_i hto
    refine hw.trans fun G1 e1 g1 a1 h1 => ?_
    have hl : leader r1.kept.view = i := by rw [← h1.me]; exact hto
    have h2 : GoodR G1 i { r1 with wants := r1.wants.set m.from_.toNat true } := h1.wants _ (by simp [h1.wants3])
    have h3 := give1_good (j := leader r1.kept.view) (k := r1.kept) h2 hc (leader_in _) (by rw [hl]; exact h1.kept.gift hc) (fun _ => rfl)
    exact (begun_ok g1 a1 h3 hc hl).of_kept rfl
  · refine hw.trans fun G1 e1 g1 a1 h1 => ?_
    have h2 : GoodR G1 i { r1 with wants := r1.wants.set m.from_.toNat true } := h1.wants _ (by simp [h1.wants3])
    refine ⟨G1, Ext.refl i G1, g1, a1, h2, ?_, Int.le_refl _⟩
    intro x hx
    simp only [List.mem_singleton] at hx
    subst hx
    have := give_msg_good (to := leader r1.kept.view) h2 hc
    exact this

theorem hearGive_ok {A : Str → Prop} {G : Gh} {i : Int} {r : Replica} {m : Message} (g : GoodG G) (a : EntG A G) (h : GoodR G i r) (hm : GoodM G m)
    (hk : m.kind = 4) (hfr : InR m.from_) (hne : m.from_ ≠ i) (hto : i = leader m.view) (hv : r.kept.view ≤ m.view) :
    Stepped A G i r (hearGive r m).1 (hearGive r m).2 := by
  have hw := wantIf_ok (v := m.view) g a h
  have hview := (wantIf_view hv).elim id id
  unfold hearGive
  generalize wantIf r m.view = x at *
  obtain ⟨r1, o1⟩ := x
  simp only at hw hview ⊢
  split
  · exact hw
  rename_i hcond
  have hc : r1.kept.calm = false := by cases hx : r1.kept.calm; rfl; exact absurd hx hcond
  refine hw.trans fun G1 e1 g1 a1 h1 => ?_
  have hl : leader r1.kept.view = i := by rw [hview, ← hto]
  have hvg := (hm.ext e1).give hk
  have h2 : ∃ r2 : Replica, r2 = (if r1.given.getD r1.me.toNat false = false then give1 r1 r1.me r1.kept else r1) ∧ GoodR G1 i r2 ∧ r2.kept = r1.kept := by
    refine ⟨_, rfl, ?_, ?_⟩
    · split
      · rw [h1.me]
        exact give1_good h1 hc h1.inr (h1.kept.gift hc) (fun _ => rfl)
      · exact h1
    · split <;> rfl
  obtain ⟨r2, e2, h2, hk2⟩ := h2
  rw [← e2]
  have h3 := give1_good (j := m.from_) (k := ⟨m.view, m.normal, false, m.log, m.commit⟩) h2 (by rw [hk2]; exact hc) hfr (by rw [hk2, hview]; exact hvg) (fun hx => absurd hx hne)
  refine (begun_ok g1 a1 h3 ?_ ?_).of_kept ?_
  · show r2.kept.calm = false; rw [hk2]; exact hc
  · show leader r2.kept.view = i; rw [hk2]; exact hl
  · show r2.kept = r1.kept; exact hk2

theorem msgFault_ok {m : Message} (h : msgFault m = 0) : 1 ≤ m.kind ∧ m.kind ≤ 4 ∧ InR m.from_ ∧ InR m.to ∧ m.from_ ≠ m.to ∧ 0 ≤ m.view ∧ m.view ≤ 1048576 ∧ 0 ≤ m.n ∧
    (m.kind = 1 → m.from_ = leader m.view) ∧ (m.kind = 2 → m.to = leader m.view) ∧ (m.kind = 4 → m.to = leader m.view) ∧
    keptFault ⟨m.view, m.normal, false, m.log, m.commit⟩ = 0 := by
  unfold msgFault at h
  split at h
  · omega
  split at h
  · omega
  split at h
  · omega
  split at h
  · omega
  unfold InR
  refine ⟨by omega, by omega, by omega, by omega, by omega, by omega, by omega, by omega, by omega, by omega, by omega, h⟩

theorem hear_ok {A : Str → Prop} {G : Gh} {i : Int} {r : Replica} {m : Message} (g : GoodG G) (a : EntG A G) (h : GoodR G i r) (hm : GoodM G m)
    (hok : (hear r m).2.2 = 0) : Stepped A G i r (hear r m).1 (hear r m).2.1 := by
  unfold hear at hok ⊢
  split
  · rename_i hx; rw [if_pos hx] at hok; exact absurd hok hx
  rename_i hx; rw [if_neg hx] at hok
  split
  · rename_i hx; rw [if_pos hx] at hok; exact absurd hok hx
  rename_i hx2; rw [if_neg hx2] at hok
  split
  · rename_i hx; rw [if_pos hx] at hok; simp at hok
  rename_i hx3; rw [if_neg hx3] at hok
  split
  · rename_i hx; rw [if_pos hx] at hok; simp at hok
  rename_i hx4
  have hx2' : msgFault m = 0 := by omega
  obtain ⟨f1, f2, f3, f4, f5, f6, f7, f8, f9, f10, f11, _⟩ := msgFault_ok hx2'
  have hto : m.to = i := by rw [← h.me]; omega
  simp only [hearIt]
  split
  · rename_i hk
    exact hearLead_ok g a h hm hk (f9 hk) (by rw [← hto]; exact f5) (by omega)
  split
  · rename_i hk
    exact hearHas_ok g a h hm hk f3 f8 (by rw [← hto]; exact f10 hk) (by rw [← hto]; exact f5)
  split
  · exact hearWant_ok g a h
  · have hk : m.kind = 4 := by omega
    exact hearGive_ok g a h hm hk f3 (by rw [← hto]; exact f5) (by rw [← hto]; exact f11 hk) (by omega)

theorem take_ok {A : Str → Prop} {G : Gh} {i : Int} {r : Replica} {e : Str} (g : GoodG G) (a : EntG A G) (h : GoodR G i r) (he : A e)
    (hok : (take r e).2.2 = 0) : Stepped A G i r (take r e).1 (take r e).2.1 := by
  unfold take at hok ⊢
  split
  · rename_i hx; rw [if_pos hx] at hok; exact absurd hok hx
  rename_i hx; rw [if_neg hx] at hok
  split
  · rename_i hx; rw [if_pos hx] at hok; simp at hok
  rename_i hx2; rw [if_neg hx2] at hok
  split
  · rename_i hx; rw [if_pos hx] at hok; simp at hok
  rename_i hx3; rw [if_neg hx3] at hok
  split
  · rename_i hx; rw [if_pos hx] at hok; exact absurd hok hx
  obtain ⟨hcalm, hld⟩ := leads_iff.1 (by cases hx : leads r; exact absurd hx hx2; rfl : leads r = true)
  rw [h.me] at hld
  have hnorm := h.kept.calm hcalm
  have hvw := h.kept.view
  have hlog : r.kept.log = G.vl r.kept.view := by rw [← hnorm]; exact h.kept.mine (by rw [hnorm]; exact hld)
  have hp : G.vl r.kept.view <+: r.kept.log ++ [e] := by rw [← hlog]; exact List.prefix_append _ _
  have ext := longer_ext (G := G) (i := i) (v := r.kept.view) (l := r.kept.log ++ [e]) (by rw [hvw]; exact Int.le_refl _) hld hp
  have g' := longer_good g hvw hld hp
  have hst : G.st r.kept.view := by rw [← hnorm]; exact h.kept.st
  have hlo : G.sl r.kept.view <+: r.kept.log ++ [e] := (g.pre _ hst).trans hp
  have hcom : ComOk G r.kept.view (r.kept.log ++ [e]) r.kept.commit :=
    h.kept.com.move ((List.take_prefix _ _).trans (List.prefix_append _ _)) (by omega)
  have hk : KeptOk (G.longer r.kept.view (r.kept.log ++ [e])) i { r.kept with log := r.kept.log ++ [e] } :=
    { view := hvw
      le := h.kept.le
      calm := h.kept.calm
      wild := h.kept.wild
      st := h.kept.st
      lo := by show G.sl r.kept.normal <+: _; rw [hnorm]; exact hlo
      hi := by simp [Gh.longer, hnorm]
      mine := fun _ => by simp [Gh.longer, hnorm]
      led := h.kept.led
      acked := fun w ha => by
        obtain ⟨h1, h2⟩ := h.kept.acked w ha
        refine ⟨h1, fun hx => ?_⟩
        have := h2 hx
        show G.ack i w ≤ (r.kept.log ++ [e]).length
        rw [List.length_append]
        omega
      com := by rw [show ({ r.kept with log := r.kept.log ++ [e] } : Kept).normal = r.kept.view from hnorm]; exact hcom.ext ext }
  refine ⟨_, ext, g', ?_, h.calm_kept hcalm hk, ?_, Int.le_refl _⟩
  · intro v hv x hx
    simp only [Gh.longer] at hv hx
    split at hx
    · rcases List.mem_append.1 hx with hx | hx
      · rw [hlog] at hx
        exact a _ hst x hx
      · simp only [List.mem_singleton] at hx
        subst hx
        exact he
    · exact a v hv x hx
  · refine leadOn_good ?_ ?_ ?_ ?_
    · exact hst
    · exact hlo
    · simp [Gh.longer]
    · exact hcom.ext ext

theorem tick_ok {A : Str → Prop} {G : Gh} {i : Int} {r : Replica} (g : GoodG G) (a : EntG A G) (h : GoodR G i r)
    (hok : (tick r).2.2 = 0) : Stepped A G i r (tick r).1 (tick r).2.1 := by
  unfold tick at hok ⊢
  split
  · rename_i hx; rw [if_pos hx] at hok; exact absurd hok hx
  split
  · rename_i hl
    obtain ⟨hcalm, hld⟩ := leads_iff.1 hl
    have hnorm := h.kept.calm hcalm
    refine ⟨G, Ext.refl i G, g, a, h, ?_, Int.le_refl _⟩
    refine leadOn_good ?_ ?_ ?_ ?_
    · rw [← hnorm]; exact h.kept.st
    · rw [← hnorm]; exact h.kept.lo
    · rw [← hnorm]; exact h.kept.hi
    · rw [← hnorm]; exact h.kept.com
  split
  · rename_i hl hcalm
    have hnorm := h.kept.calm hcalm
    have hil : i ≠ leader r.kept.view := fun hx => hl (leads_iff.2 ⟨hcalm, by rw [h.me]; exact hx.symm⟩)
    have hst : G.st r.kept.view := by rw [← hnorm]; exact h.kept.st
    have e2 := acks_ext (G := G) (i := i) (v := r.kept.view) (n := r.kept.log.length) (by rw [h.kept.view]; exact Int.le_refl _)
    have g2 := acks_good g (n := r.kept.log.length) h.kept.view hst (by rw [← hnorm]; exact h.kept.hi.length_le) hil
    have hk : KeptOk (G.acks i r.kept.view r.kept.log.length) i r.kept :=
      { h.kept with
        acked := fun w ha => by
          simp only [Gh.acks] at ha ⊢
          by_cases ew : w = r.kept.view
          · subst ew
            refine ⟨by omega, fun _ => ?_⟩
            rw [if_pos (by simp)]
            rcases Nat.eq_zero_or_pos (G.ack i r.kept.view) with h0 | h0
            · omega
            · have := (h.kept.acked _ h0).2 hnorm; omega
          · rw [if_neg (fun hx => ew hx.2)] at ha ⊢
            exact h.kept.acked w ha
        com := h.kept.com.ext e2 }
    refine ⟨_, e2, g2, a, h.calm_kept hcalm hk, ?_, Int.le_refl _⟩
    intro x hx
    simp only [List.mem_singleton] at hx
    subst hx
    refine ⟨fun hx => by simp at hx, fun _ => ?_, fun hx => by simp at hx⟩
    simp only [Gh.acks, h.me]
    rw [if_pos (by simp)]
    omega
  · refine ⟨G, Ext.refl i G, g, a, h.wants _ (by simp [h.wants3]), wants_good, Int.le_refl _⟩

theorem alarm_ok {A : Str → Prop} {G : Gh} {i : Int} {r : Replica} (g : GoodG G) (a : EntG A G) (h : GoodR G i r)
    (hok : (alarm r).2.2 = 0) : Stepped A G i r (alarm r).1 (alarm r).2.1 := by
  unfold alarm at hok ⊢
  split
  · rename_i hx; rw [if_pos hx] at hok; exact absurd hok hx
  rename_i hx; rw [if_neg hx] at hok
  split
  · rename_i hx; rw [if_pos hx] at hok; simp at hok
  · exact want_ok g a h (by omega)

end Scu
namespace Scu

theorem repFault_ok {r : Replica} (h : repFault r = 0) : InR r.me ∧ r.have_.length = 3 ∧ r.wants.length = 3 ∧ r.gives.length = 3 ∧ r.given.length = 3 ∧
    (∀ x ∈ r.have_, 0 ≤ x ∧ x ≤ r.kept.log.length) ∧ (∀ g ∈ r.gives, keptFault g = 0) ∧ keptFault r.kept = 0 := by
  unfold repFault at h
  split at h
  · omega
  split at h
  · omega
  split at h
  · omega
  rename_i h1 h2 h3
  refine ⟨by unfold InR; omega, by omega, by omega, by omega, by omega, ?_, ?_, h⟩
  · intro x hx
    simp only [Bool.or_eq_true, List.any_eq_true, decide_eq_true_eq, not_or, not_exists, not_and] at h3
    have := h3.1 x hx
    omega
  · intro g hg
    simp only [Bool.or_eq_true, List.any_eq_true, decide_eq_true_eq, not_or, not_exists, not_and] at h3
    have := h3.2 g hg
    omega
theorem repFault_mk {r : Replica} (h1 : InR r.me) (h2 : r.have_.length = 3) (h3 : r.wants.length = 3) (h4 : r.gives.length = 3) (h5 : r.given.length = 3)
    (h6 : ∀ x ∈ r.have_, 0 ≤ x ∧ x ≤ r.kept.log.length) (h7 : ∀ g ∈ r.gives, keptFault g = 0) (h8 : keptFault r.kept = 0) : repFault r = 0 := by
  unfold repFault
  rw [if_neg (by unfold InR at h1; omega), if_neg (by omega), if_neg, h8]
  simp only [Bool.or_eq_true, List.any_eq_true, decide_eq_true_eq, not_or, not_exists, not_and]
  refine ⟨fun x hx => ?_, fun g hg => ?_⟩
  · have := h6 x hx; omega
  · have := h7 g hg; omega
theorem keptFault0 : keptFault kept0 = 0 := by decide
theorem fresh_fault {r : Replica} (h1 : InR r.me) (h8 : keptFault r.kept = 0) : repFault (fresh r) = 0 := by
  refine repFault_mk h1 rfl rfl rfl rfl ?_ ?_ h8
  · intro x hx
    simp [fresh] at hx
    subst hx
    omega
  · intro g hg
    simp [fresh] at hg
    subst hg
    exact keptFault0
theorem mem_set {α : Type} {l : List α} {n : Nat} {x y : α} (h : y ∈ l.set n x) : y = x ∨ y ∈ l := by
  rcases List.mem_or_eq_of_mem_set h with h | h
  · exact .inr h
  · exact .inl h
theorem want_fault {r : Replica} {v : Int} (h : repFault r = 0) (h1 : r.kept.view < v) (h2 : v ≤ 1048576) : repFault (want r v).1 = 0 := by
  obtain ⟨f1, f2, f3, f4, f5, f6, f7, f8⟩ := repFault_ok h
  obtain ⟨k1, k2, k3, k4, k5, k6, k7, k8, k9⟩ := keptFault_ok f8
  have hk : keptFault { r.kept with view := v, calm := false } = 0 :=
    keptFault_mk (by show 0 ≤ v; omega) h2 k3 (by show r.kept.normal ≤ v; omega) (fun hc => by cases hc) k6 k7 k8 k9
  have hf := fresh_fault (r := { r with kept := { r.kept with view := v, calm := false } }) f1 hk
  obtain ⟨g1, g2, g3, g4, g5, g6, g7, g8⟩ := repFault_ok hf
  exact repFault_mk g1 g2 (by simp [want, fresh]) g4 g5 g6 g7 g8
theorem own_fault {k : Kept} (h : keptFault k = 0) : keptFault (own k) = 0 := by
  obtain ⟨k1, k2, k3, k4, k5, k6, k7, k8, k9⟩ := keptFault_ok h
  exact keptFault_mk k1 k2 k3 k4 (fun hc => by cases hc) k6 k7 k8 k9
theorem give1_fault {r : Replica} {i : Int} {k : Kept} (h : repFault r = 0) (hk : keptFault (own k) = 0) : repFault (give1 r i k) = 0 := by
  obtain ⟨f1, f2, f3, f4, f5, f6, f7, f8⟩ := repFault_ok h
  refine repFault_mk f1 f2 f3 (by simp [give1, f4]) (by simp [give1, f5]) f6 ?_ f8
  intro g hg
  rcases mem_set hg with rfl | hg
  · exact hk
  · exact f7 g hg
theorem wants_fault {r : Replica} (h : repFault r = 0) (l : List Bool) (hl : l.length = 3) : repFault { r with wants := l } = 0 := by
  obtain ⟨f1, f2, f3, f4, f5, f6, f7, f8⟩ := repFault_ok h
  exact repFault_mk f1 f2 hl f4 f5 f6 f7 f8
theorem begun_fault {r : Replica} (h : repFault r = 0) : repFault (begun r).1 = 0 := by
  obtain ⟨f1, f2, f3, f4, f5, f6, f7, f8⟩ := repFault_ok h
  obtain ⟨k1, k2, k3, k4, k5, k6, k7, k8, k9⟩ := keptFault_ok f8
  unfold begun
  split
  · exact h
  split
  · exact h
  rename_i hcnt
  refine fresh_fault f1 ?_
  have hb : bestOf (r.gives.zip r.given) = { kept0 with normal := -1 } ∨ keptFault (bestOf (r.gives.zip r.given)) = 0 := by
    obtain ⟨_, _, hb⟩ := bestOf_spec (r.gives.zip r.given) { kept0 with normal := -1 }
    rcases hb with hb | ⟨g, hg, _, hb⟩
    · exact .inl hb
    · refine .inr ?_
      have : bestOf (r.gives.zip r.given) = g.1 := hb
      rw [this]
      exact f7 _ (List.of_mem_zip hg).1
  have hm := (maxCommit_spec (r.gives.zip r.given) 0).1
  have hm' : 0 ≤ maxCommit (r.gives.zip r.given) := hm
  refine keptFault_mk k1 k2 k1 (Int.le_refl _) (fun _ => rfl) ?_ ?_ ?_ ?_
  · rcases hb with hb | hb
    · simp only [hb]; simp [kept0]
    · exact (keptFault_ok hb).2.2.2.2.2.1
  · show 0 ≤ min _ _
    omega
  · show min (maxCommit (r.gives.zip r.given)) ((bestOf (r.gives.zip r.given)).log.length : Int) ≤ ((bestOf (r.gives.zip r.given)).log.length : Int)
    omega
  · rcases hb with hb | hb
    · simp only [hb]; simp [kept0]
    · exact (keptFault_ok hb).2.2.2.2.2.2.2.2
theorem hearLead_fault {r : Replica} {m : Message} (h : repFault r = 0) (hm : msgFault m = 0) (_hv : r.kept.view ≤ m.view) : repFault (hearLead r m).1 = 0 := by
  obtain ⟨f1, f2, f3, f4, f5, f6, f7, f8⟩ := repFault_ok h
  obtain ⟨k1, k2, k3, k4, k5, k6, k7, k8, k9⟩ := keptFault_ok f8
  obtain ⟨q1, q2, q3, q4, q5, q6, q7, q8, q9⟩ := keptFault_ok (msgFault_ok hm).2.2.2.2.2.2.2.2.2.2.2
  simp only at q1 q2 q3 q4 q6 q7 q8 q9
  unfold hearLead
  simp only []
  split
  · refine fresh_fault (r := { r with kept := ⟨m.view, m.view, true, m.log, max (max m.commit (min r.kept.commit m.log.length)) (min m.commit m.log.length)⟩ }) f1 ?_
    refine keptFault_mk q1 q2 q1 (Int.le_refl _) (fun _ => rfl) q6 ?_ ?_ q9
    · show 0 ≤ max _ _; omega
    · show max (max m.commit (min r.kept.commit (m.log.length : Int))) (min m.commit (m.log.length : Int)) ≤ (m.log.length : Int); omega
  rename_i hc
  split
  · rename_i hl
    refine repFault_mk f1 f2 f3 f4 f5 ?_ f7 ?_
    · intro x hx
      have := f6 x hx
      show 0 ≤ x ∧ x ≤ (m.log.length : Int)
      omega
    · refine keptFault_mk k1 k2 k3 k4 k5 q6 ?_ ?_ q9
      · show 0 ≤ max _ _; omega
      · show max r.kept.commit (min m.commit (m.log.length : Int)) ≤ m.log.length; omega
  · refine repFault_mk f1 f2 f3 f4 f5 f6 f7 ?_
    refine keptFault_mk k1 k2 k3 k4 k5 k6 ?_ ?_ k9
    · show 0 ≤ max _ _; omega
    · show max r.kept.commit (min m.commit (r.kept.log.length : Int)) ≤ r.kept.log.length; omega
theorem hearHas_fault {r : Replica} {m : Message} (h : repFault r = 0) (hm : msgFault m = 0) : repFault (hearHas r m).1 = 0 := by
  obtain ⟨f1, f2, f3, f4, f5, f6, f7, f8⟩ := repFault_ok h
  obtain ⟨k1, k2, k3, k4, k5, k6, k7, k8, k9⟩ := keptFault_ok f8
  have hn := (msgFault_ok hm).2.2.2.2.2.2.2.1
  unfold hearHas
  split
  · exact h
  simp only []
  have hhave : ∀ x ∈ r.have_.set m.from_.toNat (max (r.have_.getD m.from_.toNat 0) (min m.n r.kept.log.length)), 0 ≤ x ∧ x ≤ (r.kept.log.length : Int) := by
    intro x hx
    rcases mem_set hx with rfl | hx
    · have : 0 ≤ r.have_.getD m.from_.toNat 0 ∧ r.have_.getD m.from_.toNat 0 ≤ (r.kept.log.length : Int) := by
        by_cases hlt : m.from_.toNat < r.have_.length
        · have := f6 _ (List.getElem_mem hlt)
          simpa [hlt] using this
        · simp [hlt]
      omega
    · exact f6 x hx
  split
  · refine repFault_mk f1 (by simp [f2]) f3 f4 f5 hhave f7 ?_
    refine keptFault_mk k1 k2 k3 k4 k5 k6 ?_ ?_ k9
    · show 0 ≤ min m.n (r.kept.log.length : Int); omega
    · show min m.n (r.kept.log.length : Int) ≤ r.kept.log.length; omega
  · exact repFault_mk f1 (by simp [f2]) f3 f4 f5 hhave f7 f8
theorem wantIf_fault {r : Replica} {v : Int} (h : repFault r = 0) (hv : v ≤ 1048576) : repFault (wantIf r v).1 = 0 := by
  unfold wantIf
  split
  · exact want_fault h (by assumption) hv
  · exact h
theorem hearWant_fault {r : Replica} {m : Message} (h : repFault r = 0) (hm : msgFault m = 0) : repFault (hearWant r m).1 = 0 := by
  have hw := wantIf_fault (v := m.view) h (msgFault_ok hm).2.2.2.2.2.2.1
  unfold hearWant
  generalize wantIf r m.view = x at *
  obtain ⟨r1, o1⟩ := x
  simp only at hw ⊢
  obtain ⟨f1, f2, f3, f4, f5, f6, f7, f8⟩ := repFault_ok hw
  split
  · exact hw
  have hw2 := wants_fault hw (r1.wants.set m.from_.toNat true) (by simp [f3])
  split
  · exact begun_fault (give1_fault hw2 (own_fault f8))
  · exact hw2
theorem hearGive_fault {r : Replica} {m : Message} (h : repFault r = 0) (hm : msgFault m = 0) : repFault (hearGive r m).1 = 0 := by
  have hw := wantIf_fault (v := m.view) h (msgFault_ok hm).2.2.2.2.2.2.1
  have hk := (msgFault_ok hm).2.2.2.2.2.2.2.2.2.2.2
  unfold hearGive
  generalize wantIf r m.view = x at *
  obtain ⟨r1, o1⟩ := x
  simp only at hw ⊢
  obtain ⟨f1, f2, f3, f4, f5, f6, f7, f8⟩ := repFault_ok hw
  split
  · exact hw
  refine begun_fault (give1_fault ?_ hk)
  split
  · exact give1_fault hw (own_fault f8)
  · exact hw
theorem hear_fault {r : Replica} {m : Message} (hok : (hear r m).2.2 = 0) : repFault (hear r m).1 = 0 := by
  unfold hear at hok ⊢
  split
  · rename_i hx; rw [if_pos hx] at hok; exact absurd hok hx
  rename_i hx; rw [if_neg hx] at hok
  split
  · rename_i hx; rw [if_pos hx] at hok; exact absurd hok hx
  rename_i hx2; rw [if_neg hx2] at hok
  split
  · rename_i hx; rw [if_pos hx] at hok; simp at hok
  rename_i hx3; rw [if_neg hx3] at hok
  split
  · rename_i hx; rw [if_pos hx] at hok; simp at hok
  rename_i hx4
  have h1 : repFault r = 0 := by omega
  have h2 : msgFault m = 0 := by omega
  simp only [hearIt]
  split
  · exact hearLead_fault h1 h2 (by omega)
  split
  · exact hearHas_fault h1 h2
  split
  · exact hearWant_fault h1 h2
  · exact hearGive_fault h1 h2
theorem take_fault {r : Replica} {e : Str} (hok : (take r e).2.2 = 0) : repFault (take r e).1 = 0 := by
  unfold take at hok ⊢
  split
  · rename_i hx; rw [if_pos hx] at hok; exact absurd hok hx
  rename_i hx; rw [if_neg hx] at hok
  split
  · rename_i hx; rw [if_pos hx] at hok; simp at hok
  rename_i hx2; rw [if_neg hx2] at hok
  split
  · rename_i hx; rw [if_pos hx] at hok; simp at hok
  rename_i hx3; rw [if_neg hx3] at hok
  split
  · rename_i hx; rw [if_pos hx] at hok; exact absurd hok hx
  rename_i hx4
  obtain ⟨f1, f2, f3, f4, f5, f6, f7, f8⟩ := repFault_ok (r := r) (by omega)
  obtain ⟨k1, k2, k3, k4, k5, k6, k7, k8, k9⟩ := keptFault_ok f8
  refine repFault_mk f1 f2 f3 f4 f5 ?_ f7 ?_
  · intro x hx
    have := f6 x hx
    show 0 ≤ x ∧ x ≤ ((r.kept.log ++ [e]).length : Int)
    rw [List.length_append]
    omega
  · refine keptFault_mk k1 k2 k3 k4 k5 ?_ k7 ?_ ?_
    · show (r.kept.log ++ [e]).length ≤ 60
      rw [List.length_append]
      simp only [List.length_cons, List.length_nil]
      omega
    · show r.kept.commit ≤ ((r.kept.log ++ [e]).length : Int)
      rw [List.length_append]
      omega
    · intro x hx
      rcases List.mem_append.1 hx with hx | hx
      · exact k9 x hx
      · simp only [List.mem_singleton] at hx
        subst hx
        omega
theorem tick_fault {r : Replica} (hok : (tick r).2.2 = 0) : repFault (tick r).1 = 0 := by
  unfold tick at hok ⊢
  split
  · rename_i hx; rw [if_pos hx] at hok; exact absurd hok hx
  rename_i hx; rw [if_neg hx] at hok
  have h1 : repFault r = 0 := by omega
  split
  · exact h1
  split
  · exact h1
  · exact wants_fault h1 _ (by simp [(repFault_ok h1).2.2.1])
theorem alarm_fault {r : Replica} (hok : (alarm r).2.2 = 0) : repFault (alarm r).1 = 0 := by
  unfold alarm at hok ⊢
  split
  · rename_i hx; rw [if_pos hx] at hok; exact absurd hok hx
  rename_i hx; rw [if_neg hx] at hok
  have h1 : repFault r = 0 := by omega
  split
  · rename_i hx; rw [if_pos hx] at hok; simp at hok
  · have := (keptFault_ok (repFault_ok h1).2.2.2.2.2.2.2).2.1
    exact want_fault h1 (by omega) (by omega)

/- where messages go -/
def ToR (l : List Message) : Prop := ∀ m ∈ l, InR m.to
theorem toAll_to (me v : Int) (m : Message) : ToR (toAll me v m) := fun x hx => by
  obtain ⟨i, hi, _, rfl⟩ := mem_toAll hx
  exact hi
theorem ToR.app {a b : List Message} (h : ToR a) (k : ToR b) : ToR (a ++ b) := fun m hm => by
  rcases List.mem_append.1 hm with hm | hm
  · exact h m hm
  · exact k m hm
theorem ToR.nil : ToR [] := fun m hm => by simp at hm
theorem ToR.one {m : Message} (h : InR m.to) : ToR [m] := fun x hx => by simp only [List.mem_singleton] at hx; subst hx; exact h
theorem begun_to (r : Replica) : ToR (begun r).2 := by
  unfold begun
  split
  · exact ToR.nil
  split
  · exact ToR.nil
  · exact toAll_to _ _ _
theorem wantIf_to (r : Replica) (v : Int) : ToR (wantIf r v).2 := by
  unfold wantIf
  split
  · exact toAll_to _ _ _
  · exact ToR.nil
theorem hear_to (r : Replica) (m : Message) : ToR (hear r m).2.1 := by
  unfold hear
  split
  · exact ToR.nil
  split
  · exact ToR.nil
  rename_i hx2
  split
  · exact ToR.nil
  split
  · exact ToR.nil
  have h2 : msgFault m = 0 := by omega
  simp only [hearIt]
  split
  · exact ToR.one (msgFault_ok h2).2.2.1
  split
  · unfold hearHas
    split
    · exact ToR.nil
    simp only []
    split
    · exact toAll_to _ _ _
    · exact ToR.nil
  split
  · have hw := wantIf_to r m.view
    unfold hearWant
    generalize wantIf r m.view = x at *
    obtain ⟨r1, o1⟩ := x
    simp only at hw ⊢
    split
    · exact hw
    split
    · exact hw.app (begun_to _)
    · exact hw.app (ToR.one (leader_in _))
  · have hw := wantIf_to r m.view
    unfold hearGive
    generalize wantIf r m.view = x at *
    obtain ⟨r1, o1⟩ := x
    simp only at hw ⊢
    split
    · exact hw
    · exact hw.app (begun_to _)
theorem take_to (r : Replica) (e : Str) : ToR (take r e).2.1 := by
  unfold take
  repeat' split
  all_goals first | exact ToR.nil | exact toAll_to _ _ _
theorem tick_to (r : Replica) : ToR (tick r).2.1 := by
  unfold tick
  split
  · exact ToR.nil
  split
  · exact toAll_to _ _ _
  split
  · exact ToR.one (leader_in _)
  · exact toAll_to _ _ _
theorem alarm_to (r : Replica) : ToR (alarm r).2.1 := by
  unfold alarm
  split
  · exact ToR.nil
  split
  · exact ToR.nil
  · exact toAll_to _ _ _
end Scu

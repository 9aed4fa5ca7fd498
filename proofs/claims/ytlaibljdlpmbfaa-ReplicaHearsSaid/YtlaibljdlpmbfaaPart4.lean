/- Part 4: words and walks under the law 'ReplicaHears'. -/
import Derived.Test.YtlaibljdlpmbfaaPart3
import Derived.Test.YtlaibljdlpmbfaaPart1
set_option linter.unusedVariables false
set_option linter.unusedSimpArgs false
/- Walks: may a replica be? The reference's; who leads; the laws ReplicaChecks and ReplicaLeads. -/
namespace Go.Proofs.Ytlaibljdlpmbfaa
open Go.RowKit
set_option maxHeartbeats 400000
set_option maxRecDepth 100000

theorem have_in (n : Nat) (h : Int) : haveBad n h = !inB h 0 n := by
  unfold haveBad inB
  rw [Bool.eq_iff_iff]
  simp only [Bool.or_eq_true, decide_eq_true_eq, Bool.not_eq_true', Bool.and_eq_false_iff, decide_eq_false_iff_not]
  omega
theorem replicaFault_c (lv hv0 wv gv nv : Value) (r : Scu.Replica) (w : World) (B : Nat) (hv : IsRep w B lv hv0 wv gv nv r) :
    Calls Try.prog 16 #[.agg #[.int .i64 r.me, .int .i64 r.kept.view, .int .i64 r.kept.normal, .bool r.kept.calm, lv, .int .i64 r.kept.commit, hv0, wv, gv, nv]] w fun e w' =>
      e = .returned (.int .i64 (Scu.repFault r)) ∧ Below w.heap.size w w' := by
  have HV := Lib.hid hv
  obtain ⟨⟨A0, c0, rfl, _, hr0⟩, hl0, he0⟩ := hv.log
  obtain ⟨⟨A1, c1, rfl, _, hr1⟩, hl1⟩ := hv.have_
  obtain ⟨⟨A2, c2, rfl, _, hr2⟩, hl2⟩ := hv.wants
  obtain ⟨⟨A3, c3, css, rfl, _, hcl, hcm, hr3, hce⟩, hl3⟩ := hv.gives
  obtain ⟨⟨A4, c4, rfl, _, hr4⟩, hl4⟩ := hv.given
  unfold R47 at hl0 hl1 hl2 hl3 hl4
  have HCE := Lib.hid (And.intro hcl (And.intro hcm hce))
  clear hv hcl hcm hce
  cases t1 : inB r.me 0 2 with
  | false =>
    have U1 := Lib.hid t1
    clear t1
    have HF := Lib.hid (show Scu.repFault r = 2 from rep_bad2 (by have := inB_no U1.out; omega))
    clear hr0 hr1 hr2 hr3 hr4 HCE he0
    go_enter Try.func16, Try.ntmps16
    go_wp2_with (go_at_call 33; refine (inn_c _ _ _ _).mono ?_; rintro e w1 ⟨rfl, rfl⟩; rw [U1.out])
    go_ret
    exact ⟨ret_val (int_eq HF.out.symm), (Below.refl _ _).alloc (Nat.le_refl _) _⟩
  | true =>
  have U1 := Lib.hid t1
  have HME := Lib.hid (show ¬ (r.me < 0 ∨ 3 ≤ r.me) by have := inB_yes t1; omega)
  clear t1
  cases t3 : ((r.have_.length : Int) != 3) with
  | true =>
    have HF := Lib.hid (show Scu.repFault r = 8 from rep_bad8 HME.out (.inl (by have := bne_iff_ne.1 t3; omega)))
    clear hr0 hr1 hr2 hr3 hr4 HCE he0
    go_enter Try.func16, Try.ntmps16
    go_wp2_with (go_at_call 33; refine (inn_c _ _ _ _).mono ?_; rintro e w1 ⟨rfl, rfl⟩; rw [U1.out])
    go_ret
    exact ⟨ret_val (int_eq HF.out.symm), (Below.refl _ _).alloc (Nat.le_refl _) _⟩
  | false =>
  cases t4 : ((r.wants.length : Int) != 3) with
  | true =>
    have HF := Lib.hid (show Scu.repFault r = 8 from rep_bad8 HME.out (.inr (.inl (by have := bne_iff_ne.1 t4; omega))))
    clear hr0 hr1 hr2 hr3 hr4 HCE he0
    go_enter Try.func16, Try.ntmps16
    go_wp2_with (go_at_call 33; refine (inn_c _ _ _ _).mono ?_; rintro e w1 ⟨rfl, rfl⟩; rw [U1.out])
    go_ret
    exact ⟨ret_val (int_eq HF.out.symm), (Below.refl _ _).alloc (Nat.le_refl _) _⟩
  | false =>
  cases t5 : ((r.gives.length : Int) != 3) with
  | true =>
    have HF := Lib.hid (show Scu.repFault r = 8 from rep_bad8 HME.out (.inr (.inr (.inl (by have := bne_iff_ne.1 t5; omega)))))
    clear hr0 hr1 hr2 hr3 hr4 HCE he0
    go_enter Try.func16, Try.ntmps16
    go_wp2_with (go_at_call 33; refine (inn_c _ _ _ _).mono ?_; rintro e w1 ⟨rfl, rfl⟩; rw [U1.out])
    go_ret
    exact ⟨ret_val (int_eq HF.out.symm), (Below.refl _ _).alloc (Nat.le_refl _) _⟩
  | false =>
  cases t6 : ((r.given.length : Int) != 3) with
  | true =>
    have HF := Lib.hid (show Scu.repFault r = 8 from rep_bad8 HME.out (.inr (.inr (.inr (by have := bne_iff_ne.1 t6; omega)))))
    clear hr0 hr1 hr2 hr3 hr4 HCE he0
    go_enter Try.func16, Try.ntmps16
    go_wp2_with (go_at_call 33; refine (inn_c _ _ _ _).mono ?_; rintro e w1 ⟨rfl, rfl⟩; rw [U1.out])
    go_ret
    exact ⟨ret_val (int_eq HF.out.symm), (Below.refl _ _).alloc (Nat.le_refl _) _⟩
  | false =>
  have l1 : r.have_.length = 3 := by have h : (r.have_.length : Int) = 3 := by simpa using t3
                                     omega
  have l2 : r.wants.length = 3 := by have h : (r.wants.length : Int) = 3 := by simpa using t4
                                     omega
  have l3 : r.gives.length = 3 := by have h : (r.gives.length : Int) = 3 := by simpa using t5
                                     omega
  have l4 : r.given.length = 3 := by have h : (r.given.length : Int) = 3 := by simpa using t6
                                     omega
  have HF := Lib.hid (rep_rest HME.out l1 l2 l3 l4)
  have L1 := Lib.hid l1
  have L3 := Lib.hid l3
  have HE0 := Lib.hid he0
  clear l1 l2 l3 l4 he0
  go_enter Try.func16, Try.ntmps16
  go_wp2_with (go_at_call 33; refine (inn_c _ _ _ _).mono ?_; rintro e w1 ⟨rfl, rfl⟩; rw [U1.out])
  go_loopw [3] (fun i wr => ∃ j : Nat, j ≤ 3 ∧ i = .int .i64 j ∧ Hid ((r.have_.take j).any (haveBad r.kept.log.length) = false ∧ (r.gives.take j).any giveBad = false) ∧ Below (w.heap.size + 1) (w.alloc (Obj.cells #[.int .i64 r.me, .int .i64 r.kept.view, .int .i64 r.kept.normal, .bool r.kept.calm, .slice A0 r.kept.log.length c0, .int .i64 r.kept.commit, .slice A1 r.have_.length c1, .slice A2 r.wants.length c2, .slice A3 r.gives.length c3, .slice A4 r.given.length c4] 29)) wr) (fun i _ => 3 - (intOf i).toNat)
  case atStart => exact ⟨0, Nat.zero_le _, rfl, by simp [Hid], Below.refl _ _⟩
  case round =>
    obtain ⟨j, hj, rfl, ht, hbw⟩ := hrel
    have hbs := hbw.size
    simp only [World.size_alloc] at hbs
    have hbs' : w.heap.size < wr.heap.size := by omega
    obtain ⟨hcc, hzz⟩ := bcell hbw
    by_cases hlt : j < 3
    · have hlt0 : (j : Int) < 3 := by omega
      have hlg : j < r.gives.length := by have := L3.out; omega
      have hlt' : (j : Int) < (r.gives.length : Int) := by omega
      have hlh : j < r.have_.length := by have := L1.out; omega
      have hlh' : (j : Int) < (r.have_.length : Int) := by omega
      obtain ⟨g, o, lvj, e3, hg, k0, k1, k2, k3, k4, hls⟩ := kepts_get HCE.out.1 HCE.out.2.1 ((hr3.alloc (Obj.cells #[.int .i64 r.me, .int .i64 r.kept.view, .int .i64 r.kept.normal, .bool r.kept.calm, .slice A0 r.kept.log.length c0, .int .i64 r.kept.commit, .slice A1 r.have_.length c1, .slice A2 r.wants.length c2, .slice A3 r.gives.length c3, .slice A4 r.given.length c4] 29)).below (hbw.mono (by simp))) (fun j cs x a b => ((HCE.out.2.2 j cs x a b).same (Ts := [9]) (by simp) (Same.alloc w (Obj.cells #[.int .i64 r.me, .int .i64 r.kept.view, .int .i64 r.kept.normal, .bool r.kept.calm, .slice A0 r.kept.log.length c0, .int .i64 r.kept.commit, .slice A1 r.have_.length c1, .slice A2 r.wants.length c2, .slice A3 r.gives.length c3, .slice A4 r.given.length c4] 29))).same (Ts := [9]) (by simp) (Same.below (hbw.mono (by simp)))) hlg
      obtain ⟨g1, o1, e1, hg1, m0⟩ := ones_get ((hr1.alloc (Obj.cells #[.int .i64 r.me, .int .i64 r.kept.view, .int .i64 r.kept.normal, .bool r.kept.calm, .slice A0 r.kept.log.length c0, .int .i64 r.kept.commit, .slice A1 r.have_.length c1, .slice A2 r.wants.length c2, .slice A3 r.gives.length c3, .slice A4 r.given.length c4] 29)).below (hbw.mono (by simp))) hlh
      subst e3 e1
      have HLS := Lib.hid hls
      obtain ⟨Aj, nj, cj, rfl⟩ := hls.form
      have HBW := Lib.hid hbw
      clear hls hbw
      cases u1 : inB r.have_[j] 0 (r.kept.log.length : Int)
      all_goals
        have UI := Lib.hid u1
        clear u1
      · have HX := Lib.hid (show Scu.repFault r = 8 by rw [HF.out, any_found (haveBad r.kept.log.length) r.have_ j hlh (by rw [have_in, UI.out]; rfl)]; rfl)
        go_wp2
        go_quiet ((go_at_call 33; exact quiet_at ((inn_c _ _ _ _).mono fun _ _ h => ⟨by rw [h.1, UI.out], 0, h.2.symm⟩)))
        go_wp2
        go_ret
        exact ⟨ret_val (int_eq HX.out.symm), below_drewN (((below_alloc w _).trans (HBW.out.mono (by simp)))) _⟩
      · have HH := Lib.hid (show haveBad r.kept.log.length r.have_[j] = false by rw [have_in, UI.out]; rfl)
        cases u3 : (Scu.keptFault r.gives[j] != 0)
        all_goals
          have U3 := Lib.hid u3
          go_wp2_with fail
          go_region_held3 (fun w' => w'.cell? ⟨w.heap.size, 6, none⟩ = some (.slice (some ⟨g1, o1, none⟩) r.have_.length c1) ∧ w'.cell? ⟨w.heap.size, 4, none⟩ = some (.slice A0 r.kept.log.length c0) ∧ w'.cell? ⟨g1, o1 + j, none⟩ = some (.int .i64 r.have_[j]) ∧ w'.cell? ⟨w.heap.size, 8, none⟩ = some (.slice (some ⟨g, o, none⟩) r.gives.length c3) ∧
              w'.cell? ⟨g, o + j * 5, none⟩ = some (.int .i64 r.gives[j].view) ∧ w'.cell? ⟨g, o + j * 5 + 1, none⟩ = some (.int .i64 r.gives[j].normal) ∧ w'.cell? ⟨g, o + j * 5 + 2, none⟩ = some (.bool r.gives[j].calm) ∧
              w'.cell? ⟨g, o + j * 5 + 3, none⟩ = some (.slice Aj nj cj) ∧ w'.cell? ⟨g, o + j * 5 + 4, none⟩ = some (.int .i64 r.gives[j].commit)) (first | go_keep | (go_split_ands; refine ⟨?_, ?_, ?_, ?_, ?_, ?_, ?_, ?_, ?_⟩ <;> (refine (h1.cell (by first | (simp; done) | (simp; omega) | omega)).trans ?_; assumption)))
            (first
              | (go_at_call 33; refine (inn_c _ _ _ _).mono ?_; rintro e w1 ⟨rfl, rfl⟩; rw [UI.out])
              | (go_at_call 34; refine (keptFault_c _ r.gives[j] _ B (HLS.out.drewN _)).mono ?_; rintro e w1 ⟨rfl, h1⟩))
          have hb1 := below_drewN ((below_alloc w _).trans (HBW.out.mono (by simp))) 1
          have hb2 := below_drewN HBW.out 1
          have HB1 := Lib.hid (hb1.trans (h1.mono hb1.size))
          have HB2 := Lib.hid (hb2.trans (h1.mono (by simp; omega)))
          clear hb1 hb2
          go_wp2
        · go_roundw
          case rel =>
            refine ⟨j + 1, hlt, by go_num, ⟨?_, ?_⟩, HB2.out⟩
            · rw [any_take _ r.have_ j hlh, ht.out.1, HH.out]; rfl
            · rw [any_take _ r.gives j hlg, ht.out.2]
              unfold giveBad
              have := U3.out
              simpa using this
          case measure => simp only [intOf]; omega
        · have HX := Lib.hid (show Scu.repFault r = 8 by
            rw [HF.out, any_found giveBad r.gives j hlg (by unfold giveBad; have := U3.out; simpa using this)]
            simp)
          go_ret
          exact ⟨ret_val (int_eq HX.out.symm), HB1.out⟩
    · have hlt' : (3 : Int) ≤ (j : Int) := by omega
      have HX := Lib.hid (show Scu.repFault r = Scu.keptFault r.kept by
        have e1 := any_none _ r.have_ j (by have := L1.out; omega) ht.out.1
        have e2 := any_none _ r.gives j (by have := L3.out; omega) ht.out.2
        rw [HF.out, e1, e2]; rfl)
      have HB1 := Lib.hid ((below_alloc w _).trans (hbw.mono (by simp)))
      clear hbw
      go_wp2_with fail
      refine (keptFault_c _ r.kept _ B (HV.out.log.below HB1.out)).mono ?_; rintro e w1 ⟨rfl, h1⟩
      go_wp2
      go_ret
      exact ⟨ret_val (int_eq HX.out.symm), HB1.out.trans (h1.mono HB1.out.size)⟩
end Go.Proofs.Ytlaibljdlpmbfaa
namespace Scu

structure Gh where
  st : Int → Prop
  sl : Int → List Str
  vl : Int → List Str
  ack : Int → Int → Nat
  vw : Int → Int

def InR (j : Int) : Prop := 0 ≤ j ∧ j < 3
theorem leader_in (v : Int) : InR (leader v) := by unfold InR leader; omega

def Valid (G : Gh) (n : Int) (P : List Str) : Prop :=
  P = [] ∨ ∃ w j, w ≤ n ∧ G.st w ∧ InR j ∧ j ≠ leader w ∧ P.length ≤ G.ack j w ∧ P <+: G.vl w

def ComOk (G : Gh) (n : Int) (log : List Str) (c : Int) : Prop :=
  0 ≤ c ∧ c ≤ log.length ∧ Valid G n (log.take c.toNat)

structure VG (G : Gh) (j v : Int) (k : Kept) : Prop where
  seen : v ≤ G.vw j
  lt : k.normal < v
  st : G.st k.normal
  lo : G.sl k.normal <+: k.log
  hi : k.log <+: G.vl k.normal
  led : ∀ w, w < v → G.st w → leader w = j → w ≤ k.normal ∧ (k.normal = w → k.log = G.vl w)
  acked : ∀ w, w < v → 0 < G.ack j w → w ≤ k.normal ∧ (k.normal = w → G.ack j w ≤ k.log.length)
  com : ComOk G k.normal k.log k.commit

structure GoodG (G : Gh) : Prop where
  nn : ∀ v, G.st v → 0 ≤ v
  two : ∀ v, G.st v → ∀ i j, InR i → InR j → i ≠ j → v ≤ G.vw i ∨ v ≤ G.vw j
  pre : ∀ v, G.st v → G.sl v <+: G.vl v
  ackLen : ∀ j w, G.ack j w ≤ (G.vl w).length
  ackSt : ∀ j w, 0 < G.ack j w → G.st w ∧ w ≤ G.vw j
  lc1 : ∀ w v j, w < v → G.st w → G.st v → InR j → j ≠ leader w → ∀ P, P <+: G.vl w → P.length ≤ G.ack j w → P <+: G.sl v
  lc2 : ∀ w v j, w < v → G.st w → G.st v → InR j → j ≠ leader w → G.vw j ≤ w → G.vl w <+: G.sl v

structure KeptOk (G : Gh) (i : Int) (k : Kept) : Prop where
  view : G.vw i = k.view
  le : k.normal ≤ k.view
  calm : k.calm = true → k.normal = k.view
  wild : k.calm = false → k.normal < k.view
  st : G.st k.normal
  lo : G.sl k.normal <+: k.log
  hi : k.log <+: G.vl k.normal
  mine : leader k.normal = i → k.log = G.vl k.normal
  led : ∀ w, G.st w → leader w = i → w ≤ k.normal
  acked : ∀ w, 0 < G.ack i w → w ≤ k.normal ∧ (k.normal = w → G.ack i w ≤ k.log.length)
  com : ComOk G k.normal k.log k.commit

structure GoodR (G : Gh) (i : Int) (r : Replica) : Prop where
  inr : InR i
  me : r.me = i
  have3 : r.have_.length = 3
  wants3 : r.wants.length = 3
  gives3 : r.gives.length = 3
  given3 : r.given.length = 3
  kept : KeptOk G i r.kept
  given : ∀ j, InR j → r.given.getD j.toNat false = true → r.kept.calm = false ∧ VG G j r.kept.view (r.gives.getD j.toNat kept0)
  self : r.given.getD i.toNat false = true → r.gives.getD i.toNat kept0 = own r.kept

structure GoodM (G : Gh) (m : Message) : Prop where
  lead : m.kind = 1 → G.st m.view ∧ G.sl m.view <+: m.log ∧ m.log <+: G.vl m.view ∧ ComOk G m.view m.log m.commit
  has : m.kind = 2 → m.n ≤ G.ack m.from_ m.view
  give : m.kind = 4 → VG G m.from_ m.view ⟨m.view, m.normal, false, m.log, m.commit⟩

/-- what replica a alone may do to the ghost -/
structure Ext (a : Int) (G G' : Gh) : Prop where
  st : ∀ v, G.st v → G'.st v
  sl : ∀ v, G.st v → G'.sl v = G.sl v
  vl : ∀ v, G.st v → G.vl v <+: G'.vl v
  ack : ∀ j w, G.ack j w ≤ G'.ack j w
  vw : ∀ j, G.vw j ≤ G'.vw j
  vwOther : ∀ j, j ≠ a → G'.vw j = G.vw j
  ackOther : ∀ j w, j ≠ a → G'.ack j w = G.ack j w
  stOther : ∀ v, leader v ≠ a → (G'.st v ↔ G.st v)
  vlOther : ∀ v, leader v ≠ a → G.st v → G'.vl v = G.vl v
  ackFrozen : ∀ j w, w < G.vw j → G'.ack j w = G.ack j w
  stFrozen : ∀ w, w < G.vw (leader w) → (G'.st w → G.st w)
  vlFrozen : ∀ w, w < G.vw (leader w) → G.st w → G'.vl w = G.vl w

theorem Ext.refl (a : Int) (G : Gh) : Ext a G G :=
  ⟨fun _ h => h, fun _ _ => rfl, fun _ _ => List.prefix_refl _, fun _ _ => Nat.le_refl _, fun _ => Int.le_refl _, fun _ _ => rfl, fun _ _ _ => rfl,
    fun _ _ => Iff.rfl, fun _ _ _ => rfl, fun _ _ _ => rfl, fun _ _ h => h, fun _ _ _ => rfl⟩

theorem Ext.trans {a : Int} {G H K : Gh} (h : Ext a G H) (k : Ext a H K) : Ext a G K where
  st v hv := k.st v (h.st v hv)
  sl v hv := (k.sl v (h.st v hv)).trans (h.sl v hv)
  vl v hv := (h.vl v hv).trans (k.vl v (h.st v hv))
  ack j w := Nat.le_trans (h.ack j w) (k.ack j w)
  vw j := Int.le_trans (h.vw j) (k.vw j)
  vwOther j hj := (k.vwOther j hj).trans (h.vwOther j hj)
  ackOther j w hj := (k.ackOther j w hj).trans (h.ackOther j w hj)
  stOther v hv := (k.stOther v hv).trans (h.stOther v hv)
  vlOther v hv hs := (k.vlOther v hv (h.st v hs)).trans (h.vlOther v hv hs)
  ackFrozen j w hw := (k.ackFrozen j w (by have := h.vw j; omega)).trans (h.ackFrozen j w hw)
  stFrozen w hw hs := h.stFrozen w hw (k.stFrozen w (by have := h.vw (leader w); omega) hs)
  vlFrozen w hw hs := (k.vlFrozen w (by have := h.vw (leader w); omega) (h.st w hs)).trans (h.vlFrozen w hw hs)

theorem Valid.ext {a : Int} {G G' : Gh} {n : Int} {P : List Str} (e : Ext a G G') (h : Valid G n P) : Valid G' n P := by
  rcases h with h | ⟨w, j, h1, h2, h3, h4, h5, h6⟩
  · exact .inl h
  · exact .inr ⟨w, j, h1, e.st w h2, h3, h4, Nat.le_trans h5 (e.ack j w), h6.trans (e.vl w h2)⟩
theorem Valid.mono {G : Gh} {n m : Int} {P : List Str} (h : Valid G n P) (hm : n ≤ m) : Valid G m P := by
  rcases h with h | ⟨w, j, h1, h2⟩
  · exact .inl h
  · exact .inr ⟨w, j, by omega, h2⟩
theorem ComOk.ext {a : Int} {G G' : Gh} {n : Int} {l : List Str} {c : Int} (e : Ext a G G') (h : ComOk G n l c) : ComOk G' n l c := ⟨h.1, h.2.1, h.2.2.ext e⟩
theorem VG.ext {a : Int} {G G' : Gh} {j v : Int} {k : Kept} (e : Ext a G G') (h : VG G j v k) : VG G' j v k where
  seen := Int.le_trans h.seen (e.vw j)
  lt := h.lt
  st := e.st _ h.st
  lo := by rw [e.sl _ h.st]; exact h.lo
  hi := h.hi.trans (e.vl _ h.st)
  led w hw hs hl := by
    have hv : w < G.vw (leader w) := by rw [hl]; have := h.seen; omega
    have hs' := e.stFrozen w hv hs
    obtain ⟨h1, h2⟩ := h.led w hw hs' hl
    exact ⟨h1, fun hn => by rw [e.vlFrozen w hv hs']; exact h2 hn⟩
  acked w hw ha := by
    have hv : w < G.vw j := by have := h.seen; omega
    rw [e.ackFrozen j w hv] at ha ⊢
    exact h.acked w hw ha
  com := h.com.ext e
theorem GoodM.ext {a : Int} {G G' : Gh} {m : Message} (e : Ext a G G') (h : GoodM G m) : GoodM G' m where
  lead hk := by
    obtain ⟨h1, h2, h3, h4⟩ := h.lead hk
    exact ⟨e.st _ h1, by rw [e.sl _ h1]; exact h2, h3.trans (e.vl _ h1), h4.ext e⟩
  has hk := by have := h.has hk; have := e.ack m.from_ m.view; omega
  give hk := (h.give hk).ext e
theorem KeptOk.ext {a i : Int} {G G' : Gh} {k : Kept} (e : Ext a G G') (hi : i ≠ a) (h : KeptOk G i k) : KeptOk G' i k where
  view := (e.vwOther i hi).trans h.view
  le := h.le
  calm := h.calm
  wild := h.wild
  st := e.st _ h.st
  lo := by rw [e.sl _ h.st]; exact h.lo
  hi := h.hi.trans (e.vl _ h.st)
  mine hl := by rw [e.vlOther _ (by rw [hl]; exact hi) h.st]; exact h.mine hl
  led w hs hl := h.led w ((e.stOther w (by rw [hl]; exact hi)).1 hs) hl
  acked w ha := by rw [e.ackOther i w hi] at ha ⊢; exact h.acked w ha
  com := h.com.ext e
theorem GoodR.ext {a i : Int} {G G' : Gh} {r : Replica} (e : Ext a G G') (hi : i ≠ a) (h : GoodR G i r) : GoodR G' i r :=
  { h with kept := h.kept.ext e hi, given := fun j hj hg => ⟨(h.given j hj hg).1, (h.given j hj hg).2.ext e⟩ }

/- facts on lists -/
theorem prefix_of_two {α : Type} {a b c : List α} (h : a <+: c) (k : b <+: c) (hl : a.length ≤ b.length) : a <+: b := List.prefix_of_prefix_length_le h k hl
theorem take_of_prefix {α : Type} {a b : List α} (h : a <+: b) {n : Nat} (hn : n ≤ a.length) : b.take n = a.take n := by
  obtain ⟨t, rfl⟩ := h
  rw [List.take_append_of_le_length hn]
theorem take_len_of_prefix {α : Type} {a b : List α} (h : a <+: b) : b.take a.length = a := by
  rw [take_of_prefix h (Nat.le_refl _), List.take_length]

/- two valid lists agree -/
theorem Valid.agree {G : Gh} (g : GoodG G) {n m : Int} {P Q : List Str} (hp : Valid G n P) (hq : Valid G m Q) : P <+: Q ∨ Q <+: P := by
  rcases hp with rfl | ⟨w, j, h1, h2, h3, h4, h5, h6⟩
  · exact .inl (List.nil_prefix)
  · rcases hq with rfl | ⟨u, i, k1, k2, k3, k4, k5, k6⟩
    · exact .inr (List.nil_prefix)
    · rcases Int.lt_trichotomy w u with h | h | h
      · have hu : P <+: G.vl u := (g.lc1 w u j h h2 k2 h3 h4 P h6 h5).trans (g.pre u k2)
        exact List.prefix_or_prefix_of_prefix hu k6
      · subst h
        exact List.prefix_or_prefix_of_prefix h6 k6
      · have hw : Q <+: G.vl w := (g.lc1 u w i h k2 h2 k3 k4 Q k6 k5).trans (g.pre w h2)
        exact List.prefix_or_prefix_of_prefix h6 hw
/-- what is valid is in every later view -/
theorem Valid.in_view {G : Gh} (g : GoodG G) {n v : Int} {P : List Str} (hp : Valid G n P) (hn : n < v) (hv : G.st v) : P <+: G.sl v := by
  rcases hp with rfl | ⟨w, j, h1, h2, h3, h4, h5, h6⟩
  · exact List.nil_prefix
  · exact g.lc1 w v j (by omega) h2 hv h3 h4 P h6 h5
theorem ComOk.in_view {G : Gh} (g : GoodG G) {n v : Int} {l : List Str} {c : Int} (h : ComOk G n l c) (hn : n < v) (hv : G.st v) : l.take c.toNat <+: G.sl v := h.2.2.in_view g hn hv

theorem ComOk.length {G : Gh} {n : Int} {l : List Str} {c : Int} (h : ComOk G n l c) : (l.take c.toNat).length = c.toNat := by
  rw [List.length_take]; have := h.1; have := h.2.1; omega

/-- what was committed in one log is committed in another one that has it -/
theorem ComOk.move {G : Gh} {n m : Int} {l l' : List Str} {c : Int} (h : ComOk G n l c) (hp : l.take c.toNat <+: l') (hm : n ≤ m) : ComOk G m l' c := by
  have hl := h.length
  have h' := hp.length_le
  refine ⟨h.1, by have := h.1; omega, ?_⟩
  have : l'.take c.toNat = l.take c.toNat := by
    have := take_len_of_prefix hp
    rwa [hl] at this
  rw [this]
  exact h.2.2.mono hm
theorem ComOk.max {G : Gh} {n : Int} {l : List Str} {c d : Int} (h : ComOk G n l c) (k : ComOk G n l d) : ComOk G n l (max c d) := by
  rcases Int.le_total c d with h1 | h1
  · rw [Int.max_eq_right h1]; exact k
  · rw [Int.max_eq_left h1]; exact h

/- the ghost's moves -/
def Gh.moved (G : Gh) (i v : Int) : Gh := { G with vw := fun j => if j = i then v else G.vw j }
def Gh.acks (G : Gh) (i v : Int) (n : Nat) : Gh := { G with ack := fun j w => if j = i ∧ w = v then max (G.ack i v) n else G.ack j w }
def Gh.begins (G : Gh) (v : Int) (l : List Str) : Gh :=
  { G with st := fun w => w = v ∨ G.st w, sl := fun w => if w = v then l else G.sl w, vl := fun w => if w = v then l else G.vl w }
def Gh.longer (G : Gh) (v : Int) (l : List Str) : Gh := { G with vl := fun w => if w = v then l else G.vl w }

theorem moved_ext {G : Gh} {i v : Int} (h : G.vw i ≤ v) : Ext i G (G.moved i v) :=
  { Ext.refl i G with
    vw := fun j => by
      simp only [Gh.moved]; split
      · rename_i e; rw [e]; exact h
      · exact Int.le_refl _
    vwOther := fun j hj => by simp only [Gh.moved]; rw [if_neg hj] }
theorem moved_good {G : Gh} (g : GoodG G) {i v : Int} (h : G.vw i ≤ v) : GoodG (G.moved i v) := by
  have hv := (moved_ext h).vw
  refine { g with two := ?_, ackSt := ?_, lc2 := ?_ }
  · intro u hu a b ha hb hab
    rcases g.two u hu a b ha hb hab with h1 | h1
    · exact .inl (Int.le_trans h1 (hv a))
    · exact .inr (Int.le_trans h1 (hv b))
  · intro j w ha
    exact ⟨(g.ackSt j w ha).1, Int.le_trans (g.ackSt j w ha).2 (hv j)⟩
  · intro w u j h1 h2 h3 h4 h5 h6
    exact g.lc2 w u j h1 h2 h3 h4 h5 (Int.le_trans (hv j) h6)

theorem acks_ext {G : Gh} {i v : Int} {n : Nat} (hv : G.vw i ≤ v) : Ext i G (G.acks i v n) :=
  { Ext.refl i G with
    ack := fun j w => by
      simp only [Gh.acks]; split
      · rename_i h; obtain ⟨rfl, rfl⟩ := h; exact Nat.le_max_left _ _
      · exact Nat.le_refl _
    ackOther := fun j w hj => by simp only [Gh.acks]; rw [if_neg (fun h => hj h.1)]
    ackFrozen := fun j w hw => by
      simp only [Gh.acks]
      rw [if_neg]
      rintro ⟨rfl, rfl⟩
      omega }
theorem acks_good {G : Gh} (g : GoodG G) {i v : Int} {n : Nat} (hv : G.vw i = v) (hs : G.st v) (hn : n ≤ (G.vl v).length) (hl : i ≠ leader v) :
    GoodG (G.acks i v n) := by
  refine { g with ackLen := ?_, ackSt := ?_, lc1 := ?_ }
  · intro j w
    simp only [Gh.acks]; split
    · rename_i h; obtain ⟨rfl, rfl⟩ := h; have := g.ackLen j w; omega
    · exact g.ackLen j w
  · intro j w ha
    simp only [Gh.acks] at ha ⊢
    by_cases h : j = i ∧ w = v
    · obtain ⟨rfl, rfl⟩ := h
      exact ⟨hs, by omega⟩
    · rw [if_neg h] at ha
      exact g.ackSt j w ha
  · intro w u j h1 h2 h3 h4 h5 P h6 h7
    simp only [Gh.acks] at h7 h6 h2 h3 ⊢
    by_cases h : j = i ∧ w = v
    · obtain ⟨rfl, rfl⟩ := h
      exact h6.trans (g.lc2 w u j h1 h2 h3 h4 h5 (by omega))
    · rw [if_neg h] at h7
      exact g.lc1 w u j h1 h2 h3 h4 h5 P h6 h7

theorem longer_ext {G : Gh} {i v : Int} {l : List Str} (hv : G.vw i ≤ v) (hl : leader v = i) (hp : G.vl v <+: l) : Ext i G (G.longer v l) :=
  { Ext.refl i G with
    vl := fun w _ => by
      simp only [Gh.longer]; split
      · subst_vars; exact hp
      · exact List.prefix_refl _
    vlOther := fun w hw _ => by
      simp only [Gh.longer]; rw [if_neg]; rintro rfl; exact hw hl
    vlFrozen := fun w hw _ => by
      simp only [Gh.longer]; rw [if_neg]; rintro rfl; rw [hl] at hw; omega }
theorem longer_good {G : Gh} (g : GoodG G) {i v : Int} {l : List Str} (hv : G.vw i = v) (hl : leader v = i) (hp : G.vl v <+: l) : GoodG (G.longer v l) := by
  refine { g with pre := ?_, ackLen := ?_, lc1 := ?_, lc2 := ?_ }
  · intro w hw
    simp only [Gh.longer]; split
    · subst_vars; exact (g.pre _ hw).trans hp
    · exact g.pre w hw
  · intro j w
    simp only [Gh.longer]; split
    · subst_vars; exact Nat.le_trans (g.ackLen j _) hp.length_le
    · exact g.ackLen j w
  · intro w u j h1 h2 h3 h4 h5 P h6 h7
    simp only [Gh.longer] at h6 h7 ⊢
    split at h6
    · rename_i e
      subst e
      exact g.lc1 w u j h1 h2 h3 h4 h5 P (prefix_of_two h6 hp (Nat.le_trans h7 (g.ackLen j w))) h7
    · exact g.lc1 w u j h1 h2 h3 h4 h5 P h6 h7
  · intro w u j h1 h2 h3 h4 h5 h6
    simp only [Gh.longer] at h6 ⊢
    split
    · rename_i e
      subst e
      exfalso
      have hi : InR i := by rw [← hl]; exact leader_in _
      rcases g.two u h3 j i h4 hi (by rw [← hl]; exact h5) with h | h <;> omega
    · exact g.lc2 w u j h1 h2 h3 h4 h5 h6

/-- THE HEART: a view begins with what two have given: all that may be committed in an earlier view is in it. -/
theorem begins_good {G : Gh} (g : GoodG G) {i v : Int} (hl : leader v = i) (hvi : G.vw i = v) (hnot : ¬ G.st v) (hnn : 0 ≤ v)
    (K : Int → Kept) (S : Int → Prop) (hS : ∀ j, S j → InR j ∧ VG G j v (K j)) (hi : S i) (p q : Int) (hq : S q) (hqi : q ≠ i) (hp : S p)
    (hbest : ∀ j, S j → (K j).normal < (K p).normal ∨ ((K j).normal = (K p).normal ∧ (K j).log.length ≤ (K p).log.length)) :
    Ext i G (G.begins v (K p).log) ∧ GoodG (G.begins v (K p).log) := by
  have hVp := (hS p hp).2
  have hN : ∀ w, G.st w → w ≠ v := fun w hw e => hnot (e ▸ hw)
  have hext : Ext i G (G.begins v (K p).log) :=
    { Ext.refl i G with
      st := fun w hw => .inr hw
      sl := fun w hw => by simp only [Gh.begins]; rw [if_neg (hN w hw)]
      vl := fun w hw => by simp only [Gh.begins]; rw [if_neg (hN w hw)]; exact List.prefix_refl _
      stOther := fun w hw => ⟨fun h => h.resolve_left (fun e => hw (e ▸ hl)), .inr⟩
      vlOther := fun w hw hs => by simp only [Gh.begins]; rw [if_neg (hN w hs)]
      stFrozen := fun w hw h => h.resolve_left (fun e => by subst e; rw [hl] at hw; omega)
      vlFrozen := fun w hw hs => by simp only [Gh.begins]; rw [if_neg (hN w hs)] }
  -- who gave a log of view N: the best is at least that
  have hge : ∀ j, S j → ∀ w, w ≤ (K j).normal → w ≤ (K p).normal := fun j hj w hw => by rcases hbest j hj with h | h <;> omega
  have hsame : ∀ j, S j → ∀ w, w ≤ (K j).normal → (K p).normal = w → (K j).normal = w ∧ (K j).log.length ≤ (K p).log.length := fun j hj w hw he => by
    rcases hbest j hj with h | h
    · omega
    · exact ⟨by omega, h.2⟩
  have hack0 : ∀ j, G.ack j v = 0 := fun j => by
    rcases Nat.eq_zero_or_pos (G.ack j v) with h | h
    · exact h
    · exact absurd (g.ackSt j v h).1 hnot
  have hone : ∀ j, InR j → ¬ S j → ∀ l, InR l → l ≠ j → S l := by
    intro j hj hn l hlr hlj
    have h1 : j ≠ i := fun e => hn (e ▸ hi)
    have h2 : j ≠ q := fun e => hn (e ▸ hq)
    have hir := (hS i hi).1
    have hqr := (hS q hq).1
    unfold InR at *
    by_cases e : l = i
    · exact e ▸ hi
    · have : l = q := by omega
      exact this ▸ hq
  have key1 : ∀ w j, w < v → G.st w → InR j → j ≠ leader w → ∀ P, P <+: G.vl w → P.length ≤ G.ack j w → P <+: (K p).log := by
    intro w j hwv hs hj hjl P hP hlen
    rcases Nat.eq_zero_or_pos P.length with h0 | h0
    · rw [List.length_eq_zero_iff.1 h0]; exact List.nil_prefix
    have hpos : 0 < G.ack j w := by omega
    have claim : w ≤ (K p).normal ∧ ((K p).normal = w → P.length ≤ (K p).log.length) := by
      by_cases hSj : S j
      · obtain ⟨a1, a2⟩ := (hS j hSj).2.acked w hwv hpos
        refine ⟨hge j hSj w a1, fun he => ?_⟩
        obtain ⟨b1, b2⟩ := hsame j hSj w a1 he
        have := a2 b1
        omega
      · have hSl := hone j hj hSj (leader w) (leader_in w) hjl.symm
        obtain ⟨a1, a2⟩ := (hS _ hSl).2.led w hwv hs rfl
        refine ⟨hge _ hSl w a1, fun he => ?_⟩
        obtain ⟨b1, b2⟩ := hsame _ hSl w a1 he
        rw [a2 b1] at b2
        have := hP.length_le
        omega
    obtain ⟨c1, c2⟩ := claim
    by_cases he : (K p).normal = w
    · exact prefix_of_two hP (he ▸ hVp.hi) (c2 he)
    · exact (g.lc1 w (K p).normal j (by omega) hs hVp.st hj hjl P hP hlen).trans hVp.lo
  have key2 : ∀ w j, w < v → G.st w → InR j → j ≠ leader w → G.vw j ≤ w → G.vl w <+: (K p).log := by
    intro w j hwv hs hj hjl hvw
    have hSj : ¬ S j := fun h => by have := (hS j h).2.seen; omega
    have hSl := hone j hj hSj (leader w) (leader_in w) hjl.symm
    obtain ⟨a1, a2⟩ := (hS _ hSl).2.led w hwv hs rfl
    have hw := hge _ hSl w a1
    by_cases he : (K p).normal = w
    · obtain ⟨b1, b2⟩ := hsame _ hSl w a1 he
      rw [a2 b1] at b2
      exact prefix_of_two (List.prefix_refl _) (he ▸ hVp.hi) b2
    · exact (g.lc2 w (K p).normal j (by omega) hs hVp.st hj hjl hvw).trans hVp.lo
  refine ⟨hext, ?_⟩
  refine { nn := ?_, two := ?_, pre := ?_, ackLen := ?_, ackSt := ?_, lc1 := ?_, lc2 := ?_ }
  · intro u hu
    rcases hu with rfl | hu
    · exact hnn
    · exact g.nn u hu
  · intro u hu a b ha hb hab
    rcases hu with rfl | hu
    · have hsi := (hS i hi).2.seen
      have hsq := (hS q hq).2.seen
      have hir := (hS i hi).1
      have hqr := (hS q hq).1
      show u ≤ G.vw a ∨ u ≤ G.vw b
      by_cases e1 : a = i
      · subst e1; exact .inl hsi
      by_cases e2 : a = q
      · subst e2; exact .inl hsq
      by_cases e3 : b = i
      · subst e3; exact .inr hsi
      · have : b = q := by unfold InR at *; omega
        subst this; exact .inr hsq
    · exact g.two u hu a b ha hb hab
  · intro w hw
    simp only [Gh.begins]
    split
    · exact List.prefix_refl _
    · rename_i hne
      exact g.pre w (hw.resolve_left hne)
  · intro j w
    simp only [Gh.begins]
    split
    · subst_vars; rw [hack0]; omega
    · exact g.ackLen j w
  · intro j w h
    exact ⟨.inr (g.ackSt j w h).1, (g.ackSt j w h).2⟩
  · intro w u j h1 h2 h3 h4 h5 P h6 h7
    simp only [Gh.begins] at h6 ⊢
    have h7' : P.length ≤ G.ack j w := h7
    by_cases ew : w = v
    · subst ew
      rw [hack0] at h7'
      have : P = [] := List.length_eq_zero_iff.1 (by omega)
      subst this
      exact List.nil_prefix
    · rw [if_neg ew] at h6
      have hsw := h2.resolve_left ew
      by_cases eu : u = v
      · rw [if_pos eu]
        exact key1 w j (by omega) hsw h4 h5 P h6 h7'
      · rw [if_neg eu]
        exact g.lc1 w u j h1 hsw (h3.resolve_left eu) h4 h5 P h6 h7'
  · intro w u j h1 h2 h3 h4 h5 h6
    simp only [Gh.begins] at ⊢
    have h6' : G.vw j ≤ w := h6
    by_cases ew : w = v
    · subst ew
      exfalso
      have hsu : G.st u := h3.resolve_left (by omega)
      have hir := (hS i hi).1
      rcases g.two u hsu j i h4 hir (by rw [← hl]; exact h5) with h | h <;> omega
    · rw [if_neg ew]
      have hsw := h2.resolve_left ew
      by_cases eu : u = v
      · rw [if_pos eu]
        exact key2 w j (by omega) hsw h4 h5 h6'
      · rw [if_neg eu]
        exact g.lc2 w u j h1 hsw (h3.resolve_left eu) h4 h5 h6'

end Scu
namespace Scu

def EntG (A : Str → Prop) (G : Gh) : Prop := ∀ v, G.st v → ∀ e ∈ G.vl v, A e

/-- what one replica's step comes to -/
def Stepped (A : Str → Prop) (G : Gh) (i : Int) (r r' : Replica) (out : List Message) : Prop :=
  ∃ G', Ext i G G' ∧ GoodG G' ∧ EntG A G' ∧ GoodR G' i r' ∧ (∀ m ∈ out, GoodM G' m) ∧ r.kept.commit ≤ r'.kept.commit

theorem Stepped.trans {A : Str → Prop} {G : Gh} {i : Int} {r r1 r2 : Replica} {o1 o2 : List Message}
    (h : Stepped A G i r r1 o1) (k : ∀ G', Ext i G G' → GoodG G' → EntG A G' → GoodR G' i r1 → Stepped A G' i r1 r2 o2) : Stepped A G i r r2 (o1 ++ o2) := by
  obtain ⟨G1, e1, g1, a1, h1, m1, c1⟩ := h
  obtain ⟨G2, e2, g2, a2, h2, m2, c2⟩ := k G1 e1 g1 a1 h1
  refine ⟨G2, e1.trans e2, g2, a2, h2, fun m hm => ?_, Int.le_trans c1 c2⟩
  rcases List.mem_append.1 hm with hm | hm
  · exact (m1 m hm).ext e2
  · exact m2 m hm

theorem toNat_inj {i j : Int} (hi : InR i) (hj : InR j) : i.toNat = j.toNat ↔ i = j := by unfold InR at *; omega
theorem getD_set {α : Type} (l : List α) (i j : Int) (x d : α) (hi : InR i) (hj : InR j) (hl : l.length = 3) :
    (l.set i.toNat x).getD j.toNat d = if j = i then x else l.getD j.toNat d := by
  have hi' : i.toNat < l.length := by unfold InR at hi; omega
  by_cases h : j = i
  · subst h
    simp [hi']
  · have : i.toNat ≠ j.toNat := fun e => h ((toNat_inj hi hj).1 e).symm
    simp [List.getElem?_set_ne this, h]

theorem getD_zero {α : Type} (x d : α) (j : Int) (hj : InR j) : [x, x, x].getD j.toNat d = x := by
  unfold InR at hj
  have : j = 0 ∨ j = 1 ∨ j = 2 := by omega
  rcases this with rfl | rfl | rfl <;> rfl

def geq (a b : Kept) : Prop := b.normal < a.normal ∨ (a.normal = b.normal ∧ b.log.length ≤ a.log.length)
theorem geq_refl (a : Kept) : geq a a := .inr ⟨rfl, Nat.le_refl _⟩
theorem geq_trans {a b c : Kept} (h : geq a b) (k : geq b c) : geq a c := by unfold geq at *; omega

theorem bestOf_spec (l : List (Kept × Bool)) : ∀ b : Kept, geq (l.foldl (fun b g => if g.2 && better g.1 b then g.1 else b) b) b ∧
    (∀ g ∈ l, g.2 = true → geq (l.foldl (fun b g => if g.2 && better g.1 b then g.1 else b) b) g.1) ∧
    (l.foldl (fun b g => if g.2 && better g.1 b then g.1 else b) b = b ∨ ∃ g ∈ l, g.2 = true ∧ l.foldl (fun b g => if g.2 && better g.1 b then g.1 else b) b = g.1) := by
  induction l with
  | nil => intro b; exact ⟨geq_refl b, by simp, .inl rfl⟩
  | cons x l ih =>
    intro b
    simp only [List.foldl_cons]
    obtain ⟨h1, h2, h3⟩ := ih (if x.2 && better x.1 b then x.1 else b)
    generalize hr : l.foldl (fun b g => if g.2 && better g.1 b then g.1 else b) (if x.2 && better x.1 b then x.1 else b) = R at *
    by_cases hx : (x.2 && better x.1 b) = true
    · rw [if_pos hx] at h1 h3
      have hb : geq x.1 b := by
        simp only [Bool.and_eq_true, better, Bool.or_eq_true, decide_eq_true_eq] at hx
        unfold geq; omega
      have hx2 : x.2 = true := by simp at hx; exact hx.1
      refine ⟨geq_trans h1 hb, ?_, ?_⟩
      · intro g hg hg2
        rcases List.mem_cons.1 hg with rfl | hg
        · exact h1
        · exact h2 g hg hg2
      · rcases h3 with h3 | ⟨g, hg, h⟩
        · exact .inr ⟨x, List.mem_cons_self, hx2, h3⟩
        · exact .inr ⟨g, List.mem_cons_of_mem _ hg, h⟩
    · rw [if_neg hx] at h1 h3
      refine ⟨h1, ?_, ?_⟩
      · intro g hg hg2
        rcases List.mem_cons.1 hg with rfl | hg
        · refine geq_trans h1 ?_
          rw [hg2] at hx
          simp only [Bool.true_and, better, Bool.or_eq_true, Bool.and_eq_true, decide_eq_true_eq] at hx
          unfold geq; omega
        · exact h2 g hg hg2
      · rcases h3 with h3 | ⟨g, hg, h⟩
        · exact .inl h3
        · exact .inr ⟨g, List.mem_cons_of_mem _ hg, h⟩

theorem maxCommit_spec (l : List (Kept × Bool)) : ∀ c : Int, c ≤ l.foldl (fun c g => if g.2 then max c g.1.commit else c) c ∧
    (∀ g ∈ l, g.2 = true → g.1.commit ≤ l.foldl (fun c g => if g.2 then max c g.1.commit else c) c) ∧
    (l.foldl (fun c g => if g.2 then max c g.1.commit else c) c = c ∨ ∃ g ∈ l, g.2 = true ∧ l.foldl (fun c g => if g.2 then max c g.1.commit else c) c = g.1.commit) := by
  induction l with
  | nil => intro c; exact ⟨Int.le_refl _, by simp, .inl rfl⟩
  | cons x l ih =>
    intro c
    simp only [List.foldl_cons]
    obtain ⟨h1, h2, h3⟩ := ih (if x.2 then max c x.1.commit else c)
    generalize l.foldl (fun c g => if g.2 then max c g.1.commit else c) (if x.2 then max c x.1.commit else c) = R at *
    by_cases hx : x.2 = true
    · simp only [hx, if_true] at h1 h3
      refine ⟨by omega, ?_, ?_⟩
      · intro g hg hg2
        rcases List.mem_cons.1 hg with rfl | hg
        · omega
        · exact h2 g hg hg2
      · rcases h3 with h3 | ⟨g, hg, h⟩
        · rcases Int.le_total c x.1.commit with h | h
          · exact .inr ⟨x, List.mem_cons_self, hx, by omega⟩
          · exact .inl (by omega)
        · exact .inr ⟨g, List.mem_cons_of_mem _ hg, h⟩
    · rw [if_neg hx] at h1 h3
      refine ⟨h1, ?_, ?_⟩
      · intro g hg hg2
        rcases List.mem_cons.1 hg with rfl | hg
        · exact absurd hg2 hx
        · exact h2 g hg hg2
      · rcases h3 with h3 | ⟨g, hg, h⟩
        · exact .inl h3
        · exact .inr ⟨g, List.mem_cons_of_mem _ hg, h⟩

theorem len3 {α : Type} {l : List α} (h : l.length = 3) : ∃ a b c, l = [a, b, c] := by
  match l, h with
  | [a, b, c], _ => exact ⟨a, b, c, rfl⟩

theorem mem_zip3 {gs : List Kept} {bs : List Bool} (h1 : gs.length = 3) (h2 : bs.length = 3) (k : Kept) :
    (k, true) ∈ gs.zip bs ↔ ∃ j, InR j ∧ bs.getD j.toNat false = true ∧ gs.getD j.toNat kept0 = k := by
  obtain ⟨a, b, c, rfl⟩ := len3 h1
  obtain ⟨x, y, z, rfl⟩ := len3 h2
  constructor
  · intro h
    simp only [List.zip_cons_cons, List.zip_nil_right, List.mem_cons, Prod.mk.injEq, List.not_mem_nil, or_false] at h
    rcases h with ⟨rfl, rfl⟩ | ⟨rfl, rfl⟩ | ⟨rfl, rfl⟩
    · exact ⟨0, by unfold InR; omega, rfl, rfl⟩
    · exact ⟨1, by unfold InR; omega, rfl, rfl⟩
    · exact ⟨2, by unfold InR; omega, rfl, rfl⟩
  · rintro ⟨j, hj, h3, h4⟩
    have : j = 0 ∨ j = 1 ∨ j = 2 := by unfold InR at hj; omega
    rcases this with rfl | rfl | rfl <;> simp at h3 h4 <;> subst h3 <;> subst h4 <;> simp

theorem countP2 {bs : List Bool} (h2 : bs.length = 3) {i : Int} (hi : InR i) (hc : ¬ bs.countP id < 2) :
    ∃ q, InR q ∧ q ≠ i ∧ bs.getD q.toNat false = true := by
  obtain ⟨x, y, z, rfl⟩ := len3 h2
  have : i = 0 ∨ i = 1 ∨ i = 2 := by unfold InR at hi; omega
  have r0 : InR 0 := by unfold InR; omega
  have r1 : InR 1 := by unfold InR; omega
  have r2 : InR 2 := by unfold InR; omega
  rcases this with rfl | rfl | rfl
  · cases y
    · cases z
      · exfalso; revert hc; cases x <;> decide
      · exact ⟨2, r2, by decide, rfl⟩
    · exact ⟨1, r1, by decide, rfl⟩
  · cases x
    · cases z
      · exfalso; revert hc; cases y <;> decide
      · exact ⟨2, r2, by decide, rfl⟩
    · exact ⟨0, r0, by decide, rfl⟩
  · cases x
    · cases y
      · exfalso; revert hc; cases z <;> decide
      · exact ⟨1, r1, by decide, rfl⟩
    · exact ⟨0, r0, by decide, rfl⟩

theorem mem_toAll {me v : Int} {m x : Message} (h : x ∈ toAll me v m) : ∃ i, InR i ∧ i ≠ me ∧ x = { m with from_ := me, tq := i, view := v } := by
  unfold toAll at h
  simp only [List.mem_map, List.mem_filter, decide_eq_true_eq] at h
  obtain ⟨i, ⟨h1, h2⟩, rfl⟩ := h
  refine ⟨i, ?_, h2, rfl⟩
  simp at h1
  unfold InR; omega

theorem leadOn_good {G : Gh} {r : Replica} (h1 : G.st r.kept.view) (h2 : G.sl r.kept.view <+: r.kept.log) (h3 : r.kept.log <+: G.vl r.kept.view)
    (h4 : ComOk G r.kept.view r.kept.log r.kept.commit) : ∀ m ∈ leadOn r, GoodM G m := by
  intro m hm
  obtain ⟨i, _, _, rfl⟩ := mem_toAll hm
  exact ⟨fun _ => ⟨h1, h2, h3, h4⟩, fun h => by simp at h, fun h => by simp at h⟩

theorem wants_good {G : Gh} {me v : Int} : ∀ m ∈ toAll me v { msg0 with kind := 3 }, GoodM G m := by
  intro m hm
  obtain ⟨i, _, _, rfl⟩ := mem_toAll hm
  exact ⟨fun h => by simp at h, fun h => by simp at h, fun h => by simp at h⟩

/-- a replica that knows nothing of others -/
theorem GoodR.fresh {G : Gh} {i : Int} {r : Replica} (hi : InR i) (hm : r.me = i) (hk : KeptOk G i r.kept) : GoodR G i (fresh r) where
  inr := hi
  me := hm
  have3 := rfl
  wants3 := rfl
  gives3 := rfl
  given3 := rfl
  kept := hk
  given j hj hg := by rw [show (Scu.fresh r).given = [false, false, false] from rfl, getD_zero _ _ _ hj] at hg; cases hg
  self hg := by rw [show (Scu.fresh r).given = [false, false, false] from rfl, getD_zero _ _ _ hi] at hg; cases hg

theorem GoodR.wants {G : Gh} {i : Int} {r : Replica} (h : GoodR G i r) (l : List Bool) (hl : l.length = 3) : GoodR G i { r with wants := l } :=
  { h with wants3 := hl }
theorem GoodR.haves {G : Gh} {i : Int} {r : Replica} (h : GoodR G i r) (l : List Int) (hl : l.length = 3) : GoodR G i { r with have_ := l } :=
  { h with have3 := hl }

/-- a wild replica's own gift -/
theorem KeptOk.gift {G : Gh} {i : Int} {k : Kept} (h : KeptOk G i k) (hc : k.calm = false) : VG G i k.view (own k) where
  seen := by rw [h.view]; exact Int.le_refl _
  lt := h.wild hc
  st := h.st
  lo := h.lo
  hi := h.hi
  led w _ hs hl := ⟨h.led w hs hl, fun he => by
    have he' : k.normal = w := he
    subst he'
    exact h.mine hl⟩
  acked w _ ha := h.acked w ha
  com := h.com

theorem give1_good {G : Gh} {i j : Int} {r : Replica} {k : Kept} (h : GoodR G i r) (hc : r.kept.calm = false) (hj : InR j) (hv : VG G j r.kept.view (own k))
    (hs : j = i → own k = own r.kept) : GoodR G i (give1 r j k) :=
  { h with
    gives3 := by simp [give1, h.gives3]
    given3 := by simp [give1, h.given3]
    given := fun l hl hg => by
      refine ⟨hc, ?_⟩
      simp only [give1] at hg ⊢
      rw [getD_set _ _ _ _ _ hj hl h.given3] at hg
      rw [getD_set _ _ _ _ _ hj hl h.gives3]
      by_cases e : l = j
      · subst e; rw [if_pos rfl]; exact hv
      · rw [if_neg e] at hg ⊢; exact (h.given l hl hg).2
    self := fun hg => by
      simp only [give1] at hg ⊢
      rw [getD_set _ _ _ _ _ hj h.inr h.given3] at hg
      rw [getD_set _ _ _ _ _ hj h.inr h.gives3]
      by_cases e : i = j
      · subst e; rw [if_pos rfl]; exact hs rfl
      · rw [if_neg e] at hg ⊢; exact h.self hg }

theorem Stepped.same {A : Str → Prop} {G : Gh} {i : Int} {r : Replica} (g : GoodG G) (a : EntG A G) (h : GoodR G i r) : Stepped A G i r r [] :=
  ⟨G, Ext.refl i G, g, a, h, by simp, Int.le_refl _⟩

theorem begun_ok {A : Str → Prop} {G : Gh} {i : Int} {r : Replica} (g : GoodG G) (a : EntG A G) (h : GoodR G i r) (hc : r.kept.calm = false) (hl : leader r.kept.view = i) :
    Stepped A G i r (begun r).1 (begun r).2 := by
  unfold begun
  rw [h.me]
  split
  · exact .same g a h
  rename_i hgi
  split
  · exact .same g a h
  rename_i hcnt
  have hgi' : r.given.getD i.toNat false = true := by simpa using hgi
  obtain ⟨q, hq, hqi, hgq⟩ := countP2 h.given3 h.inr hcnt
  let S : Int → Prop := fun j => InR j ∧ r.given.getD j.toNat false = true
  let K : Int → Kept := fun j => r.gives.getD j.toNat kept0
  have hS : ∀ j, S j → InR j ∧ VG G j r.kept.view (K j) := fun j hj => ⟨hj.1, (h.given j hj.1 hj.2).2⟩
  obtain ⟨_, hb2, hb3⟩ := bestOf_spec (r.gives.zip r.given) { kept0 with normal := -1 }
  obtain ⟨hm1, hm2, hm3⟩ := maxCommit_spec (r.gives.zip r.given) 0
  have hin : ∀ j, S j → (K j, true) ∈ r.gives.zip r.given := fun j hj => (mem_zip3 h.gives3 h.given3 _).2 ⟨j, hj.1, hj.2, rfl⟩
  have hbd : bestOf (r.gives.zip r.given) = (r.gives.zip r.given).foldl (fun b g => if g.2 && better g.1 b then g.1 else b) { kept0 with normal := -1 } := rfl
  have hmd : maxCommit (r.gives.zip r.given) = (r.gives.zip r.given).foldl (fun c g => if g.2 then max c g.1.commit else c) 0 := rfl
  rw [← hbd] at hb2 hb3
  rw [← hmd] at hm1 hm2 hm3
  obtain ⟨p, hp, hpb⟩ : ∃ p, S p ∧ bestOf (r.gives.zip r.given) = K p := by
    rcases hb3 with h0 | ⟨x, hx, hx2, he⟩
    · exfalso
      have := hb2 _ (hin i ⟨h.inr, hgi'⟩) rfl
      rw [h0] at this
      have hn := g.nn _ (hS i ⟨h.inr, hgi'⟩).2.st
      unfold geq at this
      simp only at this
      omega
    · obtain ⟨x1, x2⟩ := x
      simp only at hx2 he
      subst hx2
      obtain ⟨j, hj, hg, hk⟩ := (mem_zip3 h.gives3 h.given3 _).1 hx
      exact ⟨j, ⟨hj, hg⟩, by rw [he, ← hk]⟩
  have hbest : ∀ j, S j → (K j).normal < (K p).normal ∨ ((K j).normal = (K p).normal ∧ (K j).log.length ≤ (K p).log.length) := fun j hj => by
    have : geq (bestOf (r.gives.zip r.given)) (K j) := hb2 _ (hin j hj) rfl
    rw [hpb] at this
    unfold geq at this
    omega
  have hnot : ¬ G.st r.kept.view := fun hs => by have := h.kept.led _ hs hl; have := h.kept.wild hc; omega
  have hnn : 0 ≤ r.kept.view := by have := g.nn _ h.kept.st; have := h.kept.le; omega
  obtain ⟨e, g'⟩ := begins_good g hl h.kept.view hnot hnn K S hS ⟨h.inr, hgi'⟩ p q ⟨hq, hgq⟩ hqi hp hbest
  have hVp := (hS p hp).2
  -- commits of what was given are in the best log
  have hcom : ∀ j, S j → ComOk (G.begins r.kept.view (K p).log) r.kept.view (K p).log (K j).commit := fun j hj => by
    have hv := (hS j hj).2
    have hc' := hv.com.ext e
    refine hc'.move ?_ (by have := hv.lt; omega)
    have := hc'.in_view g' hv.lt (.inl rfl)
    simpa [Gh.begins] using this
  have hself : K i = own r.kept := h.self hgi'
  have hci := hcom i ⟨h.inr, hgi'⟩
  rw [hself] at hci
  have hci1 : (own r.kept).commit = r.kept.commit := rfl
  rw [hci1] at hci
  have hge : r.kept.commit ≤ maxCommit (r.gives.zip r.given) := by
    have := hm2 _ (hin i ⟨h.inr, hgi'⟩) rfl
    rw [hself] at this
    exact this
  have hmax : ComOk (G.begins r.kept.view (K p).log) r.kept.view (K p).log (maxCommit (r.gives.zip r.given)) := by
    rcases hm3 with h0 | ⟨x, hx, hx2, he⟩
    · have : maxCommit (r.gives.zip r.given) = r.kept.commit := by have := h.kept.com.1; omega
      rw [this]; exact hci
    · obtain ⟨x1, x2⟩ := x
      simp only at hx2 he
      subst hx2
      obtain ⟨j, hj, hg, hk⟩ := (mem_zip3 h.gives3 h.given3 _).1 hx
      rw [he, ← hk]
      exact hcom j ⟨hj, hg⟩
  have hmin : min (maxCommit (r.gives.zip r.given)) ((K p).log.length : Int) = maxCommit (r.gives.zip r.given) := Int.min_eq_left hmax.2.1
  have hack0 : G.ack i r.kept.view = 0 := by
    rcases Nat.eq_zero_or_pos (G.ack i r.kept.view) with h0 | h0
    · exact h0
    · exact absurd (g.ackSt _ _ h0).1 hnot
  have hk : KeptOk (G.begins r.kept.view (K p).log) i ⟨r.kept.view, r.kept.view, true, (K p).log, maxCommit (r.gives.zip r.given)⟩ :=
    { view := h.kept.view
      le := Int.le_refl _
      calm := fun _ => rfl
      wild := fun hx => by cases hx
      st := .inl rfl
      lo := by simp [Gh.begins]
      hi := by simp [Gh.begins]
      mine := fun _ => by simp [Gh.begins]
      led := fun w hs hw => by
        rcases hs with rfl | hs
        · exact Int.le_refl _
        · have := h.kept.led w hs hw; have := h.kept.le
          show w ≤ r.kept.view
          omega
      acked := fun w ha => by
        have ha' : 0 < G.ack i w := ha
        have hw := (h.kept.acked w ha').1
        have := h.kept.wild hc
        refine ⟨by show w ≤ r.kept.view; omega, fun he => ?_⟩
        exfalso
        have he' : r.kept.view = w := he
        omega
      com := hmax }
  refine ⟨_, e, g', ?_, ?_, ?_, ?_⟩
  · intro v hv x hx
    simp only [Gh.begins] at hv hx
    split at hx
    · exact a _ hVp.st x (hVp.hi.subset hx)
    · rename_i hne
      exact a v (hv.resolve_left hne) x hx
  · simp only [hpb, hmin]
    exact GoodR.fresh h.inr rfl hk
  · simp only [hpb, hmin]
    refine leadOn_good ?_ ?_ ?_ ?_
    · exact .inl rfl
    · simp [Scu.fresh, Gh.begins]
    · simp [Scu.fresh, Gh.begins]
    · exact hmax
  · simp only [hpb, hmin]
    exact hge

end Scu
namespace Scu

theorem want_ok {A : Str → Prop} {G : Gh} {i v : Int} {r : Replica} (g : GoodG G) (a : EntG A G) (h : GoodR G i r) (hv : r.kept.view < v) :
    Stepped A G i r (want r v).1 (want r v).2 := by
  have hle : G.vw i ≤ v := by rw [h.kept.view]; omega
  have e := moved_ext (G := G) (i := i) (v := v) hle
  have hk : KeptOk (G.moved i v) i { r.kept with view := v, calm := false } :=
    { view := by simp [Gh.moved]
      le := by have := h.kept.le; show r.kept.normal ≤ v; omega
      calm := fun hx => by cases hx
      wild := fun _ => by have := h.kept.le; show r.kept.normal < v; omega
      st := h.kept.st
      lo := h.kept.lo
      hi := h.kept.hi
      mine := h.kept.mine
      led := h.kept.led
      acked := h.kept.acked
      com := h.kept.com.ext e }
  refine ⟨G.moved i v, e, moved_good g hle, a, ?_, ?_, Int.le_refl _⟩
  · exact (GoodR.fresh (r := { r with kept := { r.kept with view := v, calm := false } }) h.inr h.me hk).wants _ (by simp [fresh])
  · exact wants_good

theorem hearLead_ok {A : Str → Prop} {G : Gh} {i : Int} {r : Replica} {m : Message} (g : GoodG G) (a : EntG A G) (h : GoodR G i r) (hm : GoodM G m)
    (hk : m.kind = 1) (hf : m.from_ = leader m.view) (hne : m.from_ ≠ i) (hv : r.kept.view ≤ m.view) :
    Stepped A G i r (hearLead r m).1 (hearLead r m).2 := by
  obtain ⟨hst, hlo, hhi, hcom⟩ := hm.lead hk
  have hil : i ≠ leader m.view := by rw [← hf]; exact hne.symm
  by_cases hcase : r.kept.view < m.view ∨ r.kept.calm = false
  · -- the view is new
    have hnv : r.kept.normal < m.view := by
      rcases hcase with hx | hx
      · have := h.kept.le; omega
      · have := h.kept.wild hx; omega
    have hle : G.vw i ≤ m.view := by rw [h.kept.view]; exact hv
    have e1 := moved_ext (G := G) (i := i) (v := m.view) hle
    have g1 := moved_good g hle
    have hvw1 : (G.moved i m.view).vw i = m.view := by simp [Gh.moved]
    have e2 := acks_ext (G := G.moved i m.view) (i := i) (v := m.view) (n := m.log.length) (by rw [hvw1]; exact Int.le_refl _)
    have g2 := acks_good g1 (n := m.log.length) hvw1 (show (G.moved i m.view).st m.view from hst) hhi.length_le hil
    have hold : G.ack i m.view = 0 := by
      rcases Nat.eq_zero_or_pos (G.ack i m.view) with h0 | h0
      · exact h0
      · have := (h.kept.acked _ h0).1; omega
    have hck : ComOk G m.view m.log r.kept.commit := h.kept.com.move ((h.kept.com.in_view g hnv hst).trans hlo) (by omega)
    have hmin : min r.kept.commit (m.log.length : Int) = r.kept.commit := Int.min_eq_left hck.2.1
    have hmin2 : min m.commit (m.log.length : Int) = m.commit := Int.min_eq_left hcom.2.1
    have hmx : max (max m.commit r.kept.commit) m.commit = max m.commit r.kept.commit := by omega
    have hcc : ComOk ((G.moved i m.view).acks i m.view m.log.length) m.view m.log (max m.commit r.kept.commit) := ((hcom.max hck).ext e1).ext e2
    have hkept : KeptOk ((G.moved i m.view).acks i m.view m.log.length) i ⟨m.view, m.view, true, m.log, max m.commit r.kept.commit⟩ :=
      { view := hvw1
        le := Int.le_refl _
        calm := fun _ => rfl
        wild := fun hx => by cases hx
        st := hst
        lo := hlo
        hi := hhi
        mine := fun hx => absurd hx.symm hil
        led := fun w hs hl => by have := h.kept.led w hs hl; show w ≤ m.view; omega
        acked := fun w ha => by
          simp only [Gh.acks, Gh.moved] at ha ⊢
          by_cases ew : w = m.view
          · subst ew
            refine ⟨Int.le_refl _, fun _ => ?_⟩
            rw [if_pos (by simp), hold]
            omega
          · rw [if_neg (fun hx => ew hx.2)] at ha
            have := (h.kept.acked w ha).1
            refine ⟨by show w ≤ m.view; omega, fun hx => absurd hx.symm ew⟩
        com := hcc }
    have heq : hearLead r m = ({ fresh { r with kept := ⟨m.view, m.view, true, m.log, max m.commit r.kept.commit⟩ } with me := r.me },
        [{ msg0 with kind := 2, from_ := r.me, tq := m.from_, view := m.view, n := m.log.length }]) := by
      unfold hearLead
      simp only [if_pos hcase, fresh, hmin, hmin2, hmx]
    rw [heq]
    refine ⟨_, e1.trans e2, g2, a, GoodR.fresh (r := { r with kept := ⟨m.view, m.view, true, m.log, max m.commit r.kept.commit⟩ }) h.inr h.me hkept, ?_, ?_⟩
    · intro x hx
      simp only [List.mem_singleton] at hx
      subst hx
      refine ⟨fun hx => by simp at hx, fun _ => ?_, fun hx => by simp at hx⟩
      simp only [Gh.acks, Gh.moved, h.me]
      rw [if_pos (by simp)]
      omega
    · show r.kept.commit ≤ max m.commit r.kept.commit
      omega
  · -- the same view
    have hcalm : r.kept.calm = true := by cases hx : r.kept.calm <;> simp_all
    have hview : m.view = r.kept.view := by have : ¬ r.kept.view < m.view := fun hx => hcase (.inl hx); omega
    have hnorm := h.kept.calm hcalm
    have hvwi : G.vw i = m.view := by rw [h.kept.view, hview]
    let l := if r.kept.log.length < m.log.length then m.log else r.kept.log
    have hn : r.kept.normal = m.view := by rw [hnorm, hview]
    have hRlo : G.sl m.view <+: r.kept.log := hn ▸ h.kept.lo
    have hRhi : r.kept.log <+: G.vl m.view := hn ▸ h.kept.hi
    have hlm : m.log <+: l := by
      show m.log <+: (if r.kept.log.length < m.log.length then m.log else r.kept.log)
      split
      · exact List.prefix_refl _
      · exact prefix_of_two hhi hRhi (by omega)
    have hlr : r.kept.log <+: l := by
      show r.kept.log <+: (if r.kept.log.length < m.log.length then m.log else r.kept.log)
      split
      · exact prefix_of_two hRhi hhi (by omega)
      · exact List.prefix_refl _
    have hllo : G.sl m.view <+: l := hlo.trans hlm
    have hlhi : l <+: G.vl m.view := by
      show (if r.kept.log.length < m.log.length then m.log else r.kept.log) <+: _
      split <;> assumption
    have hcm : ComOk G m.view l m.commit := hcom.move ((List.take_prefix _ _).trans hlm) (Int.le_refl _)
    have hcr : ComOk G m.view l r.kept.commit := h.kept.com.move ((List.take_prefix _ _).trans hlr) (by omega)
    have hmin : min m.commit (l.length : Int) = m.commit := Int.min_eq_left hcm.2.1
    have e2 := acks_ext (G := G) (i := i) (v := m.view) (n := l.length) (by rw [hvwi]; exact Int.le_refl _)
    have g2 := acks_good g (n := l.length) hvwi hst hlhi.length_le hil
    have hkept : KeptOk (G.acks i m.view l.length) i ⟨m.view, m.view, true, l, max r.kept.commit m.commit⟩ :=
      { view := hvwi
        le := Int.le_refl _
        calm := fun _ => rfl
        wild := fun hx => by cases hx
        st := hst
        lo := hllo
        hi := hlhi
        mine := fun hx => absurd hx.symm hil
        led := fun w hs hl => by have := h.kept.led w hs hl; show w ≤ m.view; omega
        acked := fun w ha => by
          simp only [Gh.acks] at ha ⊢
          by_cases ew : w = m.view
          · subst ew
            refine ⟨Int.le_refl _, fun _ => ?_⟩
            rw [if_pos (by simp)]
            have h1 := hlr.length_le
            rcases Nat.eq_zero_or_pos (G.ack i m.view) with h0 | h0
            · omega
            · have := (h.kept.acked _ h0).2 hn; omega
          · rw [if_neg (fun hx => ew hx.2)] at ha
            have := (h.kept.acked w ha).1
            exact ⟨by show w ≤ m.view; omega, fun hx => absurd hx.symm ew⟩
        com := (hcr.max hcm).ext e2 }
    have heq : hearLead r m = ({ r with kept := ⟨m.view, m.view, true, l, max r.kept.commit m.commit⟩ },
        [{ msg0 with kind := 2, from_ := r.me, tq := m.from_, view := m.view, n := l.length }]) := by
      unfold hearLead
      simp only [if_neg hcase]
      by_cases hlen : r.kept.log.length < m.log.length
      · have el : l = m.log := if_pos hlen
        rw [el] at hmin
        simp only [if_pos hlen, el, hmin, ← hview, hn, hcalm]
      · have el : l = r.kept.log := if_neg hlen
        rw [el] at hmin
        simp only [if_neg hlen, el, hmin, ← hview, hn, hcalm]
    rw [heq]
    refine ⟨_, e2, g2, a, ?_, ?_, ?_⟩
    · refine { h with kept := hkept, given := ?_, self := ?_ }
      · intro j hj hg
        have := (h.given j hj hg).1
        rw [hcalm] at this
        cases this
      · intro hg
        have := (h.given i h.inr hg).1
        rw [hcalm] at this
        cases this
    · intro x hx
      simp only [List.mem_singleton] at hx
      subst hx
      refine ⟨fun hx => by simp at hx, fun _ => ?_, fun hx => by simp at hx⟩
      simp only [Gh.acks, h.me]
      rw [if_pos (by simp)]
      omega
    · show r.kept.commit ≤ max r.kept.commit m.commit
      omega

theorem GoodR.calm_given {G : Gh} {i : Int} {r : Replica} (h : GoodR G i r) (hc : r.kept.calm = true) (j : Int) (hj : InR j) : ¬ r.given.getD j.toNat false = true := by
  intro hg
  have := (h.given j hj hg).1
  rw [hc] at this
  cases this

theorem GoodR.calm_kept {G G' : Gh} {i : Int} {r : Replica} {k : Kept} (h : GoodR G i r) (hc : r.kept.calm = true) (hk : KeptOk G' i k) : GoodR G' i { r with kept := k } :=
  { h with kept := hk, given := fun j hj hg => absurd hg (h.calm_given hc j hj), self := fun hg => absurd hg (h.calm_given hc i h.inr) }

theorem leads_iff {r : Replica} : leads r = true ↔ r.kept.calm = true ∧ leader r.kept.view = r.me := by
  unfold leads; simp

theorem hearHas_ok {A : Str → Prop} {G : Gh} {i : Int} {r : Replica} {m : Message} (g : GoodG G) (a : EntG A G) (h : GoodR G i r) (hm : GoodM G m)
    (hk : m.kind = 2) (hfr : InR m.from_) (hn0 : 0 ≤ m.n) (hto : i = leader m.view) (hne : m.from_ ≠ i) :
    Stepped A G i r (hearHas r m).1 (hearHas r m).2 := by
  unfold hearHas
  split
  · exact .same g a h
  rename_i hcond
  have hview : m.view = r.kept.view := by by_cases hx : m.view = r.kept.view; exact hx; exact absurd (.inl hx) hcond
  have hleads : leads r = true := by cases hx : leads r; exact absurd (.inr hx) hcond; rfl
  obtain ⟨hcalm, hld⟩ := leads_iff.1 hleads
  have hnorm := h.kept.calm hcalm
  have hh : GoodR G i { r with have_ := r.have_.set m.from_.toNat (max (r.have_.getD m.from_.toNat 0) (min m.n r.kept.log.length)) } := h.haves _ (by simp [h.have3])
  have hmn := hm.has hk
  simp only []
  split
  · rename_i hlt
    have hc : ComOk G r.kept.normal r.kept.log (min m.n r.kept.log.length) := by
      have h0 : 0 ≤ min m.n (r.kept.log.length : Int) := by omega
      have h1 : min m.n (r.kept.log.length : Int) ≤ (r.kept.log.length : Int) := by omega
      refine ⟨h0, h1, .inr ⟨r.kept.normal, m.from_, Int.le_refl _, h.kept.st, hfr, ?_, ?_, ?_⟩⟩
      · rw [hnorm, ← hview, ← hto]; exact hne
      · rw [hnorm, ← hview, List.length_take]
        omega
      · exact (List.take_prefix _ _).trans h.kept.hi
    have hk' : KeptOk G i { r.kept with commit := min m.n r.kept.log.length } := { h.kept with com := hc }
    have hr' := hh.calm_kept hcalm hk'
    refine ⟨G, Ext.refl i G, g, a, hr', ?_, ?_⟩
    · refine leadOn_good ?_ ?_ ?_ ?_
      · show G.st r.kept.view; rw [← hnorm]; exact h.kept.st
      · show G.sl r.kept.view <+: r.kept.log; rw [← hnorm]; exact h.kept.lo
      · show r.kept.log <+: G.vl r.kept.view; rw [← hnorm]; exact h.kept.hi
      · show ComOk G r.kept.view r.kept.log _; rw [← hnorm]; exact hc
    · show r.kept.commit ≤ min m.n r.kept.log.length
      omega
  · exact ⟨G, Ext.refl i G, g, a, hh, by simp, Int.le_refl _⟩

theorem wantIf_ok {A : Str → Prop} {G : Gh} {i v : Int} {r : Replica} (g : GoodG G) (a : EntG A G) (h : GoodR G i r) :
    Stepped A G i r (wantIf r v).1 (wantIf r v).2 := by
  unfold wantIf
  split
  · exact want_ok g a h (by assumption)
  · exact .same g a h
theorem wantIf_view {r : Replica} {v : Int} (h : r.kept.view ≤ v) : (wantIf r v).1.kept.view = v ∨ (wantIf r v).1.kept.view = v := by
  unfold wantIf
  split
  · exact .inl rfl
  · exact .inl (by show r.kept.view = v; omega)

theorem give_msg_good {G : Gh} {i tq : Int} {r : Replica} (h : GoodR G i r) (hc : r.kept.calm = false) :
    GoodM G { msg0 with kind := 4, from_ := r.me, tq := tq, view := r.kept.view, normal := r.kept.normal, commit := r.kept.commit, log := r.kept.log } := by
  refine ⟨fun hx => by simp at hx, fun hx => by simp at hx, fun _ => ?_⟩
  show VG G r.me r.kept.view _
  rw [h.me]
  have := h.kept.gift hc
  exact { seen := this.seen, lt := this.lt, st := this.st, lo := this.lo, hi := this.hi, led := this.led, acked := this.acked, com := this.com }

theorem Stepped.of_kept {A : Str → Prop} {G : Gh} {i : Int} {r r1 r2 : Replica} {o : List Message} (h : Stepped A G i r1 r2 o) (hc : r1.kept = r.kept) : Stepped A G i r r2 o := by
  unfold Stepped at *
  rw [← hc]
  exact h

theorem hearWant_ok {A : Str → Prop} {G : Gh} {i : Int} {r : Replica} {m : Message} (g : GoodG G) (a : EntG A G) (h : GoodR G i r) :
    Stepped A G i r (hearWant r m).1 (hearWant r m).2 := by
  have hw := wantIf_ok (v := m.view) g a h
  unfold hearWant
  generalize wantIf r m.view = x at *
  obtain ⟨r1, o1⟩ := x
  simp only at hw ⊢
  split
  · exact hw
  rename_i hcond
  have hc : r1.kept.calm = false := by cases hx : r1.kept.calm; rfl; exact absurd (.inl hx) hcond
  split
  · rename_i hto
    refine hw.trans fun G1 e1 g1 a1 h1 => ?_
    have hl : leader r1.kept.view = i := by rw [← h1.me]; exact hto
    have h2 : GoodR G1 i { r1 with wants := r1.wants.set m.from_.toNat true } := h1.wants _ (by simp [h1.wants3])
    have h3 := give1_good (j := leader r1.kept.view) (k := r1.kept) h2 hc (leader_in _) (by rw [hl]; exact h1.kept.gift hc) (fun _ => rfl)
    exact (begun_ok g1 a1 h3 hc hl).of_kept rfl
  · refine hw.trans fun G1 e1 g1 a1 h1 => ?_
    have h2 : GoodR G1 i { r1 with wants := r1.wants.set m.from_.toNat true } := h1.wants _ (by simp [h1.wants3])
    refine ⟨G1, Ext.refl i G1, g1, a1, h2, ?_, Int.le_refl _⟩
    intro x hx
    simp only [List.mem_singleton] at hx
    subst hx
    have := give_msg_good (tq := leader r1.kept.view) h2 hc
    exact this

theorem hearGive_ok {A : Str → Prop} {G : Gh} {i : Int} {r : Replica} {m : Message} (g : GoodG G) (a : EntG A G) (h : GoodR G i r) (hm : GoodM G m)
    (hk : m.kind = 4) (hfr : InR m.from_) (hne : m.from_ ≠ i) (hto : i = leader m.view) (hv : r.kept.view ≤ m.view) :
    Stepped A G i r (hearGive r m).1 (hearGive r m).2 := by
  have hw := wantIf_ok (v := m.view) g a h
  have hview := (wantIf_view hv).elim id id
  unfold hearGive
  generalize wantIf r m.view = x at *
  obtain ⟨r1, o1⟩ := x
  simp only at hw hview ⊢
  split
  · exact hw
  rename_i hcond
  have hc : r1.kept.calm = false := by cases hx : r1.kept.calm; rfl; exact absurd hx hcond
  refine hw.trans fun G1 e1 g1 a1 h1 => ?_
  have hl : leader r1.kept.view = i := by rw [hview, ← hto]
  have hvg := (hm.ext e1).give hk
  have h2 : ∃ r2 : Replica, r2 = (if r1.given.getD r1.me.toNat false = false then give1 r1 r1.me r1.kept else r1) ∧ GoodR G1 i r2 ∧ r2.kept = r1.kept := by
    refine ⟨_, rfl, ?_, ?_⟩
    · split
      · rw [h1.me]
        exact give1_good h1 hc h1.inr (h1.kept.gift hc) (fun _ => rfl)
      · exact h1
    · split <;> rfl
  obtain ⟨r2, e2, h2, hk2⟩ := h2
  rw [← e2]
  have h3 := give1_good (j := m.from_) (k := ⟨m.view, m.normal, false, m.log, m.commit⟩) h2 (by rw [hk2]; exact hc) hfr (by rw [hk2, hview]; exact hvg) (fun hx => absurd hx hne)
  refine (begun_ok g1 a1 h3 ?_ ?_).of_kept ?_
  · show r2.kept.calm = false; rw [hk2]; exact hc
  · show leader r2.kept.view = i; rw [hk2]; exact hl
  · show r2.kept = r1.kept; exact hk2

theorem msgFault_ok {m : Message} (h : msgFault m = 0) : 1 ≤ m.kind ∧ m.kind ≤ 4 ∧ InR m.from_ ∧ InR m.tq ∧ m.from_ ≠ m.tq ∧ 0 ≤ m.view ∧ m.view ≤ 1048576 ∧ 0 ≤ m.n ∧
    (m.kind = 1 → m.from_ = leader m.view) ∧ (m.kind = 2 → m.tq = leader m.view) ∧ (m.kind = 4 → m.tq = leader m.view) ∧
    keptFault ⟨m.view, m.normal, false, m.log, m.commit⟩ = 0 := by
  unfold msgFault at h
  split at h
  · omega
  split at h
  · omega
  split at h
  · omega
  split at h
  · omega
  unfold InR
  refine ⟨by omega, by omega, by omega, by omega, by omega, by omega, by omega, by omega, by omega, by omega, by omega, h⟩

theorem hear_ok {A : Str → Prop} {G : Gh} {i : Int} {r : Replica} {m : Message} (g : GoodG G) (a : EntG A G) (h : GoodR G i r) (hm : GoodM G m)
    (hok : (hear r m).2.2 = 0) : Stepped A G i r (hear r m).1 (hear r m).2.1 := by
  unfold hear at hok ⊢
  split
  · rename_i hx; rw [if_pos hx] at hok; exact absurd hok hx
  rename_i hx; rw [if_neg hx] at hok
  split
  · rename_i hx; rw [if_pos hx] at hok; exact absurd hok hx
  rename_i hx2; rw [if_neg hx2] at hok
  split
  · rename_i hx; rw [if_pos hx] at hok; simp at hok
  rename_i hx3; rw [if_neg hx3] at hok
  split
  · rename_i hx; rw [if_pos hx] at hok; simp at hok
  rename_i hx4
  have hx2' : msgFault m = 0 := by omega
  obtain ⟨f1, f2, f3, f4, f5, f6, f7, f8, f9, f10, f11, _⟩ := msgFault_ok hx2'
  have hto : m.tq = i := by rw [← h.me]; omega
  simp only [hearIt]
  split
  · rename_i hk
    exact hearLead_ok g a h hm hk (f9 hk) (by rw [← hto]; exact f5) (by omega)
  split
  · rename_i hk
    exact hearHas_ok g a h hm hk f3 f8 (by rw [← hto]; exact f10 hk) (by rw [← hto]; exact f5)
  split
  · exact hearWant_ok g a h
  · have hk : m.kind = 4 := by omega
    exact hearGive_ok g a h hm hk f3 (by rw [← hto]; exact f5) (by rw [← hto]; exact f11 hk) (by omega)

theorem take_ok {A : Str → Prop} {G : Gh} {i : Int} {r : Replica} {e : Str} (g : GoodG G) (a : EntG A G) (h : GoodR G i r) (he : A e)
    (hok : (take r e).2.2 = 0) : Stepped A G i r (take r e).1 (take r e).2.1 := by
  unfold take at hok ⊢
  split
  · rename_i hx; rw [if_pos hx] at hok; exact absurd hok hx
  rename_i hx; rw [if_neg hx] at hok
  split
  · rename_i hx; rw [if_pos hx] at hok; simp at hok
  rename_i hx2; rw [if_neg hx2] at hok
  split
  · rename_i hx; rw [if_pos hx] at hok; simp at hok
  rename_i hx3; rw [if_neg hx3] at hok
  split
  · rename_i hx; rw [if_pos hx] at hok; exact absurd hok hx
  obtain ⟨hcalm, hld⟩ := leads_iff.1 (by cases hx : leads r; exact absurd hx hx2; rfl : leads r = true)
  rw [h.me] at hld
  have hnorm := h.kept.calm hcalm
  have hvw := h.kept.view
  have hlog : r.kept.log = G.vl r.kept.view := by rw [← hnorm]; exact h.kept.mine (by rw [hnorm]; exact hld)
  have hp : G.vl r.kept.view <+: r.kept.log ++ [e] := by rw [← hlog]; exact List.prefix_append _ _
  have ext := longer_ext (G := G) (i := i) (v := r.kept.view) (l := r.kept.log ++ [e]) (by rw [hvw]; exact Int.le_refl _) hld hp
  have g' := longer_good g hvw hld hp
  have hst : G.st r.kept.view := by rw [← hnorm]; exact h.kept.st
  have hlo : G.sl r.kept.view <+: r.kept.log ++ [e] := (g.pre _ hst).trans hp
  have hcom : ComOk G r.kept.view (r.kept.log ++ [e]) r.kept.commit :=
    h.kept.com.move ((List.take_prefix _ _).trans (List.prefix_append _ _)) (by omega)
  have hk : KeptOk (G.longer r.kept.view (r.kept.log ++ [e])) i { r.kept with log := r.kept.log ++ [e] } :=
    { view := hvw
      le := h.kept.le
      calm := h.kept.calm
      wild := h.kept.wild
      st := h.kept.st
      lo := by show G.sl r.kept.normal <+: _; rw [hnorm]; exact hlo
      hi := by simp [Gh.longer, hnorm]
      mine := fun _ => by simp [Gh.longer, hnorm]
      led := h.kept.led
      acked := fun w ha => by
        obtain ⟨h1, h2⟩ := h.kept.acked w ha
        refine ⟨h1, fun hx => ?_⟩
        have := h2 hx
        show G.ack i w ≤ (r.kept.log ++ [e]).length
        rw [List.length_append]
        omega
      com := by rw [show ({ r.kept with log := r.kept.log ++ [e] } : Kept).normal = r.kept.view from hnorm]; exact hcom.ext ext }
  refine ⟨_, ext, g', ?_, h.calm_kept hcalm hk, ?_, Int.le_refl _⟩
  · intro v hv x hx
    simp only [Gh.longer] at hv hx
    split at hx
    · rcases List.mem_append.1 hx with hx | hx
      · rw [hlog] at hx
        exact a _ hst x hx
      · simp only [List.mem_singleton] at hx
        subst hx
        exact he
    · exact a v hv x hx
  · refine leadOn_good ?_ ?_ ?_ ?_
    · exact hst
    · exact hlo
    · simp [Gh.longer]
    · exact hcom.ext ext

theorem tick_ok {A : Str → Prop} {G : Gh} {i : Int} {r : Replica} (g : GoodG G) (a : EntG A G) (h : GoodR G i r)
    (hok : (tick r).2.2 = 0) : Stepped A G i r (tick r).1 (tick r).2.1 := by
  unfold tick at hok ⊢
  split
  · rename_i hx; rw [if_pos hx] at hok; exact absurd hok hx
  split
  · rename_i hl
    obtain ⟨hcalm, hld⟩ := leads_iff.1 hl
    have hnorm := h.kept.calm hcalm
    refine ⟨G, Ext.refl i G, g, a, h, ?_, Int.le_refl _⟩
    refine leadOn_good ?_ ?_ ?_ ?_
    · rw [← hnorm]; exact h.kept.st
    · rw [← hnorm]; exact h.kept.lo
    · rw [← hnorm]; exact h.kept.hi
    · rw [← hnorm]; exact h.kept.com
  split
  · rename_i hl hcalm
    have hnorm := h.kept.calm hcalm
    have hil : i ≠ leader r.kept.view := fun hx => hl (leads_iff.2 ⟨hcalm, by rw [h.me]; exact hx.symm⟩)
    have hst : G.st r.kept.view := by rw [← hnorm]; exact h.kept.st
    have e2 := acks_ext (G := G) (i := i) (v := r.kept.view) (n := r.kept.log.length) (by rw [h.kept.view]; exact Int.le_refl _)
    have g2 := acks_good g (n := r.kept.log.length) h.kept.view hst (by rw [← hnorm]; exact h.kept.hi.length_le) hil
    have hk : KeptOk (G.acks i r.kept.view r.kept.log.length) i r.kept :=
      { h.kept with
        acked := fun w ha => by
          simp only [Gh.acks] at ha ⊢
          by_cases ew : w = r.kept.view
          · subst ew
            refine ⟨by omega, fun _ => ?_⟩
            rw [if_pos (by simp)]
            rcases Nat.eq_zero_or_pos (G.ack i r.kept.view) with h0 | h0
            · omega
            · have := (h.kept.acked _ h0).2 hnorm; omega
          · rw [if_neg (fun hx => ew hx.2)] at ha ⊢
            exact h.kept.acked w ha
        com := h.kept.com.ext e2 }
    refine ⟨_, e2, g2, a, h.calm_kept hcalm hk, ?_, Int.le_refl _⟩
    intro x hx
    simp only [List.mem_singleton] at hx
    subst hx
    refine ⟨fun hx => by simp at hx, fun _ => ?_, fun hx => by simp at hx⟩
    simp only [Gh.acks, h.me]
    rw [if_pos (by simp)]
    omega
  · refine ⟨G, Ext.refl i G, g, a, h.wants _ (by simp [h.wants3]), wants_good, Int.le_refl _⟩

theorem alarm_ok {A : Str → Prop} {G : Gh} {i : Int} {r : Replica} (g : GoodG G) (a : EntG A G) (h : GoodR G i r)
    (hok : (alarm r).2.2 = 0) : Stepped A G i r (alarm r).1 (alarm r).2.1 := by
  unfold alarm at hok ⊢
  split
  · rename_i hx; rw [if_pos hx] at hok; exact absurd hok hx
  rename_i hx; rw [if_neg hx] at hok
  split
  · rename_i hx; rw [if_pos hx] at hok; simp at hok
  · exact want_ok g a h (by omega)

end Scu

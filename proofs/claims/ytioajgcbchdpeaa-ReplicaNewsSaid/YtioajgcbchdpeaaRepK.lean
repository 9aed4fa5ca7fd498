/- Walks: may a replica be? The program's. -/
import Derived.Test.YtioajgcbchdpeaaRep
namespace Go.Proofs.Ytioajgcbchdpeaa
open Go.RowKit
set_option maxHeartbeats 400000
set_option maxRecDepth 100000

def haveBad (n : Nat) (h : Int) : Bool := decide (h < 0) || decide ((n : Int) < h)
def giveBad (g : Scu.Kept) : Bool := decide (Scu.keptFault g ≠ 0)
theorem rep_bad2 {r : Scu.Replica} (h : r.me < 0 ∨ 3 ≤ r.me) : Scu.repFault r = 2 := if_pos h
theorem rep_bad8 {r : Scu.Replica} (h : ¬ (r.me < 0 ∨ 3 ≤ r.me)) (h' : r.have_.length ≠ 3 ∨ r.wants.length ≠ 3 ∨ r.gives.length ≠ 3 ∨ r.given.length ≠ 3) : Scu.repFault r = 8 := by
  unfold Scu.repFault
  rw [if_neg h, if_pos h']
theorem rep_rest {r : Scu.Replica} (h : ¬ (r.me < 0 ∨ 3 ≤ r.me)) (h1 : r.have_.length = 3) (h2 : r.wants.length = 3) (h3 : r.gives.length = 3) (h4 : r.given.length = 3) :
    Scu.repFault r = if (r.have_.any (haveBad r.kept.log.length) || r.gives.any giveBad) = true then 8 else Scu.keptFault r.kept := by
  unfold Scu.repFault
  rw [if_neg h, if_neg (by omega)]
  rfl
theorem kepts_get {w : World} {B : Nat} {A : Option Addr} {css : List (List Value)} {gs : List Scu.Kept} {k : Nat} (hl : css.length = gs.length) (hm : ∀ cs ∈ css, cs.length = 5) (h : Rd w B 28 A css.flatten)
    (h6 : ∀ (j : Nat) (cs : List Value) (x : Scu.Kept), css[j]? = some cs → gs[j]? = some x → KeptEl w B cs x) (hk : k < gs.length) :
    ∃ g o lv, A = some ⟨g, o, none⟩ ∧ g < w.heap.size ∧ w.cell? ⟨g, o + k * 5, none⟩ = some (.int .i64 gs[k].view) ∧ w.cell? ⟨g, o + k * 5 + 1, none⟩ = some (.int .i64 gs[k].normal) ∧ w.cell? ⟨g, o + k * 5 + 2, none⟩ = some (.bool gs[k].calm) ∧
      w.cell? ⟨g, o + k * 5 + 3, none⟩ = some lv ∧ w.cell? ⟨g, o + k * 5 + 4, none⟩ = some (.int .i64 gs[k].commit) ∧ IsStrs w B lv gs[k].log := by
  obtain ⟨g, o, cs, h1, h2, _, h4, lv, rfl, h5⟩ := row_get hl hm (by omega) h h6 hk
  exact ⟨g, o, lv, h1, h2, h4 0 _ rfl, by rw [Nat.add_assoc]; exact h4 1 _ rfl, by rw [Nat.add_assoc]; exact h4 2 _ rfl, by rw [Nat.add_assoc]; exact h4 3 _ rfl, by rw [Nat.add_assoc]; exact h4 4 _ rfl, h5⟩

theorem repCheck_c (lv hv0 wv gv nv : Value) (r : Scu.Replica) (w : World) (B : Nat) (hv : IsRep w B lv hv0 wv gv nv r) :
    Calls Try.prog 111 #[.agg #[.int .i64 r.me, .int .i64 r.kept.view, .int .i64 r.kept.normal, .bool r.kept.calm, lv, .int .i64 r.kept.commit, hv0, wv, gv, nv]] w fun e w' =>
      e = .returned (.int .i64 (Scu.repFault r)) ∧ Below w.heap.size w w' := by
  have HV := Lib.hid hv
  obtain ⟨⟨A0, c0, rfl, _, hr0⟩, hl0, he0⟩ := hv.log
  obtain ⟨⟨A1, c1, rfl, _, hr1⟩, hl1⟩ := hv.have_
  obtain ⟨⟨A2, c2, rfl, _, hr2⟩, hl2⟩ := hv.wants
  obtain ⟨⟨A3, c3, css, rfl, _, hcl, hcm, hr3, hce⟩, hl3⟩ := hv.gives
  obtain ⟨⟨A4, c4, rfl, _, hr4⟩, hl4⟩ := hv.given
  unfold R47 at hl0 hl1 hl2 hl3 hl4
  have HCE := Lib.hid (And.intro hcl (And.intro hcm hce))
  clear hv hcl hcm hce
  cases t1 : decide (r.me < 0) with
  | true =>
    have HF := Lib.hid (show Scu.repFault r = 2 from rep_bad2 (.inl (of_decide_eq_true t1)))
    clear hr0 hr1 hr2 hr3 hr4 HCE he0
    go_enter Try.func111, Try.ntmps111
    go_wp2
    go_ret
    exact ⟨ret_val (int_eq HF.out.symm), (Below.refl _ _).alloc (Nat.le_refl _) _⟩
  | false =>
  cases t2 : decide ((3 : Int) ≤ r.me) with
  | true =>
    have HF := Lib.hid (show Scu.repFault r = 2 from rep_bad2 (.inr (of_decide_eq_true t2)))
    clear hr0 hr1 hr2 hr3 hr4 HCE he0
    go_enter Try.func111, Try.ntmps111
    go_wp2
    go_ret
    exact ⟨ret_val (int_eq HF.out.symm), (Below.refl _ _).alloc (Nat.le_refl _) _⟩
  | false =>
  have HME := Lib.hid (show ¬ (r.me < 0 ∨ 3 ≤ r.me) from fun h => h.elim (of_decide_eq_false t1) (of_decide_eq_false t2))
  cases t3 : ((r.have_.length : Int) != 3) with
  | true =>
    have HF := Lib.hid (show Scu.repFault r = 8 from rep_bad8 HME.out (.inl (by have := bne_iff_ne.1 t3; omega)))
    clear hr0 hr1 hr2 hr3 hr4 HCE he0
    go_enter Try.func111, Try.ntmps111
    go_wp2
    go_ret
    exact ⟨ret_val (int_eq HF.out.symm), (Below.refl _ _).alloc (Nat.le_refl _) _⟩
  | false =>
  cases t4 : ((r.wants.length : Int) != 3) with
  | true =>
    have HF := Lib.hid (show Scu.repFault r = 8 from rep_bad8 HME.out (.inr (.inl (by have := bne_iff_ne.1 t4; omega))))
    clear hr0 hr1 hr2 hr3 hr4 HCE he0
    go_enter Try.func111, Try.ntmps111
    go_wp2
    go_ret
    exact ⟨ret_val (int_eq HF.out.symm), (Below.refl _ _).alloc (Nat.le_refl _) _⟩
  | false =>
  cases t5 : ((r.gives.length : Int) != 3) with
  | true =>
    have HF := Lib.hid (show Scu.repFault r = 8 from rep_bad8 HME.out (.inr (.inr (.inl (by have := bne_iff_ne.1 t5; omega)))))
    clear hr0 hr1 hr2 hr3 hr4 HCE he0
    go_enter Try.func111, Try.ntmps111
    go_wp2
    go_ret
    exact ⟨ret_val (int_eq HF.out.symm), (Below.refl _ _).alloc (Nat.le_refl _) _⟩
  | false =>
  cases t6 : ((r.given.length : Int) != 3) with
  | true =>
    have HF := Lib.hid (show Scu.repFault r = 8 from rep_bad8 HME.out (.inr (.inr (.inr (by have := bne_iff_ne.1 t6; omega)))))
    clear hr0 hr1 hr2 hr3 hr4 HCE he0
    go_enter Try.func111, Try.ntmps111
    go_wp2
    go_ret
    exact ⟨ret_val (int_eq HF.out.symm), (Below.refl _ _).alloc (Nat.le_refl _) _⟩
  | false =>
  have l1 : r.have_.length = 3 := by have h : (r.have_.length : Int) = 3 := by simpa using t3
                                     omega
  have l2 : r.wants.length = 3 := by have h : (r.wants.length : Int) = 3 := by simpa using t4
                                     omega
  have l3 : r.gives.length = 3 := by have h : (r.gives.length : Int) = 3 := by simpa using t5
                                     omega
  have l4 : r.given.length = 3 := by have h : (r.given.length : Int) = 3 := by simpa using t6
                                     omega
  have HF := Lib.hid (rep_rest HME.out l1 l2 l3 l4)
  have L1 := Lib.hid l1
  have L3 := Lib.hid l3
  have HE0 := Lib.hid he0
  clear l1 l2 l3 l4 he0
  go_enter Try.func111, Try.ntmps111
  go_wp2
  go_loopw [38] (fun i wr => ∃ j : Nat, j ≤ r.gives.length ∧ i = .int .i64 j ∧ Hid ((r.have_.take j).any (haveBad r.kept.log.length) = false ∧ (r.gives.take j).any giveBad = false) ∧ Below (w.heap.size + 1) (w.alloc (Obj.cells #[.int .i64 r.me, .int .i64 r.kept.view, .int .i64 r.kept.normal, .bool r.kept.calm, .slice A0 r.kept.log.length c0, .int .i64 r.kept.commit, .slice A1 r.have_.length c1, .slice A2 r.wants.length c2, .slice A3 r.gives.length c3, .slice A4 r.given.length c4] 32)) wr) (fun i _ => r.gives.length - (intOf i).toNat)
  case atStart => exact ⟨0, Nat.zero_le _, rfl, by simp [Hid], Below.refl _ _⟩
  case round =>
    obtain ⟨j, hj, rfl, ht, hbw⟩ := hrel
    have hbs := hbw.size
    simp only [World.size_alloc] at hbs
    have hbs' : w.heap.size < wr.heap.size := by omega
    obtain ⟨hcc, hzz⟩ := bcell hbw
    by_cases hlt : j < r.gives.length
    · have hlt' : (j : Int) < (r.gives.length : Int) := by omega
      have hlh : j < r.have_.length := by have := L1.out; have := L3.out; omega
      have hlh' : (j : Int) < (r.have_.length : Int) := by omega
      have HVW := Lib.hid ((HV.out.alloc (Obj.cells #[.int .i64 r.me, .int .i64 r.kept.view, .int .i64 r.kept.normal, .bool r.kept.calm, .slice A0 r.kept.log.length c0, .int .i64 r.kept.commit, .slice A1 r.have_.length c1, .slice A2 r.wants.length c2, .slice A3 r.gives.length c3, .slice A4 r.given.length c4] 32)).below (hbw.mono (by simp)))
      obtain ⟨g, o, lvj, e3, hg, k0, k1, k2, k3, k4, hls⟩ := kepts_get HCE.out.1 HCE.out.2.1 ((hr3.alloc (Obj.cells #[.int .i64 r.me, .int .i64 r.kept.view, .int .i64 r.kept.normal, .bool r.kept.calm, .slice A0 r.kept.log.length c0, .int .i64 r.kept.commit, .slice A1 r.have_.length c1, .slice A2 r.wants.length c2, .slice A3 r.gives.length c3, .slice A4 r.given.length c4] 32)).below (hbw.mono (by simp))) (fun j cs x a b => ((HCE.out.2.2 j cs x a b).same (Ts := [9]) (by simp) (Same.alloc w (Obj.cells #[.int .i64 r.me, .int .i64 r.kept.view, .int .i64 r.kept.normal, .bool r.kept.calm, .slice A0 r.kept.log.length c0, .int .i64 r.kept.commit, .slice A1 r.have_.length c1, .slice A2 r.wants.length c2, .slice A3 r.gives.length c3, .slice A4 r.given.length c4] 32))).same (Ts := [9]) (by simp) (Same.below (hbw.mono (by simp)))) hlt
      obtain ⟨g1, o1, e1, hg1, m0⟩ := ones_get ((hr1.alloc (Obj.cells #[.int .i64 r.me, .int .i64 r.kept.view, .int .i64 r.kept.normal, .bool r.kept.calm, .slice A0 r.kept.log.length c0, .int .i64 r.kept.commit, .slice A1 r.have_.length c1, .slice A2 r.wants.length c2, .slice A3 r.gives.length c3, .slice A4 r.given.length c4] 32)).below (hbw.mono (by simp))) hlh
      subst e3 e1
      have HLS := Lib.hid hls
      obtain ⟨Aj, nj, cj, rfl⟩ := hls.form
      have HBW := Lib.hid hbw
      clear hls hbw
      cases u1 : decide (r.have_[j] < 0) with
      | true =>
        have HX := Lib.hid (show Scu.repFault r = 8 by rw [HF.out, any_found (haveBad r.kept.log.length) r.have_ j hlh (by unfold haveBad; rw [u1]; rfl)]; rfl)
        go_wp2
        go_quiet (fail)
        go_wp2
        go_ret
        exact ⟨ret_val (int_eq HX.out.symm), below_drewN (((below_alloc w _).trans (HBW.out.mono (by simp))).alloc (by omega) _) _⟩
      | false =>
      cases u2 : decide ((r.kept.log.length : Int) < r.have_[j]) with
      | true =>
        have HX := Lib.hid (show Scu.repFault r = 8 by rw [HF.out, any_found (haveBad r.kept.log.length) r.have_ j hlh (by unfold haveBad; rw [u1, u2]; rfl)]; rfl)
        go_wp2
        go_quiet (fail)
        go_wp2
        go_ret
        exact ⟨ret_val (int_eq HX.out.symm), below_drewN (((below_alloc w _).trans (HBW.out.mono (by simp))).alloc (by omega) _) _⟩
      | false =>
        have hq : w.heap.size < wr.heap.size + 1 := by omega
        have HH := Lib.hid (show haveBad r.kept.log.length r.have_[j] = false by unfold haveBad; rw [u1, u2]; rfl)
        cases u3 : (Scu.keptFault r.gives[j] != 0)
        all_goals
          have U3 := Lib.hid u3
          go_wp2_with fail
          go_region_held3 (fun w' => w'.cell? ⟨w.heap.size, 6, none⟩ = some (.slice (some ⟨g1, o1, none⟩) r.have_.length c1) ∧ w'.cell? ⟨w.heap.size, 4, none⟩ = some (.slice A0 r.kept.log.length c0) ∧ w'.cell? ⟨g1, o1 + j, none⟩ = some (.int .i64 r.have_[j]) ∧
              w'.cell? ⟨wr.heap.size, 0, none⟩ = some (.int .i64 r.gives[j].view) ∧ w'.cell? ⟨wr.heap.size, 1, none⟩ = some (.int .i64 r.gives[j].normal) ∧ w'.cell? ⟨wr.heap.size, 2, none⟩ = some (.bool r.gives[j].calm) ∧
              w'.cell? ⟨wr.heap.size, 3, none⟩ = some (.slice Aj nj cj) ∧ w'.cell? ⟨wr.heap.size, 4, none⟩ = some (.int .i64 r.gives[j].commit)) (first | go_keep | (go_split_ands; refine ⟨?_, ?_, ?_, ?_, ?_, ?_, ?_, ?_⟩ <;> (refine (h1.cell (by first | (simp; done) | (simp; omega))).trans ?_; assumption)))
            ((go_at_call 62; refine (stageCheck_c _ r.gives[j] _ B ((HLS.out.alloc _).drewN _)).mono ?_; rintro e w1 ⟨rfl, h1⟩))
          have hb1 := below_drewN (((below_alloc w _).trans (HBW.out.mono (by simp))).alloc (by omega) (Obj.cells #[.int .i64 r.gives[j].view, .int .i64 r.gives[j].normal, .bool r.gives[j].calm, .slice Aj nj cj, .int .i64 r.gives[j].commit] 28)) 1
          have hb2 := below_drewN (HBW.out.alloc (by omega) (Obj.cells #[.int .i64 r.gives[j].view, .int .i64 r.gives[j].normal, .bool r.gives[j].calm, .slice Aj nj cj, .int .i64 r.gives[j].commit] 28)) 1
          have HB1 := Lib.hid (hb1.trans (h1.mono hb1.size))
          have HB2 := Lib.hid (hb2.trans (h1.mono (by simp; omega)))
          clear hb1 hb2
          go_wp2
        · go_roundw
          case rel =>
            refine ⟨j + 1, hlt, by go_num, ⟨?_, ?_⟩, HB2.out⟩
            · rw [any_take _ r.have_ j hlh, ht.out.1, HH.out]; rfl
            · rw [any_take _ r.gives j hlt, ht.out.2]
              unfold giveBad
              have := U3.out
              simpa using this
          case measure => simp only [intOf]; omega
        · have HX := Lib.hid (show Scu.repFault r = 8 by
            rw [HF.out, any_found giveBad r.gives j hlt (by unfold giveBad; have := U3.out; simpa using this)]
            simp)
          go_ret
          exact ⟨ret_val (int_eq HX.out.symm), HB1.out⟩
    · have hlt' : (r.gives.length : Int) ≤ (j : Int) := by omega
      have HX := Lib.hid (show Scu.repFault r = Scu.keptFault r.kept by
        have e1 := any_none _ r.have_ j (by have := L1.out; have := L3.out; omega) ht.out.1
        have e2 := any_none _ r.gives j (by omega) ht.out.2
        rw [HF.out, e1, e2]; rfl)
      have HBW := Lib.hid hbw
      have HB1 := Lib.hid ((below_alloc w _).trans (hbw.mono (by simp)))
      clear hbw
      go_wp2_with fail
      refine (stageCheck_c _ r.kept _ B (HV.out.log.below HB1.out)).mono ?_; rintro e w1 ⟨rfl, h1⟩
      go_wp2
      go_ret
      exact ⟨ret_val (int_eq HX.out.symm), HB1.out.trans (h1.mono HB1.out.size)⟩
end Go.Proofs.Ytioajgcbchdpeaa

/- Part 13: words and walks under the law 'LeadersLead'. -/
import Derived.Test.YtfpiembhlgcelaaDoorLed11
import Derived.Test.YtfpiembhlgcelaaDoorLed10
import Derived.BigRegion
set_option linter.unusedVariables false
set_option linter.unusedSimpArgs false
/- Walks: work.onHas. -/
namespace Go.Proofs.YtfpiembhlgcelaaDoor
set_option linter.unusedVariables false
set_option linter.unusedSimpArgs false
open Go.RowKit
set_option maxHeartbeats 8000000
set_option maxRecDepth 100000

theorem onHas_e (w : World) (base gw gr : Nat) (r : Scu.Replica) (m : Scu.Message) (A : Option Addr) (n c : Nat) (ms : List Scu.Message) (hW : WorkE w base gw gr r ms) (hbase : base ≤ w.heap.size) (h3 : Rep3 r) (hv0 : 0 ≤ r.kept.view) (hf0 : 0 ≤ m.from_) (hf3 : m.from_ < 3) (hm : (ms.length + 4) * 80 ≤ R47) :
    Calls Tryd.prog 80 #[.pointer (some ⟨gw, 0, none⟩), .agg #[.int .i64 m.kind, .int .i64 m.from_, .int .i64 m.to, .int .i64 m.view, .int .i64 m.normal, .int .i64 m.commit, .int .i64 m.n, .slice A n c]] w fun e w' => e = .returned (.tuple #[]) ∧ WorkE w' base gw gr (Scu.hearHas r m).1 (ms ++ (Scu.hearHas r m).2) ∧ Below base w w' := by
  obtain ⟨lu, hv, wv, gv, nv, ov, css, hW⟩ := hW
  obtain ⟨Al, nl, cl, rfl⟩ := hW.own.is.log.form
  have hnl : nl = r.kept.log.length := by
    obtain ⟨A', c', e, _⟩ := hW.own.is.log.ex
    cases e
    rfl
  subst hnl
  obtain ⟨gh, ch, rfl⟩ := ones3f hW.own.own.have_ h3.1
  have HW := Lib.hid hW
  have H3 := Lib.hid h3
  have HM := Lib.hid hm
  have HMB := Lib.hid (And.intro hf0 hf3)
  clear hW h3 hm
  go_enter Tryd.func80, Tryd.ntmps80
  go_upto_region 1 with fail
  obtain ⟨Wd, hWd⟩ : ∃ W, W = w.alloc (Obj.cells #[.int .i64 m.kind, .int .i64 m.from_, .int .i64 m.to, .int .i64 m.view, .int .i64 m.normal, .int .i64 m.commit, .int .i64 m.n, .slice A n c] 89) := ⟨_, rfl⟩
  rw [← hWd]
  have hbw : Below w.heap.size w Wd := by rw [hWd]; exact below_alloc _ _
  have hk : Blk Wd w.heap.size 89 #[.int .i64 m.kind, .int .i64 m.from_, .int .i64 m.to, .int .i64 m.view, .int .i64 m.normal, .int .i64 m.commit, .int .i64 m.n, .slice A n c] := by rw [hWd]; exact Blk.new _ _ _
  have HWD := Lib.hid (And.intro (HW.out.below hbw) (And.intro hk (hbw.mono hbase)))
  have hsd : base ≤ Wd.heap.size := Nat.le_trans hbase hbw.size
  clear hWd hbw hk
  have hwb := HWD.out.1.wb
  have hrb := HWD.out.1.rb
  have d0 := hwb.cell 0
  have r0 := hrb.cell 0
  have r1 := hrb.cell 1
  have r2 := hrb.cell 2
  have r3 := hrb.cell 3
  have r4 := hrb.cell 4
  have r5 := hrb.cell 5
  have r6 := hrb.cell 6
  have r7 := hrb.cell 7
  have r8 := hrb.cell 8
  have r9 := hrb.cell 9
  have k1 := HWD.out.2.1.cell 1
  have k3 := HWD.out.2.1.cell 3
  have k6 := HWD.out.2.1.cell 6
  simp only [List.getElem?_toArray, List.getElem?_cons_zero, List.getElem?_cons_succ] at d0 r0 r1 r2 r3 r4 r5 r6 r7 r8 r9 k1 k3 k6
  have dl := hwb.lt
  have dm := hrb.lt
  have dk := HWD.out.2.1.lt
  clear hwb hrb
  by_cases hv : m.view = r.kept.view
  · have hvb : (m.view != r.kept.view) = false := by simpa using hv
    have HV := Lib.hid hv
    clear hv
    obtain ⟨ld, hld⟩ : ∃ b, Scu.leads r = b := ⟨_, rfl⟩
    have HLD := Lib.hid hld
    clear hld
    go_wp2_with fail
    go_region_held3 (fun w' => w'.cell? ⟨gw, 0, none⟩ = some (.pointer (some ⟨gr, 0, none⟩)) ∧ w'.cell? ⟨w.heap.size, 3, none⟩ = some (.int .i64 m.view) ∧ w'.cell? ⟨gr, 0, none⟩ = some (.int .i64 r.me) ∧ w'.cell? ⟨gr, 1, none⟩ = some (.int .i64 r.kept.view) ∧ w'.cell? ⟨gr, 2, none⟩ = some (.int .i64 r.kept.normal) ∧ w'.cell? ⟨gr, 3, none⟩ = some (.bool r.kept.calm) ∧ w'.cell? ⟨gr, 4, none⟩ = some (.slice Al r.kept.log.length cl) ∧ w'.cell? ⟨gr, 5, none⟩ = some (.int .i64 r.kept.commit) ∧ w'.cell? ⟨gr, 6, none⟩ = some (.slice (some ⟨gh, 0, none⟩) 3 ch) ∧ w'.cell? ⟨gr, 7, none⟩ = some (wv) ∧ w'.cell? ⟨gr, 8, none⟩ = some (gv) ∧ w'.cell? ⟨gr, 9, none⟩ = some (nv))
      (first | (go_split_ands; (try dsimp only); (repeat' apply And.intro) <;> (with_reducible assumption)) | (go_split_ands; (try dsimp only); exact ⟨d0, k3, r0, r1, r2, r3, r4, r5, r6, r7, r8, r9⟩))
      (first
        | (go_at_call 46; refine (leads_a _ _ _ _ _ r hv0 _ ld HLD.out).mono ?_; rintro en x1 ⟨rfl, h1'⟩
           have nn1 : Below Wd.heap.size Wd x1 := (below_drewN (Below.refl _ _) 1).trans h1'
           have N1 := Lib.hid nn1
           have e0 := (nn1.cell (p := ⟨gw, 0, none⟩) dl).trans d0
           have e3 := (nn1.cell (p := ⟨w.heap.size, 3, none⟩) dk).trans k3
           have s0 := (nn1.cell (p := ⟨gr, 0, none⟩) dm).trans r0
           have s1 := (nn1.cell (p := ⟨gr, 1, none⟩) dm).trans r1
           have s2 := (nn1.cell (p := ⟨gr, 2, none⟩) dm).trans r2
           have s3 := (nn1.cell (p := ⟨gr, 3, none⟩) dm).trans r3
           have s4 := (nn1.cell (p := ⟨gr, 4, none⟩) dm).trans r4
           have s5 := (nn1.cell (p := ⟨gr, 5, none⟩) dm).trans r5
           have s6 := (nn1.cell (p := ⟨gr, 6, none⟩) dm).trans r6
           have s7 := (nn1.cell (p := ⟨gr, 7, none⟩) dm).trans r7
           have s8 := (nn1.cell (p := ⟨gr, 8, none⟩) dm).trans r8
           have s9 := (nn1.cell (p := ⟨gr, 9, none⟩) dm).trans r9
           clear nn1 h1'))
    all_goals
      rename_i hHeld
      clear hHeld
      have HX1 := Lib.hid (And.intro (HWD.out.1.below N1.out) (And.intro (HWD.out.2.1.same N1.out) (HWD.out.2.2.trans (N1.out.mono hsd))))
      clear N1 d0 r0 r1 r2 r3 r4 r5 r6 r7 r8 r9 k1 k3 k6 dl dm dk
      cases ld with
      | false =>
        have hbeg : Scu.hearHas r m = (r, []) := by unfold Scu.hearHas; rw [if_pos (.inr HLD.out)]
        have HBEG := Lib.hid hbeg
        clear hbeg
        go_wp2
        refine bodyPost_ret (v := .tuple #[]) (by simp [results, Tryd.results80]) rfl ?_
        refine ⟨rfl, ?_, HX1.out.2.2⟩
        rw [HBEG.out, List.append_nil]
        exact HX1.out.1.e
      | true =>
        obtain ⟨hgb, ⟨cur, hB⟩, hcw, hfw, hxx⟩ := ones3' HX1.out.1.own.own.have_ H3.out.1
        obtain ⟨h, hh⟩ : ∃ h, h = r.have_.getD m.from_.toNat 0 := ⟨_, rfl⟩
        have hhc : x1.cell? ⟨gh, m.from_.toNat, none⟩ = some (.int .i64 h) := by
          have hlt : m.from_.toNat < r.have_.length := by rw [H3.out.1]; have := HMB.out; omega
          rw [hxx _ (by have := HMB.out; omega), List.getElem?_map, List.getElem?_eq_getElem hlt, hh, List.getD_eq_getElem?_getD, List.getElem?_eq_getElem hlt]
          rfl
        have hz := hfw m.from_.toNat
        have HB := Lib.hid (And.intro hB (And.intro hgb hh))
        clear hxx hcw hfw hB hgb hh
        have k1 := HX1.out.2.1.cell 1
        have k6 := HX1.out.2.1.cell 6
        simp only [List.getElem?_toArray, List.getElem?_cons_zero, List.getElem?_cons_succ] at k1 k6
        have hf0 := HMB.out.1
        have hf3 := HMB.out.2
        by_cases hq : (r.kept.log.length : Int) < m.n
        · have hqm : min m.n (r.kept.log.length : Int) = (r.kept.log.length : Int) := by omega
          have d0 := HX1.out.1.wb.cell 0
          have dl := HX1.out.1.wb.lt
          have dm := HX1.out.1.rb.lt
          simp only [List.getElem?_toArray, List.getElem?_cons_zero, List.getElem?_cons_succ] at d0
          go_wp2_with fail
          go_region
          go_wp2_with fail
          by_cases hh : h < (r.kept.log.length : Int)
          · have hmx : max h ((r.kept.log.length : Int)) = (r.kept.log.length : Int) := by omega
            go_region
            (try simp only [if_neg hq])
            (try simp only [if_neg hh])
            obtain ⟨W2, hW2⟩ : ∃ W, W = (x1.setCell ⟨gh, m.from_.toNat, none⟩ (.int .i64 ((r.kept.log.length : Int)))).drew.drew := ⟨_, rfl⟩
            rw [← hW2]
            have HX2 := Lib.hid (show Work W2 base gw gr { r with have_ := r.have_.set m.from_.toNat ((r.kept.log.length : Int)) } (.slice Al r.kept.log.length cl) (.slice (some ⟨gh, 0, none⟩) 3 ch) wv gv nv ov ms css ∧ Below base w W2 from by
              obtain ⟨a1, a2, _⟩ := HX1.out.1.put_have HB.out.1 HB.out.2.1 m.from_.toNat ((r.kept.log.length : Int))
              rw [hW2]
              exact ⟨a1.below (Below.refl _ _).drew.drew, (HX1.out.2.2.trans a2).drew.drew⟩)
            clear hW2 d0 e0 e3 s0 s1 s2 s3 s4 s5 s6 s7 s8 s9 hhc hz k1 k6 dl dm
            have d0 := HX2.out.1.wb.cell 0
            have d5 := HX2.out.1.rb.cell 5
            simp only [List.getElem?_toArray, List.getElem?_cons_zero, List.getElem?_cons_succ] at d0 d5
            have dz := HX2.out.1.rb.frozen
            have dl := HX2.out.1.wb.lt
            have dm := HX2.out.1.rb.lt
            by_cases hc : r.kept.commit < (r.kept.log.length : Int)
            · have hbeg : Scu.hearHas r m = ({ r with have_ := r.have_.set m.from_.toNat ((r.kept.log.length : Int)), kept := { r.kept with commit := (r.kept.log.length : Int) } }, Scu.leadOn { r with have_ := r.have_.set m.from_.toNat ((r.kept.log.length : Int)), kept := { r.kept with commit := (r.kept.log.length : Int) } }) := by
                unfold Scu.hearHas
                rw [if_neg (by rw [HLD.out]; simp [HV.out])]
                simp only
                rw [hqm, ← HB.out.2.2, hmx, if_pos hc]
              have HBEG := Lib.hid hbeg
              have HN := Lib.hid (And.intro (HX2.out.1.set_commit ((r.kept.log.length : Int))) (HX2.out.1.low 5 (.int .i64 ((r.kept.log.length : Int)))))
              clear hbeg hmx hqm hh hq
              go_upto_region 7 with fail
              obtain ⟨W3, hW3⟩ : ∃ W, W = W2.setCell ⟨gr, 5, none⟩ (.int .i64 ((r.kept.log.length : Int))) := ⟨_, rfl⟩
              rw [← hW3]
              have HX3 := Lib.hid (show WorkE W3 base gw gr { r with have_ := r.have_.set m.from_.toNat ((r.kept.log.length : Int)), kept := { r.kept with commit := (r.kept.log.length : Int) } } ms ∧ Below base w W3 from by rw [hW3]; exact ⟨HN.out.1.e, HX2.out.2.trans HN.out.2⟩)
              have hs3 : base ≤ W3.heap.size := Nat.le_trans hbase HX3.out.2.size
              clear hW3 d0 d5 dz dl dm hc
              go_wp2_with fail
              refine (lead_e W3 base gw gr _ ms HX3.out.1 hs3 HM.out).mono ?_; rintro en x3 ⟨rfl, hW4, hb4⟩
              have HX4 := Lib.hid (And.intro hW4 (HX3.out.2.trans hb4))
              clear hW4 hb4
              go_wp2
              go_end0
              refine ⟨rfl, ?_, HX4.out.2⟩
              rw [HBEG.out]
              exact HX4.out.1
            · have hbeg : Scu.hearHas r m = ({ r with have_ := r.have_.set m.from_.toNat ((r.kept.log.length : Int)) }, []) := by
                unfold Scu.hearHas
                rw [if_neg (by rw [HLD.out]; simp [HV.out])]
                simp only
                rw [hqm, ← HB.out.2.2, hmx, if_neg hc]
              have HBEG := Lib.hid hbeg
              clear hbeg hmx hqm hh hq
              go_wp2
              go_end0
              refine ⟨rfl, ?_, HX2.out.2⟩
              rw [HBEG.out, List.append_nil]
              exact HX2.out.1.e
          · have hmx : max h ((r.kept.log.length : Int)) = h := by omega
            go_region
            (try simp only [if_neg hq])
            (try simp only [if_neg hh])
            obtain ⟨W2, hW2⟩ : ∃ W, W = (x1.setCell ⟨gh, m.from_.toNat, none⟩ (.int .i64 (h))).drew.drew := ⟨_, rfl⟩
            rw [← hW2]
            have HX2 := Lib.hid (show Work W2 base gw gr { r with have_ := r.have_.set m.from_.toNat (h) } (.slice Al r.kept.log.length cl) (.slice (some ⟨gh, 0, none⟩) 3 ch) wv gv nv ov ms css ∧ Below base w W2 from by
              obtain ⟨a1, a2, _⟩ := HX1.out.1.put_have HB.out.1 HB.out.2.1 m.from_.toNat (h)
              rw [hW2]
              exact ⟨a1.below (Below.refl _ _).drew.drew, (HX1.out.2.2.trans a2).drew.drew⟩)
            clear hW2 d0 e0 e3 s0 s1 s2 s3 s4 s5 s6 s7 s8 s9 hhc hz k1 k6 dl dm
            have d0 := HX2.out.1.wb.cell 0
            have d5 := HX2.out.1.rb.cell 5
            simp only [List.getElem?_toArray, List.getElem?_cons_zero, List.getElem?_cons_succ] at d0 d5
            have dz := HX2.out.1.rb.frozen
            have dl := HX2.out.1.wb.lt
            have dm := HX2.out.1.rb.lt
            by_cases hc : r.kept.commit < (r.kept.log.length : Int)
            · have hbeg : Scu.hearHas r m = ({ r with have_ := r.have_.set m.from_.toNat (h), kept := { r.kept with commit := (r.kept.log.length : Int) } }, Scu.leadOn { r with have_ := r.have_.set m.from_.toNat (h), kept := { r.kept with commit := (r.kept.log.length : Int) } }) := by
                unfold Scu.hearHas
                rw [if_neg (by rw [HLD.out]; simp [HV.out])]
                simp only
                rw [hqm, ← HB.out.2.2, hmx, if_pos hc]
              have HBEG := Lib.hid hbeg
              have HN := Lib.hid (And.intro (HX2.out.1.set_commit ((r.kept.log.length : Int))) (HX2.out.1.low 5 (.int .i64 ((r.kept.log.length : Int)))))
              clear hbeg hmx hqm hh hq
              go_upto_region 7 with fail
              obtain ⟨W3, hW3⟩ : ∃ W, W = W2.setCell ⟨gr, 5, none⟩ (.int .i64 ((r.kept.log.length : Int))) := ⟨_, rfl⟩
              rw [← hW3]
              have HX3 := Lib.hid (show WorkE W3 base gw gr { r with have_ := r.have_.set m.from_.toNat (h), kept := { r.kept with commit := (r.kept.log.length : Int) } } ms ∧ Below base w W3 from by rw [hW3]; exact ⟨HN.out.1.e, HX2.out.2.trans HN.out.2⟩)
              have hs3 : base ≤ W3.heap.size := Nat.le_trans hbase HX3.out.2.size
              clear hW3 d0 d5 dz dl dm hc
              go_wp2_with fail
              refine (lead_e W3 base gw gr _ ms HX3.out.1 hs3 HM.out).mono ?_; rintro en x3 ⟨rfl, hW4, hb4⟩
              have HX4 := Lib.hid (And.intro hW4 (HX3.out.2.trans hb4))
              clear hW4 hb4
              go_wp2
              go_end0
              refine ⟨rfl, ?_, HX4.out.2⟩
              rw [HBEG.out]
              exact HX4.out.1
            · have hbeg : Scu.hearHas r m = ({ r with have_ := r.have_.set m.from_.toNat (h) }, []) := by
                unfold Scu.hearHas
                rw [if_neg (by rw [HLD.out]; simp [HV.out])]
                simp only
                rw [hqm, ← HB.out.2.2, hmx, if_neg hc]
              have HBEG := Lib.hid hbeg
              clear hbeg hmx hqm hh hq
              go_wp2
              go_end0
              refine ⟨rfl, ?_, HX2.out.2⟩
              rw [HBEG.out, List.append_nil]
              exact HX2.out.1.e
        · have hqm : min m.n (r.kept.log.length : Int) = m.n := by omega
          have d0 := HX1.out.1.wb.cell 0
          have dl := HX1.out.1.wb.lt
          have dm := HX1.out.1.rb.lt
          simp only [List.getElem?_toArray, List.getElem?_cons_zero, List.getElem?_cons_succ] at d0
          go_wp2_with fail
          go_region
          go_wp2_with fail
          by_cases hh : h < m.n
          · have hmx : max h (m.n) = m.n := by omega
            go_region
            (try simp only [if_neg hq])
            (try simp only [if_neg hh])
            obtain ⟨W2, hW2⟩ : ∃ W, W = (x1.setCell ⟨gh, m.from_.toNat, none⟩ (.int .i64 (m.n))).drew.drew := ⟨_, rfl⟩
            rw [← hW2]
            have HX2 := Lib.hid (show Work W2 base gw gr { r with have_ := r.have_.set m.from_.toNat (m.n) } (.slice Al r.kept.log.length cl) (.slice (some ⟨gh, 0, none⟩) 3 ch) wv gv nv ov ms css ∧ Below base w W2 from by
              obtain ⟨a1, a2, _⟩ := HX1.out.1.put_have HB.out.1 HB.out.2.1 m.from_.toNat (m.n)
              rw [hW2]
              exact ⟨a1.below (Below.refl _ _).drew.drew, (HX1.out.2.2.trans a2).drew.drew⟩)
            clear hW2 d0 e0 e3 s0 s1 s2 s3 s4 s5 s6 s7 s8 s9 hhc hz k1 k6 dl dm
            have d0 := HX2.out.1.wb.cell 0
            have d5 := HX2.out.1.rb.cell 5
            simp only [List.getElem?_toArray, List.getElem?_cons_zero, List.getElem?_cons_succ] at d0 d5
            have dz := HX2.out.1.rb.frozen
            have dl := HX2.out.1.wb.lt
            have dm := HX2.out.1.rb.lt
            by_cases hc : r.kept.commit < m.n
            · have hbeg : Scu.hearHas r m = ({ r with have_ := r.have_.set m.from_.toNat (m.n), kept := { r.kept with commit := m.n } }, Scu.leadOn { r with have_ := r.have_.set m.from_.toNat (m.n), kept := { r.kept with commit := m.n } }) := by
                unfold Scu.hearHas
                rw [if_neg (by rw [HLD.out]; simp [HV.out])]
                simp only
                rw [hqm, ← HB.out.2.2, hmx, if_pos hc]
              have HBEG := Lib.hid hbeg
              have HN := Lib.hid (And.intro (HX2.out.1.set_commit (m.n)) (HX2.out.1.low 5 (.int .i64 (m.n))))
              clear hbeg hmx hqm hh hq
              go_upto_region 7 with fail
              obtain ⟨W3, hW3⟩ : ∃ W, W = W2.setCell ⟨gr, 5, none⟩ (.int .i64 (m.n)) := ⟨_, rfl⟩
              rw [← hW3]
              have HX3 := Lib.hid (show WorkE W3 base gw gr { r with have_ := r.have_.set m.from_.toNat (m.n), kept := { r.kept with commit := m.n } } ms ∧ Below base w W3 from by rw [hW3]; exact ⟨HN.out.1.e, HX2.out.2.trans HN.out.2⟩)
              have hs3 : base ≤ W3.heap.size := Nat.le_trans hbase HX3.out.2.size
              clear hW3 d0 d5 dz dl dm hc
              go_wp2_with fail
              refine (lead_e W3 base gw gr _ ms HX3.out.1 hs3 HM.out).mono ?_; rintro en x3 ⟨rfl, hW4, hb4⟩
              have HX4 := Lib.hid (And.intro hW4 (HX3.out.2.trans hb4))
              clear hW4 hb4
              go_wp2
              go_end0
              refine ⟨rfl, ?_, HX4.out.2⟩
              rw [HBEG.out]
              exact HX4.out.1
            · have hbeg : Scu.hearHas r m = ({ r with have_ := r.have_.set m.from_.toNat (m.n) }, []) := by
                unfold Scu.hearHas
                rw [if_neg (by rw [HLD.out]; simp [HV.out])]
                simp only
                rw [hqm, ← HB.out.2.2, hmx, if_neg hc]
              have HBEG := Lib.hid hbeg
              clear hbeg hmx hqm hh hq
              go_wp2
              go_end0
              refine ⟨rfl, ?_, HX2.out.2⟩
              rw [HBEG.out, List.append_nil]
              exact HX2.out.1.e
          · have hmx : max h (m.n) = h := by omega
            go_region
            (try simp only [if_neg hq])
            (try simp only [if_neg hh])
            obtain ⟨W2, hW2⟩ : ∃ W, W = (x1.setCell ⟨gh, m.from_.toNat, none⟩ (.int .i64 (h))).drew.drew := ⟨_, rfl⟩
            rw [← hW2]
            have HX2 := Lib.hid (show Work W2 base gw gr { r with have_ := r.have_.set m.from_.toNat (h) } (.slice Al r.kept.log.length cl) (.slice (some ⟨gh, 0, none⟩) 3 ch) wv gv nv ov ms css ∧ Below base w W2 from by
              obtain ⟨a1, a2, _⟩ := HX1.out.1.put_have HB.out.1 HB.out.2.1 m.from_.toNat (h)
              rw [hW2]
              exact ⟨a1.below (Below.refl _ _).drew.drew, (HX1.out.2.2.trans a2).drew.drew⟩)
            clear hW2 d0 e0 e3 s0 s1 s2 s3 s4 s5 s6 s7 s8 s9 hhc hz k1 k6 dl dm
            have d0 := HX2.out.1.wb.cell 0
            have d5 := HX2.out.1.rb.cell 5
            simp only [List.getElem?_toArray, List.getElem?_cons_zero, List.getElem?_cons_succ] at d0 d5
            have dz := HX2.out.1.rb.frozen
            have dl := HX2.out.1.wb.lt
            have dm := HX2.out.1.rb.lt
            by_cases hc : r.kept.commit < m.n
            · have hbeg : Scu.hearHas r m = ({ r with have_ := r.have_.set m.from_.toNat (h), kept := { r.kept with commit := m.n } }, Scu.leadOn { r with have_ := r.have_.set m.from_.toNat (h), kept := { r.kept with commit := m.n } }) := by
                unfold Scu.hearHas
                rw [if_neg (by rw [HLD.out]; simp [HV.out])]
                simp only
                rw [hqm, ← HB.out.2.2, hmx, if_pos hc]
              have HBEG := Lib.hid hbeg
              have HN := Lib.hid (And.intro (HX2.out.1.set_commit (m.n)) (HX2.out.1.low 5 (.int .i64 (m.n))))
              clear hbeg hmx hqm hh hq
              go_upto_region 7 with fail
              obtain ⟨W3, hW3⟩ : ∃ W, W = W2.setCell ⟨gr, 5, none⟩ (.int .i64 (m.n)) := ⟨_, rfl⟩
              rw [← hW3]
              have HX3 := Lib.hid (show WorkE W3 base gw gr { r with have_ := r.have_.set m.from_.toNat (h), kept := { r.kept with commit := m.n } } ms ∧ Below base w W3 from by rw [hW3]; exact ⟨HN.out.1.e, HX2.out.2.trans HN.out.2⟩)
              have hs3 : base ≤ W3.heap.size := Nat.le_trans hbase HX3.out.2.size
              clear hW3 d0 d5 dz dl dm hc
              go_wp2_with fail
              refine (lead_e W3 base gw gr _ ms HX3.out.1 hs3 HM.out).mono ?_; rintro en x3 ⟨rfl, hW4, hb4⟩
              have HX4 := Lib.hid (And.intro hW4 (HX3.out.2.trans hb4))
              clear hW4 hb4
              go_wp2
              go_end0
              refine ⟨rfl, ?_, HX4.out.2⟩
              rw [HBEG.out]
              exact HX4.out.1
            · have hbeg : Scu.hearHas r m = ({ r with have_ := r.have_.set m.from_.toNat (h) }, []) := by
                unfold Scu.hearHas
                rw [if_neg (by rw [HLD.out]; simp [HV.out])]
                simp only
                rw [hqm, ← HB.out.2.2, hmx, if_neg hc]
              have HBEG := Lib.hid hbeg
              clear hbeg hmx hqm hh hq
              go_wp2
              go_end0
              refine ⟨rfl, ?_, HX2.out.2⟩
              rw [HBEG.out, List.append_nil]
              exact HX2.out.1.e
  · have hvb : (m.view != r.kept.view) = true := by simpa using hv
    have hbeg : Scu.hearHas r m = (r, []) := by unfold Scu.hearHas; rw [if_pos (.inl hv)]
    have HBEG := Lib.hid hbeg
    clear hbeg hv
    go_wp2_with fail
    go_region
    go_wp2
    refine bodyPost_ret (v := .tuple #[]) (by simp [results, Tryd.results80]) rfl ?_
    refine ⟨rfl, ?_, HWD.out.2.2.drew⟩
    rw [HBEG.out, List.append_nil]
    exact (HWD.out.1.below (Below.refl _ _).drew).e
end Go.Proofs.YtfpiembhlgcelaaDoor

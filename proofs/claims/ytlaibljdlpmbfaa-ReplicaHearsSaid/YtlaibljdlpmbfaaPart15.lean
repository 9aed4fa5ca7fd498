/- Part 15: words and walks under the law 'ReplicaHears'. -/
import Derived.Test.YtlaibljdlpmbfaaPart8
import Derived.Test.YtlaibljdlpmbfaaPart7
import Derived.BigRegion
import Derived.Test.YtlaibljdlpmbfaaPart12
set_option linter.unusedVariables false
set_option linter.unusedSimpArgs false
/- Walks: work.onHas. -/
namespace Go.Proofs.Ytlaibljdlpmbfaa
set_option linter.unusedVariables false
set_option linter.unusedSimpArgs false
open Go.RowKit
set_option maxHeartbeats 8000000
set_option maxRecDepth 100000

theorem onHas_e (w : World) (base gw gr : Nat) (r : Scu.Replica) (m : Scu.Message) (A : Option Addr) (n c : Nat) (ms : List Scu.Message) (hW : WorkE w base gw gr r ms) (hbase : base ≤ w.heap.size) (h3 : Rep3 r) (hv0 : 0 ≤ r.kept.view) (hf0 : 0 ≤ m.from_) (hf3 : m.from_ < 3) (hm : (ms.length + 4) * 80 ≤ R47) :
    Calls Try.prog 13 #[.pointer (some ⟨gw, 0, none⟩), .agg #[.int .i64 m.kind, .int .i64 m.from_, .int .i64 m.tq, .int .i64 m.view, .int .i64 m.normal, .int .i64 m.commit, .int .i64 m.n, .slice A n c]] w fun e w' => e = .returned (.tuple #[]) ∧ WorkE w' base gw gr (Scu.hearHas r m).1 (ms ++ (Scu.hearHas r m).2) ∧ Below base w w' := by
  obtain ⟨lu, hv, wv, gv, nv, ov, css, hW⟩ := hW
  obtain ⟨Al, nl, cl, rfl⟩ := hW.own.is.log.form
  have hnl : nl = r.kept.log.length := by
    obtain ⟨A', c', e, _⟩ := hW.own.is.log.ex
    cases e
    rfl
  subst hnl
  obtain ⟨gh, ch, rfl⟩ := ones3f hW.own.own.have_ h3.1
  have HW := Lib.hid hW
  have H3 := Lib.hid h3
  have HM := Lib.hid hm
  have HMB := Lib.hid (And.intro hf0 hf3)
  clear hW h3 hm
  go_enter Try.func13, Try.ntmps13
  go_upto_region 1 with fail
  obtain ⟨Wd, hWd⟩ : ∃ W, W = w.alloc (Obj.cells #[.int .i64 m.kind, .int .i64 m.from_, .int .i64 m.tq, .int .i64 m.view, .int .i64 m.normal, .int .i64 m.commit, .int .i64 m.n, .slice A n c] 31) := ⟨_, rfl⟩
  rw [← hWd]
  have hbw : Below w.heap.size w Wd := by rw [hWd]; exact below_alloc _ _
  have hk : Blk Wd w.heap.size 31 #[.int .i64 m.kind, .int .i64 m.from_, .int .i64 m.tq, .int .i64 m.view, .int .i64 m.normal, .int .i64 m.commit, .int .i64 m.n, .slice A n c] := by rw [hWd]; exact Blk.new _ _ _
  have HWD := Lib.hid (And.intro (HW.out.below hbw) (And.intro hk (hbw.mono hbase)))
  have hsd : base ≤ Wd.heap.size := Nat.le_trans hbase hbw.size
  clear hWd hbw hk
  have hwb := HWD.out.1.wb
  have hrb := HWD.out.1.rb
  have d0 := hwb.cell 0
  have r0 := hrb.cell 0
  have r1 := hrb.cell 1
  have r2 := hrb.cell 2
  have r3 := hrb.cell 3
  have r4 := hrb.cell 4
  have r5 := hrb.cell 5
  have r6 := hrb.cell 6
  have r7 := hrb.cell 7
  have r8 := hrb.cell 8
  have r9 := hrb.cell 9
  have k1 := HWD.out.2.1.cell 1
  have k3 := HWD.out.2.1.cell 3
  have k6 := HWD.out.2.1.cell 6
  simp only [List.getElem?_toArray, List.getElem?_cons_zero, List.getElem?_cons_succ] at d0 r0 r1 r2 r3 r4 r5 r6 r7 r8 r9 k1 k3 k6
  have dl := hwb.lt
  have dm := hrb.lt
  have dk := HWD.out.2.1.lt
  clear hwb hrb
  by_cases hv : m.view = r.kept.view
  · have hvb : (m.view != r.kept.view) = false := by simpa using hv
    have HV := Lib.hid hv
    clear hv
    obtain ⟨ld, hld⟩ : ∃ b, Scu.leads r = b := ⟨_, rfl⟩
    have HLD := Lib.hid hld
    clear hld
    go_wp2_with fail
    go_region_held3 (fun w' => w'.cell? ⟨gw, 0, none⟩ = some (.pointer (some ⟨gr, 0, none⟩)) ∧ w'.cell? ⟨w.heap.size, 3, none⟩ = some (.int .i64 m.view) ∧ w'.cell? ⟨gr, 0, none⟩ = some (.int .i64 r.me) ∧ w'.cell? ⟨gr, 1, none⟩ = some (.int .i64 r.kept.view) ∧ w'.cell? ⟨gr, 2, none⟩ = some (.int .i64 r.kept.normal) ∧ w'.cell? ⟨gr, 3, none⟩ = some (.bool r.kept.calm) ∧ w'.cell? ⟨gr, 4, none⟩ = some (.slice Al r.kept.log.length cl) ∧ w'.cell? ⟨gr, 5, none⟩ = some (.int .i64 r.kept.commit) ∧ w'.cell? ⟨gr, 6, none⟩ = some (.slice (some ⟨gh, 0, none⟩) 3 ch) ∧ w'.cell? ⟨gr, 7, none⟩ = some (wv) ∧ w'.cell? ⟨gr, 8, none⟩ = some (gv) ∧ w'.cell? ⟨gr, 9, none⟩ = some (nv))
      (first | (go_split_ands; (try dsimp only); (repeat' apply And.intro) <;> (with_reducible assumption)) | (go_split_ands; (try dsimp only); exact ⟨d0, k3, r0, r1, r2, r3, r4, r5, r6, r7, r8, r9⟩))
      (first
        | (go_at_call 28; refine (leads_a _ _ _ _ _ r hv0 _ ld HLD.out).mono ?_; rintro en x1 ⟨rfl, h1'⟩
           have nn1 : Below Wd.heap.size Wd x1 := (below_drewN (Below.refl _ _) 1).trans h1'
           have N1 := Lib.hid nn1
           have e0 := (nn1.cell (p := ⟨gw, 0, none⟩) dl).trans d0
           have e3 := (nn1.cell (p := ⟨w.heap.size, 3, none⟩) dk).trans k3
           have s0 := (nn1.cell (p := ⟨gr, 0, none⟩) dm).trans r0
           have s1 := (nn1.cell (p := ⟨gr, 1, none⟩) dm).trans r1
           have s2 := (nn1.cell (p := ⟨gr, 2, none⟩) dm).trans r2
           have s3 := (nn1.cell (p := ⟨gr, 3, none⟩) dm).trans r3
           have s4 := (nn1.cell (p := ⟨gr, 4, none⟩) dm).trans r4
           have s5 := (nn1.cell (p := ⟨gr, 5, none⟩) dm).trans r5
           have s6 := (nn1.cell (p := ⟨gr, 6, none⟩) dm).trans r6
           have s7 := (nn1.cell (p := ⟨gr, 7, none⟩) dm).trans r7
           have s8 := (nn1.cell (p := ⟨gr, 8, none⟩) dm).trans r8
           have s9 := (nn1.cell (p := ⟨gr, 9, none⟩) dm).trans r9
           clear nn1 h1'))
    all_goals
      rename_i hHeld
      clear hHeld
      have HX1 := Lib.hid (And.intro (HWD.out.1.below N1.out) (And.intro (HWD.out.2.1.same N1.out) (HWD.out.2.2.trans (N1.out.mono hsd))))
      clear N1 d0 r0 r1 r2 r3 r4 r5 r6 r7 r8 r9 k1 k3 k6 dl dm dk
      cases ld with
      | false =>
        have hbeg : Scu.hearHas r m = (r, []) := by unfold Scu.hearHas; rw [if_pos (.inr HLD.out)]
        have HBEG := Lib.hid hbeg
        clear hbeg
        go_wp2
        refine bodyPost_ret (v := .tuple #[]) (by simp [results, Try.results13]) rfl ?_
        refine ⟨rfl, ?_, HX1.out.2.2⟩
        rw [HBEG.out, List.append_nil]
        exact HX1.out.1.e
      | true =>
        obtain ⟨hgb, ⟨cur, hB⟩, hcw, hfw, hxx⟩ := ones3' HX1.out.1.own.own.have_ H3.out.1
        obtain ⟨h, hh⟩ : ∃ h, h = r.have_.getD m.from_.toNat 0 := ⟨_, rfl⟩
        have hhc : x1.cell? ⟨gh, m.from_.toNat, none⟩ = some (.int .i64 h) := by
          have hlt : m.from_.toNat < r.have_.length := by rw [H3.out.1]; have := HMB.out; omega
          rw [hxx _ (by have := HMB.out; omega), List.getElem?_map, List.getElem?_eq_getElem hlt, hh, List.getD_eq_getElem?_getD, List.getElem?_eq_getElem hlt]
          rfl
        have hz := hfw m.from_.toNat
        have HB := Lib.hid (And.intro hB (And.intro hgb hh))
        clear hxx hcw hfw hB hgb hh
        have k1 := HX1.out.2.1.cell 1
        have k6 := HX1.out.2.1.cell 6
        simp only [List.getElem?_toArray, List.getElem?_cons_zero, List.getElem?_cons_succ] at k1 k6
        have hf0 := HMB.out.1
        have hf3 := HMB.out.2
        by_cases hq : (r.kept.log.length : Int) < m.n
        · have hqm : min m.n (r.kept.log.length : Int) = (r.kept.log.length : Int) := by omega
          have d0 := HX1.out.1.wb.cell 0
          have dl := HX1.out.1.wb.lt
          have dm := HX1.out.1.rb.lt
          simp only [List.getElem?_toArray, List.getElem?_cons_zero, List.getElem?_cons_succ] at d0
          go_wp2_with fail
          go_region
          go_wp2_with fail
          by_cases hh : h < (r.kept.log.length : Int)
          · have hmx : max h ((r.kept.log.length : Int)) = (r.kept.log.length : Int) := by omega
            go_region
            (try simp only [if_neg hq])
            (try simp only [if_neg hh])
            obtain ⟨W2, hW2⟩ : ∃ W, W = (x1.setCell ⟨gh, m.from_.toNat, none⟩ (.int .i64 ((r.kept.log.length : Int)))).drew.drew := ⟨_, rfl⟩
            rw [← hW2]
            have HX2 := Lib.hid (show Work W2 base gw gr { r with have_ := r.have_.set m.from_.toNat ((r.kept.log.length : Int)) } (.slice Al r.kept.log.length cl) (.slice (some ⟨gh, 0, none⟩) 3 ch) wv gv nv ov ms css ∧ Below base w W2 from by
              obtain ⟨a1, a2, _⟩ := HX1.out.1.put_have HB.out.1 HB.out.2.1 m.from_.toNat ((r.kept.log.length : Int))
              rw [hW2]
              exact ⟨a1.below (Below.refl _ _).drew.drew, (HX1.out.2.2.trans a2).drew.drew⟩)
            clear hW2 d0 e0 e3 s0 s1 s2 s3 s4 s5 s6 s7 s8 s9 hhc hz k1 k6 dl dm
            have d0 := HX2.out.1.wb.cell 0
            have d5 := HX2.out.1.rb.cell 5
            simp only [List.getElem?_toArray, List.getElem?_cons_zero, List.getElem?_cons_succ] at d0 d5
            have dz := HX2.out.1.rb.frozen
            have dl := HX2.out.1.wb.lt
            have dm := HX2.out.1.rb.lt
            by_cases hc : r.kept.commit < (r.kept.log.length : Int)
            · have hbeg : Scu.hearHas r m = ({ r with have_ := r.have_.set m.from_.toNat ((r.kept.log.length : Int)), kept := { r.kept with commit := (r.kept.log.length : Int) } }, Scu.leadOn { r with have_ := r.have_.set m.from_.toNat ((r.kept.log.length : Int)), kept := { r.kept with commit := (r.kept.log.length : Int) } }) := by
                unfold Scu.hearHas
                rw [if_neg (by rw [HLD.out]; simp [HV.out])]
                simp only
                rw [hqm, ← HB.out.2.2, hmx, if_pos hc]
              have HBEG := Lib.hid hbeg
              have HN := Lib.hid (And.intro (HX2.out.1.set_commit ((r.kept.log.length : Int))) (HX2.out.1.low 5 (.int .i64 ((r.kept.log.length : Int)))))
              clear hbeg hmx hqm hh hq
              go_upto_region 7 with fail
              obtain ⟨W3, hW3⟩ : ∃ W, W = W2.setCell ⟨gr, 5, none⟩ (.int .i64 ((r.kept.log.length : Int))) := ⟨_, rfl⟩
              rw [← hW3]
              have HX3 := Lib.hid (show WorkE W3 base gw gr { r with have_ := r.have_.set m.from_.toNat ((r.kept.log.length : Int)), kept := { r.kept with commit := (r.kept.log.length : Int) } } ms ∧ Below base w W3 from by rw [hW3]; exact ⟨HN.out.1.e, HX2.out.2.trans HN.out.2⟩)
              have hs3 : base ≤ W3.heap.size := Nat.le_trans hbase HX3.out.2.size
              clear hW3 d0 d5 dz dl dm hc
              go_wp2_with fail
              refine (lead_e W3 base gw gr _ ms HX3.out.1 hs3 HM.out).mono ?_; rintro en x3 ⟨rfl, hW4, hb4⟩
              have HX4 := Lib.hid (And.intro hW4 (HX3.out.2.trans hb4))
              clear hW4 hb4
              go_wp2
              go_end0
              refine ⟨rfl, ?_, HX4.out.2⟩
              rw [HBEG.out]
              exact HX4.out.1
            · have hbeg : Scu.hearHas r m = ({ r with have_ := r.have_.set m.from_.toNat ((r.kept.log.length : Int)) }, []) := by
                unfold Scu.hearHas
                rw [if_neg (by rw [HLD.out]; simp [HV.out])]
                simp only
                rw [hqm, ← HB.out.2.2, hmx, if_neg hc]
              have HBEG := Lib.hid hbeg
              clear hbeg hmx hqm hh hq
              go_wp2
              go_end0
              refine ⟨rfl, ?_, HX2.out.2⟩
              rw [HBEG.out, List.append_nil]
              exact HX2.out.1.e
          · have hmx : max h ((r.kept.log.length : Int)) = h := by omega
            go_region
            (try simp only [if_neg hq])
            (try simp only [if_neg hh])
            obtain ⟨W2, hW2⟩ : ∃ W, W = (x1.setCell ⟨gh, m.from_.toNat, none⟩ (.int .i64 (h))).drew.drew := ⟨_, rfl⟩
            rw [← hW2]
            have HX2 := Lib.hid (show Work W2 base gw gr { r with have_ := r.have_.set m.from_.toNat (h) } (.slice Al r.kept.log.length cl) (.slice (some ⟨gh, 0, none⟩) 3 ch) wv gv nv ov ms css ∧ Below base w W2 from by
              obtain ⟨a1, a2, _⟩ := HX1.out.1.put_have HB.out.1 HB.out.2.1 m.from_.toNat (h)
              rw [hW2]
              exact ⟨a1.below (Below.refl _ _).drew.drew, (HX1.out.2.2.trans a2).drew.drew⟩)
            clear hW2 d0 e0 e3 s0 s1 s2 s3 s4 s5 s6 s7 s8 s9 hhc hz k1 k6 dl dm
            have d0 := HX2.out.1.wb.cell 0
            have d5 := HX2.out.1.rb.cell 5
            simp only [List.getElem?_toArray, List.getElem?_cons_zero, List.getElem?_cons_succ] at d0 d5
            have dz := HX2.out.1.rb.frozen
            have dl := HX2.out.1.wb.lt
            have dm := HX2.out.1.rb.lt
            by_cases hc : r.kept.commit < (r.kept.log.length : Int)
            · have hbeg : Scu.hearHas r m = ({ r with have_ := r.have_.set m.from_.toNat (h), kept := { r.kept with commit := (r.kept.log.length : Int) } }, Scu.leadOn { r with have_ := r.have_.set m.from_.toNat (h), kept := { r.kept with commit := (r.kept.log.length : Int) } }) := by
                unfold Scu.hearHas
                rw [if_neg (by rw [HLD.out]; simp [HV.out])]
                simp only
                rw [hqm, ← HB.out.2.2, hmx, if_pos hc]
              have HBEG := Lib.hid hbeg
              have HN := Lib.hid (And.intro (HX2.out.1.set_commit ((r.kept.log.length : Int))) (HX2.out.1.low 5 (.int .i64 ((r.kept.log.length : Int)))))
              clear hbeg hmx hqm hh hq
              go_upto_region 7 with fail
              obtain ⟨W3, hW3⟩ : ∃ W, W = W2.setCell ⟨gr, 5, none⟩ (.int .i64 ((r.kept.log.length : Int))) := ⟨_, rfl⟩
              rw [← hW3]
              have HX3 := Lib.hid (show WorkE W3 base gw gr { r with have_ := r.have_.set m.from_.toNat (h), kept := { r.kept with commit := (r.kept.log.length : Int) } } ms ∧ Below base w W3 from by rw [hW3]; exact ⟨HN.out.1.e, HX2.out.2.trans HN.out.2⟩)
              have hs3 : base ≤ W3.heap.size := Nat.le_trans hbase HX3.out.2.size
              clear hW3 d0 d5 dz dl dm hc
              go_wp2_with fail
              refine (lead_e W3 base gw gr _ ms HX3.out.1 hs3 HM.out).mono ?_; rintro en x3 ⟨rfl, hW4, hb4⟩
              have HX4 := Lib.hid (And.intro hW4 (HX3.out.2.trans hb4))
              clear hW4 hb4
              go_wp2
              go_end0
              refine ⟨rfl, ?_, HX4.out.2⟩
              rw [HBEG.out]
              exact HX4.out.1
            · have hbeg : Scu.hearHas r m = ({ r with have_ := r.have_.set m.from_.toNat (h) }, []) := by
                unfold Scu.hearHas
                rw [if_neg (by rw [HLD.out]; simp [HV.out])]
                simp only
                rw [hqm, ← HB.out.2.2, hmx, if_neg hc]
              have HBEG := Lib.hid hbeg
              clear hbeg hmx hqm hh hq
              go_wp2
              go_end0
              refine ⟨rfl, ?_, HX2.out.2⟩
              rw [HBEG.out, List.append_nil]
              exact HX2.out.1.e
        · have hqm : min m.n (r.kept.log.length : Int) = m.n := by omega
          have d0 := HX1.out.1.wb.cell 0
          have dl := HX1.out.1.wb.lt
          have dm := HX1.out.1.rb.lt
          simp only [List.getElem?_toArray, List.getElem?_cons_zero, List.getElem?_cons_succ] at d0
          go_wp2_with fail
          go_region
          go_wp2_with fail
          by_cases hh : h < m.n
          · have hmx : max h (m.n) = m.n := by omega
            go_region
            (try simp only [if_neg hq])
            (try simp only [if_neg hh])
            obtain ⟨W2, hW2⟩ : ∃ W, W = (x1.setCell ⟨gh, m.from_.toNat, none⟩ (.int .i64 (m.n))).drew.drew := ⟨_, rfl⟩
            rw [← hW2]
            have HX2 := Lib.hid (show Work W2 base gw gr { r with have_ := r.have_.set m.from_.toNat (m.n) } (.slice Al r.kept.log.length cl) (.slice (some ⟨gh, 0, none⟩) 3 ch) wv gv nv ov ms css ∧ Below base w W2 from by
              obtain ⟨a1, a2, _⟩ := HX1.out.1.put_have HB.out.1 HB.out.2.1 m.from_.toNat (m.n)
              rw [hW2]
              exact ⟨a1.below (Below.refl _ _).drew.drew, (HX1.out.2.2.trans a2).drew.drew⟩)
            clear hW2 d0 e0 e3 s0 s1 s2 s3 s4 s5 s6 s7 s8 s9 hhc hz k1 k6 dl dm
            have d0 := HX2.out.1.wb.cell 0
            have d5 := HX2.out.1.rb.cell 5
            simp only [List.getElem?_toArray, List.getElem?_cons_zero, List.getElem?_cons_succ] at d0 d5
            have dz := HX2.out.1.rb.frozen
            have dl := HX2.out.1.wb.lt
            have dm := HX2.out.1.rb.lt
            by_cases hc : r.kept.commit < m.n
            · have hbeg : Scu.hearHas r m = ({ r with have_ := r.have_.set m.from_.toNat (m.n), kept := { r.kept with commit := m.n } }, Scu.leadOn { r with have_ := r.have_.set m.from_.toNat (m.n), kept := { r.kept with commit := m.n } }) := by
                unfold Scu.hearHas
                rw [if_neg (by rw [HLD.out]; simp [HV.out])]
                simp only
                rw [hqm, ← HB.out.2.2, hmx, if_pos hc]
              have HBEG := Lib.hid hbeg
              have HN := Lib.hid (And.intro (HX2.out.1.set_commit (m.n)) (HX2.out.1.low 5 (.int .i64 (m.n))))
              clear hbeg hmx hqm hh hq
              go_upto_region 7 with fail
              obtain ⟨W3, hW3⟩ : ∃ W, W = W2.setCell ⟨gr, 5, none⟩ (.int .i64 (m.n)) := ⟨_, rfl⟩
              rw [← hW3]
              have HX3 := Lib.hid (show WorkE W3 base gw gr { r with have_ := r.have_.set m.from_.toNat (m.n), kept := { r.kept with commit := m.n } } ms ∧ Below base w W3 from by rw [hW3]; exact ⟨HN.out.1.e, HX2.out.2.trans HN.out.2⟩)
              have hs3 : base ≤ W3.heap.size := Nat.le_trans hbase HX3.out.2.size
              clear hW3 d0 d5 dz dl dm hc
              go_wp2_with fail
              refine (lead_e W3 base gw gr _ ms HX3.out.1 hs3 HM.out).mono ?_; rintro en x3 ⟨rfl, hW4, hb4⟩
              have HX4 := Lib.hid (And.intro hW4 (HX3.out.2.trans hb4))
              clear hW4 hb4
              go_wp2
              go_end0
              refine ⟨rfl, ?_, HX4.out.2⟩
              rw [HBEG.out]
              exact HX4.out.1
            · have hbeg : Scu.hearHas r m = ({ r with have_ := r.have_.set m.from_.toNat (m.n) }, []) := by
                unfold Scu.hearHas
                rw [if_neg (by rw [HLD.out]; simp [HV.out])]
                simp only
                rw [hqm, ← HB.out.2.2, hmx, if_neg hc]
              have HBEG := Lib.hid hbeg
              clear hbeg hmx hqm hh hq
              go_wp2
              go_end0
              refine ⟨rfl, ?_, HX2.out.2⟩
              rw [HBEG.out, List.append_nil]
              exact HX2.out.1.e
          · have hmx : max h (m.n) = h := by omega
            go_region
            (try simp only [if_neg hq])
            (try simp only [if_neg hh])
            obtain ⟨W2, hW2⟩ : ∃ W, W = (x1.setCell ⟨gh, m.from_.toNat, none⟩ (.int .i64 (h))).drew.drew := ⟨_, rfl⟩
            rw [← hW2]
            have HX2 := Lib.hid (show Work W2 base gw gr { r with have_ := r.have_.set m.from_.toNat (h) } (.slice Al r.kept.log.length cl) (.slice (some ⟨gh, 0, none⟩) 3 ch) wv gv nv ov ms css ∧ Below base w W2 from by
              obtain ⟨a1, a2, _⟩ := HX1.out.1.put_have HB.out.1 HB.out.2.1 m.from_.toNat (h)
              rw [hW2]
              exact ⟨a1.below (Below.refl _ _).drew.drew, (HX1.out.2.2.trans a2).drew.drew⟩)
            clear hW2 d0 e0 e3 s0 s1 s2 s3 s4 s5 s6 s7 s8 s9 hhc hz k1 k6 dl dm
            have d0 := HX2.out.1.wb.cell 0
            have d5 := HX2.out.1.rb.cell 5
            simp only [List.getElem?_toArray, List.getElem?_cons_zero, List.getElem?_cons_succ] at d0 d5
            have dz := HX2.out.1.rb.frozen
            have dl := HX2.out.1.wb.lt
            have dm := HX2.out.1.rb.lt
            by_cases hc : r.kept.commit < m.n
            · have hbeg : Scu.hearHas r m = ({ r with have_ := r.have_.set m.from_.toNat (h), kept := { r.kept with commit := m.n } }, Scu.leadOn { r with have_ := r.have_.set m.from_.toNat (h), kept := { r.kept with commit := m.n } }) := by
                unfold Scu.hearHas
                rw [if_neg (by rw [HLD.out]; simp [HV.out])]
                simp only
                rw [hqm, ← HB.out.2.2, hmx, if_pos hc]
              have HBEG := Lib.hid hbeg
              have HN := Lib.hid (And.intro (HX2.out.1.set_commit (m.n)) (HX2.out.1.low 5 (.int .i64 (m.n))))
              clear hbeg hmx hqm hh hq
              go_upto_region 7 with fail
              obtain ⟨W3, hW3⟩ : ∃ W, W = W2.setCell ⟨gr, 5, none⟩ (.int .i64 (m.n)) := ⟨_, rfl⟩
              rw [← hW3]
              have HX3 := Lib.hid (show WorkE W3 base gw gr { r with have_ := r.have_.set m.from_.toNat (h), kept := { r.kept with commit := m.n } } ms ∧ Below base w W3 from by rw [hW3]; exact ⟨HN.out.1.e, HX2.out.2.trans HN.out.2⟩)
              have hs3 : base ≤ W3.heap.size := Nat.le_trans hbase HX3.out.2.size
              clear hW3 d0 d5 dz dl dm hc
              go_wp2_with fail
              refine (lead_e W3 base gw gr _ ms HX3.out.1 hs3 HM.out).mono ?_; rintro en x3 ⟨rfl, hW4, hb4⟩
              have HX4 := Lib.hid (And.intro hW4 (HX3.out.2.trans hb4))
              clear hW4 hb4
              go_wp2
              go_end0
              refine ⟨rfl, ?_, HX4.out.2⟩
              rw [HBEG.out]
              exact HX4.out.1
            · have hbeg : Scu.hearHas r m = ({ r with have_ := r.have_.set m.from_.toNat (h) }, []) := by
                unfold Scu.hearHas
                rw [if_neg (by rw [HLD.out]; simp [HV.out])]
                simp only
                rw [hqm, ← HB.out.2.2, hmx, if_neg hc]
              have HBEG := Lib.hid hbeg
              clear hbeg hmx hqm hh hq
              go_wp2
              go_end0
              refine ⟨rfl, ?_, HX2.out.2⟩
              rw [HBEG.out, List.append_nil]
              exact HX2.out.1.e
  · have hvb : (m.view != r.kept.view) = true := by simpa using hv
    have hbeg : Scu.hearHas r m = (r, []) := by unfold Scu.hearHas; rw [if_pos (.inl hv)]
    have HBEG := Lib.hid hbeg
    clear hbeg hv
    go_wp2_with fail
    go_region
    go_wp2
    refine bodyPost_ret (v := .tuple #[]) (by simp [results, Try.results13]) rfl ?_
    refine ⟨rfl, ?_, HWD.out.2.2.drew⟩
    rw [HBEG.out, List.append_nil]
    exact (HWD.out.1.below (Below.refl _ _).drew).e
end Go.Proofs.Ytlaibljdlpmbfaa
/- Walks: work.onGive. -/
namespace Go.Proofs.Ytlaibljdlpmbfaa
open Go.RowKit
set_option maxHeartbeats 8000000
set_option maxRecDepth 100000

def Scu.selfGive (r : Scu.Replica) : Scu.Replica := if r.given.getD r.me.toNat false = false then Scu.give1 r r.me r.kept else r
theorem hearGive_1 {r : Scu.Replica} {m : Scu.Message} {a : Scu.Replica × List Scu.Message} (ha : Scu.wantIf r m.view = a) (h : a.1.kept.calm = true) : Scu.hearGive r m = a := by
  subst ha
  unfold Scu.hearGive
  exact if_pos h
theorem hearGive_2 {r : Scu.Replica} {m : Scu.Message} {a : Scu.Replica × List Scu.Message} (ha : Scu.wantIf r m.view = a) (h : ¬ a.1.kept.calm = true) {g : Scu.Replica} (hg : Scu.selfGive a.1 = g) :
    Scu.hearGive r m = ((Scu.take1 g m.from_ ⟨m.view, m.normal, false, m.log, m.commit⟩).1, a.2 ++ (Scu.take1 g m.from_ ⟨m.view, m.normal, false, m.log, m.commit⟩).2) := by
  subst ha
  subst hg
  unfold Scu.hearGive Scu.selfGive
  simp only
  rw [if_neg h]
theorem selfGive3 {r : Scu.Replica} (h : Rep3 r) : Rep3 (Scu.selfGive r) := by
  unfold Scu.selfGive
  split
  · exact ⟨h.1, h.2.1, by simp [Scu.give1, h.2.2.1], by simp [Scu.give1, h.2.2.2.1], h.2.2.2.2⟩
  · exact h
/-- Behind the replica's own gift. -/
structure GvmI (w : World) (base gw gr : Nat) (g : Scu.Replica) (m : Scu.Message) (A : Option Addr) (c : Nat) (ms : List Scu.Message) (gm : Nat) (wr : World) : Prop where
  work : WorkE wr base gw gr g ms
  box : Blk wr gm 31 #[.int .i64 m.kind, .int .i64 m.from_, .int .i64 m.tq, .int .i64 m.view, .int .i64 m.normal, .int .i64 m.commit, .int .i64 m.n, .slice A m.log.length c]
  low : Below base w wr
theorem onGive_e (w : World) (base gw gr : Nat) (r : Scu.Replica) (m : Scu.Message) (A : Option Addr) (c : Nat) (ms : List Scu.Message) (hW : WorkE w base gw gr r ms) (hbase : base ≤ w.heap.size) (h3 : Rep3 r) (hv0 : 0 ≤ r.kept.view) (hf0 : 0 ≤ m.from_) (hf3 : m.from_ < 3) (hx : LowStrs w base (.slice A m.log.length c) m.log) (hm : (ms.length + 8) * 80 ≤ R47) :
    Calls Try.prog 15 #[.pointer (some ⟨gw, 0, none⟩), .agg #[.int .i64 m.kind, .int .i64 m.from_, .int .i64 m.tq, .int .i64 m.view, .int .i64 m.normal, .int .i64 m.commit, .int .i64 m.n, .slice A m.log.length c]] w fun e w' => e = .returned (.tuple #[]) ∧ WorkE w' base gw gr (Scu.hearGive r m).1 (ms ++ (Scu.hearGive r m).2) ∧ Below base w w' := by
  obtain ⟨lu, hv, wv, gv, nv, ov, css, hW⟩ := hW
  have HW := Lib.hid hW
  have H3 := Lib.hid h3
  have HM := Lib.hid hm
  have HX := Lib.hid hx
  have HMB := Lib.hid (And.intro hf0 hf3)
  clear hW h3 hm hf0 hf3 hx
  go_enter Try.func15, Try.ntmps15
  go_upto_region 1 with fail
  obtain ⟨Wd, hWd⟩ : ∃ W, W = w.alloc (Obj.cells #[.int .i64 m.kind, .int .i64 m.from_, .int .i64 m.tq, .int .i64 m.view, .int .i64 m.normal, .int .i64 m.commit, .int .i64 m.n, .slice A m.log.length c] 31) := ⟨_, rfl⟩
  rw [← hWd]
  have hbw : Below w.heap.size w Wd := by rw [hWd]; exact below_alloc _ _
  have hk : Blk Wd w.heap.size 31 #[.int .i64 m.kind, .int .i64 m.from_, .int .i64 m.tq, .int .i64 m.view, .int .i64 m.normal, .int .i64 m.commit, .int .i64 m.n, .slice A m.log.length c] := by rw [hWd]; exact Blk.new _ _ _
  have HWD := Lib.hid (And.intro (HW.out.below hbw) (And.intro hk (hbw.mono hbase)))
  have hsd : base ≤ Wd.heap.size := Nat.le_trans hbase hbw.size
  have HNB := Lib.hid (show ov.ownBlock ≠ some w.heap.size from fun e => by have := (HW.out.out.row.lt _ e).2; omega)
  clear hWd hbw hk
  have d0 := HWD.out.1.wb.cell 0
  have d1 := HWD.out.1.rb.cell 1
  have k3 := HWD.out.2.1.cell 3
  simp only [List.getElem?_toArray, List.getElem?_cons_zero, List.getElem?_cons_succ] at d0 d1 k3
  have dl := HWD.out.1.wb.lt
  have dm := HWD.out.1.rb.lt
  have dk := HWD.out.2.1.lt
  by_cases hlt : r.kept.view < m.view
  · have hwi : Scu.wantIf r m.view = Scu.want r m.view := if_pos hlt
    have HWI := Lib.hid hwi
    clear hwi
    go_wp2_with fail
    go_region
    go_upto_region 2 with fail
    obtain ⟨We, hWe⟩ : ∃ W, W = Wd.drew := ⟨_, rfl⟩
    rw [← hWe]
    have HWE := Lib.hid (show Work We base gw gr r lu hv wv gv nv ov ms css ∧ Blk We w.heap.size 31 #[.int .i64 m.kind, .int .i64 m.from_, .int .i64 m.tq, .int .i64 m.view, .int .i64 m.normal, .int .i64 m.commit, .int .i64 m.n, .slice A m.log.length c] ∧ Below base w We from by rw [hWe]; exact ⟨HWD.out.1.below (Below.refl _ _).drew, HWD.out.2.1, HWD.out.2.2.drew⟩)
    clear hWe d0 d1 k3 dl dm dk hlt
    have k3 := HWE.out.2.1.cell 3
    simp only [List.getElem?_toArray, List.getElem?_cons_zero, List.getElem?_cons_succ] at k3
    go_wp2_with fail
    refine (want_x We base gw gr r m.view lu hv wv gv nv ov ms css HWE.out.1 (Nat.le_trans hbase HWE.out.2.2.size) H3.out (Nat.le_trans (Nat.mul_le_mul_right 80 (by omega)) HM.out)).mono ?_; rintro en wt ⟨rfl, ⟨_, _, _, _, _, ov', _, hW2, hF⟩, hb2⟩
    have HT := Lib.hid (show GvmI w base gw gr (Scu.wantIf r m.view).1 m A c (ms ++ (Scu.wantIf r m.view).2) w.heap.size wt from ⟨by rw [HWI.out]; exact hW2.e, (hF _ _ HWE.out.2.1 HNB.out).1, HWE.out.2.2.trans hb2⟩)
    clear hW2 hF hb2 k3
    obtain ⟨aa, haa⟩ : ∃ aa, aa = Scu.wantIf r m.view := ⟨_, rfl⟩
    have hwk := HT.out.work
    have ha3 : Rep3 aa.1 := by rw [haa]; exact wantIf3 H3.out m.view
    have hav : 0 ≤ aa.1.kept.view := by rw [haa]; exact wantIf_view r m.view hv0
    have hal : (ms ++ aa.2).length ≤ ms.length + 3 := by rw [List.length_append, haa]; have := wantIf_len r m.view; omega
    rw [← haa] at hwk
    have HA := Lib.hid (And.intro haa.symm (And.intro ha3 (And.intro hav hal)))
    clear haa ha3 hav hal
    obtain ⟨lu5, hv5, wv5, gv5, nv5, ov5, css5, hWt⟩ := hwk
    obtain ⟨A5, n5, c5, hlu⟩ := hWt.own.is.log.form
    subst hlu
    obtain ⟨gn, cn, hnu⟩ := ones3f hWt.own.own.given HA.out.2.1.2.2.2.1
    subst hnu
    obtain ⟨gk, cg, hgu⟩ : ∃ g c, gv5 = .slice (some ⟨g, 0, none⟩) 3 c := by
      obtain ⟨kss, hks⟩ := hWt.own.giv
      have h := hks.row
      rw [HA.out.2.1.2.2.1] at h
      obtain ⟨hl, ⟨h0, hn⟩ | ⟨g', cap, cur, e1, _⟩⟩ := h
      · omega
      · exact ⟨g', cap, e1⟩
    subst hgu
    have hst : base ≤ wt.heap.size := Nat.le_trans hbase HT.out.low.size
    have hme0 : 0 ≤ aa.1.me := HA.out.2.1.2.2.2.2.1
    have hme3 : aa.1.me < 3 := HA.out.2.1.2.2.2.2.2
    have d0 := hWt.wb.cell 0
    have dr0 := hWt.rb.cell 0
    have d1 := hWt.rb.cell 1
    have d2 := hWt.rb.cell 2
    have d3 := hWt.rb.cell 3
    have d4 := hWt.rb.cell 4
    have d5 := hWt.rb.cell 5
    have d9 := hWt.rb.cell 9
    simp only [List.getElem?_toArray, List.getElem?_cons_zero, List.getElem?_cons_succ] at d0 dr0 d1 d2 d3 d4 d5 d9
    have dl := hWt.wb.lt
    have dm := hWt.rb.lt
    have HG3 := Lib.hid (selfGive3 HA.out.2.1)
    cases hca : aa.1.kept.calm with
    | true =>
      have hbeg := hearGive_1 HA.out.1 hca
      rw [hca] at d3
      have HBEG := Lib.hid hbeg
      have HWT := Lib.hid hWt
      clear hbeg hWt hca
      go_wp2
      refine bodyPost_ret (v := .tuple #[]) (by simp [results, Try.results15]) rfl ?_
      rw [HBEG.out]
      exact ⟨rfl, HWT.out.e, HT.out.low⟩
    | false =>
      rw [hca] at d3
      obtain ⟨hgb, ⟨cur, hB⟩, hcw, hfw, hxx⟩ := ones3' hWt.own.own.given HA.out.2.1.2.2.2.1
      obtain ⟨b, hb⟩ : ∃ b, b = aa.1.given.getD aa.1.me.toNat false := ⟨_, rfl⟩
      have dw : wt.cell? ⟨gn, aa.1.me.toNat, none⟩ = some (.bool b) := by
        have hlt : aa.1.me.toNat < aa.1.given.length := by rw [HA.out.2.1.2.2.2.1]; omega
        rw [hxx _ (by omega), List.getElem?_map, List.getElem?_eq_getElem hlt, hb, List.getD_eq_getElem?_getD, List.getElem?_eq_getElem hlt]
        rfl
      have HBB := Lib.hid (And.intro hb hca)
      have HWT := Lib.hid hWt
      clear hxx hcw hfw hB hgb hb hWt
      obtain ⟨gg, hgg⟩ : ∃ gg, Scu.selfGive aa.1 = gg := ⟨_, rfl⟩
      have hbeg := hearGive_2 HA.out.1 (by rw [hca]; decide) hgg
      rw [hgg] at HG3
      have HBEG := Lib.hid hbeg
      have HGG := Lib.hid hgg
      clear hbeg hca hgg
      cases b with
      | true =>
        have hge : gg = aa.1 := by
          rw [← HGG.out]
          unfold Scu.selfGive
          rw [← HBB.out.1, if_neg (by decide)]
        have HGE := Lib.hid hge
        clear hge
        go_wp2_with fail
        go_region
        go_upto_region 7 with fail
        obtain ⟨wq, hwq⟩ : ∃ W, W = wt.drew := ⟨_, rfl⟩
        rw [← hwq]
        have HQ := Lib.hid (show GvmI w base gw gr gg m A c (ms ++ aa.2) w.heap.size wq from by rw [hwq, HGE.out]; exact ⟨(HWT.out.below (Below.refl _ _).drew).e, HT.out.box, HT.out.low.drew⟩)
        clear hwq d0 dr0 d1 d2 d3 d4 d5 d9 dl dm dw
        have hsq : base ≤ wq.heap.size := Nat.le_trans hbase HQ.out.low.size
        have k1 := HQ.out.box.cell 1
        have k3 := HQ.out.box.cell 3
        have k4 := HQ.out.box.cell 4
        have k5 := HQ.out.box.cell 5
        have k7 := HQ.out.box.cell 7
        simp only [List.getElem?_toArray, List.getElem?_cons_zero, List.getElem?_cons_succ] at k1 k3 k4 k5 k7
        have dk := HQ.out.box.lt
        go_wp2_with fail
        have H := take_t wq base gw gr gg m.from_ ⟨m.view, m.normal, false, m.log, m.commit⟩ A m.log.length c (ms ++ aa.2) HQ.out.work hsq HG3.out HMB.out.1 HMB.out.2 (show IsStrs wq base (.slice A m.log.length c) m.log from (HX.out.keep HQ.out.low).is hsq) (Nat.le_trans (Nat.mul_le_mul_right 80 (by have := HA.out.2.2.2; omega)) HM.out)
        refine H.mono ?_
        clear H
        rintro en w4 ⟨rfl, hW4, hb4⟩
        have HZ := Lib.hid (And.intro hW4 (HQ.out.low.trans hb4))
        clear hW4 hb4
        rename_i KK hKK
        refine hKK _ _ ?_
        dsimp only [wpList]
        go_end0
        rw [HBEG.out]
        refine ⟨rfl, ?_, HZ.out.2⟩
        rw [← List.append_assoc]
        exact HZ.out.1
      | false =>
        have hge : gg = Scu.give1 aa.1 aa.1.me aa.1.kept := by
          rw [← HGG.out]
          unfold Scu.selfGive
          rw [← HBB.out.1, if_pos rfl]
        have HGE := Lib.hid hge
        clear hge
        go_wp2_with fail
        go_region
        go_upto_region 6 with fail
        obtain ⟨We, hWe⟩ : ∃ W, W = (wt.alloc (Obj.cells #[.int .i64 aa.1.kept.view, .int .i64 aa.1.kept.normal, .bool false, .slice A5 n5 c5, .int .i64 aa.1.kept.commit] 24)).drew := ⟨_, rfl⟩
        rw [← hWe]
        have hbe : Below wt.heap.size wt We := by rw [hWe]; exact (below_alloc _ _).drew
        have hk : Blk We wt.heap.size 24 #[.int .i64 aa.1.kept.view, .int .i64 aa.1.kept.normal, .bool false, .slice A5 n5 c5, .int .i64 aa.1.kept.commit] := by rw [hWe]; exact (Blk.new _ _ _).drew
        have hWk := HWT.out.below hbe
        obtain ⟨kss, hks⟩ := HWT.out.own.giv
        obtain ⟨_, kcur, hkB⟩ := own_blk? hks.row
        obtain ⟨_, ⟨ncur, hnB⟩, _⟩ := ones3' HWT.out.own.own.given HA.out.2.1.2.2.2.1
        have n1 : gw ≠ gk := blk_ne HWT.out.wb hkB (by decide)
        have n2 : gr ≠ gk := blk_ne HWT.out.rb hkB (by decide)
        have n3 : wt.heap.size ≠ gk := by have := hkB.lt; omega
        have n4 : gw ≠ gn := blk_ne HWT.out.wb hnB (by decide)
        have n5' : gr ≠ gn := blk_ne HWT.out.rb hnB (by decide)
        have n6 : wt.heap.size ≠ gn := by have := hnB.lt; omega
        have n7 : gn ≠ gk := blk_ne hnB hkB (by decide)
        clear hks hkB hnB hWe d0 dr0 d1 d2 d3 d4 d5 d9 dl dm dw
        have d0 := hWk.wb.cell 0
        have dr0 := hWk.rb.cell 0
        have d8 := hWk.rb.cell 8
        have d9 := hWk.rb.cell 9
        have k0 := hk.cell 0
        have k1 := hk.cell 1
        have k3 := hk.cell 3
        have k4 := hk.cell 4
        simp only [List.getElem?_toArray, List.getElem?_cons_zero, List.getElem?_cons_succ] at d0 dr0 d8 d9 k0 k1 k3 k4
        have dl := hWk.wb.lt
        have dm := hWk.rb.lt
        have dk := hk.lt
        have HWE := Lib.hid (And.intro hWk (And.intro hk hbe))
        clear hWk hk hbe
        go_wp2_with fail
        go_region_held3 (fun w' => w'.cell? ⟨gw, 0, none⟩ = some (.pointer (some ⟨gr, 0, none⟩)) ∧ w'.cell? ⟨gr, 0, none⟩ = some (.int .i64 aa.1.me) ∧ w'.cell? ⟨gr, 8, none⟩ = some (.slice (some ⟨gk, 0, none⟩) 3 cg) ∧ w'.cell? ⟨gr, 9, none⟩ = some (.slice (some ⟨gn, 0, none⟩) 3 cn) ∧ w'.cell? ⟨wt.heap.size, 0, none⟩ = some (.int .i64 aa.1.kept.view) ∧ w'.cell? ⟨wt.heap.size, 1, none⟩ = some (.int .i64 aa.1.kept.normal) ∧ w'.cell? ⟨wt.heap.size, 3, none⟩ = some (.slice A5 n5 c5) ∧ w'.cell? ⟨wt.heap.size, 4, none⟩ = some (.int .i64 aa.1.kept.commit))
          (first | (go_split_ands; (try dsimp only); (repeat' apply And.intro) <;> first | (with_reducible assumption) | (with_reducible (refine (cell_far ?_ _).trans ((cell_far5 ?_).trans ?_) <;> assumption)) | (with_reducible (refine (cell_far5 ?_).trans ?_ <;> assumption))) | (go_split_ands; (try dsimp only); exact ⟨d0, dr0, d8, d9, k0, k1, k3, k4⟩))
          (first
            | (go_at_call 25; refine (cloneStrs_c _ aa.1.kept.log _ 0 ?_).mono ?_; exact HWE.out.1.own.is.log.drewN 1; rintro en x1 ⟨⟨v1, rfl, hu⟩, k1'⟩
               refine use (P := Below We.heap.size We x1) ?_ ?_
               exact (below_drewN (Below.refl _ _) 1).trans k1'
               intro nn1
               have M1 := Lib.hid nn1
               obtain ⟨Au, cu, rfl, _, _, _, _⟩ := rd_own hu
               have HU := Lib.hid hu
               have hW1 := HWE.out.1.below nn1
               obtain ⟨kss, hks⟩ := hW1.own.giv
               have h3g : aa.1.gives.length = 3 := HA.out.2.1.2.2.1
               obtain ⟨gz, lg, y0, y1, y2, y3, y4, _⟩ := hks.cells (i := aa.1.me.toNat) (by omega)
               obtain ⟨_, _, hc, nz, _⟩ := ones3' hW1.own.own.given HA.out.2.1.2.2.2.1
               obtain ⟨un, yn⟩ := Option.isSome_iff_exists.1 (hc aa.1.me.toNat (by omega))
               have HW1 := Lib.hid hW1
               have yn5 : (((((x1.setCell ⟨gk, aa.1.me.toNat * 5, none⟩ (.int .i64 aa.1.kept.view)).setCell ⟨gk, aa.1.me.toNat * 5 + 1, none⟩ (.int .i64 aa.1.kept.normal)).setCell ⟨gk, aa.1.me.toNat * 5 + 2, none⟩ (.bool false)).setCell ⟨gk, aa.1.me.toNat * 5 + 3, none⟩ (.slice Au aa.1.kept.log.length cu)).setCell ⟨gk, aa.1.me.toNat * 5 + 4, none⟩ (.int .i64 aa.1.kept.commit)).cell? ⟨gn, aa.1.me.toNat, none⟩ = some un := (cell_far5 n7).trans yn
               have e0 := (nn1.cell (p := ⟨gw, 0, none⟩) dl).trans d0
               have er0 := (nn1.cell (p := ⟨gr, 0, none⟩) dm).trans dr0
               have e8 := (nn1.cell (p := ⟨gr, 8, none⟩) dm).trans d8
               have e9 := (nn1.cell (p := ⟨gr, 9, none⟩) dm).trans d9
               have b0 := (nn1.cell (p := ⟨wt.heap.size, 0, none⟩) dk).trans k0
               have b1 := (nn1.cell (p := ⟨wt.heap.size, 1, none⟩) dk).trans k1
               have b3 := (nn1.cell (p := ⟨wt.heap.size, 3, none⟩) dk).trans k3
               have b4 := (nn1.cell (p := ⟨wt.heap.size, 4, none⟩) dk).trans k4
               clear nn1 hu k1' hks hc hW1))
        all_goals
          rename_i hHeld
          clear hHeld
          obtain ⟨wq, hwq⟩ : ∃ W, W = (((((x1.setCell ⟨gk, aa.1.me.toNat * 5, none⟩ (.int .i64 aa.1.kept.view)).setCell ⟨gk, aa.1.me.toNat * 5 + 1, none⟩ (.int .i64 aa.1.kept.normal)).setCell ⟨gk, aa.1.me.toNat * 5 + 2, none⟩ (.bool false)).setCell ⟨gk, aa.1.me.toNat * 5 + 3, none⟩ (.slice Au aa.1.kept.log.length cu)).setCell ⟨gk, aa.1.me.toNat * 5 + 4, none⟩ (.int .i64 aa.1.kept.commit)).setCell ⟨gn, aa.1.me.toNat, none⟩ (.bool true) := ⟨_, rfl⟩
          rw [← hwq]
          have HQ := Lib.hid (show GvmI w base gw gr gg m A c (ms ++ aa.2) w.heap.size wq from by
            have hxl : IsStrs x1 0 (.slice Au aa.1.kept.log.length cu) (Scu.own aa.1.kept).log := strs_own HU.out HWT.out.own.is.log.len HWT.out.own.is.log.each
            obtain ⟨a1, a2⟩ := HW1.out.put_gives (i := aa.1.me.toNat) (by omega) hxl
            obtain ⟨hb, cur, hB⟩ := own_blk? a1.own.own.given.1
            obtain ⟨c1, c2, _⟩ := a1.put_given hB hb aa.1.me.toNat true
            obtain ⟨kss, hks⟩ := HW1.out.own.giv
            obtain ⟨_, kcur, hkB⟩ := own_blk? hks.row
            have hxb := (HT.out.box.same HWE.out.2.2).same M1.out
            have hs6 := Same.set_ (Ts := [31]) hB (Nat.zero_le _) (by decide) aa.1.me.toNat (.bool true)
            rw [hwq, HGE.out]
            exact ⟨c1.e, blk_keep (blk_keep hxb (Same.set5 (Ts := [31]) hkB (by decide) _ _ _ _ _ _ _ _ _ _) (by simp)) hs6 (by simp), (((HT.out.low.trans (HWE.out.2.2.mono hst)).trans (M1.out.mono (Nat.le_trans hst HWE.out.2.2.size))).trans a2).trans c2⟩)
          clear hwq yn5 e0 er0 e8 e9 b0 b1 b3 b4 gz y0 y1 y2 y3 y4 nz yn d0 dr0 d8 d9 k0 k1 k3 k4 dl dm dk
          have hsq : base ≤ wq.heap.size := Nat.le_trans hbase HQ.out.low.size
          have k1 := HQ.out.box.cell 1
          have k3 := HQ.out.box.cell 3
          have k4 := HQ.out.box.cell 4
          have k5 := HQ.out.box.cell 5
          have k7 := HQ.out.box.cell 7
          simp only [List.getElem?_toArray, List.getElem?_cons_zero, List.getElem?_cons_succ] at k1 k3 k4 k5 k7
          have dk := HQ.out.box.lt
          go_wp2_with fail
          have H := take_t wq base gw gr gg m.from_ ⟨m.view, m.normal, false, m.log, m.commit⟩ A m.log.length c (ms ++ aa.2) HQ.out.work hsq HG3.out HMB.out.1 HMB.out.2 (show IsStrs wq base (.slice A m.log.length c) m.log from (HX.out.keep HQ.out.low).is hsq) (Nat.le_trans (Nat.mul_le_mul_right 80 (by have := HA.out.2.2.2; omega)) HM.out)
          refine H.mono ?_
          clear H
          rintro en w4 ⟨rfl, hW4, hb4⟩
          have HZ := Lib.hid (And.intro hW4 (HQ.out.low.trans hb4))
          clear hW4 hb4
          rename_i KK hKK
          refine hKK _ _ ?_
          dsimp only [wpList]
          go_end0
          rw [HBEG.out]
          refine ⟨rfl, ?_, HZ.out.2⟩
          rw [← List.append_assoc]
          exact HZ.out.1
  · have hwi : Scu.wantIf r m.view = (r, []) := if_neg hlt
    have HWI := Lib.hid hwi
    clear hwi
    go_wp2_with fail
    go_region
    go_upto_region 3 with fail
    obtain ⟨wt, hwt⟩ : ∃ W, W = Wd.drew := ⟨_, rfl⟩
    rw [← hwt]
    have HT := Lib.hid (show GvmI w base gw gr (Scu.wantIf r m.view).1 m A c (ms ++ (Scu.wantIf r m.view).2) w.heap.size wt from by rw [hwt]; exact ⟨by rw [HWI.out, List.append_nil]; exact (HWD.out.1.below (Below.refl _ _).drew).e, HWD.out.2.1, HWD.out.2.2.drew⟩)
    clear hwt d0 d1 k3 dl dm dk hlt
    obtain ⟨aa, haa⟩ : ∃ aa, aa = Scu.wantIf r m.view := ⟨_, rfl⟩
    have hwk := HT.out.work
    have ha3 : Rep3 aa.1 := by rw [haa]; exact wantIf3 H3.out m.view
    have hav : 0 ≤ aa.1.kept.view := by rw [haa]; exact wantIf_view r m.view hv0
    have hal : (ms ++ aa.2).length ≤ ms.length + 3 := by rw [List.length_append, haa]; have := wantIf_len r m.view; omega
    rw [← haa] at hwk
    have HA := Lib.hid (And.intro haa.symm (And.intro ha3 (And.intro hav hal)))
    clear haa ha3 hav hal
    obtain ⟨lu5, hv5, wv5, gv5, nv5, ov5, css5, hWt⟩ := hwk
    obtain ⟨A5, n5, c5, hlu⟩ := hWt.own.is.log.form
    subst hlu
    obtain ⟨gn, cn, hnu⟩ := ones3f hWt.own.own.given HA.out.2.1.2.2.2.1
    subst hnu
    obtain ⟨gk, cg, hgu⟩ : ∃ g c, gv5 = .slice (some ⟨g, 0, none⟩) 3 c := by
      obtain ⟨kss, hks⟩ := hWt.own.giv
      have h := hks.row
      rw [HA.out.2.1.2.2.1] at h
      obtain ⟨hl, ⟨h0, hn⟩ | ⟨g', cap, cur, e1, _⟩⟩ := h
      · omega
      · exact ⟨g', cap, e1⟩
    subst hgu
    have hst : base ≤ wt.heap.size := Nat.le_trans hbase HT.out.low.size
    have hme0 : 0 ≤ aa.1.me := HA.out.2.1.2.2.2.2.1
    have hme3 : aa.1.me < 3 := HA.out.2.1.2.2.2.2.2
    have d0 := hWt.wb.cell 0
    have dr0 := hWt.rb.cell 0
    have d1 := hWt.rb.cell 1
    have d2 := hWt.rb.cell 2
    have d3 := hWt.rb.cell 3
    have d4 := hWt.rb.cell 4
    have d5 := hWt.rb.cell 5
    have d9 := hWt.rb.cell 9
    simp only [List.getElem?_toArray, List.getElem?_cons_zero, List.getElem?_cons_succ] at d0 dr0 d1 d2 d3 d4 d5 d9
    have dl := hWt.wb.lt
    have dm := hWt.rb.lt
    have HG3 := Lib.hid (selfGive3 HA.out.2.1)
    cases hca : aa.1.kept.calm with
    | true =>
      have hbeg := hearGive_1 HA.out.1 hca
      rw [hca] at d3
      have HBEG := Lib.hid hbeg
      have HWT := Lib.hid hWt
      clear hbeg hWt hca
      go_wp2
      refine bodyPost_ret (v := .tuple #[]) (by simp [results, Try.results15]) rfl ?_
      rw [HBEG.out]
      exact ⟨rfl, HWT.out.e, HT.out.low⟩
    | false =>
      rw [hca] at d3
      obtain ⟨hgb, ⟨cur, hB⟩, hcw, hfw, hxx⟩ := ones3' hWt.own.own.given HA.out.2.1.2.2.2.1
      obtain ⟨b, hb⟩ : ∃ b, b = aa.1.given.getD aa.1.me.toNat false := ⟨_, rfl⟩
      have dw : wt.cell? ⟨gn, aa.1.me.toNat, none⟩ = some (.bool b) := by
        have hlt : aa.1.me.toNat < aa.1.given.length := by rw [HA.out.2.1.2.2.2.1]; omega
        rw [hxx _ (by omega), List.getElem?_map, List.getElem?_eq_getElem hlt, hb, List.getD_eq_getElem?_getD, List.getElem?_eq_getElem hlt]
        rfl
      have HBB := Lib.hid (And.intro hb hca)
      have HWT := Lib.hid hWt
      clear hxx hcw hfw hB hgb hb hWt
      obtain ⟨gg, hgg⟩ : ∃ gg, Scu.selfGive aa.1 = gg := ⟨_, rfl⟩
      have hbeg := hearGive_2 HA.out.1 (by rw [hca]; decide) hgg
      rw [hgg] at HG3
      have HBEG := Lib.hid hbeg
      have HGG := Lib.hid hgg
      clear hbeg hca hgg
      cases b with
      | true =>
        have hge : gg = aa.1 := by
          rw [← HGG.out]
          unfold Scu.selfGive
          rw [← HBB.out.1, if_neg (by decide)]
        have HGE := Lib.hid hge
        clear hge
        go_wp2_with fail
        go_region
        go_upto_region 7 with fail
        obtain ⟨wq, hwq⟩ : ∃ W, W = wt.drew := ⟨_, rfl⟩
        rw [← hwq]
        have HQ := Lib.hid (show GvmI w base gw gr gg m A c (ms ++ aa.2) w.heap.size wq from by rw [hwq, HGE.out]; exact ⟨(HWT.out.below (Below.refl _ _).drew).e, HT.out.box, HT.out.low.drew⟩)
        clear hwq d0 dr0 d1 d2 d3 d4 d5 d9 dl dm dw
        have hsq : base ≤ wq.heap.size := Nat.le_trans hbase HQ.out.low.size
        have k1 := HQ.out.box.cell 1
        have k3 := HQ.out.box.cell 3
        have k4 := HQ.out.box.cell 4
        have k5 := HQ.out.box.cell 5
        have k7 := HQ.out.box.cell 7
        simp only [List.getElem?_toArray, List.getElem?_cons_zero, List.getElem?_cons_succ] at k1 k3 k4 k5 k7
        have dk := HQ.out.box.lt
        go_wp2_with fail
        have H := take_t wq base gw gr gg m.from_ ⟨m.view, m.normal, false, m.log, m.commit⟩ A m.log.length c (ms ++ aa.2) HQ.out.work hsq HG3.out HMB.out.1 HMB.out.2 (show IsStrs wq base (.slice A m.log.length c) m.log from (HX.out.keep HQ.out.low).is hsq) (Nat.le_trans (Nat.mul_le_mul_right 80 (by have := HA.out.2.2.2; omega)) HM.out)
        refine H.mono ?_
        clear H
        rintro en w4 ⟨rfl, hW4, hb4⟩
        have HZ := Lib.hid (And.intro hW4 (HQ.out.low.trans hb4))
        clear hW4 hb4
        rename_i KK hKK
        refine hKK _ _ ?_
        dsimp only [wpList]
        go_end0
        rw [HBEG.out]
        refine ⟨rfl, ?_, HZ.out.2⟩
        rw [← List.append_assoc]
        exact HZ.out.1
      | false =>
        have hge : gg = Scu.give1 aa.1 aa.1.me aa.1.kept := by
          rw [← HGG.out]
          unfold Scu.selfGive
          rw [← HBB.out.1, if_pos rfl]
        have HGE := Lib.hid hge
        clear hge
        go_wp2_with fail
        go_region
        go_upto_region 6 with fail
        obtain ⟨We, hWe⟩ : ∃ W, W = (wt.alloc (Obj.cells #[.int .i64 aa.1.kept.view, .int .i64 aa.1.kept.normal, .bool false, .slice A5 n5 c5, .int .i64 aa.1.kept.commit] 24)).drew := ⟨_, rfl⟩
        rw [← hWe]
        have hbe : Below wt.heap.size wt We := by rw [hWe]; exact (below_alloc _ _).drew
        have hk : Blk We wt.heap.size 24 #[.int .i64 aa.1.kept.view, .int .i64 aa.1.kept.normal, .bool false, .slice A5 n5 c5, .int .i64 aa.1.kept.commit] := by rw [hWe]; exact (Blk.new _ _ _).drew
        have hWk := HWT.out.below hbe
        obtain ⟨kss, hks⟩ := HWT.out.own.giv
        obtain ⟨_, kcur, hkB⟩ := own_blk? hks.row
        obtain ⟨_, ⟨ncur, hnB⟩, _⟩ := ones3' HWT.out.own.own.given HA.out.2.1.2.2.2.1
        have n1 : gw ≠ gk := blk_ne HWT.out.wb hkB (by decide)
        have n2 : gr ≠ gk := blk_ne HWT.out.rb hkB (by decide)
        have n3 : wt.heap.size ≠ gk := by have := hkB.lt; omega
        have n4 : gw ≠ gn := blk_ne HWT.out.wb hnB (by decide)
        have n5' : gr ≠ gn := blk_ne HWT.out.rb hnB (by decide)
        have n6 : wt.heap.size ≠ gn := by have := hnB.lt; omega
        have n7 : gn ≠ gk := blk_ne hnB hkB (by decide)
        clear hks hkB hnB hWe d0 dr0 d1 d2 d3 d4 d5 d9 dl dm dw
        have d0 := hWk.wb.cell 0
        have dr0 := hWk.rb.cell 0
        have d8 := hWk.rb.cell 8
        have d9 := hWk.rb.cell 9
        have k0 := hk.cell 0
        have k1 := hk.cell 1
        have k3 := hk.cell 3
        have k4 := hk.cell 4
        simp only [List.getElem?_toArray, List.getElem?_cons_zero, List.getElem?_cons_succ] at d0 dr0 d8 d9 k0 k1 k3 k4
        have dl := hWk.wb.lt
        have dm := hWk.rb.lt
        have dk := hk.lt
        have HWE := Lib.hid (And.intro hWk (And.intro hk hbe))
        clear hWk hk hbe
        go_wp2_with fail
        go_region_held3 (fun w' => w'.cell? ⟨gw, 0, none⟩ = some (.pointer (some ⟨gr, 0, none⟩)) ∧ w'.cell? ⟨gr, 0, none⟩ = some (.int .i64 aa.1.me) ∧ w'.cell? ⟨gr, 8, none⟩ = some (.slice (some ⟨gk, 0, none⟩) 3 cg) ∧ w'.cell? ⟨gr, 9, none⟩ = some (.slice (some ⟨gn, 0, none⟩) 3 cn) ∧ w'.cell? ⟨wt.heap.size, 0, none⟩ = some (.int .i64 aa.1.kept.view) ∧ w'.cell? ⟨wt.heap.size, 1, none⟩ = some (.int .i64 aa.1.kept.normal) ∧ w'.cell? ⟨wt.heap.size, 3, none⟩ = some (.slice A5 n5 c5) ∧ w'.cell? ⟨wt.heap.size, 4, none⟩ = some (.int .i64 aa.1.kept.commit))
          (first | (go_split_ands; (try dsimp only); (repeat' apply And.intro) <;> first | (with_reducible assumption) | (with_reducible (refine (cell_far ?_ _).trans ((cell_far5 ?_).trans ?_) <;> assumption)) | (with_reducible (refine (cell_far5 ?_).trans ?_ <;> assumption))) | (go_split_ands; (try dsimp only); exact ⟨d0, dr0, d8, d9, k0, k1, k3, k4⟩))
          (first
            | (go_at_call 25; refine (cloneStrs_c _ aa.1.kept.log _ 0 ?_).mono ?_; exact HWE.out.1.own.is.log.drewN 1; rintro en x1 ⟨⟨v1, rfl, hu⟩, k1'⟩
               refine use (P := Below We.heap.size We x1) ?_ ?_
               exact (below_drewN (Below.refl _ _) 1).trans k1'
               intro nn1
               have M1 := Lib.hid nn1
               obtain ⟨Au, cu, rfl, _, _, _, _⟩ := rd_own hu
               have HU := Lib.hid hu
               have hW1 := HWE.out.1.below nn1
               obtain ⟨kss, hks⟩ := hW1.own.giv
               have h3g : aa.1.gives.length = 3 := HA.out.2.1.2.2.1
               obtain ⟨gz, lg, y0, y1, y2, y3, y4, _⟩ := hks.cells (i := aa.1.me.toNat) (by omega)
               obtain ⟨_, _, hc, nz, _⟩ := ones3' hW1.own.own.given HA.out.2.1.2.2.2.1
               obtain ⟨un, yn⟩ := Option.isSome_iff_exists.1 (hc aa.1.me.toNat (by omega))
               have HW1 := Lib.hid hW1
               have yn5 : (((((x1.setCell ⟨gk, aa.1.me.toNat * 5, none⟩ (.int .i64 aa.1.kept.view)).setCell ⟨gk, aa.1.me.toNat * 5 + 1, none⟩ (.int .i64 aa.1.kept.normal)).setCell ⟨gk, aa.1.me.toNat * 5 + 2, none⟩ (.bool false)).setCell ⟨gk, aa.1.me.toNat * 5 + 3, none⟩ (.slice Au aa.1.kept.log.length cu)).setCell ⟨gk, aa.1.me.toNat * 5 + 4, none⟩ (.int .i64 aa.1.kept.commit)).cell? ⟨gn, aa.1.me.toNat, none⟩ = some un := (cell_far5 n7).trans yn
               have e0 := (nn1.cell (p := ⟨gw, 0, none⟩) dl).trans d0
               have er0 := (nn1.cell (p := ⟨gr, 0, none⟩) dm).trans dr0
               have e8 := (nn1.cell (p := ⟨gr, 8, none⟩) dm).trans d8
               have e9 := (nn1.cell (p := ⟨gr, 9, none⟩) dm).trans d9
               have b0 := (nn1.cell (p := ⟨wt.heap.size, 0, none⟩) dk).trans k0
               have b1 := (nn1.cell (p := ⟨wt.heap.size, 1, none⟩) dk).trans k1
               have b3 := (nn1.cell (p := ⟨wt.heap.size, 3, none⟩) dk).trans k3
               have b4 := (nn1.cell (p := ⟨wt.heap.size, 4, none⟩) dk).trans k4
               clear nn1 hu k1' hks hc hW1))
        all_goals
          rename_i hHeld
          clear hHeld
          obtain ⟨wq, hwq⟩ : ∃ W, W = (((((x1.setCell ⟨gk, aa.1.me.toNat * 5, none⟩ (.int .i64 aa.1.kept.view)).setCell ⟨gk, aa.1.me.toNat * 5 + 1, none⟩ (.int .i64 aa.1.kept.normal)).setCell ⟨gk, aa.1.me.toNat * 5 + 2, none⟩ (.bool false)).setCell ⟨gk, aa.1.me.toNat * 5 + 3, none⟩ (.slice Au aa.1.kept.log.length cu)).setCell ⟨gk, aa.1.me.toNat * 5 + 4, none⟩ (.int .i64 aa.1.kept.commit)).setCell ⟨gn, aa.1.me.toNat, none⟩ (.bool true) := ⟨_, rfl⟩
          rw [← hwq]
          have HQ := Lib.hid (show GvmI w base gw gr gg m A c (ms ++ aa.2) w.heap.size wq from by
            have hxl : IsStrs x1 0 (.slice Au aa.1.kept.log.length cu) (Scu.own aa.1.kept).log := strs_own HU.out HWT.out.own.is.log.len HWT.out.own.is.log.each
            obtain ⟨a1, a2⟩ := HW1.out.put_gives (i := aa.1.me.toNat) (by omega) hxl
            obtain ⟨hb, cur, hB⟩ := own_blk? a1.own.own.given.1
            obtain ⟨c1, c2, _⟩ := a1.put_given hB hb aa.1.me.toNat true
            obtain ⟨kss, hks⟩ := HW1.out.own.giv
            obtain ⟨_, kcur, hkB⟩ := own_blk? hks.row
            have hxb := (HT.out.box.same HWE.out.2.2).same M1.out
            have hs6 := Same.set_ (Ts := [31]) hB (Nat.zero_le _) (by decide) aa.1.me.toNat (.bool true)
            rw [hwq, HGE.out]
            exact ⟨c1.e, blk_keep (blk_keep hxb (Same.set5 (Ts := [31]) hkB (by decide) _ _ _ _ _ _ _ _ _ _) (by simp)) hs6 (by simp), (((HT.out.low.trans (HWE.out.2.2.mono hst)).trans (M1.out.mono (Nat.le_trans hst HWE.out.2.2.size))).trans a2).trans c2⟩)
          clear hwq yn5 e0 er0 e8 e9 b0 b1 b3 b4 gz y0 y1 y2 y3 y4 nz yn d0 dr0 d8 d9 k0 k1 k3 k4 dl dm dk
          have hsq : base ≤ wq.heap.size := Nat.le_trans hbase HQ.out.low.size
          have k1 := HQ.out.box.cell 1
          have k3 := HQ.out.box.cell 3
          have k4 := HQ.out.box.cell 4
          have k5 := HQ.out.box.cell 5
          have k7 := HQ.out.box.cell 7
          simp only [List.getElem?_toArray, List.getElem?_cons_zero, List.getElem?_cons_succ] at k1 k3 k4 k5 k7
          have dk := HQ.out.box.lt
          go_wp2_with fail
          have H := take_t wq base gw gr gg m.from_ ⟨m.view, m.normal, false, m.log, m.commit⟩ A m.log.length c (ms ++ aa.2) HQ.out.work hsq HG3.out HMB.out.1 HMB.out.2 (show IsStrs wq base (.slice A m.log.length c) m.log from (HX.out.keep HQ.out.low).is hsq) (Nat.le_trans (Nat.mul_le_mul_right 80 (by have := HA.out.2.2.2; omega)) HM.out)
          refine H.mono ?_
          clear H
          rintro en w4 ⟨rfl, hW4, hb4⟩
          have HZ := Lib.hid (And.intro hW4 (HQ.out.low.trans hb4))
          clear hW4 hb4
          rename_i KK hKK
          refine hKK _ _ ?_
          dsimp only [wpList]
          go_end0
          rw [HBEG.out]
          refine ⟨rfl, ?_, HZ.out.2⟩
          rw [← List.append_assoc]
          exact HZ.out.1
end Go.Proofs.Ytlaibljdlpmbfaa

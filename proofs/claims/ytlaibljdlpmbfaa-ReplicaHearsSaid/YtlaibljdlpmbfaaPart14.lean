/- Part 14: words and walks under the law 'ReplicaHears'. -/
import Derived.Test.YtlaibljdlpmbfaaPart8
import Derived.BigRegion
import Derived.StillTailTactics
import Derived.Deep.RegionLaw
import Derived.Deep.DeepCutAuto
import Derived.Test.YtlaibljdlpmbfaaPart9
set_option linter.unusedVariables false
set_option linter.unusedSimpArgs false
/- Walks: work.onLead. -/
namespace Go.Proofs.Ytlaibljdlpmbfaa
set_option linter.unusedVariables false
set_option linter.unusedSimpArgs false
open Go.RowKit
set_option maxHeartbeats 8000000
set_option maxRecDepth 100000

/-- Behind the statement that takes the leader's log. -/
structure LdI (base gw gr gm : Nat) (rr : Scu.Replica) (m : Scu.Message) (A : Option Addr) (c : Nat) (ms : List Scu.Message) (w wr : World) : Prop where
  work : WorkE wr base gw gr rr ms
  box : Blk wr gm 31 #[.int .i64 m.kind, .int .i64 m.from_, .int .i64 m.tq, .int .i64 m.view, .int .i64 m.normal, .int .i64 m.commit, .int .i64 m.n, .slice A m.log.length c]
  low : Below base w wr
def Scu.leadTake (r : Scu.Replica) (m : Scu.Message) : Scu.Replica :=
  if r.kept.view < m.view ∨ r.kept.calm = false then
    Scu.fresh { r with kept := ⟨m.view, m.view, true, m.log, max m.commit (min r.kept.commit m.log.length)⟩ }
  else if r.kept.log.length < m.log.length then { r with kept := { r.kept with log := m.log } } else r
theorem leadTake_me (r : Scu.Replica) (m : Scu.Message) : (Scu.leadTake r m).me = r.me := by unfold Scu.leadTake; split; rfl; split <;> rfl
theorem hearLead_eq (r : Scu.Replica) (m : Scu.Message) : Scu.hearLead r m = ({ Scu.leadTake r m with kept := { (Scu.leadTake r m).kept with commit := max (Scu.leadTake r m).kept.commit (min m.commit (Scu.leadTake r m).kept.log.length) } },
    [⟨2, r.me, m.from_, (Scu.leadTake r m).kept.view, 0, 0, (Scu.leadTake r m).kept.log.length, []⟩]) := rfl
theorem onLead_e (w : World) (base gw gr : Nat) (r : Scu.Replica) (m : Scu.Message) (A : Option Addr) (c : Nat) (ms : List Scu.Message) (hW : WorkE w base gw gr r ms) (hbase : base ≤ w.heap.size) (h3 : Rep3 r) (hx : LowStrs w base (.slice A m.log.length c) m.log) (hft : m.from_ ≠ r.me) (hm : (ms.length + 4) * 80 ≤ R47) :
    Calls Try.prog 12 #[.pointer (some ⟨gw, 0, none⟩), .agg #[.int .i64 m.kind, .int .i64 m.from_, .int .i64 m.tq, .int .i64 m.view, .int .i64 m.normal, .int .i64 m.commit, .int .i64 m.n, .slice A m.log.length c]] w fun e w' => e = .returned (.tuple #[]) ∧ WorkE w' base gw gr (Scu.hearLead r m).1 (ms ++ (Scu.hearLead r m).2) ∧ Below base w w' := by
  obtain ⟨lu, hv, wv, gv, nv, ov, css, hW⟩ := hW
  obtain ⟨Al, nl, cl, rfl⟩ := hW.own.is.log.form
  have hnl : nl = r.kept.log.length := by
    obtain ⟨A', c', e, _⟩ := hW.own.is.log.ex
    cases e
    rfl
  subst hnl
  have HW := Lib.hid hW
  have H3 := Lib.hid (And.intro h3 hft)
  have HM := Lib.hid hm
  have HX := Lib.hid hx
  rw [hearLead_eq]
  obtain ⟨rr, hrr⟩ : ∃ rr, rr = Scu.leadTake r m := ⟨_, rfl⟩
  rw [← hrr]
  have HRR := Lib.hid hrr
  clear hW h3 hm hx hrr hft
  go_enter Try.func12, Try.ntmps12
  go_upto_region 1 with fail
  obtain ⟨Wd, hWd⟩ : ∃ W, W = w.alloc (Obj.cells #[.int .i64 m.kind, .int .i64 m.from_, .int .i64 m.tq, .int .i64 m.view, .int .i64 m.normal, .int .i64 m.commit, .int .i64 m.n, .slice A m.log.length c] 31) := ⟨_, rfl⟩
  rw [← hWd]
  have hbw : Below w.heap.size w Wd := by rw [hWd]; exact below_alloc _ _
  have hk : Blk Wd w.heap.size 31 #[.int .i64 m.kind, .int .i64 m.from_, .int .i64 m.tq, .int .i64 m.view, .int .i64 m.normal, .int .i64 m.commit, .int .i64 m.n, .slice A m.log.length c] := by rw [hWd]; exact Blk.new _ _ _
  have HWD := Lib.hid (And.intro (HW.out.below hbw) (And.intro hk (hbw.mono hbase)))
  have hsd : base ≤ Wd.heap.size := Nat.le_trans hbase hbw.size
  have HNB := Lib.hid (show ov.ownBlock ≠ some w.heap.size from fun e => by have := (HW.out.out.row.lt _ e).2; omega)
  clear hWd hbw hk
  have d0 := HWD.out.1.wb.cell 0
  simp only [List.getElem?_toArray, List.getElem?_cons_zero, List.getElem?_cons_succ] at d0
  have dl := HWD.out.1.wb.lt
  have dm := HWD.out.1.rb.lt
  have dk := HWD.out.2.1.lt
  by_cases hwild : r.kept.view < m.view ∨ r.kept.calm = false
  · have hrr : rr = Scu.fresh { r with kept := ⟨m.view, m.view, true, m.log, max m.commit (min r.kept.commit m.log.length)⟩ } := by
      rw [HRR.out]
      unfold Scu.leadTake
      rw [if_pos hwild]
    have HRR2 := Lib.hid hrr
    have HWILD := Lib.hid hwild
    clear hrr hwild
    go_upto_region 2 with fail
    have d1 := HWD.out.1.rb.cell 1
    have d3 := HWD.out.1.rb.cell 3
    have k3 := HWD.out.2.1.cell 3
    simp only [List.getElem?_toArray, List.getElem?_cons_zero, List.getElem?_cons_succ] at d1 d3 k3
    go_cut [11] from 12 (fun b wx => b = .bool true ∧ Below Wd.heap.size Wd wx)
    case first =>
      by_cases hv : r.kept.view < m.view
      · have hvd : decide (r.kept.view < m.view) = true := by simpa using hv
        clear hv
        go_wp2_with fail
        go_region
        go_wp2_with fail
        go_meet
        exact ⟨rfl, (Below.refl _ _).drew⟩
      · have hcf : r.kept.calm = false := HWILD.out.resolve_left hv
        rw [hcf] at d3
        have hvd : decide (r.kept.view < m.view) = false := by simpa using hv
        clear hv hcf
        go_wp2_with fail
        go_region
        go_wp2_with fail
        go_meet
        exact ⟨rfl, (Below.refl _ _).drew⟩
    case rest =>
      obtain ⟨rfl, hqq⟩ := hcut
      have HQ := Lib.hid hqq
      clear hqq d0 d1 d3 k3 dl dm dk
      obtain ⟨wq, hwq⟩ : ∃ W, W = wc := ⟨_, rfl⟩
      rw [← hwq] at HQ ⊢
      clear hwq
      have hWq := HWD.out.1.below HQ.out
      have hbq := HWD.out.2.1.same HQ.out
      have hlw : Below base w wq := HWD.out.2.2.trans (HQ.out.mono hsd)
      have hsq : base ≤ wq.heap.size := Nat.le_trans hbase hlw.size
      have d1 := hWq.rb.cell 1
      have d2 := hWq.rb.cell 2
      have d3 := hWq.rb.cell 3
      have d4 := hWq.rb.cell 4
      have d5 := hWq.rb.cell 5
      have k3 := hbq.cell 3
      have k5 := hbq.cell 5
      have k7 := hbq.cell 7
      simp only [List.getElem?_toArray, List.getElem?_cons_zero, List.getElem?_cons_succ] at d1 d2 d3 d4 d5 k3 k5 k7
      have dz := hWq.rb.frozen
      have dm := hWq.rb.lt
      have dk := hbq.lt
      have n1 : w.heap.size ≠ gr := blk_ne hbq hWq.rb (by decide)
      have HWQ := Lib.hid (And.intro hWq (And.intro hbq hlw))
      clear hWq hbq hlw
      obtain ⟨rp, hrp⟩ : ∃ x, x = { r with kept := ⟨m.view, m.view, true, m.log, max m.commit (min r.kept.commit m.log.length)⟩ } := ⟨_, rfl⟩
      have HRP := Lib.hid hrp
      clear hrp
      go_upto_region 3 with fail
      go_cut [4] from 26 (fun kp wx => kp = .pointer (some ⟨gr, 1, none⟩) ∧ LdI base gw gr w.heap.size rp m A c ms w wx)
      case first =>
        obtain ⟨S, hSd⟩ : ∃ S : World → Prop, S = fun w' => w'.cell? ⟨w.heap.size, 3, none⟩ = some (.int .i64 m.view) ∧ w'.cell? ⟨w.heap.size, 5, none⟩ = some (.int .i64 m.commit) ∧ w'.cell? ⟨w.heap.size, 7, none⟩ = some (.slice A m.log.length c) ∧ w'.cell? ⟨gr, 5, none⟩ = some (.int .i64 r.kept.commit) := ⟨_, rfl⟩
        have hS0 : S wq.drew := by rw [hSd]; exact ⟨k3, k5, k7, d5⟩
        go_wp2_with fail
        refine wp_region_E S 21 (by kernel_rfl) (fun hsh => ?_)
        change wpAnyE _ _ _ _ _ _ _ _ _ wq.drew
        refine wpAnyE_take (i := 0) 8 (v := ?_) rfl (by kernel_rfl) (by kernel_rfl) (by kernel_rfl) (by kernel_rfl) (fun _ _ _ h => h) (Or.inl ⟨by rfl, ?_⟩) hsh hS0 (fun hsh => ?_)
        rotate_left
        · (intro wv hSw; rw [hSd] at hSw; obtain ⟨s1, s2, s3, s4⟩ := hSw; go_simp; (try with_reducible rfl))
        (try simp only [Act.put, List.setIfInBounds_toArray, List.set_cons_zero, List.set_cons_succ])
        refine wpAnyE_take (i := 1) 8 (v := ?_) rfl (by kernel_rfl) (by kernel_rfl) (by kernel_rfl) (by kernel_rfl) (fun _ _ _ h => h) (Or.inl ⟨by rfl, ?_⟩) hsh hS0 (fun hsh => ?_)
        rotate_left
        · (intro wv hSw; rw [hSd] at hSw; obtain ⟨s1, s2, s3, s4⟩ := hSw; go_simp; (try with_reducible rfl))
        (try simp only [Act.put, List.setIfInBounds_toArray, List.set_cons_zero, List.set_cons_succ])
        refine wpAnyE_take (i := 2) 8 (v := ?_) rfl (by kernel_rfl) (by kernel_rfl) (by kernel_rfl) (by kernel_rfl) (fun _ _ _ h => h) (Or.inl ⟨by rfl, ?_⟩) hsh hS0 (fun hsh => ?_)
        rotate_left
        · (intro wv hSw; rw [hSd] at hSw; obtain ⟨s1, s2, s3, s4⟩ := hSw; go_simp; (try with_reducible rfl))
        (try simp only [Act.put, List.setIfInBounds_toArray, List.set_cons_zero, List.set_cons_succ])
        refine wpAnyE_take (i := 3) 8 (v := ?_) rfl (by kernel_rfl) (by kernel_rfl) (by kernel_rfl) (by kernel_rfl) (fun _ _ _ h => h) (Or.inl ⟨by rfl, ?_⟩) hsh hS0 (fun hsh => ?_)
        rotate_left
        · (intro wv hSw; rw [hSd] at hSw; obtain ⟨s1, s2, s3, s4⟩ := hSw; go_simp; (try with_reducible rfl))
        (try simp only [Act.put, List.setIfInBounds_toArray, List.set_cons_zero, List.set_cons_succ])
        refine wpAnyE_take (i := 4) 8 (v := ?_) rfl (by kernel_rfl) (by kernel_rfl) (by kernel_rfl) (by kernel_rfl) (fun _ _ _ h => h) (Or.inl ⟨by rfl, ?_⟩) hsh hS0 (fun hsh => ?_)
        rotate_left
        · (intro wv hSw; rw [hSd] at hSw; obtain ⟨s1, s2, s3, s4⟩ := hSw; go_simp; (try with_reducible rfl))
        (try simp only [Act.put, List.setIfInBounds_toArray, List.set_cons_zero, List.set_cons_succ])
        refine wpAnyE_take (i := 5) 8 (v := ?_) rfl (by kernel_rfl) (by kernel_rfl) (by kernel_rfl) (by kernel_rfl) (fun _ _ _ h => h) (Or.inl ⟨by rfl, ?_⟩) hsh hS0 (fun hsh => ?_)
        rotate_left
        · (intro wv hSw; rw [hSd] at hSw; obtain ⟨s1, s2, s3, s4⟩ := hSw; go_simp; (try with_reducible rfl))
        (try simp only [Act.put, List.setIfInBounds_toArray, List.set_cons_zero, List.set_cons_succ])
        refine wpAnyE_take (i := 6) 8 (v := ?_) rfl (by kernel_rfl) (by kernel_rfl) (by kernel_rfl) (by kernel_rfl) (fun _ _ _ h => h) (Or.inl ⟨by rfl, ?_⟩) hsh hS0 (fun hsh => ?_)
        rotate_left
        · (intro wv hSw; rw [hSd] at hSw; obtain ⟨s1, s2, s3, s4⟩ := hSw; go_simp; (try with_reducible rfl))
        (try simp only [Act.put, List.setIfInBounds_toArray, List.set_cons_zero, List.set_cons_succ])
        refine wpAnyE_take (i := 8) 8 (v := ?_) rfl (by kernel_rfl) (by kernel_rfl) (by kernel_rfl) (by kernel_rfl) (fun _ _ _ h => h) (Or.inl ⟨by rfl, ?_⟩) hsh hS0 (fun hsh => ?_)
        rotate_left
        · (intro wv hSw; rw [hSd] at hSw; obtain ⟨s1, s2, s3, s4⟩ := hSw; go_simp; (try with_reducible rfl))
        (try simp only [Act.put, List.setIfInBounds_toArray, List.set_cons_zero, List.set_cons_succ])
        refine wpAnyE_take (i := 9) 8 (v := ?_) rfl (by kernel_rfl) (by kernel_rfl) (by kernel_rfl) (by kernel_rfl) (fun _ _ _ h => h) (Or.inl ⟨by rfl, ?_⟩) hsh hS0 (fun hsh => ?_)
        rotate_left
        · (intro wv hSw; rw [hSd] at hSw; obtain ⟨s1, s2, s3, s4⟩ := hSw; go_simp; (try with_reducible rfl))
        (try simp only [Act.put, List.setIfInBounds_toArray, List.set_cons_zero, List.set_cons_succ])
        refine wpAnyE_take (i := 10) 8 (v := ?_) rfl (by kernel_rfl) (by kernel_rfl) (by kernel_rfl) (by kernel_rfl) (fun _ _ _ h => h) (Or.inl ⟨by rfl, ?_⟩) hsh hS0 (fun hsh => ?_)
        rotate_left
        · (intro wv hSw; rw [hSd] at hSw; obtain ⟨s1, s2, s3, s4⟩ := hSw; go_simp; (try with_reducible rfl))
        (try simp only [Act.put, List.setIfInBounds_toArray, List.set_cons_zero, List.set_cons_succ])
        refine wpAnyE_take (i := 11) 8 (v := ?_) rfl (by kernel_rfl) (by kernel_rfl) (by kernel_rfl) (by kernel_rfl) (fun _ _ _ h => h) (Or.inl ⟨by rfl, ?_⟩) hsh hS0 (fun hsh => ?_)
        rotate_left
        · (intro wv hSw; rw [hSd] at hSw; obtain ⟨s1, s2, s3, s4⟩ := hSw; go_simp; (try with_reducible rfl))
        (try simp only [Act.put, List.setIfInBounds_toArray, List.set_cons_zero, List.set_cons_succ])
        refine wpAnyE_take (i := 12) 8 (v := ?_) rfl (by kernel_rfl) (by kernel_rfl) (by kernel_rfl) (by kernel_rfl) (fun _ _ _ h => h) (Or.inl ⟨by rfl, ?_⟩) hsh hS0 (fun hsh => ?_)
        rotate_left
        · (intro wv hSw; rw [hSd] at hSw; obtain ⟨s1, s2, s3, s4⟩ := hSw; go_simp; (try with_reducible rfl))
        (try simp only [Act.put, List.setIfInBounds_toArray, List.set_cons_zero, List.set_cons_succ])
        refine wpAnyE_take (i := 13) 8 (v := ?_) rfl (by kernel_rfl) (by kernel_rfl) (by kernel_rfl) (by kernel_rfl) (fun _ _ _ h => h) (Or.inl ⟨by rfl, ?_⟩) hsh hS0 (fun hsh => ?_)
        rotate_left
        · (intro wv hSw; rw [hSd] at hSw; obtain ⟨s1, s2, s3, s4⟩ := hSw; go_simp; (try with_reducible rfl))
        (try simp only [Act.put, List.setIfInBounds_toArray, List.set_cons_zero, List.set_cons_succ])
        refine wpAnyE_take (i := 14) 8 (v := ?_) rfl (by kernel_rfl) (by kernel_rfl) (by kernel_rfl) (by kernel_rfl) (fun _ _ _ h => h) (Or.inl ⟨by rfl, ?_⟩) hsh hS0 (fun hsh => ?_)
        rotate_left
        · (intro wv hSw; rw [hSd] at hSw; obtain ⟨s1, s2, s3, s4⟩ := hSw; go_simp; (try with_reducible rfl))
        (try simp only [Act.put, List.setIfInBounds_toArray, List.set_cons_zero, List.set_cons_succ])
        refine wpAnyE_take (i := 15) 8 (v := ?_) rfl (by kernel_rfl) (by kernel_rfl) (by kernel_rfl) (by kernel_rfl) (fun _ _ _ h => h) (Or.inl ⟨by rfl, ?_⟩) hsh hS0 (fun hsh => ?_)
        rotate_left
        · (intro wv hSw; rw [hSd] at hSw; obtain ⟨s1, s2, s3, s4⟩ := hSw; go_simp; (try with_reducible rfl))
        (try simp only [Act.put, List.setIfInBounds_toArray, List.set_cons_zero, List.set_cons_succ])
        refine wpAnyE_take (i := 16) 8 (v := ?_) rfl (by kernel_rfl) (by kernel_rfl) (by kernel_rfl) (by kernel_rfl) (fun _ _ _ h => h) (Or.inl ⟨by rfl, ?_⟩) hsh hS0 (fun hsh => ?_)
        rotate_left
        · (intro wv hSw; rw [hSd] at hSw; obtain ⟨s1, s2, s3, s4⟩ := hSw; go_simp; (try with_reducible rfl))
        (try simp only [Act.put, List.setIfInBounds_toArray, List.set_cons_zero, List.set_cons_succ])
        refine wpAnyE_take (i := 17) 8 (v := ?_) rfl (by kernel_rfl) (by kernel_rfl) (by kernel_rfl) (by kernel_rfl) (fun _ _ _ h => h) (Or.inl ⟨by rfl, ?_⟩) hsh hS0 (fun hsh => ?_)
        rotate_left
        · (intro wv hSw; rw [hSd] at hSw; obtain ⟨s1, s2, s3, s4⟩ := hSw; go_simp; (try with_reducible rfl))
        (try simp only [Act.put, List.setIfInBounds_toArray, List.set_cons_zero, List.set_cons_succ])
        refine wpAnyE_take (i := 18) 8 (v := ?_) rfl (by kernel_rfl) (by kernel_rfl) (by kernel_rfl) (by kernel_rfl) (fun _ _ _ h => h) (Or.inl ⟨by rfl, ?_⟩) hsh hS0 (fun hsh => ?_)
        rotate_left
        · (intro wv hSw; rw [hSd] at hSw; obtain ⟨s1, s2, s3, s4⟩ := hSw; go_simp; (try with_reducible rfl))
        (try simp only [Act.put, List.setIfInBounds_toArray, List.set_cons_zero, List.set_cons_succ])
        refine wpAnyE_all (rs := [7]) (by kernel_rfl) (by simp) ?_
        intro ii hii
        rw [List.mem_singleton] at hii
        subst hii
        refine wpOp_step (o := _) rfl (fun KS hKS => ?_)
        go_simp
        refine (cloneStrs_c _ m.log _ base (((HX.out.keep HWQ.out.2.2).is hsq).drewN 1)).mono ?_; rintro en x1 ⟨⟨v1, rfl, hu⟩, k1'⟩
        have nn1 : Below wq.heap.size wq x1 := (below_drewN (Below.refl _ _) 1).trans k1'
        have M1 := Lib.hid nn1
        obtain ⟨Au, cu, rfl, _, _, _, _⟩ := rd_own hu
        have HU := Lib.hid hu
        have e1 := (nn1.cell (p := ⟨gr, 1, none⟩) dm).trans d1
        have e2 := (nn1.cell (p := ⟨gr, 2, none⟩) dm).trans d2
        have e3 := (nn1.cell (p := ⟨gr, 3, none⟩) dm).trans d3
        have e4 := (nn1.cell (p := ⟨gr, 4, none⟩) dm).trans d4
        have e5 := (nn1.cell (p := ⟨gr, 5, none⟩) dm).trans d5
        have ez := (HWQ.out.1.below nn1).rb.frozen
        have b3 := (nn1.cell (p := ⟨w.heap.size, 3, none⟩) dk).trans k3
        have b5 := (nn1.cell (p := ⟨w.heap.size, 5, none⟩) dk).trans k5
        have b7 := (nn1.cell (p := ⟨w.heap.size, 7, none⟩) dk).trans k7
        have hS0 : S x1 := by rw [hSd]; exact ⟨b3, b5, b7, e5⟩
        clear nn1 hu k1'
        refine hKS _ _ ⟨.inr hS0, ?_⟩
        have hsh := hsh.set (i := 7) (by rw [← List.contains_iff_mem]; kernel_rfl)
        (try simp only [Act.put, List.setIfInBounds_toArray, List.set_cons_zero, List.set_cons_succ])
        refine wpAnyE_take (i := 19) 8 (v := ?_) rfl (by kernel_rfl) (by kernel_rfl) (by kernel_rfl) (by kernel_rfl) (fun _ _ _ h => h) (Or.inl ⟨by rfl, ?_⟩) hsh hS0 (fun hsh => ?_)
        rotate_left
        · (intro wv hSw; rw [hSd] at hSw; obtain ⟨s1, s2, s3, s4⟩ := hSw; go_simp; (try with_reducible rfl))
        (try simp only [Act.put, List.setIfInBounds_toArray, List.set_cons_zero, List.set_cons_succ])
        refine wpAnyE_take (i := 20) 8 (v := ?_) rfl (by kernel_rfl) (by kernel_rfl) (by kernel_rfl) (by kernel_rfl) (fun _ _ _ h => h) (Or.inl ⟨by rfl, ?_⟩) hsh hS0 (fun hsh => ?_)
        rotate_left
        · (intro wv hSw; rw [hSd] at hSw; obtain ⟨s1, s2, s3, s4⟩ := hSw; go_simp; (try with_reducible rfl))
        (try simp only [Act.put, List.setIfInBounds_toArray, List.set_cons_zero, List.set_cons_succ])
        refine wpAnyE_all (rs := [21]) (by kernel_rfl) (by simp) ?_
        intro ii hii
        rw [List.mem_singleton] at hii
        subst hii
        refine wpOp_step (o := _) rfl (fun KT hKT => ?_)
        go_simp
        refine hKT _ _ ⟨.inl rfl, wpAnyE_done (by kernel_rfl) ?_ _⟩
        clear hKT hKS hS0 hSd hsh
        have hLd : ∀ Wc, Wc = ((((x1.setCell ⟨gr, 1, none⟩ (.int .i64 m.view)).setCell ⟨gr, 2, none⟩ (.int .i64 m.view)).setCell ⟨gr, 3, none⟩ (.bool true)).setCell ⟨gr, 4, none⟩ (.slice Au m.log.length cu)).setCell ⟨gr, 5, none⟩ (.int .i64 (max m.commit (min r.kept.commit (m.log.length : Int)))) → LdI base gw gr w.heap.size rp m A c ms w Wc := by
          intro Wc hWc
          have hW1 := HWQ.out.1.below M1.out
          have hol : OwnStrs x1 base (.slice Au m.log.length cu) m.log := ⟨ownsRow_base HU.out hsq, HX.out.len, HX.out.each⟩
          have hw3 := ((hW1.set_view m.view).set_normal m.view).set_calm true
          have hs3 : Same [9] 0 x1 (((x1.setCell ⟨gr, 1, none⟩ (.int .i64 m.view)).setCell ⟨gr, 2, none⟩ (.int .i64 m.view)).setCell ⟨gr, 3, none⟩ (.bool true)) :=
            ((Same.set_ hW1.rb (Nat.zero_le _) (by decide) 1 _).trans (Same.set_ (hW1.set_view m.view).rb (Nat.zero_le _) (by decide) 2 _)).trans (Same.set_ ((hW1.set_view m.view).set_normal m.view).rb (Nat.zero_le _) (by decide) 3 _)
          have hw5 := (hw3.set_log (hol.same hs3)).set_commit (max m.commit (min r.kept.commit (m.log.length : Int)))
          rw [HRP.out, hWc]
          exact ⟨hw5.e, blk_keep (HWQ.out.2.1.same M1.out) (Same.set5 (Ts := [31]) hW1.rb (by decide) _ _ _ _ _ _ _ _ _ _) (by simp), (HWQ.out.2.2.trans (M1.out.mono hsq)).trans (((((hW1.low 1 _).trans ((hW1.set_view m.view).low 2 _)).trans (((hW1.set_view m.view).set_normal m.view).low 3 _)).trans (hw3.low 4 _)).trans ((hw3.set_log (hol.same hs3)).low 5 _))⟩
        have HLD := Lib.hid hLd
        clear hLd
        go_wp2_with fail
        all_goals
          go_meet
          refine ⟨rfl, HLD.out _ ?_⟩
          first | rfl | (have hz : ∀ q : Int, q = max m.commit (min r.kept.commit (m.log.length : Int)) → Value.int .i64 q = Value.int .i64 (max m.commit (min r.kept.commit (m.log.length : Int))) := (fun q e => by rw [e]); congr 1; apply hz; (repeat' split) <;> omega)
      case rest =>
        obtain ⟨rfl, hI⟩ := hcut
        have HI := Lib.hid hI
        clear hI d1 d2 d3 d4 d5 k3 k5 k7 dz dm dk n1
        obtain ⟨wp, hwp⟩ : ∃ W, W = wc := ⟨_, rfl⟩
        rw [← hwp] at HI ⊢
        clear hwp
        obtain ⟨lu5, hv5, wv5, gv5, nv5, ov5, css5, hWk⟩ := HI.out.work
        have HWK := Lib.hid hWk
        clear hWk
        have hsp : base ≤ wp.heap.size := Nat.le_trans hbase HI.out.low.size
        have h3p : Rep3 rp := by rw [HRP.out]; exact H3.out.1
        go_wp2_with fail
        refine (fresh_c wp base gw gr rp _ _ _ _ _ _ ms _ HWK.out hsp h3p.1 h3p.2.1 h3p.2.2.2.1).mono ?_; rintro en x2 ⟨rfl, ⟨gv', hW2⟩, hb2, hs2⟩
        go_upto_region 7 with fail
        obtain ⟨wt, hwt⟩ : ∃ W, W = x2 := ⟨_, rfl⟩
        rw [← hwt] at hW2 hb2 hs2 ⊢
        clear hwt
        have HT := Lib.hid (show LdI base gw gr w.heap.size rr m A c ms w wt from by
          rw [HRR2.out, ← HRP.out]
          exact ⟨hW2.e, blk_keep HI.out.box hs2 (by simp), HI.out.low.trans hb2⟩)
        clear hW2 hb2 hs2 h3p
        obtain ⟨lu5, hv5, wv5, gv5, nv5, ov5, css5, hWt⟩ := HT.out.work
        obtain ⟨A5, c5, rfl, _, _⟩ := hWt.own.is.log.ex
        have d0 := hWt.wb.cell 0
        have d4 := hWt.rb.cell 4
        have d5 := hWt.rb.cell 5
        have k1 := HT.out.box.cell 1
        have k5 := HT.out.box.cell 5
        simp only [List.getElem?_toArray, List.getElem?_cons_zero, List.getElem?_cons_succ] at d0 d4 d5 k1 k5
        have dz := hWt.rb.frozen
        have dl := hWt.wb.lt
        have dm := hWt.rb.lt
        have dk := HT.out.box.lt
        have HWT := Lib.hid hWt
        clear hWt
        by_cases hq : (rr.kept.log.length : Int) < m.commit
        · by_cases hh : rr.kept.commit < (rr.kept.log.length : Int)
          · have hmx : max rr.kept.commit (min m.commit (rr.kept.log.length : Int)) = (rr.kept.log.length : Int) := by omega
            have HMX := Lib.hid hmx
            clear hmx
            go_wp2_with fail
            go_region
            (try (have hq2 : ¬ ((rr.kept.log.length : Int) < m.commit) := by omega
                  simp only [hq2, ↓reduceIte]))
            (try (have hh2 : ¬ (rr.kept.commit < m.commit) := by omega
                  simp only [hh2, ↓reduceIte]))
            (try (have hh2 : ¬ (rr.kept.commit < (rr.kept.log.length : Int)) := by omega
                  simp only [hh2, ↓reduceIte]))
            (try rw [HMX.out])
            obtain ⟨Wu, hWu⟩ : ∃ W, W = (wt.setCell ⟨gr, 5, none⟩ (.int .i64 ((rr.kept.log.length : Int)))).drew := ⟨_, rfl⟩
            rw [← hWu]
            have HU := Lib.hid (show Work Wu base gw gr { rr with kept := { rr.kept with commit := (rr.kept.log.length : Int) } } (.slice A5 rr.kept.log.length c5) hv5 wv5 gv5 nv5 ov5 ms css5 ∧ Blk Wu w.heap.size 31 #[.int .i64 m.kind, .int .i64 m.from_, .int .i64 m.tq, .int .i64 m.view, .int .i64 m.normal, .int .i64 m.commit, .int .i64 m.n, .slice A m.log.length c] ∧ Below base w Wu from by
              rw [hWu]
              exact ⟨(HWT.out.set_commit ((rr.kept.log.length : Int))).below (Below.refl _ _).drew, Blk.drew (blk_keep HT.out.box (Same.set_ (Ts := [31]) HWT.out.rb (Nat.zero_le _) (by decide) 5 _) (by simp)), (HT.out.low.trans (HWT.out.low 5 _)).drew⟩)
            have hsu : base ≤ Wu.heap.size := Nat.le_trans hbase HU.out.2.2.size
            clear hWu d0 d4 d5 k1 k5 dz dl dm dk hq hh
            have d4 := HU.out.1.rb.cell 4
            have k1 := HU.out.2.1.cell 1
            simp only [List.getElem?_toArray, List.getElem?_cons_zero, List.getElem?_cons_succ] at d4 k1
            have dm := HU.out.1.rb.lt
            have dk := HU.out.2.1.lt
            go_wp2_with fail
            go_still_tail 9, (by kernel_rfl)
            change wpList _ _ _ _ _ Wu.drew
            go_wp2_with (go_at_call 27; refine (send_e none 0 0 { Scu.msg0 with kind := 2, n := rr.kept.log.length } m.from_ _ base gw gr _ ms (HU.out.1.below (Below.refl _ _).drew).e hsu IsStrs.nil_ (Nat.le_trans (Nat.mul_le_mul_right 80 (by omega)) HM.out) _ rfl).mono ?_; rintro en w5 ⟨rfl, hk, h5⟩; have HK := Lib.hid (And.intro hk (HU.out.2.2.trans ((Below.refl base Wu).drew.trans h5))); clear hk h5)
            go_wp2
            go_end0
            refine ⟨rfl, ?_, HK.out.2⟩
            have hk := HK.out.1
            have hme : rr.me = r.me := by rw [HRR.out]; exact leadTake_me r m
            rw [if_neg (show ¬ m.from_ = rr.me from by rw [hme]; exact H3.out.2)] at hk
            rw [HMX.out, ← hme]
            exact hk
          · have hmx : max rr.kept.commit (min m.commit (rr.kept.log.length : Int)) = rr.kept.commit := by omega
            have HMX := Lib.hid hmx
            clear hmx
            go_wp2_with fail
            go_region
            (try (have hq2 : ¬ ((rr.kept.log.length : Int) < m.commit) := by omega
                  simp only [hq2, ↓reduceIte]))
            (try (have hh2 : ¬ (rr.kept.commit < m.commit) := by omega
                  simp only [hh2, ↓reduceIte]))
            (try (have hh2 : ¬ (rr.kept.commit < (rr.kept.log.length : Int)) := by omega
                  simp only [hh2, ↓reduceIte]))
            (try rw [HMX.out])
            obtain ⟨Wu, hWu⟩ : ∃ W, W = (wt.setCell ⟨gr, 5, none⟩ (.int .i64 (rr.kept.commit))).drew := ⟨_, rfl⟩
            rw [← hWu]
            have HU := Lib.hid (show Work Wu base gw gr { rr with kept := { rr.kept with commit := rr.kept.commit } } (.slice A5 rr.kept.log.length c5) hv5 wv5 gv5 nv5 ov5 ms css5 ∧ Blk Wu w.heap.size 31 #[.int .i64 m.kind, .int .i64 m.from_, .int .i64 m.tq, .int .i64 m.view, .int .i64 m.normal, .int .i64 m.commit, .int .i64 m.n, .slice A m.log.length c] ∧ Below base w Wu from by
              rw [hWu]
              exact ⟨(HWT.out.set_commit (rr.kept.commit)).below (Below.refl _ _).drew, Blk.drew (blk_keep HT.out.box (Same.set_ (Ts := [31]) HWT.out.rb (Nat.zero_le _) (by decide) 5 _) (by simp)), (HT.out.low.trans (HWT.out.low 5 _)).drew⟩)
            have hsu : base ≤ Wu.heap.size := Nat.le_trans hbase HU.out.2.2.size
            clear hWu d0 d4 d5 k1 k5 dz dl dm dk hq hh
            have d4 := HU.out.1.rb.cell 4
            have k1 := HU.out.2.1.cell 1
            simp only [List.getElem?_toArray, List.getElem?_cons_zero, List.getElem?_cons_succ] at d4 k1
            have dm := HU.out.1.rb.lt
            have dk := HU.out.2.1.lt
            go_wp2_with fail
            go_still_tail 9, (by kernel_rfl)
            change wpList _ _ _ _ _ Wu.drew
            go_wp2_with (go_at_call 27; refine (send_e none 0 0 { Scu.msg0 with kind := 2, n := rr.kept.log.length } m.from_ _ base gw gr _ ms (HU.out.1.below (Below.refl _ _).drew).e hsu IsStrs.nil_ (Nat.le_trans (Nat.mul_le_mul_right 80 (by omega)) HM.out) _ rfl).mono ?_; rintro en w5 ⟨rfl, hk, h5⟩; have HK := Lib.hid (And.intro hk (HU.out.2.2.trans ((Below.refl base Wu).drew.trans h5))); clear hk h5)
            go_wp2
            go_end0
            refine ⟨rfl, ?_, HK.out.2⟩
            have hk := HK.out.1
            have hme : rr.me = r.me := by rw [HRR.out]; exact leadTake_me r m
            rw [if_neg (show ¬ m.from_ = rr.me from by rw [hme]; exact H3.out.2)] at hk
            rw [HMX.out, ← hme]
            exact hk
        · by_cases hh : rr.kept.commit < m.commit
          · have hmx : max rr.kept.commit (min m.commit (rr.kept.log.length : Int)) = m.commit := by omega
            have HMX := Lib.hid hmx
            clear hmx
            go_wp2_with fail
            go_region
            (try (have hq2 : ¬ ((rr.kept.log.length : Int) < m.commit) := by omega
                  simp only [hq2, ↓reduceIte]))
            (try (have hh2 : ¬ (rr.kept.commit < m.commit) := by omega
                  simp only [hh2, ↓reduceIte]))
            (try (have hh2 : ¬ (rr.kept.commit < (rr.kept.log.length : Int)) := by omega
                  simp only [hh2, ↓reduceIte]))
            (try rw [HMX.out])
            obtain ⟨Wu, hWu⟩ : ∃ W, W = (wt.setCell ⟨gr, 5, none⟩ (.int .i64 (m.commit))).drew := ⟨_, rfl⟩
            rw [← hWu]
            have HU := Lib.hid (show Work Wu base gw gr { rr with kept := { rr.kept with commit := m.commit } } (.slice A5 rr.kept.log.length c5) hv5 wv5 gv5 nv5 ov5 ms css5 ∧ Blk Wu w.heap.size 31 #[.int .i64 m.kind, .int .i64 m.from_, .int .i64 m.tq, .int .i64 m.view, .int .i64 m.normal, .int .i64 m.commit, .int .i64 m.n, .slice A m.log.length c] ∧ Below base w Wu from by
              rw [hWu]
              exact ⟨(HWT.out.set_commit (m.commit)).below (Below.refl _ _).drew, Blk.drew (blk_keep HT.out.box (Same.set_ (Ts := [31]) HWT.out.rb (Nat.zero_le _) (by decide) 5 _) (by simp)), (HT.out.low.trans (HWT.out.low 5 _)).drew⟩)
            have hsu : base ≤ Wu.heap.size := Nat.le_trans hbase HU.out.2.2.size
            clear hWu d0 d4 d5 k1 k5 dz dl dm dk hq hh
            have d4 := HU.out.1.rb.cell 4
            have k1 := HU.out.2.1.cell 1
            simp only [List.getElem?_toArray, List.getElem?_cons_zero, List.getElem?_cons_succ] at d4 k1
            have dm := HU.out.1.rb.lt
            have dk := HU.out.2.1.lt
            go_wp2_with fail
            go_still_tail 9, (by kernel_rfl)
            change wpList _ _ _ _ _ Wu.drew
            go_wp2_with (go_at_call 27; refine (send_e none 0 0 { Scu.msg0 with kind := 2, n := rr.kept.log.length } m.from_ _ base gw gr _ ms (HU.out.1.below (Below.refl _ _).drew).e hsu IsStrs.nil_ (Nat.le_trans (Nat.mul_le_mul_right 80 (by omega)) HM.out) _ rfl).mono ?_; rintro en w5 ⟨rfl, hk, h5⟩; have HK := Lib.hid (And.intro hk (HU.out.2.2.trans ((Below.refl base Wu).drew.trans h5))); clear hk h5)
            go_wp2
            go_end0
            refine ⟨rfl, ?_, HK.out.2⟩
            have hk := HK.out.1
            have hme : rr.me = r.me := by rw [HRR.out]; exact leadTake_me r m
            rw [if_neg (show ¬ m.from_ = rr.me from by rw [hme]; exact H3.out.2)] at hk
            rw [HMX.out, ← hme]
            exact hk
          · have hmx : max rr.kept.commit (min m.commit (rr.kept.log.length : Int)) = rr.kept.commit := by omega
            have HMX := Lib.hid hmx
            clear hmx
            go_wp2_with fail
            go_region
            (try (have hq2 : ¬ ((rr.kept.log.length : Int) < m.commit) := by omega
                  simp only [hq2, ↓reduceIte]))
            (try (have hh2 : ¬ (rr.kept.commit < m.commit) := by omega
                  simp only [hh2, ↓reduceIte]))
            (try (have hh2 : ¬ (rr.kept.commit < (rr.kept.log.length : Int)) := by omega
                  simp only [hh2, ↓reduceIte]))
            (try rw [HMX.out])
            obtain ⟨Wu, hWu⟩ : ∃ W, W = (wt.setCell ⟨gr, 5, none⟩ (.int .i64 (rr.kept.commit))).drew := ⟨_, rfl⟩
            rw [← hWu]
            have HU := Lib.hid (show Work Wu base gw gr { rr with kept := { rr.kept with commit := rr.kept.commit } } (.slice A5 rr.kept.log.length c5) hv5 wv5 gv5 nv5 ov5 ms css5 ∧ Blk Wu w.heap.size 31 #[.int .i64 m.kind, .int .i64 m.from_, .int .i64 m.tq, .int .i64 m.view, .int .i64 m.normal, .int .i64 m.commit, .int .i64 m.n, .slice A m.log.length c] ∧ Below base w Wu from by
              rw [hWu]
              exact ⟨(HWT.out.set_commit (rr.kept.commit)).below (Below.refl _ _).drew, Blk.drew (blk_keep HT.out.box (Same.set_ (Ts := [31]) HWT.out.rb (Nat.zero_le _) (by decide) 5 _) (by simp)), (HT.out.low.trans (HWT.out.low 5 _)).drew⟩)
            have hsu : base ≤ Wu.heap.size := Nat.le_trans hbase HU.out.2.2.size
            clear hWu d0 d4 d5 k1 k5 dz dl dm dk hq hh
            have d4 := HU.out.1.rb.cell 4
            have k1 := HU.out.2.1.cell 1
            simp only [List.getElem?_toArray, List.getElem?_cons_zero, List.getElem?_cons_succ] at d4 k1
            have dm := HU.out.1.rb.lt
            have dk := HU.out.2.1.lt
            go_wp2_with fail
            go_still_tail 9, (by kernel_rfl)
            change wpList _ _ _ _ _ Wu.drew
            go_wp2_with (go_at_call 27; refine (send_e none 0 0 { Scu.msg0 with kind := 2, n := rr.kept.log.length } m.from_ _ base gw gr _ ms (HU.out.1.below (Below.refl _ _).drew).e hsu IsStrs.nil_ (Nat.le_trans (Nat.mul_le_mul_right 80 (by omega)) HM.out) _ rfl).mono ?_; rintro en w5 ⟨rfl, hk, h5⟩; have HK := Lib.hid (And.intro hk (HU.out.2.2.trans ((Below.refl base Wu).drew.trans h5))); clear hk h5)
            go_wp2
            go_end0
            refine ⟨rfl, ?_, HK.out.2⟩
            have hk := HK.out.1
            have hme : rr.me = r.me := by rw [HRR.out]; exact leadTake_me r m
            rw [if_neg (show ¬ m.from_ = rr.me from by rw [hme]; exact H3.out.2)] at hk
            rw [HMX.out, ← hme]
            exact hk
  · have hv : ¬ r.kept.view < m.view := fun h => hwild (.inl h)
    have hcm : r.kept.calm = true := by cases h : r.kept.calm; exact absurd (.inr h) hwild; rfl
    clear hwild
    by_cases hl : (r.kept.log.length : Int) < (m.log.length : Int)
    · have hrr : rr = { r with kept := { r.kept with log := m.log } } := by
        rw [HRR.out]
        unfold Scu.leadTake
        rw [if_neg (by simp [hv, hcm]), if_pos (by omega)]
      have d1 := HWD.out.1.rb.cell 1
      have d3 := HWD.out.1.rb.cell 3
      have d4 := HWD.out.1.rb.cell 4
      have k3 := HWD.out.2.1.cell 3
      have k7 := HWD.out.2.1.cell 7
      simp only [List.getElem?_toArray, List.getElem?_cons_zero, List.getElem?_cons_succ] at d1 d3 d4 k3 k7
      rw [hcm] at d3
      have hvd : decide (r.kept.view < m.view) = false := by simpa using hv
      have HRR2 := Lib.hid hrr
      clear hv hrr
      go_upto_region 2 with fail
      go_wp2_with fail
      go_region
      go_wp2_with fail
      go_region
      go_upto_region 6 with fail
      obtain ⟨wq, hwq⟩ : ∃ W, W = Wd.drew.drew := ⟨_, rfl⟩
      rw [← hwq]
      have HQ := Lib.hid (show Below Wd.heap.size Wd wq from by rw [hwq]; exact (Below.refl _ _).drew.drew)
      clear hwq hl hvd hcm
      have k7 := (HWD.out.2.1.same HQ.out).cell 7
      simp only [List.getElem?_toArray, List.getElem?_cons_zero, List.getElem?_cons_succ] at k7
      have hlw : Below base w wq := HWD.out.2.2.trans (HQ.out.mono hsd)
      go_wp2_with fail
      refine (cloneStrs_c _ m.log _ base ((HX.out.keep hlw).is (Nat.le_trans hbase hlw.size))).mono ?_; rintro en x1 ⟨⟨v1, rfl, hu⟩, h1⟩
      obtain ⟨Au, cu, rfl, _, _, _, _⟩ := rd_own hu
      have nn1 : Below Wd.heap.size Wd x1 := HQ.out.trans (h1.mono HQ.out.size)
      have e4 := (nn1.cell (p := ⟨gr, 4, none⟩) dm).trans d4
      have ez := (HWD.out.1.below nn1).rb.frozen
      have el : gr < x1.heap.size := Nat.lt_of_lt_of_le dm nn1.size
      have HU1 := Lib.hid (And.intro (show OwnStrs x1 base (.slice Au m.log.length cu) m.log from ⟨ownsRow_base hu (Nat.le_trans hbase hlw.size), HX.out.len, HX.out.each⟩) (And.intro nn1 (hlw.trans (h1.mono (Nat.le_trans hbase hlw.size)))))
      clear hu h1 nn1 hlw
      go_upto_region 7 with fail
      obtain ⟨wt, hwt⟩ : ∃ W, W = x1.setCell ⟨gr, 4, none⟩ (.slice Au m.log.length cu) := ⟨_, rfl⟩
      rw [← hwt]
      have HT := Lib.hid (show LdI base gw gr w.heap.size rr m A c ms w wt from by
        have hW1 := HWD.out.1.below HU1.out.2.1
        rw [hwt, HRR2.out]
        exact ⟨(hW1.set_log HU1.out.1).e, blk_keep (HWD.out.2.1.same HU1.out.2.1) (Same.set_ (Ts := [31]) hW1.rb (Nat.zero_le _) (by decide) 4 _) (by simp), HU1.out.2.2.trans (hW1.low 4 _)⟩)
      clear hwt d0 d1 d3 d4 k3 k7 dl dm dk e4 ez el
      obtain ⟨lu5, hv5, wv5, gv5, nv5, ov5, css5, hWt⟩ := HT.out.work
      obtain ⟨A5, c5, rfl, _, _⟩ := hWt.own.is.log.ex
      have d0 := hWt.wb.cell 0
      have d4 := hWt.rb.cell 4
      have d5 := hWt.rb.cell 5
      have k1 := HT.out.box.cell 1
      have k5 := HT.out.box.cell 5
      simp only [List.getElem?_toArray, List.getElem?_cons_zero, List.getElem?_cons_succ] at d0 d4 d5 k1 k5
      have dz := hWt.rb.frozen
      have dl := hWt.wb.lt
      have dm := hWt.rb.lt
      have dk := HT.out.box.lt
      have HWT := Lib.hid hWt
      clear hWt
      by_cases hq : (rr.kept.log.length : Int) < m.commit
      · by_cases hh : rr.kept.commit < (rr.kept.log.length : Int)
        · have hmx : max rr.kept.commit (min m.commit (rr.kept.log.length : Int)) = (rr.kept.log.length : Int) := by omega
          have HMX := Lib.hid hmx
          clear hmx
          go_wp2_with fail
          go_region
          (try (have hq2 : ¬ ((rr.kept.log.length : Int) < m.commit) := by omega
                simp only [hq2, ↓reduceIte]))
          (try (have hh2 : ¬ (rr.kept.commit < m.commit) := by omega
                simp only [hh2, ↓reduceIte]))
          (try (have hh2 : ¬ (rr.kept.commit < (rr.kept.log.length : Int)) := by omega
                simp only [hh2, ↓reduceIte]))
          (try rw [HMX.out])
          obtain ⟨Wu, hWu⟩ : ∃ W, W = (wt.setCell ⟨gr, 5, none⟩ (.int .i64 ((rr.kept.log.length : Int)))).drew := ⟨_, rfl⟩
          rw [← hWu]
          have HU := Lib.hid (show Work Wu base gw gr { rr with kept := { rr.kept with commit := (rr.kept.log.length : Int) } } (.slice A5 rr.kept.log.length c5) hv5 wv5 gv5 nv5 ov5 ms css5 ∧ Blk Wu w.heap.size 31 #[.int .i64 m.kind, .int .i64 m.from_, .int .i64 m.tq, .int .i64 m.view, .int .i64 m.normal, .int .i64 m.commit, .int .i64 m.n, .slice A m.log.length c] ∧ Below base w Wu from by
            rw [hWu]
            exact ⟨(HWT.out.set_commit ((rr.kept.log.length : Int))).below (Below.refl _ _).drew, Blk.drew (blk_keep HT.out.box (Same.set_ (Ts := [31]) HWT.out.rb (Nat.zero_le _) (by decide) 5 _) (by simp)), (HT.out.low.trans (HWT.out.low 5 _)).drew⟩)
          have hsu : base ≤ Wu.heap.size := Nat.le_trans hbase HU.out.2.2.size
          clear hWu d0 d4 d5 k1 k5 dz dl dm dk hq hh
          have d4 := HU.out.1.rb.cell 4
          have k1 := HU.out.2.1.cell 1
          simp only [List.getElem?_toArray, List.getElem?_cons_zero, List.getElem?_cons_succ] at d4 k1
          have dm := HU.out.1.rb.lt
          have dk := HU.out.2.1.lt
          go_wp2_with fail
          go_still_tail 9, (by kernel_rfl)
          change wpList _ _ _ _ _ Wu.drew
          go_wp2_with (go_at_call 27; refine (send_e none 0 0 { Scu.msg0 with kind := 2, n := rr.kept.log.length } m.from_ _ base gw gr _ ms (HU.out.1.below (Below.refl _ _).drew).e hsu IsStrs.nil_ (Nat.le_trans (Nat.mul_le_mul_right 80 (by omega)) HM.out) _ rfl).mono ?_; rintro en w5 ⟨rfl, hk, h5⟩; have HK := Lib.hid (And.intro hk (HU.out.2.2.trans ((Below.refl base Wu).drew.trans h5))); clear hk h5)
          go_wp2
          go_end0
          refine ⟨rfl, ?_, HK.out.2⟩
          have hk := HK.out.1
          have hme : rr.me = r.me := by rw [HRR.out]; exact leadTake_me r m
          rw [if_neg (show ¬ m.from_ = rr.me from by rw [hme]; exact H3.out.2)] at hk
          rw [HMX.out, ← hme]
          exact hk
        · have hmx : max rr.kept.commit (min m.commit (rr.kept.log.length : Int)) = rr.kept.commit := by omega
          have HMX := Lib.hid hmx
          clear hmx
          go_wp2_with fail
          go_region
          (try (have hq2 : ¬ ((rr.kept.log.length : Int) < m.commit) := by omega
                simp only [hq2, ↓reduceIte]))
          (try (have hh2 : ¬ (rr.kept.commit < m.commit) := by omega
                simp only [hh2, ↓reduceIte]))
          (try (have hh2 : ¬ (rr.kept.commit < (rr.kept.log.length : Int)) := by omega
                simp only [hh2, ↓reduceIte]))
          (try rw [HMX.out])
          obtain ⟨Wu, hWu⟩ : ∃ W, W = (wt.setCell ⟨gr, 5, none⟩ (.int .i64 (rr.kept.commit))).drew := ⟨_, rfl⟩
          rw [← hWu]
          have HU := Lib.hid (show Work Wu base gw gr { rr with kept := { rr.kept with commit := rr.kept.commit } } (.slice A5 rr.kept.log.length c5) hv5 wv5 gv5 nv5 ov5 ms css5 ∧ Blk Wu w.heap.size 31 #[.int .i64 m.kind, .int .i64 m.from_, .int .i64 m.tq, .int .i64 m.view, .int .i64 m.normal, .int .i64 m.commit, .int .i64 m.n, .slice A m.log.length c] ∧ Below base w Wu from by
            rw [hWu]
            exact ⟨(HWT.out.set_commit (rr.kept.commit)).below (Below.refl _ _).drew, Blk.drew (blk_keep HT.out.box (Same.set_ (Ts := [31]) HWT.out.rb (Nat.zero_le _) (by decide) 5 _) (by simp)), (HT.out.low.trans (HWT.out.low 5 _)).drew⟩)
          have hsu : base ≤ Wu.heap.size := Nat.le_trans hbase HU.out.2.2.size
          clear hWu d0 d4 d5 k1 k5 dz dl dm dk hq hh
          have d4 := HU.out.1.rb.cell 4
          have k1 := HU.out.2.1.cell 1
          simp only [List.getElem?_toArray, List.getElem?_cons_zero, List.getElem?_cons_succ] at d4 k1
          have dm := HU.out.1.rb.lt
          have dk := HU.out.2.1.lt
          go_wp2_with fail
          go_still_tail 9, (by kernel_rfl)
          change wpList _ _ _ _ _ Wu.drew
          go_wp2_with (go_at_call 27; refine (send_e none 0 0 { Scu.msg0 with kind := 2, n := rr.kept.log.length } m.from_ _ base gw gr _ ms (HU.out.1.below (Below.refl _ _).drew).e hsu IsStrs.nil_ (Nat.le_trans (Nat.mul_le_mul_right 80 (by omega)) HM.out) _ rfl).mono ?_; rintro en w5 ⟨rfl, hk, h5⟩; have HK := Lib.hid (And.intro hk (HU.out.2.2.trans ((Below.refl base Wu).drew.trans h5))); clear hk h5)
          go_wp2
          go_end0
          refine ⟨rfl, ?_, HK.out.2⟩
          have hk := HK.out.1
          have hme : rr.me = r.me := by rw [HRR.out]; exact leadTake_me r m
          rw [if_neg (show ¬ m.from_ = rr.me from by rw [hme]; exact H3.out.2)] at hk
          rw [HMX.out, ← hme]
          exact hk
      · by_cases hh : rr.kept.commit < m.commit
        · have hmx : max rr.kept.commit (min m.commit (rr.kept.log.length : Int)) = m.commit := by omega
          have HMX := Lib.hid hmx
          clear hmx
          go_wp2_with fail
          go_region
          (try (have hq2 : ¬ ((rr.kept.log.length : Int) < m.commit) := by omega
                simp only [hq2, ↓reduceIte]))
          (try (have hh2 : ¬ (rr.kept.commit < m.commit) := by omega
                simp only [hh2, ↓reduceIte]))
          (try (have hh2 : ¬ (rr.kept.commit < (rr.kept.log.length : Int)) := by omega
                simp only [hh2, ↓reduceIte]))
          (try rw [HMX.out])
          obtain ⟨Wu, hWu⟩ : ∃ W, W = (wt.setCell ⟨gr, 5, none⟩ (.int .i64 (m.commit))).drew := ⟨_, rfl⟩
          rw [← hWu]
          have HU := Lib.hid (show Work Wu base gw gr { rr with kept := { rr.kept with commit := m.commit } } (.slice A5 rr.kept.log.length c5) hv5 wv5 gv5 nv5 ov5 ms css5 ∧ Blk Wu w.heap.size 31 #[.int .i64 m.kind, .int .i64 m.from_, .int .i64 m.tq, .int .i64 m.view, .int .i64 m.normal, .int .i64 m.commit, .int .i64 m.n, .slice A m.log.length c] ∧ Below base w Wu from by
            rw [hWu]
            exact ⟨(HWT.out.set_commit (m.commit)).below (Below.refl _ _).drew, Blk.drew (blk_keep HT.out.box (Same.set_ (Ts := [31]) HWT.out.rb (Nat.zero_le _) (by decide) 5 _) (by simp)), (HT.out.low.trans (HWT.out.low 5 _)).drew⟩)
          have hsu : base ≤ Wu.heap.size := Nat.le_trans hbase HU.out.2.2.size
          clear hWu d0 d4 d5 k1 k5 dz dl dm dk hq hh
          have d4 := HU.out.1.rb.cell 4
          have k1 := HU.out.2.1.cell 1
          simp only [List.getElem?_toArray, List.getElem?_cons_zero, List.getElem?_cons_succ] at d4 k1
          have dm := HU.out.1.rb.lt
          have dk := HU.out.2.1.lt
          go_wp2_with fail
          go_still_tail 9, (by kernel_rfl)
          change wpList _ _ _ _ _ Wu.drew
          go_wp2_with (go_at_call 27; refine (send_e none 0 0 { Scu.msg0 with kind := 2, n := rr.kept.log.length } m.from_ _ base gw gr _ ms (HU.out.1.below (Below.refl _ _).drew).e hsu IsStrs.nil_ (Nat.le_trans (Nat.mul_le_mul_right 80 (by omega)) HM.out) _ rfl).mono ?_; rintro en w5 ⟨rfl, hk, h5⟩; have HK := Lib.hid (And.intro hk (HU.out.2.2.trans ((Below.refl base Wu).drew.trans h5))); clear hk h5)
          go_wp2
          go_end0
          refine ⟨rfl, ?_, HK.out.2⟩
          have hk := HK.out.1
          have hme : rr.me = r.me := by rw [HRR.out]; exact leadTake_me r m
          rw [if_neg (show ¬ m.from_ = rr.me from by rw [hme]; exact H3.out.2)] at hk
          rw [HMX.out, ← hme]
          exact hk
        · have hmx : max rr.kept.commit (min m.commit (rr.kept.log.length : Int)) = rr.kept.commit := by omega
          have HMX := Lib.hid hmx
          clear hmx
          go_wp2_with fail
          go_region
          (try (have hq2 : ¬ ((rr.kept.log.length : Int) < m.commit) := by omega
                simp only [hq2, ↓reduceIte]))
          (try (have hh2 : ¬ (rr.kept.commit < m.commit) := by omega
                simp only [hh2, ↓reduceIte]))
          (try (have hh2 : ¬ (rr.kept.commit < (rr.kept.log.length : Int)) := by omega
                simp only [hh2, ↓reduceIte]))
          (try rw [HMX.out])
          obtain ⟨Wu, hWu⟩ : ∃ W, W = (wt.setCell ⟨gr, 5, none⟩ (.int .i64 (rr.kept.commit))).drew := ⟨_, rfl⟩
          rw [← hWu]
          have HU := Lib.hid (show Work Wu base gw gr { rr with kept := { rr.kept with commit := rr.kept.commit } } (.slice A5 rr.kept.log.length c5) hv5 wv5 gv5 nv5 ov5 ms css5 ∧ Blk Wu w.heap.size 31 #[.int .i64 m.kind, .int .i64 m.from_, .int .i64 m.tq, .int .i64 m.view, .int .i64 m.normal, .int .i64 m.commit, .int .i64 m.n, .slice A m.log.length c] ∧ Below base w Wu from by
            rw [hWu]
            exact ⟨(HWT.out.set_commit (rr.kept.commit)).below (Below.refl _ _).drew, Blk.drew (blk_keep HT.out.box (Same.set_ (Ts := [31]) HWT.out.rb (Nat.zero_le _) (by decide) 5 _) (by simp)), (HT.out.low.trans (HWT.out.low 5 _)).drew⟩)
          have hsu : base ≤ Wu.heap.size := Nat.le_trans hbase HU.out.2.2.size
          clear hWu d0 d4 d5 k1 k5 dz dl dm dk hq hh
          have d4 := HU.out.1.rb.cell 4
          have k1 := HU.out.2.1.cell 1
          simp only [List.getElem?_toArray, List.getElem?_cons_zero, List.getElem?_cons_succ] at d4 k1
          have dm := HU.out.1.rb.lt
          have dk := HU.out.2.1.lt
          go_wp2_with fail
          go_still_tail 9, (by kernel_rfl)
          change wpList _ _ _ _ _ Wu.drew
          go_wp2_with (go_at_call 27; refine (send_e none 0 0 { Scu.msg0 with kind := 2, n := rr.kept.log.length } m.from_ _ base gw gr _ ms (HU.out.1.below (Below.refl _ _).drew).e hsu IsStrs.nil_ (Nat.le_trans (Nat.mul_le_mul_right 80 (by omega)) HM.out) _ rfl).mono ?_; rintro en w5 ⟨rfl, hk, h5⟩; have HK := Lib.hid (And.intro hk (HU.out.2.2.trans ((Below.refl base Wu).drew.trans h5))); clear hk h5)
          go_wp2
          go_end0
          refine ⟨rfl, ?_, HK.out.2⟩
          have hk := HK.out.1
          have hme : rr.me = r.me := by rw [HRR.out]; exact leadTake_me r m
          rw [if_neg (show ¬ m.from_ = rr.me from by rw [hme]; exact H3.out.2)] at hk
          rw [HMX.out, ← hme]
          exact hk
    · have hrr : rr = r := by
        rw [HRR.out]
        unfold Scu.leadTake
        rw [if_neg (by simp [hv, hcm]), if_neg (by omega)]
      have d1 := HWD.out.1.rb.cell 1
      have d3 := HWD.out.1.rb.cell 3
      have d4 := HWD.out.1.rb.cell 4
      have k3 := HWD.out.2.1.cell 3
      have k7 := HWD.out.2.1.cell 7
      simp only [List.getElem?_toArray, List.getElem?_cons_zero, List.getElem?_cons_succ] at d1 d3 d4 k3 k7
      rw [hcm] at d3
      have hvd : decide (r.kept.view < m.view) = false := by simpa using hv
      clear hv
      go_upto_region 2 with fail
      go_wp2_with fail
      go_region
      go_wp2_with fail
      go_region
      go_upto_region 7 with fail
      obtain ⟨wt, hwt⟩ : ∃ W, W = Wd.drew.drew := ⟨_, rfl⟩
      rw [← hwt]
      have HT := Lib.hid (show LdI base gw gr w.heap.size rr m A c ms w wt from by rw [hwt, hrr]; exact ⟨(HWD.out.1.below (Below.refl _ _).drew.drew).e, HWD.out.2.1, HWD.out.2.2.drew.drew⟩)
      clear hwt hrr d0 d1 d3 d4 k3 k7 dl dm dk hl hcm hvd
      obtain ⟨lu5, hv5, wv5, gv5, nv5, ov5, css5, hWt⟩ := HT.out.work
      obtain ⟨A5, c5, rfl, _, _⟩ := hWt.own.is.log.ex
      have d0 := hWt.wb.cell 0
      have d4 := hWt.rb.cell 4
      have d5 := hWt.rb.cell 5
      have k1 := HT.out.box.cell 1
      have k5 := HT.out.box.cell 5
      simp only [List.getElem?_toArray, List.getElem?_cons_zero, List.getElem?_cons_succ] at d0 d4 d5 k1 k5
      have dz := hWt.rb.frozen
      have dl := hWt.wb.lt
      have dm := hWt.rb.lt
      have dk := HT.out.box.lt
      have HWT := Lib.hid hWt
      clear hWt
      by_cases hq : (rr.kept.log.length : Int) < m.commit
      · by_cases hh : rr.kept.commit < (rr.kept.log.length : Int)
        · have hmx : max rr.kept.commit (min m.commit (rr.kept.log.length : Int)) = (rr.kept.log.length : Int) := by omega
          have HMX := Lib.hid hmx
          clear hmx
          go_wp2_with fail
          go_region
          (try (have hq2 : ¬ ((rr.kept.log.length : Int) < m.commit) := by omega
                simp only [hq2, ↓reduceIte]))
          (try (have hh2 : ¬ (rr.kept.commit < m.commit) := by omega
                simp only [hh2, ↓reduceIte]))
          (try (have hh2 : ¬ (rr.kept.commit < (rr.kept.log.length : Int)) := by omega
                simp only [hh2, ↓reduceIte]))
          (try rw [HMX.out])
          obtain ⟨Wu, hWu⟩ : ∃ W, W = (wt.setCell ⟨gr, 5, none⟩ (.int .i64 ((rr.kept.log.length : Int)))).drew := ⟨_, rfl⟩
          rw [← hWu]
          have HU := Lib.hid (show Work Wu base gw gr { rr with kept := { rr.kept with commit := (rr.kept.log.length : Int) } } (.slice A5 rr.kept.log.length c5) hv5 wv5 gv5 nv5 ov5 ms css5 ∧ Blk Wu w.heap.size 31 #[.int .i64 m.kind, .int .i64 m.from_, .int .i64 m.tq, .int .i64 m.view, .int .i64 m.normal, .int .i64 m.commit, .int .i64 m.n, .slice A m.log.length c] ∧ Below base w Wu from by
            rw [hWu]
            exact ⟨(HWT.out.set_commit ((rr.kept.log.length : Int))).below (Below.refl _ _).drew, Blk.drew (blk_keep HT.out.box (Same.set_ (Ts := [31]) HWT.out.rb (Nat.zero_le _) (by decide) 5 _) (by simp)), (HT.out.low.trans (HWT.out.low 5 _)).drew⟩)
          have hsu : base ≤ Wu.heap.size := Nat.le_trans hbase HU.out.2.2.size
          clear hWu d0 d4 d5 k1 k5 dz dl dm dk hq hh
          have d4 := HU.out.1.rb.cell 4
          have k1 := HU.out.2.1.cell 1
          simp only [List.getElem?_toArray, List.getElem?_cons_zero, List.getElem?_cons_succ] at d4 k1
          have dm := HU.out.1.rb.lt
          have dk := HU.out.2.1.lt
          go_wp2_with fail
          go_still_tail 9, (by kernel_rfl)
          change wpList _ _ _ _ _ Wu.drew
          go_wp2_with (go_at_call 27; refine (send_e none 0 0 { Scu.msg0 with kind := 2, n := rr.kept.log.length } m.from_ _ base gw gr _ ms (HU.out.1.below (Below.refl _ _).drew).e hsu IsStrs.nil_ (Nat.le_trans (Nat.mul_le_mul_right 80 (by omega)) HM.out) _ rfl).mono ?_; rintro en w5 ⟨rfl, hk, h5⟩; have HK := Lib.hid (And.intro hk (HU.out.2.2.trans ((Below.refl base Wu).drew.trans h5))); clear hk h5)
          go_wp2
          go_end0
          refine ⟨rfl, ?_, HK.out.2⟩
          have hk := HK.out.1
          have hme : rr.me = r.me := by rw [HRR.out]; exact leadTake_me r m
          rw [if_neg (show ¬ m.from_ = rr.me from by rw [hme]; exact H3.out.2)] at hk
          rw [HMX.out, ← hme]
          exact hk
        · have hmx : max rr.kept.commit (min m.commit (rr.kept.log.length : Int)) = rr.kept.commit := by omega
          have HMX := Lib.hid hmx
          clear hmx
          go_wp2_with fail
          go_region
          (try (have hq2 : ¬ ((rr.kept.log.length : Int) < m.commit) := by omega
                simp only [hq2, ↓reduceIte]))
          (try (have hh2 : ¬ (rr.kept.commit < m.commit) := by omega
                simp only [hh2, ↓reduceIte]))
          (try (have hh2 : ¬ (rr.kept.commit < (rr.kept.log.length : Int)) := by omega
                simp only [hh2, ↓reduceIte]))
          (try rw [HMX.out])
          obtain ⟨Wu, hWu⟩ : ∃ W, W = (wt.setCell ⟨gr, 5, none⟩ (.int .i64 (rr.kept.commit))).drew := ⟨_, rfl⟩
          rw [← hWu]
          have HU := Lib.hid (show Work Wu base gw gr { rr with kept := { rr.kept with commit := rr.kept.commit } } (.slice A5 rr.kept.log.length c5) hv5 wv5 gv5 nv5 ov5 ms css5 ∧ Blk Wu w.heap.size 31 #[.int .i64 m.kind, .int .i64 m.from_, .int .i64 m.tq, .int .i64 m.view, .int .i64 m.normal, .int .i64 m.commit, .int .i64 m.n, .slice A m.log.length c] ∧ Below base w Wu from by
            rw [hWu]
            exact ⟨(HWT.out.set_commit (rr.kept.commit)).below (Below.refl _ _).drew, Blk.drew (blk_keep HT.out.box (Same.set_ (Ts := [31]) HWT.out.rb (Nat.zero_le _) (by decide) 5 _) (by simp)), (HT.out.low.trans (HWT.out.low 5 _)).drew⟩)
          have hsu : base ≤ Wu.heap.size := Nat.le_trans hbase HU.out.2.2.size
          clear hWu d0 d4 d5 k1 k5 dz dl dm dk hq hh
          have d4 := HU.out.1.rb.cell 4
          have k1 := HU.out.2.1.cell 1
          simp only [List.getElem?_toArray, List.getElem?_cons_zero, List.getElem?_cons_succ] at d4 k1
          have dm := HU.out.1.rb.lt
          have dk := HU.out.2.1.lt
          go_wp2_with fail
          go_still_tail 9, (by kernel_rfl)
          change wpList _ _ _ _ _ Wu.drew
          go_wp2_with (go_at_call 27; refine (send_e none 0 0 { Scu.msg0 with kind := 2, n := rr.kept.log.length } m.from_ _ base gw gr _ ms (HU.out.1.below (Below.refl _ _).drew).e hsu IsStrs.nil_ (Nat.le_trans (Nat.mul_le_mul_right 80 (by omega)) HM.out) _ rfl).mono ?_; rintro en w5 ⟨rfl, hk, h5⟩; have HK := Lib.hid (And.intro hk (HU.out.2.2.trans ((Below.refl base Wu).drew.trans h5))); clear hk h5)
          go_wp2
          go_end0
          refine ⟨rfl, ?_, HK.out.2⟩
          have hk := HK.out.1
          have hme : rr.me = r.me := by rw [HRR.out]; exact leadTake_me r m
          rw [if_neg (show ¬ m.from_ = rr.me from by rw [hme]; exact H3.out.2)] at hk
          rw [HMX.out, ← hme]
          exact hk
      · by_cases hh : rr.kept.commit < m.commit
        · have hmx : max rr.kept.commit (min m.commit (rr.kept.log.length : Int)) = m.commit := by omega
          have HMX := Lib.hid hmx
          clear hmx
          go_wp2_with fail
          go_region
          (try (have hq2 : ¬ ((rr.kept.log.length : Int) < m.commit) := by omega
                simp only [hq2, ↓reduceIte]))
          (try (have hh2 : ¬ (rr.kept.commit < m.commit) := by omega
                simp only [hh2, ↓reduceIte]))
          (try (have hh2 : ¬ (rr.kept.commit < (rr.kept.log.length : Int)) := by omega
                simp only [hh2, ↓reduceIte]))
          (try rw [HMX.out])
          obtain ⟨Wu, hWu⟩ : ∃ W, W = (wt.setCell ⟨gr, 5, none⟩ (.int .i64 (m.commit))).drew := ⟨_, rfl⟩
          rw [← hWu]
          have HU := Lib.hid (show Work Wu base gw gr { rr with kept := { rr.kept with commit := m.commit } } (.slice A5 rr.kept.log.length c5) hv5 wv5 gv5 nv5 ov5 ms css5 ∧ Blk Wu w.heap.size 31 #[.int .i64 m.kind, .int .i64 m.from_, .int .i64 m.tq, .int .i64 m.view, .int .i64 m.normal, .int .i64 m.commit, .int .i64 m.n, .slice A m.log.length c] ∧ Below base w Wu from by
            rw [hWu]
            exact ⟨(HWT.out.set_commit (m.commit)).below (Below.refl _ _).drew, Blk.drew (blk_keep HT.out.box (Same.set_ (Ts := [31]) HWT.out.rb (Nat.zero_le _) (by decide) 5 _) (by simp)), (HT.out.low.trans (HWT.out.low 5 _)).drew⟩)
          have hsu : base ≤ Wu.heap.size := Nat.le_trans hbase HU.out.2.2.size
          clear hWu d0 d4 d5 k1 k5 dz dl dm dk hq hh
          have d4 := HU.out.1.rb.cell 4
          have k1 := HU.out.2.1.cell 1
          simp only [List.getElem?_toArray, List.getElem?_cons_zero, List.getElem?_cons_succ] at d4 k1
          have dm := HU.out.1.rb.lt
          have dk := HU.out.2.1.lt
          go_wp2_with fail
          go_still_tail 9, (by kernel_rfl)
          change wpList _ _ _ _ _ Wu.drew
          go_wp2_with (go_at_call 27; refine (send_e none 0 0 { Scu.msg0 with kind := 2, n := rr.kept.log.length } m.from_ _ base gw gr _ ms (HU.out.1.below (Below.refl _ _).drew).e hsu IsStrs.nil_ (Nat.le_trans (Nat.mul_le_mul_right 80 (by omega)) HM.out) _ rfl).mono ?_; rintro en w5 ⟨rfl, hk, h5⟩; have HK := Lib.hid (And.intro hk (HU.out.2.2.trans ((Below.refl base Wu).drew.trans h5))); clear hk h5)
          go_wp2
          go_end0
          refine ⟨rfl, ?_, HK.out.2⟩
          have hk := HK.out.1
          have hme : rr.me = r.me := by rw [HRR.out]; exact leadTake_me r m
          rw [if_neg (show ¬ m.from_ = rr.me from by rw [hme]; exact H3.out.2)] at hk
          rw [HMX.out, ← hme]
          exact hk
        · have hmx : max rr.kept.commit (min m.commit (rr.kept.log.length : Int)) = rr.kept.commit := by omega
          have HMX := Lib.hid hmx
          clear hmx
          go_wp2_with fail
          go_region
          (try (have hq2 : ¬ ((rr.kept.log.length : Int) < m.commit) := by omega
                simp only [hq2, ↓reduceIte]))
          (try (have hh2 : ¬ (rr.kept.commit < m.commit) := by omega
                simp only [hh2, ↓reduceIte]))
          (try (have hh2 : ¬ (rr.kept.commit < (rr.kept.log.length : Int)) := by omega
                simp only [hh2, ↓reduceIte]))
          (try rw [HMX.out])
          obtain ⟨Wu, hWu⟩ : ∃ W, W = (wt.setCell ⟨gr, 5, none⟩ (.int .i64 (rr.kept.commit))).drew := ⟨_, rfl⟩
          rw [← hWu]
          have HU := Lib.hid (show Work Wu base gw gr { rr with kept := { rr.kept with commit := rr.kept.commit } } (.slice A5 rr.kept.log.length c5) hv5 wv5 gv5 nv5 ov5 ms css5 ∧ Blk Wu w.heap.size 31 #[.int .i64 m.kind, .int .i64 m.from_, .int .i64 m.tq, .int .i64 m.view, .int .i64 m.normal, .int .i64 m.commit, .int .i64 m.n, .slice A m.log.length c] ∧ Below base w Wu from by
            rw [hWu]
            exact ⟨(HWT.out.set_commit (rr.kept.commit)).below (Below.refl _ _).drew, Blk.drew (blk_keep HT.out.box (Same.set_ (Ts := [31]) HWT.out.rb (Nat.zero_le _) (by decide) 5 _) (by simp)), (HT.out.low.trans (HWT.out.low 5 _)).drew⟩)
          have hsu : base ≤ Wu.heap.size := Nat.le_trans hbase HU.out.2.2.size
          clear hWu d0 d4 d5 k1 k5 dz dl dm dk hq hh
          have d4 := HU.out.1.rb.cell 4
          have k1 := HU.out.2.1.cell 1
          simp only [List.getElem?_toArray, List.getElem?_cons_zero, List.getElem?_cons_succ] at d4 k1
          have dm := HU.out.1.rb.lt
          have dk := HU.out.2.1.lt
          go_wp2_with fail
          go_still_tail 9, (by kernel_rfl)
          change wpList _ _ _ _ _ Wu.drew
          go_wp2_with (go_at_call 27; refine (send_e none 0 0 { Scu.msg0 with kind := 2, n := rr.kept.log.length } m.from_ _ base gw gr _ ms (HU.out.1.below (Below.refl _ _).drew).e hsu IsStrs.nil_ (Nat.le_trans (Nat.mul_le_mul_right 80 (by omega)) HM.out) _ rfl).mono ?_; rintro en w5 ⟨rfl, hk, h5⟩; have HK := Lib.hid (And.intro hk (HU.out.2.2.trans ((Below.refl base Wu).drew.trans h5))); clear hk h5)
          go_wp2
          go_end0
          refine ⟨rfl, ?_, HK.out.2⟩
          have hk := HK.out.1
          have hme : rr.me = r.me := by rw [HRR.out]; exact leadTake_me r m
          rw [if_neg (show ¬ m.from_ = rr.me from by rw [hme]; exact H3.out.2)] at hk
          rw [HMX.out, ← hme]
          exact hk
end Go.Proofs.Ytlaibljdlpmbfaa

/- Part 12: words and walks under the law 'ReplicaHears'. -/
import Derived.Test.YtlaibljdlpmbfaaPart11
import Derived.Test.YtlaibljdlpmbfaaPart8
import Derived.BigRegion
import Derived.Test.YtlaibljdlpmbfaaPart10
set_option linter.unusedVariables false
set_option linter.unusedSimpArgs false
/- Walks: work.onWant. -/
namespace Go.Proofs.Ytlaibljdlpmbfaa
open Go.RowKit
set_option maxHeartbeats 8000000
set_option maxRecDepth 100000

theorem want3 {r : Scu.Replica} (h : Rep3 r) (v : Int) : Rep3 (Scu.want r v).1 := ⟨rfl, by simp [Scu.want, Scu.fresh], rfl, rfl, h.2.2.2.2⟩
theorem wantIf3 {r : Scu.Replica} (h : Rep3 r) (v : Int) : Rep3 (Scu.wantIf r v).1 := by
  unfold Scu.wantIf
  split
  · exact want3 h v
  · exact h
theorem wantIf_len (r : Scu.Replica) (v : Int) : (Scu.wantIf r v).2.length ≤ 3 := by
  unfold Scu.wantIf
  split
  · exact part_len r.me v { Scu.msg0 with kind := 3 } 3
  · exact Nat.zero_le _
theorem wantIf_view (r : Scu.Replica) (v : Int) (h : 0 ≤ r.kept.view) : 0 ≤ (Scu.wantIf r v).1.kept.view := by
  unfold Scu.wantIf
  split
  · show 0 ≤ v; omega
  · exact h
theorem hearWant_1 {r : Scu.Replica} {m : Scu.Message} {a : Scu.Replica × List Scu.Message} (ha : Scu.wantIf r m.view = a) (h : a.1.kept.calm = true ∨ a.1.wants.getD m.from_.toNat false = true) : Scu.hearWant r m = a := by
  subst ha
  unfold Scu.hearWant
  exact if_pos h
theorem hearWant_2 {r : Scu.Replica} {m : Scu.Message} {a : Scu.Replica × List Scu.Message} (ha : Scu.wantIf r m.view = a) (h : ¬ (a.1.kept.calm = true ∨ a.1.wants.getD m.from_.toNat false = true)) :
    Scu.hearWant r m = ((Scu.giveOut { a.1 with wants := a.1.wants.set m.from_.toNat true }).1, a.2 ++ (Scu.giveOut { a.1 with wants := a.1.wants.set m.from_.toNat true }).2) := by
  subst ha
  unfold Scu.hearWant Scu.giveOut
  simp only
  rw [if_neg h]
  split <;> rfl
/-- Behind the wish: what the call has come to. -/
structure WanI (w : World) (base gw gr : Nat) (r : Scu.Replica) (m : Scu.Message) (A : Option Addr) (n c : Nat) (ms : List Scu.Message) (gm : Nat) (wr : World) : Prop where
  work : WorkE wr base gw gr (Scu.wantIf r m.view).1 (ms ++ (Scu.wantIf r m.view).2)
  box : Blk wr gm 31 #[.int .i64 m.kind, .int .i64 m.from_, .int .i64 m.tq, .int .i64 m.view, .int .i64 m.normal, .int .i64 m.commit, .int .i64 m.n, .slice A n c]
  low : Below base w wr
theorem onWant_e (w : World) (base gw gr : Nat) (r : Scu.Replica) (m : Scu.Message) (A : Option Addr) (n c : Nat) (ms : List Scu.Message) (hW : WorkE w base gw gr r ms) (hbase : base ≤ w.heap.size) (h3 : Rep3 r) (hv0 : 0 ≤ r.kept.view) (hf0 : 0 ≤ m.from_) (hf3 : m.from_ < 3) (hm : (ms.length + 8) * 80 ≤ R47) :
    Calls Try.prog 14 #[.pointer (some ⟨gw, 0, none⟩), .agg #[.int .i64 m.kind, .int .i64 m.from_, .int .i64 m.tq, .int .i64 m.view, .int .i64 m.normal, .int .i64 m.commit, .int .i64 m.n, .slice A n c]] w fun e w' => e = .returned (.tuple #[]) ∧ WorkE w' base gw gr (Scu.hearWant r m).1 (ms ++ (Scu.hearWant r m).2) ∧ Below base w w' := by
  obtain ⟨lu, hv, wv, gv, nv, ov, css, hW⟩ := hW
  have HW := Lib.hid hW
  have H3 := Lib.hid h3
  have HM := Lib.hid hm
  have HMB := Lib.hid (And.intro hf0 hf3)
  clear hW h3 hm hf0 hf3
  go_enter Try.func14, Try.ntmps14
  go_upto_region 1 with fail
  obtain ⟨Wd, hWd⟩ : ∃ W, W = w.alloc (Obj.cells #[.int .i64 m.kind, .int .i64 m.from_, .int .i64 m.tq, .int .i64 m.view, .int .i64 m.normal, .int .i64 m.commit, .int .i64 m.n, .slice A n c] 31) := ⟨_, rfl⟩
  rw [← hWd]
  have hbw : Below w.heap.size w Wd := by rw [hWd]; exact below_alloc _ _
  have hk : Blk Wd w.heap.size 31 #[.int .i64 m.kind, .int .i64 m.from_, .int .i64 m.tq, .int .i64 m.view, .int .i64 m.normal, .int .i64 m.commit, .int .i64 m.n, .slice A n c] := by rw [hWd]; exact Blk.new _ _ _
  have HWD := Lib.hid (And.intro (HW.out.below hbw) (And.intro hk (hbw.mono hbase)))
  have hsd : base ≤ Wd.heap.size := Nat.le_trans hbase hbw.size
  have HNB := Lib.hid (show ov.ownBlock ≠ some w.heap.size from fun e => by have := (HW.out.out.row.lt _ e).2; omega)
  clear hWd hbw hk
  have d0 := HWD.out.1.wb.cell 0
  have d1 := HWD.out.1.rb.cell 1
  have k3 := HWD.out.2.1.cell 3
  simp only [List.getElem?_toArray, List.getElem?_cons_zero, List.getElem?_cons_succ] at d0 d1 k3
  have dl := HWD.out.1.wb.lt
  have dm := HWD.out.1.rb.lt
  have dk := HWD.out.2.1.lt
  by_cases hlt : r.kept.view < m.view
  · have hwi : Scu.wantIf r m.view = Scu.want r m.view := if_pos hlt
    have HWI := Lib.hid hwi
    clear hwi
    go_wp2_with fail
    go_region
    go_upto_region 2 with fail
    obtain ⟨We, hWe⟩ : ∃ W, W = Wd.drew := ⟨_, rfl⟩
    rw [← hWe]
    have HWE := Lib.hid (show Work We base gw gr r lu hv wv gv nv ov ms css ∧ Blk We w.heap.size 31 #[.int .i64 m.kind, .int .i64 m.from_, .int .i64 m.tq, .int .i64 m.view, .int .i64 m.normal, .int .i64 m.commit, .int .i64 m.n, .slice A n c] ∧ Below base w We from by rw [hWe]; exact ⟨HWD.out.1.below (Below.refl _ _).drew, HWD.out.2.1, HWD.out.2.2.drew⟩)
    clear hWe d0 d1 k3 dl dm dk hlt
    have k3 := HWE.out.2.1.cell 3
    simp only [List.getElem?_toArray, List.getElem?_cons_zero, List.getElem?_cons_succ] at k3
    go_wp2_with fail
    refine (want_x We base gw gr r m.view lu hv wv gv nv ov ms css HWE.out.1 (Nat.le_trans hbase HWE.out.2.2.size) H3.out (Nat.le_trans (Nat.mul_le_mul_right 80 (by omega)) HM.out)).mono ?_; rintro en wt ⟨rfl, ⟨_, _, _, _, _, ov', _, hW2, hF⟩, hb2⟩
    have HT := Lib.hid (show WanI w base gw gr r m A n c ms w.heap.size wt from ⟨by rw [HWI.out]; exact hW2.e, (hF _ _ HWE.out.2.1 HNB.out).1, HWE.out.2.2.trans hb2⟩)
    clear hW2 hF hb2 k3
    obtain ⟨aa, haa⟩ : ∃ aa, aa = Scu.wantIf r m.view := ⟨_, rfl⟩
    have hwk := HT.out.work
    have ha3 : Rep3 aa.1 := by rw [haa]; exact wantIf3 H3.out m.view
    have hav : 0 ≤ aa.1.kept.view := by rw [haa]; exact wantIf_view r m.view hv0
    have hal : (ms ++ aa.2).length ≤ ms.length + 3 := by rw [List.length_append, haa]; have := wantIf_len r m.view; omega
    rw [← haa] at hwk
    have HA := Lib.hid (And.intro haa.symm (And.intro ha3 (And.intro hav hal)))
    clear haa ha3 hav hal
    obtain ⟨lu5, hv5, wv5, gv5, nv5, ov5, css5, hWt⟩ := hwk
    obtain ⟨g2, c2, hwu⟩ := ones3f hWt.own.own.wants HA.out.2.1.2.1
    subst hwu
    have hst : base ≤ wt.heap.size := Nat.le_trans hbase HT.out.low.size
    have d0 := hWt.wb.cell 0
    have d3 := hWt.rb.cell 3
    have d7 := hWt.rb.cell 7
    have k1 := HT.out.box.cell 1
    simp only [List.getElem?_toArray, List.getElem?_cons_zero, List.getElem?_cons_succ] at d0 d3 d7 k1
    have dl := hWt.wb.lt
    have dm := hWt.rb.lt
    have dk := HT.out.box.lt
    cases hca : aa.1.kept.calm with
    | true =>
      have hbeg := hearWant_1 HA.out.1 (.inl hca)
      rw [hca] at d3
      have HBEG := Lib.hid hbeg
      have HWT := Lib.hid hWt
      clear hbeg hWt hca
      go_wp2_with fail
      go_region
      go_wp2
      refine bodyPost_ret (v := .tuple #[]) (by simp [results, Try.results14]) rfl ?_
      rw [HBEG.out]
      exact ⟨rfl, (HWT.out.below (Below.refl _ _).drew).e, HT.out.low.drew⟩
    | false =>
      rw [hca] at d3
      obtain ⟨hgb, ⟨cur, hB⟩, hcw, hfw, hxx⟩ := ones3' hWt.own.own.wants HA.out.2.1.2.1
      obtain ⟨b, hb⟩ : ∃ b, b = aa.1.wants.getD m.from_.toNat false := ⟨_, rfl⟩
      have dw : wt.cell? ⟨g2, m.from_.toNat, none⟩ = some (.bool b) := by
        have hlt : m.from_.toNat < aa.1.wants.length := by rw [HA.out.2.1.2.1]; have := HMB.out; omega
        rw [hxx _ (by have := HMB.out; omega), List.getElem?_map, List.getElem?_eq_getElem hlt, hb, List.getD_eq_getElem?_getD, List.getElem?_eq_getElem hlt]
        rfl
      have dz := hfw m.from_.toNat
      have HBB := Lib.hid (And.intro hB (And.intro hgb (And.intro hb hca)))
      have HWT := Lib.hid hWt
      have hf0 := HMB.out.1
      have hf3 := HMB.out.2
      clear hxx hcw hfw hB hgb hb hWt hca
      cases b with
      | true =>
        have hbeg := hearWant_1 HA.out.1 (.inr HBB.out.2.2.1.symm)
        have HBEG := Lib.hid hbeg
        clear hbeg
        go_wp2_with fail
        go_region
        go_wp2
        refine bodyPost_ret (v := .tuple #[]) (by simp [results, Try.results14]) rfl ?_
        rw [HBEG.out]
        exact ⟨rfl, (HWT.out.below (Below.refl _ _).drew).e, HT.out.low.drew⟩
      | false =>
        have hbeg := hearWant_2 HA.out.1 (by rw [HBB.out.2.2.2, ← HBB.out.2.2.1]; simp)
        have HBEG := Lib.hid hbeg
        clear hbeg
        go_wp2_with fail
        go_region
        go_wp2_with fail
        go_region
        obtain ⟨W3, hW3⟩ : ∃ W, W = (wt.setCell ⟨g2, m.from_.toNat, none⟩ (.bool true)).drew.drew := ⟨_, rfl⟩
        rw [← hW3]
        have HN3 := Lib.hid (show WorkE W3 base gw gr { aa.1 with wants := aa.1.wants.set m.from_.toNat true } (ms ++ aa.2) ∧ Below base w W3 from by
          obtain ⟨a1, a2, _⟩ := HWT.out.put_wants HBB.out.1 HBB.out.2.1 m.from_.toNat true
          rw [hW3]
          exact ⟨(a1.below (Below.refl _ _).drew.drew).e, (HT.out.low.trans a2).drew.drew⟩)
        clear hW3 d0 d3 d7 k1 dl dm dk dw dz
        have hs3 : base ≤ W3.heap.size := Nat.le_trans hbase HN3.out.2.size
        go_wp2_with fail
        refine (give_e W3 base gw gr _ (ms ++ aa.2) HN3.out.1 hs3 (show Rep3 { aa.1 with wants := aa.1.wants.set m.from_.toNat true } from ⟨HA.out.2.1.1, by simp [HA.out.2.1.2.1], HA.out.2.1.2.2⟩) HA.out.2.2.1 (Nat.le_trans (Nat.mul_le_mul_right 80 (by have := HA.out.2.2.2; omega)) HM.out)).mono ?_; rintro en w4 ⟨rfl, hW4, hb4⟩
        have HX := Lib.hid (And.intro hW4 (HN3.out.2.trans hb4))
        clear hW4 hb4
        rename_i KK hKK
        refine hKK _ _ ?_
        dsimp only [wpList]
        go_end0
        rw [HBEG.out]
        refine ⟨rfl, ?_, HX.out.2⟩
        rw [← List.append_assoc]
        exact HX.out.1
  · have hwi : Scu.wantIf r m.view = (r, []) := if_neg hlt
    have HWI := Lib.hid hwi
    clear hwi
    go_wp2_with fail
    go_region
    go_upto_region 3 with fail
    obtain ⟨wt, hwt⟩ : ∃ W, W = Wd.drew := ⟨_, rfl⟩
    rw [← hwt]
    have HT := Lib.hid (show WanI w base gw gr r m A n c ms w.heap.size wt from by rw [hwt]; exact ⟨by rw [HWI.out, List.append_nil]; exact (HWD.out.1.below (Below.refl _ _).drew).e, HWD.out.2.1, HWD.out.2.2.drew⟩)
    clear hwt d0 d1 k3 dl dm dk hlt
    obtain ⟨aa, haa⟩ : ∃ aa, aa = Scu.wantIf r m.view := ⟨_, rfl⟩
    have hwk := HT.out.work
    have ha3 : Rep3 aa.1 := by rw [haa]; exact wantIf3 H3.out m.view
    have hav : 0 ≤ aa.1.kept.view := by rw [haa]; exact wantIf_view r m.view hv0
    have hal : (ms ++ aa.2).length ≤ ms.length + 3 := by rw [List.length_append, haa]; have := wantIf_len r m.view; omega
    rw [← haa] at hwk
    have HA := Lib.hid (And.intro haa.symm (And.intro ha3 (And.intro hav hal)))
    clear haa ha3 hav hal
    obtain ⟨lu5, hv5, wv5, gv5, nv5, ov5, css5, hWt⟩ := hwk
    obtain ⟨g2, c2, hwu⟩ := ones3f hWt.own.own.wants HA.out.2.1.2.1
    subst hwu
    have hst : base ≤ wt.heap.size := Nat.le_trans hbase HT.out.low.size
    have d0 := hWt.wb.cell 0
    have d3 := hWt.rb.cell 3
    have d7 := hWt.rb.cell 7
    have k1 := HT.out.box.cell 1
    simp only [List.getElem?_toArray, List.getElem?_cons_zero, List.getElem?_cons_succ] at d0 d3 d7 k1
    have dl := hWt.wb.lt
    have dm := hWt.rb.lt
    have dk := HT.out.box.lt
    cases hca : aa.1.kept.calm with
    | true =>
      have hbeg := hearWant_1 HA.out.1 (.inl hca)
      rw [hca] at d3
      have HBEG := Lib.hid hbeg
      have HWT := Lib.hid hWt
      clear hbeg hWt hca
      go_wp2_with fail
      go_region
      go_wp2
      refine bodyPost_ret (v := .tuple #[]) (by simp [results, Try.results14]) rfl ?_
      rw [HBEG.out]
      exact ⟨rfl, (HWT.out.below (Below.refl _ _).drew).e, HT.out.low.drew⟩
    | false =>
      rw [hca] at d3
      obtain ⟨hgb, ⟨cur, hB⟩, hcw, hfw, hxx⟩ := ones3' hWt.own.own.wants HA.out.2.1.2.1
      obtain ⟨b, hb⟩ : ∃ b, b = aa.1.wants.getD m.from_.toNat false := ⟨_, rfl⟩
      have dw : wt.cell? ⟨g2, m.from_.toNat, none⟩ = some (.bool b) := by
        have hlt : m.from_.toNat < aa.1.wants.length := by rw [HA.out.2.1.2.1]; have := HMB.out; omega
        rw [hxx _ (by have := HMB.out; omega), List.getElem?_map, List.getElem?_eq_getElem hlt, hb, List.getD_eq_getElem?_getD, List.getElem?_eq_getElem hlt]
        rfl
      have dz := hfw m.from_.toNat
      have HBB := Lib.hid (And.intro hB (And.intro hgb (And.intro hb hca)))
      have HWT := Lib.hid hWt
      have hf0 := HMB.out.1
      have hf3 := HMB.out.2
      clear hxx hcw hfw hB hgb hb hWt hca
      cases b with
      | true =>
        have hbeg := hearWant_1 HA.out.1 (.inr HBB.out.2.2.1.symm)
        have HBEG := Lib.hid hbeg
        clear hbeg
        go_wp2_with fail
        go_region
        go_wp2
        refine bodyPost_ret (v := .tuple #[]) (by simp [results, Try.results14]) rfl ?_
        rw [HBEG.out]
        exact ⟨rfl, (HWT.out.below (Below.refl _ _).drew).e, HT.out.low.drew⟩
      | false =>
        have hbeg := hearWant_2 HA.out.1 (by rw [HBB.out.2.2.2, ← HBB.out.2.2.1]; simp)
        have HBEG := Lib.hid hbeg
        clear hbeg
        go_wp2_with fail
        go_region
        go_wp2_with fail
        go_region
        obtain ⟨W3, hW3⟩ : ∃ W, W = (wt.setCell ⟨g2, m.from_.toNat, none⟩ (.bool true)).drew.drew := ⟨_, rfl⟩
        rw [← hW3]
        have HN3 := Lib.hid (show WorkE W3 base gw gr { aa.1 with wants := aa.1.wants.set m.from_.toNat true } (ms ++ aa.2) ∧ Below base w W3 from by
          obtain ⟨a1, a2, _⟩ := HWT.out.put_wants HBB.out.1 HBB.out.2.1 m.from_.toNat true
          rw [hW3]
          exact ⟨(a1.below (Below.refl _ _).drew.drew).e, (HT.out.low.trans a2).drew.drew⟩)
        clear hW3 d0 d3 d7 k1 dl dm dk dw dz
        have hs3 : base ≤ W3.heap.size := Nat.le_trans hbase HN3.out.2.size
        go_wp2_with fail
        refine (give_e W3 base gw gr _ (ms ++ aa.2) HN3.out.1 hs3 (show Rep3 { aa.1 with wants := aa.1.wants.set m.from_.toNat true } from ⟨HA.out.2.1.1, by simp [HA.out.2.1.2.1], HA.out.2.1.2.2⟩) HA.out.2.2.1 (Nat.le_trans (Nat.mul_le_mul_right 80 (by have := HA.out.2.2.2; omega)) HM.out)).mono ?_; rintro en w4 ⟨rfl, hW4, hb4⟩
        have HX := Lib.hid (And.intro hW4 (HN3.out.2.trans hb4))
        clear hW4 hb4
        rename_i KK hKK
        refine hKK _ _ ?_
        dsimp only [wpList]
        go_end0
        rw [HBEG.out]
        refine ⟨rfl, ?_, HX.out.2⟩
        rw [← List.append_assoc]
        exact HX.out.1
end Go.Proofs.Ytlaibljdlpmbfaa
/- Words: ref.heard: who wants, who gives: what comes ahead. -/
namespace Go.Proofs.Ytlaibljdlpmbfaa
set_option linter.unusedVariables false
set_option linter.unusedSimpArgs false
open Go.RowKit
set_option maxHeartbeats 2000000
set_option maxRecDepth 100000
theorem want_three {r : Scu.Replica} (v : Int) (h : Rep3 r) : Rep3 (Scu.wantIf r v).1 := by
  unfold Scu.wantIf
  split
  · unfold Scu.want Scu.fresh
    exact ⟨rfl, by simp, rfl, rfl, h.2.2.2.2.1, h.2.2.2.2.2⟩
  · exact h
theorem want_me (r : Scu.Replica) (v : Int) : (Scu.wantIf r v).1.me = r.me := by
  unfold Scu.wantIf
  split <;> rfl
theorem toAll_len (me v : Int) (m : Scu.Message) : (Scu.toAll me v m).length ≤ 3 := by
  unfold Scu.toAll
  rw [List.length_map]
  exact List.length_filter_le _ _
theorem begun_len (r : Scu.Replica) : (Scu.begun r).2.length ≤ 3 := by
  unfold Scu.begun
  split
  · simp
  · split
    · simp
    · exact toAll_len _ _ _
theorem want_norm {r : Scu.Replica} (v : Int) (h : ∀ k ∈ r.gives, 0 ≤ k.normal) : ∀ k ∈ (Scu.wantIf r v).1.gives, 0 ≤ k.normal := by
  unfold Scu.wantIf
  split
  · intro k hk
    have : k = Scu.kept0 := by
      unfold Scu.want Scu.fresh at hk
      simpa using hk
    rw [this]
    decide
  · exact h
theorem want_kn (r : Scu.Replica) (v : Int) : (Scu.wantIf r v).1.kept.normal = r.kept.normal := by
  unfold Scu.wantIf
  split <;> rfl
theorem want_kv {r : Scu.Replica} {v : Int} (h : 0 ≤ r.kept.view) : 0 ≤ (Scu.wantIf r v).1.kept.view := by
  unfold Scu.wantIf
  split
  · unfold Scu.want Scu.fresh
    show 0 ≤ v
    omega
  · exact h
theorem set_norm {l : List Scu.Kept} {n : Nat} {k : Scu.Kept} (h : ∀ x ∈ l, 0 ≤ x.normal) (hk : 0 ≤ k.normal) : ∀ x ∈ l.set n k, 0 ≤ x.normal := by
  intro x hx
  rcases List.mem_or_eq_of_mem_set hx with h' | rfl
  · exact h x h'
  · exact hk
theorem RWkE.app {w w' : World} {base g : Nat} {r : Scu.Replica} (h : RWkE w base g r) (hs : Same [9, 3, 4, 24, 29] 0 w w') : RWkE w' base g r := by
  obtain ⟨lu, hv, wv, gv, nv, h⟩ := h
  exact ⟨_, _, _, _, _, blk_keep h.rb hs (by simp), h.own.same (hs.mono (by simp) (Nat.le_refl _)), h.lr⟩
theorem hr_src {W : World} {m : Scu.Message} {Al : Option Addr} {nl cl : Nat} : Src1 (W.alloc (Obj.cells #[.int .i64 m.kind, .int .i64 m.from_, .int .i64 m.tq, .int .i64 m.view, .int .i64 m.normal, .int .i64 m.commit, .int .i64 m.n, .slice Al nl cl] 31)).drew 8 (.slice (some ⟨W.heap.size, 0, none⟩) 1 1) 1 (msgV m (.slice Al nl cl)) := by
  refine ⟨rfl, .inr ⟨_, _, rfl, fun j v hj => ?_⟩⟩
  rw [show (⟨W.heap.size, 0, none⟩ : Addr).add j = ⟨W.heap.size, j, none⟩ by unfold Addr.add; split <;> simp_all]
  refine (((Blk.new W 31 _).drew).cell j).trans ?_
  simpa [msgV] using hj
theorem OwnMs.append {W W4 : World} {base : Nat} {ov ov2 v4 : Value} {ms ms2 : List Scu.Message} {css css2 : List (List Value)} (h : OwnMs W base ov ms css) (h2 : OwnMs W base ov2 ms2 css2) (hm : (ms.length + ms2.length) * 80 ≤ R47)
    (h4 : W4.ownsRow base 31 8 v4 (ms.length + ms2.length) (css.flatten ++ css2.flatten)) (hg : W.grownBy W4 ov.ownBlock) : OwnMs W4 base v4 (ms ++ ms2) (css ++ css2) := by
  have hs : Same [9] 0 W W4 := Same.own h.row hg (Nat.zero_le _) (by decide)
  refine ⟨by simp [h.len, h2.len], ?_, by rw [List.length_append, List.flatten_append]; exact h4, ?_, by rw [List.length_append]; exact hm⟩
  · intro cs hcs
    rcases List.mem_append.1 hcs with hc | hc
    · exact h.eight cs hc
    · exact h2.eight cs hc
  · intro j cs m h5 h6
    rcases Nat.lt_or_ge j css.length with hj | hj
    · rw [List.getElem?_append_left hj] at h5
      rw [List.getElem?_append_left (by rw [← h.len]; exact hj)] at h6
      exact (h.each j cs m h5 h6).same (by simp) hs
    · rw [List.getElem?_append_right hj] at h5
      rw [List.getElem?_append_right (by rw [← h.len]; exact hj), ← h.len] at h6
      exact (h2.each _ cs m h5 h6).same (by simp) hs
theorem one_msgw {m : Scu.Message} {Al : Option Addr} {nl cl : Nat} : ∀ v ∈ msgV m (.slice Al nl cl), v.oneCell' = true := by
  intro v hv
  simp only [msgV, List.mem_cons, List.not_mem_nil, or_false] at hv
  rcases hv with rfl | rfl | rfl | rfl | rfl | rfl | rfl | rfl <;> rfl
theorem OwnMs.src {W : World} {base : Nat} {A : Option Addr} {c n : Nat} {ms : List Scu.Message} {css : List (List Value)} (h : OwnMs W base (.slice A n c) ms css) : n = ms.length ∧ Src1 W 8 (.slice A n c) ms.length css.flatten ∧ ∀ u ∈ css.flatten, u.oneCell' = true := by
  obtain ⟨A', c', e, _, hA, hr, _⟩ := rd_own h.row
  cases e
  have hl : css.flatten.length = ms.length * 8 := by
    have := h.row
    exact this.1
  refine ⟨rfl, src_of_rd hr hl (fun e => (hA e).1), ?_⟩
  intro u hu
  obtain ⟨cs, hcs, hu⟩ := List.mem_flatten.1 hu
  obtain ⟨j, hj, rfl⟩ := List.mem_iff_getElem.1 hcs
  have hjm : j < ms.length := by rw [← h.len]; exact hj
  obtain ⟨lx, he, hx⟩ := h.each j css[j] ms[j] (List.getElem?_eq_getElem hj) (List.getElem?_eq_getElem hjm)
  obtain ⟨A3, n3, c3, rfl⟩ := hx.form
  rw [he] at hu
  exact one_msgw u hu
theorem own_w {w : World} {base g : Nat} {r : Scu.Replica} {lu hv wv gv nv : Value} (h : RWk w base g r lu hv wv gv nv) {W : World} (hW : Below w.heap.size w W) :
    Calls Try.prog 39 #[.agg #[.int .i64 r.me, .int .i64 r.kept.view, .int .i64 r.kept.normal, .bool r.kept.calm, lu, .int .i64 r.kept.commit, hv, wv, gv, nv]] W fun e w' =>
      (∃ Au cu, e = .returned (.agg #[.int .i64 r.kept.view, .int .i64 r.kept.normal, .bool false, .slice Au r.kept.log.length cu, .int .i64 r.kept.commit]) ∧ OwnStrs w' base (.slice Au r.kept.log.length cu) r.kept.log) ∧ Below W.heap.size W w' := by
  have h' := h.below hW
  obtain ⟨E0, m0, y0, E1, y1, E2, y2, E3, y3, E4, y4, rfl, rfl, rfl, rfl, rfl⟩ := h'.own.is.forms
  obtain rfl : m0 = r.kept.log.length := by obtain ⟨⟨A', c', e, _⟩, _⟩ := h'.own.own.log.is; cases e; rfl
  refine (own_c E0 y0 E1 y1 E2 y2 E3 y3 E4 y4 r W h'.own.is.log).mono ?_
  rintro e w' ⟨⟨Au, cu, rfl, ho⟩, hb⟩
  exact ⟨⟨_, _, rfl, OwnStrs.base_ ho h'.base_le⟩, hb⟩
theorem gives_there {w : World} {base g d n c : Nat} {r : Scu.Replica} {lu hv wv nv : Value} (h : RWk w base g r lu hv wv (.slice (some ⟨d, 0, none⟩) n c) nv) {i : Nat} (hi : i < r.gives.length) : w.there d (i * 5) 5 := by
  obtain ⟨kss, hks⟩ := h.own.giv
  obtain ⟨hz, lv, y0, y1, y2, y3, y4, _⟩ := hks.cells hi
  intro j hj
  refine ⟨?_, hz _⟩
  match j, hj with
  | 0, _ => rw [Nat.add_zero, y0]; rfl
  | 1, _ => rw [y1]; rfl
  | 2, _ => rw [y2]; rfl
  | 3, _ => rw [y3]; rfl
  | 4, _ => rw [y4]; rfl
theorem gives_blk {w : World} {base g d n c : Nat} {r : Scu.Replica} {lu hv wv nv : Value} (h : RWk w base g r lu hv wv (.slice (some ⟨d, 0, none⟩) n c) nv) : ∃ cur, Blk w d 24 cur := by
  obtain ⟨kss, hks⟩ := h.own.giv
  exact (own_blk? hks.row).2
end Go.Proofs.Ytlaibljdlpmbfaa
/- Walks: ref.heard: who wants a view. -/
namespace Go.Proofs.Ytlaibljdlpmbfaa
set_option linter.unusedVariables false
set_option linter.unusedSimpArgs false
open Go.RowKit
set_option maxHeartbeats 16000000
set_option maxRecDepth 100000
/- a region that only reads: $1 the numbers, $2 how many, $3 more facts, $4 the world, $5 the world behind it; HS says what holds -/
/- a region that ends in a store, t: up to the store ($1 numbers, $2 how many, $3 more facts, $4 the world, $5 the store's number) -/
/- as QR, but the world keeps its written form $4.drew -/
/- the message's log is taken over into new memory; $1 its slot, $2 the world: v4, x4; HCL: what is new -/
/- ahead of who wants and who gives: a, what comes of a newer view; W0: the world, HS -/
/- the replica's own gift is put: $1 the world, $2 the next region, $3 $4 the store's address and value, $5 the replica; HN, HN2: what holds behind it -/
/- given is set: $1 whose, $2 that it is below 3, $3 the world, $4 more, $5 the replica; HS5 -/
/- begun, and what it says appended to am: $1 $2 the slots, $3 the replica; HS, H32, HNG hold, HFI: what heard comes to -/
theorem heard_3 (g base : Nat) (r : Scu.Replica) (lu hv wv gv nv : Value) (m : Scu.Message) (A : Option Addr) (c : Nat) (w : World) (hR : RWk w base g r lu hv wv gv nv) (h3 : Rep3 r) (hN : ∀ k ∈ r.gives, 0 ≤ k.normal) (hn0 : 0 ≤ r.kept.normal) (hv0 : 0 ≤ r.kept.view) (hl : LowStrs w base (.slice A m.log.length c) m.log) (hk : m.kind = 3) (hf0 : 0 ≤ m.from_) (hf3 : m.from_ < 3)
    (rr : Scu.Replica) (ms : List Scu.Message) (hh : Scu.hearWant r m = (rr, ms)) :
    Calls Try.prog 18 #[.pointer (some ⟨g, 0, none⟩), .agg #[.int .i64 m.kind, .int .i64 m.from_, .int .i64 m.tq, .int .i64 m.view, .int .i64 m.normal, .int .i64 m.commit, .int .i64 m.n, .slice A m.log.length c]] w fun e w' => (∃ ov css, e = .returned ov ∧ OwnMs w' base ov ms css) ∧ RWkE w' base g rr ∧ Below base w w' := by
  have hk1 : (m.kind == 1) = false := by simp [hk]
  have hk2 : (m.kind == 2) = false := by simp [hk]
  have hk3 : (m.kind == 3) = true := by simp [hk]
  have hk4 : (m.kind == 4) = false := by simp [hk]
  obtain ⟨fn, hfn⟩ : ∃ fn : Nat, m.from_ = fn := ⟨m.from_.toNat, by omega⟩
  have hfn3 : fn < 3 := by omega
  have hal := below_alloc w (Obj.cells #[.int .i64 m.kind, .int .i64 m.from_, .int .i64 m.tq, .int .i64 m.view, .int .i64 m.normal, .int .i64 m.commit, .int .i64 m.n, .slice A m.log.length c] 31)
  have hst : HrS w (w.alloc (Obj.cells #[.int .i64 m.kind, .int .i64 m.from_, .int .i64 m.tq, .int .i64 m.view, .int .i64 m.normal, .int .i64 m.commit, .int .i64 m.n, .slice A m.log.length c] 31)) base g w.heap.size r lu hv wv gv nv m A c (.slice none 0 0) [] [] := ⟨hR.below hal, Blk.new _ _ _, hl.keep (hal.mono hR.base_le), OwnMs.nil_, hal.mono hR.base_le⟩
  obtain ⟨E0, z0, a, c1, b, c2, d, c3, e, c4, -, -, rfl, rfl, rfl, rfl, rfl, -⟩ := hst.forms h3
  have H3 := Lib.hid h3
  have HH := Lib.hid hh
  have HN0 := Lib.hid (And.intro hN (And.intro hn0 hv0))
  have HFN := Lib.hid hfn
  have hl47 := hl.len
  unfold R47 at hl47
  clear hR h3 hl hk hh hN hn0 hv0 hf0 hf3 hfn
  go_enter Try.func18, Try.ntmps18
  go_upto_region 3 with fail
  obtain ⟨W0, hW0⟩ : ∃ W, W = w.alloc (Obj.cells #[.int .i64 m.kind, .int .i64 m.from_, .int .i64 m.tq, .int .i64 m.view, .int .i64 m.normal, .int .i64 m.commit, .int .i64 m.n, .slice A m.log.length c] 31) := ⟨_, rfl⟩
  obtain ⟨gm, hgm⟩ : ∃ g, w.heap.size = g := ⟨_, rfl⟩
  rw [← hW0, hgm] at hst
  rw [← hW0, hgm]
  have HS := Lib.hid hst
  clear hW0 hgm hst hal
  obtain ⟨bq, hbq⟩ : ∃ b : Bool, decide (r.kept.view < m.view) = b := ⟨_, rfl⟩
  have HBQ := Lib.hid hbq
  clear hbq
  go_cut [31] from 15 to 30 (fun bv wx => bv = .bool bq ∧ wx = W0.drew)
  case first =>
    by_cases hA : r.kept.view < m.view
    · have HE := Lib.hid (show true = bq by rw [← HBQ.out]; simp [hA])
      obtain ⟨S, hSd⟩ : ∃ S : World → Prop, S = fun w' => Below W0.heap.size W0 w' := ⟨_, rfl⟩
      have hS0 : S W0.drew := by rw [hSd]; exact (Below.refl _ _).drew
      refine wp_region_held (S := S) (by kernel_rfl) ?_
      change wpAnyH _ _ _ _ _ _ _ _ W0.drew
      refine tkHs [0, 1, 2, 3, 4, 5, 6, 7, 8, 9, 10, 11, 12, 13, 14, 15, 16] (by kernel_rfl) (fun _ _ _ _ _ h => h) hS0 ?_
      iterate 17
        first
        | (refine tkc (v := ?_) rfl (Or.inl ⟨by rfl, ?_⟩) ?_; rotate_left; (intro wv hSw; rw [hSd] at hSw; obtain ⟨q0, q1, q2, q3, q4, q5, q6, q7, q8, q9⟩ := cz10 (HS.out.rw_.rb.same hSw); obtain ⟨p0, p1, p2, p3, p4, p5, p6, p7⟩ := cz8 (HS.out.mb.same hSw); skip; go_simp; done); (try simp only [Act.put, zp1, zp2, zp3]))
        | (refine tkc (v := ?_) rfl (Or.inl ⟨by rfl, ?_⟩) ?_; rotate_left; (intro wv hSw; rw [hSd] at hSw; obtain ⟨q0, q1, q2, q3, q4, q5, q6, q7, q8, q9⟩ := cz10 (HS.out.rw_.rb.same hSw); obtain ⟨p0, p1, p2, p3, p4, p5, p6, p7⟩ := cz8 (HS.out.mb.same hSw); skip; go_simp; with_reducible rfl); (try simp only [Act.put, zp1, zp2, zp3]))
        | (refine tkc (v := undef) rfl (Or.inr ⟨by rfl, rfl⟩) ?_; (try simp only [Act.put, zp1, zp2, zp3]))
      refine tkz ?_
      refine wpAnyH_done (by kernel_rfl) ?_ _
      change Exit.then _ _ _ _ W0.drew
      clear hS0 hSd
      go_wp2_with fail
      go_meet
      exact ⟨by rw [HE.out], rfl⟩
    · have HE := Lib.hid (show false = bq by rw [← HBQ.out]; simp [hA])
      obtain ⟨S, hSd⟩ : ∃ S : World → Prop, S = fun w' => Below W0.heap.size W0 w' := ⟨_, rfl⟩
      have hS0 : S W0.drew := by rw [hSd]; exact (Below.refl _ _).drew
      refine wp_region_held (S := S) (by kernel_rfl) ?_
      change wpAnyH _ _ _ _ _ _ _ _ W0.drew
      refine tkHs [0, 1, 2, 3, 4, 5, 6, 7, 8, 9, 10, 11, 12, 13, 14, 15, 16] (by kernel_rfl) (fun _ _ _ _ _ h => h) hS0 ?_
      iterate 17
        first
        | (refine tkc (v := ?_) rfl (Or.inl ⟨by rfl, ?_⟩) ?_; rotate_left; (intro wv hSw; rw [hSd] at hSw; obtain ⟨q0, q1, q2, q3, q4, q5, q6, q7, q8, q9⟩ := cz10 (HS.out.rw_.rb.same hSw); obtain ⟨p0, p1, p2, p3, p4, p5, p6, p7⟩ := cz8 (HS.out.mb.same hSw); skip; go_simp; done); (try simp only [Act.put, zp1, zp2, zp3]))
        | (refine tkc (v := ?_) rfl (Or.inl ⟨by rfl, ?_⟩) ?_; rotate_left; (intro wv hSw; rw [hSd] at hSw; obtain ⟨q0, q1, q2, q3, q4, q5, q6, q7, q8, q9⟩ := cz10 (HS.out.rw_.rb.same hSw); obtain ⟨p0, p1, p2, p3, p4, p5, p6, p7⟩ := cz8 (HS.out.mb.same hSw); skip; go_simp; with_reducible rfl); (try simp only [Act.put, zp1, zp2, zp3]))
        | (refine tkc (v := undef) rfl (Or.inr ⟨by rfl, rfl⟩) ?_; (try simp only [Act.put, zp1, zp2, zp3]))
      refine tkz ?_
      refine wpAnyH_done (by kernel_rfl) ?_ _
      change Exit.then _ _ _ _ W0.drew
      clear hS0 hSd
      go_wp2_with fail
      go_meet
      exact ⟨by rw [HE.out], rfl⟩
  case rest =>
  obtain ⟨rfl, hwc⟩ := hcut
  rw [hwc]
  clear hwc
  have HS := Lib.hid (HS.out.below (Below.refl _ _).drew)
  obtain ⟨W1, hW1⟩ : ∃ W, W = W0.drew := ⟨_, rfl⟩
  rw [← hW1] at HS ⊢
  clear hW1
  obtain ⟨ar, am, ha⟩ : ∃ ar am, Scu.wantIf r m.view = (ar, am) := ⟨_, _, rfl⟩
  have HA := Lib.hid ha
  clear ha
  go_upto_if 31 with fail
  go_cut [5] from 31 to 35 (fun ov wx => ∃ lu hv wv gv nv css, HrS w wx base g gm ar lu hv wv gv nv m A c ov am css)
  case first =>
    cases bq with
    | true =>
      have hvw : r.kept.view < m.view := of_decide_eq_true HBQ.out
      have HW := Lib.hid (show Scu.want r m.view = (ar, am) by rw [← HA.out]; unfold Scu.wantIf; rw [if_pos hvw])
      obtain ⟨-, -, -, p3, -⟩ := cz5 HS.out.mb
      clear hvw
      go_wp2_with fail
      refine (wanted_c g r _ _ _ _ _ m.view base W1 HS.out.rw_.rb HS.out.rw_.own.own.log HS.out.rw_.lr H3.out.2.2.2.2.1 H3.out.2.2.2.2.2 ar am HW.out).mono ?_; rintro en x1 ⟨⟨Ao, co, css, hu', wu', gu', nu', rfl, hB, hown, hmo⟩, h3, hsm⟩
      have HN := Lib.hid (show HrS w x1 base g gm ar _ hu' wu' gu' nu' m A c (.slice Ao am.length co) am css from ⟨⟨hB, hown, HS.out.rw_.lr⟩, blk_keep HS.out.mb hsm (by simp), HS.out.ml.keep h3, hmo, HS.out.low.trans h3⟩)
      clear hB hown hmo h3 hsm
      go_wp2_with fail
      go_meet
      exact ⟨_, _, _, _, _, _, HN.out⟩
    | false =>
      have hvw : ¬ r.kept.view < m.view := of_decide_eq_false HBQ.out
      have hw : Scu.wantIf r m.view = (r, []) := by unfold Scu.wantIf; rw [if_neg hvw]
      have HW := Lib.hid (Prod.mk.inj (hw.symm.trans HA.out))
      clear hvw hw
      go_wp2_with fail
      go_meet
      rw [← HW.out.1, ← HW.out.2]
      exact ⟨_, _, _, _, _, _, HS.out⟩
  case rest =>
  obtain ⟨lu, hv, wv, gv, nv, css, hst⟩ := hcut
  have h31 : Rep3 ar := by have := want_three m.view H3.out; rwa [HA.out] at this
  have hme : ar.me = r.me := by have := want_me r m.view; rwa [HA.out] at this
  obtain ⟨E0, z0, a, c1, b, c2, d, c3, e, c4, Ao, co, rfl, rfl, rfl, rfl, rfl, rfl⟩ := hst.forms h31
  obtain ⟨W2, hW2⟩ : ∃ W, W = wc := ⟨_, rfl⟩
  rw [← hW2] at hst ⊢
  have HS := Lib.hid hst
  have H31 := Lib.hid h31
  have HME := Lib.hid hme
  clear hW2 hst h31 hme
  obtain ⟨p0, -⟩ := cz2 HS.out.mb
  go_upto_region 41 with fail
  clear p0
  obtain ⟨hbb, ⟨cur, hB⟩, _, hfz, hcn⟩ := ones3' HS.out.rw_.own.own.wants H31.out.2.1
  obtain ⟨wq, hwq⟩ : ∃ b, ar.wants[fn]? = some b := ⟨_, List.getElem?_eq_getElem (by rw [H31.out.2.1]; exact hfn3)⟩
  have dh : W2.cell? ⟨b, fn, none⟩ = some (.bool wq) := by rw [hcn _ hfn3, List.getElem?_map, hwq]; rfl
  have dal := World.block_lt_of_cell? W2 _ dh
  have hwd : ar.wants.getD m.from_.toNat false = wq := by rw [HFN.out, Int.toNat_natCast, List.getD_eq_getElem?_getD, hwq]; rfl
  have HWD := Lib.hid hwd
  have HB := Lib.hid (And.intro hB (And.intro hbb hfz))
  have hf0' : (0 : Int) ≤ (fn : Int) := by omega
  have hf3' : (fn : Int) < 3 := by omega
  obtain ⟨bc, hbc⟩ : ∃ b : Bool, decide (ar.kept.calm = true ∨ wq = true) = b := ⟨_, rfl⟩
  have HBC := Lib.hid hbc
  clear hcn hwq hwd hB hbb hfz hbc
  go_cut [278] from 265 to 277 (fun bv wx => bv = .bool bc ∧ wx = W2.drew)
  case first =>
    cases hcq : ar.kept.calm with
    | true =>
      have HE := Lib.hid (show true = bc by rw [← HBC.out]; simp [hcq])
      have HQ := Lib.hid hcq
      clear hcq
      obtain ⟨S, hSd⟩ : ∃ S : World → Prop, S = fun w' => Below W2.heap.size W2 w' := ⟨_, rfl⟩
      have hS0 : S W2.drew := by rw [hSd]; exact (Below.refl _ _).drew
      refine wp_region_held (S := S) (by kernel_rfl) ?_
      change wpAnyH _ _ _ _ _ _ _ _ W2.drew
      refine tkHs [0, 1, 2, 3, 4, 5, 6, 7, 8, 9, 10, 11, 12, 13] (by kernel_rfl) (fun _ _ _ _ _ h => h) hS0 ?_
      iterate 14
        first
        | (refine tkc (v := ?_) rfl (Or.inl ⟨by rfl, ?_⟩) ?_; rotate_left; (intro wv hSw; rw [hSd] at hSw; obtain ⟨q0, q1, q2, q3, q4, q5, q6, q7, q8, q9⟩ := cz10 (HS.out.rw_.rb.same hSw); obtain ⟨p0, p1, p2, p3, p4, p5, p6, p7⟩ := cz8 (HS.out.mb.same hSw); (rw [HQ.out] at q3; rw [HFN.out] at p1; have q10 := cW hSw dal dh); go_simp; done); (try simp only [Act.put, zp1, zp2, zp3]))
        | (refine tkc (v := ?_) rfl (Or.inl ⟨by rfl, ?_⟩) ?_; rotate_left; (intro wv hSw; rw [hSd] at hSw; obtain ⟨q0, q1, q2, q3, q4, q5, q6, q7, q8, q9⟩ := cz10 (HS.out.rw_.rb.same hSw); obtain ⟨p0, p1, p2, p3, p4, p5, p6, p7⟩ := cz8 (HS.out.mb.same hSw); (rw [HQ.out] at q3; rw [HFN.out] at p1; have q10 := cW hSw dal dh); go_simp; with_reducible rfl); (try simp only [Act.put, zp1, zp2, zp3]))
        | (refine tkc (v := undef) rfl (Or.inr ⟨by rfl, rfl⟩) ?_; (try simp only [Act.put, zp1, zp2, zp3]))
      refine tkz ?_
      refine wpAnyH_done (by kernel_rfl) ?_ _
      change Exit.then _ _ _ _ W2.drew
      clear hS0 hSd
      go_wp2_with fail
      go_meet
      exact ⟨by rw [HE.out], rfl⟩
    | false =>
      have HE := Lib.hid (show wq = bc by rw [← HBC.out]; simp [hcq])
      have HQ := Lib.hid hcq
      clear hcq
      obtain ⟨S, hSd⟩ : ∃ S : World → Prop, S = fun w' => Below W2.heap.size W2 w' := ⟨_, rfl⟩
      have hS0 : S W2.drew := by rw [hSd]; exact (Below.refl _ _).drew
      refine wp_region_held (S := S) (by kernel_rfl) ?_
      change wpAnyH _ _ _ _ _ _ _ _ W2.drew
      refine tkHs [0, 1, 2, 3, 4, 5, 6, 7, 8, 9, 10, 11, 12, 13] (by kernel_rfl) (fun _ _ _ _ _ h => h) hS0 ?_
      iterate 14
        first
        | (refine tkc (v := ?_) rfl (Or.inl ⟨by rfl, ?_⟩) ?_; rotate_left; (intro wv hSw; rw [hSd] at hSw; obtain ⟨q0, q1, q2, q3, q4, q5, q6, q7, q8, q9⟩ := cz10 (HS.out.rw_.rb.same hSw); obtain ⟨p0, p1, p2, p3, p4, p5, p6, p7⟩ := cz8 (HS.out.mb.same hSw); (rw [HQ.out] at q3; rw [HFN.out] at p1; have q10 := cW hSw dal dh); go_simp; done); (try simp only [Act.put, zp1, zp2, zp3]))
        | (refine tkc (v := ?_) rfl (Or.inl ⟨by rfl, ?_⟩) ?_; rotate_left; (intro wv hSw; rw [hSd] at hSw; obtain ⟨q0, q1, q2, q3, q4, q5, q6, q7, q8, q9⟩ := cz10 (HS.out.rw_.rb.same hSw); obtain ⟨p0, p1, p2, p3, p4, p5, p6, p7⟩ := cz8 (HS.out.mb.same hSw); (rw [HQ.out] at q3; rw [HFN.out] at p1; have q10 := cW hSw dal dh); go_simp; with_reducible rfl); (try simp only [Act.put, zp1, zp2, zp3]))
        | (refine tkc (v := undef) rfl (Or.inr ⟨by rfl, rfl⟩) ?_; (try simp only [Act.put, zp1, zp2, zp3]))
      refine tkz ?_
      refine wpAnyH_done (by kernel_rfl) ?_ _
      change Exit.then _ _ _ _ W2.drew
      clear hS0 hSd
      go_wp2_with fail
      go_meet
      exact ⟨by rw [HE.out], rfl⟩
  case rest =>
  obtain ⟨rfl, hwc⟩ := hcut
  rw [hwc]
  clear hwc
  have hdr := (Below.refl W2.heap.size W2).drew
  have HS := Lib.hid (HS.out.below hdr)
  have HB := Lib.hid (And.intro (HB.out.1.same hdr) HB.out.2.1)
  have dh := cW hdr dal dh
  obtain ⟨W3, hW3⟩ : ∃ W, W = W2.drew := ⟨_, rfl⟩
  rw [← hW3] at HS HB dh ⊢
  clear hW3 hdr dal
  cases bc with
  | true =>
    have hcw : ar.kept.calm = true ∨ wq = true := of_decide_eq_true HBC.out
    have hhe : Scu.hearWant r m = (ar, am) := by unfold Scu.hearWant; rw [HA.out]; simp only; rw [HWD.out, if_pos hcw]
    have HE := Lib.hid (Prod.mk.inj (hhe.symm.trans HH.out))
    clear hhe hcw
    go_upto_if 278 with fail
    go_wp2
    go_ret
    rw [← HE.out.1, ← HE.out.2]
    first | exact ⟨⟨_, rfl, _, HS.out.out⟩, HS.out.rw_.e, HS.out.low⟩ | exact ⟨⟨_, _, rfl, HS.out.out⟩, HS.out.rw_.e, HS.out.low⟩
  | false =>
  have hcw : ¬ (ar.kept.calm = true ∨ wq = true) := of_decide_eq_false HBC.out
  have HCW := Lib.hid hcw
  clear hcw
  go_upto_if 278 with fail
  go_upto_region 43 with fail
  have fz5 := HB.out.1.frozen fn
  obtain ⟨q0, q1, q2, q3, q4, q5, q6, q7, q8, q9⟩ := cz10 HS.out.rw_.rb
  obtain ⟨p0, p1, p2, p3, p4, p5, p6, p7⟩ := cz8 HS.out.mb
  rw [HFN.out] at p1
  go_region
  have hst := ((HS.out.upd (HS.out.rw_.put_wants HB.out.1 HB.out.2 fn true).1 (Same.set_ HB.out.1 (Nat.zero_le _) (by decide) fn _) (HS.out.rw_.put_wants HB.out.1 HB.out.2 fn true).2).below (Below.refl _ _).drew)
  clear fz5 dh q0 q1 q2 q3 q4 q5 q6 q7 q8 q9 p0 p1 p2 p3 p4 p5 p6 p7
  obtain ⟨W4, hW4⟩ : ∃ W, W = (W3.setCell ⟨b, fn, none⟩ (.bool true)).drew := ⟨_, rfl⟩
  obtain ⟨br, hbr⟩ : ∃ q, q = ({ ar with wants := ar.wants.set fn true } : Scu.Replica) := ⟨_, rfl⟩
  rw [← hW4] at hst ⊢
  change HrS _ _ _ _ _ ({ ar with wants := ar.wants.set fn true } : Scu.Replica) _ _ _ _ _ _ _ _ _ _ _ at hst
  rw [← hbr, show ar.kept.log.length = br.kept.log.length by rw [hbr]] at hst
  have h31 : Rep3 br := by rw [hbr]; exact ⟨H31.out.1, by simp [H31.out.2.1], H31.out.2.2.1, H31.out.2.2.2.1, H31.out.2.2.2.2.1, H31.out.2.2.2.2.2⟩
  have hnv : (∀ k ∈ br.gives, 0 ≤ k.normal) ∧ 0 ≤ br.kept.normal ∧ 0 ≤ br.kept.view := by
    have h1 := want_norm m.view HN0.out.1
    have h2 := want_kn r m.view
    have h4 := want_kv (v := m.view) HN0.out.2.2
    rw [HA.out] at h1 h2 h4
    rw [hbr]
    exact ⟨h1, by show 0 ≤ ar.kept.normal; rw [show ar.kept.normal = r.kept.normal from h2]; exact HN0.out.2.1, h4⟩
  have hhw : Scu.hearWant r m = (if Scu.leader br.kept.view = br.me then ((Scu.take1 br (Scu.leader br.kept.view) br.kept).1, am ++ (Scu.take1 br (Scu.leader br.kept.view) br.kept).2) else (br, am ++ [{ Scu.msg0 with kind := 4, from_ := br.me, tq := Scu.leader br.kept.view, view := br.kept.view, normal := br.kept.normal, commit := br.kept.commit, log := br.kept.log }])) := by
    unfold Scu.hearWant
    rw [HA.out]
    simp only
    rw [HWD.out, if_neg HCW.out, hbr, show m.from_.toNat = fn by rw [HFN.out]; rfl]
  have HS := Lib.hid hst
  have H31 := Lib.hid h31
  have HNV := Lib.hid hnv
  have HHW := Lib.hid hhw
  clear hW4 hbr hst h31 hnv hhw HB
  obtain ⟨mn, hmn⟩ : ∃ n : Nat, br.me = n := ⟨br.me.toNat, by have := H31.out.2.2.2.2.1; omega⟩
  have hm3 : mn < 3 := by have := H31.out.2.2.2.2.2; omega
  have hm0' : (0 : Int) ≤ (mn : Int) := by omega
  have hm3' : (mn : Int) < 3 := by omega
  have HMN := Lib.hid hmn
  clear hmn
  obtain ⟨q0, q1, -⟩ := cz3 HS.out.rw_.rb
  have hvw := HNV.out.2.2
  by_cases hto : br.kept.view % 3 = br.me
  · go_upto_region 46 with fail
    have HTO := Lib.hid hto
    clear q0 q1 hvw hto
    obtain ⟨S, hSd⟩ : ∃ S : World → Prop, S = fun w' => Below W4.heap.size W4 w' := ⟨_, rfl⟩
    have hS0 : S W4.drew := by rw [hSd]; exact (Below.refl _ _).drew
    refine wp_region_E S 13 (by kernel_rfl) (fun hsh => ?_)
    change wpAnyE _ _ _ _ _ _ _ _ _ W4.drew
    refine tkEs 16 [0, 1, 2, 3, 4, 5, 6, 7, 8, 9, 10] (by kernel_rfl) (fun _ _ _ _ _ h => h) hsh hS0 ?_
    iterate 11
      first
      | (refine tkc (v := ?_) rfl (Or.inl ⟨by rfl, ?_⟩) ?_; rotate_left; (intro wv hSw; rw [hSd] at hSw; obtain ⟨q0, q1, q2, q3, q4, q5, q6, q7, q8, q9⟩ := cz10 (HS.out.rw_.rb.same hSw); obtain ⟨p0, p1, p2, p3, p4, p5, p6, p7⟩ := cz8 (HS.out.mb.same hSw); (rw [HMN.out] at q0); go_simp; done); (try simp only [Act.put, zp1, zp2, zp3]))
      | (refine tkc (v := ?_) rfl (Or.inl ⟨by rfl, ?_⟩) ?_; rotate_left; (intro wv hSw; rw [hSd] at hSw; obtain ⟨q0, q1, q2, q3, q4, q5, q6, q7, q8, q9⟩ := cz10 (HS.out.rw_.rb.same hSw); obtain ⟨p0, p1, p2, p3, p4, p5, p6, p7⟩ := cz8 (HS.out.mb.same hSw); (rw [HMN.out] at q0); go_simp; with_reducible rfl); (try simp only [Act.put, zp1, zp2, zp3]))
      | (refine tkc (v := undef) rfl (Or.inr ⟨by rfl, rfl⟩) ?_; (try simp only [Act.put, zp1, zp2, zp3]))
    refine tkz (fun hsh => ?_)
    refine alE 11 (by kernel_rfl) (wpOp_step (o := _) rfl fun KA hKA => ?_)
    go_simp
    have hdr : Below W4.heap.size W4 W4.drew := (Below.refl _ _).drew
    have hown := own_w HS.out.rw_ hdr
    rw [HMN.out] at hown
    refine hown.mono ?_; rintro en x4 ⟨⟨Au, cu, rfl, hou⟩, hb4⟩
    have hb4 : Below W4.heap.size W4 x4 := hdr.trans (hb4.mono hdr.size)
    have hS1 : S x4 := by rw [hSd]; exact hb4
    refine hKA _ _ ⟨.inr hS1, ?_⟩
    have hsh := hsh.set (i := 11) (by rw [← List.contains_iff_mem]; kernel_rfl)
    (try simp only [Act.put, List.getElem_toArray, List.getElem_cons_succ, List.getElem_cons_zero, zp1, zp2, zp3])
    have HOU := Lib.hid (And.intro hou hb4)
    clear hKA hS0 hou hb4 hdr hown
    refine tkEs 16 [12] (by kernel_rfl) (fun _ _ _ _ _ h => h) hsh hS1 ?_
    iterate 1
      first
      | (refine tkc (v := ?_) rfl (Or.inl ⟨by rfl, ?_⟩) ?_; rotate_left; (intro wv hSw; rw [hSd] at hSw; obtain ⟨q0, q1, q2, q3, q4, q5, q6, q7, q8, q9⟩ := cz10 (HS.out.rw_.rb.same hSw); obtain ⟨p0, p1, p2, p3, p4, p5, p6, p7⟩ := cz8 (HS.out.mb.same hSw); (rw [HMN.out] at q0); go_simp; done); (try simp only [Act.put, zp1, zp2, zp3]))
      | (refine tkc (v := ?_) rfl (Or.inl ⟨by rfl, ?_⟩) ?_; rotate_left; (intro wv hSw; rw [hSd] at hSw; obtain ⟨q0, q1, q2, q3, q4, q5, q6, q7, q8, q9⟩ := cz10 (HS.out.rw_.rb.same hSw); obtain ⟨p0, p1, p2, p3, p4, p5, p6, p7⟩ := cz8 (HS.out.mb.same hSw); (rw [HMN.out] at q0); go_simp; with_reducible rfl); (try simp only [Act.put, zp1, zp2, zp3]))
      | (refine tkc (v := undef) rfl (Or.inr ⟨by rfl, rfl⟩) ?_; (try simp only [Act.put, zp1, zp2, zp3]))
    refine tkz (fun hsh => ?_)
    refine alE 13 (by kernel_rfl) (wpOp_step (o := _) rfl fun KB hKB => ?_)
    rw [if_pos (by rfl)]
    have HS4 := Lib.hid (HS.out.below HOU.out.2)
    have hmg : mn < br.gives.length := by rw [H31.out.2.2.1]; exact hm3
    refine wp_store_mid 24 (.tmp 310) (.tmp 309) rfl d (mn * 5) #[.int .i64 br.kept.view, .int .i64 br.kept.normal, .bool false, .slice Au br.kept.log.length cu, .int .i64 br.kept.commit] (by go_simp) rfl (gives_there HS4.out.rw_ hmg) (by kernel_rfl) one_kept ?_
    obtain ⟨hk5, hb5⟩ := HS4.out.rw_.put_gives (i := mn) hmg (k := ⟨br.kept.view, br.kept.normal, false, br.kept.log, br.kept.commit⟩) HOU.out.1.is
    obtain ⟨_, hGB⟩ := gives_blk HS4.out.rw_
    have hs5 : Same [9, 31] 0 x4 (x4.setCells d (mn * 5) [.int .i64 br.kept.view, .int .i64 br.kept.normal, .bool false, .slice Au br.kept.log.length cu, .int .i64 br.kept.commit]) := Same.sets _ _ _ _ hGB (by decide)
    have hst := HS4.out.upd hk5 hs5 hb5
    obtain ⟨W5, hW5⟩ : ∃ W, W = x4.setCells d (mn * 5) [.int .i64 br.kept.view, .int .i64 br.kept.normal, .bool false, .slice Au br.kept.log.length cu, .int .i64 br.kept.commit] := ⟨_, rfl⟩
    change HrS _ (x4.setCells d (mn * 5) [.int .i64 br.kept.view, .int .i64 br.kept.normal, .bool false, .slice Au br.kept.log.length cu, .int .i64 br.kept.commit]) _ _ _ _ _ _ _ _ _ _ _ _ _ _ _ at hst
    rw [← hW5] at hst
    refine hKB _ _ ⟨.inl rfl, wpAnyE_done (by kernel_rfl) ?_ _⟩
    (try simp only [Act.put, List.getElem_toArray, List.getElem_cons_succ, List.getElem_cons_zero, zp1, zp2, zp3])
    change Exit.then _ _ _ _ (x4.setCells d (mn * 5) [.int .i64 br.kept.view, .int .i64 br.kept.normal, .bool false, .slice Au br.kept.log.length cu, .int .i64 br.kept.commit])
    rw [← hW5]
    obtain ⟨r3, hr3⟩ : ∃ q, q = ({ br with gives := br.gives.set mn ⟨br.kept.view, br.kept.normal, false, br.kept.log, br.kept.commit⟩ } : Scu.Replica) := ⟨_, rfl⟩
    change HrS _ _ _ _ _ ({ br with gives := br.gives.set mn ⟨br.kept.view, br.kept.normal, false, br.kept.log, br.kept.commit⟩ } : Scu.Replica) _ _ _ _ _ _ _ _ _ _ _ at hst
    rw [← hr3] at hst
    have HR3 := Lib.hid hr3
    have HS5 := Lib.hid hst
    have hl5 : r3.given.length = 3 := by rw [hr3]; exact H31.out.2.2.2.1
    have hme5 : r3.me = mn := by rw [hr3]; exact HMN.out
    have HM5 := Lib.hid hme5
    clear hW5 hst hs5 hk5 hb5 hS1 hSd hKB hGB hr3 hme5
    go_upto_region 47 with fail
    obtain ⟨heb, ⟨cur5, hB5⟩, _, hfz5, hcn5⟩ := ones3' HS5.out.rw_.own.own.given hl5
    have dh5 := hcn5 _ hm3
    obtain ⟨gv5, hgv5⟩ : ∃ b, r3.given[mn]? = some b := ⟨_, List.getElem?_eq_getElem (by rw [hl5]; exact hm3)⟩
    rw [List.getElem?_map, hgv5] at dh5
    change W5.cell? ⟨e, mn, none⟩ = some (.bool gv5) at dh5
    have fz5 := hfz5 mn
    obtain ⟨q0, q1, q2, q3, q4, q5, q6, q7, q8, q9⟩ := cz10 HS5.out.rw_.rb
    obtain ⟨p0, p1, p2, p3, p4, p5, p6, p7⟩ := cz8 HS5.out.mb
    (rw [HM5.out] at q0)
    clear hcn5 hfz5 hl5 hgv5
    have HB5 := Lib.hid (And.intro hB5 heb)
    clear hB5 heb
    go_region
    have HN := Lib.hid ((HS5.out.upd (HS5.out.rw_.put_given HB5.out.1 HB5.out.2 mn true).1 (Same.set_ HB5.out.1 (Nat.zero_le _) (by decide) mn _) (HS5.out.rw_.put_given HB5.out.1 HB5.out.2 mn true).2).below (Below.refl _ _).drew)
    clear dh5 fz5 q0 q1 q2 q3 q4 q5 q6 q7 q8 q9 p0 p1 p2 p3 p4 p5 p6 p7
    obtain ⟨r4, hr4⟩ : ∃ q, q = Scu.give1 br (Scu.leader br.kept.view) br.kept := ⟨_, rfl⟩
    have hr43 : r4 = { r3 with given := r3.given.set mn true } := by rw [hr4, HR3.out]; unfold Scu.give1; rw [show (Scu.leader br.kept.view).toNat = mn by rw [show Scu.leader br.kept.view = br.me from HTO.out, HMN.out]; rfl]; rfl
    have h32 : Rep3 r4 := by rw [hr43, HR3.out]; exact ⟨H31.out.1, H31.out.2.1, by simp [H31.out.2.2.1], by simp [H31.out.2.2.2.1], H31.out.2.2.2.2.1, H31.out.2.2.2.2.2⟩
    have hng : ∀ k ∈ r4.gives, 0 ≤ k.normal := by rw [hr43, HR3.out]; exact set_norm HNV.out.1 HNV.out.2.1
    have hfin : Scu.hearWant r m = ((Scu.begun r4).1, am ++ (Scu.begun r4).2) := by rw [HHW.out, if_pos (show Scu.leader br.kept.view = br.me from HTO.out)]; unfold Scu.take1; rw [hr4]
    have hst := HN.out
    obtain ⟨W6, hW6⟩ : ∃ W, W = (W5.setCell ⟨e, mn, none⟩ (.bool true)).drew := ⟨_, rfl⟩
    rw [← hW6] at hst ⊢
    rw [← hr43] at hst
    have HS := Lib.hid hst
    have H32 := Lib.hid h32
    have HNG := Lib.hid hng
    have HFI := Lib.hid hfin
    clear hW6 hst h32 hng hfin hr4 hr43 HN
    obtain ⟨rb, hrb⟩ : ∃ q, Scu.begun r4 = q := ⟨_, rfl⟩
    obtain ⟨rr2, ms2⟩ := rb
    have hfi := HFI.out.symm.trans HH.out
    rw [hrb] at hfi
    obtain ⟨hfa, hfb⟩ := Prod.mk.inj hfi
    have hln := begun_len r4
    rw [hrb] at hln
    have hla := wantIf_len r m.view
    rw [HA.out] at hla
    have HRB := Lib.hid hrb
    have HFA := Lib.hid (And.intro hfa hfb)
    clear hrb hfi hfa hfb
    go_wp2_with fail
    refine (begun_c g base r4 _ _ _ _ _ _ HS.out.rw_ H32.out HNG.out rr2 ms2 HRB.out).mono ?_; rintro en x5 ⟨⟨ov2, css2, rfl, hm2⟩, hrk, hbs⟩
    obtain ⟨A5, c5, rfl⟩ := hm2.form
    have H5 := Lib.hid (And.intro (HS.out.out.same hbs.same) (And.intro hm2 (And.intro hrk (HS.out.low.trans hbs.low))))
    have HLN := Lib.hid (show (am.length + ms2.length) * 80 ≤ R47 from by unfold R47; (have hla : am.length ≤ 3 := hla); (have hln : ms2.length ≤ 3 := hln); omega)
    have HMX5 := Lib.hid (show am.length + ms2.length ≤ maxLen ∧ (am.length + ms2.length) * 80 ≤ 140737488355328 from by unfold maxLen; (have hla : am.length ≤ 3 := hla); (have hln : ms2.length ≤ 3 := hln); omega)
    have HBX := Lib.hid (Nat.le_trans (HS.out.rw_.base_le) (Nat.le_trans (Nat.le_refl _) (Below.size hbs.low)))
    clear hm2 hrk hbs hla hln
    go_wp2_with (at_builtin; refine list_app _ rfl (.tmp 320) (.tmp 322) 33 rfl el_msgs base (.slice Ao am.length co) am.length css.flatten rfl H5.out.1.row (.slice A5 ms2.length c5) ms2.length css2.flatten rfl H5.out.2.1.src.2.1 H5.out.2.1.src.2.2 HMX5.out.1 HMX5.out.2 HBX.out ?_)
    intro v6 x6 h6 hg6 _
    have hou := H5.out.1.append H5.out.2.1 HLN.out h6 hg6
    have hrk := H5.out.2.2.1.app (Same.own H5.out.1.row hg6 (Nat.zero_le _) (by decide))
    have hlo := H5.out.2.2.2.grown hg6 HBX.out (fun q hq => (H5.out.1.row.lt q hq).1)
    have HZ := Lib.hid (And.intro hou (And.intro hrk hlo))
    clear h6 hg6 hou hrk hlo
    go_wp2
    go_ret
    rw [← HFA.out.1, ← HFA.out.2]
    first | exact ⟨⟨_, rfl, _, HZ.out.1⟩, HZ.out.2.1, HZ.out.2.2⟩ | exact ⟨⟨_, _, rfl, HZ.out.1⟩, HZ.out.2.1, HZ.out.2.2⟩
  · have hlf : Scu.hearWant r m = (br, am ++ [{ Scu.msg0 with kind := 4, from_ := br.me, tq := Scu.leader br.kept.view, view := br.kept.view, normal := br.kept.normal, commit := br.kept.commit, log := br.kept.log }]) := by rw [HHW.out, if_neg (show ¬ Scu.leader br.kept.view = br.me from hto)]
    have HE := Lib.hid (Prod.mk.inj (hlf.symm.trans HH.out))
    clear hlf
    go_upto_region 49 with fail
    obtain ⟨tv, htv⟩ : ∃ t, br.kept.view % 3 = t := ⟨_, rfl⟩
    rw [htv]
    have HTV := Lib.hid (show Scu.leader br.kept.view = tv from htv)
    clear htv hto
    clear q0 q1 hvw
    obtain ⟨q0, q1, q2, q3, q4, q5, q6, q7, q8, q9⟩ := cz10 HS.out.rw_.rb
    go_wp2_with fail
    refine (own_w HS.out.rw_ (Below.refl W4.heap.size W4)).mono ?_; rintro en x4 ⟨⟨Au, cu, rfl, hou⟩, hb4⟩
    clear q0 q1 q2 q3 q4 q5 q6 q7 q8 q9
    go_upto_region 50 with fail
    obtain ⟨W5, hW5⟩ : ∃ W, W = x4.alloc (Obj.cells #[.int .i64 br.kept.view, .int .i64 br.kept.normal, .bool false, .slice Au br.kept.log.length cu, .int .i64 br.kept.commit] 24) := ⟨_, rfl⟩
    rw [← hW5]
    have hK5 : Blk W5 x4.heap.size 24 #[.int .i64 br.kept.view, .int .i64 br.kept.normal, .bool false, .slice Au br.kept.log.length cu, .int .i64 br.kept.commit] := by rw [hW5]; exact Blk.new _ _ _
    have hb5 : Below x4.heap.size x4 W5 := by rw [hW5]; exact below_alloc _ _
    obtain ⟨gk, hgk⟩ : ∃ g, x4.heap.size = g := ⟨_, rfl⟩
    have HS := Lib.hid (HS.out.below (hb4.trans (hb5.mono hb4.size)))
    have HX5 := Lib.hid (hou.is.below hb5)
    rw [hgk] at hK5 ⊢
    have HK5 := Lib.hid hK5
    clear hW5 hK5 hb5 hb4 hou hgk
    obtain ⟨S, hSd⟩ : ∃ S : World → Prop, S = fun w' => Blk w' g 29 #[.int .i64 br.me, .int .i64 br.kept.view, .int .i64 br.kept.normal, .bool br.kept.calm, .slice E0 br.kept.log.length z0, .int .i64 br.kept.commit, .slice (some ⟨a, 0, none⟩) 3 c1, .slice (some ⟨b, 0, none⟩) 3 c2, .slice (some ⟨d, 0, none⟩) 3 c3, .slice (some ⟨e, 0, none⟩) 3 c4] ∧ Blk w' gk 24 #[.int .i64 br.kept.view, .int .i64 br.kept.normal, .bool false, .slice Au br.kept.log.length cu, .int .i64 br.kept.commit] := ⟨_, rfl⟩
    have hS0 : S W5.drew := by rw [hSd]; exact ⟨HS.out.rw_.rb.drew, HK5.out.drew⟩
    refine wp_region_held (S := S) (by kernel_rfl) ?_
    change wpAnyH _ _ _ _ _ _ _ _ W5.drew
    refine tkHs [0, 1, 2, 3, 4, 5, 6, 7, 8, 9, 10, 11, 12, 13, 14, 15, 16] (by kernel_rfl) (fun _ _ _ _ _ h => h) hS0 ?_
    iterate 17
      (refine tkc (v := ?_) rfl (Or.inl ⟨by rfl, ?_⟩) ?_; rotate_left; (intro wv hSw; rw [hSd] at hSw; obtain ⟨q0, q1, q2, q3, q4, q5, q6, q7, q8, q9⟩ := cz10 hSw.1; obtain ⟨p0, p1, p2, p3, p4⟩ := cz5 hSw.2; go_simp; (try with_reducible rfl)); (try simp only [Act.put, zp1, zp2, zp3]))
    refine tkz ?_
    refine alH 17 (by kernel_rfl) (wpOp_step (o := _) rfl fun KA hKA => ?_)
    go_simp
    have hal := ((Below.refl W5.heap.size W5).alloc (Nat.le_refl _) (Obj.cells #[.int .i64 4, .int .i64 br.me, .int .i64 tv, .int .i64 br.kept.view, .int .i64 br.kept.normal, .int .i64 br.kept.commit, .int .i64 0, .slice Au br.kept.log.length cu] 31)).drew
    have hsr : Src1 (W5.alloc (Obj.cells #[.int .i64 4, .int .i64 br.me, .int .i64 tv, .int .i64 br.kept.view, .int .i64 br.kept.normal, .int .i64 br.kept.commit, .int .i64 0, .slice Au br.kept.log.length cu] 31)).drew 8 (.slice (some ⟨W5.heap.size, 0, none⟩) 1 1) 1 (msgV { Scu.msg0 with kind := 4, from_ := br.me, tq := tv, view := br.kept.view, normal := br.kept.normal, commit := br.kept.commit, log := br.kept.log } (.slice Au br.kept.log.length cu)) := hr_src
    obtain ⟨Wt, hWt⟩ : ∃ W, W = (W5.alloc (Obj.cells #[.int .i64 4, .int .i64 br.me, .int .i64 tv, .int .i64 br.kept.view, .int .i64 br.kept.normal, .int .i64 br.kept.commit, .int .i64 0, .slice Au br.kept.log.length cu] 31)).drew := ⟨_, rfl⟩
    rw [← hWt] at hal hsr ⊢
    have HST := Lib.hid (And.intro (HS.out.below hal) (And.intro (HX5.out.below hal) hsr))
    have hkt := HK5.out.same hal
    have hS1 : S Wt := by rw [hSd]; exact ⟨HST.out.1.rw_.rb, hkt⟩
    refine hKA _ _ ⟨hS1, ?_⟩
    (try simp only [Act.put, List.getElem_toArray, List.getElem_cons_succ, List.getElem_cons_zero, zp1, zp2, zp3])
    have HAL := Lib.hid hal
    clear hWt hKA hS0 hal hsr
    have hla := wantIf_len r m.view
    rw [HA.out] at hla
    have hla : am.length ≤ 3 := hla
    have HMX5 := Lib.hid (show (am.length + 1) * 80 ≤ R47 ∧ am.length + 1 ≤ maxLen ∧ (am.length + 1) * 80 ≤ 140737488355328 from by unfold R47 maxLen; omega)
    have HBX := Lib.hid (Nat.le_trans HS.out.rw_.base_le HAL.out.size)
    clear hla
    refine alH 18 (by kernel_rfl) (wpOp_step (o := _) rfl fun KB hKB => ?_)
    rw [if_pos (by rfl)]
    refine wp_app _ (.tmp 328) (.tmp 345) 33 rfl el_msgs base (.slice Ao am.length co) am.length css.flatten rfl HST.out.1.out.row (.slice (some ⟨W5.heap.size, 0, none⟩) 1 1) 1 (msgV { Scu.msg0 with kind := 4, from_ := br.me, tq := tv, view := br.kept.view, normal := br.kept.normal, commit := br.kept.commit, log := br.kept.log } (.slice Au br.kept.log.length cu)) rfl HST.out.2.2 one_msgw HMX5.out.2.1 HMX5.out.2.2 HBX.out ?_
    intro v6 x6 h6 hg6 _
    have hou := HST.out.1.out.push (m := { Scu.msg0 with kind := 4, from_ := br.me, tq := tv, view := br.kept.view, normal := br.kept.normal, commit := br.kept.commit, log := br.kept.log }) HMX5.out.1 HST.out.2.1 rfl h6 hg6
    have hsm : Same [9, 3, 4, 24, 29] 0 Wt x6 := Same.own HST.out.1.out.row hg6 (Nat.zero_le _) (by decide)
    have hrk := HST.out.1.rw_.e.app hsm
    have hlo := HST.out.1.low.grown hg6 HBX.out (fun q hq => (HST.out.1.out.row.lt q hq).1)
    have hS2 : S x6 := by rw [hSd]; exact ⟨blk_keep HST.out.1.rw_.rb hsm (by simp), blk_keep hkt hsm (by simp)⟩
    have HZ := Lib.hid (And.intro hou (And.intro hrk hlo))
    refine hKB _ _ ⟨hS2, ?_⟩
    (try simp only [Act.put, List.getElem_toArray, List.getElem_cons_succ, List.getElem_cons_zero, zp1, zp2, zp3])
    clear h6 hg6 hou hrk hlo hsm hkt hKB
    refine tkHs [19] (by kernel_rfl) (fun _ _ _ _ _ h => h) hS2 ?_
    iterate 1
      (refine tkc (v := ?_) rfl (Or.inl ⟨by rfl, ?_⟩) ?_; rotate_left; (intro wv hSw; go_simp; (try with_reducible rfl)); (try simp only [Act.put, zp1, zp2, zp3]))
    refine tkz ?_
    refine wpAnyH_done (by kernel_rfl) ?_ _
    change Exit.then _ _ _ _ x6
    go_wp2
    go_ret
    rw [← HE.out.1, ← HE.out.2, HTV.out]
    first | exact ⟨⟨_, rfl, _, HZ.out.1⟩, HZ.out.2.1, HZ.out.2.2⟩ | exact ⟨⟨_, _, rfl, HZ.out.1⟩, HZ.out.2.1, HZ.out.2.2⟩
end Go.Proofs.Ytlaibljdlpmbfaa

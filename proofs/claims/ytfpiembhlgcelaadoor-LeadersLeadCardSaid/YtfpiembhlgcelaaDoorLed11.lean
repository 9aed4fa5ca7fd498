/- Part 11: words and walks under the law 'LeadersLead'. -/
import Derived.Test.YtfpiembhlgcelaaDoorLed10
import Derived.Test.YtfpiembhlgcelaaDoorLed3
import Derived.OrdersHeld
import Derived.RegionTactic
set_option linter.unusedVariables false
set_option linter.unusedSimpArgs false
/- Walks: work.want. -/
namespace Go.Proofs.YtfpiembhlgcelaaDoor
open Go.RowKit
set_option maxHeartbeats 2000000
set_option maxRecDepth 100000

theorem want_x (w : World) (base gw gr : Nat) (r : Scu.Replica) (v : Int) (lu hv wv gv nv ov : Value) (ms : List Scu.Message) (css : List (List Value)) (hW : Work w base gw gr r lu hv wv gv nv ov ms css) (hbase : base ≤ w.heap.size) (h3 : Rep3 r) (hm : (ms.length + 4) * 80 ≤ R47) :
    Calls Tryd.prog 83 #[.pointer (some ⟨gw, 0, none⟩), .int .i64 v] w fun e w' => e = .returned (.tuple #[]) ∧ (∃ lu' hv' wv' gv' nv' ov' css', Work w' base gw gr (Scu.want r v).1 lu' hv' wv' gv' nv' ov' (ms ++ (Scu.want r v).2) css' ∧ Far w w' ov ov') ∧ Below base w w' := by
  have hN := (hW.set_view v).set_calm false
  have hL := (hW.low 1 (.int .i64 v)).trans ((hW.set_view v).low 3 (.bool false))
  have hF : Far w ((w.setCell ⟨gr, 1, none⟩ (.int .i64 v)).setCell ⟨gr, 3, none⟩ (.bool false)) ov ov := Far.same (Ts := [89]) (by simp) ((Same.set_ hW.rb (Nat.zero_le _) (by decide) 1 _).trans (Same.set_ (hW.set_view v).rb (Nat.zero_le _) (by decide) 3 _))
  have HN := Lib.hid (And.intro hN (And.intro hL hF))
  have H3 := Lib.hid h3
  have HM := Lib.hid hm
  have d0 := hW.wb.cell 0
  have d1 := hW.rb.cell 1
  have d3 := hW.rb.cell 3
  simp only [List.getElem?_toArray, List.getElem?_cons_zero, List.getElem?_cons_succ] at d0 d1 d3
  have dz := hW.rb.frozen
  have dl := hW.wb.lt
  have dm := hW.rb.lt
  clear hW hN hL h3 hm hF
  go_enter Tryd.func83, Tryd.ntmps83
  go_wp2_with fail
  go_region
  obtain ⟨W1, hW1⟩ : ∃ W, W = ((w.setCell ⟨gr, 1, none⟩ (.int .i64 v)).setCell ⟨gr, 3, none⟩ (.bool false)).drew := ⟨_, rfl⟩
  rw [← hW1]
  have HN1 := Lib.hid (show Work W1 base gw gr { r with kept := { r.kept with view := v, calm := false } } lu hv wv gv nv ov ms css ∧ Below base w W1 ∧ Far w W1 ov ov from by rw [hW1]; exact ⟨HN.out.1.below (Below.refl _ _).drew, HN.out.2.1.drew, HN.out.2.2.trans (Far.below (Below.refl _ _).drew)⟩)
  have hs1 : base ≤ W1.heap.size := Nat.le_trans hbase HN1.out.2.1.size
  clear hW1 HN d0 d1 d3 dz dl dm
  go_wp2_with fail
  refine (fresh_c W1 base gw gr _ lu hv wv gv nv ov ms css HN1.out.1 hs1 H3.out.1 H3.out.2.1 H3.out.2.2.2.1).mono ?_; rintro en w2 ⟨rfl, ⟨gv2, hW2⟩, hb2, hsm2⟩
  obtain ⟨g2, c2, rfl⟩ := ones3f hW2.own.own.wants rfl
  have hF2 := HN1.out.2.2.trans (Far.same (by simp) hsm2 : Far W1 w2 ov ov)
  obtain ⟨hb, ⟨cur, hB⟩, hc, hf, hcw⟩ := ones3' hW2.own.own.wants rfl
  have hme0 : 0 ≤ r.me := H3.out.2.2.2.2.1
  have hme3 : r.me < 3 := H3.out.2.2.2.2.2
  have hN := hW2.put_wants hB hb r.me.toNat true
  have hF3 : Far w (w2.setCell ⟨g2, r.me.toNat, none⟩ (.bool true)) ov ov := hF2.trans (Far.same (Ts := [89]) (by simp) (Same.set_ hB (Nat.zero_le _) (by decide) _ _))
  have d0 := hW2.wb.cell 0
  have d3 := hW2.rb.cell 3
  have d7 := hW2.rb.cell 7
  have dme : w2.cell? ⟨gr, 0, none⟩ = some (.int .i64 r.me) := hW2.rb.cell 0
  simp only [List.getElem?_toArray, List.getElem?_cons_zero, List.getElem?_cons_succ] at d0 d3 d7
  have dz := hf r.me.toNat
  obtain ⟨u, hu⟩ := Option.isSome_iff_exists.1 (hc r.me.toNat (by omega))
  have dl := hW2.wb.lt
  have dm := hW2.rb.lt
  have hs2 : base ≤ w2.heap.size := Nat.le_trans hs1 hb2.size
  have HN2 := Lib.hid (And.intro hN (And.intro (HN1.out.2.1.trans hb2) (And.intro hs2 hF3)))
  clear hW2 hB hc hf hcw hN hb2 hb hs1 hs2 hsm2 hF2 hF3
  go_wp2_with fail
  go_region
  obtain ⟨W3, hW3⟩ : ∃ W, W = (w2.setCell ⟨g2, r.me.toNat, none⟩ (.bool true)).drew := ⟨_, rfl⟩
  rw [← hW3]
  have HN3 := Lib.hid (show Work W3 base gw gr (Scu.want r v).1 lu hv (.slice (some ⟨g2, 0, none⟩) 3 c2) gv2 nv ov ms css ∧ Below base w W3 ∧ Far w W3 ov ov from by rw [hW3]; exact ⟨HN2.out.1.1.below (Below.refl _ _).drew, (HN2.out.2.1.trans HN2.out.1.2.1).drew, HN2.out.2.2.2.trans (Far.below (Below.refl _ _).drew)⟩)
  have hs3 : base ≤ W3.heap.size := Nat.le_trans hbase HN3.out.2.1.size
  clear hW3 HN2 d0 d3 d7 dme dz dl dm hu
  go_wp2_with fail
  refine (all_x 3 W3 base gw gr _ lu hv (.slice (some ⟨g2, 0, none⟩) 3 c2) gv2 nv ov ms css HN3.out.1 hs3 HM.out).mono ?_; rintro en w4 ⟨rfl, ⟨ov4, css4, hW4, hF4⟩, hb4⟩
  have HN4 := Lib.hid (And.intro hW4 (And.intro (HN3.out.2.2.trans hF4) (HN3.out.2.1.trans hb4)))
  clear hW4 hb4 hF4
  go_wp2
  go_end0
  exact ⟨rfl, ⟨_, _, _, _, _, _, _, HN4.out.1, HN4.out.2.1⟩, HN4.out.2.2⟩
theorem want_e (w : World) (base gw gr : Nat) (r : Scu.Replica) (v : Int) (ms : List Scu.Message) (hW : WorkE w base gw gr r ms) (hbase : base ≤ w.heap.size) (h3 : Rep3 r) (hm : (ms.length + 4) * 80 ≤ R47) :
    Calls Tryd.prog 83 #[.pointer (some ⟨gw, 0, none⟩), .int .i64 v] w fun e w' => e = .returned (.tuple #[]) ∧ WorkE w' base gw gr (Scu.want r v).1 (ms ++ (Scu.want r v).2) ∧ Below base w w' := by
  obtain ⟨lu, hv, wv, gv, nv, ov, css, hW⟩ := hW
  refine (want_x w base gw gr r v lu hv wv gv nv ov ms css hW hbase h3 hm).mono ?_
  rintro e w' ⟨h1, ⟨_, _, _, _, _, _, _, h2, _⟩, h3⟩
  exact ⟨h1, h2.e, h3⟩
end Go.Proofs.YtfpiembhlgcelaaDoor
/- Walks: replica.Tick. -/
namespace Go.Proofs.YtfpiembhlgcelaaDoor
open Go.RowKit
set_option maxHeartbeats 2000000
set_option maxRecDepth 100000

/-- What a replica answers: itself then, what it sends, and a code. -/
def TellRet (w : World) (r : Scu.Replica) (ms : List Scu.Message) (c : Int) (e : Ending) : Prop := ∃ lu hv wv gv nv ov, e = .returned (.tuple #[.agg #[.int .i64 r.me, .int .i64 r.kept.view, .int .i64 r.kept.normal, .bool r.kept.calm, lu, .int .i64 r.kept.commit, hv, wv, gv, nv], ov, .int .i64 c]) ∧ IsRep w 0 lu hv wv gv nv r ∧ IsRow 89 8 80 MsgE w 0 ov ms
theorem tell_zero (w : World) (c : Int) : TellRet w Scu.replica0 [] c (.returned (.tuple #[.agg #[.int .i64 0, .int .i64 0, .int .i64 0, .bool false, .slice none 0 0, .int .i64 0, .slice none 0 0, .slice none 0 0, .slice none 0 0, .slice none 0 0], .slice none 0 0, .int .i64 c])) := by
  exact ⟨_, _, _, _, _, _, rfl, ⟨IsStrs.nil_, ⟨⟨none, 0, rfl, Nat.le_refl _, Rd.nil⟩, by simp [Scu.replica0, R47]⟩, ⟨⟨none, 0, rfl, Nat.le_refl _, Rd.nil⟩, by simp [Scu.replica0, R47]⟩, IsRow.nil_, ⟨⟨none, 0, rfl, Nat.le_refl _, Rd.nil⟩, by simp [Scu.replica0, R47]⟩⟩, IsRow.nil_⟩
/-- .. and the messages lie in memory from b on. -/
def TellN (b : Nat) (w : World) (r : Scu.Replica) (ms : List Scu.Message) (c : Int) (e : Ending) : Prop := ∃ lu hv wv gv nv ov, e = .returned (.tuple #[.agg #[.int .i64 r.me, .int .i64 r.kept.view, .int .i64 r.kept.normal, .bool r.kept.calm, lu, .int .i64 r.kept.commit, hv, wv, gv, nv], ov, .int .i64 c]) ∧ IsRep w 0 lu hv wv gv nv r ∧ IsRow 89 8 80 MsgE w 0 ov ms ∧ ∀ g, ov.ownBlock = some g → b ≤ g
theorem TellN.ret {b : Nat} {w : World} {r : Scu.Replica} {ms : List Scu.Message} {c : Int} {e : Ending} (h : TellN b w r ms c e) : TellRet w r ms c e := let ⟨a1, a2, a3, a4, a5, a6, h1, h2, h3, _⟩ := h; ⟨a1, a2, a3, a4, a5, a6, h1, h2, h3⟩
theorem tell_zeroN (b : Nat) (w : World) (c : Int) : TellN b w Scu.replica0 [] c (.returned (.tuple #[.agg #[.int .i64 0, .int .i64 0, .int .i64 0, .bool false, .slice none 0 0, .int .i64 0, .slice none 0 0, .slice none 0 0, .slice none 0 0, .slice none 0 0], .slice none 0 0, .int .i64 c])) := by
  obtain ⟨a1, a2, a3, a4, a5, a6, h1, h2, h3⟩ := tell_zero w c
  refine ⟨a1, a2, a3, a4, a5, a6, h1, h2, h3, fun g hg => ?_⟩
  simp only [Ending.returned.injEq, Value.tuple.injEq, Array.mk.injEq, List.cons.injEq] at h1
  obtain ⟨_, h1, _⟩ := h1
  subst h1
  cases hg
theorem leads_a (lv hv wv gv nv : Value) (r : Scu.Replica) (h0 : 0 ≤ r.kept.view) (w : World) (b : Bool) (hb : Scu.leads r = b) :
    Calls Tryd.prog 46 #[.agg #[.int .i64 r.me, .int .i64 r.kept.view, .int .i64 r.kept.normal, .bool r.kept.calm, lv, .int .i64 r.kept.commit, hv, wv, gv, nv]] w fun e w' => e = .returned (.bool b) ∧ Below w.heap.size w w' := by
  subst hb
  exact leads_c lv hv wv gv nv r h0 w
theorem rep_three {r : Scu.Replica} (h : Scu.repFault r = 0) : Rep3 r := by
  obtain ⟨h1, h2, h3, h4, h5, _⟩ := Scu.repFault_ok h
  exact ⟨h2, h3, h4, h5, h1.1, h1.2⟩
theorem rep_view {r : Scu.Replica} (h : Scu.repFault r = 0) : 0 ≤ r.kept.view := (Scu.keptFault_ok (Scu.repFault_ok h).2.2.2.2.2.2.2).1
theorem tick_1 (lv hv wv gv nv : Value) (r : Scu.Replica) (w : World) (B : Nat) (hr : IsRep w B lv hv wv gv nv r) (f : Int) (hf : Scu.repFault r = f) (hn : f ≠ 0) :
    Calls Tryd.prog 108 #[.agg #[.int .i64 r.me, .int .i64 r.kept.view, .int .i64 r.kept.normal, .bool r.kept.calm, lv, .int .i64 r.kept.commit, hv, wv, gv, nv]] w fun e w' => TellN w.heap.size w' Scu.replica0 [] f e ∧ Below w.heap.size w w' := by
  have hfb : (f != 0) = true := by simpa using hn
  have HN := Lib.hid hn
  clear hn
  have HV := Lib.hid hr
  have HF := Lib.hid hf
  obtain ⟨A0, n0, c0, A1, c1, A2, c2, A3, c3, A4, c4, rfl, rfl, rfl, rfl, rfl⟩ := hr.forms
  clear hr hf
  go_enter Tryd.func108, Tryd.ntmps108
  go_wp2_with fail
  have h0 : Below w.heap.size w ((w.alloc (Obj.cells #[.int .i64 r.me, .int .i64 r.kept.view, .int .i64 r.kept.normal, .bool r.kept.calm, .slice A0 n0 c0, .int .i64 r.kept.commit, .slice A1 r.have_.length c1, .slice A2 r.wants.length c2, .slice A3 r.gives.length c3, .slice A4 r.given.length c4] 81)).alloc (Obj.cells #[.int .i64 0, .int .i64 0, .int .i64 0, .bool false, .slice none 0 0, .int .i64 0, .slice none 0 0, .slice none 0 0, .slice none 0 0, .slice none 0 0] 81)) := (below_alloc w _).alloc (by simp) _
  refine (begin_1 _ _ _ _ _ r _ B (HV.out.below h0) f HF.out HN.out).mono ?_; rintro en w1 ⟨rfl, h1⟩
  have hz : Blk w1 (w.heap.size + 1) 81 #[.int .i64 0, .int .i64 0, .int .i64 0, .bool false, .slice none 0 0, .int .i64 0, .slice none 0 0, .slice none 0 0, .slice none 0 0, .slice none 0 0] := (Blk.new' (by simp)).same h1
  have hb := h0.trans (h1.mono h0.size)
  have z0 := hz.cell 0
  have z1 := hz.cell 1
  have z2 := hz.cell 2
  have z3 := hz.cell 3
  have z4 := hz.cell 4
  have z5 := hz.cell 5
  have z6 := hz.cell 6
  have z7 := hz.cell 7
  have z8 := hz.cell 8
  have z9 := hz.cell 9
  simp only [List.getElem?_toArray, List.getElem?_cons_zero, List.getElem?_cons_succ] at z0 z1 z2 z3 z4 z5 z6 z7 z8 z9
  have zz := hz.frozen
  have zl := hz.lt
  have hr := blk_set10 (a0 := .int .i64 0) (a1 := .int .i64 0) (a2 := .int .i64 0) (a3 := .bool false) (a4 := .slice none 0 0) (a5 := .int .i64 0) (a6 := .slice none 0 0) (a7 := .slice none 0 0) (a8 := .slice none 0 0) (a9 := .slice none 0 0) hz
  have r0 := hr.cell 0
  have r1 := hr.cell 1
  have r2 := hr.cell 2
  have r3 := hr.cell 3
  have r4 := hr.cell 4
  have r5 := hr.cell 5
  have r6 := hr.cell 6
  have r7 := hr.cell 7
  have r8 := hr.cell 8
  have r9 := hr.cell 9
  simp only [List.getElem?_toArray, List.getElem?_cons_zero, List.getElem?_cons_succ] at r0 r1 r2 r3 r4 r5 r6 r7 r8 r9
  have rz := hr.frozen
  have rl := hr.lt
  clear h1 h0
  go_wp2
  refine bodyPost_ret (v := .tuple #[.agg #[.int .i64 0, .int .i64 0, .int .i64 0, .bool false, .slice none 0 0, .int .i64 0, .slice none 0 0, .slice none 0 0, .slice none 0 0, .slice none 0 0], .slice none 0 0, .int .i64 f]) (by simp [results, Tryd.results108, go_sem, r0, r1, r2, r3, r4, r5, r6, r7, r8, r9]) rfl ?_
  exact ⟨tell_zeroN _ _ _, below_set10 hb (by omega)⟩
theorem tick_2 (lv hv wv gv nv : Value) (r : Scu.Replica) (w : World) (B : Nat) (hr : IsRep w B lv hv wv gv nv r) (hf : Scu.repFault r = 0) (hl : Scu.leads r = true) (ms : List Scu.Message) (hms : Scu.leadOn r = ms) :
    Calls Tryd.prog 108 #[.agg #[.int .i64 r.me, .int .i64 r.kept.view, .int .i64 r.kept.normal, .bool r.kept.calm, lv, .int .i64 r.kept.commit, hv, wv, gv, nv]] w fun e w' => TellN w.heap.size w' r ms 0 e ∧ Below w.heap.size w w' := by
  have HMS := Lib.hid hms
  clear hms
  have hvw := rep_view hf
  have HL := Lib.hid hl
  clear hl
  have HV := Lib.hid hr
  have HF := Lib.hid hf
  obtain ⟨A0, n0, c0, A1, c1, A2, c2, A3, c3, A4, c4, rfl, rfl, rfl, rfl, rfl⟩ := hr.forms
  clear hr hf
  go_enter Tryd.func108, Tryd.ntmps108
  go_wp2_with fail
  have h0 : Below w.heap.size w ((w.alloc (Obj.cells #[.int .i64 r.me, .int .i64 r.kept.view, .int .i64 r.kept.normal, .bool r.kept.calm, .slice A0 n0 c0, .int .i64 r.kept.commit, .slice A1 r.have_.length c1, .slice A2 r.wants.length c2, .slice A3 r.gives.length c3, .slice A4 r.given.length c4] 81)).alloc (Obj.cells #[.int .i64 0, .int .i64 0, .int .i64 0, .bool false, .slice none 0 0, .int .i64 0, .slice none 0 0, .slice none 0 0, .slice none 0 0, .slice none 0 0] 81)) := (below_alloc w _).alloc (by simp) _
  refine (begin_2 _ _ _ _ _ r _ B (HV.out.below h0) HF.out).mono ?_; rintro en w1 ⟨⟨gw, gr, lu, hu, wu, gu, nu, rfl, hW, _⟩, h1⟩
  have e2 : ((w.alloc (Obj.cells #[.int .i64 r.me, .int .i64 r.kept.view, .int .i64 r.kept.normal, .bool r.kept.calm, .slice A0 n0 c0, .int .i64 r.kept.commit, .slice A1 r.have_.length c1, .slice A2 r.wants.length c2, .slice A3 r.gives.length c3, .slice A4 r.given.length c4] 81)).alloc (Obj.cells #[.int .i64 0, .int .i64 0, .int .i64 0, .bool false, .slice none 0 0, .int .i64 0, .slice none 0 0, .slice none 0 0, .slice none 0 0, .slice none 0 0] 81)).heap.size = w.heap.size + 2 := by simp
  rw [e2] at hW
  have hs : Blk w1 w.heap.size 81 #[.int .i64 r.me, .int .i64 r.kept.view, .int .i64 r.kept.normal, .bool r.kept.calm, .slice A0 n0 c0, .int .i64 r.kept.commit, .slice A1 r.have_.length c1, .slice A2 r.wants.length c2, .slice A3 r.gives.length c3, .slice A4 r.given.length c4] := ((Blk.new w _ _).alloc _).same h1
  have hz : Blk w1 (w.heap.size + 1) 81 #[.int .i64 0, .int .i64 0, .int .i64 0, .bool false, .slice none 0 0, .int .i64 0, .slice none 0 0, .slice none 0 0, .slice none 0 0, .slice none 0 0] := (Blk.new' (by simp)).same h1
  have hb := h0.trans (h1.mono h0.size)
  have hsz : w.heap.size + 2 ≤ w1.heap.size := by have := h1.size; rw [e2] at this; exact this
  have s0 := hs.cell 0
  have s1 := hs.cell 1
  have s2 := hs.cell 2
  have s3 := hs.cell 3
  have s4 := hs.cell 4
  have s5 := hs.cell 5
  have s6 := hs.cell 6
  have s7 := hs.cell 7
  have s8 := hs.cell 8
  have s9 := hs.cell 9
  simp only [List.getElem?_toArray, List.getElem?_cons_zero, List.getElem?_cons_succ] at s0 s1 s2 s3 s4 s5 s6 s7 s8 s9
  have sz := hs.frozen
  have sl := hs.lt
  have H1 := Lib.hid (And.intro hW (And.intro hs (And.intro hz (And.intro hb hsz))))
  clear h1 h0 hs hz hb hW e2 hsz HF
  go_wp2_with fail
  refine (leads_a _ _ _ _ _ r hvw _ true HL.out).mono ?_; rintro en w2 ⟨rfl, h2⟩
  have hW := H1.out.1.below h2
  have hs := H1.out.2.1.same h2
  have hz := H1.out.2.2.1.same h2
  have hb := H1.out.2.2.2.1.trans (h2.mono H1.out.2.2.2.1.size)
  have hsz : w.heap.size + 2 ≤ w2.heap.size := Nat.le_trans H1.out.2.2.2.2 h2.size
  have H2 := Lib.hid (And.intro hW (And.intro hs (And.intro hz (And.intro hb hsz))))
  clear s0 s1 s2 s3 s4 s5 s6 s7 s8 s9 sz sl
  clear hs hz hb hW h2 hsz
  go_wp2_with fail
  refine (lead_e _ (w.heap.size + 2) gw gr r [] H2.out.1.e H2.out.2.2.2.2 (by simp [R47])).mono ?_; rintro en w3 ⟨rfl, hw3, h3⟩
  rw [List.nil_append, HMS.out] at hw3
  have hz3 : Blk w3 (w.heap.size + 1) 81 #[.int .i64 0, .int .i64 0, .int .i64 0, .bool false, .slice none 0 0, .int .i64 0, .slice none 0 0, .slice none 0 0, .slice none 0 0, .slice none 0 0] := H2.out.2.2.1.below h3 (by omega)
  have hb3 : Below w.heap.size w w3 := H2.out.2.2.2.1.trans (h3.mono (by omega))
  clear h3
  obtain ⟨lu3, hv3, wv3, gv3, nv3, ov3, css3, hw3⟩ := hw3
  obtain ⟨Ao, co, rfl⟩ := hw3.out.form
  obtain ⟨E0, m0, d0, E1, d1, E2, d2, E3, d3, E4, d4, rfl, rfl, rfl, rfl, rfl⟩ := hw3.own.is.forms
  have hwb := hw3.wb
  have hrb := hw3.rb
  have f0 := hwb.cell 0
  have f1 := hwb.cell 1
  simp only [List.getElem?_toArray, List.getElem?_cons_zero, List.getElem?_cons_succ] at f0 f1
  have fl := hwb.lt
  have k0 := hrb.cell 0
  have k1 := hrb.cell 1
  have k2 := hrb.cell 2
  have k3 := hrb.cell 3
  have k4 := hrb.cell 4
  have k5 := hrb.cell 5
  have k6 := hrb.cell 6
  have k7 := hrb.cell 7
  have k8 := hrb.cell 8
  have k9 := hrb.cell 9
  simp only [List.getElem?_toArray, List.getElem?_cons_zero, List.getElem?_cons_succ] at k0 k1 k2 k3 k4 k5 k6 k7 k8 k9
  have kz := hrb.frozen
  have kl := hrb.lt
  have z0 := hz3.cell 0
  have z1 := hz3.cell 1
  have z2 := hz3.cell 2
  have z3 := hz3.cell 3
  have z4 := hz3.cell 4
  have z5 := hz3.cell 5
  have z6 := hz3.cell 6
  have z7 := hz3.cell 7
  have z8 := hz3.cell 8
  have z9 := hz3.cell 9
  simp only [List.getElem?_toArray, List.getElem?_cons_zero, List.getElem?_cons_succ] at z0 z1 z2 z3 z4 z5 z6 z7 z8 z9
  have zz := hz3.frozen
  have zl := hz3.lt
  have hr := blk_set10 (a0 := .int .i64 r.me) (a1 := .int .i64 r.kept.view) (a2 := .int .i64 r.kept.normal) (a3 := .bool r.kept.calm) (a4 := .slice E0 m0 d0) (a5 := .int .i64 r.kept.commit) (a6 := .slice E1 r.have_.length d1) (a7 := .slice E2 r.wants.length d2) (a8 := .slice E3 r.gives.length d3) (a9 := .slice E4 r.given.length d4) hz3
  have hsm := Same.sets10 (Ts := [9, 3, 4, 64, 89, 146]) (B := 0) (a0 := .int .i64 r.me) (a1 := .int .i64 r.kept.view) (a2 := .int .i64 r.kept.normal) (a3 := .bool r.kept.calm) (a4 := .slice E0 m0 d0) (a5 := .int .i64 r.kept.commit) (a6 := .slice E1 r.have_.length d1) (a7 := .slice E2 r.wants.length d2) (a8 := .slice E3 r.gives.length d3) (a9 := .slice E4 r.given.length d4) hz3 (Nat.zero_le _) (by decide)
  have hwb2 := blk_keep hwb hsm (by simp)
  have q0 := hwb2.cell 0
  have q1 := hwb2.cell 1
  simp only [List.getElem?_toArray, List.getElem?_cons_zero, List.getElem?_cons_succ] at q0 q1
  have hT := hw3.own.is.same (hsm.mono (by simp) (Nat.le_refl _))
  have hO := hw3.out.is.same (Ts := [9, 89]) (by simp) (hsm.mono (by simp) (Nat.le_refl _)) (fun _ _ h => h.same (Ts := [9, 89]) (by simp) (hsm.mono (by simp) (Nat.le_refl _)))
  have hL := below_set10 (a0 := .int .i64 r.me) (a1 := .int .i64 r.kept.view) (a2 := .int .i64 r.kept.normal) (a3 := .bool r.kept.calm) (a4 := .slice E0 m0 d0) (a5 := .int .i64 r.kept.commit) (a6 := .slice E1 r.have_.length d1) (a7 := .slice E2 r.wants.length d2) (a8 := .slice E3 r.gives.length d3) (a9 := .slice E4 r.given.length d4) hb3 (show w.heap.size ≤ w.heap.size + 1 by omega)
  have r0 := hr.cell 0
  have r1 := hr.cell 1
  have r2 := hr.cell 2
  have r3 := hr.cell 3
  have r4 := hr.cell 4
  have r5 := hr.cell 5
  have r6 := hr.cell 6
  have r7 := hr.cell 7
  have r8 := hr.cell 8
  have r9 := hr.cell 9
  simp only [List.getElem?_toArray, List.getElem?_cons_zero, List.getElem?_cons_succ] at r0 r1 r2 r3 r4 r5 r6 r7 r8 r9
  have rz := hr.frozen
  have rl := hr.lt
  have hA : ∀ g, (Value.slice Ao ms.length co).ownBlock = some g → w.heap.size ≤ g := fun g hg => by have := (hw3.out.row.lt g hg).1; omega
  have HT := Lib.hid (And.intro hT (And.intro hO (And.intro hL hA)))
  clear hr hsm hT hO hL hwb hrb hw3 hz3 hb3 hwb2 hA
  go_wp2_with fail
  go_region
  go_wp2
  refine bodyPost_ret (v := .tuple #[.agg #[.int .i64 r.me, .int .i64 r.kept.view, .int .i64 r.kept.normal, .bool r.kept.calm, .slice E0 m0 d0, .int .i64 r.kept.commit, .slice E1 r.have_.length d1, .slice E2 r.wants.length d2, .slice E3 r.gives.length d3, .slice E4 r.given.length d4], .slice Ao ms.length co, .int .i64 0]) (by simp [results, Tryd.results108, go_sem, r0, r1, r2, r3, r4, r5, r6, r7, r8, r9]) rfl ?_
  exact ⟨⟨_, _, _, _, _, _, rfl, HT.out.1.same (Same.drew _), HT.out.2.1.same (Ts := [9, 89]) (by simp) (Same.drew _) (fun _ _ h => h.same (Ts := [9]) (by simp) (Same.drew _)), HT.out.2.2.2⟩, HT.out.2.2.1.drew⟩
theorem tick_3 (lv hv wv gv nv : Value) (r : Scu.Replica) (w : World) (B : Nat) (hr : IsRep w B lv hv wv gv nv r) (hf : Scu.repFault r = 0) (hl : Scu.leads r = false) (hc : r.kept.calm = true) (ms : List Scu.Message)
    (hms : [(⟨2, r.me, Scu.leader r.kept.view, r.kept.view, 0, 0, r.kept.log.length, []⟩ : Scu.Message)] = ms) :
    Calls Tryd.prog 108 #[.agg #[.int .i64 r.me, .int .i64 r.kept.view, .int .i64 r.kept.normal, .bool r.kept.calm, lv, .int .i64 r.kept.commit, hv, wv, gv, nv]] w fun e w' => TellN w.heap.size w' r ms 0 e ∧ Below w.heap.size w w' := by
  have HMS := Lib.hid hms
  have hne : r.kept.view % 3 ≠ r.me := by
    intro e
    unfold Scu.leads Scu.leader at hl
    simp [hc, e] at hl
  have HNE := Lib.hid hne
  have HCC := Lib.hid hc
  clear hms hne hc
  have hvw := rep_view hf
  have HL := Lib.hid hl
  clear hl
  have HV := Lib.hid hr
  have HF := Lib.hid hf
  obtain ⟨A0, n0, c0, A1, c1, A2, c2, A3, c3, A4, c4, rfl, rfl, rfl, rfl, rfl⟩ := hr.forms
  clear hr hf
  go_enter Tryd.func108, Tryd.ntmps108
  go_wp2_with fail
  have h0 : Below w.heap.size w ((w.alloc (Obj.cells #[.int .i64 r.me, .int .i64 r.kept.view, .int .i64 r.kept.normal, .bool r.kept.calm, .slice A0 n0 c0, .int .i64 r.kept.commit, .slice A1 r.have_.length c1, .slice A2 r.wants.length c2, .slice A3 r.gives.length c3, .slice A4 r.given.length c4] 81)).alloc (Obj.cells #[.int .i64 0, .int .i64 0, .int .i64 0, .bool false, .slice none 0 0, .int .i64 0, .slice none 0 0, .slice none 0 0, .slice none 0 0, .slice none 0 0] 81)) := (below_alloc w _).alloc (by simp) _
  refine (begin_2 _ _ _ _ _ r _ B (HV.out.below h0) HF.out).mono ?_; rintro en w1 ⟨⟨gw, gr, lu, hu, wu, gu, nu, rfl, hW, _⟩, h1⟩
  have e2 : ((w.alloc (Obj.cells #[.int .i64 r.me, .int .i64 r.kept.view, .int .i64 r.kept.normal, .bool r.kept.calm, .slice A0 n0 c0, .int .i64 r.kept.commit, .slice A1 r.have_.length c1, .slice A2 r.wants.length c2, .slice A3 r.gives.length c3, .slice A4 r.given.length c4] 81)).alloc (Obj.cells #[.int .i64 0, .int .i64 0, .int .i64 0, .bool false, .slice none 0 0, .int .i64 0, .slice none 0 0, .slice none 0 0, .slice none 0 0, .slice none 0 0] 81)).heap.size = w.heap.size + 2 := by simp
  rw [e2] at hW
  have hs : Blk w1 w.heap.size 81 #[.int .i64 r.me, .int .i64 r.kept.view, .int .i64 r.kept.normal, .bool r.kept.calm, .slice A0 n0 c0, .int .i64 r.kept.commit, .slice A1 r.have_.length c1, .slice A2 r.wants.length c2, .slice A3 r.gives.length c3, .slice A4 r.given.length c4] := ((Blk.new w _ _).alloc _).same h1
  have hz : Blk w1 (w.heap.size + 1) 81 #[.int .i64 0, .int .i64 0, .int .i64 0, .bool false, .slice none 0 0, .int .i64 0, .slice none 0 0, .slice none 0 0, .slice none 0 0, .slice none 0 0] := (Blk.new' (by simp)).same h1
  have hb := h0.trans (h1.mono h0.size)
  have hsz : w.heap.size + 2 ≤ w1.heap.size := by have := h1.size; rw [e2] at this; exact this
  have s0 := hs.cell 0
  have s1 := hs.cell 1
  have s2 := hs.cell 2
  have s3 := hs.cell 3
  have s4 := hs.cell 4
  have s5 := hs.cell 5
  have s6 := hs.cell 6
  have s7 := hs.cell 7
  have s8 := hs.cell 8
  have s9 := hs.cell 9
  simp only [List.getElem?_toArray, List.getElem?_cons_zero, List.getElem?_cons_succ] at s0 s1 s2 s3 s4 s5 s6 s7 s8 s9
  have sz := hs.frozen
  have sl := hs.lt
  have H1 := Lib.hid (And.intro hW (And.intro hs (And.intro hz (And.intro hb hsz))))
  clear h1 h0 hs hz hb hW e2 hsz HF
  go_wp2_with fail
  refine (leads_a _ _ _ _ _ r hvw _ false HL.out).mono ?_; rintro en w2 ⟨rfl, h2⟩
  have hW := H1.out.1.below h2
  have hs := H1.out.2.1.same h2
  have hz := H1.out.2.2.1.same h2
  have hb := H1.out.2.2.2.1.trans (h2.mono H1.out.2.2.2.1.size)
  have hsz : w.heap.size + 2 ≤ w2.heap.size := Nat.le_trans H1.out.2.2.2.2 h2.size
  have H2 := Lib.hid (And.intro hW (And.intro hs (And.intro hz (And.intro hb hsz))))
  clear s0 s1 s2 s3 s4 s5 s6 s7 s8 s9 sz sl
  clear hz hb hW h2 hsz
  have hn0 : n0 = r.kept.log.length := by
    obtain ⟨A', c', e, _⟩ := HV.out.log.ex
    cases e
    rfl
  subst hn0
  have s1 := hs.cell 1
  have s3 := hs.cell 3
  have s4 := hs.cell 4
  simp only [List.getElem?_toArray, List.getElem?_cons_zero, List.getElem?_cons_succ] at s1 s3 s4
  rw [HCC.out] at s3
  have sl := hs.lt
  clear hs
  go_wp2_with fail
  go_region_held3 (fun w' => w'.cell? ⟨w.heap.size, 1, none⟩ = some (.int .i64 r.kept.view) ∧ w'.cell? ⟨w.heap.size, 4, none⟩ = some (.slice A0 r.kept.log.length c0))
    (first | (go_split_ands; (try dsimp only); (repeat' apply And.intro) <;> (with_reducible assumption)) | (go_split_ands; (try dsimp only); exact ⟨s1, s4⟩))
    (first
      | (go_at_call 47; refine (leader_c _ _ hvw).mono ?_; rintro en w' ⟨rfl, rfl⟩)
      | (go_at_call 96; refine (send_e none 0 0 { Scu.msg0 with kind := 2, n := r.kept.log.length } (r.kept.view % 3) _ (w.heap.size + 2) gw gr r [] (H2.out.1.below (Below.refl _ _).drew).e H2.out.2.2.2.2 IsStrs.nil_ (by simp [R47]) _ rfl).mono ?_; rintro en w3 ⟨rfl, hw3, h3⟩
         rw [if_neg HNE.out] at hw3
         have HW3 := Lib.hid (And.intro hw3 ((Below.refl _ _).drew.trans h3))
         have f1 := (HW3.out.2.cell (p := ⟨w.heap.size, 1, none⟩) (by show w.heap.size < w.heap.size + 2; omega)).trans s1
         have f4 := (HW3.out.2.cell (p := ⟨w.heap.size, 4, none⟩) (by show w.heap.size < w.heap.size + 2; omega)).trans s4
         clear hw3 h3))
  have h3 := HW3.out.2
  have hw3 : WorkE w3 (w.heap.size + 2) gw gr r ms := by rw [← HMS.out]; exact HW3.out.1
  have hz3 : Blk w3 (w.heap.size + 1) 81 #[.int .i64 0, .int .i64 0, .int .i64 0, .bool false, .slice none 0 0, .int .i64 0, .slice none 0 0, .slice none 0 0, .slice none 0 0, .slice none 0 0] := H2.out.2.2.1.below h3 (by omega)
  have hb3 : Below w.heap.size w w3 := H2.out.2.2.2.1.trans (h3.mono (by omega))
  clear h3 HW3 f1 f4 s1 s3 s4 sl
  obtain ⟨lu3, hv3, wv3, gv3, nv3, ov3, css3, hw3⟩ := hw3
  obtain ⟨Ao, co, rfl⟩ := hw3.out.form
  obtain ⟨E0, m0, d0, E1, d1, E2, d2, E3, d3, E4, d4, rfl, rfl, rfl, rfl, rfl⟩ := hw3.own.is.forms
  have hwb := hw3.wb
  have hrb := hw3.rb
  have f0 := hwb.cell 0
  have f1 := hwb.cell 1
  simp only [List.getElem?_toArray, List.getElem?_cons_zero, List.getElem?_cons_succ] at f0 f1
  have fl := hwb.lt
  have k0 := hrb.cell 0
  have k1 := hrb.cell 1
  have k2 := hrb.cell 2
  have k3 := hrb.cell 3
  have k4 := hrb.cell 4
  have k5 := hrb.cell 5
  have k6 := hrb.cell 6
  have k7 := hrb.cell 7
  have k8 := hrb.cell 8
  have k9 := hrb.cell 9
  simp only [List.getElem?_toArray, List.getElem?_cons_zero, List.getElem?_cons_succ] at k0 k1 k2 k3 k4 k5 k6 k7 k8 k9
  have kz := hrb.frozen
  have kl := hrb.lt
  have z0 := hz3.cell 0
  have z1 := hz3.cell 1
  have z2 := hz3.cell 2
  have z3 := hz3.cell 3
  have z4 := hz3.cell 4
  have z5 := hz3.cell 5
  have z6 := hz3.cell 6
  have z7 := hz3.cell 7
  have z8 := hz3.cell 8
  have z9 := hz3.cell 9
  simp only [List.getElem?_toArray, List.getElem?_cons_zero, List.getElem?_cons_succ] at z0 z1 z2 z3 z4 z5 z6 z7 z8 z9
  have zz := hz3.frozen
  have zl := hz3.lt
  have hr := blk_set10 (a0 := .int .i64 r.me) (a1 := .int .i64 r.kept.view) (a2 := .int .i64 r.kept.normal) (a3 := .bool r.kept.calm) (a4 := .slice E0 m0 d0) (a5 := .int .i64 r.kept.commit) (a6 := .slice E1 r.have_.length d1) (a7 := .slice E2 r.wants.length d2) (a8 := .slice E3 r.gives.length d3) (a9 := .slice E4 r.given.length d4) hz3
  have hsm := Same.sets10 (Ts := [9, 3, 4, 64, 89, 146]) (B := 0) (a0 := .int .i64 r.me) (a1 := .int .i64 r.kept.view) (a2 := .int .i64 r.kept.normal) (a3 := .bool r.kept.calm) (a4 := .slice E0 m0 d0) (a5 := .int .i64 r.kept.commit) (a6 := .slice E1 r.have_.length d1) (a7 := .slice E2 r.wants.length d2) (a8 := .slice E3 r.gives.length d3) (a9 := .slice E4 r.given.length d4) hz3 (Nat.zero_le _) (by decide)
  have hwb2 := blk_keep hwb hsm (by simp)
  have q0 := hwb2.cell 0
  have q1 := hwb2.cell 1
  simp only [List.getElem?_toArray, List.getElem?_cons_zero, List.getElem?_cons_succ] at q0 q1
  have hT := hw3.own.is.same (hsm.mono (by simp) (Nat.le_refl _))
  have hO := hw3.out.is.same (Ts := [9, 89]) (by simp) (hsm.mono (by simp) (Nat.le_refl _)) (fun _ _ h => h.same (Ts := [9, 89]) (by simp) (hsm.mono (by simp) (Nat.le_refl _)))
  have hL := below_set10 (a0 := .int .i64 r.me) (a1 := .int .i64 r.kept.view) (a2 := .int .i64 r.kept.normal) (a3 := .bool r.kept.calm) (a4 := .slice E0 m0 d0) (a5 := .int .i64 r.kept.commit) (a6 := .slice E1 r.have_.length d1) (a7 := .slice E2 r.wants.length d2) (a8 := .slice E3 r.gives.length d3) (a9 := .slice E4 r.given.length d4) hb3 (show w.heap.size ≤ w.heap.size + 1 by omega)
  have r0 := hr.cell 0
  have r1 := hr.cell 1
  have r2 := hr.cell 2
  have r3 := hr.cell 3
  have r4 := hr.cell 4
  have r5 := hr.cell 5
  have r6 := hr.cell 6
  have r7 := hr.cell 7
  have r8 := hr.cell 8
  have r9 := hr.cell 9
  simp only [List.getElem?_toArray, List.getElem?_cons_zero, List.getElem?_cons_succ] at r0 r1 r2 r3 r4 r5 r6 r7 r8 r9
  have rz := hr.frozen
  have rl := hr.lt
  have hA : ∀ g, (Value.slice Ao ms.length co).ownBlock = some g → w.heap.size ≤ g := fun g hg => by have := (hw3.out.row.lt g hg).1; omega
  have HT := Lib.hid (And.intro hT (And.intro hO (And.intro hL hA)))
  clear hr hsm hT hO hL hwb hrb hw3 hz3 hb3 hwb2 hA
  go_wp2_with fail
  go_region
  go_wp2
  refine bodyPost_ret (v := .tuple #[.agg #[.int .i64 r.me, .int .i64 r.kept.view, .int .i64 r.kept.normal, .bool r.kept.calm, .slice E0 m0 d0, .int .i64 r.kept.commit, .slice E1 r.have_.length d1, .slice E2 r.wants.length d2, .slice E3 r.gives.length d3, .slice E4 r.given.length d4], .slice Ao ms.length co, .int .i64 0]) (by simp [results, Tryd.results108, go_sem, r0, r1, r2, r3, r4, r5, r6, r7, r8, r9]) rfl ?_
  exact ⟨⟨_, _, _, _, _, _, rfl, HT.out.1.same (Same.drew _), HT.out.2.1.same (Ts := [9, 89]) (by simp) (Same.drew _) (fun _ _ h => h.same (Ts := [9]) (by simp) (Same.drew _)), HT.out.2.2.2⟩, HT.out.2.2.1.drew⟩
theorem tick_4 (lv hv wv gv nv : Value) (r : Scu.Replica) (w : World) (B : Nat) (hr : IsRep w B lv hv wv gv nv r) (hf : Scu.repFault r = 0) (hl : Scu.leads r = false) (hc : r.kept.calm = false) (ms : List Scu.Message)
    (hms : Scu.toAll r.me r.kept.view { Scu.msg0 with kind := 3 } = ms) (rr : Scu.Replica) (hr2 : { r with wants := r.wants.set r.me.toNat true } = rr) :
    Calls Tryd.prog 108 #[.agg #[.int .i64 r.me, .int .i64 r.kept.view, .int .i64 r.kept.normal, .bool r.kept.calm, lv, .int .i64 r.kept.commit, hv, wv, gv, nv]] w fun e w' => TellN w.heap.size w' rr ms 0 e ∧ Below w.heap.size w w' := by
  have HMS := Lib.hid hms
  have HR2 := Lib.hid hr2
  have HCC := Lib.hid hc
  have h3 := rep_three hf
  have H3 := Lib.hid h3
  clear hms hc hr2 h3
  have hvw := rep_view hf
  have HL := Lib.hid hl
  clear hl
  have HV := Lib.hid hr
  have HF := Lib.hid hf
  obtain ⟨A0, n0, c0, A1, c1, A2, c2, A3, c3, A4, c4, rfl, rfl, rfl, rfl, rfl⟩ := hr.forms
  clear hr hf
  go_enter Tryd.func108, Tryd.ntmps108
  go_wp2_with fail
  have h0 : Below w.heap.size w ((w.alloc (Obj.cells #[.int .i64 r.me, .int .i64 r.kept.view, .int .i64 r.kept.normal, .bool r.kept.calm, .slice A0 n0 c0, .int .i64 r.kept.commit, .slice A1 r.have_.length c1, .slice A2 r.wants.length c2, .slice A3 r.gives.length c3, .slice A4 r.given.length c4] 81)).alloc (Obj.cells #[.int .i64 0, .int .i64 0, .int .i64 0, .bool false, .slice none 0 0, .int .i64 0, .slice none 0 0, .slice none 0 0, .slice none 0 0, .slice none 0 0] 81)) := (below_alloc w _).alloc (by simp) _
  refine (begin_2 _ _ _ _ _ r _ B (HV.out.below h0) HF.out).mono ?_; rintro en w1 ⟨⟨gw, gr, lu, hu, wu, gu, nu, rfl, hW, _⟩, h1⟩
  have e2 : ((w.alloc (Obj.cells #[.int .i64 r.me, .int .i64 r.kept.view, .int .i64 r.kept.normal, .bool r.kept.calm, .slice A0 n0 c0, .int .i64 r.kept.commit, .slice A1 r.have_.length c1, .slice A2 r.wants.length c2, .slice A3 r.gives.length c3, .slice A4 r.given.length c4] 81)).alloc (Obj.cells #[.int .i64 0, .int .i64 0, .int .i64 0, .bool false, .slice none 0 0, .int .i64 0, .slice none 0 0, .slice none 0 0, .slice none 0 0, .slice none 0 0] 81)).heap.size = w.heap.size + 2 := by simp
  rw [e2] at hW
  have hs : Blk w1 w.heap.size 81 #[.int .i64 r.me, .int .i64 r.kept.view, .int .i64 r.kept.normal, .bool r.kept.calm, .slice A0 n0 c0, .int .i64 r.kept.commit, .slice A1 r.have_.length c1, .slice A2 r.wants.length c2, .slice A3 r.gives.length c3, .slice A4 r.given.length c4] := ((Blk.new w _ _).alloc _).same h1
  have hz : Blk w1 (w.heap.size + 1) 81 #[.int .i64 0, .int .i64 0, .int .i64 0, .bool false, .slice none 0 0, .int .i64 0, .slice none 0 0, .slice none 0 0, .slice none 0 0, .slice none 0 0] := (Blk.new' (by simp)).same h1
  have hb := h0.trans (h1.mono h0.size)
  have hsz : w.heap.size + 2 ≤ w1.heap.size := by have := h1.size; rw [e2] at this; exact this
  have s0 := hs.cell 0
  have s1 := hs.cell 1
  have s2 := hs.cell 2
  have s3 := hs.cell 3
  have s4 := hs.cell 4
  have s5 := hs.cell 5
  have s6 := hs.cell 6
  have s7 := hs.cell 7
  have s8 := hs.cell 8
  have s9 := hs.cell 9
  simp only [List.getElem?_toArray, List.getElem?_cons_zero, List.getElem?_cons_succ] at s0 s1 s2 s3 s4 s5 s6 s7 s8 s9
  have sz := hs.frozen
  have sl := hs.lt
  have H1 := Lib.hid (And.intro hW (And.intro hs (And.intro hz (And.intro hb hsz))))
  clear h1 h0 hs hz hb hW e2 hsz HF
  go_wp2_with fail
  refine (leads_a _ _ _ _ _ r hvw _ false HL.out).mono ?_; rintro en w2 ⟨rfl, h2⟩
  have hW := H1.out.1.below h2
  have hs := H1.out.2.1.same h2
  have hz := H1.out.2.2.1.same h2
  have hb := H1.out.2.2.2.1.trans (h2.mono H1.out.2.2.2.1.size)
  have hsz : w.heap.size + 2 ≤ w2.heap.size := Nat.le_trans H1.out.2.2.2.2 h2.size
  have H2 := Lib.hid (And.intro hW (And.intro hs (And.intro hz (And.intro hb hsz))))
  clear s0 s1 s2 s3 s4 s5 s6 s7 s8 s9 sz sl
  clear hz hb hW h2 hsz
  obtain ⟨g2, c2', hwu⟩ := ones3f H2.out.1.own.own.wants H3.out.2.1
  subst hwu
  obtain ⟨hgb, ⟨cur, hB⟩, hcw, hfw, hxx⟩ := ones3' H2.out.1.own.own.wants H3.out.2.1
  clear hxx
  have hN := H2.out.1.put_wants hB hgb r.me.toNat true
  have hme0 : 0 ≤ r.me := H3.out.2.2.2.2.1
  have hme3 : r.me < 3 := H3.out.2.2.2.2.2
  obtain ⟨u, hu⟩ := Option.isSome_iff_exists.1 (hcw r.me.toNat (by omega))
  have dz := hfw r.me.toNat
  have d0 := H2.out.1.wb.cell 0
  have d7 := H2.out.1.rb.cell 7
  have s0 := hs.cell 0
  have s3 := hs.cell 3
  simp only [List.getElem?_toArray, List.getElem?_cons_zero, List.getElem?_cons_succ] at d0 d7 s0 s3
  rw [HCC.out] at s3
  have sl := hs.lt
  have dl := H2.out.1.wb.lt
  have dm := H2.out.1.rb.lt
  have HN := Lib.hid hN
  clear hs hN hB hcw hfw
  go_wp2_with fail
  go_region
  obtain ⟨W3, hW3⟩ : ∃ W, W = (w2.setCell ⟨g2, r.me.toNat, none⟩ (.bool true)).drew := ⟨_, rfl⟩
  rw [← hW3]
  have HN3 := Lib.hid (show WorkE W3 (w.heap.size + 2) gw gr rr [] ∧ Below (w.heap.size + 2) w2 W3 from by rw [hW3, ← HR2.out]; exact ⟨(HN.out.1.below (Below.refl _ _).drew).e, HN.out.2.1.drew⟩)
  clear hW3 HN d0 d7 s0 s3 sl dl dm dz hu
  have hs3 : w.heap.size + 2 ≤ W3.heap.size := Nat.le_trans H2.out.2.2.2.2 HN3.out.2.size
  go_wp2_with fail
  refine (all_e 3 W3 (w.heap.size + 2) gw gr rr [] HN3.out.1 hs3 (by simp [R47])).mono ?_; rintro en w3 ⟨rfl, hw3, h3⟩
  rw [List.nil_append, show Scu.toAll rr.me rr.kept.view { Scu.msg0 with kind := 3 } = ms from by rw [← HR2.out]; exact HMS.out] at hw3
  have hz3 : Blk w3 (w.heap.size + 1) 81 #[.int .i64 0, .int .i64 0, .int .i64 0, .bool false, .slice none 0 0, .int .i64 0, .slice none 0 0, .slice none 0 0, .slice none 0 0, .slice none 0 0] := (H2.out.2.2.1.below HN3.out.2 (by omega)).below h3 (by omega)
  have hb3 : Below w.heap.size w w3 := H2.out.2.2.2.1.trans ((HN3.out.2.trans h3).mono (by omega))
  clear h3
  obtain ⟨lu3, hv3, wv3, gv3, nv3, ov3, css3, hw3⟩ := hw3
  obtain ⟨Ao, co, rfl⟩ := hw3.out.form
  obtain ⟨E0, m0, d0, E1, d1, E2, d2, E3, d3, E4, d4, rfl, rfl, rfl, rfl, rfl⟩ := hw3.own.is.forms
  have hwb := hw3.wb
  have hrb := hw3.rb
  have f0 := hwb.cell 0
  have f1 := hwb.cell 1
  simp only [List.getElem?_toArray, List.getElem?_cons_zero, List.getElem?_cons_succ] at f0 f1
  have fl := hwb.lt
  have k0 := hrb.cell 0
  have k1 := hrb.cell 1
  have k2 := hrb.cell 2
  have k3 := hrb.cell 3
  have k4 := hrb.cell 4
  have k5 := hrb.cell 5
  have k6 := hrb.cell 6
  have k7 := hrb.cell 7
  have k8 := hrb.cell 8
  have k9 := hrb.cell 9
  simp only [List.getElem?_toArray, List.getElem?_cons_zero, List.getElem?_cons_succ] at k0 k1 k2 k3 k4 k5 k6 k7 k8 k9
  have kz := hrb.frozen
  have kl := hrb.lt
  have z0 := hz3.cell 0
  have z1 := hz3.cell 1
  have z2 := hz3.cell 2
  have z3 := hz3.cell 3
  have z4 := hz3.cell 4
  have z5 := hz3.cell 5
  have z6 := hz3.cell 6
  have z7 := hz3.cell 7
  have z8 := hz3.cell 8
  have z9 := hz3.cell 9
  simp only [List.getElem?_toArray, List.getElem?_cons_zero, List.getElem?_cons_succ] at z0 z1 z2 z3 z4 z5 z6 z7 z8 z9
  have zz := hz3.frozen
  have zl := hz3.lt
  have hr := blk_set10 (a0 := .int .i64 rr.me) (a1 := .int .i64 rr.kept.view) (a2 := .int .i64 rr.kept.normal) (a3 := .bool rr.kept.calm) (a4 := .slice E0 m0 d0) (a5 := .int .i64 rr.kept.commit) (a6 := .slice E1 rr.have_.length d1) (a7 := .slice E2 rr.wants.length d2) (a8 := .slice E3 rr.gives.length d3) (a9 := .slice E4 rr.given.length d4) hz3
  have hsm := Same.sets10 (Ts := [9, 3, 4, 64, 89, 146]) (B := 0) (a0 := .int .i64 rr.me) (a1 := .int .i64 rr.kept.view) (a2 := .int .i64 rr.kept.normal) (a3 := .bool rr.kept.calm) (a4 := .slice E0 m0 d0) (a5 := .int .i64 rr.kept.commit) (a6 := .slice E1 rr.have_.length d1) (a7 := .slice E2 rr.wants.length d2) (a8 := .slice E3 rr.gives.length d3) (a9 := .slice E4 rr.given.length d4) hz3 (Nat.zero_le _) (by decide)
  have hwb2 := blk_keep hwb hsm (by simp)
  have q0 := hwb2.cell 0
  have q1 := hwb2.cell 1
  simp only [List.getElem?_toArray, List.getElem?_cons_zero, List.getElem?_cons_succ] at q0 q1
  have hT := hw3.own.is.same (hsm.mono (by simp) (Nat.le_refl _))
  have hO := hw3.out.is.same (Ts := [9, 89]) (by simp) (hsm.mono (by simp) (Nat.le_refl _)) (fun _ _ h => h.same (Ts := [9, 89]) (by simp) (hsm.mono (by simp) (Nat.le_refl _)))
  have hL := below_set10 (a0 := .int .i64 rr.me) (a1 := .int .i64 rr.kept.view) (a2 := .int .i64 rr.kept.normal) (a3 := .bool rr.kept.calm) (a4 := .slice E0 m0 d0) (a5 := .int .i64 rr.kept.commit) (a6 := .slice E1 rr.have_.length d1) (a7 := .slice E2 rr.wants.length d2) (a8 := .slice E3 rr.gives.length d3) (a9 := .slice E4 rr.given.length d4) hb3 (show w.heap.size ≤ w.heap.size + 1 by omega)
  have r0 := hr.cell 0
  have r1 := hr.cell 1
  have r2 := hr.cell 2
  have r3 := hr.cell 3
  have r4 := hr.cell 4
  have r5 := hr.cell 5
  have r6 := hr.cell 6
  have r7 := hr.cell 7
  have r8 := hr.cell 8
  have r9 := hr.cell 9
  simp only [List.getElem?_toArray, List.getElem?_cons_zero, List.getElem?_cons_succ] at r0 r1 r2 r3 r4 r5 r6 r7 r8 r9
  have rz := hr.frozen
  have rl := hr.lt
  have hA : ∀ g, (Value.slice Ao ms.length co).ownBlock = some g → w.heap.size ≤ g := fun g hg => by have := (hw3.out.row.lt g hg).1; omega
  have HT := Lib.hid (And.intro hT (And.intro hO (And.intro hL hA)))
  clear hr hsm hT hO hL hwb hrb hw3 hz3 hb3 hwb2 hA
  go_wp2_with fail
  go_region
  go_wp2
  refine bodyPost_ret (v := .tuple #[.agg #[.int .i64 rr.me, .int .i64 rr.kept.view, .int .i64 rr.kept.normal, .bool rr.kept.calm, .slice E0 m0 d0, .int .i64 rr.kept.commit, .slice E1 rr.have_.length d1, .slice E2 rr.wants.length d2, .slice E3 rr.gives.length d3, .slice E4 rr.given.length d4], .slice Ao ms.length co, .int .i64 0]) (by simp [results, Tryd.results108, go_sem, r0, r1, r2, r3, r4, r5, r6, r7, r8, r9]) rfl ?_
  exact ⟨⟨_, _, _, _, _, _, rfl, HT.out.1.same (Same.drew _), HT.out.2.1.same (Ts := [9, 89]) (by simp) (Same.drew _) (fun _ _ h => h.same (Ts := [9]) (by simp) (Same.drew _)), HT.out.2.2.2⟩, HT.out.2.2.1.drew⟩
theorem tick_c (lv hv wv gv nv : Value) (r : Scu.Replica) (w : World) (B : Nat) (hr : IsRep w B lv hv wv gv nv r) :
    Calls Tryd.prog 108 #[.agg #[.int .i64 r.me, .int .i64 r.kept.view, .int .i64 r.kept.normal, .bool r.kept.calm, lv, .int .i64 r.kept.commit, hv, wv, gv, nv]] w fun e w' => TellN w.heap.size w' (Scu.tick r).1 (Scu.tick r).2.1 (Scu.tick r).2.2 e ∧ Below w.heap.size w w' := by
  by_cases hf : Scu.repFault r = 0
  · by_cases hl : Scu.leads r = true
    · have e : Scu.tick r = (r, Scu.leadOn r, 0) := by unfold Scu.tick; rw [if_neg (fun h => h hf), if_pos hl]
      rw [e]
      exact tick_2 lv hv wv gv nv r w B hr hf hl _ rfl
    · have hl' : Scu.leads r = false := by simpa using hl
      by_cases hc : r.kept.calm = true
      · have e : Scu.tick r = (r, [⟨2, r.me, Scu.leader r.kept.view, r.kept.view, 0, 0, r.kept.log.length, []⟩], 0) := by unfold Scu.tick; rw [if_neg (fun h => h hf), if_neg hl, if_pos hc]; rfl
        rw [e]
        exact tick_3 lv hv wv gv nv r w B hr hf hl' hc _ rfl
      · have e : Scu.tick r = ({ r with wants := r.wants.set r.me.toNat true }, Scu.toAll r.me r.kept.view { Scu.msg0 with kind := 3 }, 0) := by unfold Scu.tick; rw [if_neg (fun h => h hf), if_neg hl, if_neg hc]
        rw [e]
        exact tick_4 lv hv wv gv nv r w B hr hf hl' (by simpa using hc) _ rfl _ rfl
  · have e : Scu.tick r = (Scu.replica0, [], Scu.repFault r) := by unfold Scu.tick; rw [if_pos hf]
    rw [e]
    exact tick_1 lv hv wv gv nv r w B hr _ rfl hf
end Go.Proofs.YtfpiembhlgcelaaDoor
/- A law for regions that draw their order and end in one operation, t: what is taken first is taken under a word on the world that need not hold behind t. -/
namespace Go.Proofs.YtfpiembhlgcelaaDoor
open Go.RowKit
set_option maxHeartbeats 400000
section
variable {P : Program} {ops : Array Oper} {Q : Exit → Act → World → Prop} {md : Region.Mode} {S : World → Prop} {t : Nat}
/-- Whatever order is picked from here on; S holds behind each operation but t. -/
def wpAnyE (P : Program) (md : Region.Mode) (ops : Array Oper) (Q : Exit → Act → World → Prop) (S : World → Prop) (t : Nat) : Nat → Array Bool → Act → World → Prop
  | 0, listed, a, w => Region.ready md ops listed = [] ∧ Q .normal a w
  | fuel + 1, listed, a, w =>
    (Region.ready md ops listed = [] → Q .normal a w) ∧
    ∀ i ∈ Region.ready md ops listed, wpOp P ops Q i (fun a' w' => (i = t ∨ S w') ∧ wpAnyE P md ops Q S t fuel (listed.setIfInBounds i true) a' w') a w
theorem wpAny_of_E : ∀ (fuel : Nat) (listed : Array Bool) (a : Act) (w : World), wpAnyE P md ops Q S t fuel listed a w → wpAny P md ops Q fuel listed a w
  | 0, _, _, _, h => h
  | fuel + 1, _, _, _, h => ⟨h.1, fun i hi => wpOp_mono (fun a' w' h' => wpAny_of_E fuel _ a' w' h'.2) (h.2 i hi)⟩
/-- What has come up has all that it waits for. -/
def ShutL (md : Region.Mode) (ops : Array Oper) (l : Array Bool) : Prop := ∀ (j : Nat) (oj : Oper), ops[j]? = some oj → l.getD j false = true → ∀ e ∈ oj.after, Region.binds md e = true → l.getD e.on false = true
theorem ShutL.set {l : Array Bool} (h : ShutL md ops l) {i : Nat} (hi : i ∈ Region.ready md ops l) : ShutL md ops (l.setIfInBounds i true) := by
  intro j oj hoj hl e he hb
  obtain ⟨_, oi, hoi, hall⟩ := Go.mem_ready.1 hi
  by_cases hij : i = j
  · subst hij
    have : oj = oi := Option.some.inj (hoj.symm.trans hoi)
    subst this
    exact Go.getD_set_true (hall e he hb)
  · rw [Go.getD_set_ne false hij] at hl
    exact Go.getD_set_true (h j oj hoj hl e he hb)
/-- t waits for i, directly or through others. -/
def reachB (md : Region.Mode) (ops : Array Oper) (i : Nat) : Nat → Nat → Bool
  | 0, _ => false
  | f + 1, j => match ops[j]? with
    | some o => o.after.any fun e => Region.binds md e && (e.on == i || reachB md ops i f e.on)
    | none => false
theorem reach_listed {i : Nat} {l : Array Bool} (h : ShutL md ops l) : ∀ (f j : Nat), reachB md ops i f j = true → (∀ oj, ops[j]? = some oj → ∀ e ∈ oj.after, Region.binds md e = true → l.getD e.on false = true) → l.getD i false = true
  | 0, _, hr, _ => by cases hr
  | f + 1, j, hr, hall => by
    unfold reachB at hr
    cases ho : ops[j]? with
    | none => rw [ho] at hr; cases hr
    | some o =>
      rw [ho] at hr
      obtain ⟨e, he, hb⟩ := Array.any_eq_true'.1 hr
      simp only [Bool.and_eq_true, Bool.or_eq_true, beq_iff_eq] at hb
      have hl := hall o ho e he hb.1
      rcases hb.2 with hb | hb
      · rw [← hb]; exact hl
      · exact reach_listed h f e.on hb fun oj hoj e' he' hb' => h e.on oj hoj hl e' he' hb'
theorem not_ready {i f : Nat} {l : Array Bool} (h : ShutL md ops l) (hr : reachB md ops i f t = true) (hi : l.getD i true = false) : t ∉ Region.ready md ops l := fun ht => by
  obtain ⟨_, o, ho, hall⟩ := Go.mem_ready.1 ht
  have := reach_listed h f t hr (fun oj hoj e he hb => by
    have : oj = o := Option.some.inj (hoj.symm.trans ho)
    subst this
    exact hall e he hb)
  rcases Nat.lt_or_ge i l.size with h' | h'
  · simp [h'] at hi this; rw [hi] at this; cases this
  · simp [Array.getElem?_eq_none h'] at hi
theorem wpAnyE_first {i f : Nat} {oi : Oper} {v : Value} (hi : ops[i]? = some oi) (hsel : ∀ (j : Nat) (o : Oper) cs b, ops[j]? = some o → o.op ≠ .select cs b)
    (hQ : ∀ c a w, Q (.panic c) (a.put oi.dst v) w → Q (.panic c) a w) (hrt : reachB md ops i f t = true) : ∀ (fuel : Nat) (listed : Array Bool) (a : Act) (w : World),
      (∀ j oj, ops[j]? = some oj → j ≠ i → listed.getD j true = false → (∀ e ∈ oj.after, Region.binds md e = true → e.on ≠ i) → oi.apart ops oj = true) →
      i ∈ Region.ready md ops listed → ShutL md ops listed → YieldsIf P ops S oi v a → S w →
      wpAnyE P md ops Q S t fuel (listed.setIfInBounds i true) (a.put oi.dst v) w → wpAnyE P md ops Q S t (fuel + 1) listed a w := by
  intro fuel
  induction fuel with
  | zero =>
    intro listed a w _ hr hsh hy hS H
    refine ⟨fun h => (by rw [h] at hr; cases hr), fun j hj => ?_⟩
    by_cases hji : j = i
    · subst hji; exact hy.wpOp hi hS ⟨.inr hS, H⟩
    · have := Go.ready_mono hj hji
      rw [H.1] at this
      cases this
  | succ fuel ih =>
    intro listed a w hfree hr hsh hy hS H
    have h0 : listed.getD i true = false := (Go.mem_ready.1 hr).1
    refine ⟨fun h => (by rw [h] at hr; cases hr), fun j hj => ?_⟩
    by_cases hji : j = i
    · subst hji; exact hy.wpOp hi hS ⟨.inr hS, H⟩
    · have h1 := H.2 j (Go.ready_mono hj hji)
      have hjt : j ≠ t := fun e => not_ready hsh hrt h0 (e ▸ hj)
      obtain ⟨hjun, oj, hoj, hall⟩ := Go.mem_ready.1 hj
      have hnot : ∀ e ∈ oj.after, Region.binds md e = true → e.on ≠ i := fun e he hb heq => by
        have h1 := hall e he hb
        rw [heq] at h1
        rcases Nat.lt_or_ge i listed.size with h' | h'
        · simp [h'] at h0 h1; rw [h0] at h1; cases h1
        · simp [Array.getElem?_eq_none h'] at h1
      have h2 := wpOp_putIf hoj (hfree j oj hoj hji hjun hnot) (fun cs b => hsel i oi cs b hi) (fun cs b => hsel j oj cs b hoj) hQ hy h1
      have hfree' : ∀ k ok, ops[k]? = some ok → k ≠ i → (listed.setIfInBounds j true).getD k true = false →
          (∀ e ∈ ok.after, Region.binds md e = true → e.on ≠ i) → oi.apart ops ok = true := fun k ok hk hki hun hno => by
        refine hfree k ok hk hki ?_ hno
        by_cases hjk : j = k
        · subst hjk; exact hjun
        · rw [Go.getD_set_ne true hjk] at hun; exact hun
      refine wpOp_mono (fun a' w' h3 => ?_) h2
      obtain ⟨h4, h5, h6⟩ := h3
      have h5 := h5.resolve_left hjt
      refine ⟨.inr h5, ih (listed.setIfInBounds j true) a' w' hfree' (Go.ready_mono hr (Ne.symm hji)) (hsh.set hj) h4 h5 ?_⟩
      rw [Array.setIfInBounds_comm _ _ hji]
      exact h6
/-- Number i first. -/
theorem wpAnyE_take {i : Nat} (f : Nat) {oi : Oper} {v : Value} {fuel : Nat} {listed : Array Bool} {a : Act} {w : World} (hi : ops[i]? = some oi)
    (hs : Region.noSelect ops = true) (hf : Region.free md ops listed i = true) (hr : (Region.ready md ops listed).contains i = true) (hrt : reachB md ops i f t = true)
    (hQ : ∀ c a w, Q (.panic c) (a.put oi.dst v) w → Q (.panic c) a w) (hy : YieldsIf P ops S oi v a) (hsh : ShutL md ops listed) (hS : S w)
    (h : ShutL md ops (listed.setIfInBounds i true) → wpAnyE P md ops Q S t fuel (listed.setIfInBounds i true) (a.put oi.dst v) w) : wpAnyE P md ops Q S t (fuel + 1) listed a w :=
  have hr' : i ∈ Region.ready md ops listed := by simpa using hr
  wpAnyE_first hi (Region.noSelect_spec hs) hQ hrt fuel listed a w (Region.free_spec hi hf) hr' hsh hy hS (h (hsh.set hr'))
theorem wpAnyE_all {rs : List Nat} {fuel : Nat} {listed : Array Bool} {a : Act} {w : World} (hr : Region.ready md ops listed = rs) (hne : rs ≠ [])
    (h : ∀ i ∈ rs, wpOp P ops Q i (fun a' w' => (i = t ∨ S w') ∧ wpAnyE P md ops Q S t fuel (listed.setIfInBounds i true) a' w') a w) : wpAnyE P md ops Q S t (fuel + 1) listed a w :=
  ⟨fun h0 => absurd (hr ▸ h0) hne, hr ▸ h⟩
theorem wpAnyE_done {listed : Array Bool} {a : Act} {w : World} (hr : Region.ready md ops listed = []) (h : Q .normal a w) : ∀ fuel, wpAnyE P md ops Q S t fuel listed a w
  | 0 => ⟨hr, h⟩
  | _ + 1 => ⟨fun _ => h, by rw [hr]; simp⟩
theorem wp_region_E {id : Nat} {a : Act} {w : World} (S : World → Prop) (t : Nat) (hm : P.follows .mixedOrders = true)
    (h : ShutL .any ops (Array.replicate ops.size false) → wpAnyE P .any ops Q S t ops.size (Array.replicate ops.size false) a { w with drawn := w.drawn + 1 }) : (Code.region id ops true).wp P Q a w :=
  wp_region_any hm (wpAny_of_E _ _ _ _ (h fun j oj _ hl => by
    exfalso
    rw [Array.getD_eq_getD_getElem?] at hl
    by_cases hk : j < ops.size
    · simp [hk] at hl
    · rw [Array.getElem?_eq_none (by simpa using hk)] at hl
      cases hl))
end
end Go.Proofs.YtfpiembhlgcelaaDoor

/- The law 'ReplicaTakes': for every input the call returns true; each argument reads as it did. No condition. -/
import Derived.Test.YtjbhkmadcjnbfaaPart22
import Derived.Test.YtjbhkmadcjnbfaaPart23
import Derived.Test.YtjbhkmadcjnbfaaPart19
import Derived.Test.YtjbhkmadcjnbfaaPart13
import Derived.Test.YtjbhkmadcjnbfaaPart1
import Derived.SizedLaws
import Derived.WalkKit
import Derived.ProofKit
import Derived.OpenShut
import Derived.ShutString
import Derived.ChangeOld
import Derived.Below
set_option linter.unusedVariables false
set_option linter.unusedSimpArgs false
/- The law ReplicaTakes, walked. -/
namespace Go.Proofs.Ytjbhkmadcjnbfaa
set_option linter.unusedVariables false
set_option linter.unusedSimpArgs false
open Go.RowKit
set_option maxHeartbeats 4000000
set_option maxRecDepth 100000

theorem take_a (s : Scu.Str) (hes : s.size ≤ R47) (lv hv wv gv nv : Value) (r : Scu.Replica) (w : World) (B : Nat) (hr : IsRep w B lv hv wv gv nv r) (rr : Scu.Replica) (ms : List Scu.Message) (f : Int) (h : Scu.take r s = (rr, ms, f)) :
    Calls Try.prog 12 #[.agg #[.int .i64 r.me, .int .i64 r.kept.view, .int .i64 r.kept.normal, .bool r.kept.calm, lv, .int .i64 r.kept.commit, hv, wv, gv, nv], .string s] w fun e w' => TellRet w' rr ms f e ∧ Below w.heap.size w w' := by
  have := take_c lv hv wv gv nv r s hes w B hr
  rw [h] at this
  exact this
theorem takenOf_a (s : Scu.Str) (hes : s.size ≤ R47) (lv hv wv gv nv : Value) (r : Scu.Replica) (w : World) (B : Nat) (hBw : B ≤ w.heap.size) (hr : IsRep w B lv hv wv gv nv r) (rr : Scu.Replica) (ms : List Scu.Message) (f : Int) (h : Scu.take r s = (rr, ms, f)) :
    Calls Try.prog 13 #[.agg #[.int .i64 r.me, .int .i64 r.kept.view, .int .i64 r.kept.normal, .bool r.kept.calm, lv, .int .i64 r.kept.commit, hv, wv, gv, nv], .string s] w fun e w' => TellRet w' rr ms f e ∧ Below w.heap.size w w' := by
  have := takenOf_c lv hv wv gv nv r s hes w B hr
  rw [h] at this
  exact this
theorem lawReplicaTakes_c (A0 : Option Addr) (n0 c0 : Nat) (A1 : Option Addr) (c1 : Nat) (A2 : Option Addr) (c2 : Nat) (A3 : Option Addr) (c3 : Nat) (A4 : Option Addr) (c4 : Nat) (r : Scu.Replica) (s : Scu.Str) (hes : s.size ≤ R47) (w : World)
    (hr : IsRep w w.heap.size (.slice A0 n0 c0) (.slice A1 r.have_.length c1) (.slice A2 r.wants.length c2) (.slice A3 r.gives.length c3) (.slice A4 r.given.length c4) r) :
    Calls Try.prog 4 #[.agg #[.int .i64 r.me, .int .i64 r.kept.view, .int .i64 r.kept.normal, .bool r.kept.calm, .slice A0 n0 c0, .int .i64 r.kept.commit, .slice A1 r.have_.length c1, .slice A2 r.wants.length c2, .slice A3 r.gives.length c3, .slice A4 r.given.length c4], .string s] w fun e w' => e = .returned (.bool true) ∧ Below w.heap.size w w' := by
  obtain ⟨q, hq⟩ : ∃ q, Scu.take r s = q := ⟨_, rfl⟩
  obtain ⟨rr, ms, f⟩ := q
  have HQ := Lib.hid hq
  have HR := Lib.hid hr
  have HES := Lib.hid hes
  clear hr hq hes
  go_enter Try.func4, Try.ntmps4
  go_wp2_with fail
  obtain ⟨V0, hV0⟩ : ∃ W, W = w.alloc (Obj.cells #[.int .i64 r.me, .int .i64 r.kept.view, .int .i64 r.kept.normal, .bool r.kept.calm, .slice A0 n0 c0, .int .i64 r.kept.commit, .slice A1 r.have_.length c1, .slice A2 r.wants.length c2, .slice A3 r.gives.length c3, .slice A4 r.given.length c4] 29) := ⟨_, rfl⟩
  rw [← hV0]
  have hb0 : Blk V0 w.heap.size 29 #[.int .i64 r.me, .int .i64 r.kept.view, .int .i64 r.kept.normal, .bool r.kept.calm, .slice A0 n0 c0, .int .i64 r.kept.commit, .slice A1 r.have_.length c1, .slice A2 r.wants.length c2, .slice A3 r.gives.length c3, .slice A4 r.given.length c4] := by rw [hV0]; exact Blk.new _ _ _
  have hl0 : Below w.heap.size w V0 := by rw [hV0]; exact below_alloc _ _
  clear hV0
  refine (repCopyRef_c A0 n0 c0 A1 c1 A2 c2 A3 r.gives.length c3 A4 c4 r V0 w.heap.size (HR.out.below hl0)).mono ?_; rintro e w1 ⟨⟨lu, hv, wv, gv, nv, rfl, hu, _⟩, h1⟩
  obtain ⟨E0, m0, d0, E1, d1, E2, d2, E3, d3, E4, d4, rfl, rfl, rfl, rfl, rfl⟩ := hu.is.forms
  have H1 := Lib.hid (And.intro hu.is (And.intro (hb0.same h1) (hl0.trans (h1.mono hl0.size))))
  clear hb0 hl0 h1 hu
  go_upto_region 2 with fail
  obtain ⟨V1, hV1⟩ : ∃ W, W = w1.alloc (Obj.cells #[.int .i64 r.me, .int .i64 r.kept.view, .int .i64 r.kept.normal, .bool r.kept.calm, .slice E0 m0 d0, .int .i64 r.kept.commit, .slice E1 r.have_.length d1, .slice E2 r.wants.length d2, .slice E3 r.gives.length d3, .slice E4 r.given.length d4] 29) := ⟨_, rfl⟩
  rw [← hV1]
  have hl1 : Below w1.heap.size w1 V1 := by rw [hV1]; exact below_alloc _ _
  have hb1 : Blk V1 w1.heap.size 29 #[.int .i64 r.me, .int .i64 r.kept.view, .int .i64 r.kept.normal, .bool r.kept.calm, .slice E0 m0 d0, .int .i64 r.kept.commit, .slice E1 r.have_.length d1, .slice E2 r.wants.length d2, .slice E3 r.gives.length d3, .slice E4 r.given.length d4] := by rw [hV1]; exact Blk.new _ _ _
  clear hV1
  have s0 := hb1.cell 0
  have s1 := hb1.cell 1
  have s2 := hb1.cell 2
  have s3 := hb1.cell 3
  have s4 := hb1.cell 4
  have s5 := hb1.cell 5
  have s6 := hb1.cell 6
  have s7 := hb1.cell 7
  have s8 := hb1.cell 8
  have s9 := hb1.cell 9
  simp only [List.getElem?_toArray, List.getElem?_cons_zero, List.getElem?_cons_succ] at s0 s1 s2 s3 s4 s5 s6 s7 s8 s9
  have sl := hb1.lt
  have H2 := Lib.hid (And.intro (H1.out.1.below hl1) (And.intro (H1.out.2.1.same hl1) (And.intro (H1.out.2.2.trans (hl1.mono H1.out.2.2.size)) hb1)))
  clear hb1 hl1
  go_wp2_with fail
  refine (take_a s HES.out _ _ _ _ _ r V1 0 H2.out.1 rr ms f HQ.out).mono ?_; rintro e w2 ⟨⟨lu, hv, wv, gv, nv, ov, rfl, ht, hm⟩, h3⟩
  obtain ⟨F0, p0, q0, F1, q1, F2, q2, F3, q3, F4, q4, rfl, rfl, rfl, rfl, rfl⟩ := ht.forms
  obtain ⟨⟨Am, cm, kss, rfl, hkk⟩, hkl⟩ := id hm
  have H3 := Lib.hid (show IsRep w2 0 (.slice E0 m0 d0) (.slice E1 r.have_.length d1) (.slice E2 r.wants.length d2) (.slice E3 r.gives.length d3) (.slice E4 r.given.length d4) r ∧ Blk w2 w.heap.size 29 #[.int .i64 r.me, .int .i64 r.kept.view, .int .i64 r.kept.normal, .bool r.kept.calm, .slice A0 n0 c0, .int .i64 r.kept.commit, .slice A1 r.have_.length c1, .slice A2 r.wants.length c2, .slice A3 r.gives.length c3, .slice A4 r.given.length c4] ∧ Below w.heap.size w w2 ∧ Blk w2 w1.heap.size 29 #[.int .i64 r.me, .int .i64 r.kept.view, .int .i64 r.kept.normal, .bool r.kept.calm, .slice E0 m0 d0, .int .i64 r.kept.commit, .slice E1 r.have_.length d1, .slice E2 r.wants.length d2, .slice E3 r.gives.length d3, .slice E4 r.given.length d4] ∧ IsRep w2 0 (.slice F0 p0 q0) (.slice F1 rr.have_.length q1) (.slice F2 rr.wants.length q2) (.slice F3 rr.gives.length q3) (.slice F4 rr.given.length q4) rr ∧ IsRow 41 8 80 MsgE w2 0 (.slice Am ms.length cm) ms from
    ⟨H2.out.1.below h3, H2.out.2.1.same h3, H2.out.2.2.1.trans (h3.mono H2.out.2.2.1.size), H2.out.2.2.2.same h3, ht, hm⟩)
  clear ht hm h3 s0 s1 s2 s3 s4 s5 s6 s7 s8 s9 sl hkk hkl
  go_upto_region 3 with fail
  obtain ⟨V2, hV2⟩ : ∃ W, W = w2.alloc (Obj.cells #[.int .i64 rr.me, .int .i64 rr.kept.view, .int .i64 rr.kept.normal, .bool rr.kept.calm, .slice F0 p0 q0, .int .i64 rr.kept.commit, .slice F1 rr.have_.length q1, .slice F2 rr.wants.length q2, .slice F3 rr.gives.length q3, .slice F4 rr.given.length q4] 29) := ⟨_, rfl⟩
  rw [← hV2]
  have hl2 : Below w2.heap.size w2 V2 := by rw [hV2]; exact below_alloc _ _
  have hb2 : Blk V2 w2.heap.size 29 #[.int .i64 rr.me, .int .i64 rr.kept.view, .int .i64 rr.kept.normal, .bool rr.kept.calm, .slice F0 p0 q0, .int .i64 rr.kept.commit, .slice F1 rr.have_.length q1, .slice F2 rr.wants.length q2, .slice F3 rr.gives.length q3, .slice F4 rr.given.length q4] := by rw [hV2]; exact Blk.new _ _ _
  clear hV2
  have H4 := Lib.hid (show IsRep V2 0 (.slice E0 m0 d0) (.slice E1 r.have_.length d1) (.slice E2 r.wants.length d2) (.slice E3 r.gives.length d3) (.slice E4 r.given.length d4) r ∧ Blk V2 w.heap.size 29 #[.int .i64 r.me, .int .i64 r.kept.view, .int .i64 r.kept.normal, .bool r.kept.calm, .slice A0 n0 c0, .int .i64 r.kept.commit, .slice A1 r.have_.length c1, .slice A2 r.wants.length c2, .slice A3 r.gives.length c3, .slice A4 r.given.length c4] ∧ Below w.heap.size w V2 ∧ Blk V2 w1.heap.size 29 #[.int .i64 r.me, .int .i64 r.kept.view, .int .i64 r.kept.normal, .bool r.kept.calm, .slice E0 m0 d0, .int .i64 r.kept.commit, .slice E1 r.have_.length d1, .slice E2 r.wants.length d2, .slice E3 r.gives.length d3, .slice E4 r.given.length d4] ∧ IsRep V2 0 (.slice F0 p0 q0) (.slice F1 rr.have_.length q1) (.slice F2 rr.wants.length q2) (.slice F3 rr.gives.length q3) (.slice F4 rr.given.length q4) rr ∧ IsRow 41 8 80 MsgE V2 0 (.slice Am ms.length cm) ms ∧ Blk V2 w2.heap.size 29 #[.int .i64 rr.me, .int .i64 rr.kept.view, .int .i64 rr.kept.normal, .bool rr.kept.calm, .slice F0 p0 q0, .int .i64 rr.kept.commit, .slice F1 rr.have_.length q1, .slice F2 rr.wants.length q2, .slice F3 rr.gives.length q3, .slice F4 rr.given.length q4] from
    ⟨H3.out.1.below hl2, H3.out.2.1.same hl2, H3.out.2.2.1.trans (hl2.mono H3.out.2.2.1.size), H3.out.2.2.2.1.same hl2, H3.out.2.2.2.2.1.below hl2, H3.out.2.2.2.2.2.same (Ts := [9, 41]) (by simp) (Same.below hl2) (fun _ _ h => h.same (Ts := [9]) (by simp) (Same.below hl2)), hb2⟩)
  clear hl2 hb2
  have ha := H4.out.2.1
  have s0 := ha.cell 0
  have s1 := ha.cell 1
  have s2 := ha.cell 2
  have s3 := ha.cell 3
  have s4 := ha.cell 4
  have s5 := ha.cell 5
  have s6 := ha.cell 6
  have s7 := ha.cell 7
  have s8 := ha.cell 8
  have s9 := ha.cell 9
  simp only [List.getElem?_toArray, List.getElem?_cons_zero, List.getElem?_cons_succ] at s0 s1 s2 s3 s4 s5 s6 s7 s8 s9
  have sl := ha.lt
  clear ha
  go_wp2_with fail
  refine (takenOf_a s HES.out _ _ _ _ _ r V2 w.heap.size H4.out.2.2.1.size (HR.out.below H4.out.2.2.1) rr ms f HQ.out).mono ?_; rintro e w3 ⟨⟨lu, hv, wv, gv, nv, ov, rfl, ht, hm⟩, h5⟩
  obtain ⟨G0, u0, v0, G1, v1, G2, v2, G3, v3, G4, v4, rfl, rfl, rfl, rfl, rfl⟩ := ht.forms
  obtain ⟨⟨An, cn, kss, rfl, hkk⟩, hkl⟩ := id hm
  clear hkk hkl s0 s1 s2 s3 s4 s5 s6 s7 s8 s9 sl
  go_upto_region 4 with fail
  obtain ⟨V3, hV3⟩ : ∃ W, W = w3.alloc (Obj.cells #[.int .i64 rr.me, .int .i64 rr.kept.view, .int .i64 rr.kept.normal, .bool rr.kept.calm, .slice G0 u0 v0, .int .i64 rr.kept.commit, .slice G1 rr.have_.length v1, .slice G2 rr.wants.length v2, .slice G3 rr.gives.length v3, .slice G4 rr.given.length v4] 29) := ⟨_, rfl⟩
  rw [← hV3]
  have hl3 : Below w3.heap.size w3 V3 := by rw [hV3]; exact below_alloc _ _
  have hb3 : Blk V3 w3.heap.size 29 #[.int .i64 rr.me, .int .i64 rr.kept.view, .int .i64 rr.kept.normal, .bool rr.kept.calm, .slice G0 u0 v0, .int .i64 rr.kept.commit, .slice G1 rr.have_.length v1, .slice G2 rr.wants.length v2, .slice G3 rr.gives.length v3, .slice G4 rr.given.length v4] := by rw [hV3]; exact Blk.new _ _ _
  clear hV3
  have h6 := h5.trans (hl3.mono h5.size)
  have hS : Same [9, 3, 4, 24, 41] 0 V2 V3 := Same.below h6
  have H5 := Lib.hid (show IsRep V3 0 (.slice E0 m0 d0) (.slice E1 r.have_.length d1) (.slice E2 r.wants.length d2) (.slice E3 r.gives.length d3) (.slice E4 r.given.length d4) r ∧ Blk V3 w.heap.size 29 #[.int .i64 r.me, .int .i64 r.kept.view, .int .i64 r.kept.normal, .bool r.kept.calm, .slice A0 n0 c0, .int .i64 r.kept.commit, .slice A1 r.have_.length c1, .slice A2 r.wants.length c2, .slice A3 r.gives.length c3, .slice A4 r.given.length c4] ∧ Below w.heap.size w V3 ∧ Blk V3 w1.heap.size 29 #[.int .i64 r.me, .int .i64 r.kept.view, .int .i64 r.kept.normal, .bool r.kept.calm, .slice E0 m0 d0, .int .i64 r.kept.commit, .slice E1 r.have_.length d1, .slice E2 r.wants.length d2, .slice E3 r.gives.length d3, .slice E4 r.given.length d4] ∧ IsRep V3 0 (.slice F0 p0 q0) (.slice F1 rr.have_.length q1) (.slice F2 rr.wants.length q2) (.slice F3 rr.gives.length q3) (.slice F4 rr.given.length q4) rr ∧ IsRow 41 8 80 MsgE V3 0 (.slice Am ms.length cm) ms ∧ Blk V3 w2.heap.size 29 #[.int .i64 rr.me, .int .i64 rr.kept.view, .int .i64 rr.kept.normal, .bool rr.kept.calm, .slice F0 p0 q0, .int .i64 rr.kept.commit, .slice F1 rr.have_.length q1, .slice F2 rr.wants.length q2, .slice F3 rr.gives.length q3, .slice F4 rr.given.length q4] ∧ Blk V3 w3.heap.size 29 #[.int .i64 rr.me, .int .i64 rr.kept.view, .int .i64 rr.kept.normal, .bool rr.kept.calm, .slice G0 u0 v0, .int .i64 rr.kept.commit, .slice G1 rr.have_.length v1, .slice G2 rr.wants.length v2, .slice G3 rr.gives.length v3, .slice G4 rr.given.length v4] ∧ IsRep V3 0 (.slice G0 u0 v0) (.slice G1 rr.have_.length v1) (.slice G2 rr.wants.length v2) (.slice G3 rr.gives.length v3) (.slice G4 rr.given.length v4) rr ∧ IsRow 41 8 80 MsgE V3 0 (.slice An ms.length cn) ms from
    ⟨H4.out.1.below h6, H4.out.2.1.same h6, H4.out.2.2.1.trans (h6.mono H4.out.2.2.1.size), H4.out.2.2.2.1.same h6, H4.out.2.2.2.2.1.below h6, H4.out.2.2.2.2.2.1.same (Ts := [9, 41]) (by simp) (Same.below h6) (fun _ _ h => h.same (Ts := [9]) (by simp) (Same.below h6)), H4.out.2.2.2.2.2.2.same h6, hb3, ht.below hl3, hm.same (Ts := [9, 41]) (by simp) (Same.below hl3) (fun _ _ h => h.same (Ts := [9]) (by simp) (Same.below hl3))⟩)
  clear h5 h6 hS hl3 hb3 ht hm
  have hF := H5.out.2.2.2.2.2.2.1
  have hG := H5.out.2.2.2.2.2.2.2.1
  have s0 := hF.cell 0
  have s1 := hF.cell 1
  have s2 := hF.cell 2
  have s3 := hF.cell 3
  have s4 := hF.cell 4
  have s5 := hF.cell 5
  have s6 := hF.cell 6
  have s7 := hF.cell 7
  have s8 := hF.cell 8
  have s9 := hF.cell 9
  simp only [List.getElem?_toArray, List.getElem?_cons_zero, List.getElem?_cons_succ] at s0 s1 s2 s3 s4 s5 s6 s7 s8 s9
  have sl := hF.lt
  have t0 := hG.cell 0
  have t1 := hG.cell 1
  have t2 := hG.cell 2
  have t3 := hG.cell 3
  have t4 := hG.cell 4
  have t5 := hG.cell 5
  have t6 := hG.cell 6
  have t7 := hG.cell 7
  have t8 := hG.cell 8
  have t9 := hG.cell 9
  simp only [List.getElem?_toArray, List.getElem?_cons_zero, List.getElem?_cons_succ] at t0 t1 t2 t3 t4 t5 t6 t7 t8 t9
  have tl := hG.lt
  clear hF hG
  go_wp2_with fail
  refine (sameRep_t F0 p0 q0 F1 q1 F2 q2 F3 q3 F4 q4 G0 u0 v0 G1 v1 G2 v2 G3 v3 G4 v4 rr V3 0 0 H5.out.2.2.2.2.1 H5.out.2.2.2.2.2.2.2.2.1).mono ?_; rintro e w4 ⟨rfl, h7⟩
  have H6 := Lib.hid h7
  clear h7 s0 s1 s2 s3 s4 s5 s6 s7 s8 s9 sl t0 t1 t2 t3 t4 t5 t6 t7 t8 t9 tl
  go_wp2_with fail
  refine (sameMsgs_t (.slice Am ms.length cm) (.slice An ms.length cn) ms w4 0 0 (H5.out.2.2.2.2.2.1.same (Ts := [9, 41]) (by simp) (Same.below H6.out) (fun _ _ h => h.same (Ts := [9]) (by simp) (Same.below H6.out))) (H5.out.2.2.2.2.2.2.2.2.2.same (Ts := [9, 41]) (by simp) (Same.below H6.out) (fun _ _ h => h.same (Ts := [9]) (by simp) (Same.below H6.out)))).mono ?_; rintro e w5 ⟨rfl, h8⟩
  have h9 := H6.out.trans (h8.mono H6.out.size)
  have hA := H5.out.2.1.same h9
  have hE := H5.out.2.2.2.1.same h9
  have H7 := Lib.hid (And.intro (H5.out.1.below h9) (And.intro (HR.out.below (H5.out.2.2.1.trans (h9.mono H5.out.2.2.1.size))) (H5.out.2.2.1.trans (h9.mono H5.out.2.2.1.size))))
  have s0 := hA.cell 0
  have s1 := hA.cell 1
  have s2 := hA.cell 2
  have s3 := hA.cell 3
  have s4 := hA.cell 4
  have s5 := hA.cell 5
  have s6 := hA.cell 6
  have s7 := hA.cell 7
  have s8 := hA.cell 8
  have s9 := hA.cell 9
  simp only [List.getElem?_toArray, List.getElem?_cons_zero, List.getElem?_cons_succ] at s0 s1 s2 s3 s4 s5 s6 s7 s8 s9
  have sl := hA.lt
  have t0 := hE.cell 0
  have t1 := hE.cell 1
  have t2 := hE.cell 2
  have t3 := hE.cell 3
  have t4 := hE.cell 4
  have t5 := hE.cell 5
  have t6 := hE.cell 6
  have t7 := hE.cell 7
  have t8 := hE.cell 8
  have t9 := hE.cell 9
  simp only [List.getElem?_toArray, List.getElem?_cons_zero, List.getElem?_cons_succ] at t0 t1 t2 t3 t4 t5 t6 t7 t8 t9
  have tl := hE.lt
  clear hA hE h8 h9
  go_wp2_with fail
  refine (sameRep_t E0 m0 d0 E1 d1 E2 d2 E3 d3 E4 d4 A0 n0 c0 A1 c1 A2 c2 A3 c3 A4 c4 r w5 0 w.heap.size H7.out.1 H7.out.2.1).mono ?_; rintro e w6 ⟨rfl, h10⟩
  have H8 := Lib.hid (H7.out.2.2.trans (h10.mono H7.out.2.2.size))
  clear h10
  go_wp2
  go_ret
  exact ⟨by simp, H8.out⟩
theorem lawReplicaTakes_w (v : Value) (r : Scu.Replica) {w : World} (h : IsRepV w v r) (u : Value) (s : ByteArray) (hs : u = .string s ∧ s.size ≤ R47) (W : World) (hW : W = w) :
    Calls Try.prog 4 #[v, u] W fun e w' => e = .returned (.bool true) ∧ Below W.heap.size W w' := by
  subst hW
  obtain ⟨rfl, hs⟩ := hs
  obtain ⟨lv, hv, wv, gv, nv, rfl, hr⟩ := h
  obtain ⟨A0, n0, c0, A1, c1, A2, c2, A3, c3, A4, c4, rfl, rfl, rfl, rfl, rfl⟩ := hr.forms
  exact lawReplicaTakes_c A0 n0 c0 A1 c1 A2 c2 A3 c3 A4 c4 r s hs W hr
end Go.Proofs.Ytjbhkmadcjnbfaa
namespace Go.Proofs.Ytjbhkmadcjnbfaa.replicaTakesDone
open Go.ChangeShapes Go.WideShapes Go.ChangeAt Go.RowKit
open Go.ChangeMaps (open_string shut_string)
set_option linter.unusedVariables false
theorem own : ownKnob Try.prog.godebug = none := by kernel_rfl
theorem laidOut : laidOutB Try.prog = true := by kernel_rfl
set_option maxRecDepth 100000 in
theorem lifted (os : Os) (started : os.Started) (H : Type) (enc : TypeId × Value → H) :
    ReturnsInHanded {} Try.checked os 4 .any (Rows.replicaTakesSpec.pre6 enc Try.prog Try.f4 Rows.replicaTakesRow.domain false) (Rows.replicaTakesSpec.post enc Try.prog Try.f4 false true false false) := by
  refine returnsInHanded_of_change_sized (C := Try.checked) own started (by kernel_rfl) Try.func4
    (ChangeSpec.witness6 (enc := enc) (C := Try.checked) false ⟨#[], #[.agg #[.int .i64 0, .int .i64 0, .int .i64 0, .bool false, .slice none 0 0, .int .i64 0, .slice none 0 0, .slice none 0 0, .slice none 0 0, .slice none 0 0], .string ByteArray.empty], []⟩ 8 (by kernel_rfl) (by kernel_rfl) (by kernel_rfl) (by kernel_rfl)) ?_
  intro W base args ds gs before hval0 hW hcnd hsz _
  have hwt0 : ∀ (j : Nat) (t : TypeId) (d : DataW H), (Try.f4.params.toList ++ Rows.replicaTakesSpec.plain.varTypes Try.prog)[j]? = some t → (ds ++ gs)[j]? = some d → ∀ k ∈ d.weights Try.prog t, k ≤ reachBytes := fun j t d ht hd k hk => by
    have := List.all_eq_true.1 hsz k (DataW.weights_mem_each ht hd k hk)
    simpa using this
  clear hsz
  have hwt := hwt0
  rw [Try.params4] at hwt
  have hval : ∀ (j : Nat) t v, Try.f4.params[j]? = some t → args[j]? = some v → Value.okWide Try.prog W .any base t v := hval0
  have hW' := hW
  obtain ⟨p, q, hA0, hV, rfl, hfz, hnd⟩ := hW
  have hA : DataW.TrodAll enc Try.prog W 0 (fun _ => true) true Try.f4.params.toList args.toList ds p := hA0
  rw [Try.params4] at hA hval
  obtain ⟨v0, vs0, d0, ds0, p0, q0, hargs, rfl, rfl, h0, r0⟩ := trodAll_cons hA
  obtain ⟨v1, vs1, d1, ds1, p1, q1, rfl, rfl, rfl, h1, r1⟩ := trodAll_cons r0
  obtain ⟨rfl, rfl, rfl⟩ := trodAll_nil r1
  obtain rfl : args = #[v0, v1] := by cases args; simp_all
  obtain ⟨rfl, rfl⟩ := trodVars_none hV
  have k0 := h0
  have lt0 : ∀ x ∈ p0, x.block < W.heap.size := by obtain ⟨m, hm⟩ := k0; exact DataW.trod_lt m _ _ _ hm
  obtain ⟨a0, w0⟩ := openS_Replica (hval 0 29 v0 rfl rfl) h0 (hwt 0 29 d0 rfl rfl)
  have k1 := h1
  have lt1 : ∀ x ∈ p1, x.block < W.heap.size := by obtain ⟨m, hm⟩ := k1; exact DataW.trod_lt m _ _ _ hm
  obtain ⟨a1, w1⟩ := openS_stringS (hval 1 9 v1 rfl rfl) h1 (hwt 1 9 d1 rfl rfl)
  clear hA0 hval0
  refine (lawReplicaTakes_w v0 a0 w0 v1 a1 w1 W rfl).mono fun e W' ⟨he, bel⟩ => ?_
  subst he
  exact ⟨_, rfl, _, _, _, [], _, [], hW', trodAll_mk1 (shut_bool Try.underlying4 _), (trodAll_cons_mk (Below.trod laidOut (by kernel_rfl) (of_decide_eq_true (by kernel_rfl)) k0 bel lt0) (trodAll_cons_mk (Below.trod laidOut (by kernel_rfl) (of_decide_eq_true (by kernel_rfl)) k1 bel lt1) trodAll_mk0)), rfl, bel.frame _, fun h => by cases h⟩
theorem over : Rows.replicaTakesRow.holds Try.pinned (OpenSpec.ofChange Rows.replicaTakesSpec) :=
  OpenClaim.holds_of_wide 4 Try.f4 rfl rfl rfl rfl rfl rfl rfl ⟨rfl, rfl, rfl, rfl, rfl⟩ rfl rfl rfl rfl rfl (by kernel_rfl) Try.func4 (facts_of rfl rfl rfl rfl rfl rfl (by as_aux_lemma => kernel_rfl) (by as_aux_lemma => kernel_rfl) (by as_aux_lemma => kernel_rfl) (by as_aux_lemma => kernel_rfl) (by as_aux_lemma => kernel_rfl) (by as_aux_lemma => kernel_rfl) (by as_aux_lemma => kernel_rfl))
    (of_decide_eq_true (by kernel_rfl)) (by unfold Func.isWrapper; first | (rw [if_pos (by decide +kernel)]; kernel_rfl) | (rw [if_neg (by decide +kernel)]; exact ⟨rfl, rfl⟩))
    (fun os started H enc _ => lifted os started H enc)
theorem proved : Rows.ReplicaTakesSaid := over
end Go.Proofs.Ytjbhkmadcjnbfaa.replicaTakesDone

/- The law ReplicaCopies, walked. -/
import Derived.Test.YtioajgcbchdpeaaRepF
import Derived.Test.YtioajgcbchdpeaaSamR
namespace Go.Proofs.Ytioajgcbchdpeaa
open Go.RowKit
set_option maxHeartbeats 1000000
set_option maxRecDepth 100000

theorem IsRep.forms {w : World} {B : Nat} {lv hv wv gv nv : Value} {r : Scu.Replica} (h : IsRep w B lv hv wv gv nv r) :
    ∃ A0 n0 c0 A1 c1 A2 c2 A3 c3 A4 c4, lv = .slice A0 n0 c0 ∧ hv = .slice A1 r.have_.length c1 ∧ wv = .slice A2 r.wants.length c2 ∧ gv = .slice A3 r.gives.length c3 ∧ nv = .slice A4 r.given.length c4 := by
  obtain ⟨A0, n0, c0, e0⟩ := h.log.form
  obtain ⟨⟨A1, c1, e1, _⟩, _⟩ := h.have_
  obtain ⟨⟨A2, c2, e2, _⟩, _⟩ := h.wants
  obtain ⟨⟨A3, c3, _, e3, _⟩, _⟩ := h.gives
  obtain ⟨⟨A4, c4, e4, _⟩, _⟩ := h.given
  exact ⟨A0, n0, c0, A1, c1, A2, c2, A3, c3, A4, c4, e0, e1, e2, e3, e4⟩
theorem lawReplicaCopies_c (A0 : Option Addr) (n0 c0 : Nat) (A1 : Option Addr) (c1 : Nat) (A2 : Option Addr) (c2 : Nat) (A3 : Option Addr) (c3 : Nat) (A4 : Option Addr) (c4 : Nat) (r : Scu.Replica) (w : World) (B : Nat)
    (hr : IsRep w B (.slice A0 n0 c0) (.slice A1 r.have_.length c1) (.slice A2 r.wants.length c2) (.slice A3 r.gives.length c3) (.slice A4 r.given.length c4) r) :
    Calls Try.prog 4 #[.agg #[.int .i64 r.me, .int .i64 r.kept.view, .int .i64 r.kept.normal, .bool r.kept.calm, .slice A0 n0 c0, .int .i64 r.kept.commit, .slice A1 r.have_.length c1, .slice A2 r.wants.length c2, .slice A3 r.gives.length c3, .slice A4 r.given.length c4]] w fun e w' => e = .returned (.bool true) ∧ Below w.heap.size w w' := by
  have HR := Lib.hid hr
  clear hr
  go_enter Try.func4, Try.ntmps4
  go_wp2_with fail
  have h0 := below_alloc w (Obj.cells #[.int .i64 r.me, .int .i64 r.kept.view, .int .i64 r.kept.normal, .bool r.kept.calm, .slice A0 n0 c0, .int .i64 r.kept.commit, .slice A1 r.have_.length c1, .slice A2 r.wants.length c2, .slice A3 r.gives.length c3, .slice A4 r.given.length c4] 32)
  refine (repCopy_c A0 n0 c0 A1 r.have_.length c1 A2 r.wants.length c2 A3 r.gives.length c3 A4 r.given.length c4 r _ B (HR.out.below h0)).mono ?_; rintro e w1 ⟨⟨lu, hv, wv, gv, nv, rfl, hu⟩, h1⟩
  obtain ⟨E0, m0, d0, E1, d1, E2, d2, E3, d3, E4, d4, rfl, rfl, rfl, rfl, rfl⟩ := hu.is.forms
  have hb : Blk w1 w.heap.size 32 #[.int .i64 r.me, .int .i64 r.kept.view, .int .i64 r.kept.normal, .bool r.kept.calm, .slice A0 n0 c0, .int .i64 r.kept.commit, .slice A1 r.have_.length c1, .slice A2 r.wants.length c2, .slice A3 r.gives.length c3, .slice A4 r.given.length c4] := (Blk.new w _ _).same h1
  have h01 := h0.trans (h1.mono h0.size)
  have s0 := hb.cell 0
  have s1 := hb.cell 1
  have s2 := hb.cell 2
  have s3 := hb.cell 3
  have s4 := hb.cell 4
  have s5 := hb.cell 5
  have s6 := hb.cell 6
  have s7 := hb.cell 7
  have s8 := hb.cell 8
  have s9 := hb.cell 9
  simp only [List.getElem?_toArray, List.getElem?_cons_zero, List.getElem?_cons_succ] at s0 s1 s2 s3 s4 s5 s6 s7 s8 s9
  have sl := hb.lt
  have HU := Lib.hid hu
  have H1 := Lib.hid h01
  clear hb hu h0 h1 h01
  go_wp2_with fail
  have h2 := below_alloc w1 (Obj.cells #[.int .i64 r.me, .int .i64 r.kept.view, .int .i64 r.kept.normal, .bool r.kept.calm, .slice E0 m0 d0, .int .i64 r.kept.commit, .slice E1 r.have_.length d1, .slice E2 r.wants.length d2, .slice E3 r.gives.length d3, .slice E4 r.given.length d4] 32)
  refine (sameRep_t E0 m0 d0 E1 d1 E2 d2 E3 d3 E4 d4 A0 n0 c0 A1 c1 A2 c2 A3 c3 A4 c4 r _ 0 B (HU.out.is.below h2) (HR.out.below (H1.out.trans (h2.mono H1.out.size)))).mono ?_; rintro e w2 ⟨rfl, h3⟩
  have h4 := H1.out.trans ((h2.trans (h3.mono h2.size)).mono H1.out.size)
  go_wp2
  go_ret
  exact ⟨rfl, h4⟩
theorem lawReplicaCopies_w (v : Value) (r : Scu.Replica) {w : World} (h : IsRepV w v r) (W : World) (hW : W = w) :
    Calls Try.prog 4 #[v] W fun e w' => e = .returned (.bool true) ∧ Below W.heap.size W w' := by
  subst hW
  obtain ⟨lv, hv, wv, gv, nv, rfl, hr⟩ := h
  obtain ⟨A0, n0, c0, A1, c1, A2, c2, A3, c3, A4, c4, rfl, rfl, rfl, rfl, rfl⟩ := hr.forms
  exact lawReplicaCopies_c A0 n0 c0 A1 c1 A2 c2 A3 c3 A4 c4 r W _ hr
end Go.Proofs.Ytioajgcbchdpeaa

/- Part 27: words and walks under the law 'LeadersLead'. -/
import Derived.Test.YtfpiembhlgcelaaDoorLed3
import Derived.Test.YtfpiembhlgcelaaDoorLed26
import Derived.Test.YtfpiembhlgcelaaDoorLed23
import Derived.Test.YtfpiembhlgcelaaDoorLed24
import Derived.Test.YtfpiembhlgcelaaDoorLed21
import Derived.Deep.MidRow
set_option linter.unusedVariables false
set_option linter.unusedSimpArgs false
/- The law LeadersLead, walked (printed by gen_ldw.py). -/
namespace Go.Proofs.YtfpiembhlgcelaaDoor
set_option linter.unusedVariables false
set_option linter.unusedSimpArgs false
open Go.RowKit
set_option maxHeartbeats 16000000
set_option maxRecDepth 100000

theorem joined {G R : Prop} (h : G → R) (g : G) : R := h g
def RepBox (w : World) (g : Nat) (r : Scu.Replica) : Prop := ∃ lu hv wv gv nv, Blk w g 81 (repV r lu hv wv gv nv).toArray ∧ IsRep w 0 lu hv wv gv nv r
theorem RepBox.below {w w' : World} {g : Nat} {r : Scu.Replica} (h : RepBox w g r) (hb : Below w.heap.size w w') : RepBox w' g r := by
  obtain ⟨lu, hv, wv, gv, nv, h1, h2⟩ := h
  exact ⟨lu, hv, wv, gv, nv, h1.same hb, h2.below hb⟩
theorem RepBox.get {w : World} {g : Nat} {r : Scu.Replica} (h : RepBox w g r) : ∃ F0 n0 q0 F1 q1 F2 q2 F3 q3 F4 q4, IsRep w 0 (.slice F0 n0 q0) (.slice F1 r.have_.length q1) (.slice F2 r.wants.length q2) (.slice F3 r.gives.length q3) (.slice F4 r.given.length q4) r ∧ g < w.heap.size ∧
    w.cell? ⟨g, 0, none⟩ = some (.int .i64 r.me) ∧ w.cell? ⟨g, 1, none⟩ = some (.int .i64 r.kept.view) ∧ w.cell? ⟨g, 2, none⟩ = some (.int .i64 r.kept.normal) ∧ w.cell? ⟨g, 3, none⟩ = some (.bool r.kept.calm) ∧ w.cell? ⟨g, 4, none⟩ = some (.slice F0 n0 q0) ∧ w.cell? ⟨g, 5, none⟩ = some (.int .i64 r.kept.commit) ∧
    w.cell? ⟨g, 6, none⟩ = some (.slice F1 r.have_.length q1) ∧ w.cell? ⟨g, 7, none⟩ = some (.slice F2 r.wants.length q2) ∧ w.cell? ⟨g, 8, none⟩ = some (.slice F3 r.gives.length q3) ∧ w.cell? ⟨g, 9, none⟩ = some (.slice F4 r.given.length q4) := by
  obtain ⟨lu, hv, wv, gv, nv, h1, h2⟩ := h
  obtain ⟨F0, n0, q0, F1, q1, F2, q2, F3, q3, F4, q4, rfl, rfl, rfl, rfl, rfl⟩ := h2.forms
  exact ⟨F0, n0, q0, F1, q1, F2, q2, F3, q3, F4, q4, h2, h1.lt, h1.cell 0, h1.cell 1, h1.cell 2, h1.cell 3, h1.cell 4, h1.cell 5, h1.cell 6, h1.cell 7, h1.cell 8, h1.cell 9⟩
theorem cells_far {g : Nat} {q : Addr} (h : q.block ≠ g) : ∀ (vs : List Value) (o : Nat) (w : World), (w.setCells g o vs).cell? q = w.cell? q
  | [], _, _ => rfl
  | v :: r, o, w => (cells_far h r (o + 1) _).trans (cell_far1 h)
theorem store_rep {W : World} {g : Nat} {r0 r : Scu.Replica} {lu hv wv gv nv : Value} (hB : RepBox W g r0) (hr : IsRep W 0 lu hv wv gv nv r) : RepBox (W.setCells g 0 (repV r lu hv wv gv nv)) g r ∧ Same [9, 3, 4, 64, 89] 0 W (W.setCells g 0 (repV r lu hv wv gv nv)) ∧
    ∀ g' r', g' ≠ g → RepBox W g' r' → RepBox (W.setCells g 0 (repV r lu hv wv gv nv)) g' r' := by
  obtain ⟨lu0, hv0, wv0, gv0, nv0, h1, h2⟩ := hB
  have hs : Same [9, 3, 4, 64, 89] 0 W (W.setCells g 0 (repV r lu hv wv gv nv)) := Same.sets _ 0 W _ h1 (by decide)
  refine ⟨⟨lu, hv, wv, gv, nv, blk_all h1 rfl, hr.same (hs.mono (by simp) (Nat.le_refl _))⟩, hs, fun g' r' hne h => ?_⟩
  obtain ⟨lu1, hv1, wv1, gv1, nv1, h3, h4⟩ := h
  exact ⟨lu1, hv1, wv1, gv1, nv1, blk_far_sets hne _ 0 W h3, h4.same (hs.mono (by simp) (Nat.le_refl _))⟩
theorem msgs_at {w : World} {A : Option Addr} {n c : Nat} {ms : List Scu.Message} (h : IsRow 89 8 80 MsgE w 0 (.slice A n c) ms) {k : Nat} (hk : k < ms.length) {m : Scu.Message} (e : ms[k] = m) :
    ∃ g o X nx cx, A = some ⟨g, o, none⟩ ∧ g < w.heap.size ∧ IsStrs w 0 (.slice X nx cx) m.log ∧ w.cell? ⟨g, o + k * 8, none⟩ = some (.int .i64 m.kind) ∧ w.cell? ⟨g, o + k * 8 + 1, none⟩ = some (.int .i64 m.from_) ∧ w.cell? ⟨g, o + k * 8 + 2, none⟩ = some (.int .i64 m.to) ∧ w.cell? ⟨g, o + k * 8 + 3, none⟩ = some (.int .i64 m.view) ∧
      w.cell? ⟨g, o + k * 8 + 4, none⟩ = some (.int .i64 m.normal) ∧ w.cell? ⟨g, o + k * 8 + 5, none⟩ = some (.int .i64 m.commit) ∧ w.cell? ⟨g, o + k * 8 + 6, none⟩ = some (.int .i64 m.n) ∧ w.cell? ⟨g, o + k * 8 + 7, none⟩ = some (.slice X nx cx) := by
  obtain ⟨⟨A', c', css2, e1, _, h2, h3, hrd, h4⟩, _⟩ := h
  cases e1
  obtain ⟨g, o, cs1, rfl, hg, _, hcell, xv, hcs, hxv⟩ := row_get h2 h3 (by decide) hrd h4 hk
  subst hcs
  rw [e] at hcell hxv
  obtain ⟨X, nx, cx, rfl⟩ := hxv.form
  exact ⟨g, o, X, nx, cx, rfl, hg, hxv, hcell 0 _ rfl, hcell 1 _ rfl, hcell 2 _ rfl, hcell 3 _ rfl, hcell 4 _ rfl, hcell 5 _ rfl, hcell 6 _ rfl, hcell 7 _ rfl⟩
/-- What the rounds hold. -/
structure LeadW (w W : World) (ga go gb : Nat) (j : Int) (Ae : Option Addr) (ce : Nat) (es : List Scu.Str) (k : Nat) : Prop where
  a : ∃ a, RepBox W ga a ∧ Scu.LeadA a (es.take k)
  b : ∃ b, RepBox W gb b ∧ Scu.FollowB b j (es.take k)
  o : Blk W go 3 #[.int .i64 j]
  e : IsStrs W 0 (.slice Ae es.length ce) es
  low : Below w.heap.size w W
theorem lead_idx {j : Int} (hj : j = 1 ∨ j = 2) (k : Nat) (L : List Scu.Str) (ms : List Scu.Message) (hms : [Scu.leadMsg 1 k L, Scu.leadMsg 2 k L] = ms) : ∃ kk : Nat, idxI (fun m : Scu.Message => decide (m.to = j)) ms = kk ∧ ∃ h : kk < ms.length, ms[kk] = Scu.leadMsg j k L := by
  subst hms
  rcases hj with rfl | rfl
  · exact ⟨0, rfl, by simp, rfl⟩
  · exact ⟨1, rfl, by simp, rfl⟩

theorem lawLeadersLead_c (v : Value) (l : List Scu.Raw) (n : Int) (hn : InI n) (w : World) (h : IsRaws w w.heap.size v l) (ht : Tab w) :
    Calls Tryd.prog 8 #[v, .int .i64 n] w fun e w' => e = .returned (.bool true) ∧ Below w.heap.size w w' := by
  obtain ⟨Al, cl, rfl, hll⟩ := h.form'
  have hp := Scu.picked_lt (n := n) (many := 2) (by decide)
  have KP := Lib.hid (fun W => picked_c n 2 hn (by decide) (by decide) W)
  obtain ⟨p, hpe⟩ : ∃ p, Scu.picked n 2 = p := ⟨_, rfl⟩
  rw [hpe] at hp KP
  obtain ⟨j, hj1⟩ : ∃ j : Int, 1 + p = j := ⟨_, rfl⟩
  have hj : j = 1 ∨ j = 2 := by omega
  have hja : (1 : Int) ≤ j := by omega
  have hjb : j ≤ 2 := by omega
  have hjw : IntKind.i64.wrap (1 + p) = j := by rw [IntWalk.i64_in _ (by omega)]; exact hj1
  obtain ⟨a0, ha0, hla⟩ := Scu.lead_new
  obtain ⟨b0, hb0, hfb⟩ := Scu.follow_new hj
  have HA0 := Lib.hid (And.intro ha0 hla)
  have HB0 := Lib.hid (And.intro hb0 hfb)
  have HL := Lib.hid h
  have HT := Lib.hid ht
  have HJ := Lib.hid hj
  clear h ht ha0 hla hb0 hfb hn hpe hp hj
  go_enter Tryd.func8, Tryd.ntmps8
  go_wp2_with fail
  refine (repNew_n none 0 0 0 ⟨0, 0, true, [], 0⟩ w 0 IsStrs.nil_ a0 0 HA0.out.1).mono ?_; rintro e w1 ⟨⟨lu, hv, wv, gv, nv, rfl, hrp⟩, h1⟩
  obtain ⟨F0, Fn, Fc0, F1, Fc1, F2, Fc2, F3, Fc3, F4, Fc4, rfl, rfl, rfl, rfl, rfl⟩ := hrp.forms
  go_upto_region 2 with fail
  have hal := below_alloc w1 (Obj.cells #[.int .i64 a0.me, .int .i64 a0.kept.view, .int .i64 a0.kept.normal, .bool a0.kept.calm, .slice F0 Fn Fc0, .int .i64 a0.kept.commit, .slice F1 a0.have_.length Fc1, .slice F2 a0.wants.length Fc2, .slice F3 a0.gives.length Fc3, .slice F4 a0.given.length Fc4] 81)
  have hbx : RepBox (w1.alloc (Obj.cells #[.int .i64 a0.me, .int .i64 a0.kept.view, .int .i64 a0.kept.normal, .bool a0.kept.calm, .slice F0 Fn Fc0, .int .i64 a0.kept.commit, .slice F1 a0.have_.length Fc1, .slice F2 a0.wants.length Fc2, .slice F3 a0.gives.length Fc3, .slice F4 a0.given.length Fc4] 81)) w1.heap.size a0 := ⟨_, _, _, _, _, Blk.new w1 _ _, hrp.below hal⟩
  have hlo := h1.trans (hal.mono h1.size)
  obtain ⟨Wa, hWa⟩ : ∃ W, W = w1.alloc (Obj.cells #[.int .i64 a0.me, .int .i64 a0.kept.view, .int .i64 a0.kept.normal, .bool a0.kept.calm, .slice F0 Fn Fc0, .int .i64 a0.kept.commit, .slice F1 a0.have_.length Fc1, .slice F2 a0.wants.length Fc2, .slice F3 a0.gives.length Fc3, .slice F4 a0.given.length Fc4] 81) := ⟨_, rfl⟩
  obtain ⟨ga, hga⟩ : ∃ g, w1.heap.size = g := ⟨_, rfl⟩
  have hgw : w.heap.size ≤ ga := by rw [← hga]; exact h1.size
  rw [← hWa, hga] at hbx
  rw [← hWa] at hlo
  rw [← hWa, hga]
  have HBA := Lib.hid (And.intro hbx hlo)
  have hgal : ga < Wa.heap.size := by obtain ⟨_, _, _, _, _, hh, _⟩ := hbx; exact hh.lt
  clear hWa hga hbx hlo hal hrp h1
  go_wp2_with fail
  refine (KP.out _).mono ?_; rintro e w' ⟨rfl, rfl⟩
  clear KP
  go_upto_region 3 with fail
  have hal := below_alloc Wa (Obj.cells #[.int .i64 j] 3)
  have hbo := Blk.new Wa 3 #[.int .i64 j]
  have hbx := HBA.out.1.below hal
  have hlo := HBA.out.2.trans (hal.mono HBA.out.2.size)
  try rw [IntWalk.wrap64_in j (by omega)]
  try rw [hj1]
  obtain ⟨Wb, hWb⟩ : ∃ W, W = Wa.alloc (Obj.cells #[.int .i64 j] 3) := ⟨_, rfl⟩
  obtain ⟨go, hgo⟩ : ∃ g, Wa.heap.size = g := ⟨_, rfl⟩
  rw [← hWb, hgo] at hbo
  rw [← hWb] at hbx hlo
  rw [← hWb, hgo]
  rw [hgo] at hgal
  have u0 := hbo.cell 0
  simp only [List.getElem?_toArray, List.getElem?_cons_zero, List.getElem?_cons_succ] at u0
  have HBB := Lib.hid (And.intro hbx (And.intro hbo hlo))
  have hgol : go < Wb.heap.size := hbo.lt
  clear hWb hgo hbx hbo hlo hal HBA
  go_wp2_with fail
  refine (repNew_n none 0 0 j ⟨0, 0, true, [], 0⟩ Wb 0 IsStrs.nil_ b0 0 HB0.out.1).mono ?_; rintro e w1 ⟨⟨lu, hv, wv, gv, nv, rfl, hrp⟩, h1⟩
  obtain ⟨G0, Gn, Gc0, G1, Gc1, G2, Gc2, G3, Gc3, G4, Gc4, rfl, rfl, rfl, rfl, rfl⟩ := hrp.forms
  go_upto_region 4 with fail
  have hal := below_alloc w1 (Obj.cells #[.int .i64 b0.me, .int .i64 b0.kept.view, .int .i64 b0.kept.normal, .bool b0.kept.calm, .slice G0 Gn Gc0, .int .i64 b0.kept.commit, .slice G1 b0.have_.length Gc1, .slice G2 b0.wants.length Gc2, .slice G3 b0.gives.length Gc3, .slice G4 b0.given.length Gc4] 81)
  have hbb : RepBox (w1.alloc (Obj.cells #[.int .i64 b0.me, .int .i64 b0.kept.view, .int .i64 b0.kept.normal, .bool b0.kept.calm, .slice G0 Gn Gc0, .int .i64 b0.kept.commit, .slice G1 b0.have_.length Gc1, .slice G2 b0.wants.length Gc2, .slice G3 b0.gives.length Gc3, .slice G4 b0.given.length Gc4] 81)) w1.heap.size b0 := ⟨_, _, _, _, _, Blk.new w1 _ _, hrp.below hal⟩
  have h1a := h1.trans (hal.mono h1.size)
  have hbx := HBB.out.1.below h1a
  have hbo := HBB.out.2.1.same h1a
  have hlo := HBB.out.2.2.trans (h1a.mono HBB.out.2.2.size)
  have hgg := h1.size
  obtain ⟨Wc, hWc⟩ : ∃ W, W = w1.alloc (Obj.cells #[.int .i64 b0.me, .int .i64 b0.kept.view, .int .i64 b0.kept.normal, .bool b0.kept.calm, .slice G0 Gn Gc0, .int .i64 b0.kept.commit, .slice G1 b0.have_.length Gc1, .slice G2 b0.wants.length Gc2, .slice G3 b0.gives.length Gc3, .slice G4 b0.given.length Gc4] 81) := ⟨_, rfl⟩
  obtain ⟨gb, hgb⟩ : ∃ g, w1.heap.size = g := ⟨_, rfl⟩
  rw [← hWc, hgb] at hbb
  rw [← hWc] at hbx hbo hlo
  rw [← hWc, hgb]
  rw [hgb] at hgg
  have hne1 : ga ≠ go := by omega
  have hne2 : ga ≠ gb := by omega
  have hne3 : go ≠ gb := by omega
  have hgwb : w.heap.size ≤ gb := by omega
  have HBC := Lib.hid (And.intro hbx (And.intro hbo (And.intro hbb hlo)))
  clear hWc hgb hgg hbx hbo hbb hlo hal HBB h1 h1a hrp u0 hgol hgal
  go_wp2_with fail
  refine (requests_c _ l 12 Wc w.heap.size HBC.out.2.2.2.size (HL.out.below HBC.out.2.2.2) (HT.out.below HBC.out.2.2.2) (by decide)).mono ?_; rintro e w1 ⟨⟨A, c, css, rfl, ho⟩, b1⟩
  have hq : IsReqs w1 0 (.slice A (Scu.requests l 12).length c) (Scu.requests l 12) := ho.is
  have hok := Scu.requests_ok l 12 (by decide)
  have hlen : (Scu.requests l 12).length ≤ 12 := by rw [Scu.requests_length]; omega
  obtain ⟨qs, hqs⟩ : ∃ qs, Scu.requests l 12 = qs := ⟨_, rfl⟩
  rw [hqs] at hq hok hlen ⊢
  have hents := Scu.entries_ok hok
  have hesz := Scu.entries_size hok
  have hel : (Scu.entries qs).length ≤ 12 := by rw [Scu.entries_length]; exact hlen
  have HOK := Lib.hid hok
  have HQ := Lib.hid hq
  clear hqs ho css hq hok HL HT
  go_wp2_with fail
  refine (entries_c _ qs w1 HQ.out HOK.out (by omega)).mono ?_; rintro e w2 ⟨⟨Ae, ce, rfl, he⟩, b2⟩
  obtain ⟨es, hes⟩ : ∃ es, Scu.entries qs = es := ⟨_, rfl⟩
  rw [hes] at he hents hesz hel ⊢
  have b12 := b1.trans (b2.mono b1.size)
  have HIN := Lib.hid (show Scu.AllIn es from fun e he => hents e he)
  have HSZ := Lib.hid hesz
  have HST := Lib.hid (show LeadW w w2 ga go gb j Ae ce es 0 from ⟨⟨a0, HBC.out.1.below b12, HA0.out.2⟩, ⟨b0, HBC.out.2.2.1.below b12, HB0.out.2⟩, HBC.out.2.1.same b12, he, HBC.out.2.2.2.trans (b12.mono HBC.out.2.2.2.size)⟩)
  clear he hents hesz b1 b2 b12 hes HBC HQ HOK HA0 HB0 hlen
  go_wp2_with fail
  go_loopw [46] (fun i wr => ∃ k : Nat, k ≤ es.length ∧ i = .int .i64 k ∧ Hid (LeadW w wr ga go gb j Ae ce es k)) (fun i _ => es.length - (intOf i).toNat)
  case atStart => exact ⟨0, Nat.zero_le _, rfl, HST⟩
  case round =>
    obtain ⟨k, hk, rfl, HK⟩ := hrel
    by_cases hlt : k < es.length
    · have hlt' : (k : Int) < (es.length : Int) := by omega
      obtain ⟨a, hra, hla⟩ := HK.out.a
      obtain ⟨b, hrb, hfb⟩ := HK.out.b
      obtain ⟨ge, oe, rfl, hge, hce⟩ : ∃ g o, Ae = some ⟨g, o, none⟩ ∧ g < wr.heap.size ∧ wr.cell? ⟨g, o + k, none⟩ = some (.string es[k]) := by
        obtain ⟨A, c, e, _, hr⟩ := HK.out.e.ex
        cases e
        exact str_get hr hlt
      have hin : Scu.AllIn (es.take k) := fun e he => HIN.out e (List.mem_of_mem_take he)
      have hs0 := HIN.out _ (List.getElem_mem hlt)
      have hsz := HSZ.out _ (List.getElem_mem hlt)
      have htk := List.take_succ_eq_append_getElem hlt
      obtain ⟨s, hs⟩ : ∃ s, es[k] = s := ⟨_, rfl⟩
      rw [hs] at hce hs0 hsz htk
      obtain ⟨L, hL⟩ : ∃ L, es.take k = L := ⟨_, rfl⟩
      have hLl : L.length = k := by rw [← hL, List.length_take]; omega
      rw [hL] at hla hfb hin htk
      have hL60 : L.length < 60 := by omega
      obtain ⟨x, hx, hxm, hxk, hxf⟩ := Scu.lead_take hla hs0 hin hL60
      obtain ⟨y, hy, hfy⟩ := Scu.follow_hear HJ.out hfb hs0 hin hL60
      obtain ⟨z, on, hz, hon, hzc, hlz⟩ := Scu.lead_hear HJ.out hxm hxk hxf hs0 hin hL60
      obtain ⟨ms, hms⟩ : ∃ ms, [Scu.leadMsg 1 L.length (L ++ [s]), Scu.leadMsg 2 L.length (L ++ [s])] = ms := ⟨_, rfl⟩
      obtain ⟨kk, hkk, hkl, hkm⟩ := lead_idx HJ.out L.length (L ++ [s]) ms hms
      have hml : (ms.length : Int) = 2 := by rw [← hms]; rfl
      obtain ⟨bk, hbk⟩ : ∃ bk, [Scu.hasMsg j (L.length + 1)] = bk := ⟨_, rfl⟩
      have hbl : (bk.length : Int) = 1 := by rw [← hbk]; rfl
      have hb0 : ∃ h : 0 < bk.length, bk[0] = Scu.hasMsg j (L.length + 1) := by subst hbk; exact ⟨by simp, rfl⟩
      have honl : (on.length : Int) = 2 := by rw [hon]; rfl
      have hxc : x.kept.commit = (k : Int) := by rw [hxk, ← hLl]
      have hzc' : z.kept.commit = (k : Int) + 1 := by rw [hzc, hLl]; omega
      rw [hms] at hx
      rw [hbk] at hy
      have HXC := Lib.hid hxc
      have HZC := Lib.hid hzc'
      clear hxc hzc'
      have HX := Lib.hid hx
      have HY := Lib.hid (And.intro hy hfy)
      have HZ := Lib.hid (And.intro hz hlz)
      have HTK := Lib.hid htk
      have HKK := Lib.hid (And.intro hkk hkm)
      have HBK := Lib.hid hb0
      have HLL := Lib.hid hLl
      have HS17 := Lib.hid hsz

      have hkw : IntKind.i64.wrap ((k : Int) + 1) = (k : Int) + 1 := IntWalk.i64_in _ (by omega)
      have HKE := Lib.hid (show ((k + 1 : Nat) : Int) = (k : Int) + 1 by omega)
      clear hx hy hz hfy hlz htk hkk hkm hb0 hbk hms hla hfb hin hs0 hsz hL hLl hs hxk hxf hxm hzc hon hL60
      obtain ⟨P0, Pn, Pc0, P1, Pc1, P2, Pc2, P3, Pc3, P4, Pc4, hiP, hlP, p0, p1, p2, p3, p4, p5, p6, p7, p8, p9⟩ := (hra).get
      have hGA := Lib.hid (And.intro hlP (show gb < wr.heap.size by obtain ⟨_, _, _, _, _, hh, _⟩ := hrb; exact hh.lt))
      have HPR := Lib.hid (And.intro hiP hrb)
      clear hiP hra hrb
      go_wp2_with fail
      refine (take_n _ _ _ _ _ a s (by have := HS17.out; unfold R47; omega) wr 0 HPR.out.1 x ms 0 HX.out).mono ?_; rintro e w3 ⟨⟨E0, En, Ec0, E1, Ec1, E2, Ec2, E3, Ec3, E4, Ec4, Ao, co, rfl, hrp, hms, -⟩, h3⟩
      go_upto_region 10 with fail
      have hal := below_alloc w3 (Obj.cells #[.int .i64 x.me, .int .i64 x.kept.view, .int .i64 x.kept.normal, .bool x.kept.calm, .slice E0 En Ec0, .int .i64 x.kept.commit, .slice E1 x.have_.length Ec1, .slice E2 x.wants.length Ec2, .slice E3 x.gives.length Ec3, .slice E4 x.given.length Ec4] 81)
      have hbx : RepBox (w3.alloc (Obj.cells #[.int .i64 x.me, .int .i64 x.kept.view, .int .i64 x.kept.normal, .bool x.kept.calm, .slice E0 En Ec0, .int .i64 x.kept.commit, .slice E1 x.have_.length Ec1, .slice E2 x.wants.length Ec2, .slice E3 x.gives.length Ec3, .slice E4 x.given.length Ec4] 81)) w3.heap.size x := ⟨_, _, _, _, _, Blk.new w3 _ _, hrp.below hal⟩
      have hms := IsMs.below hms hal
      have hlo := h3.trans (hal.mono h3.size)
      obtain ⟨W1, hW1⟩ : ∃ W, W = w3.alloc (Obj.cells #[.int .i64 x.me, .int .i64 x.kept.view, .int .i64 x.kept.normal, .bool x.kept.calm, .slice E0 En Ec0, .int .i64 x.kept.commit, .slice E1 x.have_.length Ec1, .slice E2 x.wants.length Ec2, .slice E3 x.gives.length Ec3, .slice E4 x.given.length Ec4] 81) := ⟨_, rfl⟩
      obtain ⟨gx, hgx⟩ : ∃ g, w3.heap.size = g := ⟨_, rfl⟩
      rw [← hW1, hgx] at hbx
      rw [← hW1] at hms hlo
      rw [← hW1, hgx]
      have hgx1 : wr.heap.size ≤ gx := by rw [← hgx]; exact h3.size
      clear hW1 hgx hal h3 hrp p0 p1 p2 p3 p4 p5 p6 p7 p8 p9
      obtain ⟨X0, Xn, Xc0, X1, Xc1, X2, Xc2, X3, Xc3, X4, Xc4, hiX, hlX, x0, x1, x2, x3, x4, x5, x6, x7, x8, x9⟩ := (hbx).get
      have HST1 := Lib.hid (And.intro hbx (And.intro hms hlo))
      have hbo1 := HK.out.o.same hlo
      have hrb1 := HPR.out.2.below hlo
      rw [HXC.out] at x5
      clear hbx hms hlo HPR hiX
      go_wp2_with fail
      refine (idxLead_c _ ms W1 HST1.out.2.1 go j hbo1).mono ?_; rintro e w4 ⟨rfl, h4⟩
      rw [HKK.out.1]
      go_upto_region 13 with fail
      have hHS := Lib.hid (Nat.le_trans HST1.out.2.2.size h4.size)
      have hms4 := IsMs.below HST1.out.2.1 h4
      have HX4 := Lib.hid (And.intro (HST1.out.1.below h4) (HST1.out.2.2.trans (h4.mono HST1.out.2.2.size)))
      have hrb4 := hrb1.below h4
      clear h4 HST1 hbo1 hrb1 x0 x1 x2 x3 x4 x5 x6 x7 x8 x9
      obtain ⟨P0, Pn, Pc0, P1, Pc1, P2, Pc2, P3, Pc3, P4, Pc4, hiP, hlP, p0, p1, p2, p3, p4, p5, p6, p7, p8, p9⟩ := (hrb4).get
      obtain ⟨gm, om, X, nx, cx, rfl, hgm, hxs, ma0, ma1, ma2, ma3, ma4, ma5, ma6, ma7⟩ := msgs_at hms4 hkl HKK.out.2
      have HMS4 := Lib.hid hms4
      have HC := Lib.hid (fun (W : World) (hb : Below w4.heap.size w4 W) => hear_n _ _ _ _ _ _ b (Scu.leadMsg j L.length (L ++ [s])) W 0 (hiP.below hb) (hxs.below hb) y bk 0 HY.out.1)
      dsimp only [Scu.leadMsg] at ma0 ma1 ma2 ma3 ma4 ma5 ma6 ma7 HC
      have hkk3 : (kk : Int) < (ms.length : Int) := by omega
      have hkk4 : (kk : Int) < 2 := by omega
      clear hms4 hiP hxs hrb4
      go_wp2_with fail
      refine joined (G := ?G) (fun key => ?first) ?rest
      case first =>
        obtain ⟨S, hSd⟩ : ∃ S : World → Prop, S = fun w' => Below w4.heap.size w4 w' := ⟨_, rfl⟩
        have hS0 : S w4.drew := by rw [hSd]; exact (Below.refl _ _).drew
        refine wp_region_held (S := S) (by kernel_rfl) ?_
        change wpAnyH _ _ _ _ _ _ _ _ w4.drew
        refine wpAnyH_takeM (i := 0) (v := ?_) rfl (by kernel_rfl) (by kernel_rfl) (by kernel_rfl) (fun _ _ _ h => h) (Or.inl ⟨by rfl, ?_⟩) hS0 ?_
        rotate_left
        · (intro wv hSw; rw [hSd] at hSw; have s0 := (hSw.cell (p := ⟨gb, 0, none⟩) hlP).trans p0; have s1 := (hSw.cell (p := ⟨gb, 1, none⟩) hlP).trans p1; have s2 := (hSw.cell (p := ⟨gb, 2, none⟩) hlP).trans p2; have s3 := (hSw.cell (p := ⟨gb, 3, none⟩) hlP).trans p3; have s4 := (hSw.cell (p := ⟨gb, 4, none⟩) hlP).trans p4; have s5 := (hSw.cell (p := ⟨gb, 5, none⟩) hlP).trans p5; have s6 := (hSw.cell (p := ⟨gb, 6, none⟩) hlP).trans p6; have s7 := (hSw.cell (p := ⟨gb, 7, none⟩) hlP).trans p7; have s8 := (hSw.cell (p := ⟨gb, 8, none⟩) hlP).trans p8; have s9 := (hSw.cell (p := ⟨gb, 9, none⟩) hlP).trans p9; go_simp; (try with_reducible rfl))
        (try simp only [Act.put, List.setIfInBounds_toArray, List.set_cons_zero, List.set_cons_succ])
        refine wpAnyH_takeM (i := 1) (v := ?_) rfl (by kernel_rfl) (by kernel_rfl) (by kernel_rfl) (fun _ _ _ h => h) (Or.inl ⟨by rfl, ?_⟩) hS0 ?_
        rotate_left
        · (intro wv hSw; rw [hSd] at hSw; go_simp; (try with_reducible rfl))
        (try simp only [Act.put, List.setIfInBounds_toArray, List.set_cons_zero, List.set_cons_succ])
        refine wpAnyH_takeM (i := 2) (v := ?_) rfl (by kernel_rfl) (by kernel_rfl) (by kernel_rfl) (fun _ _ _ h => h) (Or.inl ⟨by rfl, ?_⟩) hS0 ?_
        rotate_left
        · (intro wv hSw; rw [hSd] at hSw; go_simp; (try with_reducible rfl))
        (try simp only [Act.put, List.setIfInBounds_toArray, List.set_cons_zero, List.set_cons_succ])
        refine wpAnyH_takeM (i := 3) (v := ?_) rfl (by kernel_rfl) (by kernel_rfl) (by kernel_rfl) (fun _ _ _ h => h) (Or.inl ⟨by rfl, ?_⟩) hS0 ?_
        rotate_left
        · (intro wv hSw; rw [hSd] at hSw; go_simp; (try with_reducible rfl))
        (try simp only [Act.put, List.setIfInBounds_toArray, List.set_cons_zero, List.set_cons_succ])
        refine wpAnyH_takeM (i := 4) (v := ?_) rfl (by kernel_rfl) (by kernel_rfl) (by kernel_rfl) (fun _ _ _ h => h) (Or.inl ⟨by rfl, ?_⟩) hS0 ?_
        rotate_left
        · (intro wv hSw; rw [hSd] at hSw; have t0 := (hSw.cell (p := ⟨gm, om + kk * 8, none⟩) hgm).trans ma0; have t1 := (hSw.cell (p := ⟨gm, om + kk * 8 + 1, none⟩) hgm).trans ma1; have t2 := (hSw.cell (p := ⟨gm, om + kk * 8 + 2, none⟩) hgm).trans ma2; have t3 := (hSw.cell (p := ⟨gm, om + kk * 8 + 3, none⟩) hgm).trans ma3; have t4 := (hSw.cell (p := ⟨gm, om + kk * 8 + 4, none⟩) hgm).trans ma4; have t5 := (hSw.cell (p := ⟨gm, om + kk * 8 + 5, none⟩) hgm).trans ma5; have t6 := (hSw.cell (p := ⟨gm, om + kk * 8 + 6, none⟩) hgm).trans ma6; have t7 := (hSw.cell (p := ⟨gm, om + kk * 8 + 7, none⟩) hgm).trans ma7; go_simp; (try with_reducible rfl))
        (try simp only [Act.put, List.setIfInBounds_toArray, List.set_cons_zero, List.set_cons_succ])
        refine wpAnyH_all (rs := [5, 10]) (by kernel_rfl) (by simp) ?_
        intro ii hii
        simp only [List.mem_cons, List.not_mem_nil, or_false] at hii
        rcases hii with rfl | rfl
        · refine wpOp_step (o := _) rfl (fun KS hKS => ?_)
          go_simp
          have dd : Below w4.heap.size w4 w4.drew := (Below.refl _ _).drew
          refine (HC.out _ dd).mono ?_; rintro en x1 ⟨⟨E0, m0, z0, E1, z1, E2, z2, E3, z3, E4, z4, Ao, co, rfl, hrp, hms, hap⟩, k1⟩
          have nn1 := dd.trans (k1.mono dd.size)
          have M1 := Lib.hid nn1
          have HRP := Lib.hid (And.intro hrp hms)
          have hS0 : S x1 := by rw [hSd]; exact nn1
          refine hKS _ _ ⟨hS0, ?_⟩
          clear hKS nn1 k1 hrp hms hap dd
          (try simp only [Act.put, List.setIfInBounds_toArray, List.set_cons_zero, List.set_cons_succ])
          refine wpAnyH_takeM (i := 6) (v := ?_) rfl (by kernel_rfl) (by kernel_rfl) (by kernel_rfl) (fun _ _ _ h => h) (Or.inl ⟨by rfl, ?_⟩) hS0 ?_
          rotate_left
          · (intro wv hSw; rw [hSd] at hSw; go_simp; (try with_reducible rfl))
          (try simp only [Act.put, List.setIfInBounds_toArray, List.set_cons_zero, List.set_cons_succ])
          refine wpAnyH_takeM (i := 7) (v := ?_) rfl (by kernel_rfl) (by kernel_rfl) (by kernel_rfl) (fun _ _ _ h => h) (Or.inl ⟨by rfl, ?_⟩) hS0 ?_
          rotate_left
          · (intro wv hSw; rw [hSd] at hSw; go_simp; (try with_reducible rfl))
          (try simp only [Act.put, List.setIfInBounds_toArray, List.set_cons_zero, List.set_cons_succ])
          refine wpAnyH_takeM (i := 8) (v := ?_) rfl (by kernel_rfl) (by kernel_rfl) (by kernel_rfl) (fun _ _ _ h => h) (Or.inl ⟨by rfl, ?_⟩) hS0 ?_
          rotate_left
          · (intro wv hSw; rw [hSd] at hSw; go_simp; (try with_reducible rfl))
          (try simp only [Act.put, List.setIfInBounds_toArray, List.set_cons_zero, List.set_cons_succ])
          refine wpAnyH_takeM (i := 9) (v := ?_) rfl (by kernel_rfl) (by kernel_rfl) (by kernel_rfl) (fun _ _ _ h => h) (Or.inl ⟨by rfl, ?_⟩) hS0 ?_
          rotate_left
          · (intro wv hSw; rw [hSd] at hSw; go_simp; (try with_reducible rfl))
          (try simp only [Act.put, List.setIfInBounds_toArray, List.set_cons_zero, List.set_cons_succ])
          refine wpAnyH_all (rs := [10]) (by kernel_rfl) (by simp) ?_
          intro ii hii
          rw [List.mem_singleton] at hii
          subst hii
          refine wpOp_step (o := _) rfl (fun KA hKA => ?_)
          go_simp
          have hS0 : S (x1.alloc (Obj.cells #[.int .i64 0, .int .i64 0, .int .i64 0, .bool false, .slice none 0 0, .int .i64 0, .slice none 0 0, .slice none 0 0, .slice none 0 0, .slice none 0 0] 81)) := by rw [hSd]; exact M1.out.alloc M1.out.size _
          refine hKA _ _ ⟨hS0, ?_⟩
          (try simp only [Act.put, List.setIfInBounds_toArray, List.set_cons_zero, List.set_cons_succ])
          refine wpAnyH_all (rs := [11]) (by kernel_rfl) (by simp) ?_
          intro ii hii
          rw [List.mem_singleton] at hii
          subst hii
          refine wpOp_step (o := _) rfl (fun KB hKB => ?_)
          rw [if_pos (by rfl)]
          refine wp_store_mid 81 (.tmp 16) (.tmp 82) rfl x1.heap.size 0 #[.int .i64 y.me, .int .i64 y.kept.view, .int .i64 y.kept.normal, .bool y.kept.calm, .slice E0 m0 z0, .int .i64 y.kept.commit, .slice E1 y.have_.length z1, .slice E2 y.wants.length z2, .slice E3 y.gives.length z3, .slice E4 y.given.length z4] rfl rfl (blk_there (Blk.new x1 81 #[.int .i64 0, .int .i64 0, .int .i64 0, .bool false, .slice none 0 0, .int .i64 0, .slice none 0 0, .slice none 0 0, .slice none 0 0, .slice none 0 0])) (by kernel_rfl) (all_oneCell_toArray (rep_one HRP.out.1)) ?_
          have hSB : S ((x1.alloc (Obj.cells #[.int .i64 0, .int .i64 0, .int .i64 0, .bool false, .slice none 0 0, .int .i64 0, .slice none 0 0, .slice none 0 0, .slice none 0 0, .slice none 0 0] 81)).setCells x1.heap.size 0 [.int .i64 y.me, .int .i64 y.kept.view, .int .i64 y.kept.normal, .bool y.kept.calm, .slice E0 m0 z0, .int .i64 y.kept.commit, .slice E1 y.have_.length z1, .slice E2 y.wants.length z2, .slice E3 y.gives.length z3, .slice E4 y.given.length z4]) := by rw [hSd] at hS0 ⊢; exact below_sets M1.out.size _ 0 _ _ hS0
          refine hKB _ _ ⟨hSB, ?_⟩
          have hS0 := hSB
          (try simp only [Act.put, List.setIfInBounds_toArray, List.set_cons_zero, List.set_cons_succ])
          change wpAnyH _ _ _ _ _ _ _ _ ((x1.alloc (Obj.cells #[.int .i64 0, .int .i64 0, .int .i64 0, .bool false, .slice none 0 0, .int .i64 0, .slice none 0 0, .slice none 0 0, .slice none 0 0, .slice none 0 0] 81)).setCells x1.heap.size 0 [.int .i64 y.me, .int .i64 y.kept.view, .int .i64 y.kept.normal, .bool y.kept.calm, .slice E0 m0 z0, .int .i64 y.kept.commit, .slice E1 y.have_.length z1, .slice E2 y.wants.length z2, .slice E3 y.gives.length z3, .slice E4 y.given.length z4])
          refine wpAnyH_takeM (i := 12) (v := ?_) rfl (by kernel_rfl) (by kernel_rfl) (by kernel_rfl) (fun _ _ _ h => h) (Or.inl ⟨by rfl, ?_⟩) hS0 ?_
          rotate_left
          · (intro wv hSw; rw [hSd] at hSw; go_simp; (try with_reducible rfl))
          (try simp only [Act.put, List.setIfInBounds_toArray, List.set_cons_zero, List.set_cons_succ])
          refine wpAnyH_takeM (i := 13) (v := ?_) rfl (by kernel_rfl) (by kernel_rfl) (by kernel_rfl) (fun _ _ _ h => h) (Or.inl ⟨by rfl, ?_⟩) hS0 ?_
          rotate_left
          · (intro wv hSw; rw [hSd] at hSw; go_simp; (try with_reducible rfl))
          (try simp only [Act.put, List.setIfInBounds_toArray, List.set_cons_zero, List.set_cons_succ])
          refine wpAnyH_done (by kernel_rfl) ?_ _
          (try simp only [Act.put, List.setIfInBounds_toArray, List.set_cons_zero, List.set_cons_succ])
          obtain ⟨gq, hgq⟩ : ∃ g, x1.heap.size = g := ⟨_, rfl⟩
          obtain ⟨W3, hW3⟩ : ∃ W, W = (x1.alloc (Obj.cells #[.int .i64 0, .int .i64 0, .int .i64 0, .bool false, .slice none 0 0, .int .i64 0, .slice none 0 0, .slice none 0 0, .slice none 0 0, .slice none 0 0] 81)).setCells x1.heap.size 0 [.int .i64 y.me, .int .i64 y.kept.view, .int .i64 y.kept.normal, .bool y.kept.calm, .slice E0 m0 z0, .int .i64 y.kept.commit, .slice E1 y.have_.length z1, .slice E2 y.wants.length z2, .slice E3 y.gives.length z3, .slice E4 y.given.length z4] := ⟨_, rfl⟩
          have HQ : Hid (Below w4.heap.size w4 W3 ∧ Blk W3 gq 81 #[.int .i64 y.me, .int .i64 y.kept.view, .int .i64 y.kept.normal, .bool y.kept.calm, .slice E0 m0 z0, .int .i64 y.kept.commit, .slice E1 y.have_.length z1, .slice E2 y.wants.length z2, .slice E3 y.gives.length z3, .slice E4 y.given.length z4] ∧ IsRep W3 0 (.slice E0 m0 z0) (.slice E1 y.have_.length z1) (.slice E2 y.wants.length z2) (.slice E3 y.gives.length z3) (.slice E4 y.given.length z4) y ∧ IsRow 89 8 80 MsgE W3 0 (.slice Ao bk.length co) bk ∧ w4.heap.size ≤ gq) := by rw [hW3, ← hgq]; have q0 := boxed_rep HRP.out.1 HRP.out.2 (M1.out.alloc M1.out.size _) (Blk.new x1 81 #[.int .i64 0, .int .i64 0, .int .i64 0, .bool false, .slice none 0 0, .int .i64 0, .slice none 0 0, .slice none 0 0, .slice none 0 0, .slice none 0 0]) M1.out.size (below_alloc x1 _); exact Lib.hid ⟨q0.1, q0.2.1, q0.2.2.1, q0.2.2.2, M1.out.size⟩
          change Exit.then _ _ _ _ ((x1.alloc (Obj.cells #[.int .i64 0, .int .i64 0, .int .i64 0, .bool false, .slice none 0 0, .int .i64 0, .slice none 0 0, .slice none 0 0, .slice none 0 0, .slice none 0 0] 81)).setCells x1.heap.size 0 [.int .i64 y.me, .int .i64 y.kept.view, .int .i64 y.kept.normal, .bool y.kept.calm, .slice E0 m0 z0, .int .i64 y.kept.commit, .slice E1 y.have_.length z1, .slice E2 y.wants.length z2, .slice E3 y.gives.length z3, .slice E4 y.given.length z4])
          rw [← hW3]
          rw [hgq]
          clear hW3 hgq hS0 hSB hSd hKA hKB HRP M1
          revert HQ
          revert W3 gq
          revert E0 m0 z0 E1 z1 E2 z2 E3 z3 E4 z4 Ao co
          exact key
        · refine wpOp_step (o := _) rfl (fun KA hKA => ?_)
          go_simp
          have dd : Below w4.heap.size w4 (w4.drew.alloc (Obj.cells #[.int .i64 0, .int .i64 0, .int .i64 0, .bool false, .slice none 0 0, .int .i64 0, .slice none 0 0, .slice none 0 0, .slice none 0 0, .slice none 0 0] 81)) := (Below.refl _ _).drew.alloc (Nat.le_refl _) _
          have hS0 : S (w4.drew.alloc (Obj.cells #[.int .i64 0, .int .i64 0, .int .i64 0, .bool false, .slice none 0 0, .int .i64 0, .slice none 0 0, .slice none 0 0, .slice none 0 0, .slice none 0 0] 81)) := by rw [hSd]; exact dd
          refine hKA _ _ ⟨hS0, ?_⟩
          (try simp only [Act.put, List.setIfInBounds_toArray, List.set_cons_zero, List.set_cons_succ])
          refine wpAnyH_all (rs := [5]) (by kernel_rfl) (by simp) ?_
          intro ii hii
          rw [List.mem_singleton] at hii
          subst hii
          refine wpOp_step (o := _) rfl (fun KS hKS => ?_)
          go_simp
          refine (HC.out _ dd).mono ?_; rintro en x1 ⟨⟨E0, m0, z0, E1, z1, E2, z2, E3, z3, E4, z4, Ao, co, rfl, hrp, hms, hap⟩, k1⟩
          have nn1 := dd.trans (k1.mono dd.size)
          have M1 := Lib.hid nn1
          have HRP := Lib.hid (And.intro hrp hms)
          have HZ := Lib.hid ((Blk.new' (w := w4.drew) (g := w4.heap.size) (t := 81) (cs := #[.int .i64 0, .int .i64 0, .int .i64 0, .bool false, .slice none 0 0, .int .i64 0, .slice none 0 0, .slice none 0 0, .slice none 0 0, .slice none 0 0]) rfl).same k1)
          have hS0 : S x1 := by rw [hSd]; exact nn1
          refine hKS _ _ ⟨hS0, ?_⟩
          clear hKS nn1 k1 hrp hms hap dd
          (try simp only [Act.put, List.setIfInBounds_toArray, List.set_cons_zero, List.set_cons_succ])
          refine wpAnyH_takeM (i := 6) (v := ?_) rfl (by kernel_rfl) (by kernel_rfl) (by kernel_rfl) (fun _ _ _ h => h) (Or.inl ⟨by rfl, ?_⟩) hS0 ?_
          rotate_left
          · (intro wv hSw; rw [hSd] at hSw; go_simp; (try with_reducible rfl))
          (try simp only [Act.put, List.setIfInBounds_toArray, List.set_cons_zero, List.set_cons_succ])
          refine wpAnyH_takeM (i := 7) (v := ?_) rfl (by kernel_rfl) (by kernel_rfl) (by kernel_rfl) (fun _ _ _ h => h) (Or.inl ⟨by rfl, ?_⟩) hS0 ?_
          rotate_left
          · (intro wv hSw; rw [hSd] at hSw; go_simp; (try with_reducible rfl))
          (try simp only [Act.put, List.setIfInBounds_toArray, List.set_cons_zero, List.set_cons_succ])
          refine wpAnyH_takeM (i := 8) (v := ?_) rfl (by kernel_rfl) (by kernel_rfl) (by kernel_rfl) (fun _ _ _ h => h) (Or.inl ⟨by rfl, ?_⟩) hS0 ?_
          rotate_left
          · (intro wv hSw; rw [hSd] at hSw; go_simp; (try with_reducible rfl))
          (try simp only [Act.put, List.setIfInBounds_toArray, List.set_cons_zero, List.set_cons_succ])
          refine wpAnyH_takeM (i := 9) (v := ?_) rfl (by kernel_rfl) (by kernel_rfl) (by kernel_rfl) (fun _ _ _ h => h) (Or.inl ⟨by rfl, ?_⟩) hS0 ?_
          rotate_left
          · (intro wv hSw; rw [hSd] at hSw; go_simp; (try with_reducible rfl))
          (try simp only [Act.put, List.setIfInBounds_toArray, List.set_cons_zero, List.set_cons_succ])
          refine wpAnyH_all (rs := [11]) (by kernel_rfl) (by simp) ?_
          intro ii hii
          rw [List.mem_singleton] at hii
          subst hii
          refine wpOp_step (o := _) rfl (fun KB hKB => ?_)
          rw [if_pos (by rfl)]
          refine wp_store_mid 81 (.tmp 16) (.tmp 82) rfl w4.heap.size 0 #[.int .i64 y.me, .int .i64 y.kept.view, .int .i64 y.kept.normal, .bool y.kept.calm, .slice E0 m0 z0, .int .i64 y.kept.commit, .slice E1 y.have_.length z1, .slice E2 y.wants.length z2, .slice E3 y.gives.length z3, .slice E4 y.given.length z4] rfl rfl (blk_there HZ.out) (by kernel_rfl) (all_oneCell_toArray (rep_one HRP.out.1)) ?_
          have hSB : S (x1.setCells w4.heap.size 0 [.int .i64 y.me, .int .i64 y.kept.view, .int .i64 y.kept.normal, .bool y.kept.calm, .slice E0 m0 z0, .int .i64 y.kept.commit, .slice E1 y.have_.length z1, .slice E2 y.wants.length z2, .slice E3 y.gives.length z3, .slice E4 y.given.length z4]) := by rw [hSd] at hS0 ⊢; exact below_sets (Nat.le_refl _) _ 0 _ _ hS0
          refine hKB _ _ ⟨hSB, ?_⟩
          have hS0 := hSB
          (try simp only [Act.put, List.setIfInBounds_toArray, List.set_cons_zero, List.set_cons_succ])
          change wpAnyH _ _ _ _ _ _ _ _ (x1.setCells w4.heap.size 0 [.int .i64 y.me, .int .i64 y.kept.view, .int .i64 y.kept.normal, .bool y.kept.calm, .slice E0 m0 z0, .int .i64 y.kept.commit, .slice E1 y.have_.length z1, .slice E2 y.wants.length z2, .slice E3 y.gives.length z3, .slice E4 y.given.length z4])
          refine wpAnyH_takeM (i := 12) (v := ?_) rfl (by kernel_rfl) (by kernel_rfl) (by kernel_rfl) (fun _ _ _ h => h) (Or.inl ⟨by rfl, ?_⟩) hS0 ?_
          rotate_left
          · (intro wv hSw; rw [hSd] at hSw; go_simp; (try with_reducible rfl))
          (try simp only [Act.put, List.setIfInBounds_toArray, List.set_cons_zero, List.set_cons_succ])
          refine wpAnyH_takeM (i := 13) (v := ?_) rfl (by kernel_rfl) (by kernel_rfl) (by kernel_rfl) (fun _ _ _ h => h) (Or.inl ⟨by rfl, ?_⟩) hS0 ?_
          rotate_left
          · (intro wv hSw; rw [hSd] at hSw; go_simp; (try with_reducible rfl))
          (try simp only [Act.put, List.setIfInBounds_toArray, List.set_cons_zero, List.set_cons_succ])
          refine wpAnyH_done (by kernel_rfl) ?_ _
          (try simp only [Act.put, List.setIfInBounds_toArray, List.set_cons_zero, List.set_cons_succ])
          obtain ⟨gq, hgq⟩ : ∃ g, w4.heap.size = g := ⟨_, rfl⟩
          obtain ⟨W3, hW3⟩ : ∃ W, W = x1.setCells w4.heap.size 0 [.int .i64 y.me, .int .i64 y.kept.view, .int .i64 y.kept.normal, .bool y.kept.calm, .slice E0 m0 z0, .int .i64 y.kept.commit, .slice E1 y.have_.length z1, .slice E2 y.wants.length z2, .slice E3 y.gives.length z3, .slice E4 y.given.length z4] := ⟨_, rfl⟩
          have HQ : Hid (Below w4.heap.size w4 W3 ∧ Blk W3 gq 81 #[.int .i64 y.me, .int .i64 y.kept.view, .int .i64 y.kept.normal, .bool y.kept.calm, .slice E0 m0 z0, .int .i64 y.kept.commit, .slice E1 y.have_.length z1, .slice E2 y.wants.length z2, .slice E3 y.gives.length z3, .slice E4 y.given.length z4] ∧ IsRep W3 0 (.slice E0 m0 z0) (.slice E1 y.have_.length z1) (.slice E2 y.wants.length z2) (.slice E3 y.gives.length z3) (.slice E4 y.given.length z4) y ∧ IsRow 89 8 80 MsgE W3 0 (.slice Ao bk.length co) bk ∧ w4.heap.size ≤ gq) := by rw [hW3, ← hgq]; have q0 := boxed_rep HRP.out.1 HRP.out.2 M1.out HZ.out (Nat.le_refl _) (Below.refl _ _); exact Lib.hid ⟨q0.1, q0.2.1, q0.2.2.1, q0.2.2.2, (Nat.le_refl _)⟩
          change Exit.then _ _ _ _ (x1.setCells w4.heap.size 0 [.int .i64 y.me, .int .i64 y.kept.view, .int .i64 y.kept.normal, .bool y.kept.calm, .slice E0 m0 z0, .int .i64 y.kept.commit, .slice E1 y.have_.length z1, .slice E2 y.wants.length z2, .slice E3 y.gives.length z3, .slice E4 y.given.length z4])
          rw [← hW3]
          rw [hgq]
          clear hW3 hgq hS0 hSB hSd hKA hKB HRP M1 HZ
          revert HQ
          revert W3 gq
          revert E0 m0 z0 E1 z1 E2 z2 E3 z3 E4 z4 Ao co
          exact key
      case rest =>
      intro E0 m0 z0 E1 z1 E2 z2 E3 z3 E4 z4 Ao co gq W3 HQ
      have HYB := Lib.hid (show RepBox W3 gq y from ⟨_, _, _, _, _, HQ.out.2.1, HQ.out.2.2.1⟩)
      have HX5 := Lib.hid (And.intro (HX4.out.1.below HQ.out.1) (HX4.out.2.trans (HQ.out.1.mono HX4.out.2.size)))
      have hgq1 : w4.heap.size ≤ gq ∨ True := .inr trivial
      obtain ⟨hb00, hbe⟩ := HBK.out
      obtain ⟨gm2, om2, X2, nx2, cx2, rfl, hgm2, hxs2, mb0, mb1, mb2, mb3, mb4, mb5, mb6, mb7⟩ := msgs_at HQ.out.2.2.2.1 hb00 hbe
      simp only [Nat.zero_mul, Nat.add_zero] at mb0 mb1 mb2 mb3 mb4 mb5 mb6 mb7
      obtain ⟨X0, Xn, Xc0, X1, Xc1, X2, Xc2, X3, Xc3, X4, Xc4, hiX, hlX, x0, x1, x2, x3, x4, x5, x6, x7, x8, x9⟩ := (HX5.out.1).get
      have HC := Lib.hid (fun (W : World) (hb : Below W3.heap.size W3 W) => hear_n _ _ _ _ _ _ x (Scu.hasMsg j (L.length + 1)) W 0 (hiX.below hb) (hxs2.below hb) z on 0 HZ.out.1)
      dsimp only [Scu.hasMsg] at mb0 mb1 mb2 mb3 mb4 mb5 mb6 mb7 HC
      rw [HLL.out, HKE.out] at mb6 HC
      have hb1 : (0 : Int) < (bk.length : Int) := by omega
      clear hgq1 hiX hxs2 hbe hb00 HMS4 HX4 ma0 ma1 ma2 ma3 ma4 ma5 ma6 ma7 p0 p1 p2 p3 p4 p5 p6 p7 p8 p9
      go_wp2_with fail
      refine joined (G := ?G2) (fun key => ?first2) ?rest2
      case first2 =>
        obtain ⟨S, hSd⟩ : ∃ S : World → Prop, S = fun w' => Below W3.heap.size W3 w' := ⟨_, rfl⟩
        have hS0 : S W3.drew := by rw [hSd]; exact (Below.refl _ _).drew
        refine wp_region_held (S := S) (by kernel_rfl) ?_
        change wpAnyH _ _ _ _ _ _ _ _ W3.drew
        refine wpAnyH_takeM (i := 0) (v := ?_) rfl (by kernel_rfl) (by kernel_rfl) (by kernel_rfl) (fun _ _ _ h => h) (Or.inl ⟨by rfl, ?_⟩) hS0 ?_
        rotate_left
        · (intro wv hSw; rw [hSd] at hSw; have s0 := (hSw.cell (p := ⟨gx, 0, none⟩) hlX).trans x0; have s1 := (hSw.cell (p := ⟨gx, 1, none⟩) hlX).trans x1; have s2 := (hSw.cell (p := ⟨gx, 2, none⟩) hlX).trans x2; have s3 := (hSw.cell (p := ⟨gx, 3, none⟩) hlX).trans x3; have s4 := (hSw.cell (p := ⟨gx, 4, none⟩) hlX).trans x4; have s5 := (hSw.cell (p := ⟨gx, 5, none⟩) hlX).trans x5; have s6 := (hSw.cell (p := ⟨gx, 6, none⟩) hlX).trans x6; have s7 := (hSw.cell (p := ⟨gx, 7, none⟩) hlX).trans x7; have s8 := (hSw.cell (p := ⟨gx, 8, none⟩) hlX).trans x8; have s9 := (hSw.cell (p := ⟨gx, 9, none⟩) hlX).trans x9; go_simp; (try with_reducible rfl))
        (try simp only [Act.put, List.setIfInBounds_toArray, List.set_cons_zero, List.set_cons_succ])
        refine wpAnyH_takeM (i := 1) (v := ?_) rfl (by kernel_rfl) (by kernel_rfl) (by kernel_rfl) (fun _ _ _ h => h) (Or.inl ⟨by rfl, ?_⟩) hS0 ?_
        rotate_left
        · (intro wv hSw; rw [hSd] at hSw; go_simp; (try with_reducible rfl))
        (try simp only [Act.put, List.setIfInBounds_toArray, List.set_cons_zero, List.set_cons_succ])
        refine wpAnyH_takeM (i := 2) (v := ?_) rfl (by kernel_rfl) (by kernel_rfl) (by kernel_rfl) (fun _ _ _ h => h) (Or.inl ⟨by rfl, ?_⟩) hS0 ?_
        rotate_left
        · (intro wv hSw; rw [hSd] at hSw; go_simp; (try with_reducible rfl))
        (try simp only [Act.put, List.setIfInBounds_toArray, List.set_cons_zero, List.set_cons_succ])
        refine wpAnyH_takeM (i := 3) (v := ?_) rfl (by kernel_rfl) (by kernel_rfl) (by kernel_rfl) (fun _ _ _ h => h) (Or.inl ⟨by rfl, ?_⟩) hS0 ?_
        rotate_left
        · (intro wv hSw; rw [hSd] at hSw; have t0 := (hSw.cell (p := ⟨gm2, om2, none⟩) hgm2).trans mb0; have t1 := (hSw.cell (p := ⟨gm2, om2 + 1, none⟩) hgm2).trans mb1; have t2 := (hSw.cell (p := ⟨gm2, om2 + 2, none⟩) hgm2).trans mb2; have t3 := (hSw.cell (p := ⟨gm2, om2 + 3, none⟩) hgm2).trans mb3; have t4 := (hSw.cell (p := ⟨gm2, om2 + 4, none⟩) hgm2).trans mb4; have t5 := (hSw.cell (p := ⟨gm2, om2 + 5, none⟩) hgm2).trans mb5; have t6 := (hSw.cell (p := ⟨gm2, om2 + 6, none⟩) hgm2).trans mb6; have t7 := (hSw.cell (p := ⟨gm2, om2 + 7, none⟩) hgm2).trans mb7; go_simp; (try with_reducible rfl))
        (try simp only [Act.put, List.setIfInBounds_toArray, List.set_cons_zero, List.set_cons_succ])
        refine wpAnyH_all (rs := [4, 9]) (by kernel_rfl) (by simp) ?_
        intro ii hii
        simp only [List.mem_cons, List.not_mem_nil, or_false] at hii
        rcases hii with rfl | rfl
        · refine wpOp_step (o := _) rfl (fun KS hKS => ?_)
          go_simp
          have dd : Below W3.heap.size W3 W3.drew := (Below.refl _ _).drew
          refine (HC.out _ dd).mono ?_; rintro en x1 ⟨⟨E0, m0, z0, E1, z1, E2, z2, E3, z3, E4, z4, Ao, co, rfl, hrp, hms, hap⟩, k1⟩
          have nn1 := dd.trans (k1.mono dd.size)
          have M1 := Lib.hid nn1
          have HRP := Lib.hid (And.intro hrp hms)
          have hS0 : S x1 := by rw [hSd]; exact nn1
          refine hKS _ _ ⟨hS0, ?_⟩
          clear hKS nn1 k1 hrp hms hap dd
          (try simp only [Act.put, List.setIfInBounds_toArray, List.set_cons_zero, List.set_cons_succ])
          refine wpAnyH_takeM (i := 5) (v := ?_) rfl (by kernel_rfl) (by kernel_rfl) (by kernel_rfl) (fun _ _ _ h => h) (Or.inl ⟨by rfl, ?_⟩) hS0 ?_
          rotate_left
          · (intro wv hSw; rw [hSd] at hSw; go_simp; (try with_reducible rfl))
          (try simp only [Act.put, List.setIfInBounds_toArray, List.set_cons_zero, List.set_cons_succ])
          refine wpAnyH_takeM (i := 6) (v := ?_) rfl (by kernel_rfl) (by kernel_rfl) (by kernel_rfl) (fun _ _ _ h => h) (Or.inl ⟨by rfl, ?_⟩) hS0 ?_
          rotate_left
          · (intro wv hSw; rw [hSd] at hSw; go_simp; (try with_reducible rfl))
          (try simp only [Act.put, List.setIfInBounds_toArray, List.set_cons_zero, List.set_cons_succ])
          refine wpAnyH_takeM (i := 7) (v := ?_) rfl (by kernel_rfl) (by kernel_rfl) (by kernel_rfl) (fun _ _ _ h => h) (Or.inl ⟨by rfl, ?_⟩) hS0 ?_
          rotate_left
          · (intro wv hSw; rw [hSd] at hSw; go_simp; (try with_reducible rfl))
          (try simp only [Act.put, List.setIfInBounds_toArray, List.set_cons_zero, List.set_cons_succ])
          refine wpAnyH_takeM (i := 8) (v := ?_) rfl (by kernel_rfl) (by kernel_rfl) (by kernel_rfl) (fun _ _ _ h => h) (Or.inl ⟨by rfl, ?_⟩) hS0 ?_
          rotate_left
          · (intro wv hSw; rw [hSd] at hSw; go_simp; (try with_reducible rfl))
          (try simp only [Act.put, List.setIfInBounds_toArray, List.set_cons_zero, List.set_cons_succ])
          refine wpAnyH_all (rs := [9]) (by kernel_rfl) (by simp) ?_
          intro ii hii
          rw [List.mem_singleton] at hii
          subst hii
          refine wpOp_step (o := _) rfl (fun KA hKA => ?_)
          go_simp
          have hS0 : S (x1.alloc (Obj.cells #[.int .i64 0, .int .i64 0, .int .i64 0, .bool false, .slice none 0 0, .int .i64 0, .slice none 0 0, .slice none 0 0, .slice none 0 0, .slice none 0 0] 81)) := by rw [hSd]; exact M1.out.alloc M1.out.size _
          refine hKA _ _ ⟨hS0, ?_⟩
          (try simp only [Act.put, List.setIfInBounds_toArray, List.set_cons_zero, List.set_cons_succ])
          refine wpAnyH_all (rs := [10]) (by kernel_rfl) (by simp) ?_
          intro ii hii
          rw [List.mem_singleton] at hii
          subst hii
          refine wpOp_step (o := _) rfl (fun KB hKB => ?_)
          rw [if_pos (by rfl)]
          refine wp_store_mid 81 (.tmp 19) (.tmp 107) rfl x1.heap.size 0 #[.int .i64 z.me, .int .i64 z.kept.view, .int .i64 z.kept.normal, .bool z.kept.calm, .slice E0 m0 z0, .int .i64 z.kept.commit, .slice E1 z.have_.length z1, .slice E2 z.wants.length z2, .slice E3 z.gives.length z3, .slice E4 z.given.length z4] rfl rfl (blk_there (Blk.new x1 81 #[.int .i64 0, .int .i64 0, .int .i64 0, .bool false, .slice none 0 0, .int .i64 0, .slice none 0 0, .slice none 0 0, .slice none 0 0, .slice none 0 0])) (by kernel_rfl) (all_oneCell_toArray (rep_one HRP.out.1)) ?_
          have hSB : S ((x1.alloc (Obj.cells #[.int .i64 0, .int .i64 0, .int .i64 0, .bool false, .slice none 0 0, .int .i64 0, .slice none 0 0, .slice none 0 0, .slice none 0 0, .slice none 0 0] 81)).setCells x1.heap.size 0 [.int .i64 z.me, .int .i64 z.kept.view, .int .i64 z.kept.normal, .bool z.kept.calm, .slice E0 m0 z0, .int .i64 z.kept.commit, .slice E1 z.have_.length z1, .slice E2 z.wants.length z2, .slice E3 z.gives.length z3, .slice E4 z.given.length z4]) := by rw [hSd] at hS0 ⊢; exact below_sets M1.out.size _ 0 _ _ hS0
          refine hKB _ _ ⟨hSB, ?_⟩
          have hS0 := hSB
          (try simp only [Act.put, List.setIfInBounds_toArray, List.set_cons_zero, List.set_cons_succ])
          change wpAnyH _ _ _ _ _ _ _ _ ((x1.alloc (Obj.cells #[.int .i64 0, .int .i64 0, .int .i64 0, .bool false, .slice none 0 0, .int .i64 0, .slice none 0 0, .slice none 0 0, .slice none 0 0, .slice none 0 0] 81)).setCells x1.heap.size 0 [.int .i64 z.me, .int .i64 z.kept.view, .int .i64 z.kept.normal, .bool z.kept.calm, .slice E0 m0 z0, .int .i64 z.kept.commit, .slice E1 z.have_.length z1, .slice E2 z.wants.length z2, .slice E3 z.gives.length z3, .slice E4 z.given.length z4])
          refine wpAnyH_takeM (i := 11) (v := ?_) rfl (by kernel_rfl) (by kernel_rfl) (by kernel_rfl) (fun _ _ _ h => h) (Or.inl ⟨by rfl, ?_⟩) hS0 ?_
          rotate_left
          · (intro wv hSw; rw [hSd] at hSw; go_simp; (try with_reducible rfl))
          (try simp only [Act.put, List.setIfInBounds_toArray, List.set_cons_zero, List.set_cons_succ])
          refine wpAnyH_takeM (i := 12) (v := ?_) rfl (by kernel_rfl) (by kernel_rfl) (by kernel_rfl) (fun _ _ _ h => h) (Or.inl ⟨by rfl, ?_⟩) hS0 ?_
          rotate_left
          · (intro wv hSw; rw [hSd] at hSw; go_simp; (try with_reducible rfl))
          (try simp only [Act.put, List.setIfInBounds_toArray, List.set_cons_zero, List.set_cons_succ])
          refine wpAnyH_done (by kernel_rfl) ?_ _
          (try simp only [Act.put, List.setIfInBounds_toArray, List.set_cons_zero, List.set_cons_succ])
          obtain ⟨gz, hgz⟩ : ∃ g, x1.heap.size = g := ⟨_, rfl⟩
          obtain ⟨W6, hW6⟩ : ∃ W, W = (x1.alloc (Obj.cells #[.int .i64 0, .int .i64 0, .int .i64 0, .bool false, .slice none 0 0, .int .i64 0, .slice none 0 0, .slice none 0 0, .slice none 0 0, .slice none 0 0] 81)).setCells x1.heap.size 0 [.int .i64 z.me, .int .i64 z.kept.view, .int .i64 z.kept.normal, .bool z.kept.calm, .slice E0 m0 z0, .int .i64 z.kept.commit, .slice E1 z.have_.length z1, .slice E2 z.wants.length z2, .slice E3 z.gives.length z3, .slice E4 z.given.length z4] := ⟨_, rfl⟩
          have HQ2 : Hid (Below W3.heap.size W3 W6 ∧ Blk W6 gz 81 #[.int .i64 z.me, .int .i64 z.kept.view, .int .i64 z.kept.normal, .bool z.kept.calm, .slice E0 m0 z0, .int .i64 z.kept.commit, .slice E1 z.have_.length z1, .slice E2 z.wants.length z2, .slice E3 z.gives.length z3, .slice E4 z.given.length z4] ∧ IsRep W6 0 (.slice E0 m0 z0) (.slice E1 z.have_.length z1) (.slice E2 z.wants.length z2) (.slice E3 z.gives.length z3) (.slice E4 z.given.length z4) z ∧ IsRow 89 8 80 MsgE W6 0 (.slice Ao on.length co) on ∧ W3.heap.size ≤ gz) := by rw [hW6, ← hgz]; have q0 := boxed_rep HRP.out.1 HRP.out.2 (M1.out.alloc M1.out.size _) (Blk.new x1 81 #[.int .i64 0, .int .i64 0, .int .i64 0, .bool false, .slice none 0 0, .int .i64 0, .slice none 0 0, .slice none 0 0, .slice none 0 0, .slice none 0 0]) M1.out.size (below_alloc x1 _); exact Lib.hid ⟨q0.1, q0.2.1, q0.2.2.1, q0.2.2.2, M1.out.size⟩
          change Exit.then _ _ _ _ ((x1.alloc (Obj.cells #[.int .i64 0, .int .i64 0, .int .i64 0, .bool false, .slice none 0 0, .int .i64 0, .slice none 0 0, .slice none 0 0, .slice none 0 0, .slice none 0 0] 81)).setCells x1.heap.size 0 [.int .i64 z.me, .int .i64 z.kept.view, .int .i64 z.kept.normal, .bool z.kept.calm, .slice E0 m0 z0, .int .i64 z.kept.commit, .slice E1 z.have_.length z1, .slice E2 z.wants.length z2, .slice E3 z.gives.length z3, .slice E4 z.given.length z4])
          rw [← hW6]
          rw [hgz]
          clear hW6 hgz hS0 hSB hSd hKA hKB HRP M1
          revert HQ2
          revert W6 gz
          revert E0 m0 z0 E1 z1 E2 z2 E3 z3 E4 z4 Ao co
          exact key
        · refine wpOp_step (o := _) rfl (fun KA hKA => ?_)
          go_simp
          have dd : Below W3.heap.size W3 (W3.drew.alloc (Obj.cells #[.int .i64 0, .int .i64 0, .int .i64 0, .bool false, .slice none 0 0, .int .i64 0, .slice none 0 0, .slice none 0 0, .slice none 0 0, .slice none 0 0] 81)) := (Below.refl _ _).drew.alloc (Nat.le_refl _) _
          have hS0 : S (W3.drew.alloc (Obj.cells #[.int .i64 0, .int .i64 0, .int .i64 0, .bool false, .slice none 0 0, .int .i64 0, .slice none 0 0, .slice none 0 0, .slice none 0 0, .slice none 0 0] 81)) := by rw [hSd]; exact dd
          refine hKA _ _ ⟨hS0, ?_⟩
          (try simp only [Act.put, List.setIfInBounds_toArray, List.set_cons_zero, List.set_cons_succ])
          refine wpAnyH_all (rs := [4]) (by kernel_rfl) (by simp) ?_
          intro ii hii
          rw [List.mem_singleton] at hii
          subst hii
          refine wpOp_step (o := _) rfl (fun KS hKS => ?_)
          go_simp
          refine (HC.out _ dd).mono ?_; rintro en x1 ⟨⟨E0, m0, z0, E1, z1, E2, z2, E3, z3, E4, z4, Ao, co, rfl, hrp, hms, hap⟩, k1⟩
          have nn1 := dd.trans (k1.mono dd.size)
          have M1 := Lib.hid nn1
          have HRP := Lib.hid (And.intro hrp hms)
          have HZ := Lib.hid ((Blk.new' (w := W3.drew) (g := W3.heap.size) (t := 81) (cs := #[.int .i64 0, .int .i64 0, .int .i64 0, .bool false, .slice none 0 0, .int .i64 0, .slice none 0 0, .slice none 0 0, .slice none 0 0, .slice none 0 0]) rfl).same k1)
          have hS0 : S x1 := by rw [hSd]; exact nn1
          refine hKS _ _ ⟨hS0, ?_⟩
          clear hKS nn1 k1 hrp hms hap dd
          (try simp only [Act.put, List.setIfInBounds_toArray, List.set_cons_zero, List.set_cons_succ])
          refine wpAnyH_takeM (i := 5) (v := ?_) rfl (by kernel_rfl) (by kernel_rfl) (by kernel_rfl) (fun _ _ _ h => h) (Or.inl ⟨by rfl, ?_⟩) hS0 ?_
          rotate_left
          · (intro wv hSw; rw [hSd] at hSw; go_simp; (try with_reducible rfl))
          (try simp only [Act.put, List.setIfInBounds_toArray, List.set_cons_zero, List.set_cons_succ])
          refine wpAnyH_takeM (i := 6) (v := ?_) rfl (by kernel_rfl) (by kernel_rfl) (by kernel_rfl) (fun _ _ _ h => h) (Or.inl ⟨by rfl, ?_⟩) hS0 ?_
          rotate_left
          · (intro wv hSw; rw [hSd] at hSw; go_simp; (try with_reducible rfl))
          (try simp only [Act.put, List.setIfInBounds_toArray, List.set_cons_zero, List.set_cons_succ])
          refine wpAnyH_takeM (i := 7) (v := ?_) rfl (by kernel_rfl) (by kernel_rfl) (by kernel_rfl) (fun _ _ _ h => h) (Or.inl ⟨by rfl, ?_⟩) hS0 ?_
          rotate_left
          · (intro wv hSw; rw [hSd] at hSw; go_simp; (try with_reducible rfl))
          (try simp only [Act.put, List.setIfInBounds_toArray, List.set_cons_zero, List.set_cons_succ])
          refine wpAnyH_takeM (i := 8) (v := ?_) rfl (by kernel_rfl) (by kernel_rfl) (by kernel_rfl) (fun _ _ _ h => h) (Or.inl ⟨by rfl, ?_⟩) hS0 ?_
          rotate_left
          · (intro wv hSw; rw [hSd] at hSw; go_simp; (try with_reducible rfl))
          (try simp only [Act.put, List.setIfInBounds_toArray, List.set_cons_zero, List.set_cons_succ])
          refine wpAnyH_all (rs := [10]) (by kernel_rfl) (by simp) ?_
          intro ii hii
          rw [List.mem_singleton] at hii
          subst hii
          refine wpOp_step (o := _) rfl (fun KB hKB => ?_)
          rw [if_pos (by rfl)]
          refine wp_store_mid 81 (.tmp 19) (.tmp 107) rfl W3.heap.size 0 #[.int .i64 z.me, .int .i64 z.kept.view, .int .i64 z.kept.normal, .bool z.kept.calm, .slice E0 m0 z0, .int .i64 z.kept.commit, .slice E1 z.have_.length z1, .slice E2 z.wants.length z2, .slice E3 z.gives.length z3, .slice E4 z.given.length z4] rfl rfl (blk_there HZ.out) (by kernel_rfl) (all_oneCell_toArray (rep_one HRP.out.1)) ?_
          have hSB : S (x1.setCells W3.heap.size 0 [.int .i64 z.me, .int .i64 z.kept.view, .int .i64 z.kept.normal, .bool z.kept.calm, .slice E0 m0 z0, .int .i64 z.kept.commit, .slice E1 z.have_.length z1, .slice E2 z.wants.length z2, .slice E3 z.gives.length z3, .slice E4 z.given.length z4]) := by rw [hSd] at hS0 ⊢; exact below_sets (Nat.le_refl _) _ 0 _ _ hS0
          refine hKB _ _ ⟨hSB, ?_⟩
          have hS0 := hSB
          (try simp only [Act.put, List.setIfInBounds_toArray, List.set_cons_zero, List.set_cons_succ])
          change wpAnyH _ _ _ _ _ _ _ _ (x1.setCells W3.heap.size 0 [.int .i64 z.me, .int .i64 z.kept.view, .int .i64 z.kept.normal, .bool z.kept.calm, .slice E0 m0 z0, .int .i64 z.kept.commit, .slice E1 z.have_.length z1, .slice E2 z.wants.length z2, .slice E3 z.gives.length z3, .slice E4 z.given.length z4])
          refine wpAnyH_takeM (i := 11) (v := ?_) rfl (by kernel_rfl) (by kernel_rfl) (by kernel_rfl) (fun _ _ _ h => h) (Or.inl ⟨by rfl, ?_⟩) hS0 ?_
          rotate_left
          · (intro wv hSw; rw [hSd] at hSw; go_simp; (try with_reducible rfl))
          (try simp only [Act.put, List.setIfInBounds_toArray, List.set_cons_zero, List.set_cons_succ])
          refine wpAnyH_takeM (i := 12) (v := ?_) rfl (by kernel_rfl) (by kernel_rfl) (by kernel_rfl) (fun _ _ _ h => h) (Or.inl ⟨by rfl, ?_⟩) hS0 ?_
          rotate_left
          · (intro wv hSw; rw [hSd] at hSw; go_simp; (try with_reducible rfl))
          (try simp only [Act.put, List.setIfInBounds_toArray, List.set_cons_zero, List.set_cons_succ])
          refine wpAnyH_done (by kernel_rfl) ?_ _
          (try simp only [Act.put, List.setIfInBounds_toArray, List.set_cons_zero, List.set_cons_succ])
          obtain ⟨gz, hgz⟩ : ∃ g, W3.heap.size = g := ⟨_, rfl⟩
          obtain ⟨W6, hW6⟩ : ∃ W, W = x1.setCells W3.heap.size 0 [.int .i64 z.me, .int .i64 z.kept.view, .int .i64 z.kept.normal, .bool z.kept.calm, .slice E0 m0 z0, .int .i64 z.kept.commit, .slice E1 z.have_.length z1, .slice E2 z.wants.length z2, .slice E3 z.gives.length z3, .slice E4 z.given.length z4] := ⟨_, rfl⟩
          have HQ2 : Hid (Below W3.heap.size W3 W6 ∧ Blk W6 gz 81 #[.int .i64 z.me, .int .i64 z.kept.view, .int .i64 z.kept.normal, .bool z.kept.calm, .slice E0 m0 z0, .int .i64 z.kept.commit, .slice E1 z.have_.length z1, .slice E2 z.wants.length z2, .slice E3 z.gives.length z3, .slice E4 z.given.length z4] ∧ IsRep W6 0 (.slice E0 m0 z0) (.slice E1 z.have_.length z1) (.slice E2 z.wants.length z2) (.slice E3 z.gives.length z3) (.slice E4 z.given.length z4) z ∧ IsRow 89 8 80 MsgE W6 0 (.slice Ao on.length co) on ∧ W3.heap.size ≤ gz) := by rw [hW6, ← hgz]; have q0 := boxed_rep HRP.out.1 HRP.out.2 M1.out HZ.out (Nat.le_refl _) (Below.refl _ _); exact Lib.hid ⟨q0.1, q0.2.1, q0.2.2.1, q0.2.2.2, (Nat.le_refl _)⟩
          change Exit.then _ _ _ _ (x1.setCells W3.heap.size 0 [.int .i64 z.me, .int .i64 z.kept.view, .int .i64 z.kept.normal, .bool z.kept.calm, .slice E0 m0 z0, .int .i64 z.kept.commit, .slice E1 z.have_.length z1, .slice E2 z.wants.length z2, .slice E3 z.gives.length z3, .slice E4 z.given.length z4])
          rw [← hW6]
          rw [hgz]
          clear hW6 hgz hS0 hSB hSd hKA hKB HRP M1 HZ
          revert HQ2
          revert W6 gz
          revert E0 m0 z0 E1 z1 E2 z2 E3 z3 E4 z4 Ao co
          exact key
      case rest2 =>
      intro E0 m0 z0 E1 z1 E2 z2 E3 z3 E4 z4 Ao co gz W6 HQ2
      have HZB := Lib.hid (show RepBox W6 gz z from ⟨_, _, _, _, _, HQ2.out.2.1, HQ2.out.2.2.1⟩)
      have h16 := HX5.out.2.trans (HQ2.out.1.mono HX5.out.2.size)
      have hy6 := HYB.out.below HQ2.out.1
      have HW6 := Lib.hid (And.intro (HK.out.o.same h16) (And.intro (HK.out.e.below h16) (HK.out.low.trans (h16.mono HK.out.low.size))))
      have hra6 : ∃ a, RepBox W6 ga a := by obtain ⟨a', ha', _⟩ := HK.out.a; exact ⟨a', ha'.below h16⟩
      have hrb6 : ∃ b, RepBox W6 gb b := by obtain ⟨a', ha', _⟩ := HK.out.b; exact ⟨a', ha'.below h16⟩
      obtain ⟨Z0, Zn, Zc0, Z1, Zc1, Z2, Zc2, Z3, Zc3, Z4, Zc4, hiZ, hlZ, z0, z1, z2, z3, z4, z5, z6, z7, z8, z9⟩ := (HZB.out).get
      rw [HZC.out] at z5
      clear HX5 mb0 mb1 mb2 mb3 mb4 mb5 mb6 mb7 x0 x1 x2 x3 x4 x5 x6 x7 x8 x9
      go_upto_region 19 with fail
      rw [← HZC.out] at z5
      obtain ⟨Y0, Yn, Yc0, Y1, Yc1, Y2, Yc2, Y3, Yc3, Y4, Yc4, hiY, hlY, y0, y1, y2, y3, y4, y5, y6, y7, y8, y9⟩ := (hy6).get
      have hgz6 := HQ2.out.2.2.2.2
      have hgq6 := HQ.out.2.2.2.2
      have hs36 := HQ.out.1.size
      have hs43 := HK.out.low.size
      have hs14 := hHS.out
      have hgaw := hGA.out
      have HZI := Lib.hid (And.intro hiZ hiY)
      have hgzq : True := trivial
      obtain ⟨a6, hra6⟩ := hra6
      obtain ⟨b6, hrb6⟩ := hrb6
      have HAB := Lib.hid (And.intro hra6 hrb6)
      clear hiZ hiY hra6 hrb6 hy6 hgzq h16
      go_wp2_with fail
      obtain ⟨S, hSd⟩ : ∃ S : World → Prop, S = fun w' => ∀ q : Addr, (q.block = gz ∨ q.block = gq) → w'.cell? q = W6.cell? q := ⟨_, rfl⟩
      have hS0 : S W6.drew := by rw [hSd]; exact fun q _ => rfl
      have hzl : gz < W6.heap.size := hlZ
      have nz1 : ga ≠ gz := by omega
      have nz2 : ga ≠ gq := by omega
      have nz3 : gb ≠ gz := by omega
      have nz4 : gb ≠ gq := by omega
      have hwl : w.heap.size ≤ ga := hgw
      refine wp_region_held (S := S) (by kernel_rfl) ?_
      change wpAnyH _ _ _ _ _ _ _ _ W6.drew
      refine wpAnyH_takeM (i := 0) (v := ?_) rfl (by kernel_rfl) (by kernel_rfl) (by kernel_rfl) (fun _ _ _ h => h) (Or.inl ⟨by rfl, ?_⟩) hS0 ?_
      rotate_left
      · (intro wv hSw; rw [hSd] at hSw; have s0 := (hSw ⟨gz, 0, none⟩ (.inl rfl)).trans z0; have s1 := (hSw ⟨gz, 1, none⟩ (.inl rfl)).trans z1; have s2 := (hSw ⟨gz, 2, none⟩ (.inl rfl)).trans z2; have s3 := (hSw ⟨gz, 3, none⟩ (.inl rfl)).trans z3; have s4 := (hSw ⟨gz, 4, none⟩ (.inl rfl)).trans z4; have s5 := (hSw ⟨gz, 5, none⟩ (.inl rfl)).trans z5; have s6 := (hSw ⟨gz, 6, none⟩ (.inl rfl)).trans z6; have s7 := (hSw ⟨gz, 7, none⟩ (.inl rfl)).trans z7; have s8 := (hSw ⟨gz, 8, none⟩ (.inl rfl)).trans z8; have s9 := (hSw ⟨gz, 9, none⟩ (.inl rfl)).trans z9; go_simp; (try with_reducible rfl))
      (try simp only [Act.put, List.setIfInBounds_toArray, List.set_cons_zero, List.set_cons_succ])
      refine wpAnyH_takeM (i := 1) (v := ?_) rfl (by kernel_rfl) (by kernel_rfl) (by kernel_rfl) (fun _ _ _ h => h) (Or.inl ⟨by rfl, ?_⟩) hS0 ?_
      rotate_left
      · (intro wv hSw; rw [hSd] at hSw; have t0 := (hSw ⟨gq, 0, none⟩ (.inr rfl)).trans y0; have t1 := (hSw ⟨gq, 1, none⟩ (.inr rfl)).trans y1; have t2 := (hSw ⟨gq, 2, none⟩ (.inr rfl)).trans y2; have t3 := (hSw ⟨gq, 3, none⟩ (.inr rfl)).trans y3; have t4 := (hSw ⟨gq, 4, none⟩ (.inr rfl)).trans y4; have t5 := (hSw ⟨gq, 5, none⟩ (.inr rfl)).trans y5; have t6 := (hSw ⟨gq, 6, none⟩ (.inr rfl)).trans y6; have t7 := (hSw ⟨gq, 7, none⟩ (.inr rfl)).trans y7; have t8 := (hSw ⟨gq, 8, none⟩ (.inr rfl)).trans y8; have t9 := (hSw ⟨gq, 9, none⟩ (.inr rfl)).trans y9; go_simp; (try with_reducible rfl))
      (try simp only [Act.put, List.setIfInBounds_toArray, List.set_cons_zero, List.set_cons_succ])
      have hda : RepBox W6.drew ga a6 := by obtain ⟨_, _, _, _, _, q1, q2⟩ := HAB.out.1; exact ⟨_, _, _, _, _, q1.drew, q2.below (Below.refl _ _).drew⟩
      have hdb : RepBox W6.drew gb b6 := by obtain ⟨_, _, _, _, _, q1, q2⟩ := HAB.out.2; exact ⟨_, _, _, _, _, q1.drew, q2.below (Below.refl _ _).drew⟩
      have dd : Below W6.heap.size W6 W6.drew := (Below.refl _ _).drew
      have hiz := HZI.out.1.below dd
      have hiy := HZI.out.2.below dd
      refine wpAnyH_all (rs := [2]) (by kernel_rfl) (by simp) ?_
      intro ii hii
      rw [List.mem_singleton] at hii
      subst hii
      refine wpOp_step (o := _) rfl (fun KA hKA => ?_)
      rw [if_pos (by rfl)]
      refine wp_store_mid 81 (.tmp 5) (.tmp 125) rfl ga 0 #[.int .i64 z.me, .int .i64 z.kept.view, .int .i64 z.kept.normal, .bool z.kept.calm, .slice Z0 Zn Zc0, .int .i64 z.kept.commit, .slice Z1 z.have_.length Zc1, .slice Z2 z.wants.length Zc2, .slice Z3 z.gives.length Zc3, .slice Z4 z.given.length Zc4] rfl rfl (by obtain ⟨_, _, _, _, _, q1, _⟩ := hda; exact blk_there q1) (by kernel_rfl) (all_oneCell_toArray (rep_one hiz)) ?_
      have hSB : S (W6.drew.setCells ga 0 [.int .i64 z.me, .int .i64 z.kept.view, .int .i64 z.kept.normal, .bool z.kept.calm, .slice Z0 Zn Zc0, .int .i64 z.kept.commit, .slice Z1 z.have_.length Zc1, .slice Z2 z.wants.length Zc2, .slice Z3 z.gives.length Zc3, .slice Z4 z.given.length Zc4]) := by rw [hSd] at hS0 ⊢; exact fun q hq => (cells_far (by rcases hq with h | h <;> omega) _ 0 _).trans (hS0 q hq)
      refine hKA _ _ ⟨hSB, ?_⟩
      have hS0 := hSB
      (try simp only [Act.put, List.setIfInBounds_toArray, List.set_cons_zero, List.set_cons_succ])
      obtain ⟨W7, hW7⟩ : ∃ W, W = W6.drew.setCells ga 0 [.int .i64 z.me, .int .i64 z.kept.view, .int .i64 z.kept.normal, .bool z.kept.calm, .slice Z0 Zn Zc0, .int .i64 z.kept.commit, .slice Z1 z.have_.length Zc1, .slice Z2 z.wants.length Zc2, .slice Z3 z.gives.length Zc3, .slice Z4 z.given.length Zc4] := ⟨_, rfl⟩
      have q1 : RepBox W7 ga z ∧ Same [9, 3, 4, 64, 89] 0 W6.drew W7 ∧ ∀ g' r', g' ≠ ga → RepBox W6.drew g' r' → RepBox W7 g' r' := by rw [hW7]; exact store_rep hda hiz
      have q5 : Below w.heap.size w W7 := by rw [hW7]; exact below_sets (by omega) _ 0 _ _ HW6.out.2.2.drew
      change wpAnyH _ _ _ _ _ _ _ _ (W6.drew.setCells ga 0 [.int .i64 z.me, .int .i64 z.kept.view, .int .i64 z.kept.normal, .bool z.kept.calm, .slice Z0 Zn Zc0, .int .i64 z.kept.commit, .slice Z1 z.have_.length Zc1, .slice Z2 z.wants.length Zc2, .slice Z3 z.gives.length Zc3, .slice Z4 z.given.length Zc4])
      rw [← hW7] at hS0 ⊢
      clear hW7 hSB hKA
      have h2a := q1.2.2 _ _ (by omega) hdb
      have h2i := hiy.same (q1.2.1.mono (by simp) (Nat.le_refl _))
      refine wpAnyH_all (rs := [3]) (by kernel_rfl) (by simp) ?_
      intro ii hii
      rw [List.mem_singleton] at hii
      subst hii
      refine wpOp_step (o := _) rfl (fun KB hKB => ?_)
      rw [if_pos (by rfl)]
      refine wp_store_mid 81 (.tmp 8) (.tmp 126) rfl gb 0 #[.int .i64 y.me, .int .i64 y.kept.view, .int .i64 y.kept.normal, .bool y.kept.calm, .slice Y0 Yn Yc0, .int .i64 y.kept.commit, .slice Y1 y.have_.length Yc1, .slice Y2 y.wants.length Yc2, .slice Y3 y.gives.length Yc3, .slice Y4 y.given.length Yc4] rfl rfl (by obtain ⟨_, _, _, _, _, q1, _⟩ := h2a; exact blk_there q1) (by kernel_rfl) (all_oneCell_toArray (rep_one h2i)) ?_
      have hSB : S (W7.setCells gb 0 [.int .i64 y.me, .int .i64 y.kept.view, .int .i64 y.kept.normal, .bool y.kept.calm, .slice Y0 Yn Yc0, .int .i64 y.kept.commit, .slice Y1 y.have_.length Yc1, .slice Y2 y.wants.length Yc2, .slice Y3 y.gives.length Yc3, .slice Y4 y.given.length Yc4]) := by rw [hSd] at hS0 ⊢; exact fun q hq => (cells_far (by rcases hq with h | h <;> omega) _ 0 _).trans (hS0 q hq)
      refine hKB _ _ ⟨hSB, ?_⟩
      have hS0 := hSB
      (try simp only [Act.put, List.setIfInBounds_toArray, List.set_cons_zero, List.set_cons_succ])
      refine wpAnyH_done (by kernel_rfl) ?_ _
      (try simp only [Act.put, List.setIfInBounds_toArray, List.set_cons_zero, List.set_cons_succ])
      obtain ⟨W9, hW9⟩ : ∃ W, W = W7.setCells gb 0 [.int .i64 y.me, .int .i64 y.kept.view, .int .i64 y.kept.normal, .bool y.kept.calm, .slice Y0 Yn Yc0, .int .i64 y.kept.commit, .slice Y1 y.have_.length Yc1, .slice Y2 y.wants.length Yc2, .slice Y3 y.gives.length Yc3, .slice Y4 y.given.length Yc4] := ⟨_, rfl⟩
      have q2 : RepBox W9 gb y ∧ Same [9, 3, 4, 64, 89] 0 W7 W9 ∧ ∀ g' r', g' ≠ gb → RepBox W7 g' r' → RepBox W9 g' r' := by rw [hW9]; exact store_rep h2a h2i
      have q6 : Below w.heap.size w W9 := by rw [hW9]; exact below_sets (by omega) _ 0 _ _ q5
      change Exit.inBlock _ _ _ _ (W7.setCells gb 0 [.int .i64 y.me, .int .i64 y.kept.view, .int .i64 y.kept.normal, .bool y.kept.calm, .slice Y0 Yn Yc0, .int .i64 y.kept.commit, .slice Y1 y.have_.length Yc1, .slice Y2 y.wants.length Yc2, .slice Y3 y.gives.length Yc3, .slice Y4 y.given.length Yc4])
      rw [← hW9]
      have q3 := q2.2.2 _ _ (by omega) q1.1
      have HQ9 : Hid (RepBox W9 ga z ∧ RepBox W9 gb y ∧ Same [9, 3, 4, 64, 89] 0 W6 W9 ∧ Below w.heap.size w W9) := Lib.hid ⟨q3, q2.1, ((Same.drew W6).trans q1.2.1).trans q2.2.1, q6⟩
      clear hW9 q1 q2 q3 q5 q6 h2a h2i hS0 hSB hKB
      have HFIN := Lib.hid (show LeadW w W9 ga go gb j (some ⟨ge, oe, none⟩) ce es (k + 1) from ⟨⟨z, HQ9.out.1, by rw [HTK.out]; exact HZ.out.2⟩, ⟨y, HQ9.out.2.1, by rw [HTK.out]; exact HY.out.2⟩, blk_keep HW6.out.1 HQ9.out.2.2.1 (by simp), HW6.out.2.1.same (by simp) HQ9.out.2.2.1, HQ9.out.2.2.2⟩)
      go_wp2_with fail
      go_roundw
      case rel => first | exact ⟨k + 1, by omega, rfl, HFIN⟩ | ((repeat apply Exists.intro); exact ⟨⟨k + 1, by omega, rfl, HFIN⟩, rfl⟩)
      case measure => first | (simp only [intOf]; omega) | (simp [intOf]; omega)
    · have hkl' : k = es.length := by omega
      have hlt' : ¬ (k : Int) < (es.length : Int) := by omega
      have HF := Lib.hid HK.out.low
      go_wp2
      go_ret
      exact ⟨rfl, HF.out⟩
theorem lawLeadersLead_w (v : Value) (l : List Scu.Raw) {w : World} (h : IsRaws w w.heap.size v l) (n : Int) (hc : (Lit.int .i64 n).wf = true) (W : World) (hW : W = w) (ht : Tab W) :
    Calls Tryd.prog 8 #[v, .int .i64 n] W fun e w' => e = .returned (.bool true) ∧ Below W.heap.size W w' := by
  subst hW
  exact lawLeadersLead_c v l n (ini_of hc) W h ht
end Go.Proofs.YtfpiembhlgcelaaDoor

/- Part 2: words and walks under the law 'ViewsBegin'. -/
import Derived.Test.YtfpiembhlgcelaaDoorVwb1
import Derived.Test.YtfpiembhlgcelaaDoorLed26
import Derived.Test.YtfpiembhlgcelaaDoorLed23
import Derived.Test.YtfpiembhlgcelaaDoorLed24
import Derived.Test.YtfpiembhlgcelaaDoorLed21
import Derived.Test.YtfpiembhlgcelaaDoorLed7
import Derived.Deep.MidRow
set_option linter.unusedVariables false
set_option linter.unusedSimpArgs false
/- The law ViewsBegin, walked (printed by gen_vbw.py). -/
namespace Go.Proofs.YtfpiembhlgcelaaDoor
set_option linter.unusedVariables false
set_option linter.unusedSimpArgs false
open Go.RowKit
set_option maxHeartbeats 16000000
set_option maxRecDepth 100000

theorem genW {P : World → Prop} {W : World} (h : ∀ W', W' = W → P W') : P W := h W rfl
theorem joined {G R : Prop} (h : G → R) (g : G) : R := h g
def RepBox (w : World) (g : Nat) (r : Scu.Replica) : Prop := ∃ lu hv wv gv nv, Blk w g 81 (repV r lu hv wv gv nv).toArray ∧ IsRep w 0 lu hv wv gv nv r
theorem RepBox.below {w w' : World} {g : Nat} {r : Scu.Replica} (h : RepBox w g r) (hb : Below w.heap.size w w') : RepBox w' g r := by
  obtain ⟨lu, hv, wv, gv, nv, h1, h2⟩ := h
  exact ⟨lu, hv, wv, gv, nv, h1.same hb, h2.below hb⟩
theorem RepBox.get {w : World} {g : Nat} {r : Scu.Replica} (h : RepBox w g r) : ∃ F0 n0 q0 F1 q1 F2 q2 F3 q3 F4 q4, IsRep w 0 (.slice F0 n0 q0) (.slice F1 r.have_.length q1) (.slice F2 r.wants.length q2) (.slice F3 r.gives.length q3) (.slice F4 r.given.length q4) r ∧ g < w.heap.size ∧
    w.cell? ⟨g, 0, none⟩ = some (.int .i64 r.me) ∧ w.cell? ⟨g, 1, none⟩ = some (.int .i64 r.kept.view) ∧ w.cell? ⟨g, 2, none⟩ = some (.int .i64 r.kept.normal) ∧ w.cell? ⟨g, 3, none⟩ = some (.bool r.kept.calm) ∧ w.cell? ⟨g, 4, none⟩ = some (.slice F0 n0 q0) ∧ w.cell? ⟨g, 5, none⟩ = some (.int .i64 r.kept.commit) ∧
    w.cell? ⟨g, 6, none⟩ = some (.slice F1 r.have_.length q1) ∧ w.cell? ⟨g, 7, none⟩ = some (.slice F2 r.wants.length q2) ∧ w.cell? ⟨g, 8, none⟩ = some (.slice F3 r.gives.length q3) ∧ w.cell? ⟨g, 9, none⟩ = some (.slice F4 r.given.length q4) := by
  obtain ⟨lu, hv, wv, gv, nv, h1, h2⟩ := h
  obtain ⟨F0, n0, q0, F1, q1, F2, q2, F3, q3, F4, q4, rfl, rfl, rfl, rfl, rfl⟩ := h2.forms
  exact ⟨F0, n0, q0, F1, q1, F2, q2, F3, q3, F4, q4, h2, h1.lt, h1.cell 0, h1.cell 1, h1.cell 2, h1.cell 3, h1.cell 4, h1.cell 5, h1.cell 6, h1.cell 7, h1.cell 8, h1.cell 9⟩
theorem cells_far {g : Nat} {q : Addr} (h : q.block ≠ g) : ∀ (vs : List Value) (o : Nat) (w : World), (w.setCells g o vs).cell? q = w.cell? q
  | [], _, _ => rfl
  | v :: r, o, w => (cells_far h r (o + 1) _).trans (cell_far1 h)
theorem store_rep {W : World} {g : Nat} {r0 r : Scu.Replica} {lu hv wv gv nv : Value} (hB : RepBox W g r0) (hr : IsRep W 0 lu hv wv gv nv r) : RepBox (W.setCells g 0 (repV r lu hv wv gv nv)) g r ∧ Same [9, 3, 4, 64, 89] 0 W (W.setCells g 0 (repV r lu hv wv gv nv)) ∧
    ∀ g' r', g' ≠ g → RepBox W g' r' → RepBox (W.setCells g 0 (repV r lu hv wv gv nv)) g' r' := by
  obtain ⟨lu0, hv0, wv0, gv0, nv0, h1, h2⟩ := hB
  have hs : Same [9, 3, 4, 64, 89] 0 W (W.setCells g 0 (repV r lu hv wv gv nv)) := Same.sets _ 0 W _ h1 (by decide)
  refine ⟨⟨lu, hv, wv, gv, nv, blk_all h1 rfl, hr.same (hs.mono (by simp) (Nat.le_refl _))⟩, hs, fun g' r' hne h => ?_⟩
  obtain ⟨lu1, hv1, wv1, gv1, nv1, h3, h4⟩ := h
  exact ⟨lu1, hv1, wv1, gv1, nv1, blk_far_sets hne _ 0 W h3, h4.same (hs.mono (by simp) (Nat.le_refl _))⟩
theorem msgs_at {w : World} {A : Option Addr} {n c : Nat} {ms : List Scu.Message} (h : IsRow 89 8 80 MsgE w 0 (.slice A n c) ms) {k : Nat} (hk : k < ms.length) {m : Scu.Message} (e : ms[k] = m) :
    ∃ g o X nx cx, A = some ⟨g, o, none⟩ ∧ g < w.heap.size ∧ IsStrs w 0 (.slice X nx cx) m.log ∧ w.cell? ⟨g, o + k * 8, none⟩ = some (.int .i64 m.kind) ∧ w.cell? ⟨g, o + k * 8 + 1, none⟩ = some (.int .i64 m.from_) ∧ w.cell? ⟨g, o + k * 8 + 2, none⟩ = some (.int .i64 m.to) ∧ w.cell? ⟨g, o + k * 8 + 3, none⟩ = some (.int .i64 m.view) ∧
      w.cell? ⟨g, o + k * 8 + 4, none⟩ = some (.int .i64 m.normal) ∧ w.cell? ⟨g, o + k * 8 + 5, none⟩ = some (.int .i64 m.commit) ∧ w.cell? ⟨g, o + k * 8 + 6, none⟩ = some (.int .i64 m.n) ∧ w.cell? ⟨g, o + k * 8 + 7, none⟩ = some (.slice X nx cx) := by
  obtain ⟨⟨A', c', css2, e1, _, h2, h3, hrd, h4⟩, _⟩ := h
  cases e1
  obtain ⟨g, o, cs1, rfl, hg, _, hcell, xv, hcs, hxv⟩ := row_get h2 h3 (by decide) hrd h4 hk
  subst hcs
  rw [e] at hcell hxv
  obtain ⟨X, nx, cx, rfl⟩ := hxv.form
  exact ⟨g, o, X, nx, cx, rfl, hg, hxv, hcell 0 _ rfl, hcell 1 _ rfl, hcell 2 _ rfl, hcell 3 _ rfl, hcell 4 _ rfl, hcell 5 _ rfl, hcell 6 _ rfl, hcell 7 _ rfl⟩

theorem strs_take {w : World} {B : Nat} {A : Option Addr} {n c : Nat} {xs : List Scu.Str} (h : IsStrs w B (.slice A n c) xs) {k : Nat} (hk : k ≤ xs.length) : IsStrs w B (.slice A k c) (xs.take k) := by
  obtain ⟨⟨A', c', e, hc, hr⟩, h2, h3⟩ := h
  cases e
  have hl : (xs.take k).length = k := by rw [List.length_take]; omega
  refine ⟨⟨A, c, by rw [hl], by omega, ?_⟩, by rw [hl]; omega, fun s hs => h3 s (List.mem_of_mem_take hs)⟩
  rw [List.map_take]
  exact hr.take k
theorem msgs_far {w : World} {g o n c : Nat} {ms : List Scu.Message} (h : IsRow 89 8 80 MsgE w 0 (.slice (some ⟨g, o, none⟩) n c) ms) (hk : 0 < ms.length) {q : Nat} {r : Scu.Replica} (hq : RepBox w q r) : q ≠ g := by
  obtain ⟨⟨A', c', css, e1, _, h2, h3, hrd, h4⟩, _⟩ := h
  cases e1
  obtain ⟨lu, hv, wv, gv, nv, hb, _⟩ := hq
  rintro rfl
  rcases hrd with h0 | ⟨g', o', e, hg, hh, hc⟩
  · have hl : 0 < css.length := by omega
    have := flatten_get h3 (List.getElem?_eq_getElem hl) 0 (by decide)
    rw [h0] at this
    have h8 := h3 _ (List.getElem_mem hl)
    rw [List.getElem?_eq_getElem (by omega : 0 < css[0].length)] at this
    simp at this
  · cases e
    rcases hh with hh | ⟨C, fz, hh⟩
    · omega
    · unfold Blk at hb
      rw [hh] at hb
      cases hb
theorem RepBox.frozen {w : World} {g : Nat} {r : Scu.Replica} (h : RepBox w g r) : ∀ i, w.frozen? ⟨g, i, none⟩ = false := by
  obtain ⟨lu, hv, wv, gv, nv, h1, h2⟩ := h
  exact h1.frozen
theorem lawViewsBegin_c (v : Value) (l : List Scu.Raw) (n : Int) (hn : InI n) (w : World) (h : IsRaws w w.heap.size v l) (ht : Tab w) :
    Calls Tryd.prog 9 #[v, .int .i64 n] w fun e w' => e = .returned (.bool true) ∧ Below w.heap.size w w' := by
  obtain ⟨Al, cl, rfl, hll⟩ := h.form'
  have HL := Lib.hid h
  have HT := Lib.hid ht
  have HN := Lib.hid hn
  clear h ht hn
  go_enter Tryd.func9, Tryd.ntmps9
  go_wp2_with fail
  refine (requests_c _ l 12 w w.heap.size (Nat.le_refl _) HL.out HT.out (by decide)).mono ?_; rintro e w1 ⟨⟨A, c, css, rfl, ho⟩, b1⟩
  have hq : IsReqs w1 0 (.slice A (Scu.requests l 12).length c) (Scu.requests l 12) := ho.is
  have hok := Scu.requests_ok l 12 (by decide)
  have hlen : (Scu.requests l 12).length ≤ 12 := by rw [Scu.requests_length]; omega
  obtain ⟨qs, hqs⟩ : ∃ qs, Scu.requests l 12 = qs := ⟨_, rfl⟩
  rw [hqs] at hq hok hlen ⊢
  have hents := Scu.entries_ok hok
  have hel : (Scu.entries qs).length ≤ 12 := by rw [Scu.entries_length]; exact hlen
  have HOK := Lib.hid hok
  have HQ := Lib.hid hq
  clear hqs ho css hq hok HL HT
  go_wp2_with fail
  refine (entries_c _ qs w1 HQ.out HOK.out (by omega)).mono ?_; rintro e w2 ⟨⟨Ae, ce, rfl, he⟩, b2⟩
  obtain ⟨es, hes⟩ : ∃ es, Scu.entries qs = es := ⟨_, rfl⟩
  rw [hes] at he hents hel ⊢
  have hce : es.length ≤ ce := by obtain ⟨⟨A', c', e, h', _⟩, _⟩ := he; cases e; exact h'
  have HIN := Lib.hid (show Scu.AllIn es from fun e he => hents e he)
  have HB2 := Lib.hid (b1.trans (b2.mono b1.size))
  have HE := Lib.hid he
  clear he hents b1 b2 hes HQ HOK hlen
  have hp := Scu.picked_lt (n := n) (many := (es.length : Int) + 1) (by omega)
  have KP := Lib.hid (fun W => picked_c n ((es.length : Int) + 1) HN.out (by omega) (by omega) W)
  obtain ⟨k, hk⟩ : ∃ k : Nat, Scu.picked n ((es.length : Int) + 1) = k := ⟨(Scu.picked n ((es.length : Int) + 1)).toNat, by omega⟩
  rw [hk] at hp KP
  have hkl : k ≤ es.length := by omega
  have hkc : k ≤ ce := by omega
  have hwr : IntKind.i64.wrap ((es.length : Int) + 1) = (es.length : Int) + 1 := IntWalk.i64_in _ (by omega)
  clear hp hk HN
  go_wp2_with fail
  refine (KP.out _).mono ?_; rintro e w' ⟨rfl, rfl⟩
  clear KP
  have hl60 : es.length ≤ 60 := by omega
  have hin2 : Scu.AllIn (es.take k) := fun e he => HIN.out e (List.mem_of_mem_take he)
  have hlk : (es.take k).length ≤ 60 := by rw [List.length_take]; omega
  obtain ⟨L, hL⟩ : ∃ L, es.take k = L := ⟨_, rfl⟩
  have HLT := Lib.hid (show IsStrs w2 0 (.slice Ae k ce) L by rw [← hL]; exact strs_take HE.out hkl)
  rw [hL] at hin2 hlk
  obtain ⟨ld, hld, hldl⟩ := Scu.vb_hearG HIN.out hl60 hkl
  rw [hL] at hld
  have HNA := Lib.hid (Scu.vb_new (me := 1) (.inl rfl) hin2 hlk)
  have HNB := Lib.hid (Scu.vb_new (me := 2) (.inr rfl) HIN.out hl60)
  have HAL := Lib.hid (Scu.vb_alarm HIN.out hl60)
  have HHA := Lib.hid (Scu.vb_hearA hin2 hlk)
  have HHB := Lib.hid (Scu.vb_hearB HIN.out hl60)
  have HHG := Lib.hid hld
  have hldn : (ld.length : Int) = 2 := by rw [hldl]; rfl
  clear hld hldl hin2 hlk hL
  obtain ⟨ra, hra⟩ : ∃ r, Scu.vbA L = r := ⟨_, rfl⟩
  obtain ⟨rb, hrb⟩ : ∃ r, Scu.vbB es = r := ⟨_, rfl⟩
  obtain ⟨rb1, hrb1⟩ : ∃ r, Scu.vbB1 es = r := ⟨_, rfl⟩
  obtain ⟨rb2, hrb2⟩ : ∃ r, Scu.vbB2 es = r := ⟨_, rfl⟩
  obtain ⟨ra2, hra2⟩ : ∃ r, Scu.vbA2 L = r := ⟨_, rfl⟩
  obtain ⟨rc, hrc⟩ : ∃ r, Scu.vbC es = r := ⟨_, rfl⟩
  have HA2C := Lib.hid (show ra2.kept.calm = false by rw [← hra2]; rfl)
  have HCV := Lib.hid (show rc.kept.view = 1 ∧ rc.kept.log = es ∧ Scu.leads rc = true by rw [← hrc]; exact ⟨rfl, rfl, rfl⟩)
  have HNA : Hid (Scu.repNew 1 ⟨0, 0, true, L, 0⟩ = (ra, 0)) := by rw [← hra]; exact HNA
  have HNB : Hid (Scu.repNew 2 ⟨0, 0, true, es, 0⟩ = (rb, 0)) := by rw [← hrb]; exact HNB
  rw [hrb, hrb1] at HAL
  rw [hra, hra2] at HHA
  rw [hrb1, hrb2] at HHB
  rw [hra2, hrc] at HHG
  obtain ⟨ws, hws⟩ : ∃ ws, [Scu.wantMsg 2 0, Scu.wantMsg 2 1] = ws := ⟨_, rfl⟩
  obtain ⟨os, hos⟩ : ∃ ws, [Scu.wantMsg 1 0, Scu.wantMsg 1 2] = ws := ⟨_, rfl⟩
  obtain ⟨gs, hgs⟩ : ∃ ws, [Scu.giveMsg es] = ws := ⟨_, rfl⟩
  rw [hws] at HAL
  rw [hos] at HHA
  rw [hgs] at HHB
  have hwn : (ws.length : Int) = 2 := by rw [← hws]; rfl
  have hon : (os.length : Int) = 2 := by rw [← hos]; rfl
  have hgn : (gs.length : Int) = 1 := by rw [← hgs]; rfl
  have HW1 := Lib.hid (show ∃ h : 1 < ws.length, ws[1] = Scu.wantMsg 2 1 by subst hws; exact ⟨by simp, rfl⟩)
  have HO1 := Lib.hid (show ∃ h : 1 < os.length, os[1] = Scu.wantMsg 1 2 by subst hos; exact ⟨by simp, rfl⟩)
  have HG0 := Lib.hid (show ∃ h : 0 < gs.length, gs[0] = Scu.giveMsg es by subst hgs; exact ⟨by simp, rfl⟩)
  have HOI := Lib.hid (show idxI (fun m : Scu.Message => decide (m.to = 2) && decide (m.kind = 3)) os = 1 by rw [← hos]; rfl)
  clear hra hrb hrb1 hrb2 hra2 hrc hws hos hgs
  go_wp2_with fail
  refine (repNew_n Ae k ce 1 ⟨0, 0, true, L, 0⟩ w2 0 HLT.out ra 0 HNA.out).mono ?_; rintro e w3 ⟨⟨lu, hv, wv, gv, nv, rfl, hrp⟩, h3⟩
  obtain ⟨F0, Fn, Fc0, F1, Fc1, F2, Fc2, F3, Fc3, F4, Fc4, rfl, rfl, rfl, rfl, rfl⟩ := hrp.forms
  go_upto_region 4 with fail
  have hal := below_alloc w3 (Obj.cells #[.int .i64 ra.me, .int .i64 ra.kept.view, .int .i64 ra.kept.normal, .bool ra.kept.calm, .slice F0 Fn Fc0, .int .i64 ra.kept.commit, .slice F1 ra.have_.length Fc1, .slice F2 ra.wants.length Fc2, .slice F3 ra.gives.length Fc3, .slice F4 ra.given.length Fc4] 81)
  have hba : RepBox (w3.alloc (Obj.cells #[.int .i64 ra.me, .int .i64 ra.kept.view, .int .i64 ra.kept.normal, .bool ra.kept.calm, .slice F0 Fn Fc0, .int .i64 ra.kept.commit, .slice F1 ra.have_.length Fc1, .slice F2 ra.wants.length Fc2, .slice F3 ra.gives.length Fc3, .slice F4 ra.given.length Fc4] 81)) w3.heap.size ra := ⟨_, _, _, _, _, Blk.new w3 _ _, hrp.below hal⟩
  have hlo := h3.trans (hal.mono h3.size)
  have hgz := h3.size
  obtain ⟨Wa, hWa⟩ : ∃ W, W = w3.alloc (Obj.cells #[.int .i64 ra.me, .int .i64 ra.kept.view, .int .i64 ra.kept.normal, .bool ra.kept.calm, .slice F0 Fn Fc0, .int .i64 ra.kept.commit, .slice F1 ra.have_.length Fc1, .slice F2 ra.wants.length Fc2, .slice F3 ra.gives.length Fc3, .slice F4 ra.given.length Fc4] 81) := ⟨_, rfl⟩
  obtain ⟨ga, hga⟩ : ∃ g, w3.heap.size = g := ⟨_, rfl⟩
  rw [← hWa, hga] at hba
  rw [← hWa] at hlo
  rw [hga] at hgz
  rw [← hWa, hga]
  have hga1 : w.heap.size ≤ ga := Nat.le_trans HB2.out.size hgz
  have hgal : ga < Wa.heap.size := by obtain ⟨_, _, _, _, _, hh, _⟩ := hba; exact hh.lt
  have HBA := Lib.hid (And.intro hba hlo)
  clear hWa hga hba hlo hal hrp h3 hgz HLT
  go_wp2_with fail
  refine (repNew_n Ae es.length ce 2 ⟨0, 0, true, es, 0⟩ Wa 0 (HE.out.below HBA.out.2) rb 0 HNB.out).mono ?_; rintro e w3 ⟨⟨lu, hv, wv, gv, nv, rfl, hrp⟩, h3⟩
  obtain ⟨G0, Gn, Gc0, G1, Gc1, G2, Gc2, G3, Gc3, G4, Gc4, rfl, rfl, rfl, rfl, rfl⟩ := hrp.forms
  go_upto_region 5 with fail
  have hal := below_alloc w3 (Obj.cells #[.int .i64 rb.me, .int .i64 rb.kept.view, .int .i64 rb.kept.normal, .bool rb.kept.calm, .slice G0 Gn Gc0, .int .i64 rb.kept.commit, .slice G1 rb.have_.length Gc1, .slice G2 rb.wants.length Gc2, .slice G3 rb.gives.length Gc3, .slice G4 rb.given.length Gc4] 81)
  have hbb : RepBox (w3.alloc (Obj.cells #[.int .i64 rb.me, .int .i64 rb.kept.view, .int .i64 rb.kept.normal, .bool rb.kept.calm, .slice G0 Gn Gc0, .int .i64 rb.kept.commit, .slice G1 rb.have_.length Gc1, .slice G2 rb.wants.length Gc2, .slice G3 rb.gives.length Gc3, .slice G4 rb.given.length Gc4] 81)) w3.heap.size rb := ⟨_, _, _, _, _, Blk.new w3 _ _, hrp.below hal⟩
  have h3a := h3.trans (hal.mono h3.size)
  have hba := HBA.out.1.below h3a
  have hlo := HBA.out.2.trans (h3a.mono HBA.out.2.size)
  have hgz := h3.size
  obtain ⟨Wb, hWb⟩ : ∃ W, W = w3.alloc (Obj.cells #[.int .i64 rb.me, .int .i64 rb.kept.view, .int .i64 rb.kept.normal, .bool rb.kept.calm, .slice G0 Gn Gc0, .int .i64 rb.kept.commit, .slice G1 rb.have_.length Gc1, .slice G2 rb.wants.length Gc2, .slice G3 rb.gives.length Gc3, .slice G4 rb.given.length Gc4] 81) := ⟨_, rfl⟩
  obtain ⟨gb, hgb⟩ : ∃ g, w3.heap.size = g := ⟨_, rfl⟩
  rw [← hWb, hgb] at hbb
  rw [← hWb] at hba hlo
  rw [hgb] at hgz
  rw [← hWb, hgb]
  have hne : ga ≠ gb := by omega
  have hgb1 : w.heap.size ≤ gb := by omega
  have HAB := Lib.hid (And.intro hba (And.intro hbb (HB2.out.trans (hlo.mono HB2.out.size))))
  have HEB := Lib.hid (HE.out.below hlo)
  clear hWb hgb hba hbb hlo hal hrp h3 h3a hgz HBA hgal HE HB2
  obtain ⟨P0, Pn, Pc0, P1, Pc1, P2, Pc2, P3, Pc3, P4, Pc4, hiP, hlP, p0, p1, p2, p3, p4, p5, p6, p7, p8, p9⟩ := (HAB.out.2.1).get
  have HPI := Lib.hid hiP
  clear hiP
  go_wp2_with fail
  refine (alarm_n _ _ _ _ _ rb Wb 0 HPI.out rb1 ws 0 HAL.out).mono ?_; rintro e w4 ⟨⟨E0, En, Ec0, E1, Ec1, E2, Ec2, E3, Ec3, E4, Ec4, Ao, co, rfl, hrp, hms, -⟩, h4⟩
  have hbb4 := HAB.out.2.1.below h4
  have hfz := hbb4.frozen
  have HBB4 := Lib.hid hbb4
  obtain ⟨Q0, Qn, Qc0, Q1, Qc1, Q2, Qc2, Q3, Qc3, Q4, Qc4, hiQ, hlQ, q0, q1, q2, q3, q4, q5, q6, q7, q8, q9⟩ := (hbb4).get
  clear hiQ hbb4 p0 p1 p2 p3 p4 p5 p6 p7 p8 p9
  go_upto_region 6 with fail
  refine genW (P := fun W => Code.wp _ _ _ _ W) (fun W5 hW5 => ?_)
  have hW5' : W5 = w4.setCells gb 0 [.int .i64 rb1.me, .int .i64 rb1.kept.view, .int .i64 rb1.kept.normal, .bool rb1.kept.calm, .slice E0 En Ec0, .int .i64 rb1.kept.commit, .slice E1 rb1.have_.length Ec1, .slice E2 rb1.wants.length Ec2, .slice E3 rb1.gives.length Ec3, .slice E4 rb1.given.length Ec4] := hW5
  have q1 : RepBox W5 gb rb1 ∧ Same [9, 3, 4, 64, 89] 0 w4 W5 ∧ ∀ g' r', g' ≠ gb → RepBox w4 g' r' → RepBox W5 g' r' := by rw [hW5']; exact store_rep HBB4.out hrp
  have q5 : Below w.heap.size w W5 := by rw [hW5']; exact below_sets hgb1 _ 0 _ _ (HAB.out.2.2.trans (h4.mono HAB.out.2.2.size))
  have HAB5 := Lib.hid (And.intro (q1.2.2 _ _ hne (HAB.out.1.below h4)) (And.intro q1.1 (And.intro q5 (And.intro (IsMs.keep hms (q1.2.1.mono (by simp) (Nat.le_refl _))) ((HEB.out.below h4).same (by simp) q1.2.1)))))
  clear hW5 hW5' q1 q5 hms hrp h4 HAB HEB HPI HBB4 hfz q0 q2 q3 q4 q6 q7 q8 q9
  obtain ⟨hw1, hwe⟩ := HW1.out
  obtain ⟨gm, om, X, nx, cx, rfl, hgm, hxs, ma0, ma1, ma2, ma3, ma4, ma5, ma6, ma7⟩ := msgs_at HAB5.out.2.2.2.1 hw1 hwe
  have mb0 : W5.cell? ⟨gm, om + 8, none⟩ = _ := ma0
  have mb1 : W5.cell? ⟨gm, om + 9, none⟩ = _ := ma1
  have mb2 : W5.cell? ⟨gm, om + 10, none⟩ = _ := ma2
  have mb3 : W5.cell? ⟨gm, om + 11, none⟩ = _ := ma3
  have mb4 : W5.cell? ⟨gm, om + 12, none⟩ = _ := ma4
  have mb5 : W5.cell? ⟨gm, om + 13, none⟩ = _ := ma5
  have mb6 : W5.cell? ⟨gm, om + 14, none⟩ = _ := ma6
  have mb7 : W5.cell? ⟨gm, om + 15, none⟩ = _ := ma7
  have hxs5 := hxs
  dsimp only [Scu.wantMsg] at mb0 mb1 mb2 mb3 mb4 mb5 mb6 mb7 hxs5
  have hgne := msgs_far HAB5.out.2.2.2.1 (by omega) HAB5.out.1
  clear hwe ma0 ma1 ma2 ma3 ma4 ma5 ma6 ma7 hxs
  obtain ⟨X0, Xn, Xc0, X1, Xc1, X2, Xc2, X3, Xc3, X4, Xc4, hiX, hlX, xa0, xa1, xa2, xa3, xa4, xa5, xa6, xa7, xa8, xa9⟩ := (HAB5.out.1).get
  have HC := Lib.hid (fun (W : World) (hb : Below W5.heap.size W5 W) => hear_n _ _ _ _ _ _ ra (Scu.wantMsg 2 1) W 0 (hiX.below hb) (hxs5.below hb) ra2 os 0 HHA.out)
  dsimp only [Scu.wantMsg] at HC
  have hw12 : (1 : Int) < (ws.length : Int) := by omega
  clear hiX hxs5 hw1
  go_wp2_with fail
  obtain ⟨S, hSd⟩ : ∃ S : World → Prop, S = fun w' => ∀ q : Addr, q.block = gm → w'.cell? q = W5.cell? q := ⟨_, rfl⟩
  have hS0 : S W5.drew := by rw [hSd]; exact fun q _ => rfl
  refine wp_region_held (S := S) (by kernel_rfl) ?_
  change wpAnyH _ _ _ _ _ _ _ _ W5.drew
  refine wpAnyH_takeM (i := 1) (v := ?_) rfl (by kernel_rfl) (by kernel_rfl) (by kernel_rfl) (fun _ _ _ h => h) (Or.inl ⟨by rfl, ?_⟩) hS0 ?_
  rotate_left
  · (intro wv hSw; rw [hSd] at hSw; go_simp; (try with_reducible rfl))
  (try simp only [Act.put, List.setIfInBounds_toArray, List.set_cons_zero, List.set_cons_succ])
  refine wpAnyH_takeM (i := 2) (v := ?_) rfl (by kernel_rfl) (by kernel_rfl) (by kernel_rfl) (fun _ _ _ h => h) (Or.inl ⟨by rfl, ?_⟩) hS0 ?_
  rotate_left
  · (intro wv hSw; rw [hSd] at hSw; go_simp; (try with_reducible rfl))
  (try simp only [Act.put, List.setIfInBounds_toArray, List.set_cons_zero, List.set_cons_succ])
  refine wpAnyH_takeM (i := 3) (v := ?_) rfl (by kernel_rfl) (by kernel_rfl) (by kernel_rfl) (fun _ _ _ h => h) (Or.inl ⟨by rfl, ?_⟩) hS0 ?_
  rotate_left
  · (intro wv hSw; rw [hSd] at hSw; have t0 := (hSw ⟨gm, om + 8, none⟩ rfl).trans mb0; have t1 := (hSw ⟨gm, om + 9, none⟩ rfl).trans mb1; have t2 := (hSw ⟨gm, om + 10, none⟩ rfl).trans mb2; have t3 := (hSw ⟨gm, om + 11, none⟩ rfl).trans mb3; have t4 := (hSw ⟨gm, om + 12, none⟩ rfl).trans mb4; have t5 := (hSw ⟨gm, om + 13, none⟩ rfl).trans mb5; have t6 := (hSw ⟨gm, om + 14, none⟩ rfl).trans mb6; have t7 := (hSw ⟨gm, om + 15, none⟩ rfl).trans mb7; go_simp; (try with_reducible rfl))
  (try simp only [Act.put, List.setIfInBounds_toArray, List.set_cons_zero, List.set_cons_succ])
  refine wpAnyH_all (rs := [0]) (by kernel_rfl) (by simp) ?_
  intro ii hii
  rw [List.mem_singleton] at hii
  subst hii
  refine wpOp_step (o := _) rfl (fun K0 hK0 => ?_)
  go_simp
  refine hK0 _ _ ⟨hS0, ?_⟩
  (try simp only [Act.put, List.setIfInBounds_toArray, List.set_cons_zero, List.set_cons_succ])
  refine wpAnyH_all (rs := [4]) (by kernel_rfl) (by simp) ?_
  intro ii hii
  rw [List.mem_singleton] at hii
  subst hii
  refine wpOp_step (o := _) rfl (fun KS hKS => ?_)
  go_simp
  have dd : Below W5.heap.size W5 W5.drew := (Below.refl _ _).drew
  refine (HC.out _ dd).mono ?_; rintro en x9 ⟨⟨E0, m0, z0, E1, z1, E2, z2, E3, z3, E4, z4, Ax, cx9, rfl, hrp, hms, hap⟩, k1⟩
  have nn1 := dd.trans (k1.mono dd.size)
  have hba9 := HAB5.out.1.below nn1
  have hS0 : S x9 := by rw [hSd]; exact fun q hq => nn1.cell (p := q) (by rw [hq]; exact hgm)
  refine hKS _ _ ⟨hS0, ?_⟩
  clear hKS hK0 k1 hap dd
  (try simp only [Act.put, List.setIfInBounds_toArray, List.set_cons_zero, List.set_cons_succ])
  refine wpAnyH_takeM (i := 5) (v := ?_) rfl (by kernel_rfl) (by kernel_rfl) (by kernel_rfl) (fun _ _ _ h => h) (Or.inl ⟨by rfl, ?_⟩) hS0 ?_
  rotate_left
  · (intro wv hSw; rw [hSd] at hSw; go_simp; (try with_reducible rfl))
  (try simp only [Act.put, List.setIfInBounds_toArray, List.set_cons_zero, List.set_cons_succ])
  refine wpAnyH_takeM (i := 6) (v := ?_) rfl (by kernel_rfl) (by kernel_rfl) (by kernel_rfl) (fun _ _ _ h => h) (Or.inl ⟨by rfl, ?_⟩) hS0 ?_
  rotate_left
  · (intro wv hSw; rw [hSd] at hSw; go_simp; (try with_reducible rfl))
  (try simp only [Act.put, List.setIfInBounds_toArray, List.set_cons_zero, List.set_cons_succ])
  refine wpAnyH_takeM (i := 7) (v := ?_) rfl (by kernel_rfl) (by kernel_rfl) (by kernel_rfl) (fun _ _ _ h => h) (Or.inl ⟨by rfl, ?_⟩) hS0 ?_
  rotate_left
  · (intro wv hSw; rw [hSd] at hSw; go_simp; (try with_reducible rfl))
  (try simp only [Act.put, List.setIfInBounds_toArray, List.set_cons_zero, List.set_cons_succ])
  refine wpAnyH_takeM (i := 8) (v := ?_) rfl (by kernel_rfl) (by kernel_rfl) (by kernel_rfl) (fun _ _ _ h => h) (Or.inl ⟨by rfl, ?_⟩) hS0 ?_
  rotate_left
  · (intro wv hSw; rw [hSd] at hSw; go_simp; (try with_reducible rfl))
  (try simp only [Act.put, List.setIfInBounds_toArray, List.set_cons_zero, List.set_cons_succ])
  refine wpAnyH_all (rs := [9]) (by kernel_rfl) (by simp) ?_
  intro ii hii
  rw [List.mem_singleton] at hii
  subst hii
  refine wpOp_step (o := _) rfl (fun KB hKB => ?_)
  rw [if_pos (by rfl)]
  refine wp_store_mid 81 (.tmp 7) (.tmp 78) rfl ga 0 #[.int .i64 ra2.me, .int .i64 ra2.kept.view, .int .i64 ra2.kept.normal, .bool ra2.kept.calm, .slice E0 m0 z0, .int .i64 ra2.kept.commit, .slice E1 ra2.have_.length z1, .slice E2 ra2.wants.length z2, .slice E3 ra2.gives.length z3, .slice E4 ra2.given.length z4] rfl rfl (by obtain ⟨_, _, _, _, _, q1, _⟩ := hba9; exact blk_there q1) (by kernel_rfl) (all_oneCell_toArray (rep_one hrp)) ?_
  have hSB : S (x9.setCells ga 0 [.int .i64 ra2.me, .int .i64 ra2.kept.view, .int .i64 ra2.kept.normal, .bool ra2.kept.calm, .slice E0 m0 z0, .int .i64 ra2.kept.commit, .slice E1 ra2.have_.length z1, .slice E2 ra2.wants.length z2, .slice E3 ra2.gives.length z3, .slice E4 ra2.given.length z4]) := by rw [hSd] at hS0 ⊢; exact fun q hq => (cells_far (by rw [hq]; exact hgne.symm) _ 0 _).trans (hS0 q hq)
  refine hKB _ _ ⟨hSB, ?_⟩
  have hS0 := hSB
  (try simp only [Act.put, List.setIfInBounds_toArray, List.set_cons_zero, List.set_cons_succ])
  obtain ⟨W6, hW6⟩ : ∃ W, W = x9.setCells ga 0 [.int .i64 ra2.me, .int .i64 ra2.kept.view, .int .i64 ra2.kept.normal, .bool ra2.kept.calm, .slice E0 m0 z0, .int .i64 ra2.kept.commit, .slice E1 ra2.have_.length z1, .slice E2 ra2.wants.length z2, .slice E3 ra2.gives.length z3, .slice E4 ra2.given.length z4] := ⟨_, rfl⟩
  have q1 : RepBox W6 ga ra2 ∧ Same [9, 3, 4, 64, 89] 0 x9 W6 ∧ ∀ g' r', g' ≠ ga → RepBox x9 g' r' → RepBox W6 g' r' := by rw [hW6]; exact store_rep hba9 hrp
  have q5 : Below w.heap.size w W6 := by rw [hW6]; exact below_sets hga1 _ 0 _ _ (HAB5.out.2.2.1.trans (nn1.mono HAB5.out.2.2.1.size))
  change wpAnyH _ _ _ _ _ _ _ _ (x9.setCells ga 0 [.int .i64 ra2.me, .int .i64 ra2.kept.view, .int .i64 ra2.kept.normal, .bool ra2.kept.calm, .slice E0 m0 z0, .int .i64 ra2.kept.commit, .slice E1 ra2.have_.length z1, .slice E2 ra2.wants.length z2, .slice E3 ra2.gives.length z3, .slice E4 ra2.given.length z4])
  rw [← hW6] at hS0 ⊢
  have HAB6 := Lib.hid (And.intro q1.1 (And.intro (q1.2.2 _ _ hne.symm (HAB5.out.2.1.below nn1)) (And.intro q5 (And.intro (IsMs.keep hms (q1.2.1.mono (by simp) (Nat.le_refl _))) ((HAB5.out.2.2.2.2.below nn1).same (by simp) q1.2.1)))))
  clear hW6 hSB q1 q5 hba9 nn1 hms hrp hKB
  refine wpAnyH_takeM (i := 10) (v := ?_) rfl (by kernel_rfl) (by kernel_rfl) (by kernel_rfl) (fun _ _ _ h => h) (Or.inl ⟨by rfl, ?_⟩) hS0 ?_
  rotate_left
  · (intro wv hSw; rw [hSd] at hSw; go_simp; (try with_reducible rfl))
  (try simp only [Act.put, List.setIfInBounds_toArray, List.set_cons_zero, List.set_cons_succ])
  refine wpAnyH_takeM (i := 11) (v := ?_) rfl (by kernel_rfl) (by kernel_rfl) (by kernel_rfl) (fun _ _ _ h => h) (Or.inl ⟨by rfl, ?_⟩) hS0 ?_
  rotate_left
  · (intro wv hSw; rw [hSd] at hSw; go_simp; (try with_reducible rfl))
  (try simp only [Act.put, List.setIfInBounds_toArray, List.set_cons_zero, List.set_cons_succ])
  refine wpAnyH_done (by kernel_rfl) ?_ _
  (try simp only [Act.put, List.setIfInBounds_toArray, List.set_cons_zero, List.set_cons_succ])
  clear hS0 hSd HC HAB5 mb0 mb1 mb2 mb3 mb4 mb5 mb6 mb7 hgne hgm xa0 xa1 xa2 xa3 xa4 xa5 xa6 xa7 xa8 xa9
  obtain ⟨X0, Xn, Xc0, X1, Xc1, X2, Xc2, X3, Xc3, X4, Xc4, hiX, hlX, xb0, xb1, xb2, xb3, xb4, xb5, xb6, xb7, xb8, xb9⟩ := (HAB6.out.1).get
  rw [HA2C.out] at xb3
  clear hiX
  go_wp2_with fail
  refine (idxView_c _ os W6 HAB6.out.2.2.2.1).mono ?_; rintro e w7 ⟨rfl, h7⟩
  rw [HOI.out]
  have HAB7 := Lib.hid (And.intro (HAB6.out.1.below h7) (And.intro (HAB6.out.2.1.below h7) (And.intro (HAB6.out.2.2.1.trans (h7.mono HAB6.out.2.2.1.size)) (And.intro (IsMs.below HAB6.out.2.2.2.1 h7) (HAB6.out.2.2.2.2.below h7)))))
  clear h7 HAB6 xb0 xb1 xb2 xb3 xb4 xb5 xb6 xb7 xb8 xb9
  go_upto_region 14 with fail
  obtain ⟨ho1, hoe⟩ := HO1.out
  obtain ⟨gm2, om2, X2, nx2, cx2, rfl, hgm2, hxs2, ma0, ma1, ma2, ma3, ma4, ma5, ma6, ma7⟩ := msgs_at HAB7.out.2.2.2.1 ho1 hoe
  have mb0 : w7.cell? ⟨gm2, om2 + 8, none⟩ = _ := ma0
  have mb1 : w7.cell? ⟨gm2, om2 + 9, none⟩ = _ := ma1
  have mb2 : w7.cell? ⟨gm2, om2 + 10, none⟩ = _ := ma2
  have mb3 : w7.cell? ⟨gm2, om2 + 11, none⟩ = _ := ma3
  have mb4 : w7.cell? ⟨gm2, om2 + 12, none⟩ = _ := ma4
  have mb5 : w7.cell? ⟨gm2, om2 + 13, none⟩ = _ := ma5
  have mb6 : w7.cell? ⟨gm2, om2 + 14, none⟩ = _ := ma6
  have mb7 : w7.cell? ⟨gm2, om2 + 15, none⟩ = _ := ma7
  dsimp only [Scu.wantMsg] at mb0 mb1 mb2 mb3 mb4 mb5 mb6 mb7 hxs2
  clear hoe ma0 ma1 ma2 ma3 ma4 ma5 ma6 ma7 ho1
  obtain ⟨Y0, Yn, Yc0, Y1, Yc1, Y2, Yc2, Y3, Yc3, Y4, Yc4, hiY, hlY, xc0, xc1, xc2, xc3, xc4, xc5, xc6, xc7, xc8, xc9⟩ := (HAB7.out.2.1).get
  have HC := Lib.hid (fun (W : World) (hb : Below w7.heap.size w7 W) => hear_n _ _ _ _ _ _ rb1 (Scu.wantMsg 1 2) W 0 (hiY.below hb) (hxs2.below hb) rb2 gs 0 HHB.out)
  dsimp only [Scu.wantMsg] at HC
  have ho12 : (1 : Int) < (os.length : Int) := by omega
  clear hiY hxs2
  go_wp2_with fail
  refine joined (G := ?G) (fun key => ?first) ?rest
  case first =>
    obtain ⟨S, hSd⟩ : ∃ S : World → Prop, S = fun w' => Below w7.heap.size w7 w' := ⟨_, rfl⟩
    have hS0 : S w7.drew := by rw [hSd]; exact (Below.refl _ _).drew
    refine wp_region_held (S := S) (by kernel_rfl) ?_
    change wpAnyH _ _ _ _ _ _ _ _ w7.drew
    refine wpAnyH_takeM (i := 0) (v := ?_) rfl (by kernel_rfl) (by kernel_rfl) (by kernel_rfl) (fun _ _ _ h => h) (Or.inl ⟨by rfl, ?_⟩) hS0 ?_
    rotate_left
    · (intro wv hSw; rw [hSd] at hSw; have s0 := (hSw.cell (p := ⟨gb, 0, none⟩) hlY).trans xc0; have s1 := (hSw.cell (p := ⟨gb, 1, none⟩) hlY).trans xc1; have s2 := (hSw.cell (p := ⟨gb, 2, none⟩) hlY).trans xc2; have s3 := (hSw.cell (p := ⟨gb, 3, none⟩) hlY).trans xc3; have s4 := (hSw.cell (p := ⟨gb, 4, none⟩) hlY).trans xc4; have s5 := (hSw.cell (p := ⟨gb, 5, none⟩) hlY).trans xc5; have s6 := (hSw.cell (p := ⟨gb, 6, none⟩) hlY).trans xc6; have s7 := (hSw.cell (p := ⟨gb, 7, none⟩) hlY).trans xc7; have s8 := (hSw.cell (p := ⟨gb, 8, none⟩) hlY).trans xc8; have s9 := (hSw.cell (p := ⟨gb, 9, none⟩) hlY).trans xc9; go_simp; (try with_reducible rfl))
    (try simp only [Act.put, List.setIfInBounds_toArray, List.set_cons_zero, List.set_cons_succ])
    refine wpAnyH_takeM (i := 1) (v := ?_) rfl (by kernel_rfl) (by kernel_rfl) (by kernel_rfl) (fun _ _ _ h => h) (Or.inl ⟨by rfl, ?_⟩) hS0 ?_
    rotate_left
    · (intro wv hSw; rw [hSd] at hSw; go_simp; (try with_reducible rfl))
    (try simp only [Act.put, List.setIfInBounds_toArray, List.set_cons_zero, List.set_cons_succ])
    refine wpAnyH_takeM (i := 2) (v := ?_) rfl (by kernel_rfl) (by kernel_rfl) (by kernel_rfl) (fun _ _ _ h => h) (Or.inl ⟨by rfl, ?_⟩) hS0 ?_
    rotate_left
    · (intro wv hSw; rw [hSd] at hSw; go_simp; (try with_reducible rfl))
    (try simp only [Act.put, List.setIfInBounds_toArray, List.set_cons_zero, List.set_cons_succ])
    refine wpAnyH_takeM (i := 3) (v := ?_) rfl (by kernel_rfl) (by kernel_rfl) (by kernel_rfl) (fun _ _ _ h => h) (Or.inl ⟨by rfl, ?_⟩) hS0 ?_
    rotate_left
    · (intro wv hSw; rw [hSd] at hSw; go_simp; (try with_reducible rfl))
    (try simp only [Act.put, List.setIfInBounds_toArray, List.set_cons_zero, List.set_cons_succ])
    refine wpAnyH_takeM (i := 4) (v := ?_) rfl (by kernel_rfl) (by kernel_rfl) (by kernel_rfl) (fun _ _ _ h => h) (Or.inl ⟨by rfl, ?_⟩) hS0 ?_
    rotate_left
    · (intro wv hSw; rw [hSd] at hSw; have t0 := (hSw.cell (p := ⟨gm2, om2 + 8, none⟩) hgm2).trans mb0; have t1 := (hSw.cell (p := ⟨gm2, om2 + 9, none⟩) hgm2).trans mb1; have t2 := (hSw.cell (p := ⟨gm2, om2 + 10, none⟩) hgm2).trans mb2; have t3 := (hSw.cell (p := ⟨gm2, om2 + 11, none⟩) hgm2).trans mb3; have t4 := (hSw.cell (p := ⟨gm2, om2 + 12, none⟩) hgm2).trans mb4; have t5 := (hSw.cell (p := ⟨gm2, om2 + 13, none⟩) hgm2).trans mb5; have t6 := (hSw.cell (p := ⟨gm2, om2 + 14, none⟩) hgm2).trans mb6; have t7 := (hSw.cell (p := ⟨gm2, om2 + 15, none⟩) hgm2).trans mb7; go_simp; (try with_reducible rfl))
    (try simp only [Act.put, List.setIfInBounds_toArray, List.set_cons_zero, List.set_cons_succ])
    refine wpAnyH_all (rs := [5, 10]) (by kernel_rfl) (by simp) ?_
    intro ii hii
    simp only [List.mem_cons, List.not_mem_nil, or_false] at hii
    rcases hii with rfl | rfl
    · refine wpOp_step (o := _) rfl (fun KS hKS => ?_)
      go_simp
      have dd : Below w7.heap.size w7 w7.drew := (Below.refl _ _).drew
      refine (HC.out _ dd).mono ?_; rintro en x1 ⟨⟨E0, m0, z0, E1, z1, E2, z2, E3, z3, E4, z4, Ao, co, rfl, hrp, hms, hap⟩, k1⟩
      have nn1 := dd.trans (k1.mono dd.size)
      have M1 := Lib.hid nn1
      have HRP := Lib.hid (And.intro hrp hms)
      have hS0 : S x1 := by rw [hSd]; exact nn1
      refine hKS _ _ ⟨hS0, ?_⟩
      clear hKS nn1 k1 hrp hms hap dd
      (try simp only [Act.put, List.setIfInBounds_toArray, List.set_cons_zero, List.set_cons_succ])
      refine wpAnyH_takeM (i := 6) (v := ?_) rfl (by kernel_rfl) (by kernel_rfl) (by kernel_rfl) (fun _ _ _ h => h) (Or.inl ⟨by rfl, ?_⟩) hS0 ?_
      rotate_left
      · (intro wv hSw; rw [hSd] at hSw; go_simp; (try with_reducible rfl))
      (try simp only [Act.put, List.setIfInBounds_toArray, List.set_cons_zero, List.set_cons_succ])
      refine wpAnyH_takeM (i := 7) (v := ?_) rfl (by kernel_rfl) (by kernel_rfl) (by kernel_rfl) (fun _ _ _ h => h) (Or.inl ⟨by rfl, ?_⟩) hS0 ?_
      rotate_left
      · (intro wv hSw; rw [hSd] at hSw; go_simp; (try with_reducible rfl))
      (try simp only [Act.put, List.setIfInBounds_toArray, List.set_cons_zero, List.set_cons_succ])
      refine wpAnyH_takeM (i := 8) (v := ?_) rfl (by kernel_rfl) (by kernel_rfl) (by kernel_rfl) (fun _ _ _ h => h) (Or.inl ⟨by rfl, ?_⟩) hS0 ?_
      rotate_left
      · (intro wv hSw; rw [hSd] at hSw; go_simp; (try with_reducible rfl))
      (try simp only [Act.put, List.setIfInBounds_toArray, List.set_cons_zero, List.set_cons_succ])
      refine wpAnyH_takeM (i := 9) (v := ?_) rfl (by kernel_rfl) (by kernel_rfl) (by kernel_rfl) (fun _ _ _ h => h) (Or.inl ⟨by rfl, ?_⟩) hS0 ?_
      rotate_left
      · (intro wv hSw; rw [hSd] at hSw; go_simp; (try with_reducible rfl))
      (try simp only [Act.put, List.setIfInBounds_toArray, List.set_cons_zero, List.set_cons_succ])
      refine wpAnyH_all (rs := [10]) (by kernel_rfl) (by simp) ?_
      intro ii hii
      rw [List.mem_singleton] at hii
      subst hii
      refine wpOp_step (o := _) rfl (fun KA hKA => ?_)
      go_simp
      have hS0 : S (x1.alloc (Obj.cells #[.int .i64 0, .int .i64 0, .int .i64 0, .bool false, .slice none 0 0, .int .i64 0, .slice none 0 0, .slice none 0 0, .slice none 0 0, .slice none 0 0] 81)) := by rw [hSd]; exact M1.out.alloc M1.out.size _
      refine hKA _ _ ⟨hS0, ?_⟩
      (try simp only [Act.put, List.setIfInBounds_toArray, List.set_cons_zero, List.set_cons_succ])
      refine wpAnyH_all (rs := [11]) (by kernel_rfl) (by simp) ?_
      intro ii hii
      rw [List.mem_singleton] at hii
      subst hii
      refine wpOp_step (o := _) rfl (fun KB hKB => ?_)
      rw [if_pos (by rfl)]
      refine wp_store_mid 81 (.tmp 16) (.tmp 99) rfl x1.heap.size 0 #[.int .i64 rb2.me, .int .i64 rb2.kept.view, .int .i64 rb2.kept.normal, .bool rb2.kept.calm, .slice E0 m0 z0, .int .i64 rb2.kept.commit, .slice E1 rb2.have_.length z1, .slice E2 rb2.wants.length z2, .slice E3 rb2.gives.length z3, .slice E4 rb2.given.length z4] rfl rfl (blk_there (Blk.new x1 81 #[.int .i64 0, .int .i64 0, .int .i64 0, .bool false, .slice none 0 0, .int .i64 0, .slice none 0 0, .slice none 0 0, .slice none 0 0, .slice none 0 0])) (by kernel_rfl) (all_oneCell_toArray (rep_one HRP.out.1)) ?_
      have hSB : S ((x1.alloc (Obj.cells #[.int .i64 0, .int .i64 0, .int .i64 0, .bool false, .slice none 0 0, .int .i64 0, .slice none 0 0, .slice none 0 0, .slice none 0 0, .slice none 0 0] 81)).setCells x1.heap.size 0 [.int .i64 rb2.me, .int .i64 rb2.kept.view, .int .i64 rb2.kept.normal, .bool rb2.kept.calm, .slice E0 m0 z0, .int .i64 rb2.kept.commit, .slice E1 rb2.have_.length z1, .slice E2 rb2.wants.length z2, .slice E3 rb2.gives.length z3, .slice E4 rb2.given.length z4]) := by rw [hSd] at hS0 ⊢; exact below_sets M1.out.size _ 0 _ _ hS0
      refine hKB _ _ ⟨hSB, ?_⟩
      have hS0 := hSB
      (try simp only [Act.put, List.setIfInBounds_toArray, List.set_cons_zero, List.set_cons_succ])
      change wpAnyH _ _ _ _ _ _ _ _ ((x1.alloc (Obj.cells #[.int .i64 0, .int .i64 0, .int .i64 0, .bool false, .slice none 0 0, .int .i64 0, .slice none 0 0, .slice none 0 0, .slice none 0 0, .slice none 0 0] 81)).setCells x1.heap.size 0 [.int .i64 rb2.me, .int .i64 rb2.kept.view, .int .i64 rb2.kept.normal, .bool rb2.kept.calm, .slice E0 m0 z0, .int .i64 rb2.kept.commit, .slice E1 rb2.have_.length z1, .slice E2 rb2.wants.length z2, .slice E3 rb2.gives.length z3, .slice E4 rb2.given.length z4])
      refine wpAnyH_takeM (i := 12) (v := ?_) rfl (by kernel_rfl) (by kernel_rfl) (by kernel_rfl) (fun _ _ _ h => h) (Or.inl ⟨by rfl, ?_⟩) hS0 ?_
      rotate_left
      · (intro wv hSw; rw [hSd] at hSw; go_simp; (try with_reducible rfl))
      (try simp only [Act.put, List.setIfInBounds_toArray, List.set_cons_zero, List.set_cons_succ])
      refine wpAnyH_takeM (i := 13) (v := ?_) rfl (by kernel_rfl) (by kernel_rfl) (by kernel_rfl) (fun _ _ _ h => h) (Or.inl ⟨by rfl, ?_⟩) hS0 ?_
      rotate_left
      · (intro wv hSw; rw [hSd] at hSw; go_simp; (try with_reducible rfl))
      (try simp only [Act.put, List.setIfInBounds_toArray, List.set_cons_zero, List.set_cons_succ])
      refine wpAnyH_done (by kernel_rfl) ?_ _
      (try simp only [Act.put, List.setIfInBounds_toArray, List.set_cons_zero, List.set_cons_succ])
      obtain ⟨gq, hgq⟩ : ∃ g, x1.heap.size = g := ⟨_, rfl⟩
      obtain ⟨W3, hW3⟩ : ∃ W, W = (x1.alloc (Obj.cells #[.int .i64 0, .int .i64 0, .int .i64 0, .bool false, .slice none 0 0, .int .i64 0, .slice none 0 0, .slice none 0 0, .slice none 0 0, .slice none 0 0] 81)).setCells x1.heap.size 0 [.int .i64 rb2.me, .int .i64 rb2.kept.view, .int .i64 rb2.kept.normal, .bool rb2.kept.calm, .slice E0 m0 z0, .int .i64 rb2.kept.commit, .slice E1 rb2.have_.length z1, .slice E2 rb2.wants.length z2, .slice E3 rb2.gives.length z3, .slice E4 rb2.given.length z4] := ⟨_, rfl⟩
      have HQ : Hid (Below w7.heap.size w7 W3 ∧ Blk W3 gq 81 #[.int .i64 rb2.me, .int .i64 rb2.kept.view, .int .i64 rb2.kept.normal, .bool rb2.kept.calm, .slice E0 m0 z0, .int .i64 rb2.kept.commit, .slice E1 rb2.have_.length z1, .slice E2 rb2.wants.length z2, .slice E3 rb2.gives.length z3, .slice E4 rb2.given.length z4] ∧ IsRep W3 0 (.slice E0 m0 z0) (.slice E1 rb2.have_.length z1) (.slice E2 rb2.wants.length z2) (.slice E3 rb2.gives.length z3) (.slice E4 rb2.given.length z4) rb2 ∧ IsRow 89 8 80 MsgE W3 0 (.slice Ao gs.length co) gs ∧ w7.heap.size ≤ gq) := by rw [hW3, ← hgq]; have q0 := boxed_rep HRP.out.1 HRP.out.2 (M1.out.alloc M1.out.size _) (Blk.new x1 81 #[.int .i64 0, .int .i64 0, .int .i64 0, .bool false, .slice none 0 0, .int .i64 0, .slice none 0 0, .slice none 0 0, .slice none 0 0, .slice none 0 0]) M1.out.size (below_alloc x1 _); exact Lib.hid ⟨q0.1, q0.2.1, q0.2.2.1, q0.2.2.2, M1.out.size⟩
      change Exit.then _ _ _ _ ((x1.alloc (Obj.cells #[.int .i64 0, .int .i64 0, .int .i64 0, .bool false, .slice none 0 0, .int .i64 0, .slice none 0 0, .slice none 0 0, .slice none 0 0, .slice none 0 0] 81)).setCells x1.heap.size 0 [.int .i64 rb2.me, .int .i64 rb2.kept.view, .int .i64 rb2.kept.normal, .bool rb2.kept.calm, .slice E0 m0 z0, .int .i64 rb2.kept.commit, .slice E1 rb2.have_.length z1, .slice E2 rb2.wants.length z2, .slice E3 rb2.gives.length z3, .slice E4 rb2.given.length z4])
      rw [← hW3]
      rw [hgq]
      clear hW3 hgq hS0 hSB hSd hKA hKB HRP M1
      revert HQ
      revert W3 gq
      revert E0 m0 z0 E1 z1 E2 z2 E3 z3 E4 z4 Ao co
      exact key
    · refine wpOp_step (o := _) rfl (fun KA hKA => ?_)
      go_simp
      have dd : Below w7.heap.size w7 (w7.drew.alloc (Obj.cells #[.int .i64 0, .int .i64 0, .int .i64 0, .bool false, .slice none 0 0, .int .i64 0, .slice none 0 0, .slice none 0 0, .slice none 0 0, .slice none 0 0] 81)) := (Below.refl _ _).drew.alloc (Nat.le_refl _) _
      have hS0 : S (w7.drew.alloc (Obj.cells #[.int .i64 0, .int .i64 0, .int .i64 0, .bool false, .slice none 0 0, .int .i64 0, .slice none 0 0, .slice none 0 0, .slice none 0 0, .slice none 0 0] 81)) := by rw [hSd]; exact dd
      refine hKA _ _ ⟨hS0, ?_⟩
      (try simp only [Act.put, List.setIfInBounds_toArray, List.set_cons_zero, List.set_cons_succ])
      refine wpAnyH_all (rs := [5]) (by kernel_rfl) (by simp) ?_
      intro ii hii
      rw [List.mem_singleton] at hii
      subst hii
      refine wpOp_step (o := _) rfl (fun KS hKS => ?_)
      go_simp
      refine (HC.out _ dd).mono ?_; rintro en x1 ⟨⟨E0, m0, z0, E1, z1, E2, z2, E3, z3, E4, z4, Ao, co, rfl, hrp, hms, hap⟩, k1⟩
      have nn1 := dd.trans (k1.mono dd.size)
      have M1 := Lib.hid nn1
      have HRP := Lib.hid (And.intro hrp hms)
      have HZ := Lib.hid ((Blk.new' (w := w7.drew) (g := w7.heap.size) (t := 81) (cs := #[.int .i64 0, .int .i64 0, .int .i64 0, .bool false, .slice none 0 0, .int .i64 0, .slice none 0 0, .slice none 0 0, .slice none 0 0, .slice none 0 0]) rfl).same k1)
      have hS0 : S x1 := by rw [hSd]; exact nn1
      refine hKS _ _ ⟨hS0, ?_⟩
      clear hKS nn1 k1 hrp hms hap dd
      (try simp only [Act.put, List.setIfInBounds_toArray, List.set_cons_zero, List.set_cons_succ])
      refine wpAnyH_takeM (i := 6) (v := ?_) rfl (by kernel_rfl) (by kernel_rfl) (by kernel_rfl) (fun _ _ _ h => h) (Or.inl ⟨by rfl, ?_⟩) hS0 ?_
      rotate_left
      · (intro wv hSw; rw [hSd] at hSw; go_simp; (try with_reducible rfl))
      (try simp only [Act.put, List.setIfInBounds_toArray, List.set_cons_zero, List.set_cons_succ])
      refine wpAnyH_takeM (i := 7) (v := ?_) rfl (by kernel_rfl) (by kernel_rfl) (by kernel_rfl) (fun _ _ _ h => h) (Or.inl ⟨by rfl, ?_⟩) hS0 ?_
      rotate_left
      · (intro wv hSw; rw [hSd] at hSw; go_simp; (try with_reducible rfl))
      (try simp only [Act.put, List.setIfInBounds_toArray, List.set_cons_zero, List.set_cons_succ])
      refine wpAnyH_takeM (i := 8) (v := ?_) rfl (by kernel_rfl) (by kernel_rfl) (by kernel_rfl) (fun _ _ _ h => h) (Or.inl ⟨by rfl, ?_⟩) hS0 ?_
      rotate_left
      · (intro wv hSw; rw [hSd] at hSw; go_simp; (try with_reducible rfl))
      (try simp only [Act.put, List.setIfInBounds_toArray, List.set_cons_zero, List.set_cons_succ])
      refine wpAnyH_takeM (i := 9) (v := ?_) rfl (by kernel_rfl) (by kernel_rfl) (by kernel_rfl) (fun _ _ _ h => h) (Or.inl ⟨by rfl, ?_⟩) hS0 ?_
      rotate_left
      · (intro wv hSw; rw [hSd] at hSw; go_simp; (try with_reducible rfl))
      (try simp only [Act.put, List.setIfInBounds_toArray, List.set_cons_zero, List.set_cons_succ])
      refine wpAnyH_all (rs := [11]) (by kernel_rfl) (by simp) ?_
      intro ii hii
      rw [List.mem_singleton] at hii
      subst hii
      refine wpOp_step (o := _) rfl (fun KB hKB => ?_)
      rw [if_pos (by rfl)]
      refine wp_store_mid 81 (.tmp 16) (.tmp 99) rfl w7.heap.size 0 #[.int .i64 rb2.me, .int .i64 rb2.kept.view, .int .i64 rb2.kept.normal, .bool rb2.kept.calm, .slice E0 m0 z0, .int .i64 rb2.kept.commit, .slice E1 rb2.have_.length z1, .slice E2 rb2.wants.length z2, .slice E3 rb2.gives.length z3, .slice E4 rb2.given.length z4] rfl rfl (blk_there HZ.out) (by kernel_rfl) (all_oneCell_toArray (rep_one HRP.out.1)) ?_
      have hSB : S (x1.setCells w7.heap.size 0 [.int .i64 rb2.me, .int .i64 rb2.kept.view, .int .i64 rb2.kept.normal, .bool rb2.kept.calm, .slice E0 m0 z0, .int .i64 rb2.kept.commit, .slice E1 rb2.have_.length z1, .slice E2 rb2.wants.length z2, .slice E3 rb2.gives.length z3, .slice E4 rb2.given.length z4]) := by rw [hSd] at hS0 ⊢; exact below_sets (Nat.le_refl _) _ 0 _ _ hS0
      refine hKB _ _ ⟨hSB, ?_⟩
      have hS0 := hSB
      (try simp only [Act.put, List.setIfInBounds_toArray, List.set_cons_zero, List.set_cons_succ])
      change wpAnyH _ _ _ _ _ _ _ _ (x1.setCells w7.heap.size 0 [.int .i64 rb2.me, .int .i64 rb2.kept.view, .int .i64 rb2.kept.normal, .bool rb2.kept.calm, .slice E0 m0 z0, .int .i64 rb2.kept.commit, .slice E1 rb2.have_.length z1, .slice E2 rb2.wants.length z2, .slice E3 rb2.gives.length z3, .slice E4 rb2.given.length z4])
      refine wpAnyH_takeM (i := 12) (v := ?_) rfl (by kernel_rfl) (by kernel_rfl) (by kernel_rfl) (fun _ _ _ h => h) (Or.inl ⟨by rfl, ?_⟩) hS0 ?_
      rotate_left
      · (intro wv hSw; rw [hSd] at hSw; go_simp; (try with_reducible rfl))
      (try simp only [Act.put, List.setIfInBounds_toArray, List.set_cons_zero, List.set_cons_succ])
      refine wpAnyH_takeM (i := 13) (v := ?_) rfl (by kernel_rfl) (by kernel_rfl) (by kernel_rfl) (fun _ _ _ h => h) (Or.inl ⟨by rfl, ?_⟩) hS0 ?_
      rotate_left
      · (intro wv hSw; rw [hSd] at hSw; go_simp; (try with_reducible rfl))
      (try simp only [Act.put, List.setIfInBounds_toArray, List.set_cons_zero, List.set_cons_succ])
      refine wpAnyH_done (by kernel_rfl) ?_ _
      (try simp only [Act.put, List.setIfInBounds_toArray, List.set_cons_zero, List.set_cons_succ])
      obtain ⟨gq, hgq⟩ : ∃ g, w7.heap.size = g := ⟨_, rfl⟩
      obtain ⟨W3, hW3⟩ : ∃ W, W = x1.setCells w7.heap.size 0 [.int .i64 rb2.me, .int .i64 rb2.kept.view, .int .i64 rb2.kept.normal, .bool rb2.kept.calm, .slice E0 m0 z0, .int .i64 rb2.kept.commit, .slice E1 rb2.have_.length z1, .slice E2 rb2.wants.length z2, .slice E3 rb2.gives.length z3, .slice E4 rb2.given.length z4] := ⟨_, rfl⟩
      have HQ : Hid (Below w7.heap.size w7 W3 ∧ Blk W3 gq 81 #[.int .i64 rb2.me, .int .i64 rb2.kept.view, .int .i64 rb2.kept.normal, .bool rb2.kept.calm, .slice E0 m0 z0, .int .i64 rb2.kept.commit, .slice E1 rb2.have_.length z1, .slice E2 rb2.wants.length z2, .slice E3 rb2.gives.length z3, .slice E4 rb2.given.length z4] ∧ IsRep W3 0 (.slice E0 m0 z0) (.slice E1 rb2.have_.length z1) (.slice E2 rb2.wants.length z2) (.slice E3 rb2.gives.length z3) (.slice E4 rb2.given.length z4) rb2 ∧ IsRow 89 8 80 MsgE W3 0 (.slice Ao gs.length co) gs ∧ w7.heap.size ≤ gq) := by rw [hW3, ← hgq]; have q0 := boxed_rep HRP.out.1 HRP.out.2 M1.out HZ.out (Nat.le_refl _) (Below.refl _ _); exact Lib.hid ⟨q0.1, q0.2.1, q0.2.2.1, q0.2.2.2, (Nat.le_refl _)⟩
      change Exit.then _ _ _ _ (x1.setCells w7.heap.size 0 [.int .i64 rb2.me, .int .i64 rb2.kept.view, .int .i64 rb2.kept.normal, .bool rb2.kept.calm, .slice E0 m0 z0, .int .i64 rb2.kept.commit, .slice E1 rb2.have_.length z1, .slice E2 rb2.wants.length z2, .slice E3 rb2.gives.length z3, .slice E4 rb2.given.length z4])
      rw [← hW3]
      rw [hgq]
      clear hW3 hgq hS0 hSB hSd hKA hKB HRP M1 HZ
      revert HQ
      revert W3 gq
      revert E0 m0 z0 E1 z1 E2 z2 E3 z3 E4 z4 Ao co
      exact key
  case rest =>
  intro E0 m0 z0 E1 z1 E2 z2 E3 z3 E4 z4 Ao co gq W3 HQ
  have HAB8 := Lib.hid (And.intro (HAB7.out.1.below HQ.out.1) (And.intro (HAB7.out.2.2.1.trans (HQ.out.1.mono HAB7.out.2.2.1.size)) (HAB7.out.2.2.2.2.below HQ.out.1)))
  obtain ⟨hg0, hge⟩ := HG0.out
  obtain ⟨gm3, om3, X3, nx3, cx3, rfl, hgm3, hxs3, mc0, mc1, mc2, mc3, mc4, mc5, mc6, mc7⟩ := msgs_at HQ.out.2.2.2.1 hg0 hge
  simp only [Nat.zero_mul, Nat.add_zero] at mc0 mc1 mc2 mc3 mc4 mc5 mc6 mc7
  dsimp only [Scu.giveMsg] at mc0 mc1 mc2 mc3 mc4 mc5 mc6 mc7 hxs3
  clear hge hg0 HC mb0 mb1 mb2 mb3 mb4 mb5 mb6 mb7 HAB7 xc0 xc1 xc2 xc3 xc4 xc5 xc6 xc7 xc8 xc9
  obtain ⟨U0, Un, Uc0, U1, Uc1, U2, Uc2, U3, Uc3, U4, Uc4, hiU, hlU, xd0, xd1, xd2, xd3, xd4, xd5, xd6, xd7, xd8, xd9⟩ := (HAB8.out.1).get
  have HC := Lib.hid (fun (W : World) (hb : Below W3.heap.size W3 W) => hear_n _ _ _ _ _ _ ra2 (Scu.giveMsg es) W 0 (hiU.below hb) (hxs3.below hb) rc ld 0 HHG.out)
  dsimp only [Scu.giveMsg] at HC
  have hg01 : (0 : Int) < (gs.length : Int) := by omega
  clear hiU hxs3
  go_wp2_with fail
  refine joined (G := ?G2) (fun key => ?first2) ?rest2
  case first2 =>
    obtain ⟨S, hSd⟩ : ∃ S : World → Prop, S = fun w' => Below W3.heap.size W3 w' := ⟨_, rfl⟩
    have hS0 : S W3.drew := by rw [hSd]; exact (Below.refl _ _).drew
    refine wp_region_held (S := S) (by kernel_rfl) ?_
    change wpAnyH _ _ _ _ _ _ _ _ W3.drew
    refine wpAnyH_takeM (i := 0) (v := ?_) rfl (by kernel_rfl) (by kernel_rfl) (by kernel_rfl) (fun _ _ _ h => h) (Or.inl ⟨by rfl, ?_⟩) hS0 ?_
    rotate_left
    · (intro wv hSw; rw [hSd] at hSw; have s0 := (hSw.cell (p := ⟨ga, 0, none⟩) hlU).trans xd0; have s1 := (hSw.cell (p := ⟨ga, 1, none⟩) hlU).trans xd1; have s2 := (hSw.cell (p := ⟨ga, 2, none⟩) hlU).trans xd2; have s3 := (hSw.cell (p := ⟨ga, 3, none⟩) hlU).trans xd3; have s4 := (hSw.cell (p := ⟨ga, 4, none⟩) hlU).trans xd4; have s5 := (hSw.cell (p := ⟨ga, 5, none⟩) hlU).trans xd5; have s6 := (hSw.cell (p := ⟨ga, 6, none⟩) hlU).trans xd6; have s7 := (hSw.cell (p := ⟨ga, 7, none⟩) hlU).trans xd7; have s8 := (hSw.cell (p := ⟨ga, 8, none⟩) hlU).trans xd8; have s9 := (hSw.cell (p := ⟨ga, 9, none⟩) hlU).trans xd9; go_simp; (try with_reducible rfl))
    (try simp only [Act.put, List.setIfInBounds_toArray, List.set_cons_zero, List.set_cons_succ])
    refine wpAnyH_takeM (i := 1) (v := ?_) rfl (by kernel_rfl) (by kernel_rfl) (by kernel_rfl) (fun _ _ _ h => h) (Or.inl ⟨by rfl, ?_⟩) hS0 ?_
    rotate_left
    · (intro wv hSw; rw [hSd] at hSw; go_simp; (try with_reducible rfl))
    (try simp only [Act.put, List.setIfInBounds_toArray, List.set_cons_zero, List.set_cons_succ])
    refine wpAnyH_takeM (i := 2) (v := ?_) rfl (by kernel_rfl) (by kernel_rfl) (by kernel_rfl) (fun _ _ _ h => h) (Or.inl ⟨by rfl, ?_⟩) hS0 ?_
    rotate_left
    · (intro wv hSw; rw [hSd] at hSw; go_simp; (try with_reducible rfl))
    (try simp only [Act.put, List.setIfInBounds_toArray, List.set_cons_zero, List.set_cons_succ])
    refine wpAnyH_takeM (i := 3) (v := ?_) rfl (by kernel_rfl) (by kernel_rfl) (by kernel_rfl) (fun _ _ _ h => h) (Or.inl ⟨by rfl, ?_⟩) hS0 ?_
    rotate_left
    · (intro wv hSw; rw [hSd] at hSw; have t0 := (hSw.cell (p := ⟨gm3, om3, none⟩) hgm3).trans mc0; have t1 := (hSw.cell (p := ⟨gm3, om3 + 1, none⟩) hgm3).trans mc1; have t2 := (hSw.cell (p := ⟨gm3, om3 + 2, none⟩) hgm3).trans mc2; have t3 := (hSw.cell (p := ⟨gm3, om3 + 3, none⟩) hgm3).trans mc3; have t4 := (hSw.cell (p := ⟨gm3, om3 + 4, none⟩) hgm3).trans mc4; have t5 := (hSw.cell (p := ⟨gm3, om3 + 5, none⟩) hgm3).trans mc5; have t6 := (hSw.cell (p := ⟨gm3, om3 + 6, none⟩) hgm3).trans mc6; have t7 := (hSw.cell (p := ⟨gm3, om3 + 7, none⟩) hgm3).trans mc7; go_simp; (try with_reducible rfl))
    (try simp only [Act.put, List.setIfInBounds_toArray, List.set_cons_zero, List.set_cons_succ])
    refine wpAnyH_all (rs := [4, 9]) (by kernel_rfl) (by simp) ?_
    intro ii hii
    simp only [List.mem_cons, List.not_mem_nil, or_false] at hii
    rcases hii with rfl | rfl
    · refine wpOp_step (o := _) rfl (fun KS hKS => ?_)
      go_simp
      have dd : Below W3.heap.size W3 W3.drew := (Below.refl _ _).drew
      refine (HC.out _ dd).mono ?_; rintro en x1 ⟨⟨E0, m0, z0, E1, z1, E2, z2, E3, z3, E4, z4, Ao, co, rfl, hrp, hms, hap⟩, k1⟩
      have nn1 := dd.trans (k1.mono dd.size)
      have M1 := Lib.hid nn1
      have HRP := Lib.hid (And.intro hrp hms)
      have hS0 : S x1 := by rw [hSd]; exact nn1
      refine hKS _ _ ⟨hS0, ?_⟩
      clear hKS nn1 k1 hrp hms hap dd
      (try simp only [Act.put, List.setIfInBounds_toArray, List.set_cons_zero, List.set_cons_succ])
      refine wpAnyH_takeM (i := 5) (v := ?_) rfl (by kernel_rfl) (by kernel_rfl) (by kernel_rfl) (fun _ _ _ h => h) (Or.inl ⟨by rfl, ?_⟩) hS0 ?_
      rotate_left
      · (intro wv hSw; rw [hSd] at hSw; go_simp; (try with_reducible rfl))
      (try simp only [Act.put, List.setIfInBounds_toArray, List.set_cons_zero, List.set_cons_succ])
      refine wpAnyH_takeM (i := 6) (v := ?_) rfl (by kernel_rfl) (by kernel_rfl) (by kernel_rfl) (fun _ _ _ h => h) (Or.inl ⟨by rfl, ?_⟩) hS0 ?_
      rotate_left
      · (intro wv hSw; rw [hSd] at hSw; go_simp; (try with_reducible rfl))
      (try simp only [Act.put, List.setIfInBounds_toArray, List.set_cons_zero, List.set_cons_succ])
      refine wpAnyH_takeM (i := 7) (v := ?_) rfl (by kernel_rfl) (by kernel_rfl) (by kernel_rfl) (fun _ _ _ h => h) (Or.inl ⟨by rfl, ?_⟩) hS0 ?_
      rotate_left
      · (intro wv hSw; rw [hSd] at hSw; go_simp; (try with_reducible rfl))
      (try simp only [Act.put, List.setIfInBounds_toArray, List.set_cons_zero, List.set_cons_succ])
      refine wpAnyH_takeM (i := 8) (v := ?_) rfl (by kernel_rfl) (by kernel_rfl) (by kernel_rfl) (fun _ _ _ h => h) (Or.inl ⟨by rfl, ?_⟩) hS0 ?_
      rotate_left
      · (intro wv hSw; rw [hSd] at hSw; go_simp; (try with_reducible rfl))
      (try simp only [Act.put, List.setIfInBounds_toArray, List.set_cons_zero, List.set_cons_succ])
      refine wpAnyH_all (rs := [9]) (by kernel_rfl) (by simp) ?_
      intro ii hii
      rw [List.mem_singleton] at hii
      subst hii
      refine wpOp_step (o := _) rfl (fun KA hKA => ?_)
      go_simp
      have hS0 : S (x1.alloc (Obj.cells #[.int .i64 0, .int .i64 0, .int .i64 0, .bool false, .slice none 0 0, .int .i64 0, .slice none 0 0, .slice none 0 0, .slice none 0 0, .slice none 0 0] 81)) := by rw [hSd]; exact M1.out.alloc M1.out.size _
      refine hKA _ _ ⟨hS0, ?_⟩
      (try simp only [Act.put, List.setIfInBounds_toArray, List.set_cons_zero, List.set_cons_succ])
      refine wpAnyH_all (rs := [10]) (by kernel_rfl) (by simp) ?_
      intro ii hii
      rw [List.mem_singleton] at hii
      subst hii
      refine wpOp_step (o := _) rfl (fun KB hKB => ?_)
      rw [if_pos (by rfl)]
      refine wp_store_mid 81 (.tmp 19) (.tmp 122) rfl x1.heap.size 0 #[.int .i64 rc.me, .int .i64 rc.kept.view, .int .i64 rc.kept.normal, .bool rc.kept.calm, .slice E0 m0 z0, .int .i64 rc.kept.commit, .slice E1 rc.have_.length z1, .slice E2 rc.wants.length z2, .slice E3 rc.gives.length z3, .slice E4 rc.given.length z4] rfl rfl (blk_there (Blk.new x1 81 #[.int .i64 0, .int .i64 0, .int .i64 0, .bool false, .slice none 0 0, .int .i64 0, .slice none 0 0, .slice none 0 0, .slice none 0 0, .slice none 0 0])) (by kernel_rfl) (all_oneCell_toArray (rep_one HRP.out.1)) ?_
      have hSB : S ((x1.alloc (Obj.cells #[.int .i64 0, .int .i64 0, .int .i64 0, .bool false, .slice none 0 0, .int .i64 0, .slice none 0 0, .slice none 0 0, .slice none 0 0, .slice none 0 0] 81)).setCells x1.heap.size 0 [.int .i64 rc.me, .int .i64 rc.kept.view, .int .i64 rc.kept.normal, .bool rc.kept.calm, .slice E0 m0 z0, .int .i64 rc.kept.commit, .slice E1 rc.have_.length z1, .slice E2 rc.wants.length z2, .slice E3 rc.gives.length z3, .slice E4 rc.given.length z4]) := by rw [hSd] at hS0 ⊢; exact below_sets M1.out.size _ 0 _ _ hS0
      refine hKB _ _ ⟨hSB, ?_⟩
      have hS0 := hSB
      (try simp only [Act.put, List.setIfInBounds_toArray, List.set_cons_zero, List.set_cons_succ])
      change wpAnyH _ _ _ _ _ _ _ _ ((x1.alloc (Obj.cells #[.int .i64 0, .int .i64 0, .int .i64 0, .bool false, .slice none 0 0, .int .i64 0, .slice none 0 0, .slice none 0 0, .slice none 0 0, .slice none 0 0] 81)).setCells x1.heap.size 0 [.int .i64 rc.me, .int .i64 rc.kept.view, .int .i64 rc.kept.normal, .bool rc.kept.calm, .slice E0 m0 z0, .int .i64 rc.kept.commit, .slice E1 rc.have_.length z1, .slice E2 rc.wants.length z2, .slice E3 rc.gives.length z3, .slice E4 rc.given.length z4])
      refine wpAnyH_takeM (i := 11) (v := ?_) rfl (by kernel_rfl) (by kernel_rfl) (by kernel_rfl) (fun _ _ _ h => h) (Or.inl ⟨by rfl, ?_⟩) hS0 ?_
      rotate_left
      · (intro wv hSw; rw [hSd] at hSw; go_simp; (try with_reducible rfl))
      (try simp only [Act.put, List.setIfInBounds_toArray, List.set_cons_zero, List.set_cons_succ])
      refine wpAnyH_takeM (i := 12) (v := ?_) rfl (by kernel_rfl) (by kernel_rfl) (by kernel_rfl) (fun _ _ _ h => h) (Or.inl ⟨by rfl, ?_⟩) hS0 ?_
      rotate_left
      · (intro wv hSw; rw [hSd] at hSw; go_simp; (try with_reducible rfl))
      (try simp only [Act.put, List.setIfInBounds_toArray, List.set_cons_zero, List.set_cons_succ])
      refine wpAnyH_done (by kernel_rfl) ?_ _
      (try simp only [Act.put, List.setIfInBounds_toArray, List.set_cons_zero, List.set_cons_succ])
      obtain ⟨gz, hgz⟩ : ∃ g, x1.heap.size = g := ⟨_, rfl⟩
      obtain ⟨W8, hW8⟩ : ∃ W, W = (x1.alloc (Obj.cells #[.int .i64 0, .int .i64 0, .int .i64 0, .bool false, .slice none 0 0, .int .i64 0, .slice none 0 0, .slice none 0 0, .slice none 0 0, .slice none 0 0] 81)).setCells x1.heap.size 0 [.int .i64 rc.me, .int .i64 rc.kept.view, .int .i64 rc.kept.normal, .bool rc.kept.calm, .slice E0 m0 z0, .int .i64 rc.kept.commit, .slice E1 rc.have_.length z1, .slice E2 rc.wants.length z2, .slice E3 rc.gives.length z3, .slice E4 rc.given.length z4] := ⟨_, rfl⟩
      have HQ2 : Hid (Below W3.heap.size W3 W8 ∧ Blk W8 gz 81 #[.int .i64 rc.me, .int .i64 rc.kept.view, .int .i64 rc.kept.normal, .bool rc.kept.calm, .slice E0 m0 z0, .int .i64 rc.kept.commit, .slice E1 rc.have_.length z1, .slice E2 rc.wants.length z2, .slice E3 rc.gives.length z3, .slice E4 rc.given.length z4] ∧ IsRep W8 0 (.slice E0 m0 z0) (.slice E1 rc.have_.length z1) (.slice E2 rc.wants.length z2) (.slice E3 rc.gives.length z3) (.slice E4 rc.given.length z4) rc ∧ IsRow 89 8 80 MsgE W8 0 (.slice Ao ld.length co) ld ∧ W3.heap.size ≤ gz) := by rw [hW8, ← hgz]; have q0 := boxed_rep HRP.out.1 HRP.out.2 (M1.out.alloc M1.out.size _) (Blk.new x1 81 #[.int .i64 0, .int .i64 0, .int .i64 0, .bool false, .slice none 0 0, .int .i64 0, .slice none 0 0, .slice none 0 0, .slice none 0 0, .slice none 0 0]) M1.out.size (below_alloc x1 _); exact Lib.hid ⟨q0.1, q0.2.1, q0.2.2.1, q0.2.2.2, M1.out.size⟩
      change Exit.then _ _ _ _ ((x1.alloc (Obj.cells #[.int .i64 0, .int .i64 0, .int .i64 0, .bool false, .slice none 0 0, .int .i64 0, .slice none 0 0, .slice none 0 0, .slice none 0 0, .slice none 0 0] 81)).setCells x1.heap.size 0 [.int .i64 rc.me, .int .i64 rc.kept.view, .int .i64 rc.kept.normal, .bool rc.kept.calm, .slice E0 m0 z0, .int .i64 rc.kept.commit, .slice E1 rc.have_.length z1, .slice E2 rc.wants.length z2, .slice E3 rc.gives.length z3, .slice E4 rc.given.length z4])
      rw [← hW8]
      rw [hgz]
      clear hW8 hgz hS0 hSB hSd hKA hKB HRP M1
      revert HQ2
      revert W8 gz
      revert E0 m0 z0 E1 z1 E2 z2 E3 z3 E4 z4 Ao co
      exact key
    · refine wpOp_step (o := _) rfl (fun KA hKA => ?_)
      go_simp
      have dd : Below W3.heap.size W3 (W3.drew.alloc (Obj.cells #[.int .i64 0, .int .i64 0, .int .i64 0, .bool false, .slice none 0 0, .int .i64 0, .slice none 0 0, .slice none 0 0, .slice none 0 0, .slice none 0 0] 81)) := (Below.refl _ _).drew.alloc (Nat.le_refl _) _
      have hS0 : S (W3.drew.alloc (Obj.cells #[.int .i64 0, .int .i64 0, .int .i64 0, .bool false, .slice none 0 0, .int .i64 0, .slice none 0 0, .slice none 0 0, .slice none 0 0, .slice none 0 0] 81)) := by rw [hSd]; exact dd
      refine hKA _ _ ⟨hS0, ?_⟩
      (try simp only [Act.put, List.setIfInBounds_toArray, List.set_cons_zero, List.set_cons_succ])
      refine wpAnyH_all (rs := [4]) (by kernel_rfl) (by simp) ?_
      intro ii hii
      rw [List.mem_singleton] at hii
      subst hii
      refine wpOp_step (o := _) rfl (fun KS hKS => ?_)
      go_simp
      refine (HC.out _ dd).mono ?_; rintro en x1 ⟨⟨E0, m0, z0, E1, z1, E2, z2, E3, z3, E4, z4, Ao, co, rfl, hrp, hms, hap⟩, k1⟩
      have nn1 := dd.trans (k1.mono dd.size)
      have M1 := Lib.hid nn1
      have HRP := Lib.hid (And.intro hrp hms)
      have HZ := Lib.hid ((Blk.new' (w := W3.drew) (g := W3.heap.size) (t := 81) (cs := #[.int .i64 0, .int .i64 0, .int .i64 0, .bool false, .slice none 0 0, .int .i64 0, .slice none 0 0, .slice none 0 0, .slice none 0 0, .slice none 0 0]) rfl).same k1)
      have hS0 : S x1 := by rw [hSd]; exact nn1
      refine hKS _ _ ⟨hS0, ?_⟩
      clear hKS nn1 k1 hrp hms hap dd
      (try simp only [Act.put, List.setIfInBounds_toArray, List.set_cons_zero, List.set_cons_succ])
      refine wpAnyH_takeM (i := 5) (v := ?_) rfl (by kernel_rfl) (by kernel_rfl) (by kernel_rfl) (fun _ _ _ h => h) (Or.inl ⟨by rfl, ?_⟩) hS0 ?_
      rotate_left
      · (intro wv hSw; rw [hSd] at hSw; go_simp; (try with_reducible rfl))
      (try simp only [Act.put, List.setIfInBounds_toArray, List.set_cons_zero, List.set_cons_succ])
      refine wpAnyH_takeM (i := 6) (v := ?_) rfl (by kernel_rfl) (by kernel_rfl) (by kernel_rfl) (fun _ _ _ h => h) (Or.inl ⟨by rfl, ?_⟩) hS0 ?_
      rotate_left
      · (intro wv hSw; rw [hSd] at hSw; go_simp; (try with_reducible rfl))
      (try simp only [Act.put, List.setIfInBounds_toArray, List.set_cons_zero, List.set_cons_succ])
      refine wpAnyH_takeM (i := 7) (v := ?_) rfl (by kernel_rfl) (by kernel_rfl) (by kernel_rfl) (fun _ _ _ h => h) (Or.inl ⟨by rfl, ?_⟩) hS0 ?_
      rotate_left
      · (intro wv hSw; rw [hSd] at hSw; go_simp; (try with_reducible rfl))
      (try simp only [Act.put, List.setIfInBounds_toArray, List.set_cons_zero, List.set_cons_succ])
      refine wpAnyH_takeM (i := 8) (v := ?_) rfl (by kernel_rfl) (by kernel_rfl) (by kernel_rfl) (fun _ _ _ h => h) (Or.inl ⟨by rfl, ?_⟩) hS0 ?_
      rotate_left
      · (intro wv hSw; rw [hSd] at hSw; go_simp; (try with_reducible rfl))
      (try simp only [Act.put, List.setIfInBounds_toArray, List.set_cons_zero, List.set_cons_succ])
      refine wpAnyH_all (rs := [10]) (by kernel_rfl) (by simp) ?_
      intro ii hii
      rw [List.mem_singleton] at hii
      subst hii
      refine wpOp_step (o := _) rfl (fun KB hKB => ?_)
      rw [if_pos (by rfl)]
      refine wp_store_mid 81 (.tmp 19) (.tmp 122) rfl W3.heap.size 0 #[.int .i64 rc.me, .int .i64 rc.kept.view, .int .i64 rc.kept.normal, .bool rc.kept.calm, .slice E0 m0 z0, .int .i64 rc.kept.commit, .slice E1 rc.have_.length z1, .slice E2 rc.wants.length z2, .slice E3 rc.gives.length z3, .slice E4 rc.given.length z4] rfl rfl (blk_there HZ.out) (by kernel_rfl) (all_oneCell_toArray (rep_one HRP.out.1)) ?_
      have hSB : S (x1.setCells W3.heap.size 0 [.int .i64 rc.me, .int .i64 rc.kept.view, .int .i64 rc.kept.normal, .bool rc.kept.calm, .slice E0 m0 z0, .int .i64 rc.kept.commit, .slice E1 rc.have_.length z1, .slice E2 rc.wants.length z2, .slice E3 rc.gives.length z3, .slice E4 rc.given.length z4]) := by rw [hSd] at hS0 ⊢; exact below_sets (Nat.le_refl _) _ 0 _ _ hS0
      refine hKB _ _ ⟨hSB, ?_⟩
      have hS0 := hSB
      (try simp only [Act.put, List.setIfInBounds_toArray, List.set_cons_zero, List.set_cons_succ])
      change wpAnyH _ _ _ _ _ _ _ _ (x1.setCells W3.heap.size 0 [.int .i64 rc.me, .int .i64 rc.kept.view, .int .i64 rc.kept.normal, .bool rc.kept.calm, .slice E0 m0 z0, .int .i64 rc.kept.commit, .slice E1 rc.have_.length z1, .slice E2 rc.wants.length z2, .slice E3 rc.gives.length z3, .slice E4 rc.given.length z4])
      refine wpAnyH_takeM (i := 11) (v := ?_) rfl (by kernel_rfl) (by kernel_rfl) (by kernel_rfl) (fun _ _ _ h => h) (Or.inl ⟨by rfl, ?_⟩) hS0 ?_
      rotate_left
      · (intro wv hSw; rw [hSd] at hSw; go_simp; (try with_reducible rfl))
      (try simp only [Act.put, List.setIfInBounds_toArray, List.set_cons_zero, List.set_cons_succ])
      refine wpAnyH_takeM (i := 12) (v := ?_) rfl (by kernel_rfl) (by kernel_rfl) (by kernel_rfl) (fun _ _ _ h => h) (Or.inl ⟨by rfl, ?_⟩) hS0 ?_
      rotate_left
      · (intro wv hSw; rw [hSd] at hSw; go_simp; (try with_reducible rfl))
      (try simp only [Act.put, List.setIfInBounds_toArray, List.set_cons_zero, List.set_cons_succ])
      refine wpAnyH_done (by kernel_rfl) ?_ _
      (try simp only [Act.put, List.setIfInBounds_toArray, List.set_cons_zero, List.set_cons_succ])
      obtain ⟨gz, hgz⟩ : ∃ g, W3.heap.size = g := ⟨_, rfl⟩
      obtain ⟨W8, hW8⟩ : ∃ W, W = x1.setCells W3.heap.size 0 [.int .i64 rc.me, .int .i64 rc.kept.view, .int .i64 rc.kept.normal, .bool rc.kept.calm, .slice E0 m0 z0, .int .i64 rc.kept.commit, .slice E1 rc.have_.length z1, .slice E2 rc.wants.length z2, .slice E3 rc.gives.length z3, .slice E4 rc.given.length z4] := ⟨_, rfl⟩
      have HQ2 : Hid (Below W3.heap.size W3 W8 ∧ Blk W8 gz 81 #[.int .i64 rc.me, .int .i64 rc.kept.view, .int .i64 rc.kept.normal, .bool rc.kept.calm, .slice E0 m0 z0, .int .i64 rc.kept.commit, .slice E1 rc.have_.length z1, .slice E2 rc.wants.length z2, .slice E3 rc.gives.length z3, .slice E4 rc.given.length z4] ∧ IsRep W8 0 (.slice E0 m0 z0) (.slice E1 rc.have_.length z1) (.slice E2 rc.wants.length z2) (.slice E3 rc.gives.length z3) (.slice E4 rc.given.length z4) rc ∧ IsRow 89 8 80 MsgE W8 0 (.slice Ao ld.length co) ld ∧ W3.heap.size ≤ gz) := by rw [hW8, ← hgz]; have q0 := boxed_rep HRP.out.1 HRP.out.2 M1.out HZ.out (Nat.le_refl _) (Below.refl _ _); exact Lib.hid ⟨q0.1, q0.2.1, q0.2.2.1, q0.2.2.2, (Nat.le_refl _)⟩
      change Exit.then _ _ _ _ (x1.setCells W3.heap.size 0 [.int .i64 rc.me, .int .i64 rc.kept.view, .int .i64 rc.kept.normal, .bool rc.kept.calm, .slice E0 m0 z0, .int .i64 rc.kept.commit, .slice E1 rc.have_.length z1, .slice E2 rc.wants.length z2, .slice E3 rc.gives.length z3, .slice E4 rc.given.length z4])
      rw [← hW8]
      rw [hgz]
      clear hW8 hgz hS0 hSB hSd hKA hKB HRP M1 HZ
      revert HQ2
      revert W8 gz
      revert E0 m0 z0 E1 z1 E2 z2 E3 z3 E4 z4 Ao co
      exact key
  case rest2 =>
  intro E0 m0 z0 E1 z1 E2 z2 E3 z3 E4 z4 Ao co gz W8 HQ2
  have HZB := Lib.hid (And.intro HQ2.out.2.1 HQ2.out.2.2.1)
  have HES := Lib.hid (HAB8.out.2.2.below HQ2.out.1)
  have HLO := Lib.hid (HAB8.out.2.1.trans (HQ2.out.1.mono HAB8.out.2.1.size))
  have z0' := HZB.out.1.cell 0
  have z1' := HZB.out.1.cell 1
  have z2' := HZB.out.1.cell 2
  have z3' := HZB.out.1.cell 3
  have z4' := HZB.out.1.cell 4
  have z5' := HZB.out.1.cell 5
  have z6' := HZB.out.1.cell 6
  have z7' := HZB.out.1.cell 7
  have z8' := HZB.out.1.cell 8
  have z9' := HZB.out.1.cell 9
  simp only [List.getElem?_toArray, List.getElem?_cons_zero, List.getElem?_cons_succ] at z0' z1' z2' z3' z4' z5' z6' z7' z8' z9'
  clear HC HAB8 HQ HQ2 mc0 mc1 mc2 mc3 mc4 mc5 mc6 mc7 xd0 xd1 xd2 xd3 xd4 xd5 xd6 xd7 xd8 xd9
  go_wp2_with fail
  refine (leads_c _ _ _ _ _ rc (by rw [HCV.out.1]; decide) W8).mono ?_; rintro e w9 ⟨rfl, h9⟩
  rw [HCV.out.2.2]
  have HZ9 := Lib.hid (And.intro (HZB.out.1.same h9) (HZB.out.2.below h9))
  have HE9 := Lib.hid (HES.out.below h9)
  have HL9 := Lib.hid (HLO.out.trans (h9.mono HLO.out.size))
  have y1 := HZ9.out.1.cell 1
  have y4 := HZ9.out.1.cell 4
  simp only [List.getElem?_toArray, List.getElem?_cons_zero, List.getElem?_cons_succ] at y1 y4
  rw [HCV.out.1] at y1
  clear h9 HZB HES HLO z0' z1' z2' z3' z4' z5' z6' z7' z8' z9'
  go_wp2_with fail
  refine (eqStrs_c _ _ rc.kept.log es _ 0 0 HZ9.out.2.log HE9.out).mono ?_; rintro e w10 ⟨rfl, n10, rfl⟩
  rw [show decide (rc.kept.log = es) = true by rw [decide_eq_true_eq]; exact HCV.out.2.1]
  go_wp2_with fail
  refine (leader_c 1 _ (by decide)).mono ?_; rintro e w11 ⟨rfl, rfl⟩
  rw [show (1 : Int) % 3 = 1 from rfl]
  go_wp2_with fail
  go_ret
  exact ⟨rfl, below_drewN HL9.out _⟩
theorem lawViewsBegin_w (v : Value) (l : List Scu.Raw) {w : World} (h : IsRaws w w.heap.size v l) (n : Int) (hc : (Lit.int .i64 n).wf = true) (W : World) (hW : W = w) (ht : Tab W) :
    Calls Tryd.prog 9 #[v, .int .i64 n] W fun e w' => e = .returned (.bool true) ∧ Below W.heap.size W w' := by
  subst hW
  exact lawViewsBegin_c v l n (ini_of hc) W h ht
end Go.Proofs.YtfpiembhlgcelaaDoor

/- Part 6: words and walks under the law 'PlaysOnce'. -/
import Derived.Test.YtfpiembhlgcelaaDoorPart5
import Derived.Test.YtfpiembhlgcelaaDoorPart2
import Derived.Deep.DeepCutAuto
import Derived.Deep.RegionLaw
set_option linter.unusedVariables false
set_option linter.unusedSimpArgs false
/- Walks: volume.Do: a sector is read. -/
namespace Go.Proofs.YtfpiembhlgcelaaDoor
open Go.RowKit
set_option maxHeartbeats 8000000
set_option maxRecDepth 100000

theorem volDo_r0 (A0 : Option Addr) (n0 c0 : Nat) (A1 : Option Addr) (n1 c1 : Nat) (x : Scu.Volume) (an : Nat) (d : Scu.Str) (w : World) (B : Nat) (hv : IsVolume w B (.slice A0 n0 c0) (.slice A1 n1 c1) x)
    (hf : ¬ Scu.volFault x ≠ 0) (ho : ¬ Scu.opFault ⟨3, an, 0, d⟩ ≠ 0) (ha6 : an < 6) :
    Calls Tryd.prog 24 #[.agg #[.slice A0 n0 c0, .slice A1 n1 c1], .agg #[.int .i64 3, .int .i64 an, .int .i64 0, .string d]] w fun e w' => DidRet w' w.heap.size (x, (⟨0, 0, x.now.getD an Scu.str0⟩ : Scu.Reply), 0) e ∧ Below w.heap.size w w' := by
  have HV := Lib.hid hv
  have hfb : (Scu.volFault x != 0) = false := by simpa using hf
  have hop := Decidable.not_not.1 ho
  have HOP := Lib.hid (fun W => checkOp_a _ W hop)
  obtain ⟨hl6, hs3, hn8, hs8⟩ := volFault_ok hf
  have HS8 := Lib.hid hs8
  clear hv hf ho hop hn8 hs8
  have hgd : x.now.getD an Scu.str0 = x.now[an]'(by omega) := by
    rw [List.getD_eq_getElem?_getD, List.getElem?_eq_getElem (by omega)]
    rfl
  rw [hgd]
  clear hgd
  go_enter Tryd.func24, Tryd.ntmps24
  go_wp2_with fail
  refine (volCheck_c _ _ x _ B ((((HV.out.alloc _).alloc _).alloc _).alloc _)).mono ?_; rintro e w1 ⟨rfl, h1⟩
  have hF1 := (Four.start w A0 n0 c0 A1 n1 c1 _ _ _ d).below h1
  have hlt1 : w.heap.size + 1 + 1 + 1 < w1.heap.size := hF1.b3.lt
  have hlt1a : w.heap.size < w1.heap.size := by omega
  have hlt1b : w.heap.size + 1 < w1.heap.size := by omega
  have hlt1c : w.heap.size + 1 + 1 < w1.heap.size := by omega
  have z0 := hF1.b0.cell 0
  have z1 := hF1.b0.cell 1
  have z2 := hF1.b1.cell 0
  have z3 := hF1.b1.cell 1
  have z4 := hF1.b1.cell 2
  have z5 := hF1.b1.cell 3
  have z6 := hF1.b2.cell 0
  have z7 := hF1.b2.cell 1
  have z8 := hF1.b3.cell 0
  have z9 := hF1.b3.cell 1
  have zx := hF1.b3.cell 2
  simp only [List.getElem?_toArray, List.getElem?_cons_zero, List.getElem?_cons_succ] at z0 z1 z2 z3 z4 z5 z6 z7 z8 z9 zx
  have zu := hF1.b0.frozen
  have zv := hF1.b2.frozen
  have zw := hF1.b3.frozen
  go_wp2_with fail
  refine (HOP.out _).mono ?_; rintro e w2 ⟨rfl, h2⟩
  have hF2 := hF1.below h2
  have hlt2 : w.heap.size + 1 + 1 + 1 < w2.heap.size := hF2.b3.lt
  have hlt2a : w.heap.size < w2.heap.size := by omega
  have hlt2b : w.heap.size + 1 < w2.heap.size := by omega
  have hlt2c : w.heap.size + 1 + 1 < w2.heap.size := by omega
  have y0 := hF2.b0.cell 0
  have y1 := hF2.b0.cell 1
  have y2 := hF2.b1.cell 0
  have y3 := hF2.b1.cell 1
  have y4 := hF2.b1.cell 2
  have y5 := hF2.b1.cell 3
  have y6 := hF2.b2.cell 0
  have y7 := hF2.b2.cell 1
  have y8 := hF2.b3.cell 0
  have y9 := hF2.b3.cell 1
  have yx := hF2.b3.cell 2
  simp only [List.getElem?_toArray, List.getElem?_cons_zero, List.getElem?_cons_succ] at y0 y1 y2 y3 y4 y5 y6 y7 y8 y9 yx
  have yu := hF2.b0.frozen
  have yv := hF2.b2.frozen
  have yw := hF2.b3.frozen
  go_wp2_with fail
  refine (copyVol_c _ _ x _ B (HV.out.below hF2.low)).mono ?_; rintro e w3 ⟨⟨nu, su, rfl, hu⟩, h3⟩
  obtain ⟨⟨A2, c2, _, rfl, _, _, _, _⟩, _⟩ := hu.is.snaps
  have hun := hu.now
  rw [hl6] at hun
  obtain ⟨g, c, cur, rfl, hg, hbl, hcc⟩ := own_at hun (by omega)
  have hF3 := hF2.below h3
  have hlt3 : w.heap.size + 1 + 1 + 1 < w3.heap.size := hF3.b3.lt
  have hlt3a : w.heap.size < w3.heap.size := by omega
  have hlt3b : w.heap.size + 1 < w3.heap.size := by omega
  have hlt3c : w.heap.size + 1 + 1 < w3.heap.size := by omega
  have x0 := hF3.b0.cell 0
  have x1 := hF3.b0.cell 1
  have x2 := hF3.b1.cell 0
  have x3 := hF3.b1.cell 1
  have x4 := hF3.b1.cell 2
  have x5 := hF3.b1.cell 3
  have x6 := hF3.b2.cell 0
  have x7 := hF3.b2.cell 1
  have x8 := hF3.b3.cell 0
  have x9 := hF3.b3.cell 1
  have xx := hF3.b3.cell 2
  simp only [List.getElem?_toArray, List.getElem?_cons_zero, List.getElem?_cons_succ] at x0 x1 x2 x3 x4 x5 x6 x7 x8 x9 xx
  have xu := hF3.b0.frozen
  have xv := hF3.b2.frozen
  have xw := hF3.b3.frozen
  have hzg := hbl.frozen
  have hgg : w3.cell? ⟨g, an, none⟩ = some (.string (x.now[an]'(by omega))) := by rw [hcc an (by omega), List.getElem?_map, List.getElem?_eq_getElem (by omega)]; rfl
  have hglt := hbl.lt
  have han : (an : Int) < 6 := by omega
  have hlow := hF2.low.size
  have hgw : w.heap.size + 1 + 1 + 1 < g := by omega
  have hne0 : g ≠ w.heap.size := by omega
  have hw23 := h3.size
  have HU := Lib.hid hu
  have HF3 := Lib.hid hF3
  clear h1 h2 h3 hF1 hF2 hF3 hun hcc hu hbl hg
  go_wp2_with fail
  go_region
  rename_i hK
  refine hK _ _ (Go.wp_ret ?_)
  have hO := HU.out.same (Same.sets2 (B := 0) HF3.out.b0 (Nat.zero_le _) (by decide) (.slice (some ⟨g, 0, none⟩) 6 c) (.slice A2 x.snaps.length c2))
  have hq2 := (HF3.out.b2.far (p := ⟨w.heap.size, 0, none⟩) (by simp; omega) (.slice (some ⟨g, 0, none⟩) 6 c)).far (p := ⟨w.heap.size, 1, none⟩) (by simp; omega) (.slice A2 x.snaps.length c2)
  have hq3 := (HF3.out.b3.far (p := ⟨w.heap.size, 0, none⟩) (by simp; omega) (.slice (some ⟨g, 0, none⟩) 6 c)).far (p := ⟨w.heap.size, 1, none⟩) (by simp; omega) (.slice A2 x.snaps.length c2)
  obtain ⟨he2, he3, hes⟩ := do_end hq2 hq3 (by omega) (.slice (some ⟨g, 0, none⟩) 6 c) (.slice A2 x.snaps.length c2) (.int .i64 0) (.int .i64 0) (.string (x.now[an]'(by omega)))
  have hc2 := (he2.alloc (Obj.cells #[.int .i64 0, .int .i64 0, .string (x.now[an]'(by omega))] 45)).drew
  have hc3 := (he3.alloc (Obj.cells #[.int .i64 0, .int .i64 0, .string (x.now[an]'(by omega))] 45)).drew
  have r0 := hc2.cell 0
  have r1 := hc2.cell 1
  have r2 := hc3.cell 0
  have r3 := hc3.cell 1
  have r4 := hc3.cell 2
  simp only [List.getElem?_toArray, List.getElem?_cons_zero, List.getElem?_cons_succ] at r0 r1 r2 r3 r4
  refine bodyPost_ret (v := .tuple #[.agg #[(.slice (some ⟨g, 0, none⟩) 6 c), (.slice A2 x.snaps.length c2)], .agg #[.int .i64 0, .int .i64 0, .string (x.now[an]'(by omega))], .int .i64 0]) (by simp [results, Tryd.results24, go_sem, r0, r1, r2, r3, r4]) rfl ?_
  refine ⟨⟨_, _, rfl, (((hO.base_ hlow).same hes).alloc _).below (Below.refl _ _).drew⟩, ?_⟩
  refine ((do_below ?_ (by omega) (by omega) _ _ _ _ _).alloc ?_ _).drew
  · exact (HF3.out.low.setCell (p := ⟨w.heap.size, 0, none⟩) (Nat.le_refl _) _).setCell (p := ⟨w.heap.size, 1, none⟩) (Nat.le_refl _) _
  · have := HF3.out.low.size
    simpa [World.setCell] using this
theorem volDo_r6 (A0 : Option Addr) (n0 c0 : Nat) (A1 : Option Addr) (n1 c1 : Nat) (x : Scu.Volume) (an sn : Nat) (d : Scu.Str) (w : World) (B : Nat) (hv : IsVolume w B (.slice A0 n0 c0) (.slice A1 n1 c1) x)
    (hf : ¬ Scu.volFault x ≠ 0) (ho : ¬ Scu.opFault ⟨3, an, (sn : Int) + 1, d⟩ ≠ 0) (ha6 : an < 6) (hgt : x.snaps.length < sn + 1) :
    Calls Tryd.prog 24 #[.agg #[.slice A0 n0 c0, .slice A1 n1 c1], .agg #[.int .i64 3, .int .i64 an, .int .i64 ((sn : Int) + 1), .string d]] w fun e w' => DidRet w' w.heap.size (x, (⟨6, 0, Scu.str0⟩ : Scu.Reply), 0) e ∧ Below w.heap.size w w' := by
  have HV := Lib.hid hv
  have hfb : (Scu.volFault x != 0) = false := by simpa using hf
  have hop := Decidable.not_not.1 ho
  have HOP := Lib.hid (fun W => checkOp_a _ W hop)
  obtain ⟨hl6, hs3, hn8, hs8⟩ := volFault_ok hf
  have HS8 := Lib.hid hs8
  clear hv hf ho hop hn8 hs8
  have hgt' : (x.snaps.length : Int) < (sn : Int) + 1 := by omega
  have hmb2 : ((sn : Int) + 1 == 0) = false := by simp; omega
  clear hgt
  go_enter Tryd.func24, Tryd.ntmps24
  go_wp2_with fail
  refine (volCheck_c _ _ x _ B ((((HV.out.alloc _).alloc _).alloc _).alloc _)).mono ?_; rintro e w1 ⟨rfl, h1⟩
  have hF1 := (Four.start w A0 n0 c0 A1 n1 c1 _ _ _ d).below h1
  have hlt1 : w.heap.size + 1 + 1 + 1 < w1.heap.size := hF1.b3.lt
  have hlt1a : w.heap.size < w1.heap.size := by omega
  have hlt1b : w.heap.size + 1 < w1.heap.size := by omega
  have hlt1c : w.heap.size + 1 + 1 < w1.heap.size := by omega
  have z0 := hF1.b0.cell 0
  have z1 := hF1.b0.cell 1
  have z2 := hF1.b1.cell 0
  have z3 := hF1.b1.cell 1
  have z4 := hF1.b1.cell 2
  have z5 := hF1.b1.cell 3
  have z6 := hF1.b2.cell 0
  have z7 := hF1.b2.cell 1
  have z8 := hF1.b3.cell 0
  have z9 := hF1.b3.cell 1
  have zx := hF1.b3.cell 2
  simp only [List.getElem?_toArray, List.getElem?_cons_zero, List.getElem?_cons_succ] at z0 z1 z2 z3 z4 z5 z6 z7 z8 z9 zx
  have zu := hF1.b0.frozen
  have zv := hF1.b2.frozen
  have zw := hF1.b3.frozen
  go_wp2_with fail
  refine (HOP.out _).mono ?_; rintro e w2 ⟨rfl, h2⟩
  have hF2 := hF1.below h2
  have hlt2 : w.heap.size + 1 + 1 + 1 < w2.heap.size := hF2.b3.lt
  have hlt2a : w.heap.size < w2.heap.size := by omega
  have hlt2b : w.heap.size + 1 < w2.heap.size := by omega
  have hlt2c : w.heap.size + 1 + 1 < w2.heap.size := by omega
  have y0 := hF2.b0.cell 0
  have y1 := hF2.b0.cell 1
  have y2 := hF2.b1.cell 0
  have y3 := hF2.b1.cell 1
  have y4 := hF2.b1.cell 2
  have y5 := hF2.b1.cell 3
  have y6 := hF2.b2.cell 0
  have y7 := hF2.b2.cell 1
  have y8 := hF2.b3.cell 0
  have y9 := hF2.b3.cell 1
  have yx := hF2.b3.cell 2
  simp only [List.getElem?_toArray, List.getElem?_cons_zero, List.getElem?_cons_succ] at y0 y1 y2 y3 y4 y5 y6 y7 y8 y9 yx
  have yu := hF2.b0.frozen
  have yv := hF2.b2.frozen
  have yw := hF2.b3.frozen
  go_wp2_with fail
  refine (copyVol_c _ _ x _ B (HV.out.below hF2.low)).mono ?_; rintro e w3 ⟨⟨nu, su, rfl, hu⟩, h3⟩
  obtain ⟨⟨A2, c2, _, rfl, _, _, _, _⟩, _⟩ := hu.is.snaps
  have hun := hu.now
  rw [hl6] at hun
  obtain ⟨g, c, cur, rfl, hg, hbl, hcc⟩ := own_at hun (by omega)
  have hF3 := hF2.below h3
  have hlt3 : w.heap.size + 1 + 1 + 1 < w3.heap.size := hF3.b3.lt
  have hlt3a : w.heap.size < w3.heap.size := by omega
  have hlt3b : w.heap.size + 1 < w3.heap.size := by omega
  have hlt3c : w.heap.size + 1 + 1 < w3.heap.size := by omega
  have x0 := hF3.b0.cell 0
  have x1 := hF3.b0.cell 1
  have x2 := hF3.b1.cell 0
  have x3 := hF3.b1.cell 1
  have x4 := hF3.b1.cell 2
  have x5 := hF3.b1.cell 3
  have x6 := hF3.b2.cell 0
  have x7 := hF3.b2.cell 1
  have x8 := hF3.b3.cell 0
  have x9 := hF3.b3.cell 1
  have xx := hF3.b3.cell 2
  simp only [List.getElem?_toArray, List.getElem?_cons_zero, List.getElem?_cons_succ] at x0 x1 x2 x3 x4 x5 x6 x7 x8 x9 xx
  have xu := hF3.b0.frozen
  have xv := hF3.b2.frozen
  have xw := hF3.b3.frozen
  have hzg := hbl.frozen
  have hgg : w3.cell? ⟨g, an, none⟩ = some (.string (x.now[an]'(by omega))) := by rw [hcc an (by omega), List.getElem?_map, List.getElem?_eq_getElem (by omega)]; rfl
  have hglt := hbl.lt
  have han : (an : Int) < 6 := by omega
  have hlow := hF2.low.size
  have hgw : w.heap.size + 1 + 1 + 1 < g := by omega
  have hne0 : g ≠ w.heap.size := by omega
  have hw23 := h3.size
  have HU := Lib.hid hu
  have HF3 := Lib.hid hF3
  clear h1 h2 h3 hF1 hF2 hF3 hun hcc hu hbl hg
  go_wp2_with fail
  go_region
  rename_i hK
  refine hK _ _ (Go.wp_ret ?_)
  have hO := HU.out.same (Same.sets2 (B := 0) HF3.out.b0 (Nat.zero_le _) (by decide) (.slice (some ⟨g, 0, none⟩) 6 c) (.slice A2 x.snaps.length c2))
  have hq2 := (HF3.out.b2.far (p := ⟨w.heap.size, 0, none⟩) (by simp; omega) (.slice (some ⟨g, 0, none⟩) 6 c)).far (p := ⟨w.heap.size, 1, none⟩) (by simp; omega) (.slice A2 x.snaps.length c2)
  have hq3 := (HF3.out.b3.far (p := ⟨w.heap.size, 0, none⟩) (by simp; omega) (.slice (some ⟨g, 0, none⟩) 6 c)).far (p := ⟨w.heap.size, 1, none⟩) (by simp; omega) (.slice A2 x.snaps.length c2)
  obtain ⟨he2, he3, hes⟩ := do_end hq2 hq3 (by omega) (.slice (some ⟨g, 0, none⟩) 6 c) (.slice A2 x.snaps.length c2) (.int .i64 6) (.int .i64 0) (.string ⟨#[]⟩)
  have hc2 := (he2.alloc (Obj.cells #[.int .i64 6, .int .i64 0, .string ⟨#[]⟩] 45)).drew
  have hc3 := (he3.alloc (Obj.cells #[.int .i64 6, .int .i64 0, .string ⟨#[]⟩] 45)).drew
  have r0 := hc2.cell 0
  have r1 := hc2.cell 1
  have r2 := hc3.cell 0
  have r3 := hc3.cell 1
  have r4 := hc3.cell 2
  simp only [List.getElem?_toArray, List.getElem?_cons_zero, List.getElem?_cons_succ] at r0 r1 r2 r3 r4
  refine bodyPost_ret (v := .tuple #[.agg #[(.slice (some ⟨g, 0, none⟩) 6 c), (.slice A2 x.snaps.length c2)], .agg #[.int .i64 6, .int .i64 0, .string ⟨#[]⟩], .int .i64 0]) (by simp [results, Tryd.results24, go_sem, r0, r1, r2, r3, r4]) rfl ?_
  refine ⟨⟨_, _, rfl, (((hO.base_ hlow).same hes).alloc _).below (Below.refl _ _).drew⟩, ?_⟩
  refine ((do_below ?_ (by omega) (by omega) _ _ _ _ _).alloc ?_ _).drew
  · exact (HF3.out.low.setCell (p := ⟨w.heap.size, 0, none⟩) (Nat.le_refl _) _).setCell (p := ⟨w.heap.size, 1, none⟩) (Nat.le_refl _) _
  · have := HF3.out.low.size
    simpa [World.setCell] using this
end Go.Proofs.YtfpiembhlgcelaaDoor
/- Walks: volume.Do: a sector of a snapshot is read. -/
namespace Go.Proofs.YtfpiembhlgcelaaDoor
open Go.RowKit
set_option maxHeartbeats 8000000
set_option maxRecDepth 100000

theorem cell_two {w : World} {b q i : Nat} {v : Value} (h : w.cell? ⟨q, i, none⟩ = some v) (hq : q < w.heap.size) (hne : q ≠ b) (a c : Value) (o : Obj) :
    (((w.setCell ⟨b, 0, none⟩ a).setCell ⟨b, 1, none⟩ c).alloc o).cell? ⟨q, i, none⟩ = some v := by
  refine ((below_alloc _ o).cell (p := ⟨q, i, none⟩) (by simpa [World.setCell] using hq)).trans ?_
  refine (World.cell?_of_block (Below.heap_setCell _ ⟨b, 1, none⟩ c q hne)).trans ?_
  exact (World.cell?_of_block (Below.heap_setCell _ ⟨b, 0, none⟩ a q hne)).trans h
theorem volDo_rs (A0 : Option Addr) (n0 c0 : Nat) (A1 : Option Addr) (n1 c1 : Nat) (x : Scu.Volume) (an sn : Nat) (d : Scu.Str) (w : World) (B : Nat) (hv : IsVolume w B (.slice A0 n0 c0) (.slice A1 n1 c1) x)
    (hf : ¬ Scu.volFault x ≠ 0) (ho : ¬ Scu.opFault ⟨3, an, (sn : Int) + 1, d⟩ ≠ 0) (ha6 : an < 6) (hsl : sn < x.snaps.length) :
    Calls Tryd.prog 24 #[.agg #[.slice A0 n0 c0, .slice A1 n1 c1], .agg #[.int .i64 3, .int .i64 an, .int .i64 ((sn : Int) + 1), .string d]] w fun e w' => DidRet w' w.heap.size (x, (⟨0, 0, (x.snaps.getD sn []).getD an Scu.str0⟩ : Scu.Reply), 0) e ∧ Below w.heap.size w w' := by
  have HV := Lib.hid hv
  have hfb : (Scu.volFault x != 0) = false := by simpa using hf
  have hop := Decidable.not_not.1 ho
  have HOP := Lib.hid (fun W => checkOp_a _ W hop)
  obtain ⟨hl6, hs3, hn8, hs8⟩ := volFault_ok hf
  have HS8 := Lib.hid hs8
  clear hv hf ho hop hn8 hs8
  have hsl' : (sn : Int) + 1 ≤ (x.snaps.length : Int) := by omega
  have hsl2 : (sn : Int) < (x.snaps.length : Int) := by omega
  have hmb2 : ((sn : Int) + 1 == 0) = false := by simp; omega
  have h6 : an < x.snaps[sn].length := by rw [(HS8.out _ (List.getElem_mem hsl)).1]; omega
  have h6' : (an : Int) < (x.snaps[sn].length : Int) := by omega
  have hgd : (x.snaps.getD sn []).getD an Scu.str0 = x.snaps[sn][an] := by
    rw [List.getD_eq_getElem?_getD (l := x.snaps), List.getElem?_eq_getElem hsl, Option.getD_some, List.getD_eq_getElem?_getD, List.getElem?_eq_getElem h6]
    rfl
  rw [hgd]
  clear hgd
  go_enter Tryd.func24, Tryd.ntmps24
  go_wp2_with fail
  refine (volCheck_c _ _ x _ B ((((HV.out.alloc _).alloc _).alloc _).alloc _)).mono ?_; rintro e w1 ⟨rfl, h1⟩
  have hF1 := (Four.start w A0 n0 c0 A1 n1 c1 _ _ _ d).below h1
  have hlt1 : w.heap.size + 1 + 1 + 1 < w1.heap.size := hF1.b3.lt
  have hlt1a : w.heap.size < w1.heap.size := by omega
  have hlt1b : w.heap.size + 1 < w1.heap.size := by omega
  have hlt1c : w.heap.size + 1 + 1 < w1.heap.size := by omega
  have z0 := hF1.b0.cell 0
  have z1 := hF1.b0.cell 1
  have z2 := hF1.b1.cell 0
  have z3 := hF1.b1.cell 1
  have z4 := hF1.b1.cell 2
  have z5 := hF1.b1.cell 3
  have z6 := hF1.b2.cell 0
  have z7 := hF1.b2.cell 1
  have z8 := hF1.b3.cell 0
  have z9 := hF1.b3.cell 1
  have zx := hF1.b3.cell 2
  simp only [List.getElem?_toArray, List.getElem?_cons_zero, List.getElem?_cons_succ] at z0 z1 z2 z3 z4 z5 z6 z7 z8 z9 zx
  have zu := hF1.b0.frozen
  have zv := hF1.b2.frozen
  have zw := hF1.b3.frozen
  go_wp2_with fail
  refine (HOP.out _).mono ?_; rintro e w2 ⟨rfl, h2⟩
  have hF2 := hF1.below h2
  have hlt2 : w.heap.size + 1 + 1 + 1 < w2.heap.size := hF2.b3.lt
  have hlt2a : w.heap.size < w2.heap.size := by omega
  have hlt2b : w.heap.size + 1 < w2.heap.size := by omega
  have hlt2c : w.heap.size + 1 + 1 < w2.heap.size := by omega
  have y0 := hF2.b0.cell 0
  have y1 := hF2.b0.cell 1
  have y2 := hF2.b1.cell 0
  have y3 := hF2.b1.cell 1
  have y4 := hF2.b1.cell 2
  have y5 := hF2.b1.cell 3
  have y6 := hF2.b2.cell 0
  have y7 := hF2.b2.cell 1
  have y8 := hF2.b3.cell 0
  have y9 := hF2.b3.cell 1
  have yx := hF2.b3.cell 2
  simp only [List.getElem?_toArray, List.getElem?_cons_zero, List.getElem?_cons_succ] at y0 y1 y2 y3 y4 y5 y6 y7 y8 y9 yx
  have yu := hF2.b0.frozen
  have yv := hF2.b2.frozen
  have yw := hF2.b3.frozen
  go_wp2_with fail
  refine (copyVol_c _ _ x _ B (HV.out.below hF2.low)).mono ?_; rintro e w3 ⟨⟨nu, su, rfl, hu⟩, h3⟩
  obtain ⟨⟨A2, c2, _, rfl, _, _, _, _⟩, _⟩ := hu.is.snaps
  have hun := hu.now
  rw [hl6] at hun
  obtain ⟨g, c, cur, rfl, hg, hbl, hcc⟩ := own_at hun (by omega)
  have hF3 := hF2.below h3
  have hlt3 : w.heap.size + 1 + 1 + 1 < w3.heap.size := hF3.b3.lt
  have hlt3a : w.heap.size < w3.heap.size := by omega
  have hlt3b : w.heap.size + 1 < w3.heap.size := by omega
  have hlt3c : w.heap.size + 1 + 1 < w3.heap.size := by omega
  have x0 := hF3.b0.cell 0
  have x1 := hF3.b0.cell 1
  have x2 := hF3.b1.cell 0
  have x3 := hF3.b1.cell 1
  have x4 := hF3.b1.cell 2
  have x5 := hF3.b1.cell 3
  have x6 := hF3.b2.cell 0
  have x7 := hF3.b2.cell 1
  have x8 := hF3.b3.cell 0
  have x9 := hF3.b3.cell 1
  have xx := hF3.b3.cell 2
  simp only [List.getElem?_toArray, List.getElem?_cons_zero, List.getElem?_cons_succ] at x0 x1 x2 x3 x4 x5 x6 x7 x8 x9 xx
  have xu := hF3.b0.frozen
  have xv := hF3.b2.frozen
  have xw := hF3.b3.frozen
  have hzg := hbl.frozen
  have hgg : w3.cell? ⟨g, an, none⟩ = some (.string (x.now[an]'(by omega))) := by rw [hcc an (by omega), List.getElem?_map, List.getElem?_eq_getElem (by omega)]; rfl
  have hglt := hbl.lt
  have han : (an : Int) < 6 := by omega
  have hlow := hF2.low.size
  have hgw : w.heap.size + 1 + 1 + 1 < g := by omega
  have hne0 : g ≠ w.heap.size := by omega
  have hw23 := h3.size
  have HU := Lib.hid hu
  have HF3 := Lib.hid hF3
  clear h1 h2 h3 hF1 hF2 hF3 hun hcc hu hbl hg
  obtain ⟨q1, o1, c1', p1, e1, hq1, hqn1, hqc1, hp1⟩ := rows_at HU.out.is.snaps hsl
  obtain ⟨q2, o2, c2', rfl, hq2', hqn2, hqc2⟩ := strs_at hp1 h6
  have hA2 : A2 = some ⟨q1, o1, none⟩ := by cases e1; rfl
  subst hA2
  clear e1
  have hn10 : q1 ≠ w.heap.size := hqn1 _ _ _ HF3.out.b0 (by decide)
  have hn20 : q2 ≠ w.heap.size := hqn2 _ _ _ HF3.out.b0 (by decide)
  have hk1 := cell_two hqc1 hq1 hn10 (.slice (some ⟨g, 0, none⟩) 6 c) (.slice (some ⟨q1, o1, none⟩) x.snaps.length c2) (Obj.cells #[.int .i64 0, .int .i64 0, .string ⟨#[]⟩] 45)
  have hk2 := cell_two hqc2 hq2' hn20 (.slice (some ⟨g, 0, none⟩) 6 c) (.slice (some ⟨q1, o1, none⟩) x.snaps.length c2) (Obj.cells #[.int .i64 0, .int .i64 0, .string ⟨#[]⟩] 45)
  clear hqn1 hqn2 hp1 hqc1 hqc2
  have hO := (HU.out.same (Same.sets2 (B := 0) HF3.out.b0 (Nat.zero_le _) (by decide) (.slice (some ⟨g, 0, none⟩) 6 c) (.slice (some ⟨q1, o1, none⟩) x.snaps.length c2))).alloc (Obj.cells #[.int .i64 0, .int .i64 0, .string ⟨#[]⟩] 45)
  have hb0 : Blk _ w.heap.size 39 #[(.slice (some ⟨g, 0, none⟩) 6 c), (.slice (some ⟨q1, o1, none⟩) x.snaps.length c2)] := ((HF3.out.b0.set_ 0 (.slice (some ⟨g, 0, none⟩) 6 c)).set_ 1 (.slice (some ⟨q1, o1, none⟩) x.snaps.length c2)).alloc (Obj.cells #[.int .i64 0, .int .i64 0, .string ⟨#[]⟩] 45)
  have hb1 := ((HF3.out.b1.far (p := ⟨w.heap.size, 0, none⟩) (by simp) (.slice (some ⟨g, 0, none⟩) 6 c)).far (p := ⟨w.heap.size, 1, none⟩) (by simp) (.slice (some ⟨q1, o1, none⟩) x.snaps.length c2)).alloc (Obj.cells #[.int .i64 0, .int .i64 0, .string ⟨#[]⟩] 45)
  have hq2 := ((HF3.out.b2.far (p := ⟨w.heap.size, 0, none⟩) (by simp; omega) (.slice (some ⟨g, 0, none⟩) 6 c)).far (p := ⟨w.heap.size, 1, none⟩) (by simp; omega) (.slice (some ⟨q1, o1, none⟩) x.snaps.length c2)).alloc (Obj.cells #[.int .i64 0, .int .i64 0, .string ⟨#[]⟩] 45)
  have hq3 := ((HF3.out.b3.far (p := ⟨w.heap.size, 0, none⟩) (by simp; omega) (.slice (some ⟨g, 0, none⟩) 6 c)).far (p := ⟨w.heap.size, 1, none⟩) (by simp; omega) (.slice (some ⟨q1, o1, none⟩) x.snaps.length c2)).alloc (Obj.cells #[.int .i64 0, .int .i64 0, .string ⟨#[]⟩] 45)
  have hR : Blk (((w3.setCell ⟨w.heap.size, 0, none⟩ (.slice (some ⟨g, 0, none⟩) 6 c)).setCell ⟨w.heap.size, 1, none⟩ (.slice (some ⟨q1, o1, none⟩) x.snaps.length c2)).alloc (Obj.cells #[.int .i64 0, .int .i64 0, .string ⟨#[]⟩] 45)) w3.heap.size 45 #[.int .i64 0, .int .i64 0, .string ⟨#[]⟩] := Blk.new' (by simp [World.setCell])
  have hLW := ((HF3.out.low.setCell (p := ⟨w.heap.size, 0, none⟩) (Nat.le_refl _) (.slice (some ⟨g, 0, none⟩) 6 c)).setCell (p := ⟨w.heap.size, 1, none⟩) (Nat.le_refl _) (.slice (some ⟨q1, o1, none⟩) x.snaps.length c2)).alloc (by have := HF3.out.low.size; simpa [World.setCell] using this) (Obj.cells #[.int .i64 0, .int .i64 0, .string ⟨#[]⟩] 45)
  obtain ⟨Wd, hWd⟩ : ∃ W, W = ((w3.setCell ⟨w.heap.size, 0, none⟩ (.slice (some ⟨g, 0, none⟩) 6 c)).setCell ⟨w.heap.size, 1, none⟩ (.slice (some ⟨q1, o1, none⟩) x.snaps.length c2)).alloc (Obj.cells #[.int .i64 0, .int .i64 0, .string ⟨#[]⟩] 45) := ⟨_, rfl⟩
  have hwds : Wd.heap.size = w3.heap.size + 1 := by rw [hWd]; simp [World.setCell]
  rw [← hWd] at hO hb0 hb1 hq2 hq3 hR hLW hk1 hk2
  have HO := Lib.hid hO
  have HB0 := Lib.hid hb0
  have HBS := Lib.hid (And.intro hR (And.intro hq2 (And.intro hq3 hLW)))
  have HW := Lib.hid hWd
  have d0 := hb0.cell 0
  have d1 := hb0.cell 1
  have t0 := hb1.cell 0
  have t1 := hb1.cell 1
  have t2 := hb1.cell 2
  have g0 := hR.cell 0
  have g1 := hR.cell 1
  have g2 := hR.cell 2
  have p0 := hq2.cell 0
  have p1 := hq2.cell 1
  have s0 := hq3.cell 0
  have s1 := hq3.cell 1
  have s2 := hq3.cell 2
  simp only [List.getElem?_toArray, List.getElem?_cons_zero, List.getElem?_cons_succ] at d0 d1 t0 t1 t2 g0 g1 g2 p0 p1 s0 s1 s2
  have gz := hR.frozen
  have pz := hq2.frozen
  have sz := hq3.frozen
  have hn13 : w3.heap.size ≠ w.heap.size + 1 + 1 := by omega
  have hn23 : w3.heap.size ≠ w.heap.size + 1 + 1 + 1 := by omega
  have hn03 : w3.heap.size ≠ w.heap.size := by omega
  have hn33 : w3.heap.size ≠ w.heap.size + 1 := by omega
  have hl1 : q1 < Wd.heap.size := by omega
  have hl2 : q2 < Wd.heap.size := by omega
  have hl3 : w3.heap.size < Wd.heap.size := by omega
  have hl4 : w.heap.size < Wd.heap.size := by omega
  clear hO hb0 hb1 hq2 hq3 hR hLW hWd
  go_wp2_with fail
  rw [← HW.out]
  go_region
  go_wp2_with fail
  have hX0 := (HB0.out.far (p := ⟨w3.heap.size, 2, none⟩) (fun e => hn03 e.symm) (.string x.snaps[sn][an])).drew
  have hX1 : Blk _ w3.heap.size 45 #[.int .i64 0, .int .i64 0, .string x.snaps[sn][an]] := (HBS.out.1.set_ 2 (.string x.snaps[sn][an])).drew
  have hX2 := (HBS.out.2.1.far (p := ⟨w3.heap.size, 2, none⟩) (fun e => hn13 e.symm) (.string x.snaps[sn][an])).drew
  have hX3 := (HBS.out.2.2.1.far (p := ⟨w3.heap.size, 2, none⟩) (fun e => hn23 e.symm) (.string x.snaps[sn][an])).drew
  have hXO := (HO.out.set_ (i := 2) HBS.out.1 (by decide) (by decide) (.string x.snaps[sn][an])).below (Below.refl _ _).drew
  have hXB := (HBS.out.2.2.2.setCell (p := ⟨w3.heap.size, 2, none⟩) (by show w.heap.size ≤ w3.heap.size; omega) (.string x.snaps[sn][an])).drew
  obtain ⟨We, hWe⟩ : ∃ W, W = (Wd.setCell ⟨w3.heap.size, 2, none⟩ (.string x.snaps[sn][an])).drew := ⟨_, rfl⟩
  rw [← hWe] at hX0 hX1 hX2 hX3 hXO hXB ⊢
  have hwes : Wd.heap.size ≤ We.heap.size := by rw [hWe]; simp [World.setCell]
  clear d0 d1 t0 t1 t2 g0 g1 g2 p0 p1 s0 s1 s2 gz pz sz hk1 hk2 hWe HW
  have d0 := hX0.cell 0
  have d1 := hX0.cell 1
  have g0 := hX1.cell 0
  have g1 := hX1.cell 1
  have g2 := hX1.cell 2
  have p0 := hX2.cell 0
  have p1 := hX2.cell 1
  have s0 := hX3.cell 0
  have s1 := hX3.cell 1
  have s2 := hX3.cell 2
  simp only [List.getElem?_toArray, List.getElem?_cons_zero, List.getElem?_cons_succ] at d0 d1 g0 g1 g2 p0 p1 s0 s1 s2
  have gz := hX1.frozen
  have pz := hX2.frozen
  have sz := hX3.frozen
  have m0 := hX0.lt
  have m1 := hX1.lt
  have m2 := hX2.lt
  have m3 := hX3.lt
  have HX := Lib.hid (And.intro hX2 (And.intro hX3 (And.intro hXO hXB)))
  clear hX0 hX1 hX2 hX3 hXO hXB
  go_region
  rename_i hK
  refine hK _ _ (Go.wp_ret ?_)
  obtain ⟨he2, he3, hes⟩ := do_end HX.out.1 HX.out.2.1 (by omega) (.slice (some ⟨g, 0, none⟩) 6 c) (.slice (some ⟨q1, o1, none⟩) x.snaps.length c2) (.int .i64 0) (.int .i64 0) (.string x.snaps[sn][an])
  have hc2 := he2.drew
  have hc3 := he3.drew
  have r0 := hc2.cell 0
  have r1 := hc2.cell 1
  have r2 := hc3.cell 0
  have r3 := hc3.cell 1
  have r4 := hc3.cell 2
  simp only [List.getElem?_toArray, List.getElem?_cons_zero, List.getElem?_cons_succ] at r0 r1 r2 r3 r4
  refine bodyPost_ret (v := .tuple #[.agg #[(.slice (some ⟨g, 0, none⟩) 6 c), (.slice (some ⟨q1, o1, none⟩) x.snaps.length c2)], .agg #[.int .i64 0, .int .i64 0, .string x.snaps[sn][an]], .int .i64 0]) (by simp [results, Tryd.results24, go_sem, r0, r1, r2, r3, r4]) rfl ?_
  exact ⟨⟨_, _, rfl, ((HX.out.2.2.1.base_ hlow).same hes).below (Below.refl _ _).drew⟩, (do_below HX.out.2.2.2 (by omega) (by omega) _ _ _ _ _).drew⟩
end Go.Proofs.YtfpiembhlgcelaaDoor
/- Walks: volume.Do: no snapshot more. -/
namespace Go.Proofs.YtfpiembhlgcelaaDoor
open Go.RowKit
set_option maxHeartbeats 8000000
set_option maxRecDepth 100000

theorem volDo_s7 (A0 : Option Addr) (n0 c0 : Nat) (A1 : Option Addr) (n1 c1 : Nat) (x : Scu.Volume) (d : Scu.Str) (w : World) (B : Nat) (hv : IsVolume w B (.slice A0 n0 c0) (.slice A1 n1 c1) x)
    (hf : ¬ Scu.volFault x ≠ 0) (ho : ¬ Scu.opFault ⟨4, 0, 0, d⟩ ≠ 0) (h3 : x.snaps.length = 3) :
    Calls Tryd.prog 24 #[.agg #[.slice A0 n0 c0, .slice A1 n1 c1], .agg #[.int .i64 4, .int .i64 0, .int .i64 0, .string d]] w fun e w' => DidRet w' w.heap.size (x, (⟨7, 0, Scu.str0⟩ : Scu.Reply), 0) e ∧ Below w.heap.size w w' := by
  have HV := Lib.hid hv
  have hfb : (Scu.volFault x != 0) = false := by simpa using hf
  have hop := Decidable.not_not.1 ho
  have HOP := Lib.hid (fun W => checkOp_a _ W hop)
  obtain ⟨hl6, hs3, hn8, hs8⟩ := volFault_ok hf
  have HS8 := Lib.hid hs8
  clear hv hf ho hop hn8 hs8
  have h3b : ((x.snaps.length : Int) == 3) = true := by simp [h3]
  have h3c : (x.snaps.length : Int) = 3 := by omega
  have ha6 : 0 < 6 := by omega
  obtain ⟨an, han0⟩ : ∃ an, an = 0 := ⟨_, rfl⟩
  have ha6 : an < 6 := by omega
  clear h3
  go_enter Tryd.func24, Tryd.ntmps24
  go_wp2_with fail
  refine (volCheck_c _ _ x _ B ((((HV.out.alloc _).alloc _).alloc _).alloc _)).mono ?_; rintro e w1 ⟨rfl, h1⟩
  have hF1 := (Four.start w A0 n0 c0 A1 n1 c1 _ _ _ d).below h1
  have hlt1 : w.heap.size + 1 + 1 + 1 < w1.heap.size := hF1.b3.lt
  have hlt1a : w.heap.size < w1.heap.size := by omega
  have hlt1b : w.heap.size + 1 < w1.heap.size := by omega
  have hlt1c : w.heap.size + 1 + 1 < w1.heap.size := by omega
  have z0 := hF1.b0.cell 0
  have z1 := hF1.b0.cell 1
  have z2 := hF1.b1.cell 0
  have z3 := hF1.b1.cell 1
  have z4 := hF1.b1.cell 2
  have z5 := hF1.b1.cell 3
  have z6 := hF1.b2.cell 0
  have z7 := hF1.b2.cell 1
  have z8 := hF1.b3.cell 0
  have z9 := hF1.b3.cell 1
  have zx := hF1.b3.cell 2
  simp only [List.getElem?_toArray, List.getElem?_cons_zero, List.getElem?_cons_succ] at z0 z1 z2 z3 z4 z5 z6 z7 z8 z9 zx
  have zu := hF1.b0.frozen
  have zv := hF1.b2.frozen
  have zw := hF1.b3.frozen
  go_wp2_with fail
  refine (HOP.out _).mono ?_; rintro e w2 ⟨rfl, h2⟩
  have hF2 := hF1.below h2
  have hlt2 : w.heap.size + 1 + 1 + 1 < w2.heap.size := hF2.b3.lt
  have hlt2a : w.heap.size < w2.heap.size := by omega
  have hlt2b : w.heap.size + 1 < w2.heap.size := by omega
  have hlt2c : w.heap.size + 1 + 1 < w2.heap.size := by omega
  have y0 := hF2.b0.cell 0
  have y1 := hF2.b0.cell 1
  have y2 := hF2.b1.cell 0
  have y3 := hF2.b1.cell 1
  have y4 := hF2.b1.cell 2
  have y5 := hF2.b1.cell 3
  have y6 := hF2.b2.cell 0
  have y7 := hF2.b2.cell 1
  have y8 := hF2.b3.cell 0
  have y9 := hF2.b3.cell 1
  have yx := hF2.b3.cell 2
  simp only [List.getElem?_toArray, List.getElem?_cons_zero, List.getElem?_cons_succ] at y0 y1 y2 y3 y4 y5 y6 y7 y8 y9 yx
  have yu := hF2.b0.frozen
  have yv := hF2.b2.frozen
  have yw := hF2.b3.frozen
  go_wp2_with fail
  refine (copyVol_c _ _ x _ B (HV.out.below hF2.low)).mono ?_; rintro e w3 ⟨⟨nu, su, rfl, hu⟩, h3⟩
  obtain ⟨⟨A2, c2, _, rfl, _, _, _, _⟩, _⟩ := hu.is.snaps
  have hun := hu.now
  rw [hl6] at hun
  obtain ⟨g, c, cur, rfl, hg, hbl, hcc⟩ := own_at hun (by omega)
  have hF3 := hF2.below h3
  have hlt3 : w.heap.size + 1 + 1 + 1 < w3.heap.size := hF3.b3.lt
  have hlt3a : w.heap.size < w3.heap.size := by omega
  have hlt3b : w.heap.size + 1 < w3.heap.size := by omega
  have hlt3c : w.heap.size + 1 + 1 < w3.heap.size := by omega
  have x0 := hF3.b0.cell 0
  have x1 := hF3.b0.cell 1
  have x2 := hF3.b1.cell 0
  have x3 := hF3.b1.cell 1
  have x4 := hF3.b1.cell 2
  have x5 := hF3.b1.cell 3
  have x6 := hF3.b2.cell 0
  have x7 := hF3.b2.cell 1
  have x8 := hF3.b3.cell 0
  have x9 := hF3.b3.cell 1
  have xx := hF3.b3.cell 2
  simp only [List.getElem?_toArray, List.getElem?_cons_zero, List.getElem?_cons_succ] at x0 x1 x2 x3 x4 x5 x6 x7 x8 x9 xx
  have xu := hF3.b0.frozen
  have xv := hF3.b2.frozen
  have xw := hF3.b3.frozen
  have hzg := hbl.frozen
  have hgg : w3.cell? ⟨g, an, none⟩ = some (.string (x.now[an]'(by omega))) := by rw [hcc an (by omega), List.getElem?_map, List.getElem?_eq_getElem (by omega)]; rfl
  have hglt := hbl.lt
  have han : (an : Int) < 6 := by omega
  have hlow := hF2.low.size
  have hgw : w.heap.size + 1 + 1 + 1 < g := by omega
  have hne0 : g ≠ w.heap.size := by omega
  have hw23 := h3.size
  have HU := Lib.hid hu
  have HF3 := Lib.hid hF3
  clear h1 h2 h3 hF1 hF2 hF3 hun hcc hu hbl hg
  go_wp2_with fail
  go_region
  rename_i hK
  refine hK _ _ (Go.wp_ret ?_)
  have hO := HU.out.same (Same.sets2 (B := 0) HF3.out.b0 (Nat.zero_le _) (by decide) (.slice (some ⟨g, 0, none⟩) 6 c) (.slice A2 x.snaps.length c2))
  have hq2 := (HF3.out.b2.far (p := ⟨w.heap.size, 0, none⟩) (by simp; omega) (.slice (some ⟨g, 0, none⟩) 6 c)).far (p := ⟨w.heap.size, 1, none⟩) (by simp; omega) (.slice A2 x.snaps.length c2)
  have hq3 := (HF3.out.b3.far (p := ⟨w.heap.size, 0, none⟩) (by simp; omega) (.slice (some ⟨g, 0, none⟩) 6 c)).far (p := ⟨w.heap.size, 1, none⟩) (by simp; omega) (.slice A2 x.snaps.length c2)
  obtain ⟨he2, he3, hes⟩ := do_end hq2 hq3 (by omega) (.slice (some ⟨g, 0, none⟩) 6 c) (.slice A2 x.snaps.length c2) (.int .i64 7) (.int .i64 0) (.string ⟨#[]⟩)
  have hc2 := (he2.alloc (Obj.cells #[.int .i64 7, .int .i64 0, .string ⟨#[]⟩] 45)).drew
  have hc3 := (he3.alloc (Obj.cells #[.int .i64 7, .int .i64 0, .string ⟨#[]⟩] 45)).drew
  have r0 := hc2.cell 0
  have r1 := hc2.cell 1
  have r2 := hc3.cell 0
  have r3 := hc3.cell 1
  have r4 := hc3.cell 2
  simp only [List.getElem?_toArray, List.getElem?_cons_zero, List.getElem?_cons_succ] at r0 r1 r2 r3 r4
  refine bodyPost_ret (v := .tuple #[.agg #[(.slice (some ⟨g, 0, none⟩) 6 c), (.slice A2 x.snaps.length c2)], .agg #[.int .i64 7, .int .i64 0, .string ⟨#[]⟩], .int .i64 0]) (by simp [results, Tryd.results24, go_sem, r0, r1, r2, r3, r4]) rfl ?_
  refine ⟨⟨_, _, rfl, (((hO.base_ hlow).same hes).alloc _).below (Below.refl _ _).drew⟩, ?_⟩
  refine ((do_below ?_ (by omega) (by omega) _ _ _ _ _).alloc ?_ _).drew
  · exact (HF3.out.low.setCell (p := ⟨w.heap.size, 0, none⟩) (Nat.le_refl _) _).setCell (p := ⟨w.heap.size, 1, none⟩) (Nat.le_refl _) _
  · have := HF3.out.low.size
    simpa [World.setCell] using this
end Go.Proofs.YtfpiembhlgcelaaDoor
/- Walks: volume.Do: a snapshot more. -/
namespace Go.Proofs.YtfpiembhlgcelaaDoor
open Go.RowKit
set_option maxHeartbeats 8000000
set_option maxRecDepth 100000

theorem volDo_sn (A0 : Option Addr) (n0 c0 : Nat) (A1 : Option Addr) (n1 c1 : Nat) (x : Scu.Volume) (d : Scu.Str) (w : World) (B : Nat) (hv : IsVolume w B (.slice A0 n0 c0) (.slice A1 n1 c1) x)
    (hf : ¬ Scu.volFault x ≠ 0) (ho : ¬ Scu.opFault ⟨4, 0, 0, d⟩ ≠ 0) (h3 : x.snaps.length < 3) :
    Calls Tryd.prog 24 #[.agg #[.slice A0 n0 c0, .slice A1 n1 c1], .agg #[.int .i64 4, .int .i64 0, .int .i64 0, .string d]] w fun e w' => DidRet w' w.heap.size ((⟨x.now, x.snaps ++ [x.now]⟩ : Scu.Volume), (⟨0, (x.snaps.length : Int) + 1, Scu.str0⟩ : Scu.Reply), 0) e ∧ Below w.heap.size w w' := by
  have HV := Lib.hid hv
  have hfb : (Scu.volFault x != 0) = false := by simpa using hf
  have hop := Decidable.not_not.1 ho
  have HOP := Lib.hid (fun W => checkOp_a _ W hop)
  obtain ⟨hl6, hs3, hn8, hs8⟩ := volFault_ok hf
  have HS8 := Lib.hid hs8
  clear hv hf ho hop hn8 hs8
  have hlen : (x.snaps.length : Int) ≠ 3 := by omega
  have h3b : ((x.snaps.length : Int) == 3) = false := by simpa using hlen
  obtain ⟨an, han0⟩ : ∃ an, an = 0 := ⟨_, rfl⟩
  have ha6 : an < 6 := by omega
  clear hlen
  go_enter Tryd.func24, Tryd.ntmps24
  go_wp2_with fail
  refine (volCheck_c _ _ x _ B ((((HV.out.alloc _).alloc _).alloc _).alloc _)).mono ?_; rintro e w1 ⟨rfl, h1⟩
  have hF1 := (Four.start w A0 n0 c0 A1 n1 c1 _ _ _ d).below h1
  have hlt1 : w.heap.size + 1 + 1 + 1 < w1.heap.size := hF1.b3.lt
  have hlt1a : w.heap.size < w1.heap.size := by omega
  have hlt1b : w.heap.size + 1 < w1.heap.size := by omega
  have hlt1c : w.heap.size + 1 + 1 < w1.heap.size := by omega
  have z0 := hF1.b0.cell 0
  have z1 := hF1.b0.cell 1
  have z2 := hF1.b1.cell 0
  have z3 := hF1.b1.cell 1
  have z4 := hF1.b1.cell 2
  have z5 := hF1.b1.cell 3
  have z6 := hF1.b2.cell 0
  have z7 := hF1.b2.cell 1
  have z8 := hF1.b3.cell 0
  have z9 := hF1.b3.cell 1
  have zx := hF1.b3.cell 2
  simp only [List.getElem?_toArray, List.getElem?_cons_zero, List.getElem?_cons_succ] at z0 z1 z2 z3 z4 z5 z6 z7 z8 z9 zx
  have zu := hF1.b0.frozen
  have zv := hF1.b2.frozen
  have zw := hF1.b3.frozen
  go_wp2_with fail
  refine (HOP.out _).mono ?_; rintro e w2 ⟨rfl, h2⟩
  have hF2 := hF1.below h2
  have hlt2 : w.heap.size + 1 + 1 + 1 < w2.heap.size := hF2.b3.lt
  have hlt2a : w.heap.size < w2.heap.size := by omega
  have hlt2b : w.heap.size + 1 < w2.heap.size := by omega
  have hlt2c : w.heap.size + 1 + 1 < w2.heap.size := by omega
  have y0 := hF2.b0.cell 0
  have y1 := hF2.b0.cell 1
  have y2 := hF2.b1.cell 0
  have y3 := hF2.b1.cell 1
  have y4 := hF2.b1.cell 2
  have y5 := hF2.b1.cell 3
  have y6 := hF2.b2.cell 0
  have y7 := hF2.b2.cell 1
  have y8 := hF2.b3.cell 0
  have y9 := hF2.b3.cell 1
  have yx := hF2.b3.cell 2
  simp only [List.getElem?_toArray, List.getElem?_cons_zero, List.getElem?_cons_succ] at y0 y1 y2 y3 y4 y5 y6 y7 y8 y9 yx
  have yu := hF2.b0.frozen
  have yv := hF2.b2.frozen
  have yw := hF2.b3.frozen
  go_wp2_with fail
  refine (copyVol_c _ _ x _ B (HV.out.below hF2.low)).mono ?_; rintro e w3 ⟨⟨nu, su, rfl, hu⟩, h3⟩
  obtain ⟨⟨A2, c2, _, rfl, _, _, _, _⟩, _⟩ := hu.is.snaps
  have hun := hu.now
  rw [hl6] at hun
  obtain ⟨g, c, cur, rfl, hg, hbl, hcc⟩ := own_at hun (by omega)
  have hF3 := hF2.below h3
  have hlt3 : w.heap.size + 1 + 1 + 1 < w3.heap.size := hF3.b3.lt
  have hlt3a : w.heap.size < w3.heap.size := by omega
  have hlt3b : w.heap.size + 1 < w3.heap.size := by omega
  have hlt3c : w.heap.size + 1 + 1 < w3.heap.size := by omega
  have x0 := hF3.b0.cell 0
  have x1 := hF3.b0.cell 1
  have x2 := hF3.b1.cell 0
  have x3 := hF3.b1.cell 1
  have x4 := hF3.b1.cell 2
  have x5 := hF3.b1.cell 3
  have x6 := hF3.b2.cell 0
  have x7 := hF3.b2.cell 1
  have x8 := hF3.b3.cell 0
  have x9 := hF3.b3.cell 1
  have xx := hF3.b3.cell 2
  simp only [List.getElem?_toArray, List.getElem?_cons_zero, List.getElem?_cons_succ] at x0 x1 x2 x3 x4 x5 x6 x7 x8 x9 xx
  have xu := hF3.b0.frozen
  have xv := hF3.b2.frozen
  have xw := hF3.b3.frozen
  have hzg := hbl.frozen
  have hgg : w3.cell? ⟨g, an, none⟩ = some (.string (x.now[an]'(by omega))) := by rw [hcc an (by omega), List.getElem?_map, List.getElem?_eq_getElem (by omega)]; rfl
  have hglt := hbl.lt
  have han : (an : Int) < 6 := by omega
  have hlow := hF2.low.size
  have hgw : w.heap.size + 1 + 1 + 1 < g := by omega
  have hne0 : g ≠ w.heap.size := by omega
  have hw23 := h3.size
  have HU := Lib.hid hu
  have HF3 := Lib.hid hF3
  clear h1 h2 h3 hF1 hF2 hF3 hun hcc hu hbl hg
  have hO := (HU.out.same (Same.sets2 (B := 0) HF3.out.b0 (Nat.zero_le _) (by decide) (.slice (some ⟨g, 0, none⟩) 6 c) (.slice A2 x.snaps.length c2))).alloc (Obj.cells #[.int .i64 0, .int .i64 0, .string ⟨#[]⟩] 45)
  have hb0 : Blk _ w.heap.size 39 #[(.slice (some ⟨g, 0, none⟩) 6 c), (.slice A2 x.snaps.length c2)] := ((HF3.out.b0.set_ 0 (.slice (some ⟨g, 0, none⟩) 6 c)).set_ 1 (.slice A2 x.snaps.length c2)).alloc (Obj.cells #[.int .i64 0, .int .i64 0, .string ⟨#[]⟩] 45)
  obtain ⟨Wd, hWd⟩ : ∃ W, W = ((w3.setCell ⟨w.heap.size, 0, none⟩ (.slice (some ⟨g, 0, none⟩) 6 c)).setCell ⟨w.heap.size, 1, none⟩ (.slice A2 x.snaps.length c2)).alloc (Obj.cells #[.int .i64 0, .int .i64 0, .string ⟨#[]⟩] 45) := ⟨_, rfl⟩
  have hwds : Wd.heap.size = w3.heap.size + 1 := by rw [hWd]; simp [World.setCell]
  have hR0 : Blk (((w3.setCell ⟨w.heap.size, 0, none⟩ (.slice (some ⟨g, 0, none⟩) 6 c)).setCell ⟨w.heap.size, 1, none⟩ (.slice A2 x.snaps.length c2)).alloc (Obj.cells #[.int .i64 0, .int .i64 0, .string ⟨#[]⟩] 45)) w3.heap.size 45 #[.int .i64 0, .int .i64 0, .string ⟨#[]⟩] := Blk.new' (by simp [World.setCell])
  have hq2 := ((HF3.out.b2.far (p := ⟨w.heap.size, 0, none⟩) (by simp; omega) (.slice (some ⟨g, 0, none⟩) 6 c)).far (p := ⟨w.heap.size, 1, none⟩) (by simp; omega) (.slice A2 x.snaps.length c2)).alloc (Obj.cells #[.int .i64 0, .int .i64 0, .string ⟨#[]⟩] 45)
  have hq3 := ((HF3.out.b3.far (p := ⟨w.heap.size, 0, none⟩) (by simp; omega) (.slice (some ⟨g, 0, none⟩) 6 c)).far (p := ⟨w.heap.size, 1, none⟩) (by simp; omega) (.slice A2 x.snaps.length c2)).alloc (Obj.cells #[.int .i64 0, .int .i64 0, .string ⟨#[]⟩] 45)
  have hLW := ((HF3.out.low.setCell (p := ⟨w.heap.size, 0, none⟩) (Nat.le_refl _) (.slice (some ⟨g, 0, none⟩) 6 c)).setCell (p := ⟨w.heap.size, 1, none⟩) (Nat.le_refl _) (.slice A2 x.snaps.length c2)).alloc (by have := HF3.out.low.size; simpa [World.setCell] using this) (Obj.cells #[.int .i64 0, .int .i64 0, .string ⟨#[]⟩] 45)
  rw [← hWd] at hO hb0 hR0 hq2 hq3 hLW
  have HON := Lib.hid (And.intro hO.now (And.intro hO.nowLen (And.intro hO.nowEach hLW)))
  clear hLW
  have HQ := Lib.hid (And.intro hq2 hq3)
  clear hq2 hq3
  have hR : Blk Wd w3.heap.size 45 #[.int .i64 0, .int .i64 0, .string ⟨#[]⟩] := hR0
  clear hR0
  have HR := Lib.hid hR
  have HNOW := Lib.hid hO.is.now
  obtain ⟨vs, bb, hrow, heach, hlo, hhi⟩ := hO.snaps
  have HROW := Lib.hid hrow
  have HB0 := Lib.hid hb0
  have HW := Lib.hid hWd
  have HE := Lib.hid heach
  have HLH := Lib.hid (And.intro hlo hhi)
  clear hO hb0 hrow heach hWd hR hlo hhi
  go_wp2_with fail
  rw [← HW.out]
  have d0 := HB0.out.cell 0
  have d1 := HB0.out.cell 1
  simp only [List.getElem?_toArray, List.getElem?_cons_zero, List.getElem?_cons_succ] at d0 d1
  have dz := HB0.out.frozen
  have hdlt := HB0.out.lt
  go_region_law (first
    | (go_simp; go_at_call 26; refine (cloneStrs_c _ x.now _ 0 (HNOW.out.drewN 1)).mono ?_; rintro e w4 ⟨⟨u3, rfl, hu3⟩, h4⟩; have h4 : Below Wd.heap.size Wd w4 := (below_drewN (Below.refl _ _) 1).trans h4; obtain ⟨A3, c3, rfl, _, _, _, hlo3⟩ := rd_own hu3; have hu3 : w4.ownsRow Wd.heap.size 9 1 _ _ _ := hu3; have HU3 := Lib.hid hu3; have HLO3 := Lib.hid hlo3; clear hu3 hlo3; have f0 := (((bcell h4).1 w.heap.size 0 hdlt).trans d0); have f1 := (((bcell h4).1 w.heap.size 1 hdlt).trans d1); have fz := (((bcell h4).2 w.heap.size 1 hdlt).trans (dz 1)); have h4s := h4.size; have f1a : ∀ o, (w4.alloc o).cell? ⟨w.heap.size, 1, none⟩ = some (.slice A2 x.snaps.length c2) := fun o => (((below_alloc w4 o).cell (p := ⟨w.heap.size, 1, none⟩) (Nat.lt_of_lt_of_le hdlt h4.size)).trans f1))
    | (refine step_app _ rfl (.tmp 69) (.tmp 73) 37 rfl el_rows w2.heap.size (.slice A2 x.snaps.length c2) x.snaps.length vs rfl ((own_below HROW.out h4).alloc _) (.slice (some ⟨w4.heap.size, 0, none⟩) 1 1) 1 [.slice A3 6 c3] rfl ⟨rfl, .inr ⟨_, _, rfl, ?_⟩⟩ ?_ ?_ ?_ ?_ ?_
       · intro j v hj
         have hj0 : j = 0 := by (rcases j with _ | j <;> simp at hj ⊢)
         subst hj0
         simp at hj
         subst hj
         exact (Blk.new w4 _ _).cell 0
       · (intro v hv; rw [List.mem_singleton] at hv; subst hv; rfl)
       · (unfold maxLen; omega)
       · omega
       · (simp; have := h4s; omega)
       intro v5 w5 h5 hg5 _
       have hb5 := copy_cell (w := w2) HB0.out HROW.out h4 hg5
       have e0 := hb5.cell 0
       have e1 := hb5.cell 1
       simp only [List.getElem?_toArray, List.getElem?_cons_zero, List.getElem?_cons_succ] at e0 e1
       have ez := hb5.frozen
       have hr5 := blk_grow ((HR.out.same h4).alloc (Obj.cells #[.slice A3 6 c3] 36)) ((own_below HROW.out h4).alloc _) (by decide) hg5
       have g0 := hr5.cell 0
       have g1 := hr5.cell 1
       have g2 := hr5.cell 2
       simp only [List.getElem?_toArray, List.getElem?_cons_zero, List.getElem?_cons_succ] at g0 g1 g2
       have hp5 := blk_grow ((HQ.out.1.same h4).alloc (Obj.cells #[.slice A3 6 c3] 36)) ((own_below HROW.out h4).alloc _) (by decide) hg5
       have hs5 := blk_grow ((HQ.out.2.same h4).alloc (Obj.cells #[.slice A3 6 c3] 36)) ((own_below HROW.out h4).alloc _) (by decide) hg5
       have p0 := hp5.cell 0
       have p1 := hp5.cell 1
       have s0 := hs5.cell 0
       have s1 := hs5.cell 1
       have s2 := hs5.cell 2
       simp only [List.getElem?_toArray, List.getElem?_cons_zero, List.getElem?_cons_succ] at p0 p1 s0 s1 s2
       have pz := hp5.frozen
       have sz := hs5.frozen
       have HPS := Lib.hid (And.intro hp5 hs5)
       have hn03 : w3.heap.size ≠ w.heap.size := by omega
       have hn13 : w3.heap.size ≠ w.heap.size + 1 + 1 := by omega
       have hn23 : w3.heap.size ≠ w.heap.size + 1 + 1 + 1 := by omega
       have gz := hr5.frozen
       have HR5 := Lib.hid hr5
       have h35 : w.heap.size < w5.heap.size := hb5.lt
       have h36 : w3.heap.size < w5.heap.size := hr5.lt
       obtain ⟨A5, c5, rfl, _, _, _, _⟩ := rd_own h5
       have HG5 := Lib.hid (And.intro h5 hg5)
       have HB5 := Lib.hid hb5
       clear h5 hg5 hb5 hr5 hp5 hs5))
  all_goals
    go_wp2_with fail
    go_region
    rename_i hK
    refine hK _ _ (Go.wp_ret ?_)
    have hnA := own_below (own_below HON.out.1 h4) (below_alloc w4 (Obj.cells #[.slice A3 6 c3] 36))
    have hrA := own_below (own_below HROW.out h4) (below_alloc w4 (Obj.cells #[.slice A3 6 c3] 36))
    have hOV := OwnVol.push (x := x) (y := x.now) (u := .slice A3 6 c3) hnA HON.out.2.1 HON.out.2.2.1 hrA (fun j u y a b => ((HE.out j u y a b).below h4).alloc _) HLH.out.1 HLH.out.2 (by
        have h := (strs_own HU3.out HON.out.2.1 HON.out.2.2.1).alloc (Obj.cells #[.slice A3 6 c3] 36)
        rw [hl6] at h
        exact h)
      (fun g0 hg0 g' hg' => by
        have h1 : Wd.heap.size ≤ g' := (HLO3.out g' (by rw [hl6]; exact hg')).1
        have hg1 : g = g0 := by simpa [Value.ownBlock] using hg0
        have hg2 := hglt
        omega) (by unfold R47; omega) HG5.out.2 HG5.out.1
    have hO2 := (hOV.set_ (i := 1) HB5.out (by decide) (by decide) (.slice A5 (x.snaps.length + 1) c5)).set_ (i := 1) (HR5.out.far (p := ⟨w.heap.size, 1, none⟩) hn03 (.slice A5 (x.snaps.length + 1) c5)) (by decide) (by decide) (.int .i64 ((x.snaps.length : Int) + 1))
    have hq2 := (HPS.out.1.far (p := ⟨w.heap.size, 1, none⟩) (by simp; omega) (.slice A5 (x.snaps.length + 1) c5)).far (p := ⟨w3.heap.size, 1, none⟩) (fun e => hn13 e.symm) (.int .i64 ((x.snaps.length : Int) + 1))
    have hq3 := (HPS.out.2.far (p := ⟨w.heap.size, 1, none⟩) (by simp; omega) (.slice A5 (x.snaps.length + 1) c5)).far (p := ⟨w3.heap.size, 1, none⟩) (fun e => hn23 e.symm) (.int .i64 ((x.snaps.length : Int) + 1))
    obtain ⟨he2, he3, hes⟩ := do_end hq2 hq3 (by omega) (.slice (some ⟨g, 0, none⟩) 6 c) (.slice A5 (x.snaps.length + 1) c5) (.int .i64 0) (.int .i64 ((x.snaps.length : Int) + 1)) (.string ⟨#[]⟩)
    have hc2 := he2.drew
    have hc3 := he3.drew
    have r0 := hc2.cell 0
    have r1 := hc2.cell 1
    have r2 := hc3.cell 0
    have r3 := hc3.cell 1
    have r4 := hc3.cell 2
    simp only [List.getElem?_toArray, List.getElem?_cons_zero, List.getElem?_cons_succ] at r0 r1 r2 r3 r4
    refine bodyPost_ret (v := .tuple #[.agg #[(.slice (some ⟨g, 0, none⟩) 6 c), .slice A5 (x.snaps.length + 1) c5], .agg #[.int .i64 0, .int .i64 ((x.snaps.length : Int) + 1), .string ⟨#[]⟩], .int .i64 0]) (by simp [results, Tryd.results24, go_sem, r0, r1, r2, r3, r4]) rfl ?_
    refine ⟨⟨_, _, rfl, ((hO2.base_ hlow).same hes).below (Below.refl _ _).drew⟩, ?_⟩
    have hLA := (HON.out.2.2.2.trans (h4.mono HON.out.2.2.2.size)).alloc (by have := HON.out.2.2.2.size; have := h4.size; omega) (Obj.cells #[.slice A3 6 c3] 36)
    have hL5 := hLA.grown HG5.out.2 hLA.size (fun q hq => Nat.le_trans hlow (hrA.lt q hq).1)
    exact (do_below ((hL5.setCell (p := ⟨w.heap.size, 1, none⟩) (Nat.le_refl _) _).setCell (p := ⟨w3.heap.size, 1, none⟩) (by show w.heap.size ≤ w3.heap.size; omega) _) (by omega) (by omega) _ _ _ _ _).drew
end Go.Proofs.YtfpiembhlgcelaaDoor
/- volume.Do: all its kinds joined. -/
namespace Go.Proofs.YtfpiembhlgcelaaDoor
open Go.RowKit
set_option maxHeartbeats 400000
set_option maxRecDepth 100000

theorem volDo_c (nv sv : Value) (x : Scu.Volume) (ki a m : Int) (d : Scu.Str) (w : World) (B : Nat) (hv : IsVolume w B nv sv x) :
    Calls Tryd.prog 24 #[.agg #[nv, sv], .agg #[.int .i64 ki, .int .i64 a, .int .i64 m, .string d]] w fun e w' => DidRet w' w.heap.size (Scu.volDo x ⟨ki, a, m, d⟩) e ∧ Below w.heap.size w w' := by
  obtain ⟨A0, n0, c0, rfl⟩ := hv.now.form
  obtain ⟨A1, n1, c1, rfl⟩ := hv.snaps.form
  by_cases hf : Scu.volFault x ≠ 0
  · rw [vd1 hf]
    exact volDo_e1 A0 n0 c0 A1 n1 c1 x ki a m d w B hv hf
  by_cases ho : Scu.opFault ⟨ki, a, m, d⟩ ≠ 0
  · rw [vd2 hf ho]
    exact volDo_e2 A0 n0 c0 A1 n1 c1 x ki a m d w B hv hf ho
  rw [vd3 hf ho]
  obtain ⟨k0, k1, a0, a1, m0, m1, hd8, hsn, hat, hdt⟩ := Scu.opFault_ok (Decidable.not_not.1 ho)
  have hl6 := (volFault_ok hf).1
  have hs3 := (volFault_ok hf).2.1
  simp only at k0 k1 a0 a1 m0 m1 hd8 hsn hat
  obtain ⟨an, rfl⟩ := Int.eq_ofNat_of_zero_le a0
  have hd : d.size ≤ R47 := by unfold R47; omega
  have ha6 : an < 6 := by omega
  have hkind : (ki = 1 ∨ ki = 2) ∨ ki = 3 ∨ ki = 4 := by omega
  rcases hkind with hw | rfl | rfl
  · obtain rfl : m = 0 := hsn (by omega)
    have hd' : Scu.doIt x ⟨ki, an, 0, d⟩ = (⟨x.now.set an d, x.snaps⟩, Scu.reply0) := by unfold Scu.doIt; rw [if_pos hw]; rfl
    rw [hd']
    rcases hw with rfl | rfl
    · exact volDo_w1 A0 n0 c0 A1 n1 c1 x an d w B hv hf ho ha6 hd
    · exact volDo_w2 A0 n0 c0 A1 n1 c1 x an d w B hv hf ho ha6 hd
  · by_cases hm : m = 0
    · subst hm
      have hd' : Scu.doIt x ⟨3, an, 0, d⟩ = (x, ⟨0, 0, x.now.getD an Scu.str0⟩) := by
        unfold Scu.doIt
        rw [if_neg (by simp), if_neg (by simp), if_pos rfl]
        rfl
      rw [hd']
      exact volDo_r0 A0 n0 c0 A1 n1 c1 x an d w B hv hf ho ha6
    · obtain ⟨sn, rfl⟩ : ∃ sn : Nat, m = (sn : Int) + 1 := ⟨(m - 1).toNat, by omega⟩
      by_cases hgt : x.snaps.length < sn + 1
      · have hd' : Scu.doIt x ⟨3, an, (sn : Int) + 1, d⟩ = (x, ⟨6, 0, Scu.str0⟩) := by
          unfold Scu.doIt
          rw [if_neg (by simp), if_neg (by simp), if_neg (by simp only []; omega), if_pos (by simp only []; omega)]
          rfl
        rw [hd']
        exact volDo_r6 A0 n0 c0 A1 n1 c1 x an sn d w B hv hf ho ha6 hgt
      · have hd' : Scu.doIt x ⟨3, an, (sn : Int) + 1, d⟩ = (x, ⟨0, 0, (x.snaps.getD sn []).getD an Scu.str0⟩) := by
          unfold Scu.doIt
          rw [if_neg (by simp), if_neg (by simp), if_neg (by simp only []; omega), if_neg (by simp only []; omega)]
          have e1 : ((sn : Int) + 1 - 1).toNat = sn := by omega
          simp only [Int.toNat_natCast, e1]
          rfl
        rw [hd']
        exact volDo_rs A0 n0 c0 A1 n1 c1 x an sn d w B hv hf ho ha6 (by omega)
  · obtain rfl : m = 0 := hsn (by omega)
    obtain rfl : an = 0 := by have := hat rfl; omega
    by_cases h3 : x.snaps.length = 3
    · have hd' : Scu.doIt x ⟨4, (0 : Nat), 0, d⟩ = (x, ⟨7, 0, Scu.str0⟩) := by
        unfold Scu.doIt
        rw [if_neg (by simp), if_pos rfl, if_pos h3]
        rfl
      rw [hd']
      exact volDo_s7 A0 n0 c0 A1 n1 c1 x d w B hv hf ho h3
    · have hd' : Scu.doIt x ⟨4, (0 : Nat), 0, d⟩ = (⟨x.now, x.snaps ++ [x.now]⟩, ⟨0, (x.snaps.length : Int) + 1, Scu.str0⟩) := by
        unfold Scu.doIt
        rw [if_neg (by simp), if_pos rfl, if_neg h3]
        rfl
      rw [hd']
      exact volDo_sn A0 n0 c0 A1 n1 c1 x d w B hv hf ho (by omega)
end Go.Proofs.YtfpiembhlgcelaaDoor
/- Words for ref.DidOf. -/
namespace Go.Proofs.YtfpiembhlgcelaaDoor
open Go.RowKit
set_option maxHeartbeats 8000000
set_option maxRecDepth 100000

theorem strs_cell {w : World} {B : Nat} {v : Value} {xs : List Scu.Str} {k : Nat} (h : IsStrs w B v xs) (hk : k < xs.length) :
    ∃ q o c, v = .slice (some ⟨q, o, none⟩) xs.length c ∧ q < w.heap.size ∧ w.cell? ⟨q, o + k, none⟩ = some (.string xs[k]) := by
  obtain ⟨⟨A, c, rfl, _, hr⟩, _, _⟩ := h
  obtain ⟨q, o, rfl, h2, h3⟩ := hr.get (show (xs.map Value.string)[k]? = some (.string xs[k]) by simp [hk])
  exact ⟨q, o, c, rfl, h2, h3⟩
theorem rows_cell {w : World} {B : Nat} {v : Value} {xss : List (List Scu.Str)} {k : Nat} (h : IsRows w B v xss) (hk : k < xss.length) :
    ∃ q o c u, v = .slice (some ⟨q, o, none⟩) xss.length c ∧ q < w.heap.size ∧ w.cell? ⟨q, o + k, none⟩ = some u ∧ IsStrs w B u xss[k] := by
  obtain ⟨⟨A, c, vs, rfl, _, hr, hvl, hve⟩, _⟩ := h
  obtain ⟨q, o, u, rfl, h2, h3, h4⟩ := rows_get hr hvl hve hk
  exact ⟨q, o, c, u, rfl, h2, h3, h4⟩
end Go.Proofs.YtfpiembhlgcelaaDoor
/- Walks: ref.DidOf: what is refused. -/
namespace Go.Proofs.YtfpiembhlgcelaaDoor
open Go.RowKit
set_option maxHeartbeats 8000000
set_option maxRecDepth 100000

end Go.Proofs.YtfpiembhlgcelaaDoor
/- Walks: ref.DidOf: a sector is written, or trimmed. -/
namespace Go.Proofs.YtfpiembhlgcelaaDoor
open Go.RowKit
set_option maxHeartbeats 8000000
set_option maxRecDepth 100000

end Go.Proofs.YtfpiembhlgcelaaDoor
/- Walks: ref.DidOf: a sector is read. -/
namespace Go.Proofs.YtfpiembhlgcelaaDoor
open Go.RowKit
set_option maxHeartbeats 8000000
set_option maxRecDepth 100000

end Go.Proofs.YtfpiembhlgcelaaDoor
/- Walks: ref.DidOf: a sector of a snapshot is read. -/
namespace Go.Proofs.YtfpiembhlgcelaaDoor
open Go.RowKit
set_option maxHeartbeats 8000000
set_option maxRecDepth 100000

end Go.Proofs.YtfpiembhlgcelaaDoor
/- Walks: ref.DidOf: no snapshot more. -/
namespace Go.Proofs.YtfpiembhlgcelaaDoor
open Go.RowKit
set_option maxHeartbeats 8000000
set_option maxRecDepth 100000

end Go.Proofs.YtfpiembhlgcelaaDoor
/- Walks: ref.DidOf: a snapshot more. -/
namespace Go.Proofs.YtfpiembhlgcelaaDoor
open Go.RowKit
set_option maxHeartbeats 8000000
set_option maxRecDepth 100000

end Go.Proofs.YtfpiembhlgcelaaDoor
/- ref.DidOf: all its kinds joined; the law VolumeDoes, walked. -/
namespace Go.Proofs.YtfpiembhlgcelaaDoor
open Go.RowKit
set_option maxHeartbeats 1000000
set_option maxRecDepth 100000

def DidRetA (w : World) (base : Nat) (y : Scu.Volume) (rc rn : Int) (rd : Scu.Str) (qe : Int) (e : Ending) : Prop :=
  ∃ nu su, e = .returned (.tuple #[.agg #[nu, su], .agg #[.int .i64 rc, .int .i64 rn, .string rd], .int .i64 qe]) ∧ OwnVol w base nu su y
theorem volDo_a (nv sv : Value) (x : Scu.Volume) (ki a m : Int) (d : Scu.Str) (w : World) (B : Nat) (hv : IsVolume w B nv sv x) (y : Scu.Volume) (rc rn : Int) (rd : Scu.Str) (qe : Int) (h : Scu.volDo x ⟨ki, a, m, d⟩ = (y, ⟨rc, rn, rd⟩, qe)) :
    Calls Tryd.prog 24 #[.agg #[nv, sv], .agg #[.int .i64 ki, .int .i64 a, .int .i64 m, .string d]] w fun e w' => DidRetA w' w.heap.size y rc rn rd qe e ∧ Below w.heap.size w w' := by
  have := volDo_c nv sv x ki a m d w B hv
  rw [h] at this
  exact this
theorem run_eql_reply_same (rc rn : Int) (rd : Scu.Str) (W : World) : (binOp .eql 45 (.agg #[.int .i64 rc, .int .i64 rn, .string rd]) (.agg #[.int .i64 rc, .int .i64 rn, .string rd])).run Tryd.prog W = .ok (.bool true) W := by
  have := run_eql_reply ⟨rc, rn, rd⟩ ⟨rc, rn, rd⟩ W
  simpa using this
end Go.Proofs.YtfpiembhlgcelaaDoor
/- Words for machine.Apply: what it answers. -/
namespace Go.Proofs.YtfpiembhlgcelaaDoor
open Go.RowKit
set_option maxHeartbeats 400000
set_option maxRecDepth 100000

def AppRet (w : World) (y : Scu.State) (c : Int) (e : Ending) : Prop := ∃ nv sv lv, e = .returned (.tuple #[.agg #[nv, sv, lv], .int .i64 c]) ∧ IsState w 0 nv sv lv y
theorem state_zero (w : World) : IsState w 0 (.slice none 0 0) (.slice none 0 0) (.slice none 0 0) Scu.state0 :=
  ⟨(OwnVol.zero_ w 0).is, ⟨⟨none, 0, rfl, Nat.zero_le _, Rd.nil⟩, by simp [Scu.state0, R47]⟩⟩
theorem app_zero (w : World) (c : Int) : AppRet w Scu.state0 c (.returned (.tuple #[.agg #[.slice none 0 0, .slice none 0 0, .slice none 0 0], .int .i64 c])) := ⟨_, _, _, rfl, state_zero w⟩
section
variable {s : Scu.State} {e : Scu.Str} {r : Scu.Request} {c : Int}
theorem ap1 (h : Scu.stateFault s ≠ 0) : Scu.apply s e = (Scu.state0, Scu.stateFault s) := if_pos h
theorem ap2 (h : ¬ Scu.stateFault s ≠ 0) (hd : Scu.decode e = (r, c)) (hc : c ≠ 0) : Scu.apply s e = (Scu.state0, c) := by
  unfold Scu.apply
  rw [if_neg h, hd, if_pos hc]
theorem ap3 (h : ¬ Scu.stateFault s ≠ 0) (hd : Scu.decode e = (r, 0)) : Scu.apply s e = (Scu.applyIt s r, 0) := by
  unfold Scu.apply
  rw [if_neg h, hd, if_neg (by simp)]
theorem decode_req (hd : Scu.decode e = (r, 0)) : Scu.reqFault r = 0 := by
  unfold Scu.decode at hd
  split at hd
  · simp at hd
  split at hd
  · simp at hd
  simp only at hd
  split at hd
  · rename_i h; exact absurd (congrArg Prod.snd hd) h
  split at hd
  · rename_i h; exact absurd (congrArg Prod.snd hd) h
  split at hd
  · simp at hd
  split at hd
  · rename_i h; exact absurd (congrArg Prod.snd hd) h
  · rename_i h
    have e1 := congrArg Prod.fst hd
    simp only at e1
    rw [← e1]
    exact Decidable.not_not.1 h
theorem stateFault_ok (h : ¬ Scu.stateFault s ≠ 0) : s.lasts.length = 4 ∧ ¬ Scu.volFault s.volume ≠ 0 := by
  unfold Scu.stateFault at h
  split at h
  · rename_i hx
    unfold Scu.lastsOk at hx
    simp only [Bool.and_eq_true, beq_iff_eq] at hx
    exact ⟨hx.1, h⟩
  · exact absurd (by decide) h
end
section
variable {w w' : World} {nv sv lv : Value} {x : Scu.State}
theorem IsState.same (h : IsState w 0 nv sv lv x) (hs : Same [9, 36, 60] 0 w w') : IsState w' 0 nv sv lv x :=
  ⟨h.vol.same (hs.mono (fun t ht => by simp at ht ⊢; rcases ht with h | h <;> simp [h]) (Nat.le_refl _)) rfl, h.lasts.same (hs.mono (fun t ht => by simp at ht ⊢; simp [ht]) (Nat.le_refl _))⟩
theorem IsState.sets3 {g : Nat} {cs : Array Value} (h : IsState w 0 nv sv lv x) (hb : Blk w g 54 cs) (a b c : Value) :
    IsState (((w.setCell ⟨g, 0, none⟩ a).setCell ⟨g, 1, none⟩ b).setCell ⟨g, 2, none⟩ c) 0 nv sv lv x := h.same (Same.sets3 hb (Nat.zero_le _) (by decide) a b c)
theorem IsState.drew (h : IsState w 0 nv sv lv x) : IsState w.drew 0 nv sv lv x := h.below (Below.refl _ _).drew
end
theorem below_set3 {B g : Nat} {w w1 : World} {a b c : Value} (h : Below B w w1) (hg : B ≤ g) :
    Below B w (((w1.setCell ⟨g, 0, none⟩ a).setCell ⟨g, 1, none⟩ b).setCell ⟨g, 2, none⟩ c) :=
  ((h.setCell (p := ⟨g, 0, none⟩) hg _).setCell (p := ⟨g, 1, none⟩) hg _).setCell (p := ⟨g, 2, none⟩) hg _
theorem blk_set3 {g : Nat} {w : World} {a b c p q r : Value} (h : Blk w g 54 #[p, q, r]) :
    Blk (((w.setCell ⟨g, 0, none⟩ a).setCell ⟨g, 1, none⟩ b).setCell ⟨g, 2, none⟩ c) g 54 #[a, b, c] := ((h.set_ 0 a).set_ 1 b).set_ 2 c
end Go.Proofs.YtfpiembhlgcelaaDoor
/- machine.Apply, walked. -/
namespace Go.Proofs.YtfpiembhlgcelaaDoor
open Go.RowKit
set_option maxHeartbeats 4000000
set_option maxRecDepth 100000

theorem apply_e1 (A0 : Option Addr) (n0 c0 : Nat) (A1 : Option Addr) (n1 c1 : Nat) (A2 : Option Addr) (n2 c2 : Nat) (x : Scu.State) (s : Scu.Str) (w : World) (B : Nat) (hv : IsState w B (.slice A0 n0 c0) (.slice A1 n1 c1) (.slice A2 n2 c2) x) (hf : Scu.stateFault x ≠ 0) :
    Calls Tryd.prog 70 #[.agg #[.slice A0 n0 c0, .slice A1 n1 c1, .slice A2 n2 c2], .string s] w fun e w' => AppRet w' Scu.state0 (Scu.stateFault x) e ∧ Below w.heap.size w w' := by
  have HV := Lib.hid hv
  have hfb : (Scu.stateFault x != 0) = true := by simpa using hf
  clear hf hv
  go_enter Tryd.func70, Tryd.ntmps70
  go_wp2_with fail
  refine (machCheck_c _ _ _ x _ B ((HV.out.alloc _).alloc _)).mono ?_; rintro en w1 ⟨rfl, h1⟩
  have hs1 : Blk w1 w.heap.size 54 #[.slice A0 n0 c0, .slice A1 n1 c1, .slice A2 n2 c2] := ((Blk.new w _ _).alloc _).same h1
  have hz1 : Blk w1 (w.heap.size + 1) 54 #[.slice none 0 0, .slice none 0 0, .slice none 0 0] := (Blk.new' (by simp)).same h1
  have hb1 : Below w.heap.size w w1 := ((below_alloc w (Obj.cells #[.slice A0 n0 c0, .slice A1 n1 c1, .slice A2 n2 c2] 54)).alloc (by simp) (Obj.cells #[.slice none 0 0, .slice none 0 0, .slice none 0 0] 54)).trans (h1.mono (by simp; omega))
  clear h1
  have z0 := hz1.cell 0
  have z1 := hz1.cell 1
  have z2 := hz1.cell 2
  simp only [List.getElem?_toArray, List.getElem?_cons_zero, List.getElem?_cons_succ] at z0 z1 z2
  have zz := hz1.frozen
  have zl := hz1.lt
  have hr := blk_set3 (a := .slice none 0 0) (b := .slice none 0 0) (c := .slice none 0 0) hz1
  have r0 := hr.cell 0
  have r1 := hr.cell 1
  have r2 := hr.cell 2
  simp only [List.getElem?_toArray, List.getElem?_cons_zero, List.getElem?_cons_succ] at r0 r1 r2
  go_wp2
  refine bodyPost_ret (v := .tuple #[.agg #[.slice none 0 0, .slice none 0 0, .slice none 0 0], .int .i64 (Scu.stateFault x)]) (by simp [results, Tryd.results70, go_sem, r0, r1, r2]) rfl ?_
  exact ⟨app_zero _ _, below_set3 hb1 (by omega)⟩
theorem apply_e2 (A0 : Option Addr) (n0 c0 : Nat) (A1 : Option Addr) (n1 c1 : Nat) (A2 : Option Addr) (n2 c2 : Nat) (x : Scu.State) (s : Scu.Str) (r : Scu.Request) (c : Int) (w : World) (B : Nat) (hv : IsState w B (.slice A0 n0 c0) (.slice A1 n1 c1) (.slice A2 n2 c2) x) (hf : ¬ Scu.stateFault x ≠ 0)
    (hd : Scu.decode s = (r, c)) (hc : c ≠ 0) :
    Calls Tryd.prog 70 #[.agg #[.slice A0 n0 c0, .slice A1 n1 c1, .slice A2 n2 c2], .string s] w fun e w' => AppRet w' Scu.state0 c e ∧ Below w.heap.size w w' := by
  have HV := Lib.hid hv
  have HD := Lib.hid hd
  have hfb : (Scu.stateFault x != 0) = false := by simpa using hf
  have hcb : (c != 0) = true := by simpa using hc
  clear hf hv hd hc
  go_enter Tryd.func70, Tryd.ntmps70
  go_wp2_with fail
  refine (machCheck_c _ _ _ x _ B ((HV.out.alloc _).alloc _)).mono ?_; rintro en w1 ⟨rfl, h1⟩
  have hs1 : Blk w1 w.heap.size 54 #[.slice A0 n0 c0, .slice A1 n1 c1, .slice A2 n2 c2] := ((Blk.new w _ _).alloc _).same h1
  have hz1 : Blk w1 (w.heap.size + 1) 54 #[.slice none 0 0, .slice none 0 0, .slice none 0 0] := (Blk.new' (by simp)).same h1
  have hb1 : Below w.heap.size w w1 := ((below_alloc w (Obj.cells #[.slice A0 n0 c0, .slice A1 n1 c1, .slice A2 n2 c2] 54)).alloc (by simp) (Obj.cells #[.slice none 0 0, .slice none 0 0, .slice none 0 0] 54)).trans (h1.mono (by simp; omega))
  clear h1
  have z0 := hz1.cell 0
  have z1 := hz1.cell 1
  have z2 := hz1.cell 2
  simp only [List.getElem?_toArray, List.getElem?_cons_zero, List.getElem?_cons_succ] at z0 z1 z2
  have zz := hz1.frozen
  have zl := hz1.lt
  go_wp2_with fail
  refine (decode_a s _ r c HD.out).mono ?_; rintro en w2 ⟨rfl, h2⟩
  have hs2 := hs1.same h2
  have hz2 := hz1.same h2
  have hz2l := hz2.lt
  have hb2 := hb1.trans (h2.mono hb1.size)
  clear h2 hs1 hz1 hb1 z0 z1 z2 zz zl
  go_upto_region 5 with fail
  obtain ⟨Wd, hWd⟩ : ∃ W, W = w2.alloc (Obj.cells #[.int .i64 r.client, .int .i64 r.num, .int .i64 r.op.kind, .int .i64 r.op.at_, .int .i64 r.op.snap, .string r.op.data] 28) := ⟨_, rfl⟩
  rw [← hWd]
  have hbw : Below w2.heap.size w2 Wd := by rw [hWd]; exact below_alloc _ _
  have hq : Blk Wd w2.heap.size 28 #[.int .i64 r.client, .int .i64 r.num, .int .i64 r.op.kind, .int .i64 r.op.at_, .int .i64 r.op.snap, .string r.op.data] := by rw [hWd]; exact Blk.new _ _ _
  have hs := hs2.same hbw
  have hz := hz2.same hbw
  have hb := hb2.trans (hbw.mono hb2.size)
  clear hs2 hz2 hb2 hbw hWd
  have z0 := hz.cell 0
  have z1 := hz.cell 1
  have z2 := hz.cell 2
  simp only [List.getElem?_toArray, List.getElem?_cons_zero, List.getElem?_cons_succ] at z0 z1 z2
  have zz := hz.frozen
  have zl := hz.lt
  have s0 := hs.cell 0
  have s1 := hs.cell 1
  have s2 := hs.cell 2
  simp only [List.getElem?_toArray, List.getElem?_cons_zero, List.getElem?_cons_succ] at s0 s1 s2
  have sz := hs.frozen
  have sl := hs.lt
  have q0 := hq.cell 0
  have q1 := hq.cell 1
  have q2 := hq.cell 2
  have q3 := hq.cell 3
  have q4 := hq.cell 4
  have q5 := hq.cell 5
  simp only [List.getElem?_toArray, List.getElem?_cons_zero, List.getElem?_cons_succ] at q0 q1 q2 q3 q4 q5
  have ql := hq.lt
  have hr := blk_set3 (a := .slice none 0 0) (b := .slice none 0 0) (c := .slice none 0 0) hz
  have r0 := hr.cell 0
  have r1 := hr.cell 1
  have r2 := hr.cell 2
  simp only [List.getElem?_toArray, List.getElem?_cons_zero, List.getElem?_cons_succ] at r0 r1 r2
  go_wp2
  refine bodyPost_ret (v := .tuple #[.agg #[.slice none 0 0, .slice none 0 0, .slice none 0 0], .int .i64 c]) (by simp [results, Tryd.results70, go_sem, r0, r1, r2]) rfl ?_
  exact ⟨app_zero _ _, below_set3 hb (by omega)⟩
structure Apl (Wd : World) (x : Scu.State) (g : Nat) (nu su lu : Value) (wx : World) : Prop where
  out : Blk wx g 54 #[nu, su, lu]
  lo : Wd.heap.size ≤ g
  vol : OwnVol wx Wd.heap.size nu su x.volume
  lasts : OwnLasts wx Wd.heap.size lu x.lasts
  low : Below Wd.heap.size Wd wx
theorem use {P Q : Prop} (h : P) (k : P → Q) : Q := k h
theorem apl_new {Wd wb : World} {x : Scu.State} {nu su lu : Value} (hB : Below Wd.heap.size Wd wb) (hu : OwnVol wb Wd.heap.size nu su x.volume) (hl : OwnLasts wb Wd.heap.size lu x.lasts) :
    Apl Wd x wb.heap.size nu su lu (wb.alloc (Obj.cells #[nu, su, lu] 54)) :=
  ⟨Blk.new wb _ _, hB.size, hu.alloc _, hl.below (below_alloc wb _), hB.alloc hB.size _⟩
theorem apl_set {Wd wb : World} {x : Scu.State} {g : Nat} {nu su lu a b c : Value} (hB : Below Wd.heap.size Wd wb) (hu : OwnVol wb Wd.heap.size nu su x.volume) (hl : OwnLasts wb Wd.heap.size lu x.lasts) (hb : Blk wb g 54 #[a, b, c]) (hg : Wd.heap.size ≤ g) :
    Apl Wd x g nu su lu (((wb.setCell ⟨g, 0, none⟩ nu).setCell ⟨g, 1, none⟩ su).setCell ⟨g, 2, none⟩ lu) :=
  ⟨blk_set3 hb, hg, hu.same (Same.sets3 (B := 0) hb (Nat.zero_le _) (by decide) _ _ _), hl.same (Same.sets3 (B := 0) hb (Nat.zero_le _) (by decide) _ _ _), below_set3 hB hg⟩
theorem apply_3 (A0 : Option Addr) (n0 c0 : Nat) (A1 : Option Addr) (n1 c1 : Nat) (A2 : Option Addr) (n2 c2 : Nat) (x : Scu.State) (s : Scu.Str) (r : Scu.Request) (k : Nat) (w : World) (B : Nat) (hv : IsState w B (.slice A0 n0 c0) (.slice A1 n1 c1) (.slice A2 n2 c2) x) (hf : ¬ Scu.stateFault x ≠ 0)
    (hd : Scu.decode s = (r, 0)) (hk : r.client = (k : Int) + 1) (hk4 : k < x.lasts.length) :
    Calls Tryd.prog 70 #[.agg #[.slice A0 n0 c0, .slice A1 n1 c1, .slice A2 n2 c2], .string s] w fun e w' => AppRet w' (Scu.applyIt x r) 0 e ∧ Below w.heap.size w w' := by
  have hof : ¬ Scu.opFault r.op ≠ 0 := by have := (Scu.reqFault_ok (decode_req hd)).2.2.2.2; omega
  have HOF := Lib.hid hof
  clear hof
  have HV := Lib.hid hv
  have HD := Lib.hid hd
  have hfb : (Scu.stateFault x != 0) = false := by simpa using hf
  have hcb : ((0 : Int) != 0) = false := rfl
  obtain ⟨hl4, hvf⟩ := stateFault_ok hf
  have HVF := Lib.hid hvf
  have HL4 := Lib.hid hl4
  have hkl : (k : Int) < (x.lasts.length : Int) := by omega
  have hn2 : n2 = x.lasts.length := by
    obtain ⟨A, c, e, _⟩ := hv.lasts.ex
    cases e
    rfl
  have hkn : (k : Int) < (n2 : Int) := by omega
  have hk3 : k < 4 := by omega
  have hk3' : (k : Int) < 4 := by omega
  have HK := Lib.hid hk
  clear hf hv hd hvf hl4 hn2 hk
  go_enter Tryd.func70, Tryd.ntmps70
  go_wp2_with fail
  refine (machCheck_c _ _ _ x _ B ((HV.out.alloc _).alloc _)).mono ?_; rintro en w1 ⟨rfl, h1⟩
  have hs1 : Blk w1 w.heap.size 54 #[.slice A0 n0 c0, .slice A1 n1 c1, .slice A2 n2 c2] := ((Blk.new w _ _).alloc _).same h1
  have hz1 : Blk w1 (w.heap.size + 1) 54 #[.slice none 0 0, .slice none 0 0, .slice none 0 0] := (Blk.new' (by simp)).same h1
  have hb1 : Below w.heap.size w w1 := ((below_alloc w (Obj.cells #[.slice A0 n0 c0, .slice A1 n1 c1, .slice A2 n2 c2] 54)).alloc (by simp) (Obj.cells #[.slice none 0 0, .slice none 0 0, .slice none 0 0] 54)).trans (h1.mono (by simp; omega))
  clear h1
  have z0 := hz1.cell 0
  have z1 := hz1.cell 1
  have z2 := hz1.cell 2
  simp only [List.getElem?_toArray, List.getElem?_cons_zero, List.getElem?_cons_succ] at z0 z1 z2
  have zz := hz1.frozen
  have zl := hz1.lt
  go_wp2_with fail
  refine (decode_a s _ r 0 HD.out).mono ?_; rintro en w2 ⟨rfl, h2⟩
  have hs2 := hs1.same h2
  have hz2 := hz1.same h2
  have hz2l := hz2.lt
  have hb2 := hb1.trans (h2.mono hb1.size)
  clear h2 hs1 hz1 hb1 z0 z1 z2 zz zl
  go_upto_region 5 with fail
  obtain ⟨Wd, hWd⟩ : ∃ W, W = w2.alloc (Obj.cells #[.int .i64 r.client, .int .i64 r.num, .int .i64 r.op.kind, .int .i64 r.op.at_, .int .i64 r.op.snap, .string r.op.data] 28) := ⟨_, rfl⟩
  rw [← hWd]
  have hbw : Below w2.heap.size w2 Wd := by rw [hWd]; exact below_alloc _ _
  have hq : Blk Wd w2.heap.size 28 #[.int .i64 r.client, .int .i64 r.num, .int .i64 r.op.kind, .int .i64 r.op.at_, .int .i64 r.op.snap, .string r.op.data] := by rw [hWd]; exact Blk.new _ _ _
  have hs := hs2.same hbw
  have hz := hz2.same hbw
  have hb := hb2.trans (hbw.mono hb2.size)
  clear hs2 hz2 hb2 hbw hWd
  have z0 := hz.cell 0
  have z1 := hz.cell 1
  have z2 := hz.cell 2
  simp only [List.getElem?_toArray, List.getElem?_cons_zero, List.getElem?_cons_succ] at z0 z1 z2
  have zz := hz.frozen
  have zl := hz.lt
  have s0 := hs.cell 0
  have s1 := hs.cell 1
  have s2 := hs.cell 2
  simp only [List.getElem?_toArray, List.getElem?_cons_zero, List.getElem?_cons_succ] at s0 s1 s2
  have sz := hs.frozen
  have sl := hs.lt
  have q0 := hq.cell 0
  have q1 := hq.cell 1
  have q2 := hq.cell 2
  have q3 := hq.cell 3
  have q4 := hq.cell 4
  have q5 := hq.cell 5
  simp only [List.getElem?_toArray, List.getElem?_cons_zero, List.getElem?_cons_succ] at q0 q1 q2 q3 q4 q5
  have ql := hq.lt
  have HVW := Lib.hid (HV.out.below hb)
  have HS := Lib.hid (And.intro hs (And.intro hz (And.intro hq hb)))
  clear hs hz hq hb
  go_upto_region 7 with fail
  go_cut [9] (fun p wx => ∃ g nu su lu, p = .pointer (some ⟨g, 0, none⟩) ∧ Apl Wd x g nu su lu wx)
  case first =>
    go_region_with (first
      | (go_at_call 65; refine (copyVol_c _ _ x.volume _ B ?_).mono ?_; (first | exact HVW.out.vol.drewN 1 | exact (HVW.out.vol.alloc _).drewN 1 | exact (HVW.out.vol.drewN 1).alloc _); rintro en wa ⟨⟨nu, su, rfl, hu⟩, ha⟩
         refine use (P := Below Wd.heap.size Wd wa) ?_ ?_
         (first | exact (below_drewN (Below.refl _ _) 1).trans ha | exact (below_drewN (below_alloc Wd (Obj.cells #[.slice none 0 0, .slice none 0 0, .slice none 0 0] 54)) 1).trans (ha.mono (Nat.le_succ_of_le (Nat.le_refl _))) | exact ((below_drewN (Below.refl _ _) 1).alloc (Nat.le_refl _) (Obj.cells #[.slice none 0 0, .slice none 0 0, .slice none 0 0] 54)).trans (ha.mono (by simp)))
         intro hA
         refine use (P := OwnVol wa Wd.heap.size nu su x.volume) ?_ ?_
         (first | exact hu | exact hu.base_ (by simp))
         clear hu; intro hu
         obtain ⟨A3, n3, c3, rfl⟩ := hu.is.now.form
         obtain ⟨A4, n4, c4, rfl⟩ := hu.is.snaps.form
         have HA := Lib.hid hA
         have HU := Lib.hid hu
         have t2 := (hA.cell (p := ⟨w.heap.size, 2, none⟩) sl).trans s2
         have hal := hA.size
         have tl : w.heap.size < wa.heap.size := Nat.lt_of_lt_of_le sl hA.size
         have tz := (hA.cell (p := ⟨w.heap.size, 0, none⟩) sl).trans s0
         (try (refine use (P := Blk wa Wd.heap.size 54 #[.slice none 0 0, .slice none 0 0, .slice none 0 0]) ?_ ?_; (first | exact ((Blk.new Wd _ _).drew).same ha | exact (Blk.new (Wd.drewN 1) _ _).same ha); intro hbo; have HBOa := Lib.hid hbo; clear hbo))
         clear hu ha hA)
      | (go_at_call 92; refine (cloneLasts_c _ x.lasts _ B ?_).mono ?_; (first | exact HVW.out.lasts.below HA.out | exact (HVW.out.lasts.below HA.out).alloc _); rintro en wb ⟨⟨lu, rfl, hl⟩, hb⟩
         refine use (P := Below wa.heap.size wa wb) ?_ ?_
         (first | exact hb | exact (below_alloc wa (Obj.cells #[.slice none 0 0, .slice none 0 0, .slice none 0 0] 54)).trans (hb.mono (by simp)))
         intro hB
         refine use (P := OwnLasts wb Wd.heap.size lu x.lasts) ?_ ?_
         (first | exact hl.base_ HA.out.size | exact hl.base_ (Nat.le_trans HA.out.size (by simp)))
         clear hl; intro hl
         obtain ⟨A5, n5, c5, rfl⟩ := hl.is.form
         have HUb := Lib.hid (HU.out.below hB)
         have HLb := Lib.hid hl
         have HB := Lib.hid (HA.out.trans (hB.mono HA.out.size))
         have hbl := hB.size
         (try (have HBO := Lib.hid (show Blk wb Wd.heap.size 54 #[.slice none 0 0, .slice none 0 0, .slice none 0 0] from HBOa.out.same hB); have b0 := HBO.out.cell 0; have b1 := HBO.out.cell 1; have b2 := HBO.out.cell 2; simp only [List.getElem?_toArray, List.getElem?_cons_zero, List.getElem?_cons_succ] at b0 b1 b2; have bz := HBO.out.frozen; have bl := HBO.out.lt))
         (try (have HBO := Lib.hid (show Blk wb wa.heap.size 54 #[.slice none 0 0, .slice none 0 0, .slice none 0 0] from (Blk.new wa _ _).same hb); have b0 := HBO.out.cell 0; have b1 := HBO.out.cell 1; have b2 := HBO.out.cell 2; simp only [List.getElem?_toArray, List.getElem?_cons_zero, List.getElem?_cons_succ] at b0 b1 b2; have bz := HBO.out.frozen; have bl := HBO.out.lt))
         clear hl hb hB)
      | (go_at_call 92; refine (cloneLasts_c _ x.lasts _ B ?_).mono ?_; (first | exact HVW.out.lasts.drewN 1 | exact (HVW.out.lasts.alloc _).drewN 1 | exact (HVW.out.lasts.drewN 1).alloc _); rintro en wa ⟨⟨lu, rfl, hl⟩, ha⟩
         refine use (P := Below Wd.heap.size Wd wa) ?_ ?_
         (first | exact (below_drewN (Below.refl _ _) 1).trans ha | exact (below_drewN (below_alloc Wd (Obj.cells #[.slice none 0 0, .slice none 0 0, .slice none 0 0] 54)) 1).trans (ha.mono (Nat.le_succ_of_le (Nat.le_refl _))) | exact ((below_drewN (Below.refl _ _) 1).alloc (Nat.le_refl _) (Obj.cells #[.slice none 0 0, .slice none 0 0, .slice none 0 0] 54)).trans (ha.mono (by simp)))
         intro hA
         refine use (P := OwnLasts wa Wd.heap.size lu x.lasts) ?_ ?_
         (first | exact hl | exact hl.base_ (by simp))
         clear hl; intro hl
         obtain ⟨A5, n5, c5, rfl⟩ := hl.is.form
         have HA := Lib.hid hA
         have HL := Lib.hid hl
         have t0 := (hA.cell (p := ⟨w.heap.size, 0, none⟩) sl).trans s0
         have t1 := (hA.cell (p := ⟨w.heap.size, 1, none⟩) sl).trans s1
         have hal := hA.size
         have tl : w.heap.size < wa.heap.size := Nat.lt_of_lt_of_le sl hA.size
         have tz := (hA.cell (p := ⟨w.heap.size, 0, none⟩) sl).trans s0
         (try (refine use (P := Blk wa Wd.heap.size 54 #[.slice none 0 0, .slice none 0 0, .slice none 0 0]) ?_ ?_; (first | exact ((Blk.new Wd _ _).drew).same ha | exact (Blk.new (Wd.drewN 1) _ _).same ha); intro hbo; have HBOa := Lib.hid hbo; clear hbo))
         clear hl ha hA)
      | (go_at_call 65; refine (copyVol_c _ _ x.volume _ B ?_).mono ?_; (first | exact HVW.out.vol.below HA.out | exact (HVW.out.vol.below HA.out).alloc _); rintro en wb ⟨⟨nu, su, rfl, hu⟩, hb⟩
         refine use (P := Below wa.heap.size wa wb) ?_ ?_
         (first | exact hb | exact (below_alloc wa (Obj.cells #[.slice none 0 0, .slice none 0 0, .slice none 0 0] 54)).trans (hb.mono (by simp)))
         intro hB
         refine use (P := OwnVol wb Wd.heap.size nu su x.volume) ?_ ?_
         (first | exact hu.base_ HA.out.size | exact hu.base_ (Nat.le_trans HA.out.size (by simp)))
         clear hu; intro hu
         obtain ⟨A3, n3, c3, rfl⟩ := hu.is.now.form
         obtain ⟨A4, n4, c4, rfl⟩ := hu.is.snaps.form
         have HUb := Lib.hid hu
         have HLb := Lib.hid (HL.out.below hB)
         have HB := Lib.hid (HA.out.trans (hB.mono HA.out.size))
         have hbl := hB.size
         (try (have HBO := Lib.hid (show Blk wb Wd.heap.size 54 #[.slice none 0 0, .slice none 0 0, .slice none 0 0] from HBOa.out.same hB); have b0 := HBO.out.cell 0; have b1 := HBO.out.cell 1; have b2 := HBO.out.cell 2; simp only [List.getElem?_toArray, List.getElem?_cons_zero, List.getElem?_cons_succ] at b0 b1 b2; have bz := HBO.out.frozen; have bl := HBO.out.lt))
         (try (have HBO := Lib.hid (show Blk wb wa.heap.size 54 #[.slice none 0 0, .slice none 0 0, .slice none 0 0] from (Blk.new wa _ _).same hb); have b0 := HBO.out.cell 0; have b1 := HBO.out.cell 1; have b2 := HBO.out.cell 2; simp only [List.getElem?_toArray, List.getElem?_cons_zero, List.getElem?_cons_succ] at b0 b1 b2; have bz := HBO.out.frozen; have bl := HBO.out.lt))
         clear hu hb hB))
    all_goals
      go_wp2_with fail
      go_meet
      first
        | exact ⟨_, _, _, _, rfl, apl_new HB.out HUb.out HLb.out⟩
        | exact ⟨_, _, _, _, rfl, apl_set HB.out HUb.out HLb.out HBO.out (by omega)⟩
  case rest =>
  obtain ⟨g, nu, su, lu, rfl, hA⟩ := hcut
  obtain ⟨A3, n3, c3, rfl⟩ := hA.vol.is.now.form
  obtain ⟨A4, n4, c4, rfl⟩ := hA.vol.is.snaps.form
  obtain ⟨gl, cl, cur, rfl, hgl, hbl, hcl⟩ := hA.lasts.at_ (by omega)
  have hlow := hA.low
  have hs := HS.out.1.same hlow
  have hz := HS.out.2.1.same hlow
  have hq := HS.out.2.2.1.same hlow
  have hwd := HS.out.2.2.2.size
  have hb := HS.out.2.2.2.trans (hlow.mono hwd)
  have ho := hA.out
  have hzl0 := zl
  have hql0 := ql
  clear s0 s1 s2 sz sl z0 z1 z2 zz zl q0 q1 q2 q3 q4 q5 ql
  have s0 := hs.cell 0
  have s1 := hs.cell 1
  have s2 := hs.cell 2
  simp only [List.getElem?_toArray, List.getElem?_cons_zero, List.getElem?_cons_succ] at s0 s1 s2
  have sz := hs.frozen
  have sl := hs.lt
  have z0 := hz.cell 0
  have z1 := hz.cell 1
  have z2 := hz.cell 2
  simp only [List.getElem?_toArray, List.getElem?_cons_zero, List.getElem?_cons_succ] at z0 z1 z2
  have zz := hz.frozen
  have zl := hz.lt
  have q0 := hq.cell 0
  have q1 := hq.cell 1
  have q2 := hq.cell 2
  have q3 := hq.cell 3
  have q4 := hq.cell 4
  have q5 := hq.cell 5
  simp only [List.getElem?_toArray, List.getElem?_cons_zero, List.getElem?_cons_succ] at q0 q1 q2 q3 q4 q5
  have ql := hq.lt
  have o0 := ho.cell 0
  have o1 := ho.cell 1
  have o2 := ho.cell 2
  simp only [List.getElem?_toArray, List.getElem?_cons_zero, List.getElem?_cons_succ] at o0 o1 o2
  have oz := ho.frozen
  have ol := ho.lt
  have hk := HK.out
  rw [hk] at q0
  obtain ⟨⟨A, c, e, _, hr⟩, _⟩ := HV.out.lasts.below hb
  obtain ⟨gi, oi, rfl, hgi, hm0, _⟩ := last_get hr hk4
  obtain rfl : A2 = some ⟨gi, oi, none⟩ := by cases e; rfl
  obtain ⟨ln, hln⟩ : ∃ n, n = x.lasts[k].num := ⟨_, rfl⟩
  rw [← hln] at hm0
  have HLN := Lib.hid hln
  have hgo := hA.lo
  have HA := Lib.hid hA
  have HB := Lib.hid hb
  have HZ := Lib.hid hz
  have HQ := Lib.hid hq
  have HBL := Lib.hid hbl
  have HCL := Lib.hid hcl
  have hgl0 := hbl.lt
  clear hs hz hq hb ho hr e hln hA hlow hk hbl hcl
  by_cases hle : r.num ≤ ln
  · have hap : Scu.applyIt x r = x := by
      unfold Scu.applyIt
      rw [HK.out, show ((k : Int) + 1 - 1).toNat = k by omega, List.getD_eq_getElem?_getD, List.getElem?_eq_getElem hk4, Option.getD_some, if_pos (by rw [← HLN.out]; exact hle)]
    go_wp2_with fail
    go_quiet (fail)
    go_wp2_with fail
    have hz' : Blk (wc.drewN nq) (w.heap.size + 1) 54 #[.slice none 0 0, .slice none 0 0, .slice none 0 0] := HZ.out
    have hr := blk_set3 (a := .slice A3 n3 c3) (b := .slice A4 n4 c4) (c := .slice (some ⟨gl, 0, none⟩) x.lasts.length cl) hz'
    have r0 := hr.cell 0
    have r1 := hr.cell 1
    have r2 := hr.cell 2
    simp only [List.getElem?_toArray, List.getElem?_cons_zero, List.getElem?_cons_succ] at r0 r1 r2
    refine bodyPost_ret (v := .tuple #[.agg #[.slice A3 n3 c3, .slice A4 n4 c4, .slice (some ⟨gl, 0, none⟩) x.lasts.length cl], .int .i64 0]) (by simp [results, Tryd.results70, go_sem, r0, r1, r2]) rfl ?_
    exact ⟨by rw [hap]; exact ⟨_, _, _, rfl, IsState.sets3 (w := wc.drewN nq) ⟨HA.out.vol.is.drewN nq, HA.out.lasts.is.drewN nq⟩ hz' _ _ _⟩, below_set3 (below_drewN HB.out nq) (by omega)⟩
  · have hap : Scu.applyIt x r = ⟨(Scu.doIt x.volume r.op).1, x.lasts.set k ⟨r.num, (Scu.doIt x.volume r.op).2⟩⟩ := by
      unfold Scu.applyIt
      rw [HK.out, show ((k : Int) + 1 - 1).toNat = k by omega, List.getD_eq_getElem?_getD, List.getElem?_eq_getElem hk4, Option.getD_some, if_neg (by rw [← HLN.out]; exact hle)]
    have hdo := vd3 HVF.out HOF.out
    generalize Scu.doIt x.volume r.op = q at hap hdo
    obtain ⟨y, ⟨rc, rn, rd⟩⟩ := q
    simp only at hap hdo
    have HDO := Lib.hid hdo
    have HAP := Lib.hid hap
    have hgt : ln < r.num := by omega
    clear hap hdo hle
    go_wp2_with fail
    go_quiet (fail)
    go_wp2_with fail
    refine (volDo_a _ _ x.volume r.op.kind r.op.at_ r.op.snap r.op.data _ 0 (HA.out.vol.is.drewN nq) y rc rn rd 0 HDO.out).mono ?_; rintro en w4 ⟨⟨na, sa, rfl, ha⟩, h4⟩
    have h4 : Below wc.heap.size wc w4 := (below_drewN (Below.refl _ _) nq).trans h4
    obtain ⟨A6, n6, c6, rfl⟩ := ha.is.now.form
    obtain ⟨A7, n7, c7, rfl⟩ := ha.is.snaps.form
    go_upto_region 11 with fail
    obtain ⟨Wf, hWf⟩ : ∃ W, W = (w4.alloc (Obj.cells #[.slice A6 n6 c6, .slice A7 n7 c7] 39)).alloc (Obj.cells #[.int .i64 rc, .int .i64 rn, .string rd] 45) := ⟨_, rfl⟩
    rw [← hWf]
    have hbf : Below w4.heap.size w4 Wf := by rw [hWf]; exact (below_alloc w4 _).alloc (by simp) _
    have hyv : Blk Wf w4.heap.size 39 #[.slice A6 n6 c6, .slice A7 n7 c7] := by rw [hWf]; exact (Blk.new w4 _ _).alloc _
    have hyr : Blk Wf (w4.heap.size + 1) 45 #[.int .i64 rc, .int .i64 rn, .string rd] := by rw [hWf]; exact Blk.new' (by simp)
    have h4s := h4.size
    have hcf := h4.trans (hbf.mono h4s)
    have hz := HZ.out.same hcf
    have hq := HQ.out.same hcf
    have ho := HA.out.out.same hcf
    have hbl := HBL.out.same hcf
    have hvl := ha.below hbf
    have hll := HA.out.lasts.below hcf
    have hbb := HB.out.trans (hcf.mono HB.out.size)
    have e : ∀ j, j < 4 → (x.lasts.flatMap lastC)[k * 4 + j]? = (lastC x.lasts[k])[j]? := fun j hj => flat_get lastC 4 (fun _ => rfl) x.lasts k j hk4 hj
    have l0 : Wf.cell? ⟨gl, k * 4, none⟩ = some (.int .i64 x.lasts[k].num) := ((hcf.cell (p := ⟨gl, k * 4, none⟩) hgl0).trans (HCL.out (k * 4) (by omega))).trans (e 0 (by omega))
    have l1 : Wf.cell? ⟨gl, k * 4 + 1, none⟩ = some (.int .i64 x.lasts[k].reply.code) := ((hcf.cell (p := ⟨gl, k * 4 + 1, none⟩) hgl0).trans (HCL.out (k * 4 + 1) (by omega))).trans (e 1 (by omega))
    have l2 : Wf.cell? ⟨gl, k * 4 + 2, none⟩ = some (.int .i64 x.lasts[k].reply.n) := ((hcf.cell (p := ⟨gl, k * 4 + 2, none⟩) hgl0).trans (HCL.out (k * 4 + 2) (by omega))).trans (e 2 (by omega))
    have l3 : Wf.cell? ⟨gl, k * 4 + 3, none⟩ = some (.string x.lasts[k].reply.data) := ((hcf.cell (p := ⟨gl, k * 4 + 3, none⟩) hgl0).trans (HCL.out (k * 4 + 3) (by omega))).trans (e 3 (by omega))
    have lz := hbl.frozen
    have ll := hbl.lt
    have hgg : gl ≠ g := by
      rintro rfl
      unfold Blk at hbl ho
      rw [hbl] at ho
      cases ho
    have hgg' : g ≠ gl := fun e => hgg e.symm
    have hgc := ol
    clear s0 s1 s2 sz sl z0 z1 z2 zz zl q0 q1 q2 q3 q4 q5 ql o0 o1 o2 oz ol hm0 e hWf h4
    have z0 := hz.cell 0
    have z1 := hz.cell 1
    have z2 := hz.cell 2
    simp only [List.getElem?_toArray, List.getElem?_cons_zero, List.getElem?_cons_succ] at z0 z1 z2
    have zz := hz.frozen
    have zl := hz.lt
    have q0 := hq.cell 0
    have q1 := hq.cell 1
    have q2 := hq.cell 2
    have q3 := hq.cell 3
    have q4 := hq.cell 4
    have q5 := hq.cell 5
    simp only [List.getElem?_toArray, List.getElem?_cons_zero, List.getElem?_cons_succ] at q0 q1 q2 q3 q4 q5
    have ql := hq.lt
    have o0 := ho.cell 0
    have o1 := ho.cell 1
    have o2 := ho.cell 2
    simp only [List.getElem?_toArray, List.getElem?_cons_zero, List.getElem?_cons_succ] at o0 o1 o2
    have oz := ho.frozen
    have ol := ho.lt
    rw [HK.out] at q0
    have v0 := hyv.cell 0
    have v1 := hyv.cell 1
    have y0 := hyr.cell 0
    have y1 := hyr.cell 1
    have y2 := hyr.cell 2
    simp only [List.getElem?_toArray, List.getElem?_cons_zero, List.getElem?_cons_succ] at v0 v1 y0 y1 y2
    have hvlt := hyv.lt
    have hylt := hyr.lt
    have hg1 : g ≠ w.heap.size + 1 := by omega
    have hg2 : g ≠ w2.heap.size := by omega
    have hg3 : g ≠ w4.heap.size := by omega
    have hg4 : g ≠ w4.heap.size + 1 := by omega
    have hl1 : gl ≠ w.heap.size + 1 := by omega
    have hl2 : gl ≠ w2.heap.size := by omega
    have hl3 : gl ≠ w4.heap.size := by omega
    have hl5 : gl ≠ w4.heap.size + 1 := by omega
    have HX := Lib.hid (And.intro hz (And.intro ho (And.intro hbl (And.intro hvl (And.intro hll hbb)))))
    clear hz hq ho hbl hvl hll hbb hyv hyr hcf hbf ha
    go_region
    obtain ⟨Wg, hWg⟩ : ∃ W, W = ((((((Wf.setCell ⟨g, 0, none⟩ (.slice A6 n6 c6)).setCell ⟨g, 1, none⟩ (.slice A7 n7 c7)).setCell ⟨gl, k * 4, none⟩ (.int .i64 r.num)).setCell ⟨gl, k * 4 + 1, none⟩ (.int .i64 rc)).setCell ⟨gl, k * 4 + 2, none⟩ (.int .i64 rn)).setCell ⟨gl, k * 4 + 3, none⟩ (.string rd)).drew := ⟨_, rfl⟩
    rw [← hWg]
    obtain ⟨hz, ho, hbl, hvl, hll, hbb⟩ := HX.out
    have hbl2 := (hbl.far (p := ⟨g, 0, none⟩) hgg (.slice A6 n6 c6)).far (p := ⟨g, 1, none⟩) hgg (.slice A7 n7 c7)
    have hs1 : Same [9, 36] 0 Wf ((Wf.setCell ⟨g, 0, none⟩ (.slice A6 n6 c6)).setCell ⟨g, 1, none⟩ (.slice A7 n7 c7)) := Same.sets2 ho (Nat.zero_le _) (by decide) _ _
    have hs2 : Same [60] 0 Wf ((Wf.setCell ⟨g, 0, none⟩ (.slice A6 n6 c6)).setCell ⟨g, 1, none⟩ (.slice A7 n7 c7)) := Same.sets2 ho (Nat.zero_le _) (by decide) _ _
    have hs3 := Same.put4 (Ts := [9, 36]) (B := 0) hbl2 (Nat.zero_le _) (by decide) k ⟨r.num, ⟨rc, rn, rd⟩⟩
    have hV : OwnVol Wg wc.heap.size (.slice A6 n6 c6) (.slice A7 n7 c7) y := by rw [hWg]; exact ((hvl.same hs1).same hs3).below (Below.refl _ _).drew
    have hL : OwnLasts Wg Wd.heap.size (.slice (some ⟨gl, 0, none⟩) x.lasts.length cl) (x.lasts.set k ⟨r.num, ⟨rc, rn, rd⟩⟩) := by rw [hWg]; exact ((hll.same hs2).put k ⟨r.num, ⟨rc, rn, rd⟩⟩).below (Below.refl _ _).drew
    have ho' : Blk Wg g 54 #[.slice A6 n6 c6, .slice A7 n7 c7, .slice (some ⟨gl, 0, none⟩) x.lasts.length cl] := by
      rw [hWg]
      exact (((((ho.set_ 0 (.slice A6 n6 c6)).set_ 1 (.slice A7 n7 c7)).far (p := ⟨gl, k * 4, none⟩) hgg' _).far (p := ⟨gl, k * 4 + 1, none⟩) hgg' _).far (p := ⟨gl, k * 4 + 2, none⟩) hgg' _ |>.far (p := ⟨gl, k * 4 + 3, none⟩) hgg' _).drew
    have hz2 : Blk Wg (w.heap.size + 1) 54 #[.slice none 0 0, .slice none 0 0, .slice none 0 0] := by
      rw [hWg]
      exact (((((hz.far (p := ⟨g, 0, none⟩) (fun e => hg1 e.symm) _).far (p := ⟨g, 1, none⟩) (fun e => hg1 e.symm) _).far (p := ⟨gl, k * 4, none⟩) (fun e => hl1 e.symm) _).far (p := ⟨gl, k * 4 + 1, none⟩) (fun e => hl1 e.symm) _).far (p := ⟨gl, k * 4 + 2, none⟩) (fun e => hl1 e.symm) _ |>.far (p := ⟨gl, k * 4 + 3, none⟩) (fun e => hl1 e.symm) _).drew
    have hB2 : Below w.heap.size w Wg := by
      have q1 : w.heap.size ≤ g := by omega
      have q2 : w.heap.size ≤ gl := by omega
      rw [hWg]
      exact ((((((hbb.setCell (p := ⟨g, 0, none⟩) q1 _).setCell (p := ⟨g, 1, none⟩) q1 _).setCell (p := ⟨gl, k * 4, none⟩) q2 _).setCell (p := ⟨gl, k * 4 + 1, none⟩) q2 _).setCell (p := ⟨gl, k * 4 + 2, none⟩) q2 _).setCell (p := ⟨gl, k * 4 + 3, none⟩) q2 _).drew
    clear l0 l1 l2 l3 lz ll z0 z1 z2 zz zl q0 q1 q2 q3 q4 q5 ql o0 o1 o2 oz ol v0 v1 y0 y1 y2 hvlt hylt hz ho hbl hvl hll hbb hbl2 hs1 hs2 hs3 HX hWg
    have z0 := hz2.cell 0
    have z1 := hz2.cell 1
    have z2 := hz2.cell 2
    simp only [List.getElem?_toArray, List.getElem?_cons_zero, List.getElem?_cons_succ] at z0 z1 z2
    have zz := hz2.frozen
    have zl := hz2.lt
    have o0 := ho'.cell 0
    have o1 := ho'.cell 1
    have o2 := ho'.cell 2
    simp only [List.getElem?_toArray, List.getElem?_cons_zero, List.getElem?_cons_succ] at o0 o1 o2
    have oz := ho'.frozen
    have ol := ho'.lt
    have HV2 := Lib.hid hV
    have HL2 := Lib.hid hL
    have HB2 := Lib.hid hB2
    have HZ2 := Lib.hid hz2
    clear hV hL hB2 hz2 ho'
    go_wp2
    have hr := blk_set3 (a := .slice A6 n6 c6) (b := .slice A7 n7 c7) (c := .slice (some ⟨gl, 0, none⟩) x.lasts.length cl) HZ2.out
    have r0 := hr.cell 0
    have r1 := hr.cell 1
    have r2 := hr.cell 2
    simp only [List.getElem?_toArray, List.getElem?_cons_zero, List.getElem?_cons_succ] at r0 r1 r2
    refine bodyPost_ret (v := .tuple #[.agg #[.slice A6 n6 c6, .slice A7 n7 c7, .slice (some ⟨gl, 0, none⟩) x.lasts.length cl], .int .i64 0]) (by simp [results, Tryd.results70, go_sem, r0, r1, r2]) rfl ?_
    exact ⟨by rw [HAP.out]; exact ⟨_, _, _, rfl, IsState.sets3 ⟨HV2.out.is, HL2.out.is⟩ HZ2.out _ _ _⟩, below_set3 HB2.out (by omega)⟩
theorem apply_c (nv sv lv : Value) (x : Scu.State) (s : Scu.Str) (w : World) (B : Nat) (hv : IsState w B nv sv lv x) :
    Calls Tryd.prog 70 #[.agg #[nv, sv, lv], .string s] w fun e w' => AppRet w' (Scu.apply x s).1 (Scu.apply x s).2 e ∧ Below w.heap.size w w' := by
  obtain ⟨A0, n0, c0, rfl⟩ := hv.vol.now.form
  obtain ⟨A1, n1, c1, rfl⟩ := hv.vol.snaps.form
  obtain ⟨A2, n2, c2, rfl⟩ := hv.lasts.form
  by_cases hf : Scu.stateFault x ≠ 0
  · rw [ap1 hf]
    exact apply_e1 A0 n0 c0 A1 n1 c1 A2 n2 c2 x s w B hv hf
  obtain ⟨q, hd⟩ : ∃ q, Scu.decode s = q := ⟨_, rfl⟩
  obtain ⟨r, c⟩ := q
  by_cases hc : c = 0
  · subst hc
    rw [ap3 hf hd]
    obtain ⟨h1, h2, _⟩ := Scu.reqFault_ok (decode_req hd)
    have h4 := (stateFault_ok hf).1
    obtain ⟨k, hk⟩ : ∃ k : Nat, r.client = (k : Int) + 1 := ⟨(r.client - 1).toNat, by omega⟩
    exact apply_3 A0 n0 c0 A1 n1 c1 A2 n2 c2 x s r k w B hv hf hd hk (by omega)
  · rw [ap2 hf hd hc]
    exact apply_e2 A0 n0 c0 A1 n1 c1 A2 n2 c2 x s r c w B hv hf hd hc
end Go.Proofs.YtfpiembhlgcelaaDoor
/- ref.AppliedOf, walked. -/
namespace Go.Proofs.YtfpiembhlgcelaaDoor
open Go.RowKit
set_option maxHeartbeats 4000000
set_option maxRecDepth 100000

end Go.Proofs.YtfpiembhlgcelaaDoor

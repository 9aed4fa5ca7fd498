/- Walks: volume.Do: no snapshot more. -/
import Derived.Test.YtioajgcbchdpeaaVolM
namespace Go.Proofs.Ytioajgcbchdpeaa
open Go.RowKit
set_option maxHeartbeats 8000000
set_option maxRecDepth 100000

theorem volDo_s7 (A0 : Option Addr) (n0 c0 : Nat) (A1 : Option Addr) (n1 c1 : Nat) (x : Scu.Volume) (d : Scu.Str) (w : World) (B : Nat) (hv : IsVolume w B (.slice A0 n0 c0) (.slice A1 n1 c1) x)
    (hf : ¬ Scu.volFault x ≠ 0) (ho : ¬ Scu.opFault ⟨4, 0, 0, d⟩ ≠ 0) (h3 : x.snaps.length = 3) :
    Calls Try.prog 21 #[.agg #[.slice A0 n0 c0, .slice A1 n1 c1], .agg #[.int .i64 4, .int .i64 0, .int .i64 0, .string d]] w fun e w' => DidRet w' w.heap.size (x, (⟨7, 0, Scu.str0⟩ : Scu.Reply), 0) e ∧ Below w.heap.size w w' := by
  have HV := Lib.hid hv
  have hfb : (Scu.volFault x != 0) = false := by simpa using hf
  have hop := Decidable.not_not.1 ho
  have HOP := Lib.hid (fun W => checkOp_a _ W hop)
  obtain ⟨hl6, hs3, hn8, hs8⟩ := volFault_ok hf
  have HS8 := Lib.hid hs8
  clear hv hf ho hop hn8 hs8
  have h3b : ((x.snaps.length : Int) == 3) = true := by simp [h3]
  have h3c : (x.snaps.length : Int) = 3 := by omega
  have ha6 : 0 < 6 := by omega
  obtain ⟨an, han0⟩ : ∃ an, an = 0 := ⟨_, rfl⟩
  have ha6 : an < 6 := by omega
  clear h3
  go_enter Try.func21, Try.ntmps21
  go_wp2_with fail
  refine (volCheck_c _ _ x _ B ((((HV.out.alloc _).alloc _).alloc _).alloc _)).mono ?_; rintro e w1 ⟨rfl, h1⟩
  have hF1 := (Four.start w A0 n0 c0 A1 n1 c1 _ _ _ d).below h1
  have hlt1 : w.heap.size + 1 + 1 + 1 < w1.heap.size := hF1.b3.lt
  have hlt1a : w.heap.size < w1.heap.size := by omega
  have hlt1b : w.heap.size + 1 < w1.heap.size := by omega
  have hlt1c : w.heap.size + 1 + 1 < w1.heap.size := by omega
  have z0 := hF1.b0.cell 0
  have z1 := hF1.b0.cell 1
  have z2 := hF1.b1.cell 0
  have z3 := hF1.b1.cell 1
  have z4 := hF1.b1.cell 2
  have z5 := hF1.b1.cell 3
  have z6 := hF1.b2.cell 0
  have z7 := hF1.b2.cell 1
  have z8 := hF1.b3.cell 0
  have z9 := hF1.b3.cell 1
  have zx := hF1.b3.cell 2
  simp only [List.getElem?_toArray, List.getElem?_cons_zero, List.getElem?_cons_succ] at z0 z1 z2 z3 z4 z5 z6 z7 z8 z9 zx
  have zu := hF1.b0.frozen
  have zv := hF1.b2.frozen
  have zw := hF1.b3.frozen
  go_wp2_with fail
  refine (HOP.out _).mono ?_; rintro e w2 ⟨rfl, h2⟩
  have hF2 := hF1.below h2
  have hlt2 : w.heap.size + 1 + 1 + 1 < w2.heap.size := hF2.b3.lt
  have hlt2a : w.heap.size < w2.heap.size := by omega
  have hlt2b : w.heap.size + 1 < w2.heap.size := by omega
  have hlt2c : w.heap.size + 1 + 1 < w2.heap.size := by omega
  have y0 := hF2.b0.cell 0
  have y1 := hF2.b0.cell 1
  have y2 := hF2.b1.cell 0
  have y3 := hF2.b1.cell 1
  have y4 := hF2.b1.cell 2
  have y5 := hF2.b1.cell 3
  have y6 := hF2.b2.cell 0
  have y7 := hF2.b2.cell 1
  have y8 := hF2.b3.cell 0
  have y9 := hF2.b3.cell 1
  have yx := hF2.b3.cell 2
  simp only [List.getElem?_toArray, List.getElem?_cons_zero, List.getElem?_cons_succ] at y0 y1 y2 y3 y4 y5 y6 y7 y8 y9 yx
  have yu := hF2.b0.frozen
  have yv := hF2.b2.frozen
  have yw := hF2.b3.frozen
  go_wp2_with fail
  refine (copyVol_c _ _ x _ B (HV.out.below hF2.low)).mono ?_; rintro e w3 ⟨⟨nu, su, rfl, hu⟩, h3⟩
  obtain ⟨⟨A2, c2, _, rfl, _, _, _, _⟩, _⟩ := hu.is.snaps
  have hun := hu.now
  rw [hl6] at hun
  obtain ⟨g, c, cur, rfl, hg, hbl, hcc⟩ := own_at hun (by omega)
  have hF3 := hF2.below h3
  have hlt3 : w.heap.size + 1 + 1 + 1 < w3.heap.size := hF3.b3.lt
  have hlt3a : w.heap.size < w3.heap.size := by omega
  have hlt3b : w.heap.size + 1 < w3.heap.size := by omega
  have hlt3c : w.heap.size + 1 + 1 < w3.heap.size := by omega
  have x0 := hF3.b0.cell 0
  have x1 := hF3.b0.cell 1
  have x2 := hF3.b1.cell 0
  have x3 := hF3.b1.cell 1
  have x4 := hF3.b1.cell 2
  have x5 := hF3.b1.cell 3
  have x6 := hF3.b2.cell 0
  have x7 := hF3.b2.cell 1
  have x8 := hF3.b3.cell 0
  have x9 := hF3.b3.cell 1
  have xx := hF3.b3.cell 2
  simp only [List.getElem?_toArray, List.getElem?_cons_zero, List.getElem?_cons_succ] at x0 x1 x2 x3 x4 x5 x6 x7 x8 x9 xx
  have xu := hF3.b0.frozen
  have xv := hF3.b2.frozen
  have xw := hF3.b3.frozen
  have hzg := hbl.frozen
  have hgg : w3.cell? ⟨g, an, none⟩ = some (.string (x.now[an]'(by omega))) := by rw [hcc an (by omega), List.getElem?_map, List.getElem?_eq_getElem (by omega)]; rfl
  have hglt := hbl.lt
  have han : (an : Int) < 6 := by omega
  have hlow := hF2.low.size
  have hgw : w.heap.size + 1 + 1 + 1 < g := by omega
  have hne0 : g ≠ w.heap.size := by omega
  have hw23 := h3.size
  have HU := Lib.hid hu
  have HF3 := Lib.hid hF3
  clear h1 h2 h3 hF1 hF2 hF3 hun hcc hu hbl hg
  go_wp2_with fail
  go_region
  rename_i hK
  refine hK _ _ (Go.wp_ret ?_)
  have hO := HU.out.same (Same.sets2 (B := 0) HF3.out.b0 (Nat.zero_le _) (by decide) (.slice (some ⟨g, 0, none⟩) 6 c) (.slice A2 x.snaps.length c2))
  have hq2 := (HF3.out.b2.far (p := ⟨w.heap.size, 0, none⟩) (by simp; omega) (.slice (some ⟨g, 0, none⟩) 6 c)).far (p := ⟨w.heap.size, 1, none⟩) (by simp; omega) (.slice A2 x.snaps.length c2)
  have hq3 := (HF3.out.b3.far (p := ⟨w.heap.size, 0, none⟩) (by simp; omega) (.slice (some ⟨g, 0, none⟩) 6 c)).far (p := ⟨w.heap.size, 1, none⟩) (by simp; omega) (.slice A2 x.snaps.length c2)
  obtain ⟨he2, he3, hes⟩ := do_end hq2 hq3 (by omega) (.slice (some ⟨g, 0, none⟩) 6 c) (.slice A2 x.snaps.length c2) (.int .i64 7) (.int .i64 0) (.string ⟨#[]⟩)
  have hc2 := (he2.alloc (Obj.cells #[.int .i64 7, .int .i64 0, .string ⟨#[]⟩] 43)).drew
  have hc3 := (he3.alloc (Obj.cells #[.int .i64 7, .int .i64 0, .string ⟨#[]⟩] 43)).drew
  have r0 := hc2.cell 0
  have r1 := hc2.cell 1
  have r2 := hc3.cell 0
  have r3 := hc3.cell 1
  have r4 := hc3.cell 2
  simp only [List.getElem?_toArray, List.getElem?_cons_zero, List.getElem?_cons_succ] at r0 r1 r2 r3 r4
  refine bodyPost_ret (v := .tuple #[.agg #[(.slice (some ⟨g, 0, none⟩) 6 c), (.slice A2 x.snaps.length c2)], .agg #[.int .i64 7, .int .i64 0, .string ⟨#[]⟩], .int .i64 0]) (by simp [results, Try.results21, go_sem, r0, r1, r2, r3, r4]) rfl ?_
  refine ⟨⟨_, _, rfl, (((hO.base_ hlow).same hes).alloc _).below (Below.refl _ _).drew⟩, ?_⟩
  refine ((do_below ?_ (by omega) (by omega) _ _ _ _ _).alloc ?_ _).drew
  · exact (HF3.out.low.setCell (p := ⟨w.heap.size, 0, none⟩) (Nat.le_refl _) _).setCell (p := ⟨w.heap.size, 1, none⟩) (Nat.le_refl _) _
  · have := HF3.out.low.size
    simpa [World.setCell] using this
end Go.Proofs.Ytioajgcbchdpeaa

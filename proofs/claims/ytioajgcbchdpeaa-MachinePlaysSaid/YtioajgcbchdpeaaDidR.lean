/- Walks: ref.DidOf: a sector is read. -/
import Derived.Test.YtioajgcbchdpeaaDidM
namespace Go.Proofs.Ytioajgcbchdpeaa
open Go.RowKit
set_option maxHeartbeats 8000000
set_option maxRecDepth 100000

theorem didOf_r0 (A0 : Option Addr) (n0 c0 : Nat) (A1 : Option Addr) (n1 c1 : Nat) (x : Scu.Volume) (an : Nat) (d : Scu.Str) (w : World) (B : Nat) (hv : IsVolume w B (.slice A0 n0 c0) (.slice A1 n1 c1) x)
    (hf : ¬ Scu.volFault x ≠ 0) (ho : ¬ Scu.opFault ⟨3, an, 0, d⟩ ≠ 0) (ha6 : an < 6) :
    Calls Try.prog 22 #[.agg #[.slice A0 n0 c0, .slice A1 n1 c1], .agg #[.int .i64 3, .int .i64 an, .int .i64 0, .string d]] w fun e w' => DidRet w' w.heap.size (x, (⟨0, 0, x.now.getD an Scu.str0⟩ : Scu.Reply), 0) e ∧ Below w.heap.size w w' := by
  have HV := Lib.hid hv
  have hfb : (Scu.volFault x != 0) = false := by simpa using hf
  have hfc : (Scu.volFault x == 0) = true := by simpa using hf
  have hop := Decidable.not_not.1 ho
  have HOP := Lib.hid (fun W => opFault_a _ W hop)
  obtain ⟨hl6, hs3, hn8, hs8⟩ := volFault_ok hf
  have HS8 := Lib.hid hs8
  clear hv hf ho hop hn8 hs8
  have hgd : x.now.getD an Scu.str0 = x.now[an]'(by omega) := by
    rw [List.getD_eq_getElem?_getD, List.getElem?_eq_getElem (by omega)]
    rfl
  rw [hgd]
  clear hgd
  have hsn0 : ¬ (x.snaps.length : Int) < 0 := by omega
  obtain ⟨rfl⟩ : n1 = x.snaps.length := by
    obtain ⟨⟨_, _, _, e, _⟩, _⟩ := HV.out.snaps
    cases e
    rfl
  go_enter Try.func22, Try.ntmps22
  go_wp2_with fail
  refine (volumeFault_c _ _ x _ B ((((HV.out.alloc _).alloc _).alloc _).alloc _)).mono ?_; rintro e w1 ⟨rfl, h1⟩
  have hF1 := (Four.start w _ _ _ _ _ _ _ _ _ _).below h1
  have hlt1 : w.heap.size + 1 + 1 + 1 < w1.heap.size := hF1.b3.lt
  have hlt1a : w.heap.size < w1.heap.size := by omega
  have hlt1b : w.heap.size + 1 < w1.heap.size := by omega
  have hlt1c : w.heap.size + 1 + 1 < w1.heap.size := by omega
  have z0 := hF1.b0.cell 0
  have z1 := hF1.b0.cell 1
  have z2 := hF1.b1.cell 0
  have z3 := hF1.b1.cell 1
  have z4 := hF1.b1.cell 2
  have z5 := hF1.b1.cell 3
  have z6 := hF1.b2.cell 0
  have z7 := hF1.b2.cell 1
  have z8 := hF1.b3.cell 0
  have z9 := hF1.b3.cell 1
  have zx := hF1.b3.cell 2
  simp only [List.getElem?_toArray, List.getElem?_cons_zero, List.getElem?_cons_succ] at z0 z1 z2 z3 z4 z5 z6 z7 z8 z9 zx
  have zu := hF1.b0.frozen
  have zv := hF1.b2.frozen
  have zw := hF1.b3.frozen
  go_wp2_with fail
  refine (HOP.out _).mono ?_; rintro e w2 ⟨rfl, h2⟩
  have hF2 := hF1.below h2
  have hlt2 : w.heap.size + 1 + 1 + 1 < w2.heap.size := hF2.b3.lt
  have hlt2a : w.heap.size < w2.heap.size := by omega
  have hlt2b : w.heap.size + 1 < w2.heap.size := by omega
  have hlt2c : w.heap.size + 1 + 1 < w2.heap.size := by omega
  have y0 := hF2.b0.cell 0
  have y1 := hF2.b0.cell 1
  have y2 := hF2.b1.cell 0
  have y3 := hF2.b1.cell 1
  have y4 := hF2.b1.cell 2
  have y5 := hF2.b1.cell 3
  have y6 := hF2.b2.cell 0
  have y7 := hF2.b2.cell 1
  have y8 := hF2.b3.cell 0
  have y9 := hF2.b3.cell 1
  have yx := hF2.b3.cell 2
  simp only [List.getElem?_toArray, List.getElem?_cons_zero, List.getElem?_cons_succ] at y0 y1 y2 y3 y4 y5 y6 y7 y8 y9 yx
  have yu := hF2.b0.frozen
  have yv := hF2.b2.frozen
  have yw := hF2.b3.frozen
  go_wp2_with fail
  refine (copyRef_c _ _ x _ B (HV.out.below hF2.low)).mono ?_; rintro e w3 ⟨⟨nu, su, rfl, hu⟩, h3⟩
  obtain ⟨⟨A2, c2, _, rfl, _, _, _, _⟩, _⟩ := hu.is.snaps
  have hun := hu.now
  rw [hl6] at hun
  obtain ⟨g, c, cur, rfl, hg, hbl, hcc⟩ := own_at hun (by omega)
  have hF3 := hF2.below h3
  have hlt3 : w.heap.size + 1 + 1 + 1 < w3.heap.size := hF3.b3.lt
  have hlt3a : w.heap.size < w3.heap.size := by omega
  have hlt3b : w.heap.size + 1 < w3.heap.size := by omega
  have hlt3c : w.heap.size + 1 + 1 < w3.heap.size := by omega
  have hglt := hbl.lt
  have hw23 := h3.size
  have hlow := hF2.low.size
  have x0 := hF3.b0.cell 0
  have x1 := hF3.b0.cell 1
  have x2 := hF3.b1.cell 0
  have x3 := hF3.b1.cell 1
  have x4 := hF3.b1.cell 2
  have x5 := hF3.b1.cell 3
  have x6 := hF3.b2.cell 0
  have x7 := hF3.b2.cell 1
  have x8 := hF3.b3.cell 0
  have x9 := hF3.b3.cell 1
  have xx := hF3.b3.cell 2
  simp only [List.getElem?_toArray, List.getElem?_cons_zero, List.getElem?_cons_succ] at x0 x1 x2 x3 x4 x5 x6 x7 x8 x9 xx
  have xu := hF3.b0.frozen
  have xv := hF3.b2.frozen
  have xw := hF3.b3.frozen
  have HU := Lib.hid hu
  have HF3 := Lib.hid hF3
  clear h1 h2 h3 hF1 hF2 hF3 hun hcc hu hbl
  go_upto_region 8 with fail
  obtain ⟨Wd, hWd⟩ : ∃ W, W = (w3.alloc (Obj.cells #[(.slice (some ⟨g, 0, none⟩) 6 c), (.slice A2 x.snaps.length c2)] 38)).alloc (Obj.cells #[.int .i64 0, .int .i64 0, .string ⟨#[]⟩] 43) := ⟨_, rfl⟩
  rw [← hWd]
  have hwd : Wd.heap.size = w3.heap.size + 1 + 1 := by rw [hWd]; simp
  have hbw : Below w3.heap.size w3 Wd := by rw [hWd]; exact (below_alloc w3 _).alloc (by simp) _
  have hbv : Blk Wd w3.heap.size 38 #[(.slice (some ⟨g, 0, none⟩) 6 c), (.slice A2 x.snaps.length c2)] := by rw [hWd]; exact (Blk.new w3 _ _).alloc _
  have hbr : Blk Wd (w3.heap.size + 1) 43 #[.int .i64 0, .int .i64 0, .string ⟨#[]⟩] := by rw [hWd]; exact Blk.new' (by simp)
  have hF := HF3.out.below hbw
  have hO := HU.out.below hbw
  have hVd := HV.out.below hF.low
  clear HU HF3 hWd hbw x0 x1 x2 x3 x4 x5 x6 x7 x8 x9 xx xu xv xw y0 y1 y2 y3 y4 y5 y6 y7 y8 y9 yx yu yv yw z0 z1 z2 z3 z4 z5 z6 z7 z8 z9 zx zu zv zw
  have d0 := hF.b0.cell 0
  have d1 := hF.b0.cell 1
  have d2 := hF.b1.cell 0
  have d3 := hF.b1.cell 1
  have d4 := hF.b1.cell 2
  have d5 := hF.b1.cell 3
  have d6 := hF.b2.cell 0
  have d7 := hF.b2.cell 1
  have d8 := hF.b3.cell 0
  have d9 := hF.b3.cell 1
  have dx := hF.b3.cell 2
  simp only [List.getElem?_toArray, List.getElem?_cons_zero, List.getElem?_cons_succ] at d0 d1 d2 d3 d4 d5 d6 d7 d8 d9 dx
  have du := hF.b0.frozen
  have dv := hF.b2.frozen
  have dw := hF.b3.frozen
  have v0 := hbv.cell 0
  have v1 := hbv.cell 1
  have k0 := hbr.cell 0
  have k1 := hbr.cell 1
  have k2 := hbr.cell 2
  simp only [List.getElem?_toArray, List.getElem?_cons_zero, List.getElem?_cons_succ] at v0 v1 k0 k1 k2
  have vz := hbv.frozen
  have kz := hbr.frozen
  have hun := hO.now
  rw [hl6] at hun
  obtain ⟨g', c', cur, e', _, hbl, hcc⟩ := own_at hun (by omega)
  obtain ⟨rfl, rfl⟩ : g = g' ∧ c = c' := by cases e'; exact ⟨rfl, rfl⟩
  have hgz := hbl.frozen
  have hgg : Wd.cell? ⟨g, an, none⟩ = some (.string (x.now[an]'(by omega))) := by rw [hcc an (by omega), List.getElem?_map, List.getElem?_eq_getElem (by omega)]; rfl
  have han : (an : Int) < 6 := by omega
  have hgd : g < Wd.heap.size := by omega
  have hbd : w3.heap.size < Wd.heap.size := by omega
  have hrd : w3.heap.size + 1 < Wd.heap.size := by omega
  have hg0 : g ≠ w.heap.size := by omega
  have hg1 : g ≠ w.heap.size + 1 := by omega
  have hg2 : g ≠ w.heap.size + 1 + 1 := by omega
  have hg3 : g ≠ w.heap.size + 1 + 1 + 1 := by omega
  have hg4 : g ≠ w3.heap.size := by omega
  have hg5 : g ≠ w3.heap.size + 1 := by omega
  have hv0 : w3.heap.size ≠ w.heap.size := by omega
  have hv1 : w3.heap.size ≠ w.heap.size + 1 := by omega
  have hv2 : w3.heap.size ≠ w.heap.size + 1 + 1 := by omega
  have hv3 : w3.heap.size ≠ w.heap.size + 1 + 1 + 1 := by omega
  have hr0 : w3.heap.size + 1 ≠ w.heap.size := by omega
  have hr1 : w3.heap.size + 1 ≠ w.heap.size + 1 := by omega
  have hr2 : w3.heap.size + 1 ≠ w.heap.size + 1 + 1 := by omega
  have hr3 : w3.heap.size + 1 ≠ w.heap.size + 1 + 1 + 1 := by omega
  have hd0 : w.heap.size < Wd.heap.size := by omega
  have hd1 : w.heap.size + 1 < Wd.heap.size := by omega
  have hd2 : w.heap.size + 1 + 1 < Wd.heap.size := by omega
  have hd3 : w.heap.size + 1 + 1 + 1 < Wd.heap.size := by omega
  have hbase : w.heap.size ≤ w2.heap.size := by omega
  have HO := Lib.hid hO
  have HF := Lib.hid hF
  have HVd := Lib.hid hVd
  have HBV := Lib.hid hbv
  have HBR := Lib.hid hbr
  clear hO hF hVd hbv hbr hun hbl hcc e'
  obtain ⟨q2, o2, c2', e2, hq2', hqc2⟩ := strs_cell (k := an) HVd.out.now (by omega)
  obtain ⟨rfl, rfl, rfl⟩ : A0 = some ⟨q2, o2, none⟩ ∧ n0 = x.now.length ∧ c0 = c2' := by cases e2; exact ⟨rfl, rfl, rfl⟩
  clear e2
  have han' : (an : Int) < (x.now.length : Int) := by omega
  go_wp2_with fail
  have hXO := HO.out.set_ (i := 2) HBR.out (by decide) (by decide) (.string (x.now[an]'(by omega)))
  have hX2 := HF.out.b2.far (p := ⟨w3.heap.size + 1, 2, none⟩) (fun e => hr2 e.symm) (.string (x.now[an]'(by omega)))
  have hX3 := HF.out.b3.far (p := ⟨w3.heap.size + 1, 2, none⟩) (fun e => hr3 e.symm) (.string (x.now[an]'(by omega)))
  have hXB := HF.out.low.setCell (p := ⟨w3.heap.size + 1, 2, none⟩) (by show w.heap.size ≤ w3.heap.size + 1; omega) (.string (x.now[an]'(by omega)))
  go_region
  rename_i hK
  refine hK _ _ (Go.wp_ret ?_)
  obtain ⟨he2, he3, hes⟩ := do_end hX2 hX3 (by omega) (.slice (some ⟨g, 0, none⟩) 6 c) (.slice A2 x.snaps.length c2) (.int .i64 0) (.int .i64 0) (.string (x.now[an]'(by omega)))
  have hc2 := he2.drew
  have hc3 := he3.drew
  have r0 := hc2.cell 0
  have r1 := hc2.cell 1
  have r2 := hc3.cell 0
  have r3 := hc3.cell 1
  have r4 := hc3.cell 2
  simp only [List.getElem?_toArray, List.getElem?_cons_zero, List.getElem?_cons_succ] at r0 r1 r2 r3 r4
  refine bodyPost_ret (v := .tuple #[.agg #[(.slice (some ⟨g, 0, none⟩) 6 c), (.slice A2 x.snaps.length c2)], .agg #[.int .i64 0, .int .i64 0, .string (x.now[an]'(by omega))], .int .i64 0]) (by simp [results, Try.results22, go_sem, r0, r1, r2, r3, r4]) rfl ?_
  exact ⟨⟨_, _, rfl, ((hXO.base_ hbase).same hes).below (Below.refl _ _).drew⟩, (do_below hXB (by omega) (by omega) _ _ _ _ _).drew⟩
theorem didOf_r6 (A0 : Option Addr) (n0 c0 : Nat) (A1 : Option Addr) (n1 c1 : Nat) (x : Scu.Volume) (an sn : Nat) (d : Scu.Str) (w : World) (B : Nat) (hv : IsVolume w B (.slice A0 n0 c0) (.slice A1 n1 c1) x)
    (hf : ¬ Scu.volFault x ≠ 0) (ho : ¬ Scu.opFault ⟨3, an, (sn : Int) + 1, d⟩ ≠ 0) (ha6 : an < 6) (hgt : x.snaps.length < sn + 1) :
    Calls Try.prog 22 #[.agg #[.slice A0 n0 c0, .slice A1 n1 c1], .agg #[.int .i64 3, .int .i64 an, .int .i64 ((sn : Int) + 1), .string d]] w fun e w' => DidRet w' w.heap.size (x, (⟨6, 0, Scu.str0⟩ : Scu.Reply), 0) e ∧ Below w.heap.size w w' := by
  have HV := Lib.hid hv
  have hfb : (Scu.volFault x != 0) = false := by simpa using hf
  have hfc : (Scu.volFault x == 0) = true := by simpa using hf
  have hop := Decidable.not_not.1 ho
  have HOP := Lib.hid (fun W => opFault_a _ W hop)
  obtain ⟨hl6, hs3, hn8, hs8⟩ := volFault_ok hf
  have HS8 := Lib.hid hs8
  clear hv hf ho hop hn8 hs8
  have hgt' : (x.snaps.length : Int) < (sn : Int) + 1 := by omega
  clear hgt
  obtain ⟨rfl⟩ : n1 = x.snaps.length := by
    obtain ⟨⟨_, _, _, e, _⟩, _⟩ := HV.out.snaps
    cases e
    rfl
  go_enter Try.func22, Try.ntmps22
  go_wp2_with fail
  refine (volumeFault_c _ _ x _ B ((((HV.out.alloc _).alloc _).alloc _).alloc _)).mono ?_; rintro e w1 ⟨rfl, h1⟩
  have hF1 := (Four.start w _ _ _ _ _ _ _ _ _ _).below h1
  have hlt1 : w.heap.size + 1 + 1 + 1 < w1.heap.size := hF1.b3.lt
  have hlt1a : w.heap.size < w1.heap.size := by omega
  have hlt1b : w.heap.size + 1 < w1.heap.size := by omega
  have hlt1c : w.heap.size + 1 + 1 < w1.heap.size := by omega
  have z0 := hF1.b0.cell 0
  have z1 := hF1.b0.cell 1
  have z2 := hF1.b1.cell 0
  have z3 := hF1.b1.cell 1
  have z4 := hF1.b1.cell 2
  have z5 := hF1.b1.cell 3
  have z6 := hF1.b2.cell 0
  have z7 := hF1.b2.cell 1
  have z8 := hF1.b3.cell 0
  have z9 := hF1.b3.cell 1
  have zx := hF1.b3.cell 2
  simp only [List.getElem?_toArray, List.getElem?_cons_zero, List.getElem?_cons_succ] at z0 z1 z2 z3 z4 z5 z6 z7 z8 z9 zx
  have zu := hF1.b0.frozen
  have zv := hF1.b2.frozen
  have zw := hF1.b3.frozen
  go_wp2_with fail
  refine (HOP.out _).mono ?_; rintro e w2 ⟨rfl, h2⟩
  have hF2 := hF1.below h2
  have hlt2 : w.heap.size + 1 + 1 + 1 < w2.heap.size := hF2.b3.lt
  have hlt2a : w.heap.size < w2.heap.size := by omega
  have hlt2b : w.heap.size + 1 < w2.heap.size := by omega
  have hlt2c : w.heap.size + 1 + 1 < w2.heap.size := by omega
  have y0 := hF2.b0.cell 0
  have y1 := hF2.b0.cell 1
  have y2 := hF2.b1.cell 0
  have y3 := hF2.b1.cell 1
  have y4 := hF2.b1.cell 2
  have y5 := hF2.b1.cell 3
  have y6 := hF2.b2.cell 0
  have y7 := hF2.b2.cell 1
  have y8 := hF2.b3.cell 0
  have y9 := hF2.b3.cell 1
  have yx := hF2.b3.cell 2
  simp only [List.getElem?_toArray, List.getElem?_cons_zero, List.getElem?_cons_succ] at y0 y1 y2 y3 y4 y5 y6 y7 y8 y9 yx
  have yu := hF2.b0.frozen
  have yv := hF2.b2.frozen
  have yw := hF2.b3.frozen
  go_wp2_with fail
  refine (copyRef_c _ _ x _ B (HV.out.below hF2.low)).mono ?_; rintro e w3 ⟨⟨nu, su, rfl, hu⟩, h3⟩
  obtain ⟨⟨A2, c2, _, rfl, _, _, _, _⟩, _⟩ := hu.is.snaps
  have hun := hu.now
  rw [hl6] at hun
  obtain ⟨g, c, cur, rfl, hg, hbl, hcc⟩ := own_at hun (by omega)
  have hF3 := hF2.below h3
  have hlt3 : w.heap.size + 1 + 1 + 1 < w3.heap.size := hF3.b3.lt
  have hlt3a : w.heap.size < w3.heap.size := by omega
  have hlt3b : w.heap.size + 1 < w3.heap.size := by omega
  have hlt3c : w.heap.size + 1 + 1 < w3.heap.size := by omega
  have hglt := hbl.lt
  have hw23 := h3.size
  have hlow := hF2.low.size
  have x0 := hF3.b0.cell 0
  have x1 := hF3.b0.cell 1
  have x2 := hF3.b1.cell 0
  have x3 := hF3.b1.cell 1
  have x4 := hF3.b1.cell 2
  have x5 := hF3.b1.cell 3
  have x6 := hF3.b2.cell 0
  have x7 := hF3.b2.cell 1
  have x8 := hF3.b3.cell 0
  have x9 := hF3.b3.cell 1
  have xx := hF3.b3.cell 2
  simp only [List.getElem?_toArray, List.getElem?_cons_zero, List.getElem?_cons_succ] at x0 x1 x2 x3 x4 x5 x6 x7 x8 x9 xx
  have xu := hF3.b0.frozen
  have xv := hF3.b2.frozen
  have xw := hF3.b3.frozen
  have HU := Lib.hid hu
  have HF3 := Lib.hid hF3
  clear h1 h2 h3 hF1 hF2 hF3 hun hcc hu hbl
  go_upto_region 8 with fail
  obtain ⟨Wd, hWd⟩ : ∃ W, W = (w3.alloc (Obj.cells #[(.slice (some ⟨g, 0, none⟩) 6 c), (.slice A2 x.snaps.length c2)] 38)).alloc (Obj.cells #[.int .i64 0, .int .i64 0, .string ⟨#[]⟩] 43) := ⟨_, rfl⟩
  rw [← hWd]
  have hwd : Wd.heap.size = w3.heap.size + 1 + 1 := by rw [hWd]; simp
  have hbw : Below w3.heap.size w3 Wd := by rw [hWd]; exact (below_alloc w3 _).alloc (by simp) _
  have hbv : Blk Wd w3.heap.size 38 #[(.slice (some ⟨g, 0, none⟩) 6 c), (.slice A2 x.snaps.length c2)] := by rw [hWd]; exact (Blk.new w3 _ _).alloc _
  have hbr : Blk Wd (w3.heap.size + 1) 43 #[.int .i64 0, .int .i64 0, .string ⟨#[]⟩] := by rw [hWd]; exact Blk.new' (by simp)
  have hF := HF3.out.below hbw
  have hO := HU.out.below hbw
  have hVd := HV.out.below hF.low
  clear HU HF3 hWd hbw x0 x1 x2 x3 x4 x5 x6 x7 x8 x9 xx xu xv xw y0 y1 y2 y3 y4 y5 y6 y7 y8 y9 yx yu yv yw z0 z1 z2 z3 z4 z5 z6 z7 z8 z9 zx zu zv zw
  have d0 := hF.b0.cell 0
  have d1 := hF.b0.cell 1
  have d2 := hF.b1.cell 0
  have d3 := hF.b1.cell 1
  have d4 := hF.b1.cell 2
  have d5 := hF.b1.cell 3
  have d6 := hF.b2.cell 0
  have d7 := hF.b2.cell 1
  have d8 := hF.b3.cell 0
  have d9 := hF.b3.cell 1
  have dx := hF.b3.cell 2
  simp only [List.getElem?_toArray, List.getElem?_cons_zero, List.getElem?_cons_succ] at d0 d1 d2 d3 d4 d5 d6 d7 d8 d9 dx
  have du := hF.b0.frozen
  have dv := hF.b2.frozen
  have dw := hF.b3.frozen
  have v0 := hbv.cell 0
  have v1 := hbv.cell 1
  have k0 := hbr.cell 0
  have k1 := hbr.cell 1
  have k2 := hbr.cell 2
  simp only [List.getElem?_toArray, List.getElem?_cons_zero, List.getElem?_cons_succ] at v0 v1 k0 k1 k2
  have vz := hbv.frozen
  have kz := hbr.frozen
  have hun := hO.now
  rw [hl6] at hun
  obtain ⟨g', c', cur, e', _, hbl, hcc⟩ := own_at hun (by omega)
  obtain ⟨rfl, rfl⟩ : g = g' ∧ c = c' := by cases e'; exact ⟨rfl, rfl⟩
  have hgz := hbl.frozen
  have hgg : Wd.cell? ⟨g, an, none⟩ = some (.string (x.now[an]'(by omega))) := by rw [hcc an (by omega), List.getElem?_map, List.getElem?_eq_getElem (by omega)]; rfl
  have han : (an : Int) < 6 := by omega
  have hgd : g < Wd.heap.size := by omega
  have hbd : w3.heap.size < Wd.heap.size := by omega
  have hrd : w3.heap.size + 1 < Wd.heap.size := by omega
  have hg0 : g ≠ w.heap.size := by omega
  have hg1 : g ≠ w.heap.size + 1 := by omega
  have hg2 : g ≠ w.heap.size + 1 + 1 := by omega
  have hg3 : g ≠ w.heap.size + 1 + 1 + 1 := by omega
  have hg4 : g ≠ w3.heap.size := by omega
  have hg5 : g ≠ w3.heap.size + 1 := by omega
  have hv0 : w3.heap.size ≠ w.heap.size := by omega
  have hv1 : w3.heap.size ≠ w.heap.size + 1 := by omega
  have hv2 : w3.heap.size ≠ w.heap.size + 1 + 1 := by omega
  have hv3 : w3.heap.size ≠ w.heap.size + 1 + 1 + 1 := by omega
  have hr0 : w3.heap.size + 1 ≠ w.heap.size := by omega
  have hr1 : w3.heap.size + 1 ≠ w.heap.size + 1 := by omega
  have hr2 : w3.heap.size + 1 ≠ w.heap.size + 1 + 1 := by omega
  have hr3 : w3.heap.size + 1 ≠ w.heap.size + 1 + 1 + 1 := by omega
  have hd0 : w.heap.size < Wd.heap.size := by omega
  have hd1 : w.heap.size + 1 < Wd.heap.size := by omega
  have hd2 : w.heap.size + 1 + 1 < Wd.heap.size := by omega
  have hd3 : w.heap.size + 1 + 1 + 1 < Wd.heap.size := by omega
  have hbase : w.heap.size ≤ w2.heap.size := by omega
  have HO := Lib.hid hO
  have HF := Lib.hid hF
  have HVd := Lib.hid hVd
  have HBV := Lib.hid hbv
  have HBR := Lib.hid hbr
  clear hO hF hVd hbv hbr hun hbl hcc e'
  go_wp2_with fail
  have hXO := HO.out.set_ (i := 0) HBR.out (by decide) (by decide) (.int .i64 6)
  have hX2 := HF.out.b2.far (p := ⟨w3.heap.size + 1, 0, none⟩) (fun e => hr2 e.symm) (.int .i64 6)
  have hX3 := HF.out.b3.far (p := ⟨w3.heap.size + 1, 0, none⟩) (fun e => hr3 e.symm) (.int .i64 6)
  have hXB := HF.out.low.setCell (p := ⟨w3.heap.size + 1, 0, none⟩) (by show w.heap.size ≤ w3.heap.size + 1; omega) (.int .i64 6)
  go_region
  rename_i hK
  refine hK _ _ (Go.wp_ret ?_)
  obtain ⟨he2, he3, hes⟩ := do_end hX2 hX3 (by omega) (.slice (some ⟨g, 0, none⟩) 6 c) (.slice A2 x.snaps.length c2) (.int .i64 6) (.int .i64 0) (.string ⟨#[]⟩)
  have hc2 := he2.drew
  have hc3 := he3.drew
  have r0 := hc2.cell 0
  have r1 := hc2.cell 1
  have r2 := hc3.cell 0
  have r3 := hc3.cell 1
  have r4 := hc3.cell 2
  simp only [List.getElem?_toArray, List.getElem?_cons_zero, List.getElem?_cons_succ] at r0 r1 r2 r3 r4
  refine bodyPost_ret (v := .tuple #[.agg #[(.slice (some ⟨g, 0, none⟩) 6 c), (.slice A2 x.snaps.length c2)], .agg #[.int .i64 6, .int .i64 0, .string ⟨#[]⟩], .int .i64 0]) (by simp [results, Try.results22, go_sem, r0, r1, r2, r3, r4]) rfl ?_
  exact ⟨⟨_, _, rfl, ((hXO.base_ hbase).same hes).below (Below.refl _ _).drew⟩, (do_below hXB (by omega) (by omega) _ _ _ _ _).drew⟩
end Go.Proofs.Ytioajgcbchdpeaa

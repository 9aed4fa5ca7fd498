/- Walks: volume.Do: a sector of a snapshot is read. -/
import Derived.Test.YtioajgcbchdpeaaVolM
namespace Go.Proofs.Ytioajgcbchdpeaa
open Go.RowKit
set_option maxHeartbeats 8000000
set_option maxRecDepth 100000

theorem cell_two {w : World} {b q i : Nat} {v : Value} (h : w.cell? ⟨q, i, none⟩ = some v) (hq : q < w.heap.size) (hne : q ≠ b) (a c : Value) (o : Obj) :
    (((w.setCell ⟨b, 0, none⟩ a).setCell ⟨b, 1, none⟩ c).alloc o).cell? ⟨q, i, none⟩ = some v := by
  refine ((below_alloc _ o).cell (p := ⟨q, i, none⟩) (by simpa [World.setCell] using hq)).trans ?_
  refine (World.cell?_of_block (Below.heap_setCell _ ⟨b, 1, none⟩ c q hne)).trans ?_
  exact (World.cell?_of_block (Below.heap_setCell _ ⟨b, 0, none⟩ a q hne)).trans h
theorem volDo_rs (A0 : Option Addr) (n0 c0 : Nat) (A1 : Option Addr) (n1 c1 : Nat) (x : Scu.Volume) (an sn : Nat) (d : Scu.Str) (w : World) (B : Nat) (hv : IsVolume w B (.slice A0 n0 c0) (.slice A1 n1 c1) x)
    (hf : ¬ Scu.volFault x ≠ 0) (ho : ¬ Scu.opFault ⟨3, an, (sn : Int) + 1, d⟩ ≠ 0) (ha6 : an < 6) (hsl : sn < x.snaps.length) :
    Calls Try.prog 21 #[.agg #[.slice A0 n0 c0, .slice A1 n1 c1], .agg #[.int .i64 3, .int .i64 an, .int .i64 ((sn : Int) + 1), .string d]] w fun e w' => DidRet w' w.heap.size (x, (⟨0, 0, (x.snaps.getD sn []).getD an Scu.str0⟩ : Scu.Reply), 0) e ∧ Below w.heap.size w w' := by
  have HV := Lib.hid hv
  have hfb : (Scu.volFault x != 0) = false := by simpa using hf
  have hop := Decidable.not_not.1 ho
  have HOP := Lib.hid (fun W => checkOp_a _ W hop)
  obtain ⟨hl6, hs3, hn8, hs8⟩ := volFault_ok hf
  have HS8 := Lib.hid hs8
  clear hv hf ho hop hn8 hs8
  have hsl' : (sn : Int) + 1 ≤ (x.snaps.length : Int) := by omega
  have hsl2 : (sn : Int) < (x.snaps.length : Int) := by omega
  have hmb2 : ((sn : Int) + 1 == 0) = false := by simp; omega
  have h6 : an < x.snaps[sn].length := by rw [(HS8.out _ (List.getElem_mem hsl)).1]; omega
  have h6' : (an : Int) < (x.snaps[sn].length : Int) := by omega
  have hgd : (x.snaps.getD sn []).getD an Scu.str0 = x.snaps[sn][an] := by
    rw [List.getD_eq_getElem?_getD (l := x.snaps), List.getElem?_eq_getElem hsl, Option.getD_some, List.getD_eq_getElem?_getD, List.getElem?_eq_getElem h6]
    rfl
  rw [hgd]
  clear hgd
  go_enter Try.func21, Try.ntmps21
  go_wp2_with fail
  refine (volCheck_c _ _ x _ B ((((HV.out.alloc _).alloc _).alloc _).alloc _)).mono ?_; rintro e w1 ⟨rfl, h1⟩
  have hF1 := (Four.start w A0 n0 c0 A1 n1 c1 _ _ _ d).below h1
  have hlt1 : w.heap.size + 1 + 1 + 1 < w1.heap.size := hF1.b3.lt
  have hlt1a : w.heap.size < w1.heap.size := by omega
  have hlt1b : w.heap.size + 1 < w1.heap.size := by omega
  have hlt1c : w.heap.size + 1 + 1 < w1.heap.size := by omega
  have z0 := hF1.b0.cell 0
  have z1 := hF1.b0.cell 1
  have z2 := hF1.b1.cell 0
  have z3 := hF1.b1.cell 1
  have z4 := hF1.b1.cell 2
  have z5 := hF1.b1.cell 3
  have z6 := hF1.b2.cell 0
  have z7 := hF1.b2.cell 1
  have z8 := hF1.b3.cell 0
  have z9 := hF1.b3.cell 1
  have zx := hF1.b3.cell 2
  simp only [List.getElem?_toArray, List.getElem?_cons_zero, List.getElem?_cons_succ] at z0 z1 z2 z3 z4 z5 z6 z7 z8 z9 zx
  have zu := hF1.b0.frozen
  have zv := hF1.b2.frozen
  have zw := hF1.b3.frozen
  go_wp2_with fail
  refine (HOP.out _).mono ?_; rintro e w2 ⟨rfl, h2⟩
  have hF2 := hF1.below h2
  have hlt2 : w.heap.size + 1 + 1 + 1 < w2.heap.size := hF2.b3.lt
  have hlt2a : w.heap.size < w2.heap.size := by omega
  have hlt2b : w.heap.size + 1 < w2.heap.size := by omega
  have hlt2c : w.heap.size + 1 + 1 < w2.heap.size := by omega
  have y0 := hF2.b0.cell 0
  have y1 := hF2.b0.cell 1
  have y2 := hF2.b1.cell 0
  have y3 := hF2.b1.cell 1
  have y4 := hF2.b1.cell 2
  have y5 := hF2.b1.cell 3
  have y6 := hF2.b2.cell 0
  have y7 := hF2.b2.cell 1
  have y8 := hF2.b3.cell 0
  have y9 := hF2.b3.cell 1
  have yx := hF2.b3.cell 2
  simp only [List.getElem?_toArray, List.getElem?_cons_zero, List.getElem?_cons_succ] at y0 y1 y2 y3 y4 y5 y6 y7 y8 y9 yx
  have yu := hF2.b0.frozen
  have yv := hF2.b2.frozen
  have yw := hF2.b3.frozen
  go_wp2_with fail
  refine (copyVol_c _ _ x _ B (HV.out.below hF2.low)).mono ?_; rintro e w3 ⟨⟨nu, su, rfl, hu⟩, h3⟩
  obtain ⟨⟨A2, c2, _, rfl, _, _, _, _⟩, _⟩ := hu.is.snaps
  have hun := hu.now
  rw [hl6] at hun
  obtain ⟨g, c, cur, rfl, hg, hbl, hcc⟩ := own_at hun (by omega)
  have hF3 := hF2.below h3
  have hlt3 : w.heap.size + 1 + 1 + 1 < w3.heap.size := hF3.b3.lt
  have hlt3a : w.heap.size < w3.heap.size := by omega
  have hlt3b : w.heap.size + 1 < w3.heap.size := by omega
  have hlt3c : w.heap.size + 1 + 1 < w3.heap.size := by omega
  have x0 := hF3.b0.cell 0
  have x1 := hF3.b0.cell 1
  have x2 := hF3.b1.cell 0
  have x3 := hF3.b1.cell 1
  have x4 := hF3.b1.cell 2
  have x5 := hF3.b1.cell 3
  have x6 := hF3.b2.cell 0
  have x7 := hF3.b2.cell 1
  have x8 := hF3.b3.cell 0
  have x9 := hF3.b3.cell 1
  have xx := hF3.b3.cell 2
  simp only [List.getElem?_toArray, List.getElem?_cons_zero, List.getElem?_cons_succ] at x0 x1 x2 x3 x4 x5 x6 x7 x8 x9 xx
  have xu := hF3.b0.frozen
  have xv := hF3.b2.frozen
  have xw := hF3.b3.frozen
  have hzg := hbl.frozen
  have hgg : w3.cell? ⟨g, an, none⟩ = some (.string (x.now[an]'(by omega))) := by rw [hcc an (by omega), List.getElem?_map, List.getElem?_eq_getElem (by omega)]; rfl
  have hglt := hbl.lt
  have han : (an : Int) < 6 := by omega
  have hlow := hF2.low.size
  have hgw : w.heap.size + 1 + 1 + 1 < g := by omega
  have hne0 : g ≠ w.heap.size := by omega
  have hw23 := h3.size
  have HU := Lib.hid hu
  have HF3 := Lib.hid hF3
  clear h1 h2 h3 hF1 hF2 hF3 hun hcc hu hbl hg
  obtain ⟨q1, o1, c1', p1, e1, hq1, hqn1, hqc1, hp1⟩ := rows_at HU.out.is.snaps hsl
  obtain ⟨q2, o2, c2', rfl, hq2', hqn2, hqc2⟩ := strs_at hp1 h6
  have hA2 : A2 = some ⟨q1, o1, none⟩ := by cases e1; rfl
  subst hA2
  clear e1
  have hn10 : q1 ≠ w.heap.size := hqn1 _ _ _ HF3.out.b0 (by decide)
  have hn20 : q2 ≠ w.heap.size := hqn2 _ _ _ HF3.out.b0 (by decide)
  have hk1 := cell_two hqc1 hq1 hn10 (.slice (some ⟨g, 0, none⟩) 6 c) (.slice (some ⟨q1, o1, none⟩) x.snaps.length c2) (Obj.cells #[.int .i64 0, .int .i64 0, .string ⟨#[]⟩] 43)
  have hk2 := cell_two hqc2 hq2' hn20 (.slice (some ⟨g, 0, none⟩) 6 c) (.slice (some ⟨q1, o1, none⟩) x.snaps.length c2) (Obj.cells #[.int .i64 0, .int .i64 0, .string ⟨#[]⟩] 43)
  clear hqn1 hqn2 hp1 hqc1 hqc2
  have hO := (HU.out.same (Same.sets2 (B := 0) HF3.out.b0 (Nat.zero_le _) (by decide) (.slice (some ⟨g, 0, none⟩) 6 c) (.slice (some ⟨q1, o1, none⟩) x.snaps.length c2))).alloc (Obj.cells #[.int .i64 0, .int .i64 0, .string ⟨#[]⟩] 43)
  have hb0 : Blk _ w.heap.size 38 #[(.slice (some ⟨g, 0, none⟩) 6 c), (.slice (some ⟨q1, o1, none⟩) x.snaps.length c2)] := ((HF3.out.b0.set_ 0 (.slice (some ⟨g, 0, none⟩) 6 c)).set_ 1 (.slice (some ⟨q1, o1, none⟩) x.snaps.length c2)).alloc (Obj.cells #[.int .i64 0, .int .i64 0, .string ⟨#[]⟩] 43)
  have hb1 := ((HF3.out.b1.far (p := ⟨w.heap.size, 0, none⟩) (by simp) (.slice (some ⟨g, 0, none⟩) 6 c)).far (p := ⟨w.heap.size, 1, none⟩) (by simp) (.slice (some ⟨q1, o1, none⟩) x.snaps.length c2)).alloc (Obj.cells #[.int .i64 0, .int .i64 0, .string ⟨#[]⟩] 43)
  have hq2 := ((HF3.out.b2.far (p := ⟨w.heap.size, 0, none⟩) (by simp; omega) (.slice (some ⟨g, 0, none⟩) 6 c)).far (p := ⟨w.heap.size, 1, none⟩) (by simp; omega) (.slice (some ⟨q1, o1, none⟩) x.snaps.length c2)).alloc (Obj.cells #[.int .i64 0, .int .i64 0, .string ⟨#[]⟩] 43)
  have hq3 := ((HF3.out.b3.far (p := ⟨w.heap.size, 0, none⟩) (by simp; omega) (.slice (some ⟨g, 0, none⟩) 6 c)).far (p := ⟨w.heap.size, 1, none⟩) (by simp; omega) (.slice (some ⟨q1, o1, none⟩) x.snaps.length c2)).alloc (Obj.cells #[.int .i64 0, .int .i64 0, .string ⟨#[]⟩] 43)
  have hR : Blk (((w3.setCell ⟨w.heap.size, 0, none⟩ (.slice (some ⟨g, 0, none⟩) 6 c)).setCell ⟨w.heap.size, 1, none⟩ (.slice (some ⟨q1, o1, none⟩) x.snaps.length c2)).alloc (Obj.cells #[.int .i64 0, .int .i64 0, .string ⟨#[]⟩] 43)) w3.heap.size 43 #[.int .i64 0, .int .i64 0, .string ⟨#[]⟩] := Blk.new' (by simp [World.setCell])
  have hLW := ((HF3.out.low.setCell (p := ⟨w.heap.size, 0, none⟩) (Nat.le_refl _) (.slice (some ⟨g, 0, none⟩) 6 c)).setCell (p := ⟨w.heap.size, 1, none⟩) (Nat.le_refl _) (.slice (some ⟨q1, o1, none⟩) x.snaps.length c2)).alloc (by have := HF3.out.low.size; simpa [World.setCell] using this) (Obj.cells #[.int .i64 0, .int .i64 0, .string ⟨#[]⟩] 43)
  obtain ⟨Wd, hWd⟩ : ∃ W, W = ((w3.setCell ⟨w.heap.size, 0, none⟩ (.slice (some ⟨g, 0, none⟩) 6 c)).setCell ⟨w.heap.size, 1, none⟩ (.slice (some ⟨q1, o1, none⟩) x.snaps.length c2)).alloc (Obj.cells #[.int .i64 0, .int .i64 0, .string ⟨#[]⟩] 43) := ⟨_, rfl⟩
  have hwds : Wd.heap.size = w3.heap.size + 1 := by rw [hWd]; simp [World.setCell]
  rw [← hWd] at hO hb0 hb1 hq2 hq3 hR hLW hk1 hk2
  have HO := Lib.hid hO
  have HB0 := Lib.hid hb0
  have HBS := Lib.hid (And.intro hR (And.intro hq2 (And.intro hq3 hLW)))
  have HW := Lib.hid hWd
  have d0 := hb0.cell 0
  have d1 := hb0.cell 1
  have t0 := hb1.cell 0
  have t1 := hb1.cell 1
  have t2 := hb1.cell 2
  have g0 := hR.cell 0
  have g1 := hR.cell 1
  have g2 := hR.cell 2
  have p0 := hq2.cell 0
  have p1 := hq2.cell 1
  have s0 := hq3.cell 0
  have s1 := hq3.cell 1
  have s2 := hq3.cell 2
  simp only [List.getElem?_toArray, List.getElem?_cons_zero, List.getElem?_cons_succ] at d0 d1 t0 t1 t2 g0 g1 g2 p0 p1 s0 s1 s2
  have gz := hR.frozen
  have pz := hq2.frozen
  have sz := hq3.frozen
  have hn13 : w3.heap.size ≠ w.heap.size + 1 + 1 := by omega
  have hn23 : w3.heap.size ≠ w.heap.size + 1 + 1 + 1 := by omega
  have hn03 : w3.heap.size ≠ w.heap.size := by omega
  have hn33 : w3.heap.size ≠ w.heap.size + 1 := by omega
  have hl1 : q1 < Wd.heap.size := by omega
  have hl2 : q2 < Wd.heap.size := by omega
  have hl3 : w3.heap.size < Wd.heap.size := by omega
  have hl4 : w.heap.size < Wd.heap.size := by omega
  clear hO hb0 hb1 hq2 hq3 hR hLW hWd
  go_wp2_with fail
  rw [← HW.out]
  go_region
  go_wp2_with fail
  have hX0 := (HB0.out.far (p := ⟨w3.heap.size, 2, none⟩) (fun e => hn03 e.symm) (.string x.snaps[sn][an])).drew
  have hX1 : Blk _ w3.heap.size 43 #[.int .i64 0, .int .i64 0, .string x.snaps[sn][an]] := (HBS.out.1.set_ 2 (.string x.snaps[sn][an])).drew
  have hX2 := (HBS.out.2.1.far (p := ⟨w3.heap.size, 2, none⟩) (fun e => hn13 e.symm) (.string x.snaps[sn][an])).drew
  have hX3 := (HBS.out.2.2.1.far (p := ⟨w3.heap.size, 2, none⟩) (fun e => hn23 e.symm) (.string x.snaps[sn][an])).drew
  have hXO := (HO.out.set_ (i := 2) HBS.out.1 (by decide) (by decide) (.string x.snaps[sn][an])).below (Below.refl _ _).drew
  have hXB := (HBS.out.2.2.2.setCell (p := ⟨w3.heap.size, 2, none⟩) (by show w.heap.size ≤ w3.heap.size; omega) (.string x.snaps[sn][an])).drew
  obtain ⟨We, hWe⟩ : ∃ W, W = (Wd.setCell ⟨w3.heap.size, 2, none⟩ (.string x.snaps[sn][an])).drew := ⟨_, rfl⟩
  rw [← hWe] at hX0 hX1 hX2 hX3 hXO hXB ⊢
  have hwes : Wd.heap.size ≤ We.heap.size := by rw [hWe]; simp [World.setCell]
  clear d0 d1 t0 t1 t2 g0 g1 g2 p0 p1 s0 s1 s2 gz pz sz hk1 hk2 hWe HW
  have d0 := hX0.cell 0
  have d1 := hX0.cell 1
  have g0 := hX1.cell 0
  have g1 := hX1.cell 1
  have g2 := hX1.cell 2
  have p0 := hX2.cell 0
  have p1 := hX2.cell 1
  have s0 := hX3.cell 0
  have s1 := hX3.cell 1
  have s2 := hX3.cell 2
  simp only [List.getElem?_toArray, List.getElem?_cons_zero, List.getElem?_cons_succ] at d0 d1 g0 g1 g2 p0 p1 s0 s1 s2
  have gz := hX1.frozen
  have pz := hX2.frozen
  have sz := hX3.frozen
  have m0 := hX0.lt
  have m1 := hX1.lt
  have m2 := hX2.lt
  have m3 := hX3.lt
  have HX := Lib.hid (And.intro hX2 (And.intro hX3 (And.intro hXO hXB)))
  clear hX0 hX1 hX2 hX3 hXO hXB
  go_region
  rename_i hK
  refine hK _ _ (Go.wp_ret ?_)
  obtain ⟨he2, he3, hes⟩ := do_end HX.out.1 HX.out.2.1 (by omega) (.slice (some ⟨g, 0, none⟩) 6 c) (.slice (some ⟨q1, o1, none⟩) x.snaps.length c2) (.int .i64 0) (.int .i64 0) (.string x.snaps[sn][an])
  have hc2 := he2.drew
  have hc3 := he3.drew
  have r0 := hc2.cell 0
  have r1 := hc2.cell 1
  have r2 := hc3.cell 0
  have r3 := hc3.cell 1
  have r4 := hc3.cell 2
  simp only [List.getElem?_toArray, List.getElem?_cons_zero, List.getElem?_cons_succ] at r0 r1 r2 r3 r4
  refine bodyPost_ret (v := .tuple #[.agg #[(.slice (some ⟨g, 0, none⟩) 6 c), (.slice (some ⟨q1, o1, none⟩) x.snaps.length c2)], .agg #[.int .i64 0, .int .i64 0, .string x.snaps[sn][an]], .int .i64 0]) (by simp [results, Try.results21, go_sem, r0, r1, r2, r3, r4]) rfl ?_
  exact ⟨⟨_, _, rfl, ((HX.out.2.2.1.base_ hlow).same hes).below (Below.refl _ _).drew⟩, (do_below HX.out.2.2.2 (by omega) (by omega) _ _ _ _ _).drew⟩
end Go.Proofs.Ytioajgcbchdpeaa

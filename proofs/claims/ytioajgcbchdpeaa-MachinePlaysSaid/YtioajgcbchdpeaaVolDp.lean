/- Walks: volume.Do: a snapshot more. -/
import Derived.Test.YtioajgcbchdpeaaVolM
namespace Go.Proofs.Ytioajgcbchdpeaa
open Go.RowKit
set_option maxHeartbeats 8000000
set_option maxRecDepth 100000

theorem volDo_sn (A0 : Option Addr) (n0 c0 : Nat) (A1 : Option Addr) (n1 c1 : Nat) (x : Scu.Volume) (d : Scu.Str) (w : World) (B : Nat) (hv : IsVolume w B (.slice A0 n0 c0) (.slice A1 n1 c1) x)
    (hf : ¬ Scu.volFault x ≠ 0) (ho : ¬ Scu.opFault ⟨4, 0, 0, d⟩ ≠ 0) (h3 : x.snaps.length < 3) :
    Calls Try.prog 21 #[.agg #[.slice A0 n0 c0, .slice A1 n1 c1], .agg #[.int .i64 4, .int .i64 0, .int .i64 0, .string d]] w fun e w' => DidRet w' w.heap.size ((⟨x.now, x.snaps ++ [x.now]⟩ : Scu.Volume), (⟨0, (x.snaps.length : Int) + 1, Scu.str0⟩ : Scu.Reply), 0) e ∧ Below w.heap.size w w' := by
  have HV := Lib.hid hv
  have hfb : (Scu.volFault x != 0) = false := by simpa using hf
  have hop := Decidable.not_not.1 ho
  have HOP := Lib.hid (fun W => checkOp_a _ W hop)
  obtain ⟨hl6, hs3, hn8, hs8⟩ := volFault_ok hf
  have HS8 := Lib.hid hs8
  clear hv hf ho hop hn8 hs8
  have hlen : (x.snaps.length : Int) ≠ 3 := by omega
  have h3b : ((x.snaps.length : Int) == 3) = false := by simpa using hlen
  obtain ⟨an, han0⟩ : ∃ an, an = 0 := ⟨_, rfl⟩
  have ha6 : an < 6 := by omega
  clear hlen
  go_enter Try.func21, Try.ntmps21
  go_wp2_with fail
  refine (volCheck_c _ _ x _ B ((((HV.out.alloc _).alloc _).alloc _).alloc _)).mono ?_; rintro e w1 ⟨rfl, h1⟩
  have hF1 := (Four.start w A0 n0 c0 A1 n1 c1 _ _ _ d).below h1
  have hlt1 : w.heap.size + 1 + 1 + 1 < w1.heap.size := hF1.b3.lt
  have hlt1a : w.heap.size < w1.heap.size := by omega
  have hlt1b : w.heap.size + 1 < w1.heap.size := by omega
  have hlt1c : w.heap.size + 1 + 1 < w1.heap.size := by omega
  have z0 := hF1.b0.cell 0
  have z1 := hF1.b0.cell 1
  have z2 := hF1.b1.cell 0
  have z3 := hF1.b1.cell 1
  have z4 := hF1.b1.cell 2
  have z5 := hF1.b1.cell 3
  have z6 := hF1.b2.cell 0
  have z7 := hF1.b2.cell 1
  have z8 := hF1.b3.cell 0
  have z9 := hF1.b3.cell 1
  have zx := hF1.b3.cell 2
  simp only [List.getElem?_toArray, List.getElem?_cons_zero, List.getElem?_cons_succ] at z0 z1 z2 z3 z4 z5 z6 z7 z8 z9 zx
  have zu := hF1.b0.frozen
  have zv := hF1.b2.frozen
  have zw := hF1.b3.frozen
  go_wp2_with fail
  refine (HOP.out _).mono ?_; rintro e w2 ⟨rfl, h2⟩
  have hF2 := hF1.below h2
  have hlt2 : w.heap.size + 1 + 1 + 1 < w2.heap.size := hF2.b3.lt
  have hlt2a : w.heap.size < w2.heap.size := by omega
  have hlt2b : w.heap.size + 1 < w2.heap.size := by omega
  have hlt2c : w.heap.size + 1 + 1 < w2.heap.size := by omega
  have y0 := hF2.b0.cell 0
  have y1 := hF2.b0.cell 1
  have y2 := hF2.b1.cell 0
  have y3 := hF2.b1.cell 1
  have y4 := hF2.b1.cell 2
  have y5 := hF2.b1.cell 3
  have y6 := hF2.b2.cell 0
  have y7 := hF2.b2.cell 1
  have y8 := hF2.b3.cell 0
  have y9 := hF2.b3.cell 1
  have yx := hF2.b3.cell 2
  simp only [List.getElem?_toArray, List.getElem?_cons_zero, List.getElem?_cons_succ] at y0 y1 y2 y3 y4 y5 y6 y7 y8 y9 yx
  have yu := hF2.b0.frozen
  have yv := hF2.b2.frozen
  have yw := hF2.b3.frozen
  go_wp2_with fail
  refine (copyVol_c _ _ x _ B (HV.out.below hF2.low)).mono ?_; rintro e w3 ⟨⟨nu, su, rfl, hu⟩, h3⟩
  obtain ⟨⟨A2, c2, _, rfl, _, _, _, _⟩, _⟩ := hu.is.snaps
  have hun := hu.now
  rw [hl6] at hun
  obtain ⟨g, c, cur, rfl, hg, hbl, hcc⟩ := own_at hun (by omega)
  have hF3 := hF2.below h3
  have hlt3 : w.heap.size + 1 + 1 + 1 < w3.heap.size := hF3.b3.lt
  have hlt3a : w.heap.size < w3.heap.size := by omega
  have hlt3b : w.heap.size + 1 < w3.heap.size := by omega
  have hlt3c : w.heap.size + 1 + 1 < w3.heap.size := by omega
  have x0 := hF3.b0.cell 0
  have x1 := hF3.b0.cell 1
  have x2 := hF3.b1.cell 0
  have x3 := hF3.b1.cell 1
  have x4 := hF3.b1.cell 2
  have x5 := hF3.b1.cell 3
  have x6 := hF3.b2.cell 0
  have x7 := hF3.b2.cell 1
  have x8 := hF3.b3.cell 0
  have x9 := hF3.b3.cell 1
  have xx := hF3.b3.cell 2
  simp only [List.getElem?_toArray, List.getElem?_cons_zero, List.getElem?_cons_succ] at x0 x1 x2 x3 x4 x5 x6 x7 x8 x9 xx
  have xu := hF3.b0.frozen
  have xv := hF3.b2.frozen
  have xw := hF3.b3.frozen
  have hzg := hbl.frozen
  have hgg : w3.cell? ⟨g, an, none⟩ = some (.string (x.now[an]'(by omega))) := by rw [hcc an (by omega), List.getElem?_map, List.getElem?_eq_getElem (by omega)]; rfl
  have hglt := hbl.lt
  have han : (an : Int) < 6 := by omega
  have hlow := hF2.low.size
  have hgw : w.heap.size + 1 + 1 + 1 < g := by omega
  have hne0 : g ≠ w.heap.size := by omega
  have hw23 := h3.size
  have HU := Lib.hid hu
  have HF3 := Lib.hid hF3
  clear h1 h2 h3 hF1 hF2 hF3 hun hcc hu hbl hg
  have hO := (HU.out.same (Same.sets2 (B := 0) HF3.out.b0 (Nat.zero_le _) (by decide) (.slice (some ⟨g, 0, none⟩) 6 c) (.slice A2 x.snaps.length c2))).alloc (Obj.cells #[.int .i64 0, .int .i64 0, .string ⟨#[]⟩] 43)
  have hb0 : Blk _ w.heap.size 38 #[(.slice (some ⟨g, 0, none⟩) 6 c), (.slice A2 x.snaps.length c2)] := ((HF3.out.b0.set_ 0 (.slice (some ⟨g, 0, none⟩) 6 c)).set_ 1 (.slice A2 x.snaps.length c2)).alloc (Obj.cells #[.int .i64 0, .int .i64 0, .string ⟨#[]⟩] 43)
  obtain ⟨Wd, hWd⟩ : ∃ W, W = ((w3.setCell ⟨w.heap.size, 0, none⟩ (.slice (some ⟨g, 0, none⟩) 6 c)).setCell ⟨w.heap.size, 1, none⟩ (.slice A2 x.snaps.length c2)).alloc (Obj.cells #[.int .i64 0, .int .i64 0, .string ⟨#[]⟩] 43) := ⟨_, rfl⟩
  have hwds : Wd.heap.size = w3.heap.size + 1 := by rw [hWd]; simp [World.setCell]
  have hR0 : Blk (((w3.setCell ⟨w.heap.size, 0, none⟩ (.slice (some ⟨g, 0, none⟩) 6 c)).setCell ⟨w.heap.size, 1, none⟩ (.slice A2 x.snaps.length c2)).alloc (Obj.cells #[.int .i64 0, .int .i64 0, .string ⟨#[]⟩] 43)) w3.heap.size 43 #[.int .i64 0, .int .i64 0, .string ⟨#[]⟩] := Blk.new' (by simp [World.setCell])
  have hq2 := ((HF3.out.b2.far (p := ⟨w.heap.size, 0, none⟩) (by simp; omega) (.slice (some ⟨g, 0, none⟩) 6 c)).far (p := ⟨w.heap.size, 1, none⟩) (by simp; omega) (.slice A2 x.snaps.length c2)).alloc (Obj.cells #[.int .i64 0, .int .i64 0, .string ⟨#[]⟩] 43)
  have hq3 := ((HF3.out.b3.far (p := ⟨w.heap.size, 0, none⟩) (by simp; omega) (.slice (some ⟨g, 0, none⟩) 6 c)).far (p := ⟨w.heap.size, 1, none⟩) (by simp; omega) (.slice A2 x.snaps.length c2)).alloc (Obj.cells #[.int .i64 0, .int .i64 0, .string ⟨#[]⟩] 43)
  have hLW := ((HF3.out.low.setCell (p := ⟨w.heap.size, 0, none⟩) (Nat.le_refl _) (.slice (some ⟨g, 0, none⟩) 6 c)).setCell (p := ⟨w.heap.size, 1, none⟩) (Nat.le_refl _) (.slice A2 x.snaps.length c2)).alloc (by have := HF3.out.low.size; simpa [World.setCell] using this) (Obj.cells #[.int .i64 0, .int .i64 0, .string ⟨#[]⟩] 43)
  rw [← hWd] at hO hb0 hR0 hq2 hq3 hLW
  have HON := Lib.hid (And.intro hO.now (And.intro hO.nowLen (And.intro hO.nowEach hLW)))
  clear hLW
  have HQ := Lib.hid (And.intro hq2 hq3)
  clear hq2 hq3
  have hR : Blk Wd w3.heap.size 43 #[.int .i64 0, .int .i64 0, .string ⟨#[]⟩] := hR0
  clear hR0
  have HR := Lib.hid hR
  have HNOW := Lib.hid hO.is.now
  obtain ⟨vs, bb, hrow, heach, hlo, hhi⟩ := hO.snaps
  have HROW := Lib.hid hrow
  have HB0 := Lib.hid hb0
  have HW := Lib.hid hWd
  have HE := Lib.hid heach
  have HLH := Lib.hid (And.intro hlo hhi)
  clear hO hb0 hrow heach hWd hR hlo hhi
  go_wp2_with fail
  rw [← HW.out]
  have d0 := HB0.out.cell 0
  have d1 := HB0.out.cell 1
  simp only [List.getElem?_toArray, List.getElem?_cons_zero, List.getElem?_cons_succ] at d0 d1
  have dz := HB0.out.frozen
  have hdlt := HB0.out.lt
  go_region_law (first
    | (go_simp; go_at_call 59; refine (cloneStrs_c _ x.now _ 0 (HNOW.out.drewN 1)).mono ?_; rintro e w4 ⟨⟨u3, rfl, hu3⟩, h4⟩; have h4 : Below Wd.heap.size Wd w4 := (below_drewN (Below.refl _ _) 1).trans h4; obtain ⟨A3, c3, rfl, _, _, _, hlo3⟩ := rd_own hu3; have hu3 : w4.ownsRow Wd.heap.size 9 1 _ _ _ := hu3; have HU3 := Lib.hid hu3; have HLO3 := Lib.hid hlo3; clear hu3 hlo3; have f0 := (((bcell h4).1 w.heap.size 0 hdlt).trans d0); have f1 := (((bcell h4).1 w.heap.size 1 hdlt).trans d1); have fz := (((bcell h4).2 w.heap.size 1 hdlt).trans (dz 1)); have h4s := h4.size; have f1a : ∀ o, (w4.alloc o).cell? ⟨w.heap.size, 1, none⟩ = some (.slice A2 x.snaps.length c2) := fun o => (((below_alloc w4 o).cell (p := ⟨w.heap.size, 1, none⟩) (Nat.lt_of_lt_of_le hdlt h4.size)).trans f1))
    | (refine step_app _ rfl (.tmp 69) (.tmp 73) 36 rfl el_rows w2.heap.size (.slice A2 x.snaps.length c2) x.snaps.length vs rfl ((own_below HROW.out h4).alloc _) (.slice (some ⟨w4.heap.size, 0, none⟩) 1 1) 1 [.slice A3 6 c3] rfl ⟨rfl, .inr ⟨_, _, rfl, ?_⟩⟩ ?_ ?_ ?_ ?_ ?_
       · intro j v hj
         have hj0 : j = 0 := by (rcases j with _ | j <;> simp at hj ⊢)
         subst hj0
         simp at hj
         subst hj
         exact (Blk.new w4 _ _).cell 0
       · (intro v hv; rw [List.mem_singleton] at hv; subst hv; rfl)
       · (unfold maxLen; omega)
       · omega
       · (simp; have := h4s; omega)
       intro v5 w5 h5 hg5 _
       have hb5 := copy_cell (w := w2) HB0.out HROW.out h4 hg5
       have e0 := hb5.cell 0
       have e1 := hb5.cell 1
       simp only [List.getElem?_toArray, List.getElem?_cons_zero, List.getElem?_cons_succ] at e0 e1
       have ez := hb5.frozen
       have hr5 := blk_grow ((HR.out.same h4).alloc (Obj.cells #[.slice A3 6 c3] 26)) ((own_below HROW.out h4).alloc _) (by decide) hg5
       have g0 := hr5.cell 0
       have g1 := hr5.cell 1
       have g2 := hr5.cell 2
       simp only [List.getElem?_toArray, List.getElem?_cons_zero, List.getElem?_cons_succ] at g0 g1 g2
       have hp5 := blk_grow ((HQ.out.1.same h4).alloc (Obj.cells #[.slice A3 6 c3] 26)) ((own_below HROW.out h4).alloc _) (by decide) hg5
       have hs5 := blk_grow ((HQ.out.2.same h4).alloc (Obj.cells #[.slice A3 6 c3] 26)) ((own_below HROW.out h4).alloc _) (by decide) hg5
       have p0 := hp5.cell 0
       have p1 := hp5.cell 1
       have s0 := hs5.cell 0
       have s1 := hs5.cell 1
       have s2 := hs5.cell 2
       simp only [List.getElem?_toArray, List.getElem?_cons_zero, List.getElem?_cons_succ] at p0 p1 s0 s1 s2
       have pz := hp5.frozen
       have sz := hs5.frozen
       have HPS := Lib.hid (And.intro hp5 hs5)
       have hn03 : w3.heap.size ≠ w.heap.size := by omega
       have hn13 : w3.heap.size ≠ w.heap.size + 1 + 1 := by omega
       have hn23 : w3.heap.size ≠ w.heap.size + 1 + 1 + 1 := by omega
       have gz := hr5.frozen
       have HR5 := Lib.hid hr5
       have h35 : w.heap.size < w5.heap.size := hb5.lt
       have h36 : w3.heap.size < w5.heap.size := hr5.lt
       obtain ⟨A5, c5, rfl, _, _, _, _⟩ := rd_own h5
       have HG5 := Lib.hid (And.intro h5 hg5)
       have HB5 := Lib.hid hb5
       clear h5 hg5 hb5 hr5 hp5 hs5))
  all_goals
    go_wp2_with fail
    go_region
    rename_i hK
    refine hK _ _ (Go.wp_ret ?_)
    have hnA := own_below (own_below HON.out.1 h4) (below_alloc w4 (Obj.cells #[.slice A3 6 c3] 26))
    have hrA := own_below (own_below HROW.out h4) (below_alloc w4 (Obj.cells #[.slice A3 6 c3] 26))
    have hOV := OwnVol.push (x := x) (y := x.now) (u := .slice A3 6 c3) hnA HON.out.2.1 HON.out.2.2.1 hrA (fun j u y a b => ((HE.out j u y a b).below h4).alloc _) HLH.out.1 HLH.out.2 (by
        have h := (strs_own HU3.out HON.out.2.1 HON.out.2.2.1).alloc (Obj.cells #[.slice A3 6 c3] 26)
        rw [hl6] at h
        exact h)
      (fun g0 hg0 g' hg' => by
        have h1 : Wd.heap.size ≤ g' := (HLO3.out g' (by rw [hl6]; exact hg')).1
        have hg1 : g = g0 := by simpa [Value.ownBlock] using hg0
        have hg2 := hglt
        omega) (by unfold R47; omega) HG5.out.2 HG5.out.1
    have hO2 := (hOV.set_ (i := 1) HB5.out (by decide) (by decide) (.slice A5 (x.snaps.length + 1) c5)).set_ (i := 1) (HR5.out.far (p := ⟨w.heap.size, 1, none⟩) hn03 (.slice A5 (x.snaps.length + 1) c5)) (by decide) (by decide) (.int .i64 ((x.snaps.length : Int) + 1))
    have hq2 := (HPS.out.1.far (p := ⟨w.heap.size, 1, none⟩) (by simp; omega) (.slice A5 (x.snaps.length + 1) c5)).far (p := ⟨w3.heap.size, 1, none⟩) (fun e => hn13 e.symm) (.int .i64 ((x.snaps.length : Int) + 1))
    have hq3 := (HPS.out.2.far (p := ⟨w.heap.size, 1, none⟩) (by simp; omega) (.slice A5 (x.snaps.length + 1) c5)).far (p := ⟨w3.heap.size, 1, none⟩) (fun e => hn23 e.symm) (.int .i64 ((x.snaps.length : Int) + 1))
    obtain ⟨he2, he3, hes⟩ := do_end hq2 hq3 (by omega) (.slice (some ⟨g, 0, none⟩) 6 c) (.slice A5 (x.snaps.length + 1) c5) (.int .i64 0) (.int .i64 ((x.snaps.length : Int) + 1)) (.string ⟨#[]⟩)
    have hc2 := he2.drew
    have hc3 := he3.drew
    have r0 := hc2.cell 0
    have r1 := hc2.cell 1
    have r2 := hc3.cell 0
    have r3 := hc3.cell 1
    have r4 := hc3.cell 2
    simp only [List.getElem?_toArray, List.getElem?_cons_zero, List.getElem?_cons_succ] at r0 r1 r2 r3 r4
    refine bodyPost_ret (v := .tuple #[.agg #[(.slice (some ⟨g, 0, none⟩) 6 c), .slice A5 (x.snaps.length + 1) c5], .agg #[.int .i64 0, .int .i64 ((x.snaps.length : Int) + 1), .string ⟨#[]⟩], .int .i64 0]) (by simp [results, Try.results21, go_sem, r0, r1, r2, r3, r4]) rfl ?_
    refine ⟨⟨_, _, rfl, ((hO2.base_ hlow).same hes).below (Below.refl _ _).drew⟩, ?_⟩
    have hLA := (HON.out.2.2.2.trans (h4.mono HON.out.2.2.2.size)).alloc (by have := HON.out.2.2.2.size; have := h4.size; omega) (Obj.cells #[.slice A3 6 c3] 26)
    have hL5 := hLA.grown HG5.out.2 hLA.size (fun q hq => Nat.le_trans hlow (hrA.lt q hq).1)
    exact (do_below ((hL5.setCell (p := ⟨w.heap.size, 1, none⟩) (Nat.le_refl _) _).setCell (p := ⟨w3.heap.size, 1, none⟩) (by show w.heap.size ≤ w3.heap.size; omega) _) (by omega) (by omega) _ _ _ _ _).drew
end Go.Proofs.Ytioajgcbchdpeaa

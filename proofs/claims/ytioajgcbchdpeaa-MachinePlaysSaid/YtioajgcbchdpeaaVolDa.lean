/- Walks: volume.Do: what is refused. -/
import Derived.Test.YtioajgcbchdpeaaVolM
namespace Go.Proofs.Ytioajgcbchdpeaa
open Go.RowKit
set_option maxHeartbeats 8000000
set_option maxRecDepth 100000

theorem volDo_e1 (A0 : Option Addr) (n0 c0 : Nat) (A1 : Option Addr) (n1 c1 : Nat) (x : Scu.Volume) (ki a m : Int) (d : Scu.Str) (w : World) (B : Nat) (hv : IsVolume w B (.slice A0 n0 c0) (.slice A1 n1 c1) x) (hf : Scu.volFault x ≠ 0) :
    Calls Try.prog 21 #[.agg #[.slice A0 n0 c0, .slice A1 n1 c1], .agg #[.int .i64 ki, .int .i64 a, .int .i64 m, .string d]] w fun e w' => DidRet w' w.heap.size (Scu.vol0, Scu.reply0, Scu.volFault x) e ∧ Below w.heap.size w w' := by
  have HV := Lib.hid hv
  have hfb : (Scu.volFault x != 0) = true := by simpa using hf
  clear hf hv
  go_enter Try.func21, Try.ntmps21
  go_wp2_with fail
  refine (volCheck_c _ _ x _ B ((((HV.out.alloc _).alloc _).alloc _).alloc _)).mono ?_; rintro e w1 ⟨rfl, h1⟩
  have hF1 := (Four.start w A0 n0 c0 A1 n1 c1 _ _ _ d).below h1
  have hlt1 : w.heap.size + 1 + 1 + 1 < w1.heap.size := hF1.b3.lt
  have hlt1a : w.heap.size < w1.heap.size := by omega
  have hlt1b : w.heap.size + 1 < w1.heap.size := by omega
  have hlt1c : w.heap.size + 1 + 1 < w1.heap.size := by omega
  have z0 := hF1.b0.cell 0
  have z1 := hF1.b0.cell 1
  have z2 := hF1.b1.cell 0
  have z3 := hF1.b1.cell 1
  have z4 := hF1.b1.cell 2
  have z5 := hF1.b1.cell 3
  have z6 := hF1.b2.cell 0
  have z7 := hF1.b2.cell 1
  have z8 := hF1.b3.cell 0
  have z9 := hF1.b3.cell 1
  have zx := hF1.b3.cell 2
  simp only [List.getElem?_toArray, List.getElem?_cons_zero, List.getElem?_cons_succ] at z0 z1 z2 z3 z4 z5 z6 z7 z8 z9 zx
  have zu := hF1.b0.frozen
  have zv := hF1.b2.frozen
  have zw := hF1.b3.frozen
  go_wp2
  refine bodyPost_ret (v := .tuple #[.agg #[.slice none 0 0, .slice none 0 0], .agg #[.int .i64 0, .int .i64 0, .string ⟨#[]⟩], .int .i64 (Scu.volFault x)]) (by simp [results, Try.results21, go_sem, z6, z7, z8, z9, zx]) rfl ?_
  exact ⟨did_zero _ _ _, do_below hF1.low (by omega) (by omega) _ _ _ _ _⟩
theorem volDo_e2 (A0 : Option Addr) (n0 c0 : Nat) (A1 : Option Addr) (n1 c1 : Nat) (x : Scu.Volume) (ki a m : Int) (d : Scu.Str) (w : World) (B : Nat) (hv : IsVolume w B (.slice A0 n0 c0) (.slice A1 n1 c1) x) (hf : ¬ Scu.volFault x ≠ 0) (ho : Scu.opFault ⟨ki, a, m, d⟩ ≠ 0) :
    Calls Try.prog 21 #[.agg #[.slice A0 n0 c0, .slice A1 n1 c1], .agg #[.int .i64 ki, .int .i64 a, .int .i64 m, .string d]] w fun e w' => DidRet w' w.heap.size (Scu.vol0, Scu.reply0, Scu.opFault ⟨ki, a, m, d⟩) e ∧ Below w.heap.size w w' := by
  have HV := Lib.hid hv
  have hfb : (Scu.volFault x != 0) = false := by simpa using hf
  have hob : (Scu.opFault ⟨ki, a, m, d⟩ != 0) = true := by simpa using ho
  have HOP := Lib.hid (fun W => checkOp_c ⟨ki, a, m, d⟩ W)
  clear hf ho hv
  go_enter Try.func21, Try.ntmps21
  go_wp2_with fail
  refine (volCheck_c _ _ x _ B ((((HV.out.alloc _).alloc _).alloc _).alloc _)).mono ?_; rintro e w1 ⟨rfl, h1⟩
  have hF1 := (Four.start w A0 n0 c0 A1 n1 c1 _ _ _ d).below h1
  have hlt1 : w.heap.size + 1 + 1 + 1 < w1.heap.size := hF1.b3.lt
  have hlt1a : w.heap.size < w1.heap.size := by omega
  have hlt1b : w.heap.size + 1 < w1.heap.size := by omega
  have hlt1c : w.heap.size + 1 + 1 < w1.heap.size := by omega
  have z0 := hF1.b0.cell 0
  have z1 := hF1.b0.cell 1
  have z2 := hF1.b1.cell 0
  have z3 := hF1.b1.cell 1
  have z4 := hF1.b1.cell 2
  have z5 := hF1.b1.cell 3
  have z6 := hF1.b2.cell 0
  have z7 := hF1.b2.cell 1
  have z8 := hF1.b3.cell 0
  have z9 := hF1.b3.cell 1
  have zx := hF1.b3.cell 2
  simp only [List.getElem?_toArray, List.getElem?_cons_zero, List.getElem?_cons_succ] at z0 z1 z2 z3 z4 z5 z6 z7 z8 z9 zx
  have zu := hF1.b0.frozen
  have zv := hF1.b2.frozen
  have zw := hF1.b3.frozen
  go_wp2_with fail
  refine (HOP.out _).mono ?_; rintro e w2 ⟨rfl, h2⟩
  have hF2 := hF1.below h2
  have hlt2 : w.heap.size + 1 + 1 + 1 < w2.heap.size := hF2.b3.lt
  have hlt2a : w.heap.size < w2.heap.size := by omega
  have hlt2b : w.heap.size + 1 < w2.heap.size := by omega
  have hlt2c : w.heap.size + 1 + 1 < w2.heap.size := by omega
  have y0 := hF2.b0.cell 0
  have y1 := hF2.b0.cell 1
  have y2 := hF2.b1.cell 0
  have y3 := hF2.b1.cell 1
  have y4 := hF2.b1.cell 2
  have y5 := hF2.b1.cell 3
  have y6 := hF2.b2.cell 0
  have y7 := hF2.b2.cell 1
  have y8 := hF2.b3.cell 0
  have y9 := hF2.b3.cell 1
  have yx := hF2.b3.cell 2
  simp only [List.getElem?_toArray, List.getElem?_cons_zero, List.getElem?_cons_succ] at y0 y1 y2 y3 y4 y5 y6 y7 y8 y9 yx
  have yu := hF2.b0.frozen
  have yv := hF2.b2.frozen
  have yw := hF2.b3.frozen
  go_wp2
  refine bodyPost_ret (v := .tuple #[.agg #[.slice none 0 0, .slice none 0 0], .agg #[.int .i64 0, .int .i64 0, .string ⟨#[]⟩], .int .i64 (Scu.opFault ⟨ki, a, m, d⟩)]) (by simp [results, Try.results21, go_sem, y6, y7, y8, y9, yx]) rfl ?_
  exact ⟨did_zero _ _ _, do_below hF2.low (by omega) (by omega) _ _ _ _ _⟩
end Go.Proofs.Ytioajgcbchdpeaa

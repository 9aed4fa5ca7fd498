/- ref.ReplicaOf, walked; the law ReplicaNews. -/
import Derived.Test.YtioajgcbchdpeaaNewR
namespace Go.Proofs.Ytioajgcbchdpeaa
open Go.RowKit
set_option maxHeartbeats 2000000
set_option maxRecDepth 100000

theorem forg_step {X : World} {g i : Nat} {cs : Array Value} (h : Blk X g 32 cs) (u : Value) (o : Obj) :
    Same [9, 3, 4, 28] 0 X ((X.setCell ⟨g, i, none⟩ u).alloc o) ∧ ∀ B, B ≤ g → Below B X ((X.setCell ⟨g, i, none⟩ u).alloc o) :=
  ⟨(Same.set_ h (Nat.zero_le _) (by decide) i u).trans (Same.alloc _ _), fun B hB => ((Below.refl B X).setCell (p := ⟨g, i, none⟩) hB u).alloc (by have := h.lt; simp [World.setCell]; omega) o⟩
/-- forgotten: four new rows behind the pointer; all else is as it was. -/
theorem forgotten_c (g : Nat) (v0 v1 v2 v3 v4 v5 v6 v7 v8 v9 : Value) (w : World) (hb : Blk w g 32 #[v0, v1, v2, v3, v4, v5, v6, v7, v8, v9]) :
    Calls Try.prog 66 #[.pointer (some ⟨g, 0, none⟩)] w fun e w' => e = .returned (.tuple #[]) ∧ (∃ hv wv gv nv, Blk w' g 32 #[v0, v1, v2, v3, v4, v5, hv, wv, gv, nv] ∧ IsOnes 3 8 vInt w' 0 hv [0, 0, 0] ∧ IsOnes 4 1 Value.bool w' 0 wv [false, false, false] ∧
      IsRow 28 5 56 KeptEl w' 0 gv [Scu.kept0, Scu.kept0, Scu.kept0] ∧ IsOnes 4 1 Value.bool w' 0 nv [false, false, false]) ∧ Same [9, 3, 4, 28] 0 w w' ∧ (∀ B, B ≤ g → Below B w w') := by
  have hmi := made_ints
  have hmb := made_bools
  have hmk := made_kepts
  go_enter Try.func66, Try.ntmps66
  have z0 := hb.cell 6
  simp only [List.getElem?_toArray, List.getElem?_cons_zero, List.getElem?_cons_succ] at z0
  have zz0 := hb.frozen
  have zl0 := hb.lt
  have HH0 := Lib.hid hb
  clear hb
  go_upto_region 1 with fail
  obtain ⟨y1, he0⟩ : ∃ W, W = (w.setCell ⟨g, 6, none⟩ (.slice (some ⟨w.heap.size, 0, none⟩) 3 3)).alloc (Obj.cells #[.int .i64 0, .int .i64 0, .int .i64 0] 3) := ⟨_, rfl⟩
  rw [← he0]
  have hb1 : Blk y1 g 32 #[v0, v1, v2, v3, v4, v5, (.slice (some ⟨w.heap.size, 0, none⟩) 3 3), v7, v8, v9] := by rw [he0]; exact (HH0.out.set_ 6 _).alloc _
  have hn1 : Blk y1 w.heap.size 3 #[.int .i64 0, .int .i64 0, .int .i64 0] := by rw [he0]; exact Blk.new' (by simp [World.setCell])
  have hs1 : Same [9, 3, 4, 28] 0 w y1 := by rw [he0]; exact (forg_step HH0.out _ _).1
  have hw1 : ∀ B, B ≤ g → Below B w y1 := by rw [he0]; exact (forg_step HH0.out _ _).2
  have r1 := ones_blk (bytes := 8) (f := vInt) (xs := [(0 : Int), 0, 0]) hn1 (by simp [R47])
  clear z0 zz0 zl0 he0
  have z1 := hb1.cell 7
  simp only [List.getElem?_toArray, List.getElem?_cons_zero, List.getElem?_cons_succ] at z1
  have zz1 := hb1.frozen
  have zl1 := hb1.lt
  have HH1 := Lib.hid hb1
  clear hb1
  go_upto_region 2 with fail
  obtain ⟨y2, he1⟩ : ∃ W, W = (y1.setCell ⟨g, 7, none⟩ (.slice (some ⟨y1.heap.size, 0, none⟩) 3 3)).alloc (Obj.cells #[.bool false, .bool false, .bool false] 4) := ⟨_, rfl⟩
  rw [← he1]
  have hb2 : Blk y2 g 32 #[v0, v1, v2, v3, v4, v5, (.slice (some ⟨w.heap.size, 0, none⟩) 3 3), (.slice (some ⟨y1.heap.size, 0, none⟩) 3 3), v8, v9] := by rw [he1]; exact (HH1.out.set_ 7 _).alloc _
  have hn2 : Blk y2 y1.heap.size 4 #[.bool false, .bool false, .bool false] := by rw [he1]; exact Blk.new' (by simp [World.setCell])
  have hs2 : Same [9, 3, 4, 28] 0 y1 y2 := by rw [he1]; exact (forg_step HH1.out _ _).1
  have hw2 : ∀ B, B ≤ g → Below B y1 y2 := by rw [he1]; exact (forg_step HH1.out _ _).2
  have r2 := ones_blk (bytes := 1) (f := Value.bool) (xs := [false, false, false]) hn2 (by simp [R47])
  clear z1 zz1 zl1 he1
  have z2 := hb2.cell 8
  simp only [List.getElem?_toArray, List.getElem?_cons_zero, List.getElem?_cons_succ] at z2
  have zz2 := hb2.frozen
  have zl2 := hb2.lt
  have HH2 := Lib.hid hb2
  clear hb2
  go_upto_region 3 with fail
  obtain ⟨y3, he2⟩ : ∃ W, W = (y2.setCell ⟨g, 8, none⟩ (.slice (some ⟨y2.heap.size, 0, none⟩) 3 3)).alloc (Obj.cells #[.int .i64 0, .int .i64 0, .bool false, .slice none 0 0, .int .i64 0, .int .i64 0, .int .i64 0, .bool false, .slice none 0 0, .int .i64 0, .int .i64 0, .int .i64 0, .bool false, .slice none 0 0, .int .i64 0] 28) := ⟨_, rfl⟩
  rw [← he2]
  have hb3 : Blk y3 g 32 #[v0, v1, v2, v3, v4, v5, (.slice (some ⟨w.heap.size, 0, none⟩) 3 3), (.slice (some ⟨y1.heap.size, 0, none⟩) 3 3), (.slice (some ⟨y2.heap.size, 0, none⟩) 3 3), v9] := by rw [he2]; exact (HH2.out.set_ 8 _).alloc _
  have hn3 : Blk y3 y2.heap.size 28 #[.int .i64 0, .int .i64 0, .bool false, .slice none 0 0, .int .i64 0, .int .i64 0, .int .i64 0, .bool false, .slice none 0 0, .int .i64 0, .int .i64 0, .int .i64 0, .bool false, .slice none 0 0, .int .i64 0] := by rw [he2]; exact Blk.new' (by simp [World.setCell])
  have hs3 : Same [9, 3, 4, 28] 0 y2 y3 := by rw [he2]; exact (forg_step HH2.out _ _).1
  have hw3 : ∀ B, B ≤ g → Below B y2 y3 := by rw [he2]; exact (forg_step HH2.out _ _).2
  have r3 := kepts_blk hn3
  clear z2 zz2 zl2 he2
  have z3 := hb3.cell 9
  simp only [List.getElem?_toArray, List.getElem?_cons_zero, List.getElem?_cons_succ] at z3
  have zz3 := hb3.frozen
  have zl3 := hb3.lt
  have HH3 := Lib.hid hb3
  clear hb3
  go_wp2
  obtain ⟨y4, he3⟩ : ∃ W, W = (y3.setCell ⟨g, 9, none⟩ (.slice (some ⟨y3.heap.size, 0, none⟩) 3 3)).alloc (Obj.cells #[.bool false, .bool false, .bool false] 4) := ⟨_, rfl⟩
  rw [← he3]
  have hb4 : Blk y4 g 32 #[v0, v1, v2, v3, v4, v5, (.slice (some ⟨w.heap.size, 0, none⟩) 3 3), (.slice (some ⟨y1.heap.size, 0, none⟩) 3 3), (.slice (some ⟨y2.heap.size, 0, none⟩) 3 3), (.slice (some ⟨y3.heap.size, 0, none⟩) 3 3)] := by rw [he3]; exact (HH3.out.set_ 9 _).alloc _
  have hn4 : Blk y4 y3.heap.size 4 #[.bool false, .bool false, .bool false] := by rw [he3]; exact Blk.new' (by simp [World.setCell])
  have hs4 : Same [9, 3, 4, 28] 0 y3 y4 := by rw [he3]; exact (forg_step HH3.out _ _).1
  have hw4 : ∀ B, B ≤ g → Below B y3 y4 := by rw [he3]; exact (forg_step HH3.out _ _).2
  have r4 := ones_blk (bytes := 1) (f := Value.bool) (xs := [false, false, false]) hn4 (by simp [R47])
  clear z3 zz3 zl3 he3
  go_end0
  refine ⟨rfl, ⟨_, _, _, _, hb4, ((r1.same (by simp) hs2).same (by simp) hs3).same (by simp) hs4, (r2.same (by simp) hs3).same (by simp) hs4, r3.same (by simp) hs4 (fun _ _ hk => hk.same (by simp) hs4), r4⟩, ((hs1.trans hs2).trans hs3).trans hs4, fun B hB => (((hw1 B hB).trans (hw2 B hB)).trans (hw3 B hB)).trans (hw4 B hB)⟩
theorem keptFaultN_a (lv : Value) (k : Scu.Kept) (w : World) (B : Nat) (hv : IsStrs w B lv k.log) (f : Int) (h : Scu.keptFault k = f) :
    Calls Try.prog 64 #[.agg #[.int .i64 k.view, .int .i64 k.normal, .bool k.calm, lv, .int .i64 k.commit]] w fun e w' => e = .returned (.int .i64 f) ∧ Below w.heap.size w w' := by
  have := keptFault_c lv k w B hv
  rw [h] at this
  exact this
theorem replOf_1 (A : Option Addr) (n c : Nat) (me : Int) (k : Scu.Kept) (w : World) (hm : me < 0 ∨ 3 ≤ me) :
    Calls Try.prog 25 #[.int .i64 me, .agg #[.int .i64 k.view, .int .i64 k.normal, .bool k.calm, .slice A n c, .int .i64 k.commit]] w fun e w' => NewRet w' Scu.replica0 2 e ∧ Below w.heap.size w w' := by
  have HIN := Lib.hid (show inB me 0 2 = false by simp only [inB, Bool.and_eq_false_iff, decide_eq_false_iff_not]; omega)
  have hb : Below w.heap.size w ((w.alloc (Obj.cells #[.int .i64 k.view, .int .i64 k.normal, .bool k.calm, .slice A n c, .int .i64 k.commit] 28)).alloc (Obj.cells #[.int .i64 0, .int .i64 0, .int .i64 0, .bool false, .slice none 0 0, .int .i64 0, .slice none 0 0, .slice none 0 0, .slice none 0 0, .slice none 0 0] 32)) := (below_alloc w _).alloc (by simp) _
  clear hm
  go_enter Try.func25, Try.ntmps25
  go_wp2_with fail
  refine (inn_c _ _ _ _).mono ?_; rintro en w' ⟨rfl, rfl⟩; rw [HIN.out]
  go_wp2
  refine bodyPost_ret (v := .tuple #[.agg #[.int .i64 0, .int .i64 0, .int .i64 0, .bool false, .slice none 0 0, .int .i64 0, .slice none 0 0, .slice none 0 0, .slice none 0 0, .slice none 0 0], .int .i64 2]) (by simp [results, Try.results25, go_sem]) rfl ?_
  exact ⟨new_zero _ _, hb⟩
theorem replOf_2 (A : Option Addr) (n c : Nat) (me : Int) (k : Scu.Kept) (w : World) (B : Nat) (hk : IsStrs w B (.slice A n c) k.log) (hm0 : 0 ≤ me) (hm : me < 3) (f : Int) (hf : Scu.keptFault k = f) (h0 : f ≠ 0) :
    Calls Try.prog 25 #[.int .i64 me, .agg #[.int .i64 k.view, .int .i64 k.normal, .bool k.calm, .slice A n c, .int .i64 k.commit]] w fun e w' => NewRet w' Scu.replica0 f e ∧ Below w.heap.size w w' := by
  have HIN := Lib.hid (show inB me 0 2 = true by simp only [inB, Bool.and_eq_true, decide_eq_true_eq]; omega)
  have HK := Lib.hid hk
  have HF := Lib.hid hf
  have hfb : (f != 0) = true := by simpa using h0
  clear hk hf h0
  go_enter Try.func25, Try.ntmps25
  go_wp2_with fail
  refine (inn_c _ _ _ _).mono ?_; rintro en w' ⟨rfl, rfl⟩; rw [HIN.out]
  have hb0 : Below w.heap.size w ((w.alloc (Obj.cells #[.int .i64 k.view, .int .i64 k.normal, .bool k.calm, .slice A n c, .int .i64 k.commit] 28)).alloc (Obj.cells #[.int .i64 0, .int .i64 0, .int .i64 0, .bool false, .slice none 0 0, .int .i64 0, .slice none 0 0, .slice none 0 0, .slice none 0 0, .slice none 0 0] 32)) := (below_alloc w _).alloc (by simp) _
  go_wp2_with fail
  refine (keptFaultN_a _ k _ B (HK.out.below hb0) f HF.out).mono ?_; rintro en w1 ⟨rfl, h1⟩
  have hz : Blk w1 (w.heap.size + 1) 32 #[.int .i64 0, .int .i64 0, .int .i64 0, .bool false, .slice none 0 0, .int .i64 0, .slice none 0 0, .slice none 0 0, .slice none 0 0, .slice none 0 0] := (Blk.new' (by simp)).same h1
  have hs : Blk w1 w.heap.size 28 #[.int .i64 k.view, .int .i64 k.normal, .bool k.calm, .slice A n c, .int .i64 k.commit] := ((Blk.new w _ _).alloc _).same h1
  have hb := hb0.trans (h1.mono hb0.size)
  clear h1 hb0
  have z0 := hz.cell 0
  have z1 := hz.cell 1
  have z2 := hz.cell 2
  have z3 := hz.cell 3
  have z4 := hz.cell 4
  have z5 := hz.cell 5
  have z6 := hz.cell 6
  have z7 := hz.cell 7
  have z8 := hz.cell 8
  have z9 := hz.cell 9
  simp only [List.getElem?_toArray, List.getElem?_cons_zero, List.getElem?_cons_succ] at z0 z1 z2 z3 z4 z5 z6 z7 z8 z9
  have zz := hz.frozen
  have zl := hz.lt
  have hr := blk_set10 (a0 := .int .i64 0) (a1 := .int .i64 0) (a2 := .int .i64 0) (a3 := .bool false) (a4 := .slice none 0 0) (a5 := .int .i64 0) (a6 := .slice none 0 0) (a7 := .slice none 0 0) (a8 := .slice none 0 0) (a9 := .slice none 0 0) hz
  have r0 := hr.cell 0
  have r1 := hr.cell 1
  have r2 := hr.cell 2
  have r3 := hr.cell 3
  have r4 := hr.cell 4
  have r5 := hr.cell 5
  have r6 := hr.cell 6
  have r7 := hr.cell 7
  have r8 := hr.cell 8
  have r9 := hr.cell 9
  simp only [List.getElem?_toArray, List.getElem?_cons_zero, List.getElem?_cons_succ] at r0 r1 r2 r3 r4 r5 r6 r7 r8 r9
  have rz := hr.frozen
  have rl := hr.lt
  clear hs
  go_wp2
  refine bodyPost_ret (v := .tuple #[.agg #[.int .i64 0, .int .i64 0, .int .i64 0, .bool false, .slice none 0 0, .int .i64 0, .slice none 0 0, .slice none 0 0, .slice none 0 0, .slice none 0 0], .int .i64 f]) (by simp [results, Try.results25, go_sem, r0, r1, r2, r3, r4, r5, r6, r7, r8, r9]) rfl ?_
  exact ⟨new_zero _ _, below_set10 hb (by omega)⟩
theorem replOf_3 (A : Option Addr) (n c : Nat) (me : Int) (k : Scu.Kept) (w : World) (B : Nat) (hk : IsStrs w B (.slice A n c) k.log) (hm0 : 0 ≤ me) (hm : me < 3) (hf : Scu.keptFault k = 0) :
    Calls Try.prog 25 #[.int .i64 me, .agg #[.int .i64 k.view, .int .i64 k.normal, .bool k.calm, .slice A n c, .int .i64 k.commit]] w fun e w' => NewRet w' ⟨me, k, [0, 0, 0], [false, false, false], [Scu.kept0, Scu.kept0, Scu.kept0], [false, false, false]⟩ 0 e ∧ Below w.heap.size w w' := by
  have HIN := Lib.hid (show inB me 0 2 = true by simp only [inB, Bool.and_eq_true, decide_eq_true_eq]; omega)
  have HK := Lib.hid hk
  have HF := Lib.hid hf
  clear hk hf
  go_enter Try.func25, Try.ntmps25
  go_wp2_with fail
  refine (inn_c _ _ _ _).mono ?_; rintro en w' ⟨rfl, rfl⟩; rw [HIN.out]
  have hb0 : Below w.heap.size w ((w.alloc (Obj.cells #[.int .i64 k.view, .int .i64 k.normal, .bool k.calm, .slice A n c, .int .i64 k.commit] 28)).alloc (Obj.cells #[.int .i64 0, .int .i64 0, .int .i64 0, .bool false, .slice none 0 0, .int .i64 0, .slice none 0 0, .slice none 0 0, .slice none 0 0, .slice none 0 0] 32)) := (below_alloc w _).alloc (by simp) _
  go_wp2_with fail
  refine (keptFaultN_a _ k _ B (HK.out.below hb0) 0 HF.out).mono ?_; rintro en w1 ⟨rfl, h1⟩
  have hz : Blk w1 (w.heap.size + 1) 32 #[.int .i64 0, .int .i64 0, .int .i64 0, .bool false, .slice none 0 0, .int .i64 0, .slice none 0 0, .slice none 0 0, .slice none 0 0, .slice none 0 0] := (Blk.new' (by simp)).same h1
  have hs : Blk w1 w.heap.size 28 #[.int .i64 k.view, .int .i64 k.normal, .bool k.calm, .slice A n c, .int .i64 k.commit] := ((Blk.new w _ _).alloc _).same h1
  have hb := hb0.trans (h1.mono hb0.size)
  clear h1 hb0
  have q0 := hs.cell 0
  have q1 := hs.cell 1
  have q2 := hs.cell 2
  have q3 := hs.cell 3
  have q4 := hs.cell 4
  simp only [List.getElem?_toArray, List.getElem?_cons_zero, List.getElem?_cons_succ] at q0 q1 q2 q3 q4
  have ql := hs.lt
  have HZ := Lib.hid hz
  have HB := Lib.hid hb
  clear hs hz hb
  go_wp2_with fail
  refine (keptCopy_c _ k _ B (HK.out.below HB.out)).mono ?_; rintro en w2 ⟨⟨lu, rfl, hu⟩, h2⟩
  obtain ⟨A5, n5, c5, rfl⟩ := hu.form
  go_upto_region 7 with fail
  obtain ⟨Wd, hWd⟩ : ∃ W, W = w2.alloc (Obj.cells #[.int .i64 me, .int .i64 k.view, .int .i64 k.normal, .bool k.calm, .slice A5 n5 c5, .int .i64 k.commit, .slice none 0 0, .slice none 0 0, .slice none 0 0, .slice none 0 0] 32) := ⟨_, rfl⟩
  rw [← hWd]
  have hbw : Below w2.heap.size w2 Wd := by rw [hWd]; exact below_alloc _ _
  have hn : Blk Wd w2.heap.size 32 #[.int .i64 me, .int .i64 k.view, .int .i64 k.normal, .bool k.calm, .slice A5 n5 c5, .int .i64 k.commit, .slice none 0 0, .slice none 0 0, .slice none 0 0, .slice none 0 0] := by rw [hWd]; exact Blk.new _ _ _
  have hz2 := (HZ.out.same h2).same hbw
  have hb2 := (HB.out.trans (h2.mono HB.out.size)).trans (hbw.mono (Nat.le_trans HB.out.size h2.size))
  have hu2 := hu.below hbw
  have h2s := h2.size
  have HN := Lib.hid hn
  have hzl := HZ.out.lt
  clear h2 hu hWd hn q0 q1 q2 q3 q4 ql
  go_wp2_with fail
  refine (forgotten_c w2.heap.size _ _ _ _ _ _ _ _ _ _ Wd HN.out).mono ?_; rintro en w3 ⟨rfl, ⟨hv, wv, gv, nv, hB, f1, f2, f3, f4⟩, hsm, hbl⟩
  have hR : IsRep w3 0 (.slice A5 n5 c5) hv wv gv nv ⟨me, k, [0, 0, 0], [false, false, false], [Scu.kept0, Scu.kept0, Scu.kept0], [false, false, false]⟩ := ⟨(hu2.same (hsm.mono (by simp) (Nat.le_refl _))).is, f1, f2, f3, f4⟩
  have hz3 : Blk w3 (w.heap.size + 1) 32 #[.int .i64 0, .int .i64 0, .int .i64 0, .bool false, .slice none 0 0, .int .i64 0, .slice none 0 0, .slice none 0 0, .slice none 0 0, .slice none 0 0] := hz2.below (hbl w2.heap.size (Nat.le_refl _)) (by omega)
  have hb3 := hb2.trans (hbl w.heap.size (by omega))
  have o0 := hB.cell 0
  have o1 := hB.cell 1
  have o2 := hB.cell 2
  have o3 := hB.cell 3
  have o4 := hB.cell 4
  have o5 := hB.cell 5
  have o6 := hB.cell 6
  have o7 := hB.cell 7
  have o8 := hB.cell 8
  have o9 := hB.cell 9
  simp only [List.getElem?_toArray, List.getElem?_cons_zero, List.getElem?_cons_succ] at o0 o1 o2 o3 o4 o5 o6 o7 o8 o9
  have oz := hB.frozen
  have ol := hB.lt
  have z0 := hz3.cell 0
  have z1 := hz3.cell 1
  have z2 := hz3.cell 2
  have z3 := hz3.cell 3
  have z4 := hz3.cell 4
  have z5 := hz3.cell 5
  have z6 := hz3.cell 6
  have z7 := hz3.cell 7
  have z8 := hz3.cell 8
  have z9 := hz3.cell 9
  simp only [List.getElem?_toArray, List.getElem?_cons_zero, List.getElem?_cons_succ] at z0 z1 z2 z3 z4 z5 z6 z7 z8 z9
  have zz := hz3.frozen
  have zl := hz3.lt
  have hr := blk_set10 (a0 := .int .i64 me) (a1 := .int .i64 k.view) (a2 := .int .i64 k.normal) (a3 := .bool k.calm) (a4 := .slice A5 n5 c5) (a5 := .int .i64 k.commit) (a6 := hv) (a7 := wv) (a8 := gv) (a9 := nv) hz3
  have r0 := hr.cell 0
  have r1 := hr.cell 1
  have r2 := hr.cell 2
  have r3 := hr.cell 3
  have r4 := hr.cell 4
  have r5 := hr.cell 5
  have r6 := hr.cell 6
  have r7 := hr.cell 7
  have r8 := hr.cell 8
  have r9 := hr.cell 9
  simp only [List.getElem?_toArray, List.getElem?_cons_zero, List.getElem?_cons_succ] at r0 r1 r2 r3 r4 r5 r6 r7 r8 r9
  have rz := hr.frozen
  have rl := hr.lt
  have HR := Lib.hid (hR.same (Same.sets10 (a0 := .int .i64 me) (a1 := .int .i64 k.view) (a2 := .int .i64 k.normal) (a3 := .bool k.calm) (a4 := .slice A5 n5 c5) (a5 := .int .i64 k.commit) (a6 := hv) (a7 := wv) (a8 := gv) (a9 := nv) hz3 (Nat.zero_le _) (by decide)))
  have HB3 := Lib.hid (below_set10 (a0 := .int .i64 me) (a1 := .int .i64 k.view) (a2 := .int .i64 k.normal) (a3 := .bool k.calm) (a4 := .slice A5 n5 c5) (a5 := .int .i64 k.commit) (a6 := hv) (a7 := wv) (a8 := gv) (a9 := nv) hb3 (Nat.le_succ w.heap.size))
  obtain ⟨A6, n6, c6, rfl⟩ := f1.form
  obtain ⟨A7, n7, c7, rfl⟩ := f2.form
  obtain ⟨A8, n8, c8, rfl⟩ := f3.form
  obtain ⟨A9, n9, c9, rfl⟩ := f4.form
  clear f1 f2 f3 f4 hR hz3 hb3 hr hB hsm hbl hz2 hb2 hu2 HN hbw
  go_wp2
  refine bodyPost_ret (v := .tuple #[.agg #[.int .i64 me, .int .i64 k.view, .int .i64 k.normal, .bool k.calm, .slice A5 n5 c5, .int .i64 k.commit, .slice A6 n6 c6, .slice A7 n7 c7, .slice A8 n8 c8, .slice A9 n9 c9], .int .i64 0]) (by simp [results, Try.results25, go_sem, r0, r1, r2, r3, r4, r5, r6, r7, r8, r9]) rfl ?_
  exact ⟨⟨_, _, _, _, _, rfl, HR.out⟩, HB3.out⟩
theorem replOf_c (lv : Value) (me : Int) (k : Scu.Kept) (w : World) (B : Nat) (hk : IsStrs w B lv k.log) :
    Calls Try.prog 25 #[.int .i64 me, .agg #[.int .i64 k.view, .int .i64 k.normal, .bool k.calm, lv, .int .i64 k.commit]] w fun e w' => NewRet w' (Scu.repNew me k).1 (Scu.repNew me k).2 e ∧ Below w.heap.size w w' := by
  obtain ⟨A, n, c, rfl⟩ := hk.form
  by_cases hm : me < 0 ∨ 3 ≤ me
  · rw [nw1 hm]
    exact replOf_1 A n c me k w hm
  by_cases hf : Scu.keptFault k ≠ 0
  · rw [nw2 hm hf]
    exact replOf_2 A n c me k w B hk (by omega) (by omega) _ rfl hf
  · rw [nw3 hm hf]
    exact replOf_3 A n c me k w B hk (by omega) (by omega) (Decidable.not_not.1 hf)
theorem repNew_a (lv : Value) (me : Int) (k : Scu.Kept) (w : World) (B : Nat) (hk : IsStrs w B lv k.log) (r : Scu.Replica) (c : Int) (h : Scu.repNew me k = (r, c)) :
    Calls Try.prog 24 #[.int .i64 me, .agg #[.int .i64 k.view, .int .i64 k.normal, .bool k.calm, lv, .int .i64 k.commit]] w fun e w' => NewRet w' r c e ∧ Below w.heap.size w w' := by
  have := repNew_c lv me k w B hk
  rw [h] at this
  exact this
theorem replOf_a (lv : Value) (me : Int) (k : Scu.Kept) (w : World) (B : Nat) (hk : IsStrs w B lv k.log) (r : Scu.Replica) (c : Int) (h : Scu.repNew me k = (r, c)) :
    Calls Try.prog 25 #[.int .i64 me, .agg #[.int .i64 k.view, .int .i64 k.normal, .bool k.calm, lv, .int .i64 k.commit]] w fun e w' => NewRet w' r c e ∧ Below w.heap.size w w' := by
  have := replOf_c lv me k w B hk
  rw [h] at this
  exact this
theorem lawReplicaNews_w (me : Int) (_ : (Lit.int .i64 me).wf = true) (v : Value) (k : Scu.Kept) {w : World} (h : IsKeptV w v k) (W : World) (hW : W = w) :
    Calls Try.prog 6 #[.int .i64 me, v] W fun e w' => e = .returned (.bool true) ∧ Below W.heap.size W w' := by
  subst hW
  obtain ⟨lv, rfl, hk⟩ := h
  obtain ⟨A, n, c, rfl⟩ := hk.form
  obtain ⟨q, hq⟩ : ∃ q, Scu.repNew me k = q := ⟨_, rfl⟩
  obtain ⟨r, f⟩ := q
  have HQ := Lib.hid hq
  have HK := Lib.hid hk
  clear hq hk
  go_enter Try.func6, Try.ntmps6
  go_wp2_with fail
  have h0 := below_alloc W (Obj.cells #[.int .i64 k.view, .int .i64 k.normal, .bool k.calm, .slice A n c, .int .i64 k.commit] 28)
  refine (repNew_a _ me k _ W.heap.size (HK.out.below h0) r f HQ.out).mono ?_; rintro en w1 ⟨⟨lu, hv, wv, gv, nv, rfl, hu⟩, h1⟩
  obtain ⟨E0, m0, d0, E1, d1, E2, d2, E3, d3, E4, d4, rfl, rfl, rfl, rfl, rfl⟩ := hu.forms
  have hb : Blk w1 W.heap.size 28 #[.int .i64 k.view, .int .i64 k.normal, .bool k.calm, .slice A n c, .int .i64 k.commit] := (Blk.new W _ _).same h1
  have h01 := h0.trans (h1.mono h0.size)
  have q0 := hb.cell 0
  have q1 := hb.cell 1
  have q2 := hb.cell 2
  have q3 := hb.cell 3
  have q4 := hb.cell 4
  simp only [List.getElem?_toArray, List.getElem?_cons_zero, List.getElem?_cons_succ] at q0 q1 q2 q3 q4
  have ql := hb.lt
  have HU := Lib.hid hu
  have H1 := Lib.hid h01
  clear hb hu h0 h1 h01
  go_wp2_with fail
  have h2 := below_alloc w1 (Obj.cells #[.int .i64 r.me, .int .i64 r.kept.view, .int .i64 r.kept.normal, .bool r.kept.calm, .slice E0 m0 d0, .int .i64 r.kept.commit, .slice E1 r.have_.length d1, .slice E2 r.wants.length d2, .slice E3 r.gives.length d3, .slice E4 r.given.length d4] 32)
  refine (replOf_a _ me k _ W.heap.size (HK.out.below (H1.out.trans (h2.mono H1.out.size))) r f HQ.out).mono ?_; rintro en w2 ⟨⟨lu2, hv2, wv2, gv2, nv2, rfl, hu2⟩, h3⟩
  obtain ⟨A0, n0, c0, A1, c1, A2, c2, A3, c3, A4, c4, rfl, rfl, rfl, rfl, rfl⟩ := hu2.forms
  have hy : Blk w2 w1.heap.size 32 #[.int .i64 r.me, .int .i64 r.kept.view, .int .i64 r.kept.normal, .bool r.kept.calm, .slice E0 m0 d0, .int .i64 r.kept.commit, .slice E1 r.have_.length d1, .slice E2 r.wants.length d2, .slice E3 r.gives.length d3, .slice E4 r.given.length d4] := (Blk.new w1 _ _).same h3
  have h23 := h2.trans (h3.mono h2.size)
  have y0 := hy.cell 0
  have y1 := hy.cell 1
  have y2 := hy.cell 2
  have y3 := hy.cell 3
  have y4 := hy.cell 4
  have y5 := hy.cell 5
  have y6 := hy.cell 6
  have y7 := hy.cell 7
  have y8 := hy.cell 8
  have y9 := hy.cell 9
  simp only [List.getElem?_toArray, List.getElem?_cons_zero, List.getElem?_cons_succ] at y0 y1 y2 y3 y4 y5 y6 y7 y8 y9
  have yz := hy.frozen
  have yl := hy.lt
  have HU1 := Lib.hid (HU.out.below h23)
  have HU2 := Lib.hid hu2
  have H2 := Lib.hid (H1.out.trans (h23.mono H1.out.size))
  clear hy hu2 h2 h3 h23 q0 q1 q2 q3 q4 ql
  go_wp2_with fail
  have h4 := below_alloc w2 (Obj.cells #[.int .i64 r.me, .int .i64 r.kept.view, .int .i64 r.kept.normal, .bool r.kept.calm, .slice A0 n0 c0, .int .i64 r.kept.commit, .slice A1 r.have_.length c1, .slice A2 r.wants.length c2, .slice A3 r.gives.length c3, .slice A4 r.given.length c4] 32)
  refine (sameRep_t E0 m0 d0 E1 d1 E2 d2 E3 d3 E4 d4 A0 n0 c0 A1 c1 A2 c2 A3 c3 A4 c4 r _ 0 0 (HU1.out.below h4) (HU2.out.below h4)).mono ?_; rintro e w3 ⟨rfl, h5⟩
  have h6 := H2.out.trans ((h4.trans (h5.mono h4.size)).mono H2.out.size)
  go_wp2
  go_ret
  exact ⟨by simp, h6⟩
end Go.Proofs.Ytioajgcbchdpeaa

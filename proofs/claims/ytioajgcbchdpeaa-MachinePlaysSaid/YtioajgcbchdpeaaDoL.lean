/- ref.DidOf: all its kinds joined; the law VolumeDoes, walked. -/
import Derived.Test.YtioajgcbchdpeaaVolD
import Derived.Test.YtioajgcbchdpeaaDidA
import Derived.Test.YtioajgcbchdpeaaDidW
import Derived.Test.YtioajgcbchdpeaaDidR
import Derived.Test.YtioajgcbchdpeaaDidT
import Derived.Test.YtioajgcbchdpeaaDidS
import Derived.Test.YtioajgcbchdpeaaDidP
import Derived.Test.YtioajgcbchdpeaaEq
import Derived.Test.YtioajgcbchdpeaaOpenV
namespace Go.Proofs.Ytioajgcbchdpeaa
open Go.RowKit
set_option maxHeartbeats 1000000
set_option maxRecDepth 100000

theorem didOf_c (nv sv : Value) (x : Scu.Volume) (ki a m : Int) (d : Scu.Str) (w : World) (B : Nat) (hv : IsVolume w B nv sv x) :
    Calls Try.prog 22 #[.agg #[nv, sv], .agg #[.int .i64 ki, .int .i64 a, .int .i64 m, .string d]] w fun e w' => DidRet w' w.heap.size (Scu.volDo x ⟨ki, a, m, d⟩) e ∧ Below w.heap.size w w' := by
  obtain ⟨A0, n0, c0, rfl⟩ := hv.now.form
  obtain ⟨A1, n1, c1, rfl⟩ := hv.snaps.form
  by_cases hf : Scu.volFault x ≠ 0
  · rw [vd1 hf]
    exact didOf_e1 A0 n0 c0 A1 n1 c1 x ki a m d w B hv hf
  by_cases ho : Scu.opFault ⟨ki, a, m, d⟩ ≠ 0
  · rw [vd2 hf ho]
    exact didOf_e2 A0 n0 c0 A1 n1 c1 x ki a m d w B hv hf ho
  rw [vd3 hf ho]
  obtain ⟨k0, k1, a0, a1, m0, m1, hd8, hsn, hat, hdt⟩ := Scu.opFault_ok (Decidable.not_not.1 ho)
  have hl6 := (volFault_ok hf).1
  have hs3 := (volFault_ok hf).2.1
  simp only at k0 k1 a0 a1 m0 m1 hd8 hsn hat hdt
  obtain ⟨an, rfl⟩ := Int.eq_ofNat_of_zero_le a0
  have hd : d.size ≤ R47 := by unfold R47; omega
  have ha6 : an < 6 := by omega
  have hkind : (ki = 1 ∨ ki = 2) ∨ ki = 3 ∨ ki = 4 := by omega
  rcases hkind with hw | rfl | rfl
  · obtain rfl : m = 0 := hsn (by omega)
    have hd' : Scu.doIt x ⟨ki, an, 0, d⟩ = (⟨x.now.set an d, x.snaps⟩, Scu.reply0) := by unfold Scu.doIt; rw [if_pos hw]; rfl
    rw [hd']
    rcases hw with rfl | rfl
    · exact didOf_w1 A0 n0 c0 A1 n1 c1 x an d w B hv hf ho ha6 hd
    · have hde : d = ⟨#[]⟩ := hdt (by omega)
      subst hde
      exact didOf_w2 A0 n0 c0 A1 n1 c1 x an w B hv hf ho ha6
  · by_cases hm : m = 0
    · subst hm
      have hd' : Scu.doIt x ⟨3, an, 0, d⟩ = (x, ⟨0, 0, x.now.getD an Scu.str0⟩) := by
        unfold Scu.doIt
        rw [if_neg (by simp), if_neg (by simp), if_pos rfl]
        rfl
      rw [hd']
      exact didOf_r0 A0 n0 c0 A1 n1 c1 x an d w B hv hf ho ha6
    · obtain ⟨sn, rfl⟩ : ∃ sn : Nat, m = (sn : Int) + 1 := ⟨(m - 1).toNat, by omega⟩
      by_cases hgt : x.snaps.length < sn + 1
      · have hd' : Scu.doIt x ⟨3, an, (sn : Int) + 1, d⟩ = (x, ⟨6, 0, Scu.str0⟩) := by
          unfold Scu.doIt
          rw [if_neg (by simp), if_neg (by simp), if_neg (by simp only []; omega), if_pos (by simp only []; omega)]
          rfl
        rw [hd']
        exact didOf_r6 A0 n0 c0 A1 n1 c1 x an sn d w B hv hf ho ha6 hgt
      · have hd' : Scu.doIt x ⟨3, an, (sn : Int) + 1, d⟩ = (x, ⟨0, 0, (x.snaps.getD sn []).getD an Scu.str0⟩) := by
          unfold Scu.doIt
          rw [if_neg (by simp), if_neg (by simp), if_neg (by simp only []; omega), if_neg (by simp only []; omega)]
          have e1 : ((sn : Int) + 1 - 1).toNat = sn := by omega
          simp only [Int.toNat_natCast, e1]
          rfl
        rw [hd']
        exact didOf_rs A0 n0 c0 A1 n1 c1 x an sn d w B hv hf ho ha6 (by omega)
  · obtain rfl : m = 0 := hsn (by omega)
    obtain rfl : an = 0 := by have := hat rfl; omega
    by_cases h3 : x.snaps.length = 3
    · have hd' : Scu.doIt x ⟨4, (0 : Nat), 0, d⟩ = (x, ⟨7, 0, Scu.str0⟩) := by
        unfold Scu.doIt
        rw [if_neg (by simp), if_pos rfl, if_pos h3]
        rfl
      rw [hd']
      exact didOf_s7 A0 n0 c0 A1 n1 c1 x d w B hv hf ho h3
    · have hd' : Scu.doIt x ⟨4, (0 : Nat), 0, d⟩ = (⟨x.now, x.snaps ++ [x.now]⟩, ⟨0, (x.snaps.length : Int) + 1, Scu.str0⟩) := by
        unfold Scu.doIt
        rw [if_neg (by simp), if_pos rfl, if_neg h3]
        rfl
      rw [hd']
      exact didOf_sn A0 n0 c0 A1 n1 c1 x d w B hv hf ho (by omega)
def DidRetA (w : World) (base : Nat) (y : Scu.Volume) (rc rn : Int) (rd : Scu.Str) (qe : Int) (e : Ending) : Prop :=
  ∃ nu su, e = .returned (.tuple #[.agg #[nu, su], .agg #[.int .i64 rc, .int .i64 rn, .string rd], .int .i64 qe]) ∧ OwnVol w base nu su y
theorem volDo_a (nv sv : Value) (x : Scu.Volume) (ki a m : Int) (d : Scu.Str) (w : World) (B : Nat) (hv : IsVolume w B nv sv x) (y : Scu.Volume) (rc rn : Int) (rd : Scu.Str) (qe : Int) (h : Scu.volDo x ⟨ki, a, m, d⟩ = (y, ⟨rc, rn, rd⟩, qe)) :
    Calls Try.prog 21 #[.agg #[nv, sv], .agg #[.int .i64 ki, .int .i64 a, .int .i64 m, .string d]] w fun e w' => DidRetA w' w.heap.size y rc rn rd qe e ∧ Below w.heap.size w w' := by
  have := volDo_c nv sv x ki a m d w B hv
  rw [h] at this
  exact this
theorem didOf_a (nv sv : Value) (x : Scu.Volume) (ki a m : Int) (d : Scu.Str) (w : World) (B : Nat) (hv : IsVolume w B nv sv x) (y : Scu.Volume) (rc rn : Int) (rd : Scu.Str) (qe : Int) (h : Scu.volDo x ⟨ki, a, m, d⟩ = (y, ⟨rc, rn, rd⟩, qe)) :
    Calls Try.prog 22 #[.agg #[nv, sv], .agg #[.int .i64 ki, .int .i64 a, .int .i64 m, .string d]] w fun e w' => DidRetA w' w.heap.size y rc rn rd qe e ∧ Below w.heap.size w w' := by
  have := didOf_c nv sv x ki a m d w B hv
  rw [h] at this
  exact this
theorem run_eql_reply_same (rc rn : Int) (rd : Scu.Str) (W : World) : (binOp .eql 43 (.agg #[.int .i64 rc, .int .i64 rn, .string rd]) (.agg #[.int .i64 rc, .int .i64 rn, .string rd])).run Try.prog W = .ok (.bool true) W := by
  have := run_eql_reply ⟨rc, rn, rd⟩ ⟨rc, rn, rd⟩ W
  simpa using this
theorem lawVolumeDoes_c (nv sv : Value) (x : Scu.Volume) (ki a m : Int) (d : Scu.Str) (w : World) (B : Nat) (hv : IsVolume w B nv sv x) :
    Calls Try.prog 5 #[.agg #[nv, sv], .agg #[.int .i64 ki, .int .i64 a, .int .i64 m, .string d]] w fun e w' => e = .returned (.bool true) ∧ Below w.heap.size w w' := by
  obtain ⟨A0, n0, c0, rfl⟩ := hv.now.form
  obtain ⟨A1, n1, c1, rfl⟩ := hv.snaps.form
  have HV := Lib.hid hv
  clear hv
  obtain ⟨q, hq⟩ : ∃ q, Scu.volDo x ⟨ki, a, m, d⟩ = q := ⟨_, rfl⟩
  obtain ⟨y, ⟨rc, rn, rd⟩, qe⟩ := q
  have HQ := Lib.hid hq
  clear hq
  have heq := run_eql_reply_same rc rn rd
  go_enter Try.func5, Try.ntmps5
  go_wp2_with fail
  have h0 : Below w.heap.size w ((w.alloc (Obj.cells #[.slice A0 n0 c0, .slice A1 n1 c1] 38)).alloc (Obj.cells #[.int .i64 ki, .int .i64 a, .int .i64 m, .string d] 40)) := (below_alloc w _).alloc (by simp) _
  refine (copyRef_c _ _ x _ B (HV.out.below h0)).mono ?_; rintro e w1 ⟨⟨nu, su, rfl, hu⟩, h1⟩
  obtain ⟨A2, n2, c2, rfl⟩ := hu.is.now.form
  obtain ⟨A3, n3, c3, rfl⟩ := hu.is.snaps.form
  have h01 : Below w.heap.size w w1 := h0.trans (h1.mono h0.size)
  have hb0 : Blk w1 w.heap.size 38 #[.slice A0 n0 c0, .slice A1 n1 c1] := ((Blk.new w _ _).alloc _).same h1
  have hb1 : Blk w1 (w.heap.size + 1) 40 #[.int .i64 ki, .int .i64 a, .int .i64 m, .string d] := (Blk.new' (by simp)).same h1
  have l0 := hb0.lt
  have l1 := hb1.lt
  have p0 := hb1.cell 0
  have p1 := hb1.cell 1
  have p2 := hb1.cell 2
  have p3 := hb1.cell 3
  simp only [List.getElem?_toArray, List.getElem?_cons_zero, List.getElem?_cons_succ] at p0 p1 p2 p3
  have HB := Lib.hid (And.intro hb0 (And.intro hb1 h01))
  have HU := Lib.hid hu
  clear h0 h1 h01 hb0 hb1 hu
  go_wp2_with fail
  refine (volDo_a _ _ x ki a m d _ 0 (HU.out.is.alloc _) y rc rn rd qe HQ.out).mono ?_; rintro e w2 ⟨⟨na, sa, rfl, ha⟩, h2⟩
  obtain ⟨A4, n4, c4, rfl⟩ := ha.is.now.form
  obtain ⟨A5, n5, c5, rfl⟩ := ha.is.snaps.form
  have h12 : Below w1.heap.size w1 w2 := (below_alloc w1 _).trans (h2.mono (by simp))
  have hk2 : Blk w2 w1.heap.size 38 #[.slice A2 n2 c2, .slice A3 n3 c3] := (Blk.new w1 _ _).same h2
  have hb0 := HB.out.1.same h12
  have hb1 := HB.out.2.1.same h12
  have h02 := HB.out.2.2.trans (h12.mono HB.out.2.2.size)
  have hu2 := HU.out.below h12
  have l2 := hk2.lt
  have l0' : w.heap.size < w2.heap.size := hb0.lt
  have l1' : w.heap.size + 1 < w2.heap.size := hb1.lt
  clear p0 p1 p2 p3
  have p0 := hb0.cell 0
  have p1 := hb0.cell 1
  simp only [List.getElem?_toArray, List.getElem?_cons_zero, List.getElem?_cons_succ] at p0 p1
  have q0 := hb1.cell 0
  have q1 := hb1.cell 1
  have q2 := hb1.cell 2
  have q3 := hb1.cell 3
  simp only [List.getElem?_toArray, List.getElem?_cons_zero, List.getElem?_cons_succ] at q0 q1 q2 q3
  have HB2 := Lib.hid (And.intro hb0 (And.intro hk2 h02))
  have HU2 := Lib.hid hu2
  have HA := Lib.hid ha
  clear HB HU h2 h12 hk2 hb0 hb1 h02 hu2 ha
  go_wp2_with fail
  have h0 : Below w2.heap.size w2 ((w2.alloc (Obj.cells #[.slice A4 n4 c4, .slice A5 n5 c5] 38)).alloc (Obj.cells #[.int .i64 rc, .int .i64 rn, .string rd] 43)) := (below_alloc w2 _).alloc (by simp) _
  refine (didOf_a _ _ x ki a m d _ B (HV.out.below (HB2.out.2.2.trans (h0.mono HB2.out.2.2.size))) y rc rn rd qe HQ.out).mono ?_; rintro e w3 ⟨⟨nb, sb, rfl, hb⟩, h3⟩
  obtain ⟨A6, n6, c6, rfl⟩ := hb.is.now.form
  obtain ⟨A7, n7, c7, rfl⟩ := hb.is.snaps.form
  have h23 : Below w2.heap.size w2 w3 := h0.trans (h3.mono (by simp; omega))
  have hy3 : Blk w3 (w2.heap.size + 1) 43 #[.int .i64 rc, .int .i64 rn, .string rd] := (Blk.new' (by simp)).same h3
  have ha3 : Blk w3 w2.heap.size 38 #[.slice A4 n4 c4, .slice A5 n5 c5] := ((Blk.new w2 _ _).alloc _).same h3
  have hb0 := HB2.out.1.same h23
  have hk3 := HB2.out.2.1.same h23
  have h03 := HB2.out.2.2.trans (h23.mono HB2.out.2.2.size)
  have hu3 := HU2.out.below h23
  have hA3 := HA.out.below h23
  clear p0 p1 q0 q1 q2 q3
  have p0 := hy3.cell 0
  have p1 := hy3.cell 1
  have p2 := hy3.cell 2
  simp only [List.getElem?_toArray, List.getElem?_cons_zero, List.getElem?_cons_succ] at p0 p1 p2
  have q0 := ha3.cell 0
  have q1 := ha3.cell 1
  simp only [List.getElem?_toArray, List.getElem?_cons_zero, List.getElem?_cons_succ] at q0 q1
  have m0 := hb0.lt
  have m1 := hk3.lt
  have m2 := hy3.lt
  have m3 := ha3.lt
  have HB3 := Lib.hid (And.intro hb0 (And.intro hk3 h03))
  have HU3 := Lib.hid hu3
  have HA3 := Lib.hid hA3
  have HBV := Lib.hid hb
  clear HB2 HU2 HA h0 h3 h23 hy3 ha3 hb0 hk3 h03 hu3 hA3 hb
  go_wp2_with fail
  have h0 : Below w3.heap.size w3 ((w3.alloc (Obj.cells #[.slice A6 n6 c6, .slice A7 n7 c7] 38)).alloc (Obj.cells #[.int .i64 rc, .int .i64 rn, .string rd] 43)) := (below_alloc w3 _).alloc (by simp) _
  refine (sameVolume_c _ _ _ _ y y _ 0 0 (HA3.out.is.below h0) (HBV.out.is.below h0)).mono ?_; rintro e w4 ⟨rfl, h4⟩
  have h34 : Below w3.heap.size w3 w4 := h0.trans (h4.mono (by simp; omega))
  have hb0 := HB3.out.1.same h34
  have hk4 := HB3.out.2.1.same h34
  have h04 := HB3.out.2.2.trans (h34.mono HB3.out.2.2.size)
  have m4 := hb0.lt
  have m5 := hk4.lt
  clear p0 p1 p2 q0 q1
  have p0 := hb0.cell 0
  have p1 := hb0.cell 1
  simp only [List.getElem?_toArray, List.getElem?_cons_zero, List.getElem?_cons_succ] at p0 p1
  have q0 := hk4.cell 0
  have q1 := hk4.cell 1
  simp only [List.getElem?_toArray, List.getElem?_cons_zero, List.getElem?_cons_succ] at q0 q1
  have H4 := Lib.hid (And.intro h34 h04)
  clear HB3 h0 h4 h34 hb0 hk4 h04
  simp only [decide_true]
  go_wp2_with fail
  refine (sameVolume_c _ _ _ _ x x _ 0 B (HU3.out.is.below H4.out.1) (HV.out.below H4.out.2)).mono ?_; rintro e w5 ⟨rfl, h5⟩
  go_wp2
  go_ret
  exact ⟨by simp, H4.out.2.trans (h5.mono H4.out.2.size)⟩
theorem lawVolumeDoes_w (v : Value) (x : Scu.Volume) {w : World} (h : IsVolV w v x) (u : Value) (o : Scu.Op) (hu : u = vOp o) (W : World) (hW : W = w) :
    Calls Try.prog 5 #[v, u] W fun e w' => e = .returned (.bool true) ∧ Below W.heap.size W w' := by
  subst hW
  subst hu
  obtain ⟨nv, sv, rfl, hv⟩ := h
  exact lawVolumeDoes_c nv sv x o.kind o.at_ o.snap o.data W _ hv
end Go.Proofs.Ytioajgcbchdpeaa

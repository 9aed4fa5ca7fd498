/- volume.Do: all its kinds joined. -/
import Derived.Test.YtioajgcbchdpeaaVolDa
import Derived.Test.YtioajgcbchdpeaaVolDw
import Derived.Test.YtioajgcbchdpeaaVolDr
import Derived.Test.YtioajgcbchdpeaaVolDt
import Derived.Test.YtioajgcbchdpeaaVolDs
import Derived.Test.YtioajgcbchdpeaaVolDp
namespace Go.Proofs.Ytioajgcbchdpeaa
open Go.RowKit
set_option maxHeartbeats 400000
set_option maxRecDepth 100000

theorem volDo_c (nv sv : Value) (x : Scu.Volume) (ki a m : Int) (d : Scu.Str) (w : World) (B : Nat) (hv : IsVolume w B nv sv x) :
    Calls Try.prog 21 #[.agg #[nv, sv], .agg #[.int .i64 ki, .int .i64 a, .int .i64 m, .string d]] w fun e w' => DidRet w' w.heap.size (Scu.volDo x ⟨ki, a, m, d⟩) e ∧ Below w.heap.size w w' := by
  obtain ⟨A0, n0, c0, rfl⟩ := hv.now.form
  obtain ⟨A1, n1, c1, rfl⟩ := hv.snaps.form
  by_cases hf : Scu.volFault x ≠ 0
  · rw [vd1 hf]
    exact volDo_e1 A0 n0 c0 A1 n1 c1 x ki a m d w B hv hf
  by_cases ho : Scu.opFault ⟨ki, a, m, d⟩ ≠ 0
  · rw [vd2 hf ho]
    exact volDo_e2 A0 n0 c0 A1 n1 c1 x ki a m d w B hv hf ho
  rw [vd3 hf ho]
  obtain ⟨k0, k1, a0, a1, m0, m1, hd8, hsn, hat, hdt⟩ := Scu.opFault_ok (Decidable.not_not.1 ho)
  have hl6 := (volFault_ok hf).1
  have hs3 := (volFault_ok hf).2.1
  simp only at k0 k1 a0 a1 m0 m1 hd8 hsn hat
  obtain ⟨an, rfl⟩ := Int.eq_ofNat_of_zero_le a0
  have hd : d.size ≤ R47 := by unfold R47; omega
  have ha6 : an < 6 := by omega
  have hkind : (ki = 1 ∨ ki = 2) ∨ ki = 3 ∨ ki = 4 := by omega
  rcases hkind with hw | rfl | rfl
  · obtain rfl : m = 0 := hsn (by omega)
    have hd' : Scu.doIt x ⟨ki, an, 0, d⟩ = (⟨x.now.set an d, x.snaps⟩, Scu.reply0) := by unfold Scu.doIt; rw [if_pos hw]; rfl
    rw [hd']
    rcases hw with rfl | rfl
    · exact volDo_w1 A0 n0 c0 A1 n1 c1 x an d w B hv hf ho ha6 hd
    · exact volDo_w2 A0 n0 c0 A1 n1 c1 x an d w B hv hf ho ha6 hd
  · by_cases hm : m = 0
    · subst hm
      have hd' : Scu.doIt x ⟨3, an, 0, d⟩ = (x, ⟨0, 0, x.now.getD an Scu.str0⟩) := by
        unfold Scu.doIt
        rw [if_neg (by simp), if_neg (by simp), if_pos rfl]
        rfl
      rw [hd']
      exact volDo_r0 A0 n0 c0 A1 n1 c1 x an d w B hv hf ho ha6
    · obtain ⟨sn, rfl⟩ : ∃ sn : Nat, m = (sn : Int) + 1 := ⟨(m - 1).toNat, by omega⟩
      by_cases hgt : x.snaps.length < sn + 1
      · have hd' : Scu.doIt x ⟨3, an, (sn : Int) + 1, d⟩ = (x, ⟨6, 0, Scu.str0⟩) := by
          unfold Scu.doIt
          rw [if_neg (by simp), if_neg (by simp), if_neg (by simp only []; omega), if_pos (by simp only []; omega)]
          rfl
        rw [hd']
        exact volDo_r6 A0 n0 c0 A1 n1 c1 x an sn d w B hv hf ho ha6 hgt
      · have hd' : Scu.doIt x ⟨3, an, (sn : Int) + 1, d⟩ = (x, ⟨0, 0, (x.snaps.getD sn []).getD an Scu.str0⟩) := by
          unfold Scu.doIt
          rw [if_neg (by simp), if_neg (by simp), if_neg (by simp only []; omega), if_neg (by simp only []; omega)]
          have e1 : ((sn : Int) + 1 - 1).toNat = sn := by omega
          simp only [Int.toNat_natCast, e1]
          rfl
        rw [hd']
        exact volDo_rs A0 n0 c0 A1 n1 c1 x an sn d w B hv hf ho ha6 (by omega)
  · obtain rfl : m = 0 := hsn (by omega)
    obtain rfl : an = 0 := by have := hat rfl; omega
    by_cases h3 : x.snaps.length = 3
    · have hd' : Scu.doIt x ⟨4, (0 : Nat), 0, d⟩ = (x, ⟨7, 0, Scu.str0⟩) := by
        unfold Scu.doIt
        rw [if_neg (by simp), if_pos rfl, if_pos h3]
        rfl
      rw [hd']
      exact volDo_s7 A0 n0 c0 A1 n1 c1 x d w B hv hf ho h3
    · have hd' : Scu.doIt x ⟨4, (0 : Nat), 0, d⟩ = (⟨x.now, x.snaps ++ [x.now]⟩, ⟨0, (x.snaps.length : Int) + 1, Scu.str0⟩) := by
        unfold Scu.doIt
        rw [if_neg (by simp), if_pos rfl, if_neg h3]
        rfl
      rw [hd']
      exact volDo_sn A0 n0 c0 A1 n1 c1 x d w B hv hf ho (by omega)
end Go.Proofs.Ytioajgcbchdpeaa

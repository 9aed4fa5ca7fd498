/- The walk of the law VolumeCopies, from a volume that is known. -/
import Derived.Test.YtjofalgbelecbaaApp
import Derived.Test.YtjofalgbelecbaaOpenV
namespace Go.Proofs.Ytjofalgbelecbaa
open Go.RowKit
set_option maxHeartbeats 400000
set_option maxRecDepth 100000

theorem lawVolumeCopies_c (nv sv : Value) (x : Scu.Volume) (w : World) (B : Nat) (hv : IsVolume w B nv sv x) :
    Calls Try.prog 15 #[.agg #[nv, sv]] w fun e w' => e = .returned (.bool true) ∧ Below w.heap.size w w' := by
  obtain ⟨A, n, c, rfl⟩ := hv.now.form
  obtain ⟨A', n', c', rfl⟩ := hv.snaps.form
  have HV := Lib.hid hv
  clear hv
  go_enter Try.func15, Try.ntmps15
  go_wp2_with fail
  have hal : Below w.heap.size w (w.alloc (Obj.cells #[.slice A n c, .slice A' n' c'] 29)) := (Below.refl _ _).alloc (Nat.le_refl _) _
  refine (copyVol_c _ _ x _ B (HV.out.below hal)).mono ?_; rintro e w1 ⟨⟨nu, su, rfl, hu⟩, h1⟩
  have hi := hu.is
  obtain ⟨A1, n1, c1, rfl⟩ := hi.now.form
  obtain ⟨A2, n2, c2, rfl⟩ := hi.snaps.form
  obtain ⟨hc, hz⟩ := bcell h1
  have hsz : w.heap.size < w1.heap.size := by have := h1.size; simp at this; omega
  have HI := Lib.hid hi
  have HU := Lib.hid hu
  have hB1 : Below w.heap.size w w1 := hal.trans (h1.mono (by simp))
  clear hi hu
  go_wp2_with fail
  have hal1 : Below w1.heap.size w1 (w1.alloc (Obj.cells #[.slice A1 n1 c1, .slice A2 n2 c2] 29)) := (Below.refl _ _).alloc (Nat.le_refl _) _
  refine (sameVolume_c _ _ _ _ x x _ 0 B (HI.out.below hal1) (((HV.out.below hB1).below hal1))).mono ?_; rintro e w2 ⟨rfl, h2⟩
  go_wp2
  go_ret
  exact ⟨by simp, hB1.trans ((hal1.mono hB1.size).trans (h2.mono (by have := hB1.size; simp; omega)))⟩
theorem lawVolumeCopies_w (v : Value) (x : Scu.Volume) {w : World} (h : IsVolV w v x) (W : World) (hW : W = w) :
    Calls Try.prog 15 #[v] W fun e w' => e = .returned (.bool true) ∧ Below W.heap.size W w' := by
  subst hW
  obtain ⟨nv, sv, rfl, hv⟩ := h
  exact lawVolumeCopies_c nv sv x W _ hv
end Go.Proofs.Ytjofalgbelecbaa

/- Words for machine.Apply: what it answers. -/
import Derived.Test.YtioajgcbchdpeaaLas
import Derived.Test.YtioajgcbchdpeaaDoL
import Derived.Test.YtioajgcbchdpeaaStateL
import Derived.Test.YtioajgcbchdpeaaEntryR
import Derived.Test.YtioajgcbchdpeaaKept
import Derived.Deep.DeepCutAuto
import Derived.Deep.RegionLaw
namespace Go.Proofs.Ytioajgcbchdpeaa
open Go.RowKit
set_option maxHeartbeats 400000
set_option maxRecDepth 100000

def AppRet (w : World) (y : Scu.State) (c : Int) (e : Ending) : Prop := ∃ nv sv lv, e = .returned (.tuple #[.agg #[nv, sv, lv], .int .i64 c]) ∧ IsState w 0 nv sv lv y
theorem state_zero (w : World) : IsState w 0 (.slice none 0 0) (.slice none 0 0) (.slice none 0 0) Scu.state0 :=
  ⟨(OwnVol.zero_ w 0).is, ⟨⟨none, 0, rfl, Nat.zero_le _, Rd.nil⟩, by simp [Scu.state0, R47]⟩⟩
theorem app_zero (w : World) (c : Int) : AppRet w Scu.state0 c (.returned (.tuple #[.agg #[.slice none 0 0, .slice none 0 0, .slice none 0 0], .int .i64 c])) := ⟨_, _, _, rfl, state_zero w⟩
section
variable {s : Scu.State} {e : Scu.Str} {r : Scu.Request} {c : Int}
theorem ap1 (h : Scu.stateFault s ≠ 0) : Scu.apply s e = (Scu.state0, Scu.stateFault s) := if_pos h
theorem ap2 (h : ¬ Scu.stateFault s ≠ 0) (hd : Scu.decode e = (r, c)) (hc : c ≠ 0) : Scu.apply s e = (Scu.state0, c) := by
  unfold Scu.apply
  rw [if_neg h, hd, if_pos hc]
theorem ap3 (h : ¬ Scu.stateFault s ≠ 0) (hd : Scu.decode e = (r, 0)) : Scu.apply s e = (Scu.applyIt s r, 0) := by
  unfold Scu.apply
  rw [if_neg h, hd, if_neg (by simp)]
theorem decode_req (hd : Scu.decode e = (r, 0)) : Scu.reqFault r = 0 := by
  unfold Scu.decode at hd
  split at hd
  · simp at hd
  split at hd
  · simp at hd
  simp only at hd
  split at hd
  · rename_i h; exact absurd (congrArg Prod.snd hd) h
  split at hd
  · rename_i h; exact absurd (congrArg Prod.snd hd) h
  split at hd
  · simp at hd
  split at hd
  · rename_i h; exact absurd (congrArg Prod.snd hd) h
  · rename_i h
    have e1 := congrArg Prod.fst hd
    simp only at e1
    rw [← e1]
    exact Decidable.not_not.1 h
theorem stateFault_ok (h : ¬ Scu.stateFault s ≠ 0) : s.lasts.length = 4 ∧ ¬ Scu.volFault s.volume ≠ 0 := by
  unfold Scu.stateFault at h
  split at h
  · rename_i hx
    unfold Scu.lastsOk at hx
    simp only [Bool.and_eq_true, beq_iff_eq] at hx
    exact ⟨hx.1, h⟩
  · exact absurd (by decide) h
end
section
variable {w w' : World} {nv sv lv : Value} {x : Scu.State}
theorem IsState.same (h : IsState w 0 nv sv lv x) (hs : Same [9, 26, 109] 0 w w') : IsState w' 0 nv sv lv x :=
  ⟨h.vol.same (hs.mono (fun t ht => by simp at ht ⊢; rcases ht with h | h <;> simp [h]) (Nat.le_refl _)) rfl, h.lasts.same (hs.mono (fun t ht => by simp at ht ⊢; simp [ht]) (Nat.le_refl _))⟩
theorem IsState.sets3 {g : Nat} {cs : Array Value} (h : IsState w 0 nv sv lv x) (hb : Blk w g 65 cs) (a b c : Value) :
    IsState (((w.setCell ⟨g, 0, none⟩ a).setCell ⟨g, 1, none⟩ b).setCell ⟨g, 2, none⟩ c) 0 nv sv lv x := h.same (Same.sets3 hb (Nat.zero_le _) (by decide) a b c)
theorem IsState.drew (h : IsState w 0 nv sv lv x) : IsState w.drew 0 nv sv lv x := h.below (Below.refl _ _).drew
end
theorem below_set3 {B g : Nat} {w w1 : World} {a b c : Value} (h : Below B w w1) (hg : B ≤ g) :
    Below B w (((w1.setCell ⟨g, 0, none⟩ a).setCell ⟨g, 1, none⟩ b).setCell ⟨g, 2, none⟩ c) :=
  ((h.setCell (p := ⟨g, 0, none⟩) hg _).setCell (p := ⟨g, 1, none⟩) hg _).setCell (p := ⟨g, 2, none⟩) hg _
theorem blk_set3 {g : Nat} {w : World} {a b c p q r : Value} (h : Blk w g 65 #[p, q, r]) :
    Blk (((w.setCell ⟨g, 0, none⟩ a).setCell ⟨g, 1, none⟩ b).setCell ⟨g, 2, none⟩ c) g 65 #[a, b, c] := ((h.set_ 0 a).set_ 1 b).set_ 2 c
end Go.Proofs.Ytioajgcbchdpeaa

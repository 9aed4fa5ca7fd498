/- Words for volume.Do: the blocks of the call, and what it answers. -/
import Derived.Test.YtioajgcbchdpeaaVolP
import Derived.Test.YtioajgcbchdpeaaVolR
import Derived.Test.YtioajgcbchdpeaaOpsW
import Derived.Test.YtioajgcbchdpeaaEntryR
import Derived.Deep.DeepCutAuto
import Derived.Deep.RegionLaw
namespace Go.Proofs.Ytioajgcbchdpeaa
open Go.RowKit
set_option maxHeartbeats 8000000
set_option maxRecDepth 100000

def DidRet (w : World) (base : Nat) (q : Scu.Volume × Scu.Reply × Int) (e : Ending) : Prop :=
  ∃ nu su, e = .returned (.tuple #[.agg #[nu, su], .agg #[.int .i64 q.2.1.code, .int .i64 q.2.1.n, .string q.2.1.data], .int .i64 q.2.2]) ∧ OwnVol w base nu su q.1
theorem did_zero (w : World) (base : Nat) (e : Int) : DidRet w base (Scu.vol0, Scu.reply0, e) (.returned (.tuple #[.agg #[.slice none 0 0, .slice none 0 0], .agg #[.int .i64 0, .int .i64 0, .string ⟨#[]⟩], .int .i64 e])) :=
  ⟨_, _, rfl, OwnVol.zero_ _ _⟩
section
variable {v : Scu.Volume} {o : Scu.Op}
theorem vd1 (h : Scu.volFault v ≠ 0) : Scu.volDo v o = (Scu.vol0, Scu.reply0, Scu.volFault v) := if_pos h
theorem vd2 (h : ¬ Scu.volFault v ≠ 0) (h2 : Scu.opFault o ≠ 0) : Scu.volDo v o = (Scu.vol0, Scu.reply0, Scu.opFault o) := by unfold Scu.volDo; rw [if_neg h, if_pos h2]
theorem vd3 (h : ¬ Scu.volFault v ≠ 0) (h2 : ¬ Scu.opFault o ≠ 0) : Scu.volDo v o = ((Scu.doIt v o).1, (Scu.doIt v o).2, 0) := by unfold Scu.volDo; rw [if_neg h, if_neg h2]
theorem volFault_ok (h : ¬ Scu.volFault v ≠ 0) : v.now.length = 6 ∧ v.snaps.length ≤ 3 ∧ (∀ s ∈ v.now, s.size ≤ 8) ∧ ∀ l ∈ v.snaps, l.length = 6 ∧ ∀ s ∈ l, s.size ≤ 8 := by
  unfold Scu.volFault Scu.volOk Scu.sectorsOk at h
  split at h
  · rename_i hx
    simp only [Bool.and_eq_true, beq_iff_eq, List.all_eq_true, decide_eq_true_eq] at hx
    exact ⟨hx.1.1.1, hx.1.2, hx.1.1.2, hx.2⟩
  · exact absurd (by decide) h
end
/-- What the four blocks of the call hold. -/
structure Four (w : World) (nv sv : Value) (ki a m : Int) (d : Scu.Str) (W : World) : Prop where
  b0 : Blk W w.heap.size 38 #[nv, sv]
  b1 : Blk W (w.heap.size + 1) 40 #[.int .i64 ki, .int .i64 a, .int .i64 m, .string d]
  b2 : Blk W (w.heap.size + 1 + 1) 38 #[.slice none 0 0, .slice none 0 0]
  b3 : Blk W (w.heap.size + 1 + 1 + 1) 43 #[.int .i64 0, .int .i64 0, .string ⟨#[]⟩]
  low : Below w.heap.size w W
theorem Four.below {w W W' : World} {nv sv : Value} {ki a m : Int} {d : Scu.Str} (h : Four w nv sv ki a m d W) (hb : Below W.heap.size W W') : Four w nv sv ki a m d W' :=
  ⟨h.b0.same hb, h.b1.same hb, h.b2.same hb, h.b3.same hb, h.low.trans (hb.mono h.low.size)⟩
theorem Four.start (w : World) (A0 : Option Addr) (n0 c0 : Nat) (A1 : Option Addr) (n1 c1 : Nat) (ki a m : Int) (d : Scu.Str) : Four w (.slice A0 n0 c0) (.slice A1 n1 c1) ki a m d ((((w.alloc (Obj.cells #[.slice A0 n0 c0, .slice A1 n1 c1] 38)).alloc (Obj.cells #[.int .i64 ki, .int .i64 a, .int .i64 m, .string d] 40)).alloc (Obj.cells #[.slice none 0 0, .slice none 0 0] 38)).alloc (Obj.cells #[.int .i64 0, .int .i64 0, .string ⟨#[]⟩] 43)) :=
  ⟨(((Blk.new w _ _).alloc _).alloc _).alloc _, ((Blk.new' (by simp)).alloc _).alloc _, (Blk.new' (by simp)).alloc _, Blk.new' (by simp), (((below_alloc w _).alloc (by simp) _).alloc (by simp; omega) _).alloc (by simp; omega) _⟩
theorem checkOp_a (o : Scu.Op) (w : World) (h : Scu.opFault o = 0) :
    Calls Try.prog 57 #[.agg #[.int .i64 o.kind, .int .i64 o.at_, .int .i64 o.snap, .string o.data]] w fun e w' => e = .returned (.int .i64 0) ∧ Below w.heap.size w w' := by
  have := checkOp_c o w
  rw [h] at this
  exact this
end Go.Proofs.Ytioajgcbchdpeaa

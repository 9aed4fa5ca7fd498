/- The law 'ReplicaAlarms': for every input the call returns true; each argument reads as it did. No condition. -/
import Derived.Test.YtjbhkmadcjnbfaaPart13
import Derived.Test.YtjbhkmadcjnbfaaPart6
import Derived.Test.YtjbhkmadcjnbfaaPart18
import Derived.Test.YtjbhkmadcjnbfaaPart17
import Derived.Test.YtjbhkmadcjnbfaaPart19
import Derived.Test.YtjbhkmadcjnbfaaPart1
import Derived.SizedLaws
import Derived.WalkKit
import Derived.ProofKit
import Derived.OpenShut
import Derived.ShutString
import Derived.ChangeOld
import Derived.Below
set_option linter.unusedVariables false
set_option linter.unusedSimpArgs false
/- replica.New, walked. -/
namespace Go.Proofs.Ytjbhkmadcjnbfaa
open Go.RowKit
set_option maxHeartbeats 2000000
set_option maxRecDepth 100000

def NewRet (w : World) (r : Scu.Replica) (c : Int) (e : Ending) : Prop := ∃ lu hv wv gv nv, e = .returned (.tuple #[.agg #[.int .i64 r.me, .int .i64 r.kept.view, .int .i64 r.kept.normal, .bool r.kept.calm, lu, .int .i64 r.kept.commit, hv, wv, gv, nv], .int .i64 c]) ∧ IsRep w 0 lu hv wv gv nv r
theorem new_zero (w : World) (c : Int) : NewRet w Scu.replica0 c (.returned (.tuple #[.agg #[.int .i64 0, .int .i64 0, .int .i64 0, .bool false, .slice none 0 0, .int .i64 0, .slice none 0 0, .slice none 0 0, .slice none 0 0, .slice none 0 0], .int .i64 c])) :=
  ⟨_, _, _, _, _, rfl, IsStrs.nil_, ⟨⟨none, 0, rfl, Nat.le_refl _, Rd.nil⟩, by simp [Scu.replica0, R47]⟩, ⟨⟨none, 0, rfl, Nat.le_refl _, Rd.nil⟩, by simp [Scu.replica0, R47]⟩, IsRow.nil_, ⟨⟨none, 0, rfl, Nat.le_refl _, Rd.nil⟩, by simp [Scu.replica0, R47]⟩⟩
section
variable {me : Int} {k : Scu.Kept}
theorem nw1 (h : me < 0 ∨ 3 ≤ me) : Scu.repNew me k = (Scu.replica0, 2) := if_pos h
theorem nw2 (h : ¬ (me < 0 ∨ 3 ≤ me)) (hk : Scu.keptFault k ≠ 0) : Scu.repNew me k = (Scu.replica0, Scu.keptFault k) := by unfold Scu.repNew; rw [if_neg h, if_pos hk]
theorem nw3 (h : ¬ (me < 0 ∨ 3 ≤ me)) (hk : ¬ Scu.keptFault k ≠ 0) : Scu.repNew me k = (⟨me, k, [0, 0, 0], [false, false, false], [Scu.kept0, Scu.kept0, Scu.kept0], [false, false, false]⟩, 0) := by unfold Scu.repNew; rw [if_neg h, if_neg hk]
end
theorem stageCheck_a (lv : Value) (k : Scu.Kept) (w : World) (B : Nat) (hv : IsStrs w B lv k.log) (f : Int) (h : Scu.keptFault k = f) :
    Calls Try.prog 31 #[.agg #[.int .i64 k.view, .int .i64 k.normal, .bool k.calm, lv, .int .i64 k.commit]] w fun e w' => e = .returned (.int .i64 f) ∧ Below w.heap.size w w' := by
  have := stageCheck_c lv k w B hv
  rw [h] at this
  exact this
structure NewI (me : Int) (k : Scu.Kept) (b : Nat) (L : Array Bool) (x20 x21 x22 x23 x24 x25 x26 x27 kv : Value) (W : World) : Prop where
  f0 : Dn L 0 → x20 = .int .i64 me
  f1 : Dn L 1 → x21 = kv
  f2 : Dn L 2 → ∃ lu, x22 = .agg #[.int .i64 k.view, .int .i64 k.normal, .bool k.calm, lu, .int .i64 k.commit] ∧ IsStrs W 0 lu k.log
  f3 : Dn L 3 → IsOnes 3 8 vInt W 0 x23 [0, 0, 0]
  f4 : Dn L 4 → IsOnes 4 1 Value.bool W 0 x24 [false, false, false]
  f5 : Dn L 5 → IsRow 24 5 56 KeptEl W 0 x25 [Scu.kept0, Scu.kept0, Scu.kept0]
  f6 : Dn L 6 → IsOnes 4 1 Value.bool W 0 x26 [false, false, false]
  f7 : Dn L 7 → ∃ lu hv wv gv nv, x27 = .agg #[.int .i64 me, .int .i64 k.view, .int .i64 k.normal, .bool k.calm, lu, .int .i64 k.commit, hv, wv, gv, nv] ∧ IsRep W 0 lu hv wv gv nv ⟨me, k, [0, 0, 0], [false, false, false], [Scu.kept0, Scu.kept0, Scu.kept0], [false, false, false]⟩
  f8 : Dn L 8 → ∃ lu hv wv gv nv, Blk W b 29 #[.int .i64 me, .int .i64 k.view, .int .i64 k.normal, .bool k.calm, lu, .int .i64 k.commit, hv, wv, gv, nv] ∧ IsRep W 0 lu hv wv gv nv ⟨me, k, [0, 0, 0], [false, false, false], [Scu.kept0, Scu.kept0, Scu.kept0], [false, false, false]⟩
  res : ¬ Dn L 8 → Blk W b 29 #[.int .i64 0, .int .i64 0, .int .i64 0, .bool false, .slice none 0 0, .int .i64 0, .slice none 0 0, .slice none 0 0, .slice none 0 0, .slice none 0 0]
theorem NewI.below {me : Int} {k : Scu.Kept} {b : Nat} {L : Array Bool} {x20 x21 x22 x23 x24 x25 x26 x27 kv : Value} {W W' : World} (h : NewI me k b L x20 x21 x22 x23 x24 x25 x26 x27 kv W) (hb : Below W.heap.size W W') : NewI me k b L x20 x21 x22 x23 x24 x25 x26 x27 kv W' :=
  ⟨h.f0, h.f1, fun d => let ⟨lu, e, g⟩ := h.f2 d; ⟨lu, e, g.below hb⟩, fun d => (h.f3 d).below hb, fun d => (h.f4 d).below hb,
    fun d => (h.f5 d).same (Ts := [9, 24]) (by simp) (Same.below hb) (fun _ _ hk => hk.same (Ts := [9]) (by simp) (Same.below hb)), fun d => (h.f6 d).below hb,
    fun d => let ⟨a1, a2, a3, a4, a5, e, g⟩ := h.f7 d; ⟨a1, a2, a3, a4, a5, e, g.below hb⟩, fun d => let ⟨a1, a2, a3, a4, a5, e, g⟩ := h.f8 d; ⟨a1, a2, a3, a4, a5, e.same hb, g.below hb⟩, fun d => (h.res d).same hb⟩
theorem dn_new {L : Array Bool} {i k : Nat} (h : ¬ Dn (L.setIfInBounds i true) k) : ¬ Dn L k := fun hd => h (by
  unfold Dn at *
  by_cases e : i = k
  · subst e
    rw [Array.getD_eq_getD_getElem?] at hd ⊢
    rcases Nat.lt_or_ge i L.size with hl | hl
    · simp [hl]
    · rw [Array.getElem?_eq_none hl] at hd; cases hd
  · rw [Array.getD_eq_getD_getElem?, Array.getElem?_setIfInBounds_ne e, ← Array.getD_eq_getD_getElem?]
    exact hd)
theorem dn_of {L : Array Bool} {j : Nat} (h : L[j]?.getD false = true) : Dn L j := by
  unfold Dn
  rw [Array.getD_eq_getD_getElem?]
  exact h
theorem dn_self {L : Array Bool} {i : Nat} (h : i < L.size) : Dn (L.setIfInBounds i true) i := by
  unfold Dn
  rw [Array.getD_eq_getD_getElem?]
  simp [h]
theorem dn_not {L : Array Bool} {i : Nat} (h : L.getD i true = false) : ¬ Dn L i := fun hd => by
  unfold Dn at hd
  rw [Array.getD_eq_getD_getElem?] at h hd
  cases e : L[i]? with
  | none => rw [e] at hd; cases hd
  | some b => rw [e] at h hd; simp at h hd; rw [h] at hd; cases hd
theorem blk_same {W W' : World} {g : Nat} {t : TypeId} {cs : Array Value} {Ts : List TypeId} (h : Blk W g t cs) (hs : Same Ts 0 W W') (ht : t ∈ Ts) : Blk W' g t cs := (hs.keep g h.lt (.inr ⟨_, _, _, ht, h⟩)).trans h
theorem NewI.store {me : Int} {k : Scu.Kept} {b : Nat} {L : Array Bool} {x20 x21 x22 x23 x24 x25 x26 x27 kv lu hv wv gv nv : Value} {w : World} (h : NewI me k b L x20 x21 x22 x23 x24 x25 x26 x27 kv w) (hl : 8 < L.size) (hz : Blk w b 29 #[.int .i64 0, .int .i64 0, .int .i64 0, .bool false, .slice none 0 0, .int .i64 0, .slice none 0 0, .slice none 0 0, .slice none 0 0, .slice none 0 0])
    (hr : IsRep w 0 lu hv wv gv nv ⟨me, k, [0, 0, 0], [false, false, false], [Scu.kept0, Scu.kept0, Scu.kept0], [false, false, false]⟩) :
    NewI me k b (L.setIfInBounds 8 true) x20 x21 x22 x23 x24 x25 x26 x27 kv ((((((((((w.setCell ⟨b, 0, none⟩ (.int .i64 me)).setCell ⟨b, 1, none⟩ (.int .i64 k.view)).setCell ⟨b, 2, none⟩ (.int .i64 k.normal)).setCell ⟨b, 3, none⟩ (.bool k.calm)).setCell ⟨b, 4, none⟩ lu).setCell ⟨b, 5, none⟩ (.int .i64 k.commit)).setCell ⟨b, 6, none⟩ hv).setCell ⟨b, 7, none⟩ wv).setCell ⟨b, 8, none⟩ gv).setCell ⟨b, 9, none⟩ nv) := by
  have hs := Same.sets10 (Ts := [9, 3, 4, 24]) (B := 0) (a0 := .int .i64 me) (a1 := .int .i64 k.view) (a2 := .int .i64 k.normal) (a3 := .bool k.calm) (a4 := lu) (a5 := .int .i64 k.commit) (a6 := hv) (a7 := wv) (a8 := gv) (a9 := nv) hz (Nat.zero_le _) (by decide)
  exact ⟨fun d => h.f0 (dn_old d (by decide)), fun d => h.f1 (dn_old d (by decide)), fun d => let ⟨l, e, g⟩ := h.f2 (dn_old d (by decide)); ⟨l, e, g.same (by simp) hs⟩, fun d => (h.f3 (dn_old d (by decide))).same (by simp) hs, fun d => (h.f4 (dn_old d (by decide))).same (by simp) hs,
    fun d => (h.f5 (dn_old d (by decide))).same (by simp) hs (fun _ _ hk => hk.same (by simp) hs), fun d => (h.f6 (dn_old d (by decide))).same (by simp) hs, fun d => let ⟨a1, a2, a3, a4, a5, e, g⟩ := h.f7 (dn_old d (by decide)); ⟨a1, a2, a3, a4, a5, e, g.same hs⟩,
    fun _ => ⟨_, _, _, _, _, blk_set10 hz, hr.same hs⟩, fun d => (d (dn_self hl)).elim⟩
theorem made_ints (w : World) : (Instr.makeSlice 25 (.int .i64 3) (.int .i64 3)).run Try.prog w = .ok (.slice (some ⟨w.heap.size, 0, none⟩) 3 3) (w.alloc (.cells #[.int .i64 0, .int .i64 0, .int .i64 0] 3)) := by kernel_rfl
theorem made_bools (w : World) : (Instr.makeSlice 26 (.int .i64 3) (.int .i64 3)).run Try.prog w = .ok (.slice (some ⟨w.heap.size, 0, none⟩) 3 3) (w.alloc (.cells #[.bool false, .bool false, .bool false] 4)) := by kernel_rfl
theorem made_kepts (w : World) : (Instr.makeSlice 27 (.int .i64 3) (.int .i64 3)).run Try.prog w = .ok (.slice (some ⟨w.heap.size, 0, none⟩) 3 3) (w.alloc (.cells #[.int .i64 0, .int .i64 0, .bool false, .slice none 0 0, .int .i64 0, .int .i64 0, .int .i64 0, .bool false, .slice none 0 0, .int .i64 0, .int .i64 0, .int .i64 0, .bool false, .slice none 0 0, .int .i64 0] 24)) := by kernel_rfl
theorem ones_blk {α : Type} {t : TypeId} {bytes : Nat} {f : α → Value} {w : World} {g : Nat} {xs : List α} (h : Blk w g t (xs.map f).toArray) (h1 : xs.length * bytes ≤ R47) : IsOnes t bytes f w 0 (.slice (some ⟨g, 0, none⟩) xs.length xs.length) xs :=
  ⟨⟨_, _, rfl, Nat.le_refl _, .inr ⟨g, 0, rfl, h.lt, .inr ⟨_, _, h⟩, fun j u hj => by
    rw [h.cell]
    simpa using hj⟩⟩, h1⟩
theorem kepts_blk {w : World} {g : Nat} (h : Blk w g 24 #[.int .i64 0, .int .i64 0, .bool false, .slice none 0 0, .int .i64 0, .int .i64 0, .int .i64 0, .bool false, .slice none 0 0, .int .i64 0, .int .i64 0, .int .i64 0, .bool false, .slice none 0 0, .int .i64 0]) :
    IsRow 24 5 56 KeptEl w 0 (.slice (some ⟨g, 0, none⟩) 3 3) [Scu.kept0, Scu.kept0, Scu.kept0] :=
  ⟨⟨some ⟨g, 0, none⟩, 3, [keptV Scu.kept0 (.slice none 0 0), keptV Scu.kept0 (.slice none 0 0), keptV Scu.kept0 (.slice none 0 0)], rfl, Nat.le_refl _, rfl, (fun cs hc => by
      simp only [List.mem_cons, List.not_mem_nil, or_false] at hc
      rcases hc with rfl | rfl | rfl <;> rfl), .inr ⟨g, 0, rfl, h.lt, .inr ⟨_, _, h⟩, fun j u hj => by
    rw [h.cell]
    simpa [keptV, Scu.kept0] using hj⟩, fun j cs x hc hx => by
      rcases j with _ | _ | _ | j <;> simp only [List.getElem?_cons_zero, List.getElem?_cons_succ, List.getElem?_nil, Option.some.injEq, reduceCtorEq] at hc hx <;> (subst hc; subst hx; exact ⟨_, rfl, IsStrs.nil_⟩)⟩, by simp [R47]⟩
end Go.Proofs.Ytjbhkmadcjnbfaa
/- ref.ReplicaOf, walked; the law ReplicaNews. -/
namespace Go.Proofs.Ytjbhkmadcjnbfaa
open Go.RowKit
set_option maxHeartbeats 2000000
set_option maxRecDepth 100000

theorem forg_step {X : World} {g i : Nat} {cs : Array Value} (h : Blk X g 29 cs) (u : Value) (o : Obj) :
    Same [9, 3, 4, 24] 0 X ((X.setCell ⟨g, i, none⟩ u).alloc o) ∧ ∀ B, B ≤ g → Below B X ((X.setCell ⟨g, i, none⟩ u).alloc o) :=
  ⟨(Same.set_ h (Nat.zero_le _) (by decide) i u).trans (Same.alloc _ _), fun B hB => ((Below.refl B X).setCell (p := ⟨g, i, none⟩) hB u).alloc (by have := h.lt; simp [World.setCell]; omega) o⟩
/-- The four rows that are made anew. -/
def ForgO (w w' : World) (hv wv gv nv : Value) : Prop := ∃ a b c d, hv = .slice (some ⟨a, 0, none⟩) 3 3 ∧ wv = .slice (some ⟨b, 0, none⟩) 3 3 ∧ gv = .slice (some ⟨c, 0, none⟩) 3 3 ∧ nv = .slice (some ⟨d, 0, none⟩) 3 3 ∧ w.heap.size ≤ a ∧ w.heap.size ≤ b ∧ w.heap.size ≤ c ∧ w.heap.size ≤ d ∧ b ≠ d ∧
  Blk w' a 3 #[.int .i64 0, .int .i64 0, .int .i64 0] ∧ Blk w' b 4 #[.bool false, .bool false, .bool false] ∧
  Blk w' c 24 #[.int .i64 0, .int .i64 0, .bool false, .slice none 0 0, .int .i64 0, .int .i64 0, .int .i64 0, .bool false, .slice none 0 0, .int .i64 0, .int .i64 0, .int .i64 0, .bool false, .slice none 0 0, .int .i64 0] ∧ Blk w' d 4 #[.bool false, .bool false, .bool false]
theorem blk_keep' {w w' : World} {g : Nat} {t : TypeId} {cs : Array Value} {Ts : List TypeId} (h : Blk w g t cs) (hs : Same Ts 0 w w') (ht : t ∈ Ts) : Blk w' g t cs := (hs.keep g h.lt (.inr ⟨_, _, _, ht, h⟩)).trans h
/-- forgotten: four new rows behind the pointer; all else is as it was. -/
theorem forgotten_c (g : Nat) (v0 v1 v2 v3 v4 v5 v6 v7 v8 v9 : Value) (w : World) (hb : Blk w g 29 #[v0, v1, v2, v3, v4, v5, v6, v7, v8, v9]) :
    Calls Try.prog 52 #[.pointer (some ⟨g, 0, none⟩)] w fun e w' => e = .returned (.tuple #[]) ∧ (∃ hv wv gv nv, Blk w' g 29 #[v0, v1, v2, v3, v4, v5, hv, wv, gv, nv] ∧ IsOnes 3 8 vInt w' 0 hv [0, 0, 0] ∧ IsOnes 4 1 Value.bool w' 0 wv [false, false, false] ∧
      IsRow 24 5 56 KeptEl w' 0 gv [Scu.kept0, Scu.kept0, Scu.kept0] ∧ IsOnes 4 1 Value.bool w' 0 nv [false, false, false] ∧ ForgO w w' hv wv gv nv) ∧ Same [9, 3, 4, 24] 0 w w' ∧ (∀ B, B ≤ g → Below B w w') := by
  have hmi := made_ints
  have hmb := made_bools
  have hmk := made_kepts
  go_enter Try.func52, Try.ntmps52
  have z0 := hb.cell 6
  simp only [List.getElem?_toArray, List.getElem?_cons_zero, List.getElem?_cons_succ] at z0
  have zz0 := hb.frozen
  have zl0 := hb.lt
  have HH0 := Lib.hid hb
  clear hb
  go_upto_region 1 with fail
  obtain ⟨y1, he0⟩ : ∃ W, W = (w.setCell ⟨g, 6, none⟩ (.slice (some ⟨w.heap.size, 0, none⟩) 3 3)).alloc (Obj.cells #[.int .i64 0, .int .i64 0, .int .i64 0] 3) := ⟨_, rfl⟩
  rw [← he0]
  have hb1 : Blk y1 g 29 #[v0, v1, v2, v3, v4, v5, (.slice (some ⟨w.heap.size, 0, none⟩) 3 3), v7, v8, v9] := by rw [he0]; exact (HH0.out.set_ 6 _).alloc _
  have hn1 : Blk y1 w.heap.size 3 #[.int .i64 0, .int .i64 0, .int .i64 0] := by rw [he0]; exact Blk.new' (by simp [World.setCell])
  have hs1 : Same [9, 3, 4, 24] 0 w y1 := by rw [he0]; exact (forg_step HH0.out _ _).1
  have hw1 : ∀ B, B ≤ g → Below B w y1 := by rw [he0]; exact (forg_step HH0.out _ _).2
  have r1 := ones_blk (bytes := 8) (f := vInt) (xs := [(0 : Int), 0, 0]) hn1 (by simp [R47])
  clear z0 zz0 zl0 he0
  have z1 := hb1.cell 7
  simp only [List.getElem?_toArray, List.getElem?_cons_zero, List.getElem?_cons_succ] at z1
  have zz1 := hb1.frozen
  have zl1 := hb1.lt
  have HH1 := Lib.hid hb1
  clear hb1
  go_upto_region 2 with fail
  obtain ⟨y2, he1⟩ : ∃ W, W = (y1.setCell ⟨g, 7, none⟩ (.slice (some ⟨y1.heap.size, 0, none⟩) 3 3)).alloc (Obj.cells #[.bool false, .bool false, .bool false] 4) := ⟨_, rfl⟩
  rw [← he1]
  have hb2 : Blk y2 g 29 #[v0, v1, v2, v3, v4, v5, (.slice (some ⟨w.heap.size, 0, none⟩) 3 3), (.slice (some ⟨y1.heap.size, 0, none⟩) 3 3), v8, v9] := by rw [he1]; exact (HH1.out.set_ 7 _).alloc _
  have hn2 : Blk y2 y1.heap.size 4 #[.bool false, .bool false, .bool false] := by rw [he1]; exact Blk.new' (by simp [World.setCell])
  have hs2 : Same [9, 3, 4, 24] 0 y1 y2 := by rw [he1]; exact (forg_step HH1.out _ _).1
  have hw2 : ∀ B, B ≤ g → Below B y1 y2 := by rw [he1]; exact (forg_step HH1.out _ _).2
  have r2 := ones_blk (bytes := 1) (f := Value.bool) (xs := [false, false, false]) hn2 (by simp [R47])
  clear z1 zz1 zl1 he1
  have z2 := hb2.cell 8
  simp only [List.getElem?_toArray, List.getElem?_cons_zero, List.getElem?_cons_succ] at z2
  have zz2 := hb2.frozen
  have zl2 := hb2.lt
  have HH2 := Lib.hid hb2
  clear hb2
  go_upto_region 3 with fail
  obtain ⟨y3, he2⟩ : ∃ W, W = (y2.setCell ⟨g, 8, none⟩ (.slice (some ⟨y2.heap.size, 0, none⟩) 3 3)).alloc (Obj.cells #[.int .i64 0, .int .i64 0, .bool false, .slice none 0 0, .int .i64 0, .int .i64 0, .int .i64 0, .bool false, .slice none 0 0, .int .i64 0, .int .i64 0, .int .i64 0, .bool false, .slice none 0 0, .int .i64 0] 24) := ⟨_, rfl⟩
  rw [← he2]
  have hb3 : Blk y3 g 29 #[v0, v1, v2, v3, v4, v5, (.slice (some ⟨w.heap.size, 0, none⟩) 3 3), (.slice (some ⟨y1.heap.size, 0, none⟩) 3 3), (.slice (some ⟨y2.heap.size, 0, none⟩) 3 3), v9] := by rw [he2]; exact (HH2.out.set_ 8 _).alloc _
  have hn3 : Blk y3 y2.heap.size 24 #[.int .i64 0, .int .i64 0, .bool false, .slice none 0 0, .int .i64 0, .int .i64 0, .int .i64 0, .bool false, .slice none 0 0, .int .i64 0, .int .i64 0, .int .i64 0, .bool false, .slice none 0 0, .int .i64 0] := by rw [he2]; exact Blk.new' (by simp [World.setCell])
  have hs3 : Same [9, 3, 4, 24] 0 y2 y3 := by rw [he2]; exact (forg_step HH2.out _ _).1
  have hw3 : ∀ B, B ≤ g → Below B y2 y3 := by rw [he2]; exact (forg_step HH2.out _ _).2
  have r3 := kepts_blk hn3
  clear z2 zz2 zl2 he2
  have z3 := hb3.cell 9
  simp only [List.getElem?_toArray, List.getElem?_cons_zero, List.getElem?_cons_succ] at z3
  have zz3 := hb3.frozen
  have zl3 := hb3.lt
  have HH3 := Lib.hid hb3
  clear hb3
  go_wp2
  obtain ⟨y4, he3⟩ : ∃ W, W = (y3.setCell ⟨g, 9, none⟩ (.slice (some ⟨y3.heap.size, 0, none⟩) 3 3)).alloc (Obj.cells #[.bool false, .bool false, .bool false] 4) := ⟨_, rfl⟩
  rw [← he3]
  have hb4 : Blk y4 g 29 #[v0, v1, v2, v3, v4, v5, (.slice (some ⟨w.heap.size, 0, none⟩) 3 3), (.slice (some ⟨y1.heap.size, 0, none⟩) 3 3), (.slice (some ⟨y2.heap.size, 0, none⟩) 3 3), (.slice (some ⟨y3.heap.size, 0, none⟩) 3 3)] := by rw [he3]; exact (HH3.out.set_ 9 _).alloc _
  have hn4 : Blk y4 y3.heap.size 4 #[.bool false, .bool false, .bool false] := by rw [he3]; exact Blk.new' (by simp [World.setCell])
  have hs4 : Same [9, 3, 4, 24] 0 y3 y4 := by rw [he3]; exact (forg_step HH3.out _ _).1
  have hw4 : ∀ B, B ≤ g → Below B y3 y4 := by rw [he3]; exact (forg_step HH3.out _ _).2
  have r4 := ones_blk (bytes := 1) (f := Value.bool) (xs := [false, false, false]) hn4 (by simp [R47])
  clear z3 zz3 zl3 he3
  go_end0
  refine ⟨rfl, ⟨_, _, _, _, hb4, ((r1.same (by simp) hs2).same (by simp) hs3).same (by simp) hs4, (r2.same (by simp) hs3).same (by simp) hs4, r3.same (by simp) hs4 (fun _ _ hk => hk.same (by simp) hs4), r4, ⟨_, _, _, _, rfl, rfl, rfl, rfl, Nat.le_refl _, by have := hn1.lt; omega, by have := hn1.lt; have := hn2.lt; omega, by have := hn1.lt; have := hn2.lt; have := hn3.lt; omega, by have := hn2.lt; have := hn3.lt; omega, blk_keep' (blk_keep' (blk_keep' hn1 hs2 (by simp)) hs3 (by simp)) hs4 (by simp), blk_keep' (blk_keep' hn2 hs3 (by simp)) hs4 (by simp), blk_keep' hn3 hs4 (by simp), hn4⟩⟩, ((hs1.trans hs2).trans hs3).trans hs4, fun B hB => (((hw1 B hB).trans (hw2 B hB)).trans (hw3 B hB)).trans (hw4 B hB)⟩
theorem keptFaultN_a (lv : Value) (k : Scu.Kept) (w : World) (B : Nat) (hv : IsStrs w B lv k.log) (f : Int) (h : Scu.keptFault k = f) :
    Calls Try.prog 46 #[.agg #[.int .i64 k.view, .int .i64 k.normal, .bool k.calm, lv, .int .i64 k.commit]] w fun e w' => e = .returned (.int .i64 f) ∧ Below w.heap.size w w' := by
  have := keptFault_c lv k w B hv
  rw [h] at this
  exact this
end Go.Proofs.Ytjbhkmadcjnbfaa
/- Walks: ref.wanted, ref.AlarmedOf. -/
namespace Go.Proofs.Ytjbhkmadcjnbfaa
open Go.RowKit
set_option maxHeartbeats 4000000
set_option maxRecDepth 100000

theorem forg_own {w w' : World} {base : Nat} {hv wv gv nv : Value} (h : ForgO w w' hv wv gv nv) (hb : base ≤ w.heap.size) :
    OwnOnes 3 8 vInt w' base hv [0, 0, 0] ∧ OwnOnes 4 1 Value.bool w' base wv [false, false, false] ∧ OwnKs w' base gv [Scu.kept0, Scu.kept0, Scu.kept0] [zeroK, zeroK, zeroK] ∧ OwnOnes 4 1 Value.bool w' base nv [false, false, false] ∧ (∀ g, wv.ownBlock = some g → nv.ownBlock ≠ some g) := by
  obtain ⟨a, b, c, d, rfl, rfl, rfl, rfl, ha, hb', hc, hd, hbd, h1, h2, h3, h4⟩ := h
  refine ⟨⟨own_blk (xs := [vInt 0, vInt 0, vInt 0]) h1 (by omega) rfl (by decide), by simp [R47]⟩, ⟨own_blk (xs := [Value.bool false, Value.bool false, Value.bool false]) h2 (by omega) rfl (by decide), by simp [R47]⟩, ownKs_zero h3 (by omega), ⟨own_blk (xs := [Value.bool false, Value.bool false, Value.bool false]) h4 (by omega) rfl (by decide), by simp [R47]⟩, fun g e e' => ?_⟩
  simp only [Value.ownBlock, Option.some.injEq] at e e'
  omega
theorem wanted_c (g : Nat) (r : Scu.Replica) (lu hv wv gv nv : Value) (v : Int) (base : Nat) (w : World) (hB : Blk w g 29 #[.int .i64 r.me, .int .i64 r.kept.view, .int .i64 r.kept.normal, .bool r.kept.calm, lu, .int .i64 r.kept.commit, hv, wv, gv, nv]) (hl : OwnStrs w base lu r.kept.log) (hg : base ≤ g) (hm0 : 0 ≤ r.me) (hm3 : r.me < 3)
    (rr : Scu.Replica) (ms : List Scu.Message) (hrr : Scu.want r v = (rr, ms)) :
    Calls Try.prog 34 #[.pointer (some ⟨g, 0, none⟩), .int .i64 v] w fun e w' => (∃ Ao co css hv' wv' gv' nv', e = .returned (.slice Ao ms.length co) ∧ Blk w' g 29 #[.int .i64 rr.me, .int .i64 rr.kept.view, .int .i64 rr.kept.normal, .bool rr.kept.calm, lu, .int .i64 rr.kept.commit, hv', wv', gv', nv'] ∧ OwnRep w' base lu hv' wv' gv' nv' rr ∧ OwnMs w' base (.slice Ao ms.length co) ms css) ∧ Below base w w' := by
  have hgl := hB.lt
  have HL := Lib.hid (And.intro hl hB)
  have HRR := Lib.hid hrr
  have d1 := hB.cell 1
  have d3 := hB.cell 3
  simp only [List.getElem?_toArray, List.getElem?_cons_zero, List.getElem?_cons_succ] at d1 d3
  have dz := hB.frozen
  clear hl hB hrr
  go_enter Try.func34, Try.ntmps34
  go_upto_region 3 with fail
  obtain ⟨W1, hW1⟩ : ∃ W, W = (w.setCell ⟨g, 1, none⟩ (.int .i64 v)).setCell ⟨g, 3, none⟩ (.bool false) := ⟨_, rfl⟩
  rw [← hW1]
  have hB1 : Blk W1 g 29 #[.int .i64 r.me, .int .i64 v, .int .i64 r.kept.normal, .bool false, lu, .int .i64 r.kept.commit, hv, wv, gv, nv] := by rw [hW1]; exact (HL.out.2.set_ 1 _).set_ 3 _
  have hs1 : Same [9] 0 w W1 := by rw [hW1]; exact (Same.set_ HL.out.2 (Nat.zero_le _) (by decide) 1 _).trans (Same.set_ (HL.out.2.set_ 1 _) (Nat.zero_le _) (by decide) 3 _)
  have hb1 : Below base w W1 := by rw [hW1]; exact ((Below.refl base w).setCell (p := ⟨g, 1, none⟩) hg _).setCell (p := ⟨g, 3, none⟩) hg _
  have hz1 : base ≤ W1.heap.size := Nat.le_trans (by omega) hb1.size
  clear hW1 d1 d3 dz
  go_wp2_with fail
  refine (forgotten_c g _ _ _ _ _ _ _ _ _ _ W1 hB1).mono ?_; rintro en w2 ⟨rfl, ⟨hv', wv', gv', nv', hB2, _, _, _, _, hF⟩, hsm, hbl⟩
  have HO := Lib.hid (forg_own hF hz1)
  obtain ⟨a, b, c, d, rfl, rfl, rfl, rfl, ha, hb', hc, hd, hbd, _, hq, _, _⟩ := hF
  have hown : OwnRep w2 base lu (.slice (some ⟨a, 0, none⟩) 3 3) (.slice (some ⟨b, 0, none⟩) 3 3) (.slice (some ⟨c, 0, none⟩) 3 3) (.slice (some ⟨d, 0, none⟩) 3 3) (Scu.fresh { r with kept := { r.kept with view := v, calm := false } }) :=
    ⟨⟨(HL.out.1.same hs1).same (hsm.mono (by simp) (Nat.le_refl _)), HO.out.1, HO.out.2.1, HO.out.2.2.2.1, HO.out.2.2.2.2⟩, _, HO.out.2.2.1⟩
  have hu : w2.cell? ⟨b, r.me.toNat, none⟩ = some (.bool false) := by
    rw [hq.cell]
    have : r.me.toNat = 0 ∨ r.me.toNat = 1 ∨ r.me.toNat = 2 := by omega
    rcases this with h | h | h <;> rw [h] <;> rfl
  have dz := hq.frozen r.me.toNat
  have d0 := hB2.cell 0
  have d7 := hB2.cell 7
  simp only [List.getElem?_toArray, List.getElem?_cons_zero, List.getElem?_cons_succ] at d0 d7
  have dl := hB2.lt
  have ngb : g ≠ b := blk_ne hB2 hq (by decide)
  have H2 := Lib.hid (And.intro hown (And.intro hq (And.intro hB2 (And.intro (hb1.trans (hbl base hg)) (show base ≤ b from Nat.le_trans hz1 hb')))))
  clear hown hq hB2 hb1 hs1 hsm hbl hB1 ha hc hd hbd HO
  go_wp2_with fail
  go_region
  obtain ⟨W3, hW3⟩ : ∃ W, W = (w2.setCell ⟨b, r.me.toNat, none⟩ (.bool true)).drew := ⟨_, rfl⟩
  rw [← hW3]
  have hrr : rr = { Scu.fresh { r with kept := { r.kept with view := v, calm := false } } with wants := [false, false, false].set r.me.toNat true } := (congrArg Prod.fst HRR.out).symm
  have H3 := Lib.hid (show OwnRep W3 base lu (.slice (some ⟨a, 0, none⟩) 3 3) (.slice (some ⟨b, 0, none⟩) 3 3) (.slice (some ⟨c, 0, none⟩) 3 3) (.slice (some ⟨d, 0, none⟩) 3 3) rr ∧ Blk W3 g 29 #[.int .i64 r.me, .int .i64 v, .int .i64 r.kept.normal, .bool false, lu, .int .i64 r.kept.commit, .slice (some ⟨a, 0, none⟩) 3 3, .slice (some ⟨b, 0, none⟩) 3 3, .slice (some ⟨c, 0, none⟩) 3 3, .slice (some ⟨d, 0, none⟩) 3 3] ∧ Below base w W3 from by
    rw [hW3, hrr]
    exact ⟨(H2.out.1.put_wants H2.out.2.1 r.me.toNat true).same (Same.drew _), (H2.out.2.2.1.far (p := ⟨b, r.me.toNat, none⟩) ngb _).drew, (H2.out.2.2.2.1.setCell (p := ⟨b, r.me.toNat, none⟩) H2.out.2.2.2.2 _).drew⟩)
  have hms : ms = Scu.toAll r.me v { Scu.msg0 with kind := 3 } := (congrArg Prod.snd HRR.out).symm
  have HMS := Lib.hid (And.intro hms hrr)
  clear hW3 d0 d7 dz dl hu hms hrr H2 ngb
  have hB3 := H3.out.2.1
  have s0 := hB3.cell 0
  have s1 := hB3.cell 1
  have s2 := hB3.cell 2
  have s3 := hB3.cell 3
  have s4 := hB3.cell 4
  have s5 := hB3.cell 5
  have s6 := hB3.cell 6
  have s7 := hB3.cell 7
  have s8 := hB3.cell 8
  have s9 := hB3.cell 9
  simp only [List.getElem?_toArray, List.getElem?_cons_zero, List.getElem?_cons_succ] at s0 s1 s2 s3 s4 s5 s6 s7 s8 s9
  have sz := hB3.frozen
  have sl := hB3.lt
  clear hB3
  obtain ⟨Al, nl, cl, rfl⟩ := H3.out.1.is.log.form
  go_wp2_with fail
  refine (toAll_c r.me v r.kept.normal false (.slice Al nl cl) r.kept.commit (.slice (some ⟨a, 0, none⟩) 3 3) (.slice (some ⟨b, 0, none⟩) 3 3) (.slice (some ⟨c, 0, none⟩) 3 3) (.slice (some ⟨d, 0, none⟩) 3 3) (.slice none 0 0) { Scu.msg0 with kind := 3 } _ 0 (Nat.zero_le _) IsStrs.nil_).mono ?_; rintro en w4 ⟨⟨ov, css, rfl, ho⟩, h4⟩
  rw [show partAll r.me v { Scu.msg0 with kind := 3 } 3 = ms from HMS.out.1.symm] at ho
  obtain ⟨Ao, co, rfl⟩ := ho.form
  have H4 := Lib.hid (And.intro (H3.out.1.below h4) (And.intro (H3.out.2.1.same h4) (And.intro (H3.out.2.2.trans (h4.mono (Nat.le_trans (by omega) H3.out.2.2.size))) (ho.base_ (Nat.le_trans (show base ≤ w.heap.size by omega) H3.out.2.2.size)))))
  clear ho h4
  go_wp2
  go_ret
  refine ⟨⟨_, _, css, _, _, _, _, rfl, ?_, H4.out.1, H4.out.2.2.2⟩, H4.out.2.2.1⟩
  rw [HMS.out.2]
  exact H4.out.2.1
theorem alarmed_1 (lv hv wv gv nv : Value) (r : Scu.Replica) (w : World) (B : Nat) (hr : IsRep w B lv hv wv gv nv r) (f : Int) (hf : Scu.repFault r = f) (hn : f ≠ 0) :
    Calls Try.prog 15 #[.agg #[.int .i64 r.me, .int .i64 r.kept.view, .int .i64 r.kept.normal, .bool r.kept.calm, lv, .int .i64 r.kept.commit, hv, wv, gv, nv]] w fun e w' => TellRet w' Scu.replica0 [] f e ∧ Below w.heap.size w w' := by
  have hfb : (f != 0) = true := by simpa using hn
  have hfe : (f == 0) = false := by simpa using hn
  clear hn
  have HV := Lib.hid hr
  have HF := Lib.hid hf
  obtain ⟨A0, n0, c0, A1, c1, A2, c2, A3, c3, A4, c4, rfl, rfl, rfl, rfl, rfl⟩ := hr.forms
  clear hr hf
  go_enter Try.func15, Try.ntmps15
  go_wp2_with fail
  have h0 : Below w.heap.size w ((w.alloc (Obj.cells #[.int .i64 r.me, .int .i64 r.kept.view, .int .i64 r.kept.normal, .bool r.kept.calm, .slice A0 n0 c0, .int .i64 r.kept.commit, .slice A1 r.have_.length c1, .slice A2 r.wants.length c2, .slice A3 r.gives.length c3, .slice A4 r.given.length c4] 29)).alloc (Obj.cells #[.int .i64 0, .int .i64 0, .int .i64 0, .bool false, .slice none 0 0, .int .i64 0, .slice none 0 0, .slice none 0 0, .slice none 0 0, .slice none 0 0] 29)) := (below_alloc w _).alloc (by simp) _
  refine (repFaultRef_a _ _ _ _ _ r _ B (HV.out.below h0) f HF.out).mono ?_; rintro en w1 ⟨rfl, h1⟩
  have hz : Blk w1 (w.heap.size + 1) 29 #[.int .i64 0, .int .i64 0, .int .i64 0, .bool false, .slice none 0 0, .int .i64 0, .slice none 0 0, .slice none 0 0, .slice none 0 0, .slice none 0 0] := (Blk.new' (by simp)).same h1
  have hb := h0.trans (h1.mono h0.size)
  have z0 := hz.cell 0
  have z1 := hz.cell 1
  have z2 := hz.cell 2
  have z3 := hz.cell 3
  have z4 := hz.cell 4
  have z5 := hz.cell 5
  have z6 := hz.cell 6
  have z7 := hz.cell 7
  have z8 := hz.cell 8
  have z9 := hz.cell 9
  simp only [List.getElem?_toArray, List.getElem?_cons_zero, List.getElem?_cons_succ] at z0 z1 z2 z3 z4 z5 z6 z7 z8 z9
  have zz := hz.frozen
  have zl := hz.lt
  have hr := blk_set10 (a0 := .int .i64 0) (a1 := .int .i64 0) (a2 := .int .i64 0) (a3 := .bool false) (a4 := .slice none 0 0) (a5 := .int .i64 0) (a6 := .slice none 0 0) (a7 := .slice none 0 0) (a8 := .slice none 0 0) (a9 := .slice none 0 0) hz
  have r0 := hr.cell 0
  have r1 := hr.cell 1
  have r2 := hr.cell 2
  have r3 := hr.cell 3
  have r4 := hr.cell 4
  have r5 := hr.cell 5
  have r6 := hr.cell 6
  have r7 := hr.cell 7
  have r8 := hr.cell 8
  have r9 := hr.cell 9
  simp only [List.getElem?_toArray, List.getElem?_cons_zero, List.getElem?_cons_succ] at r0 r1 r2 r3 r4 r5 r6 r7 r8 r9
  have rz := hr.frozen
  have rl := hr.lt
  clear h1 h0
  go_wp2
  refine bodyPost_ret (v := .tuple #[.agg #[.int .i64 0, .int .i64 0, .int .i64 0, .bool false, .slice none 0 0, .int .i64 0, .slice none 0 0, .slice none 0 0, .slice none 0 0, .slice none 0 0], .slice none 0 0, .int .i64 f]) (by simp [results, Try.results15, go_sem, r0, r1, r2, r3, r4, r5, r6, r7, r8, r9]) rfl ?_
  exact ⟨tell_zero _ _, below_set10 hb (by omega)⟩
theorem alarmed_2 (lv hv wv gv nv : Value) (r : Scu.Replica) (w : World) (B : Nat) (hr : IsRep w B lv hv wv gv nv r) (hf : Scu.repFault r = 0) (hm : r.kept.view = 1048576) :
    Calls Try.prog 15 #[.agg #[.int .i64 r.me, .int .i64 r.kept.view, .int .i64 r.kept.normal, .bool r.kept.calm, lv, .int .i64 r.kept.commit, hv, wv, gv, nv]] w fun e w' => TellRet w' Scu.replica0 [] 7 e ∧ Below w.heap.size w w' := by
  have hmb : decide (1048576 ≤ r.kept.view) = true := by simp [hm]
  clear hm
  have hvw := rep_view hf
  have HV := Lib.hid hr
  have HF := Lib.hid hf
  obtain ⟨A0, n0, c0, A1, c1, A2, c2, A3, c3, A4, c4, rfl, rfl, rfl, rfl, rfl⟩ := hr.forms
  clear hr hf
  go_enter Try.func15, Try.ntmps15
  go_wp2_with fail
  have h0 : Below w.heap.size w ((w.alloc (Obj.cells #[.int .i64 r.me, .int .i64 r.kept.view, .int .i64 r.kept.normal, .bool r.kept.calm, .slice A0 n0 c0, .int .i64 r.kept.commit, .slice A1 r.have_.length c1, .slice A2 r.wants.length c2, .slice A3 r.gives.length c3, .slice A4 r.given.length c4] 29)).alloc (Obj.cells #[.int .i64 0, .int .i64 0, .int .i64 0, .bool false, .slice none 0 0, .int .i64 0, .slice none 0 0, .slice none 0 0, .slice none 0 0, .slice none 0 0] 29)) := (below_alloc w _).alloc (by simp) _
  refine (repFaultRef_a _ _ _ _ _ r _ B (HV.out.below h0) 0 HF.out).mono ?_; rintro en w1 ⟨rfl, h1⟩
  have hs : Blk w1 w.heap.size 29 #[.int .i64 r.me, .int .i64 r.kept.view, .int .i64 r.kept.normal, .bool r.kept.calm, .slice A0 n0 c0, .int .i64 r.kept.commit, .slice A1 r.have_.length c1, .slice A2 r.wants.length c2, .slice A3 r.gives.length c3, .slice A4 r.given.length c4] := ((Blk.new w _ _).alloc _).same h1
  have hz : Blk w1 (w.heap.size + 1) 29 #[.int .i64 0, .int .i64 0, .int .i64 0, .bool false, .slice none 0 0, .int .i64 0, .slice none 0 0, .slice none 0 0, .slice none 0 0, .slice none 0 0] := (Blk.new' (by simp)).same h1
  have hb := h0.trans (h1.mono h0.size)
  have H1 := Lib.hid (And.intro hs (And.intro hz hb))
  have s0 := hs.cell 0
  have s1 := hs.cell 1
  have s2 := hs.cell 2
  have s3 := hs.cell 3
  have s4 := hs.cell 4
  have s5 := hs.cell 5
  have s6 := hs.cell 6
  have s7 := hs.cell 7
  have s8 := hs.cell 8
  have s9 := hs.cell 9
  simp only [List.getElem?_toArray, List.getElem?_cons_zero, List.getElem?_cons_succ] at s0 s1 s2 s3 s4 s5 s6 s7 s8 s9
  have sz := hs.frozen
  have sl := hs.lt
  clear h1 h0 hs hz hb HF
  have hz := H1.out.2.1
  have z0 := hz.cell 0
  have z1 := hz.cell 1
  have z2 := hz.cell 2
  have z3 := hz.cell 3
  have z4 := hz.cell 4
  have z5 := hz.cell 5
  have z6 := hz.cell 6
  have z7 := hz.cell 7
  have z8 := hz.cell 8
  have z9 := hz.cell 9
  simp only [List.getElem?_toArray, List.getElem?_cons_zero, List.getElem?_cons_succ] at z0 z1 z2 z3 z4 z5 z6 z7 z8 z9
  have zz := hz.frozen
  have zl := hz.lt
  have hr := blk_set10 (a0 := .int .i64 0) (a1 := .int .i64 0) (a2 := .int .i64 0) (a3 := .bool false) (a4 := .slice none 0 0) (a5 := .int .i64 0) (a6 := .slice none 0 0) (a7 := .slice none 0 0) (a8 := .slice none 0 0) (a9 := .slice none 0 0) hz
  have r0 := hr.cell 0
  have r1 := hr.cell 1
  have r2 := hr.cell 2
  have r3 := hr.cell 3
  have r4 := hr.cell 4
  have r5 := hr.cell 5
  have r6 := hr.cell 6
  have r7 := hr.cell 7
  have r8 := hr.cell 8
  have r9 := hr.cell 9
  simp only [List.getElem?_toArray, List.getElem?_cons_zero, List.getElem?_cons_succ] at r0 r1 r2 r3 r4 r5 r6 r7 r8 r9
  have rz := hr.frozen
  have rl := hr.lt
  go_wp2
  refine bodyPost_ret (v := .tuple #[.agg #[.int .i64 0, .int .i64 0, .int .i64 0, .bool false, .slice none 0 0, .int .i64 0, .slice none 0 0, .slice none 0 0, .slice none 0 0, .slice none 0 0], .slice none 0 0, .int .i64 7]) (by simp [results, Try.results15, go_sem, r0, r1, r2, r3, r4, r5, r6, r7, r8, r9]) rfl ?_
  exact ⟨tell_zero _ _, below_set10 H1.out.2.2 (by omega)⟩
theorem alarmed_3 (lv hv wv gv nv : Value) (r : Scu.Replica) (w : World) (B : Nat) (hr : IsRep w B lv hv wv gv nv r) (hf : Scu.repFault r = 0) (hm : r.kept.view < 1048576) (rr : Scu.Replica) (ms : List Scu.Message) (hrr : Scu.want r (r.kept.view + 1) = (rr, ms)) :
    Calls Try.prog 15 #[.agg #[.int .i64 r.me, .int .i64 r.kept.view, .int .i64 r.kept.normal, .bool r.kept.calm, lv, .int .i64 r.kept.commit, hv, wv, gv, nv]] w fun e w' => TellRet w' rr ms 0 e ∧ Below w.heap.size w w' := by
  have hmb : decide (1048576 ≤ r.kept.view) = false := by simp; omega
  have HRR := Lib.hid (And.intro hrr (rep_three hf))
  clear hrr
  have hvw := rep_view hf
  have HV := Lib.hid hr
  have HF := Lib.hid hf
  obtain ⟨A0, n0, c0, A1, c1, A2, c2, A3, c3, A4, c4, rfl, rfl, rfl, rfl, rfl⟩ := hr.forms
  clear hr hf
  go_enter Try.func15, Try.ntmps15
  go_wp2_with fail
  have h0 : Below w.heap.size w ((w.alloc (Obj.cells #[.int .i64 r.me, .int .i64 r.kept.view, .int .i64 r.kept.normal, .bool r.kept.calm, .slice A0 n0 c0, .int .i64 r.kept.commit, .slice A1 r.have_.length c1, .slice A2 r.wants.length c2, .slice A3 r.gives.length c3, .slice A4 r.given.length c4] 29)).alloc (Obj.cells #[.int .i64 0, .int .i64 0, .int .i64 0, .bool false, .slice none 0 0, .int .i64 0, .slice none 0 0, .slice none 0 0, .slice none 0 0, .slice none 0 0] 29)) := (below_alloc w _).alloc (by simp) _
  refine (repFaultRef_a _ _ _ _ _ r _ B (HV.out.below h0) 0 HF.out).mono ?_; rintro en w1 ⟨rfl, h1⟩
  have hs : Blk w1 w.heap.size 29 #[.int .i64 r.me, .int .i64 r.kept.view, .int .i64 r.kept.normal, .bool r.kept.calm, .slice A0 n0 c0, .int .i64 r.kept.commit, .slice A1 r.have_.length c1, .slice A2 r.wants.length c2, .slice A3 r.gives.length c3, .slice A4 r.given.length c4] := ((Blk.new w _ _).alloc _).same h1
  have hz : Blk w1 (w.heap.size + 1) 29 #[.int .i64 0, .int .i64 0, .int .i64 0, .bool false, .slice none 0 0, .int .i64 0, .slice none 0 0, .slice none 0 0, .slice none 0 0, .slice none 0 0] := (Blk.new' (by simp)).same h1
  have hb := h0.trans (h1.mono h0.size)
  have H1 := Lib.hid (And.intro hs (And.intro hz hb))
  have s0 := hs.cell 0
  have s1 := hs.cell 1
  have s2 := hs.cell 2
  have s3 := hs.cell 3
  have s4 := hs.cell 4
  have s5 := hs.cell 5
  have s6 := hs.cell 6
  have s7 := hs.cell 7
  have s8 := hs.cell 8
  have s9 := hs.cell 9
  simp only [List.getElem?_toArray, List.getElem?_cons_zero, List.getElem?_cons_succ] at s0 s1 s2 s3 s4 s5 s6 s7 s8 s9
  have sz := hs.frozen
  have sl := hs.lt
  clear h1 h0 hs hz hb HF
  go_upto_region 6 with fail
  go_wp2_with fail
  refine (repCopyRef_c A0 n0 c0 A1 c1 A2 c2 A3 r.gives.length c3 A4 c4 r _ B (HV.out.below H1.out.2.2)).mono ?_; rintro en w2 ⟨⟨lu, hu, wu, gu, nu, rfl, ho, hap⟩, h2⟩
  obtain ⟨E0, m0, d0, E1, d1, E2, d2, E3, d3, E4, d4, rfl, rfl, rfl, rfl, rfl⟩ := ho.is.forms
  obtain ⟨Wc, hWc⟩ : ∃ W, W = w2.alloc (Obj.cells #[.int .i64 r.me, .int .i64 r.kept.view, .int .i64 r.kept.normal, .bool r.kept.calm, .slice E0 m0 d0, .int .i64 r.kept.commit, .slice E1 r.have_.length d1, .slice E2 r.wants.length d2, .slice E3 r.gives.length d3, .slice E4 r.given.length d4] 29) := ⟨_, rfl⟩
  have hbc : Below w2.heap.size w2 Wc := by rw [hWc]; exact below_alloc _ _
  have hcp : Blk Wc w2.heap.size 29 #[.int .i64 r.me, .int .i64 r.kept.view, .int .i64 r.kept.normal, .bool r.kept.calm, .slice E0 m0 d0, .int .i64 r.kept.commit, .slice E1 r.have_.length d1, .slice E2 r.wants.length d2, .slice E3 r.gives.length d3, .slice E4 r.given.length d4] := by rw [hWc]; exact Blk.new _ _ _
  have hsz := H1.out.2.2.size
  have hs1 := H1.out.1.lt
  have hs2 := H1.out.2.1.lt
  have HC := Lib.hid (show Blk Wc w.heap.size 29 #[.int .i64 r.me, .int .i64 r.kept.view, .int .i64 r.kept.normal, .bool r.kept.calm, .slice A0 n0 c0, .int .i64 r.kept.commit, .slice A1 r.have_.length c1, .slice A2 r.wants.length c2, .slice A3 r.gives.length c3, .slice A4 r.given.length c4] ∧ Blk Wc (w.heap.size + 1) 29 #[.int .i64 0, .int .i64 0, .int .i64 0, .bool false, .slice none 0 0, .int .i64 0, .slice none 0 0, .slice none 0 0, .slice none 0 0, .slice none 0 0] ∧ Below w.heap.size w Wc ∧ OwnRep Wc w1.heap.size (.slice E0 m0 d0) (.slice E1 r.have_.length d1) (.slice E2 r.wants.length d2) (.slice E3 r.gives.length d3) (.slice E4 r.given.length d4) r ∧ w1.heap.size ≤ w2.heap.size from ⟨(H1.out.1.same h2).same hbc, (H1.out.2.1.same h2).same hbc, H1.out.2.2.trans ((h2.trans (hbc.mono h2.size)).mono hsz), ho.below hbc, h2.size⟩)
  go_upto_region 7 with fail
  rw [← hWc]
  clear hWc s0 s1 s2 s3 s4 s5 s6 s7 s8 s9 sz sl hs1 hs2 ho hap h2 hsz
  have hsc := HC.out.1
  have s0 := hsc.cell 0
  have s1 := hsc.cell 1
  have s2 := hsc.cell 2
  have s3 := hsc.cell 3
  have s4 := hsc.cell 4
  have s5 := hsc.cell 5
  have s6 := hsc.cell 6
  have s7 := hsc.cell 7
  have s8 := hsc.cell 8
  have s9 := hsc.cell 9
  simp only [List.getElem?_toArray, List.getElem?_cons_zero, List.getElem?_cons_succ] at s0 s1 s2 s3 s4 s5 s6 s7 s8 s9
  have sz := hsc.frozen
  have sl := hsc.lt
  have hlt1 : w.heap.size + 1 < w1.heap.size := H1.out.2.1.lt
  have HCP := Lib.hid (And.intro hcp hbc)
  clear hsc hcp hbc
  go_wp2_with fail
  refine (wanted_c w2.heap.size r _ _ _ _ _ (r.kept.view + 1) w1.heap.size Wc HCP.out.1 HC.out.2.2.2.1.own.log HC.out.2.2.2.2 HRR.out.2.2.2.2.2.1 HRR.out.2.2.2.2.2.2 rr ms HRR.out.1).mono ?_; rintro en x1 ⟨⟨Ao, co, css, hu', wu', gu', nu', rfl, hB, hown, hmo⟩, h3⟩
  obtain ⟨F0, p0, q0, E1', d1', E2', d2', E3', d3', E4', d4', e0, rfl, rfl, rfl, rfl⟩ := hown.is.forms
  cases e0
  have H3 := Lib.hid (show Below w.heap.size w x1 ∧ Blk x1 (w.heap.size + 1) 29 #[.int .i64 0, .int .i64 0, .int .i64 0, .bool false, .slice none 0 0, .int .i64 0, .slice none 0 0, .slice none 0 0, .slice none 0 0, .slice none 0 0] ∧ IsRep x1 0 (.slice E0 m0 d0) (.slice E1' rr.have_.length d1') (.slice E2' rr.wants.length d2') (.slice E3' rr.gives.length d3') (.slice E4' rr.given.length d4') rr ∧ IsRow 41 8 80 MsgE x1 0 (.slice Ao ms.length co) ms from
    ⟨HC.out.2.2.1.trans (h3.mono (by omega)), HC.out.2.1.below h3 (by omega), hown.is, hmo.is⟩)
  have hz1 := H3.out.2.1
  have o0 := hB.cell 0
  have o1 := hB.cell 1
  have o2 := hB.cell 2
  have o3 := hB.cell 3
  have o4 := hB.cell 4
  have o5 := hB.cell 5
  have o6 := hB.cell 6
  have o7 := hB.cell 7
  have o8 := hB.cell 8
  have o9 := hB.cell 9
  simp only [List.getElem?_toArray, List.getElem?_cons_zero, List.getElem?_cons_succ] at o0 o1 o2 o3 o4 o5 o6 o7 o8 o9
  have oz := hB.frozen
  have ol := hB.lt
  have z0 := hz1.cell 0
  have z1 := hz1.cell 1
  have z2 := hz1.cell 2
  have z3 := hz1.cell 3
  have z4 := hz1.cell 4
  have z5 := hz1.cell 5
  have z6 := hz1.cell 6
  have z7 := hz1.cell 7
  have z8 := hz1.cell 8
  have z9 := hz1.cell 9
  simp only [List.getElem?_toArray, List.getElem?_cons_zero, List.getElem?_cons_succ] at z0 z1 z2 z3 z4 z5 z6 z7 z8 z9
  have zz := hz1.frozen
  have zl := hz1.lt
  clear hB hown hmo h3 s0 s1 s2 s3 s4 s5 s6 s7 s8 s9 sz sl
  have hr := blk_set10 (a0 := .int .i64 rr.me) (a1 := .int .i64 rr.kept.view) (a2 := .int .i64 rr.kept.normal) (a3 := .bool rr.kept.calm) (a4 := .slice E0 m0 d0) (a5 := .int .i64 rr.kept.commit) (a6 := .slice E1' rr.have_.length d1') (a7 := .slice E2' rr.wants.length d2') (a8 := .slice E3' rr.gives.length d3') (a9 := .slice E4' rr.given.length d4') hz1
  have hsm := Same.sets10 (Ts := [9, 3, 4, 24, 41]) (B := 0) (a0 := .int .i64 rr.me) (a1 := .int .i64 rr.kept.view) (a2 := .int .i64 rr.kept.normal) (a3 := .bool rr.kept.calm) (a4 := .slice E0 m0 d0) (a5 := .int .i64 rr.kept.commit) (a6 := .slice E1' rr.have_.length d1') (a7 := .slice E2' rr.wants.length d2') (a8 := .slice E3' rr.gives.length d3') (a9 := .slice E4' rr.given.length d4') hz1 (Nat.zero_le _) (by decide)
  have hT := IsRep.same H3.out.2.2.1 (hsm.mono (by simp) (Nat.le_refl _))
  have hO := IsRow.same (Ts := [9, 41]) H3.out.2.2.2 (by simp) (hsm.mono (by simp) (Nat.le_refl _)) (fun _ _ h => h.same (Ts := [9, 41]) (by simp) (hsm.mono (by simp) (Nat.le_refl _)))
  have hL := below_set10 (a0 := .int .i64 rr.me) (a1 := .int .i64 rr.kept.view) (a2 := .int .i64 rr.kept.normal) (a3 := .bool rr.kept.calm) (a4 := .slice E0 m0 d0) (a5 := .int .i64 rr.kept.commit) (a6 := .slice E1' rr.have_.length d1') (a7 := .slice E2' rr.wants.length d2') (a8 := .slice E3' rr.gives.length d3') (a9 := .slice E4' rr.given.length d4') H3.out.1 (show w.heap.size ≤ w.heap.size + 1 by omega)
  have r0 := hr.cell 0
  have r1 := hr.cell 1
  have r2 := hr.cell 2
  have r3 := hr.cell 3
  have r4 := hr.cell 4
  have r5 := hr.cell 5
  have r6 := hr.cell 6
  have r7 := hr.cell 7
  have r8 := hr.cell 8
  have r9 := hr.cell 9
  simp only [List.getElem?_toArray, List.getElem?_cons_zero, List.getElem?_cons_succ] at r0 r1 r2 r3 r4 r5 r6 r7 r8 r9
  have rz := hr.frozen
  have rl := hr.lt
  have HT := Lib.hid (And.intro hT (And.intro hO hL))
  clear hr hsm hT hO hL hz1
  go_wp2
  refine bodyPost_ret (v := .tuple #[.agg #[.int .i64 rr.me, .int .i64 rr.kept.view, .int .i64 rr.kept.normal, .bool rr.kept.calm, .slice E0 m0 d0, .int .i64 rr.kept.commit, .slice E1' rr.have_.length d1', .slice E2' rr.wants.length d2', .slice E3' rr.gives.length d3', .slice E4' rr.given.length d4'], .slice Ao ms.length co, .int .i64 0]) (by simp [results, Try.results15, go_sem, r0, r1, r2, r3, r4, r5, r6, r7, r8, r9]) rfl ?_
  first
  | exact ⟨⟨_, _, _, _, _, _, rfl, HT.out.1, HT.out.2.1⟩, HT.out.2.2⟩
  | exact ⟨⟨_, _, _, _, _, _, rfl, HT.out.1.same (Same.drew _), HT.out.2.1.same (Ts := [9, 41]) (by simp) (Same.drew _) (fun _ _ h => h.same (Ts := [9]) (by simp) (Same.drew _))⟩, HT.out.2.2.drew⟩
theorem alarmed_c (lv hv wv gv nv : Value) (r : Scu.Replica) (w : World) (B : Nat) (hr : IsRep w B lv hv wv gv nv r) :
    Calls Try.prog 15 #[.agg #[.int .i64 r.me, .int .i64 r.kept.view, .int .i64 r.kept.normal, .bool r.kept.calm, lv, .int .i64 r.kept.commit, hv, wv, gv, nv]] w fun e w' => TellRet w' (Scu.alarm r).1 (Scu.alarm r).2.1 (Scu.alarm r).2.2 e ∧ Below w.heap.size w w' := by
  by_cases hf : Scu.repFault r = 0
  · have hvm : r.kept.view ≤ 1048576 := (Scu.keptFault_ok (Scu.repFault_ok hf).2.2.2.2.2.2.2).2.1
    by_cases hm : r.kept.view = 1048576
    · have e : Scu.alarm r = (Scu.replica0, [], 7) := by unfold Scu.alarm; rw [if_neg (fun h => h hf), if_pos hm]
      rw [e]
      exact alarmed_2 lv hv wv gv nv r w B hr hf hm
    · have e : Scu.alarm r = ((Scu.want r (r.kept.view + 1)).1, (Scu.want r (r.kept.view + 1)).2, 0) := by unfold Scu.alarm; rw [if_neg (fun h => h hf), if_neg hm]
      rw [e]
      exact alarmed_3 lv hv wv gv nv r w B hr hf (by omega) _ _ rfl
  · have e : Scu.alarm r = (Scu.replica0, [], Scu.repFault r) := by unfold Scu.alarm; rw [if_pos hf]
    rw [e]
    exact alarmed_1 lv hv wv gv nv r w B hr _ rfl hf
end Go.Proofs.Ytjbhkmadcjnbfaa
/- Walks: replica.Alarm. -/
namespace Go.Proofs.Ytjbhkmadcjnbfaa
open Go.RowKit
set_option maxHeartbeats 2000000
set_option maxRecDepth 100000

theorem alarm_1 (lv hv wv gv nv : Value) (r : Scu.Replica) (w : World) (B : Nat) (hr : IsRep w B lv hv wv gv nv r) (f : Int) (hf : Scu.repFault r = f) (hn : f ≠ 0) :
    Calls Try.prog 14 #[.agg #[.int .i64 r.me, .int .i64 r.kept.view, .int .i64 r.kept.normal, .bool r.kept.calm, lv, .int .i64 r.kept.commit, hv, wv, gv, nv]] w fun e w' => TellRet w' Scu.replica0 [] f e ∧ Below w.heap.size w w' := by
  have hfb : (f != 0) = true := by simpa using hn
  have HN := Lib.hid hn
  clear hn
  have HV := Lib.hid hr
  have HF := Lib.hid hf
  obtain ⟨A0, n0, c0, A1, c1, A2, c2, A3, c3, A4, c4, rfl, rfl, rfl, rfl, rfl⟩ := hr.forms
  clear hr hf
  go_enter Try.func14, Try.ntmps14
  go_wp2_with fail
  have h0 : Below w.heap.size w ((w.alloc (Obj.cells #[.int .i64 r.me, .int .i64 r.kept.view, .int .i64 r.kept.normal, .bool r.kept.calm, .slice A0 n0 c0, .int .i64 r.kept.commit, .slice A1 r.have_.length c1, .slice A2 r.wants.length c2, .slice A3 r.gives.length c3, .slice A4 r.given.length c4] 29)).alloc (Obj.cells #[.int .i64 0, .int .i64 0, .int .i64 0, .bool false, .slice none 0 0, .int .i64 0, .slice none 0 0, .slice none 0 0, .slice none 0 0, .slice none 0 0] 29)) := (below_alloc w _).alloc (by simp) _
  refine (begin_1 _ _ _ _ _ r _ B (HV.out.below h0) f HF.out HN.out).mono ?_; rintro en w1 ⟨rfl, h1⟩
  have hz : Blk w1 (w.heap.size + 1) 29 #[.int .i64 0, .int .i64 0, .int .i64 0, .bool false, .slice none 0 0, .int .i64 0, .slice none 0 0, .slice none 0 0, .slice none 0 0, .slice none 0 0] := (Blk.new' (by simp)).same h1
  have hb := h0.trans (h1.mono h0.size)
  have z0 := hz.cell 0
  have z1 := hz.cell 1
  have z2 := hz.cell 2
  have z3 := hz.cell 3
  have z4 := hz.cell 4
  have z5 := hz.cell 5
  have z6 := hz.cell 6
  have z7 := hz.cell 7
  have z8 := hz.cell 8
  have z9 := hz.cell 9
  simp only [List.getElem?_toArray, List.getElem?_cons_zero, List.getElem?_cons_succ] at z0 z1 z2 z3 z4 z5 z6 z7 z8 z9
  have zz := hz.frozen
  have zl := hz.lt
  have hr := blk_set10 (a0 := .int .i64 0) (a1 := .int .i64 0) (a2 := .int .i64 0) (a3 := .bool false) (a4 := .slice none 0 0) (a5 := .int .i64 0) (a6 := .slice none 0 0) (a7 := .slice none 0 0) (a8 := .slice none 0 0) (a9 := .slice none 0 0) hz
  have r0 := hr.cell 0
  have r1 := hr.cell 1
  have r2 := hr.cell 2
  have r3 := hr.cell 3
  have r4 := hr.cell 4
  have r5 := hr.cell 5
  have r6 := hr.cell 6
  have r7 := hr.cell 7
  have r8 := hr.cell 8
  have r9 := hr.cell 9
  simp only [List.getElem?_toArray, List.getElem?_cons_zero, List.getElem?_cons_succ] at r0 r1 r2 r3 r4 r5 r6 r7 r8 r9
  have rz := hr.frozen
  have rl := hr.lt
  clear h1 h0
  go_wp2
  refine bodyPost_ret (v := .tuple #[.agg #[.int .i64 0, .int .i64 0, .int .i64 0, .bool false, .slice none 0 0, .int .i64 0, .slice none 0 0, .slice none 0 0, .slice none 0 0, .slice none 0 0], .slice none 0 0, .int .i64 f]) (by simp [results, Try.results14, go_sem, r0, r1, r2, r3, r4, r5, r6, r7, r8, r9]) rfl ?_
  exact ⟨tell_zero _ _, below_set10 hb (by omega)⟩
theorem alarm_2 (lv hv wv gv nv : Value) (r : Scu.Replica) (w : World) (B : Nat) (hr : IsRep w B lv hv wv gv nv r) (hf : Scu.repFault r = 0) (hm : r.kept.view = 1048576) :
    Calls Try.prog 14 #[.agg #[.int .i64 r.me, .int .i64 r.kept.view, .int .i64 r.kept.normal, .bool r.kept.calm, lv, .int .i64 r.kept.commit, hv, wv, gv, nv]] w fun e w' => TellRet w' Scu.replica0 [] 7 e ∧ Below w.heap.size w w' := by
  have hmb : (r.kept.view == 1048576) = true := by simpa using hm
  clear hm
  have hvw := rep_view hf
  have HV := Lib.hid hr
  have HF := Lib.hid hf
  obtain ⟨A0, n0, c0, A1, c1, A2, c2, A3, c3, A4, c4, rfl, rfl, rfl, rfl, rfl⟩ := hr.forms
  clear hr hf
  go_enter Try.func14, Try.ntmps14
  go_wp2_with fail
  have h0 : Below w.heap.size w ((w.alloc (Obj.cells #[.int .i64 r.me, .int .i64 r.kept.view, .int .i64 r.kept.normal, .bool r.kept.calm, .slice A0 n0 c0, .int .i64 r.kept.commit, .slice A1 r.have_.length c1, .slice A2 r.wants.length c2, .slice A3 r.gives.length c3, .slice A4 r.given.length c4] 29)).alloc (Obj.cells #[.int .i64 0, .int .i64 0, .int .i64 0, .bool false, .slice none 0 0, .int .i64 0, .slice none 0 0, .slice none 0 0, .slice none 0 0, .slice none 0 0] 29)) := (below_alloc w _).alloc (by simp) _
  refine (begin_2 _ _ _ _ _ r _ B (HV.out.below h0) HF.out).mono ?_; rintro en w1 ⟨⟨gw, gr, lu, hu, wu, gu, nu, rfl, hW, hap⟩, h1⟩
  have e2 : ((w.alloc (Obj.cells #[.int .i64 r.me, .int .i64 r.kept.view, .int .i64 r.kept.normal, .bool r.kept.calm, .slice A0 n0 c0, .int .i64 r.kept.commit, .slice A1 r.have_.length c1, .slice A2 r.wants.length c2, .slice A3 r.gives.length c3, .slice A4 r.given.length c4] 29)).alloc (Obj.cells #[.int .i64 0, .int .i64 0, .int .i64 0, .bool false, .slice none 0 0, .int .i64 0, .slice none 0 0, .slice none 0 0, .slice none 0 0, .slice none 0 0] 29)).heap.size = w.heap.size + 2 := by simp
  rw [e2] at hW hap
  have hs : Blk w1 w.heap.size 29 #[.int .i64 r.me, .int .i64 r.kept.view, .int .i64 r.kept.normal, .bool r.kept.calm, .slice A0 n0 c0, .int .i64 r.kept.commit, .slice A1 r.have_.length c1, .slice A2 r.wants.length c2, .slice A3 r.gives.length c3, .slice A4 r.given.length c4] := ((Blk.new w _ _).alloc _).same h1
  have hz : Blk w1 (w.heap.size + 1) 29 #[.int .i64 0, .int .i64 0, .int .i64 0, .bool false, .slice none 0 0, .int .i64 0, .slice none 0 0, .slice none 0 0, .slice none 0 0, .slice none 0 0] := (Blk.new' (by simp)).same h1
  have hb := h0.trans (h1.mono h0.size)
  have hsz : w.heap.size + 2 ≤ w1.heap.size := by have := h1.size; rw [e2] at this; exact this
  have H1 := Lib.hid (And.intro hW (And.intro hs (And.intro hz (And.intro hb (And.intro hsz hap)))))
  clear h1 h0 hs hz hb hW e2 hsz HF hap
  have hs := H1.out.2.1
  have s1 := hs.cell 1
  simp only [List.getElem?_toArray, List.getElem?_cons_zero, List.getElem?_cons_succ] at s1
  have sl := hs.lt
  have hz := H1.out.2.2.1
  have z0 := hz.cell 0
  have z1 := hz.cell 1
  have z2 := hz.cell 2
  have z3 := hz.cell 3
  have z4 := hz.cell 4
  have z5 := hz.cell 5
  have z6 := hz.cell 6
  have z7 := hz.cell 7
  have z8 := hz.cell 8
  have z9 := hz.cell 9
  simp only [List.getElem?_toArray, List.getElem?_cons_zero, List.getElem?_cons_succ] at z0 z1 z2 z3 z4 z5 z6 z7 z8 z9
  have zz := hz.frozen
  have zl := hz.lt
  have hr := blk_set10 (a0 := .int .i64 0) (a1 := .int .i64 0) (a2 := .int .i64 0) (a3 := .bool false) (a4 := .slice none 0 0) (a5 := .int .i64 0) (a6 := .slice none 0 0) (a7 := .slice none 0 0) (a8 := .slice none 0 0) (a9 := .slice none 0 0) hz
  have r0 := hr.cell 0
  have r1 := hr.cell 1
  have r2 := hr.cell 2
  have r3 := hr.cell 3
  have r4 := hr.cell 4
  have r5 := hr.cell 5
  have r6 := hr.cell 6
  have r7 := hr.cell 7
  have r8 := hr.cell 8
  have r9 := hr.cell 9
  simp only [List.getElem?_toArray, List.getElem?_cons_zero, List.getElem?_cons_succ] at r0 r1 r2 r3 r4 r5 r6 r7 r8 r9
  have rz := hr.frozen
  have rl := hr.lt
  clear hs
  go_wp2
  refine bodyPost_ret (v := .tuple #[.agg #[.int .i64 0, .int .i64 0, .int .i64 0, .bool false, .slice none 0 0, .int .i64 0, .slice none 0 0, .slice none 0 0, .slice none 0 0, .slice none 0 0], .slice none 0 0, .int .i64 7]) (by simp [results, Try.results14, go_sem, r0, r1, r2, r3, r4, r5, r6, r7, r8, r9]) rfl ?_
  exact ⟨tell_zero _ _, below_set10 H1.out.2.2.2.1 (by omega)⟩
theorem alarm_3 (lv hv wv gv nv : Value) (r : Scu.Replica) (w : World) (B : Nat) (hr : IsRep w B lv hv wv gv nv r) (hf : Scu.repFault r = 0) (hm : r.kept.view ≠ 1048576) (rr : Scu.Replica) (ms : List Scu.Message) (hrr : Scu.want r (r.kept.view + 1) = (rr, ms)) :
    Calls Try.prog 14 #[.agg #[.int .i64 r.me, .int .i64 r.kept.view, .int .i64 r.kept.normal, .bool r.kept.calm, lv, .int .i64 r.kept.commit, hv, wv, gv, nv]] w fun e w' => TellRet w' rr ms 0 e ∧ Below w.heap.size w w' := by
  have hmb : (r.kept.view == 1048576) = false := by simpa using hm
  have hvm : r.kept.view ≤ 1048576 := (Scu.keptFault_ok (Scu.repFault_ok hf).2.2.2.2.2.2.2).2.1
  have H3 := Lib.hid (And.intro (rep_three hf) hrr)
  clear hm hrr
  have hvw := rep_view hf
  have HV := Lib.hid hr
  have HF := Lib.hid hf
  obtain ⟨A0, n0, c0, A1, c1, A2, c2, A3, c3, A4, c4, rfl, rfl, rfl, rfl, rfl⟩ := hr.forms
  clear hr hf
  go_enter Try.func14, Try.ntmps14
  go_wp2_with fail
  have h0 : Below w.heap.size w ((w.alloc (Obj.cells #[.int .i64 r.me, .int .i64 r.kept.view, .int .i64 r.kept.normal, .bool r.kept.calm, .slice A0 n0 c0, .int .i64 r.kept.commit, .slice A1 r.have_.length c1, .slice A2 r.wants.length c2, .slice A3 r.gives.length c3, .slice A4 r.given.length c4] 29)).alloc (Obj.cells #[.int .i64 0, .int .i64 0, .int .i64 0, .bool false, .slice none 0 0, .int .i64 0, .slice none 0 0, .slice none 0 0, .slice none 0 0, .slice none 0 0] 29)) := (below_alloc w _).alloc (by simp) _
  refine (begin_2 _ _ _ _ _ r _ B (HV.out.below h0) HF.out).mono ?_; rintro en w1 ⟨⟨gw, gr, lu, hu, wu, gu, nu, rfl, hW, hap⟩, h1⟩
  have e2 : ((w.alloc (Obj.cells #[.int .i64 r.me, .int .i64 r.kept.view, .int .i64 r.kept.normal, .bool r.kept.calm, .slice A0 n0 c0, .int .i64 r.kept.commit, .slice A1 r.have_.length c1, .slice A2 r.wants.length c2, .slice A3 r.gives.length c3, .slice A4 r.given.length c4] 29)).alloc (Obj.cells #[.int .i64 0, .int .i64 0, .int .i64 0, .bool false, .slice none 0 0, .int .i64 0, .slice none 0 0, .slice none 0 0, .slice none 0 0, .slice none 0 0] 29)).heap.size = w.heap.size + 2 := by simp
  rw [e2] at hW hap
  have hs : Blk w1 w.heap.size 29 #[.int .i64 r.me, .int .i64 r.kept.view, .int .i64 r.kept.normal, .bool r.kept.calm, .slice A0 n0 c0, .int .i64 r.kept.commit, .slice A1 r.have_.length c1, .slice A2 r.wants.length c2, .slice A3 r.gives.length c3, .slice A4 r.given.length c4] := ((Blk.new w _ _).alloc _).same h1
  have hz : Blk w1 (w.heap.size + 1) 29 #[.int .i64 0, .int .i64 0, .int .i64 0, .bool false, .slice none 0 0, .int .i64 0, .slice none 0 0, .slice none 0 0, .slice none 0 0, .slice none 0 0] := (Blk.new' (by simp)).same h1
  have hb := h0.trans (h1.mono h0.size)
  have hsz : w.heap.size + 2 ≤ w1.heap.size := by have := h1.size; rw [e2] at this; exact this
  have H1 := Lib.hid (And.intro hW (And.intro hs (And.intro hz (And.intro hb (And.intro hsz hap)))))
  clear h1 h0 hs hz hb hW e2 hsz HF hap
  have hs := H1.out.2.1
  have s1 := hs.cell 1
  simp only [List.getElem?_toArray, List.getElem?_cons_zero, List.getElem?_cons_succ] at s1
  have sl := hs.lt
  clear hs
  go_wp2_with fail
  refine (want_e w1 (w.heap.size + 2) gw gr r (r.kept.view + 1) [] H1.out.1.e H1.out.2.2.2.2.1 H3.out.1 (by simp [R47])).mono ?_; rintro en w3 ⟨rfl, hw3, h3⟩
  rw [List.nil_append, H3.out.2] at hw3
  have hz3 : Blk w3 (w.heap.size + 1) 29 #[.int .i64 0, .int .i64 0, .int .i64 0, .bool false, .slice none 0 0, .int .i64 0, .slice none 0 0, .slice none 0 0, .slice none 0 0, .slice none 0 0] := H1.out.2.2.1.below h3 (by omega)
  have hb3 : Below w.heap.size w w3 := H1.out.2.2.2.1.trans (h3.mono (by omega))
  clear h3 s1 sl
  obtain ⟨lu3, hv3, wv3, gv3, nv3, ov3, css3, hw3⟩ := hw3
  obtain ⟨Ao, co, rfl⟩ := hw3.out.form
  obtain ⟨E0, m0, d0, E1, d1, E2, d2, E3, d3, E4, d4, rfl, rfl, rfl, rfl, rfl⟩ := hw3.own.is.forms
  have hwb := hw3.wb
  have hrb := hw3.rb
  have f0 := hwb.cell 0
  have f1 := hwb.cell 1
  simp only [List.getElem?_toArray, List.getElem?_cons_zero, List.getElem?_cons_succ] at f0 f1
  have fl := hwb.lt
  have k0 := hrb.cell 0
  have k1 := hrb.cell 1
  have k2 := hrb.cell 2
  have k3 := hrb.cell 3
  have k4 := hrb.cell 4
  have k5 := hrb.cell 5
  have k6 := hrb.cell 6
  have k7 := hrb.cell 7
  have k8 := hrb.cell 8
  have k9 := hrb.cell 9
  simp only [List.getElem?_toArray, List.getElem?_cons_zero, List.getElem?_cons_succ] at k0 k1 k2 k3 k4 k5 k6 k7 k8 k9
  have kz := hrb.frozen
  have kl := hrb.lt
  have z0 := hz3.cell 0
  have z1 := hz3.cell 1
  have z2 := hz3.cell 2
  have z3 := hz3.cell 3
  have z4 := hz3.cell 4
  have z5 := hz3.cell 5
  have z6 := hz3.cell 6
  have z7 := hz3.cell 7
  have z8 := hz3.cell 8
  have z9 := hz3.cell 9
  simp only [List.getElem?_toArray, List.getElem?_cons_zero, List.getElem?_cons_succ] at z0 z1 z2 z3 z4 z5 z6 z7 z8 z9
  have zz := hz3.frozen
  have zl := hz3.lt
  have hr := blk_set10 (a0 := .int .i64 rr.me) (a1 := .int .i64 rr.kept.view) (a2 := .int .i64 rr.kept.normal) (a3 := .bool rr.kept.calm) (a4 := .slice E0 m0 d0) (a5 := .int .i64 rr.kept.commit) (a6 := .slice E1 rr.have_.length d1) (a7 := .slice E2 rr.wants.length d2) (a8 := .slice E3 rr.gives.length d3) (a9 := .slice E4 rr.given.length d4) hz3
  have hsm := Same.sets10 (Ts := [9, 3, 4, 24, 41, 52]) (B := 0) (a0 := .int .i64 rr.me) (a1 := .int .i64 rr.kept.view) (a2 := .int .i64 rr.kept.normal) (a3 := .bool rr.kept.calm) (a4 := .slice E0 m0 d0) (a5 := .int .i64 rr.kept.commit) (a6 := .slice E1 rr.have_.length d1) (a7 := .slice E2 rr.wants.length d2) (a8 := .slice E3 rr.gives.length d3) (a9 := .slice E4 rr.given.length d4) hz3 (Nat.zero_le _) (by decide)
  have hwb2 := blk_keep hwb hsm (by simp)
  have q0 := hwb2.cell 0
  have q1 := hwb2.cell 1
  simp only [List.getElem?_toArray, List.getElem?_cons_zero, List.getElem?_cons_succ] at q0 q1
  have hT := hw3.own.is.same (hsm.mono (by simp) (Nat.le_refl _))
  have hO := hw3.out.is.same (Ts := [9, 41]) (by simp) (hsm.mono (by simp) (Nat.le_refl _)) (fun _ _ h => h.same (Ts := [9, 41]) (by simp) (hsm.mono (by simp) (Nat.le_refl _)))
  have hL := below_set10 (a0 := .int .i64 rr.me) (a1 := .int .i64 rr.kept.view) (a2 := .int .i64 rr.kept.normal) (a3 := .bool rr.kept.calm) (a4 := .slice E0 m0 d0) (a5 := .int .i64 rr.kept.commit) (a6 := .slice E1 rr.have_.length d1) (a7 := .slice E2 rr.wants.length d2) (a8 := .slice E3 rr.gives.length d3) (a9 := .slice E4 rr.given.length d4) hb3 (show w.heap.size ≤ w.heap.size + 1 by omega)
  have r0 := hr.cell 0
  have r1 := hr.cell 1
  have r2 := hr.cell 2
  have r3 := hr.cell 3
  have r4 := hr.cell 4
  have r5 := hr.cell 5
  have r6 := hr.cell 6
  have r7 := hr.cell 7
  have r8 := hr.cell 8
  have r9 := hr.cell 9
  simp only [List.getElem?_toArray, List.getElem?_cons_zero, List.getElem?_cons_succ] at r0 r1 r2 r3 r4 r5 r6 r7 r8 r9
  have rz := hr.frozen
  have rl := hr.lt
  have HT := Lib.hid (And.intro hT (And.intro hO hL))
  clear hr hsm hT hO hL hwb hrb hw3 hz3 hb3 hwb2
  go_wp2_with fail
  go_region
  go_wp2
  refine bodyPost_ret (v := .tuple #[.agg #[.int .i64 rr.me, .int .i64 rr.kept.view, .int .i64 rr.kept.normal, .bool rr.kept.calm, .slice E0 m0 d0, .int .i64 rr.kept.commit, .slice E1 rr.have_.length d1, .slice E2 rr.wants.length d2, .slice E3 rr.gives.length d3, .slice E4 rr.given.length d4], .slice Ao ms.length co, .int .i64 0]) (by simp [results, Try.results14, go_sem, r0, r1, r2, r3, r4, r5, r6, r7, r8, r9]) rfl ?_
  exact ⟨⟨_, _, _, _, _, _, rfl, HT.out.1.same (Same.drew _), HT.out.2.1.same (Ts := [9, 41]) (by simp) (Same.drew _) (fun _ _ h => h.same (Ts := [9]) (by simp) (Same.drew _))⟩, HT.out.2.2.drew⟩
theorem alarm_c (lv hv wv gv nv : Value) (r : Scu.Replica) (w : World) (B : Nat) (hr : IsRep w B lv hv wv gv nv r) :
    Calls Try.prog 14 #[.agg #[.int .i64 r.me, .int .i64 r.kept.view, .int .i64 r.kept.normal, .bool r.kept.calm, lv, .int .i64 r.kept.commit, hv, wv, gv, nv]] w fun e w' => TellRet w' (Scu.alarm r).1 (Scu.alarm r).2.1 (Scu.alarm r).2.2 e ∧ Below w.heap.size w w' := by
  by_cases hf : Scu.repFault r = 0
  · by_cases hm : r.kept.view = 1048576
    · have e : Scu.alarm r = (Scu.replica0, [], 7) := by unfold Scu.alarm; rw [if_neg (fun h => h hf), if_pos hm]
      rw [e]
      exact alarm_2 lv hv wv gv nv r w B hr hf hm
    · have e : Scu.alarm r = ((Scu.want r (r.kept.view + 1)).1, (Scu.want r (r.kept.view + 1)).2, 0) := by unfold Scu.alarm; rw [if_neg (fun h => h hf), if_neg hm]
      rw [e]
      exact alarm_3 lv hv wv gv nv r w B hr hf hm _ _ rfl
  · have e : Scu.alarm r = (Scu.replica0, [], Scu.repFault r) := by unfold Scu.alarm; rw [if_pos hf]
    rw [e]
    exact alarm_1 lv hv wv gv nv r w B hr _ rfl hf
end Go.Proofs.Ytjbhkmadcjnbfaa
/- The law ReplicaAlarms, walked. -/
namespace Go.Proofs.Ytjbhkmadcjnbfaa
open Go.RowKit
set_option maxHeartbeats 4000000
set_option maxRecDepth 100000

theorem alarm_a (lv hv wv gv nv : Value) (r : Scu.Replica) (w : World) (B : Nat) (hr : IsRep w B lv hv wv gv nv r) (rr : Scu.Replica) (ms : List Scu.Message) (f : Int) (h : Scu.alarm r = (rr, ms, f)) :
    Calls Try.prog 14 #[.agg #[.int .i64 r.me, .int .i64 r.kept.view, .int .i64 r.kept.normal, .bool r.kept.calm, lv, .int .i64 r.kept.commit, hv, wv, gv, nv]] w fun e w' => TellRet w' rr ms f e ∧ Below w.heap.size w w' := by
  have := alarm_c lv hv wv gv nv r w B hr
  rw [h] at this
  exact this
theorem alarmed_a (lv hv wv gv nv : Value) (r : Scu.Replica) (w : World) (B : Nat) (hBw : B ≤ w.heap.size) (hr : IsRep w B lv hv wv gv nv r) (rr : Scu.Replica) (ms : List Scu.Message) (f : Int) (h : Scu.alarm r = (rr, ms, f)) :
    Calls Try.prog 15 #[.agg #[.int .i64 r.me, .int .i64 r.kept.view, .int .i64 r.kept.normal, .bool r.kept.calm, lv, .int .i64 r.kept.commit, hv, wv, gv, nv]] w fun e w' => TellRet w' rr ms f e ∧ Below w.heap.size w w' := by
  have := alarmed_c lv hv wv gv nv r w B hr
  rw [h] at this
  exact this
theorem lawReplicaAlarms_c (A0 : Option Addr) (n0 c0 : Nat) (A1 : Option Addr) (c1 : Nat) (A2 : Option Addr) (c2 : Nat) (A3 : Option Addr) (c3 : Nat) (A4 : Option Addr) (c4 : Nat) (r : Scu.Replica) (w : World)
    (hr : IsRep w w.heap.size (.slice A0 n0 c0) (.slice A1 r.have_.length c1) (.slice A2 r.wants.length c2) (.slice A3 r.gives.length c3) (.slice A4 r.given.length c4) r) :
    Calls Try.prog 5 #[.agg #[.int .i64 r.me, .int .i64 r.kept.view, .int .i64 r.kept.normal, .bool r.kept.calm, .slice A0 n0 c0, .int .i64 r.kept.commit, .slice A1 r.have_.length c1, .slice A2 r.wants.length c2, .slice A3 r.gives.length c3, .slice A4 r.given.length c4]] w fun e w' => e = .returned (.bool true) ∧ Below w.heap.size w w' := by
  obtain ⟨q, hq⟩ : ∃ q, Scu.alarm r = q := ⟨_, rfl⟩
  obtain ⟨rr, ms, f⟩ := q
  have HQ := Lib.hid hq
  have HR := Lib.hid hr
  clear hr hq
  go_enter Try.func5, Try.ntmps5
  go_wp2_with fail
  obtain ⟨V0, hV0⟩ : ∃ W, W = w.alloc (Obj.cells #[.int .i64 r.me, .int .i64 r.kept.view, .int .i64 r.kept.normal, .bool r.kept.calm, .slice A0 n0 c0, .int .i64 r.kept.commit, .slice A1 r.have_.length c1, .slice A2 r.wants.length c2, .slice A3 r.gives.length c3, .slice A4 r.given.length c4] 29) := ⟨_, rfl⟩
  rw [← hV0]
  have hb0 : Blk V0 w.heap.size 29 #[.int .i64 r.me, .int .i64 r.kept.view, .int .i64 r.kept.normal, .bool r.kept.calm, .slice A0 n0 c0, .int .i64 r.kept.commit, .slice A1 r.have_.length c1, .slice A2 r.wants.length c2, .slice A3 r.gives.length c3, .slice A4 r.given.length c4] := by rw [hV0]; exact Blk.new _ _ _
  have hl0 : Below w.heap.size w V0 := by rw [hV0]; exact below_alloc _ _
  clear hV0
  refine (repCopyRef_c A0 n0 c0 A1 c1 A2 c2 A3 r.gives.length c3 A4 c4 r V0 w.heap.size (HR.out.below hl0)).mono ?_; rintro e w1 ⟨⟨lu, hv, wv, gv, nv, rfl, hu, _⟩, h1⟩
  obtain ⟨E0, m0, d0, E1, d1, E2, d2, E3, d3, E4, d4, rfl, rfl, rfl, rfl, rfl⟩ := hu.is.forms
  have H1 := Lib.hid (And.intro hu.is (And.intro (hb0.same h1) (hl0.trans (h1.mono hl0.size))))
  clear hb0 hl0 h1 hu
  go_upto_region 2 with fail
  obtain ⟨V1, hV1⟩ : ∃ W, W = w1.alloc (Obj.cells #[.int .i64 r.me, .int .i64 r.kept.view, .int .i64 r.kept.normal, .bool r.kept.calm, .slice E0 m0 d0, .int .i64 r.kept.commit, .slice E1 r.have_.length d1, .slice E2 r.wants.length d2, .slice E3 r.gives.length d3, .slice E4 r.given.length d4] 29) := ⟨_, rfl⟩
  rw [← hV1]
  have hl1 : Below w1.heap.size w1 V1 := by rw [hV1]; exact below_alloc _ _
  have hb1 : Blk V1 w1.heap.size 29 #[.int .i64 r.me, .int .i64 r.kept.view, .int .i64 r.kept.normal, .bool r.kept.calm, .slice E0 m0 d0, .int .i64 r.kept.commit, .slice E1 r.have_.length d1, .slice E2 r.wants.length d2, .slice E3 r.gives.length d3, .slice E4 r.given.length d4] := by rw [hV1]; exact Blk.new _ _ _
  clear hV1
  have s0 := hb1.cell 0
  have s1 := hb1.cell 1
  have s2 := hb1.cell 2
  have s3 := hb1.cell 3
  have s4 := hb1.cell 4
  have s5 := hb1.cell 5
  have s6 := hb1.cell 6
  have s7 := hb1.cell 7
  have s8 := hb1.cell 8
  have s9 := hb1.cell 9
  simp only [List.getElem?_toArray, List.getElem?_cons_zero, List.getElem?_cons_succ] at s0 s1 s2 s3 s4 s5 s6 s7 s8 s9
  have sl := hb1.lt
  have H2 := Lib.hid (And.intro (H1.out.1.below hl1) (And.intro (H1.out.2.1.same hl1) (And.intro (H1.out.2.2.trans (hl1.mono H1.out.2.2.size)) hb1)))
  clear hb1 hl1
  go_wp2_with fail
  refine (alarm_a _ _ _ _ _ r V1 0 H2.out.1 rr ms f HQ.out).mono ?_; rintro e w2 ⟨⟨lu, hv, wv, gv, nv, ov, rfl, ht, hm⟩, h3⟩
  obtain ⟨F0, p0, q0, F1, q1, F2, q2, F3, q3, F4, q4, rfl, rfl, rfl, rfl, rfl⟩ := ht.forms
  obtain ⟨⟨Am, cm, kss, rfl, hkk⟩, hkl⟩ := id hm
  have H3 := Lib.hid (show IsRep w2 0 (.slice E0 m0 d0) (.slice E1 r.have_.length d1) (.slice E2 r.wants.length d2) (.slice E3 r.gives.length d3) (.slice E4 r.given.length d4) r ∧ Blk w2 w.heap.size 29 #[.int .i64 r.me, .int .i64 r.kept.view, .int .i64 r.kept.normal, .bool r.kept.calm, .slice A0 n0 c0, .int .i64 r.kept.commit, .slice A1 r.have_.length c1, .slice A2 r.wants.length c2, .slice A3 r.gives.length c3, .slice A4 r.given.length c4] ∧ Below w.heap.size w w2 ∧ Blk w2 w1.heap.size 29 #[.int .i64 r.me, .int .i64 r.kept.view, .int .i64 r.kept.normal, .bool r.kept.calm, .slice E0 m0 d0, .int .i64 r.kept.commit, .slice E1 r.have_.length d1, .slice E2 r.wants.length d2, .slice E3 r.gives.length d3, .slice E4 r.given.length d4] ∧ IsRep w2 0 (.slice F0 p0 q0) (.slice F1 rr.have_.length q1) (.slice F2 rr.wants.length q2) (.slice F3 rr.gives.length q3) (.slice F4 rr.given.length q4) rr ∧ IsRow 41 8 80 MsgE w2 0 (.slice Am ms.length cm) ms from
    ⟨H2.out.1.below h3, H2.out.2.1.same h3, H2.out.2.2.1.trans (h3.mono H2.out.2.2.1.size), H2.out.2.2.2.same h3, ht, hm⟩)
  clear ht hm h3 s0 s1 s2 s3 s4 s5 s6 s7 s8 s9 sl hkk hkl
  go_upto_region 3 with fail
  obtain ⟨V2, hV2⟩ : ∃ W, W = w2.alloc (Obj.cells #[.int .i64 rr.me, .int .i64 rr.kept.view, .int .i64 rr.kept.normal, .bool rr.kept.calm, .slice F0 p0 q0, .int .i64 rr.kept.commit, .slice F1 rr.have_.length q1, .slice F2 rr.wants.length q2, .slice F3 rr.gives.length q3, .slice F4 rr.given.length q4] 29) := ⟨_, rfl⟩
  rw [← hV2]
  have hl2 : Below w2.heap.size w2 V2 := by rw [hV2]; exact below_alloc _ _
  have hb2 : Blk V2 w2.heap.size 29 #[.int .i64 rr.me, .int .i64 rr.kept.view, .int .i64 rr.kept.normal, .bool rr.kept.calm, .slice F0 p0 q0, .int .i64 rr.kept.commit, .slice F1 rr.have_.length q1, .slice F2 rr.wants.length q2, .slice F3 rr.gives.length q3, .slice F4 rr.given.length q4] := by rw [hV2]; exact Blk.new _ _ _
  clear hV2
  have H4 := Lib.hid (show IsRep V2 0 (.slice E0 m0 d0) (.slice E1 r.have_.length d1) (.slice E2 r.wants.length d2) (.slice E3 r.gives.length d3) (.slice E4 r.given.length d4) r ∧ Blk V2 w.heap.size 29 #[.int .i64 r.me, .int .i64 r.kept.view, .int .i64 r.kept.normal, .bool r.kept.calm, .slice A0 n0 c0, .int .i64 r.kept.commit, .slice A1 r.have_.length c1, .slice A2 r.wants.length c2, .slice A3 r.gives.length c3, .slice A4 r.given.length c4] ∧ Below w.heap.size w V2 ∧ Blk V2 w1.heap.size 29 #[.int .i64 r.me, .int .i64 r.kept.view, .int .i64 r.kept.normal, .bool r.kept.calm, .slice E0 m0 d0, .int .i64 r.kept.commit, .slice E1 r.have_.length d1, .slice E2 r.wants.length d2, .slice E3 r.gives.length d3, .slice E4 r.given.length d4] ∧ IsRep V2 0 (.slice F0 p0 q0) (.slice F1 rr.have_.length q1) (.slice F2 rr.wants.length q2) (.slice F3 rr.gives.length q3) (.slice F4 rr.given.length q4) rr ∧ IsRow 41 8 80 MsgE V2 0 (.slice Am ms.length cm) ms ∧ Blk V2 w2.heap.size 29 #[.int .i64 rr.me, .int .i64 rr.kept.view, .int .i64 rr.kept.normal, .bool rr.kept.calm, .slice F0 p0 q0, .int .i64 rr.kept.commit, .slice F1 rr.have_.length q1, .slice F2 rr.wants.length q2, .slice F3 rr.gives.length q3, .slice F4 rr.given.length q4] from
    ⟨H3.out.1.below hl2, H3.out.2.1.same hl2, H3.out.2.2.1.trans (hl2.mono H3.out.2.2.1.size), H3.out.2.2.2.1.same hl2, H3.out.2.2.2.2.1.below hl2, H3.out.2.2.2.2.2.same (Ts := [9, 41]) (by simp) (Same.below hl2) (fun _ _ h => h.same (Ts := [9]) (by simp) (Same.below hl2)), hb2⟩)
  clear hl2 hb2
  have ha := H4.out.2.1
  have s0 := ha.cell 0
  have s1 := ha.cell 1
  have s2 := ha.cell 2
  have s3 := ha.cell 3
  have s4 := ha.cell 4
  have s5 := ha.cell 5
  have s6 := ha.cell 6
  have s7 := ha.cell 7
  have s8 := ha.cell 8
  have s9 := ha.cell 9
  simp only [List.getElem?_toArray, List.getElem?_cons_zero, List.getElem?_cons_succ] at s0 s1 s2 s3 s4 s5 s6 s7 s8 s9
  have sl := ha.lt
  clear ha
  go_wp2_with fail
  refine (alarmed_a _ _ _ _ _ r V2 w.heap.size H4.out.2.2.1.size (HR.out.below H4.out.2.2.1) rr ms f HQ.out).mono ?_; rintro e w3 ⟨⟨lu, hv, wv, gv, nv, ov, rfl, ht, hm⟩, h5⟩
  obtain ⟨G0, u0, v0, G1, v1, G2, v2, G3, v3, G4, v4, rfl, rfl, rfl, rfl, rfl⟩ := ht.forms
  obtain ⟨⟨An, cn, kss, rfl, hkk⟩, hkl⟩ := id hm
  clear hkk hkl s0 s1 s2 s3 s4 s5 s6 s7 s8 s9 sl
  go_upto_region 4 with fail
  obtain ⟨V3, hV3⟩ : ∃ W, W = w3.alloc (Obj.cells #[.int .i64 rr.me, .int .i64 rr.kept.view, .int .i64 rr.kept.normal, .bool rr.kept.calm, .slice G0 u0 v0, .int .i64 rr.kept.commit, .slice G1 rr.have_.length v1, .slice G2 rr.wants.length v2, .slice G3 rr.gives.length v3, .slice G4 rr.given.length v4] 29) := ⟨_, rfl⟩
  rw [← hV3]
  have hl3 : Below w3.heap.size w3 V3 := by rw [hV3]; exact below_alloc _ _
  have hb3 : Blk V3 w3.heap.size 29 #[.int .i64 rr.me, .int .i64 rr.kept.view, .int .i64 rr.kept.normal, .bool rr.kept.calm, .slice G0 u0 v0, .int .i64 rr.kept.commit, .slice G1 rr.have_.length v1, .slice G2 rr.wants.length v2, .slice G3 rr.gives.length v3, .slice G4 rr.given.length v4] := by rw [hV3]; exact Blk.new _ _ _
  clear hV3
  have h6 := h5.trans (hl3.mono h5.size)
  have hS : Same [9, 3, 4, 24, 41] 0 V2 V3 := Same.below h6
  have H5 := Lib.hid (show IsRep V3 0 (.slice E0 m0 d0) (.slice E1 r.have_.length d1) (.slice E2 r.wants.length d2) (.slice E3 r.gives.length d3) (.slice E4 r.given.length d4) r ∧ Blk V3 w.heap.size 29 #[.int .i64 r.me, .int .i64 r.kept.view, .int .i64 r.kept.normal, .bool r.kept.calm, .slice A0 n0 c0, .int .i64 r.kept.commit, .slice A1 r.have_.length c1, .slice A2 r.wants.length c2, .slice A3 r.gives.length c3, .slice A4 r.given.length c4] ∧ Below w.heap.size w V3 ∧ Blk V3 w1.heap.size 29 #[.int .i64 r.me, .int .i64 r.kept.view, .int .i64 r.kept.normal, .bool r.kept.calm, .slice E0 m0 d0, .int .i64 r.kept.commit, .slice E1 r.have_.length d1, .slice E2 r.wants.length d2, .slice E3 r.gives.length d3, .slice E4 r.given.length d4] ∧ IsRep V3 0 (.slice F0 p0 q0) (.slice F1 rr.have_.length q1) (.slice F2 rr.wants.length q2) (.slice F3 rr.gives.length q3) (.slice F4 rr.given.length q4) rr ∧ IsRow 41 8 80 MsgE V3 0 (.slice Am ms.length cm) ms ∧ Blk V3 w2.heap.size 29 #[.int .i64 rr.me, .int .i64 rr.kept.view, .int .i64 rr.kept.normal, .bool rr.kept.calm, .slice F0 p0 q0, .int .i64 rr.kept.commit, .slice F1 rr.have_.length q1, .slice F2 rr.wants.length q2, .slice F3 rr.gives.length q3, .slice F4 rr.given.length q4] ∧ Blk V3 w3.heap.size 29 #[.int .i64 rr.me, .int .i64 rr.kept.view, .int .i64 rr.kept.normal, .bool rr.kept.calm, .slice G0 u0 v0, .int .i64 rr.kept.commit, .slice G1 rr.have_.length v1, .slice G2 rr.wants.length v2, .slice G3 rr.gives.length v3, .slice G4 rr.given.length v4] ∧ IsRep V3 0 (.slice G0 u0 v0) (.slice G1 rr.have_.length v1) (.slice G2 rr.wants.length v2) (.slice G3 rr.gives.length v3) (.slice G4 rr.given.length v4) rr ∧ IsRow 41 8 80 MsgE V3 0 (.slice An ms.length cn) ms from
    ⟨H4.out.1.below h6, H4.out.2.1.same h6, H4.out.2.2.1.trans (h6.mono H4.out.2.2.1.size), H4.out.2.2.2.1.same h6, H4.out.2.2.2.2.1.below h6, H4.out.2.2.2.2.2.1.same (Ts := [9, 41]) (by simp) (Same.below h6) (fun _ _ h => h.same (Ts := [9]) (by simp) (Same.below h6)), H4.out.2.2.2.2.2.2.same h6, hb3, ht.below hl3, hm.same (Ts := [9, 41]) (by simp) (Same.below hl3) (fun _ _ h => h.same (Ts := [9]) (by simp) (Same.below hl3))⟩)
  clear h5 h6 hS hl3 hb3 ht hm
  have hF := H5.out.2.2.2.2.2.2.1
  have hG := H5.out.2.2.2.2.2.2.2.1
  have s0 := hF.cell 0
  have s1 := hF.cell 1
  have s2 := hF.cell 2
  have s3 := hF.cell 3
  have s4 := hF.cell 4
  have s5 := hF.cell 5
  have s6 := hF.cell 6
  have s7 := hF.cell 7
  have s8 := hF.cell 8
  have s9 := hF.cell 9
  simp only [List.getElem?_toArray, List.getElem?_cons_zero, List.getElem?_cons_succ] at s0 s1 s2 s3 s4 s5 s6 s7 s8 s9
  have sl := hF.lt
  have t0 := hG.cell 0
  have t1 := hG.cell 1
  have t2 := hG.cell 2
  have t3 := hG.cell 3
  have t4 := hG.cell 4
  have t5 := hG.cell 5
  have t6 := hG.cell 6
  have t7 := hG.cell 7
  have t8 := hG.cell 8
  have t9 := hG.cell 9
  simp only [List.getElem?_toArray, List.getElem?_cons_zero, List.getElem?_cons_succ] at t0 t1 t2 t3 t4 t5 t6 t7 t8 t9
  have tl := hG.lt
  clear hF hG
  go_wp2_with fail
  refine (sameRep_t F0 p0 q0 F1 q1 F2 q2 F3 q3 F4 q4 G0 u0 v0 G1 v1 G2 v2 G3 v3 G4 v4 rr V3 0 0 H5.out.2.2.2.2.1 H5.out.2.2.2.2.2.2.2.2.1).mono ?_; rintro e w4 ⟨rfl, h7⟩
  have H6 := Lib.hid h7
  clear h7 s0 s1 s2 s3 s4 s5 s6 s7 s8 s9 sl t0 t1 t2 t3 t4 t5 t6 t7 t8 t9 tl
  go_wp2_with fail
  refine (sameMsgs_t (.slice Am ms.length cm) (.slice An ms.length cn) ms w4 0 0 (H5.out.2.2.2.2.2.1.same (Ts := [9, 41]) (by simp) (Same.below H6.out) (fun _ _ h => h.same (Ts := [9]) (by simp) (Same.below H6.out))) (H5.out.2.2.2.2.2.2.2.2.2.same (Ts := [9, 41]) (by simp) (Same.below H6.out) (fun _ _ h => h.same (Ts := [9]) (by simp) (Same.below H6.out)))).mono ?_; rintro e w5 ⟨rfl, h8⟩
  have h9 := H6.out.trans (h8.mono H6.out.size)
  have hA := H5.out.2.1.same h9
  have hE := H5.out.2.2.2.1.same h9
  have H7 := Lib.hid (And.intro (H5.out.1.below h9) (And.intro (HR.out.below (H5.out.2.2.1.trans (h9.mono H5.out.2.2.1.size))) (H5.out.2.2.1.trans (h9.mono H5.out.2.2.1.size))))
  have s0 := hA.cell 0
  have s1 := hA.cell 1
  have s2 := hA.cell 2
  have s3 := hA.cell 3
  have s4 := hA.cell 4
  have s5 := hA.cell 5
  have s6 := hA.cell 6
  have s7 := hA.cell 7
  have s8 := hA.cell 8
  have s9 := hA.cell 9
  simp only [List.getElem?_toArray, List.getElem?_cons_zero, List.getElem?_cons_succ] at s0 s1 s2 s3 s4 s5 s6 s7 s8 s9
  have sl := hA.lt
  have t0 := hE.cell 0
  have t1 := hE.cell 1
  have t2 := hE.cell 2
  have t3 := hE.cell 3
  have t4 := hE.cell 4
  have t5 := hE.cell 5
  have t6 := hE.cell 6
  have t7 := hE.cell 7
  have t8 := hE.cell 8
  have t9 := hE.cell 9
  simp only [List.getElem?_toArray, List.getElem?_cons_zero, List.getElem?_cons_succ] at t0 t1 t2 t3 t4 t5 t6 t7 t8 t9
  have tl := hE.lt
  clear hA hE h8 h9
  go_wp2_with fail
  refine (sameRep_t E0 m0 d0 E1 d1 E2 d2 E3 d3 E4 d4 A0 n0 c0 A1 c1 A2 c2 A3 c3 A4 c4 r w5 0 w.heap.size H7.out.1 H7.out.2.1).mono ?_; rintro e w6 ⟨rfl, h10⟩
  have H8 := Lib.hid (H7.out.2.2.trans (h10.mono H7.out.2.2.size))
  clear h10
  go_wp2
  go_ret
  exact ⟨by simp, H8.out⟩
theorem lawReplicaAlarms_w (v : Value) (r : Scu.Replica) {w : World} (h : IsRepV w v r) (W : World) (hW : W = w) :
    Calls Try.prog 5 #[v] W fun e w' => e = .returned (.bool true) ∧ Below W.heap.size W w' := by
  subst hW
  obtain ⟨lv, hv, wv, gv, nv, rfl, hr⟩ := h
  obtain ⟨A0, n0, c0, A1, c1, A2, c2, A3, c3, A4, c4, rfl, rfl, rfl, rfl, rfl⟩ := hr.forms
  exact lawReplicaAlarms_c A0 n0 c0 A1 c1 A2 c2 A3 c3 A4 c4 r W hr
end Go.Proofs.Ytjbhkmadcjnbfaa
namespace Go.Proofs.Ytjbhkmadcjnbfaa.replicaAlarmsDone
open Go.ChangeShapes Go.WideShapes Go.ChangeAt Go.RowKit
open Go.ChangeMaps (open_string shut_string)
set_option linter.unusedVariables false
theorem own : ownKnob Try.prog.godebug = none := by kernel_rfl
theorem laidOut : laidOutB Try.prog = true := by kernel_rfl
set_option maxRecDepth 100000 in
theorem lifted (os : Os) (started : os.Started) (H : Type) (enc : TypeId × Value → H) :
    ReturnsInHanded {} Try.checked os 5 .any (Rows.replicaAlarmsSpec.pre6 enc Try.prog Try.f5 Rows.replicaAlarmsRow.domain false) (Rows.replicaAlarmsSpec.post enc Try.prog Try.f5 false true false false) := by
  refine returnsInHanded_of_change_sized (C := Try.checked) own started (by kernel_rfl) Try.func5
    (ChangeSpec.witness6 (enc := enc) (C := Try.checked) false ⟨#[], #[.agg #[.int .i64 0, .int .i64 0, .int .i64 0, .bool false, .slice none 0 0, .int .i64 0, .slice none 0 0, .slice none 0 0, .slice none 0 0, .slice none 0 0]], []⟩ 8 (by kernel_rfl) (by kernel_rfl) (by kernel_rfl) (by kernel_rfl)) ?_
  intro W base args ds gs before hval0 hW hcnd hsz _
  have hwt0 : ∀ (j : Nat) (t : TypeId) (d : DataW H), (Try.f5.params.toList ++ Rows.replicaAlarmsSpec.plain.varTypes Try.prog)[j]? = some t → (ds ++ gs)[j]? = some d → ∀ k ∈ d.weights Try.prog t, k ≤ reachBytes := fun j t d ht hd k hk => by
    have := List.all_eq_true.1 hsz k (DataW.weights_mem_each ht hd k hk)
    simpa using this
  clear hsz
  have hwt := hwt0
  rw [Try.params5] at hwt
  have hval : ∀ (j : Nat) t v, Try.f5.params[j]? = some t → args[j]? = some v → Value.okWide Try.prog W .any base t v := hval0
  have hW' := hW
  obtain ⟨p, q, hA0, hV, rfl, hfz, hnd⟩ := hW
  have hA : DataW.TrodAll enc Try.prog W 0 (fun _ => true) true Try.f5.params.toList args.toList ds p := hA0
  rw [Try.params5] at hA hval
  obtain ⟨v0, vs0, d0, ds0, p0, q0, hargs, rfl, rfl, h0, r0⟩ := trodAll_cons hA
  obtain ⟨rfl, rfl, rfl⟩ := trodAll_nil r0
  obtain rfl : args = #[v0] := by cases args; simp_all
  obtain ⟨rfl, rfl⟩ := trodVars_none hV
  have k0 := h0
  have lt0 : ∀ x ∈ p0, x.block < W.heap.size := by obtain ⟨m, hm⟩ := k0; exact DataW.trod_lt m _ _ _ hm
  obtain ⟨a0, w0⟩ := openS_Replica (hval 0 29 v0 rfl rfl) h0 (hwt 0 29 d0 rfl rfl)
  clear hA0 hval0
  refine (lawReplicaAlarms_w v0 a0 w0 W rfl).mono fun e W' ⟨he, bel⟩ => ?_
  subst he
  exact ⟨_, rfl, _, _, _, [], _, [], hW', trodAll_mk1 (shut_bool Try.underlying4 _), (trodAll_cons_mk (Below.trod laidOut (by kernel_rfl) (of_decide_eq_true (by kernel_rfl)) k0 bel lt0) trodAll_mk0), rfl, bel.frame _, fun h => by cases h⟩
theorem over : Rows.replicaAlarmsRow.holds Try.pinned (OpenSpec.ofChange Rows.replicaAlarmsSpec) :=
  OpenClaim.holds_of_wide 5 Try.f5 rfl rfl rfl rfl rfl rfl rfl ⟨rfl, rfl, rfl, rfl, rfl⟩ rfl rfl rfl rfl rfl (by kernel_rfl) Try.func5 (facts_of rfl rfl rfl rfl rfl rfl (by as_aux_lemma => kernel_rfl) (by as_aux_lemma => kernel_rfl) (by as_aux_lemma => kernel_rfl) (by as_aux_lemma => kernel_rfl) (by as_aux_lemma => kernel_rfl) (by as_aux_lemma => kernel_rfl) (by as_aux_lemma => kernel_rfl))
    (of_decide_eq_true (by kernel_rfl)) (by unfold Func.isWrapper; first | (rw [if_pos (by decide +kernel)]; kernel_rfl) | (rw [if_neg (by decide +kernel)]; exact ⟨rfl, rfl⟩))
    (fun os started H enc _ => lifted os started H enc)
theorem proved : Rows.ReplicaAlarmsSaid := over
end Go.Proofs.Ytjbhkmadcjnbfaa.replicaAlarmsDone

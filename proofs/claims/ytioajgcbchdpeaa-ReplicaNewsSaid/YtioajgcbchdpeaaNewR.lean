/- replica.New, walked. -/
import Derived.Test.YtioajgcbchdpeaaRepL
import Derived.Test.YtioajgcbchdpeaaReg
namespace Go.Proofs.Ytioajgcbchdpeaa
open Go.RowKit
set_option maxHeartbeats 2000000
set_option maxRecDepth 100000

def NewRet (w : World) (r : Scu.Replica) (c : Int) (e : Ending) : Prop := ∃ lu hv wv gv nv, e = .returned (.tuple #[.agg #[.int .i64 r.me, .int .i64 r.kept.view, .int .i64 r.kept.normal, .bool r.kept.calm, lu, .int .i64 r.kept.commit, hv, wv, gv, nv], .int .i64 c]) ∧ IsRep w 0 lu hv wv gv nv r
theorem new_zero (w : World) (c : Int) : NewRet w Scu.replica0 c (.returned (.tuple #[.agg #[.int .i64 0, .int .i64 0, .int .i64 0, .bool false, .slice none 0 0, .int .i64 0, .slice none 0 0, .slice none 0 0, .slice none 0 0, .slice none 0 0], .int .i64 c])) :=
  ⟨_, _, _, _, _, rfl, IsStrs.nil_, ⟨⟨none, 0, rfl, Nat.le_refl _, Rd.nil⟩, by simp [Scu.replica0, R47]⟩, ⟨⟨none, 0, rfl, Nat.le_refl _, Rd.nil⟩, by simp [Scu.replica0, R47]⟩, IsRow.nil_, ⟨⟨none, 0, rfl, Nat.le_refl _, Rd.nil⟩, by simp [Scu.replica0, R47]⟩⟩
section
variable {me : Int} {k : Scu.Kept}
theorem nw1 (h : me < 0 ∨ 3 ≤ me) : Scu.repNew me k = (Scu.replica0, 2) := if_pos h
theorem nw2 (h : ¬ (me < 0 ∨ 3 ≤ me)) (hk : Scu.keptFault k ≠ 0) : Scu.repNew me k = (Scu.replica0, Scu.keptFault k) := by unfold Scu.repNew; rw [if_neg h, if_pos hk]
theorem nw3 (h : ¬ (me < 0 ∨ 3 ≤ me)) (hk : ¬ Scu.keptFault k ≠ 0) : Scu.repNew me k = (⟨me, k, [0, 0, 0], [false, false, false], [Scu.kept0, Scu.kept0, Scu.kept0], [false, false, false]⟩, 0) := by unfold Scu.repNew; rw [if_neg h, if_neg hk]
end
theorem stageCheck_a (lv : Value) (k : Scu.Kept) (w : World) (B : Nat) (hv : IsStrs w B lv k.log) (f : Int) (h : Scu.keptFault k = f) :
    Calls Try.prog 62 #[.agg #[.int .i64 k.view, .int .i64 k.normal, .bool k.calm, lv, .int .i64 k.commit]] w fun e w' => e = .returned (.int .i64 f) ∧ Below w.heap.size w w' := by
  have := stageCheck_c lv k w B hv
  rw [h] at this
  exact this
theorem repNew_1 (A : Option Addr) (n c : Nat) (me : Int) (k : Scu.Kept) (w : World) (hm : me < 0 ∨ 3 ≤ me) :
    Calls Try.prog 24 #[.int .i64 me, .agg #[.int .i64 k.view, .int .i64 k.normal, .bool k.calm, .slice A n c, .int .i64 k.commit]] w fun e w' => NewRet w' Scu.replica0 2 e ∧ Below w.heap.size w w' := by
  have hb : Below w.heap.size w ((w.alloc (Obj.cells #[.int .i64 k.view, .int .i64 k.normal, .bool k.calm, .slice A n c, .int .i64 k.commit] 28)).alloc (Obj.cells #[.int .i64 0, .int .i64 0, .int .i64 0, .bool false, .slice none 0 0, .int .i64 0, .slice none 0 0, .slice none 0 0, .slice none 0 0, .slice none 0 0] 32)) := (below_alloc w _).alloc (by simp) _
  rcases hm with hm | hm
  all_goals
    go_enter Try.func24, Try.ntmps24
    go_wp2
    refine bodyPost_ret (v := .tuple #[.agg #[.int .i64 0, .int .i64 0, .int .i64 0, .bool false, .slice none 0 0, .int .i64 0, .slice none 0 0, .slice none 0 0, .slice none 0 0, .slice none 0 0], .int .i64 2]) (by simp [results, Try.results24, go_sem]) rfl ?_
    exact ⟨new_zero _ _, hb⟩
theorem repNew_2 (A : Option Addr) (n c : Nat) (me : Int) (k : Scu.Kept) (w : World) (B : Nat) (hk : IsStrs w B (.slice A n c) k.log) (hm0 : 0 ≤ me) (hm : me < 3) (f : Int) (hf : Scu.keptFault k = f) (h0 : f ≠ 0) :
    Calls Try.prog 24 #[.int .i64 me, .agg #[.int .i64 k.view, .int .i64 k.normal, .bool k.calm, .slice A n c, .int .i64 k.commit]] w fun e w' => NewRet w' Scu.replica0 f e ∧ Below w.heap.size w w' := by
  have HK := Lib.hid hk
  have HF := Lib.hid hf
  have hfb : (f != 0) = true := by simpa using h0
  clear hk hf h0
  go_enter Try.func24, Try.ntmps24
  go_wp2_with fail
  have hb0 : Below w.heap.size w ((w.alloc (Obj.cells #[.int .i64 k.view, .int .i64 k.normal, .bool k.calm, .slice A n c, .int .i64 k.commit] 28)).alloc (Obj.cells #[.int .i64 0, .int .i64 0, .int .i64 0, .bool false, .slice none 0 0, .int .i64 0, .slice none 0 0, .slice none 0 0, .slice none 0 0, .slice none 0 0] 32)) := (below_alloc w _).alloc (by simp) _
  refine (stageCheck_a _ k _ B (HK.out.below hb0) f HF.out).mono ?_; rintro en w1 ⟨rfl, h1⟩
  have hz : Blk w1 (w.heap.size + 1) 32 #[.int .i64 0, .int .i64 0, .int .i64 0, .bool false, .slice none 0 0, .int .i64 0, .slice none 0 0, .slice none 0 0, .slice none 0 0, .slice none 0 0] := (Blk.new' (by simp)).same h1
  have hb := hb0.trans (h1.mono hb0.size)
  have z0 := hz.cell 0
  have z1 := hz.cell 1
  have z2 := hz.cell 2
  have z3 := hz.cell 3
  have z4 := hz.cell 4
  have z5 := hz.cell 5
  have z6 := hz.cell 6
  have z7 := hz.cell 7
  have z8 := hz.cell 8
  have z9 := hz.cell 9
  simp only [List.getElem?_toArray, List.getElem?_cons_zero, List.getElem?_cons_succ] at z0 z1 z2 z3 z4 z5 z6 z7 z8 z9
  have zz := hz.frozen
  have zl := hz.lt
  have hr := blk_set10 (a0 := .int .i64 0) (a1 := .int .i64 0) (a2 := .int .i64 0) (a3 := .bool false) (a4 := .slice none 0 0) (a5 := .int .i64 0) (a6 := .slice none 0 0) (a7 := .slice none 0 0) (a8 := .slice none 0 0) (a9 := .slice none 0 0) hz
  have r0 := hr.cell 0
  have r1 := hr.cell 1
  have r2 := hr.cell 2
  have r3 := hr.cell 3
  have r4 := hr.cell 4
  have r5 := hr.cell 5
  have r6 := hr.cell 6
  have r7 := hr.cell 7
  have r8 := hr.cell 8
  have r9 := hr.cell 9
  simp only [List.getElem?_toArray, List.getElem?_cons_zero, List.getElem?_cons_succ] at r0 r1 r2 r3 r4 r5 r6 r7 r8 r9
  have rz := hr.frozen
  have rl := hr.lt
  clear h1 hb0
  go_wp2
  refine bodyPost_ret (v := .tuple #[.agg #[.int .i64 0, .int .i64 0, .int .i64 0, .bool false, .slice none 0 0, .int .i64 0, .slice none 0 0, .slice none 0 0, .slice none 0 0, .slice none 0 0], .int .i64 f]) (by simp [results, Try.results24, go_sem, r0, r1, r2, r3, r4, r5, r6, r7, r8, r9]) rfl ?_
  exact ⟨new_zero _ _, below_set10 hb (by omega)⟩
structure NewI (me : Int) (k : Scu.Kept) (b : Nat) (L : Array Bool) (x20 x21 x22 x23 x24 x25 x26 x27 kv : Value) (W : World) : Prop where
  f0 : Dn L 0 → x20 = .int .i64 me
  f1 : Dn L 1 → x21 = kv
  f2 : Dn L 2 → ∃ lu, x22 = .agg #[.int .i64 k.view, .int .i64 k.normal, .bool k.calm, lu, .int .i64 k.commit] ∧ IsStrs W 0 lu k.log
  f3 : Dn L 3 → IsOnes 3 8 vInt W 0 x23 [0, 0, 0]
  f4 : Dn L 4 → IsOnes 4 1 Value.bool W 0 x24 [false, false, false]
  f5 : Dn L 5 → IsRow 28 5 56 KeptEl W 0 x25 [Scu.kept0, Scu.kept0, Scu.kept0]
  f6 : Dn L 6 → IsOnes 4 1 Value.bool W 0 x26 [false, false, false]
  f7 : Dn L 7 → ∃ lu hv wv gv nv, x27 = .agg #[.int .i64 me, .int .i64 k.view, .int .i64 k.normal, .bool k.calm, lu, .int .i64 k.commit, hv, wv, gv, nv] ∧ IsRep W 0 lu hv wv gv nv ⟨me, k, [0, 0, 0], [false, false, false], [Scu.kept0, Scu.kept0, Scu.kept0], [false, false, false]⟩
  f8 : Dn L 8 → ∃ lu hv wv gv nv, Blk W b 32 #[.int .i64 me, .int .i64 k.view, .int .i64 k.normal, .bool k.calm, lu, .int .i64 k.commit, hv, wv, gv, nv] ∧ IsRep W 0 lu hv wv gv nv ⟨me, k, [0, 0, 0], [false, false, false], [Scu.kept0, Scu.kept0, Scu.kept0], [false, false, false]⟩
  res : ¬ Dn L 8 → Blk W b 32 #[.int .i64 0, .int .i64 0, .int .i64 0, .bool false, .slice none 0 0, .int .i64 0, .slice none 0 0, .slice none 0 0, .slice none 0 0, .slice none 0 0]
theorem NewI.below {me : Int} {k : Scu.Kept} {b : Nat} {L : Array Bool} {x20 x21 x22 x23 x24 x25 x26 x27 kv : Value} {W W' : World} (h : NewI me k b L x20 x21 x22 x23 x24 x25 x26 x27 kv W) (hb : Below W.heap.size W W') : NewI me k b L x20 x21 x22 x23 x24 x25 x26 x27 kv W' :=
  ⟨h.f0, h.f1, fun d => let ⟨lu, e, g⟩ := h.f2 d; ⟨lu, e, g.below hb⟩, fun d => (h.f3 d).below hb, fun d => (h.f4 d).below hb,
    fun d => (h.f5 d).same (Ts := [9, 28]) (by simp) (Same.below hb) (fun _ _ hk => hk.same (Ts := [9]) (by simp) (Same.below hb)), fun d => (h.f6 d).below hb,
    fun d => let ⟨a1, a2, a3, a4, a5, e, g⟩ := h.f7 d; ⟨a1, a2, a3, a4, a5, e, g.below hb⟩, fun d => let ⟨a1, a2, a3, a4, a5, e, g⟩ := h.f8 d; ⟨a1, a2, a3, a4, a5, e.same hb, g.below hb⟩, fun d => (h.res d).same hb⟩
theorem dn_new {L : Array Bool} {i k : Nat} (h : ¬ Dn (L.setIfInBounds i true) k) : ¬ Dn L k := fun hd => h (by
  unfold Dn at *
  by_cases e : i = k
  · subst e
    rw [Array.getD_eq_getD_getElem?] at hd ⊢
    rcases Nat.lt_or_ge i L.size with hl | hl
    · simp [hl]
    · rw [Array.getElem?_eq_none hl] at hd; cases hd
  · rw [Array.getD_eq_getD_getElem?, Array.getElem?_setIfInBounds_ne e, ← Array.getD_eq_getD_getElem?]
    exact hd)
theorem dn_of {L : Array Bool} {j : Nat} (h : L[j]?.getD false = true) : Dn L j := by
  unfold Dn
  rw [Array.getD_eq_getD_getElem?]
  exact h
theorem dn_self {L : Array Bool} {i : Nat} (h : i < L.size) : Dn (L.setIfInBounds i true) i := by
  unfold Dn
  rw [Array.getD_eq_getD_getElem?]
  simp [h]
theorem dn_not {L : Array Bool} {i : Nat} (h : L.getD i true = false) : ¬ Dn L i := fun hd => by
  unfold Dn at hd
  rw [Array.getD_eq_getD_getElem?] at h hd
  cases e : L[i]? with
  | none => rw [e] at hd; cases hd
  | some b => rw [e] at h hd; simp at h hd; rw [h] at hd; cases hd
theorem blk_same {W W' : World} {g : Nat} {t : TypeId} {cs : Array Value} {Ts : List TypeId} (h : Blk W g t cs) (hs : Same Ts 0 W W') (ht : t ∈ Ts) : Blk W' g t cs := (hs.keep g h.lt (.inr ⟨_, _, _, ht, h⟩)).trans h
theorem NewI.store {me : Int} {k : Scu.Kept} {b : Nat} {L : Array Bool} {x20 x21 x22 x23 x24 x25 x26 x27 kv lu hv wv gv nv : Value} {w : World} (h : NewI me k b L x20 x21 x22 x23 x24 x25 x26 x27 kv w) (hl : 8 < L.size) (hz : Blk w b 32 #[.int .i64 0, .int .i64 0, .int .i64 0, .bool false, .slice none 0 0, .int .i64 0, .slice none 0 0, .slice none 0 0, .slice none 0 0, .slice none 0 0])
    (hr : IsRep w 0 lu hv wv gv nv ⟨me, k, [0, 0, 0], [false, false, false], [Scu.kept0, Scu.kept0, Scu.kept0], [false, false, false]⟩) :
    NewI me k b (L.setIfInBounds 8 true) x20 x21 x22 x23 x24 x25 x26 x27 kv ((((((((((w.setCell ⟨b, 0, none⟩ (.int .i64 me)).setCell ⟨b, 1, none⟩ (.int .i64 k.view)).setCell ⟨b, 2, none⟩ (.int .i64 k.normal)).setCell ⟨b, 3, none⟩ (.bool k.calm)).setCell ⟨b, 4, none⟩ lu).setCell ⟨b, 5, none⟩ (.int .i64 k.commit)).setCell ⟨b, 6, none⟩ hv).setCell ⟨b, 7, none⟩ wv).setCell ⟨b, 8, none⟩ gv).setCell ⟨b, 9, none⟩ nv) := by
  have hs := Same.sets10 (Ts := [9, 3, 4, 28]) (B := 0) (a0 := .int .i64 me) (a1 := .int .i64 k.view) (a2 := .int .i64 k.normal) (a3 := .bool k.calm) (a4 := lu) (a5 := .int .i64 k.commit) (a6 := hv) (a7 := wv) (a8 := gv) (a9 := nv) hz (Nat.zero_le _) (by decide)
  exact ⟨fun d => h.f0 (dn_old d (by decide)), fun d => h.f1 (dn_old d (by decide)), fun d => let ⟨l, e, g⟩ := h.f2 (dn_old d (by decide)); ⟨l, e, g.same (by simp) hs⟩, fun d => (h.f3 (dn_old d (by decide))).same (by simp) hs, fun d => (h.f4 (dn_old d (by decide))).same (by simp) hs,
    fun d => (h.f5 (dn_old d (by decide))).same (by simp) hs (fun _ _ hk => hk.same (by simp) hs), fun d => (h.f6 (dn_old d (by decide))).same (by simp) hs, fun d => let ⟨a1, a2, a3, a4, a5, e, g⟩ := h.f7 (dn_old d (by decide)); ⟨a1, a2, a3, a4, a5, e, g.same hs⟩,
    fun _ => ⟨_, _, _, _, _, blk_set10 hz, hr.same hs⟩, fun d => (d (dn_self hl)).elim⟩
theorem made_ints (w : World) : (Instr.makeSlice 24 (.int .i64 3) (.int .i64 3)).run Try.prog w = .ok (.slice (some ⟨w.heap.size, 0, none⟩) 3 3) (w.alloc (.cells #[.int .i64 0, .int .i64 0, .int .i64 0] 3)) := by kernel_rfl
theorem made_bools (w : World) : (Instr.makeSlice 29 (.int .i64 3) (.int .i64 3)).run Try.prog w = .ok (.slice (some ⟨w.heap.size, 0, none⟩) 3 3) (w.alloc (.cells #[.bool false, .bool false, .bool false] 4)) := by kernel_rfl
theorem made_kepts (w : World) : (Instr.makeSlice 30 (.int .i64 3) (.int .i64 3)).run Try.prog w = .ok (.slice (some ⟨w.heap.size, 0, none⟩) 3 3) (w.alloc (.cells #[.int .i64 0, .int .i64 0, .bool false, .slice none 0 0, .int .i64 0, .int .i64 0, .int .i64 0, .bool false, .slice none 0 0, .int .i64 0, .int .i64 0, .int .i64 0, .bool false, .slice none 0 0, .int .i64 0] 28)) := by kernel_rfl
theorem ones_blk {α : Type} {t : TypeId} {bytes : Nat} {f : α → Value} {w : World} {g : Nat} {xs : List α} (h : Blk w g t (xs.map f).toArray) (h1 : xs.length * bytes ≤ R47) : IsOnes t bytes f w 0 (.slice (some ⟨g, 0, none⟩) xs.length xs.length) xs :=
  ⟨⟨_, _, rfl, Nat.le_refl _, .inr ⟨g, 0, rfl, h.lt, .inr ⟨_, _, h⟩, fun j u hj => by
    rw [h.cell]
    simpa using hj⟩⟩, h1⟩
theorem kepts_blk {w : World} {g : Nat} (h : Blk w g 28 #[.int .i64 0, .int .i64 0, .bool false, .slice none 0 0, .int .i64 0, .int .i64 0, .int .i64 0, .bool false, .slice none 0 0, .int .i64 0, .int .i64 0, .int .i64 0, .bool false, .slice none 0 0, .int .i64 0]) :
    IsRow 28 5 56 KeptEl w 0 (.slice (some ⟨g, 0, none⟩) 3 3) [Scu.kept0, Scu.kept0, Scu.kept0] :=
  ⟨⟨some ⟨g, 0, none⟩, 3, [keptV Scu.kept0 (.slice none 0 0), keptV Scu.kept0 (.slice none 0 0), keptV Scu.kept0 (.slice none 0 0)], rfl, Nat.le_refl _, rfl, (fun cs hc => by
      simp only [List.mem_cons, List.not_mem_nil, or_false] at hc
      rcases hc with rfl | rfl | rfl <;> rfl), .inr ⟨g, 0, rfl, h.lt, .inr ⟨_, _, h⟩, fun j u hj => by
    rw [h.cell]
    simpa [keptV, Scu.kept0] using hj⟩, fun j cs x hc hx => by
      rcases j with _ | _ | _ | j <;> simp only [List.getElem?_cons_zero, List.getElem?_cons_succ, List.getElem?_nil, Option.some.injEq, reduceCtorEq] at hc hx <;> (subst hc; subst hx; exact ⟨_, rfl, IsStrs.nil_⟩)⟩, by simp [R47]⟩
theorem repNew_3 (A : Option Addr) (n c : Nat) (me : Int) (k : Scu.Kept) (w : World) (B : Nat) (hk : IsStrs w B (.slice A n c) k.log) (hm0 : 0 ≤ me) (hm : me < 3) (hf : Scu.keptFault k = 0) :
    Calls Try.prog 24 #[.int .i64 me, .agg #[.int .i64 k.view, .int .i64 k.normal, .bool k.calm, .slice A n c, .int .i64 k.commit]] w fun e w' => NewRet w' ⟨me, k, [0, 0, 0], [false, false, false], [Scu.kept0, Scu.kept0, Scu.kept0], [false, false, false]⟩ 0 e ∧ Below w.heap.size w w' := by
  have HK := Lib.hid hk
  have HF := Lib.hid hf
  clear hk hf
  go_enter Try.func24, Try.ntmps24
  go_wp2_with fail
  have hb0 : Below w.heap.size w ((w.alloc (Obj.cells #[.int .i64 k.view, .int .i64 k.normal, .bool k.calm, .slice A n c, .int .i64 k.commit] 28)).alloc (Obj.cells #[.int .i64 0, .int .i64 0, .int .i64 0, .bool false, .slice none 0 0, .int .i64 0, .slice none 0 0, .slice none 0 0, .slice none 0 0, .slice none 0 0] 32)) := (below_alloc w _).alloc (by simp) _
  refine (stageCheck_a _ k _ B (HK.out.below hb0) 0 HF.out).mono ?_; rintro en w1 ⟨rfl, h1⟩
  have hz : Blk w1 (w.heap.size + 1) 32 #[.int .i64 0, .int .i64 0, .int .i64 0, .bool false, .slice none 0 0, .int .i64 0, .slice none 0 0, .slice none 0 0, .slice none 0 0, .slice none 0 0] := (Blk.new' (by simp)).same h1
  have hs : Blk w1 w.heap.size 28 #[.int .i64 k.view, .int .i64 k.normal, .bool k.calm, .slice A n c, .int .i64 k.commit] := ((Blk.new w _ _).alloc _).same h1
  have hb := hb0.trans (h1.mono hb0.size)
  go_upto_region 6 with fail
  have hmi := made_ints
  have hmb := made_bools
  have hmk := made_kepts
  refine wp_region_inv (by kernel_rfl) (fun L a W => L.size = 10 ∧ ∃ x20 x21 x22 x23 x24 x25 x26 x27, a = ⟨#[.int .i64 me, .agg #[.int .i64 k.view, .int .i64 k.normal, .bool k.calm, .slice A n c, .int .i64 k.commit], undef, .pointer (some ⟨w.heap.size, 0, none⟩), .pointer (some ⟨w.heap.size + 1, 0, none⟩), .int .i64 0, .int .i64 0, .int .i64 me, .bool (decide (me < 0)), .bool (decide (me < 0)), .int .i64 me, .bool (decide (3 ≤ me)), .bool (decide (me < 0) || decide (3 ≤ me)), undef, .agg #[.int .i64 k.view, .int .i64 k.normal, .bool k.calm, .slice A n c, .int .i64 k.commit], .int .i64 0, .int .i64 0, .bool false, undef, undef, x20, x21, x22, x23, x24, x25, x26, x27], []⟩ ∧ Hid (Blk W w.heap.size 28 #[.int .i64 k.view, .int .i64 k.normal, .bool k.calm, .slice A n c, .int .i64 k.commit] ∧ Below w.heap.size w W ∧ NewI me k (w.heap.size + 1) L x20 x21 x22 x23 x24 x25 x26 x27 (.agg #[.int .i64 k.view, .int .i64 k.normal, .bool k.calm, .slice A n c, .int .i64 k.commit]) W)) ?_ ?_ ?_
  · exact ⟨by simp, undef, undef, undef, undef, undef, undef, undef, undef, rfl, Lib.hid ⟨hs.drew, hb.drew, ⟨fun h => (not_dn0 h).elim, fun h => (not_dn0 h).elim, fun h => (not_dn0 h).elim, fun h => (not_dn0 h).elim, fun h => (not_dn0 h).elim, fun h => (not_dn0 h).elim, fun h => (not_dn0 h).elim, fun h => (not_dn0 h).elim, fun h => (not_dn0 h).elim, fun _ => hz.drew⟩⟩⟩
  · intro L a W i hI hi
    obtain ⟨hl, x20, x21, x22, x23, x24, x25, x26, x27, rfl, hX⟩ := hI
    obtain ⟨hsW, hwW, hN⟩ := hX.out
    obtain ⟨hi1, hi2, hi3⟩ := mem_ready hi
    have hcase : i = 0 ∨ i = 1 ∨ i = 2 ∨ i = 3 ∨ i = 4 ∨ i = 5 ∨ i = 6 ∨ i = 7 ∨ i = 8 ∨ i = 9 := by simp at hi1; omega
    have q0 := hsW.cell 0
    have q1 := hsW.cell 1
    have q2 := hsW.cell 2
    have q3 := hsW.cell 3
    have q4 := hsW.cell 4
    simp only [List.getElem?_toArray, List.getElem?_cons_zero, List.getElem?_cons_succ] at q0 q1 q2 q3 q4
    have HX := Lib.hid (And.intro hsW (And.intro hwW hN))
    clear hi hi1 hX hsW hwW hN hz hs hb hb0 h1
    rcases hcase with rfl | rfl | rfl | rfl | rfl | rfl | rfl | rfl | rfl | rfl
    · clear hi3
      refine wpOp_go rfl rfl ?_
      go_simp
      obtain ⟨hsW, hwW, hN⟩ := HX.out
      exact ⟨_, _, _, _, _, _, _, _, ⟨rfl, rfl, rfl, rfl, rfl, rfl, rfl, rfl⟩, Lib.hid ⟨hsW, hwW, ⟨fun _ => rfl, fun d => hN.f1 (dn_old d (by decide)), fun d => hN.f2 (dn_old d (by decide)), fun d => hN.f3 (dn_old d (by decide)), fun d => hN.f4 (dn_old d (by decide)), fun d => hN.f5 (dn_old d (by decide)), fun d => hN.f6 (dn_old d (by decide)), fun d => hN.f7 (dn_old d (by decide)), fun d => hN.f8 (dn_old d (by decide)), fun d => hN.res (dn_new d)⟩⟩⟩
    · clear hi3
      refine wpOp_go rfl rfl ?_
      go_simp
      obtain ⟨hsW, hwW, hN⟩ := HX.out
      exact ⟨_, _, _, _, _, _, _, _, ⟨rfl, rfl, rfl, rfl, rfl, rfl, rfl, rfl⟩, Lib.hid ⟨hsW, hwW, ⟨fun d => hN.f0 (dn_old d (by decide)), fun _ => rfl, fun d => hN.f2 (dn_old d (by decide)), fun d => hN.f3 (dn_old d (by decide)), fun d => hN.f4 (dn_old d (by decide)), fun d => hN.f5 (dn_old d (by decide)), fun d => hN.f6 (dn_old d (by decide)), fun d => hN.f7 (dn_old d (by decide)), fun d => hN.f8 (dn_old d (by decide)), fun d => hN.res (dn_new d)⟩⟩⟩
    · simp [Region.binds] at hi3
      have g1 := HX.out.2.2.f1 (dn_of hi3)
      subst g1
      refine wpOp_go rfl rfl ?_
      go_simp
      refine (stageCopy_c _ k W B (HK.out.below HX.out.2.1)).mono ?_; rintro en W2 ⟨⟨lu, rfl, hu⟩, h2⟩
      obtain ⟨hsW, hwW, hN0⟩ := HX.out
      have hN := hN0.below h2
      exact ⟨_, _, _, _, _, _, _, _, ⟨rfl, rfl, rfl, rfl, rfl, rfl, rfl, rfl⟩, Lib.hid ⟨hsW.same h2, hwW.trans (h2.mono hwW.size), ⟨fun d => hN.f0 (dn_old d (by decide)), fun d => hN.f1 (dn_old d (by decide)), fun _ => ⟨_, rfl, hu.is⟩, fun d => hN.f3 (dn_old d (by decide)), fun d => hN.f4 (dn_old d (by decide)), fun d => hN.f5 (dn_old d (by decide)), fun d => hN.f6 (dn_old d (by decide)), fun d => hN.f7 (dn_old d (by decide)), fun d => hN.f8 (dn_old d (by decide)), fun d => hN.res (dn_new d)⟩⟩⟩
    · clear hi3
      refine wpOp_go rfl rfl ?_
      go_simp
      obtain ⟨hsW, hwW, hN0⟩ := HX.out
      have hN := hN0.below (below_alloc W (Obj.cells #[.int .i64 0, .int .i64 0, .int .i64 0] 3))
      have hn : Blk (W.alloc (Obj.cells #[.int .i64 0, .int .i64 0, .int .i64 0] 3)) W.heap.size 3 #[.int .i64 0, .int .i64 0, .int .i64 0] := Blk.new _ _ _
      exact ⟨_, _, _, _, _, _, _, _, ⟨rfl, rfl, rfl, rfl, rfl, rfl, rfl, rfl⟩, Lib.hid ⟨hsW.alloc _, hwW.alloc hwW.size _, ⟨fun d => hN.f0 (dn_old d (by decide)), fun d => hN.f1 (dn_old d (by decide)), fun d => hN.f2 (dn_old d (by decide)), fun _ => ones_blk (xs := [0, 0, 0]) hn (by simp [R47]), fun d => hN.f4 (dn_old d (by decide)), fun d => hN.f5 (dn_old d (by decide)), fun d => hN.f6 (dn_old d (by decide)), fun d => hN.f7 (dn_old d (by decide)), fun d => hN.f8 (dn_old d (by decide)), fun d => hN.res (dn_new d)⟩⟩⟩
    · clear hi3
      refine wpOp_go rfl rfl ?_
      go_simp
      obtain ⟨hsW, hwW, hN0⟩ := HX.out
      have hN := hN0.below (below_alloc W (Obj.cells #[.bool false, .bool false, .bool false] 4))
      have hn : Blk (W.alloc (Obj.cells #[.bool false, .bool false, .bool false] 4)) W.heap.size 4 #[.bool false, .bool false, .bool false] := Blk.new _ _ _
      exact ⟨_, _, _, _, _, _, _, _, ⟨rfl, rfl, rfl, rfl, rfl, rfl, rfl, rfl⟩, Lib.hid ⟨hsW.alloc _, hwW.alloc hwW.size _, ⟨fun d => hN.f0 (dn_old d (by decide)), fun d => hN.f1 (dn_old d (by decide)), fun d => hN.f2 (dn_old d (by decide)), fun d => hN.f3 (dn_old d (by decide)), fun _ => ones_blk (xs := [false, false, false]) hn (by simp [R47]), fun d => hN.f5 (dn_old d (by decide)), fun d => hN.f6 (dn_old d (by decide)), fun d => hN.f7 (dn_old d (by decide)), fun d => hN.f8 (dn_old d (by decide)), fun d => hN.res (dn_new d)⟩⟩⟩
    · clear hi3
      refine wpOp_go rfl rfl ?_
      go_simp
      obtain ⟨hsW, hwW, hN0⟩ := HX.out
      have hN := hN0.below (below_alloc W (Obj.cells #[.int .i64 0, .int .i64 0, .bool false, .slice none 0 0, .int .i64 0, .int .i64 0, .int .i64 0, .bool false, .slice none 0 0, .int .i64 0, .int .i64 0, .int .i64 0, .bool false, .slice none 0 0, .int .i64 0] 28))
      have hn : Blk (W.alloc (Obj.cells #[.int .i64 0, .int .i64 0, .bool false, .slice none 0 0, .int .i64 0, .int .i64 0, .int .i64 0, .bool false, .slice none 0 0, .int .i64 0, .int .i64 0, .int .i64 0, .bool false, .slice none 0 0, .int .i64 0] 28)) W.heap.size 28 #[.int .i64 0, .int .i64 0, .bool false, .slice none 0 0, .int .i64 0, .int .i64 0, .int .i64 0, .bool false, .slice none 0 0, .int .i64 0, .int .i64 0, .int .i64 0, .bool false, .slice none 0 0, .int .i64 0] := Blk.new _ _ _
      exact ⟨_, _, _, _, _, _, _, _, ⟨rfl, rfl, rfl, rfl, rfl, rfl, rfl, rfl⟩, Lib.hid ⟨hsW.alloc _, hwW.alloc hwW.size _, ⟨fun d => hN.f0 (dn_old d (by decide)), fun d => hN.f1 (dn_old d (by decide)), fun d => hN.f2 (dn_old d (by decide)), fun d => hN.f3 (dn_old d (by decide)), fun d => hN.f4 (dn_old d (by decide)), fun _ => kepts_blk hn, fun d => hN.f6 (dn_old d (by decide)), fun d => hN.f7 (dn_old d (by decide)), fun d => hN.f8 (dn_old d (by decide)), fun d => hN.res (dn_new d)⟩⟩⟩
    · clear hi3
      refine wpOp_go rfl rfl ?_
      go_simp
      obtain ⟨hsW, hwW, hN0⟩ := HX.out
      have hN := hN0.below (below_alloc W (Obj.cells #[.bool false, .bool false, .bool false] 4))
      have hn : Blk (W.alloc (Obj.cells #[.bool false, .bool false, .bool false] 4)) W.heap.size 4 #[.bool false, .bool false, .bool false] := Blk.new _ _ _
      exact ⟨_, _, _, _, _, _, _, _, ⟨rfl, rfl, rfl, rfl, rfl, rfl, rfl, rfl⟩, Lib.hid ⟨hsW.alloc _, hwW.alloc hwW.size _, ⟨fun d => hN.f0 (dn_old d (by decide)), fun d => hN.f1 (dn_old d (by decide)), fun d => hN.f2 (dn_old d (by decide)), fun d => hN.f3 (dn_old d (by decide)), fun d => hN.f4 (dn_old d (by decide)), fun d => hN.f5 (dn_old d (by decide)), fun _ => ones_blk (xs := [false, false, false]) hn (by simp [R47]), fun d => hN.f7 (dn_old d (by decide)), fun d => hN.f8 (dn_old d (by decide)), fun d => hN.res (dn_new d)⟩⟩⟩
    · simp [Region.binds] at hi3
      obtain ⟨d0, d2, d3, d4, d5, d6⟩ := hi3
      have g0 := HX.out.2.2.f0 (dn_of d0)
      obtain ⟨lu, g2, gu⟩ := HX.out.2.2.f2 (dn_of d2)
      have g3 := HX.out.2.2.f3 (dn_of d3)
      have g4 := HX.out.2.2.f4 (dn_of d4)
      have g5 := HX.out.2.2.f5 (dn_of d5)
      have g6 := HX.out.2.2.f6 (dn_of d6)
      obtain ⟨A0, n0, c0, rfl⟩ := gu.form
      obtain ⟨A1, n1, c1, rfl⟩ := g3.form
      obtain ⟨A2, n2, c2, rfl⟩ := g4.form
      obtain ⟨A3, n3, c3, rfl⟩ := g5.form
      obtain ⟨A4, n4, c4, rfl⟩ := g6.form
      subst g0
      subst g2
      have HR := Lib.hid (show IsRep W 0 (.slice A0 n0 c0) (.slice A1 n1 c1) (.slice A2 n2 c2) (.slice A3 n3 c3) (.slice A4 n4 c4) ⟨me, k, [0, 0, 0], [false, false, false], [Scu.kept0, Scu.kept0, Scu.kept0], [false, false, false]⟩ from ⟨gu, g3, g4, g5, g6⟩)
      clear gu g3 g4 g5 g6 d0 d2 d3 d4 d5 d6
      refine wpOp_go rfl rfl ?_
      go_simp
      obtain ⟨hsW, hwW, hN⟩ := HX.out
      exact ⟨_, _, _, _, _, _, _, _, ⟨rfl, rfl, rfl, rfl, rfl, rfl, rfl, rfl⟩, Lib.hid ⟨hsW, hwW, ⟨fun d => hN.f0 (dn_old d (by decide)), fun d => hN.f1 (dn_old d (by decide)), fun d => hN.f2 (dn_old d (by decide)), fun d => hN.f3 (dn_old d (by decide)), fun d => hN.f4 (dn_old d (by decide)), fun d => hN.f5 (dn_old d (by decide)), fun d => hN.f6 (dn_old d (by decide)), fun _ => ⟨_, _, _, _, _, rfl, HR.out⟩, fun d => hN.f8 (dn_old d (by decide)), fun d => hN.res (dn_new d)⟩⟩⟩
    · have d8 := dn_not hi2
      simp [Region.binds] at hi3
      obtain ⟨d7, _⟩ := hi3
      obtain ⟨lu, hv, wv, gv, nv, g7, gr⟩ := HX.out.2.2.f7 (dn_of d7)
      obtain ⟨A0, n0, c0, A1, c1, A2, c2, A3, c3, A4, c4, rfl, rfl, rfl, rfl, rfl⟩ := gr.forms
      subst g7
      have hres := HX.out.2.2.res d8
      have z0 := hres.cell 0
      have z1 := hres.cell 1
      have z2 := hres.cell 2
      have z3 := hres.cell 3
      have z4 := hres.cell 4
      have z5 := hres.cell 5
      have z6 := hres.cell 6
      have z7 := hres.cell 7
      have z8 := hres.cell 8
      have z9 := hres.cell 9
      simp only [List.getElem?_toArray, List.getElem?_cons_zero, List.getElem?_cons_succ] at z0 z1 z2 z3 z4 z5 z6 z7 z8 z9
      have zz := hres.frozen
      have zl := hres.lt
      have HR := Lib.hid gr
      have HS := Lib.hid hres
      clear gr hres d7
      refine wpOp_go rfl rfl ?_
      go_simp
      obtain ⟨hsW, hwW, hN⟩ := HX.out
      have hsm := Same.sets10 (Ts := [28]) (B := 0) (a0 := .int .i64 me) (a1 := .int .i64 k.view) (a2 := .int .i64 k.normal) (a3 := .bool k.calm) (a4 := .slice A0 n0 c0) (a5 := .int .i64 k.commit) (a6 := .slice A1 3 c1) (a7 := .slice A2 3 c2) (a8 := .slice A3 3 c3) (a9 := .slice A4 3 c4) HS.out (Nat.zero_le _) (by decide)
      exact ⟨_, _, _, _, _, _, _, _, ⟨rfl, rfl, rfl, rfl, rfl, rfl, rfl, rfl⟩, Lib.hid ⟨blk_same hsW hsm (by simp), below_set10 hwW (Nat.le_succ _), hN.store (by omega) HS.out HR.out⟩⟩
    · clear hi3
      refine wpOp_go rfl rfl ?_
      go_simp
      obtain ⟨hsW, hwW, hN⟩ := HX.out
      exact ⟨_, _, _, _, _, _, _, _, ⟨rfl, rfl, rfl, rfl, rfl, rfl, rfl, rfl⟩, Lib.hid ⟨hsW, hwW, ⟨fun d => hN.f0 (dn_old d (by decide)), fun d => hN.f1 (dn_old d (by decide)), fun d => hN.f2 (dn_old d (by decide)), fun d => hN.f3 (dn_old d (by decide)), fun d => hN.f4 (dn_old d (by decide)), fun d => hN.f5 (dn_old d (by decide)), fun d => hN.f6 (dn_old d (by decide)), fun d => hN.f7 (dn_old d (by decide)), fun d => hN.f8 (dn_old d (by decide)), fun d => hN.res (dn_new d)⟩⟩⟩
  · intro L a W hI hr
    obtain ⟨hl, x20, x21, x22, x23, x24, x25, x26, x27, rfl, hX⟩ := hI
    obtain ⟨hsW, hwW, hN⟩ := hX.out
    have hd := all_done (by kernel_rfl) hl hr 8 (by simp)
    obtain ⟨lu, hv, wv, gv, nv, hB, hR⟩ := hN.f8 hd
    have r0 := hB.cell 0
    have r1 := hB.cell 1
    have r2 := hB.cell 2
    have r3 := hB.cell 3
    have r4 := hB.cell 4
    have r5 := hB.cell 5
    have r6 := hB.cell 6
    have r7 := hB.cell 7
    have r8 := hB.cell 8
    have r9 := hB.cell 9
    simp only [List.getElem?_toArray, List.getElem?_cons_zero, List.getElem?_cons_succ] at r0 r1 r2 r3 r4 r5 r6 r7 r8 r9
    have rz := hB.frozen
    have rl := hB.lt
    clear hX hsW hN hr hl hd
    rename_i hK
    refine hK _ _ (Go.wp_ret ?_)
    refine bodyPost_ret (v := .tuple #[.agg #[.int .i64 me, .int .i64 k.view, .int .i64 k.normal, .bool k.calm, lu, .int .i64 k.commit, hv, wv, gv, nv], .int .i64 0]) (by simp [results, Try.results24, go_sem, r0, r1, r2, r3, r4, r5, r6, r7, r8, r9]) rfl ?_
    exact ⟨⟨_, _, _, _, _, rfl, hR⟩, hwW⟩
theorem repNew_c (lv : Value) (me : Int) (k : Scu.Kept) (w : World) (B : Nat) (hk : IsStrs w B lv k.log) :
    Calls Try.prog 24 #[.int .i64 me, .agg #[.int .i64 k.view, .int .i64 k.normal, .bool k.calm, lv, .int .i64 k.commit]] w fun e w' => NewRet w' (Scu.repNew me k).1 (Scu.repNew me k).2 e ∧ Below w.heap.size w w' := by
  obtain ⟨A, n, c, rfl⟩ := hk.form
  by_cases hm : me < 0 ∨ 3 ≤ me
  · rw [nw1 hm]
    exact repNew_1 A n c me k w hm
  by_cases hf : Scu.keptFault k ≠ 0
  · rw [nw2 hm hf]
    exact repNew_2 A n c me k w B hk (by omega) (by omega) _ rfl hf
  · rw [nw3 hm hf]
    exact repNew_3 A n c me k w B hk (by omega) (by omega) (Decidable.not_not.1 hf)
end Go.Proofs.Ytioajgcbchdpeaa

/- Part 7: words and walks under the law 'ReplicaHears'. -/
import Derived.Test.YtlaibljdlpmbfaaPart6
import Derived.Test.YtlaibljdlpmbfaaPart5
import Derived.Deep.RegionHeld3
import Derived.Deep.RegionLaw
import Derived.StillTailTactics
set_option linter.unusedVariables false
set_option linter.unusedSimpArgs false
/- Words: what a replica does in one call: its copy, and what it sends. Walks: replica.begin. -/
namespace Go.Proofs.Ytlaibljdlpmbfaa
open Go.RowKit
set_option maxHeartbeats 1000000
set_option maxRecDepth 100000

def msgV (m : Scu.Message) (lv : Value) : List Value := [.int .i64 m.kind, .int .i64 m.from_, .int .i64 m.tq, .int .i64 m.view, .int .i64 m.normal, .int .i64 m.commit, .int .i64 m.n, lv]
def MsgE (w : World) (B : Nat) (cs : List Value) (m : Scu.Message) : Prop := ∃ lv, cs = msgV m lv ∧ IsStrs w B lv m.log
theorem MsgE.same {w w' : World} {B : Nat} {Ts : List TypeId} {cs : List Value} {m : Scu.Message} (h : MsgE w B cs m) (ht : 9 ∈ Ts) (hs : Same Ts B w w') : MsgE w' B cs m := by
  obtain ⟨lv, e, h⟩ := h
  exact ⟨lv, e, h.same ht hs⟩
theorem el_msgs : ElT 33 31 8 80 := by
  obtain ⟨i, h1, h2, h3, h4⟩ := info_parts (P := Try.prog) (e := 31) (z := .agg #[.int .i64 0, .int .i64 0, .int .i64 0, .int .i64 0, .int .i64 0, .int .i64 0, .int .i64 0, .slice none 0 0]) (size := 8) (bytes := 80) (by kernel_rfl)
  exact ⟨Try.underlying33, by omega, i, _, h1, h2, h3, h4, rfl⟩
/-- Messages in a row of the call's own: css the cells of each. -/
structure OwnMs (w : World) (base : Nat) (v : Value) (ms : List Scu.Message) (css : List (List Value)) : Prop where
  len : css.length = ms.length
  eight : ∀ cs ∈ css, cs.length = 8
  row : w.ownsRow base 31 8 v ms.length css.flatten
  each : ∀ (j : Nat) (cs : List Value) (m : Scu.Message), css[j]? = some cs → ms[j]? = some m → MsgE w 0 cs m
  max : ms.length * 80 ≤ R47
section
variable {w w' : World} {B base base' : Nat} {v : Value} {ms : List Scu.Message} {css : List (List Value)}
theorem OwnMs.is (h : OwnMs w base v ms css) : IsRow 31 8 80 MsgE w 0 v ms := by
  obtain ⟨A, c, rfl, hc, _, hr, _⟩ := rd_own h.row
  exact ⟨⟨A, c, css, rfl, hc, h.len, h.eight, hr, h.each⟩, h.max⟩
theorem OwnMs.same (h : OwnMs w base v ms css) (hs : Same [9, 31] B w w') : OwnMs w' base v ms css :=
  ⟨h.len, h.eight, own_same h.row (by simp) hs, fun j cs k a b => (h.each j cs k a b).same (B := 0) (Ts := [9, 31]) (by simp) (hs.mono (fun _ h => h) (Nat.zero_le _)), h.max⟩
theorem OwnMs.below (h : OwnMs w base v ms css) (hb : Below w.heap.size w w') : OwnMs w' base v ms css := h.same (B := 0) (Same.below hb)
theorem OwnMs.nil_ : OwnMs w base (.slice none 0 0) [] [] := ⟨rfl, by simp, World.ownsRow_nil _ _ _ _, fun j cs k h => by simp at h, by simp [R47]⟩
theorem OwnMs.form (h : OwnMs w base v ms css) : ∃ A c, v = .slice A ms.length c := by
  obtain ⟨A, c, e, _⟩ := rd_own h.row
  exact ⟨A, c, e⟩
end
/-- A call's work: its block, the replica's block, the replica and the messages so far. -/
structure Work (w : World) (base gw gr : Nat) (r : Scu.Replica) (lu hv wv gv nv ov : Value) (ms : List Scu.Message) (css : List (List Value)) : Prop where
  wb : Blk w gw 48 #[.pointer (some ⟨gr, 0, none⟩), ov]
  rb : Blk w gr 29 #[.int .i64 r.me, .int .i64 r.kept.view, .int .i64 r.kept.normal, .bool r.kept.calm, lu, .int .i64 r.kept.commit, hv, wv, gv, nv]
  own : OwnRep w base lu hv wv gv nv r
  out : OwnMs w base ov ms css
  lw : base ≤ gw
  lr : base ≤ gr
theorem Work.below {w w' : World} {base gw gr : Nat} {r : Scu.Replica} {lu hv wv gv nv ov : Value} {ms : List Scu.Message} {css : List (List Value)} (h : Work w base gw gr r lu hv wv gv nv ov ms css) (hb : Below w.heap.size w w') : Work w' base gw gr r lu hv wv gv nv ov ms css :=
  ⟨h.wb.same hb, h.rb.same hb, h.own.below hb, h.out.below hb, h.lw, h.lr⟩
theorem repCheck_a (lv hv0 wv gv nv : Value) (r : Scu.Replica) (w : World) (B : Nat) (hv : IsRep w B lv hv0 wv gv nv r) (f : Int) (h : Scu.repFault r = f) :
    Calls Try.prog 21 #[.agg #[.int .i64 r.me, .int .i64 r.kept.view, .int .i64 r.kept.normal, .bool r.kept.calm, lv, .int .i64 r.kept.commit, hv0, wv, gv, nv]] w fun e w' => e = .returned (.int .i64 f) ∧ Below w.heap.size w w' := by
  have := repCheck_c lv hv0 wv gv nv r w B hv
  rw [h] at this
  exact this
theorem begin_1 (lv hv wv gv nv : Value) (r : Scu.Replica) (w : World) (B : Nat) (hr : IsRep w B lv hv wv gv nv r) (f : Int) (hf : Scu.repFault r = f) (hn : f ≠ 0) :
    Calls Try.prog 10 #[.agg #[.int .i64 r.me, .int .i64 r.kept.view, .int .i64 r.kept.normal, .bool r.kept.calm, lv, .int .i64 r.kept.commit, hv, wv, gv, nv]] w fun e w' => e = .returned (.tuple #[.pointer none, .int .i64 f]) ∧ Below w.heap.size w w' := by
  have hfb : (f != 0) = true := by simpa using hn
  clear hn
  have HV := Lib.hid hr
  have HF := Lib.hid hf
  obtain ⟨A0, n0, c0, A1, c1, A2, c2, A3, c3, A4, c4, rfl, rfl, rfl, rfl, rfl⟩ := hr.forms
  clear hr hf
  go_enter Try.func10, Try.ntmps10
  go_wp2_with fail
  have h0 : Below w.heap.size w (w.alloc (Obj.cells #[.int .i64 r.me, .int .i64 r.kept.view, .int .i64 r.kept.normal, .bool r.kept.calm, .slice A0 n0 c0, .int .i64 r.kept.commit, .slice A1 r.have_.length c1, .slice A2 r.wants.length c2, .slice A3 r.gives.length c3, .slice A4 r.given.length c4] 29)) := below_alloc w _
  refine (repCheck_a _ _ _ _ _ r _ B (HV.out.below h0) f HF.out).mono ?_; rintro en w1 ⟨rfl, h1⟩
  have hs : Blk w1 w.heap.size 29 #[.int .i64 r.me, .int .i64 r.kept.view, .int .i64 r.kept.normal, .bool r.kept.calm, .slice A0 n0 c0, .int .i64 r.kept.commit, .slice A1 r.have_.length c1, .slice A2 r.wants.length c2, .slice A3 r.gives.length c3, .slice A4 r.given.length c4] := (Blk.new w _ _).same h1
  have hb := h0.trans (h1.mono h0.size)
  clear h1 h0
  clear hs
  go_wp2
  go_ret2
  exact ⟨rfl, hb⟩
theorem begin_2 (lv hv wv gv nv : Value) (r : Scu.Replica) (w : World) (B : Nat) (hr : IsRep w B lv hv wv gv nv r) (hf : Scu.repFault r = 0) :
    Calls Try.prog 10 #[.agg #[.int .i64 r.me, .int .i64 r.kept.view, .int .i64 r.kept.normal, .bool r.kept.calm, lv, .int .i64 r.kept.commit, hv, wv, gv, nv]] w fun e w' =>
      (∃ gw gr lu hu wu gu nu, e = .returned (.tuple #[.pointer (some ⟨gw, 0, none⟩), .int .i64 0]) ∧ Work w' w.heap.size gw gr r lu hu wu gu nu (.slice none 0 0) [] [] ∧ ApG w' w.heap.size gu r.gives lu) ∧ Below w.heap.size w w' := by
  have HV := Lib.hid hr
  have HF := Lib.hid hf
  obtain ⟨A0, n0, c0, A1, c1, A2, c2, A3, c3, A4, c4, rfl, rfl, rfl, rfl, rfl⟩ := hr.forms
  clear hr hf
  go_enter Try.func10, Try.ntmps10
  go_wp2_with fail
  have h0 : Below w.heap.size w (w.alloc (Obj.cells #[.int .i64 r.me, .int .i64 r.kept.view, .int .i64 r.kept.normal, .bool r.kept.calm, .slice A0 n0 c0, .int .i64 r.kept.commit, .slice A1 r.have_.length c1, .slice A2 r.wants.length c2, .slice A3 r.gives.length c3, .slice A4 r.given.length c4] 29)) := below_alloc w _
  refine (repCheck_a _ _ _ _ _ r _ B (HV.out.below h0) 0 HF.out).mono ?_; rintro en w1 ⟨rfl, h1⟩
  have hs : Blk w1 w.heap.size 29 #[.int .i64 r.me, .int .i64 r.kept.view, .int .i64 r.kept.normal, .bool r.kept.calm, .slice A0 n0 c0, .int .i64 r.kept.commit, .slice A1 r.have_.length c1, .slice A2 r.wants.length c2, .slice A3 r.gives.length c3, .slice A4 r.given.length c4] := (Blk.new w _ _).same h1
  have hb := h0.trans (h1.mono h0.size)
  clear h1 h0
  have s0 := hs.cell 0
  have s1 := hs.cell 1
  have s2 := hs.cell 2
  have s3 := hs.cell 3
  have s4 := hs.cell 4
  have s5 := hs.cell 5
  have s6 := hs.cell 6
  have s7 := hs.cell 7
  have s8 := hs.cell 8
  have s9 := hs.cell 9
  simp only [List.getElem?_toArray, List.getElem?_cons_zero, List.getElem?_cons_succ] at s0 s1 s2 s3 s4 s5 s6 s7 s8 s9
  have sl := hs.lt
  clear hs
  have HB := Lib.hid hb
  clear hb
  go_wp2_with fail
  refine (repCopy_c A0 n0 c0 A1 r.have_.length c1 A2 r.wants.length c2 A3 r.gives.length c3 A4 r.given.length c4 r _ B (HV.out.below HB.out)).mono ?_; rintro en w2 ⟨⟨lu, hu, wu, gu, nu, rfl, ho, hap⟩, h2⟩
  obtain ⟨E0, m0, d0, E1, d1, E2, d2, E3, d3, E4, d4, rfl, rfl, rfl, rfl, rfl⟩ := ho.is.forms
  have HO := Lib.hid (And.intro ho h2)
  have HAP := Lib.hid hap
  clear ho h2 hap s0 s1 s2 s3 s4 s5 s6 s7 s8 s9 sl
  go_wp2
  go_ret2
  have hal := (below_alloc w2 (Obj.cells #[.int .i64 r.me, .int .i64 r.kept.view, .int .i64 r.kept.normal, .bool r.kept.calm, .slice E0 m0 d0, .int .i64 r.kept.commit, .slice E1 r.have_.length d1, .slice E2 r.wants.length d2, .slice E3 r.gives.length d3, .slice E4 r.given.length d4] 29)).alloc (by simp) (Obj.cells #[.pointer (some ⟨w2.heap.size, 0, none⟩), .slice none 0 0] 48)
  have hsz := HB.out.size
  have hsz2 := HO.out.2.size
  refine ⟨⟨_, _, _, _, _, _, _, rfl, ⟨Blk.new' (by simp), (Blk.new w2 _ _).alloc _, ?_, OwnMs.nil_, by omega, by omega⟩, (HAP.out.base_ hsz).below hal⟩, (HB.out.trans (HO.out.2.mono hsz)).trans (hal.mono (by omega))⟩
  exact (⟨(HO.out.1.own).base_ hsz, let ⟨css, g⟩ := HO.out.1.giv; ⟨css, g.base_ hsz⟩⟩ : OwnRep _ _ _ _ _ _ _ _).below hal
end Go.Proofs.Ytlaibljdlpmbfaa
/- Walks: one message is sent. -/
namespace Go.Proofs.Ytlaibljdlpmbfaa
open Go.RowKit
set_option maxHeartbeats 2000000
set_option maxRecDepth 100000

theorem blk_keep {w w' : World} {g : Nat} {t : TypeId} {cs : Array Value} {Ts : List TypeId} (h : Blk w g t cs) (hs : Same Ts 0 w w') (ht : t ∈ Ts) : Blk w' g t cs := (hs.keep g h.lt (.inr ⟨_, _, _, ht, h⟩)).trans h
/-- Boxes of messages beside a call's own row of them stay. -/
def Far (w w' : World) (ov ov' : Value) : Prop := ∀ b cs, Blk w b 31 cs → ov.ownBlock ≠ some b → Blk w' b 31 cs ∧ ov'.ownBlock ≠ some b
theorem Far.refl (w : World) (ov : Value) : Far w w ov ov := fun _ _ h k => ⟨h, k⟩
theorem Far.trans {w1 w2 w3 : World} {o1 o2 o3 : Value} (h : Far w1 w2 o1 o2) (k : Far w2 w3 o2 o3) : Far w1 w3 o1 o3 := fun b cs h1 h2 => let ⟨a, c⟩ := h b cs h1 h2; k b cs a c
theorem Far.same {w w' : World} {ov : Value} {Ts : List TypeId} (ht : 31 ∈ Ts) (hs : Same Ts 0 w w') : Far w w' ov ov := fun _ _ h k => ⟨blk_keep h hs ht, k⟩
theorem Far.below {w w' : World} {ov : Value} (hb : Below w.heap.size w w') : Far w w' ov ov := fun _ _ h k => ⟨h.same hb, k⟩
/-- Across the append of a message and the store behind it: P the world that the append meets. -/
theorem send_next {base gw gr : Nat} {r : Scu.Replica} {lu hv wv gv nv ov v4 lx : Value} {ms : List Scu.Message} {css : List (List Value)} {m : Scu.Message} {P w4 : World} (h : Work P base gw gr r lu hv wv gv nv ov ms css) (hm : (ms.length + 1) * 80 ≤ R47)
    (hx : IsStrs P 0 lx m.log) (h4 : w4.ownsRow base 31 8 v4 (ms.length + 1) (css.flatten ++ msgV m lx)) (hg : P.grownBy w4 ov.ownBlock) (hb : base ≤ P.heap.size) (hv4 : v4.ownBlock = ov.ownBlock ∨ v4.ownBlock = some P.heap.size) :
    Work (w4.setCell ⟨gw, 1, none⟩ v4) base gw gr r lu hv wv gv nv v4 (ms ++ [m]) (css ++ [msgV m lx]) ∧ Below base P (w4.setCell ⟨gw, 1, none⟩ v4) ∧ Same [9, 3, 4, 24, 29] 0 P (w4.setCell ⟨gw, 1, none⟩ v4) ∧
      ∀ g t cs, Blk P g t cs → g ≠ gw → ov.ownBlock ≠ some g → Blk (w4.setCell ⟨gw, 1, none⟩ v4) g t cs ∧ v4.ownBlock ≠ some g := by
  have hrow := h.out.row
  have hs0 : Same [9, 3, 4, 24, 29, 48] 0 P w4 := Same.own hrow hg (Nat.zero_le _) (by decide)
  have hwb := blk_keep h.wb hs0 (by simp)
  have hs1 : Same [9, 3, 4, 24, 29, 31] 0 w4 (w4.setCell ⟨gw, 1, none⟩ v4) := Same.set_ hwb (Nat.zero_le _) (by decide) 1 v4
  have hs2 : Same [9, 3, 4, 24, 29] 0 P (w4.setCell ⟨gw, 1, none⟩ v4) := (hs0.mono (by simp) (Nat.le_refl _)).trans (hs1.mono (by simp) (Nat.le_refl _))
  refine ⟨⟨hwb.set_ 1 v4, blk_keep h.rb hs2 (by simp), h.own.same (hs2.mono (by simp) (Nat.le_refl _)), ⟨by simp only [List.length_append, h.out.len, List.length_cons, List.length_nil], ?_, ?_, ?_, by simpa using hm⟩, h.lw, h.lr⟩, ?_, hs2, ?_⟩
  · intro c hc
    rcases List.mem_append.1 hc with h' | h'
    · exact h.out.eight c h'
    · rw [List.mem_singleton] at h'
      subst h'
      rfl
  · rw [List.length_append, List.flatten_append]
    have h5 : w4.ownsRow base 31 8 v4 (ms.length + [m].length) (css.flatten ++ [msgV m lx].flatten) := by simpa using h4
    exact own_set h5 hwb (by decide) v4
  · intro j c x hc hx'
    rcases Nat.lt_or_ge j ms.length with hj | hj
    · rw [List.getElem?_append_left (by rw [h.out.len]; exact hj)] at hc
      rw [List.getElem?_append_left hj] at hx'
      exact (h.out.each j c x hc hx').same (B := 0) (Ts := [9]) (by simp) (hs2.mono (by simp) (Nat.le_refl _))
    · rw [List.getElem?_append_right (by rw [h.out.len]; exact hj), h.out.len] at hc
      rw [List.getElem?_append_right hj] at hx'
      have hj0 : j - ms.length = 0 := by
        rcases Nat.eq_zero_or_pos (j - ms.length) with h' | h'
        · exact h'
        · rw [List.getElem?_eq_none (by simp; omega)] at hc
          cases hc
      rw [hj0] at hc hx'
      simp only [List.getElem?_cons_zero, Option.some.injEq] at hc hx'
      subst hc
      subst hx'
      exact ⟨lx, rfl, hx.same (by simp) hs2⟩
  · exact ((Below.refl base P).grown hg hb (fun q hq => (hrow.lt q hq).1)).setCell (by show base ≤ gw; exact h.lw) v4
  · intro g t cs hB hne hov
    refine ⟨Blk.far ((hg.block g hB.lt fun e => hov e.symm).trans hB) (p := ⟨gw, 1, none⟩) hne v4, fun e => ?_⟩
    rcases hv4 with h' | h'
    · rw [h'] at e
      exact hov e
    · rw [h'] at e
      have := hB.lt
      simp only [Option.some.injEq] at e
      omega
theorem send_1 (A : Option Addr) (n c : Nat) (m : Scu.Message) (tt : Int) (w : World) (base gw gr : Nat) (r : Scu.Replica) (lu hv wv gv nv ov : Value) (ms : List Scu.Message) (css : List (List Value)) (hW : Work w base gw gr r lu hv wv gv nv ov ms css) (ht : tt = r.me) :
    Calls Try.prog 27 #[.pointer (some ⟨gw, 0, none⟩), .int .i64 tt, .agg #[.int .i64 m.kind, .int .i64 m.from_, .int .i64 m.tq, .int .i64 m.view, .int .i64 m.normal, .int .i64 m.commit, .int .i64 m.n, .slice A n c]] w fun e w' => e = .returned (.tuple #[]) ∧ Below w.heap.size w w' := by
  have d0 := hW.wb.cell 0
  have d1 := hW.rb.cell 0
  simp only [List.getElem?_toArray, List.getElem?_cons_zero] at d0 d1
  have dl := hW.wb.lt
  have dm := hW.rb.lt
  subst ht
  clear hW
  go_enter Try.func27, Try.ntmps27
  go_wp2
  refine bodyPost_ret (v := .tuple #[]) (by simp [results, Try.results27]) rfl ?_
  exact ⟨rfl, below_alloc _ _⟩
theorem send_2 (A : Option Addr) (n c : Nat) (m : Scu.Message) (tt : Int) (w : World) (base gw gr : Nat) (r : Scu.Replica) (lu hv wv gv nv ov : Value) (ms : List Scu.Message) (css : List (List Value)) (hW : Work w base gw gr r lu hv wv gv nv ov ms css) (hbase : base ≤ w.heap.size) (ht : tt ≠ r.me)
    (hx : IsStrs w 0 (.slice A n c) m.log) (hm : (ms.length + 1) * 80 ≤ R47) :
    Calls Try.prog 27 #[.pointer (some ⟨gw, 0, none⟩), .int .i64 tt, .agg #[.int .i64 m.kind, .int .i64 m.from_, .int .i64 m.tq, .int .i64 m.view, .int .i64 m.normal, .int .i64 m.commit, .int .i64 m.n, .slice A n c]] w fun e w' => e = .returned (.tuple #[]) ∧ (∃ ov' css', Work w' base gw gr r lu hv wv gv nv ov' (ms ++ [⟨m.kind, r.me, tt, r.kept.view, m.normal, m.commit, m.n, m.log⟩]) css' ∧ ∀ g t cs, Blk w g t cs → g ≠ gw → ov.ownBlock ≠ some g → Blk w' g t cs ∧ ov'.ownBlock ≠ some g) ∧ Below base w w' ∧ Same [9] 0 w w' := by
  have htb : (tt == r.me) = false := by simpa using ht
  have HW := Lib.hid hW
  have HX := Lib.hid hx
  clear hW hx
  go_enter Try.func27, Try.ntmps27
  go_upto_region 1 with fail
  obtain ⟨Wd, hWd⟩ : ∃ W, W = w.alloc (Obj.cells #[.int .i64 m.kind, .int .i64 m.from_, .int .i64 m.tq, .int .i64 m.view, .int .i64 m.normal, .int .i64 m.commit, .int .i64 m.n, .slice A n c] 31) := ⟨_, rfl⟩
  rw [← hWd]
  have hbw : Below w.heap.size w Wd := by rw [hWd]; exact below_alloc _ _
  have hn : Blk Wd w.heap.size 31 #[.int .i64 m.kind, .int .i64 m.from_, .int .i64 m.tq, .int .i64 m.view, .int .i64 m.normal, .int .i64 m.commit, .int .i64 m.n, .slice A n c] := by rw [hWd]; exact Blk.new _ _ _
  have hWk := HW.out.below hbw
  have d0 := hWk.wb.cell 0
  have d1 := hWk.rb.cell 0
  have d2 := hWk.rb.cell 1
  have e1 := hn.cell 1
  have e2 := hn.cell 2
  have e3 := hn.cell 3
  simp only [List.getElem?_toArray, List.getElem?_cons_zero, List.getElem?_cons_succ] at d0 d1 d2 e1 e2 e3
  have ez := hn.frozen
  have dl := hWk.wb.lt
  have dm := hWk.rb.lt
  have el := hn.lt
  have hgw : w.heap.size ≠ gw := by have := HW.out.wb.lt; omega
  have hgr : w.heap.size ≠ gr := by have := HW.out.rb.lt; omega
  have HN := Lib.hid (And.intro hn (And.intro hWk hbw))
  clear hn hWk hbw hWd
  go_wp2_with fail
  go_region
  obtain ⟨We, hWe⟩ : ∃ W, W = (((Wd.setCell ⟨w.heap.size, 1, none⟩ (.int .i64 r.me)).setCell ⟨w.heap.size, 2, none⟩ (.int .i64 tt)).setCell ⟨w.heap.size, 3, none⟩ (.int .i64 r.kept.view)).drew := ⟨_, rfl⟩
  rw [← hWe]
  have hn2 : Blk We w.heap.size 31 #[.int .i64 m.kind, .int .i64 r.me, .int .i64 tt, .int .i64 r.kept.view, .int .i64 m.normal, .int .i64 m.commit, .int .i64 m.n, .slice A n c] := by rw [hWe]; exact (((HN.out.1.set_ 1 _).set_ 2 _).set_ 3 _).drew
  have hsm : Same [9, 3, 4, 24, 29, 48] 0 Wd We := by
    rw [hWe]
    exact ((((Same.set_ HN.out.1 (Nat.zero_le _) (by decide) 1 _).trans (Same.set_ (HN.out.1.set_ 1 _) (Nat.zero_le _) (by decide) 2 _)).trans (Same.set_ ((HN.out.1.set_ 1 _).set_ 2 _) (Nat.zero_le _) (by decide) 3 _))).trans (Same.drew _)
  have hbe : Below w.heap.size w We := by
    rw [hWe]
    exact (((HN.out.2.2.setCell (p := ⟨w.heap.size, 1, none⟩) (Nat.le_refl _) _).setCell (p := ⟨w.heap.size, 2, none⟩) (Nat.le_refl _) _).setCell (p := ⟨w.heap.size, 3, none⟩) (Nat.le_refl _) _).drew
  have hWk2 := HW.out.below hbe
  have hX2 := HX.out.below hbe
  clear d0 d1 d2 e1 e2 e3 ez dl dm el hWe hsm
  have d1 := hWk2.wb.cell 1
  have q0 := hn2.cell 0
  have q1 := hn2.cell 1
  have q2 := hn2.cell 2
  have q3 := hn2.cell 3
  have q4 := hn2.cell 4
  have q5 := hn2.cell 5
  have q6 := hn2.cell 6
  have q7 := hn2.cell 7
  simp only [List.getElem?_toArray, List.getElem?_cons_zero, List.getElem?_cons_succ] at d1 q0 q1 q2 q3 q4 q5 q6 q7
  have dz := hWk2.wb.frozen
  have dl := hWk2.wb.lt
  have ql := hn2.lt
  obtain ⟨Ao, co, rfl⟩ := hWk2.out.form
  have HWE := Lib.hid hWk2
  have HXE := Lib.hid hX2
  have HBE := Lib.hid hbe
  have HROW := Lib.hid hWk2.out.row
  unfold R47 at hm
  have HBA := Lib.hid (show base ≤ ((We.alloc (Obj.cells #[.int .i64 m.kind, .int .i64 r.me, .int .i64 tt, .int .i64 r.kept.view, .int .i64 m.normal, .int .i64 m.commit, .int .i64 m.n, .slice A n c] 31)).drew).heap.size from Nat.le_trans hbase (((hbe.alloc hbe.size (Obj.cells #[.int .i64 m.kind, .int .i64 r.me, .int .i64 tt, .int .i64 r.kept.view, .int .i64 m.normal, .int .i64 m.commit, .int .i64 m.n, .slice A n c] 31)).drew).size))
  clear hn2 hbe hWk2 hX2
  go_wp2_with fail
  go_region_law (first
    | (refine step_app _ rfl (.tmp 38) (.tmp 40) 33 rfl el_msgs base (.slice Ao ms.length co) ms.length css.flatten rfl ?_ (.slice (some ⟨We.heap.size, 0, none⟩) 1 1) 1 (msgV ⟨m.kind, r.me, tt, r.kept.view, m.normal, m.commit, m.n, m.log⟩ (.slice A n c)) rfl ⟨rfl, .inr ⟨_, _, rfl, ?_⟩⟩ ?_ ?_ ?_ ?_ ?_
       · exact (own_below HROW.out (below_alloc We _).drew)
       · intro j v hj
         have hj8 : j < 8 := by (rcases Nat.lt_or_ge j 8 with h | h; exact h; rw [List.getElem?_eq_none h] at hj; cases hj)
         have hadd : (⟨We.heap.size, 0, none⟩ : Addr).add j = ⟨We.heap.size, j, none⟩ := by (unfold Addr.add; split <;> simp_all)
         rw [hadd]
         refine (((Blk.new We 31 #[.int .i64 m.kind, .int .i64 r.me, .int .i64 tt, .int .i64 r.kept.view, .int .i64 m.normal, .int .i64 m.commit, .int .i64 m.n, .slice A n c]).drew).cell j).trans ?_
         simpa [msgV] using hj
       · (intro v hv; simp only [msgV, List.mem_cons, List.not_mem_nil, or_false] at hv; rcases hv with rfl | rfl | rfl | rfl | rfl | rfl | rfl | rfl <;> rfl)
       · (unfold maxLen; omega)
       · omega
       · exact HBA.out
       intro v4 x4 h4 hg4 hv4
       have hP := HWE.out.below (below_alloc We (Obj.cells #[.int .i64 m.kind, .int .i64 r.me, .int .i64 tt, .int .i64 r.kept.view, .int .i64 m.normal, .int .i64 m.commit, .int .i64 m.n, .slice A n c] 31)).drew
       have hnx := send_next (m := ⟨m.kind, r.me, tt, r.kept.view, m.normal, m.commit, m.n, m.log⟩) hP (by unfold R47; omega) (HXE.out.below (below_alloc We (Obj.cells #[.int .i64 m.kind, .int .i64 r.me, .int .i64 tt, .int .i64 r.kept.view, .int .i64 m.normal, .int .i64 m.commit, .int .i64 m.n, .slice A n c] 31)).drew) h4 hg4 HBA.out hv4
       have hwb4 := blk_keep hP.wb (Ts := [48]) (Same.own hP.out.row hg4 (Nat.zero_le _) (by decide)) (by simp)
       have g1 := hwb4.cell 1
       simp only [List.getElem?_toArray, List.getElem?_cons_zero, List.getElem?_cons_succ] at g1
       have gz := hwb4.frozen
       have gl := hwb4.lt
       obtain ⟨A9, c9, rfl, _, _, _, _⟩ := rd_own h4
       have HNX := Lib.hid hnx
       clear hP hnx h4 hg4 hwb4 hv4))
  all_goals
    go_wp2
    go_end0
    have hwP := (HBE.out.alloc HBE.out.size (Obj.cells #[.int .i64 m.kind, .int .i64 r.me, .int .i64 tt, .int .i64 r.kept.view, .int .i64 m.normal, .int .i64 m.commit, .int .i64 m.n, .slice A n c] 31)).drew
    exact ⟨rfl, ⟨_, _, HNX.out.1, fun g t cs h1 h2 h3 => HNX.out.2.2.2 g t cs (h1.same hwP) h2 h3⟩, (hwP.mono hbase).trans HNX.out.2.1, (Same.below hwP).trans (HNX.out.2.2.1.mono (by simp) (Nat.le_refl _))⟩
end Go.Proofs.Ytlaibljdlpmbfaa
/- Walks: a message is sent to all others. -/
namespace Go.Proofs.Ytlaibljdlpmbfaa
open Go.RowKit
set_option maxHeartbeats 2000000
set_option maxRecDepth 100000

def partAll (me view : Int) (m : Scu.Message) (k : Nat) : List Scu.Message := ((([0, 1, 2] : List Int).take k).filter fun i => decide (i ≠ me)).map fun i => ⟨m.kind, me, i, view, m.normal, m.commit, m.n, m.log⟩
theorem part_zero (me view : Int) (m : Scu.Message) : partAll me view m 0 = [] := rfl
theorem part_self {me view : Int} {m : Scu.Message} {k : Nat} (hk : k < 3) (h : (k : Int) = me) : partAll me view m (k + 1) = partAll me view m k := by
  subst h
  rcases k with _ | _ | _ | k
  · simp [partAll]
  · simp [partAll]
  · simp [partAll]
  · omega
theorem part_send {me view : Int} {m : Scu.Message} {k : Nat} (hk : k < 3) (h : (k : Int) ≠ me) : partAll me view m (k + 1) = partAll me view m k ++ [⟨m.kind, me, k, view, m.normal, m.commit, m.n, m.log⟩] := by
  have h' : decide ((k : Int) = me) = false := by simpa using h
  rcases k with _ | _ | _ | k
  · simp [partAll, List.take, List.filter, show ¬ (0 : Int) = me from h]
  · simp [partAll, List.take, List.filter, show ¬ (1 : Int) = me from h]
    by_cases h0 : (0 : Int) = me <;> simp [h0]
  · simp [partAll, List.take, List.filter, show ¬ (2 : Int) = me from h]
    by_cases h0 : (0 : Int) = me <;> by_cases h1 : (1 : Int) = me <;> simp [h0, h1]
  · omega
theorem part_len (me view : Int) (m : Scu.Message) (k : Nat) : (partAll me view m k).length ≤ 3 := by
  unfold partAll
  rw [List.length_map]
  refine Nat.le_trans (List.length_filter_le _ _) ?_
  rw [List.length_take]
  simp only [List.length_cons, List.length_nil]
  omega
theorem part_max {ms ps : List Scu.Message} (h : ps.length ≤ 3) (hm : (ms.length + 4) * 80 ≤ R47) : ((ms ++ ps).length + 1) * 80 ≤ R47 := by
  have e : (ms ++ ps).length = ms.length + ps.length := List.length_append
  rw [e]
  refine Nat.le_trans (Nat.mul_le_mul_right 80 ?_) hm
  omega
theorem blk_ne' {w : World} {a b : Nat} {t t' : TypeId} {cs cs' : Array Value} (h : Blk w a t cs) (h' : Blk w b t' cs') (ht : t ≠ t') : a ≠ b := fun e => by
  subst e
  unfold Blk at h h'
  rw [h] at h'
  cases h'
  exact ht rfl
structure AllI (w : World) (base gw gr : Nat) (r : Scu.Replica) (lu hv wv gv nv : Value) (ms : List Scu.Message) (m : Scu.Message) (A : Option Addr) (n c : Nat) (k : Nat) (ov0 ov : Value) (css : List (List Value)) (wr : World) : Prop where
  far : Far w wr ov0 ov
  work : Work wr base gw gr r lu hv wv gv nv ov (ms ++ partAll r.me r.kept.view m k) css
  box : Blk wr w.heap.size 31 #[.int .i64 m.kind, .int .i64 m.from_, .int .i64 m.tq, .int .i64 m.view, .int .i64 m.normal, .int .i64 m.commit, .int .i64 m.n, .slice A n c]
  ne : ov.ownBlock ≠ some w.heap.size
  log : IsStrs wr 0 (.slice A n c) m.log
  low : Below base w wr
theorem all_c (A : Option Addr) (n c : Nat) (m : Scu.Message) (w : World) (base gw gr : Nat) (r : Scu.Replica) (lu hv wv gv nv ov : Value) (ms : List Scu.Message) (css : List (List Value)) (hW : Work w base gw gr r lu hv wv gv nv ov ms css) (hbase : base ≤ w.heap.size)
    (hx : IsStrs w 0 (.slice A n c) m.log) (hm : (ms.length + 4) * 80 ≤ R47) :
    Calls Try.prog 45 #[.pointer (some ⟨gw, 0, none⟩), .agg #[.int .i64 m.kind, .int .i64 m.from_, .int .i64 m.tq, .int .i64 m.view, .int .i64 m.normal, .int .i64 m.commit, .int .i64 m.n, .slice A n c]] w fun e w' => e = .returned (.tuple #[]) ∧ (∃ ov' css', Work w' base gw gr r lu hv wv gv nv ov' (ms ++ partAll r.me r.kept.view m 3) css' ∧ Far w w' ov ov') ∧ Below base w w' := by
  have hI : AllI w base gw gr r lu hv wv gv nv ms m A n c 0 ov ov css (w.alloc (Obj.cells #[.int .i64 m.kind, .int .i64 m.from_, .int .i64 m.tq, .int .i64 m.view, .int .i64 m.normal, .int .i64 m.commit, .int .i64 m.n, .slice A n c] 31)) := by
    have hal := below_alloc w (Obj.cells #[.int .i64 m.kind, .int .i64 m.from_, .int .i64 m.tq, .int .i64 m.view, .int .i64 m.normal, .int .i64 m.commit, .int .i64 m.n, .slice A n c] 31)
    refine ⟨Far.below hal, ?_, Blk.new w _ _, fun e => ?_, hx.below hal, hal.mono hbase⟩
    · rw [part_zero, List.append_nil]
      exact hW.below hal
    · have := (hW.out.row.lt _ e).2
      omega
  have HI := Lib.hid hI
  clear hI hW hx
  go_enter Try.func45, Try.ntmps45
  go_wp2_with fail
  go_loopw [6] (fun i wr => ∃ (k : Nat) (ov1 : Value) (css : List (List Value)), k ≤ 3 ∧ i = .int .i64 k ∧ Hid (AllI w base gw gr r lu hv wv gv nv ms m A n c k ov ov1 css wr)) (fun i _ => 3 - (intOf i).toNat)
  case atStart => exact ⟨0, ov, css, Nat.zero_le _, rfl, HI⟩
  case round =>
    obtain ⟨k, ov1, css1, hk, rfl, hI⟩ := hrel
    by_cases hlt : k < 3
    · have hlt' : (k : Int) < 3 := by omega
      have hbx := hI.out.box
      have b0 := hbx.cell 0
      have b1 := hbx.cell 1
      have b2 := hbx.cell 2
      have b3 := hbx.cell 3
      have b4 := hbx.cell 4
      have b5 := hbx.cell 5
      have b6 := hbx.cell 6
      have b7 := hbx.cell 7
      simp only [List.getElem?_toArray, List.getElem?_cons_zero, List.getElem?_cons_succ] at b0 b1 b2 b3 b4 b5 b6 b7
      have bl := hbx.lt
      clear hbx
      go_wp2_with fail
      refine (cloneStrs_c _ m.log _ 0 (hI.out.log.alloc _)).mono ?_; rintro en w2 ⟨⟨u, rfl, hu⟩, h2⟩
      obtain ⟨Au, cu, rfl, _, _, _, _⟩ := rd_own hu
      have hxb : Blk w2 wr.heap.size 31 #[.int .i64 m.kind, .int .i64 m.from_, .int .i64 m.tq, .int .i64 m.view, .int .i64 m.normal, .int .i64 m.commit, .int .i64 m.n, .slice A n c] := (Blk.new wr _ _).same h2
      have x7 := hxb.cell 7
      simp only [List.getElem?_toArray, List.getElem?_cons_zero, List.getElem?_cons_succ] at x7
      have xz := hxb.frozen
      have xl := hxb.lt
      have hw2 : Below wr.heap.size wr w2 := (below_alloc wr _).trans (h2.mono (by simp))
      have hul : IsStrs w2 0 (.slice Au m.log.length cu) m.log := strs_own hu hI.out.log.len hI.out.log.each
      have HXB := Lib.hid (And.intro hxb (And.intro hw2 hul))
      clear hxb hw2 hul hu h2
      go_upto_region 6 with fail
      obtain ⟨Wf, hWf⟩ : ∃ W, W = w2.setCell ⟨wr.heap.size, 7, none⟩ (.slice Au m.log.length cu) := ⟨_, rfl⟩
      rw [← hWf]
      have hxf : Blk Wf wr.heap.size 31 #[.int .i64 m.kind, .int .i64 m.from_, .int .i64 m.tq, .int .i64 m.view, .int .i64 m.normal, .int .i64 m.commit, .int .i64 m.n, .slice Au m.log.length cu] := by rw [hWf]; exact HXB.out.1.set_ 7 _
      have hwf : Below wr.heap.size wr Wf := by rw [hWf]; exact HXB.out.2.1.setCell (p := ⟨wr.heap.size, 7, none⟩) (Nat.le_refl _) _
      have hlf : IsStrs Wf 0 (.slice Au m.log.length cu) m.log := by rw [hWf]; exact HXB.out.2.2.same (Ts := [9]) (by simp) (Same.set_ HXB.out.1 (Nat.zero_le _) (by decide) 7 _)
      have hIf : AllI w base gw gr r lu hv wv gv nv ms m A n c k ov ov1 css1 Wf := ⟨hI.out.far.trans (Far.below hwf), hI.out.work.below hwf, hI.out.box.same hwf, hI.out.ne, hI.out.log.below hwf, hI.out.low.trans (hwf.mono (Nat.le_trans hbase hI.out.low.size))⟩
      have x0 := hxf.cell 0
      have x1 := hxf.cell 1
      have x2 := hxf.cell 2
      have x3 := hxf.cell 3
      have x4 := hxf.cell 4
      have x5 := hxf.cell 5
      have x6 := hxf.cell 6
      have y7 := hxf.cell 7
      simp only [List.getElem?_toArray, List.getElem?_cons_zero, List.getElem?_cons_succ] at x0 x1 x2 x3 x4 x5 x6 y7
      have yl := hxf.lt
      have hbf : base ≤ Wf.heap.size := Nat.le_trans (Nat.le_trans hbase hI.out.low.size) hwf.size
      have HIF := Lib.hid hIf
      have HLF := Lib.hid hlf
      clear hxf hwf hlf hIf hWf x7 xz xl b0 b1 b2 b3 b4 b5 b6 b7 bl hI HXB
      have HMX := Lib.hid (part_max (part_len r.me r.kept.view m k) hm)
      go_wp2_with fail
      by_cases hme : (k : Int) = r.me
      · refine (send_1 Au m.log.length cu m k Wf base gw gr r lu hv wv gv nv ov1 _ css1 HIF.out.work hme).mono ?_; rintro en w5 ⟨rfl, h5⟩
        have hIn : AllI w base gw gr r lu hv wv gv nv ms m A n c (k + 1) ov ov1 css1 w5 := ⟨HIF.out.far.trans (Far.below h5), by rw [part_self hlt hme]; exact HIF.out.work.below h5, HIF.out.box.same h5, HIF.out.ne, HIF.out.log.below h5, HIF.out.low.trans (h5.mono hbf)⟩
        have HIN := Lib.hid hIn
        clear hIn h5 hme
        go_wp2
        exact ⟨⟨k + 1, ov1, css1, by omega, rfl, HIN⟩, by simp only [intOf]; omega⟩
      · refine (send_2 Au m.log.length cu m k Wf base gw gr r lu hv wv gv nv ov1 _ css1 HIF.out.work hbf hme HLF.out HMX.out).mono ?_; rintro en w5 ⟨rfl, ⟨ov2, css2, hw5, hk5⟩, h5, hs5⟩
        have hgw : w.heap.size ≠ gw := by
          intro e
          have hA := HIF.out.box
          have hC := HIF.out.work.wb
          rw [e] at hA
          unfold Blk at hA hC
          rw [hA] at hC
          cases hC
        have hkk := hk5 _ _ _ HIF.out.box hgw HIF.out.ne
        have hIn : AllI w base gw gr r lu hv wv gv nv ms m A n c (k + 1) ov ov2 css2 w5 := ⟨HIF.out.far.trans fun b cs hb hc => hk5 b _ cs hb (blk_ne' hb HIF.out.work.wb (by decide)) hc, by rw [part_send hlt hme, ← List.append_assoc]; exact hw5, hkk.1, hkk.2, HIF.out.log.same (by simp) hs5, HIF.out.low.trans h5⟩
        have HIN := Lib.hid hIn
        clear hIn h5 hs5 hw5 hk5 hkk hme
        go_wp2
        exact ⟨⟨k + 1, ov2, css2, by omega, rfl, HIN⟩, by simp only [intOf]; omega⟩
    · have hk3 : k = 3 := by omega
      subst hk3
      go_wp2
      go_end0
      exact ⟨rfl, ⟨_, _, hI.out.work, hI.out.far⟩, hI.out.low⟩
end Go.Proofs.Ytlaibljdlpmbfaa
/- Walks: what who leads tells all others. -/
namespace Go.Proofs.Ytlaibljdlpmbfaa
open Go.RowKit
set_option maxHeartbeats 2000000
set_option maxRecDepth 100000

def leadMsg (r : Scu.Replica) : Scu.Message := ⟨1, 0, 0, 0, 0, r.kept.commit, 0, r.kept.log⟩
theorem lead_c (w : World) (base gw gr : Nat) (r : Scu.Replica) (lu hv wv gv nv ov : Value) (ms : List Scu.Message) (css : List (List Value)) (hW : Work w base gw gr r lu hv wv gv nv ov ms css) (hbase : base ≤ w.heap.size) (hm : (ms.length + 4) * 80 ≤ R47) :
    Calls Try.prog 29 #[.pointer (some ⟨gw, 0, none⟩)] w fun e w' => e = .returned (.tuple #[]) ∧ (∃ ov' css', Work w' base gw gr r lu hv wv gv nv ov' (ms ++ partAll r.me r.kept.view (leadMsg r) 3) css') ∧ Below base w w' := by
  have hl := hW.own.is.log
  obtain ⟨A, n, c, rfl⟩ := hl.form
  have d0 := hW.wb.cell 0
  have d4 := hW.rb.cell 4
  have d5 := hW.rb.cell 5
  simp only [List.getElem?_toArray, List.getElem?_cons_zero, List.getElem?_cons_succ] at d0 d4 d5
  have dl := hW.wb.lt
  have dm := hW.rb.lt
  have HW := Lib.hid (And.intro hW hl)
  have HM := Lib.hid hm
  clear hW hl hm
  go_enter Try.func29, Try.ntmps29
  go_wp2_with fail
  go_still_tail 18, (by kernel_rfl)
  change wpList _ _ _ _ _ w.drew
  go_wp2_with (go_at_call 45; refine (all_c A n c (leadMsg r) _ base gw gr r (.slice A n c) hv wv gv nv ov ms css (HW.out.1.below (Below.refl _ _).drew) hbase (HW.out.2.below (Below.refl _ _).drew) HM.out).mono ?_; rintro en w5 ⟨rfl, ⟨ov5, css5, hk, _⟩, h5⟩; have HK := Lib.hid (And.intro hk ((Below.refl base w).drew.trans h5)); clear hk h5)
  go_wp2
  go_end0
  exact ⟨rfl, ⟨_, _, HK.out.1⟩, HK.out.2⟩
end Go.Proofs.Ytlaibljdlpmbfaa
/- Walks: ref.toAll, ref.ledBy. -/
namespace Go.Proofs.Ytlaibljdlpmbfaa
open Go.RowKit
set_option maxHeartbeats 2000000
set_option maxRecDepth 100000

theorem OwnMs.push {P w4 : World} {B base : Nat} {ov v4 lx : Value} {ms : List Scu.Message} {css : List (List Value)} {m : Scu.Message} (h : OwnMs P base ov ms css) (hm : (ms.length + 1) * 80 ≤ R47) (hx : IsStrs P B lx m.log) (hB : B = 0)
    (h4 : w4.ownsRow base 31 8 v4 (ms.length + 1) (css.flatten ++ msgV m lx)) (hg : P.grownBy w4 ov.ownBlock) : OwnMs w4 base v4 (ms ++ [m]) (css ++ [msgV m lx]) := by
  subst hB
  have hs0 : Same [9] 0 P w4 := Same.own h.row hg (Nat.zero_le _) (by decide)
  refine ⟨by simp only [List.length_append, h.len, List.length_cons, List.length_nil], ?_, ?_, ?_, by simpa using hm⟩
  · intro c hc
    rcases List.mem_append.1 hc with h' | h'
    · exact h.eight c h'
    · rw [List.mem_singleton] at h'
      subst h'
      rfl
  · rw [List.length_append, List.flatten_append]
    simpa using h4
  · intro j c x hc hx'
    rcases Nat.lt_or_ge j ms.length with hj | hj
    · rw [List.getElem?_append_left (by rw [h.len]; exact hj)] at hc
      rw [List.getElem?_append_left hj] at hx'
      exact (h.each j c x hc hx').same (B := 0) (Ts := [9]) (by simp) hs0
    · rw [List.getElem?_append_right (by rw [h.len]; exact hj), h.len] at hc
      rw [List.getElem?_append_right hj] at hx'
      have hj0 : j - ms.length = 0 := by
        rcases Nat.eq_zero_or_pos (j - ms.length) with h' | h'
        · exact h'
        · rw [List.getElem?_eq_none (by simp; omega)] at hc
          cases hc
      rw [hj0] at hc hx'
      simp only [List.getElem?_cons_zero, Option.some.injEq] at hc hx'
      subst hc
      subst hx'
      exact ⟨lx, rfl, hx.same (by simp) hs0⟩
theorem OwnMs.base_ {w : World} {base base' : Nat} {v : Value} {ms : List Scu.Message} {css : List (List Value)} (h : OwnMs w base v ms css) (hb : base' ≤ base) : OwnMs w base' v ms css := ⟨h.len, h.eight, ownsRow_base h.row hb, h.each, h.max⟩
structure ToI (w : World) (B : Nat) (cs : Array Value) (me vi : Int) (m : Scu.Message) (A : Option Addr) (c : Nat) (k : Nat) (ov : Value) (css : List (List Value)) (wr : World) : Prop where
  arg : Blk wr w.heap.size 29 cs
  box : Blk wr (w.heap.size + 1) 31 #[.int .i64 m.kind, .int .i64 m.from_, .int .i64 m.tq, .int .i64 m.view, .int .i64 m.normal, .int .i64 m.commit, .int .i64 m.n, .slice A m.log.length c]
  log : IsStrs wr B (.slice A m.log.length c) m.log
  out : OwnMs wr (w.heap.size + 2) ov (partAll me vi m k) css
  low : Below w.heap.size w wr
  le : B ≤ w.heap.size
theorem ToI.below {w wr w' : World} {B : Nat} {cs : Array Value} {me vi : Int} {m : Scu.Message} {A : Option Addr} {c k : Nat} {ov : Value} {css : List (List Value)} (h : ToI w B cs me vi m A c k ov css wr) (hb : Below wr.heap.size wr w') : ToI w B cs me vi m A c k ov css w' :=
  ⟨h.arg.same hb, h.box.same hb, h.log.below hb, h.out.below hb, h.low.trans (hb.mono h.low.size), h.le⟩
theorem ToI.next {w P w4 : World} {B : Nat} {cs : Array Value} {me vi : Int} {m : Scu.Message} {A : Option Addr} {c k : Nat} {ov v4 lx : Value} {css : List (List Value)} (h : ToI w B cs me vi m A c k ov css P) (hk : k < 3) (hme : (k : Int) ≠ me) (hx : IsStrs P 0 lx m.log)
    (h4 : w4.ownsRow (w.heap.size + 2) 31 8 v4 ((partAll me vi m k).length + 1) (css.flatten ++ msgV ⟨m.kind, me, k, vi, m.normal, m.commit, m.n, m.log⟩ lx)) (hg : P.grownBy w4 ov.ownBlock) : ToI w B cs me vi m A c (k + 1) v4 (css ++ [msgV ⟨m.kind, me, k, vi, m.normal, m.commit, m.n, m.log⟩ lx]) w4 := by
  have hs0 : Same [9] B P w4 := Same.own h.out.row hg (Nat.le_trans h.le (by omega)) (by decide)
  refine ⟨blk_growm h.arg h.out.row (by decide) hg, (hg.block _ h.box.lt fun e => ?_).trans h.box, h.log.same (by simp) hs0, ?_, h.low.grown hg h.low.size (fun q hq => ?_), h.le⟩
  · have := (h.out.row.lt _ e.symm).1
    omega
  · rw [part_send hk hme]
    exact h.out.push (m := ⟨m.kind, me, k, vi, m.normal, m.commit, m.n, m.log⟩) (by have := part_len me vi m k; unfold R47; omega) hx rfl h4 hg
  · have := (h.out.row.lt _ hq).1
    omega
theorem toAll_c (me vi no : Int) (ca : Bool) (lv : Value) (co : Int) (hv wv gv nv mv : Value) (m : Scu.Message) (w : World) (B : Nat) (hBw : B ≤ w.heap.size) (hx : IsStrs w B mv m.log) :
    Calls Try.prog 47 #[.agg #[.int .i64 me, .int .i64 vi, .int .i64 no, .bool ca, lv, .int .i64 co, hv, wv, gv, nv], .agg #[.int .i64 m.kind, .int .i64 m.from_, .int .i64 m.tq, .int .i64 m.view, .int .i64 m.normal, .int .i64 m.commit, .int .i64 m.n, mv]] w fun e w' => (∃ ov css, e = .returned ov ∧ OwnMs w' w.heap.size ov (partAll me vi m 3) css) ∧ Below w.heap.size w w' := by
  obtain ⟨⟨A, c, rfl, hnc, hr⟩, hl, he⟩ := hx
  have hl' := hl
  unfold R47 at hl'
  have HMX := Lib.hid (show 0 + m.log.length ≤ maxLen ∧ (0 + m.log.length) * 16 ≤ 140737488355328 by constructor <;> (try unfold maxLen) <;> omega)
  have HEL := Lib.hid (And.intro hl he)
  have hI : ToI w B #[.int .i64 me, .int .i64 vi, .int .i64 no, .bool ca, lv, .int .i64 co, hv, wv, gv, nv] me vi m A c 0 (.slice none 0 0) [] ((w.alloc (Obj.cells #[.int .i64 me, .int .i64 vi, .int .i64 no, .bool ca, lv, .int .i64 co, hv, wv, gv, nv] 29)).alloc (Obj.cells #[.int .i64 m.kind, .int .i64 m.from_, .int .i64 m.tq, .int .i64 m.view, .int .i64 m.normal, .int .i64 m.commit, .int .i64 m.n, .slice A m.log.length c] 31)) := by
    have hal := below_alloc w (Obj.cells #[.int .i64 me, .int .i64 vi, .int .i64 no, .bool ca, lv, .int .i64 co, hv, wv, gv, nv] 29)
    have hal2 := hal.alloc (by simp) (Obj.cells #[.int .i64 m.kind, .int .i64 m.from_, .int .i64 m.tq, .int .i64 m.view, .int .i64 m.normal, .int .i64 m.commit, .int .i64 m.n, .slice A m.log.length c] 31)
    exact ⟨(Blk.new w _ _).alloc _, Blk.new' (by simp), (show IsStrs w B (.slice A m.log.length c) m.log from ⟨⟨A, c, rfl, hnc, hr⟩, hl, he⟩).below hal2, OwnMs.nil_, hal2, hBw⟩
  have HI := Lib.hid hI
  clear hI hl hl' he hr
  go_enter Try.func47, Try.ntmps47
  go_wp2_with fail
  go_loopw [5, 6] (fun o i wr => ∃ (k : Nat) (Ao : Option Addr) (co' : Nat) (css : List (List Value)), k ≤ 3 ∧ i = .int .i64 k ∧ o = .slice Ao (partAll me vi m k).length co' ∧ ToI w B #[.int .i64 me, .int .i64 vi, .int .i64 no, .bool ca, lv, .int .i64 co, hv, wv, gv, nv] me vi m A c k (.slice Ao (partAll me vi m k).length co') css wr) (fun _ i _ => 3 - (intOf i).toNat)
  case atStart => exact ⟨0, none, 0, [], Nat.zero_le _, rfl, rfl, HI.out⟩
  case round =>
    obtain ⟨k, Ao, co', css, hk, rfl, rfl, hI⟩ := hrel
    by_cases hlt : k < 3
    · have hlt' : (k : Int) < 3 := by omega
      have ha := hI.arg
      have a0 := ha.cell 0
      have a1 := ha.cell 1
      have hbx := hI.box
      have b0 := hbx.cell 0
      have b1 := hbx.cell 1
      have b2 := hbx.cell 2
      have b3 := hbx.cell 3
      have b4 := hbx.cell 4
      have b5 := hbx.cell 5
      have b6 := hbx.cell 6
      have b7 := hbx.cell 7
      simp only [List.getElem?_toArray, List.getElem?_cons_zero, List.getElem?_cons_succ] at a0 a1 b0 b1 b2 b3 b4 b5 b6 b7
      have bl := hbx.lt
      have al := ha.lt
      clear hbx ha
      by_cases hme : (k : Int) = me
      · have hnb : ((k : Int) != me) = false := by simpa using hme
        have hIn : ToI w B #[.int .i64 me, .int .i64 vi, .int .i64 no, .bool ca, lv, .int .i64 co, hv, wv, gv, nv] me vi m A c (k + 1) (.slice Ao (partAll me vi m (k + 1)).length co') css wr := ⟨hI.arg, hI.box, hI.log, by have := hI.out; rw [← part_self hlt hme] at this; exact this, hI.low, hI.le⟩
        have HIN := Lib.hid hIn
        have HLE := Lib.hid (show (partAll me vi m (k + 1)).length = (partAll me vi m k).length by rw [part_self hlt hme])
        clear hIn hI hme
        go_wp2_with fail
        go_roundw
        case rel => exact ⟨k + 1, Ao, co', css, by omega, rfl, by rw [HLE.out], HIN.out⟩
        case measure => simp only [intOf]; omega
      · have hnb : ((k : Int) != me) = true := by simpa using hme
        have HME := Lib.hid hme
        have HI2 := Lib.hid hI
        clear hI hme
        go_upto_region 10 with fail
        obtain ⟨Wf, hWf⟩ : ∃ W, W = wr.alloc (Obj.cells #[.int .i64 m.kind, .int .i64 me, .int .i64 k, .int .i64 vi, .int .i64 m.normal, .int .i64 m.commit, .int .i64 m.n, .slice A m.log.length c] 31) := ⟨_, rfl⟩
        rw [← hWf]
        have hwf : Below wr.heap.size wr Wf := by rw [hWf]; exact below_alloc _ _
        have hxf : Blk Wf wr.heap.size 31 #[.int .i64 m.kind, .int .i64 me, .int .i64 k, .int .i64 vi, .int .i64 m.normal, .int .i64 m.commit, .int .i64 m.n, .slice A m.log.length c] := by rw [hWf]; exact Blk.new _ _ _
        have HIF := Lib.hid (And.intro (HI2.out.below hwf) hxf)
        have HWR := Lib.hid hwf
        clear hWf hwf hxf a0 a1 b0 b1 b2 b3 b4 b5 b6 b7 bl al
        have b7 := HIF.out.1.box.cell 7
        have x7 := HIF.out.2.cell 7
        simp only [List.getElem?_toArray, List.getElem?_cons_zero, List.getElem?_cons_succ] at b7 x7
        have xz := HIF.out.2.frozen
        have xl := HIF.out.2.lt
        have bl := HIF.out.1.box.lt
        obtain ⟨⟨A', c', eA, hnA, hrA⟩, _, _⟩ := HIF.out.1.log
        obtain ⟨rfl, rfl⟩ : A = A' ∧ c = c' := by cases eA; exact ⟨rfl, rfl⟩
        have HSR := Lib.hid (src_of_rd (size := 1) (m := m.log.length) (c := c) hrA (by simp) (fun e => by subst e; have := rd_none hrA; simpa using this))
        clear hrA eA hnA
        go_wp2_with (at_builtin; refine list_app _ rfl _ _ 22 rfl el_strs Wf.heap.size _ 0 [] rfl (World.ownsRow_nil _ _ _ _) _ m.log.length (m.log.map Value.string) rfl HSR.out (one_strs m.log) HMX.out.1 HMX.out.2 (Nat.le_refl _) ?_)
        intro v4 x4 h4 hg4 _
        obtain ⟨Au, cu, rfl, _, _, _, _⟩ := rd_own h4
        have k4 : Below Wf.heap.size Wf x4 := below_grown hg4 (Nat.le_refl _) (fun q hq => by cases hq)
        have hul : IsStrs x4 0 (.slice Au m.log.length cu) m.log := strs_own h4 HEL.out.1 HEL.out.2
        have hx4 := HIF.out.2.same k4
        have y7 := hx4.cell 7
        simp only [List.getElem?_toArray, List.getElem?_cons_zero, List.getElem?_cons_succ] at y7
        have yz := hx4.frozen
        have yl := hx4.lt
        have HX4 := Lib.hid (And.intro hx4 (And.intro hul k4))
        clear h4 hg4 k4 hul hx4 b7 x7 xz xl bl
        go_upto_region 11 with fail
        obtain ⟨Wg, hWg⟩ : ∃ W, W = x4.setCell ⟨wr.heap.size, 7, none⟩ (.slice Au m.log.length cu) := ⟨_, rfl⟩
        rw [← hWg]
        have hxg : Blk Wg wr.heap.size 31 #[.int .i64 m.kind, .int .i64 me, .int .i64 k, .int .i64 vi, .int .i64 m.normal, .int .i64 m.commit, .int .i64 m.n, .slice Au m.log.length cu] := by rw [hWg]; exact HX4.out.1.set_ 7 _
        have hlg : IsStrs Wg 0 (.slice Au m.log.length cu) m.log := by rw [hWg]; exact HX4.out.2.1.same (Ts := [9]) (by simp) (Same.set_ HX4.out.1 (Nat.zero_le _) (by decide) 7 _)
        have hwg : Below wr.heap.size wr Wg := by
          rw [hWg]
          exact ((HWR.out.trans (HX4.out.2.2.mono HWR.out.size))).setCell (p := ⟨wr.heap.size, 7, none⟩) (Nat.le_refl _) _
        have HG := Lib.hid (And.intro (HI2.out.below hwg) (And.intro hxg hlg))
        clear hWg hwg hlg y7 yz yl
        have q0 := hxg.cell 0
        have q1 := hxg.cell 1
        have q2 := hxg.cell 2
        have q3 := hxg.cell 3
        have q4 := hxg.cell 4
        have q5 := hxg.cell 5
        have q6 := hxg.cell 6
        have q7 := hxg.cell 7
        simp only [List.getElem?_toArray, List.getElem?_cons_zero, List.getElem?_cons_succ] at q0 q1 q2 q3 q4 q5 q6 q7
        have ql := hxg.lt
        clear hxg
        have hpl := part_len me vi m k
        have hrow := HG.out.1.out.row
        go_wp2_with (at_builtin; refine list_app _ rfl _ _ 33 rfl el_msgs (w.heap.size + 2) (.slice Ao (partAll me vi m k).length co') (partAll me vi m k).length css.flatten rfl (own_below hrow (below_alloc Wg (Obj.cells #[.int .i64 m.kind, .int .i64 me, .int .i64 k, .int .i64 vi, .int .i64 m.normal, .int .i64 m.commit, .int .i64 m.n, .slice Au m.log.length cu] 31))) (.slice (some ⟨Wg.heap.size, 0, none⟩) 1 1) 1 (msgV ⟨m.kind, me, k, vi, m.normal, m.commit, m.n, m.log⟩ (.slice Au m.log.length cu)) rfl ⟨rfl, .inr ⟨_, _, rfl, ?e1⟩⟩ ?e2 (by unfold maxLen; omega) (by omega) (by have := HG.out.1.box.lt; simp; omega) ?_)
        case e1 =>
          intro j v hj
          have hj8 : j < 8 := by (rcases Nat.lt_or_ge j 8 with h | h; exact h; rw [List.getElem?_eq_none h] at hj; cases hj)
          have hadd : (⟨Wg.heap.size, 0, none⟩ : Addr).add j = ⟨Wg.heap.size, j, none⟩ := by (unfold Addr.add; split <;> simp_all)
          rw [hadd]
          refine ((Blk.new Wg 31 #[.int .i64 m.kind, .int .i64 me, .int .i64 k, .int .i64 vi, .int .i64 m.normal, .int .i64 m.commit, .int .i64 m.n, .slice Au m.log.length cu]).cell j).trans ?_
          simpa [msgV] using hj
        case e2 => (intro v hv; simp only [msgV, List.mem_cons, List.not_mem_nil, or_false] at hv; rcases hv with rfl | rfl | rfl | rfl | rfl | rfl | rfl | rfl <;> rfl)
        intro v5 x5 h5 hg5 _
        have hnx := ((HG.out.1.below (below_alloc Wg (Obj.cells #[.int .i64 m.kind, .int .i64 me, .int .i64 k, .int .i64 vi, .int .i64 m.normal, .int .i64 m.commit, .int .i64 m.n, .slice Au m.log.length cu] 31))).next hlt HME.out (HG.out.2.2.below (below_alloc Wg _)) h5 hg5)
        obtain ⟨A9, c9, rfl, _, _, _, _⟩ := rd_own h5
        have HNX := Lib.hid hnx
        have HLE := Lib.hid (show (partAll me vi m (k + 1)).length = (partAll me vi m k).length + 1 by rw [part_send hlt HME.out]; simp)
        clear h5 hg5 hnx hrow hpl
        go_wp2_with fail
        go_roundw
        case rel => exact ⟨k + 1, A9, c9, _, by omega, rfl, by rw [HLE.out], by rw [HLE.out]; exact HNX.out⟩
        case measure => simp only [intOf]; omega
    · have hk3 : k = 3 := by omega
      subst hk3
      obtain ⟨Aq, cq, hq⟩ := hI.out.form
      have HI3 := Lib.hid hI
      clear hI
      go_wp2
      go_ret
      refine ⟨⟨_, css, rfl, ?_⟩, HI3.out.low⟩
      exact HI3.out.out.base_ (Nat.le_add_right _ 2)
end Go.Proofs.Ytlaibljdlpmbfaa
/- Words: cells of a working replica's rows are set. -/
namespace Go.Proofs.Ytlaibljdlpmbfaa
open Go.RowKit
set_option maxHeartbeats 1000000
set_option maxRecDepth 100000

theorem own_far {w : World} {base : Nat} {e : TypeId} {size n : Nat} {v : Value} {xs : List Value} (h : w.ownsRow base e size v n xs) {p : Addr} (hp : v.ownBlock ≠ some p.block) (u : Value) : (w.setCell p u).ownsRow base e size v n xs := by
  obtain ⟨hl, h0 | ⟨g, cap, cur, rfl, hb, hh, hr⟩⟩ := h
  · exact ⟨hl, .inl h0⟩
  · exact ⟨hl, .inr ⟨g, cap, cur, rfl, hb, (Below.heap_setCell w p u g (fun e => hp (by rw [← e]; rfl))).trans hh, hr⟩⟩
theorem OwnOnes.at_ {α : Type} {t : TypeId} {bytes : Nat} {f : α → Value} {w : World} {base : Nat} {v : Value} {xs : List α} (h : OwnOnes t bytes f w base v xs) (hn : 0 < xs.length) :
    ∃ g c cur, v = .slice (some ⟨g, 0, none⟩) xs.length c ∧ base ≤ g ∧ Blk w g t cur ∧ ∀ j, j < xs.length → w.cell? ⟨g, j, none⟩ = (xs.map f)[j]? := own_at h.1 hn
theorem OwnOnes.put {α : Type} {t : TypeId} {bytes : Nat} {f : α → Value} {w : World} {base g c n : Nat} {xs : List α} (h : OwnOnes t bytes f w base (.slice (some ⟨g, 0, none⟩) n c) xs) (j : Nat) (x : α) :
    OwnOnes t bytes f (w.setCell ⟨g, j, none⟩ (f x)) base (.slice (some ⟨g, 0, none⟩) n c) (xs.set j x) := by
  have hn : n = xs.length := by
    obtain ⟨⟨A, c', e, _⟩, _⟩ := h.is
    cases e
    rfl
  subst hn
  refine ⟨?_, by simpa using h.2⟩
  rw [List.length_set, List.map_set]
  exact own_put h.1 j _
theorem OwnOnes.far {α : Type} {t : TypeId} {bytes : Nat} {f : α → Value} {w : World} {base : Nat} {v : Value} {xs : List α} (h : OwnOnes t bytes f w base v xs) {p : Addr} (hp : v.ownBlock ≠ some p.block) (u : Value) : OwnOnes t bytes f (w.setCell p u) base v xs := ⟨own_far h.1 hp u, h.2⟩
/-- Wants[j] is set. -/
theorem Work.want {w : World} {base gw gr g c n : Nat} {r : Scu.Replica} {lu hv gv nv ov : Value} {ms : List Scu.Message} {css : List (List Value)} (h : Work w base gw gr r lu hv (.slice (some ⟨g, 0, none⟩) n c) gv nv ov ms css) {cur : Array Value} (hB : Blk w g 4 cur) (hg : base ≤ g) (j : Nat) (b : Bool) :
    Work (w.setCell ⟨g, j, none⟩ (.bool b)) base gw gr { r with wants := r.wants.set j b } lu hv (.slice (some ⟨g, 0, none⟩) n c) gv nv ov ms css ∧ Below base w (w.setCell ⟨g, j, none⟩ (.bool b)) := by
  have hs : Same [9, 3, 24, 29, 48, 31] 0 w (w.setCell ⟨g, j, none⟩ (.bool b)) := Same.set_ hB (Nat.zero_le _) (by decide) j _
  obtain ⟨css', hgv⟩ := h.own.giv
  exact ⟨⟨blk_keep h.wb hs (by simp), blk_keep h.rb hs (by simp), ⟨⟨h.own.own.log.same (hs.mono (by simp) (Nat.le_refl _)), h.own.own.have_.same (hs.mono (by simp) (Nat.le_refl _)), h.own.own.wants.put j b, h.own.own.given.far (h.own.own.apart g rfl) _, h.own.own.apart⟩, css', hgv.same (hs.mono (by simp) (Nat.le_refl _))⟩, h.out.same (hs.mono (by simp) (Nat.le_refl _)), h.lw, h.lr⟩,
    (Below.refl base w).setCell (p := ⟨g, j, none⟩) hg _⟩
end Go.Proofs.Ytlaibljdlpmbfaa
/- Words: a call's work, its rows left open. Walks: all, lead, send. -/
namespace Go.Proofs.Ytlaibljdlpmbfaa
open Go.RowKit
set_option maxHeartbeats 2000000
set_option maxRecDepth 100000

def WorkE (w : World) (base gw gr : Nat) (r : Scu.Replica) (ms : List Scu.Message) : Prop := ∃ lu hv wv gv nv ov css, Work w base gw gr r lu hv wv gv nv ov ms css
theorem WorkE.below {w w' : World} {base gw gr : Nat} {r : Scu.Replica} {ms : List Scu.Message} (h : WorkE w base gw gr r ms) (hb : Below w.heap.size w w') : WorkE w' base gw gr r ms :=
  let ⟨_, _, _, _, _, _, _, h⟩ := h; ⟨_, _, _, _, _, _, _, h.below hb⟩
theorem Work.e {w : World} {base gw gr : Nat} {r : Scu.Replica} {lu hv wv gv nv ov : Value} {ms : List Scu.Message} {css : List (List Value)} (h : Work w base gw gr r lu hv wv gv nv ov ms css) : WorkE w base gw gr r ms := ⟨_, _, _, _, _, _, _, h⟩
theorem part_toAll (me view : Int) (m : Scu.Message) : partAll me view m 3 = Scu.toAll me view m := rfl
theorem lead_e (w : World) (base gw gr : Nat) (r : Scu.Replica) (ms : List Scu.Message) (hW : WorkE w base gw gr r ms) (hbase : base ≤ w.heap.size) (hm : (ms.length + 4) * 80 ≤ R47) :
    Calls Try.prog 29 #[.pointer (some ⟨gw, 0, none⟩)] w fun e w' => e = .returned (.tuple #[]) ∧ WorkE w' base gw gr r (ms ++ Scu.leadOn r) ∧ Below base w w' := by
  obtain ⟨lu, hv, wv, gv, nv, ov, css, hW⟩ := hW
  refine (lead_c w base gw gr r lu hv wv gv nv ov ms css hW hbase hm).mono ?_
  rintro e w' ⟨h1, ⟨ov', css', h2⟩, h3⟩
  exact ⟨h1, h2.e, h3⟩
/-- Messages of one kind without a log, to all others. -/
theorem all_x (k : Int) (w : World) (base gw gr : Nat) (r : Scu.Replica) (lu hv wv gv nv ov : Value) (ms : List Scu.Message) (css : List (List Value)) (hW : Work w base gw gr r lu hv wv gv nv ov ms css) (hbase : base ≤ w.heap.size) (hm : (ms.length + 4) * 80 ≤ R47) :
    Calls Try.prog 45 #[.pointer (some ⟨gw, 0, none⟩), .agg #[.int .i64 k, .int .i64 0, .int .i64 0, .int .i64 0, .int .i64 0, .int .i64 0, .int .i64 0, .slice none 0 0]] w fun e w' => e = .returned (.tuple #[]) ∧ (∃ ov' css', Work w' base gw gr r lu hv wv gv nv ov' (ms ++ Scu.toAll r.me r.kept.view { Scu.msg0 with kind := k }) css' ∧ Far w w' ov ov') ∧ Below base w w' :=
  all_c none 0 0 { Scu.msg0 with kind := k } w base gw gr r lu hv wv gv nv ov ms css hW hbase IsStrs.nil_ hm
theorem all_e (k : Int) (w : World) (base gw gr : Nat) (r : Scu.Replica) (ms : List Scu.Message) (hW : WorkE w base gw gr r ms) (hbase : base ≤ w.heap.size) (hm : (ms.length + 4) * 80 ≤ R47) :
    Calls Try.prog 45 #[.pointer (some ⟨gw, 0, none⟩), .agg #[.int .i64 k, .int .i64 0, .int .i64 0, .int .i64 0, .int .i64 0, .int .i64 0, .int .i64 0, .slice none 0 0]] w fun e w' => e = .returned (.tuple #[]) ∧ WorkE w' base gw gr r (ms ++ Scu.toAll r.me r.kept.view { Scu.msg0 with kind := k }) ∧ Below base w w' := by
  obtain ⟨lu, hv, wv, gv, nv, ov, css, hW⟩ := hW
  refine (all_c none 0 0 { Scu.msg0 with kind := k } w base gw gr r lu hv wv gv nv ov ms css hW hbase IsStrs.nil_ hm).mono ?_
  rintro e w' ⟨h1, ⟨ov', css', h2, _⟩, h3⟩
  exact ⟨h1, h2.e, h3⟩
theorem send_e (A : Option Addr) (n c : Nat) (m : Scu.Message) (tt : Int) (w : World) (base gw gr : Nat) (r : Scu.Replica) (ms : List Scu.Message) (hW : WorkE w base gw gr r ms) (hbase : base ≤ w.heap.size)
    (hx : IsStrs w 0 (.slice A n c) m.log) (hm : (ms.length + 1) * 80 ≤ R47) (ms' : List Scu.Message) (hms : ms' = if tt = r.me then ms else ms ++ [⟨m.kind, r.me, tt, r.kept.view, m.normal, m.commit, m.n, m.log⟩]) :
    Calls Try.prog 27 #[.pointer (some ⟨gw, 0, none⟩), .int .i64 tt, .agg #[.int .i64 m.kind, .int .i64 m.from_, .int .i64 m.tq, .int .i64 m.view, .int .i64 m.normal, .int .i64 m.commit, .int .i64 m.n, .slice A n c]] w fun e w' => e = .returned (.tuple #[]) ∧ WorkE w' base gw gr r ms' ∧ Below base w w' := by
  obtain ⟨lu, hv, wv, gv, nv, ov, css, hW⟩ := hW
  subst hms
  by_cases ht : tt = r.me
  · rw [if_pos ht]
    refine (send_1 A n c m tt w base gw gr r lu hv wv gv nv ov ms css hW ht).mono ?_
    rintro e w' ⟨h1, h3⟩
    exact ⟨h1, (hW.below h3).e, h3.mono hbase⟩
  · rw [if_neg ht]
    refine (send_2 A n c m tt w base gw gr r lu hv wv gv nv ov ms css hW hbase ht hx hm).mono ?_
    rintro e w' ⟨h1, ⟨ov', css', h2, _⟩, h3, _⟩
    exact ⟨h1, h2.e, h3⟩
/- texts that lie below a base -/
structure LowStrs (w : World) (base : Nat) (v : Value) (xs : List Scu.Str) : Prop where
  ex : ∃ A c, v = .slice A xs.length c ∧ xs.length ≤ c ∧ (xs = [] ∨ ∃ g o, A = some ⟨g, o, none⟩ ∧ g < base ∧ ∀ (j : Nat) (u : Value), (xs.map Value.string)[j]? = some u → w.cell? ⟨g, o + j, none⟩ = some u)
  len : xs.length * 16 ≤ R47
  each : ∀ s ∈ xs, s.size ≤ R47
theorem LowStrs.of {w : World} {B : Nat} {v : Value} {xs : List Scu.Str} (h : IsStrs w B v xs) : LowStrs w w.heap.size v xs := by
  obtain ⟨⟨A, c, rfl, hc, hr⟩, h2, h3⟩ := h
  refine ⟨⟨A, c, rfl, hc, ?_⟩, h2, h3⟩
  rcases hr with h | ⟨g, o, h1, h2, _, h4⟩
  · exact .inl (by simpa using h)
  · exact .inr ⟨g, o, h1, h2, h4⟩
theorem LowStrs.keep {w w' : World} {base : Nat} {v : Value} {xs : List Scu.Str} (h : LowStrs w base v xs) (hb : Below base w w') : LowStrs w' base v xs := by
  obtain ⟨⟨A, c, rfl, hc, hr⟩, h2, h3⟩ := h
  refine ⟨⟨A, c, rfl, hc, ?_⟩, h2, h3⟩
  rcases hr with h | ⟨g, o, h1, h2, h4⟩
  · exact .inl h
  · exact .inr ⟨g, o, h1, h2, fun j u hj => (hb.cell (p := ⟨g, o + j, none⟩) h2).trans (h4 j u hj)⟩
theorem LowStrs.is {w : World} {base : Nat} {v : Value} {xs : List Scu.Str} (h : LowStrs w base v xs) (hb : base ≤ w.heap.size) : IsStrs w base v xs := by
  obtain ⟨⟨A, c, rfl, hc, hr⟩, h2, h3⟩ := h
  refine ⟨⟨A, c, rfl, hc, ?_⟩, h2, h3⟩
  rcases hr with h | ⟨g, o, h1, h2, h4⟩
  · exact .inl (by simp [h])
  · exact .inr ⟨g, o, h1, by omega, .inl h2, h4⟩
/- a replica's own rows, at three -/
theorem ones3 {α : Type} {t : TypeId} {bytes : Nat} {f : α → Value} {w : World} {base : Nat} {v : Value} {xs : List α} (h : OwnOnes t bytes f w base v xs) (h3 : xs.length = 3) :
    ∃ g c cur, v = .slice (some ⟨g, 0, none⟩) 3 c ∧ base ≤ g ∧ Blk w g t cur ∧ ∀ j, j < 3 → w.cell? ⟨g, j, none⟩ = (xs.map f)[j]? := by
  obtain ⟨g, c, cur, h1, h2, hb, h4⟩ := h.at_ (by omega)
  rw [h3] at h1 h4
  exact ⟨g, c, cur, h1, h2, hb, h4⟩
end Go.Proofs.Ytlaibljdlpmbfaa

/- Part 15: words and walks under the law 'ReplicaTicks'. -/
import Derived.Test.YtjbhkmadcjnbfaaPart14
import Derived.Test.YtjbhkmadcjnbfaaPart11
import Derived.Deep.RegionHeld3
set_option linter.unusedVariables false
set_option linter.unusedSimpArgs false
/- Walks: ref.toAll, ref.ledBy. -/
namespace Go.Proofs.Ytjbhkmadcjnbfaa
open Go.RowKit
set_option maxHeartbeats 2000000
set_option maxRecDepth 100000

theorem OwnMs.push {P w4 : World} {B base : Nat} {ov v4 lx : Value} {ms : List Scu.Message} {css : List (List Value)} {m : Scu.Message} (h : OwnMs P base ov ms css) (hm : (ms.length + 1) * 80 ≤ R47) (hx : IsStrs P B lx m.log) (hB : B = 0)
    (h4 : w4.ownsRow base 41 8 v4 (ms.length + 1) (css.flatten ++ msgV m lx)) (hg : P.grownBy w4 ov.ownBlock) : OwnMs w4 base v4 (ms ++ [m]) (css ++ [msgV m lx]) := by
  subst hB
  have hs0 : Same [9] 0 P w4 := Same.own h.row hg (Nat.zero_le _) (by decide)
  refine ⟨by simp only [List.length_append, h.len, List.length_cons, List.length_nil], ?_, ?_, ?_, by simpa using hm⟩
  · intro c hc
    rcases List.mem_append.1 hc with h' | h'
    · exact h.eight c h'
    · rw [List.mem_singleton] at h'
      subst h'
      rfl
  · rw [List.length_append, List.flatten_append]
    simpa using h4
  · intro j c x hc hx'
    rcases Nat.lt_or_ge j ms.length with hj | hj
    · rw [List.getElem?_append_left (by rw [h.len]; exact hj)] at hc
      rw [List.getElem?_append_left hj] at hx'
      exact (h.each j c x hc hx').same (B := 0) (Ts := [9]) (by simp) hs0
    · rw [List.getElem?_append_right (by rw [h.len]; exact hj), h.len] at hc
      rw [List.getElem?_append_right hj] at hx'
      have hj0 : j - ms.length = 0 := by
        rcases Nat.eq_zero_or_pos (j - ms.length) with h' | h'
        · exact h'
        · rw [List.getElem?_eq_none (by simp; omega)] at hc
          cases hc
      rw [hj0] at hc hx'
      simp only [List.getElem?_cons_zero, Option.some.injEq] at hc hx'
      subst hc
      subst hx'
      exact ⟨lx, rfl, hx.same (by simp) hs0⟩
theorem OwnMs.base_ {w : World} {base base' : Nat} {v : Value} {ms : List Scu.Message} {css : List (List Value)} (h : OwnMs w base v ms css) (hb : base' ≤ base) : OwnMs w base' v ms css := ⟨h.len, h.eight, ownsRow_base h.row hb, h.each, h.max⟩
structure ToI (w : World) (B : Nat) (cs : Array Value) (me vi : Int) (m : Scu.Message) (A : Option Addr) (c : Nat) (k : Nat) (ov : Value) (css : List (List Value)) (wr : World) : Prop where
  arg : Blk wr w.heap.size 29 cs
  box : Blk wr (w.heap.size + 1) 41 #[.int .i64 m.kind, .int .i64 m.from_, .int .i64 m.to, .int .i64 m.view, .int .i64 m.normal, .int .i64 m.commit, .int .i64 m.n, .slice A m.log.length c]
  log : IsStrs wr B (.slice A m.log.length c) m.log
  out : OwnMs wr (w.heap.size + 2) ov (partAll me vi m k) css
  low : Below w.heap.size w wr
  le : B ≤ w.heap.size
theorem ToI.below {w wr w' : World} {B : Nat} {cs : Array Value} {me vi : Int} {m : Scu.Message} {A : Option Addr} {c k : Nat} {ov : Value} {css : List (List Value)} (h : ToI w B cs me vi m A c k ov css wr) (hb : Below wr.heap.size wr w') : ToI w B cs me vi m A c k ov css w' :=
  ⟨h.arg.same hb, h.box.same hb, h.log.below hb, h.out.below hb, h.low.trans (hb.mono h.low.size), h.le⟩
theorem ToI.next {w P w4 : World} {B : Nat} {cs : Array Value} {me vi : Int} {m : Scu.Message} {A : Option Addr} {c k : Nat} {ov v4 lx : Value} {css : List (List Value)} (h : ToI w B cs me vi m A c k ov css P) (hk : k < 3) (hme : (k : Int) ≠ me) (hx : IsStrs P 0 lx m.log)
    (h4 : w4.ownsRow (w.heap.size + 2) 41 8 v4 ((partAll me vi m k).length + 1) (css.flatten ++ msgV ⟨m.kind, me, k, vi, m.normal, m.commit, m.n, m.log⟩ lx)) (hg : P.grownBy w4 ov.ownBlock) : ToI w B cs me vi m A c (k + 1) v4 (css ++ [msgV ⟨m.kind, me, k, vi, m.normal, m.commit, m.n, m.log⟩ lx]) w4 := by
  have hs0 : Same [9] B P w4 := Same.own h.out.row hg (Nat.le_trans h.le (by omega)) (by decide)
  refine ⟨blk_growm h.arg h.out.row (by decide) hg, (hg.block _ h.box.lt fun e => ?_).trans h.box, h.log.same (by simp) hs0, ?_, h.low.grown hg h.low.size (fun q hq => ?_), h.le⟩
  · have := (h.out.row.lt _ e.symm).1
    omega
  · rw [part_send hk hme]
    exact h.out.push (m := ⟨m.kind, me, k, vi, m.normal, m.commit, m.n, m.log⟩) (by have := part_len me vi m k; unfold R47; omega) hx rfl h4 hg
  · have := (h.out.row.lt _ hq).1
    omega
theorem toAll_c (me vi no : Int) (ca : Bool) (lv : Value) (co : Int) (hv wv gv nv mv : Value) (m : Scu.Message) (w : World) (B : Nat) (hBw : B ≤ w.heap.size) (hx : IsStrs w B mv m.log) :
    Calls Try.prog 28 #[.agg #[.int .i64 me, .int .i64 vi, .int .i64 no, .bool ca, lv, .int .i64 co, hv, wv, gv, nv], .agg #[.int .i64 m.kind, .int .i64 m.from_, .int .i64 m.to, .int .i64 m.view, .int .i64 m.normal, .int .i64 m.commit, .int .i64 m.n, mv]] w fun e w' => (∃ ov css, e = .returned ov ∧ OwnMs w' w.heap.size ov (partAll me vi m 3) css) ∧ Below w.heap.size w w' := by
  obtain ⟨⟨A, c, rfl, hnc, hr⟩, hl, he⟩ := hx
  have hl' := hl
  unfold R47 at hl'
  have HMX := Lib.hid (show 0 + m.log.length ≤ maxLen ∧ (0 + m.log.length) * 16 ≤ 140737488355328 by constructor <;> (try unfold maxLen) <;> omega)
  have HEL := Lib.hid (And.intro hl he)
  have hI : ToI w B #[.int .i64 me, .int .i64 vi, .int .i64 no, .bool ca, lv, .int .i64 co, hv, wv, gv, nv] me vi m A c 0 (.slice none 0 0) [] ((w.alloc (Obj.cells #[.int .i64 me, .int .i64 vi, .int .i64 no, .bool ca, lv, .int .i64 co, hv, wv, gv, nv] 29)).alloc (Obj.cells #[.int .i64 m.kind, .int .i64 m.from_, .int .i64 m.to, .int .i64 m.view, .int .i64 m.normal, .int .i64 m.commit, .int .i64 m.n, .slice A m.log.length c] 41)) := by
    have hal := below_alloc w (Obj.cells #[.int .i64 me, .int .i64 vi, .int .i64 no, .bool ca, lv, .int .i64 co, hv, wv, gv, nv] 29)
    have hal2 := hal.alloc (by simp) (Obj.cells #[.int .i64 m.kind, .int .i64 m.from_, .int .i64 m.to, .int .i64 m.view, .int .i64 m.normal, .int .i64 m.commit, .int .i64 m.n, .slice A m.log.length c] 41)
    exact ⟨(Blk.new w _ _).alloc _, Blk.new' (by simp), (show IsStrs w B (.slice A m.log.length c) m.log from ⟨⟨A, c, rfl, hnc, hr⟩, hl, he⟩).below hal2, OwnMs.nil_, hal2, hBw⟩
  have HI := Lib.hid hI
  clear hI hl hl' he hr
  go_enter Try.func28, Try.ntmps28
  go_wp2_with fail
  go_loopw [5, 6] (fun o i wr => ∃ (k : Nat) (Ao : Option Addr) (co' : Nat) (css : List (List Value)), k ≤ 3 ∧ i = .int .i64 k ∧ o = .slice Ao (partAll me vi m k).length co' ∧ ToI w B #[.int .i64 me, .int .i64 vi, .int .i64 no, .bool ca, lv, .int .i64 co, hv, wv, gv, nv] me vi m A c k (.slice Ao (partAll me vi m k).length co') css wr) (fun _ i _ => 3 - (intOf i).toNat)
  case atStart => exact ⟨0, none, 0, [], Nat.zero_le _, rfl, rfl, HI.out⟩
  case round =>
    obtain ⟨k, Ao, co', css, hk, rfl, rfl, hI⟩ := hrel
    by_cases hlt : k < 3
    · have hlt' : (k : Int) < 3 := by omega
      have ha := hI.arg
      have a0 := ha.cell 0
      have a1 := ha.cell 1
      have hbx := hI.box
      have b0 := hbx.cell 0
      have b1 := hbx.cell 1
      have b2 := hbx.cell 2
      have b3 := hbx.cell 3
      have b4 := hbx.cell 4
      have b5 := hbx.cell 5
      have b6 := hbx.cell 6
      have b7 := hbx.cell 7
      simp only [List.getElem?_toArray, List.getElem?_cons_zero, List.getElem?_cons_succ] at a0 a1 b0 b1 b2 b3 b4 b5 b6 b7
      have bl := hbx.lt
      have al := ha.lt
      clear hbx ha
      by_cases hme : (k : Int) = me
      · have hnb : ((k : Int) != me) = false := by simpa using hme
        have hIn : ToI w B #[.int .i64 me, .int .i64 vi, .int .i64 no, .bool ca, lv, .int .i64 co, hv, wv, gv, nv] me vi m A c (k + 1) (.slice Ao (partAll me vi m (k + 1)).length co') css wr := ⟨hI.arg, hI.box, hI.log, by have := hI.out; rw [← part_self hlt hme] at this; exact this, hI.low, hI.le⟩
        have HIN := Lib.hid hIn
        have HLE := Lib.hid (show (partAll me vi m (k + 1)).length = (partAll me vi m k).length by rw [part_self hlt hme])
        clear hIn hI hme
        go_wp2_with fail
        go_roundw
        case rel => exact ⟨k + 1, Ao, co', css, by omega, rfl, by rw [HLE.out], HIN.out⟩
        case measure => simp only [intOf]; omega
      · have hnb : ((k : Int) != me) = true := by simpa using hme
        have HME := Lib.hid hme
        have HI2 := Lib.hid hI
        clear hI hme
        go_upto_region 10 with fail
        obtain ⟨Wf, hWf⟩ : ∃ W, W = wr.alloc (Obj.cells #[.int .i64 m.kind, .int .i64 me, .int .i64 k, .int .i64 vi, .int .i64 m.normal, .int .i64 m.commit, .int .i64 m.n, .slice A m.log.length c] 41) := ⟨_, rfl⟩
        rw [← hWf]
        have hwf : Below wr.heap.size wr Wf := by rw [hWf]; exact below_alloc _ _
        have hxf : Blk Wf wr.heap.size 41 #[.int .i64 m.kind, .int .i64 me, .int .i64 k, .int .i64 vi, .int .i64 m.normal, .int .i64 m.commit, .int .i64 m.n, .slice A m.log.length c] := by rw [hWf]; exact Blk.new _ _ _
        have HIF := Lib.hid (And.intro (HI2.out.below hwf) hxf)
        have HWR := Lib.hid hwf
        clear hWf hwf hxf a0 a1 b0 b1 b2 b3 b4 b5 b6 b7 bl al
        have b7 := HIF.out.1.box.cell 7
        have x7 := HIF.out.2.cell 7
        simp only [List.getElem?_toArray, List.getElem?_cons_zero, List.getElem?_cons_succ] at b7 x7
        have xz := HIF.out.2.frozen
        have xl := HIF.out.2.lt
        have bl := HIF.out.1.box.lt
        obtain ⟨⟨A', c', eA, hnA, hrA⟩, _, _⟩ := HIF.out.1.log
        obtain ⟨rfl, rfl⟩ : A = A' ∧ c = c' := by cases eA; exact ⟨rfl, rfl⟩
        have HSR := Lib.hid (src_of_rd (size := 1) (m := m.log.length) (c := c) hrA (by simp) (fun e => by subst e; have := rd_none hrA; simpa using this))
        clear hrA eA hnA
        go_wp2_with (at_builtin; refine list_app _ rfl _ _ 22 rfl el_strs Wf.heap.size _ 0 [] rfl (World.ownsRow_nil _ _ _ _) _ m.log.length (m.log.map Value.string) rfl HSR.out (one_strs m.log) HMX.out.1 HMX.out.2 (Nat.le_refl _) ?_)
        intro v4 x4 h4 hg4 _
        obtain ⟨Au, cu, rfl, _, _, _, _⟩ := rd_own h4
        have k4 : Below Wf.heap.size Wf x4 := below_grown hg4 (Nat.le_refl _) (fun q hq => by cases hq)
        have hul : IsStrs x4 0 (.slice Au m.log.length cu) m.log := strs_own h4 HEL.out.1 HEL.out.2
        have hx4 := HIF.out.2.same k4
        have y7 := hx4.cell 7
        simp only [List.getElem?_toArray, List.getElem?_cons_zero, List.getElem?_cons_succ] at y7
        have yz := hx4.frozen
        have yl := hx4.lt
        have HX4 := Lib.hid (And.intro hx4 (And.intro hul k4))
        clear h4 hg4 k4 hul hx4 b7 x7 xz xl bl
        go_upto_region 11 with fail
        obtain ⟨Wg, hWg⟩ : ∃ W, W = x4.setCell ⟨wr.heap.size, 7, none⟩ (.slice Au m.log.length cu) := ⟨_, rfl⟩
        rw [← hWg]
        have hxg : Blk Wg wr.heap.size 41 #[.int .i64 m.kind, .int .i64 me, .int .i64 k, .int .i64 vi, .int .i64 m.normal, .int .i64 m.commit, .int .i64 m.n, .slice Au m.log.length cu] := by rw [hWg]; exact HX4.out.1.set_ 7 _
        have hlg : IsStrs Wg 0 (.slice Au m.log.length cu) m.log := by rw [hWg]; exact HX4.out.2.1.same (Ts := [9]) (by simp) (Same.set_ HX4.out.1 (Nat.zero_le _) (by decide) 7 _)
        have hwg : Below wr.heap.size wr Wg := by
          rw [hWg]
          exact ((HWR.out.trans (HX4.out.2.2.mono HWR.out.size))).setCell (p := ⟨wr.heap.size, 7, none⟩) (Nat.le_refl _) _
        have HG := Lib.hid (And.intro (HI2.out.below hwg) (And.intro hxg hlg))
        clear hWg hwg hlg y7 yz yl
        have q0 := hxg.cell 0
        have q1 := hxg.cell 1
        have q2 := hxg.cell 2
        have q3 := hxg.cell 3
        have q4 := hxg.cell 4
        have q5 := hxg.cell 5
        have q6 := hxg.cell 6
        have q7 := hxg.cell 7
        simp only [List.getElem?_toArray, List.getElem?_cons_zero, List.getElem?_cons_succ] at q0 q1 q2 q3 q4 q5 q6 q7
        have ql := hxg.lt
        clear hxg
        have hpl := part_len me vi m k
        have hrow := HG.out.1.out.row
        go_wp2_with (at_builtin; refine list_app _ rfl _ _ 31 rfl el_msgs (w.heap.size + 2) (.slice Ao (partAll me vi m k).length co') (partAll me vi m k).length css.flatten rfl (own_below hrow (below_alloc Wg (Obj.cells #[.int .i64 m.kind, .int .i64 me, .int .i64 k, .int .i64 vi, .int .i64 m.normal, .int .i64 m.commit, .int .i64 m.n, .slice Au m.log.length cu] 41))) (.slice (some ⟨Wg.heap.size, 0, none⟩) 1 1) 1 (msgV ⟨m.kind, me, k, vi, m.normal, m.commit, m.n, m.log⟩ (.slice Au m.log.length cu)) rfl ⟨rfl, .inr ⟨_, _, rfl, ?e1⟩⟩ ?e2 (by unfold maxLen; omega) (by omega) (by have := HG.out.1.box.lt; simp; omega) ?_)
        case e1 =>
          intro j v hj
          have hj8 : j < 8 := by (rcases Nat.lt_or_ge j 8 with h | h; exact h; rw [List.getElem?_eq_none h] at hj; cases hj)
          have hadd : (⟨Wg.heap.size, 0, none⟩ : Addr).add j = ⟨Wg.heap.size, j, none⟩ := by (unfold Addr.add; split <;> simp_all)
          rw [hadd]
          refine ((Blk.new Wg 41 #[.int .i64 m.kind, .int .i64 me, .int .i64 k, .int .i64 vi, .int .i64 m.normal, .int .i64 m.commit, .int .i64 m.n, .slice Au m.log.length cu]).cell j).trans ?_
          simpa [msgV] using hj
        case e2 => (intro v hv; simp only [msgV, List.mem_cons, List.not_mem_nil, or_false] at hv; rcases hv with rfl | rfl | rfl | rfl | rfl | rfl | rfl | rfl <;> rfl)
        intro v5 x5 h5 hg5 _
        have hnx := ((HG.out.1.below (below_alloc Wg (Obj.cells #[.int .i64 m.kind, .int .i64 me, .int .i64 k, .int .i64 vi, .int .i64 m.normal, .int .i64 m.commit, .int .i64 m.n, .slice Au m.log.length cu] 41))).next hlt HME.out (HG.out.2.2.below (below_alloc Wg _)) h5 hg5)
        obtain ⟨A9, c9, rfl, _, _, _, _⟩ := rd_own h5
        have HNX := Lib.hid hnx
        have HLE := Lib.hid (show (partAll me vi m (k + 1)).length = (partAll me vi m k).length + 1 by rw [part_send hlt HME.out]; simp)
        clear h5 hg5 hnx hrow hpl
        go_wp2_with fail
        go_roundw
        case rel => exact ⟨k + 1, A9, c9, _, by omega, rfl, by rw [HLE.out], by rw [HLE.out]; exact HNX.out⟩
        case measure => simp only [intOf]; omega
    · have hk3 : k = 3 := by omega
      subst hk3
      obtain ⟨Aq, cq, hq⟩ := hI.out.form
      have HI3 := Lib.hid hI
      clear hI
      go_wp2
      go_ret
      refine ⟨⟨_, css, rfl, ?_⟩, HI3.out.low⟩
      exact HI3.out.out.base_ (Nat.le_add_right _ 2)
end Go.Proofs.Ytjbhkmadcjnbfaa
/- Words: cells of a working replica's rows are set. -/
namespace Go.Proofs.Ytjbhkmadcjnbfaa
open Go.RowKit
set_option maxHeartbeats 1000000
set_option maxRecDepth 100000

theorem own_far {w : World} {base : Nat} {e : TypeId} {size n : Nat} {v : Value} {xs : List Value} (h : w.ownsRow base e size v n xs) {p : Addr} (hp : v.ownBlock ≠ some p.block) (u : Value) : (w.setCell p u).ownsRow base e size v n xs := by
  obtain ⟨hl, h0 | ⟨g, cap, cur, rfl, hb, hh, hr⟩⟩ := h
  · exact ⟨hl, .inl h0⟩
  · exact ⟨hl, .inr ⟨g, cap, cur, rfl, hb, (Below.heap_setCell w p u g (fun e => hp (by rw [← e]; rfl))).trans hh, hr⟩⟩
theorem OwnOnes.at_ {α : Type} {t : TypeId} {bytes : Nat} {f : α → Value} {w : World} {base : Nat} {v : Value} {xs : List α} (h : OwnOnes t bytes f w base v xs) (hn : 0 < xs.length) :
    ∃ g c cur, v = .slice (some ⟨g, 0, none⟩) xs.length c ∧ base ≤ g ∧ Blk w g t cur ∧ ∀ j, j < xs.length → w.cell? ⟨g, j, none⟩ = (xs.map f)[j]? := own_at h.1 hn
theorem OwnOnes.put {α : Type} {t : TypeId} {bytes : Nat} {f : α → Value} {w : World} {base g c n : Nat} {xs : List α} (h : OwnOnes t bytes f w base (.slice (some ⟨g, 0, none⟩) n c) xs) (j : Nat) (x : α) :
    OwnOnes t bytes f (w.setCell ⟨g, j, none⟩ (f x)) base (.slice (some ⟨g, 0, none⟩) n c) (xs.set j x) := by
  have hn : n = xs.length := by
    obtain ⟨⟨A, c', e, _⟩, _⟩ := h.is
    cases e
    rfl
  subst hn
  refine ⟨?_, by simpa using h.2⟩
  rw [List.length_set, List.map_set]
  exact own_put h.1 j _
theorem OwnOnes.far {α : Type} {t : TypeId} {bytes : Nat} {f : α → Value} {w : World} {base : Nat} {v : Value} {xs : List α} (h : OwnOnes t bytes f w base v xs) {p : Addr} (hp : v.ownBlock ≠ some p.block) (u : Value) : OwnOnes t bytes f (w.setCell p u) base v xs := ⟨own_far h.1 hp u, h.2⟩
/-- Wants[j] is set. -/
theorem Work.want {w : World} {base gw gr g c n : Nat} {r : Scu.Replica} {lu hv gv nv ov : Value} {ms : List Scu.Message} {css : List (List Value)} (h : Work w base gw gr r lu hv (.slice (some ⟨g, 0, none⟩) n c) gv nv ov ms css) {cur : Array Value} (hB : Blk w g 4 cur) (hg : base ≤ g) (j : Nat) (b : Bool) :
    Work (w.setCell ⟨g, j, none⟩ (.bool b)) base gw gr { r with wants := r.wants.set j b } lu hv (.slice (some ⟨g, 0, none⟩) n c) gv nv ov ms css ∧ Below base w (w.setCell ⟨g, j, none⟩ (.bool b)) := by
  have hs : Same [9, 3, 24, 29, 52, 41] 0 w (w.setCell ⟨g, j, none⟩ (.bool b)) := Same.set_ hB (Nat.zero_le _) (by decide) j _
  obtain ⟨css', hgv⟩ := h.own.giv
  exact ⟨⟨blk_keep h.wb hs (by simp), blk_keep h.rb hs (by simp), ⟨⟨h.own.own.log.same (hs.mono (by simp) (Nat.le_refl _)), h.own.own.have_.same (hs.mono (by simp) (Nat.le_refl _)), h.own.own.wants.put j b, h.own.own.given.far (h.own.own.apart g rfl) _, h.own.own.apart⟩, css', hgv.same (hs.mono (by simp) (Nat.le_refl _))⟩, h.out.same (hs.mono (by simp) (Nat.le_refl _)), h.lw, h.lr⟩,
    (Below.refl base w).setCell (p := ⟨g, j, none⟩) hg _⟩
end Go.Proofs.Ytjbhkmadcjnbfaa
/- Words: a call's work, its rows left open. Walks: all, lead, send. -/
namespace Go.Proofs.Ytjbhkmadcjnbfaa
open Go.RowKit
set_option maxHeartbeats 2000000
set_option maxRecDepth 100000

def WorkE (w : World) (base gw gr : Nat) (r : Scu.Replica) (ms : List Scu.Message) : Prop := ∃ lu hv wv gv nv ov css, Work w base gw gr r lu hv wv gv nv ov ms css
theorem WorkE.below {w w' : World} {base gw gr : Nat} {r : Scu.Replica} {ms : List Scu.Message} (h : WorkE w base gw gr r ms) (hb : Below w.heap.size w w') : WorkE w' base gw gr r ms :=
  let ⟨_, _, _, _, _, _, _, h⟩ := h; ⟨_, _, _, _, _, _, _, h.below hb⟩
theorem Work.e {w : World} {base gw gr : Nat} {r : Scu.Replica} {lu hv wv gv nv ov : Value} {ms : List Scu.Message} {css : List (List Value)} (h : Work w base gw gr r lu hv wv gv nv ov ms css) : WorkE w base gw gr r ms := ⟨_, _, _, _, _, _, _, h⟩
theorem part_toAll (me view : Int) (m : Scu.Message) : partAll me view m 3 = Scu.toAll me view m := rfl
theorem lead_e (w : World) (base gw gr : Nat) (r : Scu.Replica) (ms : List Scu.Message) (hW : WorkE w base gw gr r ms) (hbase : base ≤ w.heap.size) (hm : (ms.length + 4) * 80 ≤ R47) :
    Calls Try.prog 21 #[.pointer (some ⟨gw, 0, none⟩)] w fun e w' => e = .returned (.tuple #[]) ∧ WorkE w' base gw gr r (ms ++ Scu.leadOn r) ∧ Below base w w' := by
  obtain ⟨lu, hv, wv, gv, nv, ov, css, hW⟩ := hW
  refine (lead_c w base gw gr r lu hv wv gv nv ov ms css hW hbase hm).mono ?_
  rintro e w' ⟨h1, ⟨ov', css', h2⟩, h3⟩
  exact ⟨h1, h2.e, h3⟩
/-- Messages of one kind without a log, to all others. -/
theorem all_x (k : Int) (w : World) (base gw gr : Nat) (r : Scu.Replica) (lu hv wv gv nv ov : Value) (ms : List Scu.Message) (css : List (List Value)) (hW : Work w base gw gr r lu hv wv gv nv ov ms css) (hbase : base ≤ w.heap.size) (hm : (ms.length + 4) * 80 ≤ R47) :
    Calls Try.prog 24 #[.pointer (some ⟨gw, 0, none⟩), .agg #[.int .i64 k, .int .i64 0, .int .i64 0, .int .i64 0, .int .i64 0, .int .i64 0, .int .i64 0, .slice none 0 0]] w fun e w' => e = .returned (.tuple #[]) ∧ (∃ ov' css', Work w' base gw gr r lu hv wv gv nv ov' (ms ++ Scu.toAll r.me r.kept.view { Scu.msg0 with kind := k }) css' ∧ Far w w' ov ov') ∧ Below base w w' :=
  all_c none 0 0 { Scu.msg0 with kind := k } w base gw gr r lu hv wv gv nv ov ms css hW hbase IsStrs.nil_ hm
theorem all_e (k : Int) (w : World) (base gw gr : Nat) (r : Scu.Replica) (ms : List Scu.Message) (hW : WorkE w base gw gr r ms) (hbase : base ≤ w.heap.size) (hm : (ms.length + 4) * 80 ≤ R47) :
    Calls Try.prog 24 #[.pointer (some ⟨gw, 0, none⟩), .agg #[.int .i64 k, .int .i64 0, .int .i64 0, .int .i64 0, .int .i64 0, .int .i64 0, .int .i64 0, .slice none 0 0]] w fun e w' => e = .returned (.tuple #[]) ∧ WorkE w' base gw gr r (ms ++ Scu.toAll r.me r.kept.view { Scu.msg0 with kind := k }) ∧ Below base w w' := by
  obtain ⟨lu, hv, wv, gv, nv, ov, css, hW⟩ := hW
  refine (all_c none 0 0 { Scu.msg0 with kind := k } w base gw gr r lu hv wv gv nv ov ms css hW hbase IsStrs.nil_ hm).mono ?_
  rintro e w' ⟨h1, ⟨ov', css', h2, _⟩, h3⟩
  exact ⟨h1, h2.e, h3⟩
theorem send_e (A : Option Addr) (n c : Nat) (m : Scu.Message) (tt : Int) (w : World) (base gw gr : Nat) (r : Scu.Replica) (ms : List Scu.Message) (hW : WorkE w base gw gr r ms) (hbase : base ≤ w.heap.size)
    (hx : IsStrs w 0 (.slice A n c) m.log) (hm : (ms.length + 1) * 80 ≤ R47) (ms' : List Scu.Message) (hms : ms' = if tt = r.me then ms else ms ++ [⟨m.kind, r.me, tt, r.kept.view, m.normal, m.commit, m.n, m.log⟩]) :
    Calls Try.prog 22 #[.pointer (some ⟨gw, 0, none⟩), .int .i64 tt, .agg #[.int .i64 m.kind, .int .i64 m.from_, .int .i64 m.to, .int .i64 m.view, .int .i64 m.normal, .int .i64 m.commit, .int .i64 m.n, .slice A n c]] w fun e w' => e = .returned (.tuple #[]) ∧ WorkE w' base gw gr r ms' ∧ Below base w w' := by
  obtain ⟨lu, hv, wv, gv, nv, ov, css, hW⟩ := hW
  subst hms
  by_cases ht : tt = r.me
  · rw [if_pos ht]
    refine (send_1 A n c m tt w base gw gr r lu hv wv gv nv ov ms css hW ht).mono ?_
    rintro e w' ⟨h1, h3⟩
    exact ⟨h1, (hW.below h3).e, h3.mono hbase⟩
  · rw [if_neg ht]
    refine (send_2 A n c m tt w base gw gr r lu hv wv gv nv ov ms css hW hbase ht hx hm).mono ?_
    rintro e w' ⟨h1, ⟨ov', css', h2, _⟩, h3, _⟩
    exact ⟨h1, h2.e, h3⟩
/- texts that lie below a base -/
structure LowStrs (w : World) (base : Nat) (v : Value) (xs : List Scu.Str) : Prop where
  ex : ∃ A c, v = .slice A xs.length c ∧ xs.length ≤ c ∧ (xs = [] ∨ ∃ g o, A = some ⟨g, o, none⟩ ∧ g < base ∧ ∀ (j : Nat) (u : Value), (xs.map Value.string)[j]? = some u → w.cell? ⟨g, o + j, none⟩ = some u)
  len : xs.length * 16 ≤ R47
  each : ∀ s ∈ xs, s.size ≤ R47
theorem LowStrs.of {w : World} {B : Nat} {v : Value} {xs : List Scu.Str} (h : IsStrs w B v xs) : LowStrs w w.heap.size v xs := by
  obtain ⟨⟨A, c, rfl, hc, hr⟩, h2, h3⟩ := h
  refine ⟨⟨A, c, rfl, hc, ?_⟩, h2, h3⟩
  rcases hr with h | ⟨g, o, h1, h2, _, h4⟩
  · exact .inl (by simpa using h)
  · exact .inr ⟨g, o, h1, h2, h4⟩
theorem LowStrs.keep {w w' : World} {base : Nat} {v : Value} {xs : List Scu.Str} (h : LowStrs w base v xs) (hb : Below base w w') : LowStrs w' base v xs := by
  obtain ⟨⟨A, c, rfl, hc, hr⟩, h2, h3⟩ := h
  refine ⟨⟨A, c, rfl, hc, ?_⟩, h2, h3⟩
  rcases hr with h | ⟨g, o, h1, h2, h4⟩
  · exact .inl h
  · exact .inr ⟨g, o, h1, h2, fun j u hj => (hb.cell (p := ⟨g, o + j, none⟩) h2).trans (h4 j u hj)⟩
theorem LowStrs.is {w : World} {base : Nat} {v : Value} {xs : List Scu.Str} (h : LowStrs w base v xs) (hb : base ≤ w.heap.size) : IsStrs w base v xs := by
  obtain ⟨⟨A, c, rfl, hc, hr⟩, h2, h3⟩ := h
  refine ⟨⟨A, c, rfl, hc, ?_⟩, h2, h3⟩
  rcases hr with h | ⟨g, o, h1, h2, h4⟩
  · exact .inl (by simp [h])
  · exact .inr ⟨g, o, h1, by omega, .inl h2, h4⟩
/- a replica's own rows, at three -/
theorem ones3 {α : Type} {t : TypeId} {bytes : Nat} {f : α → Value} {w : World} {base : Nat} {v : Value} {xs : List α} (h : OwnOnes t bytes f w base v xs) (h3 : xs.length = 3) :
    ∃ g c cur, v = .slice (some ⟨g, 0, none⟩) 3 c ∧ base ≤ g ∧ Blk w g t cur ∧ ∀ j, j < 3 → w.cell? ⟨g, j, none⟩ = (xs.map f)[j]? := by
  obtain ⟨g, c, cur, h1, h2, hb, h4⟩ := h.at_ (by omega)
  rw [h3] at h1 h4
  exact ⟨g, c, cur, h1, h2, hb, h4⟩
end Go.Proofs.Ytjbhkmadcjnbfaa

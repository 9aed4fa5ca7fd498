/- Part 10: words and walks under the law 'LeadersLead'. -/
import Derived.Test.YtfpiembhlgcelaaDoorLed9
import Derived.StillTailTactics
import Derived.Test.YtfpiembhlgcelaaDoorLed8
import Derived.Deep.RegionHeld3
import Derived.Laws.IdiomCopy
set_option linter.unusedVariables false
set_option linter.unusedSimpArgs false
/- Walks: a message is sent to all others. -/
namespace Go.Proofs.YtfpiembhlgcelaaDoor
open Go.RowKit
set_option maxHeartbeats 2000000
set_option maxRecDepth 100000

def partAll (me view : Int) (m : Scu.Message) (k : Nat) : List Scu.Message := ((([0, 1, 2] : List Int).take k).filter fun i => decide (i ≠ me)).map fun i => ⟨m.kind, me, i, view, m.normal, m.commit, m.n, m.log⟩
theorem part_zero (me view : Int) (m : Scu.Message) : partAll me view m 0 = [] := rfl
theorem part_self {me view : Int} {m : Scu.Message} {k : Nat} (hk : k < 3) (h : (k : Int) = me) : partAll me view m (k + 1) = partAll me view m k := by
  subst h
  rcases k with _ | _ | _ | k
  · simp [partAll]
  · simp [partAll]
  · simp [partAll]
  · omega
theorem part_send {me view : Int} {m : Scu.Message} {k : Nat} (hk : k < 3) (h : (k : Int) ≠ me) : partAll me view m (k + 1) = partAll me view m k ++ [⟨m.kind, me, k, view, m.normal, m.commit, m.n, m.log⟩] := by
  have h' : decide ((k : Int) = me) = false := by simpa using h
  rcases k with _ | _ | _ | k
  · simp [partAll, List.take, List.filter, show ¬ (0 : Int) = me from h]
  · simp [partAll, List.take, List.filter, show ¬ (1 : Int) = me from h]
    by_cases h0 : (0 : Int) = me <;> simp [h0]
  · simp [partAll, List.take, List.filter, show ¬ (2 : Int) = me from h]
    by_cases h0 : (0 : Int) = me <;> by_cases h1 : (1 : Int) = me <;> simp [h0, h1]
  · omega
theorem part_len (me view : Int) (m : Scu.Message) (k : Nat) : (partAll me view m k).length ≤ 3 := by
  unfold partAll
  rw [List.length_map]
  refine Nat.le_trans (List.length_filter_le _ _) ?_
  rw [List.length_take]
  simp only [List.length_cons, List.length_nil]
  omega
theorem part_max {ms ps : List Scu.Message} (h : ps.length ≤ 3) (hm : (ms.length + 4) * 80 ≤ R47) : ((ms ++ ps).length + 1) * 80 ≤ R47 := by
  have e : (ms ++ ps).length = ms.length + ps.length := List.length_append
  rw [e]
  refine Nat.le_trans (Nat.mul_le_mul_right 80 ?_) hm
  omega
theorem blk_ne' {w : World} {a b : Nat} {t t' : TypeId} {cs cs' : Array Value} (h : Blk w a t cs) (h' : Blk w b t' cs') (ht : t ≠ t') : a ≠ b := fun e => by
  subst e
  unfold Blk at h h'
  rw [h] at h'
  cases h'
  exact ht rfl
structure AllI (w : World) (base gw gr : Nat) (r : Scu.Replica) (lu hv wv gv nv : Value) (ms : List Scu.Message) (m : Scu.Message) (A : Option Addr) (n c : Nat) (k : Nat) (ov0 ov : Value) (css : List (List Value)) (wr : World) : Prop where
  far : Far w wr ov0 ov
  work : Work wr base gw gr r lu hv wv gv nv ov (ms ++ partAll r.me r.kept.view m k) css
  box : Blk wr w.heap.size 89 #[.int .i64 m.kind, .int .i64 m.from_, .int .i64 m.to, .int .i64 m.view, .int .i64 m.normal, .int .i64 m.commit, .int .i64 m.n, .slice A n c]
  ne : ov.ownBlock ≠ some w.heap.size
  log : IsStrs wr 0 (.slice A n c) m.log
  low : Below base w wr
theorem all_c (A : Option Addr) (n c : Nat) (m : Scu.Message) (w : World) (base gw gr : Nat) (r : Scu.Replica) (lu hv wv gv nv ov : Value) (ms : List Scu.Message) (css : List (List Value)) (hW : Work w base gw gr r lu hv wv gv nv ov ms css) (hbase : base ≤ w.heap.size)
    (hx : IsStrs w 0 (.slice A n c) m.log) (hm : (ms.length + 4) * 80 ≤ R47) :
    Calls Tryd.prog 94 #[.pointer (some ⟨gw, 0, none⟩), .agg #[.int .i64 m.kind, .int .i64 m.from_, .int .i64 m.to, .int .i64 m.view, .int .i64 m.normal, .int .i64 m.commit, .int .i64 m.n, .slice A n c]] w fun e w' => e = .returned (.tuple #[]) ∧ (∃ ov' css', Work w' base gw gr r lu hv wv gv nv ov' (ms ++ partAll r.me r.kept.view m 3) css' ∧ Far w w' ov ov') ∧ Below base w w' := by
  have hI : AllI w base gw gr r lu hv wv gv nv ms m A n c 0 ov ov css (w.alloc (Obj.cells #[.int .i64 m.kind, .int .i64 m.from_, .int .i64 m.to, .int .i64 m.view, .int .i64 m.normal, .int .i64 m.commit, .int .i64 m.n, .slice A n c] 89)) := by
    have hal := below_alloc w (Obj.cells #[.int .i64 m.kind, .int .i64 m.from_, .int .i64 m.to, .int .i64 m.view, .int .i64 m.normal, .int .i64 m.commit, .int .i64 m.n, .slice A n c] 89)
    refine ⟨Far.below hal, ?_, Blk.new w _ _, fun e => ?_, hx.below hal, hal.mono hbase⟩
    · rw [part_zero, List.append_nil]
      exact hW.below hal
    · have := (hW.out.row.lt _ e).2
      omega
  have HI := Lib.hid hI
  clear hI hW hx
  go_enter Tryd.func94, Tryd.ntmps94
  go_wp2_with fail
  go_loopw [6] (fun i wr => ∃ (k : Nat) (ov1 : Value) (css : List (List Value)), k ≤ 3 ∧ i = .int .i64 k ∧ Hid (AllI w base gw gr r lu hv wv gv nv ms m A n c k ov ov1 css wr)) (fun i _ => 3 - (intOf i).toNat)
  case atStart => exact ⟨0, ov, css, Nat.zero_le _, rfl, HI⟩
  case round =>
    obtain ⟨k, ov1, css1, hk, rfl, hI⟩ := hrel
    by_cases hlt : k < 3
    · have hlt' : (k : Int) < 3 := by omega
      have hbx := hI.out.box
      have b0 := hbx.cell 0
      have b1 := hbx.cell 1
      have b2 := hbx.cell 2
      have b3 := hbx.cell 3
      have b4 := hbx.cell 4
      have b5 := hbx.cell 5
      have b6 := hbx.cell 6
      have b7 := hbx.cell 7
      simp only [List.getElem?_toArray, List.getElem?_cons_zero, List.getElem?_cons_succ] at b0 b1 b2 b3 b4 b5 b6 b7
      have bl := hbx.lt
      clear hbx
      go_wp2_with fail
      refine (cloneStrs_c _ m.log _ 0 (hI.out.log.alloc _)).mono ?_; rintro en w2 ⟨⟨u, rfl, hu⟩, h2⟩
      obtain ⟨Au, cu, rfl, _, _, _, _⟩ := rd_own hu
      have hxb : Blk w2 wr.heap.size 89 #[.int .i64 m.kind, .int .i64 m.from_, .int .i64 m.to, .int .i64 m.view, .int .i64 m.normal, .int .i64 m.commit, .int .i64 m.n, .slice A n c] := (Blk.new wr _ _).same h2
      have x7 := hxb.cell 7
      simp only [List.getElem?_toArray, List.getElem?_cons_zero, List.getElem?_cons_succ] at x7
      have xz := hxb.frozen
      have xl := hxb.lt
      have hw2 : Below wr.heap.size wr w2 := (below_alloc wr _).trans (h2.mono (by simp))
      have hul : IsStrs w2 0 (.slice Au m.log.length cu) m.log := strs_own hu hI.out.log.len hI.out.log.each
      have HXB := Lib.hid (And.intro hxb (And.intro hw2 hul))
      clear hxb hw2 hul hu h2
      go_upto_region 6 with fail
      obtain ⟨Wf, hWf⟩ : ∃ W, W = w2.setCell ⟨wr.heap.size, 7, none⟩ (.slice Au m.log.length cu) := ⟨_, rfl⟩
      rw [← hWf]
      have hxf : Blk Wf wr.heap.size 89 #[.int .i64 m.kind, .int .i64 m.from_, .int .i64 m.to, .int .i64 m.view, .int .i64 m.normal, .int .i64 m.commit, .int .i64 m.n, .slice Au m.log.length cu] := by rw [hWf]; exact HXB.out.1.set_ 7 _
      have hwf : Below wr.heap.size wr Wf := by rw [hWf]; exact HXB.out.2.1.setCell (p := ⟨wr.heap.size, 7, none⟩) (Nat.le_refl _) _
      have hlf : IsStrs Wf 0 (.slice Au m.log.length cu) m.log := by rw [hWf]; exact HXB.out.2.2.same (Ts := [9]) (by simp) (Same.set_ HXB.out.1 (Nat.zero_le _) (by decide) 7 _)
      have hIf : AllI w base gw gr r lu hv wv gv nv ms m A n c k ov ov1 css1 Wf := ⟨hI.out.far.trans (Far.below hwf), hI.out.work.below hwf, hI.out.box.same hwf, hI.out.ne, hI.out.log.below hwf, hI.out.low.trans (hwf.mono (Nat.le_trans hbase hI.out.low.size))⟩
      have x0 := hxf.cell 0
      have x1 := hxf.cell 1
      have x2 := hxf.cell 2
      have x3 := hxf.cell 3
      have x4 := hxf.cell 4
      have x5 := hxf.cell 5
      have x6 := hxf.cell 6
      have y7 := hxf.cell 7
      simp only [List.getElem?_toArray, List.getElem?_cons_zero, List.getElem?_cons_succ] at x0 x1 x2 x3 x4 x5 x6 y7
      have yl := hxf.lt
      have hbf : base ≤ Wf.heap.size := Nat.le_trans (Nat.le_trans hbase hI.out.low.size) hwf.size
      have HIF := Lib.hid hIf
      have HLF := Lib.hid hlf
      clear hxf hwf hlf hIf hWf x7 xz xl b0 b1 b2 b3 b4 b5 b6 b7 bl hI HXB
      have HMX := Lib.hid (part_max (part_len r.me r.kept.view m k) hm)
      go_wp2_with fail
      by_cases hme : (k : Int) = r.me
      · refine (send_1 Au m.log.length cu m k Wf base gw gr r lu hv wv gv nv ov1 _ css1 HIF.out.work hme).mono ?_; rintro en w5 ⟨rfl, h5⟩
        have hIn : AllI w base gw gr r lu hv wv gv nv ms m A n c (k + 1) ov ov1 css1 w5 := ⟨HIF.out.far.trans (Far.below h5), by rw [part_self hlt hme]; exact HIF.out.work.below h5, HIF.out.box.same h5, HIF.out.ne, HIF.out.log.below h5, HIF.out.low.trans (h5.mono hbf)⟩
        have HIN := Lib.hid hIn
        clear hIn h5 hme
        go_wp2
        exact ⟨⟨k + 1, ov1, css1, by omega, rfl, HIN⟩, by simp only [intOf]; omega⟩
      · refine (send_2 Au m.log.length cu m k Wf base gw gr r lu hv wv gv nv ov1 _ css1 HIF.out.work hbf hme HLF.out HMX.out).mono ?_; rintro en w5 ⟨rfl, ⟨ov2, css2, hw5, hk5⟩, h5, hs5⟩
        have hgw : w.heap.size ≠ gw := by
          intro e
          have hA := HIF.out.box
          have hC := HIF.out.work.wb
          rw [e] at hA
          unfold Blk at hA hC
          rw [hA] at hC
          cases hC
        have hkk := hk5 _ _ _ HIF.out.box hgw HIF.out.ne
        have hIn : AllI w base gw gr r lu hv wv gv nv ms m A n c (k + 1) ov ov2 css2 w5 := ⟨HIF.out.far.trans fun b cs hb hc => hk5 b _ cs hb (blk_ne' hb HIF.out.work.wb (by decide)) hc, by rw [part_send hlt hme, ← List.append_assoc]; exact hw5, hkk.1, hkk.2, HIF.out.log.same (by simp) hs5, HIF.out.low.trans h5⟩
        have HIN := Lib.hid hIn
        clear hIn h5 hs5 hw5 hk5 hkk hme
        go_wp2
        exact ⟨⟨k + 1, ov2, css2, by omega, rfl, HIN⟩, by simp only [intOf]; omega⟩
    · have hk3 : k = 3 := by omega
      subst hk3
      go_wp2
      go_end0
      exact ⟨rfl, ⟨_, _, hI.out.work, hI.out.far⟩, hI.out.low⟩
end Go.Proofs.YtfpiembhlgcelaaDoor
/- Walks: what who leads tells all others. -/
namespace Go.Proofs.YtfpiembhlgcelaaDoor
open Go.RowKit
set_option maxHeartbeats 2000000
set_option maxRecDepth 100000

def leadMsg (r : Scu.Replica) : Scu.Message := ⟨1, 0, 0, 0, 0, r.kept.commit, 0, r.kept.log⟩
theorem lead_c (w : World) (base gw gr : Nat) (r : Scu.Replica) (lu hv wv gv nv ov : Value) (ms : List Scu.Message) (css : List (List Value)) (hW : Work w base gw gr r lu hv wv gv nv ov ms css) (hbase : base ≤ w.heap.size) (hm : (ms.length + 4) * 80 ≤ R47) :
    Calls Tryd.prog 77 #[.pointer (some ⟨gw, 0, none⟩)] w fun e w' => e = .returned (.tuple #[]) ∧ (∃ ov' css', Work w' base gw gr r lu hv wv gv nv ov' (ms ++ partAll r.me r.kept.view (leadMsg r) 3) css') ∧ Below base w w' := by
  have hl := hW.own.is.log
  obtain ⟨A, n, c, rfl⟩ := hl.form
  have d0 := hW.wb.cell 0
  have d4 := hW.rb.cell 4
  have d5 := hW.rb.cell 5
  simp only [List.getElem?_toArray, List.getElem?_cons_zero, List.getElem?_cons_succ] at d0 d4 d5
  have dl := hW.wb.lt
  have dm := hW.rb.lt
  have HW := Lib.hid (And.intro hW hl)
  have HM := Lib.hid hm
  clear hW hl hm
  go_enter Tryd.func77, Tryd.ntmps77
  go_wp2_with fail
  go_still_tail 18, (by kernel_rfl)
  change wpList _ _ _ _ _ w.drew
  go_wp2_with (go_at_call 94; refine (all_c A n c (leadMsg r) _ base gw gr r (.slice A n c) hv wv gv nv ov ms css (HW.out.1.below (Below.refl _ _).drew) hbase (HW.out.2.below (Below.refl _ _).drew) HM.out).mono ?_; rintro en w5 ⟨rfl, ⟨ov5, css5, hk, _⟩, h5⟩; have HK := Lib.hid (And.intro hk ((Below.refl base w).drew.trans h5)); clear hk h5)
  go_wp2
  go_end0
  exact ⟨rfl, ⟨_, _, HK.out.1⟩, HK.out.2⟩
end Go.Proofs.YtfpiembhlgcelaaDoor
/- Words: cells of a working replica's rows are set. -/
namespace Go.Proofs.YtfpiembhlgcelaaDoor
open Go.RowKit
set_option maxHeartbeats 1000000
set_option maxRecDepth 100000

theorem own_far {w : World} {base : Nat} {e : TypeId} {size n : Nat} {v : Value} {xs : List Value} (h : w.ownsRow base e size v n xs) {p : Addr} (hp : v.ownBlock ≠ some p.block) (u : Value) : (w.setCell p u).ownsRow base e size v n xs := by
  obtain ⟨hl, h0 | ⟨g, cap, cur, rfl, hb, hh, hr⟩⟩ := h
  · exact ⟨hl, .inl h0⟩
  · exact ⟨hl, .inr ⟨g, cap, cur, rfl, hb, (Below.heap_setCell w p u g (fun e => hp (by rw [← e]; rfl))).trans hh, hr⟩⟩
theorem OwnOnes.at_ {α : Type} {t : TypeId} {bytes : Nat} {f : α → Value} {w : World} {base : Nat} {v : Value} {xs : List α} (h : OwnOnes t bytes f w base v xs) (hn : 0 < xs.length) :
    ∃ g c cur, v = .slice (some ⟨g, 0, none⟩) xs.length c ∧ base ≤ g ∧ Blk w g t cur ∧ ∀ j, j < xs.length → w.cell? ⟨g, j, none⟩ = (xs.map f)[j]? := own_at h.1 hn
theorem OwnOnes.put {α : Type} {t : TypeId} {bytes : Nat} {f : α → Value} {w : World} {base g c n : Nat} {xs : List α} (h : OwnOnes t bytes f w base (.slice (some ⟨g, 0, none⟩) n c) xs) (j : Nat) (x : α) :
    OwnOnes t bytes f (w.setCell ⟨g, j, none⟩ (f x)) base (.slice (some ⟨g, 0, none⟩) n c) (xs.set j x) := by
  have hn : n = xs.length := by
    obtain ⟨⟨A, c', e, _⟩, _⟩ := h.is
    cases e
    rfl
  subst hn
  refine ⟨?_, by simpa using h.2⟩
  rw [List.length_set, List.map_set]
  exact own_put h.1 j _
theorem OwnOnes.far {α : Type} {t : TypeId} {bytes : Nat} {f : α → Value} {w : World} {base : Nat} {v : Value} {xs : List α} (h : OwnOnes t bytes f w base v xs) {p : Addr} (hp : v.ownBlock ≠ some p.block) (u : Value) : OwnOnes t bytes f (w.setCell p u) base v xs := ⟨own_far h.1 hp u, h.2⟩
/-- Wants[j] is set. -/
theorem Work.want {w : World} {base gw gr g c n : Nat} {r : Scu.Replica} {lu hv gv nv ov : Value} {ms : List Scu.Message} {css : List (List Value)} (h : Work w base gw gr r lu hv (.slice (some ⟨g, 0, none⟩) n c) gv nv ov ms css) {cur : Array Value} (hB : Blk w g 4 cur) (hg : base ≤ g) (j : Nat) (b : Bool) :
    Work (w.setCell ⟨g, j, none⟩ (.bool b)) base gw gr { r with wants := r.wants.set j b } lu hv (.slice (some ⟨g, 0, none⟩) n c) gv nv ov ms css ∧ Below base w (w.setCell ⟨g, j, none⟩ (.bool b)) := by
  have hs : Same [9, 3, 64, 81, 146, 89] 0 w (w.setCell ⟨g, j, none⟩ (.bool b)) := Same.set_ hB (Nat.zero_le _) (by decide) j _
  obtain ⟨css', hgv⟩ := h.own.giv
  exact ⟨⟨blk_keep h.wb hs (by simp), blk_keep h.rb hs (by simp), ⟨⟨h.own.own.log.same (hs.mono (by simp) (Nat.le_refl _)), h.own.own.have_.same (hs.mono (by simp) (Nat.le_refl _)), h.own.own.wants.put j b, h.own.own.given.far (h.own.own.apart g rfl) _, h.own.own.apart⟩, css', hgv.same (hs.mono (by simp) (Nat.le_refl _))⟩, h.out.same (hs.mono (by simp) (Nat.le_refl _)), h.lw, h.lr⟩,
    (Below.refl base w).setCell (p := ⟨g, j, none⟩) hg _⟩
end Go.Proofs.YtfpiembhlgcelaaDoor
/- Words: a call's work, its rows left open. Walks: all, lead, send. -/
namespace Go.Proofs.YtfpiembhlgcelaaDoor
open Go.RowKit
set_option maxHeartbeats 2000000
set_option maxRecDepth 100000

def WorkE (w : World) (base gw gr : Nat) (r : Scu.Replica) (ms : List Scu.Message) : Prop := ∃ lu hv wv gv nv ov css, Work w base gw gr r lu hv wv gv nv ov ms css
theorem WorkE.below {w w' : World} {base gw gr : Nat} {r : Scu.Replica} {ms : List Scu.Message} (h : WorkE w base gw gr r ms) (hb : Below w.heap.size w w') : WorkE w' base gw gr r ms :=
  let ⟨_, _, _, _, _, _, _, h⟩ := h; ⟨_, _, _, _, _, _, _, h.below hb⟩
theorem Work.e {w : World} {base gw gr : Nat} {r : Scu.Replica} {lu hv wv gv nv ov : Value} {ms : List Scu.Message} {css : List (List Value)} (h : Work w base gw gr r lu hv wv gv nv ov ms css) : WorkE w base gw gr r ms := ⟨_, _, _, _, _, _, _, h⟩
theorem part_toAll (me view : Int) (m : Scu.Message) : partAll me view m 3 = Scu.toAll me view m := rfl
theorem lead_e (w : World) (base gw gr : Nat) (r : Scu.Replica) (ms : List Scu.Message) (hW : WorkE w base gw gr r ms) (hbase : base ≤ w.heap.size) (hm : (ms.length + 4) * 80 ≤ R47) :
    Calls Tryd.prog 77 #[.pointer (some ⟨gw, 0, none⟩)] w fun e w' => e = .returned (.tuple #[]) ∧ WorkE w' base gw gr r (ms ++ Scu.leadOn r) ∧ Below base w w' := by
  obtain ⟨lu, hv, wv, gv, nv, ov, css, hW⟩ := hW
  refine (lead_c w base gw gr r lu hv wv gv nv ov ms css hW hbase hm).mono ?_
  rintro e w' ⟨h1, ⟨ov', css', h2⟩, h3⟩
  exact ⟨h1, h2.e, h3⟩
/-- Messages of one kind without a log, to all others. -/
theorem all_x (k : Int) (w : World) (base gw gr : Nat) (r : Scu.Replica) (lu hv wv gv nv ov : Value) (ms : List Scu.Message) (css : List (List Value)) (hW : Work w base gw gr r lu hv wv gv nv ov ms css) (hbase : base ≤ w.heap.size) (hm : (ms.length + 4) * 80 ≤ R47) :
    Calls Tryd.prog 94 #[.pointer (some ⟨gw, 0, none⟩), .agg #[.int .i64 k, .int .i64 0, .int .i64 0, .int .i64 0, .int .i64 0, .int .i64 0, .int .i64 0, .slice none 0 0]] w fun e w' => e = .returned (.tuple #[]) ∧ (∃ ov' css', Work w' base gw gr r lu hv wv gv nv ov' (ms ++ Scu.toAll r.me r.kept.view { Scu.msg0 with kind := k }) css' ∧ Far w w' ov ov') ∧ Below base w w' :=
  all_c none 0 0 { Scu.msg0 with kind := k } w base gw gr r lu hv wv gv nv ov ms css hW hbase IsStrs.nil_ hm
theorem all_e (k : Int) (w : World) (base gw gr : Nat) (r : Scu.Replica) (ms : List Scu.Message) (hW : WorkE w base gw gr r ms) (hbase : base ≤ w.heap.size) (hm : (ms.length + 4) * 80 ≤ R47) :
    Calls Tryd.prog 94 #[.pointer (some ⟨gw, 0, none⟩), .agg #[.int .i64 k, .int .i64 0, .int .i64 0, .int .i64 0, .int .i64 0, .int .i64 0, .int .i64 0, .slice none 0 0]] w fun e w' => e = .returned (.tuple #[]) ∧ WorkE w' base gw gr r (ms ++ Scu.toAll r.me r.kept.view { Scu.msg0 with kind := k }) ∧ Below base w w' := by
  obtain ⟨lu, hv, wv, gv, nv, ov, css, hW⟩ := hW
  refine (all_c none 0 0 { Scu.msg0 with kind := k } w base gw gr r lu hv wv gv nv ov ms css hW hbase IsStrs.nil_ hm).mono ?_
  rintro e w' ⟨h1, ⟨ov', css', h2, _⟩, h3⟩
  exact ⟨h1, h2.e, h3⟩
theorem send_e (A : Option Addr) (n c : Nat) (m : Scu.Message) (tt : Int) (w : World) (base gw gr : Nat) (r : Scu.Replica) (ms : List Scu.Message) (hW : WorkE w base gw gr r ms) (hbase : base ≤ w.heap.size)
    (hx : IsStrs w 0 (.slice A n c) m.log) (hm : (ms.length + 1) * 80 ≤ R47) (ms' : List Scu.Message) (hms : ms' = if tt = r.me then ms else ms ++ [⟨m.kind, r.me, tt, r.kept.view, m.normal, m.commit, m.n, m.log⟩]) :
    Calls Tryd.prog 96 #[.pointer (some ⟨gw, 0, none⟩), .int .i64 tt, .agg #[.int .i64 m.kind, .int .i64 m.from_, .int .i64 m.to, .int .i64 m.view, .int .i64 m.normal, .int .i64 m.commit, .int .i64 m.n, .slice A n c]] w fun e w' => e = .returned (.tuple #[]) ∧ WorkE w' base gw gr r ms' ∧ Below base w w' := by
  obtain ⟨lu, hv, wv, gv, nv, ov, css, hW⟩ := hW
  subst hms
  by_cases ht : tt = r.me
  · rw [if_pos ht]
    refine (send_1 A n c m tt w base gw gr r lu hv wv gv nv ov ms css hW ht).mono ?_
    rintro e w' ⟨h1, h3⟩
    exact ⟨h1, (hW.below h3).e, h3.mono hbase⟩
  · rw [if_neg ht]
    refine (send_2 A n c m tt w base gw gr r lu hv wv gv nv ov ms css hW hbase ht hx hm).mono ?_
    rintro e w' ⟨h1, ⟨ov', css', h2, _⟩, h3, _⟩
    exact ⟨h1, h2.e, h3⟩
/- texts that lie below a base -/
structure LowStrs (w : World) (base : Nat) (v : Value) (xs : List Scu.Str) : Prop where
  ex : ∃ A c, v = .slice A xs.length c ∧ xs.length ≤ c ∧ (xs = [] ∨ ∃ g o, A = some ⟨g, o, none⟩ ∧ g < base ∧ ∀ (j : Nat) (u : Value), (xs.map Value.string)[j]? = some u → w.cell? ⟨g, o + j, none⟩ = some u)
  len : xs.length * 16 ≤ R47
  each : ∀ s ∈ xs, s.size ≤ R47
theorem LowStrs.of {w : World} {B : Nat} {v : Value} {xs : List Scu.Str} (h : IsStrs w B v xs) : LowStrs w w.heap.size v xs := by
  obtain ⟨⟨A, c, rfl, hc, hr⟩, h2, h3⟩ := h
  refine ⟨⟨A, c, rfl, hc, ?_⟩, h2, h3⟩
  rcases hr with h | ⟨g, o, h1, h2, _, h4⟩
  · exact .inl (by simpa using h)
  · exact .inr ⟨g, o, h1, h2, h4⟩
theorem LowStrs.keep {w w' : World} {base : Nat} {v : Value} {xs : List Scu.Str} (h : LowStrs w base v xs) (hb : Below base w w') : LowStrs w' base v xs := by
  obtain ⟨⟨A, c, rfl, hc, hr⟩, h2, h3⟩ := h
  refine ⟨⟨A, c, rfl, hc, ?_⟩, h2, h3⟩
  rcases hr with h | ⟨g, o, h1, h2, h4⟩
  · exact .inl h
  · exact .inr ⟨g, o, h1, h2, fun j u hj => (hb.cell (p := ⟨g, o + j, none⟩) h2).trans (h4 j u hj)⟩
theorem LowStrs.is {w : World} {base : Nat} {v : Value} {xs : List Scu.Str} (h : LowStrs w base v xs) (hb : base ≤ w.heap.size) : IsStrs w base v xs := by
  obtain ⟨⟨A, c, rfl, hc, hr⟩, h2, h3⟩ := h
  refine ⟨⟨A, c, rfl, hc, ?_⟩, h2, h3⟩
  rcases hr with h | ⟨g, o, h1, h2, h4⟩
  · exact .inl (by simp [h])
  · exact .inr ⟨g, o, h1, by omega, .inl h2, h4⟩
/- a replica's own rows, at three -/
theorem ones3 {α : Type} {t : TypeId} {bytes : Nat} {f : α → Value} {w : World} {base : Nat} {v : Value} {xs : List α} (h : OwnOnes t bytes f w base v xs) (h3 : xs.length = 3) :
    ∃ g c cur, v = .slice (some ⟨g, 0, none⟩) 3 c ∧ base ≤ g ∧ Blk w g t cur ∧ ∀ j, j < 3 → w.cell? ⟨g, j, none⟩ = (xs.map f)[j]? := by
  obtain ⟨g, c, cur, h1, h2, hb, h4⟩ := h.at_ (by omega)
  rw [h3] at h1 h4
  exact ⟨g, c, cur, h1, h2, hb, h4⟩
end Go.Proofs.YtfpiembhlgcelaaDoor
/- Words: cells of a working replica's rows are set; a row is cleared. Walks: work.fresh. -/
namespace Go.Proofs.YtfpiembhlgcelaaDoor
open Go.RowKit
set_option maxHeartbeats 2000000
set_option maxRecDepth 100000

theorem run_clear {P : Program} {t ty e : TypeId} {z : Value} (ht : P.underlying t = some (.slice e)) (hz : ∀ w, (zeroValue e).run P w = .ok z w) (h1 : z.oneCell' = true) (hzc : z.cells = #[z]) (n : Nat) (w : World) (g c : Nat)
    (hc : ∀ j, j < n + 1 → (w.cell? ⟨g, j, none⟩).isSome = true) (hf : ∀ j, w.frozen? ⟨g, j, none⟩ = false) :
    (Builtin.clear_ #[t] ty #[.slice (some ⟨g, 0, none⟩) (n + 1) c]).run P w = .ok (.tuple #[]) (w.setCells g 0 (List.replicate (n + 1) z)) := by
  have hl : (Builtin.zeroCells z.cells (n + 1)).toList = List.replicate (n + 1) z := by
    rw [hzc]
    unfold Builtin.zeroCells
    apply List.ext_getElem
    · simp
    · intro i h2 h3
      simp [Nat.mod_one]
  have hst := run_storeCells_cells (P := P) g 0 (List.replicate (n + 1) z) 0 w (fun j hj => by simpa using hc j (by simpa using hj)) (fun j _ => by simpa using hf j) (fun v hv => by rw [List.eq_of_mem_replicate hv]; exact h1)
  simp [Builtin.clear_, run_underlying ht, hz, Result.andThen, hl, hst]
theorem list_clear {ops : Array Oper} {rest : List Oper} {o : Oper} {a : Act} {w : World} {Q : Exit → Act → World → Prop} (hgd : o.guard = none) (s : Operand) (t : TypeId) (ho : o.op = .call { callee := .builtin .clear, args := #[s], argTypes := #[t] })
    {e : TypeId} {z : Value} (ht : Tryd.prog.underlying t = some (.slice e)) (hz : ∀ w, (zeroValue e).run Tryd.prog w = .ok z w) (h1 : z.oneCell' = true) (hzc : z.cells = #[z]) (n g c : Nat) (hs : a.eval s = .slice (some ⟨g, 0, none⟩) (n + 1) c)
    (hc : ∀ j, j < n + 1 → (w.cell? ⟨g, j, none⟩).isSome = true) (hf : ∀ j, w.frozen? ⟨g, j, none⟩ = false)
    (h : wpList Tryd.prog ops Q rest (a.put o.dst (.tuple #[])) (w.setCells g 0 (List.replicate (n + 1) z))) : wpList Tryd.prog ops Q (o :: rest) a w :=
  wpList_plain hgd fun K hK => by
    have hrun := run_clear (P := Tryd.prog) (ty := o.type) ht hz h1 hzc n w g c hc hf
    unfold Oper.wp execOp
    simp only [ho, resolve, invoke, builtin, Sem.run_bind, Sem.run_pure, Result.andThen_ok, List.map_toArray, List.map_cons, List.map_nil, hs, hrun]
    exact hK _ _ h
section
variable {w : World} {base gw gr g c n : Nat} {r : Scu.Replica} {lu hv wv gv nv ov : Value} {ms : List Scu.Message} {css : List (List Value)}
theorem Work.put_have (h : Work w base gw gr r lu (.slice (some ⟨g, 0, none⟩) n c) wv gv nv ov ms css) {cur : Array Value} (hB : Blk w g 3 cur) (hg : base ≤ g) (j : Nat) (x : Int) :
    Work (w.setCell ⟨g, j, none⟩ (.int .i64 x)) base gw gr { r with have_ := r.have_.set j x } lu (.slice (some ⟨g, 0, none⟩) n c) wv gv nv ov ms css ∧ Below base w (w.setCell ⟨g, j, none⟩ (.int .i64 x)) ∧ Blk (w.setCell ⟨g, j, none⟩ (.int .i64 x)) g 3 (cur.setIfInBounds j (.int .i64 x)) := by
  have hs : Same [9, 4, 64, 81, 146, 89] 0 w (w.setCell ⟨g, j, none⟩ (.int .i64 x)) := Same.set_ hB (Nat.zero_le _) (by decide) j _
  obtain ⟨css', hgv⟩ := h.own.giv
  exact ⟨⟨blk_keep h.wb hs (by simp), blk_keep h.rb hs (by simp), ⟨⟨h.own.own.log.same (hs.mono (by simp) (Nat.le_refl _)), h.own.own.have_.put j x, h.own.own.wants.same (hs.mono (by simp) (Nat.le_refl _)), h.own.own.given.same (hs.mono (by simp) (Nat.le_refl _)), h.own.own.apart⟩, css', hgv.same (hs.mono (by simp) (Nat.le_refl _))⟩, h.out.same (hs.mono (by simp) (Nat.le_refl _)), h.lw, h.lr⟩,
    (Below.refl base w).setCell (p := ⟨g, j, none⟩) hg _, hB.set_ j _⟩
theorem Work.put_wants (h : Work w base gw gr r lu hv (.slice (some ⟨g, 0, none⟩) n c) gv nv ov ms css) {cur : Array Value} (hB : Blk w g 4 cur) (hg : base ≤ g) (j : Nat) (b : Bool) :
    Work (w.setCell ⟨g, j, none⟩ (.bool b)) base gw gr { r with wants := r.wants.set j b } lu hv (.slice (some ⟨g, 0, none⟩) n c) gv nv ov ms css ∧ Below base w (w.setCell ⟨g, j, none⟩ (.bool b)) ∧ Blk (w.setCell ⟨g, j, none⟩ (.bool b)) g 4 (cur.setIfInBounds j (.bool b)) :=
  ⟨(h.want hB hg j b).1, (h.want hB hg j b).2, hB.set_ j _⟩
theorem Work.put_given (h : Work w base gw gr r lu hv wv gv (.slice (some ⟨g, 0, none⟩) n c) ov ms css) {cur : Array Value} (hB : Blk w g 4 cur) (hg : base ≤ g) (j : Nat) (b : Bool) :
    Work (w.setCell ⟨g, j, none⟩ (.bool b)) base gw gr { r with given := r.given.set j b } lu hv wv gv (.slice (some ⟨g, 0, none⟩) n c) ov ms css ∧ Below base w (w.setCell ⟨g, j, none⟩ (.bool b)) ∧ Blk (w.setCell ⟨g, j, none⟩ (.bool b)) g 4 (cur.setIfInBounds j (.bool b)) := by
  have hs : Same [9, 3, 64, 81, 146, 89] 0 w (w.setCell ⟨g, j, none⟩ (.bool b)) := Same.set_ hB (Nat.zero_le _) (by decide) j _
  obtain ⟨css', hgv⟩ := h.own.giv
  exact ⟨⟨blk_keep h.wb hs (by simp), blk_keep h.rb hs (by simp), ⟨⟨h.own.own.log.same (hs.mono (by simp) (Nat.le_refl _)), h.own.own.have_.same (hs.mono (by simp) (Nat.le_refl _)), h.own.own.wants.far (fun e => h.own.own.apart g e rfl) _, h.own.own.given.put j b, h.own.own.apart⟩, css', hgv.same (hs.mono (by simp) (Nat.le_refl _))⟩, h.out.same (hs.mono (by simp) (Nat.le_refl _)), h.lw, h.lr⟩,
    (Below.refl base w).setCell (p := ⟨g, j, none⟩) hg _, hB.set_ j _⟩
theorem set3 {α : Type} {l : List α} (h : l.length = 3) (x : α) : ((l.set 0 x).set 1 x).set 2 x = [x, x, x] := by
  match l, h with
  | [a, b, c], _ => rfl
theorem Work.clear_have (h : Work w base gw gr r lu (.slice (some ⟨g, 0, none⟩) n c) wv gv nv ov ms css) {cur : Array Value} (hB : Blk w g 3 cur) (hg : base ≤ g) (h3 : r.have_.length = 3) :
    Work (w.setCells g 0 (List.replicate 3 (.int .i64 0))) base gw gr { r with have_ := [0, 0, 0] } lu (.slice (some ⟨g, 0, none⟩) n c) wv gv nv ov ms css ∧ Below base w (w.setCells g 0 (List.replicate 3 (.int .i64 0))) := by
  obtain ⟨a1, a2, a3⟩ := h.put_have hB hg 0 0
  obtain ⟨b1, b2, b3⟩ := a1.put_have a3 hg 1 0
  obtain ⟨c1, c2, c3⟩ := b1.put_have b3 hg 2 0
  rw [← set3 h3 0]
  exact ⟨c1, (a2.trans b2).trans c2⟩
theorem Work.clear_wants (h : Work w base gw gr r lu hv (.slice (some ⟨g, 0, none⟩) n c) gv nv ov ms css) {cur : Array Value} (hB : Blk w g 4 cur) (hg : base ≤ g) (h3 : r.wants.length = 3) :
    Work (w.setCells g 0 (List.replicate 3 (.bool false))) base gw gr { r with wants := [false, false, false] } lu hv (.slice (some ⟨g, 0, none⟩) n c) gv nv ov ms css ∧ Below base w (w.setCells g 0 (List.replicate 3 (.bool false))) := by
  obtain ⟨a1, a2, a3⟩ := h.put_wants hB hg 0 false
  obtain ⟨b1, b2, b3⟩ := a1.put_wants a3 hg 1 false
  obtain ⟨c1, c2, c3⟩ := b1.put_wants b3 hg 2 false
  rw [← set3 h3 false]
  exact ⟨c1, (a2.trans b2).trans c2⟩
theorem Work.clear_given (h : Work w base gw gr r lu hv wv gv (.slice (some ⟨g, 0, none⟩) n c) ov ms css) {cur : Array Value} (hB : Blk w g 4 cur) (hg : base ≤ g) (h3 : r.given.length = 3) :
    Work (w.setCells g 0 (List.replicate 3 (.bool false))) base gw gr { r with given := [false, false, false] } lu hv wv gv (.slice (some ⟨g, 0, none⟩) n c) ov ms css ∧ Below base w (w.setCells g 0 (List.replicate 3 (.bool false))) := by
  obtain ⟨a1, a2, a3⟩ := h.put_given hB hg 0 false
  obtain ⟨b1, b2, b3⟩ := a1.put_given a3 hg 1 false
  obtain ⟨c1, c2, c3⟩ := b1.put_given b3 hg 2 false
  rw [← set3 h3 false]
  exact ⟨c1, (a2.trans b2).trans c2⟩
theorem own_blkm {e : TypeId} {size : Nat} {xs : List Value} (h : Blk w g e xs.toArray) (hb : base ≤ g) (hn : xs.length = n * size) (hm : n ≤ maxLen) : w.ownsRow base e size (.slice (some ⟨g, 0, none⟩) n n) n xs :=
  ⟨hn, .inr ⟨g, n, xs.toArray, rfl, hb, h, Nat.le_refl _, hm, by simp [hn], by rw [← hn]; simp⟩⟩
theorem ones3f {α : Type} {t : TypeId} {bytes : Nat} {f : α → Value} {v : Value} {xs : List α} (h : OwnOnes t bytes f w base v xs) (h3 : xs.length = 3) : ∃ g c, v = .slice (some ⟨g, 0, none⟩) 3 c :=
  let ⟨g, c, _, e, _⟩ := ones3 h h3; ⟨g, c, e⟩
theorem ones3' {α : Type} {t : TypeId} {bytes : Nat} {f : α → Value} {xs : List α} (h : OwnOnes t bytes f w base (.slice (some ⟨g, 0, none⟩) 3 c) xs) (h3 : xs.length = 3) :
    base ≤ g ∧ (∃ cur, Blk w g t cur) ∧ (∀ j, j < 2 + 1 → (w.cell? ⟨g, j, none⟩).isSome = true) ∧ (∀ j, w.frozen? ⟨g, j, none⟩ = false) ∧ ∀ j, j < 3 → w.cell? ⟨g, j, none⟩ = (xs.map f)[j]? := by
  obtain ⟨g', c', cur, h1, h2, hB, h4⟩ := ones3 h h3
  cases h1
  exact ⟨h2, ⟨cur, hB⟩, fun j hj => by rw [h4 j hj, List.getElem?_eq_getElem (by rw [List.length_map, h3]; exact hj)]; rfl, hB.frozen, h4⟩
theorem Same.setCells3 {Ts : List TypeId} {t : TypeId} {cur : Array Value} (hB : Blk w g t cur) (ht : t ∉ Ts) (x y z : Value) : Same Ts 0 w (w.setCells g 0 [x, y, z]) :=
  ((Same.set_ hB (Nat.zero_le _) ht 0 x).trans (Same.set_ (hB.set_ 0 x) (Nat.zero_le _) ht 1 y)).trans (Same.set_ ((hB.set_ 0 x).set_ 1 y) (Nat.zero_le _) ht 2 z)
def zeroK : List Value := [.int .i64 0, .int .i64 0, .bool false, .slice none 0 0, .int .i64 0]
theorem ownKs_zero (h : Blk w g 64 (zeroK ++ (zeroK ++ zeroK)).toArray) (hb : base ≤ g) : OwnKs w base (.slice (some ⟨g, 0, none⟩) 3 3) [Scu.kept0, Scu.kept0, Scu.kept0] [zeroK, zeroK, zeroK] := by
  refine ⟨rfl, ?_, own_blkm (size := 5) (n := 3) (xs := [zeroK, zeroK, zeroK].flatten) (by simpa using h) hb rfl (by decide), ?_, by simp [R47]⟩
  · intro cs hcs
    simp only [List.mem_cons, List.not_mem_nil, or_false, or_self] at hcs
    subst hcs
    rfl
  · intro j cs k h1 h2
    have : cs = zeroK ∧ k = Scu.kept0 := by
      rcases j with _ | _ | _ | j
      · simp at h1 h2; exact ⟨h1.symm, h2.symm⟩
      · simp at h1 h2; exact ⟨h1.symm, h2.symm⟩
      · simp at h1 h2; exact ⟨h1.symm, h2.symm⟩
      · simp at h1
    obtain ⟨rfl, rfl⟩ := this
    exact ⟨.slice none 0 0, rfl, IsStrs.nil_⟩
/-- The replica's block takes another row of what others gave. -/
theorem Work.new_gives (h : Work w base gw gr r lu hv wv gv nv ov ms css) {v : Value} {gs : List Scu.Kept} (hv' : OwnKepts w base v gs) :
    Work (w.setCell ⟨gr, 8, none⟩ v) base gw gr { r with gives := gs } lu hv wv v nv ov ms css ∧ Below base w (w.setCell ⟨gr, 8, none⟩ v) := by
  have hs : Same [9, 3, 4, 64, 146, 89] 0 w (w.setCell ⟨gr, 8, none⟩ v) := Same.set_ h.rb (Nat.zero_le _) (by decide) 8 _
  obtain ⟨css', hgv⟩ := hv'
  exact ⟨⟨blk_keep h.wb hs (by simp), h.rb.set_ 8 v, ⟨(let o := h.own.own.same (hs.mono (by simp) (Nat.le_refl _)); ⟨o.log, o.have_, o.wants, o.given, o.apart⟩), css', hgv.same (hs.mono (by simp) (Nat.le_refl _))⟩, h.out.same (hs.mono (by simp) (Nat.le_refl _)), h.lw, h.lr⟩, (Below.refl base w).setCell (p := ⟨gr, 8, none⟩) h.lr _⟩
/-- One cell of the replica's own block is set. -/
theorem Work.rcell (h : Work w base gw gr r lu hv wv gv nv ov ms css) (i : Nat) (u : Value) :
    (∀ g' t cs, t ≠ 81 → Blk w g' t cs → Blk (w.setCell ⟨gr, i, none⟩ u) g' t cs) ∧ OwnRep (w.setCell ⟨gr, i, none⟩ u) base lu hv wv gv nv r ∧ OwnMs (w.setCell ⟨gr, i, none⟩ u) base ov ms css ∧ Below base w (w.setCell ⟨gr, i, none⟩ u) := by
  have hs : Same [9, 3, 4, 64, 146, 89] 0 w (w.setCell ⟨gr, i, none⟩ u) := Same.set_ h.rb (Nat.zero_le _) (by decide) i _
  refine ⟨fun g' t cs ht hB => (Below.heap_setCell w ⟨gr, i, none⟩ u g' (fun e => ?_)).trans hB, h.own.same (hs.mono (by simp) (Nat.le_refl _)), h.out.same (hs.mono (by simp) (Nat.le_refl _)), (Below.refl base w).setCell (p := ⟨gr, i, none⟩) h.lr _⟩
  have hr := h.rb
  subst e
  unfold Blk at hB hr
  rw [hr] at hB
  cases hB
  exact ht rfl
theorem Work.set_view (h : Work w base gw gr r lu hv wv gv nv ov ms css) (x : Int) : Work (w.setCell ⟨gr, 1, none⟩ (.int .i64 x)) base gw gr { r with kept := { r.kept with view := x } } lu hv wv gv nv ov ms css :=
  let ⟨a, b, c, _⟩ := h.rcell 1 (.int .i64 x)
  ⟨a _ _ _ (by decide) h.wb, h.rb.set_ 1 _, ⟨⟨b.own.log, b.own.have_, b.own.wants, b.own.given, b.own.apart⟩, b.giv⟩, c, h.lw, h.lr⟩
theorem Work.set_normal (h : Work w base gw gr r lu hv wv gv nv ov ms css) (x : Int) : Work (w.setCell ⟨gr, 2, none⟩ (.int .i64 x)) base gw gr { r with kept := { r.kept with normal := x } } lu hv wv gv nv ov ms css :=
  let ⟨a, b, c, _⟩ := h.rcell 2 (.int .i64 x)
  ⟨a _ _ _ (by decide) h.wb, h.rb.set_ 2 _, ⟨⟨b.own.log, b.own.have_, b.own.wants, b.own.given, b.own.apart⟩, b.giv⟩, c, h.lw, h.lr⟩
theorem Work.set_calm (h : Work w base gw gr r lu hv wv gv nv ov ms css) (x : Bool) : Work (w.setCell ⟨gr, 3, none⟩ (.bool x)) base gw gr { r with kept := { r.kept with calm := x } } lu hv wv gv nv ov ms css :=
  let ⟨a, b, c, _⟩ := h.rcell 3 (.bool x)
  ⟨a _ _ _ (by decide) h.wb, h.rb.set_ 3 _, ⟨⟨b.own.log, b.own.have_, b.own.wants, b.own.given, b.own.apart⟩, b.giv⟩, c, h.lw, h.lr⟩
theorem Work.set_commit (h : Work w base gw gr r lu hv wv gv nv ov ms css) (x : Int) : Work (w.setCell ⟨gr, 5, none⟩ (.int .i64 x)) base gw gr { r with kept := { r.kept with commit := x } } lu hv wv gv nv ov ms css :=
  let ⟨a, b, c, _⟩ := h.rcell 5 (.int .i64 x)
  ⟨a _ _ _ (by decide) h.wb, h.rb.set_ 5 _, ⟨⟨b.own.log, b.own.have_, b.own.wants, b.own.given, b.own.apart⟩, b.giv⟩, c, h.lw, h.lr⟩
theorem Work.set_log (h : Work w base gw gr r lu hv wv gv nv ov ms css) {v : Value} {l : List Scu.Str} (hl : OwnStrs w base v l) : Work (w.setCell ⟨gr, 4, none⟩ v) base gw gr { r with kept := { r.kept with log := l } } v hv wv gv nv ov ms css :=
  let ⟨a, b, c, _⟩ := h.rcell 4 v
  ⟨a _ _ _ (by decide) h.wb, h.rb.set_ 4 _, ⟨⟨hl.same (B := 0) (Same.set_ (Ts := [9]) h.rb (Nat.zero_le _) (by decide) 4 _), b.own.have_, b.own.wants, b.own.given, b.own.apart⟩, b.giv⟩, c, h.lw, h.lr⟩
theorem Work.low (h : Work w base gw gr r lu hv wv gv nv ov ms css) (i : Nat) (u : Value) : Below base w (w.setCell ⟨gr, i, none⟩ u) := (Below.refl base w).setCell (p := ⟨gr, i, none⟩) h.lr _
end
theorem blk_ne {w : World} {a b : Nat} {t t' : TypeId} {cs cs' : Array Value} (h : Blk w a t cs) (h' : Blk w b t' cs') (ht : t ≠ t') : a ≠ b := fun e => by
  subst e
  unfold Blk at h h'
  rw [h] at h'
  cases h'
  exact ht rfl
theorem cell_far {w : World} {g i : Nat} {q : Addr} (h : q.block ≠ g) (u : Value) : (w.setCell ⟨g, i, none⟩ u).cell? q = w.cell? q := World.cell?_of_block (Below.heap_setCell w ⟨g, i, none⟩ u q.block h)
theorem cell_far5 {w : World} {g i0 i1 i2 i3 i4 : Nat} {q : Addr} (h : q.block ≠ g) {x0 x1 x2 x3 x4 : Value} :
    (((((w.setCell ⟨g, i0, none⟩ x0).setCell ⟨g, i1, none⟩ x1).setCell ⟨g, i2, none⟩ x2).setCell ⟨g, i3, none⟩ x3).setCell ⟨g, i4, none⟩ x4).cell? q = w.cell? q := by
  rw [cell_far h, cell_far h, cell_far h, cell_far h, cell_far h]
/- one of what others gave is set -/
theorem own_putm {w : World} {base size n g c : Nat} {e : TypeId} {xs : List Value} (h : w.ownsRow base e size (.slice (some ⟨g, 0, none⟩) n c) n xs) (j : Nat) (u : Value) :
    (w.setCell ⟨g, j, none⟩ u).ownsRow base e size (.slice (some ⟨g, 0, none⟩) n c) n (xs.set j u) := by
  obtain ⟨hl, ⟨h0, _⟩ | ⟨g', cap, cur, e1, hb, hh, hnc, hm, hcs, ht⟩⟩ := h
  · cases h0
  · cases e1
    have hB : Blk w g e cur := hh
    refine ⟨by simp [hl], .inr ⟨g, c, cur.setIfInBounds j u, rfl, hb, hB.set_ j u, hnc, hm, by simpa using hcs, ?_⟩⟩
    rw [Array.toList_setIfInBounds, List.take_set, ht]
theorem own_blk? {w : World} {base size n m g c : Nat} {e : TypeId} {xs : List Value} (h : w.ownsRow base e size (.slice (some ⟨g, 0, none⟩) m c) n xs) : base ≤ g ∧ ∃ cur, Blk w g e cur := by
  obtain ⟨hl, ⟨h0, _⟩ | ⟨g', cap, cur, e1, hb, hh, hnc, hm, hcs, ht⟩⟩ := h
  · cases h0
  · cases e1
    exact ⟨hb, cur, hh⟩
theorem flat_set5 {css : List (List Value)} (h5 : ∀ cs ∈ css, cs.length = 5) (i : Nat) (hi : i < css.length) (x0 x1 x2 x3 x4 : Value) :
    (css.set i [x0, x1, x2, x3, x4]).flatten = ((((css.flatten.set (i * 5) x0).set (i * 5 + 1) x1).set (i * 5 + 2) x2).set (i * 5 + 3) x3).set (i * 5 + 4) x4 := by
  induction css generalizing i with
  | nil => cases hi
  | cons a css ih =>
    have ha := h5 a List.mem_cons_self
    match a, ha with
    | [a0, a1, a2, a3, a4], _ =>
      cases i with
      | zero => rfl
      | succ i =>
        have := ih (fun cs hcs => h5 cs (List.mem_cons_of_mem _ hcs)) i (by simpa using hi)
        simp only [List.set_cons_succ, List.flatten_cons, this]
        simp only [show (i + 1) * 5 = i * 5 + 5 by omega, show i * 5 + 5 + 1 = i * 5 + 1 + 5 by omega, show i * 5 + 5 + 2 = i * 5 + 2 + 5 by omega, show i * 5 + 5 + 3 = i * 5 + 3 + 5 by omega, show i * 5 + 5 + 4 = i * 5 + 4 + 5 by omega]
        rfl
theorem Same.set5 {Ts : List TypeId} {w : World} {g : Nat} {t : TypeId} {cur : Array Value} (h : Blk w g t cur) (ht : t ∉ Ts) (i0 i1 i2 i3 i4 : Nat) (x0 x1 x2 x3 x4 : Value) :
    Same Ts 0 w (((((w.setCell ⟨g, i0, none⟩ x0).setCell ⟨g, i1, none⟩ x1).setCell ⟨g, i2, none⟩ x2).setCell ⟨g, i3, none⟩ x3).setCell ⟨g, i4, none⟩ x4) :=
  ((((Same.set_ h (Nat.zero_le _) ht i0 x0).trans (Same.set_ (h.set_ i0 x0) (Nat.zero_le _) ht i1 x1)).trans (Same.set_ ((h.set_ i0 x0).set_ i1 x1) (Nat.zero_le _) ht i2 x2)).trans
    (Same.set_ (((h.set_ i0 x0).set_ i1 x1).set_ i2 x2) (Nat.zero_le _) ht i3 x3)).trans (Same.set_ ((((h.set_ i0 x0).set_ i1 x1).set_ i2 x2).set_ i3 x3) (Nat.zero_le _) ht i4 x4)
theorem OwnKs.put {w : World} {base g c n i : Nat} {gs : List Scu.Kept} {css : List (List Value)} (h : OwnKs w base (.slice (some ⟨g, 0, none⟩) n c) gs css) (hi : i < gs.length) {k : Scu.Kept} {lx : Value} (hx : IsStrs w 0 lx k.log) :
    OwnKs (((((w.setCell ⟨g, i * 5, none⟩ (.int .i64 k.view)).setCell ⟨g, i * 5 + 1, none⟩ (.int .i64 k.normal)).setCell ⟨g, i * 5 + 2, none⟩ (.bool k.calm)).setCell ⟨g, i * 5 + 3, none⟩ lx).setCell ⟨g, i * 5 + 4, none⟩ (.int .i64 k.commit)) base (.slice (some ⟨g, 0, none⟩) n c) (gs.set i k) (css.set i (keptV k lx)) := by
  have hn : n = gs.length := by
    obtain ⟨A, c', e, _⟩ := rd_own h.row
    cases e
    rfl
  subst hn
  obtain ⟨hb, cur, hB⟩ := own_blk? h.row
  have hs : Same [9] 0 w (((((w.setCell ⟨g, i * 5, none⟩ (.int .i64 k.view)).setCell ⟨g, i * 5 + 1, none⟩ (.int .i64 k.normal)).setCell ⟨g, i * 5 + 2, none⟩ (.bool k.calm)).setCell ⟨g, i * 5 + 3, none⟩ lx).setCell ⟨g, i * 5 + 4, none⟩ (.int .i64 k.commit)) := Same.set5 hB (by decide) _ _ _ _ _ _ _ _ _ _
  refine ⟨by simp [h.len], ?_, ?_, ?_, by simpa using h.max⟩
  · intro cs hcs
    rcases List.mem_or_eq_of_mem_set hcs with h' | rfl
    · exact h.five cs h'
    · rfl
  · rw [List.length_set]
    have := own_putm (own_putm (own_putm (own_putm (own_putm h.row (i * 5) (.int .i64 k.view)) (i * 5 + 1) (.int .i64 k.normal)) (i * 5 + 2) (.bool k.calm)) (i * 5 + 3) lx) (i * 5 + 4) (.int .i64 k.commit)
    rw [← flat_set5 h.five i (by rw [h.len]; exact hi)] at this
    exact this
  · intro j cs x h1 h2
    by_cases hj : j = i
    · subst hj
      rw [List.getElem?_set_self (by rw [h.len]; exact hi)] at h1
      rw [List.getElem?_set_self hi] at h2
      cases h1
      cases h2
      exact ⟨lx, rfl, hx.same (by simp) hs⟩
    · rw [List.getElem?_set_ne (fun e => hj e.symm)] at h1 h2
      exact (h.each j cs x h1 h2).same (B := 0) (Ts := [9]) (by simp) hs
theorem OwnKs.cells {w : World} {base g c n : Nat} {gs : List Scu.Kept} {css : List (List Value)} (h : OwnKs w base (.slice (some ⟨g, 0, none⟩) n c) gs css) {i : Nat} (hi : i < gs.length) :
    (∀ j, w.frozen? ⟨g, j, none⟩ = false) ∧ ∃ lv, w.cell? ⟨g, i * 5, none⟩ = some (.int .i64 gs[i].view) ∧ w.cell? ⟨g, i * 5 + 1, none⟩ = some (.int .i64 gs[i].normal) ∧ w.cell? ⟨g, i * 5 + 2, none⟩ = some (.bool gs[i].calm) ∧
      w.cell? ⟨g, i * 5 + 3, none⟩ = some lv ∧ w.cell? ⟨g, i * 5 + 4, none⟩ = some (.int .i64 gs[i].commit) ∧ IsStrs w 0 lv gs[i].log := by
  obtain ⟨hb, cur, hB⟩ := own_blk? h.row
  obtain ⟨A, c', e, _, _, hr, _⟩ := rd_own h.row
  cases e
  obtain ⟨g', o, lv, e, _, h0, h1, h2, h3, h4, h5⟩ := kepts_get h.len h.five hr h.each hi
  cases e
  rw [Nat.zero_add] at h0 h1 h2 h3 h4
  exact ⟨hB.frozen, lv, h0, h1, h2, h3, h4, h5⟩
theorem Work.put_gives {w : World} {base gw gr g c n i : Nat} {r : Scu.Replica} {lu hv wv nv ov : Value} {ms : List Scu.Message} {css : List (List Value)} (h : Work w base gw gr r lu hv wv (.slice (some ⟨g, 0, none⟩) n c) nv ov ms css) (hi : i < r.gives.length) {k : Scu.Kept} {lx : Value} (hx : IsStrs w 0 lx k.log) :
    Work (((((w.setCell ⟨g, i * 5, none⟩ (.int .i64 k.view)).setCell ⟨g, i * 5 + 1, none⟩ (.int .i64 k.normal)).setCell ⟨g, i * 5 + 2, none⟩ (.bool k.calm)).setCell ⟨g, i * 5 + 3, none⟩ lx).setCell ⟨g, i * 5 + 4, none⟩ (.int .i64 k.commit)) base gw gr { r with gives := r.gives.set i k } lu hv wv (.slice (some ⟨g, 0, none⟩) n c) nv ov ms css ∧ Below base w (((((w.setCell ⟨g, i * 5, none⟩ (.int .i64 k.view)).setCell ⟨g, i * 5 + 1, none⟩ (.int .i64 k.normal)).setCell ⟨g, i * 5 + 2, none⟩ (.bool k.calm)).setCell ⟨g, i * 5 + 3, none⟩ lx).setCell ⟨g, i * 5 + 4, none⟩ (.int .i64 k.commit)) := by
  obtain ⟨css', hgv⟩ := h.own.giv
  obtain ⟨hb, cur, hB⟩ := own_blk? hgv.row
  have hs : Same [9, 3, 4, 81, 146, 89] 0 w (((((w.setCell ⟨g, i * 5, none⟩ (.int .i64 k.view)).setCell ⟨g, i * 5 + 1, none⟩ (.int .i64 k.normal)).setCell ⟨g, i * 5 + 2, none⟩ (.bool k.calm)).setCell ⟨g, i * 5 + 3, none⟩ lx).setCell ⟨g, i * 5 + 4, none⟩ (.int .i64 k.commit)) := Same.set5 hB (by decide) _ _ _ _ _ _ _ _ _ _
  refine ⟨⟨blk_keep h.wb hs (by simp), blk_keep h.rb hs (by simp), ⟨(let o := h.own.own.same (hs.mono (by simp) (Nat.le_refl _)); ⟨o.log, o.have_, o.wants, o.given, o.apart⟩), _, hgv.put hi hx⟩, h.out.same (hs.mono (by simp) (Nat.le_refl _)), h.lw, h.lr⟩, ?_⟩
  exact ((((Below.refl base w).setCell (p := ⟨g, _, none⟩) hb _).setCell (p := ⟨g, _, none⟩) hb _).setCell (p := ⟨g, _, none⟩) hb _).setCell (p := ⟨g, _, none⟩) hb _ |>.setCell (p := ⟨g, _, none⟩) hb _
/-- A box of the call's own, of the type of what is given, takes other cells. -/
theorem blk_set5 {w : World} {gb : Nat} {t : TypeId} {a0 a1 a2 a3 a4 b0 b1 b2 b3 b4 : Value} (h : Blk w gb t #[b0, b1, b2, b3, b4]) : Blk (((((w.setCell ⟨gb, 0, none⟩ a0).setCell ⟨gb, 1, none⟩ a1).setCell ⟨gb, 2, none⟩ a2).setCell ⟨gb, 3, none⟩ a3).setCell ⟨gb, 4, none⟩ a4) gb t #[a0, a1, a2, a3, a4] := by
  have h0 : Blk _ gb t #[a0, b1, b2, b3, b4] := h.set_ 0 a0
  have h1 : Blk _ gb t #[a0, a1, b2, b3, b4] := h0.set_ 1 a1
  have h2 : Blk _ gb t #[a0, a1, a2, b3, b4] := h1.set_ 2 a2
  have h3 : Blk _ gb t #[a0, a1, a2, a3, b4] := h2.set_ 3 a3
  have h4 : Blk _ gb t #[a0, a1, a2, a3, a4] := h3.set_ 4 a4
  exact h4
theorem Work.box5 {w : World} {base gw gr gb gg cg n : Nat} {r : Scu.Replica} {lu hv wv nv ov : Value} {ms : List Scu.Message} {css : List (List Value)} (h : Work w base gw gr r lu hv wv (.slice (some ⟨gg, 0, none⟩) n cg) nv ov ms css)
    {a0 a1 a2 a3 a4 b0 b1 b2 b3 b4 : Value} (hB : Blk w gb 64 #[b0, b1, b2, b3, b4]) (hne : gb ≠ gg) (hb : base ≤ gb) :
    Work (((((w.setCell ⟨gb, 0, none⟩ a0).setCell ⟨gb, 1, none⟩ a1).setCell ⟨gb, 2, none⟩ a2).setCell ⟨gb, 3, none⟩ a3).setCell ⟨gb, 4, none⟩ a4) base gw gr r lu hv wv (.slice (some ⟨gg, 0, none⟩) n cg) nv ov ms css ∧ Below base w (((((w.setCell ⟨gb, 0, none⟩ a0).setCell ⟨gb, 1, none⟩ a1).setCell ⟨gb, 2, none⟩ a2).setCell ⟨gb, 3, none⟩ a3).setCell ⟨gb, 4, none⟩ a4) ∧ Blk (((((w.setCell ⟨gb, 0, none⟩ a0).setCell ⟨gb, 1, none⟩ a1).setCell ⟨gb, 2, none⟩ a2).setCell ⟨gb, 3, none⟩ a3).setCell ⟨gb, 4, none⟩ a4) gb 64 #[a0, a1, a2, a3, a4] ∧ Same [9, 3, 4] 0 w (((((w.setCell ⟨gb, 0, none⟩ a0).setCell ⟨gb, 1, none⟩ a1).setCell ⟨gb, 2, none⟩ a2).setCell ⟨gb, 3, none⟩ a3).setCell ⟨gb, 4, none⟩ a4) := by
  have hs : Same [9, 3, 4, 81, 146, 89] 0 w (((((w.setCell ⟨gb, 0, none⟩ a0).setCell ⟨gb, 1, none⟩ a1).setCell ⟨gb, 2, none⟩ a2).setCell ⟨gb, 3, none⟩ a3).setCell ⟨gb, 4, none⟩ a4) := Same.set5 hB (by decide) _ _ _ _ _ _ _ _ _ _
  obtain ⟨css', hgv⟩ := h.own.giv
  have hq : ∀ i, (Value.slice (some ⟨gg, 0, none⟩) n cg).ownBlock ≠ some (⟨gb, i, none⟩ : Addr).block := fun i e => by
    simp only [Value.ownBlock, Option.some.injEq] at e
    exact hne e.symm
  refine ⟨⟨blk_keep h.wb hs (by simp), blk_keep h.rb hs (by simp), ⟨(let o := h.own.own.same (hs.mono (by simp) (Nat.le_refl _)); ⟨o.log, o.have_, o.wants, o.given, o.apart⟩), css', ?_⟩, h.out.same (hs.mono (by simp) (Nat.le_refl _)), h.lw, h.lr⟩, ?_, blk_set5 hB, hs.mono (by simp) (Nat.le_refl _)⟩
  · exact ⟨hgv.len, hgv.five, own_far (own_far (own_far (own_far (own_far hgv.row (hq 0) _) (hq 1) _) (hq 2) _) (hq 3) _) (hq 4) _, fun j cs k h1 h2 => (hgv.each j cs k h1 h2).same (B := 0) (Ts := [9]) (by simp) (hs.mono (by simp) (Nat.le_refl _)), hgv.max⟩
  · exact ((((Below.refl base w).setCell (p := ⟨gb, _, none⟩) hb _).setCell (p := ⟨gb, _, none⟩) hb _).setCell (p := ⟨gb, _, none⟩) hb _).setCell (p := ⟨gb, _, none⟩) hb _ |>.setCell (p := ⟨gb, _, none⟩) hb _
/-- Three of each. -/
def Rep3 (r : Scu.Replica) : Prop := r.have_.length = 3 ∧ r.wants.length = 3 ∧ r.gives.length = 3 ∧ r.given.length = 3 ∧ 0 ≤ r.me ∧ r.me < 3
end Go.Proofs.YtfpiembhlgcelaaDoor
/- Walks: work.fresh. -/
namespace Go.Proofs.YtfpiembhlgcelaaDoor
open Go.RowKit
set_option maxHeartbeats 2000000
set_option maxRecDepth 100000

theorem zero_int : ∀ w, (zeroValue 3).run Tryd.prog w = .ok (.int .i64 0) w := fun w => by kernel_rfl
theorem zero_bool : ∀ w, (zeroValue 4).run Tryd.prog w = .ok (.bool false) w := fun w => by kernel_rfl
theorem made_ks (w : World) : (Instr.makeSlice 79 (.int .i64 3) (.int .i64 3)).run Tryd.prog w = .ok (.slice (some ⟨w.heap.size, 0, none⟩) 3 3) (w.alloc (.cells #[.int .i64 0, .int .i64 0, .bool false, .slice none 0 0, .int .i64 0, .int .i64 0, .int .i64 0, .bool false, .slice none 0 0, .int .i64 0, .int .i64 0, .int .i64 0, .bool false, .slice none 0 0, .int .i64 0] 64)) := by kernel_rfl
theorem fresh_c (w : World) (base gw gr : Nat) (r : Scu.Replica) (lu hv wv gv nv ov : Value) (ms : List Scu.Message) (css : List (List Value)) (hW : Work w base gw gr r lu hv wv gv nv ov ms css) (hbase : base ≤ w.heap.size)
    (h1 : r.have_.length = 3) (h2 : r.wants.length = 3) (h3 : r.given.length = 3) :
    Calls Tryd.prog 95 #[.pointer (some ⟨gw, 0, none⟩)] w fun e w' => e = .returned (.tuple #[]) ∧ (∃ gv', Work w' base gw gr (Scu.fresh r) lu hv wv gv' nv ov ms css) ∧ Below base w w' ∧ Same [9, 89] 0 w w' := by
  obtain ⟨g1, c1, rfl⟩ := ones3f hW.own.own.have_ h1
  obtain ⟨g2, c2, rfl⟩ := ones3f hW.own.own.wants h2
  obtain ⟨g3, c3, rfl⟩ := ones3f hW.own.own.given h3
  obtain ⟨hb, ⟨cur, hB⟩, hc, hf, _⟩ := ones3' hW.own.own.have_ h1
  have hN := And.intro (hW.clear_have hB hb h1).1 (And.intro (hW.clear_have hB hb h1).2 (Same.setCells3 (Ts := [9, 89]) hB (by decide) (.int .i64 0) (.int .i64 0) (.int .i64 0)))
  have HN := Lib.hid hN
  have HB := Lib.hid (And.intro hc hf)
  have H3 := Lib.hid (And.intro h1 (And.intro h2 h3))
  have d0 := hW.wb.cell 0
  have d6 := hW.rb.cell 6
  simp only [List.getElem?_toArray, List.getElem?_cons_zero, List.getElem?_cons_succ] at d0 d6
  have dl := hW.wb.lt
  have dm := hW.rb.lt
  clear hW hB hc hf hN h1 h2 h3 hb
  go_enter Tryd.func95, Tryd.ntmps95
  have hrun : (Builtin.clear_ #[77] 0 #[.slice (some ⟨g1, 0, none⟩) 3 c1]).run Tryd.prog w = .ok (.tuple #[]) (w.setCells g1 0 [.int .i64 0, .int .i64 0, .int .i64 0]) := run_clear Tryd.underlying77 zero_int rfl rfl 2 w g1 c1 HB.out.1 HB.out.2
  go_upto_region 1 with fail
  clear hrun
  obtain ⟨W1, hW1⟩ : ∃ W, W = w.setCells g1 0 [.int .i64 0, .int .i64 0, .int .i64 0] := ⟨_, rfl⟩
  have HN1 := Lib.hid (hW1 ▸ HN.out : Work W1 base gw gr _ _ _ _ _ _ _ _ _ ∧ Below base w W1 ∧ Same [9, 89] 0 w W1)
  rw [← hW1]
  clear hW1 HN HB d0 d6 dl dm
  obtain ⟨hb, ⟨cur, hB⟩, hc, hf, _⟩ := ones3' HN1.out.1.own.own.wants H3.out.2.1
  have HN := Lib.hid (And.intro (HN1.out.1.clear_wants hB hb H3.out.2.1).1 (And.intro (HN1.out.1.clear_wants hB hb H3.out.2.1).2 (Same.setCells3 (Ts := [9, 89]) hB (by decide) (.bool false) (.bool false) (.bool false))))
  have HB := Lib.hid (And.intro hc hf)
  have d0 := HN1.out.1.wb.cell 0
  have d7 := HN1.out.1.rb.cell 7
  simp only [List.getElem?_toArray, List.getElem?_cons_zero, List.getElem?_cons_succ] at d0 d7
  have dl := HN1.out.1.wb.lt
  have dm := HN1.out.1.rb.lt
  clear hB hc hf hb
  have hrun : (Builtin.clear_ #[78] 0 #[.slice (some ⟨g2, 0, none⟩) 3 c2]).run Tryd.prog W1 = .ok (.tuple #[]) (W1.setCells g2 0 [.bool false, .bool false, .bool false]) := run_clear Tryd.underlying78 zero_bool rfl rfl 2 W1 g2 c2 HB.out.1 HB.out.2
  go_upto_region 2 with fail
  clear hrun
  obtain ⟨W2, hW2⟩ : ∃ W, W = W1.setCells g2 0 [.bool false, .bool false, .bool false] := ⟨_, rfl⟩
  have HN2 := Lib.hid (hW2 ▸ HN.out : Work W2 base gw gr _ _ _ _ _ _ _ _ _ ∧ Below base W1 W2 ∧ Same [9, 89] 0 W1 W2)
  rw [← hW2]
  clear hW2 HN HB d0 d7 dl dm
  obtain ⟨hb, ⟨cur, hB⟩, hc, hf, _⟩ := ones3' HN2.out.1.own.own.given H3.out.2.2
  have HN := Lib.hid (And.intro (HN2.out.1.clear_given hB hb H3.out.2.2).1 (And.intro (HN2.out.1.clear_given hB hb H3.out.2.2).2 (Same.setCells3 (Ts := [9, 89]) hB (by decide) (.bool false) (.bool false) (.bool false))))
  have HB := Lib.hid (And.intro hc hf)
  have d0 := HN2.out.1.wb.cell 0
  have d9 := HN2.out.1.rb.cell 9
  simp only [List.getElem?_toArray, List.getElem?_cons_zero, List.getElem?_cons_succ] at d0 d9
  have dl := HN2.out.1.wb.lt
  have dm := HN2.out.1.rb.lt
  clear hB hc hf hb
  have hrun : (Builtin.clear_ #[78] 0 #[.slice (some ⟨g3, 0, none⟩) 3 c3]).run Tryd.prog W2 = .ok (.tuple #[]) (W2.setCells g3 0 [.bool false, .bool false, .bool false]) := run_clear Tryd.underlying78 zero_bool rfl rfl 2 W2 g3 c3 HB.out.1 HB.out.2
  go_upto_region 3 with fail
  clear hrun
  obtain ⟨W3, hW3⟩ : ∃ W, W = W2.setCells g3 0 [.bool false, .bool false, .bool false] := ⟨_, rfl⟩
  have HN3 := Lib.hid (hW3 ▸ HN.out : Work W3 base gw gr _ _ _ _ _ _ _ _ _ ∧ Below base W2 W3 ∧ Same [9, 89] 0 W2 W3)
  rw [← hW3]
  clear hW3 HN HB d0 d9 dl dm
  have hsz : base ≤ W3.heap.size := Nat.le_trans (Nat.le_trans (Nat.le_trans hbase HN1.out.2.1.size) HN2.out.2.1.size) HN3.out.2.1.size
  have d0 := HN3.out.1.wb.cell 0
  have d8 := HN3.out.1.rb.cell 8
  simp only [List.getElem?_toArray, List.getElem?_cons_zero, List.getElem?_cons_succ] at d0 d8
  have dz := HN3.out.1.rb.frozen
  have dl := HN3.out.1.wb.lt
  have dm := HN3.out.1.rb.lt
  have HS := Lib.hid hsz
  clear hsz
  have hmk := made_ks W3.drew
  go_wp2_with fail
  go_region
  have hal : Below W3.heap.size W3 (W3.alloc (Obj.cells (zeroK ++ (zeroK ++ zeroK)).toArray 64)) := below_alloc _ _
  have hn := (HN3.out.1.below hal).new_gives (v := .slice (some ⟨W3.heap.size, 0, none⟩) 3 3) (gs := [Scu.kept0, Scu.kept0, Scu.kept0]) ⟨_, ownKs_zero (Blk.new W3 _ _) HS.out⟩
  have hs4 : Same [9, 89] 0 W3 ((W3.alloc (Obj.cells (zeroK ++ (zeroK ++ zeroK)).toArray 64)).setCell ⟨gr, 8, none⟩ (.slice (some ⟨W3.heap.size, 0, none⟩) 3 3)) := (Same.below hal).trans (Same.set_ (HN3.out.1.below hal).rb (Nat.zero_le _) (by decide) 8 _)
  have hn := And.intro hn hs4
  rw [World.setCell_alloc_past (w := W3) (n := gr) (i := 8) (hn := dm)] at hn
  have HN := Lib.hid hn
  clear hn d0 d8 dz dl dm hmk
  go_wp2
  go_end0
  refine ⟨rfl, ⟨_, HN.out.1.1.below (Below.refl _ _).drew⟩, (((HN1.out.2.1.trans HN2.out.2.1).trans HN3.out.2.1).trans ((hal.mono HS.out).trans HN.out.1.2)).drew, ?_⟩
  exact (((HN1.out.2.2.trans HN2.out.2.2).trans HN3.out.2.2).trans HN.out.2).trans (Same.drew _)
theorem fresh_e (w : World) (base gw gr : Nat) (r : Scu.Replica) (ms : List Scu.Message) (hW : WorkE w base gw gr r ms) (hbase : base ≤ w.heap.size) (h3 : Rep3 r) :
    Calls Tryd.prog 95 #[.pointer (some ⟨gw, 0, none⟩)] w fun e w' => e = .returned (.tuple #[]) ∧ WorkE w' base gw gr (Scu.fresh r) ms ∧ Below base w w' := by
  obtain ⟨lu, hv, wv, gv, nv, ov, css, hW⟩ := hW
  refine (fresh_c w base gw gr r lu hv wv gv nv ov ms css hW hbase h3.1 h3.2.1 h3.2.2.2.1).mono ?_
  rintro e w' ⟨h1, ⟨gv', h2⟩, h3, _⟩
  exact ⟨h1, h2.e, h3⟩
theorem fresh3 {r : Scu.Replica} (h : Rep3 r) : Rep3 (Scu.fresh r) := ⟨rfl, rfl, rfl, rfl, h.2.2.2.2⟩
end Go.Proofs.YtfpiembhlgcelaaDoor

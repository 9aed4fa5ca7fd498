/- Part 3: words and walks under the law 'EntriesBack'. -/
import Derived.Test.YtfpiembhlgcelaaDoorPart2
import Derived.Test.YtfpiembhlgcelaaDoorPart1
import Derived.Lib.AppendIntMem
import Derived.Deep.RegionHeld3
import Derived.Deep.DeepCutAuto
import Derived.IntWalk
import Derived.Deep.MidRow
import Derived.Deep.RegionLaw
set_option linter.unusedVariables false
set_option linter.unusedSimpArgs false
/- Walks: scullingkeep.Op. -/
namespace Go.Proofs.YtfpiembhlgcelaaDoor
set_option linter.unusedVariables false
set_option linter.unusedSimpArgs false
open Go.RowKit
set_option maxHeartbeats 2000000
set_option maxRecDepth 100000

theorem itoa_b (n : Int) (h0 : -9223372036854775808 ≤ n) (h1 : n ≤ 9223372036854775807) (w : World) (ht : Tab w) :
    Calls Tryd.prog 63 #[.int .i64 n] w fun e w' => e = .returned (.string (Scu.numText n)) ∧ Below w.heap.size w w' := by
  refine (Tryd.strconv_Itoa n h0 h1 w ht).mono ?_
  rintro e w' ⟨rfl, k, os, rfl⟩
  exact ⟨rfl, Lib.below_grow _ _ (Nat.le_refl _) _ _⟩
theorem useK {P Q : Prop} (h : P) (k : P → Q) : Q := k h
theorem Tab.drewN {w : World} (h : Tab w) (n : Nat) : Tab (w.drewN n) := h
theorem Tab.drew {w : World} (h : Tab w) : Tab w.drew := h
theorem blk_set4' {W : World} {g : Nat} {t : TypeId} {a0 a1 a2 a3 b0 b1 b2 b3 : Value} (h : Blk W g t #[b0, b1, b2, b3]) : Blk ((((W.setCell ⟨g, 0, none⟩ a0).setCell ⟨g, 1, none⟩ a1).setCell ⟨g, 2, none⟩ a2).setCell ⟨g, 3, none⟩ a3) g t #[a0, a1, a2, a3] :=
  (((h.set_ 0 a0).set_ 1 a1).set_ 2 a2).set_ 3 a3
theorem below_set4' {W w0 : World} {B g : Nat} {a0 a1 a2 a3 : Value} (h : Below B w0 W) (hg : B ≤ g) : Below B w0 ((((W.setCell ⟨g, 0, none⟩ a0).setCell ⟨g, 1, none⟩ a1).setCell ⟨g, 2, none⟩ a2).setCell ⟨g, 3, none⟩ a3) :=
  (((h.setCell (p := ⟨g, 0, none⟩) hg _).setCell (p := ⟨g, 1, none⟩) hg _).setCell (p := ⟨g, 2, none⟩) hg _).setCell (p := ⟨g, 3, none⟩) hg _
theorem kop_1 (r : Scu.Raw) (hr : RawIn r) (h5 : Scu.picked r.kind 12 < 5) (w : World) (ht : Tab w) :
    Calls Tryd.prog 23 #[.agg #[.int .i64 r.kind, .int .i64 r.a, .int .i64 r.b, .int .i64 r.c]] w fun e w' => e = .returned (.agg #[.int .i64 1, .int .i64 (Scu.picked r.a 6), .int .i64 0, .string (Scu.wText (Scu.picked r.b 1000))]) ∧ Below w.heap.size w w' := by
  have hsz : (⟨#[119]⟩ : ByteArray).size + (Scu.numText (Scu.picked r.b 1000)).size ≤ 9223372036854775807 := by
    have h := Scu.picked_lt (n := r.b) (many := 1000) (by decide)
    have := Scu.wText_size h.1 h.2
    unfold Scu.wText at this
    rw [ByteArray.size_append] at this
    omega
  have hadd := fun w => run_string_add_sum (P := Tryd.prog) (w := w) (⟨#[119]⟩ : ByteArray) (Scu.numText (Scu.picked r.b 1000)) hsz
  clear hsz
  obtain ⟨hrk, hra, hrb, hrc⟩ := hr
  have ha := Scu.picked_lt (n := r.a) (many := 6) (by decide)
  have hb := Scu.picked_lt (n := r.b) (many := 1000) (by decide)
  have ha0 := ha.1
  have ha1 := ha.2
  have hb0 := hb.1
  have hb1 := hb.2
  have HT := Lib.hid ht
  clear ha hb ht
  obtain ⟨k, hk⟩ : ∃ k, Scu.picked r.kind 12 = k := ⟨_, rfl⟩
  rw [hk] at h5
  have HK := Lib.hid hk
  have hk0 : 0 ≤ k := by rw [← hk]; exact (Scu.picked_lt (by decide)).1
  clear hk
  go_enter Tryd.func23, Tryd.ntmps23
  go_wp2_with fail
  refine (picked_c _ _ hrk (by decide) (by decide) _).mono ?_; rintro e w' ⟨rfl, rfl⟩
  rw [HK.out]
  go_upto_region 2 with fail
  obtain ⟨Wd, hWd⟩ : ∃ W, W = (w.alloc (Obj.cells #[.int .i64 r.kind, .int .i64 r.a, .int .i64 r.b, .int .i64 r.c] 43)).alloc (Obj.cells #[.int .i64 0, .int .i64 0, .int .i64 0, .string ⟨#[]⟩] 26) := ⟨_, rfl⟩
  rw [← hWd]
  have hbd : Below w.heap.size w Wd := by rw [hWd]; exact (below_alloc w _).alloc (by simp) _
  have hr0 : Blk Wd w.heap.size 43 #[.int .i64 r.kind, .int .i64 r.a, .int .i64 r.b, .int .i64 r.c] := by rw [hWd]; exact (Blk.new w _ _).alloc _
  have hz0 : Blk Wd (w.heap.size + 1) 26 #[.int .i64 0, .int .i64 0, .int .i64 0, .string ⟨#[]⟩] := by rw [hWd]; exact Blk.new' (by simp)
  have HD := Lib.hid (And.intro hbd (And.intro hr0 hz0))
  have c1 := hr0.cell 1
  have c2 := hr0.cell 2
  have z0 := hz0.cell 0
  have z1 := hz0.cell 1
  have z2 := hz0.cell 2
  have z3 := hz0.cell 3
  simp only [List.getElem?_toArray, List.getElem?_cons_zero, List.getElem?_cons_succ] at c1 c2 z0 z1 z2 z3
  have cl := hr0.lt
  have zl := hz0.lt
  have zz := hz0.frozen
  clear hWd hbd hr0 hz0
  go_wp2_with fail
  go_region_held3 (fun w' => w'.cell? ⟨w.heap.size, 1, none⟩ = some (.int .i64 r.a) ∧ w'.cell? ⟨w.heap.size, 2, none⟩ = some (.int .i64 r.b))
    (first | (go_split_ands; (try dsimp only); (repeat' apply And.intro) <;> (with_reducible assumption)) | (go_split_ands; (try dsimp only); exact ⟨c1, c2⟩) | go_keep)
    (first
    | (go_at_call 21; refine (picked_c _ _ ?_ ?_ ?_ _).mono ?_; (first | exact hra | exact hrb | exact hrk); decide; decide; rintro e w' ⟨rfl, rfl⟩)
    | (go_at_call 63; refine (itoa_b (Scu.picked r.b 1000) (Int.le_trans (by decide) hb0) (Int.le_trans (Int.le_of_lt hb1) (by decide)) _ ((HT.out.below HD.out.1).drewN 1)).mono ?_; rintro e x1 ⟨rfl, k1'⟩
       refine useK (P := Below Wd.heap.size Wd x1) ?_ ?_
       exact (below_drewN (Below.refl _ _) 1).trans k1'
       intro nn1
       have M1 := Lib.hid nn1
       have d1 := (nn1.cell (p := ⟨w.heap.size, 1, none⟩) cl).trans c1
       have d2 := (nn1.cell (p := ⟨w.heap.size, 2, none⟩) cl).trans c2
       have hz1 := HD.out.2.2.same nn1
       have y0 := hz1.cell 0
       have y1 := hz1.cell 1
       have y2 := hz1.cell 2
       have y3 := hz1.cell 3
       simp only [List.getElem?_toArray, List.getElem?_cons_zero, List.getElem?_cons_succ] at y0 y1 y2 y3
       have yl := hz1.lt
       have yz := hz1.frozen
       clear nn1 k1' hz1))
  all_goals
    (try (rename_i hHeld; clear hHeld))
    obtain ⟨Wf, hWf⟩ : ∃ W, W = ((((x1.setCell ⟨w.heap.size + 1, 0, none⟩ (.int .i64 1)).setCell ⟨w.heap.size + 1, 1, none⟩ (.int .i64 (Scu.picked r.a 6))).setCell ⟨w.heap.size + 1, 2, none⟩ (.int .i64 0)).setCell ⟨w.heap.size + 1, 3, none⟩ (.string (⟨#[119]⟩ ++ Scu.numText (Scu.picked r.b 1000)))) := ⟨_, rfl⟩
    rw [← hWf]
    have hr5 : Blk Wf (w.heap.size + 1) 26 #[.int .i64 1, .int .i64 (Scu.picked r.a 6), .int .i64 0, .string (⟨#[119]⟩ ++ Scu.numText (Scu.picked r.b 1000))] := by rw [hWf]; exact blk_set4' (HD.out.2.2.same M1.out)
    have HL := Lib.hid (show Below w.heap.size w Wf from by rw [hWf]; exact (below_set4' (HD.out.1.trans (Below.mono M1.out HD.out.1.size)) (Nat.le_succ w.heap.size)))
    have q0 := hr5.cell 0
    have q1 := hr5.cell 1
    have q2 := hr5.cell 2
    have q3 := hr5.cell 3
    simp only [List.getElem?_toArray, List.getElem?_cons_zero, List.getElem?_cons_succ] at q0 q1 q2 q3
    clear hr5 hWf
    go_wp2
    refine bodyPost_ret (v := .agg #[.int .i64 1, .int .i64 (Scu.picked r.a 6), .int .i64 0, .string (⟨#[119]⟩ ++ Scu.numText (Scu.picked r.b 1000))]) (by simp [results, Tryd.results23, go_sem, q0, q1, q2, q3]) rfl ⟨rfl, HL.out⟩
theorem kop_2 (r : Scu.Raw) (hr : RawIn r) (h5 : Scu.picked r.kind 12 = 5) (w : World) (ht : Tab w) :
    Calls Tryd.prog 23 #[.agg #[.int .i64 r.kind, .int .i64 r.a, .int .i64 r.b, .int .i64 r.c]] w fun e w' => e = .returned (.agg #[.int .i64 2, .int .i64 (Scu.picked r.a 6), .int .i64 0, .string Scu.str0]) ∧ Below w.heap.size w w' := by
  obtain ⟨hrk, hra, hrb, hrc⟩ := hr
  have ha := Scu.picked_lt (n := r.a) (many := 6) (by decide)
  have hb := Scu.picked_lt (n := r.b) (many := 1000) (by decide)
  have ha0 := ha.1
  have ha1 := ha.2
  have hb0 := hb.1
  have hb1 := hb.2
  have HT := Lib.hid ht
  clear ha hb ht
  obtain ⟨k, hk⟩ : ∃ k, Scu.picked r.kind 12 = k := ⟨_, rfl⟩
  rw [hk] at h5
  have HK := Lib.hid hk
  have hk0 : 0 ≤ k := by rw [← hk]; exact (Scu.picked_lt (by decide)).1
  clear hk
  go_enter Tryd.func23, Tryd.ntmps23
  go_wp2_with fail
  refine (picked_c _ _ hrk (by decide) (by decide) _).mono ?_; rintro e w' ⟨rfl, rfl⟩
  rw [HK.out]
  go_upto_region 2 with fail
  obtain ⟨Wd, hWd⟩ : ∃ W, W = (w.alloc (Obj.cells #[.int .i64 r.kind, .int .i64 r.a, .int .i64 r.b, .int .i64 r.c] 43)).alloc (Obj.cells #[.int .i64 0, .int .i64 0, .int .i64 0, .string ⟨#[]⟩] 26) := ⟨_, rfl⟩
  rw [← hWd]
  have hbd : Below w.heap.size w Wd := by rw [hWd]; exact (below_alloc w _).alloc (by simp) _
  have hr0 : Blk Wd w.heap.size 43 #[.int .i64 r.kind, .int .i64 r.a, .int .i64 r.b, .int .i64 r.c] := by rw [hWd]; exact (Blk.new w _ _).alloc _
  have hz0 : Blk Wd (w.heap.size + 1) 26 #[.int .i64 0, .int .i64 0, .int .i64 0, .string ⟨#[]⟩] := by rw [hWd]; exact Blk.new' (by simp)
  have HD := Lib.hid (And.intro hbd (And.intro hr0 hz0))
  have c1 := hr0.cell 1
  have c2 := hr0.cell 2
  have z0 := hz0.cell 0
  have z1 := hz0.cell 1
  have z2 := hz0.cell 2
  have z3 := hz0.cell 3
  simp only [List.getElem?_toArray, List.getElem?_cons_zero, List.getElem?_cons_succ] at c1 c2 z0 z1 z2 z3
  have cl := hr0.lt
  have zl := hz0.lt
  have zz := hz0.frozen
  clear hWd hbd hr0 hz0
  subst h5
  go_wp2_with fail
  refine (picked_c _ _ hra (by decide) (by decide) _).mono ?_; rintro e w' ⟨rfl, rfl⟩
  go_wp2_with fail
  obtain ⟨Wf, hWf⟩ : ∃ W, W = ((((Wd.setCell ⟨w.heap.size + 1, 0, none⟩ (.int .i64 2)).setCell ⟨w.heap.size + 1, 1, none⟩ (.int .i64 (Scu.picked r.a 6))).setCell ⟨w.heap.size + 1, 2, none⟩ (.int .i64 0)).setCell ⟨w.heap.size + 1, 3, none⟩ (.string ⟨#[]⟩)) := ⟨_, rfl⟩
  rw [← hWf]
  have hr5 : Blk Wf (w.heap.size + 1) 26 #[.int .i64 2, .int .i64 (Scu.picked r.a 6), .int .i64 0, .string ⟨#[]⟩] := by rw [hWf]; exact blk_set4' (HD.out.2.2.same (Below.refl _ _))
  have HL := Lib.hid (show Below w.heap.size w Wf from by rw [hWf]; exact (below_set4' (HD.out.1.trans (Below.mono (Below.refl _ _) HD.out.1.size)) (Nat.le_succ w.heap.size)))
  have q0 := hr5.cell 0
  have q1 := hr5.cell 1
  have q2 := hr5.cell 2
  have q3 := hr5.cell 3
  simp only [List.getElem?_toArray, List.getElem?_cons_zero, List.getElem?_cons_succ] at q0 q1 q2 q3
  clear hr5 hWf
  go_wp2
  refine bodyPost_ret (v := .agg #[.int .i64 2, .int .i64 (Scu.picked r.a 6), .int .i64 0, .string ⟨#[]⟩]) (by simp [results, Tryd.results23, go_sem, q0, q1, q2, q3]) rfl ⟨rfl, HL.out⟩
theorem kop_3 (r : Scu.Raw) (hr : RawIn r) (h5 : Scu.picked r.kind 12 = 6) (w : World) (ht : Tab w) :
    Calls Tryd.prog 23 #[.agg #[.int .i64 r.kind, .int .i64 r.a, .int .i64 r.b, .int .i64 r.c]] w fun e w' => e = .returned (.agg #[.int .i64 4, .int .i64 0, .int .i64 0, .string Scu.str0]) ∧ Below w.heap.size w w' := by
  obtain ⟨hrk, hra, hrb, hrc⟩ := hr
  have ha := Scu.picked_lt (n := r.a) (many := 6) (by decide)
  have hb := Scu.picked_lt (n := r.b) (many := 1000) (by decide)
  have ha0 := ha.1
  have ha1 := ha.2
  have hb0 := hb.1
  have hb1 := hb.2
  have HT := Lib.hid ht
  clear ha hb ht
  obtain ⟨k, hk⟩ : ∃ k, Scu.picked r.kind 12 = k := ⟨_, rfl⟩
  rw [hk] at h5
  have HK := Lib.hid hk
  have hk0 : 0 ≤ k := by rw [← hk]; exact (Scu.picked_lt (by decide)).1
  clear hk
  go_enter Tryd.func23, Tryd.ntmps23
  go_wp2_with fail
  refine (picked_c _ _ hrk (by decide) (by decide) _).mono ?_; rintro e w' ⟨rfl, rfl⟩
  rw [HK.out]
  go_upto_region 2 with fail
  obtain ⟨Wd, hWd⟩ : ∃ W, W = (w.alloc (Obj.cells #[.int .i64 r.kind, .int .i64 r.a, .int .i64 r.b, .int .i64 r.c] 43)).alloc (Obj.cells #[.int .i64 0, .int .i64 0, .int .i64 0, .string ⟨#[]⟩] 26) := ⟨_, rfl⟩
  rw [← hWd]
  have hbd : Below w.heap.size w Wd := by rw [hWd]; exact (below_alloc w _).alloc (by simp) _
  have hr0 : Blk Wd w.heap.size 43 #[.int .i64 r.kind, .int .i64 r.a, .int .i64 r.b, .int .i64 r.c] := by rw [hWd]; exact (Blk.new w _ _).alloc _
  have hz0 : Blk Wd (w.heap.size + 1) 26 #[.int .i64 0, .int .i64 0, .int .i64 0, .string ⟨#[]⟩] := by rw [hWd]; exact Blk.new' (by simp)
  have HD := Lib.hid (And.intro hbd (And.intro hr0 hz0))
  have c1 := hr0.cell 1
  have c2 := hr0.cell 2
  have z0 := hz0.cell 0
  have z1 := hz0.cell 1
  have z2 := hz0.cell 2
  have z3 := hz0.cell 3
  simp only [List.getElem?_toArray, List.getElem?_cons_zero, List.getElem?_cons_succ] at c1 c2 z0 z1 z2 z3
  have cl := hr0.lt
  have zl := hz0.lt
  have zz := hz0.frozen
  clear hWd hbd hr0 hz0
  subst h5
  go_wp2_with fail
  obtain ⟨Wf, hWf⟩ : ∃ W, W = ((((Wd.setCell ⟨w.heap.size + 1, 0, none⟩ (.int .i64 4)).setCell ⟨w.heap.size + 1, 1, none⟩ (.int .i64 0)).setCell ⟨w.heap.size + 1, 2, none⟩ (.int .i64 0)).setCell ⟨w.heap.size + 1, 3, none⟩ (.string ⟨#[]⟩)) := ⟨_, rfl⟩
  rw [← hWf]
  have hr5 : Blk Wf (w.heap.size + 1) 26 #[.int .i64 4, .int .i64 0, .int .i64 0, .string ⟨#[]⟩] := by rw [hWf]; exact blk_set4' (HD.out.2.2.same (Below.refl _ _))
  have HL := Lib.hid (show Below w.heap.size w Wf from by rw [hWf]; exact (below_set4' (HD.out.1.trans (Below.mono (Below.refl _ _) HD.out.1.size)) (Nat.le_succ w.heap.size)))
  have q0 := hr5.cell 0
  have q1 := hr5.cell 1
  have q2 := hr5.cell 2
  have q3 := hr5.cell 3
  simp only [List.getElem?_toArray, List.getElem?_cons_zero, List.getElem?_cons_succ] at q0 q1 q2 q3
  clear hr5 hWf
  go_wp2
  refine bodyPost_ret (v := .agg #[.int .i64 4, .int .i64 0, .int .i64 0, .string ⟨#[]⟩]) (by simp [results, Tryd.results23, go_sem, q0, q1, q2, q3]) rfl ⟨rfl, HL.out⟩
theorem kop_4 (r : Scu.Raw) (hr : RawIn r) (h5 : 6 < Scu.picked r.kind 12) (w : World) (ht : Tab w) :
    Calls Tryd.prog 23 #[.agg #[.int .i64 r.kind, .int .i64 r.a, .int .i64 r.b, .int .i64 r.c]] w fun e w' => e = .returned (.agg #[.int .i64 3, .int .i64 (Scu.picked r.a 6), .int .i64 (max 0 (Scu.picked r.b 6 - 2)), .string Scu.str0]) ∧ Below w.heap.size w w' := by
  obtain ⟨hrk, hra, hrb, hrc⟩ := hr
  have ha := Scu.picked_lt (n := r.a) (many := 6) (by decide)
  have hb := Scu.picked_lt (n := r.b) (many := 6) (by decide)
  have ha0 := ha.1
  have ha1 := ha.2
  have hb0 := hb.1
  have hb1 := hb.2
  have HT := Lib.hid ht
  clear ha hb ht
  obtain ⟨k, hk⟩ : ∃ k, Scu.picked r.kind 12 = k := ⟨_, rfl⟩
  rw [hk] at h5
  have HK := Lib.hid hk
  have hk0 : 0 ≤ k := by rw [← hk]; exact (Scu.picked_lt (by decide)).1
  clear hk
  go_enter Tryd.func23, Tryd.ntmps23
  go_wp2_with fail
  refine (picked_c _ _ hrk (by decide) (by decide) _).mono ?_; rintro e w' ⟨rfl, rfl⟩
  rw [HK.out]
  go_upto_region 2 with fail
  obtain ⟨Wd, hWd⟩ : ∃ W, W = (w.alloc (Obj.cells #[.int .i64 r.kind, .int .i64 r.a, .int .i64 r.b, .int .i64 r.c] 43)).alloc (Obj.cells #[.int .i64 0, .int .i64 0, .int .i64 0, .string ⟨#[]⟩] 26) := ⟨_, rfl⟩
  rw [← hWd]
  have hbd : Below w.heap.size w Wd := by rw [hWd]; exact (below_alloc w _).alloc (by simp) _
  have hr0 : Blk Wd w.heap.size 43 #[.int .i64 r.kind, .int .i64 r.a, .int .i64 r.b, .int .i64 r.c] := by rw [hWd]; exact (Blk.new w _ _).alloc _
  have hz0 : Blk Wd (w.heap.size + 1) 26 #[.int .i64 0, .int .i64 0, .int .i64 0, .string ⟨#[]⟩] := by rw [hWd]; exact Blk.new' (by simp)
  have HD := Lib.hid (And.intro hbd (And.intro hr0 hz0))
  have c1 := hr0.cell 1
  have c2 := hr0.cell 2
  have z0 := hz0.cell 0
  have z1 := hz0.cell 1
  have z2 := hz0.cell 2
  have z3 := hz0.cell 3
  simp only [List.getElem?_toArray, List.getElem?_cons_zero, List.getElem?_cons_succ] at c1 c2 z0 z1 z2 z3
  have cl := hr0.lt
  have zl := hz0.lt
  have zz := hz0.frozen
  clear hWd hbd hr0 hz0
  have hk5 : ¬ k = 5 := by omega
  have hk6 : ¬ k = 6 := by omega
  have hwr : IntKind.i64.wrap (Scu.picked r.b 6 - 2) = Scu.picked r.b 6 - 2 := IntWalk.i64_in _ (by omega)
  go_wp2_with fail
  go_region_held3 (fun w' => w'.cell? ⟨w.heap.size, 1, none⟩ = some (.int .i64 r.a) ∧ w'.cell? ⟨w.heap.size, 2, none⟩ = some (.int .i64 r.b))
    (first | (go_split_ands; (try dsimp only); (repeat' apply And.intro) <;> (with_reducible assumption)) | (go_split_ands; (try dsimp only); exact ⟨c1, c2⟩) | go_keep)
    (first
    | (go_at_call 21; refine (picked_c _ _ ?_ ?_ ?_ _).mono ?_; (first | exact hra | exact hrb | exact hrk); decide; decide; rintro e w' ⟨rfl, rfl⟩))
  all_goals
    (try (rename_i hHeld; clear hHeld))
    obtain ⟨Wf, hWf⟩ : ∃ W, W = ((((Wd.setCell ⟨w.heap.size + 1, 0, none⟩ (.int .i64 3)).setCell ⟨w.heap.size + 1, 1, none⟩ (.int .i64 (Scu.picked r.a 6))).setCell ⟨w.heap.size + 1, 2, none⟩ (.int .i64 (max 0 (Scu.picked r.b 6 - 2)))).setCell ⟨w.heap.size + 1, 3, none⟩ (.string ⟨#[]⟩)).drew := ⟨_, rfl⟩
    rw [← hWf]
    have hr5 : Blk Wf (w.heap.size + 1) 26 #[.int .i64 3, .int .i64 (Scu.picked r.a 6), .int .i64 (max 0 (Scu.picked r.b 6 - 2)), .string ⟨#[]⟩] := by rw [hWf]; exact blk_set4' (HD.out.2.2.same (Below.refl _ _))
    have HL := Lib.hid (show Below w.heap.size w Wf from by rw [hWf]; exact (below_set4' (HD.out.1.trans (Below.mono (Below.refl _ _) HD.out.1.size)) (Nat.le_succ w.heap.size)).drew)
    have q0 := hr5.cell 0
    have q1 := hr5.cell 1
    have q2 := hr5.cell 2
    have q3 := hr5.cell 3
    simp only [List.getElem?_toArray, List.getElem?_cons_zero, List.getElem?_cons_succ] at q0 q1 q2 q3
    clear hr5 hWf
    go_wp2
    refine bodyPost_ret (v := .agg #[.int .i64 3, .int .i64 (Scu.picked r.a 6), .int .i64 (max 0 (Scu.picked r.b 6 - 2)), .string ⟨#[]⟩]) (by simp [results, Tryd.results23, go_sem, q0, q1, q2, q3]) rfl ⟨rfl, HL.out⟩
theorem kop_c (r : Scu.Raw) (hr : RawIn r) (w : World) (ht : Tab w) :
    Calls Tryd.prog 23 #[.agg #[.int .i64 r.kind, .int .i64 r.a, .int .i64 r.b, .int .i64 r.c]] w fun e w' => e = .returned (vOp (Scu.rawOp r)) ∧ Below w.heap.size w w' := by
  unfold Scu.rawOp
  split
  · exact kop_1 r hr ‹_› w ht
  · split
    · exact kop_2 r hr ‹_› w ht
    · split
      · exact kop_3 r hr ‹_› w ht
      · exact kop_4 r hr (by omega) w ht
theorem kop_o (r : Scu.Raw) (hr : RawIn r) (o : Scu.Op) (ho : Scu.rawOp r = o) (w : World) (ht : Tab w) :
    Calls Tryd.prog 23 #[.agg #[.int .i64 r.kind, .int .i64 r.a, .int .i64 r.b, .int .i64 r.c]] w fun e w' => e = .returned (.agg #[.int .i64 o.kind, .int .i64 o.at_, .int .i64 o.snap, .string o.data]) ∧ Below w.heap.size w w' := by
  have := kop_c r hr w ht
  rw [ho] at this
  exact this
end Go.Proofs.YtfpiembhlgcelaaDoor
/- Words: rows of structs of the call's own, whatever the struct; cells set in one stroke. -/
namespace Go.Proofs.YtfpiembhlgcelaaDoor
set_option linter.unusedVariables false
set_option linter.unusedSimpArgs false
open Go.RowKit
set_option maxHeartbeats 1000000
set_option maxRecDepth 100000

theorem own_putr {w : World} {base size n g c : Nat} {e : TypeId} {xs : List Value} (h : w.ownsRow base e size (.slice (some ⟨g, 0, none⟩) n c) n xs) (j : Nat) (u : Value) :
    (w.setCell ⟨g, j, none⟩ u).ownsRow base e size (.slice (some ⟨g, 0, none⟩) n c) n (xs.set j u) := by
  obtain ⟨hl, ⟨h0, _⟩ | ⟨g', cap, cur, e1, hb, hh, hnc, hm, hcs, ht⟩⟩ := h
  · cases h0
  · cases e1
    have hB : Blk w g e cur := hh
    refine ⟨by simp [hl], .inr ⟨g, c, cur.setIfInBounds j u, rfl, hb, hB.set_ j u, hnc, hm, by simpa using hcs, ?_⟩⟩
    rw [Array.toList_setIfInBounds, List.take_set, ht]
theorem rwm_same {w w' : World} {Ts : List TypeId} {B base : Nat} {e : TypeId} {size n : Nat} {v : Value} {xs : List Value} (h : w.ownsRow base e size v n xs) (ht : e ∈ Ts) (hs : Same Ts B w w') : w'.ownsRow base e size v n xs := by
  obtain ⟨h1, h2 | ⟨g, cap, cur, rfl, h3, h4, h5⟩⟩ := h
  · exact ⟨h1, .inl h2⟩
  · have hlt : g < w.heap.size := by
      rcases Nat.lt_or_ge g w.heap.size with hlt | hge
      · exact hlt
      · rw [Array.getElem?_eq_none hge] at h4; cases h4
    have := hs.keep g hlt (.inr ⟨_, _, _, ht, h4⟩)
    exact ⟨h1, .inr ⟨g, cap, cur, rfl, h3, by rw [this]; exact h4, h5⟩⟩
/- cells set in one stroke -/
def putAt : List Value → Nat → List Value → List Value
  | l, _, [] => l
  | l, o, v :: r => putAt (l.set o v) (o + 1) r
theorem putAt_length : ∀ (vs : List Value) (l : List Value) (o : Nat), (putAt l o vs).length = l.length
  | [], _, _ => rfl
  | v :: r, l, o => by rw [putAt, putAt_length r, List.length_set]
theorem putAt_cons (a : Value) : ∀ (vs : List Value) (l : List Value) (o : Nat), putAt (a :: l) (o + 1) vs = a :: putAt l o vs
  | [], _, _ => rfl
  | v :: r, l, o => by rw [putAt, putAt, List.set_cons_succ, putAt_cons a r]
theorem putAt_left : ∀ (pre : List Value) (vs : List Value) (l : List Value) (o : Nat), putAt (pre ++ l) (pre.length + o) vs = pre ++ putAt l o vs
  | [], vs, l, o => by simp
  | a :: pre, vs, l, o => by
    rw [List.cons_append, List.length_cons, show pre.length + 1 + o = pre.length + o + 1 by omega, putAt_cons, putAt_left pre]
    rfl
theorem putAt_whole : ∀ (vs cs l : List Value), cs.length = vs.length → putAt (cs ++ l) 0 vs = vs ++ l
  | [], cs, l, h => by simp at h; subst h; rfl
  | v :: r, [], l, h => by simp at h
  | v :: r, c :: cs, l, h => by
    rw [putAt, List.cons_append, List.set_cons_zero, putAt_cons, putAt_whole r cs l (by simpa using h)]
    rfl
theorem putAt_flatten {m : Nat} : ∀ {css : List (List Value)} (_ : ∀ cs ∈ css, cs.length = m) (k : Nat) (_ : k < css.length) (vs : List Value) (_ : vs.length = m), putAt css.flatten (k * m) vs = (css.set k vs).flatten
  | [], _, k, hk, _, _ => by cases hk
  | c :: css, h, 0, _, vs, hv => by
    rw [Nat.zero_mul, List.flatten_cons, putAt_whole vs c _ (by rw [h c List.mem_cons_self, hv]), List.set_cons_zero, List.flatten_cons]
  | c :: css, h, k + 1, hk, vs, hv => by
    have hc := h c List.mem_cons_self
    rw [List.flatten_cons, show (k + 1) * m = c.length + k * m by rw [hc, Nat.succ_mul]; omega, putAt_left, List.set_cons_succ, List.flatten_cons,
      putAt_flatten (fun x hx => h x (List.mem_cons_of_mem _ hx)) k (by simpa using hk) vs hv]
section
variable {w w' : World} {base size n g c : Nat} {e t : TypeId} {xs : List Value} {cur : Array Value} {Ts : List TypeId}
theorem own_puts : ∀ (vs : List Value) (o : Nat) (xs : List Value) (w : World), w.ownsRow base e size (.slice (some ⟨g, 0, none⟩) n c) n xs → (w.setCells g o vs).ownsRow base e size (.slice (some ⟨g, 0, none⟩) n c) n (putAt xs o vs)
  | [], _, _, _, h => h
  | v :: r, o, xs, w, h => own_puts r (o + 1) _ _ (own_putr h o v)
theorem blk_sets : ∀ (vs : List Value) (o : Nat) (w : World) (cur : Array Value), Blk w g t cur → ∃ cur', Blk (w.setCells g o vs) g t cur'
  | [], _, _, cur, h => ⟨cur, h⟩
  | v :: r, o, w, cur, h => blk_sets r (o + 1) _ _ (h.set_ o v)
theorem blk_puts : ∀ (vs : List Value) (o : Nat) (w : World) (xs : List Value), Blk w g t xs.toArray → Blk (w.setCells g o vs) g t (putAt xs o vs).toArray
  | [], _, _, _, h => h
  | v :: r, o, w, xs, h => by
    have := h.set_ o v
    rw [List.setIfInBounds_toArray] at this
    exact blk_puts r (o + 1) _ _ this
/-- A whole box is written anew. -/
theorem blk_all {vs xs : List Value} (h : Blk w g t xs.toArray) (hl : xs.length = vs.length) : Blk (w.setCells g 0 vs) g t vs.toArray := by
  have := blk_puts vs 0 w xs h
  have e : putAt xs 0 vs = vs := by
    have := putAt_whole vs xs [] hl
    simpa using this
  rwa [e] at this
theorem Same.sets : ∀ (vs : List Value) (o : Nat) (w : World) (cur : Array Value), Blk w g t cur → t ∉ Ts → Same Ts 0 w (w.setCells g o vs)
  | [], _, w, _, _, _ => Same.refl _ _ _
  | v :: r, o, w, cur, h, ht => (Same.set_ h (Nat.zero_le _) ht o v).trans (Same.sets r (o + 1) _ _ (h.set_ o v) ht)
theorem below_sets {B : Nat} (hB : B ≤ g) : ∀ (vs : List Value) (o : Nat) (w0 w : World), Below B w0 w → Below B w0 (w.setCells g o vs)
  | [], _, _, _, h => h
  | v :: r, o, w0, w, h => below_sets hB r (o + 1) w0 _ (h.setCell (p := ⟨g, o, none⟩) hB v)
theorem size_sets : ∀ (vs : List Value) (o : Nat) (w : World), (w.setCells g o vs).heap.size = w.heap.size
  | [], _, _ => rfl
  | v :: r, o, w => by rw [World.setCells, size_sets r]; simp [World.setCell]
theorem blk_far_sets {g' : Nat} {t' : TypeId} {cs : Array Value} (hne : g' ≠ g) : ∀ (vs : List Value) (o : Nat) (w : World), Blk w g' t' cs → Blk (w.setCells g o vs) g' t' cs
  | [], _, _, h => h
  | v :: r, o, w, h => blk_far_sets hne r (o + 1) _ (h.far (p := ⟨g, o, none⟩) hne v)
theorem Blk.range {xs : List Value} (h : Blk w g t xs.toArray) : w.rangeAt g 0 xs := fun j v hj => by
  rw [Nat.zero_add, h.cell]
  simpa using hj
theorem Blk.there {xs : List Value} (h : Blk w g t xs.toArray) : w.there g 0 xs.length := fun j hj => by
  rw [Nat.zero_add]
  exact ⟨by rw [h.cell]; simp [hj], h.frozen j⟩
end
/-- Structs in a row of the call's own: css the cells of each. -/
structure OwnR {α : Type} (t : TypeId) (size bytes : Nat) (El : World → Nat → List Value → α → Prop) (w : World) (base : Nat) (v : Value) (xs : List α) (css : List (List Value)) : Prop where
  len : css.length = xs.length
  sz : ∀ cs ∈ css, cs.length = size
  row : w.ownsRow base t size v xs.length css.flatten
  each : ∀ (j : Nat) (cs : List Value) (x : α), css[j]? = some cs → xs[j]? = some x → El w 0 cs x
  max : xs.length * bytes ≤ R47
section
variable {α : Type} {t : TypeId} {size bytes : Nat} {El : World → Nat → List Value → α → Prop} {w w' : World} {base base' : Nat} {v : Value} {xs : List α} {css : List (List Value)} {Ts : List TypeId}
theorem OwnR.is (h : OwnR t size bytes El w base v xs css) : IsRow t size bytes El w 0 v xs := by
  obtain ⟨A, c, rfl, hc, _, hr, _⟩ := rd_own h.row
  exact ⟨⟨A, c, css, rfl, hc, h.len, h.sz, hr, h.each⟩, h.max⟩
theorem OwnR.same {B : Nat} (h : OwnR t size bytes El w base v xs css) (ht : t ∈ Ts) (hs : Same Ts B w w') (hel : ∀ cs x, El w 0 cs x → El w' 0 cs x) : OwnR t size bytes El w' base v xs css :=
  ⟨h.len, h.sz, rwm_same h.row ht hs, fun j cs x a b => hel cs x (h.each j cs x a b), h.max⟩
theorem OwnR.base_ (h : OwnR t size bytes El w base v xs css) (hb : base' ≤ base) : OwnR t size bytes El w base' v xs css := ⟨h.len, h.sz, ownsRow_base h.row hb, h.each, h.max⟩
theorem OwnR.nil_ : OwnR t size bytes El w base (.slice none 0 0) [] [] := ⟨rfl, by simp, World.ownsRow_nil _ _ _ _, fun j cs m h => by simp at h, by simp [R47]⟩
theorem OwnR.form (h : OwnR t size bytes El w base v xs css) : ∃ A c, v = .slice A xs.length c := by
  obtain ⟨A, c, e, _⟩ := rd_own h.row
  exact ⟨A, c, e⟩
theorem OwnR.lt (h : OwnR t size bytes El w base v xs css) : ∀ g, v.ownBlock = some g → base ≤ g ∧ g < w.heap.size := h.row.lt
/-- One of the row: where it lies, and what it tells. -/
theorem OwnR.at_ (h : OwnR t size bytes El w base v xs css) {k : Nat} (hk : k < xs.length) : ∃ g c cs, v = .slice (some ⟨g, 0, none⟩) xs.length c ∧ base ≤ g ∧ (∃ cur, Blk w g t cur) ∧ css[k]? = some cs ∧ cs.length = size ∧ El w 0 cs xs[k] ∧ w.rangeAt g (k * size) cs ∧ w.there g (k * size) size := by
  have hkc : k < css.length := by rw [h.len]; exact hk
  have hcs := List.getElem?_eq_getElem hkc
  have hsz := h.sz _ (List.getElem_mem hkc)
  have hel := h.each k _ _ hcs (List.getElem?_eq_getElem hk)
  obtain ⟨hl, ⟨h0, hn⟩ | ⟨g, cap, cur, e, hb, hh, hnc, hm, hcz, ht⟩⟩ := h.row
  · omega
  · have hB : Blk w g t cur := hh
    have hcell : ∀ j, j < size → w.cell? ⟨g, k * size + j, none⟩ = css[k][j]? := fun j hj => by
      have hlt : k * size + j < xs.length * size := by
        calc k * size + j < k * size + size := by omega
          _ = (k + 1) * size := by rw [Nat.succ_mul]
          _ ≤ xs.length * size := Nat.mul_le_mul_right _ hk
      have := flatten_get h.sz hcs j hj
      rw [← ht, List.getElem?_take_of_lt hlt] at this
      rw [hB.cell, ← this]
      simp
    refine ⟨g, cap, css[k], e, hb, ⟨cur, hB⟩, hcs, hsz, hel, fun j u hj => ?_, fun j hj => ⟨?_, hB.frozen _⟩⟩
    · have hjs : j < size := by
        rcases Nat.lt_or_ge j size with h' | h'
        · exact h'
        · rw [List.getElem?_eq_none (by omega)] at hj; cases hj
      rw [hcell j hjs, hj]
    · rw [hcell j hj, List.getElem?_eq_getElem (by omega)]
      rfl
/-- One of the row is set, all its cells in one stroke. -/
theorem OwnR.put {g c n : Nat} (h : OwnR t size bytes El w base (.slice (some ⟨g, 0, none⟩) n c) xs css) {k : Nat} (hk : k < xs.length) {cs : List Value} {x : α} (hcs : cs.length = size) (hx : El w 0 cs x)
    {cs' : List Value} (hel : ∀ cs x, El w 0 cs x → El (w.setCells g (k * size) cs') 0 cs x) (e : cs' = cs) : OwnR t size bytes El (w.setCells g (k * size) cs') base (.slice (some ⟨g, 0, none⟩) n c) (xs.set k x) (css.set k cs) := by
  subst e
  have hn : n = xs.length := by
    obtain ⟨A, c', e, _⟩ := rd_own h.row
    cases e
    rfl
  subst hn
  have hkc : k < css.length := by rw [h.len]; exact hk
  refine ⟨by simp [h.len], ?_, ?_, ?_, by simpa using h.max⟩
  · intro c' hc'
    rcases List.mem_or_eq_of_mem_set hc' with h' | rfl
    · exact h.sz c' h'
    · exact hcs
  · rw [List.length_set, ← putAt_flatten h.sz k hkc cs' hcs]
    exact own_puts cs' (k * size) _ _ h.row
  · intro j c' y h1 h2
    by_cases hj : j = k
    · subst hj
      rw [List.getElem?_set_self hkc] at h1
      rw [List.getElem?_set_self hk] at h2
      cases h1
      cases h2
      exact hel _ _ hx
    · rw [List.getElem?_set_ne (fun e => hj e.symm)] at h1 h2
      exact hel _ _ (h.each j c' y h1 h2)
/-- One more is appended. -/
theorem OwnR.push {v4 : Value} {cs : List Value} {x : α} (h : OwnR t size bytes El w base v xs css) (hm : (xs.length + 1) * bytes ≤ R47) (hcs : cs.length = size) (hx : El w' 0 cs x)
    (h4 : w'.ownsRow base t size v4 (xs.length + 1) (css.flatten ++ cs)) (hel : ∀ cs x, El w 0 cs x → El w' 0 cs x) : OwnR t size bytes El w' base v4 (xs ++ [x]) (css ++ [cs]) := by
  refine ⟨by simp only [List.length_append, h.len, List.length_cons, List.length_nil], ?_, ?_, ?_, by simpa using hm⟩
  · intro c hc
    rcases List.mem_append.1 hc with h' | h'
    · exact h.sz c h'
    · rw [List.mem_singleton] at h'
      subst h'
      exact hcs
  · rw [List.length_append, List.flatten_append]
    simpa using h4
  · intro j c y hc hy
    rcases Nat.lt_or_ge j xs.length with hj | hj
    · rw [List.getElem?_append_left (by rw [h.len]; exact hj)] at hc
      rw [List.getElem?_append_left hj] at hy
      exact hel _ _ (h.each j c y hc hy)
    · rw [List.getElem?_append_right (by rw [h.len]; exact hj), h.len] at hc
      rw [List.getElem?_append_right hj] at hy
      have hj0 : j - xs.length = 0 := by
        rcases Nat.eq_zero_or_pos (j - xs.length) with h' | h'
        · exact h'
        · rw [List.getElem?_eq_none (by simp; omega)] at hc
          cases hc
      rw [hj0] at hc hy
      simp only [List.getElem?_cons_zero, Option.some.injEq] at hc hy
      subst hc
      subst hy
      exact hx
end
end Go.Proofs.YtfpiembhlgcelaaDoor
/- Words: requests in a row. Walks: scullingkeep.Requests. -/
namespace Go.Proofs.YtfpiembhlgcelaaDoor
set_option linter.unusedVariables false
set_option linter.unusedSimpArgs false
open Go.RowKit
set_option maxHeartbeats 4000000
set_option maxRecDepth 100000

abbrev reqInt : Int → Value := Value.int .i64
def reqV (q : Scu.Request) : List Value := [.int .i64 q.client, .int .i64 q.num, .int .i64 q.op.kind, .int .i64 q.op.at_, .int .i64 q.op.snap, .string q.op.data]
def ReqE (_ : World) (_ : Nat) (cs : List Value) (q : Scu.Request) : Prop := cs = reqV q
theorem el_reqs : ElT 23 28 6 56 := by
  obtain ⟨i, h1, h2, h3, h4⟩ := info_parts (P := Tryd.prog) (e := 28) (z := .agg #[.int .i64 0, .int .i64 0, .int .i64 0, .int .i64 0, .int .i64 0, .string ByteArray.empty]) (size := 6) (bytes := 56) (by kernel_rfl)
  exact ⟨Tryd.underlying23, by omega, i, _, h1, h2, h3, h4, rfl⟩
theorem addr_add0' (g j : Nat) : (⟨g, 0, none⟩ : Addr).add j = ⟨g, j, none⟩ := by unfold Addr.add; split <;> simp_all
/-- What one append of a boxed thing takes. -/
theorem src_box {w : World} {t : TypeId} {cs : List Value} {m : Nat} (hm : cs.length = m) : Src1 (w.alloc (.cells cs.toArray t)) m (.slice (some ⟨w.heap.size, 0, none⟩) 1 1) 1 cs := by
  refine ⟨by rw [hm, Nat.one_mul], .inr ⟨_, _, rfl, fun j v hj => ?_⟩⟩
  rw [addr_add0', (Blk.new w t cs.toArray).cell j]
  simpa using hj
structure ReqI (w : World) (B : Nat) (v : Value) (l : List Scu.Raw) (gx : Nat) (nx : List Int) (qs : List Scu.Request) (ov : Value) (css : List (List Value)) (wr : World) : Prop where
  nxt : Blk wr gx 120 (nx.map reqInt).toArray
  out : OwnR 28 6 56 ReqE wr (w.heap.size + 1) ov qs css
  raws : IsRaws wr B v l
  low : Below w.heap.size w wr
theorem ReqI.below {w : World} {B : Nat} {v : Value} {l : List Scu.Raw} {gx : Nat} {nx : List Int} {qs : List Scu.Request} {ov : Value} {css : List (List Value)} {wr w' : World} (h : ReqI w B v l gx nx qs ov css wr) (hb : Below wr.heap.size wr w') : ReqI w B v l gx nx qs ov css w' :=
  ⟨h.nxt.same hb, h.out.same (Ts := [28]) (B := 0) (by simp) (Same.below hb) (fun _ _ h => h), h.raws.below hb, h.low.trans (hb.mono h.low.size)⟩
theorem ReqI.setNext {w : World} {B : Nat} {v : Value} {l : List Scu.Raw} {gx : Nat} {nx : List Int} {qs : List Scu.Request} {ov : Value} {css : List (List Value)} {wr : World} (h : ReqI w B v l gx nx qs ov css wr) (hg : gx = w.heap.size) (hB : B ≤ w.heap.size) (ht : 120 ∉ [28, 43]) (j : Nat) (x : Int) :
    ReqI w B v l gx (nx.set j x) qs ov css (wr.setCell ⟨gx, j, none⟩ (.int .i64 x)) := by
  have hs : Same [28, 43] B wr (wr.setCell ⟨gx, j, none⟩ (.int .i64 x)) := Same.set_ h.nxt (by omega) ht j _
  refine ⟨?_, h.out.same (by simp) hs (fun _ _ h => h), h.raws.same (by simp) hs, h.low.setCell (p := ⟨gx, j, none⟩) (by show w.heap.size ≤ gx; omega) _⟩
  have := h.nxt.set_ j (.int .i64 x)
  rw [List.setIfInBounds_toArray] at this
  rw [List.map_set]
  exact this
theorem ReqI.push {w P w4 : World} {B : Nat} {v v4 : Value} {l : List Scu.Raw} {gx : Nat} {nx : List Int} {qs : List Scu.Request} {ov : Value} {css : List (List Value)} {q : Scu.Request} (h : ReqI w B v l gx nx qs ov css P) (hB : B ≤ w.heap.size) (hm : (qs.length + 1) * 56 ≤ R47)
    (h4 : w4.ownsRow (w.heap.size + 1) 28 6 v4 (qs.length + 1) (css.flatten ++ reqV q)) (hg : P.grownBy w4 ov.ownBlock) (ht : 28 ∉ [120, 43]) : ReqI w B v l gx nx (qs ++ [q]) v4 (css ++ [reqV q]) w4 := by
  have hs : Same [120, 43] B P w4 := Same.own h.out.row hg (by omega) ht
  refine ⟨?_, h.out.push hm rfl rfl h4 (fun _ _ h => h), h.raws.same (by simp) hs, h.low.grown hg h.low.size (fun k hk => by have := (h.out.lt k hk).1; omega)⟩
  have hs0 : Same [120] 0 P w4 := Same.own h.out.row hg (by omega) (fun e => ht (by simp only [List.mem_cons, List.not_mem_nil, or_false] at e ⊢; exact .inl e))
  exact (hs0.keep gx h.nxt.lt (.inr ⟨_, _, _, by simp, h.nxt⟩)).trans h.nxt
theorem reqs_next {l : List Scu.Raw} {k : Nat} (hk : k < l.length) : Scu.reqsOf (l.take (k + 1)) = Scu.reqStep (Scu.reqsOf (l.take k)) l[k] := by
  rw [show l.take (k + 1) = l.take k ++ [l[k]] from by rw [List.take_add_one, List.getElem?_eq_getElem hk]; rfl, Scu.reqsOf_snoc]
theorem next_cell {nx : List Int} (h5 : nx.length = 5) {j : Nat} (hj : j < 5) : (nx.map reqInt).toArray[j]? = some (.int .i64 (nx.getD j 0)) := by
  rw [List.getElem?_toArray, List.getElem?_map, List.getElem?_eq_getElem (by omega), List.getD_eq_getElem?_getD, List.getElem?_eq_getElem (by omega)]
  rfl
theorem requests_c (v : Value) (l : List Scu.Raw) (most : Nat) (w : World) (B : Nat) (hB : B ≤ w.heap.size) (hl : IsRaws w B v l) (ht : Tab w) (hm : most ≤ 1000) :
    Calls Tryd.prog 18 #[v, .int .i64 most] w fun e w' => (∃ A c css, e = .returned (.slice A (Scu.requests l most).length c) ∧ OwnR 28 6 56 ReqE w' w.heap.size (.slice A (Scu.requests l most).length c) (Scu.requests l most) css) ∧ Below w.heap.size w w' := by
  obtain ⟨Al, cl, rfl, hll⟩ := hl.form'
  have hl47 := hl.len
  unfold R47 at hl47
  have HT := Lib.hid ht
  have h0 := below_alloc w (Obj.cells #[.int .i64 0, .int .i64 0, .int .i64 0, .int .i64 0, .int .i64 0] 120)
  have HI := Lib.hid (show ReqI w B (.slice Al l.length cl) l w.heap.size [0, 0, 0, 0, 0] [] (.slice none 0 0) [] (w.alloc (Obj.cells #[.int .i64 0, .int .i64 0, .int .i64 0, .int .i64 0, .int .i64 0] 120)) from ⟨Blk.new w _ _, OwnR.nil_, hl.below h0, h0⟩)
  clear ht hl h0
  go_enter Tryd.func18, Tryd.ntmps18
  go_wp2_with fail
  go_loopw [5, 7, 8] (fun o i _ wr => ∃ (k : Nat) (Ao : Option Addr) (co : Nat) (css : List (List Value)), k ≤ most ∧ k ≤ l.length ∧ i = .int .i64 k ∧ o = .slice Ao (Scu.reqsOf (l.take k)).1.length co ∧ ReqI w B (.slice Al l.length cl) l w.heap.size (Scu.reqsOf (l.take k)).2 (Scu.reqsOf (l.take k)).1 (.slice Ao (Scu.reqsOf (l.take k)).1.length co) css wr) (fun _ i _ _ => most - (intOf i).toNat)
  case atStart => exact ⟨0, none, 0, [], Nat.zero_le _, Nat.zero_le _, rfl, rfl, HI.out⟩
  case round =>
    obtain ⟨k, Ao, co, css, hkm, hkl, rfl, rfl, hI⟩ := hrel
    obtain ⟨qs, nx, hst⟩ : ∃ qs nx, Scu.reqsOf (l.take k) = (qs, nx) := ⟨_, _, rfl⟩
    have hok := Scu.reqs_ok (l.take k)
    rw [hst] at hI hok ⊢
    dsimp only at hI ⊢
    have hBw := hB
    by_cases hlt : k < l.length
    · by_cases hlm : k < most
      · have hlt' : (k : Int) < (l.length : Int) := by omega
        have hlm' : (k : Int) < (most : Int) := by omega
        obtain ⟨gl, ol, cl', e, hgl, _, hin⟩ := raw_at hI.raws hlt
        obtain rfl : Al = some ⟨gl, ol, none⟩ := by cases e; rfl
        clear e cl'
        have c1 : wr.cell? ⟨gl, ol + k * 4 + 1, none⟩ = some (.int .i64 l[k].a) := hI.raws.cell_at hlt 1 (by decide)
        have c3 : wr.cell? ⟨gl, ol + k * 4 + 3, none⟩ = some (.int .i64 l[k].c) := hI.raws.cell_at hlt 3 (by decide)
        obtain ⟨p, hp⟩ : ∃ p, Scu.picked l[k].c 4 = p := ⟨_, rfl⟩
        have hp01 := Scu.picked_lt (n := l[k].c) (many := 4) (by decide)
        rw [hp] at hp01
        have hp0 := hp01.1
        have hp4 := hp01.2
        have hn5 : nx.length = 5 := hok.five
        have hlk : (l.take k).length = k := by rw [List.length_take]; omega
        have hnvb := hok.nums _ (Scu.getD_mem (l := nx) (n := (1 + p).toNat) (d := 0) (by omega))
        have hqle : qs.length ≤ 1000 := by have h : qs.length = (l.take k).length := hok.len; rw [hlk] at h; omega
        rw [hlk] at hnvb
        obtain ⟨nv, hnv⟩ : ∃ nv, nx.getD (1 + p).toNat 0 = nv := ⟨_, rfl⟩
        rw [hnv] at hnvb
        have hnv0 := hnvb.1
        have hnv1 := hnvb.2
        have cn : wr.cell? ⟨w.heap.size, (1 + p).toNat, none⟩ = some (.int .i64 nv) := by rw [hI.nxt.cell, ← hnv]; exact next_cell hn5 (by omega)
        have cz := hI.nxt.frozen
        have HIR := Lib.hid hI
        have HST := Lib.hid hst
        have HP := Lib.hid hp
        have HNV := Lib.hid hnv
        have HIN := Lib.hid hin
        have HL5 := Lib.hid hn5
        have hgl5 := hI.nxt.lt
        clear hI hst hp hp01 hok hnvb hnv hin hlk hn5
        go_wp2_with fail
        refine (picked_c _ _ HIN.out.2.2.2 (by decide) (by decide) _).mono ?_; rintro e w' ⟨rfl, rfl⟩
        rw [HP.out]
        by_cases hz : nv = 0
        · have hzb : (nv == 0) = true := by simpa using hz
          obtain ⟨nx', hnx'⟩ : ∃ y, nx.set (1 + p).toNat (nv + 1) = y := ⟨_, rfl⟩
          have hn5' : nx'.length = 5 := by rw [← hnx', List.length_set]; exact HL5.out
          have HNX' := Lib.hid hnx'
          have HZ := Lib.hid hz
          clear hnx' hz
          go_upto_region 9 with fail
          obtain ⟨Wn, hWn⟩ : ∃ W, W = (wr.setCell ⟨w.heap.size, (1 + p).toNat, none⟩ (.int .i64 (nv + 1))) := ⟨_, rfl⟩
          rw [← hWn]
          have HN := Lib.hid (show ReqI w B (.slice (some ⟨gl, ol, none⟩) l.length cl) l w.heap.size nx' qs (.slice Ao qs.length co) css Wn from by rw [hWn]; exact (by rw [← HNX'.out]; exact HIR.out.setNext rfl hBw (by decide) _ _))
          clear hWn c1 c3 cn cz HIR
          obtain ⟨x, hx⟩ : ∃ x, nx'.getD (1 + p).toNat 0 = x := ⟨_, rfl⟩
          have c0 : Wn.cell? ⟨gl, ol + k * 4, none⟩ = some (.int .i64 l[k].kind) := HN.out.raws.cell_at hlt 0 (by decide)
          have c1 : Wn.cell? ⟨gl, ol + k * 4 + 1, none⟩ = some (.int .i64 l[k].a) := HN.out.raws.cell_at hlt 1 (by decide)
          have c2 : Wn.cell? ⟨gl, ol + k * 4 + 2, none⟩ = some (.int .i64 l[k].b) := HN.out.raws.cell_at hlt 2 (by decide)
          have c3 : Wn.cell? ⟨gl, ol + k * 4 + 3, none⟩ = some (.int .i64 l[k].c) := HN.out.raws.cell_at hlt 3 (by decide)
          have cn : Wn.cell? ⟨w.heap.size, (1 + p).toNat, none⟩ = some (.int .i64 x) := by rw [HN.out.nxt.cell, ← hx]; exact next_cell hn5' (by omega)
          have gll : gl < Wn.heap.size := by obtain ⟨g', o', c', e, hg, _⟩ := raw_at HN.out.raws hlt; cases e; exact hg
          have wll : w.heap.size < Wn.heap.size := HN.out.nxt.lt
          obtain ⟨oq, hoq⟩ : ∃ o, Scu.rawOp l[k] = o := ⟨_, rfl⟩
          have HOQ := Lib.hid hoq
          clear hoq
          have hc0 : (0 : Int) ≤ 1 + p := by omega
          have hc5 : (1 : Int) + p < 5 := by omega
          have HX := Lib.hid hx
          have HN5 := Lib.hid hn5'
          clear hx hn5'
          go_wp2_with fail
          go_region_held3 (fun w' => w'.cell? ⟨gl, ol + k * 4, none⟩ = some (.int .i64 l[k].kind) ∧ w'.cell? ⟨gl, ol + k * 4 + 1, none⟩ = some (.int .i64 l[k].a) ∧ w'.cell? ⟨gl, ol + k * 4 + 2, none⟩ = some (.int .i64 l[k].b) ∧ w'.cell? ⟨gl, ol + k * 4 + 3, none⟩ = some (.int .i64 l[k].c) ∧ w'.cell? ⟨w.heap.size, (1 + p).toNat, none⟩ = some (.int .i64 x))
            (first | (go_split_ands; (try dsimp only); (repeat' apply And.intro) <;> (with_reducible assumption)) | (go_split_ands; (try dsimp only); exact ⟨c0, c1, c2, c3, cn⟩) | (go_split_ands; (try dsimp only); exact ⟨f0, f1, f2, f3, fn⟩) | go_keep)
            (first
            | (go_at_call 23; refine (kop_o l[k] HIN.out oq HOQ.out _ ((HT.out.below HN.out.low).drewN 1)).mono ?_; rintro en x1 ⟨rfl, k1'⟩
               refine useK (P := Below Wn.heap.size Wn x1) ?_ ?_
               exact (below_drewN (Below.refl _ _) 1).trans k1'
               intro nn1
               have M1 := Lib.hid nn1
               have d0 := (nn1.cell (p := ⟨gl, ol + k * 4, none⟩) gll).trans c0
               have d1 := (nn1.cell (p := ⟨gl, ol + k * 4 + 1, none⟩) gll).trans c1
               have d2 := (nn1.cell (p := ⟨gl, ol + k * 4 + 2, none⟩) gll).trans c2
               have d3 := (nn1.cell (p := ⟨gl, ol + k * 4 + 3, none⟩) gll).trans c3
               have dn := (nn1.cell (p := ⟨w.heap.size, (1 + p).toNat, none⟩) wll).trans cn
               have hal := nn1.trans ((below_alloc x1 (Obj.cells (reqV ⟨1 + p, x, oq⟩).toArray 28)).mono nn1.size)
               have e0 := (hal.cell (p := ⟨gl, ol + k * 4, none⟩) gll).trans c0
               have e1 := (hal.cell (p := ⟨gl, ol + k * 4 + 1, none⟩) gll).trans c1
               have e2 := (hal.cell (p := ⟨gl, ol + k * 4 + 2, none⟩) gll).trans c2
               have e3 := (hal.cell (p := ⟨gl, ol + k * 4 + 3, none⟩) gll).trans c3
               have en := (hal.cell (p := ⟨w.heap.size, (1 + p).toNat, none⟩) wll).trans cn
               clear nn1 k1' hal)
            | (refine step_app _ (by rfl) (.tmp 45) (.tmp 56) 23 (by rfl) el_reqs (w.heap.size + 1) (.slice Ao qs.length co) qs.length css.flatten (by rfl) ?_ (.slice (some ⟨x1.heap.size, 0, none⟩) 1 1) 1 (reqV ⟨1 + p, x, oq⟩) (by rfl) (src_box (by rfl)) ?_ ?_ ?_ ?_ ?_
               · exact own_below (own_below HN.out.out.row M1.out) (below_alloc x1 _)
               · (intro v hv; simp only [reqV, List.mem_cons, List.not_mem_nil, or_false] at hv; rcases hv with rfl | rfl | rfl | rfl | rfl | rfl <;> rfl)
               · (unfold maxLen; omega)
               · omega
               · (have := HN.out.low.size; have := M1.out.size; simp; omega)
               intro v4 x4 h4 hg4 _
               have hP := (HN.out.below M1.out).below (below_alloc x1 (Obj.cells (reqV ⟨1 + p, x, oq⟩).toArray 28))
               have hnx := hP.push hBw (by unfold R47; omega) h4 hg4 (by decide)
               have f0 : x4.cell? ⟨gl, ol + k * 4, none⟩ = some (.int .i64 l[k].kind) := hnx.raws.cell_at hlt 0 (by decide)
               have f1 : x4.cell? ⟨gl, ol + k * 4 + 1, none⟩ = some (.int .i64 l[k].a) := hnx.raws.cell_at hlt 1 (by decide)
               have f2 : x4.cell? ⟨gl, ol + k * 4 + 2, none⟩ = some (.int .i64 l[k].b) := hnx.raws.cell_at hlt 2 (by decide)
               have f3 : x4.cell? ⟨gl, ol + k * 4 + 3, none⟩ = some (.int .i64 l[k].c) := hnx.raws.cell_at hlt 3 (by decide)
               have fn : x4.cell? ⟨w.heap.size, (1 + p).toNat, none⟩ = some (.int .i64 x) := by rw [hnx.nxt.cell, ← HX.out]; exact next_cell HN5.out (by omega)
               obtain ⟨A9, c9, rfl, _, _, _, _⟩ := rd_own h4
               have HNX := Lib.hid hnx
               clear hP hnx h4 hg4)
            | fail)
          all_goals
            rename_i hHeld
            clear hHeld
            have hnext : Scu.reqsOf (l.take (k + 1)) = (qs ++ [⟨1 + p, x, oq⟩], nx') := by
              rw [reqs_next hlt, HST.out]
              simp only [Scu.reqStep]
              rw [HP.out, (if_pos (.inl (by rw [HNV.out]; exact HZ.out))), HNV.out, HNX'.out, HX.out, HOQ.out]
            have HNEXT := Lib.hid hnext
            have HLEN := Lib.hid (show (Scu.reqsOf (l.take (k + 1))).1.length = qs.length + 1 by rw [hnext]; simp)
            clear hnext c0 c1 c2 c3 cn d0 d1 d2 d3 dn e0 e1 e2 e3 en f0 f1 f2 f3 fn
            go_wp2_with fail
            go_roundw
            case rel => exact ⟨k + 1, A9, c9, _, by omega, by omega, rfl, by rw [HLEN.out], by rw [HNEXT.out]; simpa using HNX.out⟩
            case measure => simp only [intOf]; omega
        · have hzb : (nv == 0) = false := by simpa using hz
          have HZ := Lib.hid hz
          clear hz
          obtain ⟨pa, hpa⟩ : ∃ pa, Scu.picked l[k].a 4 = pa := ⟨_, rfl⟩
          have HPA := Lib.hid hpa
          clear hpa
          go_wp2_with fail
          refine (picked_c _ _ HIN.out.2.1 (by decide) (by decide) _).mono ?_; rintro e w' ⟨rfl, rfl⟩
          rw [HPA.out]
          by_cases hg : 0 < pa
          · obtain ⟨nx', hnx'⟩ : ∃ y, nx.set (1 + p).toNat (nv + 1) = y := ⟨_, rfl⟩
            have hn5' : nx'.length = 5 := by rw [← hnx', List.length_set]; exact HL5.out
            have HNX' := Lib.hid hnx'
            clear hnx'
            go_upto_region 9 with fail
            obtain ⟨Wn, hWn⟩ : ∃ W, W = (wr.setCell ⟨w.heap.size, (1 + p).toNat, none⟩ (.int .i64 (nv + 1))) := ⟨_, rfl⟩
            rw [← hWn]
            have HN := Lib.hid (show ReqI w B (.slice (some ⟨gl, ol, none⟩) l.length cl) l w.heap.size nx' qs (.slice Ao qs.length co) css Wn from by rw [hWn]; exact (by rw [← HNX'.out]; exact HIR.out.setNext rfl hBw (by decide) _ _))
            clear hWn c1 c3 cn cz HIR
            obtain ⟨x, hx⟩ : ∃ x, nx'.getD (1 + p).toNat 0 = x := ⟨_, rfl⟩
            have c0 : Wn.cell? ⟨gl, ol + k * 4, none⟩ = some (.int .i64 l[k].kind) := HN.out.raws.cell_at hlt 0 (by decide)
            have c1 : Wn.cell? ⟨gl, ol + k * 4 + 1, none⟩ = some (.int .i64 l[k].a) := HN.out.raws.cell_at hlt 1 (by decide)
            have c2 : Wn.cell? ⟨gl, ol + k * 4 + 2, none⟩ = some (.int .i64 l[k].b) := HN.out.raws.cell_at hlt 2 (by decide)
            have c3 : Wn.cell? ⟨gl, ol + k * 4 + 3, none⟩ = some (.int .i64 l[k].c) := HN.out.raws.cell_at hlt 3 (by decide)
            have cn : Wn.cell? ⟨w.heap.size, (1 + p).toNat, none⟩ = some (.int .i64 x) := by rw [HN.out.nxt.cell, ← hx]; exact next_cell hn5' (by omega)
            have gll : gl < Wn.heap.size := by obtain ⟨g', o', c', e, hg, _⟩ := raw_at HN.out.raws hlt; cases e; exact hg
            have wll : w.heap.size < Wn.heap.size := HN.out.nxt.lt
            obtain ⟨oq, hoq⟩ : ∃ o, Scu.rawOp l[k] = o := ⟨_, rfl⟩
            have HOQ := Lib.hid hoq
            clear hoq
            have hc0 : (0 : Int) ≤ 1 + p := by omega
            have hc5 : (1 : Int) + p < 5 := by omega
            have HX := Lib.hid hx
            have HN5 := Lib.hid hn5'
            clear hx hn5'
            go_wp2_with fail
            go_region_held3 (fun w' => w'.cell? ⟨gl, ol + k * 4, none⟩ = some (.int .i64 l[k].kind) ∧ w'.cell? ⟨gl, ol + k * 4 + 1, none⟩ = some (.int .i64 l[k].a) ∧ w'.cell? ⟨gl, ol + k * 4 + 2, none⟩ = some (.int .i64 l[k].b) ∧ w'.cell? ⟨gl, ol + k * 4 + 3, none⟩ = some (.int .i64 l[k].c) ∧ w'.cell? ⟨w.heap.size, (1 + p).toNat, none⟩ = some (.int .i64 x))
              (first | (go_split_ands; (try dsimp only); (repeat' apply And.intro) <;> (with_reducible assumption)) | (go_split_ands; (try dsimp only); exact ⟨c0, c1, c2, c3, cn⟩) | (go_split_ands; (try dsimp only); exact ⟨f0, f1, f2, f3, fn⟩) | go_keep)
              (first
              | (go_at_call 23; refine (kop_o l[k] HIN.out oq HOQ.out _ ((HT.out.below HN.out.low).drewN 1)).mono ?_; rintro en x1 ⟨rfl, k1'⟩
                 refine useK (P := Below Wn.heap.size Wn x1) ?_ ?_
                 exact (below_drewN (Below.refl _ _) 1).trans k1'
                 intro nn1
                 have M1 := Lib.hid nn1
                 have d0 := (nn1.cell (p := ⟨gl, ol + k * 4, none⟩) gll).trans c0
                 have d1 := (nn1.cell (p := ⟨gl, ol + k * 4 + 1, none⟩) gll).trans c1
                 have d2 := (nn1.cell (p := ⟨gl, ol + k * 4 + 2, none⟩) gll).trans c2
                 have d3 := (nn1.cell (p := ⟨gl, ol + k * 4 + 3, none⟩) gll).trans c3
                 have dn := (nn1.cell (p := ⟨w.heap.size, (1 + p).toNat, none⟩) wll).trans cn
                 have hal := nn1.trans ((below_alloc x1 (Obj.cells (reqV ⟨1 + p, x, oq⟩).toArray 28)).mono nn1.size)
                 have e0 := (hal.cell (p := ⟨gl, ol + k * 4, none⟩) gll).trans c0
                 have e1 := (hal.cell (p := ⟨gl, ol + k * 4 + 1, none⟩) gll).trans c1
                 have e2 := (hal.cell (p := ⟨gl, ol + k * 4 + 2, none⟩) gll).trans c2
                 have e3 := (hal.cell (p := ⟨gl, ol + k * 4 + 3, none⟩) gll).trans c3
                 have en := (hal.cell (p := ⟨w.heap.size, (1 + p).toNat, none⟩) wll).trans cn
                 clear nn1 k1' hal)
              | (refine step_app _ (by rfl) (.tmp 45) (.tmp 56) 23 (by rfl) el_reqs (w.heap.size + 1) (.slice Ao qs.length co) qs.length css.flatten (by rfl) ?_ (.slice (some ⟨x1.heap.size, 0, none⟩) 1 1) 1 (reqV ⟨1 + p, x, oq⟩) (by rfl) (src_box (by rfl)) ?_ ?_ ?_ ?_ ?_
                 · exact own_below (own_below HN.out.out.row M1.out) (below_alloc x1 _)
                 · (intro v hv; simp only [reqV, List.mem_cons, List.not_mem_nil, or_false] at hv; rcases hv with rfl | rfl | rfl | rfl | rfl | rfl <;> rfl)
                 · (unfold maxLen; omega)
                 · omega
                 · (have := HN.out.low.size; have := M1.out.size; simp; omega)
                 intro v4 x4 h4 hg4 _
                 have hP := (HN.out.below M1.out).below (below_alloc x1 (Obj.cells (reqV ⟨1 + p, x, oq⟩).toArray 28))
                 have hnx := hP.push hBw (by unfold R47; omega) h4 hg4 (by decide)
                 have f0 : x4.cell? ⟨gl, ol + k * 4, none⟩ = some (.int .i64 l[k].kind) := hnx.raws.cell_at hlt 0 (by decide)
                 have f1 : x4.cell? ⟨gl, ol + k * 4 + 1, none⟩ = some (.int .i64 l[k].a) := hnx.raws.cell_at hlt 1 (by decide)
                 have f2 : x4.cell? ⟨gl, ol + k * 4 + 2, none⟩ = some (.int .i64 l[k].b) := hnx.raws.cell_at hlt 2 (by decide)
                 have f3 : x4.cell? ⟨gl, ol + k * 4 + 3, none⟩ = some (.int .i64 l[k].c) := hnx.raws.cell_at hlt 3 (by decide)
                 have fn : x4.cell? ⟨w.heap.size, (1 + p).toNat, none⟩ = some (.int .i64 x) := by rw [hnx.nxt.cell, ← HX.out]; exact next_cell HN5.out (by omega)
                 obtain ⟨A9, c9, rfl, _, _, _, _⟩ := rd_own h4
                 have HNX := Lib.hid hnx
                 clear hP hnx h4 hg4)
              | fail)
            all_goals
              rename_i hHeld
              clear hHeld
              have hnext : Scu.reqsOf (l.take (k + 1)) = (qs ++ [⟨1 + p, x, oq⟩], nx') := by
                rw [reqs_next hlt, HST.out]
                simp only [Scu.reqStep]
                rw [HP.out, (if_pos (.inr (by rw [HPA.out]; exact hg))), HNV.out, HNX'.out, HX.out, HOQ.out]
              have HNEXT := Lib.hid hnext
              have HLEN := Lib.hid (show (Scu.reqsOf (l.take (k + 1))).1.length = qs.length + 1 by rw [hnext]; simp)
              clear hnext c0 c1 c2 c3 cn d0 d1 d2 d3 dn e0 e1 e2 e3 en f0 f1 f2 f3 fn
              go_wp2_with fail
              go_roundw
              case rel => exact ⟨k + 1, A9, c9, _, by omega, by omega, rfl, by rw [HLEN.out], by rw [HNEXT.out]; simpa using HNX.out⟩
              case measure => simp only [intOf]; omega
          · obtain ⟨nx', hnx'⟩ : ∃ y, nx = y := ⟨_, rfl⟩
            have hn5' : nx'.length = 5 := by rw [← hnx']; exact HL5.out
            have HNX' := Lib.hid hnx'
            clear hnx'
            have hgb : ¬ 0 < pa := hg
            have HG := Lib.hid hgb
            go_upto_region 9 with fail
            obtain ⟨Wn, hWn⟩ : ∃ W, W = wr := ⟨_, rfl⟩
            rw [← hWn]
            have HN := Lib.hid (show ReqI w B (.slice (some ⟨gl, ol, none⟩) l.length cl) l w.heap.size nx' qs (.slice Ao qs.length co) css Wn from by rw [hWn]; exact (by rw [← HNX'.out]; exact HIR.out))
            clear hWn c1 c3 cn cz HIR
            obtain ⟨x, hx⟩ : ∃ x, nx'.getD (1 + p).toNat 0 = x := ⟨_, rfl⟩
            have c0 : Wn.cell? ⟨gl, ol + k * 4, none⟩ = some (.int .i64 l[k].kind) := HN.out.raws.cell_at hlt 0 (by decide)
            have c1 : Wn.cell? ⟨gl, ol + k * 4 + 1, none⟩ = some (.int .i64 l[k].a) := HN.out.raws.cell_at hlt 1 (by decide)
            have c2 : Wn.cell? ⟨gl, ol + k * 4 + 2, none⟩ = some (.int .i64 l[k].b) := HN.out.raws.cell_at hlt 2 (by decide)
            have c3 : Wn.cell? ⟨gl, ol + k * 4 + 3, none⟩ = some (.int .i64 l[k].c) := HN.out.raws.cell_at hlt 3 (by decide)
            have cn : Wn.cell? ⟨w.heap.size, (1 + p).toNat, none⟩ = some (.int .i64 x) := by rw [HN.out.nxt.cell, ← hx]; exact next_cell hn5' (by omega)
            have gll : gl < Wn.heap.size := by obtain ⟨g', o', c', e, hg, _⟩ := raw_at HN.out.raws hlt; cases e; exact hg
            have wll : w.heap.size < Wn.heap.size := HN.out.nxt.lt
            obtain ⟨oq, hoq⟩ : ∃ o, Scu.rawOp l[k] = o := ⟨_, rfl⟩
            have HOQ := Lib.hid hoq
            clear hoq
            have hc0 : (0 : Int) ≤ 1 + p := by omega
            have hc5 : (1 : Int) + p < 5 := by omega
            have HX := Lib.hid hx
            have HN5 := Lib.hid hn5'
            clear hx hn5'
            go_wp2_with fail
            go_region_held3 (fun w' => w'.cell? ⟨gl, ol + k * 4, none⟩ = some (.int .i64 l[k].kind) ∧ w'.cell? ⟨gl, ol + k * 4 + 1, none⟩ = some (.int .i64 l[k].a) ∧ w'.cell? ⟨gl, ol + k * 4 + 2, none⟩ = some (.int .i64 l[k].b) ∧ w'.cell? ⟨gl, ol + k * 4 + 3, none⟩ = some (.int .i64 l[k].c) ∧ w'.cell? ⟨w.heap.size, (1 + p).toNat, none⟩ = some (.int .i64 x))
              (first | (go_split_ands; (try dsimp only); (repeat' apply And.intro) <;> (with_reducible assumption)) | (go_split_ands; (try dsimp only); exact ⟨c0, c1, c2, c3, cn⟩) | (go_split_ands; (try dsimp only); exact ⟨f0, f1, f2, f3, fn⟩) | go_keep)
              (first
              | (go_at_call 23; refine (kop_o l[k] HIN.out oq HOQ.out _ ((HT.out.below HN.out.low).drewN 1)).mono ?_; rintro en x1 ⟨rfl, k1'⟩
                 refine useK (P := Below Wn.heap.size Wn x1) ?_ ?_
                 exact (below_drewN (Below.refl _ _) 1).trans k1'
                 intro nn1
                 have M1 := Lib.hid nn1
                 have d0 := (nn1.cell (p := ⟨gl, ol + k * 4, none⟩) gll).trans c0
                 have d1 := (nn1.cell (p := ⟨gl, ol + k * 4 + 1, none⟩) gll).trans c1
                 have d2 := (nn1.cell (p := ⟨gl, ol + k * 4 + 2, none⟩) gll).trans c2
                 have d3 := (nn1.cell (p := ⟨gl, ol + k * 4 + 3, none⟩) gll).trans c3
                 have dn := (nn1.cell (p := ⟨w.heap.size, (1 + p).toNat, none⟩) wll).trans cn
                 have hal := nn1.trans ((below_alloc x1 (Obj.cells (reqV ⟨1 + p, x, oq⟩).toArray 28)).mono nn1.size)
                 have e0 := (hal.cell (p := ⟨gl, ol + k * 4, none⟩) gll).trans c0
                 have e1 := (hal.cell (p := ⟨gl, ol + k * 4 + 1, none⟩) gll).trans c1
                 have e2 := (hal.cell (p := ⟨gl, ol + k * 4 + 2, none⟩) gll).trans c2
                 have e3 := (hal.cell (p := ⟨gl, ol + k * 4 + 3, none⟩) gll).trans c3
                 have en := (hal.cell (p := ⟨w.heap.size, (1 + p).toNat, none⟩) wll).trans cn
                 clear nn1 k1' hal)
              | (refine step_app _ (by rfl) (.tmp 45) (.tmp 56) 23 (by rfl) el_reqs (w.heap.size + 1) (.slice Ao qs.length co) qs.length css.flatten (by rfl) ?_ (.slice (some ⟨x1.heap.size, 0, none⟩) 1 1) 1 (reqV ⟨1 + p, x, oq⟩) (by rfl) (src_box (by rfl)) ?_ ?_ ?_ ?_ ?_
                 · exact own_below (own_below HN.out.out.row M1.out) (below_alloc x1 _)
                 · (intro v hv; simp only [reqV, List.mem_cons, List.not_mem_nil, or_false] at hv; rcases hv with rfl | rfl | rfl | rfl | rfl | rfl <;> rfl)
                 · (unfold maxLen; omega)
                 · omega
                 · (have := HN.out.low.size; have := M1.out.size; simp; omega)
                 intro v4 x4 h4 hg4 _
                 have hP := (HN.out.below M1.out).below (below_alloc x1 (Obj.cells (reqV ⟨1 + p, x, oq⟩).toArray 28))
                 have hnx := hP.push hBw (by unfold R47; omega) h4 hg4 (by decide)
                 have f0 : x4.cell? ⟨gl, ol + k * 4, none⟩ = some (.int .i64 l[k].kind) := hnx.raws.cell_at hlt 0 (by decide)
                 have f1 : x4.cell? ⟨gl, ol + k * 4 + 1, none⟩ = some (.int .i64 l[k].a) := hnx.raws.cell_at hlt 1 (by decide)
                 have f2 : x4.cell? ⟨gl, ol + k * 4 + 2, none⟩ = some (.int .i64 l[k].b) := hnx.raws.cell_at hlt 2 (by decide)
                 have f3 : x4.cell? ⟨gl, ol + k * 4 + 3, none⟩ = some (.int .i64 l[k].c) := hnx.raws.cell_at hlt 3 (by decide)
                 have fn : x4.cell? ⟨w.heap.size, (1 + p).toNat, none⟩ = some (.int .i64 x) := by rw [hnx.nxt.cell, ← HX.out]; exact next_cell HN5.out (by omega)
                 obtain ⟨A9, c9, rfl, _, _, _, _⟩ := rd_own h4
                 have HNX := Lib.hid hnx
                 clear hP hnx h4 hg4)
              | fail)
            all_goals
              rename_i hHeld
              clear hHeld
              have hnext : Scu.reqsOf (l.take (k + 1)) = (qs ++ [⟨1 + p, x, oq⟩], nx') := by
                rw [reqs_next hlt, HST.out]
                simp only [Scu.reqStep]
                rw [HP.out, (if_neg (by rw [HNV.out, HPA.out]; exact fun h => h.elim HZ.out (fun h2 => absurd h2 (Int.not_lt.2 HG.out)))), HNX'.out, HX.out, HOQ.out]
              have HNEXT := Lib.hid hnext
              have HLEN := Lib.hid (show (Scu.reqsOf (l.take (k + 1))).1.length = qs.length + 1 by rw [hnext]; simp)
              clear hnext c0 c1 c2 c3 cn d0 d1 d2 d3 dn e0 e1 e2 e3 en f0 f1 f2 f3 fn
              go_wp2_with fail
              go_roundw
              case rel => exact ⟨k + 1, A9, c9, _, by omega, by omega, rfl, by rw [HLEN.out], by rw [HNEXT.out]; simpa using HNX.out⟩
              case measure => simp only [intOf]; omega
      · have hkm' : k = most := by omega
        have HF := Lib.hid (And.intro hI hst)
        clear hI hst hok
        have hlt' : (k : Int) < (l.length : Int) := by omega
        have hlm' : ¬ (k : Int) < (most : Int) := by omega
        subst hkm'
        go_wp2
        go_ret
        have e1 : Scu.requests l k = qs := by unfold Scu.requests; rw [HF.out.2]
        rw [e1]
        first | exact ⟨⟨_, _, rfl, css, HF.out.1.out.base_ (Nat.le_succ _)⟩, HF.out.1.low⟩ | exact ⟨⟨_, _, css, rfl, HF.out.1.out.base_ (Nat.le_succ _)⟩, HF.out.1.low⟩
    · have hkl' : k = l.length := by omega
      have HF := Lib.hid (And.intro hI hst)
      clear hI hst hok
      subst hkl'
      go_wp2
      go_ret
      have e1 : Scu.requests l most = qs := by unfold Scu.requests; rw [List.take_of_length_le hkm, ← List.take_of_length_le (Nat.le_refl l.length), HF.out.2]
      rw [e1]
      first | exact ⟨⟨_, _, rfl, css, HF.out.1.out.base_ (Nat.le_succ _)⟩, HF.out.1.low⟩ | exact ⟨⟨_, _, css, rfl, HF.out.1.out.base_ (Nat.le_succ _)⟩, HF.out.1.low⟩
end Go.Proofs.YtfpiembhlgcelaaDoor
namespace Scu

def L (s : Str) : List UInt8 := s.data.toList
theorem L_ext {s t : Str} (h : L s = L t) : s = t := by
  apply ByteArray.ext
  exact Array.toList_inj.1 h
theorem L_append (s t : Str) : L (s ++ t) = L s ++ L t := by
  simp [L, ByteArray.data_append]
theorem L_size (s : Str) : (L s).length = s.size := by simp [L]
theorem L_str0 : L str0 = [] := rfl
theorem L_mk (l : List UInt8) : L ⟨l.toArray⟩ = l := rfl
theorem L_extract (s : Str) (a b : Nat) : L (s.extract a b) = ((L s).drop a).take (b - a) := by
  simp [L, ByteArray.data_extract]
theorem L_dropS (s : Str) (k : Nat) : L (dropS s k) = (L s).drop k := by
  unfold dropS
  rw [L_extract, List.take_of_length_le (by rw [List.length_drop, L_size]; omega)]
theorem size_zero_iff (s : Str) : s.size = 0 ↔ s = str0 := by
  constructor
  · intro h
    apply L_ext
    rw [L_str0]
    exact List.length_eq_zero_iff.1 (by rw [L_size]; exact h)
  · rintro rfl; rfl
theorem str0_append (s : Str) : str0 ++ s = s := L_ext (by rw [L_append, L_str0, List.nil_append])
theorem append_str0 (s : Str) : s ++ str0 = s := L_ext (by rw [L_append, L_str0, List.append_nil])
theorem append_assoc_s (a b c : Str) : a ++ b ++ c = a ++ (b ++ c) := L_ext (by simp only [L_append, List.append_assoc])
theorem dropS_append (a b : Str) : dropS (a ++ b) a.size = b := L_ext (by rw [L_dropS, L_append, ← L_size, List.drop_left])
theorem extract_append (a b : Str) : (a ++ b).extract 0 a.size = a := L_ext (by rw [L_extract, L_append, ← L_size]; simp)
theorem byteAt_L (s : Str) (i : Nat) : byteAt s i = (((L s).getD i 0).toNat : Int) := rfl
theorem byteAt_append_lt (a b : Str) (i : Nat) (h : i < a.size) : byteAt (a ++ b) i = byteAt a i := by
  rw [byteAt_L, byteAt_L, L_append]
  simp [List.getElem?_append_left (by rw [L_size]; exact h : i < (L a).length)]
theorem byteAt_range (s : Str) (i : Nat) : 0 ≤ byteAt s i ∧ byteAt s i < 256 := by
  unfold byteAt
  have := (s.data.toList.getD i 0).toNat_lt
  omega
theorem b8_toNat (n : Int) : ((b8 n).toNat : Int) = n % 256 := by
  unfold b8
  rw [UInt8.toNat_ofNat']
  omega
theorem b8_of_byte (x : UInt8) : b8 (x.toNat : Int) = x := by
  apply UInt8.toNat_inj.1
  have := b8_toNat (x.toNat : Int)
  have := x.toNat_lt
  omega

theorem numBytes_size (n : Int) : (numBytes n).size = 4 := rfl
theorem num4_range (s : Str) : 0 ≤ num4 s ∧ num4 s < 4294967296 := by
  unfold num4
  have := byteAt_range s 0; have := byteAt_range s 1; have := byteAt_range s 2; have := byteAt_range s 3
  omega
theorem num4_numBytes (n : Int) (t : Str) (h0 : 0 ≤ n) (h1 : n ≤ 1073741824) : num4 (numBytes n ++ t) = n := by
  unfold num4
  rw [byteAt_append_lt _ _ 0 (by rw [numBytes_size]; omega), byteAt_append_lt _ _ 1 (by rw [numBytes_size]; omega), byteAt_append_lt _ _ 2 (by rw [numBytes_size]; omega), byteAt_append_lt _ _ 3 (by rw [numBytes_size]; omega)]
  have e0 : byteAt (numBytes n) 0 = (n / 16777216) % 256 := b8_toNat _
  have e1 : byteAt (numBytes n) 1 = (n / 65536) % 256 := b8_toNat _
  have e2 : byteAt (numBytes n) 2 = (n / 256) % 256 := b8_toNat _
  have e3 : byteAt (numBytes n) 3 = n % 256 := b8_toNat _
  rw [e0, e1, e2, e3]
  omega
theorem readNumber_numBytes (n : Int) (t : Str) (h0 : 0 ≤ n) (h1 : n ≤ 1073741824) : readNumber (numBytes n ++ t) = (n, t, 0) := by
  unfold readNumber
  rw [if_neg (by rw [ByteArray.size_append, numBytes_size]; omega), num4_numBytes n t h0 h1, if_neg (by omega)]
  have : dropS (numBytes n ++ t) 4 = t := dropS_append (numBytes n) t
  rw [this]
theorem textBytes_size (s : Str) : (textBytes s).size = 1 + s.size := by
  unfold textBytes
  rw [ByteArray.size_append]
  rfl
theorem byteAt_textBytes (s t : Str) (h : s.size ≤ 255) : byteAt (textBytes s ++ t) 0 = s.size := by
  rw [byteAt_append_lt _ _ 0 (by rw [textBytes_size]; omega)]
  unfold textBytes
  have e1 : byteAt ((⟨#[b8 (s.size : Int)]⟩ : Str) ++ s) 0 = byteAt (⟨#[b8 (s.size : Int)]⟩ : Str) 0 := byteAt_append_lt _ _ 0 (show 0 < 1 by omega)
  rw [e1]
  have : byteAt (⟨#[b8 (s.size : Int)]⟩ : Str) 0 = (s.size : Int) % 256 := b8_toNat _
  rw [this]
  omega
theorem readText_textBytes (s t : Str) (h : s.size ≤ 255) : readText (textBytes s ++ t) = (s, t, 0) := by
  unfold readText
  have hsz : (textBytes s ++ t).size = 1 + s.size + t.size := by rw [ByteArray.size_append, textBytes_size]
  rw [if_neg (by rw [hsz]; omega), byteAt_textBytes s t h, if_neg (by rw [hsz]; omega), show (1 + (s.size : Int)).toNat = 1 + s.size from by omega]
  have h1 : dropS (textBytes s ++ t) (1 + s.size) = t := by
    have := dropS_append (textBytes s) t
    rwa [textBytes_size] at this
  have h2 : (textBytes s ++ t).extract 1 (1 + s.size) = s := by
    apply L_ext
    rw [L_extract, L_append]
    unfold textBytes
    rw [L_append, L_mk]
    simp [← L_size]
  rw [h1, h2]

/- what begins so -/
def Pre (p s : Str) : Prop := L p <+: L s
theorem Pre.size {p s : Str} (h : Pre p s) : p.size ≤ s.size := by
  have := List.IsPrefix.length_le h
  rwa [L_size, L_size] at this
theorem Pre.split {p a b : Str} (h : Pre p (a ++ b)) (hs : a.size ≤ p.size) : ∃ q, p = a ++ q ∧ Pre q b := by
  unfold Pre at h
  rw [L_append] at h
  have ha : L a <+: L p := List.prefix_of_prefix_length_le (List.prefix_append _ _) h (by rw [L_size, L_size]; exact hs)
  obtain ⟨t, ht⟩ := ha
  refine ⟨⟨t.toArray⟩, L_ext (by rw [L_append, L_mk]; exact ht.symm), ?_⟩
  unfold Pre
  rw [L_mk]
  rw [← ht] at h
  exact (List.prefix_append_right_inj (L a)).1 h
theorem Pre.byte {p a : Str} (h : Pre p a) (i : Nat) (hi : i < p.size) : byteAt p i = byteAt a i := by
  obtain ⟨t, ht⟩ := h
  rw [byteAt_L, byteAt_L, ← ht]
  simp [List.getElem?_append_left (by rw [L_size]; exact hi : i < (L p).length)]

theorem readNumbers_numBytes : ∀ (l : List Int) (t : Str), (∀ n ∈ l, 0 ≤ n ∧ n ≤ 1073741824) → readNumbers l.length (catS (l.map numBytes) ++ t) = (l, t, 0)
  | [], t, _ => by simp [readNumbers, catS, str0_append]
  | n :: l, t, h => by
    have ih := readNumbers_numBytes l t (fun m hm => h m (List.mem_cons_of_mem _ hm))
    have hn := h n List.mem_cons_self
    simp only [List.length_cons, List.map_cons, catS, readNumbers]
    rw [append_assoc_s, readNumber_numBytes n _ hn.1 hn.2]
    simp [ih]
theorem readTexts_textBytes : ∀ (l : List Str) (t : Str), (∀ s ∈ l, s.size ≤ 255) → readTexts l.length (catS (l.map textBytes) ++ t) = (l, t, 0)
  | [], t, _ => by simp [readTexts, catS, str0_append]
  | s :: l, t, h => by
    have ih := readTexts_textBytes l t (fun m hm => h m (List.mem_cons_of_mem _ hm))
    have hn := h s List.mem_cons_self
    simp only [List.length_cons, List.map_cons, catS, readTexts]
    rw [append_assoc_s, readText_textBytes s _ hn]
    simp [ih]
/-- texts that are cut short are not read -/
theorem readTexts_cut : ∀ (l : List Str) (p : Str), (∀ s ∈ l, s.size ≤ 255) → Pre p (catS (l.map textBytes)) → p.size < (catS (l.map textBytes)).size →
    (readTexts l.length p).2.2 ≠ 0
  | [], p, _, _, hlt => by simp [catS, str0] at hlt
  | s :: l, p, h, hp, hlt => by
    have hs := h s List.mem_cons_self
    simp only [List.length_cons, List.map_cons, catS, readTexts] at hp hlt ⊢
    by_cases hsz : (textBytes s).size ≤ p.size
    · obtain ⟨q, rfl, hq⟩ := hp.split hsz
      rw [readText_textBytes s q hs]
      have hlt' : q.size < (catS (l.map textBytes)).size := by rw [ByteArray.size_append, ByteArray.size_append] at hlt; omega
      have := readTexts_cut l q (fun m hm => h m (List.mem_cons_of_mem _ hm)) hq hlt'
      simp [this]
    · have hr : (readText p).2.2 = 5 := by
        unfold readText
        rw [textBytes_size] at hsz
        by_cases h0 : p.size = 0
        · rw [if_pos h0]
        · rw [if_neg h0]
          have hb : byteAt p 0 = s.size := by rw [hp.byte 0 (by omega), byteAt_textBytes s _ hs]
          rw [hb, if_pos (by omega)]
      simp [hr]
/-- numbers that are cut short are not read -/
theorem readNumbers_cut : ∀ (l : List Int) (p t : Str), (∀ n ∈ l, 0 ≤ n ∧ n ≤ 1073741824) → Pre p (catS (l.map numBytes) ++ t) → p.size < 4 * l.length →
    (readNumbers l.length p).2.2 ≠ 0
  | [], p, t, _, _, hlt => by simp at hlt
  | n :: l, p, t, h, hp, hlt => by
    have hn := h n List.mem_cons_self
    simp only [List.length_cons, List.map_cons, catS, readNumbers] at hp hlt ⊢
    rw [append_assoc_s] at hp
    by_cases hsz : (numBytes n).size ≤ p.size
    · obtain ⟨q, rfl, hq⟩ := hp.split hsz
      rw [readNumber_numBytes n q hn.1 hn.2]
      have hlt' : q.size < 4 * l.length := by rw [ByteArray.size_append, numBytes_size] at hlt; omega
      have := readNumbers_cut l q t (fun m hm => h m (List.mem_cons_of_mem _ hm)) hq hlt'
      simp [this]
    · have hr : (readNumber p).2.2 = 5 := by
        unfold readNumber
        rw [numBytes_size] at hsz
        rw [if_pos (by omega)]
      simp [hr]

/- entries -/
theorem readText_rest (s : Str) (h : (readText s).2.2 = 0) : (readText s).1.size ≤ 255 := by
  unfold readText at h ⊢
  split
  · rename_i hx; rw [if_pos hx] at h; simp at h
  rename_i hx; rw [if_neg hx] at h
  split
  · rename_i hx; rw [if_pos hx] at h; simp at h
  · have := byteAt_range s 0
    simp only [ByteArray.size_extract]
    omega
theorem decode_size {s : Str} (h : (decode s).2 = 0) : s.size ≤ 40 := by
  unfold decode at h
  split at h
  · simp at h
  · omega
theorem opFault_ok {o : Op} (h : opFault o = 0) : 1 ≤ o.kind ∧ o.kind ≤ 4 ∧ 0 ≤ o.at_ ∧ o.at_ < 6 ∧ 0 ≤ o.snap ∧ o.snap ≤ 3 ∧ o.data.size ≤ 8 ∧
    (o.kind ≠ 3 → o.snap = 0) ∧ (o.kind = 4 → o.at_ = 0) ∧ (o.kind ≠ 1 → o.data = str0) := by
  unfold opFault at h
  split at h
  · omega
  split at h
  · omega
  split at h
  · omega
  split at h
  · omega
  rename_i h1 h2 h3 h4
  refine ⟨by omega, by omega, by omega, by omega, by omega, by omega, by omega, by omega, by omega, fun hk => ?_⟩
  apply (size_zero_iff _).1
  omega
theorem reqFault_ok {r : Request} (h : reqFault r = 0) : 1 ≤ r.client ∧ r.client ≤ 4 ∧ 1 ≤ r.num ∧ r.num ≤ 1048576 ∧ opFault r.op = 0 := by
  unfold reqFault at h
  split at h
  · omega
  · exact ⟨by omega, by omega, by omega, by omega, h⟩
theorem reqBytes_size (r : Request) : (reqBytes r).size = 9 + r.op.data.size := by
  unfold reqBytes
  rw [ByteArray.size_append, ByteArray.size_append, numBytes_size, textBytes_size]
  show 4 + 4 + _ = _
  omega
/-- a request is read as it was written -/
theorem decode_reqBytes {r : Request} (h : reqFault r = 0) : decode (reqBytes r) = (r, 0) := by
  obtain ⟨h1, h2, h3, h4, h5⟩ := reqFault_ok h
  obtain ⟨o1, o2, o3, o4, o5, o6, o7, o8, o9, o10⟩ := opFault_ok h5
  have hsz := reqBytes_size r
  have hd : dropS (reqBytes r) 4 = numBytes r.num ++ (textBytes r.op.data ++ str0) := by
    have := dropS_append (⟨#[b8 r.client, b8 r.op.kind, b8 r.op.at_, b8 r.op.snap]⟩ : Str) (numBytes r.num ++ textBytes r.op.data)
    unfold reqBytes
    rw [append_assoc_s, append_str0]
    exact this
  have hb : ∀ i, i < 4 → byteAt (reqBytes r) i = byteAt (⟨#[b8 r.client, b8 r.op.kind, b8 r.op.at_, b8 r.op.snap]⟩ : Str) i := fun i hi => by
    unfold reqBytes
    rw [append_assoc_s]
    exact byteAt_append_lt _ _ i hi
  have b0 : byteAt (reqBytes r) 0 = r.client := by
    rw [hb 0 (by omega)]
    have : byteAt (⟨#[b8 r.client, b8 r.op.kind, b8 r.op.at_, b8 r.op.snap]⟩ : Str) 0 = r.client % 256 := b8_toNat _
    omega
  have b1 : byteAt (reqBytes r) 1 = r.op.kind := by
    rw [hb 1 (by omega)]
    have : byteAt (⟨#[b8 r.client, b8 r.op.kind, b8 r.op.at_, b8 r.op.snap]⟩ : Str) 1 = r.op.kind % 256 := b8_toNat _
    omega
  have b2 : byteAt (reqBytes r) 2 = r.op.at_ := by
    rw [hb 2 (by omega)]
    have : byteAt (⟨#[b8 r.client, b8 r.op.kind, b8 r.op.at_, b8 r.op.snap]⟩ : Str) 2 = r.op.at_ % 256 := b8_toNat _
    omega
  have b3 : byteAt (reqBytes r) 3 = r.op.snap := by
    rw [hb 3 (by omega)]
    have : byteAt (⟨#[b8 r.client, b8 r.op.kind, b8 r.op.at_, b8 r.op.snap]⟩ : Str) 3 = r.op.snap % 256 := b8_toNat _
    omega
  unfold decode
  rw [if_neg (by omega), if_neg (by omega), hd, readNumber_numBytes _ _ (by omega) (by omega)]
  simp only [ne_eq, not_true_eq_false, if_false]
  rw [readText_textBytes _ _ (by omega), b0, b1, b2, b3]
  simp [h]

theorem logFault_ok : ∀ {l : List Str}, logFault l = 0 → ∀ e ∈ l, (decode e).2 = 0
  | [], _, _, he => by simp at he
  | x :: l, h, e, he => by
    unfold logFault at h
    split at h
    · exact absurd h (by assumption)
    · rcases List.mem_cons.1 he with rfl | he
      · omega
      · exact logFault_ok h e he
theorem logFault_mk : ∀ {l : List Str}, (∀ e ∈ l, (decode e).2 = 0) → logFault l = 0
  | [], _ => rfl
  | x :: l, h => by
    unfold logFault
    rw [if_neg (by have := h x List.mem_cons_self; omega)]
    exact logFault_mk fun e he => h e (List.mem_cons_of_mem _ he)
theorem keptFault_ok {k : Kept} (h : keptFault k = 0) : 0 ≤ k.view ∧ k.view ≤ 1048576 ∧ 0 ≤ k.normal ∧ k.normal ≤ k.view ∧ (k.calm = true → k.normal = k.view) ∧
    k.log.length ≤ 60 ∧ 0 ≤ k.commit ∧ k.commit ≤ k.log.length ∧ ∀ e ∈ k.log, (decode e).2 = 0 := by
  unfold keptFault at h
  split at h
  · omega
  split at h
  · omega
  split at h
  · omega
  rename_i h1 h2 h3
  refine ⟨by omega, by omega, by omega, by omega, fun hc => ?_, by omega, by omega, by omega, logFault_ok h⟩
  apply Classical.byContradiction
  intro hn
  exact h1 (.inr (.inr (.inr (.inr ⟨hc, hn⟩))))
theorem keptFault_mk {k : Kept} (h1 : 0 ≤ k.view) (h2 : k.view ≤ 1048576) (h3 : 0 ≤ k.normal) (h4 : k.normal ≤ k.view) (h5 : k.calm = true → k.normal = k.view)
    (h6 : k.log.length ≤ 60) (h7 : 0 ≤ k.commit) (h8 : k.commit ≤ k.log.length) (h9 : ∀ e ∈ k.log, (decode e).2 = 0) : keptFault k = 0 := by
  unfold keptFault
  rw [if_neg, if_neg (by omega), if_neg (by omega)]
  · exact logFault_mk h9
  · rintro (h | h | h | h | ⟨h, h'⟩)
    · omega
    · omega
    · omega
    · omega
    · exact h' (h5 h)

/- four bytes of a sum -/
theorem sealStep_bd (p : Int × Int) (b : UInt8) (_h : 0 ≤ p.1 ∧ 0 ≤ p.2) : 0 ≤ (sealStep p b).1 ∧ (sealStep p b).1 < 65521 ∧ 0 ≤ (sealStep p b).2 ∧ (sealStep p b).2 < 65521 := by
  unfold sealStep
  simp only
  omega
theorem sealXY_bd (l : List UInt8) : 0 ≤ (sealXY l).1 ∧ (sealXY l).1 < 65521 ∧ 0 ≤ (sealXY l).2 ∧ (sealXY l).2 < 65521 := by
  unfold sealXY
  have : ∀ (l : List UInt8) (p : Int × Int), (0 ≤ p.1 ∧ p.1 < 65521 ∧ 0 ≤ p.2 ∧ p.2 < 65521) → (0 ≤ (l.foldl sealStep p).1 ∧ (l.foldl sealStep p).1 < 65521 ∧ 0 ≤ (l.foldl sealStep p).2 ∧ (l.foldl sealStep p).2 < 65521) := by
    intro l
    induction l with
    | nil => intro p h; exact h
    | cons b l ih => intro p h; exact ih _ (sealStep_bd p b ⟨h.1, h.2.2.1⟩)
  exact this l (1, 0) (by simp)
def total (l : List UInt8) : Nat := (l.map UInt8.toNat).sum
theorem sealXY_x (l : List UInt8) : (sealXY l).1 = (1 + (total l : Int)) % 65521 := by
  unfold sealXY
  have : ∀ (l : List UInt8) (p : Int × Int), (0 ≤ p.1 ∧ p.1 < 65521) → (l.foldl sealStep p).1 = (p.1 + (total l : Int)) % 65521 := by
    intro l
    induction l with
    | nil => intro p h; simp [total]; omega
    | cons b l ih =>
      intro p h
      rw [List.foldl_cons, ih _ (by unfold sealStep; simp only; omega)]
      have e : (total (b :: l) : Int) = b.toNat + (total l : Int) := by simp [total]
      rw [e]
      unfold sealStep
      simp only
      omega
  exact this l (1, 0) (by simp)
theorem sealS_size (s : Str) : (sealS s).size = 4 := rfl
theorem sealS_inj_x {s t : Str} (h : sealS s = sealS t) : (sealXY (L s)).1 = (sealXY (L t)).1 := by
  have hs := sealXY_bd (L s)
  have ht := sealXY_bd (L t)
  have h2 : byteAt (sealS s) 2 = byteAt (sealS t) 2 := by rw [h]
  have h3 : byteAt (sealS s) 3 = byteAt (sealS t) 3 := by rw [h]
  have e2 : ∀ u : Str, byteAt (sealS u) 2 = ((sealXY (L u)).1 / 256) % 256 := fun u => b8_toNat _
  have e3 : ∀ u : Str, byteAt (sealS u) 3 = (sealXY (L u)).1 % 256 := fun u => b8_toNat _
  rw [e2, e2] at h2
  rw [e3, e3] at h3
  omega

/- what is kept -/
theorem catS_append (a b : List Str) : catS (a ++ b) = catS a ++ catS b := by
  induction a with
  | nil => simp [catS, str0_append]
  | cons x a ih => simp [catS, ih, append_assoc_s]
def nums (k : Kept) (gen : Int) : List Int := [gen, k.view, k.normal, if k.calm then 1 else 0, k.commit, k.log.length]
theorem keptBody_eq (k : Kept) (gen : Int) : keptBody k gen = catS ((nums k gen).map numBytes) ++ catS (k.log.map textBytes) := by
  unfold keptBody nums
  simp only [List.map_cons, List.map_nil, catS, append_assoc_s, str0_append]
theorem nums_bd {k : Kept} (h : keptFault k = 0) {gen : Int} (h0 : 0 ≤ gen) (h1 : gen ≤ 1073741824) : ∀ n ∈ nums k gen, 0 ≤ n ∧ n ≤ 1073741824 := by
  obtain ⟨k1, k2, k3, k4, k5, k6, k7, k8, k9⟩ := keptFault_ok h
  intro n hn
  simp only [nums, List.mem_cons, List.not_mem_nil, or_false] at hn
  rcases hn with rfl | rfl | rfl | rfl | rfl | rfl
  · omega
  · omega
  · omega
  · split <;> omega
  · omega
  · omega
theorem catS_nums_size (l : List Int) : (catS (l.map numBytes)).size = 4 * l.length := by
  induction l with
  | nil => rfl
  | cons n l ih => simp only [List.map_cons, catS, ByteArray.size_append, ih, numBytes_size, List.length_cons]; omega
theorem catS_texts_size (l : List Str) (h : ∀ s ∈ l, s.size ≤ 40) : (catS (l.map textBytes)).size ≤ 41 * l.length := by
  induction l with
  | nil => simp [catS, str0]
  | cons s l ih =>
    have := ih (fun x hx => h x (List.mem_cons_of_mem _ hx))
    have := h s List.mem_cons_self
    simp only [List.map_cons, catS, ByteArray.size_append, textBytes_size, List.length_cons]; omega
theorem log_small {k : Kept} (h : keptFault k = 0) : ∀ s ∈ k.log, s.size ≤ 40 := fun s hs => decode_size ((keptFault_ok h).2.2.2.2.2.2.2.2 s hs)
theorem keptBody_size {k : Kept} (h : keptFault k = 0) (gen : Int) : 24 ≤ (keptBody k gen).size ∧ (keptBody k gen).size ≤ 2484 := by
  rw [keptBody_eq, ByteArray.size_append, catS_nums_size]
  have := catS_texts_size k.log (log_small h)
  have := (keptFault_ok h).2.2.2.2.2.1
  simp only [nums, List.length_cons, List.length_nil]
  omega
theorem keptBytes_size {k : Kept} (h : keptFault k = 0) (gen : Int) : 28 ≤ (keptBytes k gen).size ∧ (keptBytes k gen).size ≤ 2488 := by
  unfold keptBytes
  rw [ByteArray.size_append, sealS_size]
  have := keptBody_size h gen
  omega
/-- WHAT IS KEPT IS READ AS IT WAS WRITTEN -/
theorem stageDecode_keptBytes {k : Kept} (h : keptFault k = 0) {gen : Int} (h0 : 0 ≤ gen) (h1 : gen ≤ 1073741824) : stageDecode (keptBytes k gen) = (k, gen, 0) := by
  have hsz := keptBytes_size h gen
  have hk := keptFault_ok h
  unfold stageDecode
  have hd : dropS (keptBytes k gen) 4 = keptBody k gen := dropS_append (sealS (keptBody k gen)) _
  have he : (keptBytes k gen).extract 0 4 = sealS (keptBody k gen) := extract_append (sealS (keptBody k gen)) _
  rw [if_neg (by omega), if_neg (by omega), hd, he, if_neg (by simp), keptBody_eq]
  have hn := readNumbers_numBytes (nums k gen) (catS (k.log.map textBytes)) (nums_bd h h0 h1)
  have hn' : readNumbers 6 (catS ((nums k gen).map numBytes) ++ catS (k.log.map textBytes)) = (nums k gen, catS (k.log.map textBytes), 0) := hn
  have ht := readTexts_textBytes k.log str0 (fun s hs => by have := log_small h s hs; omega)
  rw [append_str0] at ht
  rw [hn']
  have n3 : (nums k gen).getD 3 0 = if k.calm then 1 else 0 := rfl
  have n5 : (nums k gen).getD 5 0 = (k.log.length : Int) := rfl
  have n0 : (nums k gen).getD 0 0 = gen := rfl
  have n1 : (nums k gen).getD 1 0 = k.view := rfl
  have n2 : (nums k gen).getD 2 0 = k.normal := rfl
  have n4 : (nums k gen).getD 4 0 = k.commit := rfl
  simp only [ne_eq, not_true_eq_false, if_false, n0, n1, n2, n3, n4, n5, Int.toNat_natCast, ht]
  rw [if_neg (by rw [not_or]; refine ⟨by split <;> omega, by omega⟩)]
  have hc : ((if k.calm = true then (1 : Int) else 0) == 1) = k.calm := by cases k.calm <;> rfl
  rw [hc]
  have hkk : (⟨k.view, k.normal, k.calm, k.log, k.commit⟩ : Kept) = k := rfl
  rw [hkk]
  simp [h]
/-- what is torn is not read -/
theorem stageDecode_cut {k : Kept} (h : keptFault k = 0) {gen : Int} (h0 : 0 ≤ gen) (h1 : gen ≤ 1073741824) {p : Str} (hp : Pre p (keptBytes k gen))
    (hlt : p.size < (keptBytes k gen).size) : (stageDecode p).2.2 ≠ 0 := by
  have hsz := keptBytes_size h gen
  have hk := keptFault_ok h
  unfold stageDecode
  split
  · simp
  split
  · simp
  rename_i hs1 hs2
  split
  · simp
  obtain ⟨q, rfl, hq⟩ := Pre.split (a := sealS (keptBody k gen)) hp (by rw [sealS_size]; omega)
  have hd : dropS (sealS (keptBody k gen) ++ q) 4 = q := dropS_append (sealS (keptBody k gen)) _
  rw [hd]
  have hql : q.size < (keptBody k gen).size := by
    unfold keptBytes at hlt
    rw [ByteArray.size_append, ByteArray.size_append] at hlt
    omega
  rw [keptBody_eq] at hq hql
  have hbd := nums_bd h h0 h1
  by_cases h24 : q.size < 24
  · have := readNumbers_cut (nums k gen) q _ hbd hq h24
    have hn : (readNumbers 6 q).2.2 ≠ 0 := this
    simp only []
    rw [if_pos hn]
    exact hn
  · obtain ⟨q', rfl, hq'⟩ := hq.split (by rw [catS_nums_size]; show 4 * 6 ≤ q.size; omega)
    have hn := readNumbers_numBytes (nums k gen) q' hbd
    have hn' : readNumbers 6 (catS ((nums k gen).map numBytes) ++ q') = (nums k gen, q', 0) := hn
    have hql' : q'.size < (catS (k.log.map textBytes)).size := by rw [ByteArray.size_append, ByteArray.size_append] at hql; omega
    have ht := readTexts_cut k.log q' (fun s hs => by have := log_small h s hs; omega) hq' hql'
    have n3 : (nums k gen).getD 3 0 = if k.calm then 1 else 0 := rfl
    have n5 : (nums k gen).getD 5 0 = (k.log.length : Int) := rfl
    rw [hn']
    simp only [ne_eq, not_true_eq_false, if_false, n3, n5, Int.toNat_natCast]
    rw [if_neg (by rw [not_or]; refine ⟨by split <;> omega, by omega⟩), if_pos ht]
    exact ht
end Scu
/- Plain: an entry cut short is not read, nor one that is longer; entries of requests. -/
namespace Scu
set_option linter.unusedVariables false
set_option linter.unusedSimpArgs false

theorem decode_cut {r : Request} (h : reqFault r = 0) (k : Nat) (hk : k < (reqBytes r).size) : decode ((reqBytes r).extract 0 k) = (req0, 5) := by
  obtain ⟨h1, h2, h3, h4, h5⟩ := reqFault_ok h
  obtain ⟨o1, o2, o3, o4, o5, o6, o7, o8, o9, o10⟩ := opFault_ok h5
  have hsz := reqBytes_size r
  have hps : ((reqBytes r).extract 0 k).size = k := by rw [ByteArray.size_extract]; omega
  have hpre : Pre ((reqBytes r).extract 0 k) ((⟨#[b8 r.client, b8 r.op.kind, b8 r.op.at_, b8 r.op.snap]⟩ : Str) ++ (numBytes r.num ++ (textBytes r.op.data ++ str0))) := by
    unfold Pre
    rw [L_extract]
    have : (⟨#[b8 r.client, b8 r.op.kind, b8 r.op.at_, b8 r.op.snap]⟩ : Str) ++ (numBytes r.num ++ (textBytes r.op.data ++ str0)) = reqBytes r := by
      unfold reqBytes
      rw [append_str0, append_assoc_s]
    rw [this]
    exact List.take_prefix _ _
  obtain ⟨p, hp⟩ : ∃ p, p = (reqBytes r).extract 0 k := ⟨_, rfl⟩
  rw [← hp] at hps hpre ⊢
  clear hp
  unfold decode
  rw [if_neg (by omega)]
  by_cases h4' : p.size < 4
  · rw [if_pos h4']
  rw [if_neg h4']
  obtain ⟨q, rfl, hq⟩ := hpre.split (show (4 : Nat) ≤ p.size by omega)
  have hd : dropS ((⟨#[b8 r.client, b8 r.op.kind, b8 r.op.at_, b8 r.op.snap]⟩ : Str) ++ q) 4 = q := dropS_append (⟨#[b8 r.client, b8 r.op.kind, b8 r.op.at_, b8 r.op.snap]⟩ : Str) q
  rw [ByteArray.size_append] at hps
  have hps' : 4 + q.size = k := hps
  rw [hd]
  by_cases h8 : q.size < 4
  · have : readNumber q = (0, str0, 5) := by unfold readNumber; rw [if_pos h8]
    rw [this]
    simp
  obtain ⟨u, rfl, hu⟩ := hq.split (show (numBytes r.num).size ≤ q.size by rw [numBytes_size]; omega)
  rw [readNumber_numBytes _ _ (by omega) (by omega)]
  rw [ByteArray.size_append, numBytes_size] at hps'
  have hb : readText u = (str0, str0, 5) := by
    unfold readText
    by_cases h0 : u.size = 0
    · rw [if_pos h0]
    · rw [if_neg h0]
      have hb : byteAt u 0 = r.op.data.size := by rw [hu.byte 0 (by omega), byteAt_textBytes _ _ (by omega)]
      rw [hb, if_pos (by omega)]
  simp [hb]
theorem decode_more {r : Request} (h : reqFault r = 0) (t : Str) (ht : t.size = 1) : decode (reqBytes r ++ t) = (req0, 4) := by
  obtain ⟨h1, h2, h3, h4, h5⟩ := reqFault_ok h
  obtain ⟨o1, o2, o3, o4, o5, o6, o7, o8, o9, o10⟩ := opFault_ok h5
  have hsz := reqBytes_size r
  have hd : dropS (reqBytes r ++ t) 4 = numBytes r.num ++ (textBytes r.op.data ++ t) := by
    have := dropS_append (⟨#[b8 r.client, b8 r.op.kind, b8 r.op.at_, b8 r.op.snap]⟩ : Str) (numBytes r.num ++ (textBytes r.op.data ++ t))
    unfold reqBytes
    rw [append_assoc_s, append_assoc_s]
    exact this
  have ht0 : t ≠ str0 := fun e => by subst e; cases ht
  unfold decode
  rw [if_neg (by rw [ByteArray.size_append]; omega), if_neg (by rw [ByteArray.size_append]; omega), hd, readNumber_numBytes _ _ (by omega) (by omega)]
  simp only [ne_eq, not_true_eq_false, if_false]
  rw [readText_textBytes _ _ (by omega)]
  simp [ht0]
theorem encode_ok {r : Request} (h : reqFault r = 0) : encode r = (reqBytes r, 0) := by unfold encode; rw [if_neg (by simp [h])]
/-- entries of requests -/
def entries (l : List Request) : List Str := l.map reqBytes
theorem entries_snoc (l : List Request) (r : Request) : entries (l ++ [r]) = entries l ++ [reqBytes r] := by unfold entries; rw [List.map_append]; rfl
theorem entries_length (l : List Request) : (entries l).length = l.length := List.length_map _
theorem requests_length (l : List Raw) (most : Nat) : (requests l most).length = min most l.length := by
  unfold requests
  rw [(reqs_ok (l.take most)).len, List.length_take]
end Scu

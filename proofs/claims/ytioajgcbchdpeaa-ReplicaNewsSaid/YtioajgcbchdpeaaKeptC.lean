/- Walks: copies of what is kept, and whether it is the same; the laws StageCopies and StageChecks. -/
import Derived.Test.YtioajgcbchdpeaaKeptR
import Derived.Test.YtioajgcbchdpeaaApp
namespace Go.Proofs.Ytioajgcbchdpeaa
open Go.RowKit
set_option maxHeartbeats 400000
set_option maxRecDepth 100000

def OwnStrs (w : World) (base : Nat) (v : Value) (xs : List Scu.Str) : Prop := w.ownsRow base 9 1 v xs.length (xs.map Value.string) ∧ xs.length * 16 ≤ R47 ∧ ∀ s ∈ xs, s.size ≤ R47
theorem OwnStrs.is {w : World} {base : Nat} {v : Value} {xs : List Scu.Str} (h : OwnStrs w base v xs) : IsStrs w 0 v xs := strs_own h.1 h.2.1 h.2.2
theorem OwnStrs.form {w : World} {base : Nat} {v : Value} {xs : List Scu.Str} (h : OwnStrs w base v xs) : ∃ A n c, v = .slice A n c := h.is.form
theorem OwnStrs.below {w w' : World} {base : Nat} {v : Value} {xs : List Scu.Str} (h : OwnStrs w base v xs) (hb : Below w.heap.size w w') : OwnStrs w' base v xs := ⟨own_below h.1 hb, h.2.1, h.2.2⟩
theorem OwnStrs.alloc {w : World} {base : Nat} {v : Value} {xs : List Scu.Str} (h : OwnStrs w base v xs) (o : Obj) : OwnStrs (w.alloc o) base v xs := h.below (below_alloc w o)
theorem OwnStrs.base_ {w : World} {base base' : Nat} {v : Value} {xs : List Scu.Str} (h : OwnStrs w base v xs) (hb : base' ≤ base) : OwnStrs w base' v xs := ⟨ownsRow_base h.1 hb, h.2.1, h.2.2⟩
theorem OwnStrs.set_ {w : World} {base : Nat} {v : Value} {xs : List Scu.Str} (h : OwnStrs w base v xs) {g i : Nat} {t : TypeId} {cs : Array Value} (hb : Blk w g t cs) (hne : t ≠ 9) (u : Value) : OwnStrs (w.setCell ⟨g, i, none⟩ u) base v xs := ⟨own_set h.1 hb hne u, h.2.1, h.2.2⟩
theorem own_same {w w' : World} {Ts : List TypeId} {B base : Nat} {e : TypeId} {size n : Nat} {v : Value} {xs : List Value} (h : w.ownsRow base e size v n xs) (ht : e ∈ Ts) (hs : Same Ts B w w') : w'.ownsRow base e size v n xs := by
  obtain ⟨h1, h2 | ⟨g, cap, cur, rfl, h3, h4, h5⟩⟩ := h
  · exact ⟨h1, .inl h2⟩
  · have hlt : g < w.heap.size := by
      rcases Nat.lt_or_ge g w.heap.size with hlt | hge
      · exact hlt
      · rw [Array.getElem?_eq_none hge] at h4; cases h4
    have := hs.keep g hlt (.inr ⟨_, _, _, ht, h4⟩)
    exact ⟨h1, .inr ⟨g, cap, cur, rfl, h3, by rw [this]; exact h4, h5⟩⟩
theorem OwnStrs.same {w w' : World} {B base : Nat} {v : Value} {xs : List Scu.Str} (h : OwnStrs w base v xs) (hs : Same [9] B w w') : OwnStrs w' base v xs := ⟨own_same h.1 (by simp) hs, h.2.1, h.2.2⟩
theorem Same.sets5 {Ts : List TypeId} {B g : Nat} {w : World} {t : TypeId} {cs : Array Value} (hb : Blk w g t cs) (hB : B ≤ g) (ht : t ∉ Ts) (a b c d e : Value) :
    Same Ts B w (((((w.setCell ⟨g, 0, none⟩ a).setCell ⟨g, 1, none⟩ b).setCell ⟨g, 2, none⟩ c).setCell ⟨g, 3, none⟩ d).setCell ⟨g, 4, none⟩ e) :=
  ((((Same.set_ hb hB ht 0 a).trans (Same.set_ (hb.set_ 0 a) hB ht 1 b)).trans (Same.set_ ((hb.set_ 0 a).set_ 1 b) hB ht 2 c)).trans (Same.set_ (((hb.set_ 0 a).set_ 1 b).set_ 2 c) hB ht 3 d)).trans (Same.set_ ((((hb.set_ 0 a).set_ 1 b).set_ 2 c).set_ 3 d) hB ht 4 e)
theorem below_set5 {B g : Nat} {w w1 : World} {a b c d e : Value} (h : Below B w w1) (hg : B ≤ g) :
    Below B w (((((w1.setCell ⟨g, 0, none⟩ a).setCell ⟨g, 1, none⟩ b).setCell ⟨g, 2, none⟩ c).setCell ⟨g, 3, none⟩ d).setCell ⟨g, 4, none⟩ e) :=
  ((((h.setCell (p := ⟨g, 0, none⟩) hg _).setCell (p := ⟨g, 1, none⟩) hg _).setCell (p := ⟨g, 2, none⟩) hg _).setCell (p := ⟨g, 3, none⟩) hg _).setCell (p := ⟨g, 4, none⟩) hg _
def KeptRet (w : World) (base : Nat) (k : Scu.Kept) (e : Ending) : Prop := ∃ lv, e = .returned (.agg #[.int .i64 k.view, .int .i64 k.normal, .bool k.calm, lv, .int .i64 k.commit]) ∧ OwnStrs w base lv k.log

theorem stageCopy_c (lv : Value) (k : Scu.Kept) (w : World) (B : Nat) (hv : IsStrs w B lv k.log) :
    Calls Try.prog 53 #[.agg #[.int .i64 k.view, .int .i64 k.normal, .bool k.calm, lv, .int .i64 k.commit]] w fun e w' => KeptRet w' w.heap.size k e ∧ Below w.heap.size w w' := by
  have HV := Lib.hid hv
  obtain ⟨A, n, c, rfl⟩ := hv.form
  have hb0 := Blk.new w 28 #[.int .i64 k.view, .int .i64 k.normal, .bool k.calm, .slice A n c, .int .i64 k.commit]
  clear hv
  go_enter Try.func53, Try.ntmps53
  go_wp2_with fail
  refine (cloneStrs_c _ k.log _ B ((HV.out.alloc _).alloc _)).mono ?_; rintro e w1 ⟨⟨u, rfl, hu⟩, h1⟩
  obtain ⟨hc, hz⟩ := bcell h1
  have hsz : w.heap.size + 1 < w1.heap.size := by have := h1.size; simp at this; omega
  have hsz' : w.heap.size < w1.heap.size := by omega
  have HB1 := Lib.hid ((hb0.alloc (Obj.cells #[.int .i64 0, .int .i64 0, .bool false, .slice none 0 0, .int .i64 0] 28)).same h1)
  have HR1 := Lib.hid ((Blk.new (w.alloc (Obj.cells #[.int .i64 k.view, .int .i64 k.normal, .bool k.calm, .slice A n c, .int .i64 k.commit] 28)) 28 #[.int .i64 0, .int .i64 0, .bool false, .slice none 0 0, .int .i64 0]).same h1)
  obtain ⟨A2, c2, rfl, _, _, _, _⟩ := rd_own hu
  have hB1 : Below w.heap.size w w1 := (((Below.refl _ _).alloc (Nat.le_refl _) _).alloc (by simp) _).trans (h1.mono (by simp; omega))
  have HU := Lib.hid (show OwnStrs w1 _ _ k.log from ⟨hu, HV.out.len, HV.out.each⟩)
  clear hu hb0
  have hq := HB1.out.set_ 3 (.slice A2 k.log.length c2)
  have hr := HR1.out.far (p := ⟨w.heap.size, 3, none⟩) (by simp) (.slice A2 k.log.length c2)
  simp only [World.size_alloc] at hr
  have hr5 := ((((hr.set_ 0 (.int .i64 k.view)).set_ 1 (.int .i64 k.normal)).set_ 2 (.bool k.calm)).set_ 3 (.slice A2 k.log.length c2)).set_ 4 (.int .i64 k.commit)
  have u0 := hq.cell 0
  have u1 := hq.cell 1
  have u2 := hq.cell 2
  have u3 := hq.cell 3
  have u4 := hq.cell 4
  simp at u0 u1 u2 u3 u4
  have v0 := hr.cell 0
  have v1 := hr.cell 1
  have v2 := hr.cell 2
  have v3 := hr.cell 3
  have v4 := hr.cell 4
  simp at v0 v1 v2 v3 v4
  have x0 := hr5.cell 0
  have x1 := hr5.cell 1
  have x2 := hr5.cell 2
  have x3 := hr5.cell 3
  have x4 := hr5.cell 4
  simp at x0 x1 x2 x3 x4
  have uz := hq.frozen
  have vz := hr.frozen
  have HQ := Lib.hid (And.intro hq (And.intro hr hr5))
  clear hq hr hr5
  go_wp2
  refine bodyPost_ret (v := .agg #[.int .i64 k.view, .int .i64 k.normal, .bool k.calm, .slice A2 k.log.length c2, .int .i64 k.commit]) (by simp [results, Try.results53, go_sem, x0, x1, x2, x3, x4]) rfl ?_
  refine ⟨⟨_, rfl, ?_⟩, ?_⟩
  · exact ((HU.out.base_ (by simp; omega)).same (Same.set_ (B := 0) HB1.out (Nat.zero_le _) (by decide) 3 _)).same (Same.sets5 (B := 0) HQ.out.2.1 (Nat.zero_le _) (by decide) _ _ _ _ _)
  · exact below_set5 (hB1.setCell (p := ⟨w.heap.size, 3, none⟩) (Nat.le_refl _) _) (Nat.le_succ _)

theorem keptCopy_c (lv : Value) (k : Scu.Kept) (w : World) (B : Nat) (hv : IsStrs w B lv k.log) :
    Calls Try.prog 65 #[.agg #[.int .i64 k.view, .int .i64 k.normal, .bool k.calm, lv, .int .i64 k.commit]] w fun e w' => KeptRet w' w.heap.size k e ∧ Below w.heap.size w w' := by
  obtain ⟨⟨A, c, rfl, _, hr⟩, hl, he⟩ := hv
  have hl' := hl
  unfold R47 at hl'
  have hb0 := Blk.new w 28 #[.int .i64 k.view, .int .i64 k.normal, .bool k.calm, .slice A k.log.length c, .int .i64 k.commit]
  have hs0 : Src1 ((w.alloc (Obj.cells #[.int .i64 k.view, .int .i64 k.normal, .bool k.calm, .slice A k.log.length c, .int .i64 k.commit] 28)).alloc (Obj.cells #[.int .i64 0, .int .i64 0, .bool false, .slice none 0 0, .int .i64 0] 28)) 1 (.slice A k.log.length c) k.log.length (k.log.map Value.string) :=
    src_of_rd ((hr.alloc _).alloc _) (by simp) (fun e => by subst e; have := rd_none hr; simpa using this)
  have HS0 := Lib.hid hs0
  have HEL := Lib.hid (And.intro hl he)
  have HB0 := Lib.hid hb0
  clear hs0 hr he hl hb0
  go_enter Try.func65, Try.ntmps65
  go_wp2_with
    (at_builtin
     refine list_app _ rfl (.const (.slice none 0 0)) (.tmp 4) 26 rfl el_strs w.heap.size (.slice none 0 0) 0 [] rfl (World.ownsRow_nil _ _ _ _) (.slice A k.log.length c) k.log.length (k.log.map Value.string) rfl HS0.out (one_strs _) (by unfold maxLen; omega) (by omega) (by simp; omega) ?_
     intro u1 w1 hu hg1 _
     have h1 : Below ((w.alloc (Obj.cells #[.int .i64 k.view, .int .i64 k.normal, .bool k.calm, .slice A k.log.length c, .int .i64 k.commit] 28)).alloc (Obj.cells #[.int .i64 0, .int .i64 0, .bool false, .slice none 0 0, .int .i64 0] 28)).heap.size ((w.alloc (Obj.cells #[.int .i64 k.view, .int .i64 k.normal, .bool k.calm, .slice A k.log.length c, .int .i64 k.commit] 28)).alloc (Obj.cells #[.int .i64 0, .int .i64 0, .bool false, .slice none 0 0, .int .i64 0] 28)) w1 := below_grown hg1 (Nat.le_refl _) (fun q hq => by cases hq)
     have hu : w1.ownsRow w.heap.size 9 1 u1 k.log.length (k.log.map Value.string) := (by simpa only [Nat.zero_add, List.nil_append] using hu)
     have HU := Lib.hid (show OwnStrs w1 w.heap.size u1 k.log from ⟨hu, HEL.out.1, HEL.out.2⟩)
     obtain ⟨A2, c2, rfl, _, _, _, _⟩ := rd_own hu
     have hB1 : Below w.heap.size w w1 := (((Below.refl _ _).alloc (Nat.le_refl _) _).alloc (by simp) _).trans (h1.mono (by simp; omega))
     have HB1 := Lib.hid ((HB0.out.alloc (Obj.cells #[.int .i64 0, .int .i64 0, .bool false, .slice none 0 0, .int .i64 0] 28)).same h1)
     have HR1 := Lib.hid ((Blk.new (w.alloc (Obj.cells #[.int .i64 k.view, .int .i64 k.normal, .bool k.calm, .slice A k.log.length c, .int .i64 k.commit] 28)) 28 #[.int .i64 0, .int .i64 0, .bool false, .slice none 0 0, .int .i64 0]).same h1)
     have hb3 := HB1.out.cell 3
     simp at hb3
     have hbz := HB1.out.frozen
     have hq := HB1.out.set_ 3 (.slice A2 k.log.length c2)
     have hr := HR1.out.far (p := ⟨w.heap.size, 3, none⟩) (by simp) (.slice A2 k.log.length c2)
     simp only [World.size_alloc] at hr
     have hr5 := ((((hr.set_ 0 (.int .i64 k.view)).set_ 1 (.int .i64 k.normal)).set_ 2 (.bool k.calm)).set_ 3 (.slice A2 k.log.length c2)).set_ 4 (.int .i64 k.commit)
     have u0 := hq.cell 0
     have u1 := hq.cell 1
     have u2 := hq.cell 2
     have u3 := hq.cell 3
     have u4 := hq.cell 4
     simp at u0 u1 u2 u3 u4
     have v0 := hr.cell 0
     have v1 := hr.cell 1
     have v2 := hr.cell 2
     have v3 := hr.cell 3
     have v4 := hr.cell 4
     simp at v0 v1 v2 v3 v4
     have x0 := hr5.cell 0
     have x1 := hr5.cell 1
     have x2 := hr5.cell 2
     have x3 := hr5.cell 3
     have x4 := hr5.cell 4
     simp at x0 x1 x2 x3 x4
     have uz := hq.frozen
     have vz := hr.frozen
     have HQ := Lib.hid (And.intro hq (And.intro hr hr5))
     clear hq hr hr5 hg1 h1 hu)
  refine bodyPost_ret (v := .agg #[.int .i64 k.view, .int .i64 k.normal, .bool k.calm, .slice A2 k.log.length c2, .int .i64 k.commit]) (by simp [results, Try.results65, go_sem, x0, x1, x2, x3, x4]) rfl ?_
  refine ⟨⟨_, rfl, ?_⟩, ?_⟩
  · exact ((HU.out.base_ (by simp)).same (Same.set_ (B := 0) HB1.out (Nat.zero_le _) (by decide) 3 _)).same (Same.sets5 (B := 0) HQ.out.2.1 (Nat.zero_le _) (by decide) _ _ _ _ _)
  · exact below_set5 (hB1.setCell (p := ⟨w.heap.size, 3, none⟩) (Nat.le_refl _) _) (Nat.le_succ _)
end Go.Proofs.Ytioajgcbchdpeaa

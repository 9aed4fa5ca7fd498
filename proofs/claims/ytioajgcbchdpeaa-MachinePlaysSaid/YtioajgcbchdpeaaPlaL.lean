/- The law MachinePlays, walked. -/
import Derived.Test.YtioajgcbchdpeaaPlaR
namespace Go.Proofs.Ytioajgcbchdpeaa
open Go.RowKit Go.ChangeShapes Go.WideShapes Go.ChangeAt
set_option maxHeartbeats 1000000
set_option maxRecDepth 100000

section
variable {H : Type} {enc : TypeId × Value → H} {w : World} {base : Nat} {spare : Nat → Bool} {held : Bool}
theorem openS_Strs {v : Value} {d : DataW H} {p : List MemPlace} {b0 : Nat} (hv : Value.okWide Try.prog w .any b0 26 v) (h : DataW.Trod enc Try.prog w base spare held 26 v d p)
    (hw : ∀ k ∈ d.weights Try.prog 26, k ≤ reachBytes) : ∃ y, IsStrs w w.heap.size v y := by
  obtain ⟨a, len, cap, rfl⟩ := okWide_slice Try.underlying26 hv
  obtain ⟨fuel, hf⟩ := h
  exact trod_strs hf hw
end
theorem play_a (v : Value) (l : List Scu.Str) (w : World) (B : Nat) (hv : IsStrs w B v l) (y : Scu.State) (c : Int) (h : Scu.play l = (y, c)) :
    Calls Try.prog 47 #[v] w fun e w' => AppRet w' y c e ∧ Below w.heap.size w w' := by
  have := play_c v l w B hv
  rw [h] at this
  exact this
theorem played_a (v : Value) (l : List Scu.Str) (w : World) (B : Nat) (hv : IsStrs w B v l) (y : Scu.State) (c : Int) (h : Scu.play l = (y, c)) :
    Calls Try.prog 48 #[v] w fun e w' => AppRet w' y c e ∧ Below w.heap.size w w' := by
  have := played_c v l w B hv
  rw [h] at this
  exact this
theorem lawMachinePlays_w (v : Value) (l : List Scu.Str) {w : World} (h : IsStrs w w.heap.size v l) (W : World) (hW : W = w) :
    Calls Try.prog 15 #[v] W fun e w' => e = .returned (.bool true) ∧ Below W.heap.size W w' := by
  subst hW
  obtain ⟨q, hq⟩ : ∃ q, Scu.play l = q := ⟨_, rfl⟩
  obtain ⟨y, c⟩ := q
  have HQ := Lib.hid hq
  have HV := Lib.hid h
  obtain ⟨⟨A0, c0, rfl, _, hr⟩, hl, _⟩ := h
  unfold R47 at hl
  have HMX := Lib.hid (show 0 + l.length ≤ maxLen ∧ (0 + l.length) * 16 ≤ 140737488355328 by unfold maxLen; omega)
  have HSRC := Lib.hid (src_of_rd (size := 1) hr (by simp) (fun e => by subst e; have := rd_none hr; simpa using this) : Src1 W 1 (.slice A0 l.length c0) l.length (l.map Value.string))
  clear hq hr hl
  go_enter Try.func15, Try.ntmps15
  go_wp2_with (at_builtin; refine list_app _ rfl (.const (.slice none 0 0)) (.tmp 8) 26 rfl el_strs W.heap.size (.slice none 0 0) 0 [] rfl (World.ownsRow_nil _ _ _ _) (.slice A0 l.length c0) l.length (l.map Value.string) rfl HSRC.out (one_strs _) HMX.out.1 HMX.out.2 (Nat.le_refl _) ?_)
  intro us w1 hu hg1 _
  have hu : w1.ownsRow W.heap.size 9 1 us l.length (l.map Value.string) := by simpa only [Nat.zero_add, List.nil_append] using hu
  have h1 := below_grown hg1 (Nat.le_refl _) (fun q hq => by cases hq)
  have hU : OwnStrs w1 W.heap.size us l := ⟨hu, HV.out.len, HV.out.each⟩
  obtain ⟨A2, n2, c2, rfl⟩ := hU.form
  have HU := Lib.hid hU
  have HB := Lib.hid h1
  clear hu hg1 h1 hU HSRC
  go_wp2_with fail
  refine (play_a _ l _ 0 HU.out.is y c HQ.out).mono ?_; rintro en w2 ⟨⟨na, sa, la, rfl, ha⟩, h2⟩
  obtain ⟨A3, n3, c3, rfl⟩ := ha.vol.now.form
  obtain ⟨A4, n4, c4, rfl⟩ := ha.vol.snaps.form
  obtain ⟨A5, n5, c5, rfl⟩ := ha.lasts.form
  have HA := Lib.hid ha
  have HB2 := Lib.hid (HB.out.trans (h2.mono HB.out.size))
  clear ha h2
  go_wp2_with fail
  have h0 := below_alloc w2 (Obj.cells #[.slice A3 n3 c3, .slice A4 n4 c4, .slice A5 n5 c5] 65)
  refine (played_a _ l _ W.heap.size (HV.out.below (HB2.out.trans (h0.mono HB2.out.size))) y c HQ.out).mono ?_; rintro en w3 ⟨⟨nb, sb, lb, rfl, hb⟩, h3⟩
  obtain ⟨A6, n6, c6, rfl⟩ := hb.vol.now.form
  obtain ⟨A7, n7, c7, rfl⟩ := hb.vol.snaps.form
  obtain ⟨A8, n8, c8, rfl⟩ := hb.lasts.form
  have h23 := h0.trans (h3.mono h0.size)
  have ha3 : Blk w3 w2.heap.size 65 #[.slice A3 n3 c3, .slice A4 n4 c4, .slice A5 n5 c5] := (Blk.new w2 _ _).same h3
  have a0 := ha3.cell 0
  have a1 := ha3.cell 1
  have a2 := ha3.cell 2
  simp only [List.getElem?_toArray, List.getElem?_cons_zero, List.getElem?_cons_succ] at a0 a1 a2
  have al := ha3.lt
  have HA3 := Lib.hid (HA.out.below h23)
  have HB3 := Lib.hid hb
  have H3 := Lib.hid (HB2.out.trans (h23.mono HB2.out.size))
  clear ha3 hb h0 h3 h23
  go_wp2_with fail
  have h0 := below_alloc w3 (Obj.cells #[.slice A6 n6 c6, .slice A7 n7 c7, .slice A8 n8 c8] 65)
  refine (sameState_c _ _ _ _ _ _ y y _ 0 0 (HA3.out.below h0) (HB3.out.below h0)).mono ?_; rintro en w4 ⟨rfl, h4⟩
  have H4 := Lib.hid (H3.out.trans ((h0.trans (h4.mono h0.size)).mono H3.out.size))
  clear h0 h4
  go_wp2
  go_ret
  exact ⟨by simp, H4.out⟩
end Go.Proofs.Ytioajgcbchdpeaa

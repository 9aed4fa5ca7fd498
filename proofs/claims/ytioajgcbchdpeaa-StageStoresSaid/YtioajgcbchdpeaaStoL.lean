/- The law StageStores, walked. -/
import Derived.Test.YtioajgcbchdpeaaStgSa
import Derived.Test.YtioajgcbchdpeaaStgSb
namespace Go.Proofs.Ytioajgcbchdpeaa
open Go.RowKit
set_option maxHeartbeats 1000000
set_option maxRecDepth 100000

theorem store_a (v lv : Value) (l : List Scu.Str) (k : Scu.Kept) (up : Int) (w : World) (B BK : Nat) (hv : IsStrs w B v l) (hk : IsStrs w BK lv k.log) (m : List Scu.Str) (c : Int) (h : Scu.store l k up = (m, c)) :
    Calls Try.prog 49 #[v, .agg #[.int .i64 k.view, .int .i64 k.normal, .bool k.calm, lv, .int .i64 k.commit], .int .i64 up] w fun e w' => (∃ u, e = .returned (.tuple #[u, .int .i64 c]) ∧ OwnStrs w' w.heap.size u m) ∧ Below w.heap.size w w' := by
  have := stageStore_c v lv l k up w B BK hv hk
  rw [h] at this
  exact this
theorem stored_a (v lv : Value) (l : List Scu.Str) (k : Scu.Kept) (up : Int) (w : World) (B BK : Nat) (hv : IsStrs w B v l) (hk : IsStrs w BK lv k.log) (m : List Scu.Str) (c : Int) (h : Scu.store l k up = (m, c)) :
    Calls Try.prog 50 #[v, .agg #[.int .i64 k.view, .int .i64 k.normal, .bool k.calm, lv, .int .i64 k.commit], .int .i64 up] w fun e w' => (∃ u, e = .returned (.tuple #[u, .int .i64 c]) ∧ OwnStrs w' w.heap.size u m) ∧ Below w.heap.size w w' := by
  have := storedOf_c v lv l k up w B BK hv hk
  rw [h] at this
  exact this
theorem lawStageStores_w (v : Value) (l : List Scu.Str) {w : World} (h : IsStrs w w.heap.size v l) (u : Value) (k : Scu.Kept) (hk : IsKeptV w u k) (up : Int) (_ : (Lit.int .i64 up).wf = true) (W : World) (hW : W = w) :
    Calls Try.prog 16 #[v, u, .int .i64 up] W fun e w' => e = .returned (.bool true) ∧ Below W.heap.size W w' := by
  subst hW
  obtain ⟨lv, rfl, hk⟩ := hk
  obtain ⟨A1, n1, c1, rfl⟩ := hk.form
  obtain ⟨q, hq⟩ : ∃ q, Scu.store l k up = q := ⟨_, rfl⟩
  obtain ⟨m, c⟩ := q
  have HQ := Lib.hid hq
  have HV := Lib.hid h
  have HK := Lib.hid hk
  obtain ⟨⟨A0, c0, rfl, _, hr⟩, hl, _⟩ := h
  unfold R47 at hl
  have HMX := Lib.hid (show 0 + l.length ≤ maxLen ∧ (0 + l.length) * 16 ≤ 140737488355328 by unfold maxLen; omega)
  have HSRC := Lib.hid (src_of_rd (size := 1) (hr.alloc (Obj.cells #[.int .i64 k.view, .int .i64 k.normal, .bool k.calm, .slice A1 n1 c1, .int .i64 k.commit] 28)) (by simp) (fun e => by subst e; have := rd_none hr; simpa using this) : Src1 (W.alloc (Obj.cells #[.int .i64 k.view, .int .i64 k.normal, .bool k.calm, .slice A1 n1 c1, .int .i64 k.commit] 28)) 1 (.slice A0 l.length c0) l.length (l.map Value.string))
  clear hq hk hr hl
  go_enter Try.func16, Try.ntmps16
  go_wp2_with (at_builtin; refine list_app _ rfl (.const (.slice none 0 0)) (.tmp 12) 26 rfl el_strs (W.heap.size + 1) (.slice none 0 0) 0 [] rfl (World.ownsRow_nil _ _ _ _) (.slice A0 l.length c0) l.length (l.map Value.string) rfl HSRC.out (one_strs _) HMX.out.1 HMX.out.2 ?_ ?_)
  · simp
  intro us w1 hu hg1 _
  have hu : w1.ownsRow (W.heap.size + 1) 9 1 us l.length (l.map Value.string) := by simpa only [Nat.zero_add, List.nil_append] using hu
  have h1 := below_grown hg1 (Nat.le_refl _) (fun q hq => by cases hq)
  have hU : OwnStrs w1 (W.heap.size + 1) us l := ⟨hu, HV.out.len, HV.out.each⟩
  obtain ⟨A2, n2, c2, rfl⟩ := hU.form
  have hkb : Blk w1 W.heap.size 28 #[.int .i64 k.view, .int .i64 k.normal, .bool k.calm, .slice A1 n1 c1, .int .i64 k.commit] := (Blk.new W _ _).same h1
  have hb := below_box h1
  have k0 := hkb.cell 0
  have k1 := hkb.cell 1
  have k2 := hkb.cell 2
  have k3 := hkb.cell 3
  have k4 := hkb.cell 4
  simp only [List.getElem?_toArray, List.getElem?_cons_zero, List.getElem?_cons_succ] at k0 k1 k2 k3 k4
  have kl := hkb.lt
  have HU := Lib.hid hU
  have HB := Lib.hid (And.intro hkb hb)
  clear hu hg1 h1 hU hkb hb HSRC
  go_wp2_with fail
  refine (store_a _ _ l k up _ 0 W.heap.size HU.out.is (HK.out.below HB.out.2) m c HQ.out).mono ?_; rintro en w2 ⟨⟨ua, rfl, ha⟩, h2⟩
  obtain ⟨A3, n3, c3, rfl⟩ := ha.form
  have hkb := HB.out.1.same h2
  have hb := HB.out.2.trans (h2.mono HB.out.2.size)
  have hU := HU.out.below h2
  clear k0 k1 k2 k3 k4 kl
  have k0 := hkb.cell 0
  have k1 := hkb.cell 1
  have k2 := hkb.cell 2
  have k3 := hkb.cell 3
  have k4 := hkb.cell 4
  simp only [List.getElem?_toArray, List.getElem?_cons_zero, List.getElem?_cons_succ] at k0 k1 k2 k3 k4
  have kl := hkb.lt
  have HU2 := Lib.hid hU
  have HA := Lib.hid ha
  have HB2 := Lib.hid (And.intro hkb hb)
  clear hkb hb hU ha h2 HB HU
  go_wp2_with fail
  refine (stored_a _ _ l k up _ W.heap.size W.heap.size (HV.out.below HB2.out.2) (HK.out.below HB2.out.2) m c HQ.out).mono ?_; rintro en w3 ⟨⟨ub, rfl, hb'⟩, h3⟩
  obtain ⟨A4, n4, c4, rfl⟩ := hb'.form
  have HU3 := Lib.hid (HU2.out.below h3)
  have HA3 := Lib.hid (HA.out.below h3)
  have HB3 := Lib.hid hb'
  have H3 := Lib.hid (HB2.out.2.trans (h3.mono HB2.out.2.size))
  clear hb' h3 HB2 HU2 HA k0 k1 k2 k3 k4 kl
  go_wp2_with fail
  refine (sameTexts_c _ _ m m _ 0 0 HA3.out.is HB3.out.is).mono ?_; rintro en w4 ⟨rfl, n, rfl⟩
  simp only [decide_true]
  go_wp2_with fail
  refine (sameTexts_c _ _ l l _ 0 W.heap.size (HU3.out.is.drewN n) ((HV.out.below H3.out).drewN n)).mono ?_; rintro en w5 ⟨rfl, n', rfl⟩
  go_wp2
  go_ret
  exact ⟨by simp, below_drewN H3.out (n + n')⟩
end Go.Proofs.Ytioajgcbchdpeaa

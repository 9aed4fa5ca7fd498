/- machine.Play, walked. -/
import Derived.Test.YtioajgcbchdpeaaApr
namespace Go.Proofs.Ytioajgcbchdpeaa
open Go.RowKit
set_option maxHeartbeats 4000000
set_option maxRecDepth 100000

theorem applyM_a (nv sv lv : Value) (x : Scu.State) (s : Scu.Str) (w : World) (B : Nat) (hv : IsState w B nv sv lv x) (y : Scu.State) (c : Int) (h : Scu.apply x s = (y, c)) :
    Calls Try.prog 36 #[.agg #[nv, sv, lv], .string s] w fun e w' => AppRet w' y c e ∧ Below w.heap.size w w' := by
  have := apply_c nv sv lv x s w B hv
  rw [h] at this
  exact this
theorem appliedM_a (nv sv lv : Value) (x : Scu.State) (s : Scu.Str) (w : World) (B : Nat) (hv : IsState w B nv sv lv x) (y : Scu.State) (c : Int) (h : Scu.apply x s = (y, c)) :
    Calls Try.prog 37 #[.agg #[nv, sv, lv], .string s] w fun e w' => AppRet w' y c e ∧ Below w.heap.size w w' := by
  have := applied_c nv sv lv x s w B hv
  rw [h] at this
  exact this
theorem play_next {l : List Scu.Str} {k : Nat} (hk : k < l.length) {y z : Scu.State} {c : Int} (h : Scu.apply y l[k] = (z, c)) : Scu.playFrom y (l.drop k) = if c ≠ 0 then (Scu.state0, c) else Scu.playFrom z (l.drop (k + 1)) := by
  rw [List.drop_eq_getElem_cons hk]
  show (if (Scu.apply y l[k]).2 ≠ 0 then _ else _) = _
  rw [h]
/-- What the loop over the entries holds. -/
structure PlayI (w : World) (b : Nat) (l : List Scu.Str) (k : Nat) (nv sv lv : Value) (y : Scu.State) (wr : World) : Prop where
  zero : Blk wr w.heap.size 65 #[.slice none 0 0, .slice none 0 0, .slice none 0 0]
  blk : Blk wr b 65 #[nv, sv, lv]
  st : IsState wr 0 nv sv lv y
  so : Scu.play l = Scu.playFrom y (l.drop k)
  low : Below w.heap.size w wr
  ne : w.heap.size < b
theorem PlayI.below {w wr w' : World} {b k : Nat} {l : List Scu.Str} {nv sv lv : Value} {y : Scu.State} (h : PlayI w b l k nv sv lv y wr) (hb : Below wr.heap.size wr w') : PlayI w b l k nv sv lv y w' :=
  ⟨h.zero.same hb, h.blk.same hb, h.st.below hb, h.so, h.low.trans (hb.mono h.low.size), h.ne⟩
theorem PlayI.next {w wr : World} {b k : Nat} {l : List Scu.Str} {nv sv lv nu su lu : Value} {y z : Scu.State} (h : PlayI w b l k nv sv lv y wr) (hz : IsState wr 0 nu su lu z) (hs : Scu.play l = Scu.playFrom z (l.drop (k + 1))) :
    PlayI w b l (k + 1) nu su lu z (((wr.setCell ⟨b, 0, none⟩ nu).setCell ⟨b, 1, none⟩ su).setCell ⟨b, 2, none⟩ lu) :=
  ⟨((h.zero.far (p := ⟨b, 0, none⟩) (Nat.ne_of_lt h.ne) _).far (p := ⟨b, 1, none⟩) (Nat.ne_of_lt h.ne) _).far (p := ⟨b, 2, none⟩) (Nat.ne_of_lt h.ne) _, blk_set3 h.blk, hz.sets3 h.blk _ _ _, hs, below_set3 h.low (Nat.le_of_lt h.ne), h.ne⟩
theorem play_c (v : Value) (l : List Scu.Str) (w : World) (B : Nat) (hv : IsStrs w B v l) :
    Calls Try.prog 47 #[v] w fun e w' => AppRet w' (Scu.play l).1 (Scu.play l).2 e ∧ Below w.heap.size w w' := by
  obtain ⟨⟨A, c, rfl, _, hr⟩, hl, _⟩ := hv
  unfold R47 at hl
  go_enter Try.func47, Try.ntmps47
  go_wp2_with fail
  refine (machineNew_c _).mono ?_; rintro en w1 ⟨⟨nv, sv, lv, rfl, hn⟩, h1⟩
  obtain ⟨A1, n1, c1, rfl⟩ := hn.vol.now.form
  obtain ⟨A2, n2, c2, rfl⟩ := hn.vol.snaps.form
  obtain ⟨A3, n3, c3, rfl⟩ := hn.lasts.form
  have hP : PlayI w w1.heap.size l 0 (.slice A1 n1 c1) (.slice A2 n2 c2) (.slice A3 n3 c3) Scu.stateNew (w1.alloc (Obj.cells #[.slice A1 n1 c1, .slice A2 n2 c2, .slice A3 n3 c3] 65)) :=
    ⟨((Blk.new w _ _).same h1).alloc _, Blk.new w1 _ _, hn.alloc _, rfl, ((below_alloc w _).trans (h1.mono (by simp))).alloc (by have := h1.size; simp at this; omega) _, by have := h1.size; simp at this; omega⟩
  have HP := Lib.hid hP
  clear hP hn h1
  go_wp2_with fail
  go_loopw [12] (fun i wr => ∃ (k : Nat) (A1 : Option Addr) (n1 c1 : Nat) (A2 : Option Addr) (n2 c2 : Nat) (A3 : Option Addr) (n3 c3 : Nat) (y : Scu.State), k ≤ l.length ∧ i = .int .i64 k ∧ PlayI w w1.heap.size l k (.slice A1 n1 c1) (.slice A2 n2 c2) (.slice A3 n3 c3) y wr) (fun i _ => l.length - (intOf i).toNat)
  case atStart => exact ⟨0, A1, n1, c1, A2, n2, c2, A3, n3, c3, _, Nat.zero_le _, rfl, HP.out⟩
  case round =>
    obtain ⟨k, D1, m1, d1, D2, m2, d2, D3, m3, d3, y, hk, rfl, hP⟩ := hrel
    have hblk := hP.blk
    have b0 := hblk.cell 0
    have b1 := hblk.cell 1
    have b2 := hblk.cell 2
    simp only [List.getElem?_toArray, List.getElem?_cons_zero, List.getElem?_cons_succ] at b0 b1 b2
    have bz := hblk.frozen
    have bl := hblk.lt
    have hz := hP.zero
    have z0 := hz.cell 0
    have z1 := hz.cell 1
    have z2 := hz.cell 2
    simp only [List.getElem?_toArray, List.getElem?_cons_zero, List.getElem?_cons_succ] at z0 z1 z2
    have zz := hz.frozen
    have zl := hz.lt
    have hlo := hP.ne
    by_cases hlt : k < l.length
    · have hlt' : (k : Int) < (l.length : Int) := by omega
      obtain ⟨g, o, rfl, hg, hc0⟩ := str_get (hr.below hP.low) hlt
      obtain ⟨q, hq⟩ : ∃ q, Scu.apply y l[k] = q := ⟨_, rfl⟩
      obtain ⟨z, c⟩ := q
      have HQ := Lib.hid hq
      have HP := Lib.hid hP
      clear hblk hz hP hq
      go_wp2_with fail
      refine (applyM_a _ _ _ y l[k] _ 0 HP.out.st z c HQ.out).mono ?_; rintro en w2 ⟨⟨nu, su, lu, rfl, hu⟩, h2⟩
      obtain ⟨E1, p1, f1, rfl⟩ := hu.vol.now.form
      obtain ⟨E2, p2, f2, rfl⟩ := hu.vol.snaps.form
      obtain ⟨E3, p3, f3, rfl⟩ := hu.lasts.form
      go_upto_region 6 with fail
      obtain ⟨Wd, hWd⟩ : ∃ W, W = w2.alloc (Obj.cells #[.slice E1 p1 f1, .slice E2 p2 f2, .slice E3 p3 f3] 65) := ⟨_, rfl⟩
      rw [← hWd]
      have hbw : Below w2.heap.size w2 Wd := by rw [hWd]; exact below_alloc _ _
      have hq : Blk Wd w2.heap.size 65 #[.slice E1 p1 f1, .slice E2 p2 f2, .slice E3 p3 f3] := by rw [hWd]; exact Blk.new _ _ _
      have hP2 := (HP.out.below h2).below hbw
      have hst := hu.below hbw
      have hblk := hP2.blk
      have hz := hP2.zero
      clear b0 b1 b2 bz bl z0 z1 z2 zz zl hc0 hWd hbw h2 hu
      have b0 := hblk.cell 0
      have b1 := hblk.cell 1
      have b2 := hblk.cell 2
      simp only [List.getElem?_toArray, List.getElem?_cons_zero, List.getElem?_cons_succ] at b0 b1 b2
      have bz := hblk.frozen
      have bl := hblk.lt
      have z0 := hz.cell 0
      have z1 := hz.cell 1
      have z2 := hz.cell 2
      simp only [List.getElem?_toArray, List.getElem?_cons_zero, List.getElem?_cons_succ] at z0 z1 z2
      have zz := hz.frozen
      have zl := hz.lt
      have q0 := hq.cell 0
      have q1 := hq.cell 1
      have q2 := hq.cell 2
      simp only [List.getElem?_toArray, List.getElem?_cons_zero, List.getElem?_cons_succ] at q0 q1 q2
      have qz := hq.frozen
      have ql := hq.lt
      have HP2 := Lib.hid hP2
      have HST := Lib.hid hst
      clear hblk hz hq hP2 hst HP
      by_cases hc : c = 0
      · subst hc
        have HS := Lib.hid (show Scu.play l = Scu.playFrom z (l.drop (k + 1)) by rw [HP2.out.so, play_next hlt HQ.out, if_neg (by simp)])
        go_wp2
        refine ⟨⟨k + 1, E1, p1, f1, E2, p2, f2, E3, p3, f3, z, by omega, rfl, HP2.out.next HST.out HS.out⟩, ?_⟩
        simp [intOf]; omega
      · have hcb : (c != 0) = true := by simpa using hc
        have HS := Lib.hid (show Scu.play l = (Scu.state0, c) by rw [HP2.out.so, play_next hlt HQ.out, if_pos hc])
        clear hc
        go_wp2
        have hr3 := blk_set3 (a := .slice none 0 0) (b := .slice none 0 0) (c := .slice none 0 0) HP2.out.zero
        have r0 := hr3.cell 0
        have r1 := hr3.cell 1
        have r2 := hr3.cell 2
        simp only [List.getElem?_toArray, List.getElem?_cons_zero, List.getElem?_cons_succ] at r0 r1 r2
        refine bodyPost_ret (v := .tuple #[.agg #[.slice none 0 0, .slice none 0 0, .slice none 0 0], .int .i64 c]) (by simp [results, Try.results47, go_sem, r0, r1, r2]) rfl ?_
        exact ⟨by rw [HS.out]; exact app_zero _ _, below_set3 HP2.out.low (Nat.le_refl _)⟩
    · have hk' : k = l.length := by omega
      have HS := Lib.hid (show Scu.play l = (y, 0) by rw [hP.so, hk', List.drop_length]; rfl)
      have hge : ¬ (k : Int) < (l.length : Int) := by omega
      have HP := Lib.hid hP
      clear hblk hz hP hk' hk
      go_wp2
      have hr3 := blk_set3 (a := .slice D1 m1 d1) (b := .slice D2 m2 d2) (c := .slice D3 m3 d3) HP.out.zero
      have r0 := hr3.cell 0
      have r1 := hr3.cell 1
      have r2 := hr3.cell 2
      simp only [List.getElem?_toArray, List.getElem?_cons_zero, List.getElem?_cons_succ] at r0 r1 r2
      refine bodyPost_ret (v := .tuple #[.agg #[.slice D1 m1 d1, .slice D2 m2 d2, .slice D3 m3 d3], .int .i64 0]) (by simp [results, Try.results47, go_sem, r0, r1, r2]) rfl ?_
      exact ⟨by rw [HS.out]; exact ⟨_, _, _, rfl, HP.out.st.sets3 HP.out.zero _ _ _⟩, below_set3 HP.out.low (Nat.le_refl _)⟩
end Go.Proofs.Ytioajgcbchdpeaa

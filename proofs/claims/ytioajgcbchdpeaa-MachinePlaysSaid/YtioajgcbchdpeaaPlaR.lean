/- ref.PlayedOf, walked; the law MachinePlays. -/
import Derived.Test.YtioajgcbchdpeaaPlay
import Derived.Deep.DeepCutAuto
namespace Go.Proofs.Ytioajgcbchdpeaa
open Go.RowKit
set_option maxHeartbeats 4000000
set_option maxRecDepth 100000

theorem played_c (v : Value) (l : List Scu.Str) (w : World) (B : Nat) (hv : IsStrs w B v l) :
    Calls Try.prog 48 #[v] w fun e w' => AppRet w' (Scu.play l).1 (Scu.play l).2 e ∧ Below w.heap.size w w' := by
  obtain ⟨⟨A, c, rfl, _, hr⟩, hl, _⟩ := hv
  unfold R47 at hl
  go_enter Try.func48, Try.ntmps48
  go_wp2_with fail
  refine (stateOf_c _).mono ?_; rintro en w1 ⟨⟨nv, sv, lv, rfl, hn⟩, h1⟩
  obtain ⟨A1, n1, c1, rfl⟩ := hn.vol.now.form
  obtain ⟨A2, n2, c2, rfl⟩ := hn.vol.snaps.form
  obtain ⟨A3, n3, c3, rfl⟩ := hn.lasts.form
  have hP : PlayI w w1.heap.size l 0 (.slice A1 n1 c1) (.slice A2 n2 c2) (.slice A3 n3 c3) Scu.stateNew (w1.alloc (Obj.cells #[.slice A1 n1 c1, .slice A2 n2 c2, .slice A3 n3 c3] 65)) :=
    ⟨((Blk.new w _ _).same h1).alloc _, Blk.new w1 _ _, hn.alloc _, rfl, ((below_alloc w _).trans (h1.mono (by simp))).alloc (by have := h1.size; simp at this; omega) _, by have := h1.size; simp at this; omega⟩
  have HP := Lib.hid hP
  clear hP hn h1
  go_wp2_with fail
  go_loopw [5] (fun i wr => ∃ (k : Nat) (A1 : Option Addr) (n1 c1 : Nat) (A2 : Option Addr) (n2 c2 : Nat) (A3 : Option Addr) (n3 c3 : Nat) (y : Scu.State), k ≤ l.length ∧ i = .int .i64 k ∧ PlayI w w1.heap.size l k (.slice A1 n1 c1) (.slice A2 n2 c2) (.slice A3 n3 c3) y wr) (fun i _ => l.length - (intOf i).toNat)
  case atStart => exact ⟨0, A1, n1, c1, A2, n2, c2, A3, n3, c3, _, Nat.zero_le _, rfl, HP.out⟩
  case round =>
    obtain ⟨k, D1, m1, d1, D2, m2, d2, D3, m3, d3, y, hk, rfl, hP⟩ := hrel
    have hblk := hP.blk
    have b0 := hblk.cell 0
    have b1 := hblk.cell 1
    have b2 := hblk.cell 2
    simp only [List.getElem?_toArray, List.getElem?_cons_zero, List.getElem?_cons_succ] at b0 b1 b2
    have bz := hblk.frozen
    have bl := hblk.lt
    have hz := hP.zero
    have z0 := hz.cell 0
    have z1 := hz.cell 1
    have z2 := hz.cell 2
    simp only [List.getElem?_toArray, List.getElem?_cons_zero, List.getElem?_cons_succ] at z0 z1 z2
    have zz := hz.frozen
    have zl := hz.lt
    have hlo := hP.ne
    by_cases hlt : k < l.length
    · have hlt' : (k : Int) < (l.length : Int) := by omega
      obtain ⟨g, o, rfl, hg, hc0⟩ := str_get (hr.below hP.low) hlt
      obtain ⟨q, hq⟩ : ∃ q, Scu.apply y l[k] = q := ⟨_, rfl⟩
      obtain ⟨z, c⟩ := q
      have HQ := Lib.hid hq
      have HP := Lib.hid hP
      clear hblk hz hP hq
      go_upto_region 5 with fail
      go_cut [6, 7] from 9 to 28 (fun p e wx => ∃ g E1 p1 f1 E2 p2 f2 E3 p3 f3, p = .pointer (some ⟨g, 0, none⟩) ∧ e = .int .i64 c ∧ wr.heap.size ≤ g ∧ Below wr.heap.size wr wx ∧ Blk wx g 65 #[.slice E1 p1 f1, .slice E2 p2 f2, .slice E3 p3 f3] ∧ IsState wx 0 (.slice E1 p1 f1) (.slice E2 p2 f2) (.slice E3 p3 f3) z)
      case first =>
        go_region_with (first
          | (go_at_call 37; refine (appliedM_a _ _ _ y l[k] _ 0 ?_ z c HQ.out).mono ?_; (first | exact HP.out.st.drew | exact (HP.out.st.alloc _).drew | exact HP.out.st.drew.alloc _); rintro en w2 ⟨⟨nu, su, lu, rfl, hu⟩, h2⟩
             refine use (P := Below wr.heap.size wr w2) ?_ ?_
             (first | exact (below_drewN (Below.refl _ _) 1).trans h2 | exact (below_drewN (below_alloc wr (Obj.cells #[.slice none 0 0, .slice none 0 0, .slice none 0 0] 65)) 1).trans (h2.mono (Nat.le_succ_of_le (Nat.le_refl _))) | exact ((below_drewN (Below.refl _ _) 1).alloc (Nat.le_refl _) (Obj.cells #[.slice none 0 0, .slice none 0 0, .slice none 0 0] 65)).trans (h2.mono (by simp)))
             intro hA
             obtain ⟨E1, p1, f1, rfl⟩ := hu.vol.now.form
             obtain ⟨E2, p2, f2, rfl⟩ := hu.vol.snaps.form
             obtain ⟨E3, p3, f3, rfl⟩ := hu.lasts.form
             have HU := Lib.hid hu
             have HA := Lib.hid hA
             (try (refine use (P := Blk w2 wr.heap.size 65 #[.slice none 0 0, .slice none 0 0, .slice none 0 0]) ?_ ?_; (first | exact ((Blk.new wr _ _).drew).same h2 | exact (Blk.new (wr.drewN 1) _ _).same h2); intro hbo; have HBO := Lib.hid hbo; have x0 := HBO.out.cell 0; have x1 := HBO.out.cell 1; have x2 := HBO.out.cell 2; simp only [List.getElem?_toArray, List.getElem?_cons_zero, List.getElem?_cons_succ] at x0 x1 x2; have xz := HBO.out.frozen; have xl := HBO.out.lt; clear hbo))
             clear hu h2 hA))
        all_goals
          go_wp2_with fail
          go_meet
          first
            | exact ⟨w2.heap.size, E1, p1, f1, E2, p2, f2, E3, p3, f3, rfl, rfl, HA.out.size, HA.out.alloc HA.out.size _, Blk.new w2 _ _, HU.out.alloc _⟩
            | exact ⟨wr.heap.size, E1, p1, f1, E2, p2, f2, E3, p3, f3, rfl, rfl, Nat.le_refl _, below_set3 HA.out (Nat.le_refl _), blk_set3 HBO.out, HU.out.sets3 HBO.out _ _ _⟩
      case rest =>
      obtain ⟨g5, E1, p1, f1, E2, p2, f2, E3, p3, f3, rfl, rfl, hge5, hlow5, hq, hst⟩ := hcut
      have hP2 := HP.out.below hlow5
      have hblk := hP2.blk
      have hz := hP2.zero
      clear b0 b1 b2 bz bl z0 z1 z2 zz zl hc0 hlow5
      have b0 := hblk.cell 0
      have b1 := hblk.cell 1
      have b2 := hblk.cell 2
      simp only [List.getElem?_toArray, List.getElem?_cons_zero, List.getElem?_cons_succ] at b0 b1 b2
      have bz := hblk.frozen
      have bl := hblk.lt
      have z0 := hz.cell 0
      have z1 := hz.cell 1
      have z2 := hz.cell 2
      simp only [List.getElem?_toArray, List.getElem?_cons_zero, List.getElem?_cons_succ] at z0 z1 z2
      have zz := hz.frozen
      have zl := hz.lt
      have q0 := hq.cell 0
      have q1 := hq.cell 1
      have q2 := hq.cell 2
      simp only [List.getElem?_toArray, List.getElem?_cons_zero, List.getElem?_cons_succ] at q0 q1 q2
      have qz := hq.frozen
      have ql := hq.lt
      have HP2 := Lib.hid hP2
      have HST := Lib.hid hst
      clear hblk hz hq hP2 hst HP
      by_cases hc : c = 0
      · subst hc
        have HS := Lib.hid (show Scu.play l = Scu.playFrom z (l.drop (k + 1)) by rw [HP2.out.so, play_next hlt HQ.out, if_neg (by simp)])
        go_wp2
        refine ⟨⟨k + 1, E1, p1, f1, E2, p2, f2, E3, p3, f3, z, by omega, rfl, HP2.out.next HST.out HS.out⟩, ?_⟩
        simp [intOf]; omega
      · have hcb : (c != 0) = true := by simpa using hc
        have HS := Lib.hid (show Scu.play l = (Scu.state0, c) by rw [HP2.out.so, play_next hlt HQ.out, if_pos hc])
        clear hc
        go_wp2
        have hr3 := blk_set3 (a := .slice none 0 0) (b := .slice none 0 0) (c := .slice none 0 0) HP2.out.zero
        have r0 := hr3.cell 0
        have r1 := hr3.cell 1
        have r2 := hr3.cell 2
        simp only [List.getElem?_toArray, List.getElem?_cons_zero, List.getElem?_cons_succ] at r0 r1 r2
        refine bodyPost_ret (v := .tuple #[.agg #[.slice none 0 0, .slice none 0 0, .slice none 0 0], .int .i64 c]) (by simp [results, Try.results48, go_sem, r0, r1, r2]) rfl ?_
        exact ⟨by rw [HS.out]; exact app_zero _ _, below_set3 HP2.out.low (Nat.le_refl _)⟩
    · have hk' : k = l.length := by omega
      have HS := Lib.hid (show Scu.play l = (y, 0) by rw [hP.so, hk', List.drop_length]; rfl)
      have hge : ¬ (k : Int) < (l.length : Int) := by omega
      have HP := Lib.hid hP
      clear hblk hz hP hk' hk
      go_wp2
      have hr3 := blk_set3 (a := .slice D1 m1 d1) (b := .slice D2 m2 d2) (c := .slice D3 m3 d3) HP.out.zero
      have r0 := hr3.cell 0
      have r1 := hr3.cell 1
      have r2 := hr3.cell 2
      simp only [List.getElem?_toArray, List.getElem?_cons_zero, List.getElem?_cons_succ] at r0 r1 r2
      refine bodyPost_ret (v := .tuple #[.agg #[.slice D1 m1 d1, .slice D2 m2 d2, .slice D3 m3 d3], .int .i64 0]) (by simp [results, Try.results48, go_sem, r0, r1, r2]) rfl ?_
      exact ⟨by rw [HS.out]; exact ⟨_, _, _, rfl, HP.out.st.sets3 HP.out.zero _ _ _⟩, below_set3 HP.out.low (Nat.le_refl _)⟩
end Go.Proofs.Ytioajgcbchdpeaa

/- Walks: the comparison of states; laws on new states. -/
import Derived.Test.YtioajgcbchdpeaaState
import Derived.Test.YtioajgcbchdpeaaEq
namespace Go.Proofs.Ytioajgcbchdpeaa
open Go.RowKit
set_option maxHeartbeats 400000
set_option maxRecDepth 100000
theorem state_eq {x y : Scu.State} (h1 : x.volume = y.volume) (h2 : x.lasts = y.lasts) : x = y := by
  cases x; cases y; simp_all
theorem last_ne (a b : Scu.Last) : (!(a.num == b.num && a.reply.code == b.reply.code && a.reply.n == b.reply.n && decide (a.reply.data = b.reply.data))) = !decide (a = b) := by
  obtain ⟨n, ⟨c, m, d⟩⟩ := a
  obtain ⟨n', ⟨c', m', d'⟩⟩ := b
  simp only [Bool.not_eq_eq_eq_not, Bool.not_not]
  rw [Bool.eq_iff_iff]
  simp [and_assoc]
theorem sameState_c (nv sv lv nu su lu : Value) (x y : Scu.State) (w : World) (B B' : Nat) (hv : IsState w B nv sv lv x) (hu : IsState w B' nu su lu y) :
    Calls Try.prog 38 #[.agg #[nv, sv, lv], .agg #[nu, su, lu]] w fun e w' => e = .returned (.bool (decide (x = y))) ∧ Below w.heap.size w w' := by
  obtain ⟨⟨A, c, rfl, _, hr⟩, hl⟩ := hv.lasts
  obtain ⟨⟨A', c', rfl, _, hr'⟩, hl'⟩ := hu.lasts
  obtain ⟨B1, m1, d1, rfl⟩ := hv.vol.now.form
  obtain ⟨B2, m2, d2, rfl⟩ := hv.vol.snaps.form
  obtain ⟨B3, m3, d3, rfl⟩ := hu.vol.now.form
  obtain ⟨B4, m4, d4, rfl⟩ := hu.vol.snaps.form
  unfold R47 at hl hl'
  by_cases hn : x.volume = y.volume
  · have hd : decide (x.volume = y.volume) = true := by simp [hn]
    have HN := Lib.hid hn
    clear hn
    by_cases he : x.lasts.length = y.lasts.length
    · have he' : ((x.lasts.length : Int) != (y.lasts.length : Int)) = false := by simp [he]
      have HE := Lib.hid he
      clear he
      go_enter Try.func38, Try.ntmps38
      go_wp2_with fail
      refine (sameVolume_c _ _ _ _ _ _ _ B B' ((hv.vol.alloc _).alloc _) ((hu.vol.alloc _).alloc _)).mono ?_; rintro e w1 ⟨rfl, h1⟩
      obtain ⟨hc, hz⟩ := bcell h1
      have hsz : w.heap.size + 1 < w1.heap.size := by have := h1.size; simp at this; omega
      have hsz' : w.heap.size < w1.heap.size := by omega
      have hR := ((hr.alloc (Obj.cells #[.slice B1 m1 d1, .slice B2 m2 d2, .slice A x.lasts.length c] 65)).alloc (Obj.cells #[.slice B3 m3 d3, .slice B4 m4 d4, .slice A' y.lasts.length c'] 65)).below h1
      have hR' := ((hr'.alloc (Obj.cells #[.slice B1 m1 d1, .slice B2 m2 d2, .slice A x.lasts.length c] 65)).alloc (Obj.cells #[.slice B3 m3 d3, .slice B4 m4 d4, .slice A' y.lasts.length c'] 65)).below h1
      have hB : Below w.heap.size w w1 := (((Below.refl _ _).alloc (Nat.le_refl _) _).alloc (by simp) _).trans (h1.mono (by simp; omega))
      go_wp2_with fail
      go_loopw [5] (fun i wr => ∃ k : Nat, k ≤ x.lasts.length ∧ i = .int .i64 k ∧ Hid (x.lasts.take k = y.lasts.take k) ∧ ∃ n, wr = w1.drewN n) (fun i _ => x.lasts.length - (intOf i).toNat)
      case atStart => exact ⟨0, Nat.zero_le _, rfl, rfl, 0, rfl⟩
      case round =>
        obtain ⟨k, hk, rfl, ht, n, rfl⟩ := hrel
        by_cases hlt : k < x.lasts.length
        · have hlt' : (k : Int) < (x.lasts.length : Int) := by omega
          have hy : k < y.lasts.length := by have := HE.out; omega
          have hy' : (k : Int) < (y.lasts.length : Int) := by omega
          obtain ⟨g, o, rfl, hg, c0, c1, c2, c3⟩ := last_get hR hlt
          obtain ⟨g', o', rfl, hg', c0', c1', c2', c3'⟩ := last_get hR' hy
          have hq := run_neq_last x.lasts[k] y.lasts[k]
          by_cases hx : x.lasts[k] = y.lasts[k]
          · have hb : decide (x.lasts[k] = y.lasts[k]) = true := by simp [hx]
            have HX := Lib.hid hx
            clear hx
            go_wp2
            go_quiet (fail)
            go_wp2
            exact ⟨⟨k + 1, hlt, by go_num, take_succ_eq ht.out hlt hy HX.out, _, rfl⟩, by simp only [intOf]; omega⟩
          · have hb : decide (x.lasts[k] = y.lasts[k]) = false := by simp [hx]
            have hne : decide (x = y) = false := by
              rw [decide_eq_false_iff_not]
              intro e
              subst e
              exact hx rfl
            have HNE := Lib.hid hne
            clear hne hx
            go_wp2
            go_quiet (fail)
            go_wp2
            go_ret
            exact ⟨ret_val (bool_eq HNE.out.symm), below_drewN (below_drewN hB _) _⟩
        · have hlt' : (x.lasts.length : Int) ≤ (k : Int) := by omega
          have heq : decide (x = y) = true := by
            rw [decide_eq_true_eq]
            have h1 := ht.out
            rw [List.take_of_length_le (by omega), List.take_of_length_le (by have := HE.out; omega)] at h1
            exact state_eq HN.out h1
          have HEQ := Lib.hid heq
          clear heq
          go_wp2
          go_ret
          exact ⟨ret_val (bool_eq HEQ.out.symm), below_drewN hB _⟩
    · have he' : ((x.lasts.length : Int) != (y.lasts.length : Int)) = true := by
        rw [bne_iff_ne]; omega
      have hne : decide (x = y) = false := by
        rw [decide_eq_false_iff_not]
        intro e
        exact he (by rw [e])
      have HNE := Lib.hid hne
      clear hne he
      go_enter Try.func38, Try.ntmps38
      go_wp2_with fail
      refine (sameVolume_c _ _ _ _ _ _ _ B B' ((hv.vol.alloc _).alloc _) ((hu.vol.alloc _).alloc _)).mono ?_; rintro e w1 ⟨rfl, h1⟩
      obtain ⟨hc, hz⟩ := bcell h1
      have hB : Below w.heap.size w w1 := (((Below.refl _ _).alloc (Nat.le_refl _) _).alloc (by simp) _).trans (h1.mono (by simp; omega))
      go_wp2_with fail
      go_ret
      exact ⟨ret_val (bool_eq HNE.out.symm), hB⟩
  · have hd : decide (x.volume = y.volume) = false := by simp [hn]
    have hne : decide (x = y) = false := by
      rw [decide_eq_false_iff_not]
      intro e
      exact hn (by rw [e])
    have HNE := Lib.hid hne
    clear hne hn
    go_enter Try.func38, Try.ntmps38
    go_wp2_with fail
    refine (sameVolume_c _ _ _ _ _ _ _ B B' ((hv.vol.alloc _).alloc _) ((hu.vol.alloc _).alloc _)).mono ?_; rintro e w1 ⟨rfl, h1⟩
    have hB : Below w.heap.size w w1 := (((Below.refl _ _).alloc (Nat.le_refl _) _).alloc (by simp) _).trans (h1.mono (by simp; omega))
    go_wp2_with fail
    go_ret
    exact ⟨ret_val (bool_eq HNE.out.symm), hB⟩

theorem IsState.below {w w' : World} {B : Nat} {nv sv lv : Value} {x : Scu.State} (h : IsState w B nv sv lv x) (hb : Below w.heap.size w w') : IsState w' B nv sv lv x := ⟨h.vol.below hb, h.lasts.below hb⟩
theorem IsState.alloc {w : World} {B : Nat} {nv sv lv : Value} {x : Scu.State} (h : IsState w B nv sv lv x) (o : Obj) : IsState (w.alloc o) B nv sv lv x := ⟨h.vol.alloc o, h.lasts.alloc o⟩
end Go.Proofs.Ytioajgcbchdpeaa

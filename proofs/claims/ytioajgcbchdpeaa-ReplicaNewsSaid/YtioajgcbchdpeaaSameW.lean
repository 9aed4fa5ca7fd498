/- Walks: the laws' own comparisons. -/
import Derived.Test.YtioajgcbchdpeaaMem
namespace Go.Proofs.Ytioajgcbchdpeaa
open Go.RowKit
set_option maxHeartbeats 400000
set_option maxRecDepth 100000
theorem str_beq (a b : ByteArray) : (a.toList == b.toList) = decide (a = b) := by
  rw [ByteArray.toList_eq, ByteArray.toList_eq, Bool.eq_iff_iff, beq_iff_eq, decide_eq_true_eq]
  exact ⟨fun e => ByteArray.ext (Array.toList_inj.1 e), fun e => by rw [e]⟩

theorem sameTexts_c (v u : Value) (xs ys : List Scu.Str) (w : World) (B B' : Nat) (hv : IsStrs w B v xs) (hu : IsStrs w B' u ys) :
    Calls Try.prog 33 #[v, u] w fun e w' => e = .returned (.bool (decide (xs = ys))) ∧ ∃ n, w' = w.drewN n := by
  obtain ⟨⟨A, c, rfl, _, hr⟩, hl, _⟩ := hv
  obtain ⟨⟨A', c', rfl, _, hr'⟩, hl', _⟩ := hu
  unfold R47 at hl hl'
  by_cases he : xs.length = ys.length
  · have he' : ((xs.length : Int) != (ys.length : Int)) = false := by simp [he]
    have HE := Lib.hid he
    clear he
    go_enter Try.func33, Try.ntmps33
    go_wp2
    go_loopw [5] (fun i wr => ∃ k : Nat, k ≤ xs.length ∧ i = .int .i64 k ∧ Hid (xs.take k = ys.take k) ∧ ∃ n, wr = w.drewN n) (fun i _ => xs.length - (intOf i).toNat)
    case atStart => exact ⟨0, Nat.zero_le _, rfl, rfl, 0, rfl⟩
    case round =>
      obtain ⟨k, hk, rfl, ht, n, rfl⟩ := hrel
      by_cases hlt : k < xs.length
      · have hlt' : (k : Int) < (xs.length : Int) := by omega
        have hy : k < ys.length := by have := HE.out; omega
        have hy' : (k : Int) < (ys.length : Int) := by omega
        obtain ⟨g, o, rfl, _, hc⟩ := str_get hr hlt
        obtain ⟨g', o', rfl, _, hc'⟩ := str_get hr' hy
        by_cases hx : xs[k] = ys[k]
        · have hb : (xs[k].toList == ys[k].toList) = true := by rw [str_beq]; simp [hx]
          have HX := Lib.hid hx
          clear hx
          go_wp2
          go_quiet (fail)
          go_wp2
          exact ⟨⟨k + 1, hlt, by go_num, take_succ_eq ht.out hlt hy HX.out, _, rfl⟩, by simp only [intOf]; omega⟩
        · have hb : (xs[k].toList == ys[k].toList) = false := by rw [str_beq]; simp [hx]
          have hne : decide (xs = ys) = false := by
            rw [decide_eq_false_iff_not]
            intro e
            subst e
            exact hx rfl
          have HNE := Lib.hid hne
          clear hne
          go_wp2
          go_quiet (fail)
          go_wp2
          go_ret
          exact ⟨ret_val (bool_eq HNE.out.symm), _, World.drewN_drewN _ _ _⟩
      · have hkx : k = xs.length := by omega
        have hlt' : (xs.length : Int) ≤ (k : Int) := by omega
        have heq : decide (xs = ys) = true := by
          rw [decide_eq_true_eq]
          have h1 := ht.out
          rw [List.take_of_length_le (by omega), List.take_of_length_le (by have := HE.out; omega)] at h1
          exact h1
        have HEQ := Lib.hid heq
        clear hkx heq
        go_wp2
        go_ret
        exact ⟨ret_val (bool_eq HEQ.out.symm), _, rfl⟩
  · have he' : ((xs.length : Int) != (ys.length : Int)) = true := by
      rw [bne_iff_ne]; omega
    have hne : decide (xs = ys) = false := by
      rw [decide_eq_false_iff_not]
      intro e
      exact he (by rw [e])
    rw [hne]
    clear he
    go_enter Try.func33, Try.ntmps33
    go_wp2
    go_ret
    exact ⟨rfl, 0, rfl⟩

/- volumes -/
structure IsRows (w : World) (B : Nat) (v : Value) (xss : List (List Scu.Str)) : Prop where
  ex : ∃ A c vs, v = .slice A xss.length c ∧ xss.length ≤ c ∧ Rd w B 26 A vs ∧ vs.length = xss.length ∧ ∀ (j : Nat) (u : Value) (x : List Scu.Str), vs[j]? = some u → xss[j]? = some x → IsStrs w B u x
  len : xss.length * 24 ≤ R47
section
variable {w w' : World} {B B' : Nat} {v : Value} {xss : List (List Scu.Str)}
theorem IsRows.keep (h : IsRows w B v xss) (hs : w.heap.size ≤ w'.heap.size) (hk : ∀ g, g < w.heap.size → (g < B ∨ ∃ C fz t, (t = 9 ∨ t = 26) ∧ w.heap[g]? = some (.cells C t fz)) → w'.heap[g]? = w.heap[g]?) : IsRows w' B v xss :=
  ⟨let ⟨A, c, vs, h1, h2, h3, h4, h5⟩ := h.ex
   ⟨A, c, vs, h1, h2, h3.keep hs (fun g hg hh => hk g hg (hh.imp id fun ⟨C, fz, e⟩ => ⟨C, fz, _, .inr rfl, e⟩)), h4, fun j u x a b => (h5 j u x a b).keep hs (fun g hg hh => hk g hg (hh.imp id fun ⟨C, fz, e⟩ => ⟨C, fz, _, .inl rfl, e⟩))⟩, h.len⟩
theorem IsRows.below (h : IsRows w B v xss) (hb : Below w.heap.size w w') : IsRows w' B v xss := h.keep hb.size fun g hg _ => hb.block g hg
theorem IsRows.drewN (h : IsRows w B v xss) (n : Nat) : IsRows (w.drewN n) B v xss := h.keep (Nat.le_refl _) fun _ _ _ => rfl
theorem IsRows.alloc (h : IsRows w B v xss) (o : Obj) : IsRows (w.alloc o) B v xss := h.keep (by simp) fun g hg _ => Below.heap_alloc w o g hg
theorem IsRows.mono (h : IsRows w B v xss) (hB : B ≤ B') : IsRows w B' v xss :=
  ⟨let ⟨A, c, vs, h1, h2, h3, h4, h5⟩ := h.ex; ⟨A, c, vs, h1, h2, h3.mono hB, h4, fun j u x a b => (h5 j u x a b).mono hB⟩, h.len⟩
end
theorem rows_get {w : World} {B : Nat} {A : Option Addr} {vs : List Value} {xss : List (List Scu.Str)} {k : Nat} (h : Rd w B 26 A vs) (hl : vs.length = xss.length)
    (h5 : ∀ (j : Nat) (u : Value) (x : List Scu.Str), vs[j]? = some u → xss[j]? = some x → IsStrs w B u x) (hk : k < xss.length) :
    ∃ g o u, A = some ⟨g, o, none⟩ ∧ g < w.heap.size ∧ w.cell? ⟨g, o + k, none⟩ = some u ∧ IsStrs w B u xss[k] := by
  have hkv : k < vs.length := by omega
  obtain ⟨g, o, h1, h2, h3⟩ := h.get (List.getElem?_eq_getElem hkv)
  exact ⟨g, o, _, h1, h2, h3, h5 k _ _ (List.getElem?_eq_getElem hkv) (List.getElem?_eq_getElem hk)⟩

structure IsVolume (w : World) (B : Nat) (nv sv : Value) (x : Scu.Volume) : Prop where
  now : IsStrs w B nv x.now
  snaps : IsRows w B sv x.snaps
theorem IsVolume.below {w w' : World} {B : Nat} {nv sv : Value} {x : Scu.Volume} (h : IsVolume w B nv sv x) (hb : Below w.heap.size w w') : IsVolume w' B nv sv x := ⟨h.now.below hb, h.snaps.below hb⟩
theorem IsVolume.drewN {w : World} {B : Nat} {nv sv : Value} {x : Scu.Volume} (h : IsVolume w B nv sv x) (n : Nat) : IsVolume (w.drewN n) B nv sv x := ⟨h.now.drewN n, h.snaps.drewN n⟩
theorem IsVolume.alloc {w : World} {B : Nat} {nv sv : Value} {x : Scu.Volume} (h : IsVolume w B nv sv x) (o : Obj) : IsVolume (w.alloc o) B nv sv x := ⟨h.now.alloc o, h.snaps.alloc o⟩

theorem vol_eq {x y : Scu.Volume} (h1 : x.now = y.now) (h2 : x.snaps = y.snaps) : x = y := by
  cases x; cases y; simp_all
theorem sameVolume_c (nv sv nu su : Value) (x y : Scu.Volume) (w : World) (B B' : Nat) (hv : IsVolume w B nv sv x) (hu : IsVolume w B' nu su y) :
    Calls Try.prog 23 #[.agg #[nv, sv], .agg #[nu, su]] w fun e w' => e = .returned (.bool (decide (x = y))) ∧ Below w.heap.size w w' := by
  obtain ⟨⟨A, c, vs, rfl, _, hr, hvl, hve⟩, hl⟩ := hv.snaps
  obtain ⟨⟨A', c', us, rfl, _, hr', hul, hue⟩, hl'⟩ := hu.snaps
  have HVL := Lib.hid hvl
  have HUL := Lib.hid hul
  have HVE := Lib.hid hve
  have HUE := Lib.hid hue
  clear hvl hul hve hue
  unfold R47 at hl hl'
  by_cases hn : x.now = y.now
  · have hd : decide (x.now = y.now) = true := by simp [hn]
    have HN := Lib.hid hn
    clear hn
    by_cases he : x.snaps.length = y.snaps.length
    · have he' : ((x.snaps.length : Int) != (y.snaps.length : Int)) = false := by simp [he]
      have HE := Lib.hid he
      clear he
      go_enter Try.func23, Try.ntmps23
      go_wp2_with fail
      refine (sameTexts_c _ _ _ _ _ B B' ((hv.now.alloc _).alloc _) ((hu.now.alloc _).alloc _)).mono ?_; rintro e w1 ⟨rfl, n1, rfl⟩
      go_wp2_with fail
      go_loopw [5] (fun i wr => ∃ k : Nat, k ≤ x.snaps.length ∧ i = .int .i64 k ∧ Hid (x.snaps.take k = y.snaps.take k) ∧ ∃ n, wr = ((w.alloc (Obj.cells #[nv, .slice A x.snaps.length c] 38)).alloc (Obj.cells #[nu, .slice A' y.snaps.length c'] 38)).drewN n) (fun i _ => x.snaps.length - (intOf i).toNat)
      case atStart => exact ⟨0, Nat.zero_le _, rfl, rfl, _, rfl⟩
      case round =>
        obtain ⟨k, hk, rfl, ht, n, rfl⟩ := hrel
        by_cases hlt : k < x.snaps.length
        · have hlt' : (k : Int) < (x.snaps.length : Int) := by omega
          have hy : k < y.snaps.length := by have := HE.out; omega
          have hy' : (k : Int) < (y.snaps.length : Int) := by omega
          obtain ⟨g, o, p, rfl, hg, hc, hp⟩ := rows_get hr HVL.out HVE.out hlt
          obtain ⟨g', o', p', rfl, hg', hc', hp'⟩ := rows_get hr' HUL.out HUE.out hy
          by_cases hx : x.snaps[k] = y.snaps[k]
          · have hb : decide (x.snaps[k] = y.snaps[k]) = true := by simp [hx]
            have HX := Lib.hid hx
            clear hx
            go_wp2
            go_quiet ((go_at_call 33; exact quiet_add (sameTexts_c _ _ _ _ _ B B' (((hp.alloc _).alloc _).drewN _) (((hp'.alloc _).alloc _).drewN _))))
            go_wp2
            exact ⟨⟨k + 1, hlt, by go_num, take_succ_eq ht.out hlt hy HX.out, _, rfl⟩, by simp only [intOf]; omega⟩
          · have hb : decide (x.snaps[k] = y.snaps[k]) = false := by simp [hx]
            have hne : decide (x = y) = false := by
              rw [decide_eq_false_iff_not]
              intro e
              subst e
              exact hx rfl
            have HNE := Lib.hid hne
            clear hne hx
            go_wp2
            go_quiet ((go_at_call 33; exact quiet_add (sameTexts_c _ _ _ _ _ B B' (((hp.alloc _).alloc _).drewN _) (((hp'.alloc _).alloc _).drewN _))))
            go_wp2
            go_ret
            exact ⟨ret_val (bool_eq HNE.out.symm), below_drewN (below_drewN (((Below.refl _ _).alloc (Nat.le_refl _) _).alloc (by simp) _) _) _⟩
        · have hlt' : (x.snaps.length : Int) ≤ (k : Int) := by omega
          have heq : decide (x = y) = true := by
            rw [decide_eq_true_eq]
            have h1 := ht.out
            rw [List.take_of_length_le (by omega), List.take_of_length_le (by have := HE.out; omega)] at h1
            exact vol_eq HN.out h1
          have HEQ := Lib.hid heq
          clear heq
          go_wp2
          go_ret
          exact ⟨ret_val (bool_eq HEQ.out.symm), below_drewN (((Below.refl _ _).alloc (Nat.le_refl _) _).alloc (by simp) _) _⟩
    · have he' : ((x.snaps.length : Int) != (y.snaps.length : Int)) = true := by
        rw [bne_iff_ne]; omega
      have hne : decide (x = y) = false := by
        rw [decide_eq_false_iff_not]
        intro e
        exact he (by rw [e])
      have HNE := Lib.hid hne
      clear hne he
      go_enter Try.func23, Try.ntmps23
      go_wp2_with fail
      refine (sameTexts_c _ _ _ _ _ B B' ((hv.now.alloc _).alloc _) ((hu.now.alloc _).alloc _)).mono ?_; rintro e w1 ⟨rfl, n1, rfl⟩
      go_wp2_with fail
      go_ret
      exact ⟨ret_val (bool_eq HNE.out.symm), below_drewN (((Below.refl _ _).alloc (Nat.le_refl _) _).alloc (by simp) _) _⟩
  · have hd : decide (x.now = y.now) = false := by simp [hn]
    have hne : decide (x = y) = false := by
      rw [decide_eq_false_iff_not]
      intro e
      exact hn (by rw [e])
    have HNE := Lib.hid hne
    clear hne hn
    go_enter Try.func23, Try.ntmps23
    go_wp2_with fail
    refine (sameTexts_c _ _ _ _ _ B B' ((hv.now.alloc _).alloc _) ((hu.now.alloc _).alloc _)).mono ?_; rintro e w1 ⟨rfl, n1, rfl⟩
    go_wp2_with fail
    go_ret
    exact ⟨ret_val (bool_eq HNE.out.symm), below_drewN (((Below.refl _ _).alloc (Nat.le_refl _) _).alloc (by simp) _) _⟩
end Go.Proofs.Ytioajgcbchdpeaa

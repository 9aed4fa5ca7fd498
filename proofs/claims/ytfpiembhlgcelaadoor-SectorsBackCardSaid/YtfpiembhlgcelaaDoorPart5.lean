/- Part 5: words and walks under the law 'PlaysOnce'. -/
import Derived.Test.YtfpiembhlgcelaaDoorPart4
import Derived.Test.YtfpiembhlgcelaaDoorPart2
import Derived.Test.YtfpiembhlgcelaaDoorPart1
import Derived.Test.YtfpiembhlgcelaaDoorPart3
import Derived.Deep.DeepCutAuto
import Derived.Deep.RegionLaw
set_option linter.unusedVariables false
set_option linter.unusedSimpArgs false
/- Walks: slices.Equal of texts and of last ones; scullingkeep.entries. -/
namespace Go.Proofs.YtfpiembhlgcelaaDoor
set_option linter.unusedVariables false
set_option linter.unusedSimpArgs false
open Go.RowKit
set_option maxHeartbeats 1000000
set_option maxRecDepth 100000

theorem eqStrs_c (v u : Value) (xs ys : List Scu.Str) (w : World) (B B' : Nat) (hv : IsStrs w B v xs) (hu : IsStrs w B' u ys) :
    Calls Tryd.prog 29 #[v, u] w fun e w' => e = .returned (.bool (decide (xs = ys))) ∧ ∃ n, w' = w.drewN n := by
  obtain ⟨⟨A, c, rfl, _, hr⟩, hl, _⟩ := hv
  obtain ⟨⟨A', c', rfl, _, hr'⟩, hl', _⟩ := hu
  unfold R47 at hl hl'
  by_cases he : xs.length = ys.length
  · have he' : ((xs.length : Int) != (ys.length : Int)) = false := by simp [he]
    have HE := Lib.hid he
    clear he
    go_enter Tryd.func29, Tryd.ntmps29
    go_wp2
    go_loopw [13] (fun i wr => ∃ k : Nat, k ≤ xs.length ∧ i = .int .i64 k ∧ Hid (xs.take k = ys.take k) ∧ ∃ n, wr = w.drewN n) (fun i _ => xs.length - (intOf i).toNat)
    case atStart => exact ⟨0, Nat.zero_le _, rfl, rfl, 0, rfl⟩
    case round =>
      obtain ⟨k, hk, rfl, ht, n, rfl⟩ := hrel
      by_cases hlt : k < xs.length
      · have hlt' : (k : Int) < (xs.length : Int) := by omega
        have hy : k < ys.length := by have := HE.out; omega
        have hy' : (k : Int) < (ys.length : Int) := by omega
        obtain ⟨g, o, rfl, _, hc⟩ := str_get hr hlt
        obtain ⟨g', o', rfl, _, hc'⟩ := str_get hr' hy
        by_cases hx : xs[k] = ys[k]
        · have hb : (xs[k].toList == ys[k].toList) = true := by rw [str_beq]; simp [hx]
          have HX := Lib.hid hx
          clear hx
          go_wp2
          go_quiet (fail)
          go_wp2
          exact ⟨⟨k + 1, hlt, by go_num, take_succ_eq ht.out hlt hy HX.out, _, rfl⟩, by simp only [intOf]; omega⟩
        · have hb : (xs[k].toList == ys[k].toList) = false := by rw [str_beq]; simp [hx]
          have hne : decide (xs = ys) = false := by
            rw [decide_eq_false_iff_not]
            intro e
            subst e
            exact hx rfl
          have HNE := Lib.hid hne
          clear hne
          go_wp2
          go_quiet (fail)
          go_wp2
          go_ret
          exact ⟨ret_val (bool_eq HNE.out.symm), _, World.drewN_drewN _ _ _⟩
      · have hkx : k = xs.length := by omega
        have hlt' : (xs.length : Int) ≤ (k : Int) := by omega
        have heq : decide (xs = ys) = true := by
          rw [decide_eq_true_eq]
          have h1 := ht.out
          rw [List.take_of_length_le (by omega), List.take_of_length_le (by have := HE.out; omega)] at h1
          exact h1
        have HEQ := Lib.hid heq
        clear hkx heq
        go_wp2
        go_ret
        exact ⟨ret_val (bool_eq HEQ.out.symm), _, rfl⟩
  · have he' : ((xs.length : Int) != (ys.length : Int)) = true := by
      rw [bne_iff_ne]; omega
    have hne : decide (xs = ys) = false := by
      rw [decide_eq_false_iff_not]
      intro e
      exact he (by rw [e])
    rw [hne]
    clear he
    go_enter Tryd.func29, Tryd.ntmps29
    go_wp2
    go_ret
    exact ⟨rfl, 0, rfl⟩

set_option maxHeartbeats 4000000
theorem eqLasts_c (v u : Value) (xs ys : List Scu.Last) (w : World) (B B' : Nat) (hv : IsLasts w B v xs) (hu : IsLasts w B' u ys) :
    Calls Tryd.prog 30 #[v, u] w fun e w' => e = .returned (.bool (decide (xs = ys))) ∧ ∃ n, w' = w.drewN n := by
  obtain ⟨⟨A, c, rfl, _, hr⟩, hl⟩ := hv
  obtain ⟨⟨A', c', rfl, _, hr'⟩, hl'⟩ := hu
  unfold R47 at hl hl'
  by_cases he : xs.length = ys.length
  · have he' : ((xs.length : Int) != (ys.length : Int)) = false := by simp [he]
    have HE := Lib.hid he
    clear he
    go_enter Tryd.func30, Tryd.ntmps30
    go_wp2
    go_loopw [13] (fun i wr => ∃ k : Nat, k ≤ xs.length ∧ i = .int .i64 k ∧ Hid (xs.take k = ys.take k) ∧ ∃ n, wr = w.drewN n) (fun i _ => xs.length - (intOf i).toNat)
    case atStart => exact ⟨0, Nat.zero_le _, rfl, rfl, 0, rfl⟩
    case round =>
      obtain ⟨k, hk, rfl, ht, n, rfl⟩ := hrel
      by_cases hlt : k < xs.length
      · have hlt' : (k : Int) < (xs.length : Int) := by omega
        have hy : k < ys.length := by have := HE.out; omega
        have hy' : (k : Int) < (ys.length : Int) := by omega
        obtain ⟨g, o, rfl, hg, c0, c1, c2, c3⟩ := last_get hr hlt
        obtain ⟨g', o', rfl, hg', c0', c1', c2', c3'⟩ := last_get hr' hy
        have hq := run_neq_last xs[k] ys[k]
        by_cases hx : xs[k] = ys[k]
        · have hb : decide (xs[k] = ys[k]) = true := by simp [hx]
          have HX := Lib.hid hx
          clear hx
          go_wp2
          go_quiet (fail)
          go_wp2
          exact ⟨⟨k + 1, hlt, by go_num, take_succ_eq ht.out hlt hy HX.out, _, rfl⟩, by simp only [intOf]; omega⟩
        · have hb : decide (xs[k] = ys[k]) = false := by simp [hx]
          have hne : decide (xs = ys) = false := by
            rw [decide_eq_false_iff_not]
            intro e
            subst e
            exact hx rfl
          have HNE := Lib.hid hne
          clear hne hx
          go_wp2
          go_quiet (fail)
          go_wp2
          go_ret
          exact ⟨ret_val (bool_eq HNE.out.symm), _, World.drewN_drewN _ _ _⟩
      · have hkx : k = xs.length := by omega
        have hlt' : (xs.length : Int) ≤ (k : Int) := by omega
        have heq : decide (xs = ys) = true := by
          rw [decide_eq_true_eq]
          have h1 := ht.out
          rw [List.take_of_length_le (by omega), List.take_of_length_le (by have := HE.out; omega)] at h1
          exact h1
        have HEQ := Lib.hid heq
        clear hkx heq
        go_wp2
        go_ret
        exact ⟨ret_val (bool_eq HEQ.out.symm), _, rfl⟩
  · have he' : ((xs.length : Int) != (ys.length : Int)) = true := by
      rw [bne_iff_ne]; omega
    have hne : decide (xs = ys) = false := by
      rw [decide_eq_false_iff_not]
      intro e
      exact he (by rw [e])
    rw [hne]
    clear he
    go_enter Tryd.func30, Tryd.ntmps30
    go_wp2
    go_ret
    exact ⟨rfl, 0, rfl⟩


theorem strs_of_own {w : World} {base : Nat} {v : Value} {xs : List Scu.Str} {n : Nat} (h : w.ownsRow base 9 1 v n (xs.map Value.string)) (hn : n = xs.length) (hl : xs.length * 16 ≤ R47) (he : ∀ s ∈ xs, s.size ≤ R47) : IsStrs w 0 v xs := by
  subst hn
  obtain ⟨A, c, rfl, hc, _, hr, _⟩ := rd_own h
  exact ⟨⟨A, c, rfl, hc, hr⟩, hl, he⟩
theorem src_box1 {w : World} {t : TypeId} {u : Value} : Src1 (w.alloc (.cells #[u] t)) 1 (.slice (some ⟨w.heap.size, 0, none⟩) 1 1) 1 [u] := src_box (cs := [u]) rfl
theorem entries_c (v : Value) (qs : List Scu.Request) (w : World) (hq : IsReqs w 0 v qs) (hok : ∀ q ∈ qs, Scu.reqFault q = 0) (hl : qs.length ≤ 1000) :
    Calls Tryd.prog 27 #[v] w fun e w' => (∃ A c, e = .returned (.slice A (Scu.entries qs).length c) ∧ IsStrs w' 0 (.slice A (Scu.entries qs).length c) (Scu.entries qs)) ∧ Below w.heap.size w w' := by
  obtain ⟨A, c, rfl⟩ : ∃ A c, v = .slice A qs.length c := by obtain ⟨A, c, _, e, _⟩ := hq.ex; exact ⟨A, c, e⟩
  have HQ := Lib.hid hq
  have HOK := Lib.hid hok
  have HZ := Lib.hid (show w.ownsRow w.heap.size 9 1 (.slice none 0 0) 0 [] from World.ownsRow_nil _ _ _ _)
  clear hq hok
  go_enter Tryd.func27, Tryd.ntmps27
  go_wp2_with fail
  go_loopw [3, 10] (fun ov i wr => ∃ (k : Nat) (Ao : Option Addr) (co : Nat), k ≤ qs.length ∧ i = .int .i64 k ∧ ov = .slice Ao k co ∧ Hid (wr.ownsRow w.heap.size 9 1 (.slice Ao k co) k ((Scu.entries (qs.take k)).map Value.string)) ∧ Hid (IsReqs wr 0 (.slice A qs.length c) qs) ∧ Hid (Below w.heap.size w wr)) (fun _ i _ => qs.length - (intOf i).toNat)
  case atStart => exact ⟨0, none, 0, Nat.zero_le _, rfl, rfl, HZ, HQ, Lib.hid (Below.refl _ _)⟩
  case round =>
    obtain ⟨k, Ao, co, hk, rfl, rfl, HO, HI, HB⟩ := hrel
    by_cases hlt : k < qs.length
    · have hlt' : (k : Int) < (qs.length : Int) := by omega
      obtain ⟨g, o, c', e, hg, -⟩ := req_at HI.out hlt
      obtain rfl : A = some ⟨g, o, none⟩ := by cases e; rfl
      clear e c'
      obtain ⟨q, hqq⟩ : ∃ q, qs[k] = q := ⟨_, rfl⟩
      have hf : Scu.reqFault q = 0 := by rw [← hqq]; exact HOK.out _ (List.getElem_mem _)
      have hc : ∀ j u, (reqV q)[j]? = some u → j < 6 → wr.cell? ⟨g, o + k * 6 + j, none⟩ = some u := fun j u h hj => by rw [HI.out.cell_at hlt j hj, hqq, h]
      have c0 : wr.cell? ⟨g, o + k * 6, none⟩ = some (.int .i64 q.client) := hc 0 _ rfl (by decide)
      have c1 : wr.cell? ⟨g, o + k * 6 + 1, none⟩ = some (.int .i64 q.num) := hc 1 _ rfl (by decide)
      have c2 : wr.cell? ⟨g, o + k * 6 + 2, none⟩ = some (.int .i64 q.op.kind) := hc 2 _ rfl (by decide)
      have c3 : wr.cell? ⟨g, o + k * 6 + 3, none⟩ = some (.int .i64 q.op.at_) := hc 3 _ rfl (by decide)
      have c4 : wr.cell? ⟨g, o + k * 6 + 4, none⟩ = some (.int .i64 q.op.snap) := hc 4 _ rfl (by decide)
      have c5 : wr.cell? ⟨g, o + k * 6 + 5, none⟩ = some (.string q.op.data) := hc 5 _ rfl (by decide)
      have HF := Lib.hid hf
      have HQQ := Lib.hid hqq
      clear hf hqq hc
      go_upto_region 5 with fail
      obtain ⟨Wd, hWd⟩ : ∃ W, W = wr.alloc (Obj.cells (reqV q).toArray 28) := ⟨_, rfl⟩
      rw [show wr.alloc (Obj.cells #[.int .i64 q.client, .int .i64 q.num, .int .i64 q.op.kind, .int .i64 q.op.at_, .int .i64 q.op.snap, .string q.op.data] 28) = Wd from hWd.symm]
      have hbl : Blk Wd wr.heap.size 28 (reqV q).toArray := by rw [hWd]; exact Blk.new _ _ _
      have hbd : Below wr.heap.size wr Wd := by rw [hWd]; exact below_alloc _ _
      clear hWd c0 c1 c2 c3 c4 c5
      have d0 : Wd.cell? ⟨wr.heap.size, 0, none⟩ = some (.int .i64 q.client) := hbl.cell 0
      have d1 : Wd.cell? ⟨wr.heap.size, 1, none⟩ = some (.int .i64 q.num) := hbl.cell 1
      have d2 : Wd.cell? ⟨wr.heap.size, 2, none⟩ = some (.int .i64 q.op.kind) := hbl.cell 2
      have d3 : Wd.cell? ⟨wr.heap.size, 3, none⟩ = some (.int .i64 q.op.at_) := hbl.cell 3
      have d4 : Wd.cell? ⟨wr.heap.size, 4, none⟩ = some (.int .i64 q.op.snap) := hbl.cell 4
      have d5 : Wd.cell? ⟨wr.heap.size, 5, none⟩ = some (.string q.op.data) := hbl.cell 5
      have HBD := Lib.hid hbd
      clear hbl hbd
      go_wp2_with fail
      refine (encode_q q HF.out _).mono ?_; rintro e w2 ⟨rfl, b2⟩
      obtain ⟨s, hs⟩ : ∃ s, Scu.reqBytes q = s := ⟨_, rfl⟩
      rw [hs]
      have HS := Lib.hid hs
      have hr2 := HBD.out.trans (b2.mono HBD.out.size)
      have HR2 := Lib.hid hr2
      have HO2 := Lib.hid (own_below HO.out hr2)
      have hsz2 := HB.out.size
      have hsz3 := hr2.size
      clear hs hr2 b2 d0 d1 d2 d3 d4 d5
      go_wp2_with (at_builtin; refine list_app _ rfl (.tmp 21) (.tmp 23) 36 rfl el_strs w.heap.size (.slice Ao k co) k ((Scu.entries (qs.take k)).map Value.string) rfl (own_below HO2.out (below_alloc _ _)) (.slice (some ⟨w2.heap.size, 0, none⟩) 1 1) 1 [.string s] rfl src_box1 (fun u hu => by simp only [List.mem_cons, List.not_mem_nil, or_false] at hu; subst hu; rfl) (by unfold maxLen; omega) (by omega) (by simp only [World.size_alloc]; omega) ?_)
      intro v4 x4 h4 hg4 _
      obtain ⟨A9, c9, rfl, _, _, _, _⟩ := rd_own h4
      have hb4 : Below w.heap.size w x4 := ((HB.out.trans (HR2.out.mono HB.out.size)).trans ((below_alloc w2 _).mono (by omega))).grown hg4 (by simp only [World.size_alloc]; omega) (fun g hg => ((HO2.out.lt) g hg).1)
      have hi4 : IsReqs x4 0 (.slice (some ⟨g, o, none⟩) qs.length c) qs :=
        IsRow.same ((HI.out.below HR2.out).below (below_alloc w2 _)) (Ts := [28]) (by simp) (Same.own (own_below HO2.out (below_alloc w2 _)) hg4 (Nat.zero_le _) (by decide)) (fun _ _ h => h)
      have hent : (Scu.entries (qs.take k)).map Value.string ++ [Value.string s] = (Scu.entries (qs.take (k + 1))).map Value.string := by
        rw [List.take_succ_eq_append_getElem hlt, Scu.entries_snoc, HQQ.out, HS.out, List.map_append]
        rfl
      rw [hent] at h4
      have H4 := Lib.hid h4
      have HI4 := Lib.hid hi4
      have HB4 := Lib.hid hb4
      clear hent h4 hi4 hb4 hg4
      go_wp2
      exact ⟨⟨k + 1, _, _, hlt, by go_num, rfl, H4, HI4, HB4⟩, by simp only [intOf]; omega⟩
    · have hkl' : k = qs.length := by omega
      have hlt' : ¬ (k : Int) < (qs.length : Int) := by omega
      subst hkl'
      go_wp2
      go_ret
      have e1 : Scu.entries (qs.take qs.length) = Scu.entries qs := by rw [List.take_length]
      rw [e1] at HO
      rw [Scu.entries_length]
      exact ⟨⟨_, _, rfl, strs_of_own HO.out (Scu.entries_length _).symm (by rw [Scu.entries_length]; unfold R47; omega) (fun s hs => by
        unfold Scu.entries at hs
        obtain ⟨q, hq, rfl⟩ := List.mem_map.1 hs
        have := Scu.reqBytes_size q
        have := (Scu.opFault_ok (Scu.reqFault_ok (HOK.out q hq)).2.2.2.2).2.2.2.2.2.2.1
        unfold R47; omega)⟩, HB.out⟩
end Go.Proofs.YtfpiembhlgcelaaDoor
/- Plain laws: playing entries. -/
namespace Scu

/- playing -/
theorem doIt_ok {v : Volume} {o : Op} (h : volFault v = 0) (ho : opFault o = 0) : volFault (doIt v o).1 = 0 := by
  have hv : volOk v = true := by
    unfold volFault at h
    split at h
    · assumption
    · simp at h
  have hop := opFault_ok ho
  have mk : ∀ x : Volume, volOk x = true → volFault x = 0 := fun x hx => by unfold volFault; rw [if_pos hx]
  apply mk
  unfold volOk at hv
  simp only [Bool.and_eq_true, decide_eq_true_eq] at hv
  obtain ⟨⟨h1, h2⟩, h3⟩ := hv
  have hs := h1
  unfold sectorsOk at h1
  simp only [Bool.and_eq_true, beq_iff_eq, List.all_eq_true, decide_eq_true_eq] at h1
  unfold doIt
  split
  · unfold volOk sectorsOk
    simp only [Bool.and_eq_true, beq_iff_eq, List.all_eq_true, decide_eq_true_eq, List.length_set]
    refine ⟨⟨⟨h1.1, fun s hs => ?_⟩, h2⟩, ?_⟩
    · rcases List.mem_or_eq_of_mem_set hs with hs | hs
      · exact h1.2 s hs
      · subst hs; omega
    · intro x hx
      have := List.all_eq_true.1 h3 x hx
      unfold sectorsOk at this
      simpa only [Bool.and_eq_true, beq_iff_eq, List.all_eq_true, decide_eq_true_eq] using this
  split
  · split
    · unfold volOk; simp only [Bool.and_eq_true, decide_eq_true_eq]; exact ⟨⟨hs, h2⟩, h3⟩
    · unfold volOk
      simp only [Bool.and_eq_true, decide_eq_true_eq, List.length_append, List.length_singleton, List.all_append, List.all_cons, List.all_nil, Bool.and_true]
      exact ⟨⟨hs, by omega⟩, h3, hs⟩
  split
  · unfold volOk; simp only [Bool.and_eq_true, decide_eq_true_eq]; exact ⟨⟨hs, h2⟩, h3⟩
  split
  · unfold volOk; simp only [Bool.and_eq_true, decide_eq_true_eq]; exact ⟨⟨hs, h2⟩, h3⟩
  · unfold volOk; simp only [Bool.and_eq_true, decide_eq_true_eq]; exact ⟨⟨hs, h2⟩, h3⟩
theorem lastsOk_iff {l : List Last} : lastsOk l = true ↔ l.length = 4 ∧ ∀ x ∈ l, 0 ≤ x.num ∧ x.num ≤ 1048576 := by
  unfold lastsOk
  simp only [Bool.and_eq_true, beq_iff_eq, List.all_eq_true, decide_eq_true_eq]
theorem stateFault_iff {s : State} : stateFault s = 0 ↔ lastsOk s.lasts = true ∧ volFault s.volume = 0 := by
  unfold stateFault
  split
  · rename_i h; exact ⟨fun e => ⟨h, e⟩, fun e => e.2⟩
  · rename_i h; exact ⟨fun e => by omega, fun e => absurd e.1 h⟩
theorem applyIt_ok {s : State} {r : Request} (h : stateFault s = 0) (hr : reqFault r = 0) : stateFault (applyIt s r) = 0 := by
  obtain ⟨h1, h2⟩ := stateFault_iff.1 h
  have hq := reqFault_ok hr
  unfold applyIt
  split
  · exact h
  · refine stateFault_iff.2 ⟨?_, doIt_ok h2 hq.2.2.2.2⟩
    rw [lastsOk_iff] at h1 ⊢
    refine ⟨by simp [h1.1], fun x hx => ?_⟩
    rcases List.mem_or_eq_of_mem_set hx with hx | hx
    · exact h1.2 x hx
    · subst hx; exact ⟨by show 0 ≤ r.num; omega, by show r.num ≤ _; omega⟩
theorem decode_req {e : Str} (h : (decode e).2 = 0) : reqFault (decode e).1 = 0 := by
  unfold decode at h ⊢
  by_cases h1 : 40 < e.size
  · rw [if_pos h1] at h; simp at h
  rw [if_neg h1] at h ⊢
  by_cases h2 : e.size < 4
  · rw [if_pos h2] at h; simp at h
  rw [if_neg h2] at h ⊢
  generalize readNumber (dropS e 4) = q at h ⊢
  obtain ⟨n, s1, e1⟩ := q
  simp only at h ⊢
  generalize readText s1 = p at h ⊢
  obtain ⟨d, s2, e2⟩ := p
  simp only at h ⊢
  by_cases h3 : e1 ≠ 0
  · rw [if_pos h3] at h; exact absurd h h3
  rw [if_neg h3] at h ⊢
  by_cases h4 : e2 ≠ 0
  · rw [if_pos h4] at h; exact absurd h h4
  rw [if_neg h4] at h ⊢
  by_cases h5 : s2 ≠ str0
  · rw [if_pos h5] at h; simp at h
  rw [if_neg h5] at h ⊢
  generalize (⟨byteAt e 0, n, ⟨byteAt e 1, byteAt e 2, byteAt e 3, d⟩⟩ : Request) = r at h ⊢
  by_cases h6 : reqFault r ≠ 0
  · rw [if_pos h6] at h; exact absurd h h6
  · rw [if_neg h6]; exact Classical.byContradiction h6
theorem stateNew_ok : stateFault stateNew = 0 := by decide
theorem apply_ok {s : State} {e : Str} (h : stateFault s = 0) (he : (decode e).2 = 0) : apply s e = (applyIt s (decode e).1, 0) := by
  unfold apply
  rw [if_neg (by omega), if_neg (by omega)]
def AllOk (P : List Str) : Prop := ∀ e ∈ P, (decode e).2 = 0
theorem playFrom_ok : ∀ (P : List Str) (s : State), stateFault s = 0 → AllOk P → playFrom s P = (P.foldl (fun s e => applyIt s (decode e).1) s, 0) ∧ stateFault (P.foldl (fun s e => applyIt s (decode e).1) s) = 0
  | [], s, h, _ => ⟨rfl, h⟩
  | e :: P, s, h, hP => by
    have he := hP e List.mem_cons_self
    have ha := apply_ok h he
    have hn := applyIt_ok h (decode_req he)
    obtain ⟨h1, h2⟩ := playFrom_ok P (applyIt s (decode e).1) hn fun x hx => hP x (List.mem_cons_of_mem _ hx)
    refine ⟨?_, h2⟩
    unfold playFrom
    rw [ha]
    simp only [ne_eq, not_true_eq_false, if_false]
    exact h1
def played (P : List Str) : State := P.foldl (fun s e => applyIt s (decode e).1) stateNew
theorem play_ok {P : List Str} (hP : AllOk P) : play P = (played P, 0) ∧ stateFault (played P) = 0 := playFrom_ok P stateNew stateNew_ok hP
theorem played_snoc (P : List Str) (e : Str) : played (P ++ [e]) = applyIt (played P) (decode e).1 := by unfold played; rw [List.foldl_append]; rfl
end Scu
/- Plain: what is asked twice is done once. -/
namespace Scu
set_option linter.unusedVariables false
set_option linter.unusedSimpArgs false
theorem applyIt_twice {s : State} {r : Request} (h : stateFault s = 0) (hr : reqFault r = 0) : applyIt (applyIt s r) r = applyIt s r := by
  obtain ⟨h1, h2⟩ := stateFault_iff.1 h
  obtain ⟨h4, _⟩ := lastsOk_iff.1 h1
  obtain ⟨c1, c4, _⟩ := reqFault_ok hr
  by_cases hn : r.num ≤ (s.lasts.getD (r.client - 1).toNat last0).num
  · have e : applyIt s r = s := if_pos hn
    rw [e, e]
  · have e : applyIt s r = ⟨(doIt s.volume r.op).1, s.lasts.set (r.client - 1).toNat ⟨r.num, (doIt s.volume r.op).2⟩⟩ := if_neg hn
    rw [e]
    refine if_pos ?_
    have hk : (r.client - 1).toNat < s.lasts.length := by omega
    simp only [List.getD_eq_getElem?_getD, List.getElem?_set_self hk, Option.getD_some]
    exact Int.le_refl _
def dup (l : List Str) : List Str := l.flatMap fun s => [s, s]
theorem dup_snoc (l : List Str) (s : Str) : dup (l ++ [s]) = dup l ++ [s, s] := by unfold dup; rw [List.flatMap_append]; rfl
theorem dup_length (l : List Str) : (dup l).length = 2 * l.length := by
  induction l with
  | nil => rfl
  | cons s l ih =>
    have : dup (s :: l) = s :: s :: dup l := rfl
    rw [this, List.length_cons, List.length_cons, ih, List.length_cons]
    omega
theorem dup_mem {l : List Str} {e : Str} (h : e ∈ dup l) : e ∈ l := by
  unfold dup at h
  obtain ⟨s, hs, he⟩ := List.mem_flatMap.1 h
  simp only [List.mem_cons, List.not_mem_nil, or_false] at he
  rcases he with rfl | rfl <;> exact hs
theorem dup_ok {P : List Str} (h : AllOk P) : AllOk (dup P) := fun e he => h e (dup_mem he)
theorem played_dup : ∀ P : List Str, AllOk P → played (dup P) = played P := by
  refine rev_list (fun _ => rfl) fun l s ih h => ?_
  have hl : AllOk l := fun e he => h e (List.mem_append_left _ he)
  have hs : (decode s).2 = 0 := h s (List.mem_append_right _ List.mem_cons_self)
  have hf := (play_ok hl).2
  rw [dup_snoc, show dup l ++ [s, s] = dup l ++ [s] ++ [s] from by rw [List.append_assoc]; rfl, played_snoc, played_snoc, played_snoc, ih hl]
  exact applyIt_twice hf (decode_req hs)
theorem entries_ok {l : List Request} (h : ∀ q ∈ l, reqFault q = 0) : AllOk (entries l) := by
  intro e he
  unfold entries at he
  obtain ⟨q, hq, rfl⟩ := List.mem_map.1 he
  rw [decode_reqBytes (h q hq)]
theorem entries_size {l : List Request} (h : ∀ q ∈ l, reqFault q = 0) : ∀ e ∈ entries l, e.size ≤ 17 := by
  intro e he
  unfold entries at he
  obtain ⟨q, hq, rfl⟩ := List.mem_map.1 he
  have := reqBytes_size q
  have := (opFault_ok (reqFault_ok (h q hq)).2.2.2.2).2.2.2.2.2.2.1
  omega
end Scu
/- Rows that are whole blocks: as what an append goes onto, and as what it takes. -/
namespace Go.Proofs.YtfpiembhlgcelaaDoor
open Go.RowKit
set_option maxHeartbeats 400000
set_option maxRecDepth 100000
abbrev nInt : Int → Value := Value.int .i64
theorem el_ints' : ElT 77 3 1 8 := by
  obtain ⟨i, h1, h2, h3, h4⟩ := info_parts (P := Tryd.prog) (e := 3) (z := .int .i64 0) (size := 1) (bytes := 8) (by kernel_rfl)
  exact ⟨Tryd.underlying77, by omega, i, _, h1, h2, h3, h4, rfl⟩
theorem one_ints' (xs : List Int) : ∀ u ∈ xs.map nInt, u.oneCell' = true := fun u hu => by
  obtain ⟨s, _, rfl⟩ := List.mem_map.1 hu
  rfl
theorem own_blk {w : World} {base g n : Nat} {e : TypeId} {xs : List Value} (h : Blk w g e xs.toArray) (hb : base ≤ g) (hn : xs.length = n) (hm : n ≤ maxLen) : w.ownsRow base e 1 (.slice (some ⟨g, 0, none⟩) n n) n xs :=
  ⟨by simpa using hn, .inr ⟨g, n, xs.toArray, rfl, hb, h, Nat.le_refl _, hm, by simp [hn], by rw [Nat.mul_one, ← hn]; simp⟩⟩
theorem src_blk {w : World} {g n : Nat} {e : TypeId} {xs : List Value} (h : Blk w g e xs.toArray) (hn : xs.length = n) : Src1 w 1 (.slice (some ⟨g, 0, none⟩) n n) n xs :=
  ⟨by simpa using hn, .inr ⟨_, _, rfl, fun j u hj => by
    have : (⟨g, 0, none⟩ : Addr).add j = ⟨g, j, none⟩ := by unfold Addr.add; split <;> simp_all
    rw [this, h.cell]
    simpa using hj⟩⟩
end Go.Proofs.YtfpiembhlgcelaaDoor
/- Walk: the document's answer on an entry's bytes. -/
namespace Go.Proofs.YtfpiembhlgcelaaDoor
open Go.RowKit
attribute [local go_sem] conv_four conv_one byteAt_get
set_option maxHeartbeats 4000000
set_option maxRecDepth 100000
end Go.Proofs.YtfpiembhlgcelaaDoor
/- Walks: what may be kept, its copies, and whether it is the same; the laws StageCopies and StageChecks. -/
namespace Go.Proofs.YtfpiembhlgcelaaDoor
open Go.RowKit Go.ChangeShapes Go.WideShapes Go.ChangeAt
set_option maxHeartbeats 400000
set_option maxRecDepth 100000

def vKept (lv : Value) (k : Scu.Kept) : Value := .agg #[.int .i64 k.view, .int .i64 k.normal, .bool k.calm, lv, .int .i64 k.commit]
theorem cells_kept : Tryd.prog.cellsOf 64 = 5 := by kernel_rfl
theorem bytes_kept : Tryd.prog.bytesOf 64 = 56 := by kernel_rfl
def KeptEl (w : World) (B : Nat) (cs : List Value) (k : Scu.Kept) : Prop := ∃ lv, cs = [.int .i64 k.view, .int .i64 k.normal, .bool k.calm, lv, .int .i64 k.commit] ∧ IsStrs w B lv k.log
section
variable {H : Type} {enc : TypeId × Value → H} {w : World} {base : Nat} {spare : Nat → Bool} {held : Bool} {n : Nat}
theorem trod_kept {cs : List Value} {x : DataW H × List MemPlace} (h : DataW.trod enc Tryd.prog w base spare held n 64 cs = some x) (hw : ∀ k ∈ x.1.weights Tryd.prog 64, k ≤ reachBytes) : ∃ k, KeptEl w w.heap.size cs k := by
  obtain ⟨xs, m, _, hxe, hl, hxl, hf⟩ := DataW.trod_struct Tryd.underlying64 h
  rw [cells_kept] at hl
  match cs, hl with
  | [c0, c1, c2, c3, c4], _ =>
    have hxl5 : xs.length = 5 := hxl
    match xs, hxl5 with
    | [z0, z1, z2, z3, z4], _ =>
      subst hxe
      have hwt : ∀ k ∈ DataW.weights Tryd.prog 64 (DataW.agg [z0.1, z1.1, z2.1, z3.1, z4.1]), k ≤ reachBytes := hw
      simp only [DataW.weights, Tryd.underlying64, DataW.weightsEach, List.map_cons, List.map_nil, List.mem_append] at hwt
      obtain ⟨n0, h0, _⟩ := DataW.trod_int Tryd.underlying3 (hf 0 _ rfl)
      obtain ⟨n1, h1, _⟩ := DataW.trod_int Tryd.underlying3 (hf 1 _ rfl)
      obtain ⟨b2, h2, _⟩ := DataW.trod_bool Tryd.underlying4 (hf 2 _ rfl)
      obtain ⟨n4, h4, _⟩ := DataW.trod_int Tryd.underlying3 (hf 4 _ rfl)
      have h3 := hf 3 _ rfl
      simp [cells_int, cells_bool, cells_strs] at h0 h1 h2 h3 h4
      subst h0 h1 h2 h4
      obtain ⟨ls, h3'⟩ := trod_strs h3 (fun k hk => hwt k (.inr (.inr (.inr (.inl hk)))))
      exact ⟨⟨n0, n1, b2, ls, n4⟩, c3, rfl, h3'⟩
def IsKeptV (w : World) (v : Value) (x : Scu.Kept) : Prop := ∃ lv, v = .agg #[.int .i64 x.view, .int .i64 x.normal, .bool x.calm, lv, .int .i64 x.commit] ∧ IsStrs w w.heap.size lv x.log
theorem openS_Kept {v : Value} {d : DataW H} {p : List MemPlace} {b0 : Nat} (hv : Value.okWide Tryd.prog w .any b0 64 v) (h : DataW.Trod enc Tryd.prog w base spare held 64 v d p)
    (hw : ∀ k ∈ d.weights Tryd.prog 64, k ≤ reachBytes) : ∃ y, IsKeptV w v y := by
  obtain ⟨cs, rfl, _⟩ := okWide_struct Tryd.underlying64 hv
  obtain ⟨fuel, hf⟩ := h
  obtain ⟨k, lv, e, hy⟩ := trod_kept hf hw
  refine ⟨k, lv, ?_, hy⟩
  have : cs = #[.int .i64 k.view, .int .i64 k.normal, .bool k.calm, lv, .int .i64 k.commit] := by
    apply Array.toList_inj.1
    simpa [Value.cells] using e
  rw [this]
end

/- what may be kept -/
theorem kept_bad2 {k : Scu.Kept} (h : k.view < 0 ∨ 1048576 < k.view ∨ k.normal < 0 ∨ k.view < k.normal ∨ (k.calm = true ∧ k.normal ≠ k.view)) : Scu.keptFault k = 2 := if_pos h
theorem kept_ok2 {k : Scu.Kept} (h1 : ¬ k.view < 0) (h2 : ¬ 1048576 < k.view) (h3 : ¬ k.normal < 0) (h4 : ¬ k.view < k.normal) (h5 : k.calm = false ∨ k.normal = k.view) :
    ¬ (k.view < 0 ∨ 1048576 < k.view ∨ k.normal < 0 ∨ k.view < k.normal ∨ (k.calm = true ∧ k.normal ≠ k.view)) := by
  rintro (h | h | h | h | ⟨h, h'⟩)
  · exact h1 h
  · exact h2 h
  · exact h3 h
  · exact h4 h
  · rcases h5 with h5 | h5
    · rw [h] at h5; cases h5
    · exact h' h5
theorem kept_rest {k : Scu.Kept} (h : ¬ (k.view < 0 ∨ 1048576 < k.view ∨ k.normal < 0 ∨ k.view < k.normal ∨ (k.calm = true ∧ k.normal ≠ k.view))) :
    Scu.keptFault k = if 60 < k.log.length then 1 else if k.commit < 0 ∨ (k.log.length : Int) < k.commit then 2 else Scu.logFault k.log := if_neg h
theorem log_next {l : List Scu.Str} {k : Nat} (h : k < l.length) : Scu.logFault (l.drop k) = if (Scu.decode l[k]).2 ≠ 0 then (Scu.decode l[k]).2 else Scu.logFault (l.drop (k + 1)) := by
  rw [List.drop_eq_getElem_cons h]
  rfl
theorem decode_a (s : ByteArray) (w : World) (r : Scu.Request) (c : Int) (h : Scu.decode s = (r, c)) :
    Calls Tryd.prog 20 #[.string s] w fun e w' => e = .returned (.tuple #[.agg #[.int .i64 r.client, .int .i64 r.num, .int .i64 r.op.kind, .int .i64 r.op.at_, .int .i64 r.op.snap, .string r.op.data], .int .i64 c]) ∧ Below w.heap.size w w' := by
  have := decode_c s w
  rw [h] at this
  exact this
theorem stageCheck_x (lv : Value) (vi no : Int) (ca : Bool) (lo : List Scu.Str) (co : Int) (w : World) (B : Nat) (hv : IsStrs w B lv lo) :
    Calls Tryd.prog 73 #[.agg #[.int .i64 vi, .int .i64 no, .bool ca, lv, .int .i64 co]] w fun e w' => e = .returned (.int .i64 (Scu.keptFault ⟨vi, no, ca, lo, co⟩)) ∧ Below w.heap.size w w' := by
  obtain ⟨⟨A, c, rfl, _, hr⟩, hl, he⟩ := hv
  have HDEC := Lib.hid (fun (s : ByteArray) (W : World) => decode_a s W)
  unfold R47 at hl he
  cases t1 : decide (vi < 0) with
  | true =>
    have HF := Lib.hid (show Scu.keptFault ⟨vi, no, ca, lo, co⟩ = 2 from kept_bad2 (.inl (of_decide_eq_true t1)))
    clear hr hl he HDEC
    try clear hrest
    go_enter Tryd.func73, Tryd.ntmps73
    go_wp2
    go_ret
    exact ⟨ret_val (int_eq HF.out.symm), (Below.refl _ _).alloc (Nat.le_refl _) _⟩
  | false =>
  cases t2 : decide ((1048576 : Int) < vi) with
  | true =>
    have HF := Lib.hid (show Scu.keptFault ⟨vi, no, ca, lo, co⟩ = 2 from kept_bad2 (.inr (.inl (of_decide_eq_true t2))))
    clear hr hl he HDEC
    try clear hrest
    go_enter Tryd.func73, Tryd.ntmps73
    go_wp2
    go_ret
    exact ⟨ret_val (int_eq HF.out.symm), (Below.refl _ _).alloc (Nat.le_refl _) _⟩
  | false =>
  cases t3 : decide (no < 0) with
  | true =>
    have HF := Lib.hid (show Scu.keptFault ⟨vi, no, ca, lo, co⟩ = 2 from kept_bad2 (.inr (.inr (.inl (of_decide_eq_true t3)))))
    clear hr hl he HDEC
    try clear hrest
    go_enter Tryd.func73, Tryd.ntmps73
    go_wp2
    go_ret
    exact ⟨ret_val (int_eq HF.out.symm), (Below.refl _ _).alloc (Nat.le_refl _) _⟩
  | false =>
  cases t4 : decide (vi < no) with
  | true =>
    have HF := Lib.hid (show Scu.keptFault ⟨vi, no, ca, lo, co⟩ = 2 from kept_bad2 (.inr (.inr (.inr (.inl (of_decide_eq_true t4))))))
    clear hr hl he HDEC
    try clear hrest
    go_enter Tryd.func73, Tryd.ntmps73
    go_wp2
    go_ret
    exact ⟨ret_val (int_eq HF.out.symm), (Below.refl _ _).alloc (Nat.le_refl _) _⟩
  | false =>
  have H5 : (ca = true ∧ (no != vi) = true) ∨ ((ca = false ∨ (ca = true ∧ (no != vi) = false))) := by
    cases ca <;> cases (no != vi) <;> simp
  rcases H5 with ⟨rfl, t6⟩ | H5
  · have HF := Lib.hid (show Scu.keptFault ⟨vi, no, true, lo, co⟩ = 2 from kept_bad2 (.inr (.inr (.inr (.inr ⟨rfl, by simpa using t6⟩)))))
    clear hr hl he HDEC
    try clear hrest
    go_enter Tryd.func73, Tryd.ntmps73
    go_wp2
    go_ret
    exact ⟨ret_val (int_eq HF.out.symm), (Below.refl _ _).alloc (Nat.le_refl _) _⟩
  have hrest : Scu.keptFault ⟨vi, no, ca, lo, co⟩ = if 60 < lo.length then 1 else if co < 0 ∨ (lo.length : Int) < co then 2 else Scu.logFault lo := kept_rest (k := ⟨vi, no, ca, lo, co⟩) (kept_ok2 (of_decide_eq_false t1) (of_decide_eq_false t2) (of_decide_eq_false t3) (of_decide_eq_false t4) (H5.imp id (fun h => by simpa using h.2)))
  cases t7 : decide ((60 : Int) < (lo.length : Int)) with
  | true =>
    rcases H5 with rfl | ⟨rfl, t6⟩
    · have HF := Lib.hid (show Scu.keptFault ⟨vi, no, false, lo, co⟩ = 1 from by rw [hrest, if_pos (by have := of_decide_eq_true t7; omega)])
      clear hr hl he HDEC
      try clear hrest
      go_enter Tryd.func73, Tryd.ntmps73
      go_wp2
      go_ret
      exact ⟨ret_val (int_eq HF.out.symm), (Below.refl _ _).alloc (Nat.le_refl _) _⟩
    · have HF := Lib.hid (show Scu.keptFault ⟨vi, no, true, lo, co⟩ = 1 from by rw [hrest, if_pos (by have := of_decide_eq_true t7; omega)])
      clear hr hl he HDEC
      try clear hrest
      go_enter Tryd.func73, Tryd.ntmps73
      go_wp2
      go_ret
      exact ⟨ret_val (int_eq HF.out.symm), (Below.refl _ _).alloc (Nat.le_refl _) _⟩
  | false =>
  rw [if_neg (by have := of_decide_eq_false t7; omega)] at hrest
  cases t8 : decide (co < 0) with
  | true =>
    rcases H5 with rfl | ⟨rfl, t6⟩
    · have HF := Lib.hid (show Scu.keptFault ⟨vi, no, false, lo, co⟩ = 2 from by rw [hrest, if_pos (.inl (of_decide_eq_true t8))])
      clear hr hl he HDEC
      try clear hrest
      go_enter Tryd.func73, Tryd.ntmps73
      go_wp2
      go_ret
      exact ⟨ret_val (int_eq HF.out.symm), (Below.refl _ _).alloc (Nat.le_refl _) _⟩
    · have HF := Lib.hid (show Scu.keptFault ⟨vi, no, true, lo, co⟩ = 2 from by rw [hrest, if_pos (.inl (of_decide_eq_true t8))])
      clear hr hl he HDEC
      try clear hrest
      go_enter Tryd.func73, Tryd.ntmps73
      go_wp2
      go_ret
      exact ⟨ret_val (int_eq HF.out.symm), (Below.refl _ _).alloc (Nat.le_refl _) _⟩
  | false =>
  cases t9 : decide ((lo.length : Int) < co) with
  | true =>
    rcases H5 with rfl | ⟨rfl, t6⟩
    · have HF := Lib.hid (show Scu.keptFault ⟨vi, no, false, lo, co⟩ = 2 from by rw [hrest, if_pos (.inr (of_decide_eq_true t9))])
      clear hr hl he HDEC
      try clear hrest
      go_enter Tryd.func73, Tryd.ntmps73
      go_wp2
      go_ret
      exact ⟨ret_val (int_eq HF.out.symm), (Below.refl _ _).alloc (Nat.le_refl _) _⟩
    · have HF := Lib.hid (show Scu.keptFault ⟨vi, no, true, lo, co⟩ = 2 from by rw [hrest, if_pos (.inr (of_decide_eq_true t9))])
      clear hr hl he HDEC
      try clear hrest
      go_enter Tryd.func73, Tryd.ntmps73
      go_wp2
      go_ret
      exact ⟨ret_val (int_eq HF.out.symm), (Below.refl _ _).alloc (Nat.le_refl _) _⟩
  | false =>
  rw [if_neg (by have := of_decide_eq_false t8; have := of_decide_eq_false t9; omega)] at hrest
  have HF := Lib.hid hrest
  have HE := Lib.hid he
  clear hrest he
  rcases H5 with rfl | ⟨rfl, t6⟩
  all_goals
    go_enter Tryd.func73, Tryd.ntmps73
    go_wp2
    go_loopw [56] (fun i wr => ∃ j : Nat, j ≤ lo.length ∧ i = .int .i64 j ∧ Hid (Scu.logFault lo = Scu.logFault (lo.drop j)) ∧ Below w.heap.size w wr) (fun i _ => lo.length - (intOf i).toNat)
    case atStart => exact ⟨0, Nat.zero_le _, rfl, by simp [Hid], (Below.refl _ _).alloc (Nat.le_refl _) _⟩
    case round =>
      obtain ⟨j, hj, rfl, ht, hbw⟩ := hrel
      have hrw := hr.below hbw
      have hbs := hbw.size
      by_cases hlt : j < lo.length
      · have hlt' : (j : Int) < (lo.length : Int) := by omega
        obtain ⟨g, o, rfl, hg, hc⟩ := str_get hrw hlt
        have hn := log_next hlt
        generalize hd : Scu.decode lo[j] = q at hn
        obtain ⟨r, cd⟩ := q
        have HD := Lib.hid hd
        clear hd
        cases hx : (cd != 0)
        · have hcd : cd = 0 := by simpa using hx
          have HX := Lib.hid (show Scu.logFault lo = Scu.logFault (lo.drop (j + 1)) by rw [ht.out, hn, if_neg (by simpa using hcd)])
          clear hn hcd
          go_wp2_with fail
          refine (HDEC.out _ _ _ _ HD.out).mono ?_; rintro e w1 ⟨rfl, h1⟩
          go_wp2
          have hb1 := hbw.trans (h1.mono hbs)
          have HB1 := Lib.hid hb1
          clear hb1
          go_roundw
          case rel =>
            refine ⟨j + 1, hlt, by go_num, HX, ?_⟩
            exact (HB1.out.alloc HB1.out.size _)
          case measure => simp only [intOf]; omega
        · have hcd : cd ≠ 0 := by simpa using hx
          have HX := Lib.hid (show Scu.keptFault ⟨vi, no, _, lo, co⟩ = cd by rw [HF.out, ht.out, hn, if_pos hcd])
          clear hn hcd
          go_wp2_with fail
          refine (HDEC.out _ _ _ _ HD.out).mono ?_; rintro e w1 ⟨rfl, h1⟩
          go_wp2
          go_ret
          refine ⟨ret_val (int_eq HX.out.symm), ?_⟩
          have hb1 := hbw.trans (h1.mono hbs)
          exact (hb1.alloc hb1.size _)
      · have hlt' : (lo.length : Int) ≤ (j : Int) := by omega
        have HX := Lib.hid (show Scu.keptFault ⟨vi, no, _, lo, co⟩ = 0 by rw [HF.out, ht.out, List.drop_of_length_le (by omega)]; rfl)
        go_wp2
        go_ret
        exact ⟨ret_val (int_eq HX.out.symm), hbw⟩
theorem stageCheck_c (lv : Value) (k : Scu.Kept) (w : World) (B : Nat) (hv : IsStrs w B lv k.log) :
    Calls Tryd.prog 73 #[.agg #[.int .i64 k.view, .int .i64 k.normal, .bool k.calm, lv, .int .i64 k.commit]] w fun e w' => e = .returned (.int .i64 (Scu.keptFault k)) ∧ Below w.heap.size w w' :=
  stageCheck_x lv k.view k.normal k.calm k.log k.commit w B hv
end Go.Proofs.YtfpiembhlgcelaaDoor
/- Walks: what may be kept, by the reference; copies; whether it is the same; the laws StageCopies and StageChecks. -/
namespace Go.Proofs.YtfpiembhlgcelaaDoor
open Go.RowKit
set_option maxHeartbeats 400000
set_option maxRecDepth 100000

theorem inB_no {n a b : Int} (h : inB n a b = false) : n < a ∨ b < n := by
  unfold inB at h
  simp only [Bool.and_eq_false_iff, decide_eq_false_iff_not] at h
  omega
theorem inB_yes {n a b : Int} (h : inB n a b = true) : a ≤ n ∧ n ≤ b := by
  unfold inB at h
  simpa only [Bool.and_eq_true, decide_eq_true_eq] using h
end Go.Proofs.YtfpiembhlgcelaaDoor
/- Walks: copies of what is kept, and whether it is the same; the laws StageCopies and StageChecks. -/
namespace Go.Proofs.YtfpiembhlgcelaaDoor
open Go.RowKit
set_option maxHeartbeats 400000
set_option maxRecDepth 100000

def OwnStrs (w : World) (base : Nat) (v : Value) (xs : List Scu.Str) : Prop := w.ownsRow base 9 1 v xs.length (xs.map Value.string) ∧ xs.length * 16 ≤ R47 ∧ ∀ s ∈ xs, s.size ≤ R47
theorem OwnStrs.is {w : World} {base : Nat} {v : Value} {xs : List Scu.Str} (h : OwnStrs w base v xs) : IsStrs w 0 v xs := strs_own h.1 h.2.1 h.2.2
theorem OwnStrs.form {w : World} {base : Nat} {v : Value} {xs : List Scu.Str} (h : OwnStrs w base v xs) : ∃ A n c, v = .slice A n c := h.is.form
theorem OwnStrs.below {w w' : World} {base : Nat} {v : Value} {xs : List Scu.Str} (h : OwnStrs w base v xs) (hb : Below w.heap.size w w') : OwnStrs w' base v xs := ⟨own_below h.1 hb, h.2.1, h.2.2⟩
theorem OwnStrs.alloc {w : World} {base : Nat} {v : Value} {xs : List Scu.Str} (h : OwnStrs w base v xs) (o : Obj) : OwnStrs (w.alloc o) base v xs := h.below (below_alloc w o)
theorem OwnStrs.base_ {w : World} {base base' : Nat} {v : Value} {xs : List Scu.Str} (h : OwnStrs w base v xs) (hb : base' ≤ base) : OwnStrs w base' v xs := ⟨ownsRow_base h.1 hb, h.2.1, h.2.2⟩
theorem OwnStrs.set_ {w : World} {base : Nat} {v : Value} {xs : List Scu.Str} (h : OwnStrs w base v xs) {g i : Nat} {t : TypeId} {cs : Array Value} (hb : Blk w g t cs) (hne : t ≠ 9) (u : Value) : OwnStrs (w.setCell ⟨g, i, none⟩ u) base v xs := ⟨own_set h.1 hb hne u, h.2.1, h.2.2⟩
theorem own_same {w w' : World} {Ts : List TypeId} {B base : Nat} {e : TypeId} {size n : Nat} {v : Value} {xs : List Value} (h : w.ownsRow base e size v n xs) (ht : e ∈ Ts) (hs : Same Ts B w w') : w'.ownsRow base e size v n xs := by
  obtain ⟨h1, h2 | ⟨g, cap, cur, rfl, h3, h4, h5⟩⟩ := h
  · exact ⟨h1, .inl h2⟩
  · have hlt : g < w.heap.size := by
      rcases Nat.lt_or_ge g w.heap.size with hlt | hge
      · exact hlt
      · rw [Array.getElem?_eq_none hge] at h4; cases h4
    have := hs.keep g hlt (.inr ⟨_, _, _, ht, h4⟩)
    exact ⟨h1, .inr ⟨g, cap, cur, rfl, h3, by rw [this]; exact h4, h5⟩⟩
theorem OwnStrs.same {w w' : World} {B base : Nat} {v : Value} {xs : List Scu.Str} (h : OwnStrs w base v xs) (hs : Same [9] B w w') : OwnStrs w' base v xs := ⟨own_same h.1 (by simp) hs, h.2.1, h.2.2⟩
theorem Same.sets5 {Ts : List TypeId} {B g : Nat} {w : World} {t : TypeId} {cs : Array Value} (hb : Blk w g t cs) (hB : B ≤ g) (ht : t ∉ Ts) (a b c d e : Value) :
    Same Ts B w (((((w.setCell ⟨g, 0, none⟩ a).setCell ⟨g, 1, none⟩ b).setCell ⟨g, 2, none⟩ c).setCell ⟨g, 3, none⟩ d).setCell ⟨g, 4, none⟩ e) :=
  ((((Same.set_ hb hB ht 0 a).trans (Same.set_ (hb.set_ 0 a) hB ht 1 b)).trans (Same.set_ ((hb.set_ 0 a).set_ 1 b) hB ht 2 c)).trans (Same.set_ (((hb.set_ 0 a).set_ 1 b).set_ 2 c) hB ht 3 d)).trans (Same.set_ ((((hb.set_ 0 a).set_ 1 b).set_ 2 c).set_ 3 d) hB ht 4 e)
theorem below_set5 {B g : Nat} {w w1 : World} {a b c d e : Value} (h : Below B w w1) (hg : B ≤ g) :
    Below B w (((((w1.setCell ⟨g, 0, none⟩ a).setCell ⟨g, 1, none⟩ b).setCell ⟨g, 2, none⟩ c).setCell ⟨g, 3, none⟩ d).setCell ⟨g, 4, none⟩ e) :=
  ((((h.setCell (p := ⟨g, 0, none⟩) hg _).setCell (p := ⟨g, 1, none⟩) hg _).setCell (p := ⟨g, 2, none⟩) hg _).setCell (p := ⟨g, 3, none⟩) hg _).setCell (p := ⟨g, 4, none⟩) hg _
def KeptRet (w : World) (base : Nat) (k : Scu.Kept) (e : Ending) : Prop := ∃ lv, e = .returned (.agg #[.int .i64 k.view, .int .i64 k.normal, .bool k.calm, lv, .int .i64 k.commit]) ∧ OwnStrs w base lv k.log

theorem stageCopy_c (lv : Value) (k : Scu.Kept) (w : World) (B : Nat) (hv : IsStrs w B lv k.log) :
    Calls Tryd.prog 75 #[.agg #[.int .i64 k.view, .int .i64 k.normal, .bool k.calm, lv, .int .i64 k.commit]] w fun e w' => KeptRet w' w.heap.size k e ∧ Below w.heap.size w w' := by
  have HV := Lib.hid hv
  obtain ⟨A, n, c, rfl⟩ := hv.form
  have hb0 := Blk.new w 64 #[.int .i64 k.view, .int .i64 k.normal, .bool k.calm, .slice A n c, .int .i64 k.commit]
  clear hv
  go_enter Tryd.func75, Tryd.ntmps75
  go_wp2_with fail
  refine (cloneStrs_c _ k.log _ B ((HV.out.alloc _).alloc _)).mono ?_; rintro e w1 ⟨⟨u, rfl, hu⟩, h1⟩
  obtain ⟨hc, hz⟩ := bcell h1
  have hsz : w.heap.size + 1 < w1.heap.size := by have := h1.size; simp at this; omega
  have hsz' : w.heap.size < w1.heap.size := by omega
  have HB1 := Lib.hid ((hb0.alloc (Obj.cells #[.int .i64 0, .int .i64 0, .bool false, .slice none 0 0, .int .i64 0] 64)).same h1)
  have HR1 := Lib.hid ((Blk.new (w.alloc (Obj.cells #[.int .i64 k.view, .int .i64 k.normal, .bool k.calm, .slice A n c, .int .i64 k.commit] 64)) 64 #[.int .i64 0, .int .i64 0, .bool false, .slice none 0 0, .int .i64 0]).same h1)
  obtain ⟨A2, c2, rfl, _, _, _, _⟩ := rd_own hu
  have hB1 : Below w.heap.size w w1 := (((Below.refl _ _).alloc (Nat.le_refl _) _).alloc (by simp) _).trans (h1.mono (by simp; omega))
  have HU := Lib.hid (show OwnStrs w1 _ _ k.log from ⟨hu, HV.out.len, HV.out.each⟩)
  clear hu hb0
  have hq := HB1.out.set_ 3 (.slice A2 k.log.length c2)
  have hr := HR1.out.far (p := ⟨w.heap.size, 3, none⟩) (by simp) (.slice A2 k.log.length c2)
  simp only [World.size_alloc] at hr
  have hr5 := ((((hr.set_ 0 (.int .i64 k.view)).set_ 1 (.int .i64 k.normal)).set_ 2 (.bool k.calm)).set_ 3 (.slice A2 k.log.length c2)).set_ 4 (.int .i64 k.commit)
  have u0 := hq.cell 0
  have u1 := hq.cell 1
  have u2 := hq.cell 2
  have u3 := hq.cell 3
  have u4 := hq.cell 4
  simp at u0 u1 u2 u3 u4
  have v0 := hr.cell 0
  have v1 := hr.cell 1
  have v2 := hr.cell 2
  have v3 := hr.cell 3
  have v4 := hr.cell 4
  simp at v0 v1 v2 v3 v4
  have x0 := hr5.cell 0
  have x1 := hr5.cell 1
  have x2 := hr5.cell 2
  have x3 := hr5.cell 3
  have x4 := hr5.cell 4
  simp at x0 x1 x2 x3 x4
  have uz := hq.frozen
  have vz := hr.frozen
  have HQ := Lib.hid (And.intro hq (And.intro hr hr5))
  clear hq hr hr5
  go_wp2
  refine bodyPost_ret (v := .agg #[.int .i64 k.view, .int .i64 k.normal, .bool k.calm, .slice A2 k.log.length c2, .int .i64 k.commit]) (by simp [results, Tryd.results75, go_sem, x0, x1, x2, x3, x4]) rfl ?_
  refine ⟨⟨_, rfl, ?_⟩, ?_⟩
  · exact ((HU.out.base_ (by simp; omega)).same (Same.set_ (B := 0) HB1.out (Nat.zero_le _) (by decide) 3 _)).same (Same.sets5 (B := 0) HQ.out.2.1 (Nat.zero_le _) (by decide) _ _ _ _ _)
  · exact below_set5 (hB1.setCell (p := ⟨w.heap.size, 3, none⟩) (Nat.le_refl _) _) (Nat.le_succ _)

end Go.Proofs.YtfpiembhlgcelaaDoor
/- A cell of an owned row is set. -/
namespace Go.Proofs.YtfpiembhlgcelaaDoor
open Go.RowKit
set_option maxHeartbeats 400000
set_option maxRecDepth 100000

theorem own_at {w : World} {base n : Nat} {e : TypeId} {v : Value} {xs : List Value} (h : w.ownsRow base e 1 v n xs) (hn : 0 < n) :
    ∃ g c cur, v = .slice (some ⟨g, 0, none⟩) n c ∧ base ≤ g ∧ Blk w g e cur ∧ ∀ j, j < n → w.cell? ⟨g, j, none⟩ = xs[j]? := by
  obtain ⟨hl, ⟨rfl, rfl⟩ | ⟨g, cap, cur, rfl, hb, hh, hnc, _, hcs, ht⟩⟩ := h
  · omega
  · refine ⟨g, cap, cur, rfl, hb, hh, fun j hj => ?_⟩
    have hB : Blk w g e cur := hh
    rw [hB.cell, ← ht, List.getElem?_take_of_lt (by omega)]
    simp
theorem own_put {w : World} {base n g c : Nat} {e : TypeId} {xs : List Value} (h : w.ownsRow base e 1 (.slice (some ⟨g, 0, none⟩) n c) n xs) (j : Nat) (u : Value) :
    (w.setCell ⟨g, j, none⟩ u).ownsRow base e 1 (.slice (some ⟨g, 0, none⟩) n c) n (xs.set j u) := by
  obtain ⟨hl, ⟨h0, _⟩ | ⟨g', cap, cur, e1, hb, hh, hnc, hm, hcs, ht⟩⟩ := h
  · cases h0
  · cases e1
    have hB : Blk w g e cur := hh
    refine ⟨by simp [hl], .inr ⟨g, c, cur.setIfInBounds j u, rfl, hb, hB.set_ j u, hnc, hm, by simpa using hcs, ?_⟩⟩
    rw [Array.toList_setIfInBounds, List.take_set, ht]
theorem OwnStrs.at_ {w : World} {base : Nat} {v : Value} {xs : List Scu.Str} (h : OwnStrs w base v xs) (hn : 0 < xs.length) :
    ∃ g c cur, v = .slice (some ⟨g, 0, none⟩) xs.length c ∧ base ≤ g ∧ Blk w g 9 cur ∧ ∀ j, j < xs.length → w.cell? ⟨g, j, none⟩ = (xs.map Value.string)[j]? := own_at h.1 hn
theorem OwnStrs.put {w : World} {base g c n : Nat} {xs : List Scu.Str} (h : OwnStrs w base (.slice (some ⟨g, 0, none⟩) n c) xs) (j : Nat) (s : Scu.Str) (hs : s.size ≤ R47) :
    OwnStrs (w.setCell ⟨g, j, none⟩ (.string s)) base (.slice (some ⟨g, 0, none⟩) n c) (xs.set j s) := by
  have hn : n = xs.length := by
    obtain ⟨A, c', e, _⟩ := h.is.ex
    cases e
    rfl
  subst hn
  refine ⟨?_, by simpa using h.2.1, fun t ht => ?_⟩
  · rw [List.length_set, List.map_set]
    exact own_put h.1 j _
  · rcases List.mem_or_eq_of_mem_set ht with h' | rfl
    · exact h.2.2 t h'
    · exact hs
end Go.Proofs.YtfpiembhlgcelaaDoor
/- What clients were told last: rows of the call's own; states. Walk: their clone. -/
namespace Go.Proofs.YtfpiembhlgcelaaDoor
open Go.RowKit
set_option maxHeartbeats 400000
set_option maxRecDepth 100000

def OwnLasts (w : World) (base : Nat) (v : Value) (ls : List Scu.Last) : Prop := w.ownsRow base 60 4 v ls.length (ls.flatMap lastC) ∧ ls.length * 40 ≤ R47
theorem OwnLasts.is {w : World} {base : Nat} {v : Value} {ls : List Scu.Last} (h : OwnLasts w base v ls) : IsLasts w 0 v ls := by
  obtain ⟨A, c, rfl, hc, _, hr, _⟩ := rd_own h.1
  exact ⟨⟨A, c, rfl, hc, hr⟩, h.2⟩
theorem OwnLasts.below {w w' : World} {base : Nat} {v : Value} {xs : List Scu.Last} (h : OwnLasts w base v xs) (hb : Below w.heap.size w w') : OwnLasts w' base v xs := ⟨own_below h.1 hb, h.2⟩
theorem OwnLasts.base_ {w : World} {base base' : Nat} {v : Value} {xs : List Scu.Last} (h : OwnLasts w base v xs) (hb : base' ≤ base) : OwnLasts w base' v xs := ⟨ownsRow_base h.1 hb, h.2⟩
theorem OwnLasts.set_ {w : World} {base : Nat} {v : Value} {xs : List Scu.Last} (h : OwnLasts w base v xs) {g i : Nat} {t : TypeId} {cs : Array Value} (hb : Blk w g t cs) (hne : t ≠ 60) (u : Value) : OwnLasts (w.setCell ⟨g, i, none⟩ u) base v xs := ⟨own_set h.1 hb hne u, h.2⟩
theorem el_lasts : ElT 52 60 4 40 := by
  obtain ⟨i, h1, h2, h3, h4⟩ := info_parts (P := Tryd.prog) (e := 60) (z := .agg #[.int .i64 0, .int .i64 0, .int .i64 0, .string ⟨#[]⟩]) (size := 4) (bytes := 40) (by kernel_rfl)
  exact ⟨Tryd.underlying52, by omega, i, _, h1, h2, h3, h4, rfl⟩
theorem one_lasts (ls : List Scu.Last) : ∀ u ∈ ls.flatMap lastC, u.oneCell' = true := fun u hu => by
  obtain ⟨l, _, h⟩ := List.mem_flatMap.1 hu
  simp only [lastC, List.mem_cons, List.not_mem_nil, or_false] at h
  rcases h with rfl | rfl | rfl | rfl <;> rfl
theorem lasts_len (ls : List Scu.Last) : (ls.flatMap lastC).length = ls.length * 4 := flat_len lastC 4 (fun _ => rfl) ls
theorem cloneLasts_c (v : Value) (xs : List Scu.Last) (w : World) (B : Nat) (hv : IsLasts w B v xs) :
    Calls Tryd.prog 92 #[v] w fun e w' => (∃ u, e = .returned u ∧ OwnLasts w' w.heap.size u xs) ∧ Below w.heap.size w w' := by
  obtain ⟨⟨A, c, rfl, hlc, hr⟩, hl⟩ := hv
  have hl0 := hl
  rcases A with _ | ad
  · have hx : xs = [] := by
      have := rd_none hr
      have := congrArg List.length this
      rw [lasts_len] at this
      exact List.eq_nil_of_length_eq_zero (by simp only [List.length_nil] at this; omega)
    subst hx
    have heq0 := fun (W : World) => Lib.run_eql_slice_nil (P := Tryd.prog) W 52 60 none 0 c 0 0 Tryd.underlying52
    go_enter Tryd.func92, Tryd.ntmps92
    go_wp2
    go_ret
    exact ⟨⟨_, rfl, World.ownsRow_nil _ _ _ _, hl0⟩, Below.refl _ _⟩
  · have heq := fun (W : World) => Lib.run_eql_slice_nil (P := Tryd.prog) W 52 60 (some ad) xs.length c 0 0 Tryd.underlying52
    have hl' := hl
    unfold R47 at hl'
    go_enter Tryd.func92, Tryd.ntmps92
    go_wp2_with (at_builtin; refine list_app _ rfl _ _ 52 rfl el_lasts w.heap.size _ 0 [] rfl (own_new (Nat.le_refl _)) _ xs.length (xs.flatMap lastC) rfl ?c1 (one_lasts xs) (by unfold maxLen; omega) (by omega) (by simp) ?_)
    case c1 => exact src_of_rd (hr.alloc _) (lasts_len xs) (fun e => by cases e)
    intro v1 w1 hown hg hw
    have hown : w1.ownsRow w.heap.size 60 4 v1 xs.length (xs.flatMap lastC) := by simpa only [Nat.zero_add, List.nil_append] using hown
    have HO := Lib.hid hown
    have HW := Lib.hid hw
    clear hown hw
    go_wp2
    go_ret
    refine ⟨⟨_, rfl, HO.out, hl0⟩, ?_⟩
    exact ((Below.refl _ _).alloc (Nat.le_refl _) _).trans (below_grown hg (by simp) (fun k hk => by simp [Value.ownBlock] at hk; omega))
theorem flat_set4 : ∀ (ls : List Scu.Last) (k : Nat) (l : Scu.Last),
    ((((ls.flatMap lastC).set (k * 4) (.int .i64 l.num)).set (k * 4 + 1) (.int .i64 l.reply.code)).set (k * 4 + 2) (.int .i64 l.reply.n)).set (k * 4 + 3) (.string l.reply.data) = (ls.set k l).flatMap lastC
  | [], k, l => by simp
  | x :: t, 0, l => by simp [lastC]
  | x :: t, k + 1, l => by
    have ih := flat_set4 t k l
    have e0 : (k + 1) * 4 = k * 4 + 1 + 1 + 1 + 1 := by omega
    have e1 : k * 4 + 1 + 1 + 1 + 1 + 1 = k * 4 + 1 + 1 + 1 + 1 + 1 := rfl
    have e2 : k * 4 + 1 + 1 + 1 + 1 + 2 = k * 4 + 2 + 1 + 1 + 1 + 1 := by omega
    have e3 : k * 4 + 1 + 1 + 1 + 1 + 3 = k * 4 + 3 + 1 + 1 + 1 + 1 := by omega
    rw [List.set_cons_succ, List.flatMap_cons, List.flatMap_cons, ← ih, e0, e2, e3]
    simp only [lastC, List.cons_append, List.nil_append, List.set_cons_succ]
theorem own_putl {w : World} {base n g c m : Nat} {e : TypeId} {xs : List Value} (h : w.ownsRow base e m (.slice (some ⟨g, 0, none⟩) n c) n xs) (j : Nat) (u : Value) :
    (w.setCell ⟨g, j, none⟩ u).ownsRow base e m (.slice (some ⟨g, 0, none⟩) n c) n (xs.set j u) := by
  obtain ⟨hl, ⟨h0, _⟩ | ⟨g', cap, cur, e1, hb, hh, hnc, hm, hcs, ht⟩⟩ := h
  · cases h0
  · cases e1
    have hB : Blk w g e cur := hh
    refine ⟨by simp [hl], .inr ⟨g, c, cur.setIfInBounds j u, rfl, hb, hB.set_ j u, hnc, hm, by simpa using hcs, ?_⟩⟩
    rw [Array.toList_setIfInBounds, List.take_set, ht]
theorem OwnLasts.put {w : World} {base g c n : Nat} {ls : List Scu.Last} (h : OwnLasts w base (.slice (some ⟨g, 0, none⟩) n c) ls) (k : Nat) (l : Scu.Last) :
    OwnLasts ((((w.setCell ⟨g, k * 4, none⟩ (.int .i64 l.num)).setCell ⟨g, k * 4 + 1, none⟩ (.int .i64 l.reply.code)).setCell ⟨g, k * 4 + 2, none⟩ (.int .i64 l.reply.n)).setCell ⟨g, k * 4 + 3, none⟩ (.string l.reply.data)) base (.slice (some ⟨g, 0, none⟩) n c) (ls.set k l) := by
  have hn : n = ls.length := by
    obtain ⟨A, c', e, _⟩ := h.is.ex
    cases e
    rfl
  subst hn
  refine ⟨?_, by simpa using h.2⟩
  rw [List.length_set, ← flat_set4]
  exact own_putl (own_putl (own_putl (own_putl h.1 _ _) _ _) _ _) _ _
theorem OwnLasts.at_ {w : World} {base : Nat} {v : Value} {ls : List Scu.Last} (h : OwnLasts w base v ls) (hn : 0 < ls.length) :
    ∃ g c cur, v = .slice (some ⟨g, 0, none⟩) ls.length c ∧ base ≤ g ∧ Blk w g 60 cur ∧ ∀ j, j < ls.length * 4 → w.cell? ⟨g, j, none⟩ = (ls.flatMap lastC)[j]? := by
  obtain ⟨hl, ⟨_, h0⟩ | ⟨g, cap, cur, rfl, hb, hh, hnc, _, hcs, ht⟩⟩ := h.1
  · omega
  · refine ⟨g, cap, cur, rfl, hb, hh, fun j hj => ?_⟩
    have hB : Blk w g 60 cur := hh
    rw [hB.cell, ← ht, List.getElem?_take_of_lt (by omega)]
    simp
theorem Same.put4 {Ts : List TypeId} {B g : Nat} {w : World} {t : TypeId} {cs : Array Value} (hb : Blk w g t cs) (hB : B ≤ g) (ht : t ∉ Ts) (k : Nat) (l : Scu.Last) : Same Ts B w ((((w.setCell ⟨g, k * 4, none⟩ (.int .i64 l.num)).setCell ⟨g, k * 4 + 1, none⟩ (.int .i64 l.reply.code)).setCell ⟨g, k * 4 + 2, none⟩ (.int .i64 l.reply.n)).setCell ⟨g, k * 4 + 3, none⟩ (.string l.reply.data)) :=
  (((Same.set_ hb hB ht _ _).trans (Same.set_ (hb.set_ _ _) hB ht _ _)).trans (Same.set_ ((hb.set_ _ _).set_ _ _) hB ht _ _)).trans (Same.set_ (((hb.set_ _ _).set_ _ _).set_ _ _) hB ht _ _)
theorem IsVolume.same {w w' : World} {B : Nat} {nv sv : Value} {x : Scu.Volume} (h : IsVolume w 0 nv sv x) (hs : Same [9, 36] B w w') (hB : B = 0) : IsVolume w' 0 nv sv x := by
  subst hB
  exact h.keep hs.size fun g hg hh => hs.keep g hg (hh.imp id fun ⟨C, fz, t, ht, e⟩ => ⟨C, fz, t, by rcases ht with rfl | rfl <;> simp, e⟩)
theorem IsLasts.same {w w' : World} {v : Value} {ls : List Scu.Last} (h : IsLasts w 0 v ls) (hs : Same [60] 0 w w') : IsLasts w' 0 v ls :=
  h.keep hs.size fun g hg hh => hs.keep g hg (hh.imp id fun ⟨C, fz, e⟩ => ⟨C, fz, _, by simp, e⟩)
theorem OwnLasts.same {w w' : World} {base : Nat} {v : Value} {ls : List Scu.Last} (h : OwnLasts w base v ls) (hs : Same [60] 0 w w') : OwnLasts w' base v ls := ⟨own_same h.1 (by simp) hs, h.2⟩
end Go.Proofs.YtfpiembhlgcelaaDoor
/- A volume of the call's own: a sector is set, a snapshot put behind the others. -/
namespace Go.Proofs.YtfpiembhlgcelaaDoor
open Go.RowKit
set_option maxHeartbeats 400000
set_option maxRecDepth 100000

theorem IsStrs.far {w : World} {B : Nat} {v : Value} {xs : List Scu.Str} (h : IsStrs w B v xs) {p : Addr} (hne : v.ownBlock ≠ some p.block) (u : Value) : IsStrs (w.setCell p u) B v xs := by
  obtain ⟨⟨A, c, rfl, hc, hr⟩, h1, h2⟩ := h
  refine ⟨⟨A, c, rfl, hc, ?_⟩, h1, h2⟩
  rcases hr with hr | ⟨g, o, rfl, hg, hk, hcell⟩
  · exact .inl hr
  · have hgp : g ≠ p.block := fun e => hne (by simp [Value.ownBlock, e])
    have e := Below.heap_setCell w p u g hgp
    exact .inr ⟨g, o, rfl, by simpa [World.setCell] using hg, by rw [e]; exact hk, fun j u' hj => by
      rw [World.cell?_of_block (w := w) (w' := w.setCell p u) (a := ⟨g, o + j, none⟩) e]
      exact hcell j u' hj⟩
theorem own_blk_ex {w : World} {base n g c : Nat} {e : TypeId} {xs : List Value} (h : w.ownsRow base e 1 (.slice (some ⟨g, 0, none⟩) n c) n xs) : ∃ cur, Blk w g e cur ∧ base ≤ g := by
  obtain ⟨_, ⟨h0, _⟩ | ⟨g', cap, cur, e1, hb, hh, _⟩⟩ := h
  · cases h0
  · cases e1
    exact ⟨cur, hh, hb⟩
theorem OwnVol.same {w w' : World} {B base : Nat} {nv sv : Value} {x : Scu.Volume} (h : OwnVol w base nv sv x) (hs : Same [9, 36] B w w') : OwnVol w' base nv sv x := by
  obtain ⟨hn, hnl, hne, hl, vs, b, hrow, heach, hlo, hhi⟩ := h
  have hs0 : Same [9, 36] 0 w w' := hs.mono (fun _ h => h) (Nat.zero_le _)
  exact ⟨own_same hn (by simp) hs0, hnl, hne, hl, vs, b, own_same hrow (by simp) hs0, fun j u y h1 h2 => (heach j u y h1 h2).same (by simp) hs0, hlo, hhi⟩
theorem OwnVol.below {w w' : World} {base : Nat} {nv sv : Value} {x : Scu.Volume} (h : OwnVol w base nv sv x) (hb : Below w.heap.size w w') : OwnVol w' base nv sv x := h.same (B := 0) (Same.below hb)
theorem OwnVol.alloc {w : World} {base : Nat} {nv sv : Value} {x : Scu.Volume} (h : OwnVol w base nv sv x) (o : Obj) : OwnVol (w.alloc o) base nv sv x := h.below (below_alloc w o)
theorem OwnVol.base_ {w : World} {base base' : Nat} {nv sv : Value} {x : Scu.Volume} (h : OwnVol w base nv sv x) (hb : base' ≤ base) : OwnVol w base' nv sv x := by
  obtain ⟨hn, hnl, hne, hl, vs, b, hrow, hrest⟩ := h
  exact ⟨ownsRow_base hn hb, hnl, hne, hl, vs, b, ownsRow_base hrow hb, hrest⟩
theorem OwnVol.zero_ (w : World) (base : Nat) : OwnVol w base (.slice none 0 0) (.slice none 0 0) Scu.vol0 :=
  ⟨World.ownsRow_nil _ _ _ _, by simp [Scu.vol0], (fun s hs => by cases hs), by simp [Scu.vol0], [], 0, World.ownsRow_nil _ _ _ _, (fun j u y h => by simp at h), (fun g h => by simp [Value.ownBlock] at h), (fun u h => by simp at h)⟩
theorem OwnVol.put {w : World} {base g n c : Nat} {sv : Value} {x : Scu.Volume} (h : OwnVol w base (.slice (some ⟨g, 0, none⟩) n c) sv x) (j : Nat) (s : Scu.Str) (hs : s.size ≤ R47) :
    OwnVol (w.setCell ⟨g, j, none⟩ (.string s)) base (.slice (some ⟨g, 0, none⟩) n c) sv ⟨x.now.set j s, x.snaps⟩ := by
  obtain ⟨hn, hnl, hne, hl, vs, b, hrow, heach, hlo, hhi⟩ := h
  have hp := OwnStrs.put (xs := x.now) ⟨hn, hnl, hne⟩ j s hs
  have hn' : n = x.now.length := by
    obtain ⟨A, c', e, _⟩ := rd_own hn
    cases e
    rfl
  subst hn'
  obtain ⟨cur, hb, _⟩ := own_blk_ex hn
  refine ⟨hp.1, hp.2.1, hp.2.2, hl, vs, b, own_set hrow hb (by decide) _, fun i u y h1 h2 => (heach i u y h1 h2).far (fun e => ?_) _, hlo, hhi⟩
  have h3 := hhi u (List.mem_of_getElem? h1) g e
  have h4 := hlo g rfl
  omega
theorem OwnVol.push {w w' : World} {base b : Nat} {nv sv u v4 : Value} {x : Scu.Volume} {vs : List Value} {y : List Scu.Str}
    (hn : w.ownsRow base 9 1 nv x.now.length (x.now.map Value.string)) (hnl : x.now.length * 16 ≤ R47) (hne : ∀ s ∈ x.now, s.size ≤ R47) (hrow : w.ownsRow base 36 1 sv x.snaps.length vs)
    (heach : ∀ (j : Nat) (u : Value) (y : List Scu.Str), vs[j]? = some u → x.snaps[j]? = some y → IsStrs w 0 u y) (hlo : ∀ g, nv.ownBlock = some g → g < b) (hhi : ∀ u ∈ vs, ∀ g, u.ownBlock = some g → b ≤ g)
    (hu : IsStrs w 0 u y) (hub : ∀ g, nv.ownBlock = some g → ∀ g', u.ownBlock = some g' → g < g') (hl : (x.snaps.length + 1) * 24 ≤ R47) (hg : w.grownBy w' sv.ownBlock)
    (h4 : w'.ownsRow base 36 1 v4 (x.snaps.length + 1) (vs ++ [u])) : OwnVol w' base nv v4 ⟨x.now, x.snaps ++ [y]⟩ := by
  have hs : Same [9] 0 w w' := Same.own hrow hg (Nat.zero_le _) (by decide)
  refine ⟨own_same hn (by simp) hs, hnl, hne, by simpa using hl, vs ++ [u], (nv.ownBlock.map (· + 1)).getD 0, by simpa using h4, ?_, ?_, ?_⟩
  · intro j v z hv hz
    have hvl : vs.length = x.snaps.length := by simpa using hrow.1
    rcases Nat.lt_or_ge j vs.length with hj | hj
    · rw [List.getElem?_append_left hj] at hv
      rw [List.getElem?_append_left (by omega)] at hz
      exact (heach j v z hv hz).same (by simp) hs
    · rw [List.getElem?_append_right hj] at hv
      rw [List.getElem?_append_right (by omega)] at hz
      have hj0 : j - vs.length = 0 := by
        rcases Nat.eq_zero_or_pos (j - vs.length) with h | h
        · exact h
        · rw [List.getElem?_eq_none (by simp; omega)] at hv
          cases hv
      rw [hj0] at hv
      rw [show j - x.snaps.length = 0 by omega] at hz
      simp only [List.getElem?_cons_zero, Option.some.injEq] at hv hz
      subst hv
      subst hz
      exact hu.same (by simp) hs
  · intro g hg'
    simp [hg']
  · intro v hv g hg'
    cases hnb : nv.ownBlock with
    | none => simp
    | some g0 =>
      simp only [Option.map_some, Option.getD_some]
      rcases List.mem_append.1 hv with h | h
      · have := hhi v h g hg'
        have := hlo g0 hnb
        omega
      · rw [List.mem_singleton] at h
        subst h
        have := hub g0 hnb g hg'
        omega
theorem blk_grow {w w' : World} {base g n : Nat} {t e : TypeId} {cs : Array Value} {lv : Value} {xs : List Value} (hb : Blk w g t cs) (hown : w.ownsRow base e 1 lv n xs) (hne : t ≠ e) (hg : w.grownBy w' lv.ownBlock) : Blk w' g t cs :=
  (hg.block g hb.lt fun e' => by
    obtain ⟨C', fz', hh⟩ := own_kind hown e'.symm
    unfold Blk at hb
    rw [hh] at hb
    cases hb
    exact hne rfl).trans hb
theorem Same.sets2 {Ts : List TypeId} {B g : Nat} {w : World} {t : TypeId} {cs : Array Value} (hb : Blk w g t cs) (hB : B ≤ g) (ht : t ∉ Ts) (a b : Value) :
    Same Ts B w ((w.setCell ⟨g, 0, none⟩ a).setCell ⟨g, 1, none⟩ b) := (Same.set_ hb hB ht 0 a).trans (Same.set_ (hb.set_ 0 a) hB ht 1 b)
theorem Same.sets3 {Ts : List TypeId} {B g : Nat} {w : World} {t : TypeId} {cs : Array Value} (hb : Blk w g t cs) (hB : B ≤ g) (ht : t ∉ Ts) (a b c : Value) :
    Same Ts B w (((w.setCell ⟨g, 0, none⟩ a).setCell ⟨g, 1, none⟩ b).setCell ⟨g, 2, none⟩ c) := (Same.sets2 hb hB ht a b).trans (Same.set_ ((hb.set_ 0 a).set_ 1 b) hB ht 2 c)
theorem strs_at {w : World} {u : Value} {ys : List Scu.Str} {k : Nat} (h : IsStrs w 0 u ys) (hk : k < ys.length) :
    ∃ g o c, u = .slice (some ⟨g, o, none⟩) ys.length c ∧ g < w.heap.size ∧ (∀ q t cs, Blk w q t cs → t ≠ 9 → g ≠ q) ∧ w.cell? ⟨g, o + k, none⟩ = some (.string ys[k]) := by
  obtain ⟨⟨A, c, rfl, _, hr⟩, _, _⟩ := h
  rcases hr with hr | ⟨g, o, rfl, hg, hb, hc⟩
  · have : ys.length = 0 := by simpa using congrArg List.length hr
    omega
  · refine ⟨g, o, c, rfl, hg, ?_, hc k _ (by simp [hk])⟩
    rintro q t cs hq ht rfl
    rcases hb with hb | ⟨C, fz, hb⟩
    · omega
    · unfold Blk at hq
      rw [hb] at hq
      cases hq
      exact ht rfl
theorem rows_at {w : World} {v : Value} {xss : List (List Scu.Str)} {k : Nat} (h : IsRows w 0 v xss) (hk : k < xss.length) :
    ∃ g o c u, v = .slice (some ⟨g, o, none⟩) xss.length c ∧ g < w.heap.size ∧ (∀ q t cs, Blk w q t cs → t ≠ 36 → g ≠ q) ∧ w.cell? ⟨g, o + k, none⟩ = some u ∧ IsStrs w 0 u xss[k] := by
  obtain ⟨⟨A, c, vs, rfl, _, hr, hvl, hve⟩, _⟩ := h
  have hkv : k < vs.length := by omega
  rcases hr with hr | ⟨g, o, rfl, hg, hb, hc⟩
  · subst hr
    simp at hkv
  · refine ⟨g, o, c, vs[k], rfl, hg, ?_, hc k _ (List.getElem?_eq_getElem hkv), hve k _ _ (List.getElem?_eq_getElem hkv) (List.getElem?_eq_getElem hk)⟩
    rintro q t cs hq ht rfl
    rcases hb with hb | ⟨C, fz, hb⟩
    · omega
    · unfold Blk at hq
      rw [hb] at hq
      cases hq
      exact ht rfl
/-- The answer's two blocks are filled. -/
theorem do_end {X : World} {b2 b3 : Nat} {p q p' q' r' : Value} (h2 : Blk X b2 39 #[p, q]) (h3 : Blk X b3 45 #[p', q', r']) (hne : b2 ≠ b3) (a b x y z : Value) :
    Blk (((((X.setCell ⟨b2, 0, none⟩ a).setCell ⟨b2, 1, none⟩ b).setCell ⟨b3, 0, none⟩ x).setCell ⟨b3, 1, none⟩ y).setCell ⟨b3, 2, none⟩ z) b2 39 #[a, b] ∧ Blk (((((X.setCell ⟨b2, 0, none⟩ a).setCell ⟨b2, 1, none⟩ b).setCell ⟨b3, 0, none⟩ x).setCell ⟨b3, 1, none⟩ y).setCell ⟨b3, 2, none⟩ z) b3 45 #[x, y, z] ∧ Same [9, 36] 0 X (((((X.setCell ⟨b2, 0, none⟩ a).setCell ⟨b2, 1, none⟩ b).setCell ⟨b3, 0, none⟩ x).setCell ⟨b3, 1, none⟩ y).setCell ⟨b3, 2, none⟩ z) := by
  have k2 := (h2.set_ 0 a).set_ 1 b
  have k3 := (h3.far (p := ⟨b2, 0, none⟩) (fun e => hne e.symm) a).far (p := ⟨b2, 1, none⟩) (fun e => hne e.symm) b
  refine ⟨((k2.far (p := ⟨b3, 0, none⟩) hne x).far (p := ⟨b3, 1, none⟩) hne y).far (p := ⟨b3, 2, none⟩) hne z, ((k3.set_ 0 x).set_ 1 y).set_ 2 z, ?_⟩
  exact (Same.sets2 (B := 0) h2 (Nat.zero_le _) (by decide) a b).trans (Same.sets3 (B := 0) k3 (Nat.zero_le _) (by decide) x y z)
theorem do_below {X w : World} {b2 b3 B : Nat} (h : Below B w X) (h2 : B ≤ b2) (h3 : B ≤ b3) (a b x y z : Value) : Below B w (((((X.setCell ⟨b2, 0, none⟩ a).setCell ⟨b2, 1, none⟩ b).setCell ⟨b3, 0, none⟩ x).setCell ⟨b3, 1, none⟩ y).setCell ⟨b3, 2, none⟩ z) :=
  ((((h.setCell (p := ⟨b2, 0, none⟩) h2 _).setCell (p := ⟨b2, 1, none⟩) h2 _).setCell (p := ⟨b3, 0, none⟩) h3 _).setCell (p := ⟨b3, 1, none⟩) h3 _).setCell (p := ⟨b3, 2, none⟩) h3 _
end Go.Proofs.YtfpiembhlgcelaaDoor
/- Words for volume.Do: the blocks of the call, and what it answers. -/
namespace Go.Proofs.YtfpiembhlgcelaaDoor
open Go.RowKit
set_option maxHeartbeats 8000000
set_option maxRecDepth 100000

def DidRet (w : World) (base : Nat) (q : Scu.Volume × Scu.Reply × Int) (e : Ending) : Prop :=
  ∃ nu su, e = .returned (.tuple #[.agg #[nu, su], .agg #[.int .i64 q.2.1.code, .int .i64 q.2.1.n, .string q.2.1.data], .int .i64 q.2.2]) ∧ OwnVol w base nu su q.1
theorem did_zero (w : World) (base : Nat) (e : Int) : DidRet w base (Scu.vol0, Scu.reply0, e) (.returned (.tuple #[.agg #[.slice none 0 0, .slice none 0 0], .agg #[.int .i64 0, .int .i64 0, .string ⟨#[]⟩], .int .i64 e])) :=
  ⟨_, _, rfl, OwnVol.zero_ _ _⟩
section
variable {v : Scu.Volume} {o : Scu.Op}
theorem vd1 (h : Scu.volFault v ≠ 0) : Scu.volDo v o = (Scu.vol0, Scu.reply0, Scu.volFault v) := if_pos h
theorem vd2 (h : ¬ Scu.volFault v ≠ 0) (h2 : Scu.opFault o ≠ 0) : Scu.volDo v o = (Scu.vol0, Scu.reply0, Scu.opFault o) := by unfold Scu.volDo; rw [if_neg h, if_pos h2]
theorem vd3 (h : ¬ Scu.volFault v ≠ 0) (h2 : ¬ Scu.opFault o ≠ 0) : Scu.volDo v o = ((Scu.doIt v o).1, (Scu.doIt v o).2, 0) := by unfold Scu.volDo; rw [if_neg h, if_neg h2]
theorem volFault_ok (h : ¬ Scu.volFault v ≠ 0) : v.now.length = 6 ∧ v.snaps.length ≤ 3 ∧ (∀ s ∈ v.now, s.size ≤ 8) ∧ ∀ l ∈ v.snaps, l.length = 6 ∧ ∀ s ∈ l, s.size ≤ 8 := by
  unfold Scu.volFault Scu.volOk Scu.sectorsOk at h
  split at h
  · rename_i hx
    simp only [Bool.and_eq_true, beq_iff_eq, List.all_eq_true, decide_eq_true_eq] at hx
    exact ⟨hx.1.1.1, hx.1.2, hx.1.1.2, hx.2⟩
  · exact absurd (by decide) h
end
/-- What the four blocks of the call hold. -/
structure Four (w : World) (nv sv : Value) (ki a m : Int) (d : Scu.Str) (W : World) : Prop where
  b0 : Blk W w.heap.size 39 #[nv, sv]
  b1 : Blk W (w.heap.size + 1) 26 #[.int .i64 ki, .int .i64 a, .int .i64 m, .string d]
  b2 : Blk W (w.heap.size + 1 + 1) 39 #[.slice none 0 0, .slice none 0 0]
  b3 : Blk W (w.heap.size + 1 + 1 + 1) 45 #[.int .i64 0, .int .i64 0, .string ⟨#[]⟩]
  low : Below w.heap.size w W
theorem Four.below {w W W' : World} {nv sv : Value} {ki a m : Int} {d : Scu.Str} (h : Four w nv sv ki a m d W) (hb : Below W.heap.size W W') : Four w nv sv ki a m d W' :=
  ⟨h.b0.same hb, h.b1.same hb, h.b2.same hb, h.b3.same hb, h.low.trans (hb.mono h.low.size)⟩
theorem Four.start (w : World) (A0 : Option Addr) (n0 c0 : Nat) (A1 : Option Addr) (n1 c1 : Nat) (ki a m : Int) (d : Scu.Str) : Four w (.slice A0 n0 c0) (.slice A1 n1 c1) ki a m d ((((w.alloc (Obj.cells #[.slice A0 n0 c0, .slice A1 n1 c1] 39)).alloc (Obj.cells #[.int .i64 ki, .int .i64 a, .int .i64 m, .string d] 26)).alloc (Obj.cells #[.slice none 0 0, .slice none 0 0] 39)).alloc (Obj.cells #[.int .i64 0, .int .i64 0, .string ⟨#[]⟩] 45)) :=
  ⟨(((Blk.new w _ _).alloc _).alloc _).alloc _, ((Blk.new' (by simp)).alloc _).alloc _, (Blk.new' (by simp)).alloc _, Blk.new' (by simp), (((below_alloc w _).alloc (by simp) _).alloc (by simp; omega) _).alloc (by simp; omega) _⟩
theorem checkOp_a (o : Scu.Op) (w : World) (h : Scu.opFault o = 0) :
    Calls Tryd.prog 64 #[.agg #[.int .i64 o.kind, .int .i64 o.at_, .int .i64 o.snap, .string o.data]] w fun e w' => e = .returned (.int .i64 0) ∧ Below w.heap.size w w' := by
  have := checkOp_c o w
  rw [h] at this
  exact this
end Go.Proofs.YtfpiembhlgcelaaDoor
/- Walks: volume.Do: what is refused. -/
namespace Go.Proofs.YtfpiembhlgcelaaDoor
open Go.RowKit
set_option maxHeartbeats 8000000
set_option maxRecDepth 100000

theorem volDo_e1 (A0 : Option Addr) (n0 c0 : Nat) (A1 : Option Addr) (n1 c1 : Nat) (x : Scu.Volume) (ki a m : Int) (d : Scu.Str) (w : World) (B : Nat) (hv : IsVolume w B (.slice A0 n0 c0) (.slice A1 n1 c1) x) (hf : Scu.volFault x ≠ 0) :
    Calls Tryd.prog 24 #[.agg #[.slice A0 n0 c0, .slice A1 n1 c1], .agg #[.int .i64 ki, .int .i64 a, .int .i64 m, .string d]] w fun e w' => DidRet w' w.heap.size (Scu.vol0, Scu.reply0, Scu.volFault x) e ∧ Below w.heap.size w w' := by
  have HV := Lib.hid hv
  have hfb : (Scu.volFault x != 0) = true := by simpa using hf
  clear hf hv
  go_enter Tryd.func24, Tryd.ntmps24
  go_wp2_with fail
  refine (volCheck_c _ _ x _ B ((((HV.out.alloc _).alloc _).alloc _).alloc _)).mono ?_; rintro e w1 ⟨rfl, h1⟩
  have hF1 := (Four.start w A0 n0 c0 A1 n1 c1 _ _ _ d).below h1
  have hlt1 : w.heap.size + 1 + 1 + 1 < w1.heap.size := hF1.b3.lt
  have hlt1a : w.heap.size < w1.heap.size := by omega
  have hlt1b : w.heap.size + 1 < w1.heap.size := by omega
  have hlt1c : w.heap.size + 1 + 1 < w1.heap.size := by omega
  have z0 := hF1.b0.cell 0
  have z1 := hF1.b0.cell 1
  have z2 := hF1.b1.cell 0
  have z3 := hF1.b1.cell 1
  have z4 := hF1.b1.cell 2
  have z5 := hF1.b1.cell 3
  have z6 := hF1.b2.cell 0
  have z7 := hF1.b2.cell 1
  have z8 := hF1.b3.cell 0
  have z9 := hF1.b3.cell 1
  have zx := hF1.b3.cell 2
  simp only [List.getElem?_toArray, List.getElem?_cons_zero, List.getElem?_cons_succ] at z0 z1 z2 z3 z4 z5 z6 z7 z8 z9 zx
  have zu := hF1.b0.frozen
  have zv := hF1.b2.frozen
  have zw := hF1.b3.frozen
  go_wp2
  refine bodyPost_ret (v := .tuple #[.agg #[.slice none 0 0, .slice none 0 0], .agg #[.int .i64 0, .int .i64 0, .string ⟨#[]⟩], .int .i64 (Scu.volFault x)]) (by simp [results, Tryd.results24, go_sem, z6, z7, z8, z9, zx]) rfl ?_
  exact ⟨did_zero _ _ _, do_below hF1.low (by omega) (by omega) _ _ _ _ _⟩
theorem volDo_e2 (A0 : Option Addr) (n0 c0 : Nat) (A1 : Option Addr) (n1 c1 : Nat) (x : Scu.Volume) (ki a m : Int) (d : Scu.Str) (w : World) (B : Nat) (hv : IsVolume w B (.slice A0 n0 c0) (.slice A1 n1 c1) x) (hf : ¬ Scu.volFault x ≠ 0) (ho : Scu.opFault ⟨ki, a, m, d⟩ ≠ 0) :
    Calls Tryd.prog 24 #[.agg #[.slice A0 n0 c0, .slice A1 n1 c1], .agg #[.int .i64 ki, .int .i64 a, .int .i64 m, .string d]] w fun e w' => DidRet w' w.heap.size (Scu.vol0, Scu.reply0, Scu.opFault ⟨ki, a, m, d⟩) e ∧ Below w.heap.size w w' := by
  have HV := Lib.hid hv
  have hfb : (Scu.volFault x != 0) = false := by simpa using hf
  have hob : (Scu.opFault ⟨ki, a, m, d⟩ != 0) = true := by simpa using ho
  have HOP := Lib.hid (fun W => checkOp_c ⟨ki, a, m, d⟩ W)
  clear hf ho hv
  go_enter Tryd.func24, Tryd.ntmps24
  go_wp2_with fail
  refine (volCheck_c _ _ x _ B ((((HV.out.alloc _).alloc _).alloc _).alloc _)).mono ?_; rintro e w1 ⟨rfl, h1⟩
  have hF1 := (Four.start w A0 n0 c0 A1 n1 c1 _ _ _ d).below h1
  have hlt1 : w.heap.size + 1 + 1 + 1 < w1.heap.size := hF1.b3.lt
  have hlt1a : w.heap.size < w1.heap.size := by omega
  have hlt1b : w.heap.size + 1 < w1.heap.size := by omega
  have hlt1c : w.heap.size + 1 + 1 < w1.heap.size := by omega
  have z0 := hF1.b0.cell 0
  have z1 := hF1.b0.cell 1
  have z2 := hF1.b1.cell 0
  have z3 := hF1.b1.cell 1
  have z4 := hF1.b1.cell 2
  have z5 := hF1.b1.cell 3
  have z6 := hF1.b2.cell 0
  have z7 := hF1.b2.cell 1
  have z8 := hF1.b3.cell 0
  have z9 := hF1.b3.cell 1
  have zx := hF1.b3.cell 2
  simp only [List.getElem?_toArray, List.getElem?_cons_zero, List.getElem?_cons_succ] at z0 z1 z2 z3 z4 z5 z6 z7 z8 z9 zx
  have zu := hF1.b0.frozen
  have zv := hF1.b2.frozen
  have zw := hF1.b3.frozen
  go_wp2_with fail
  refine (HOP.out _).mono ?_; rintro e w2 ⟨rfl, h2⟩
  have hF2 := hF1.below h2
  have hlt2 : w.heap.size + 1 + 1 + 1 < w2.heap.size := hF2.b3.lt
  have hlt2a : w.heap.size < w2.heap.size := by omega
  have hlt2b : w.heap.size + 1 < w2.heap.size := by omega
  have hlt2c : w.heap.size + 1 + 1 < w2.heap.size := by omega
  have y0 := hF2.b0.cell 0
  have y1 := hF2.b0.cell 1
  have y2 := hF2.b1.cell 0
  have y3 := hF2.b1.cell 1
  have y4 := hF2.b1.cell 2
  have y5 := hF2.b1.cell 3
  have y6 := hF2.b2.cell 0
  have y7 := hF2.b2.cell 1
  have y8 := hF2.b3.cell 0
  have y9 := hF2.b3.cell 1
  have yx := hF2.b3.cell 2
  simp only [List.getElem?_toArray, List.getElem?_cons_zero, List.getElem?_cons_succ] at y0 y1 y2 y3 y4 y5 y6 y7 y8 y9 yx
  have yu := hF2.b0.frozen
  have yv := hF2.b2.frozen
  have yw := hF2.b3.frozen
  go_wp2
  refine bodyPost_ret (v := .tuple #[.agg #[.slice none 0 0, .slice none 0 0], .agg #[.int .i64 0, .int .i64 0, .string ⟨#[]⟩], .int .i64 (Scu.opFault ⟨ki, a, m, d⟩)]) (by simp [results, Tryd.results24, go_sem, y6, y7, y8, y9, yx]) rfl ?_
  exact ⟨did_zero _ _ _, do_below hF2.low (by omega) (by omega) _ _ _ _ _⟩
end Go.Proofs.YtfpiembhlgcelaaDoor
/- Walks: volume.Do: a sector is written, or trimmed. -/
namespace Go.Proofs.YtfpiembhlgcelaaDoor
open Go.RowKit
set_option maxHeartbeats 8000000
set_option maxRecDepth 100000

theorem volDo_w1 (A0 : Option Addr) (n0 c0 : Nat) (A1 : Option Addr) (n1 c1 : Nat) (x : Scu.Volume) (an : Nat) (d : Scu.Str) (w : World) (B : Nat) (hv : IsVolume w B (.slice A0 n0 c0) (.slice A1 n1 c1) x)
    (hf : ¬ Scu.volFault x ≠ 0) (ho : ¬ Scu.opFault ⟨1, an, 0, d⟩ ≠ 0) (ha6 : an < 6) (hd8 : d.size ≤ R47) :
    Calls Tryd.prog 24 #[.agg #[.slice A0 n0 c0, .slice A1 n1 c1], .agg #[.int .i64 1, .int .i64 an, .int .i64 0, .string d]] w fun e w' => DidRet w' w.heap.size ((⟨x.now.set an d, x.snaps⟩ : Scu.Volume), Scu.reply0, 0) e ∧ Below w.heap.size w w' := by
  have HV := Lib.hid hv
  have hfb : (Scu.volFault x != 0) = false := by simpa using hf
  have hop := Decidable.not_not.1 ho
  have HOP := Lib.hid (fun W => checkOp_a _ W hop)
  obtain ⟨hl6, hs3, hn8, hs8⟩ := volFault_ok hf
  have HS8 := Lib.hid hs8
  clear hv hf ho hop hn8 hs8
  have HD8 := Lib.hid hd8
  clear hd8
  go_enter Tryd.func24, Tryd.ntmps24
  go_wp2_with fail
  refine (volCheck_c _ _ x _ B ((((HV.out.alloc _).alloc _).alloc _).alloc _)).mono ?_; rintro e w1 ⟨rfl, h1⟩
  have hF1 := (Four.start w A0 n0 c0 A1 n1 c1 _ _ _ d).below h1
  have hlt1 : w.heap.size + 1 + 1 + 1 < w1.heap.size := hF1.b3.lt
  have hlt1a : w.heap.size < w1.heap.size := by omega
  have hlt1b : w.heap.size + 1 < w1.heap.size := by omega
  have hlt1c : w.heap.size + 1 + 1 < w1.heap.size := by omega
  have z0 := hF1.b0.cell 0
  have z1 := hF1.b0.cell 1
  have z2 := hF1.b1.cell 0
  have z3 := hF1.b1.cell 1
  have z4 := hF1.b1.cell 2
  have z5 := hF1.b1.cell 3
  have z6 := hF1.b2.cell 0
  have z7 := hF1.b2.cell 1
  have z8 := hF1.b3.cell 0
  have z9 := hF1.b3.cell 1
  have zx := hF1.b3.cell 2
  simp only [List.getElem?_toArray, List.getElem?_cons_zero, List.getElem?_cons_succ] at z0 z1 z2 z3 z4 z5 z6 z7 z8 z9 zx
  have zu := hF1.b0.frozen
  have zv := hF1.b2.frozen
  have zw := hF1.b3.frozen
  go_wp2_with fail
  refine (HOP.out _).mono ?_; rintro e w2 ⟨rfl, h2⟩
  have hF2 := hF1.below h2
  have hlt2 : w.heap.size + 1 + 1 + 1 < w2.heap.size := hF2.b3.lt
  have hlt2a : w.heap.size < w2.heap.size := by omega
  have hlt2b : w.heap.size + 1 < w2.heap.size := by omega
  have hlt2c : w.heap.size + 1 + 1 < w2.heap.size := by omega
  have y0 := hF2.b0.cell 0
  have y1 := hF2.b0.cell 1
  have y2 := hF2.b1.cell 0
  have y3 := hF2.b1.cell 1
  have y4 := hF2.b1.cell 2
  have y5 := hF2.b1.cell 3
  have y6 := hF2.b2.cell 0
  have y7 := hF2.b2.cell 1
  have y8 := hF2.b3.cell 0
  have y9 := hF2.b3.cell 1
  have yx := hF2.b3.cell 2
  simp only [List.getElem?_toArray, List.getElem?_cons_zero, List.getElem?_cons_succ] at y0 y1 y2 y3 y4 y5 y6 y7 y8 y9 yx
  have yu := hF2.b0.frozen
  have yv := hF2.b2.frozen
  have yw := hF2.b3.frozen
  go_wp2_with fail
  refine (copyVol_c _ _ x _ B (HV.out.below hF2.low)).mono ?_; rintro e w3 ⟨⟨nu, su, rfl, hu⟩, h3⟩
  obtain ⟨⟨A2, c2, _, rfl, _, _, _, _⟩, _⟩ := hu.is.snaps
  have hun := hu.now
  rw [hl6] at hun
  obtain ⟨g, c, cur, rfl, hg, hbl, hcc⟩ := own_at hun (by omega)
  have hF3 := hF2.below h3
  have hlt3 : w.heap.size + 1 + 1 + 1 < w3.heap.size := hF3.b3.lt
  have hlt3a : w.heap.size < w3.heap.size := by omega
  have hlt3b : w.heap.size + 1 < w3.heap.size := by omega
  have hlt3c : w.heap.size + 1 + 1 < w3.heap.size := by omega
  have x0 := hF3.b0.cell 0
  have x1 := hF3.b0.cell 1
  have x2 := hF3.b1.cell 0
  have x3 := hF3.b1.cell 1
  have x4 := hF3.b1.cell 2
  have x5 := hF3.b1.cell 3
  have x6 := hF3.b2.cell 0
  have x7 := hF3.b2.cell 1
  have x8 := hF3.b3.cell 0
  have x9 := hF3.b3.cell 1
  have xx := hF3.b3.cell 2
  simp only [List.getElem?_toArray, List.getElem?_cons_zero, List.getElem?_cons_succ] at x0 x1 x2 x3 x4 x5 x6 x7 x8 x9 xx
  have xu := hF3.b0.frozen
  have xv := hF3.b2.frozen
  have xw := hF3.b3.frozen
  have hzg := hbl.frozen
  have hgg : w3.cell? ⟨g, an, none⟩ = some (.string (x.now[an]'(by omega))) := by rw [hcc an (by omega), List.getElem?_map, List.getElem?_eq_getElem (by omega)]; rfl
  have hglt := hbl.lt
  have han : (an : Int) < 6 := by omega
  have hlow := hF2.low.size
  have hgw : w.heap.size + 1 + 1 + 1 < g := by omega
  have hne0 : g ≠ w.heap.size := by omega
  have hw23 := h3.size
  have HU := Lib.hid hu
  have HF3 := Lib.hid hF3
  clear h1 h2 h3 hF1 hF2 hF3 hun hcc hu hbl hg
  go_wp2_with fail
  go_region
  rename_i hK
  refine hK _ _ (Go.wp_ret ?_)
  have hO := (HU.out.same (Same.sets2 (B := 0) HF3.out.b0 (Nat.zero_le _) (by decide) (.slice (some ⟨g, 0, none⟩) 6 c) (.slice A2 x.snaps.length c2))).put an d HD8.out
  have hq2 := ((HF3.out.b2.far (p := ⟨w.heap.size, 0, none⟩) (by simp; omega) (.slice (some ⟨g, 0, none⟩) 6 c)).far (p := ⟨w.heap.size, 1, none⟩) (by simp; omega) (.slice A2 x.snaps.length c2)).far (p := ⟨g, an, none⟩) (by simp; omega) (.string d)
  have hq3 := ((HF3.out.b3.far (p := ⟨w.heap.size, 0, none⟩) (by simp; omega) (.slice (some ⟨g, 0, none⟩) 6 c)).far (p := ⟨w.heap.size, 1, none⟩) (by simp; omega) (.slice A2 x.snaps.length c2)).far (p := ⟨g, an, none⟩) (by simp; omega) (.string d)
  obtain ⟨he2, he3, hes⟩ := do_end hq2 hq3 (by omega) (.slice (some ⟨g, 0, none⟩) 6 c) (.slice A2 x.snaps.length c2) (.int .i64 0) (.int .i64 0) (.string ⟨#[]⟩)
  have hc2 := (he2.alloc (Obj.cells #[.int .i64 0, .int .i64 0, .string ⟨#[]⟩] 45)).drew
  have hc3 := (he3.alloc (Obj.cells #[.int .i64 0, .int .i64 0, .string ⟨#[]⟩] 45)).drew
  have r0 := hc2.cell 0
  have r1 := hc2.cell 1
  have r2 := hc3.cell 0
  have r3 := hc3.cell 1
  have r4 := hc3.cell 2
  simp only [List.getElem?_toArray, List.getElem?_cons_zero, List.getElem?_cons_succ] at r0 r1 r2 r3 r4
  refine bodyPost_ret (v := .tuple #[.agg #[(.slice (some ⟨g, 0, none⟩) 6 c), (.slice A2 x.snaps.length c2)], .agg #[.int .i64 0, .int .i64 0, .string ⟨#[]⟩], .int .i64 0]) (by simp [results, Tryd.results24, go_sem, r0, r1, r2, r3, r4]) rfl ?_
  refine ⟨⟨_, _, rfl, ?_⟩, ?_⟩
  · exact (((hO.base_ hlow).same hes).alloc _).below (Below.refl _ _).drew
  · refine ((do_below ?_ (by omega) (by omega) _ _ _ _ _).alloc ?_ _).drew
    · exact ((HF3.out.low.setCell (p := ⟨w.heap.size, 0, none⟩) (Nat.le_refl _) _).setCell (p := ⟨w.heap.size, 1, none⟩) (Nat.le_refl _) _).setCell (p := ⟨g, an, none⟩) (by show w.heap.size ≤ g; omega) _
    · have := HF3.out.low.size
      simpa [World.setCell] using this
theorem volDo_w2 (A0 : Option Addr) (n0 c0 : Nat) (A1 : Option Addr) (n1 c1 : Nat) (x : Scu.Volume) (an : Nat) (d : Scu.Str) (w : World) (B : Nat) (hv : IsVolume w B (.slice A0 n0 c0) (.slice A1 n1 c1) x)
    (hf : ¬ Scu.volFault x ≠ 0) (ho : ¬ Scu.opFault ⟨2, an, 0, d⟩ ≠ 0) (ha6 : an < 6) (hd8 : d.size ≤ R47) :
    Calls Tryd.prog 24 #[.agg #[.slice A0 n0 c0, .slice A1 n1 c1], .agg #[.int .i64 2, .int .i64 an, .int .i64 0, .string d]] w fun e w' => DidRet w' w.heap.size ((⟨x.now.set an d, x.snaps⟩ : Scu.Volume), Scu.reply0, 0) e ∧ Below w.heap.size w w' := by
  have HV := Lib.hid hv
  have hfb : (Scu.volFault x != 0) = false := by simpa using hf
  have hop := Decidable.not_not.1 ho
  have HOP := Lib.hid (fun W => checkOp_a _ W hop)
  obtain ⟨hl6, hs3, hn8, hs8⟩ := volFault_ok hf
  have HS8 := Lib.hid hs8
  clear hv hf ho hop hn8 hs8
  have HD8 := Lib.hid hd8
  clear hd8
  go_enter Tryd.func24, Tryd.ntmps24
  go_wp2_with fail
  refine (volCheck_c _ _ x _ B ((((HV.out.alloc _).alloc _).alloc _).alloc _)).mono ?_; rintro e w1 ⟨rfl, h1⟩
  have hF1 := (Four.start w A0 n0 c0 A1 n1 c1 _ _ _ d).below h1
  have hlt1 : w.heap.size + 1 + 1 + 1 < w1.heap.size := hF1.b3.lt
  have hlt1a : w.heap.size < w1.heap.size := by omega
  have hlt1b : w.heap.size + 1 < w1.heap.size := by omega
  have hlt1c : w.heap.size + 1 + 1 < w1.heap.size := by omega
  have z0 := hF1.b0.cell 0
  have z1 := hF1.b0.cell 1
  have z2 := hF1.b1.cell 0
  have z3 := hF1.b1.cell 1
  have z4 := hF1.b1.cell 2
  have z5 := hF1.b1.cell 3
  have z6 := hF1.b2.cell 0
  have z7 := hF1.b2.cell 1
  have z8 := hF1.b3.cell 0
  have z9 := hF1.b3.cell 1
  have zx := hF1.b3.cell 2
  simp only [List.getElem?_toArray, List.getElem?_cons_zero, List.getElem?_cons_succ] at z0 z1 z2 z3 z4 z5 z6 z7 z8 z9 zx
  have zu := hF1.b0.frozen
  have zv := hF1.b2.frozen
  have zw := hF1.b3.frozen
  go_wp2_with fail
  refine (HOP.out _).mono ?_; rintro e w2 ⟨rfl, h2⟩
  have hF2 := hF1.below h2
  have hlt2 : w.heap.size + 1 + 1 + 1 < w2.heap.size := hF2.b3.lt
  have hlt2a : w.heap.size < w2.heap.size := by omega
  have hlt2b : w.heap.size + 1 < w2.heap.size := by omega
  have hlt2c : w.heap.size + 1 + 1 < w2.heap.size := by omega
  have y0 := hF2.b0.cell 0
  have y1 := hF2.b0.cell 1
  have y2 := hF2.b1.cell 0
  have y3 := hF2.b1.cell 1
  have y4 := hF2.b1.cell 2
  have y5 := hF2.b1.cell 3
  have y6 := hF2.b2.cell 0
  have y7 := hF2.b2.cell 1
  have y8 := hF2.b3.cell 0
  have y9 := hF2.b3.cell 1
  have yx := hF2.b3.cell 2
  simp only [List.getElem?_toArray, List.getElem?_cons_zero, List.getElem?_cons_succ] at y0 y1 y2 y3 y4 y5 y6 y7 y8 y9 yx
  have yu := hF2.b0.frozen
  have yv := hF2.b2.frozen
  have yw := hF2.b3.frozen
  go_wp2_with fail
  refine (copyVol_c _ _ x _ B (HV.out.below hF2.low)).mono ?_; rintro e w3 ⟨⟨nu, su, rfl, hu⟩, h3⟩
  obtain ⟨⟨A2, c2, _, rfl, _, _, _, _⟩, _⟩ := hu.is.snaps
  have hun := hu.now
  rw [hl6] at hun
  obtain ⟨g, c, cur, rfl, hg, hbl, hcc⟩ := own_at hun (by omega)
  have hF3 := hF2.below h3
  have hlt3 : w.heap.size + 1 + 1 + 1 < w3.heap.size := hF3.b3.lt
  have hlt3a : w.heap.size < w3.heap.size := by omega
  have hlt3b : w.heap.size + 1 < w3.heap.size := by omega
  have hlt3c : w.heap.size + 1 + 1 < w3.heap.size := by omega
  have x0 := hF3.b0.cell 0
  have x1 := hF3.b0.cell 1
  have x2 := hF3.b1.cell 0
  have x3 := hF3.b1.cell 1
  have x4 := hF3.b1.cell 2
  have x5 := hF3.b1.cell 3
  have x6 := hF3.b2.cell 0
  have x7 := hF3.b2.cell 1
  have x8 := hF3.b3.cell 0
  have x9 := hF3.b3.cell 1
  have xx := hF3.b3.cell 2
  simp only [List.getElem?_toArray, List.getElem?_cons_zero, List.getElem?_cons_succ] at x0 x1 x2 x3 x4 x5 x6 x7 x8 x9 xx
  have xu := hF3.b0.frozen
  have xv := hF3.b2.frozen
  have xw := hF3.b3.frozen
  have hzg := hbl.frozen
  have hgg : w3.cell? ⟨g, an, none⟩ = some (.string (x.now[an]'(by omega))) := by rw [hcc an (by omega), List.getElem?_map, List.getElem?_eq_getElem (by omega)]; rfl
  have hglt := hbl.lt
  have han : (an : Int) < 6 := by omega
  have hlow := hF2.low.size
  have hgw : w.heap.size + 1 + 1 + 1 < g := by omega
  have hne0 : g ≠ w.heap.size := by omega
  have hw23 := h3.size
  have HU := Lib.hid hu
  have HF3 := Lib.hid hF3
  clear h1 h2 h3 hF1 hF2 hF3 hun hcc hu hbl hg
  go_wp2_with fail
  go_region
  rename_i hK
  refine hK _ _ (Go.wp_ret ?_)
  have hO := (HU.out.same (Same.sets2 (B := 0) HF3.out.b0 (Nat.zero_le _) (by decide) (.slice (some ⟨g, 0, none⟩) 6 c) (.slice A2 x.snaps.length c2))).put an d HD8.out
  have hq2 := ((HF3.out.b2.far (p := ⟨w.heap.size, 0, none⟩) (by simp; omega) (.slice (some ⟨g, 0, none⟩) 6 c)).far (p := ⟨w.heap.size, 1, none⟩) (by simp; omega) (.slice A2 x.snaps.length c2)).far (p := ⟨g, an, none⟩) (by simp; omega) (.string d)
  have hq3 := ((HF3.out.b3.far (p := ⟨w.heap.size, 0, none⟩) (by simp; omega) (.slice (some ⟨g, 0, none⟩) 6 c)).far (p := ⟨w.heap.size, 1, none⟩) (by simp; omega) (.slice A2 x.snaps.length c2)).far (p := ⟨g, an, none⟩) (by simp; omega) (.string d)
  obtain ⟨he2, he3, hes⟩ := do_end hq2 hq3 (by omega) (.slice (some ⟨g, 0, none⟩) 6 c) (.slice A2 x.snaps.length c2) (.int .i64 0) (.int .i64 0) (.string ⟨#[]⟩)
  have hc2 := (he2.alloc (Obj.cells #[.int .i64 0, .int .i64 0, .string ⟨#[]⟩] 45)).drew
  have hc3 := (he3.alloc (Obj.cells #[.int .i64 0, .int .i64 0, .string ⟨#[]⟩] 45)).drew
  have r0 := hc2.cell 0
  have r1 := hc2.cell 1
  have r2 := hc3.cell 0
  have r3 := hc3.cell 1
  have r4 := hc3.cell 2
  simp only [List.getElem?_toArray, List.getElem?_cons_zero, List.getElem?_cons_succ] at r0 r1 r2 r3 r4
  refine bodyPost_ret (v := .tuple #[.agg #[(.slice (some ⟨g, 0, none⟩) 6 c), (.slice A2 x.snaps.length c2)], .agg #[.int .i64 0, .int .i64 0, .string ⟨#[]⟩], .int .i64 0]) (by simp [results, Tryd.results24, go_sem, r0, r1, r2, r3, r4]) rfl ?_
  refine ⟨⟨_, _, rfl, ?_⟩, ?_⟩
  · exact (((hO.base_ hlow).same hes).alloc _).below (Below.refl _ _).drew
  · refine ((do_below ?_ (by omega) (by omega) _ _ _ _ _).alloc ?_ _).drew
    · exact ((HF3.out.low.setCell (p := ⟨w.heap.size, 0, none⟩) (Nat.le_refl _) _).setCell (p := ⟨w.heap.size, 1, none⟩) (Nat.le_refl _) _).setCell (p := ⟨g, an, none⟩) (by show w.heap.size ≤ g; omega) _
    · have := HF3.out.low.size
      simpa [World.setCell] using this
end Go.Proofs.YtfpiembhlgcelaaDoor

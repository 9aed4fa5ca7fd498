/- Part 24: words and walks under the law 'LeadersLead'. -/
import Derived.Test.YtfpiembhlgcelaaDoorLed23
import Derived.Test.YtfpiembhlgcelaaDoorLed6
import Derived.Test.YtfpiembhlgcelaaDoorLed4
import Derived.Test.YtfpiembhlgcelaaDoorLed7
import Derived.Test.YtfpiembhlgcelaaDoorLed21
import Derived.Test.YtfpiembhlgcelaaDoorLed8
set_option linter.unusedVariables false
set_option linter.unusedSimpArgs false
/- Walks: slices.Equal of texts and of last ones; scullingkeep.entries. -/
namespace Go.Proofs.YtfpiembhlgcelaaDoor
set_option linter.unusedVariables false
set_option linter.unusedSimpArgs false
open Go.RowKit
set_option maxHeartbeats 1000000
set_option maxRecDepth 100000

theorem eqStrs_c (v u : Value) (xs ys : List Scu.Str) (w : World) (B B' : Nat) (hv : IsStrs w B v xs) (hu : IsStrs w B' u ys) :
    Calls Tryd.prog 29 #[v, u] w fun e w' => e = .returned (.bool (decide (xs = ys))) ∧ ∃ n, w' = w.drewN n := by
  obtain ⟨⟨A, c, rfl, _, hr⟩, hl, _⟩ := hv
  obtain ⟨⟨A', c', rfl, _, hr'⟩, hl', _⟩ := hu
  unfold R47 at hl hl'
  by_cases he : xs.length = ys.length
  · have he' : ((xs.length : Int) != (ys.length : Int)) = false := by simp [he]
    have HE := Lib.hid he
    clear he
    go_enter Tryd.func29, Tryd.ntmps29
    go_wp2
    go_loopw [13] (fun i wr => ∃ k : Nat, k ≤ xs.length ∧ i = .int .i64 k ∧ Hid (xs.take k = ys.take k) ∧ ∃ n, wr = w.drewN n) (fun i _ => xs.length - (intOf i).toNat)
    case atStart => exact ⟨0, Nat.zero_le _, rfl, rfl, 0, rfl⟩
    case round =>
      obtain ⟨k, hk, rfl, ht, n, rfl⟩ := hrel
      by_cases hlt : k < xs.length
      · have hlt' : (k : Int) < (xs.length : Int) := by omega
        have hy : k < ys.length := by have := HE.out; omega
        have hy' : (k : Int) < (ys.length : Int) := by omega
        obtain ⟨g, o, rfl, _, hc⟩ := str_get hr hlt
        obtain ⟨g', o', rfl, _, hc'⟩ := str_get hr' hy
        by_cases hx : xs[k] = ys[k]
        · have hb : (xs[k].toList == ys[k].toList) = true := by rw [str_beq]; simp [hx]
          have HX := Lib.hid hx
          clear hx
          go_wp2
          go_quiet (fail)
          go_wp2
          exact ⟨⟨k + 1, hlt, by go_num, take_succ_eq ht.out hlt hy HX.out, _, rfl⟩, by simp only [intOf]; omega⟩
        · have hb : (xs[k].toList == ys[k].toList) = false := by rw [str_beq]; simp [hx]
          have hne : decide (xs = ys) = false := by
            rw [decide_eq_false_iff_not]
            intro e
            subst e
            exact hx rfl
          have HNE := Lib.hid hne
          clear hne
          go_wp2
          go_quiet (fail)
          go_wp2
          go_ret
          exact ⟨ret_val (bool_eq HNE.out.symm), _, World.drewN_drewN _ _ _⟩
      · have hkx : k = xs.length := by omega
        have hlt' : (xs.length : Int) ≤ (k : Int) := by omega
        have heq : decide (xs = ys) = true := by
          rw [decide_eq_true_eq]
          have h1 := ht.out
          rw [List.take_of_length_le (by omega), List.take_of_length_le (by have := HE.out; omega)] at h1
          exact h1
        have HEQ := Lib.hid heq
        clear hkx heq
        go_wp2
        go_ret
        exact ⟨ret_val (bool_eq HEQ.out.symm), _, rfl⟩
  · have he' : ((xs.length : Int) != (ys.length : Int)) = true := by
      rw [bne_iff_ne]; omega
    have hne : decide (xs = ys) = false := by
      rw [decide_eq_false_iff_not]
      intro e
      exact he (by rw [e])
    rw [hne]
    clear he
    go_enter Tryd.func29, Tryd.ntmps29
    go_wp2
    go_ret
    exact ⟨rfl, 0, rfl⟩

set_option maxHeartbeats 4000000
theorem eqLasts_c (v u : Value) (xs ys : List Scu.Last) (w : World) (B B' : Nat) (hv : IsLasts w B v xs) (hu : IsLasts w B' u ys) :
    Calls Tryd.prog 30 #[v, u] w fun e w' => e = .returned (.bool (decide (xs = ys))) ∧ ∃ n, w' = w.drewN n := by
  obtain ⟨⟨A, c, rfl, _, hr⟩, hl⟩ := hv
  obtain ⟨⟨A', c', rfl, _, hr'⟩, hl'⟩ := hu
  unfold R47 at hl hl'
  by_cases he : xs.length = ys.length
  · have he' : ((xs.length : Int) != (ys.length : Int)) = false := by simp [he]
    have HE := Lib.hid he
    clear he
    go_enter Tryd.func30, Tryd.ntmps30
    go_wp2
    go_loopw [13] (fun i wr => ∃ k : Nat, k ≤ xs.length ∧ i = .int .i64 k ∧ Hid (xs.take k = ys.take k) ∧ ∃ n, wr = w.drewN n) (fun i _ => xs.length - (intOf i).toNat)
    case atStart => exact ⟨0, Nat.zero_le _, rfl, rfl, 0, rfl⟩
    case round =>
      obtain ⟨k, hk, rfl, ht, n, rfl⟩ := hrel
      by_cases hlt : k < xs.length
      · have hlt' : (k : Int) < (xs.length : Int) := by omega
        have hy : k < ys.length := by have := HE.out; omega
        have hy' : (k : Int) < (ys.length : Int) := by omega
        obtain ⟨g, o, rfl, hg, c0, c1, c2, c3⟩ := last_get hr hlt
        obtain ⟨g', o', rfl, hg', c0', c1', c2', c3'⟩ := last_get hr' hy
        have hq := run_neq_last xs[k] ys[k]
        by_cases hx : xs[k] = ys[k]
        · have hb : decide (xs[k] = ys[k]) = true := by simp [hx]
          have HX := Lib.hid hx
          clear hx
          go_wp2
          go_quiet (fail)
          go_wp2
          exact ⟨⟨k + 1, hlt, by go_num, take_succ_eq ht.out hlt hy HX.out, _, rfl⟩, by simp only [intOf]; omega⟩
        · have hb : decide (xs[k] = ys[k]) = false := by simp [hx]
          have hne : decide (xs = ys) = false := by
            rw [decide_eq_false_iff_not]
            intro e
            subst e
            exact hx rfl
          have HNE := Lib.hid hne
          clear hne hx
          go_wp2
          go_quiet (fail)
          go_wp2
          go_ret
          exact ⟨ret_val (bool_eq HNE.out.symm), _, World.drewN_drewN _ _ _⟩
      · have hkx : k = xs.length := by omega
        have hlt' : (xs.length : Int) ≤ (k : Int) := by omega
        have heq : decide (xs = ys) = true := by
          rw [decide_eq_true_eq]
          have h1 := ht.out
          rw [List.take_of_length_le (by omega), List.take_of_length_le (by have := HE.out; omega)] at h1
          exact h1
        have HEQ := Lib.hid heq
        clear hkx heq
        go_wp2
        go_ret
        exact ⟨ret_val (bool_eq HEQ.out.symm), _, rfl⟩
  · have he' : ((xs.length : Int) != (ys.length : Int)) = true := by
      rw [bne_iff_ne]; omega
    have hne : decide (xs = ys) = false := by
      rw [decide_eq_false_iff_not]
      intro e
      exact he (by rw [e])
    rw [hne]
    clear he
    go_enter Tryd.func30, Tryd.ntmps30
    go_wp2
    go_ret
    exact ⟨rfl, 0, rfl⟩


theorem strs_of_own {w : World} {base : Nat} {v : Value} {xs : List Scu.Str} {n : Nat} (h : w.ownsRow base 9 1 v n (xs.map Value.string)) (hn : n = xs.length) (hl : xs.length * 16 ≤ R47) (he : ∀ s ∈ xs, s.size ≤ R47) : IsStrs w 0 v xs := by
  subst hn
  obtain ⟨A, c, rfl, hc, _, hr, _⟩ := rd_own h
  exact ⟨⟨A, c, rfl, hc, hr⟩, hl, he⟩
theorem src_box1 {w : World} {t : TypeId} {u : Value} : Src1 (w.alloc (.cells #[u] t)) 1 (.slice (some ⟨w.heap.size, 0, none⟩) 1 1) 1 [u] := src_box (cs := [u]) rfl
theorem entries_c (v : Value) (qs : List Scu.Request) (w : World) (hq : IsReqs w 0 v qs) (hok : ∀ q ∈ qs, Scu.reqFault q = 0) (hl : qs.length ≤ 1000) :
    Calls Tryd.prog 27 #[v] w fun e w' => (∃ A c, e = .returned (.slice A (Scu.entries qs).length c) ∧ IsStrs w' 0 (.slice A (Scu.entries qs).length c) (Scu.entries qs)) ∧ Below w.heap.size w w' := by
  obtain ⟨A, c, rfl⟩ : ∃ A c, v = .slice A qs.length c := by obtain ⟨A, c, _, e, _⟩ := hq.ex; exact ⟨A, c, e⟩
  have HQ := Lib.hid hq
  have HOK := Lib.hid hok
  have HZ := Lib.hid (show w.ownsRow w.heap.size 9 1 (.slice none 0 0) 0 [] from World.ownsRow_nil _ _ _ _)
  clear hq hok
  go_enter Tryd.func27, Tryd.ntmps27
  go_wp2_with fail
  go_loopw [3, 10] (fun ov i wr => ∃ (k : Nat) (Ao : Option Addr) (co : Nat), k ≤ qs.length ∧ i = .int .i64 k ∧ ov = .slice Ao k co ∧ Hid (wr.ownsRow w.heap.size 9 1 (.slice Ao k co) k ((Scu.entries (qs.take k)).map Value.string)) ∧ Hid (IsReqs wr 0 (.slice A qs.length c) qs) ∧ Hid (Below w.heap.size w wr)) (fun _ i _ => qs.length - (intOf i).toNat)
  case atStart => exact ⟨0, none, 0, Nat.zero_le _, rfl, rfl, HZ, HQ, Lib.hid (Below.refl _ _)⟩
  case round =>
    obtain ⟨k, Ao, co, hk, rfl, rfl, HO, HI, HB⟩ := hrel
    by_cases hlt : k < qs.length
    · have hlt' : (k : Int) < (qs.length : Int) := by omega
      obtain ⟨g, o, c', e, hg, -⟩ := req_at HI.out hlt
      obtain rfl : A = some ⟨g, o, none⟩ := by cases e; rfl
      clear e c'
      obtain ⟨q, hqq⟩ : ∃ q, qs[k] = q := ⟨_, rfl⟩
      have hf : Scu.reqFault q = 0 := by rw [← hqq]; exact HOK.out _ (List.getElem_mem _)
      have hc : ∀ j u, (reqV q)[j]? = some u → j < 6 → wr.cell? ⟨g, o + k * 6 + j, none⟩ = some u := fun j u h hj => by rw [HI.out.cell_at hlt j hj, hqq, h]
      have c0 : wr.cell? ⟨g, o + k * 6, none⟩ = some (.int .i64 q.client) := hc 0 _ rfl (by decide)
      have c1 : wr.cell? ⟨g, o + k * 6 + 1, none⟩ = some (.int .i64 q.num) := hc 1 _ rfl (by decide)
      have c2 : wr.cell? ⟨g, o + k * 6 + 2, none⟩ = some (.int .i64 q.op.kind) := hc 2 _ rfl (by decide)
      have c3 : wr.cell? ⟨g, o + k * 6 + 3, none⟩ = some (.int .i64 q.op.at_) := hc 3 _ rfl (by decide)
      have c4 : wr.cell? ⟨g, o + k * 6 + 4, none⟩ = some (.int .i64 q.op.snap) := hc 4 _ rfl (by decide)
      have c5 : wr.cell? ⟨g, o + k * 6 + 5, none⟩ = some (.string q.op.data) := hc 5 _ rfl (by decide)
      have HF := Lib.hid hf
      have HQQ := Lib.hid hqq
      clear hf hqq hc
      go_upto_region 5 with fail
      obtain ⟨Wd, hWd⟩ : ∃ W, W = wr.alloc (Obj.cells (reqV q).toArray 28) := ⟨_, rfl⟩
      rw [show wr.alloc (Obj.cells #[.int .i64 q.client, .int .i64 q.num, .int .i64 q.op.kind, .int .i64 q.op.at_, .int .i64 q.op.snap, .string q.op.data] 28) = Wd from hWd.symm]
      have hbl : Blk Wd wr.heap.size 28 (reqV q).toArray := by rw [hWd]; exact Blk.new _ _ _
      have hbd : Below wr.heap.size wr Wd := by rw [hWd]; exact below_alloc _ _
      clear hWd c0 c1 c2 c3 c4 c5
      have d0 : Wd.cell? ⟨wr.heap.size, 0, none⟩ = some (.int .i64 q.client) := hbl.cell 0
      have d1 : Wd.cell? ⟨wr.heap.size, 1, none⟩ = some (.int .i64 q.num) := hbl.cell 1
      have d2 : Wd.cell? ⟨wr.heap.size, 2, none⟩ = some (.int .i64 q.op.kind) := hbl.cell 2
      have d3 : Wd.cell? ⟨wr.heap.size, 3, none⟩ = some (.int .i64 q.op.at_) := hbl.cell 3
      have d4 : Wd.cell? ⟨wr.heap.size, 4, none⟩ = some (.int .i64 q.op.snap) := hbl.cell 4
      have d5 : Wd.cell? ⟨wr.heap.size, 5, none⟩ = some (.string q.op.data) := hbl.cell 5
      have HBD := Lib.hid hbd
      clear hbl hbd
      go_wp2_with fail
      refine (encode_q q HF.out _).mono ?_; rintro e w2 ⟨rfl, b2⟩
      obtain ⟨s, hs⟩ : ∃ s, Scu.reqBytes q = s := ⟨_, rfl⟩
      rw [hs]
      have HS := Lib.hid hs
      have hr2 := HBD.out.trans (b2.mono HBD.out.size)
      have HR2 := Lib.hid hr2
      have HO2 := Lib.hid (own_below HO.out hr2)
      have hsz2 := HB.out.size
      have hsz3 := hr2.size
      clear hs hr2 b2 d0 d1 d2 d3 d4 d5
      go_wp2_with (at_builtin; refine list_app _ rfl (.tmp 21) (.tmp 23) 36 rfl el_strs w.heap.size (.slice Ao k co) k ((Scu.entries (qs.take k)).map Value.string) rfl (own_below HO2.out (below_alloc _ _)) (.slice (some ⟨w2.heap.size, 0, none⟩) 1 1) 1 [.string s] rfl src_box1 (fun u hu => by simp only [List.mem_cons, List.not_mem_nil, or_false] at hu; subst hu; rfl) (by unfold maxLen; omega) (by omega) (by simp only [World.size_alloc]; omega) ?_)
      intro v4 x4 h4 hg4 _
      obtain ⟨A9, c9, rfl, _, _, _, _⟩ := rd_own h4
      have hb4 : Below w.heap.size w x4 := ((HB.out.trans (HR2.out.mono HB.out.size)).trans ((below_alloc w2 _).mono (by omega))).grown hg4 (by simp only [World.size_alloc]; omega) (fun g hg => ((HO2.out.lt) g hg).1)
      have hi4 : IsReqs x4 0 (.slice (some ⟨g, o, none⟩) qs.length c) qs :=
        IsRow.same ((HI.out.below HR2.out).below (below_alloc w2 _)) (Ts := [28]) (by simp) (Same.own (own_below HO2.out (below_alloc w2 _)) hg4 (Nat.zero_le _) (by decide)) (fun _ _ h => h)
      have hent : (Scu.entries (qs.take k)).map Value.string ++ [Value.string s] = (Scu.entries (qs.take (k + 1))).map Value.string := by
        rw [List.take_succ_eq_append_getElem hlt, Scu.entries_snoc, HQQ.out, HS.out, List.map_append]
        rfl
      rw [hent] at h4
      have H4 := Lib.hid h4
      have HI4 := Lib.hid hi4
      have HB4 := Lib.hid hb4
      clear hent h4 hi4 hb4 hg4
      go_wp2
      exact ⟨⟨k + 1, _, _, hlt, by go_num, rfl, H4, HI4, HB4⟩, by simp only [intOf]; omega⟩
    · have hkl' : k = qs.length := by omega
      have hlt' : ¬ (k : Int) < (qs.length : Int) := by omega
      subst hkl'
      go_wp2
      go_ret
      have e1 : Scu.entries (qs.take qs.length) = Scu.entries qs := by rw [List.take_length]
      rw [e1] at HO
      rw [Scu.entries_length]
      exact ⟨⟨_, _, rfl, strs_of_own HO.out (Scu.entries_length _).symm (by rw [Scu.entries_length]; unfold R47; omega) (fun s hs => by
        unfold Scu.entries at hs
        obtain ⟨q, hq, rfl⟩ := List.mem_map.1 hs
        have := Scu.reqBytes_size q
        have := (Scu.opFault_ok (Scu.reqFault_ok (HOK.out q hq)).2.2.2.2).2.2.2.2.2.2.1
        unfold R47; omega)⟩, HB.out⟩
end Go.Proofs.YtfpiembhlgcelaaDoor
/- Walks: net.same: is what is kept the same? -/
namespace Go.Proofs.YtfpiembhlgcelaaDoor
set_option linter.unusedVariables false
set_option linter.unusedSimpArgs false
open Go.RowKit
set_option maxHeartbeats 4000000
set_option maxRecDepth 100000

theorem below_two (w : World) (a b : Obj) : Below w.heap.size w ((w.alloc a).alloc b) := (below_alloc w a).alloc (by simp) b
theorem netSame_c (A A' : Option Addr) (n n' c c' : Nat) (a b : Scu.Kept) (w : World) (B B' : Nat) (hv : IsStrs w B (.slice A n c) a.log) (hu : IsStrs w B' (.slice A' n' c') b.log) (q : Bool) (hq : decide (a = b) = q) :
    Calls Tryd.prog 114 #[.agg #[.int .i64 a.view, .int .i64 a.normal, .bool a.calm, .slice A n c, .int .i64 a.commit], .agg #[.int .i64 b.view, .int .i64 b.normal, .bool b.calm, .slice A' n' c', .int .i64 b.commit]] w
      fun e w' => e = .returned (.bool q) ∧ Below w.heap.size w w' := by
  subst hq
  cases t1 : (a.view == b.view) with
  | false =>
    have hd : decide (a = b) = false := by rw [decide_eq_false_iff_not]; intro e; subst e; simp at t1
    rw [hd]
    have HB := Lib.hid (below_two w (Obj.cells #[.int .i64 a.view, .int .i64 a.normal, .bool a.calm, .slice A n c, .int .i64 a.commit] 64) (Obj.cells #[.int .i64 b.view, .int .i64 b.normal, .bool b.calm, .slice A' n' c', .int .i64 b.commit] 64))
    clear hd hv hu
    go_enter Tryd.func114, Tryd.ntmps114
    go_wp2
    go_ret
    exact ⟨rfl, HB.out⟩
  | true =>
  cases t2 : (a.normal == b.normal) with
  | false =>
    have hd : decide (a = b) = false := by rw [decide_eq_false_iff_not]; intro e; subst e; simp at t2
    rw [hd]
    have HB := Lib.hid (below_two w (Obj.cells #[.int .i64 a.view, .int .i64 a.normal, .bool a.calm, .slice A n c, .int .i64 a.commit] 64) (Obj.cells #[.int .i64 b.view, .int .i64 b.normal, .bool b.calm, .slice A' n' c', .int .i64 b.commit] 64))
    clear hd hv hu
    go_enter Tryd.func114, Tryd.ntmps114
    go_wp2
    go_ret
    exact ⟨rfl, HB.out⟩
  | true =>
  cases t3 : (a.calm == b.calm) with
  | false =>
    have hd : decide (a = b) = false := by rw [decide_eq_false_iff_not]; intro e; subst e; simp at t3
    rw [hd]
    have HB := Lib.hid (below_two w (Obj.cells #[.int .i64 a.view, .int .i64 a.normal, .bool a.calm, .slice A n c, .int .i64 a.commit] 64) (Obj.cells #[.int .i64 b.view, .int .i64 b.normal, .bool b.calm, .slice A' n' c', .int .i64 b.commit] 64))
    clear hd hv hu
    go_enter Tryd.func114, Tryd.ntmps114
    go_wp2
    go_ret
    exact ⟨rfl, HB.out⟩
  | true =>
  cases t4 : (a.commit == b.commit) with
  | false =>
    have hd : decide (a = b) = false := by rw [decide_eq_false_iff_not]; intro e; subst e; simp at t4
    rw [hd]
    have HB := Lib.hid (below_two w (Obj.cells #[.int .i64 a.view, .int .i64 a.normal, .bool a.calm, .slice A n c, .int .i64 a.commit] 64) (Obj.cells #[.int .i64 b.view, .int .i64 b.normal, .bool b.calm, .slice A' n' c', .int .i64 b.commit] 64))
    clear hd hv hu
    go_enter Tryd.func114, Tryd.ntmps114
    go_wp2
    go_ret
    exact ⟨rfl, HB.out⟩
  | true =>
  have hd : decide (a = b) = decide (a.log = b.log) := by
    obtain ⟨v1, n1, c1, l1, m1⟩ := a
    obtain ⟨v2, n2, c2, l2, m2⟩ := b
    simp only [beq_iff_eq] at t1 t2 t3 t4
    subst t1 t2 t3 t4
    simp
  rw [hd]
  obtain ⟨d, hdd⟩ : ∃ d, decide (a.log = b.log) = d := ⟨_, rfl⟩
  rw [hdd]
  have HD := Lib.hid hdd
  clear hdd
  have b1 := below_two w (Obj.cells #[.int .i64 a.view, .int .i64 a.normal, .bool a.calm, .slice A n c, .int .i64 a.commit] 64) (Obj.cells #[.int .i64 b.view, .int .i64 b.normal, .bool b.calm, .slice A' n' c', .int .i64 b.commit] 64)
  have HV := Lib.hid (hv.below b1)
  have HU := Lib.hid (hu.below b1)
  have HB := Lib.hid b1
  clear hd hv hu b1
  go_enter Tryd.func114, Tryd.ntmps114
  go_wp2_with fail
  refine (eqStrs_c _ _ _ _ _ B B' HV.out HU.out).mono ?_; rintro e w7 ⟨rfl, m7, rfl⟩
  rw [HD.out]
  cases d
  all_goals
    go_wp2
    go_ret
    exact ⟨rfl, below_drewN HB.out _⟩
end Go.Proofs.YtfpiembhlgcelaaDoor
/- Walks: the newest of both slots, by the reference; the law StageLoads. -/
namespace Go.Proofs.YtfpiembhlgcelaaDoor
open Go.RowKit Go.ChangeShapes Go.WideShapes Go.ChangeAt
set_option maxHeartbeats 4000000
set_option maxRecDepth 100000

/-- What the loop over the slots holds: the best so far in a block, the answer's block still zero. -/
structure BestI (w : World) (A : Option Addr) (n c : Nat) (k : Scu.Kept) (wr : World) : Prop where
  best : Blk wr (w.heap.size + 1) 64 #[.int .i64 k.view, .int .i64 k.normal, .bool k.calm, .slice A n c, .int .i64 k.commit]
  own : OwnStrs wr w.heap.size (.slice A n c) k.log
  zero : Blk wr w.heap.size 64 #[.int .i64 0, .int .i64 0, .bool false, .slice none 0 0, .int .i64 0]
  low : Below w.heap.size w wr
section
variable {w wr w' : World} {A : Option Addr} {n c : Nat} {k : Scu.Kept}
theorem BestI.below (h : BestI w A n c k wr) (hb : Below wr.heap.size wr w') : BestI w A n c k w' :=
  ⟨h.best.same hb, h.own.below hb, h.zero.same hb, h.low.trans (hb.mono h.low.size)⟩
theorem BestI.alloc (h : BestI w A n c k wr) (o : Obj) : BestI w A n c k (wr.alloc o) := h.below (below_alloc wr o)
theorem BestI.next (h : BestI w A n c k wr) {A' : Option Addr} {n' c' : Nat} {k' : Scu.Kept} (ho : OwnStrs wr w.heap.size (.slice A' n' c') k'.log) :
    BestI w A' n' c' k' (((((wr.setCell ⟨w.heap.size + 1, 0, none⟩ (.int .i64 k'.view)).setCell ⟨w.heap.size + 1, 1, none⟩ (.int .i64 k'.normal)).setCell ⟨w.heap.size + 1, 2, none⟩ (.bool k'.calm)).setCell ⟨w.heap.size + 1, 3, none⟩ (.slice A' n' c')).setCell ⟨w.heap.size + 1, 4, none⟩ (.int .i64 k'.commit)) := by
  refine ⟨((((h.best.set_ 0 _).set_ 1 _).set_ 2 _).set_ 3 _).set_ 4 _, ho.same (Same.sets5 (B := 0) h.best (Nat.zero_le _) (by decide) _ _ _ _ _), ?_, below_set5 h.low (Nat.le_succ _)⟩
  exact ((((h.zero.far (by simp) _).far (by simp) _).far (by simp) _).far (by simp) _).far (by simp) _
end
section
variable {H : Type} {enc : TypeId × Value → H} {w : World} {base : Nat} {spare : Nat → Bool} {held : Bool}
theorem openS_Strs {v : Value} {d : DataW H} {p : List MemPlace} {b0 : Nat} (hv : Value.okWide Tryd.prog w .any b0 36 v) (h : DataW.Trod enc Tryd.prog w base spare held 36 v d p)
    (hw : ∀ k ∈ d.weights Tryd.prog 36, k ≤ reachBytes) : ∃ y, IsStrs w w.heap.size v y := by
  obtain ⟨a, len, cap, rfl⟩ := okWide_slice Tryd.underlying36 hv
  obtain ⟨fuel, hf⟩ := h
  exact trod_strs hf hw
end
theorem stageLoad_a (v : Value) (l : List Scu.Str) (w : World) (B : Nat) (hv : IsStrs w B v l) (k : Scu.Kept) (g a e : Int) (h : Scu.load l = (k, g, a, e)) :
    Calls Tryd.prog 38 #[v] w fun en w' => LoadRet w' w.heap.size (k, g, a, e) en ∧ Below w.heap.size w w' := by
  have := stageLoad_c v l w B hv
  rw [h] at this
  exact this
end Go.Proofs.YtfpiembhlgcelaaDoor
/- Words for stage.Store: its answers. -/
namespace Go.Proofs.YtfpiembhlgcelaaDoor
open Go.RowKit
set_option maxHeartbeats 4000000
set_option maxRecDepth 100000

section
variable {l : List Scu.Str} {k k' : Scu.Kept} {up g a e : Int}
theorem st1 (h : Scu.load l = (k', g, a, e)) (he : e ≠ 0) : Scu.store l k up = ([], e) := by
  unfold Scu.store
  simp only [h]
  rw [if_pos he]
theorem st2 (h : Scu.load l = (k', g, a, 0)) (hg : g = 1073741824) : Scu.store l k up = ([], 7) := by
  unfold Scu.store
  simp only [h]
  rw [if_neg (by simp), if_pos hg]
theorem st3 (h : Scu.load l = (k', g, a, 0)) (hg : g ≠ 1073741824) (hk : Scu.keptFault k ≠ 0) : Scu.store l k up = ([], Scu.keptFault k) := by
  unfold Scu.store
  simp only [h]
  rw [if_neg (by simp), if_neg hg, if_pos hk]
theorem st4 (h : Scu.load l = (k', g, a, 0)) (hg : g ≠ 1073741824) (hk : ¬ Scu.keptFault k ≠ 0) (hu : up < -1) : Scu.store l k up = ([], 2) := by
  unfold Scu.store
  simp only [h]
  rw [if_neg (by simp), if_neg hg, if_neg hk, if_pos hu]
theorem st5 (h : Scu.load l = (k', g, a, 0)) (hg : g ≠ 1073741824) (hk : ¬ Scu.keptFault k ≠ 0) (hu : ¬ up < -1) : Scu.store l k up = (l.set (1 - a).toNat (Scu.upTo (Scu.keptBytes k (g + 1)) up), 0) := by
  unfold Scu.store
  simp only [h]
  rw [if_neg (by simp), if_neg hg, if_neg hk, if_neg hu]
theorem upTo_cut {s : Scu.Str} (h0 : 0 ≤ up) (h1 : up < s.size) : Scu.upTo s up = s.extract 0 up.toNat := if_pos ⟨h0, h1⟩
theorem upTo_all {s : Scu.Str} (h : up < 0 ∨ (s.size : Int) ≤ up) : Scu.upTo s up = s := if_neg (by omega)
theorem upTo_size (s : Scu.Str) (up : Int) : (Scu.upTo s up).size ≤ s.size := by
  unfold Scu.upTo
  split
  · show (ByteArray.extract s 0 up.toNat).size ≤ _
    rw [ByteArray.size_extract]
    omega
  · exact Nat.le_refl _
end
theorem keptBytes_size {k : Scu.Kept} (h : Scu.keptFault k = 0) (g : Int) : (Scu.keptBytes k g).size ≤ 2488 := by
  unfold Scu.keptBytes
  rw [ByteArray.size_append, Scu.sealS_size, ← Scu.encT_all]
  have := Scu.encT_size h g k.log.length
  omega
def StoreRet (w : World) (base : Nat) (q : List Scu.Str × Int) (e : Ending) : Prop := ∃ u, e = .returned (.tuple #[u, .int .i64 q.2]) ∧ OwnStrs w base u q.1
theorem store_bad (w : World) (base : Nat) (e : Int) : StoreRet w base ([], e) (.returned (.tuple #[.slice none 0 0, .int .i64 e])) := ⟨_, rfl, OwnStrs.nil_⟩
theorem stageEncode_a (lv : Value) (k : Scu.Kept) (gen : Int) (w : World) (B : Nat) (hv : IsStrs w B lv k.log) (s : Scu.Str) (e : Int) (h : Scu.stageEncode k gen = (s, e)) :
    Calls Tryd.prog 32 #[.agg #[.int .i64 k.view, .int .i64 k.normal, .bool k.calm, lv, .int .i64 k.commit], .int .i64 gen] w fun en w' => en = .returned (.tuple #[.string s, .int .i64 e]) ∧ Below w.heap.size w w' := by
  have := stageEncode_c lv k gen w B hv
  rw [h] at this
  exact this
end Go.Proofs.YtfpiembhlgcelaaDoor
/- Walks: stage.Store, each kind. -/
namespace Go.Proofs.YtfpiembhlgcelaaDoor
open Go.RowKit
set_option maxHeartbeats 4000000
set_option maxRecDepth 100000

theorem store_1 (A0 : Option Addr) (n0 c0 : Nat) (A2 : Option Addr) (n2 c2 : Nat) (l : List Scu.Str) (k : Scu.Kept) (up : Int) (k' : Scu.Kept) (g a er : Int) (w : World) (B BK : Nat) (hv : IsStrs w B (.slice A0 n0 c0) l) (hk : IsStrs w BK (.slice A2 n2 c2) k.log)
    (hl : Scu.load l = (k', g, a, er)) (he : er ≠ 0) :
    Calls Tryd.prog 36 #[.slice A0 n0 c0, .agg #[.int .i64 k.view, .int .i64 k.normal, .bool k.calm, .slice A2 n2 c2, .int .i64 k.commit], .int .i64 up] w fun e w' => StoreRet w' w.heap.size ([], er) e ∧ Below w.heap.size w w' := by
  have heb : (er != 0) = true := by simpa using he
  have hec : (er == 0) = false := by simpa using he
  clear he
  have HV := Lib.hid hv
  have HK := Lib.hid hk
  have HL := Lib.hid hl
  clear hv hk hl
  go_enter Tryd.func36, Tryd.ntmps36
  go_wp2_with fail
  refine (stageLoad_a _ l _ B (HV.out.alloc _) k' g a er HL.out).mono ?_; rintro en w1 ⟨⟨lv1, rfl, hu1⟩, h1⟩
  obtain ⟨A1, n1, c1, rfl⟩ := hu1.form
  have hlt := box_lt h1
  have hB1 := below_box h1
  have hkb := (Blk.new w 64 #[.int .i64 k.view, .int .i64 k.normal, .bool k.calm, .slice A2 n2 c2, .int .i64 k.commit]).same h1
  have kc0 := hkb.cell 0
  have kc1 := hkb.cell 1
  have kc2 := hkb.cell 2
  have kc3 := hkb.cell 3
  have kc4 := hkb.cell 4
  simp only [List.getElem?_toArray, List.getElem?_cons_zero, List.getElem?_cons_succ] at kc0 kc1 kc2 kc3 kc4
  have HB1 := Lib.hid hB1
  clear hu1 h1 hkb hB1
  go_wp2
  go_ret2
  exact ⟨store_bad _ _ _, HB1.out.alloc HB1.out.size _⟩
theorem store_2 (A0 : Option Addr) (n0 c0 : Nat) (A2 : Option Addr) (n2 c2 : Nat) (l : List Scu.Str) (k : Scu.Kept) (up : Int) (k' : Scu.Kept) (a : Int) (w : World) (B BK : Nat) (hv : IsStrs w B (.slice A0 n0 c0) l) (hk : IsStrs w BK (.slice A2 n2 c2) k.log)
    (hl : Scu.load l = (k', 1073741824, a, 0))  :
    Calls Tryd.prog 36 #[.slice A0 n0 c0, .agg #[.int .i64 k.view, .int .i64 k.normal, .bool k.calm, .slice A2 n2 c2, .int .i64 k.commit], .int .i64 up] w fun e w' => StoreRet w' w.heap.size ([], 7) e ∧ Below w.heap.size w w' := by
  have HV := Lib.hid hv
  have HK := Lib.hid hk
  have HL := Lib.hid hl
  clear hv hk hl
  go_enter Tryd.func36, Tryd.ntmps36
  go_wp2_with fail
  refine (stageLoad_a _ l _ B (HV.out.alloc _) k' 1073741824 a 0 HL.out).mono ?_; rintro en w1 ⟨⟨lv1, rfl, hu1⟩, h1⟩
  obtain ⟨A1, n1, c1, rfl⟩ := hu1.form
  have hlt := box_lt h1
  have hB1 := below_box h1
  have hkb := (Blk.new w 64 #[.int .i64 k.view, .int .i64 k.normal, .bool k.calm, .slice A2 n2 c2, .int .i64 k.commit]).same h1
  have kc0 := hkb.cell 0
  have kc1 := hkb.cell 1
  have kc2 := hkb.cell 2
  have kc3 := hkb.cell 3
  have kc4 := hkb.cell 4
  simp only [List.getElem?_toArray, List.getElem?_cons_zero, List.getElem?_cons_succ] at kc0 kc1 kc2 kc3 kc4
  have HB1 := Lib.hid hB1
  clear hu1 h1 hkb hB1
  go_wp2
  go_ret2
  exact ⟨store_bad _ _ _, HB1.out.alloc HB1.out.size _⟩
theorem store_3 (A0 : Option Addr) (n0 c0 : Nat) (A2 : Option Addr) (n2 c2 : Nat) (l : List Scu.Str) (k : Scu.Kept) (up : Int) (k' : Scu.Kept) (g a : Int) (w : World) (B BK : Nat) (hv : IsStrs w B (.slice A0 n0 c0) l) (hk : IsStrs w BK (.slice A2 n2 c2) k.log)
    (hl : Scu.load l = (k', g, a, 0)) (hg0 : 0 ≤ g) (hg2 : g < 1073741824) (hf : Scu.keptFault k ≠ 0) :
    Calls Tryd.prog 36 #[.slice A0 n0 c0, .agg #[.int .i64 k.view, .int .i64 k.normal, .bool k.calm, .slice A2 n2 c2, .int .i64 k.commit], .int .i64 up] w fun e w' => StoreRet w' w.heap.size ([], Scu.keptFault k) e ∧ Below w.heap.size w w' := by
  have hgb : (g == 1073741824) = false := by simp; omega
  have hgc : ¬ 1073741824 ≤ g := by omega
  have HE := Lib.hid (enc_bad (k := k) (gen := g + 1) hf)
  have hfb : (Scu.keptFault k != 0) = true := by simpa using hf
  clear hf
  have HV := Lib.hid hv
  have HK := Lib.hid hk
  have HL := Lib.hid hl
  clear hv hk hl
  go_enter Tryd.func36, Tryd.ntmps36
  go_wp2_with fail
  refine (stageLoad_a _ l _ B (HV.out.alloc _) k' g a 0 HL.out).mono ?_; rintro en w1 ⟨⟨lv1, rfl, hu1⟩, h1⟩
  obtain ⟨A1, n1, c1, rfl⟩ := hu1.form
  have hlt := box_lt h1
  have hB1 := below_box h1
  have hkb := (Blk.new w 64 #[.int .i64 k.view, .int .i64 k.normal, .bool k.calm, .slice A2 n2 c2, .int .i64 k.commit]).same h1
  have kc0 := hkb.cell 0
  have kc1 := hkb.cell 1
  have kc2 := hkb.cell 2
  have kc3 := hkb.cell 3
  have kc4 := hkb.cell 4
  simp only [List.getElem?_toArray, List.getElem?_cons_zero, List.getElem?_cons_succ] at kc0 kc1 kc2 kc3 kc4
  have HB1 := Lib.hid hB1
  clear hu1 h1 hkb hB1
  go_wp2_with fail
  refine (stageEncode_a _ k (g + 1) _ BK ((HK.out.below HB1.out).alloc _) Scu.str0 (Scu.keptFault k) HE.out).mono ?_; rintro en w2 ⟨rfl, h2⟩
  have HB2 := Lib.hid (HB1.out.trans ((below_box h2).mono HB1.out.size))
  have hlt2 := box_lt h2
  clear h2
  go_wp2
  go_ret2
  exact ⟨store_bad _ _ _, HB2.out⟩
theorem store_4 (A0 : Option Addr) (n0 c0 : Nat) (A2 : Option Addr) (n2 c2 : Nat) (l : List Scu.Str) (k : Scu.Kept) (up : Int) (k' : Scu.Kept) (g a : Int) (w : World) (B BK : Nat) (hv : IsStrs w B (.slice A0 n0 c0) l) (hk : IsStrs w BK (.slice A2 n2 c2) k.log)
    (hl : Scu.load l = (k', g, a, 0)) (hg0 : 0 ≤ g) (hg2 : g < 1073741824) (hf : ¬ Scu.keptFault k ≠ 0) (hu : up < -1) :
    Calls Tryd.prog 36 #[.slice A0 n0 c0, .agg #[.int .i64 k.view, .int .i64 k.normal, .bool k.calm, .slice A2 n2 c2, .int .i64 k.commit], .int .i64 up] w fun e w' => StoreRet w' w.heap.size ([], 2) e ∧ Below w.heap.size w w' := by
  have hgb : (g == 1073741824) = false := by simp; omega
  have hgc : ¬ 1073741824 ≤ g := by omega
  have HE := Lib.hid (enc_ok (k := k) (gen := g + 1) hf (by omega))
  generalize Scu.keptBytes k (g + 1) = bs at HE
  clear hf
  have HV := Lib.hid hv
  have HK := Lib.hid hk
  have HL := Lib.hid hl
  clear hv hk hl
  go_enter Tryd.func36, Tryd.ntmps36
  go_wp2_with fail
  refine (stageLoad_a _ l _ B (HV.out.alloc _) k' g a 0 HL.out).mono ?_; rintro en w1 ⟨⟨lv1, rfl, hu1⟩, h1⟩
  obtain ⟨A1, n1, c1, rfl⟩ := hu1.form
  have hlt := box_lt h1
  have hB1 := below_box h1
  have hkb := (Blk.new w 64 #[.int .i64 k.view, .int .i64 k.normal, .bool k.calm, .slice A2 n2 c2, .int .i64 k.commit]).same h1
  have kc0 := hkb.cell 0
  have kc1 := hkb.cell 1
  have kc2 := hkb.cell 2
  have kc3 := hkb.cell 3
  have kc4 := hkb.cell 4
  simp only [List.getElem?_toArray, List.getElem?_cons_zero, List.getElem?_cons_succ] at kc0 kc1 kc2 kc3 kc4
  have HB1 := Lib.hid hB1
  clear hu1 h1 hkb hB1
  go_wp2_with fail
  refine (stageEncode_a _ k (g + 1) _ BK ((HK.out.below HB1.out).alloc _) bs 0 HE.out).mono ?_; rintro en w2 ⟨rfl, h2⟩
  have HB2 := Lib.hid (HB1.out.trans ((below_box h2).mono HB1.out.size))
  have hlt2 := box_lt h2
  clear h2
  go_wp2
  go_ret2
  exact ⟨store_bad _ _ _, HB2.out⟩
theorem store_cut0 (A0 : Option Addr) (n0 c0 : Nat) (A2 : Option Addr) (n2 c2 : Nat) (l : List Scu.Str) (k : Scu.Kept) (up : Int) (k' : Scu.Kept) (g : Int) (bs : Scu.Str) (w : World) (B BK : Nat) (hv : IsStrs w B (.slice A0 n0 c0) l) (hk : IsStrs w BK (.slice A2 n2 c2) k.log)
    (hl : Scu.load l = (k', g, 0, 0)) (hg0 : 0 ≤ g) (hg2 : g < 1073741824) (hln : l.length = 2) (hf : Scu.keptFault k = 0) (hE : Scu.stageEncode k (g + 1) = (bs, 0)) (hbs : bs.size ≤ 2488) (hu0 : 0 ≤ up) (hu1 : up < (bs.size : Int)) :
    Calls Tryd.prog 36 #[.slice A0 n0 c0, .agg #[.int .i64 k.view, .int .i64 k.normal, .bool k.calm, .slice A2 n2 c2, .int .i64 k.commit], .int .i64 up] w fun e w' => StoreRet w' w.heap.size (l.set 1 (Scu.upTo bs up), 0) e ∧ Below w.heap.size w w' := by
  have hgb : (g == 1073741824) = false := by simp; omega
  have hgc : ¬ 1073741824 ≤ g := by omega
  rw [upTo_cut hu0 hu1]
  have hu2 : -1 ≤ up := by omega
  have HE := Lib.hid hE
  have HF := Lib.hid hf
  have HBS := Lib.hid hbs
  have h0l : (0 : Int) < (l.length : Int) := by omega
  have h1l : (1 : Int) < (l.length : Int) := by omega
  have h0n : 0 < l.length := by omega
  have h1n : 1 < l.length := by omega
  have hlm : ¬ maxLen < l.length := by unfold maxLen; omega
  have hnu : (up == 0) = (up == 0) := rfl
  clear hE hf hln hnu
  have HV := Lib.hid hv
  have HK := Lib.hid hk
  have HL := Lib.hid hl
  clear hv hk hl
  go_enter Tryd.func36, Tryd.ntmps36
  go_wp2_with fail
  refine (stageLoad_a _ l _ B (HV.out.alloc _) k' g 0 0 HL.out).mono ?_; rintro en w1 ⟨⟨lv1, rfl, hu1⟩, h1⟩
  obtain ⟨A1, n1, c1, rfl⟩ := hu1.form
  have hlt := box_lt h1
  have hB1 := below_box h1
  have hkb := (Blk.new w 64 #[.int .i64 k.view, .int .i64 k.normal, .bool k.calm, .slice A2 n2 c2, .int .i64 k.commit]).same h1
  have kc0 := hkb.cell 0
  have kc1 := hkb.cell 1
  have kc2 := hkb.cell 2
  have kc3 := hkb.cell 3
  have kc4 := hkb.cell 4
  simp only [List.getElem?_toArray, List.getElem?_cons_zero, List.getElem?_cons_succ] at kc0 kc1 kc2 kc3 kc4
  have HB1 := Lib.hid hB1
  clear hu1 h1 hkb hB1
  go_wp2_with fail
  refine (stageEncode_a _ k (g + 1) _ BK ((HK.out.below HB1.out).alloc _) bs 0 HE.out).mono ?_; rintro en w2 ⟨rfl, h2⟩
  have HB2 := Lib.hid (HB1.out.trans ((below_box h2).mono HB1.out.size))
  have hlt2 := box_lt h2
  clear h2
  go_wp2_with fail
  refine (cloneStrs_c _ l _ B (HV.out.below HB2.out)).mono ?_; rintro en w3 ⟨⟨u, rfl, hu⟩, h3⟩
  have hu' : OwnStrs w3 w2.heap.size u l := ⟨hu, HV.out.len, HV.out.each⟩
  have h3 := h3.mono HB2.out.size
  obtain ⟨g3, c3, cur3, rfl, hg3, hb3, hcc3⟩ := hu'.at_ h0n
  have HU := Lib.hid hu'
  have hz3 := hb3.frozen
  have hl3 := hb3.lt
  have hc3 : w3.cell? ⟨g3, 1, none⟩ = some (.string (l[1]'h1n)) := by rw [hcc3 1 h1n, List.getElem?_map, List.getElem?_eq_getElem h1n]; rfl
  have HB3 := Lib.hid (HB2.out.trans h3)
  have HG3 := Lib.hid hg3
  clear hu hu' hcc3 hb3 h3 hg3
  go_wp2
  go_ret2
  refine ⟨⟨_, rfl, ?_⟩, HB3.out.setCell (p := ⟨g3, 1, none⟩) (by have := HG3.out; have := HB2.out.size; show w.heap.size ≤ g3; omega) _⟩
  exact (HU.out.base_ HB2.out.size).put 1 _ (by have := HBS.out; simp only [R47]; first | (rw [ByteArray.size_extract]; omega) | omega)
theorem store_neg0 (A0 : Option Addr) (n0 c0 : Nat) (A2 : Option Addr) (n2 c2 : Nat) (l : List Scu.Str) (k : Scu.Kept) (up : Int) (k' : Scu.Kept) (g : Int) (bs : Scu.Str) (w : World) (B BK : Nat) (hv : IsStrs w B (.slice A0 n0 c0) l) (hk : IsStrs w BK (.slice A2 n2 c2) k.log)
    (hl : Scu.load l = (k', g, 0, 0)) (hg0 : 0 ≤ g) (hg2 : g < 1073741824) (hln : l.length = 2) (hf : Scu.keptFault k = 0) (hE : Scu.stageEncode k (g + 1) = (bs, 0)) (hbs : bs.size ≤ 2488) (hu0 : -1 ≤ up) (hu1 : up < 0) :
    Calls Tryd.prog 36 #[.slice A0 n0 c0, .agg #[.int .i64 k.view, .int .i64 k.normal, .bool k.calm, .slice A2 n2 c2, .int .i64 k.commit], .int .i64 up] w fun e w' => StoreRet w' w.heap.size (l.set 1 (Scu.upTo bs up), 0) e ∧ Below w.heap.size w w' := by
  have hgb : (g == 1073741824) = false := by simp; omega
  have hgc : ¬ 1073741824 ≤ g := by omega
  rw [upTo_all (.inl hu1)]
  have hu2 : ¬ 0 ≤ up := by omega
  have HE := Lib.hid hE
  have HF := Lib.hid hf
  have HBS := Lib.hid hbs
  have h0l : (0 : Int) < (l.length : Int) := by omega
  have h1l : (1 : Int) < (l.length : Int) := by omega
  have h0n : 0 < l.length := by omega
  have h1n : 1 < l.length := by omega
  have hlm : ¬ maxLen < l.length := by unfold maxLen; omega
  have hnu : (up == 0) = (up == 0) := rfl
  clear hE hf hln hnu
  have HV := Lib.hid hv
  have HK := Lib.hid hk
  have HL := Lib.hid hl
  clear hv hk hl
  go_enter Tryd.func36, Tryd.ntmps36
  go_wp2_with fail
  refine (stageLoad_a _ l _ B (HV.out.alloc _) k' g 0 0 HL.out).mono ?_; rintro en w1 ⟨⟨lv1, rfl, hu1⟩, h1⟩
  obtain ⟨A1, n1, c1, rfl⟩ := hu1.form
  have hlt := box_lt h1
  have hB1 := below_box h1
  have hkb := (Blk.new w 64 #[.int .i64 k.view, .int .i64 k.normal, .bool k.calm, .slice A2 n2 c2, .int .i64 k.commit]).same h1
  have kc0 := hkb.cell 0
  have kc1 := hkb.cell 1
  have kc2 := hkb.cell 2
  have kc3 := hkb.cell 3
  have kc4 := hkb.cell 4
  simp only [List.getElem?_toArray, List.getElem?_cons_zero, List.getElem?_cons_succ] at kc0 kc1 kc2 kc3 kc4
  have HB1 := Lib.hid hB1
  clear hu1 h1 hkb hB1
  go_wp2_with fail
  refine (stageEncode_a _ k (g + 1) _ BK ((HK.out.below HB1.out).alloc _) bs 0 HE.out).mono ?_; rintro en w2 ⟨rfl, h2⟩
  have HB2 := Lib.hid (HB1.out.trans ((below_box h2).mono HB1.out.size))
  have hlt2 := box_lt h2
  clear h2
  go_wp2_with fail
  refine (cloneStrs_c _ l _ B (HV.out.below HB2.out)).mono ?_; rintro en w3 ⟨⟨u, rfl, hu⟩, h3⟩
  have hu' : OwnStrs w3 w2.heap.size u l := ⟨hu, HV.out.len, HV.out.each⟩
  have h3 := h3.mono HB2.out.size
  obtain ⟨g3, c3, cur3, rfl, hg3, hb3, hcc3⟩ := hu'.at_ h0n
  have HU := Lib.hid hu'
  have hz3 := hb3.frozen
  have hl3 := hb3.lt
  have hc3 : w3.cell? ⟨g3, 1, none⟩ = some (.string (l[1]'h1n)) := by rw [hcc3 1 h1n, List.getElem?_map, List.getElem?_eq_getElem h1n]; rfl
  have HB3 := Lib.hid (HB2.out.trans h3)
  have HG3 := Lib.hid hg3
  clear hu hu' hcc3 hb3 h3 hg3
  go_wp2
  go_ret2
  refine ⟨⟨_, rfl, ?_⟩, HB3.out.setCell (p := ⟨g3, 1, none⟩) (by have := HG3.out; have := HB2.out.size; show w.heap.size ≤ g3; omega) _⟩
  exact (HU.out.base_ HB2.out.size).put 1 _ (by have := HBS.out; simp only [R47]; first | (rw [ByteArray.size_extract]; omega) | omega)
theorem store_big0 (A0 : Option Addr) (n0 c0 : Nat) (A2 : Option Addr) (n2 c2 : Nat) (l : List Scu.Str) (k : Scu.Kept) (up : Int) (k' : Scu.Kept) (g : Int) (bs : Scu.Str) (w : World) (B BK : Nat) (hv : IsStrs w B (.slice A0 n0 c0) l) (hk : IsStrs w BK (.slice A2 n2 c2) k.log)
    (hl : Scu.load l = (k', g, 0, 0)) (hg0 : 0 ≤ g) (hg2 : g < 1073741824) (hln : l.length = 2) (hf : Scu.keptFault k = 0) (hE : Scu.stageEncode k (g + 1) = (bs, 0)) (hbs : bs.size ≤ 2488) (hu0 : 0 ≤ up) (hu1 : (bs.size : Int) ≤ up) :
    Calls Tryd.prog 36 #[.slice A0 n0 c0, .agg #[.int .i64 k.view, .int .i64 k.normal, .bool k.calm, .slice A2 n2 c2, .int .i64 k.commit], .int .i64 up] w fun e w' => StoreRet w' w.heap.size (l.set 1 (Scu.upTo bs up), 0) e ∧ Below w.heap.size w w' := by
  have hgb : (g == 1073741824) = false := by simp; omega
  have hgc : ¬ 1073741824 ≤ g := by omega
  rw [upTo_all (.inr hu1)]
  have hu2 : -1 ≤ up := by omega
  have HE := Lib.hid hE
  have HF := Lib.hid hf
  have HBS := Lib.hid hbs
  have h0l : (0 : Int) < (l.length : Int) := by omega
  have h1l : (1 : Int) < (l.length : Int) := by omega
  have h0n : 0 < l.length := by omega
  have h1n : 1 < l.length := by omega
  have hlm : ¬ maxLen < l.length := by unfold maxLen; omega
  have hnu : (up == 0) = (up == 0) := rfl
  clear hE hf hln hnu
  have HV := Lib.hid hv
  have HK := Lib.hid hk
  have HL := Lib.hid hl
  clear hv hk hl
  go_enter Tryd.func36, Tryd.ntmps36
  go_wp2_with fail
  refine (stageLoad_a _ l _ B (HV.out.alloc _) k' g 0 0 HL.out).mono ?_; rintro en w1 ⟨⟨lv1, rfl, hu1⟩, h1⟩
  obtain ⟨A1, n1, c1, rfl⟩ := hu1.form
  have hlt := box_lt h1
  have hB1 := below_box h1
  have hkb := (Blk.new w 64 #[.int .i64 k.view, .int .i64 k.normal, .bool k.calm, .slice A2 n2 c2, .int .i64 k.commit]).same h1
  have kc0 := hkb.cell 0
  have kc1 := hkb.cell 1
  have kc2 := hkb.cell 2
  have kc3 := hkb.cell 3
  have kc4 := hkb.cell 4
  simp only [List.getElem?_toArray, List.getElem?_cons_zero, List.getElem?_cons_succ] at kc0 kc1 kc2 kc3 kc4
  have HB1 := Lib.hid hB1
  clear hu1 h1 hkb hB1
  go_wp2_with fail
  refine (stageEncode_a _ k (g + 1) _ BK ((HK.out.below HB1.out).alloc _) bs 0 HE.out).mono ?_; rintro en w2 ⟨rfl, h2⟩
  have HB2 := Lib.hid (HB1.out.trans ((below_box h2).mono HB1.out.size))
  have hlt2 := box_lt h2
  clear h2
  go_wp2_with fail
  refine (cloneStrs_c _ l _ B (HV.out.below HB2.out)).mono ?_; rintro en w3 ⟨⟨u, rfl, hu⟩, h3⟩
  have hu' : OwnStrs w3 w2.heap.size u l := ⟨hu, HV.out.len, HV.out.each⟩
  have h3 := h3.mono HB2.out.size
  obtain ⟨g3, c3, cur3, rfl, hg3, hb3, hcc3⟩ := hu'.at_ h0n
  have HU := Lib.hid hu'
  have hz3 := hb3.frozen
  have hl3 := hb3.lt
  have hc3 : w3.cell? ⟨g3, 1, none⟩ = some (.string (l[1]'h1n)) := by rw [hcc3 1 h1n, List.getElem?_map, List.getElem?_eq_getElem h1n]; rfl
  have HB3 := Lib.hid (HB2.out.trans h3)
  have HG3 := Lib.hid hg3
  clear hu hu' hcc3 hb3 h3 hg3
  go_wp2
  go_ret2
  refine ⟨⟨_, rfl, ?_⟩, HB3.out.setCell (p := ⟨g3, 1, none⟩) (by have := HG3.out; have := HB2.out.size; show w.heap.size ≤ g3; omega) _⟩
  exact (HU.out.base_ HB2.out.size).put 1 _ (by have := HBS.out; simp only [R47]; first | (rw [ByteArray.size_extract]; omega) | omega)
theorem store_cut1 (A0 : Option Addr) (n0 c0 : Nat) (A2 : Option Addr) (n2 c2 : Nat) (l : List Scu.Str) (k : Scu.Kept) (up : Int) (k' : Scu.Kept) (g : Int) (bs : Scu.Str) (w : World) (B BK : Nat) (hv : IsStrs w B (.slice A0 n0 c0) l) (hk : IsStrs w BK (.slice A2 n2 c2) k.log)
    (hl : Scu.load l = (k', g, 1, 0)) (hg0 : 0 ≤ g) (hg2 : g < 1073741824) (hln : l.length = 2) (hf : Scu.keptFault k = 0) (hE : Scu.stageEncode k (g + 1) = (bs, 0)) (hbs : bs.size ≤ 2488) (hu0 : 0 ≤ up) (hu1 : up < (bs.size : Int)) :
    Calls Tryd.prog 36 #[.slice A0 n0 c0, .agg #[.int .i64 k.view, .int .i64 k.normal, .bool k.calm, .slice A2 n2 c2, .int .i64 k.commit], .int .i64 up] w fun e w' => StoreRet w' w.heap.size (l.set 0 (Scu.upTo bs up), 0) e ∧ Below w.heap.size w w' := by
  have hgb : (g == 1073741824) = false := by simp; omega
  have hgc : ¬ 1073741824 ≤ g := by omega
  rw [upTo_cut hu0 hu1]
  have hu2 : -1 ≤ up := by omega
  have HE := Lib.hid hE
  have HF := Lib.hid hf
  have HBS := Lib.hid hbs
  have h0l : (0 : Int) < (l.length : Int) := by omega
  have h1l : (1 : Int) < (l.length : Int) := by omega
  have h0n : 0 < l.length := by omega
  have h1n : 1 < l.length := by omega
  have hlm : ¬ maxLen < l.length := by unfold maxLen; omega
  have hnu : (up == 0) = (up == 0) := rfl
  clear hE hf hln hnu
  have HV := Lib.hid hv
  have HK := Lib.hid hk
  have HL := Lib.hid hl
  clear hv hk hl
  go_enter Tryd.func36, Tryd.ntmps36
  go_wp2_with fail
  refine (stageLoad_a _ l _ B (HV.out.alloc _) k' g 1 0 HL.out).mono ?_; rintro en w1 ⟨⟨lv1, rfl, hu1⟩, h1⟩
  obtain ⟨A1, n1, c1, rfl⟩ := hu1.form
  have hlt := box_lt h1
  have hB1 := below_box h1
  have hkb := (Blk.new w 64 #[.int .i64 k.view, .int .i64 k.normal, .bool k.calm, .slice A2 n2 c2, .int .i64 k.commit]).same h1
  have kc0 := hkb.cell 0
  have kc1 := hkb.cell 1
  have kc2 := hkb.cell 2
  have kc3 := hkb.cell 3
  have kc4 := hkb.cell 4
  simp only [List.getElem?_toArray, List.getElem?_cons_zero, List.getElem?_cons_succ] at kc0 kc1 kc2 kc3 kc4
  have HB1 := Lib.hid hB1
  clear hu1 h1 hkb hB1
  go_wp2_with fail
  refine (stageEncode_a _ k (g + 1) _ BK ((HK.out.below HB1.out).alloc _) bs 0 HE.out).mono ?_; rintro en w2 ⟨rfl, h2⟩
  have HB2 := Lib.hid (HB1.out.trans ((below_box h2).mono HB1.out.size))
  have hlt2 := box_lt h2
  clear h2
  go_wp2_with fail
  refine (cloneStrs_c _ l _ B (HV.out.below HB2.out)).mono ?_; rintro en w3 ⟨⟨u, rfl, hu⟩, h3⟩
  have hu' : OwnStrs w3 w2.heap.size u l := ⟨hu, HV.out.len, HV.out.each⟩
  have h3 := h3.mono HB2.out.size
  obtain ⟨g3, c3, cur3, rfl, hg3, hb3, hcc3⟩ := hu'.at_ h0n
  have HU := Lib.hid hu'
  have hz3 := hb3.frozen
  have hl3 := hb3.lt
  have hc3 : w3.cell? ⟨g3, 0, none⟩ = some (.string (l[0]'h0n)) := by rw [hcc3 0 h0n, List.getElem?_map, List.getElem?_eq_getElem h0n]; rfl
  have HB3 := Lib.hid (HB2.out.trans h3)
  have HG3 := Lib.hid hg3
  clear hu hu' hcc3 hb3 h3 hg3
  go_wp2
  go_ret2
  refine ⟨⟨_, rfl, ?_⟩, HB3.out.setCell (p := ⟨g3, 0, none⟩) (by have := HG3.out; have := HB2.out.size; show w.heap.size ≤ g3; omega) _⟩
  exact (HU.out.base_ HB2.out.size).put 0 _ (by have := HBS.out; simp only [R47]; first | (rw [ByteArray.size_extract]; omega) | omega)
theorem store_neg1 (A0 : Option Addr) (n0 c0 : Nat) (A2 : Option Addr) (n2 c2 : Nat) (l : List Scu.Str) (k : Scu.Kept) (up : Int) (k' : Scu.Kept) (g : Int) (bs : Scu.Str) (w : World) (B BK : Nat) (hv : IsStrs w B (.slice A0 n0 c0) l) (hk : IsStrs w BK (.slice A2 n2 c2) k.log)
    (hl : Scu.load l = (k', g, 1, 0)) (hg0 : 0 ≤ g) (hg2 : g < 1073741824) (hln : l.length = 2) (hf : Scu.keptFault k = 0) (hE : Scu.stageEncode k (g + 1) = (bs, 0)) (hbs : bs.size ≤ 2488) (hu0 : -1 ≤ up) (hu1 : up < 0) :
    Calls Tryd.prog 36 #[.slice A0 n0 c0, .agg #[.int .i64 k.view, .int .i64 k.normal, .bool k.calm, .slice A2 n2 c2, .int .i64 k.commit], .int .i64 up] w fun e w' => StoreRet w' w.heap.size (l.set 0 (Scu.upTo bs up), 0) e ∧ Below w.heap.size w w' := by
  have hgb : (g == 1073741824) = false := by simp; omega
  have hgc : ¬ 1073741824 ≤ g := by omega
  rw [upTo_all (.inl hu1)]
  have hu2 : ¬ 0 ≤ up := by omega
  have HE := Lib.hid hE
  have HF := Lib.hid hf
  have HBS := Lib.hid hbs
  have h0l : (0 : Int) < (l.length : Int) := by omega
  have h1l : (1 : Int) < (l.length : Int) := by omega
  have h0n : 0 < l.length := by omega
  have h1n : 1 < l.length := by omega
  have hlm : ¬ maxLen < l.length := by unfold maxLen; omega
  have hnu : (up == 0) = (up == 0) := rfl
  clear hE hf hln hnu
  have HV := Lib.hid hv
  have HK := Lib.hid hk
  have HL := Lib.hid hl
  clear hv hk hl
  go_enter Tryd.func36, Tryd.ntmps36
  go_wp2_with fail
  refine (stageLoad_a _ l _ B (HV.out.alloc _) k' g 1 0 HL.out).mono ?_; rintro en w1 ⟨⟨lv1, rfl, hu1⟩, h1⟩
  obtain ⟨A1, n1, c1, rfl⟩ := hu1.form
  have hlt := box_lt h1
  have hB1 := below_box h1
  have hkb := (Blk.new w 64 #[.int .i64 k.view, .int .i64 k.normal, .bool k.calm, .slice A2 n2 c2, .int .i64 k.commit]).same h1
  have kc0 := hkb.cell 0
  have kc1 := hkb.cell 1
  have kc2 := hkb.cell 2
  have kc3 := hkb.cell 3
  have kc4 := hkb.cell 4
  simp only [List.getElem?_toArray, List.getElem?_cons_zero, List.getElem?_cons_succ] at kc0 kc1 kc2 kc3 kc4
  have HB1 := Lib.hid hB1
  clear hu1 h1 hkb hB1
  go_wp2_with fail
  refine (stageEncode_a _ k (g + 1) _ BK ((HK.out.below HB1.out).alloc _) bs 0 HE.out).mono ?_; rintro en w2 ⟨rfl, h2⟩
  have HB2 := Lib.hid (HB1.out.trans ((below_box h2).mono HB1.out.size))
  have hlt2 := box_lt h2
  clear h2
  go_wp2_with fail
  refine (cloneStrs_c _ l _ B (HV.out.below HB2.out)).mono ?_; rintro en w3 ⟨⟨u, rfl, hu⟩, h3⟩
  have hu' : OwnStrs w3 w2.heap.size u l := ⟨hu, HV.out.len, HV.out.each⟩
  have h3 := h3.mono HB2.out.size
  obtain ⟨g3, c3, cur3, rfl, hg3, hb3, hcc3⟩ := hu'.at_ h0n
  have HU := Lib.hid hu'
  have hz3 := hb3.frozen
  have hl3 := hb3.lt
  have hc3 : w3.cell? ⟨g3, 0, none⟩ = some (.string (l[0]'h0n)) := by rw [hcc3 0 h0n, List.getElem?_map, List.getElem?_eq_getElem h0n]; rfl
  have HB3 := Lib.hid (HB2.out.trans h3)
  have HG3 := Lib.hid hg3
  clear hu hu' hcc3 hb3 h3 hg3
  go_wp2
  go_ret2
  refine ⟨⟨_, rfl, ?_⟩, HB3.out.setCell (p := ⟨g3, 0, none⟩) (by have := HG3.out; have := HB2.out.size; show w.heap.size ≤ g3; omega) _⟩
  exact (HU.out.base_ HB2.out.size).put 0 _ (by have := HBS.out; simp only [R47]; first | (rw [ByteArray.size_extract]; omega) | omega)
theorem store_big1 (A0 : Option Addr) (n0 c0 : Nat) (A2 : Option Addr) (n2 c2 : Nat) (l : List Scu.Str) (k : Scu.Kept) (up : Int) (k' : Scu.Kept) (g : Int) (bs : Scu.Str) (w : World) (B BK : Nat) (hv : IsStrs w B (.slice A0 n0 c0) l) (hk : IsStrs w BK (.slice A2 n2 c2) k.log)
    (hl : Scu.load l = (k', g, 1, 0)) (hg0 : 0 ≤ g) (hg2 : g < 1073741824) (hln : l.length = 2) (hf : Scu.keptFault k = 0) (hE : Scu.stageEncode k (g + 1) = (bs, 0)) (hbs : bs.size ≤ 2488) (hu0 : 0 ≤ up) (hu1 : (bs.size : Int) ≤ up) :
    Calls Tryd.prog 36 #[.slice A0 n0 c0, .agg #[.int .i64 k.view, .int .i64 k.normal, .bool k.calm, .slice A2 n2 c2, .int .i64 k.commit], .int .i64 up] w fun e w' => StoreRet w' w.heap.size (l.set 0 (Scu.upTo bs up), 0) e ∧ Below w.heap.size w w' := by
  have hgb : (g == 1073741824) = false := by simp; omega
  have hgc : ¬ 1073741824 ≤ g := by omega
  rw [upTo_all (.inr hu1)]
  have hu2 : -1 ≤ up := by omega
  have HE := Lib.hid hE
  have HF := Lib.hid hf
  have HBS := Lib.hid hbs
  have h0l : (0 : Int) < (l.length : Int) := by omega
  have h1l : (1 : Int) < (l.length : Int) := by omega
  have h0n : 0 < l.length := by omega
  have h1n : 1 < l.length := by omega
  have hlm : ¬ maxLen < l.length := by unfold maxLen; omega
  have hnu : (up == 0) = (up == 0) := rfl
  clear hE hf hln hnu
  have HV := Lib.hid hv
  have HK := Lib.hid hk
  have HL := Lib.hid hl
  clear hv hk hl
  go_enter Tryd.func36, Tryd.ntmps36
  go_wp2_with fail
  refine (stageLoad_a _ l _ B (HV.out.alloc _) k' g 1 0 HL.out).mono ?_; rintro en w1 ⟨⟨lv1, rfl, hu1⟩, h1⟩
  obtain ⟨A1, n1, c1, rfl⟩ := hu1.form
  have hlt := box_lt h1
  have hB1 := below_box h1
  have hkb := (Blk.new w 64 #[.int .i64 k.view, .int .i64 k.normal, .bool k.calm, .slice A2 n2 c2, .int .i64 k.commit]).same h1
  have kc0 := hkb.cell 0
  have kc1 := hkb.cell 1
  have kc2 := hkb.cell 2
  have kc3 := hkb.cell 3
  have kc4 := hkb.cell 4
  simp only [List.getElem?_toArray, List.getElem?_cons_zero, List.getElem?_cons_succ] at kc0 kc1 kc2 kc3 kc4
  have HB1 := Lib.hid hB1
  clear hu1 h1 hkb hB1
  go_wp2_with fail
  refine (stageEncode_a _ k (g + 1) _ BK ((HK.out.below HB1.out).alloc _) bs 0 HE.out).mono ?_; rintro en w2 ⟨rfl, h2⟩
  have HB2 := Lib.hid (HB1.out.trans ((below_box h2).mono HB1.out.size))
  have hlt2 := box_lt h2
  clear h2
  go_wp2_with fail
  refine (cloneStrs_c _ l _ B (HV.out.below HB2.out)).mono ?_; rintro en w3 ⟨⟨u, rfl, hu⟩, h3⟩
  have hu' : OwnStrs w3 w2.heap.size u l := ⟨hu, HV.out.len, HV.out.each⟩
  have h3 := h3.mono HB2.out.size
  obtain ⟨g3, c3, cur3, rfl, hg3, hb3, hcc3⟩ := hu'.at_ h0n
  have HU := Lib.hid hu'
  have hz3 := hb3.frozen
  have hl3 := hb3.lt
  have hc3 : w3.cell? ⟨g3, 0, none⟩ = some (.string (l[0]'h0n)) := by rw [hcc3 0 h0n, List.getElem?_map, List.getElem?_eq_getElem h0n]; rfl
  have HB3 := Lib.hid (HB2.out.trans h3)
  have HG3 := Lib.hid hg3
  clear hu hu' hcc3 hb3 h3 hg3
  go_wp2
  go_ret2
  refine ⟨⟨_, rfl, ?_⟩, HB3.out.setCell (p := ⟨g3, 0, none⟩) (by have := HG3.out; have := HB2.out.size; show w.heap.size ≤ g3; omega) _⟩
  exact (HU.out.base_ HB2.out.size).put 0 _ (by have := HBS.out; simp only [R47]; first | (rw [ByteArray.size_extract]; omega) | omega)
theorem stageStore_c (v lv : Value) (l : List Scu.Str) (k : Scu.Kept) (up : Int) (w : World) (B BK : Nat) (hv : IsStrs w B v l) (hk : IsStrs w BK lv k.log) :
    Calls Tryd.prog 36 #[v, .agg #[.int .i64 k.view, .int .i64 k.normal, .bool k.calm, lv, .int .i64 k.commit], .int .i64 up] w fun e w' => StoreRet w' w.heap.size (Scu.store l k up) e ∧ Below w.heap.size w w' := by
  obtain ⟨A0, n0, c0, rfl⟩ := hv.form
  obtain ⟨A2, n2, c2, rfl⟩ := hk.form
  obtain ⟨q, hl⟩ : ∃ q, Scu.load l = q := ⟨_, rfl⟩
  obtain ⟨k', g, a, e⟩ := q
  by_cases he : e = 0
  · subst he
    obtain ⟨hln, ha, hg0, hg1⟩ := Scu.load_at hl
    by_cases hg : g = 1073741824
    · rw [st2 hl hg]
      subst hg
      exact store_2 A0 n0 c0 A2 n2 c2 l k up k' a w B BK hv hk hl
    have hg2 : g < 1073741824 := by omega
    by_cases hf : Scu.keptFault k ≠ 0
    · rw [st3 hl hg hf]
      exact store_3 A0 n0 c0 A2 n2 c2 l k up k' g a w B BK hv hk hl hg0 hg2 hf
    by_cases hu : up < -1
    · rw [st4 hl hg hf hu]
      exact store_4 A0 n0 c0 A2 n2 c2 l k up k' g a w B BK hv hk hl hg0 hg2 hf hu
    rw [st5 hl hg hf hu]
    have hE := enc_ok (k := k) (gen := g + 1) hf (by omega)
    have hf0 : Scu.keptFault k = 0 := Decidable.not_not.1 hf
    have hbs := keptBytes_size hf0 (g + 1)
    generalize Scu.keptBytes k (g + 1) = bs at hE hbs
    rcases ha with rfl | rfl
    · show Calls _ _ _ _ fun e w' => StoreRet w' w.heap.size (l.set 1 (Scu.upTo bs up), 0) e ∧ Below w.heap.size w w'
      by_cases h0 : 0 ≤ up
      · by_cases h1 : up < (bs.size : Int)
        · exact store_cut0 A0 n0 c0 A2 n2 c2 l k up k' g bs w B BK hv hk hl hg0 hg2 hln hf0 hE hbs h0 h1
        · exact store_big0 A0 n0 c0 A2 n2 c2 l k up k' g bs w B BK hv hk hl hg0 hg2 hln hf0 hE hbs h0 (by omega)
      · exact store_neg0 A0 n0 c0 A2 n2 c2 l k up k' g bs w B BK hv hk hl hg0 hg2 hln hf0 hE hbs (by omega) (by omega)
    · show Calls _ _ _ _ fun e w' => StoreRet w' w.heap.size (l.set 0 (Scu.upTo bs up), 0) e ∧ Below w.heap.size w w'
      by_cases h0 : 0 ≤ up
      · by_cases h1 : up < (bs.size : Int)
        · exact store_cut1 A0 n0 c0 A2 n2 c2 l k up k' g bs w B BK hv hk hl hg0 hg2 hln hf0 hE hbs h0 h1
        · exact store_big1 A0 n0 c0 A2 n2 c2 l k up k' g bs w B BK hv hk hl hg0 hg2 hln hf0 hE hbs h0 (by omega)
      · exact store_neg1 A0 n0 c0 A2 n2 c2 l k up k' g bs w B BK hv hk hl hg0 hg2 hln hf0 hE hbs (by omega) (by omega)
  · rw [st1 hl he]
    exact store_1 A0 n0 c0 A2 n2 c2 l k up k' g a e w B BK hv hk hl he
end Go.Proofs.YtfpiembhlgcelaaDoor

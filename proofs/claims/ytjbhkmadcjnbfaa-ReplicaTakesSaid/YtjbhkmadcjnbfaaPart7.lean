/- Part 7: words and walks under the law 'ReplicaTicks'. -/
import Derived.Test.YtjbhkmadcjnbfaaPart6
set_option linter.unusedVariables false
set_option linter.unusedSimpArgs false
/- Words for memory: replicas. Walks: clones of numbers and of flags. How a replica that came in is opened. -/
namespace Go.Proofs.Ytjbhkmadcjnbfaa
open Go.RowKit Go.ChangeShapes Go.WideShapes Go.ChangeAt
set_option maxHeartbeats 400000
set_option maxRecDepth 100000

abbrev vInt : Int → Value := Value.int .i64
theorem el_ints : ElT 25 3 1 8 := by
  obtain ⟨i, h1, h2, h3, h4⟩ := info_parts (P := Try.prog) (e := 3) (z := .int .i64 0) (size := 1) (bytes := 8) (by kernel_rfl)
  exact ⟨Try.underlying25, by omega, i, _, h1, h2, h3, h4, rfl⟩
theorem el_bools : ElT 26 4 1 1 := by
  obtain ⟨i, h1, h2, h3, h4⟩ := info_parts (P := Try.prog) (e := 4) (z := .bool false) (size := 1) (bytes := 1) (by kernel_rfl)
  exact ⟨Try.underlying26, by omega, i, _, h1, h2, h3, h4, rfl⟩
theorem el_kepts : ElT 27 24 5 56 := by
  obtain ⟨i, h1, h2, h3, h4⟩ := info_parts (P := Try.prog) (e := 24) (z := .agg #[.int .i64 0, .int .i64 0, .bool false, .slice none 0 0, .int .i64 0]) (size := 5) (bytes := 56) (by kernel_rfl)
  exact ⟨Try.underlying27, by omega, i, _, h1, h2, h3, h4, rfl⟩
theorem one_ints (xs : List Int) : ∀ u ∈ xs.map vInt, u.oneCell' = true := fun u hu => by
  obtain ⟨s, _, rfl⟩ := List.mem_map.1 hu
  rfl
theorem one_bools (xs : List Bool) : ∀ u ∈ xs.map Value.bool, u.oneCell' = true := fun u hu => by
  obtain ⟨s, _, rfl⟩ := List.mem_map.1 hu
  rfl

theorem cloneInts_c (v : Value) (xs : List Int) (w : World) (B : Nat) (hv : IsOnes 3 8 vInt w B v xs) :
    Calls Try.prog 58 #[v] w fun e w' => (∃ u, e = .returned u ∧ w'.ownsRow w.heap.size 3 1 u xs.length (xs.map vInt)) ∧ Below w.heap.size w w' := by
  obtain ⟨⟨A, c, rfl, hlc, hr⟩, hl⟩ := hv
  have heq := fun (W : World) => Lib.run_eql_slice_nil (P := Try.prog) W 25 3 A xs.length c 0 0 Try.underlying25
  rcases A with _ | ad
  · have hx : xs = [] := by
      have := rd_none hr
      simpa using this
    subst hx
    have heq0 := fun (W : World) => Lib.run_eql_slice_nil (P := Try.prog) W 25 3 none 0 c 0 0 Try.underlying25
    clear heq
    go_enter Try.func58, Try.ntmps58
    go_wp2
    go_ret
    exact ⟨⟨_, rfl, World.ownsRow_nil _ _ _ _⟩, Below.refl _ _⟩
  · have hl' := hl
    unfold R47 at hl'
    go_enter Try.func58, Try.ntmps58
    go_wp2_with (at_builtin; refine list_app _ rfl _ _ 25 rfl el_ints w.heap.size _ 0 [] rfl (own_new (Nat.le_refl _)) _ xs.length (xs.map vInt) rfl ?c1 (one_ints xs) (by unfold maxLen; omega) (by omega) (by simp) ?_)
    case c1 => exact src_of_rd (hr.alloc _) (by simp) (fun e => by cases e)
    intro v1 w1 hown hg hw
    have HO := Lib.hid hown
    have HW := Lib.hid hw
    clear hown hw
    go_wp2
    go_ret
    refine ⟨⟨_, rfl, HO.out⟩, ?_⟩
    exact ((Below.refl _ _).alloc (Nat.le_refl _) _).trans (below_grown hg (by simp) (fun k hk => by simp [Value.ownBlock] at hk; omega))
theorem cloneBools_c (v : Value) (xs : List Bool) (w : World) (B : Nat) (hv : IsOnes 4 1 Value.bool w B v xs) :
    Calls Try.prog 59 #[v] w fun e w' => (∃ u, e = .returned u ∧ w'.ownsRow w.heap.size 4 1 u xs.length (xs.map Value.bool)) ∧ Below w.heap.size w w' := by
  obtain ⟨⟨A, c, rfl, hlc, hr⟩, hl⟩ := hv
  have heq := fun (W : World) => Lib.run_eql_slice_nil (P := Try.prog) W 26 4 A xs.length c 0 0 Try.underlying26
  rcases A with _ | ad
  · have hx : xs = [] := by
      have := rd_none hr
      simpa using this
    subst hx
    have heq0 := fun (W : World) => Lib.run_eql_slice_nil (P := Try.prog) W 26 4 none 0 c 0 0 Try.underlying26
    clear heq
    go_enter Try.func59, Try.ntmps59
    go_wp2
    go_ret
    exact ⟨⟨_, rfl, World.ownsRow_nil _ _ _ _⟩, Below.refl _ _⟩
  · have hl' := hl
    unfold R47 at hl'
    go_enter Try.func59, Try.ntmps59
    go_wp2_with (at_builtin; refine list_app _ rfl _ _ 26 rfl el_bools w.heap.size _ 0 [] rfl (own_new (Nat.le_refl _)) _ xs.length (xs.map Value.bool) rfl ?c1 (one_bools xs) (by unfold maxLen; omega) (by omega) (by simp) ?_)
    case c1 => exact src_of_rd (hr.alloc _) (by simp) (fun e => by cases e)
    intro v1 w1 hown hg hw
    have HO := Lib.hid hown
    have HW := Lib.hid hw
    clear hown hw
    go_wp2
    go_ret
    refine ⟨⟨_, rfl, HO.out⟩, ?_⟩
    exact ((Below.refl _ _).alloc (Nat.le_refl _) _).trans (below_grown hg (by simp) (fun k hk => by simp [Value.ownBlock] at hk; omega))

theorem KeptEl.same {w w' : World} {B : Nat} {Ts : List TypeId} {cs : List Value} {k : Scu.Kept} (h : KeptEl w B cs k) (ht : 9 ∈ Ts) (hs : Same Ts B w w') : KeptEl w' B cs k := by
  obtain ⟨lv, e, h⟩ := h
  exact ⟨lv, e, h.same ht hs⟩
theorem KeptEl.len {w : World} {B : Nat} {cs : List Value} {k : Scu.Kept} (h : KeptEl w B cs k) : cs.length = 5 := by
  obtain ⟨lv, rfl, _⟩ := h
  rfl
structure IsRep (w : World) (B : Nat) (lv hv wv gv nv : Value) (r : Scu.Replica) : Prop where
  log : IsStrs w B lv r.kept.log
  have_ : IsOnes 3 8 vInt w B hv r.have_
  wants : IsOnes 4 1 Value.bool w B wv r.wants
  gives : IsRow 24 5 56 KeptEl w B gv r.gives
  given : IsOnes 4 1 Value.bool w B nv r.given
section
variable {w w' : World} {B B' : Nat} {lv hv wv gv nv : Value} {r : Scu.Replica} {Ts : List TypeId}
theorem IsRep.same (h : IsRep w B lv hv wv gv nv r) (hs : Same [9, 3, 4, 24] B w w') : IsRep w' B lv hv wv gv nv r :=
  ⟨h.log.same (by simp) hs, h.have_.same (by simp) hs, h.wants.same (by simp) hs, h.gives.same (by simp) hs (fun _ _ hk => hk.same (by simp) hs), h.given.same (by simp) hs⟩
theorem IsRep.below (h : IsRep w B lv hv wv gv nv r) (hb : Below w.heap.size w w') : IsRep w' B lv hv wv gv nv r := h.same (Same.below hb)
theorem IsRep.alloc (h : IsRep w B lv hv wv gv nv r) (o : Obj) : IsRep (w.alloc o) B lv hv wv gv nv r := h.same (Same.alloc w o)
end
theorem bytes_int : Try.prog.bytesOf 3 = 8 := by kernel_rfl
theorem bytes_bool : Try.prog.bytesOf 4 = 1 := by kernel_rfl
theorem cells_replica : Try.prog.cellsOf 29 = 10 := by kernel_rfl
theorem cells_ints : Try.prog.cellsOf 25 = 1 := by kernel_rfl
theorem cells_bools : Try.prog.cellsOf 26 = 1 := by kernel_rfl
theorem cells_kepts : Try.prog.cellsOf 27 = 1 := by kernel_rfl
section
variable {H : Type} {enc : TypeId × Value → H} {w : World} {base : Nat} {spare : Nat → Bool} {held : Bool} {n : Nat}
theorem trod_ints {v : Value} {x : DataW H × List MemPlace} (h : DataW.trod enc Try.prog w base spare held n 25 [v] = some x) (hw : ∀ k ∈ x.1.weights Try.prog 25, k ≤ reachBytes) : ∃ xs, IsOnes 3 8 vInt w w.heap.size v xs :=
  trod_ones (0 : Int) Try.underlying25 cells_int bytes_int (fun h => by obtain ⟨a, h, _⟩ := DataW.trod_int Try.underlying3 h; exact ⟨a, h⟩) h hw
theorem trod_bools {v : Value} {x : DataW H × List MemPlace} (h : DataW.trod enc Try.prog w base spare held n 26 [v] = some x) (hw : ∀ k ∈ x.1.weights Try.prog 26, k ≤ reachBytes) : ∃ xs, IsOnes 4 1 Value.bool w w.heap.size v xs :=
  trod_ones false Try.underlying26 cells_bool bytes_bool (fun h => by obtain ⟨a, h, _⟩ := DataW.trod_bool Try.underlying4 h; exact ⟨a, h⟩) h hw
theorem trod_kepts {v : Value} {x : DataW H × List MemPlace} (h : DataW.trod enc Try.prog w base spare held n 27 [v] = some x) (hw : ∀ k ∈ x.1.weights Try.prog 27, k ≤ reachBytes) : ∃ xs, IsRow 24 5 56 KeptEl w w.heap.size v xs :=
  trod_row Scu.kept0 Try.underlying27 cells_kept bytes_kept (by omega) (fun h hw => trod_kept h hw) h hw
theorem trod_rep {cs : List Value} {x : DataW H × List MemPlace} (h : DataW.trod enc Try.prog w base spare held n 29 cs = some x) (hw : ∀ k ∈ x.1.weights Try.prog 29, k ≤ reachBytes) :
    ∃ r lv hv wv gv nv, cs = [.int .i64 r.me, .int .i64 r.kept.view, .int .i64 r.kept.normal, .bool r.kept.calm, lv, .int .i64 r.kept.commit, hv, wv, gv, nv] ∧ IsRep w w.heap.size lv hv wv gv nv r := by
  obtain ⟨xs, m, _, hxe, hl, hxl, hf⟩ := DataW.trod_struct Try.underlying29 h
  rw [cells_replica] at hl
  match cs, hl with
  | [c0, c1, c2, c3, c4, c5, c6, c7, c8, c9], _ =>
    have hxl6 : xs.length = 6 := hxl
    match xs, hxl6 with
    | [z0, z1, z2, z3, z4, z5], _ =>
      subst hxe
      have hwt : ∀ k ∈ DataW.weights Try.prog 29 (DataW.agg [z0.1, z1.1, z2.1, z3.1, z4.1, z5.1]), k ≤ reachBytes := hw
      simp only [DataW.weights, Try.underlying29, DataW.weightsEach, List.map_cons, List.map_nil, List.mem_append] at hwt
      obtain ⟨n0, h0, _⟩ := DataW.trod_int Try.underlying3 (hf 0 _ rfl)
      have h1 := hf 1 _ rfl
      have h2 := hf 2 _ rfl
      have h3 := hf 3 _ rfl
      have h4 := hf 4 _ rfl
      have h5 := hf 5 _ rfl
      simp [cells_int, cells_kept, cells_ints, cells_bools, cells_kepts] at h0 h1 h2 h3 h4 h5
      obtain ⟨k, lv, ek, hk⟩ := trod_kept h1 (fun k hk => hwt k (.inr (.inl hk)))
      obtain ⟨hs, h2'⟩ := trod_ints h2 (fun k hk => hwt k (.inr (.inr (.inl hk))))
      obtain ⟨ws, h3'⟩ := trod_bools h3 (fun k hk => hwt k (.inr (.inr (.inr (.inl hk)))))
      obtain ⟨gs, h4'⟩ := trod_kepts h4 (fun k hk => hwt k (.inr (.inr (.inr (.inr (.inl hk))))))
      obtain ⟨ns, h5'⟩ := trod_bools h5 (fun k hk => hwt k (.inr (.inr (.inr (.inr (.inr (.inl hk)))))))
      simp only [List.cons.injEq, and_true] at ek
      obtain ⟨rfl, rfl, rfl, rfl, rfl⟩ := ek
      subst h0
      exact ⟨⟨n0, k, hs, ws, gs, ns⟩, c4, c6, c7, c8, c9, rfl, hk, h2', h3', h4', h5'⟩
def IsRepV (w : World) (v : Value) (r : Scu.Replica) : Prop :=
  ∃ lv hv wv gv nv, v = .agg #[.int .i64 r.me, .int .i64 r.kept.view, .int .i64 r.kept.normal, .bool r.kept.calm, lv, .int .i64 r.kept.commit, hv, wv, gv, nv] ∧ IsRep w w.heap.size lv hv wv gv nv r
theorem openS_Replica {v : Value} {d : DataW H} {p : List MemPlace} {b0 : Nat} (hv : Value.okWide Try.prog w .any b0 29 v) (h : DataW.Trod enc Try.prog w base spare held 29 v d p)
    (hw : ∀ k ∈ d.weights Try.prog 29, k ≤ reachBytes) : ∃ y, IsRepV w v y := by
  obtain ⟨cs, rfl, _⟩ := okWide_struct Try.underlying29 hv
  obtain ⟨fuel, hf⟩ := h
  obtain ⟨r, lv, hv, wv, gv, nv, e, hy⟩ := trod_rep hf hw
  refine ⟨r, lv, hv, wv, gv, nv, ?_, hy⟩
  have : cs = #[.int .i64 r.me, .int .i64 r.kept.view, .int .i64 r.kept.normal, .bool r.kept.calm, lv, .int .i64 r.kept.commit, hv, wv, gv, nv] := by
    apply Array.toList_inj.1
    simpa [Value.cells] using e
  rw [this]
end
end Go.Proofs.Ytjbhkmadcjnbfaa
/- Walks: may a replica be? The program's. -/
namespace Go.Proofs.Ytjbhkmadcjnbfaa
open Go.RowKit
set_option maxHeartbeats 400000
set_option maxRecDepth 100000

def haveBad (n : Nat) (h : Int) : Bool := decide (h < 0) || decide ((n : Int) < h)
def giveBad (g : Scu.Kept) : Bool := decide (Scu.keptFault g ≠ 0)
theorem rep_bad2 {r : Scu.Replica} (h : r.me < 0 ∨ 3 ≤ r.me) : Scu.repFault r = 2 := if_pos h
theorem rep_bad8 {r : Scu.Replica} (h : ¬ (r.me < 0 ∨ 3 ≤ r.me)) (h' : r.have_.length ≠ 3 ∨ r.wants.length ≠ 3 ∨ r.gives.length ≠ 3 ∨ r.given.length ≠ 3) : Scu.repFault r = 8 := by
  unfold Scu.repFault
  rw [if_neg h, if_pos h']
theorem rep_rest {r : Scu.Replica} (h : ¬ (r.me < 0 ∨ 3 ≤ r.me)) (h1 : r.have_.length = 3) (h2 : r.wants.length = 3) (h3 : r.gives.length = 3) (h4 : r.given.length = 3) :
    Scu.repFault r = if (r.have_.any (haveBad r.kept.log.length) || r.gives.any giveBad) = true then 8 else Scu.keptFault r.kept := by
  unfold Scu.repFault
  rw [if_neg h, if_neg (by omega)]
  rfl
theorem kepts_get {w : World} {B : Nat} {A : Option Addr} {css : List (List Value)} {gs : List Scu.Kept} {k : Nat} (hl : css.length = gs.length) (hm : ∀ cs ∈ css, cs.length = 5) (h : Rd w B 24 A css.flatten)
    (h6 : ∀ (j : Nat) (cs : List Value) (x : Scu.Kept), css[j]? = some cs → gs[j]? = some x → KeptEl w B cs x) (hk : k < gs.length) :
    ∃ g o lv, A = some ⟨g, o, none⟩ ∧ g < w.heap.size ∧ w.cell? ⟨g, o + k * 5, none⟩ = some (.int .i64 gs[k].view) ∧ w.cell? ⟨g, o + k * 5 + 1, none⟩ = some (.int .i64 gs[k].normal) ∧ w.cell? ⟨g, o + k * 5 + 2, none⟩ = some (.bool gs[k].calm) ∧
      w.cell? ⟨g, o + k * 5 + 3, none⟩ = some lv ∧ w.cell? ⟨g, o + k * 5 + 4, none⟩ = some (.int .i64 gs[k].commit) ∧ IsStrs w B lv gs[k].log := by
  obtain ⟨g, o, cs, h1, h2, _, h4, lv, rfl, h5⟩ := row_get hl hm (by omega) h h6 hk
  exact ⟨g, o, lv, h1, h2, h4 0 _ rfl, by rw [Nat.add_assoc]; exact h4 1 _ rfl, by rw [Nat.add_assoc]; exact h4 2 _ rfl, by rw [Nat.add_assoc]; exact h4 3 _ rfl, by rw [Nat.add_assoc]; exact h4 4 _ rfl, h5⟩

theorem repCheck_c (lv hv0 wv gv nv : Value) (r : Scu.Replica) (w : World) (B : Nat) (hv : IsRep w B lv hv0 wv gv nv r) :
    Calls Try.prog 42 #[.agg #[.int .i64 r.me, .int .i64 r.kept.view, .int .i64 r.kept.normal, .bool r.kept.calm, lv, .int .i64 r.kept.commit, hv0, wv, gv, nv]] w fun e w' =>
      e = .returned (.int .i64 (Scu.repFault r)) ∧ Below w.heap.size w w' := by
  have HV := Lib.hid hv
  obtain ⟨⟨A0, c0, rfl, _, hr0⟩, hl0, he0⟩ := hv.log
  obtain ⟨⟨A1, c1, rfl, _, hr1⟩, hl1⟩ := hv.have_
  obtain ⟨⟨A2, c2, rfl, _, hr2⟩, hl2⟩ := hv.wants
  obtain ⟨⟨A3, c3, css, rfl, _, hcl, hcm, hr3, hce⟩, hl3⟩ := hv.gives
  obtain ⟨⟨A4, c4, rfl, _, hr4⟩, hl4⟩ := hv.given
  unfold R47 at hl0 hl1 hl2 hl3 hl4
  have HCE := Lib.hid (And.intro hcl (And.intro hcm hce))
  clear hv hcl hcm hce
  cases t1 : decide (r.me < 0) with
  | true =>
    have HF := Lib.hid (show Scu.repFault r = 2 from rep_bad2 (.inl (of_decide_eq_true t1)))
    clear hr0 hr1 hr2 hr3 hr4 HCE he0
    go_enter Try.func42, Try.ntmps42
    go_wp2
    go_ret
    exact ⟨ret_val (int_eq HF.out.symm), (Below.refl _ _).alloc (Nat.le_refl _) _⟩
  | false =>
  cases t2 : decide ((3 : Int) ≤ r.me) with
  | true =>
    have HF := Lib.hid (show Scu.repFault r = 2 from rep_bad2 (.inr (of_decide_eq_true t2)))
    clear hr0 hr1 hr2 hr3 hr4 HCE he0
    go_enter Try.func42, Try.ntmps42
    go_wp2
    go_ret
    exact ⟨ret_val (int_eq HF.out.symm), (Below.refl _ _).alloc (Nat.le_refl _) _⟩
  | false =>
  have HME := Lib.hid (show ¬ (r.me < 0 ∨ 3 ≤ r.me) from fun h => h.elim (of_decide_eq_false t1) (of_decide_eq_false t2))
  cases t3 : ((r.have_.length : Int) != 3) with
  | true =>
    have HF := Lib.hid (show Scu.repFault r = 8 from rep_bad8 HME.out (.inl (by have := bne_iff_ne.1 t3; omega)))
    clear hr0 hr1 hr2 hr3 hr4 HCE he0
    go_enter Try.func42, Try.ntmps42
    go_wp2
    go_ret
    exact ⟨ret_val (int_eq HF.out.symm), (Below.refl _ _).alloc (Nat.le_refl _) _⟩
  | false =>
  cases t4 : ((r.wants.length : Int) != 3) with
  | true =>
    have HF := Lib.hid (show Scu.repFault r = 8 from rep_bad8 HME.out (.inr (.inl (by have := bne_iff_ne.1 t4; omega))))
    clear hr0 hr1 hr2 hr3 hr4 HCE he0
    go_enter Try.func42, Try.ntmps42
    go_wp2
    go_ret
    exact ⟨ret_val (int_eq HF.out.symm), (Below.refl _ _).alloc (Nat.le_refl _) _⟩
  | false =>
  cases t5 : ((r.gives.length : Int) != 3) with
  | true =>
    have HF := Lib.hid (show Scu.repFault r = 8 from rep_bad8 HME.out (.inr (.inr (.inl (by have := bne_iff_ne.1 t5; omega)))))
    clear hr0 hr1 hr2 hr3 hr4 HCE he0
    go_enter Try.func42, Try.ntmps42
    go_wp2
    go_ret
    exact ⟨ret_val (int_eq HF.out.symm), (Below.refl _ _).alloc (Nat.le_refl _) _⟩
  | false =>
  cases t6 : ((r.given.length : Int) != 3) with
  | true =>
    have HF := Lib.hid (show Scu.repFault r = 8 from rep_bad8 HME.out (.inr (.inr (.inr (by have := bne_iff_ne.1 t6; omega)))))
    clear hr0 hr1 hr2 hr3 hr4 HCE he0
    go_enter Try.func42, Try.ntmps42
    go_wp2
    go_ret
    exact ⟨ret_val (int_eq HF.out.symm), (Below.refl _ _).alloc (Nat.le_refl _) _⟩
  | false =>
  have l1 : r.have_.length = 3 := by have h : (r.have_.length : Int) = 3 := by simpa using t3
                                     omega
  have l2 : r.wants.length = 3 := by have h : (r.wants.length : Int) = 3 := by simpa using t4
                                     omega
  have l3 : r.gives.length = 3 := by have h : (r.gives.length : Int) = 3 := by simpa using t5
                                     omega
  have l4 : r.given.length = 3 := by have h : (r.given.length : Int) = 3 := by simpa using t6
                                     omega
  have HF := Lib.hid (rep_rest HME.out l1 l2 l3 l4)
  have L1 := Lib.hid l1
  have L3 := Lib.hid l3
  have HE0 := Lib.hid he0
  clear l1 l2 l3 l4 he0
  go_enter Try.func42, Try.ntmps42
  go_wp2
  go_loopw [38] (fun i wr => ∃ j : Nat, j ≤ r.gives.length ∧ i = .int .i64 j ∧ Hid ((r.have_.take j).any (haveBad r.kept.log.length) = false ∧ (r.gives.take j).any giveBad = false) ∧ Below (w.heap.size + 1) (w.alloc (Obj.cells #[.int .i64 r.me, .int .i64 r.kept.view, .int .i64 r.kept.normal, .bool r.kept.calm, .slice A0 r.kept.log.length c0, .int .i64 r.kept.commit, .slice A1 r.have_.length c1, .slice A2 r.wants.length c2, .slice A3 r.gives.length c3, .slice A4 r.given.length c4] 29)) wr) (fun i _ => r.gives.length - (intOf i).toNat)
  case atStart => exact ⟨0, Nat.zero_le _, rfl, by simp [Hid], Below.refl _ _⟩
  case round =>
    obtain ⟨j, hj, rfl, ht, hbw⟩ := hrel
    have hbs := hbw.size
    simp only [World.size_alloc] at hbs
    have hbs' : w.heap.size < wr.heap.size := by omega
    obtain ⟨hcc, hzz⟩ := bcell hbw
    by_cases hlt : j < r.gives.length
    · have hlt' : (j : Int) < (r.gives.length : Int) := by omega
      have hlh : j < r.have_.length := by have := L1.out; have := L3.out; omega
      have hlh' : (j : Int) < (r.have_.length : Int) := by omega
      have HVW := Lib.hid ((HV.out.alloc (Obj.cells #[.int .i64 r.me, .int .i64 r.kept.view, .int .i64 r.kept.normal, .bool r.kept.calm, .slice A0 r.kept.log.length c0, .int .i64 r.kept.commit, .slice A1 r.have_.length c1, .slice A2 r.wants.length c2, .slice A3 r.gives.length c3, .slice A4 r.given.length c4] 29)).below (hbw.mono (by simp)))
      obtain ⟨g, o, lvj, e3, hg, k0, k1, k2, k3, k4, hls⟩ := kepts_get HCE.out.1 HCE.out.2.1 ((hr3.alloc (Obj.cells #[.int .i64 r.me, .int .i64 r.kept.view, .int .i64 r.kept.normal, .bool r.kept.calm, .slice A0 r.kept.log.length c0, .int .i64 r.kept.commit, .slice A1 r.have_.length c1, .slice A2 r.wants.length c2, .slice A3 r.gives.length c3, .slice A4 r.given.length c4] 29)).below (hbw.mono (by simp))) (fun j cs x a b => ((HCE.out.2.2 j cs x a b).same (Ts := [9]) (by simp) (Same.alloc w (Obj.cells #[.int .i64 r.me, .int .i64 r.kept.view, .int .i64 r.kept.normal, .bool r.kept.calm, .slice A0 r.kept.log.length c0, .int .i64 r.kept.commit, .slice A1 r.have_.length c1, .slice A2 r.wants.length c2, .slice A3 r.gives.length c3, .slice A4 r.given.length c4] 29))).same (Ts := [9]) (by simp) (Same.below (hbw.mono (by simp)))) hlt
      obtain ⟨g1, o1, e1, hg1, m0⟩ := ones_get ((hr1.alloc (Obj.cells #[.int .i64 r.me, .int .i64 r.kept.view, .int .i64 r.kept.normal, .bool r.kept.calm, .slice A0 r.kept.log.length c0, .int .i64 r.kept.commit, .slice A1 r.have_.length c1, .slice A2 r.wants.length c2, .slice A3 r.gives.length c3, .slice A4 r.given.length c4] 29)).below (hbw.mono (by simp))) hlh
      subst e3 e1
      have HLS := Lib.hid hls
      obtain ⟨Aj, nj, cj, rfl⟩ := hls.form
      have HBW := Lib.hid hbw
      clear hls hbw
      cases u1 : decide (r.have_[j] < 0) with
      | true =>
        have HX := Lib.hid (show Scu.repFault r = 8 by rw [HF.out, any_found (haveBad r.kept.log.length) r.have_ j hlh (by unfold haveBad; rw [u1]; rfl)]; rfl)
        go_wp2
        go_quiet (fail)
        go_wp2
        go_ret
        exact ⟨ret_val (int_eq HX.out.symm), below_drewN (((below_alloc w _).trans (HBW.out.mono (by simp))).alloc (by omega) _) _⟩
      | false =>
      cases u2 : decide ((r.kept.log.length : Int) < r.have_[j]) with
      | true =>
        have HX := Lib.hid (show Scu.repFault r = 8 by rw [HF.out, any_found (haveBad r.kept.log.length) r.have_ j hlh (by unfold haveBad; rw [u1, u2]; rfl)]; rfl)
        go_wp2
        go_quiet (fail)
        go_wp2
        go_ret
        exact ⟨ret_val (int_eq HX.out.symm), below_drewN (((below_alloc w _).trans (HBW.out.mono (by simp))).alloc (by omega) _) _⟩
      | false =>
        have hq : w.heap.size < wr.heap.size + 1 := by omega
        have HH := Lib.hid (show haveBad r.kept.log.length r.have_[j] = false by unfold haveBad; rw [u1, u2]; rfl)
        cases u3 : (Scu.keptFault r.gives[j] != 0)
        all_goals
          have U3 := Lib.hid u3
          go_wp2_with fail
          go_region_held3 (fun w' => w'.cell? ⟨w.heap.size, 6, none⟩ = some (.slice (some ⟨g1, o1, none⟩) r.have_.length c1) ∧ w'.cell? ⟨w.heap.size, 4, none⟩ = some (.slice A0 r.kept.log.length c0) ∧ w'.cell? ⟨g1, o1 + j, none⟩ = some (.int .i64 r.have_[j]) ∧
              w'.cell? ⟨wr.heap.size, 0, none⟩ = some (.int .i64 r.gives[j].view) ∧ w'.cell? ⟨wr.heap.size, 1, none⟩ = some (.int .i64 r.gives[j].normal) ∧ w'.cell? ⟨wr.heap.size, 2, none⟩ = some (.bool r.gives[j].calm) ∧
              w'.cell? ⟨wr.heap.size, 3, none⟩ = some (.slice Aj nj cj) ∧ w'.cell? ⟨wr.heap.size, 4, none⟩ = some (.int .i64 r.gives[j].commit)) (first | go_keep | (go_split_ands; refine ⟨?_, ?_, ?_, ?_, ?_, ?_, ?_, ?_⟩ <;> (refine (h1.cell (by first | (simp; done) | (simp; omega))).trans ?_; assumption)))
            ((go_at_call 31; refine (stageCheck_c _ r.gives[j] _ B ((HLS.out.alloc _).drewN _)).mono ?_; rintro e w1 ⟨rfl, h1⟩))
          have hb1 := below_drewN (((below_alloc w _).trans (HBW.out.mono (by simp))).alloc (by omega) (Obj.cells #[.int .i64 r.gives[j].view, .int .i64 r.gives[j].normal, .bool r.gives[j].calm, .slice Aj nj cj, .int .i64 r.gives[j].commit] 24)) 1
          have hb2 := below_drewN (HBW.out.alloc (by omega) (Obj.cells #[.int .i64 r.gives[j].view, .int .i64 r.gives[j].normal, .bool r.gives[j].calm, .slice Aj nj cj, .int .i64 r.gives[j].commit] 24)) 1
          have HB1 := Lib.hid (hb1.trans (h1.mono hb1.size))
          have HB2 := Lib.hid (hb2.trans (h1.mono (by simp; omega)))
          clear hb1 hb2
          go_wp2
        · go_roundw
          case rel =>
            refine ⟨j + 1, hlt, by go_num, ⟨?_, ?_⟩, HB2.out⟩
            · rw [any_take _ r.have_ j hlh, ht.out.1, HH.out]; rfl
            · rw [any_take _ r.gives j hlt, ht.out.2]
              unfold giveBad
              have := U3.out
              simpa using this
          case measure => simp only [intOf]; omega
        · have HX := Lib.hid (show Scu.repFault r = 8 by
            rw [HF.out, any_found giveBad r.gives j hlt (by unfold giveBad; have := U3.out; simpa using this)]
            simp)
          go_ret
          exact ⟨ret_val (int_eq HX.out.symm), HB1.out⟩
    · have hlt' : (r.gives.length : Int) ≤ (j : Int) := by omega
      have HX := Lib.hid (show Scu.repFault r = Scu.keptFault r.kept by
        have e1 := any_none _ r.have_ j (by have := L1.out; have := L3.out; omega) ht.out.1
        have e2 := any_none _ r.gives j (by omega) ht.out.2
        rw [HF.out, e1, e2]; rfl)
      have HBW := Lib.hid hbw
      have HB1 := Lib.hid ((below_alloc w _).trans (hbw.mono (by simp)))
      clear hbw
      go_wp2_with fail
      refine (stageCheck_c _ r.kept _ B (HV.out.log.below HB1.out)).mono ?_; rintro e w1 ⟨rfl, h1⟩
      go_wp2
      go_ret
      exact ⟨ret_val (int_eq HX.out.symm), HB1.out.trans (h1.mono HB1.out.size)⟩
end Go.Proofs.Ytjbhkmadcjnbfaa
/- Walks: may a replica be? The reference's; who leads; the laws ReplicaChecks and ReplicaLeads. -/
namespace Go.Proofs.Ytjbhkmadcjnbfaa
open Go.RowKit
set_option maxHeartbeats 400000
set_option maxRecDepth 100000

theorem have_in (n : Nat) (h : Int) : haveBad n h = !inB h 0 n := by
  unfold haveBad inB
  rw [Bool.eq_iff_iff]
  simp only [Bool.or_eq_true, decide_eq_true_eq, Bool.not_eq_true', Bool.and_eq_false_iff, decide_eq_false_iff_not]
  omega
theorem replicaFault_c (lv hv0 wv gv nv : Value) (r : Scu.Replica) (w : World) (B : Nat) (hv : IsRep w B lv hv0 wv gv nv r) :
    Calls Try.prog 25 #[.agg #[.int .i64 r.me, .int .i64 r.kept.view, .int .i64 r.kept.normal, .bool r.kept.calm, lv, .int .i64 r.kept.commit, hv0, wv, gv, nv]] w fun e w' =>
      e = .returned (.int .i64 (Scu.repFault r)) ∧ Below w.heap.size w w' := by
  have HV := Lib.hid hv
  obtain ⟨⟨A0, c0, rfl, _, hr0⟩, hl0, he0⟩ := hv.log
  obtain ⟨⟨A1, c1, rfl, _, hr1⟩, hl1⟩ := hv.have_
  obtain ⟨⟨A2, c2, rfl, _, hr2⟩, hl2⟩ := hv.wants
  obtain ⟨⟨A3, c3, css, rfl, _, hcl, hcm, hr3, hce⟩, hl3⟩ := hv.gives
  obtain ⟨⟨A4, c4, rfl, _, hr4⟩, hl4⟩ := hv.given
  unfold R47 at hl0 hl1 hl2 hl3 hl4
  have HCE := Lib.hid (And.intro hcl (And.intro hcm hce))
  clear hv hcl hcm hce
  cases t1 : inB r.me 0 2 with
  | false =>
    have U1 := Lib.hid t1
    clear t1
    have HF := Lib.hid (show Scu.repFault r = 2 from rep_bad2 (by have := inB_no U1.out; omega))
    clear hr0 hr1 hr2 hr3 hr4 HCE he0
    go_enter Try.func25, Try.ntmps25
    go_wp2_with (go_at_call 45; refine (inn_c _ _ _ _).mono ?_; rintro e w1 ⟨rfl, rfl⟩; rw [U1.out])
    go_ret
    exact ⟨ret_val (int_eq HF.out.symm), (Below.refl _ _).alloc (Nat.le_refl _) _⟩
  | true =>
  have U1 := Lib.hid t1
  have HME := Lib.hid (show ¬ (r.me < 0 ∨ 3 ≤ r.me) by have := inB_yes t1; omega)
  clear t1
  cases t3 : ((r.have_.length : Int) != 3) with
  | true =>
    have HF := Lib.hid (show Scu.repFault r = 8 from rep_bad8 HME.out (.inl (by have := bne_iff_ne.1 t3; omega)))
    clear hr0 hr1 hr2 hr3 hr4 HCE he0
    go_enter Try.func25, Try.ntmps25
    go_wp2_with (go_at_call 45; refine (inn_c _ _ _ _).mono ?_; rintro e w1 ⟨rfl, rfl⟩; rw [U1.out])
    go_ret
    exact ⟨ret_val (int_eq HF.out.symm), (Below.refl _ _).alloc (Nat.le_refl _) _⟩
  | false =>
  cases t4 : ((r.wants.length : Int) != 3) with
  | true =>
    have HF := Lib.hid (show Scu.repFault r = 8 from rep_bad8 HME.out (.inr (.inl (by have := bne_iff_ne.1 t4; omega))))
    clear hr0 hr1 hr2 hr3 hr4 HCE he0
    go_enter Try.func25, Try.ntmps25
    go_wp2_with (go_at_call 45; refine (inn_c _ _ _ _).mono ?_; rintro e w1 ⟨rfl, rfl⟩; rw [U1.out])
    go_ret
    exact ⟨ret_val (int_eq HF.out.symm), (Below.refl _ _).alloc (Nat.le_refl _) _⟩
  | false =>
  cases t5 : ((r.gives.length : Int) != 3) with
  | true =>
    have HF := Lib.hid (show Scu.repFault r = 8 from rep_bad8 HME.out (.inr (.inr (.inl (by have := bne_iff_ne.1 t5; omega)))))
    clear hr0 hr1 hr2 hr3 hr4 HCE he0
    go_enter Try.func25, Try.ntmps25
    go_wp2_with (go_at_call 45; refine (inn_c _ _ _ _).mono ?_; rintro e w1 ⟨rfl, rfl⟩; rw [U1.out])
    go_ret
    exact ⟨ret_val (int_eq HF.out.symm), (Below.refl _ _).alloc (Nat.le_refl _) _⟩
  | false =>
  cases t6 : ((r.given.length : Int) != 3) with
  | true =>
    have HF := Lib.hid (show Scu.repFault r = 8 from rep_bad8 HME.out (.inr (.inr (.inr (by have := bne_iff_ne.1 t6; omega)))))
    clear hr0 hr1 hr2 hr3 hr4 HCE he0
    go_enter Try.func25, Try.ntmps25
    go_wp2_with (go_at_call 45; refine (inn_c _ _ _ _).mono ?_; rintro e w1 ⟨rfl, rfl⟩; rw [U1.out])
    go_ret
    exact ⟨ret_val (int_eq HF.out.symm), (Below.refl _ _).alloc (Nat.le_refl _) _⟩
  | false =>
  have l1 : r.have_.length = 3 := by have h : (r.have_.length : Int) = 3 := by simpa using t3
                                     omega
  have l2 : r.wants.length = 3 := by have h : (r.wants.length : Int) = 3 := by simpa using t4
                                     omega
  have l3 : r.gives.length = 3 := by have h : (r.gives.length : Int) = 3 := by simpa using t5
                                     omega
  have l4 : r.given.length = 3 := by have h : (r.given.length : Int) = 3 := by simpa using t6
                                     omega
  have HF := Lib.hid (rep_rest HME.out l1 l2 l3 l4)
  have L1 := Lib.hid l1
  have L3 := Lib.hid l3
  have HE0 := Lib.hid he0
  clear l1 l2 l3 l4 he0
  go_enter Try.func25, Try.ntmps25
  go_wp2_with (go_at_call 45; refine (inn_c _ _ _ _).mono ?_; rintro e w1 ⟨rfl, rfl⟩; rw [U1.out])
  go_loopw [3] (fun i wr => ∃ j : Nat, j ≤ 3 ∧ i = .int .i64 j ∧ Hid ((r.have_.take j).any (haveBad r.kept.log.length) = false ∧ (r.gives.take j).any giveBad = false) ∧ Below (w.heap.size + 1) (w.alloc (Obj.cells #[.int .i64 r.me, .int .i64 r.kept.view, .int .i64 r.kept.normal, .bool r.kept.calm, .slice A0 r.kept.log.length c0, .int .i64 r.kept.commit, .slice A1 r.have_.length c1, .slice A2 r.wants.length c2, .slice A3 r.gives.length c3, .slice A4 r.given.length c4] 29)) wr) (fun i _ => 3 - (intOf i).toNat)
  case atStart => exact ⟨0, Nat.zero_le _, rfl, by simp [Hid], Below.refl _ _⟩
  case round =>
    obtain ⟨j, hj, rfl, ht, hbw⟩ := hrel
    have hbs := hbw.size
    simp only [World.size_alloc] at hbs
    have hbs' : w.heap.size < wr.heap.size := by omega
    obtain ⟨hcc, hzz⟩ := bcell hbw
    by_cases hlt : j < 3
    · have hlt0 : (j : Int) < 3 := by omega
      have hlg : j < r.gives.length := by have := L3.out; omega
      have hlt' : (j : Int) < (r.gives.length : Int) := by omega
      have hlh : j < r.have_.length := by have := L1.out; omega
      have hlh' : (j : Int) < (r.have_.length : Int) := by omega
      obtain ⟨g, o, lvj, e3, hg, k0, k1, k2, k3, k4, hls⟩ := kepts_get HCE.out.1 HCE.out.2.1 ((hr3.alloc (Obj.cells #[.int .i64 r.me, .int .i64 r.kept.view, .int .i64 r.kept.normal, .bool r.kept.calm, .slice A0 r.kept.log.length c0, .int .i64 r.kept.commit, .slice A1 r.have_.length c1, .slice A2 r.wants.length c2, .slice A3 r.gives.length c3, .slice A4 r.given.length c4] 29)).below (hbw.mono (by simp))) (fun j cs x a b => ((HCE.out.2.2 j cs x a b).same (Ts := [9]) (by simp) (Same.alloc w (Obj.cells #[.int .i64 r.me, .int .i64 r.kept.view, .int .i64 r.kept.normal, .bool r.kept.calm, .slice A0 r.kept.log.length c0, .int .i64 r.kept.commit, .slice A1 r.have_.length c1, .slice A2 r.wants.length c2, .slice A3 r.gives.length c3, .slice A4 r.given.length c4] 29))).same (Ts := [9]) (by simp) (Same.below (hbw.mono (by simp)))) hlg
      obtain ⟨g1, o1, e1, hg1, m0⟩ := ones_get ((hr1.alloc (Obj.cells #[.int .i64 r.me, .int .i64 r.kept.view, .int .i64 r.kept.normal, .bool r.kept.calm, .slice A0 r.kept.log.length c0, .int .i64 r.kept.commit, .slice A1 r.have_.length c1, .slice A2 r.wants.length c2, .slice A3 r.gives.length c3, .slice A4 r.given.length c4] 29)).below (hbw.mono (by simp))) hlh
      subst e3 e1
      have HLS := Lib.hid hls
      obtain ⟨Aj, nj, cj, rfl⟩ := hls.form
      have HBW := Lib.hid hbw
      clear hls hbw
      cases u1 : inB r.have_[j] 0 (r.kept.log.length : Int)
      all_goals
        have UI := Lib.hid u1
        clear u1
      · have HX := Lib.hid (show Scu.repFault r = 8 by rw [HF.out, any_found (haveBad r.kept.log.length) r.have_ j hlh (by rw [have_in, UI.out]; rfl)]; rfl)
        go_wp2
        go_quiet ((go_at_call 45; exact quiet_at ((inn_c _ _ _ _).mono fun _ _ h => ⟨by rw [h.1, UI.out], 0, h.2.symm⟩)))
        go_wp2
        go_ret
        exact ⟨ret_val (int_eq HX.out.symm), below_drewN (((below_alloc w _).trans (HBW.out.mono (by simp)))) _⟩
      · have HH := Lib.hid (show haveBad r.kept.log.length r.have_[j] = false by rw [have_in, UI.out]; rfl)
        cases u3 : (Scu.keptFault r.gives[j] != 0)
        all_goals
          have U3 := Lib.hid u3
          go_wp2_with fail
          go_region_held3 (fun w' => w'.cell? ⟨w.heap.size, 6, none⟩ = some (.slice (some ⟨g1, o1, none⟩) r.have_.length c1) ∧ w'.cell? ⟨w.heap.size, 4, none⟩ = some (.slice A0 r.kept.log.length c0) ∧ w'.cell? ⟨g1, o1 + j, none⟩ = some (.int .i64 r.have_[j]) ∧ w'.cell? ⟨w.heap.size, 8, none⟩ = some (.slice (some ⟨g, o, none⟩) r.gives.length c3) ∧
              w'.cell? ⟨g, o + j * 5, none⟩ = some (.int .i64 r.gives[j].view) ∧ w'.cell? ⟨g, o + j * 5 + 1, none⟩ = some (.int .i64 r.gives[j].normal) ∧ w'.cell? ⟨g, o + j * 5 + 2, none⟩ = some (.bool r.gives[j].calm) ∧
              w'.cell? ⟨g, o + j * 5 + 3, none⟩ = some (.slice Aj nj cj) ∧ w'.cell? ⟨g, o + j * 5 + 4, none⟩ = some (.int .i64 r.gives[j].commit)) (first | go_keep | (go_split_ands; refine ⟨?_, ?_, ?_, ?_, ?_, ?_, ?_, ?_, ?_⟩ <;> (refine (h1.cell (by first | (simp; done) | (simp; omega) | omega)).trans ?_; assumption)))
            (first
              | (go_at_call 45; refine (inn_c _ _ _ _).mono ?_; rintro e w1 ⟨rfl, rfl⟩; rw [UI.out])
              | (go_at_call 46; refine (keptFault_c _ r.gives[j] _ B (HLS.out.drewN _)).mono ?_; rintro e w1 ⟨rfl, h1⟩))
          have hb1 := below_drewN ((below_alloc w _).trans (HBW.out.mono (by simp))) 1
          have hb2 := below_drewN HBW.out 1
          have HB1 := Lib.hid (hb1.trans (h1.mono hb1.size))
          have HB2 := Lib.hid (hb2.trans (h1.mono (by simp; omega)))
          clear hb1 hb2
          go_wp2
        · go_roundw
          case rel =>
            refine ⟨j + 1, hlt, by go_num, ⟨?_, ?_⟩, HB2.out⟩
            · rw [any_take _ r.have_ j hlh, ht.out.1, HH.out]; rfl
            · rw [any_take _ r.gives j hlg, ht.out.2]
              unfold giveBad
              have := U3.out
              simpa using this
          case measure => simp only [intOf]; omega
        · have HX := Lib.hid (show Scu.repFault r = 8 by
            rw [HF.out, any_found giveBad r.gives j hlg (by unfold giveBad; have := U3.out; simpa using this)]
            simp)
          go_ret
          exact ⟨ret_val (int_eq HX.out.symm), HB1.out⟩
    · have hlt' : (3 : Int) ≤ (j : Int) := by omega
      have HX := Lib.hid (show Scu.repFault r = Scu.keptFault r.kept by
        have e1 := any_none _ r.have_ j (by have := L1.out; omega) ht.out.1
        have e2 := any_none _ r.gives j (by have := L3.out; omega) ht.out.2
        rw [HF.out, e1, e2]; rfl)
      have HB1 := Lib.hid ((below_alloc w _).trans (hbw.mono (by simp)))
      clear hbw
      go_wp2_with fail
      refine (keptFault_c _ r.kept _ B (HV.out.log.below HB1.out)).mono ?_; rintro e w1 ⟨rfl, h1⟩
      go_wp2
      go_ret
      exact ⟨ret_val (int_eq HX.out.symm), HB1.out.trans (h1.mono HB1.out.size)⟩
end Go.Proofs.Ytjbhkmadcjnbfaa

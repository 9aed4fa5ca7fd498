/- Words for memory: replicas. Walks: clones of numbers and of flags. How a replica that came in is opened. -/
import Derived.Test.YtioajgcbchdpeaaKeptS
import Derived.Test.YtioajgcbchdpeaaReg
namespace Go.Proofs.Ytioajgcbchdpeaa
open Go.RowKit Go.ChangeShapes Go.WideShapes Go.ChangeAt
set_option maxHeartbeats 400000
set_option maxRecDepth 100000

abbrev vInt : Int → Value := Value.int .i64
theorem el_ints : ElT 24 3 1 8 := by
  obtain ⟨i, h1, h2, h3, h4⟩ := info_parts (P := Try.prog) (e := 3) (z := .int .i64 0) (size := 1) (bytes := 8) (by kernel_rfl)
  exact ⟨Try.underlying24, by omega, i, _, h1, h2, h3, h4, rfl⟩
theorem el_bools : ElT 29 4 1 1 := by
  obtain ⟨i, h1, h2, h3, h4⟩ := info_parts (P := Try.prog) (e := 4) (z := .bool false) (size := 1) (bytes := 1) (by kernel_rfl)
  exact ⟨Try.underlying29, by omega, i, _, h1, h2, h3, h4, rfl⟩
theorem el_kepts : ElT 30 28 5 56 := by
  obtain ⟨i, h1, h2, h3, h4⟩ := info_parts (P := Try.prog) (e := 28) (z := .agg #[.int .i64 0, .int .i64 0, .bool false, .slice none 0 0, .int .i64 0]) (size := 5) (bytes := 56) (by kernel_rfl)
  exact ⟨Try.underlying30, by omega, i, _, h1, h2, h3, h4, rfl⟩
theorem one_ints (xs : List Int) : ∀ u ∈ xs.map vInt, u.oneCell' = true := fun u hu => by
  obtain ⟨s, _, rfl⟩ := List.mem_map.1 hu
  rfl
theorem one_bools (xs : List Bool) : ∀ u ∈ xs.map Value.bool, u.oneCell' = true := fun u hu => by
  obtain ⟨s, _, rfl⟩ := List.mem_map.1 hu
  rfl

theorem cloneInts_c (v : Value) (xs : List Int) (w : World) (B : Nat) (hv : IsOnes 3 8 vInt w B v xs) :
    Calls Try.prog 54 #[v] w fun e w' => (∃ u, e = .returned u ∧ w'.ownsRow w.heap.size 3 1 u xs.length (xs.map vInt)) ∧ Below w.heap.size w w' := by
  obtain ⟨⟨A, c, rfl, hlc, hr⟩, hl⟩ := hv
  have heq := fun (W : World) => Lib.run_eql_slice_nil (P := Try.prog) W 24 3 A xs.length c 0 0 Try.underlying24
  rcases A with _ | ad
  · have hx : xs = [] := by
      have := rd_none hr
      simpa using this
    subst hx
    have heq0 := fun (W : World) => Lib.run_eql_slice_nil (P := Try.prog) W 24 3 none 0 c 0 0 Try.underlying24
    clear heq
    go_enter Try.func54, Try.ntmps54
    go_wp2
    go_ret
    exact ⟨⟨_, rfl, World.ownsRow_nil _ _ _ _⟩, Below.refl _ _⟩
  · have hl' := hl
    unfold R47 at hl'
    go_enter Try.func54, Try.ntmps54
    go_wp2_with (at_builtin; refine list_app _ rfl _ _ 24 rfl el_ints w.heap.size _ 0 [] rfl (own_new (Nat.le_refl _)) _ xs.length (xs.map vInt) rfl ?c1 (one_ints xs) (by unfold maxLen; omega) (by omega) (by simp) ?_)
    case c1 => exact src_of_rd (hr.alloc _) (by simp) (fun e => by cases e)
    intro v1 w1 hown hg hw
    have HO := Lib.hid hown
    have HW := Lib.hid hw
    clear hown hw
    go_wp2
    go_ret
    refine ⟨⟨_, rfl, HO.out⟩, ?_⟩
    exact ((Below.refl _ _).alloc (Nat.le_refl _) _).trans (below_grown hg (by simp) (fun k hk => by simp [Value.ownBlock] at hk; omega))
theorem cloneBools_c (v : Value) (xs : List Bool) (w : World) (B : Nat) (hv : IsOnes 4 1 Value.bool w B v xs) :
    Calls Try.prog 55 #[v] w fun e w' => (∃ u, e = .returned u ∧ w'.ownsRow w.heap.size 4 1 u xs.length (xs.map Value.bool)) ∧ Below w.heap.size w w' := by
  obtain ⟨⟨A, c, rfl, hlc, hr⟩, hl⟩ := hv
  have heq := fun (W : World) => Lib.run_eql_slice_nil (P := Try.prog) W 29 4 A xs.length c 0 0 Try.underlying29
  rcases A with _ | ad
  · have hx : xs = [] := by
      have := rd_none hr
      simpa using this
    subst hx
    have heq0 := fun (W : World) => Lib.run_eql_slice_nil (P := Try.prog) W 29 4 none 0 c 0 0 Try.underlying29
    clear heq
    go_enter Try.func55, Try.ntmps55
    go_wp2
    go_ret
    exact ⟨⟨_, rfl, World.ownsRow_nil _ _ _ _⟩, Below.refl _ _⟩
  · have hl' := hl
    unfold R47 at hl'
    go_enter Try.func55, Try.ntmps55
    go_wp2_with (at_builtin; refine list_app _ rfl _ _ 29 rfl el_bools w.heap.size _ 0 [] rfl (own_new (Nat.le_refl _)) _ xs.length (xs.map Value.bool) rfl ?c1 (one_bools xs) (by unfold maxLen; omega) (by omega) (by simp) ?_)
    case c1 => exact src_of_rd (hr.alloc _) (by simp) (fun e => by cases e)
    intro v1 w1 hown hg hw
    have HO := Lib.hid hown
    have HW := Lib.hid hw
    clear hown hw
    go_wp2
    go_ret
    refine ⟨⟨_, rfl, HO.out⟩, ?_⟩
    exact ((Below.refl _ _).alloc (Nat.le_refl _) _).trans (below_grown hg (by simp) (fun k hk => by simp [Value.ownBlock] at hk; omega))

theorem KeptEl.same {w w' : World} {B : Nat} {Ts : List TypeId} {cs : List Value} {k : Scu.Kept} (h : KeptEl w B cs k) (ht : 9 ∈ Ts) (hs : Same Ts B w w') : KeptEl w' B cs k := by
  obtain ⟨lv, e, h⟩ := h
  exact ⟨lv, e, h.same ht hs⟩
theorem KeptEl.len {w : World} {B : Nat} {cs : List Value} {k : Scu.Kept} (h : KeptEl w B cs k) : cs.length = 5 := by
  obtain ⟨lv, rfl, _⟩ := h
  rfl
structure IsRep (w : World) (B : Nat) (lv hv wv gv nv : Value) (r : Scu.Replica) : Prop where
  log : IsStrs w B lv r.kept.log
  have_ : IsOnes 3 8 vInt w B hv r.have_
  wants : IsOnes 4 1 Value.bool w B wv r.wants
  gives : IsRow 28 5 56 KeptEl w B gv r.gives
  given : IsOnes 4 1 Value.bool w B nv r.given
section
variable {w w' : World} {B B' : Nat} {lv hv wv gv nv : Value} {r : Scu.Replica} {Ts : List TypeId}
theorem IsRep.same (h : IsRep w B lv hv wv gv nv r) (hs : Same [9, 3, 4, 28] B w w') : IsRep w' B lv hv wv gv nv r :=
  ⟨h.log.same (by simp) hs, h.have_.same (by simp) hs, h.wants.same (by simp) hs, h.gives.same (by simp) hs (fun _ _ hk => hk.same (by simp) hs), h.given.same (by simp) hs⟩
theorem IsRep.below (h : IsRep w B lv hv wv gv nv r) (hb : Below w.heap.size w w') : IsRep w' B lv hv wv gv nv r := h.same (Same.below hb)
theorem IsRep.alloc (h : IsRep w B lv hv wv gv nv r) (o : Obj) : IsRep (w.alloc o) B lv hv wv gv nv r := h.same (Same.alloc w o)
end
theorem bytes_int : Try.prog.bytesOf 3 = 8 := by kernel_rfl
theorem bytes_bool : Try.prog.bytesOf 4 = 1 := by kernel_rfl
theorem cells_replica : Try.prog.cellsOf 32 = 10 := by kernel_rfl
theorem cells_ints : Try.prog.cellsOf 24 = 1 := by kernel_rfl
theorem cells_bools : Try.prog.cellsOf 29 = 1 := by kernel_rfl
theorem cells_kepts : Try.prog.cellsOf 30 = 1 := by kernel_rfl
section
variable {H : Type} {enc : TypeId × Value → H} {w : World} {base : Nat} {spare : Nat → Bool} {held : Bool} {n : Nat}
theorem trod_ints {v : Value} {x : DataW H × List MemPlace} (h : DataW.trod enc Try.prog w base spare held n 24 [v] = some x) (hw : ∀ k ∈ x.1.weights Try.prog 24, k ≤ reachBytes) : ∃ xs, IsOnes 3 8 vInt w w.heap.size v xs :=
  trod_ones (0 : Int) Try.underlying24 cells_int bytes_int (fun h => by obtain ⟨a, h, _⟩ := DataW.trod_int Try.underlying3 h; exact ⟨a, h⟩) h hw
theorem trod_bools {v : Value} {x : DataW H × List MemPlace} (h : DataW.trod enc Try.prog w base spare held n 29 [v] = some x) (hw : ∀ k ∈ x.1.weights Try.prog 29, k ≤ reachBytes) : ∃ xs, IsOnes 4 1 Value.bool w w.heap.size v xs :=
  trod_ones false Try.underlying29 cells_bool bytes_bool (fun h => by obtain ⟨a, h, _⟩ := DataW.trod_bool Try.underlying4 h; exact ⟨a, h⟩) h hw
theorem trod_kepts {v : Value} {x : DataW H × List MemPlace} (h : DataW.trod enc Try.prog w base spare held n 30 [v] = some x) (hw : ∀ k ∈ x.1.weights Try.prog 30, k ≤ reachBytes) : ∃ xs, IsRow 28 5 56 KeptEl w w.heap.size v xs :=
  trod_row Scu.kept0 Try.underlying30 cells_kept bytes_kept (by omega) (fun h hw => trod_kept h hw) h hw
theorem trod_rep {cs : List Value} {x : DataW H × List MemPlace} (h : DataW.trod enc Try.prog w base spare held n 32 cs = some x) (hw : ∀ k ∈ x.1.weights Try.prog 32, k ≤ reachBytes) :
    ∃ r lv hv wv gv nv, cs = [.int .i64 r.me, .int .i64 r.kept.view, .int .i64 r.kept.normal, .bool r.kept.calm, lv, .int .i64 r.kept.commit, hv, wv, gv, nv] ∧ IsRep w w.heap.size lv hv wv gv nv r := by
  obtain ⟨xs, m, _, hxe, hl, hxl, hf⟩ := DataW.trod_struct Try.underlying32 h
  rw [cells_replica] at hl
  match cs, hl with
  | [c0, c1, c2, c3, c4, c5, c6, c7, c8, c9], _ =>
    have hxl6 : xs.length = 6 := hxl
    match xs, hxl6 with
    | [z0, z1, z2, z3, z4, z5], _ =>
      subst hxe
      have hwt : ∀ k ∈ DataW.weights Try.prog 32 (DataW.agg [z0.1, z1.1, z2.1, z3.1, z4.1, z5.1]), k ≤ reachBytes := hw
      simp only [DataW.weights, Try.underlying32, DataW.weightsEach, List.map_cons, List.map_nil, List.mem_append] at hwt
      obtain ⟨n0, h0, _⟩ := DataW.trod_int Try.underlying3 (hf 0 _ rfl)
      have h1 := hf 1 _ rfl
      have h2 := hf 2 _ rfl
      have h3 := hf 3 _ rfl
      have h4 := hf 4 _ rfl
      have h5 := hf 5 _ rfl
      simp [cells_int, cells_kept, cells_ints, cells_bools, cells_kepts] at h0 h1 h2 h3 h4 h5
      obtain ⟨k, lv, ek, hk⟩ := trod_kept h1 (fun k hk => hwt k (.inr (.inl hk)))
      obtain ⟨hs, h2'⟩ := trod_ints h2 (fun k hk => hwt k (.inr (.inr (.inl hk))))
      obtain ⟨ws, h3'⟩ := trod_bools h3 (fun k hk => hwt k (.inr (.inr (.inr (.inl hk)))))
      obtain ⟨gs, h4'⟩ := trod_kepts h4 (fun k hk => hwt k (.inr (.inr (.inr (.inr (.inl hk))))))
      obtain ⟨ns, h5'⟩ := trod_bools h5 (fun k hk => hwt k (.inr (.inr (.inr (.inr (.inr (.inl hk)))))))
      simp only [List.cons.injEq, and_true] at ek
      obtain ⟨rfl, rfl, rfl, rfl, rfl⟩ := ek
      subst h0
      exact ⟨⟨n0, k, hs, ws, gs, ns⟩, c4, c6, c7, c8, c9, rfl, hk, h2', h3', h4', h5'⟩
def IsRepV (w : World) (v : Value) (r : Scu.Replica) : Prop :=
  ∃ lv hv wv gv nv, v = .agg #[.int .i64 r.me, .int .i64 r.kept.view, .int .i64 r.kept.normal, .bool r.kept.calm, lv, .int .i64 r.kept.commit, hv, wv, gv, nv] ∧ IsRep w w.heap.size lv hv wv gv nv r
theorem openS_Replica {v : Value} {d : DataW H} {p : List MemPlace} {b0 : Nat} (hv : Value.okWide Try.prog w .any b0 32 v) (h : DataW.Trod enc Try.prog w base spare held 32 v d p)
    (hw : ∀ k ∈ d.weights Try.prog 32, k ≤ reachBytes) : ∃ y, IsRepV w v y := by
  obtain ⟨cs, rfl, _⟩ := okWide_struct Try.underlying32 hv
  obtain ⟨fuel, hf⟩ := h
  obtain ⟨r, lv, hv, wv, gv, nv, e, hy⟩ := trod_rep hf hw
  refine ⟨r, lv, hv, wv, gv, nv, ?_, hy⟩
  have : cs = #[.int .i64 r.me, .int .i64 r.kept.view, .int .i64 r.kept.normal, .bool r.kept.calm, lv, .int .i64 r.kept.commit, hv, wv, gv, nv] := by
    apply Array.toList_inj.1
    simpa [Value.cells] using e
  rw [this]
end
end Go.Proofs.Ytioajgcbchdpeaa

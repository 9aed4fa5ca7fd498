/- Part 5: words and walks under the law 'LeadersLead'. -/
import Derived.Test.YtfpiembhlgcelaaDoorLed4
import Derived.Maps.AppendAt
import Derived.Deep.AppendLies
import Derived.Deep.RegionLaw
import Derived.RegionTactic
import Derived.OwnWalk
import Derived.SliceStrings
import Derived.SizedLaws
import Derived.Deep.Slices
set_option linter.unusedVariables false
set_option linter.unusedSimpArgs false
/- Appends onto rows of the call's own, from whatever source. -/
namespace Go.Proofs.YtfpiembhlgcelaaDoor
open Go.RowKit
set_option maxHeartbeats 400000
set_option maxRecDepth 100000

/-- The slice type t has elements of the type e, of so many cells and bytes. -/
def ElT (t e : TypeId) (size bytes : Nat) : Prop :=
  Tryd.prog.underlying t = some (.slice e) ∧ 0 < size ∧ ∃ i z, Tryd.prog.info? e = some i ∧ i.zero = some z ∧ i.size = size ∧ i.bytes = bytes ∧ z.cells.size = size

/-- What a slice value yields as a source: nil, or a row. -/
def Src1 (w : World) (size : Nat) (x : Value) (m : Nat) (news : List Value) : Prop :=
  news.length = m * size ∧ ((∃ c, x = .slice none 0 c ∧ m = 0) ∨ ∃ ad c, x = .slice (some ad) m c ∧ ∀ (j : Nat) (u : Value), news[j]? = some u → w.cell? (ad.add j) = some u)

theorem src_of_rd {w : World} {B : Nat} {t : TypeId} {A : Option Addr} {m c : Nat} {size : Nat} {news : List Value} (h : Rd w B t A news) (hl : news.length = m * size) (hA : A = none → m = 0) : Src1 w size (.slice A m c) m news := by
  refine ⟨hl, ?_⟩
  rcases A with _ | ad
  · have := hA rfl
    subst this
    exact .inl ⟨c, rfl, rfl⟩
  · refine .inr ⟨ad, c, rfl, fun j u hj => ?_⟩
    rcases h with h | ⟨g, o, h1, _, _, h4⟩
    · subst h; simp at hj
    · simp only [Option.some.injEq] at h1
      subst h1
      have e : (⟨g, o, none⟩ : Addr).add j = ⟨g, o + j, none⟩ := by unfold Addr.add; split <;> simp_all
      rw [e]
      exact h4 j u hj

section
variable (w : World)
theorem run_app {t e ty : TypeId} {size bytes : Nat} (hE : ElT t e size bytes) (base : Nat) (v : Value) (n : Nat) (xs : List Value) (hown : w.ownsRow base e size v n xs)
    (x : Value) (m : Nat) (news : List Value) (hx : Src1 w size x m news) (h1 : ∀ u ∈ news, u.oneCell' = true) (hmax : n + m ≤ maxLen) (hbytes : (n + m) * bytes ≤ 140737488355328) (hbase : base ≤ w.heap.size) :
    ∃ v' w', (Builtin.append_ #[t, t] ty #[v, x]).run Tryd.prog w = .ok v' w' ∧ w'.ownsRow base e size v' (n + m) (xs ++ news) ∧ w.grownBy w' v.ownBlock ∧ (v'.ownBlock = v.ownBlock ∨ v'.ownBlock = some w.heap.size) := by
  obtain ⟨ht, hsz, i, z, hi, hz, hs1, hs2, hzs⟩ := hE
  obtain ⟨hl, ⟨c, rfl, rfl⟩ | ⟨ad, c, rfl, hcells⟩⟩ := hx
  · have hn : news = [] := List.eq_nil_of_length_eq_zero (by simpa using hl)
    subst hn
    refine ⟨v, w, ?_, by simpa using hown, World.grownBy.refl w _, .inl rfl⟩
    rcases hown.2 with ⟨rfl, rfl⟩ | ⟨g, cap, cur, rfl, _, _, hnc, _⟩
    · simp [Builtin.append_, run_underlying ht, sizeOf, typeInfo, hi, Builtin.lenOf, Builtin.firstCells]
    · simp [Builtin.append_, run_underlying ht, sizeOf, typeInfo, hi, Builtin.lenOf, Builtin.firstCells, hnc, storeCells]
  · obtain ⟨v', w', hrun, h2, h3, _, h5⟩ := run_append_own_at (P := Tryd.prog) w base t ty e i z size bytes ht hi hz hs1 hs2 hzs hsz v n xs hown ad m c news hl hcells h1 hmax hbytes hbase
    exact ⟨v', w', hrun, h2, h3, h5⟩
theorem wp_app {o : Oper} {a : Act} {K : Act → World → Prop} {Q : Exit → Act → World → Prop} (s x : Operand) (t : TypeId)
    (ho : o.op = .call { callee := .builtin .append, args := #[s, x], argTypes := #[t, t] }) {e : TypeId} {size bytes : Nat} (hE : ElT t e size bytes) (base : Nat) (v : Value) (n : Nat) (xs : List Value) (hs : a.eval s = v) (hown : w.ownsRow base e size v n xs)
    (xv : Value) (m : Nat) (news : List Value) (hxv : a.eval x = xv) (hx : Src1 w size xv m news) (h1 : ∀ u ∈ news, u.oneCell' = true) (hmax : n + m ≤ maxLen) (hbytes : (n + m) * bytes ≤ 140737488355328) (hbase : base ≤ w.heap.size)
    (h : ∀ v' w', w'.ownsRow base e size v' (n + m) (xs ++ news) → w.grownBy w' v.ownBlock → (v'.ownBlock = v.ownBlock ∨ v'.ownBlock = some w.heap.size) → K (a.put o.dst v') w') : o.wp Tryd.prog a w K Q := by
  obtain ⟨v', w', hrun, h2, h3, h4⟩ := run_app w (ty := o.type) hE base v n xs hown xv m news hx h1 hmax hbytes hbase
  unfold Oper.wp execOp
  simp only [ho, resolve, invoke, builtin, Sem.run_bind, Sem.run_pure, Result.andThen_ok, List.map_toArray, List.map_cons, List.map_nil, hs, hxv, hrun]
  exact h v' w' h2 h3 h4
theorem list_app {ops : Array Oper} {rest : List Oper} {o : Oper} {a : Act} {Q : Exit → Act → World → Prop} (hgd : o.guard = none) (s x : Operand) (t : TypeId)
    (ho : o.op = .call { callee := .builtin .append, args := #[s, x], argTypes := #[t, t] }) {e : TypeId} {size bytes : Nat} (hE : ElT t e size bytes) (base : Nat) (v : Value) (n : Nat) (xs : List Value) (hs : a.eval s = v) (hown : w.ownsRow base e size v n xs)
    (xv : Value) (m : Nat) (news : List Value) (hxv : a.eval x = xv) (hx : Src1 w size xv m news) (h1 : ∀ u ∈ news, u.oneCell' = true) (hmax : n + m ≤ maxLen) (hbytes : (n + m) * bytes ≤ 140737488355328) (hbase : base ≤ w.heap.size)
    (h : ∀ v' w', w'.ownsRow base e size v' (n + m) (xs ++ news) → w.grownBy w' v.ownBlock → (v'.ownBlock = v.ownBlock ∨ v'.ownBlock = some w.heap.size) → wpList Tryd.prog ops Q rest (a.put o.dst v') w') : wpList Tryd.prog ops Q (o :: rest) a w :=
  wpList_plain hgd fun _ hK => wp_app w s x t ho hE base v n xs hs hown xv m news hxv hx h1 hmax hbytes hbase fun v' w' h2 h3 h4 => hK _ _ (h v' w' h2 h3 h4)
theorem step_app {ops : Array Oper} {o : Oper} {a : Act} {K : Act → World → Prop} {Q : Exit → Act → World → Prop} {E : Prop} (hgd : o.guard = none) (s x : Operand) (t : TypeId)
    (ho : o.op = .call { callee := .builtin .append, args := #[s, x], argTypes := #[t, t] }) {e : TypeId} {size bytes : Nat} (hE : ElT t e size bytes) (base : Nat) (v : Value) (n : Nat) (xs : List Value) (hs : a.eval s = v) (hown : w.ownsRow base e size v n xs)
    (xv : Value) (m : Nat) (news : List Value) (hxv : a.eval x = xv) (hx : Src1 w size xv m news) (h1 : ∀ u ∈ news, u.oneCell' = true) (hmax : n + m ≤ maxLen) (hbytes : (n + m) * bytes ≤ 140737488355328) (hbase : base ≤ w.heap.size)
    (h : ∀ v' w', w'.ownsRow base e size v' (n + m) (xs ++ news) → w.grownBy w' v.ownBlock → (v'.ownBlock = v.ownBlock ∨ v'.ownBlock = some w.heap.size) → K (a.put o.dst v') w') :
    if Region.wanted o (yielded ops a.tmps) = true then Oper.wp Tryd.prog o a w K Q else E := by
  have hw : Region.wanted o (yielded ops a.tmps) = true := by simp [Region.wanted, hgd]
  rw [if_pos hw]
  exact wp_app w s x t ho hE base v n xs hs hown xv m news hxv hx h1 hmax hbytes hbase h
end

/-- An owned row, read. -/
theorem rd_own {w : World} {base : Nat} {e : TypeId} {size n : Nat} {v : Value} {xs : List Value} (h : w.ownsRow base e size v n xs) :
    ∃ A c, v = .slice A n c ∧ n ≤ c ∧ (A = none → n = 0 ∧ c = 0) ∧ Rd w 0 e A xs ∧ (∀ g, v.ownBlock = some g → base ≤ g ∧ g < w.heap.size) := by
  have hlt := h.lt
  obtain ⟨hl, ⟨rfl, rfl⟩ | ⟨g, cap, cur, rfl, hb, hh, hnc, _, hcs, ht⟩⟩ := h
  · have hx : xs = [] := List.eq_nil_of_length_eq_zero (by simpa using hl)
    subst hx
    exact ⟨none, 0, rfl, Nat.le_refl _, fun _ => ⟨rfl, rfl⟩, Rd.nil, hlt⟩
  · refine ⟨_, cap, rfl, hnc, (fun e => by cases e), ?_, hlt⟩
    have hg : g < w.heap.size := by
      rcases Nat.lt_or_ge g w.heap.size with h | h
      · exact h
      · rw [Array.getElem?_eq_none h] at hh; cases hh
    refine .inr ⟨g, 0, rfl, hg, .inr ⟨cur, _, hh⟩, fun j u hj => ?_⟩
    have hj' : j < n * size := by
      have : j < xs.length := by
        rcases Nat.lt_or_ge j xs.length with h | h
        · exact h
        · rw [List.getElem?_eq_none h] at hj; cases hj
      omega
    simp only [World.cell?, hh, Nat.zero_add]
    rw [← ht, List.getElem?_take_of_lt hj'] at hj
    simpa using hj

theorem el_strs : ElT 36 9 1 16 := by
  obtain ⟨i, h1, h2, h3, h4⟩ := info_parts (P := Tryd.prog) (e := 9) (z := .string ⟨#[]⟩) (size := 1) (bytes := 16) (by kernel_rfl)
  exact ⟨Tryd.underlying36, by omega, i, _, h1, h2, h3, h4, rfl⟩
theorem el_rows : ElT 37 36 1 24 := by
  obtain ⟨i, h1, h2, h3, h4⟩ := info_parts (P := Tryd.prog) (e := 36) (z := .slice none 0 0) (size := 1) (bytes := 24) (by kernel_rfl)
  exact ⟨Tryd.underlying37, by omega, i, _, h1, h2, h3, h4, rfl⟩

theorem rd_none {w : World} {B : Nat} {t : TypeId} {cs : List Value} (h : Rd w B t none cs) : cs = [] := by
  rcases h with h | ⟨g, o, h1, _⟩
  · exact h
  · cases h1
theorem own_new {w : World} {e : TypeId} {size : Nat} {base : Nat} (hb : base ≤ w.heap.size) : (w.alloc (.cells #[] e)).ownsRow base e size (.slice (some ⟨w.heap.size, 0, none⟩) 0 0) 0 [] :=
  World.ownsRow_made w #[] 0 hb (Nat.zero_le _) (by simp)
theorem one_strs (xs : List Scu.Str) : ∀ u ∈ xs.map Value.string, u.oneCell' = true := fun u hu => by
  obtain ⟨s, _, rfl⟩ := List.mem_map.1 hu
  rfl
theorem below_grown {w w' : World} {row : Option Nat} (hg : w.grownBy w' row) {B : Nat} (hB : B ≤ w.heap.size) (hr : ∀ k, row = some k → B ≤ k) : Below B w w' :=
  (Below.refl B w).grown hg hB hr

theorem cloneStrs_c (v : Value) (xs : List Scu.Str) (w : World) (B : Nat) (hv : IsStrs w B v xs) :
    Calls Tryd.prog 26 #[v] w fun e w' => (∃ u, e = .returned u ∧ w'.ownsRow w.heap.size 9 1 u xs.length (xs.map Value.string)) ∧ Below w.heap.size w w' := by
  obtain ⟨⟨A, c, rfl, hlc, hr⟩, hl, he⟩ := hv
  have heq := fun (W : World) => Lib.run_eql_slice_nil (P := Tryd.prog) W 36 9 A xs.length c 0 0 Tryd.underlying36
  rcases A with _ | ad
  · have hx : xs = [] := by
      have := rd_none hr
      simpa using this
    subst hx
    have heq0 := fun (W : World) => Lib.run_eql_slice_nil (P := Tryd.prog) W 36 9 none 0 c 0 0 Tryd.underlying36
    clear heq
    go_enter Tryd.func26, Tryd.ntmps26
    go_wp2
    go_ret
    exact ⟨⟨_, rfl, World.ownsRow_nil _ _ _ _⟩, Below.refl _ _⟩
  · have hl' := hl
    unfold R47 at hl'
    go_enter Tryd.func26, Tryd.ntmps26
    go_wp2_with (at_builtin; refine list_app _ rfl _ _ 36 rfl el_strs w.heap.size _ 0 [] rfl (own_new (Nat.le_refl _)) _ xs.length (xs.map Value.string) rfl ?c1 (one_strs xs) (by unfold maxLen; omega) (by omega) (by simp) ?_)
    case c1 => exact src_of_rd (hr.alloc _) (by simp) (fun e => by cases e)
    intro v1 w1 hown hg hw
    have HO := Lib.hid hown
    have HW := Lib.hid hw
    clear hown hw
    go_wp2
    go_ret
    refine ⟨⟨_, rfl, HO.out⟩, ?_⟩
    exact ((Below.refl _ _).alloc (Nat.le_refl _) _).trans (below_grown hg (by simp) (fun k hk => by simp [Value.ownBlock] at hk; omega))
theorem strs_own {w : World} {base : Nat} {v : Value} {xs : List Scu.Str} (h : w.ownsRow base 9 1 v xs.length (xs.map Value.string)) (h1 : xs.length * 16 ≤ R47) (h2 : ∀ s ∈ xs, s.size ≤ R47) : IsStrs w 0 v xs := by
  obtain ⟨A, c, rfl, hc, _, hr, _⟩ := rd_own h
  exact ⟨⟨_, _, rfl, hc, hr⟩, h1, h2⟩

theorem ownsRow_base {w : World} {base base' : Nat} {e : TypeId} {size n : Nat} {v : Value} {xs : List Value} (h : w.ownsRow base e size v n xs) (hb : base' ≤ base) : w.ownsRow base' e size v n xs := by
  obtain ⟨h1, h2 | ⟨g, cap, cur, h2, h3, h4⟩⟩ := h
  · exact ⟨h1, .inl h2⟩
  · exact ⟨h1, .inr ⟨g, cap, cur, h2, by omega, h4⟩⟩
/-- Rows of two element types lie in two blocks. -/
theorem own_ne {w : World} {b b' : Nat} {e e' : TypeId} {s s' n n' : Nat} {v v' : Value} {xs xs' : List Value} (h : w.ownsRow b e s v n xs) (h' : w.ownsRow b' e' s' v' n' xs') (he : e ≠ e') {g : Nat} (hg : v.ownBlock = some g) : v'.ownBlock ≠ some g := by
  intro hg'
  obtain ⟨_, ⟨rfl, _⟩ | ⟨q, cap, cur, rfl, _, hh, _⟩⟩ := h
  · cases hg
  obtain ⟨_, ⟨rfl, _⟩ | ⟨q', cap', cur', rfl, _, hh', _⟩⟩ := h'
  · cases hg'
  simp only [Value.ownBlock, Option.some.injEq] at hg hg'
  subst hg
  subst hg'
  rw [hh] at hh'
  cases hh'
  exact he rfl
/-- A volume that the call has made: the row Now is its own, and no snapshot's row lies in that block. -/
structure OwnVol (w : World) (base : Nat) (nv sv : Value) (x : Scu.Volume) : Prop where
  now : w.ownsRow base 9 1 nv x.now.length (x.now.map Value.string)
  nowLen : x.now.length * 16 ≤ R47
  nowEach : ∀ s ∈ x.now, s.size ≤ R47
  len : x.snaps.length * 24 ≤ R47
  snaps : ∃ vs b, w.ownsRow base 36 1 sv x.snaps.length vs ∧ (∀ (j : Nat) (u : Value) (y : List Scu.Str), vs[j]? = some u → x.snaps[j]? = some y → IsStrs w 0 u y) ∧
    (∀ g, nv.ownBlock = some g → g < b) ∧ (∀ u ∈ vs, ∀ g, u.ownBlock = some g → b ≤ g)
theorem OwnVol.is {w : World} {base : Nat} {nv sv : Value} {x : Scu.Volume} (h : OwnVol w base nv sv x) : IsVolume w 0 nv sv x := by
  refine ⟨strs_own h.now h.nowLen h.nowEach, ?_⟩
  obtain ⟨vs, b, h1, h2, _, _⟩ := h.snaps
  obtain ⟨A, c, rfl, hc, _, hr, _⟩ := rd_own h1
  exact ⟨⟨_, _, vs, rfl, hc, hr, by have := h1.1; omega, h2⟩, h.len⟩

def CopyRel (w : World) (base bo b1 : Nat) (nv : Value) (x : Scu.Volume) (k : Nat) (wr : World) : Prop :=
  Blk wr (w.heap.size + 1) 39 #[.slice none 0 0, .slice none 0 0] ∧ ∃ sv vs, Blk wr bo 39 #[nv, sv] ∧ wr.ownsRow base 36 1 sv k vs ∧ (∀ (j : Nat) (u : Value) (y : List Scu.Str), vs[j]? = some u → x.snaps[j]? = some y → IsStrs wr 0 u y) ∧
    (∀ u ∈ vs, ∀ g, u.ownBlock = some g → b1 ≤ g) ∧ wr.ownsRow base 9 1 nv x.now.length (x.now.map Value.string) ∧ (∀ g, nv.ownBlock = some g → g < b1) ∧ Below w.heap.size w wr

theorem below_alloc (w : World) (o : Obj) : Below w.heap.size w (w.alloc o) := (Below.refl _ _).alloc (Nat.le_refl _) o
theorem own_below {w w' : World} {base : Nat} {e : TypeId} {size n : Nat} {v : Value} {xs : List Value} (h : w.ownsRow base e size v n xs) (hb : Below w.heap.size w w') : w'.ownsRow base e size v n xs :=
  h.kept (row := none) ⟨hb.os, hb.tape, hb.output, hb.size, fun i hi _ => hb.block i hi⟩ (by cases hv : v.ownBlock with
    | none => exact .inl rfl
    | some g => exact .inr (by simp))
theorem own_kind {w : World} {base : Nat} {e : TypeId} {size n : Nat} {v : Value} {xs : List Value} (h : w.ownsRow base e size v n xs) {g : Nat} (hg : v.ownBlock = some g) : ∃ C fz, w.heap[g]? = some (.cells C e fz) := by
  obtain ⟨_, ⟨rfl, _⟩ | ⟨q, cap, cur, rfl, _, hh, _⟩⟩ := h
  · cases hg
  · simp only [Value.ownBlock, Option.some.injEq] at hg
    subst hg
    exact ⟨_, _, hh⟩
theorem set_grown (w : World) (p : Addr) (u : Value) : w.grownBy (w.setCell p u) (some p.block) :=
  ⟨rfl, rfl, rfl, by simp [World.setCell], fun i _ hne => Below.heap_setCell w p u i (fun e => hne (by rw [e]))⟩
theorem copy_next {w wr w3 w4 : World} {bo k : Nat} {nv sv u v4 : Value} {x : Scu.Volume} {vs : List Value} {o : Obj} {y : List Scu.Str} (hw : w.heap.size + 1 < bo) (hres : Blk wr (w.heap.size + 1) 39 #[.slice none 0 0, .slice none 0 0])
    (hblk : Blk wr bo 39 #[nv, sv]) (hown : wr.ownsRow w.heap.size 36 1 sv k vs) (hy : x.snaps[k]? = some y)
    (hrest : (∀ (j : Nat) (u : Value) (y : List Scu.Str), vs[j]? = some u → x.snaps[j]? = some y → IsStrs wr 0 u y) ∧ (∀ u ∈ vs, ∀ g, u.ownBlock = some g → bo ≤ g) ∧
      wr.ownsRow w.heap.size 9 1 nv x.now.length (x.now.map Value.string) ∧ (∀ g, nv.ownBlock = some g → g < bo) ∧ Below w.heap.size w wr)
    (h3 : Below wr.heap.size wr w3) (hu : w3.ownsRow wr.heap.size 9 1 u y.length (y.map Value.string)) (hyl : y.length * 16 ≤ R47) (hye : ∀ s ∈ y, s.size ≤ R47)
    (h4 : w4.ownsRow w.heap.size 36 1 v4 (k + 1) (vs ++ [u])) (hg : (w3.alloc o).grownBy w4 sv.ownBlock) :
    CopyRel w w.heap.size bo bo nv x (k + 1) (w4.setCell ⟨bo, 1, none⟩ v4) := by
  obtain ⟨heach, hfrom, hnow, hnlt, hbel⟩ := hrest
  have hblt := hblk.lt
  have h3s := h3.size
  have h4s := hg.size
  have h3a : (w3.alloc o).heap.size = w3.heap.size + 1 := by simp
  have h3b : Below wr.heap.size wr (w3.alloc o) := h3.alloc h3s o
  have hownA := own_below hown h3b
  have hblkA : Blk (w3.alloc o) bo 39 #[nv, sv] := hblk.same h3b
  have hsvne : ∀ g C t fz, (w3.alloc o).heap[g]? = some (.cells C t fz) → t ≠ 36 → some g ≠ sv.ownBlock := by
    intro g C t fz hh hne hg'
    obtain ⟨C', fz', hh'⟩ := own_kind hownA hg'.symm
    rw [hh] at hh'
    cases hh'
    exact hne rfl
  have hblk4 : Blk w4 bo 39 #[nv, sv] := (hg.block bo (by omega) (hsvne _ _ _ _ hblkA (by decide))).trans hblkA
  have hkeep : ∀ g, g < (w3.alloc o).heap.size → (g < 0 ∨ ∃ C fz, (w3.alloc o).heap[g]? = some (.cells C 9 fz)) → (w4.setCell ⟨bo, 1, none⟩ v4).heap[g]? = (w3.alloc o).heap[g]? := by
    rintro g hglt (h0 | ⟨C, fz, hh⟩)
    · omega
    · have hgb : g ≠ bo := by
        rintro rfl
        have := hblkA
        unfold Blk at this
        rw [hh] at this
        cases this
      exact (Below.heap_setCell w4 _ v4 g hgb).trans (hg.block g hglt (hsvne _ _ _ _ hh (by decide)))
  have hsz : (w3.alloc o).heap.size ≤ (w4.setCell ⟨bo, 1, none⟩ v4).heap.size := by simpa [World.setCell] using h4s
  have hnowA := own_below hnow h3b
  have hresA : Blk (w3.alloc o) (w.heap.size + 1) 39 #[.slice none 0 0, .slice none 0 0] := hres.same h3b
  have hres4 : Blk w4 (w.heap.size + 1) 39 #[.slice none 0 0, .slice none 0 0] := (hg.block _ (by omega) (hsvne _ _ _ _ hresA (by decide))).trans hresA
  refine ⟨hres4.far (by simp; omega) v4, v4, vs ++ [u], hblk4.set_ 1 v4, ?_, ?_, ?_, ?_, hnlt, ?_⟩
  · refine h4.kept (set_grown _ _ _) (.inr fun hg' => ?_)
    obtain ⟨C', fz', hh'⟩ := own_kind h4 hg'
    have := hblk4
    unfold Blk at this
    rw [hh'] at this
    cases this
  · intro j v z hv hz
    have hl : vs.length = k := by simpa using hown.1
    rcases Nat.lt_or_ge j vs.length with hj | hj
    · rw [List.getElem?_append_left hj] at hv
      exact ((heach j v z hv hz).below h3b).keep hsz hkeep
    · have hj' : j = vs.length := by
        rcases Nat.lt_or_ge vs.length j with h | h
        · rw [List.getElem?_eq_none (by simp; omega)] at hv; cases hv
        · omega
      subst hj'
      rw [List.getElem?_append_right (Nat.le_refl _)] at hv
      simp only [Nat.sub_self, List.getElem?_cons_zero, Option.some.injEq] at hv
      subst hv
      rw [hl, hy] at hz
      cases hz
      exact ((strs_own hu hyl hye).alloc o).keep hsz hkeep
  · intro v hv g hgv
    rcases List.mem_append.1 hv with h | h
    · exact hfrom v h g hgv
    · rw [List.mem_singleton] at h
      subst h
      have := (hu.lt g hgv).1
      omega
  · have hn4 := hnowA.kept hg (by
      cases hnb : nv.ownBlock with
      | none => exact .inl rfl
      | some q =>
        obtain ⟨C, fz, hh⟩ := own_kind hnowA hnb
        exact .inr (hsvne q C _ fz hh (by decide)))
    refine hn4.kept (set_grown _ _ _) (.inr fun hg' => ?_)
    have := hnlt _ hg'
    simp at this
  · refine Below.setCell ?_ (show w.heap.size ≤ bo by omega) v4
    exact (hbel.trans (h3b.mono hbel.size)).grown hg (by have := hbel.size; omega) (fun q hq => (hownA.lt q hq).1)
theorem copy_cell {w wr w3 w4 : World} {bo k : Nat} {nv sv : Value} {vs : List Value} {o : Obj}
    (hblk : Blk wr bo 39 #[nv, sv]) (hown : wr.ownsRow w.heap.size 36 1 sv k vs)
    (h3 : Below wr.heap.size wr w3) (hg : (w3.alloc o).grownBy w4 sv.ownBlock) : Blk w4 bo 39 #[nv, sv] := by
  have h3s := h3.size
  have hblt := hblk.lt
  have h3a : (w3.alloc o).heap.size = w3.heap.size + 1 := by simp
  have h3b : Below wr.heap.size wr (w3.alloc o) := h3.alloc h3s o
  have hblkA : Blk (w3.alloc o) bo 39 #[nv, sv] := hblk.same h3b
  refine (hg.block bo (by omega) fun hg' => ?_).trans hblkA
  obtain ⟨C', fz', hh'⟩ := own_kind (own_below hown h3b) hg'.symm
  have := hblkA
  unfold Blk at this
  rw [hh'] at this
  cases this
theorem own_set {w : World} {base : Nat} {e : TypeId} {size n : Nat} {v : Value} {xs : List Value} (h : w.ownsRow base e size v n xs) {g i : Nat} {t : TypeId} {cs : Array Value} (hb : Blk w g t cs) (hne : t ≠ e) (u : Value) : (w.setCell ⟨g, i, none⟩ u).ownsRow base e size v n xs := by
  refine h.kept (set_grown _ _ _) (.inr fun hg => ?_)
  obtain ⟨C, fz, hh⟩ := own_kind h hg
  unfold Blk at hb
  rw [hh] at hb
  cases hb
  exact hne rfl
theorem OwnVol.set_ {w : World} {base : Nat} {nv sv : Value} {x : Scu.Volume} (h : OwnVol w base nv sv x) {g i : Nat} {t : TypeId} {cs : Array Value} (hb : Blk w g t cs) (h1 : t ≠ 9) (h2 : t ≠ 36) (u : Value) : OwnVol (w.setCell ⟨g, i, none⟩ u) base nv sv x := by
  refine ⟨own_set h.now hb h1 u, h.nowLen, h.nowEach, h.len, ?_⟩
  obtain ⟨vs, b, h3, h4, h5⟩ := h.snaps
  refine ⟨vs, b, own_set h3 hb h2 u, fun j v y hv hy => (h4 j v y hv hy).keep (by simp [World.setCell]) ?_, h5⟩
  rintro q hq (h0 | ⟨C, fz, hh⟩)
  · omega
  · refine Below.heap_setCell w _ u q fun e => ?_
    have e' : q = g := e
    subst e'
    unfold Blk at hb
    rw [hh] at hb
    cases hb
    exact h1 rfl

theorem copyVol_c (nv sv : Value) (x : Scu.Volume) (w : World) (B : Nat) (hv : IsVolume w B nv sv x) :
    Calls Tryd.prog 65 #[.agg #[nv, sv]] w fun e w' => (∃ nu su, e = .returned (.agg #[nu, su]) ∧ OwnVol w' w.heap.size nu su x) ∧ Below w.heap.size w w' := by
  obtain ⟨⟨A, c, vs0, rfl, _, hr, hvl, hve⟩, hl⟩ := hv.snaps
  obtain ⟨A1, m1, d1, rfl⟩ := hv.now.form
  have HVL := Lib.hid hvl
  have HVE := Lib.hid hve
  clear hvl hve
  unfold R47 at hl
  go_enter Tryd.func65, Tryd.ntmps65
  go_wp2_with fail
  refine (cloneStrs_c _ _ _ B ((hv.now.alloc _).alloc _)).mono ?_; rintro e w1 ⟨⟨u, rfl, hu⟩, h1⟩
  obtain ⟨hc, hz⟩ := bcell h1
  have hsz : w.heap.size + 1 < w1.heap.size := by have := h1.size; simp at this; omega
  have hsz' : w.heap.size < w1.heap.size := by omega
  obtain ⟨A2, c2, rfl, _, _, _, hlow⟩ := rd_own hu
  have hB1 : Below w.heap.size w w1 := (((Below.refl _ _).alloc (Nat.le_refl _) _).alloc (by simp) _).trans (h1.mono (by simp; omega))
  have HU := Lib.hid hu
  have HLOW := Lib.hid hlow
  clear hu hlow
  go_wp2_with fail
  go_loopw [13] (fun i wr => ∃ k : Nat, k ≤ x.snaps.length ∧ i = .int .i64 k ∧ CopyRel w w.heap.size w1.heap.size w1.heap.size (.slice A2 x.now.length c2) x k wr) (fun i _ => x.snaps.length - (intOf i).toNat)
  case atStart =>
    refine ⟨0, Nat.zero_le _, rfl, ((Blk.new' (by simp)).same h1).alloc _, .slice none 0 0, [], Blk.new w1 _ _, World.ownsRow_nil _ _ _ _, fun j u y h => by simp at h, fun u hu => by simp at hu, ?_, ?_, hB1.alloc hB1.size _⟩
    · exact (ownsRow_base HU.out (by simp; omega)).alloc _
    · intro g hg; exact (HLOW.out g hg).2
  case round =>
    obtain ⟨k, hk, rfl, hres, svk, vs, hblk, hown, heach, hfrom, hnow, hnlt, hbel⟩ := hrel
    have HRES := Lib.hid hres
    have hr0 := hres.cell 0
    have hr1 := hres.cell 1
    have hrz := hres.frozen
    have hrlt := hres.lt
    simp only [List.getElem?_toArray, List.getElem?_cons_zero, List.getElem?_cons_succ] at hr0 hr1
    clear hres
    have HREST := Lib.hid (And.intro heach (And.intro hfrom (And.intro hnow (And.intro hnlt hbel))))
    have hbelow := Lib.hid hbel
    have hbsz := hbel.size
    clear heach hfrom hnow hnlt
    by_cases hlt : k < x.snaps.length
    · have hlt' : (k : Int) < (x.snaps.length : Int) := by omega
      obtain ⟨g, o, p, rfl, hg, hcell, hp⟩ := rows_get hr HVL.out HVE.out hlt
      have hcw : wr.cell? ⟨g, o + k, none⟩ = some p := (hbel.cell (p := ⟨g, o + k, none⟩) hg).trans hcell
      have hb0 := hblk.cell 1
      have hbz := hblk.frozen 1
      have hblt := hblk.lt
      have hpw : IsStrs wr B p x.snaps[k] := hp.below hbel
      simp only [List.getElem?_toArray, List.getElem?_cons_zero, List.getElem?_cons_succ] at hb0
      have HOWN := Lib.hid hown
      have HBLK := Lib.hid hblk
      clear hown hblk hbel
      have HPW := Lib.hid hpw
      clear hpw
      go_wp2_with fail
      have HP := Lib.hid hp
      clear hp
      go_region_law (first
        | (go_simp; go_at_call 26; refine (cloneStrs_c _ _ _ _ (HPW.out.drewN 1)).mono ?_; rintro e w3 ⟨⟨u3, rfl, hu3⟩, h3⟩; have h3 : Below wr.heap.size wr w3 := (below_drewN (Below.refl _ _) 1).trans h3; obtain ⟨A3, c3, rfl, _, _, _, _⟩ := rd_own hu3; have hu3 : w3.ownsRow wr.heap.size 9 1 _ _ _ := hu3; have HU3 := Lib.hid hu3; clear hu3; have hb3 := (((bcell h3).1 w1.heap.size 1 (by simpa using hblt)).trans hb0); have hz3 := (((bcell h3).2 w1.heap.size 1 (by simpa using hblt)).trans hbz); have h3s := h3.size; have hb3a : ∀ o, (w3.alloc o).cell? ⟨w1.heap.size, 1, none⟩ = some svk := fun o => (((below_alloc w3 o).cell (p := ⟨w1.heap.size, 1, none⟩) (Nat.lt_of_lt_of_le hblt h3.size)).trans hb3))
        | (refine step_app _ rfl (.tmp 18) (.tmp 21) 37 rfl el_rows w.heap.size svk k vs rfl ((own_below HOWN.out h3).alloc _) (.slice (some ⟨w3.heap.size, 0, none⟩) 1 1) 1 [.slice A3 x.snaps[k].length c3] rfl ⟨rfl, .inr ⟨_, _, rfl, ?_⟩⟩ ?_ ?_ ?_ ?_ ?_
           · intro j v hj
             have hj0 : j = 0 := by (rcases j with _ | j <;> simp at hj ⊢)
             subst hj0
             simp at hj
             subst hj
             exact (Blk.new w3 _ _).cell 0
           · (intro v hv; rw [List.mem_singleton] at hv; subst hv; rfl)
           · (unfold maxLen; omega)
           · omega
           · (simp; have : wr.heap.size ≤ w3.heap.size := h3s; omega)
           intro v4 w4 h4 hg4 _
           have hn4 := copy_next hsz HRES.out HBLK.out HOWN.out (List.getElem?_eq_getElem hlt) HREST.out h3 HU3.out HP.out.len HP.out.each h4 hg4
           have hB4 := copy_cell HBLK.out HOWN.out h3 hg4
           have hb4 := hB4.cell 1
           have hz4 := hB4.frozen 1
           simp only [List.getElem?_toArray, List.getElem?_cons_zero, List.getElem?_cons_succ] at hb4
           obtain ⟨A4, c4, rfl, _, _, _, _⟩ := rd_own h4
           have HN4 := Lib.hid hn4
           clear hn4 h4 hg4 hB4))
      all_goals (go_wp2; go_roundw)
      all_goals first
        | exact ⟨k + 1, by omega, rfl, HN4.out⟩
        | (simp [intOf]; omega)
    · have hk' : k = x.snaps.length := by omega
      subst hk'
      have hb0 := hblk.cell 0
      have hb1 := hblk.cell 1
      have hbz := hblk.frozen
      have hblt := hblk.lt
      simp only [List.getElem?_toArray, List.getElem?_cons_zero, List.getElem?_cons_succ] at hb0 hb1
      obtain ⟨A4, c4, rfl, _, _, _, _⟩ := rd_own hown
      have HOWN := Lib.hid hown
      have HBLK := Lib.hid hblk
      have HL := Lib.hid hl
      clear hown hblk hl
      have hne : w1.heap.size ≠ w.heap.size + 1 := by omega
      have hq1 := HRES.out.set_ 0 (.slice A2 x.now.length c2)
      have hq2 := hq1.set_ 1 (.slice A4 x.snaps.length c4)
      have u0 := hq2.cell 0
      have u1 := hq2.cell 1
      simp at u0 u1
      have HV : OwnVol wr w.heap.size (.slice A2 x.now.length c2) (.slice A4 x.snaps.length c4) x :=
        ⟨HREST.out.2.2.1, hv.now.len, hv.now.each, HL.out, vs, w1.heap.size, HOWN.out, HREST.out.1, HREST.out.2.2.2.1, HREST.out.2.1⟩
      have HV2 := Lib.hid ((HV.set_ (i := 0) HRES.out (by decide) (by decide) (.slice A2 x.now.length c2)).set_ (i := 1) hq1 (by decide) (by decide) (.slice A4 x.snaps.length c4))
      clear HV hq1 hq2
      go_wp2
      refine bodyPost_ret (v := .agg #[.slice A2 x.now.length c2, .slice A4 x.snaps.length c4]) (by simp [results, Tryd.results65, go_sem, u0, u1]) rfl ?_
      exact ⟨⟨_, _, rfl, HV2.out⟩, (hbelow.out.setCell (p := ⟨w.heap.size + 1, 0, none⟩) (by simp) _).setCell (p := ⟨w.heap.size + 1, 1, none⟩) (by simp) _⟩
theorem copy_far {w wr w3 w4 : World} {bo k q : Nat} {sv v4 : Value} {vs : List Value} {o : Obj} {cs : Array Value} (hq : Blk wr q 39 cs) (hne : bo ≠ q)
    (hown : wr.ownsRow w.heap.size 36 1 sv k vs)
    (h3 : Below wr.heap.size wr w3) (hg : (w3.alloc o).grownBy w4 sv.ownBlock) : Blk (w4.setCell ⟨bo, 1, none⟩ v4) q 39 cs := by
  have h3s := h3.size
  have hblt := hq.lt
  have h3a : (w3.alloc o).heap.size = w3.heap.size + 1 := by simp
  have h3b : Below wr.heap.size wr (w3.alloc o) := h3.alloc h3s o
  have hqA : Blk (w3.alloc o) q 39 cs := hq.same h3b
  refine Blk.far ((hg.block q (by omega) fun hg' => ?_).trans hqA) (fun e => hne e.symm) v4
  obtain ⟨C', fz', hh'⟩ := own_kind (own_below hown h3b) hg'.symm
  have := hqA
  unfold Blk at this
  rw [hh'] at this
  cases this

end Go.Proofs.YtfpiembhlgcelaaDoor
/- Texts, rows of texts and volumes, opened with the bounds of the reach. -/
namespace Go.Proofs.YtfpiembhlgcelaaDoor
open Go.RowKit Go.ChangeShapes Go.WideShapes Go.ChangeAt
set_option maxHeartbeats 400000
set_option maxRecDepth 100000

def IsVolV (w : World) (v : Value) (x : Scu.Volume) : Prop := ∃ nv sv, v = .agg #[nv, sv] ∧ IsVolume w w.heap.size nv sv x

theorem weightsAll_mem {H : Type} {P : Program} {e : TypeId} {d : DataW H} {k : Nat} (hk : k ∈ d.weights P e) : ∀ {ds : List (DataW H)}, d ∈ ds → k ∈ DataW.weightsAll P e ds
  | [], h => by cases h
  | d0 :: ds, h => by
    simp only [DataW.weightsAll, List.mem_append]
    rcases List.mem_cons.1 h with rfl | h
    · exact .inl hk
    · exact .inr (weightsAll_mem hk h)
theorem bytes_string : Tryd.prog.bytesOf 9 = 16 := by kernel_rfl
theorem bytes_strs : Tryd.prog.bytesOf 36 = 24 := by kernel_rfl

theorem cells_rows : Tryd.prog.cellsOf 37 = 1 := by kernel_rfl
section
variable {H : Type} {enc : TypeId × Value → H} {w : World} {base : Nat} {spare : Nat → Bool} {held : Bool} {n : Nat}
theorem trod_strs {v : Value} {x : DataW H × List MemPlace} (h : DataW.trod enc Tryd.prog w base spare held n 36 [v] = some x) (hw : ∀ k ∈ x.1.weights Tryd.prog 36, k ≤ reachBytes) :
    ∃ xs, IsStrs w w.heap.size v xs := by
  have hlt := DataW.trod_lt n _ _ _ h
  rcases open_strings Tryd.underlying36 Tryd.underlying9 cells_string h with ⟨e, rfl⟩ | ⟨a, len, cap, ss, e, hb, hl, hm, hlen, rfl, hcell, _⟩
  · simp at e; subst e; exact ⟨[], IsStrs.nil_⟩
  · simp only [List.cons.injEq, and_true] at e
    subst e
    have hle : len ≤ ss.length := by rw [hlen]; split <;> omega
    have hwt : ∀ k ∈ DataW.weights Tryd.prog 36 (DataW.slice (H := H) (strs (ss.take len)) (strs (ss.drop len))), k ≤ reachBytes := hw
    simp only [DataW.weights, Tryd.underlying36, List.mem_cons, List.mem_append, bytes_string] at hwt
    have hwl := hwt _ (.inl rfl)
    simp only [strs, List.length_map, List.length_take, List.length_drop] at hwl
    have hres : (ss.take len).length = len := by simp; omega
    refine ⟨ss.take len, ⟨some a, cap, by rw [hres], by omega, ?_⟩, ?_, ?_⟩
    · rcases Nat.eq_zero_or_pos len with h0 | h0
      · subst h0
        exact .inl (by simp)
      · have hc0 := hcell 0 (by omega)
        obtain ⟨b, o, spot⟩ := a
        have hspot : spot = none := by simpa [Addr.add] using World.cell?_spot hc0
        subst hspot
        have hbl : b < w.heap.size := by
          rcases Nat.lt_or_ge b w.heap.size with h | h
          · exact h
          · simp [World.cell?, Addr.add, Array.getElem?_eq_none h] at hc0
        refine .inr ⟨b, o, rfl, hbl, .inl hbl, fun j u hj => ?_⟩
        have hj' : j < len := by
          rcases Nat.lt_or_ge j len with h | h
          · exact h
          · rw [List.getElem?_eq_none (by simp; omega)] at hj; cases hj
        have := hcell j (by omega)
        have e2 : (⟨b, o, none⟩ : Addr).add j = ⟨b, o + j, none⟩ := by unfold Addr.add; split <;> simp_all
        rw [e2] at this
        rw [this]
        rw [List.getElem?_map, List.getElem?_take_of_lt hj', List.getElem?_eq_getElem (by omega)] at hj
        simp only [Option.map_some, Option.some.injEq] at hj
        subst hj
        simp [List.getD, List.getElem?_eq_getElem (show j < ss.length by omega)]
    · rw [hres]
      have : reachBytes = R47 := rfl
      omega
    · intro s hs
      have : reachBytes = R47 := rfl
      rw [← this]
      refine hwt s.size (.inr (.inl (weightsAll_mem (d := .lit (.string s.data.toList)) ?_ ?_)))
      · unfold DataW.weights
        exact List.mem_singleton.2 (show s.data.size = s.data.toList.length from Array.length_toList.symm)
      · exact List.mem_map.2 ⟨s, hs, rfl⟩
theorem trod_rows {v : Value} {x : DataW H × List MemPlace} (h : DataW.trod enc Tryd.prog w base spare held n 37 [v] = some x) (hw : ∀ k ∈ x.1.weights Tryd.prog 37, k ≤ reachBytes) :
    ∃ xss, IsRows w w.heap.size v xss := by
  rcases Go.Deep.open_slice1 Tryd.underlying37 cells_strs h with ⟨e, rfl⟩ | ⟨a, len, cap, m, n', V, D, Pl, e, hb, hl, hm, hmm, rfl, hx⟩
  · simp at e; subst e; exact ⟨[], ⟨none, 0, [], rfl, Nat.le_refl _, Rd.nil, rfl, fun j u y hu => by simp at hu⟩, by simp [R47]⟩
  · simp only [List.cons.injEq, and_true] at e
    subst e
    have hle : len ≤ m := by rw [hmm]; split <;> omega
    have hwt : ∀ k ∈ DataW.weights Tryd.prog 37 (DataW.slice ((List.range len).map D) ((List.range (m - len)).map fun j => D (len + j))), k ≤ reachBytes := hw
    simp only [DataW.weights, Tryd.underlying37, List.mem_cons, List.mem_append, bytes_strs] at hwt
    have hwl := hwt _ (.inl rfl)
    simp only [List.length_map, List.length_range] at hwl
    have hall : ∀ i, ∃ xs, i < len → IsStrs w w.heap.size (V i) xs := by
      intro i
      by_cases hi : i < len
      · obtain ⟨xs, hxs⟩ := trod_strs (hx i (by omega)).2 (fun k hk => hwt k (.inr (.inl (weightsAll_mem hk (List.mem_map.2 ⟨i, by simpa using hi, rfl⟩)))))
        exact ⟨xs, fun _ => hxs⟩
      · exact ⟨[], fun h => absurd h hi⟩
    obtain ⟨f, hf⟩ := Classical.axiomOfChoice hall
    refine ⟨(List.range len).map f, ⟨some a, cap, (List.range len).map V, by simp, by simpa using hl, ?_, by simp, ?_⟩, ?_⟩
    · rcases Nat.eq_zero_or_pos len with h0 | h0
      · subst h0
        exact .inl (by simp)
      · have hc0 := (hx 0 (by omega)).1
        obtain ⟨b, o, spot⟩ := a
        have hspot : spot = none := by simpa [Addr.add] using World.cell?_spot hc0
        subst hspot
        have hbl : b < w.heap.size := by
          rcases Nat.lt_or_ge b w.heap.size with h | h
          · exact h
          · simp [World.cell?, Addr.add, Array.getElem?_eq_none h] at hc0
        refine .inr ⟨b, o, rfl, hbl, .inl hbl, fun j u hj => ?_⟩
        have hj' : j < len := by
          rcases Nat.lt_or_ge j len with h | h
          · exact h
          · rw [List.getElem?_eq_none (by simp; omega)] at hj; cases hj
        have := (hx j (by omega)).1
        have e2 : (⟨b, o, none⟩ : Addr).add j = ⟨b, o + j, none⟩ := by unfold Addr.add; split <;> simp_all
        rw [e2] at this
        rw [this]
        simp [hj'] at hj
        rw [hj]
    · intro j u y hu hy
      have hj' : j < len := by
        rcases Nat.lt_or_ge j len with h | h
        · exact h
        · rw [List.getElem?_eq_none (by simp; omega)] at hu; cases hu
      simp [hj'] at hu hy
      subst hu hy
      exact hf j hj'
    · have : reachBytes = R47 := rfl
      simp
      omega
theorem cells_volume : Tryd.prog.cellsOf 39 = 2 := by kernel_rfl
theorem trod_volume {cs : List Value} {x : DataW H × List MemPlace} (h : DataW.trod enc Tryd.prog w base spare held n 39 cs = some x) (hw : ∀ k ∈ x.1.weights Tryd.prog 39, k ≤ reachBytes) :
    ∃ nv sv y, cs = [nv, sv] ∧ IsVolume w w.heap.size nv sv y := by
  obtain ⟨xs, m, _, hxe, hl, hxl, hf⟩ := DataW.trod_struct Tryd.underlying39 h
  rw [cells_volume] at hl
  match cs, hl with
  | [c0, c1], _ =>
    have hxl2 : xs.length = 2 := hxl
    match xs, hxl2 with
    | [z0, z1], _ =>
      subst hxe
      have hwt : ∀ k ∈ DataW.weights Tryd.prog 39 (DataW.agg [z0.1, z1.1]), k ≤ reachBytes := hw
      simp only [DataW.weights, Tryd.underlying39, DataW.weightsEach, List.map_cons, List.map_nil, List.mem_append] at hwt
      have h0 := hf 0 _ rfl
      have h1 := hf 1 _ rfl
      simp [cells_strs, cells_rows] at h0 h1
      obtain ⟨xs0, h0'⟩ := trod_strs h0 (fun k hk => hwt k (.inl hk))
      obtain ⟨xs1, h1'⟩ := trod_rows h1 (fun k hk => hwt k (.inr (.inl hk)))
      exact ⟨c0, c1, ⟨xs0, xs1⟩, rfl, h0', h1'⟩
theorem open_Volume {v : Value} {d : DataW H} {p : List MemPlace} {b0 : Nat} (hv : Value.okWide Tryd.prog w .any b0 39 v) (h : DataW.Trod enc Tryd.prog w base spare held 39 v d p)
    (hw : ∀ k ∈ d.weights Tryd.prog 39, k ≤ reachBytes) : ∃ nv sv y, v = .agg #[nv, sv] ∧ IsVolume w w.heap.size nv sv y := by
  obtain ⟨cs, rfl, _⟩ := okWide_struct Tryd.underlying39 hv
  obtain ⟨fuel, hf⟩ := h
  obtain ⟨nv, sv, y, e, hy⟩ := trod_volume hf hw
  refine ⟨nv, sv, y, ?_, hy⟩
  have : cs = #[nv, sv] := by
    apply Array.toList_inj.1
    simpa [Value.cells] using e
  rw [this]
theorem openS_Volume {v : Value} {d : DataW H} {p : List MemPlace} {b0 : Nat} (hv : Value.okWide Tryd.prog w .any b0 39 v) (h : DataW.Trod enc Tryd.prog w base spare held 39 v d p)
    (hw : ∀ k ∈ d.weights Tryd.prog 39, k ≤ reachBytes) : ∃ y, IsVolV w v y := by
  obtain ⟨nv, sv, y, h1, h2⟩ := open_Volume hv h hw
  exact ⟨y, nv, sv, h1, h2⟩
end
end Go.Proofs.YtfpiembhlgcelaaDoor
/- Walks: may a volume be? The reference's; the law VolumeChecks. -/
namespace Go.Proofs.YtfpiembhlgcelaaDoor
open Go.RowKit
set_option maxHeartbeats 400000
set_option maxRecDepth 100000

def okTo (x : Scu.Volume) (k : Nat) : Bool := Scu.sectorsOk x.now && decide (x.snaps.length ≤ 3) && (x.snaps.take k).all Scu.sectorsOk
theorem okTo_all (x : Scu.Volume) (k : Nat) (h : x.snaps.length ≤ k) : okTo x k = Scu.volOk x := by
  unfold okTo Scu.volOk
  rw [List.take_of_length_le h]
theorem okTo_succ (x : Scu.Volume) (k : Nat) (h : k < x.snaps.length) : okTo x (k + 1) = (okTo x k && Scu.sectorsOk x.snaps[k]) := by
  unfold okTo
  rw [List.take_succ_eq_append_getElem h, List.all_append]
  simp only [List.all_cons, List.all_nil, Bool.and_true, Bool.and_assoc]
theorem okTo_zero (x : Scu.Volume) : okTo x 0 = (Scu.sectorsOk x.now && decide ((x.snaps.length : Int) ≤ 3)) := by
  unfold okTo
  have : decide (x.snaps.length ≤ 3) = decide ((x.snaps.length : Int) ≤ 3) := by rw [Bool.eq_iff_iff]; simp; omega
  rw [this]
  simp
theorem IsVolume.at_ {w w' : World} {B : Nat} {nv sv : Value} {x : Scu.Volume} (h : IsVolume w B nv sv x) (hb : Below w.heap.size w w') : IsVolume w' B nv sv x := h.below hb
end Go.Proofs.YtfpiembhlgcelaaDoor
/- Words for memory: what stays as it was; rows of things that have several cells; how such arguments are opened. -/
namespace Go.Proofs.YtfpiembhlgcelaaDoor
open Go.RowKit Go.ChangeShapes Go.WideShapes Go.ChangeAt
set_option maxHeartbeats 400000
set_option maxRecDepth 100000

/-- Old blocks below B, and those whose elements are of one of these types, are as they were. -/
structure Same (Ts : List TypeId) (B : Nat) (w w' : World) : Prop where
  size : w.heap.size ≤ w'.heap.size
  keep : ∀ g, g < w.heap.size → (g < B ∨ ∃ C fz t, t ∈ Ts ∧ w.heap[g]? = some (.cells C t fz)) → w'.heap[g]? = w.heap[g]?
section
variable {Ts Ts' : List TypeId} {B B' : Nat} {w w' w2 : World}
theorem Same.refl (Ts : List TypeId) (B : Nat) (w : World) : Same Ts B w w := ⟨Nat.le_refl _, fun _ _ _ => rfl⟩
theorem Same.trans (h : Same Ts B w w') (k : Same Ts B w' w2) : Same Ts B w w2 :=
  ⟨Nat.le_trans h.size k.size, fun g hg hh => by
    have e := h.keep g hg hh
    rw [← e]
    refine k.keep g (Nat.lt_of_lt_of_le hg h.size) ?_
    rw [e]; exact hh⟩
theorem Same.mono (h : Same Ts B w w') (hT : ∀ t ∈ Ts', t ∈ Ts) (hB : B' ≤ B) : Same Ts' B' w w' :=
  ⟨h.size, fun g hg hh => h.keep g hg (hh.imp (fun h => Nat.lt_of_lt_of_le h hB) fun ⟨C, fz, t, ht, e⟩ => ⟨C, fz, t, hT t ht, e⟩)⟩
theorem Same.below (h : Below w.heap.size w w') : Same Ts B w w' := ⟨h.size, fun g hg _ => h.block g hg⟩
theorem Same.drew (w : World) : Same Ts B w w.drew := ⟨Nat.le_refl _, fun _ _ _ => rfl⟩
theorem Same.drewN (w : World) (n : Nat) : Same Ts B w (w.drewN n) := ⟨Nat.le_refl _, fun _ _ _ => rfl⟩
theorem Same.alloc (w : World) (o : Obj) : Same Ts B w (w.alloc o) := ⟨by simp, fun g hg _ => Below.heap_alloc w o g hg⟩
theorem Same.setCell {p : Addr} {C : Array Value} {t' : TypeId} {fz : Nat × Nat} (hp : w.heap[p.block]? = some (.cells C t' fz)) (hB : B ≤ p.block) (ht : t' ∉ Ts) (u : Value) : Same Ts B w (w.setCell p u) :=
  ⟨by simp [World.setCell], fun g _ hh => Below.heap_setCell w p u g (by
    rintro rfl
    rcases hh with hh | ⟨C', fz', t, ht', hh⟩
    · omega
    · rw [hp] at hh; cases hh; exact ht ht')⟩
theorem Same.set_ {g : Nat} {cs : Array Value} {t' : TypeId} (hp : Blk w g t' cs) (hB : B ≤ g) (ht : t' ∉ Ts) (i : Nat) (u : Value) : Same Ts B w (w.setCell ⟨g, i, none⟩ u) := Same.setCell (p := ⟨g, i, none⟩) (C := cs) (fz := (0, 0)) hp hB ht u
theorem Same.grown {row : Option Nat} (hg : w.grownBy w' row) (hr : ∀ g, row = some g → B ≤ g ∧ ∃ C fz t', t' ∉ Ts ∧ w.heap[g]? = some (.cells C t' fz)) : Same Ts B w w' :=
  ⟨hg.size, fun g hlt hh => hg.block g hlt fun e => by
    obtain ⟨h1, C, fz, t', h2, h3⟩ := hr g e.symm
    rcases hh with hh | ⟨C', fz', t, ht', hh⟩
    · omega
    · rw [h3] at hh; cases hh; exact h2 ht'⟩
theorem Same.own {base : Nat} {e : TypeId} {size n : Nat} {v : Value} {xs : List Value} (h : w.ownsRow base e size v n xs) (hg : w.grownBy w' v.ownBlock) (hB : B ≤ base) (ht : e ∉ Ts) : Same Ts B w w' :=
  Same.grown hg fun g hv => by
    obtain ⟨C, fz, hh⟩ := own_kind h hv
    have := (h.lt g hv).1
    exact ⟨by omega, C, fz, e, ht, hh⟩
theorem Rd.same {t : TypeId} {A : Option Addr} {cs : List Value} (h : Rd w B t A cs) (ht : t ∈ Ts) (hs : Same Ts B w w') : Rd w' B t A cs :=
  h.keep hs.size fun g hg hh => hs.keep g hg (hh.imp id fun ⟨C, fz, e⟩ => ⟨C, fz, t, ht, e⟩)
theorem IsStrs.same {v : Value} {xs : List Scu.Str} (h : IsStrs w B v xs) (ht : 9 ∈ Ts) (hs : Same Ts B w w') : IsStrs w' B v xs :=
  h.keep hs.size fun g hg hh => hs.keep g hg (hh.imp id fun ⟨C, fz, e⟩ => ⟨C, fz, _, ht, e⟩)
end

/-- A row of things of one cell. -/
structure IsOnes {α : Type} (t : TypeId) (bytes : Nat) (f : α → Value) (w : World) (B : Nat) (v : Value) (xs : List α) : Prop where
  ex : ∃ A c, v = .slice A xs.length c ∧ xs.length ≤ c ∧ Rd w B t A (xs.map f)
  len : xs.length * bytes ≤ R47
section
variable {α : Type} {t : TypeId} {bytes : Nat} {f : α → Value} {w w' : World} {B B' : Nat} {v : Value} {xs : List α} {Ts : List TypeId}
theorem IsOnes.same (h : IsOnes t bytes f w B v xs) (ht : t ∈ Ts) (hs : Same Ts B w w') : IsOnes t bytes f w' B v xs := ⟨let ⟨A, c, h1, h2, h3⟩ := h.ex; ⟨A, c, h1, h2, h3.same ht hs⟩, h.len⟩
theorem IsOnes.below (h : IsOnes t bytes f w B v xs) (hb : Below w.heap.size w w') : IsOnes t bytes f w' B v xs := h.same (Ts := [t]) (by simp) (Same.below hb)
theorem IsOnes.drewN (h : IsOnes t bytes f w B v xs) (n : Nat) : IsOnes t bytes f (w.drewN n) B v xs := ⟨h.ex, h.len⟩
theorem IsOnes.alloc (h : IsOnes t bytes f w B v xs) (o : Obj) : IsOnes t bytes f (w.alloc o) B v xs := h.same (Ts := [t]) (by simp) (Same.alloc w o)
theorem IsOnes.mono (h : IsOnes t bytes f w B v xs) (hB : B ≤ B') : IsOnes t bytes f w B' v xs := ⟨let ⟨A, c, h1, h2, h3⟩ := h.ex; ⟨A, c, h1, h2, h3.mono hB⟩, h.len⟩
theorem IsOnes.form (h : IsOnes t bytes f w B v xs) : ∃ A n c, v = .slice A n c := by
  obtain ⟨A, c, e, _⟩ := h.ex
  exact ⟨A, _, c, e⟩
theorem ones_get {A : Option Addr} {k : Nat} (h : Rd w B t A (xs.map f)) (hk : k < xs.length) : ∃ g o, A = some ⟨g, o, none⟩ ∧ g < w.heap.size ∧ w.cell? ⟨g, o + k, none⟩ = some (f xs[k]) := h.get (by simp [hk])
end

/-- A row of things of m cells: El says what the cells of one tell. -/
structure IsRow {α : Type} (t : TypeId) (m bytes : Nat) (El : World → Nat → List Value → α → Prop) (w : World) (B : Nat) (v : Value) (xs : List α) : Prop where
  ex : ∃ (A : Option Addr) (c : Nat) (css : List (List Value)), v = .slice A xs.length c ∧ xs.length ≤ c ∧ css.length = xs.length ∧ (∀ cs ∈ css, cs.length = m) ∧ Rd w B t A css.flatten ∧
    ∀ (j : Nat) (cs : List Value) (x : α), css[j]? = some cs → xs[j]? = some x → El w B cs x
  len : xs.length * bytes ≤ R47
theorem flatten_get {m : Nat} : ∀ {css : List (List Value)} (_ : ∀ cs ∈ css, cs.length = m) {k : Nat} {cs : List Value}, css[k]? = some cs → ∀ j, j < m → css.flatten[k * m + j]? = cs[j]?
  | [], _, k, cs, hk, _, _ => by simp at hk
  | c :: css, h, 0, cs, hk, j, hj => by
    simp only [List.getElem?_cons_zero, Option.some.injEq] at hk
    subst hk
    rw [List.flatten_cons, Nat.zero_mul, Nat.zero_add, List.getElem?_append_left (by rw [h c List.mem_cons_self]; exact hj)]
  | c :: css, h, k + 1, cs, hk, j, hj => by
    have hc := h c List.mem_cons_self
    rw [List.flatten_cons, List.getElem?_append_right (by rw [hc, Nat.succ_mul]; omega), hc, show (k + 1) * m + j - m = k * m + j from by rw [Nat.succ_mul]; omega]
    exact flatten_get (fun x hx => h x (List.mem_cons_of_mem _ hx)) (by simpa using hk) j hj
theorem flatten_at {m : Nat} : ∀ {css : List (List Value)} (_ : ∀ cs ∈ css, cs.length = m) {j : Nat} {u : Value}, css.flatten[j]? = some u → ∃ k i cs, css[k]? = some cs ∧ cs[i]? = some u ∧ i < m ∧ j = k * m + i
  | [], _, j, u, hj => by simp at hj
  | c :: css, h, j, u, hj => by
    have hc := h c List.mem_cons_self
    rw [List.flatten_cons] at hj
    rcases Nat.lt_or_ge j m with hlt | hge
    · rw [List.getElem?_append_left (by omega)] at hj
      exact ⟨0, j, c, rfl, hj, hlt, by omega⟩
    · rw [List.getElem?_append_right (by omega), hc] at hj
      obtain ⟨k, i, cs, h1, h2, h3, h4⟩ := flatten_at (fun x hx => h x (List.mem_cons_of_mem _ hx)) hj
      exact ⟨k + 1, i, cs, by simpa using h1, h2, h3, by rw [Nat.succ_mul]; omega⟩
theorem flatten_len {m : Nat} : ∀ {css : List (List Value)} (_ : ∀ cs ∈ css, cs.length = m), css.flatten.length = css.length * m
  | [], _ => by simp
  | c :: css, h => by
    rw [List.flatten_cons, List.length_append, h c List.mem_cons_self, flatten_len (fun x hx => h x (List.mem_cons_of_mem _ hx)), List.length_cons, Nat.succ_mul]
    omega
section
variable {α : Type} {t : TypeId} {m bytes : Nat} {El : World → Nat → List Value → α → Prop} {w w' : World} {B B' : Nat} {v : Value} {xs : List α} {Ts : List TypeId}
theorem IsRow.same (h : IsRow t m bytes El w B v xs) (ht : t ∈ Ts) (hs : Same Ts B w w') (hel : ∀ cs x, El w B cs x → El w' B cs x) : IsRow t m bytes El w' B v xs :=
  ⟨let ⟨A, c, css, h1, h2, h3, h4, h5, h6⟩ := h.ex; ⟨A, c, css, h1, h2, h3, h4, h5.same ht hs, fun j cs x hj hx => hel cs x (h6 j cs x hj hx)⟩, h.len⟩
theorem IsRow.mono (h : IsRow t m bytes El w B v xs) (hB : B ≤ B') (hel : ∀ cs x, El w B cs x → El w B' cs x) : IsRow t m bytes El w B' v xs :=
  ⟨let ⟨A, c, css, h1, h2, h3, h4, h5, h6⟩ := h.ex; ⟨A, c, css, h1, h2, h3, h4, h5.mono hB, fun j cs x hj hx => hel cs x (h6 j cs x hj hx)⟩, h.len⟩
theorem IsRow.form (h : IsRow t m bytes El w B v xs) : ∃ A n c, v = .slice A n c := by
  obtain ⟨A, c, _, e, _⟩ := h.ex
  exact ⟨A, _, c, e⟩
theorem IsRow.nil_ : IsRow t m bytes El w B (.slice none 0 0) [] := ⟨⟨none, 0, [], rfl, Nat.le_refl _, rfl, (fun cs h => by simp at h), Rd.nil, (fun j cs x h => by simp at h)⟩, by simp [R47]⟩
/-- one of a row -/
theorem row_get {A : Option Addr} {css : List (List Value)} {k : Nat} (hl : css.length = xs.length) (hm : ∀ cs ∈ css, cs.length = m) (hpos : 0 < m) (h : Rd w B t A css.flatten)
    (h6 : ∀ (j : Nat) (cs : List Value) (x : α), css[j]? = some cs → xs[j]? = some x → El w B cs x) (hk : k < xs.length) :
    ∃ g o cs, A = some ⟨g, o, none⟩ ∧ g < w.heap.size ∧ cs.length = m ∧ (∀ j u, cs[j]? = some u → w.cell? ⟨g, o + (k * m + j), none⟩ = some u) ∧ El w B cs xs[k] := by
  have hkc : k < css.length := by omega
  have hcs := List.getElem?_eq_getElem hkc
  have hml := hm _ (List.getElem_mem hkc)
  have h0 : css[k][0]? = some (css[k][0]'(by omega)) := List.getElem?_eq_getElem (by omega)
  obtain ⟨g, o, hA, hg, _⟩ := h.get ((flatten_get hm hcs 0 hpos).trans h0)
  refine ⟨g, o, css[k], hA, hg, hml, fun j u hj => ?_, h6 k _ _ hcs (List.getElem?_eq_getElem hk)⟩
  have hjm : j < m := by
    rcases Nat.lt_or_ge j m with h | h
    · exact h
    · rw [List.getElem?_eq_none (by omega)] at hj; cases hj
  obtain ⟨g', o', hA', _, hc⟩ := h.get ((flatten_get hm hcs j hjm).trans hj)
  rw [hA] at hA'
  simp only [Option.some.injEq, Addr.mk.injEq, and_true] at hA'
  obtain ⟨rfl, rfl⟩ := hA'
  exact hc
end

/- how a row that came in is opened -/
section
variable {H : Type} {enc : TypeId × Value → H} {w : World} {base : Nat} {spare : Nat → Bool} {held : Bool} {n : Nat}
theorem trod_row {α : Type} (d0 : α) {t e : TypeId} {m bytes : Nat} {El : World → Nat → List Value → α → Prop} (ht : Tryd.prog.underlying t = some (.slice e)) (hm : Tryd.prog.cellsOf e = m) (hby : Tryd.prog.bytesOf e = bytes) (hpos : 0 < m)
    (hel : ∀ {n : Nat} {cs : List Value} {x : DataW H × List MemPlace}, DataW.trod enc Tryd.prog w base spare held n e cs = some x → (∀ k ∈ x.1.weights Tryd.prog e, k ≤ reachBytes) → ∃ a, El w w.heap.size cs a)
    {v : Value} {x : DataW H × List MemPlace} (h : DataW.trod enc Tryd.prog w base spare held n t [v] = some x) (hw : ∀ k ∈ x.1.weights Tryd.prog t, k ≤ reachBytes) : ∃ xs, IsRow e m bytes El w w.heap.size v xs := by
  rcases Go.Deep.open_slice ht h with ⟨e0, rfl⟩ | ⟨a, len, cap, mm, n', D, Pl, e0, hb, hl, hmx, hmm, rfl, hx⟩
  · simp at e0; subst e0; exact ⟨[], IsRow.nil_⟩
  · simp only [List.cons.injEq, and_true] at e0
    subst e0
    have hle : len ≤ mm := by rw [hmm]; split <;> omega
    have hwt : ∀ k ∈ DataW.weights Tryd.prog t (DataW.slice ((List.range len).map D) ((List.range (mm - len)).map fun j => D (len + j))), k ≤ reachBytes := hw
    simp only [DataW.weights, ht, List.mem_cons, List.mem_append, hby] at hwt
    have hwl := hwt _ (.inl rfl)
    simp only [List.length_map, List.length_range] at hwl
    have hall : ∀ i, ∃ p : List Value × α, i < len → w.cells? base (a.add (i * m)) m = some p.1 ∧ El w w.heap.size p.1 p.2 := by
      intro i
      by_cases hi : i < len
      · obtain ⟨cs, hc, htr⟩ := hx i (by omega)
        obtain ⟨y, hy⟩ := hel htr (fun k hk => hwt k (.inr (.inl (weightsAll_mem hk (List.mem_map.2 ⟨i, by simpa using hi, rfl⟩)))))
        exact ⟨(cs, y), fun _ => ⟨by rw [hm] at hc; exact hc, hy⟩⟩
      · exact ⟨([], d0), fun h => absurd h hi⟩
    obtain ⟨f, hf⟩ := Classical.axiomOfChoice hall
    have hlen : ∀ cs ∈ (List.range len).map (fun i => (f i).1), cs.length = m := by
      intro cs hcs
      obtain ⟨i, hi, rfl⟩ := List.mem_map.1 hcs
      exact (World.cells?_some (hf i (by simpa using hi)).1).2.1
    refine ⟨(List.range len).map (fun i => (f i).2), ⟨some a, cap, (List.range len).map (fun i => (f i).1), by simp, by simpa using hl, by simp, hlen, ?_, ?_⟩, ?_⟩
    · rcases Nat.eq_zero_or_pos len with h0 | h0
      · subst h0
        exact .inl (by simp)
      · obtain ⟨_, hcl, hat⟩ := World.cells?_some (hf 0 h0).1
        have hc0 : w.cell? ((a.add (0 * m)).add 0) = some ((f 0).1[0]'(by omega)) := by rw [hat 0 hpos, List.getElem?_eq_getElem (by omega)]
        rw [Nat.zero_mul, Go.Deep.add_add] at hc0
        obtain ⟨b, o, spot⟩ := a
        have hspot : spot = none := by simpa [Addr.add] using World.cell?_spot hc0
        subst hspot
        have hbl : b < w.heap.size := by
          rcases Nat.lt_or_ge b w.heap.size with h | h
          · exact h
          · simp [World.cell?, Addr.add, Array.getElem?_eq_none h] at hc0
        refine .inr ⟨b, o, rfl, hbl, .inl hbl, fun j u hj => ?_⟩
        obtain ⟨k, i, cs, h1, h2, h3, rfl⟩ := flatten_at hlen hj
        have hk' : k < len := by
          rcases Nat.lt_or_ge k len with h | h
          · exact h
          · rw [List.getElem?_eq_none (by simp; omega)] at h1; cases h1
        simp [hk'] at h1
        subst h1
        obtain ⟨_, _, hatk⟩ := World.cells?_some (hf k hk').1
        have := hatk i h3
        rw [Go.Deep.add_add] at this
        have e2 : (⟨b, o, none⟩ : Addr).add (k * m + i) = ⟨b, o + (k * m + i), none⟩ := by unfold Addr.add; split <;> simp_all
        rw [e2] at this
        rw [this, h2]
    · intro j cs y hu hy
      have hj' : j < len := by
        rcases Nat.lt_or_ge j len with h | h
        · exact h
        · rw [List.getElem?_eq_none (by simp; omega)] at hu; cases hu
      simp [hj'] at hu hy
      subst hu hy
      exact (hf j hj').2
    · have hrb : reachBytes = R47 := rfl
      simp only [List.length_map, List.length_range]
      rw [← hrb]
      refine Nat.le_trans ?_ hwl
      exact Nat.mul_le_mul_right _ (by omega)
theorem trod_ones {α : Type} (d0 : α) {t e : TypeId} {bytes : Nat} {f : α → Value} (ht : Tryd.prog.underlying t = some (.slice e)) (hm : Tryd.prog.cellsOf e = 1) (hby : Tryd.prog.bytesOf e = bytes)
    (hel : ∀ {n : Nat} {cs : List Value} {x : DataW H × List MemPlace}, DataW.trod enc Tryd.prog w base spare held n e cs = some x → ∃ a, cs = [f a])
    {v : Value} {x : DataW H × List MemPlace} (h : DataW.trod enc Tryd.prog w base spare held n t [v] = some x) (hw : ∀ k ∈ x.1.weights Tryd.prog t, k ≤ reachBytes) : ∃ xs, IsOnes e bytes f w w.heap.size v xs := by
  obtain ⟨xs, ⟨⟨A, c, css, h1, h2, h3, h4, h5, h6⟩, h7⟩⟩ := trod_row (m := 1) (bytes := bytes) (El := fun _ _ cs a => cs = [f a]) d0 ht hm hby (by omega) (fun h _ => hel h) h hw
  refine ⟨xs, ⟨A, c, h1, h2, ?_⟩, h7⟩
  have e : css.flatten = xs.map f := by
    have : css = xs.map fun a => [f a] := by
      apply List.ext_getElem (by simp [h3])
      intro j hj hj'
      have hjx : j < xs.length := by omega
      rw [List.getElem_map]
      exact h6 j _ _ (List.getElem?_eq_getElem hj) (List.getElem?_eq_getElem hjx)
    rw [this]
    clear this h6 h5 h4 h3 h2 h1 h7
    induction xs with
    | nil => rfl
    | cons y ys ih => simp [ih]
  rw [← e]
  exact h5
end
end Go.Proofs.YtfpiembhlgcelaaDoor

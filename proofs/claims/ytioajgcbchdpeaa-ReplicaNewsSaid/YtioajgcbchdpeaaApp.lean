/- Appends onto rows of the call's own, from whatever source. -/
import Derived.Test.YtioajgcbchdpeaaState
import Derived.Maps.AppendAt
import Derived.Deep.AppendLies
import Derived.Deep.RegionLaw
import Derived.RegionTactic
import Derived.OwnWalk
namespace Go.Proofs.Ytioajgcbchdpeaa
open Go.RowKit
set_option maxHeartbeats 400000
set_option maxRecDepth 100000

/-- The slice type t has elements of the type e, of so many cells and bytes. -/
def ElT (t e : TypeId) (size bytes : Nat) : Prop :=
  Try.prog.underlying t = some (.slice e) ∧ 0 < size ∧ ∃ i z, Try.prog.info? e = some i ∧ i.zero = some z ∧ i.size = size ∧ i.bytes = bytes ∧ z.cells.size = size

/-- What a slice value yields as a source: nil, or a row. -/
def Src1 (w : World) (size : Nat) (x : Value) (m : Nat) (news : List Value) : Prop :=
  news.length = m * size ∧ ((∃ c, x = .slice none 0 c ∧ m = 0) ∨ ∃ ad c, x = .slice (some ad) m c ∧ ∀ (j : Nat) (u : Value), news[j]? = some u → w.cell? (ad.add j) = some u)

theorem src_of_rd {w : World} {B : Nat} {t : TypeId} {A : Option Addr} {m c : Nat} {size : Nat} {news : List Value} (h : Rd w B t A news) (hl : news.length = m * size) (hA : A = none → m = 0) : Src1 w size (.slice A m c) m news := by
  refine ⟨hl, ?_⟩
  rcases A with _ | ad
  · have := hA rfl
    subst this
    exact .inl ⟨c, rfl, rfl⟩
  · refine .inr ⟨ad, c, rfl, fun j u hj => ?_⟩
    rcases h with h | ⟨g, o, h1, _, _, h4⟩
    · subst h; simp at hj
    · simp only [Option.some.injEq] at h1
      subst h1
      have e : (⟨g, o, none⟩ : Addr).add j = ⟨g, o + j, none⟩ := by unfold Addr.add; split <;> simp_all
      rw [e]
      exact h4 j u hj

section
variable (w : World)
theorem run_app {t e ty : TypeId} {size bytes : Nat} (hE : ElT t e size bytes) (base : Nat) (v : Value) (n : Nat) (xs : List Value) (hown : w.ownsRow base e size v n xs)
    (x : Value) (m : Nat) (news : List Value) (hx : Src1 w size x m news) (h1 : ∀ u ∈ news, u.oneCell' = true) (hmax : n + m ≤ maxLen) (hbytes : (n + m) * bytes ≤ 140737488355328) (hbase : base ≤ w.heap.size) :
    ∃ v' w', (Builtin.append_ #[t, t] ty #[v, x]).run Try.prog w = .ok v' w' ∧ w'.ownsRow base e size v' (n + m) (xs ++ news) ∧ w.grownBy w' v.ownBlock ∧ (v'.ownBlock = v.ownBlock ∨ v'.ownBlock = some w.heap.size) := by
  obtain ⟨ht, hsz, i, z, hi, hz, hs1, hs2, hzs⟩ := hE
  obtain ⟨hl, ⟨c, rfl, rfl⟩ | ⟨ad, c, rfl, hcells⟩⟩ := hx
  · have hn : news = [] := List.eq_nil_of_length_eq_zero (by simpa using hl)
    subst hn
    refine ⟨v, w, ?_, by simpa using hown, World.grownBy.refl w _, .inl rfl⟩
    rcases hown.2 with ⟨rfl, rfl⟩ | ⟨g, cap, cur, rfl, _, _, hnc, _⟩
    · simp [Builtin.append_, run_underlying ht, sizeOf, typeInfo, hi, Builtin.lenOf, Builtin.firstCells]
    · simp [Builtin.append_, run_underlying ht, sizeOf, typeInfo, hi, Builtin.lenOf, Builtin.firstCells, hnc, storeCells]
  · obtain ⟨v', w', hrun, h2, h3, _, h5⟩ := run_append_own_at (P := Try.prog) w base t ty e i z size bytes ht hi hz hs1 hs2 hzs hsz v n xs hown ad m c news hl hcells h1 hmax hbytes hbase
    exact ⟨v', w', hrun, h2, h3, h5⟩
theorem wp_app {o : Oper} {a : Act} {K : Act → World → Prop} {Q : Exit → Act → World → Prop} (s x : Operand) (t : TypeId)
    (ho : o.op = .call { callee := .builtin .append, args := #[s, x], argTypes := #[t, t] }) {e : TypeId} {size bytes : Nat} (hE : ElT t e size bytes) (base : Nat) (v : Value) (n : Nat) (xs : List Value) (hs : a.eval s = v) (hown : w.ownsRow base e size v n xs)
    (xv : Value) (m : Nat) (news : List Value) (hxv : a.eval x = xv) (hx : Src1 w size xv m news) (h1 : ∀ u ∈ news, u.oneCell' = true) (hmax : n + m ≤ maxLen) (hbytes : (n + m) * bytes ≤ 140737488355328) (hbase : base ≤ w.heap.size)
    (h : ∀ v' w', w'.ownsRow base e size v' (n + m) (xs ++ news) → w.grownBy w' v.ownBlock → (v'.ownBlock = v.ownBlock ∨ v'.ownBlock = some w.heap.size) → K (a.put o.dst v') w') : o.wp Try.prog a w K Q := by
  obtain ⟨v', w', hrun, h2, h3, h4⟩ := run_app w (ty := o.type) hE base v n xs hown xv m news hx h1 hmax hbytes hbase
  unfold Oper.wp execOp
  simp only [ho, resolve, invoke, builtin, Sem.run_bind, Sem.run_pure, Result.andThen_ok, List.map_toArray, List.map_cons, List.map_nil, hs, hxv, hrun]
  exact h v' w' h2 h3 h4
theorem list_app {ops : Array Oper} {rest : List Oper} {o : Oper} {a : Act} {Q : Exit → Act → World → Prop} (hgd : o.guard = none) (s x : Operand) (t : TypeId)
    (ho : o.op = .call { callee := .builtin .append, args := #[s, x], argTypes := #[t, t] }) {e : TypeId} {size bytes : Nat} (hE : ElT t e size bytes) (base : Nat) (v : Value) (n : Nat) (xs : List Value) (hs : a.eval s = v) (hown : w.ownsRow base e size v n xs)
    (xv : Value) (m : Nat) (news : List Value) (hxv : a.eval x = xv) (hx : Src1 w size xv m news) (h1 : ∀ u ∈ news, u.oneCell' = true) (hmax : n + m ≤ maxLen) (hbytes : (n + m) * bytes ≤ 140737488355328) (hbase : base ≤ w.heap.size)
    (h : ∀ v' w', w'.ownsRow base e size v' (n + m) (xs ++ news) → w.grownBy w' v.ownBlock → (v'.ownBlock = v.ownBlock ∨ v'.ownBlock = some w.heap.size) → wpList Try.prog ops Q rest (a.put o.dst v') w') : wpList Try.prog ops Q (o :: rest) a w :=
  wpList_plain hgd fun _ hK => wp_app w s x t ho hE base v n xs hs hown xv m news hxv hx h1 hmax hbytes hbase fun v' w' h2 h3 h4 => hK _ _ (h v' w' h2 h3 h4)
theorem step_app {ops : Array Oper} {o : Oper} {a : Act} {K : Act → World → Prop} {Q : Exit → Act → World → Prop} {E : Prop} (hgd : o.guard = none) (s x : Operand) (t : TypeId)
    (ho : o.op = .call { callee := .builtin .append, args := #[s, x], argTypes := #[t, t] }) {e : TypeId} {size bytes : Nat} (hE : ElT t e size bytes) (base : Nat) (v : Value) (n : Nat) (xs : List Value) (hs : a.eval s = v) (hown : w.ownsRow base e size v n xs)
    (xv : Value) (m : Nat) (news : List Value) (hxv : a.eval x = xv) (hx : Src1 w size xv m news) (h1 : ∀ u ∈ news, u.oneCell' = true) (hmax : n + m ≤ maxLen) (hbytes : (n + m) * bytes ≤ 140737488355328) (hbase : base ≤ w.heap.size)
    (h : ∀ v' w', w'.ownsRow base e size v' (n + m) (xs ++ news) → w.grownBy w' v.ownBlock → (v'.ownBlock = v.ownBlock ∨ v'.ownBlock = some w.heap.size) → K (a.put o.dst v') w') :
    if Region.wanted o (yielded ops a.tmps) = true then Oper.wp Try.prog o a w K Q else E := by
  have hw : Region.wanted o (yielded ops a.tmps) = true := by simp [Region.wanted, hgd]
  rw [if_pos hw]
  exact wp_app w s x t ho hE base v n xs hs hown xv m news hxv hx h1 hmax hbytes hbase h
end

/-- An owned row, read. -/
theorem rd_own {w : World} {base : Nat} {e : TypeId} {size n : Nat} {v : Value} {xs : List Value} (h : w.ownsRow base e size v n xs) :
    ∃ A c, v = .slice A n c ∧ n ≤ c ∧ (A = none → n = 0 ∧ c = 0) ∧ Rd w 0 e A xs ∧ (∀ g, v.ownBlock = some g → base ≤ g ∧ g < w.heap.size) := by
  have hlt := h.lt
  obtain ⟨hl, ⟨rfl, rfl⟩ | ⟨g, cap, cur, rfl, hb, hh, hnc, _, hcs, ht⟩⟩ := h
  · have hx : xs = [] := List.eq_nil_of_length_eq_zero (by simpa using hl)
    subst hx
    exact ⟨none, 0, rfl, Nat.le_refl _, fun _ => ⟨rfl, rfl⟩, Rd.nil, hlt⟩
  · refine ⟨_, cap, rfl, hnc, (fun e => by cases e), ?_, hlt⟩
    have hg : g < w.heap.size := by
      rcases Nat.lt_or_ge g w.heap.size with h | h
      · exact h
      · rw [Array.getElem?_eq_none h] at hh; cases hh
    refine .inr ⟨g, 0, rfl, hg, .inr ⟨cur, _, hh⟩, fun j u hj => ?_⟩
    have hj' : j < n * size := by
      have : j < xs.length := by
        rcases Nat.lt_or_ge j xs.length with h | h
        · exact h
        · rw [List.getElem?_eq_none h] at hj; cases hj
      omega
    simp only [World.cell?, hh, Nat.zero_add]
    rw [← ht, List.getElem?_take_of_lt hj'] at hj
    simpa using hj

theorem el_strs : ElT 26 9 1 16 := by
  obtain ⟨i, h1, h2, h3, h4⟩ := info_parts (P := Try.prog) (e := 9) (z := .string ⟨#[]⟩) (size := 1) (bytes := 16) (by kernel_rfl)
  exact ⟨Try.underlying26, by omega, i, _, h1, h2, h3, h4, rfl⟩
theorem el_rows : ElT 36 26 1 24 := by
  obtain ⟨i, h1, h2, h3, h4⟩ := info_parts (P := Try.prog) (e := 26) (z := .slice none 0 0) (size := 1) (bytes := 24) (by kernel_rfl)
  exact ⟨Try.underlying36, by omega, i, _, h1, h2, h3, h4, rfl⟩

theorem rd_none {w : World} {B : Nat} {t : TypeId} {cs : List Value} (h : Rd w B t none cs) : cs = [] := by
  rcases h with h | ⟨g, o, h1, _⟩
  · exact h
  · cases h1
theorem own_new {w : World} {e : TypeId} {size : Nat} {base : Nat} (hb : base ≤ w.heap.size) : (w.alloc (.cells #[] e)).ownsRow base e size (.slice (some ⟨w.heap.size, 0, none⟩) 0 0) 0 [] :=
  World.ownsRow_made w #[] 0 hb (Nat.zero_le _) (by simp)
theorem one_strs (xs : List Scu.Str) : ∀ u ∈ xs.map Value.string, u.oneCell' = true := fun u hu => by
  obtain ⟨s, _, rfl⟩ := List.mem_map.1 hu
  rfl
theorem below_grown {w w' : World} {row : Option Nat} (hg : w.grownBy w' row) {B : Nat} (hB : B ≤ w.heap.size) (hr : ∀ k, row = some k → B ≤ k) : Below B w w' :=
  (Below.refl B w).grown hg hB hr

theorem cloneStrs_c (v : Value) (xs : List Scu.Str) (w : World) (B : Nat) (hv : IsStrs w B v xs) :
    Calls Try.prog 59 #[v] w fun e w' => (∃ u, e = .returned u ∧ w'.ownsRow w.heap.size 9 1 u xs.length (xs.map Value.string)) ∧ Below w.heap.size w w' := by
  obtain ⟨⟨A, c, rfl, hlc, hr⟩, hl, he⟩ := hv
  have heq := fun (W : World) => Lib.run_eql_slice_nil (P := Try.prog) W 26 9 A xs.length c 0 0 Try.underlying26
  rcases A with _ | ad
  · have hx : xs = [] := by
      have := rd_none hr
      simpa using this
    subst hx
    have heq0 := fun (W : World) => Lib.run_eql_slice_nil (P := Try.prog) W 26 9 none 0 c 0 0 Try.underlying26
    clear heq
    go_enter Try.func59, Try.ntmps59
    go_wp2
    go_ret
    exact ⟨⟨_, rfl, World.ownsRow_nil _ _ _ _⟩, Below.refl _ _⟩
  · have hl' := hl
    unfold R47 at hl'
    go_enter Try.func59, Try.ntmps59
    go_wp2_with (at_builtin; refine list_app _ rfl _ _ 26 rfl el_strs w.heap.size _ 0 [] rfl (own_new (Nat.le_refl _)) _ xs.length (xs.map Value.string) rfl ?c1 (one_strs xs) (by unfold maxLen; omega) (by omega) (by simp) ?_)
    case c1 => exact src_of_rd (hr.alloc _) (by simp) (fun e => by cases e)
    intro v1 w1 hown hg hw
    have HO := Lib.hid hown
    have HW := Lib.hid hw
    clear hown hw
    go_wp2
    go_ret
    refine ⟨⟨_, rfl, HO.out⟩, ?_⟩
    exact ((Below.refl _ _).alloc (Nat.le_refl _) _).trans (below_grown hg (by simp) (fun k hk => by simp [Value.ownBlock] at hk; omega))
theorem strs_own {w : World} {base : Nat} {v : Value} {xs : List Scu.Str} (h : w.ownsRow base 9 1 v xs.length (xs.map Value.string)) (h1 : xs.length * 16 ≤ R47) (h2 : ∀ s ∈ xs, s.size ≤ R47) : IsStrs w 0 v xs := by
  obtain ⟨A, c, rfl, hc, _, hr, _⟩ := rd_own h
  exact ⟨⟨_, _, rfl, hc, hr⟩, h1, h2⟩

theorem ownsRow_base {w : World} {base base' : Nat} {e : TypeId} {size n : Nat} {v : Value} {xs : List Value} (h : w.ownsRow base e size v n xs) (hb : base' ≤ base) : w.ownsRow base' e size v n xs := by
  obtain ⟨h1, h2 | ⟨g, cap, cur, h2, h3, h4⟩⟩ := h
  · exact ⟨h1, .inl h2⟩
  · exact ⟨h1, .inr ⟨g, cap, cur, h2, by omega, h4⟩⟩
/-- Rows of two element types lie in two blocks. -/
theorem own_ne {w : World} {b b' : Nat} {e e' : TypeId} {s s' n n' : Nat} {v v' : Value} {xs xs' : List Value} (h : w.ownsRow b e s v n xs) (h' : w.ownsRow b' e' s' v' n' xs') (he : e ≠ e') {g : Nat} (hg : v.ownBlock = some g) : v'.ownBlock ≠ some g := by
  intro hg'
  obtain ⟨_, ⟨rfl, _⟩ | ⟨q, cap, cur, rfl, _, hh, _⟩⟩ := h
  · cases hg
  obtain ⟨_, ⟨rfl, _⟩ | ⟨q', cap', cur', rfl, _, hh', _⟩⟩ := h'
  · cases hg'
  simp only [Value.ownBlock, Option.some.injEq] at hg hg'
  subst hg
  subst hg'
  rw [hh] at hh'
  cases hh'
  exact he rfl
/-- A volume that the call has made: the row Now is its own, and no snapshot's row lies in that block. -/
structure OwnVol (w : World) (base : Nat) (nv sv : Value) (x : Scu.Volume) : Prop where
  now : w.ownsRow base 9 1 nv x.now.length (x.now.map Value.string)
  nowLen : x.now.length * 16 ≤ R47
  nowEach : ∀ s ∈ x.now, s.size ≤ R47
  len : x.snaps.length * 24 ≤ R47
  snaps : ∃ vs b, w.ownsRow base 26 1 sv x.snaps.length vs ∧ (∀ (j : Nat) (u : Value) (y : List Scu.Str), vs[j]? = some u → x.snaps[j]? = some y → IsStrs w 0 u y) ∧
    (∀ g, nv.ownBlock = some g → g < b) ∧ (∀ u ∈ vs, ∀ g, u.ownBlock = some g → b ≤ g)
theorem OwnVol.is {w : World} {base : Nat} {nv sv : Value} {x : Scu.Volume} (h : OwnVol w base nv sv x) : IsVolume w 0 nv sv x := by
  refine ⟨strs_own h.now h.nowLen h.nowEach, ?_⟩
  obtain ⟨vs, b, h1, h2, _, _⟩ := h.snaps
  obtain ⟨A, c, rfl, hc, _, hr, _⟩ := rd_own h1
  exact ⟨⟨_, _, vs, rfl, hc, hr, by have := h1.1; omega, h2⟩, h.len⟩

def CopyRel (w : World) (base bo b1 : Nat) (nv : Value) (x : Scu.Volume) (k : Nat) (wr : World) : Prop :=
  Blk wr (w.heap.size + 1) 38 #[.slice none 0 0, .slice none 0 0] ∧ ∃ sv vs, Blk wr bo 38 #[nv, sv] ∧ wr.ownsRow base 26 1 sv k vs ∧ (∀ (j : Nat) (u : Value) (y : List Scu.Str), vs[j]? = some u → x.snaps[j]? = some y → IsStrs wr 0 u y) ∧
    (∀ u ∈ vs, ∀ g, u.ownBlock = some g → b1 ≤ g) ∧ wr.ownsRow base 9 1 nv x.now.length (x.now.map Value.string) ∧ (∀ g, nv.ownBlock = some g → g < b1) ∧ Below w.heap.size w wr

theorem below_alloc (w : World) (o : Obj) : Below w.heap.size w (w.alloc o) := (Below.refl _ _).alloc (Nat.le_refl _) o
theorem own_below {w w' : World} {base : Nat} {e : TypeId} {size n : Nat} {v : Value} {xs : List Value} (h : w.ownsRow base e size v n xs) (hb : Below w.heap.size w w') : w'.ownsRow base e size v n xs :=
  h.kept (row := none) ⟨hb.os, hb.tape, hb.output, hb.size, fun i hi _ => hb.block i hi⟩ (by cases hv : v.ownBlock with
    | none => exact .inl rfl
    | some g => exact .inr (by simp))
theorem own_kind {w : World} {base : Nat} {e : TypeId} {size n : Nat} {v : Value} {xs : List Value} (h : w.ownsRow base e size v n xs) {g : Nat} (hg : v.ownBlock = some g) : ∃ C fz, w.heap[g]? = some (.cells C e fz) := by
  obtain ⟨_, ⟨rfl, _⟩ | ⟨q, cap, cur, rfl, _, hh, _⟩⟩ := h
  · cases hg
  · simp only [Value.ownBlock, Option.some.injEq] at hg
    subst hg
    exact ⟨_, _, hh⟩
theorem set_grown (w : World) (p : Addr) (u : Value) : w.grownBy (w.setCell p u) (some p.block) :=
  ⟨rfl, rfl, rfl, by simp [World.setCell], fun i _ hne => Below.heap_setCell w p u i (fun e => hne (by rw [e]))⟩
theorem copy_next {w wr w3 w4 : World} {bo k : Nat} {nv sv u v4 : Value} {x : Scu.Volume} {vs : List Value} {o : Obj} {y : List Scu.Str} (hw : w.heap.size + 1 < bo) (hres : Blk wr (w.heap.size + 1) 38 #[.slice none 0 0, .slice none 0 0])
    (hblk : Blk wr bo 38 #[nv, sv]) (hown : wr.ownsRow w.heap.size 26 1 sv k vs) (hy : x.snaps[k]? = some y)
    (hrest : (∀ (j : Nat) (u : Value) (y : List Scu.Str), vs[j]? = some u → x.snaps[j]? = some y → IsStrs wr 0 u y) ∧ (∀ u ∈ vs, ∀ g, u.ownBlock = some g → bo ≤ g) ∧
      wr.ownsRow w.heap.size 9 1 nv x.now.length (x.now.map Value.string) ∧ (∀ g, nv.ownBlock = some g → g < bo) ∧ Below w.heap.size w wr)
    (h3 : Below wr.heap.size wr w3) (hu : w3.ownsRow wr.heap.size 9 1 u y.length (y.map Value.string)) (hyl : y.length * 16 ≤ R47) (hye : ∀ s ∈ y, s.size ≤ R47)
    (h4 : w4.ownsRow w.heap.size 26 1 v4 (k + 1) (vs ++ [u])) (hg : (w3.alloc o).grownBy w4 sv.ownBlock) :
    CopyRel w w.heap.size bo bo nv x (k + 1) (w4.setCell ⟨bo, 1, none⟩ v4) := by
  obtain ⟨heach, hfrom, hnow, hnlt, hbel⟩ := hrest
  have hblt := hblk.lt
  have h3s := h3.size
  have h4s := hg.size
  have h3a : (w3.alloc o).heap.size = w3.heap.size + 1 := by simp
  have h3b : Below wr.heap.size wr (w3.alloc o) := h3.alloc h3s o
  have hownA := own_below hown h3b
  have hblkA : Blk (w3.alloc o) bo 38 #[nv, sv] := hblk.same h3b
  have hsvne : ∀ g C t fz, (w3.alloc o).heap[g]? = some (.cells C t fz) → t ≠ 26 → some g ≠ sv.ownBlock := by
    intro g C t fz hh hne hg'
    obtain ⟨C', fz', hh'⟩ := own_kind hownA hg'.symm
    rw [hh] at hh'
    cases hh'
    exact hne rfl
  have hblk4 : Blk w4 bo 38 #[nv, sv] := (hg.block bo (by omega) (hsvne _ _ _ _ hblkA (by decide))).trans hblkA
  have hkeep : ∀ g, g < (w3.alloc o).heap.size → (g < 0 ∨ ∃ C fz, (w3.alloc o).heap[g]? = some (.cells C 9 fz)) → (w4.setCell ⟨bo, 1, none⟩ v4).heap[g]? = (w3.alloc o).heap[g]? := by
    rintro g hglt (h0 | ⟨C, fz, hh⟩)
    · omega
    · have hgb : g ≠ bo := by
        rintro rfl
        have := hblkA
        unfold Blk at this
        rw [hh] at this
        cases this
      exact (Below.heap_setCell w4 _ v4 g hgb).trans (hg.block g hglt (hsvne _ _ _ _ hh (by decide)))
  have hsz : (w3.alloc o).heap.size ≤ (w4.setCell ⟨bo, 1, none⟩ v4).heap.size := by simpa [World.setCell] using h4s
  have hnowA := own_below hnow h3b
  have hresA : Blk (w3.alloc o) (w.heap.size + 1) 38 #[.slice none 0 0, .slice none 0 0] := hres.same h3b
  have hres4 : Blk w4 (w.heap.size + 1) 38 #[.slice none 0 0, .slice none 0 0] := (hg.block _ (by omega) (hsvne _ _ _ _ hresA (by decide))).trans hresA
  refine ⟨hres4.far (by simp; omega) v4, v4, vs ++ [u], hblk4.set_ 1 v4, ?_, ?_, ?_, ?_, hnlt, ?_⟩
  · refine h4.kept (set_grown _ _ _) (.inr fun hg' => ?_)
    obtain ⟨C', fz', hh'⟩ := own_kind h4 hg'
    have := hblk4
    unfold Blk at this
    rw [hh'] at this
    cases this
  · intro j v z hv hz
    have hl : vs.length = k := by simpa using hown.1
    rcases Nat.lt_or_ge j vs.length with hj | hj
    · rw [List.getElem?_append_left hj] at hv
      exact ((heach j v z hv hz).below h3b).keep hsz hkeep
    · have hj' : j = vs.length := by
        rcases Nat.lt_or_ge vs.length j with h | h
        · rw [List.getElem?_eq_none (by simp; omega)] at hv; cases hv
        · omega
      subst hj'
      rw [List.getElem?_append_right (Nat.le_refl _)] at hv
      simp only [Nat.sub_self, List.getElem?_cons_zero, Option.some.injEq] at hv
      subst hv
      rw [hl, hy] at hz
      cases hz
      exact ((strs_own hu hyl hye).alloc o).keep hsz hkeep
  · intro v hv g hgv
    rcases List.mem_append.1 hv with h | h
    · exact hfrom v h g hgv
    · rw [List.mem_singleton] at h
      subst h
      have := (hu.lt g hgv).1
      omega
  · have hn4 := hnowA.kept hg (by
      cases hnb : nv.ownBlock with
      | none => exact .inl rfl
      | some q =>
        obtain ⟨C, fz, hh⟩ := own_kind hnowA hnb
        exact .inr (hsvne q C _ fz hh (by decide)))
    refine hn4.kept (set_grown _ _ _) (.inr fun hg' => ?_)
    have := hnlt _ hg'
    simp at this
  · refine Below.setCell ?_ (show w.heap.size ≤ bo by omega) v4
    exact (hbel.trans (h3b.mono hbel.size)).grown hg (by have := hbel.size; omega) (fun q hq => (hownA.lt q hq).1)
theorem copy_cell {w wr w3 w4 : World} {bo k : Nat} {nv sv : Value} {vs : List Value} {o : Obj}
    (hblk : Blk wr bo 38 #[nv, sv]) (hown : wr.ownsRow w.heap.size 26 1 sv k vs)
    (h3 : Below wr.heap.size wr w3) (hg : (w3.alloc o).grownBy w4 sv.ownBlock) : Blk w4 bo 38 #[nv, sv] := by
  have h3s := h3.size
  have hblt := hblk.lt
  have h3a : (w3.alloc o).heap.size = w3.heap.size + 1 := by simp
  have h3b : Below wr.heap.size wr (w3.alloc o) := h3.alloc h3s o
  have hblkA : Blk (w3.alloc o) bo 38 #[nv, sv] := hblk.same h3b
  refine (hg.block bo (by omega) fun hg' => ?_).trans hblkA
  obtain ⟨C', fz', hh'⟩ := own_kind (own_below hown h3b) hg'.symm
  have := hblkA
  unfold Blk at this
  rw [hh'] at this
  cases this
theorem own_set {w : World} {base : Nat} {e : TypeId} {size n : Nat} {v : Value} {xs : List Value} (h : w.ownsRow base e size v n xs) {g i : Nat} {t : TypeId} {cs : Array Value} (hb : Blk w g t cs) (hne : t ≠ e) (u : Value) : (w.setCell ⟨g, i, none⟩ u).ownsRow base e size v n xs := by
  refine h.kept (set_grown _ _ _) (.inr fun hg => ?_)
  obtain ⟨C, fz, hh⟩ := own_kind h hg
  unfold Blk at hb
  rw [hh] at hb
  cases hb
  exact hne rfl
theorem OwnVol.set_ {w : World} {base : Nat} {nv sv : Value} {x : Scu.Volume} (h : OwnVol w base nv sv x) {g i : Nat} {t : TypeId} {cs : Array Value} (hb : Blk w g t cs) (h1 : t ≠ 9) (h2 : t ≠ 26) (u : Value) : OwnVol (w.setCell ⟨g, i, none⟩ u) base nv sv x := by
  refine ⟨own_set h.now hb h1 u, h.nowLen, h.nowEach, h.len, ?_⟩
  obtain ⟨vs, b, h3, h4, h5⟩ := h.snaps
  refine ⟨vs, b, own_set h3 hb h2 u, fun j v y hv hy => (h4 j v y hv hy).keep (by simp [World.setCell]) ?_, h5⟩
  rintro q hq (h0 | ⟨C, fz, hh⟩)
  · omega
  · refine Below.heap_setCell w _ u q fun e => ?_
    have e' : q = g := e
    subst e'
    unfold Blk at hb
    rw [hh] at hb
    cases hb
    exact h1 rfl

theorem copyVol_c (nv sv : Value) (x : Scu.Volume) (w : World) (B : Nat) (hv : IsVolume w B nv sv x) :
    Calls Try.prog 58 #[.agg #[nv, sv]] w fun e w' => (∃ nu su, e = .returned (.agg #[nu, su]) ∧ OwnVol w' w.heap.size nu su x) ∧ Below w.heap.size w w' := by
  obtain ⟨⟨A, c, vs0, rfl, _, hr, hvl, hve⟩, hl⟩ := hv.snaps
  obtain ⟨A1, m1, d1, rfl⟩ := hv.now.form
  have HVL := Lib.hid hvl
  have HVE := Lib.hid hve
  clear hvl hve
  unfold R47 at hl
  go_enter Try.func58, Try.ntmps58
  go_wp2_with fail
  refine (cloneStrs_c _ _ _ B ((hv.now.alloc _).alloc _)).mono ?_; rintro e w1 ⟨⟨u, rfl, hu⟩, h1⟩
  obtain ⟨hc, hz⟩ := bcell h1
  have hsz : w.heap.size + 1 < w1.heap.size := by have := h1.size; simp at this; omega
  have hsz' : w.heap.size < w1.heap.size := by omega
  obtain ⟨A2, c2, rfl, _, _, _, hlow⟩ := rd_own hu
  have hB1 : Below w.heap.size w w1 := (((Below.refl _ _).alloc (Nat.le_refl _) _).alloc (by simp) _).trans (h1.mono (by simp; omega))
  have HU := Lib.hid hu
  have HLOW := Lib.hid hlow
  clear hu hlow
  go_wp2_with fail
  go_loopw [13] (fun i wr => ∃ k : Nat, k ≤ x.snaps.length ∧ i = .int .i64 k ∧ CopyRel w w.heap.size w1.heap.size w1.heap.size (.slice A2 x.now.length c2) x k wr) (fun i _ => x.snaps.length - (intOf i).toNat)
  case atStart =>
    refine ⟨0, Nat.zero_le _, rfl, ((Blk.new' (by simp)).same h1).alloc _, .slice none 0 0, [], Blk.new w1 _ _, World.ownsRow_nil _ _ _ _, fun j u y h => by simp at h, fun u hu => by simp at hu, ?_, ?_, hB1.alloc hB1.size _⟩
    · exact (ownsRow_base HU.out (by simp; omega)).alloc _
    · intro g hg; exact (HLOW.out g hg).2
  case round =>
    obtain ⟨k, hk, rfl, hres, svk, vs, hblk, hown, heach, hfrom, hnow, hnlt, hbel⟩ := hrel
    have HRES := Lib.hid hres
    have hr0 := hres.cell 0
    have hr1 := hres.cell 1
    have hrz := hres.frozen
    have hrlt := hres.lt
    simp only [List.getElem?_toArray, List.getElem?_cons_zero, List.getElem?_cons_succ] at hr0 hr1
    clear hres
    have HREST := Lib.hid (And.intro heach (And.intro hfrom (And.intro hnow (And.intro hnlt hbel))))
    have hbelow := Lib.hid hbel
    have hbsz := hbel.size
    clear heach hfrom hnow hnlt
    by_cases hlt : k < x.snaps.length
    · have hlt' : (k : Int) < (x.snaps.length : Int) := by omega
      obtain ⟨g, o, p, rfl, hg, hcell, hp⟩ := rows_get hr HVL.out HVE.out hlt
      have hcw : wr.cell? ⟨g, o + k, none⟩ = some p := (hbel.cell (p := ⟨g, o + k, none⟩) hg).trans hcell
      have hb0 := hblk.cell 1
      have hbz := hblk.frozen 1
      have hblt := hblk.lt
      have hpw : IsStrs wr B p x.snaps[k] := hp.below hbel
      simp only [List.getElem?_toArray, List.getElem?_cons_zero, List.getElem?_cons_succ] at hb0
      have HOWN := Lib.hid hown
      have HBLK := Lib.hid hblk
      clear hown hblk hbel
      have HPW := Lib.hid hpw
      clear hpw
      go_wp2_with fail
      have HP := Lib.hid hp
      clear hp
      go_region_law (first
        | (go_simp; go_at_call 59; refine (cloneStrs_c _ _ _ _ (HPW.out.drewN 1)).mono ?_; rintro e w3 ⟨⟨u3, rfl, hu3⟩, h3⟩; have h3 : Below wr.heap.size wr w3 := (below_drewN (Below.refl _ _) 1).trans h3; obtain ⟨A3, c3, rfl, _, _, _, _⟩ := rd_own hu3; have hu3 : w3.ownsRow wr.heap.size 9 1 _ _ _ := hu3; have HU3 := Lib.hid hu3; clear hu3; have hb3 := (((bcell h3).1 w1.heap.size 1 (by simpa using hblt)).trans hb0); have hz3 := (((bcell h3).2 w1.heap.size 1 (by simpa using hblt)).trans hbz); have h3s := h3.size; have hb3a : ∀ o, (w3.alloc o).cell? ⟨w1.heap.size, 1, none⟩ = some svk := fun o => (((below_alloc w3 o).cell (p := ⟨w1.heap.size, 1, none⟩) (Nat.lt_of_lt_of_le hblt h3.size)).trans hb3))
        | (refine step_app _ rfl (.tmp 18) (.tmp 21) 36 rfl el_rows w.heap.size svk k vs rfl ((own_below HOWN.out h3).alloc _) (.slice (some ⟨w3.heap.size, 0, none⟩) 1 1) 1 [.slice A3 x.snaps[k].length c3] rfl ⟨rfl, .inr ⟨_, _, rfl, ?_⟩⟩ ?_ ?_ ?_ ?_ ?_
           · intro j v hj
             have hj0 : j = 0 := by (rcases j with _ | j <;> simp at hj ⊢)
             subst hj0
             simp at hj
             subst hj
             exact (Blk.new w3 _ _).cell 0
           · (intro v hv; rw [List.mem_singleton] at hv; subst hv; rfl)
           · (unfold maxLen; omega)
           · omega
           · (simp; have : wr.heap.size ≤ w3.heap.size := h3s; omega)
           intro v4 w4 h4 hg4 _
           have hn4 := copy_next hsz HRES.out HBLK.out HOWN.out (List.getElem?_eq_getElem hlt) HREST.out h3 HU3.out HP.out.len HP.out.each h4 hg4
           have hB4 := copy_cell HBLK.out HOWN.out h3 hg4
           have hb4 := hB4.cell 1
           have hz4 := hB4.frozen 1
           simp only [List.getElem?_toArray, List.getElem?_cons_zero, List.getElem?_cons_succ] at hb4
           obtain ⟨A4, c4, rfl, _, _, _, _⟩ := rd_own h4
           have HN4 := Lib.hid hn4
           clear hn4 h4 hg4 hB4))
      all_goals (go_wp2; go_roundw)
      all_goals first
        | exact ⟨k + 1, by omega, rfl, HN4.out⟩
        | (simp [intOf]; omega)
    · have hk' : k = x.snaps.length := by omega
      subst hk'
      have hb0 := hblk.cell 0
      have hb1 := hblk.cell 1
      have hbz := hblk.frozen
      have hblt := hblk.lt
      simp only [List.getElem?_toArray, List.getElem?_cons_zero, List.getElem?_cons_succ] at hb0 hb1
      obtain ⟨A4, c4, rfl, _, _, _, _⟩ := rd_own hown
      have HOWN := Lib.hid hown
      have HBLK := Lib.hid hblk
      have HL := Lib.hid hl
      clear hown hblk hl
      have hne : w1.heap.size ≠ w.heap.size + 1 := by omega
      have hq1 := HRES.out.set_ 0 (.slice A2 x.now.length c2)
      have hq2 := hq1.set_ 1 (.slice A4 x.snaps.length c4)
      have u0 := hq2.cell 0
      have u1 := hq2.cell 1
      simp at u0 u1
      have HV : OwnVol wr w.heap.size (.slice A2 x.now.length c2) (.slice A4 x.snaps.length c4) x :=
        ⟨HREST.out.2.2.1, hv.now.len, hv.now.each, HL.out, vs, w1.heap.size, HOWN.out, HREST.out.1, HREST.out.2.2.2.1, HREST.out.2.1⟩
      have HV2 := Lib.hid ((HV.set_ (i := 0) HRES.out (by decide) (by decide) (.slice A2 x.now.length c2)).set_ (i := 1) hq1 (by decide) (by decide) (.slice A4 x.snaps.length c4))
      clear HV hq1 hq2
      go_wp2
      refine bodyPost_ret (v := .agg #[.slice A2 x.now.length c2, .slice A4 x.snaps.length c4]) (by simp [results, Try.results58, go_sem, u0, u1]) rfl ?_
      exact ⟨⟨_, _, rfl, HV2.out⟩, (hbelow.out.setCell (p := ⟨w.heap.size + 1, 0, none⟩) (by simp) _).setCell (p := ⟨w.heap.size + 1, 1, none⟩) (by simp) _⟩
theorem copy_far {w wr w3 w4 : World} {bo k q : Nat} {sv v4 : Value} {vs : List Value} {o : Obj} {cs : Array Value} (hq : Blk wr q 38 cs) (hne : bo ≠ q)
    (hown : wr.ownsRow w.heap.size 26 1 sv k vs)
    (h3 : Below wr.heap.size wr w3) (hg : (w3.alloc o).grownBy w4 sv.ownBlock) : Blk (w4.setCell ⟨bo, 1, none⟩ v4) q 38 cs := by
  have h3s := h3.size
  have hblt := hq.lt
  have h3a : (w3.alloc o).heap.size = w3.heap.size + 1 := by simp
  have h3b : Below wr.heap.size wr (w3.alloc o) := h3.alloc h3s o
  have hqA : Blk (w3.alloc o) q 38 cs := hq.same h3b
  refine Blk.far ((hg.block q (by omega) fun hg' => ?_).trans hqA) (fun e => hne e.symm) v4
  obtain ⟨C', fz', hh'⟩ := own_kind (own_below hown h3b) hg'.symm
  have := hqA
  unfold Blk at this
  rw [hh'] at this
  cases this

theorem copyRef_c (nv sv : Value) (x : Scu.Volume) (w : World) (B : Nat) (hv : IsVolume w B nv sv x) :
    Calls Try.prog 20 #[.agg #[nv, sv]] w fun e w' => (∃ nu su, e = .returned (.agg #[nu, su]) ∧ OwnVol w' w.heap.size nu su x) ∧ Below w.heap.size w w' := by
  obtain ⟨⟨A, c, vs0, rfl, _, hr, hvl, hve⟩, hl⟩ := hv.snaps
  obtain ⟨⟨A1, d1, rfl, _, hnr⟩, hnl, hne⟩ := hv.now
  have HNE := Lib.hid hne
  clear hne
  have HVL := Lib.hid hvl
  have HVE := Lib.hid hve
  clear hvl hve
  unfold R47 at hl hnl
  go_enter Try.func20, Try.ntmps20
  go_wp2_with (at_builtin; refine list_app _ rfl _ _ 26 rfl el_strs w.heap.size _ 0 [] rfl (World.ownsRow_nil _ _ _ _) _ x.now.length (x.now.map Value.string) rfl (src_of_rd ((hnr.alloc _).alloc _) (by simp) (fun e => by subst e; have := rd_none hnr; simpa using this)) (one_strs _) (by unfold maxLen; omega) (by omega) (by simp; omega) ?_)
  intro v1 w1 hu hg1 _
  have h1 : Below ((w.alloc (Obj.cells #[.slice A1 x.now.length d1, .slice A x.snaps.length c] 38)).alloc (Obj.cells #[.slice none 0 0, .slice none 0 0] 38)).heap.size ((w.alloc (Obj.cells #[.slice A1 x.now.length d1, .slice A x.snaps.length c] 38)).alloc (Obj.cells #[.slice none 0 0, .slice none 0 0] 38)) w1 :=
    below_grown hg1 (Nat.le_refl _) (fun q hq => by cases hq)
  obtain ⟨hc, hz⟩ := bcell h1
  have hsz : w.heap.size + 1 < w1.heap.size := by have := h1.size; simp at this; omega
  have hsz' : w.heap.size < w1.heap.size := by omega
  have hu : w1.ownsRow w.heap.size 9 1 v1 x.now.length (x.now.map Value.string) := hu
  obtain ⟨A2, c2, rfl, _, _, _, hlow⟩ := rd_own hu
  have hB1 : Below w.heap.size w w1 := (((Below.refl _ _).alloc (Nat.le_refl _) _).alloc (by simp) _).trans (h1.mono (by simp; omega))
  have HU := Lib.hid hu
  have HLOW := Lib.hid hlow
  have HN := Lib.hid hnl
  have HG := Lib.hid hg1
  clear hu hlow hnl hg1
  go_wp2_with fail
  go_loopw [4] (fun i wr => ∃ k : Nat, k ≤ x.snaps.length ∧ i = .int .i64 k ∧ Blk wr w.heap.size 38 #[.slice A1 x.now.length d1, .slice A x.snaps.length c] ∧ CopyRel w w.heap.size w1.heap.size w1.heap.size (.slice A2 x.now.length c2) x k wr) (fun i _ => x.snaps.length - (intOf i).toNat)
  case atStart =>
    refine ⟨0, Nat.zero_le _, rfl, (((Blk.new' rfl).alloc _).same h1).alloc _, ((Blk.new' (by simp)).same h1).alloc _, .slice none 0 0, [], Blk.new w1 _ _, World.ownsRow_nil _ _ _ _, fun j u y h => by simp at h, fun u hu => by simp at hu, ?_, ?_, hB1.alloc hB1.size _⟩
    · exact HU.out.alloc _
    · intro g hg; exact (HLOW.out g hg).2
  case round =>
    obtain ⟨k, hk, rfl, harg, hres, svk, vs, hblk, hown, heach, hfrom, hnow, hnlt, hbel⟩ := hrel
    have HRES := Lib.hid hres
    have HARG := Lib.hid harg
    have hr0 := hres.cell 0
    have hr1 := hres.cell 1
    have hrz := hres.frozen
    have hrlt := hres.lt
    have ha1 := harg.cell 1
    simp only [List.getElem?_toArray, List.getElem?_cons_zero, List.getElem?_cons_succ] at hr0 hr1 ha1
    have halt := harg.lt
    clear hres harg
    have HREST := Lib.hid (And.intro heach (And.intro hfrom (And.intro hnow (And.intro hnlt hbel))))
    have hbelow := Lib.hid hbel
    have hbsz := hbel.size
    clear heach hfrom hnow hnlt
    by_cases hlt : k < x.snaps.length
    · have hlt' : (k : Int) < (x.snaps.length : Int) := by omega
      obtain ⟨g, o, p, rfl, hg, hcell, hp⟩ := rows_get hr HVL.out HVE.out hlt
      have hcw : wr.cell? ⟨g, o + k, none⟩ = some p := (hbel.cell (p := ⟨g, o + k, none⟩) hg).trans hcell
      have hb0 := hblk.cell 1
      have hbz := hblk.frozen 1
      have hblt := hblk.lt
      have hpw : IsStrs wr B p x.snaps[k] := hp.below hbel
      obtain ⟨⟨A3, c3, rfl, _, hpr⟩, hpl, hpe⟩ := hpw
      simp only [List.getElem?_toArray, List.getElem?_cons_zero, List.getElem?_cons_succ] at hb0
      have HOWN := Lib.hid hown
      have HBLK := Lib.hid hblk
      have HP := Lib.hid (And.intro hpl hpe)
      unfold R47 at hpl
      clear hown hblk hbel hp hpe
      go_wp2_with fail
      go_region_law (first
        | (refine step_app _ rfl (.const (.slice none 0 0)) (.tmp 22) 26 rfl el_strs wr.heap.size _ 0 [] rfl (World.ownsRow_nil _ _ _ _) _ x.snaps[k].length (x.snaps[k].map Value.string) rfl ?_ (one_strs _) ?_ ?_ ?_ ?_
           · exact src_of_rd (hpr.drewN 1) (by simp) (fun e => by subst e; have := rd_none hpr; simpa using this)
           · unfold maxLen; omega
           · omega
           · exact Nat.le_refl _
           intro u3 w3 hu3 hg3 _
           have h3 : Below wr.heap.size wr w3 := (Below.refl wr.heap.size wr).drew.trans (below_grown hg3 (Nat.le_refl _) (fun q hq => by cases hq))
           have hu3 : w3.ownsRow wr.heap.size 9 1 u3 x.snaps[k].length (x.snaps[k].map Value.string) := (by simpa only [Nat.zero_add, List.nil_append] using hu3)
           obtain ⟨A5, c5, rfl, _, _, _, _⟩ := rd_own hu3
           have HU3 := Lib.hid hu3
           clear hu3 hg3
           have hb3 := (((bcell h3).1 w1.heap.size 1 hblt).trans hb0)
           have hb3a : ∀ o, (w3.alloc o).cell? ⟨w1.heap.size, 1, none⟩ = some svk := fun o => (((below_alloc w3 o).cell (p := ⟨w1.heap.size, 1, none⟩) (Nat.lt_of_lt_of_le hblt h3.size)).trans hb3)
           have h3s := h3.size)
        | (refine step_app _ rfl (.tmp 17) (.tmp 24) 36 rfl el_rows w.heap.size svk k vs rfl ((own_below HOWN.out h3).alloc _) (.slice (some ⟨w3.heap.size, 0, none⟩) 1 1) 1 [.slice A5 x.snaps[k].length c5] rfl ⟨rfl, .inr ⟨_, _, rfl, ?_⟩⟩ ?_ ?_ ?_ ?_ ?_
           · intro j v hj
             have hj0 : j = 0 := by (rcases j with _ | j <;> simp at hj ⊢)
             subst hj0
             simp at hj
             subst hj
             exact (Blk.new w3 _ _).cell 0
           · (intro v hv; rw [List.mem_singleton] at hv; subst hv; rfl)
           · (unfold maxLen; omega)
           · omega
           · (simp; have : wr.heap.size ≤ w3.heap.size := h3s; omega)
           intro v4 w4 h4 hg4 _
           have hn4 := copy_next hsz HRES.out HBLK.out HOWN.out (List.getElem?_eq_getElem hlt) HREST.out h3 HU3.out HP.out.1 HP.out.2 h4 hg4
           have hB4 := copy_cell HBLK.out HOWN.out h3 hg4
           have hF4 := copy_far (bo := w1.heap.size) (v4 := v4) HARG.out (by omega) HOWN.out h3 hg4
           have hb4 := hB4.cell 1
           have hz4 := hB4.frozen 1
           simp only [List.getElem?_toArray, List.getElem?_cons_zero, List.getElem?_cons_succ] at hb4
           obtain ⟨A4, c4, rfl, _, _, _, _⟩ := rd_own h4
           have HN4 := Lib.hid (And.intro hF4 hn4)
           clear hn4 h4 hg4 hB4 hF4))
      all_goals (go_wp2; go_roundw)
      all_goals first
        | exact ⟨k + 1, by omega, rfl, HN4.out⟩
        | (simp [intOf]; omega)
    · have hk' : k = x.snaps.length := by omega
      subst hk'
      have hb0 := hblk.cell 0
      have hb1 := hblk.cell 1
      have hbz := hblk.frozen
      have hblt := hblk.lt
      simp only [List.getElem?_toArray, List.getElem?_cons_zero, List.getElem?_cons_succ] at hb0 hb1
      obtain ⟨A4, c4, rfl, _, _, _, _⟩ := rd_own hown
      have HOWN := Lib.hid hown
      have HBLK := Lib.hid hblk
      have HL := Lib.hid hl
      clear hown hblk hl
      have hne : w1.heap.size ≠ w.heap.size + 1 := by omega
      have hq1 := HRES.out.set_ 0 (.slice A2 x.now.length c2)
      have hq2 := hq1.set_ 1 (.slice A4 x.snaps.length c4)
      have u0 := hq2.cell 0
      have u1 := hq2.cell 1
      simp at u0 u1
      have HV : OwnVol wr w.heap.size (.slice A2 x.now.length c2) (.slice A4 x.snaps.length c4) x :=
        ⟨HREST.out.2.2.1, hv.now.len, hv.now.each, HL.out, vs, w1.heap.size, HOWN.out, HREST.out.1, HREST.out.2.2.2.1, HREST.out.2.1⟩
      have HV2 := Lib.hid ((HV.set_ (i := 0) HRES.out (by decide) (by decide) (.slice A2 x.now.length c2)).set_ (i := 1) hq1 (by decide) (by decide) (.slice A4 x.snaps.length c4))
      clear HV hq1 hq2
      go_wp2
      refine bodyPost_ret (v := .agg #[.slice A2 x.now.length c2, .slice A4 x.snaps.length c4]) (by simp [results, Try.results20, go_sem, u0, u1]) rfl ?_
      exact ⟨⟨_, _, rfl, HV2.out⟩, (hbelow.out.setCell (p := ⟨w.heap.size + 1, 0, none⟩) (by simp) _).setCell (p := ⟨w.heap.size + 1, 1, none⟩) (by simp) _⟩
end Go.Proofs.Ytioajgcbchdpeaa

/- Part 19: words and walks under the law 'LeadersLead'. -/
import Derived.Test.YtfpiembhlgcelaaDoorLed18
import Derived.Test.YtfpiembhlgcelaaDoorLed11
import Derived.Test.YtfpiembhlgcelaaDoorLed9
import Derived.Deep.RegionLaw
import Derived.Test.YtfpiembhlgcelaaDoorLed3
set_option linter.unusedVariables false
set_option linter.unusedSimpArgs false
/- Words: a net of replicas and clients in memory. -/
namespace Go.Proofs.YtfpiembhlgcelaaDoor
set_option linter.unusedVariables false
set_option linter.unusedSimpArgs false
open Go.RowKit
set_option maxHeartbeats 1000000
set_option maxRecDepth 100000

def repV (r : Scu.Replica) (lu hv wv gv nv : Value) : List Value := [.int .i64 r.me, .int .i64 r.kept.view, .int .i64 r.kept.normal, .bool r.kept.calm, lu, .int .i64 r.kept.commit, hv, wv, gv, nv]
def RepE (w : World) (B : Nat) (cs : List Value) (r : Scu.Replica) : Prop := ∃ lu hv wv gv nv, cs = repV r lu hv wv gv nv ∧ IsRep w B lu hv wv gv nv r
def RowE (w : World) (B : Nat) (cs : List Value) (l : List Scu.Str) : Prop := ∃ u, cs = [u] ∧ IsStrs w B u l
def custV (c : Scu.Customer) : List Value := [.int .i64 c.id, .int .i64 c.next, .int .i64 c.wait.client, .int .i64 c.wait.num, .int .i64 c.wait.op.kind, .int .i64 c.wait.op.at_, .int .i64 c.wait.op.snap, .string c.wait.op.data]
def CustE (_ : World) (_ : Nat) (cs : List Value) (c : Scu.Customer) : Prop := cs = custV c
def toldV (t : Scu.Told) : List Value := [.int .i64 t.request.client, .int .i64 t.request.num, .int .i64 t.request.op.kind, .int .i64 t.request.op.at_, .int .i64 t.request.op.snap, .string t.request.op.data, .int .i64 t.reply.code, .int .i64 t.reply.n, .string t.reply.data]
def ToldE (_ : World) (_ : Nat) (cs : List Value) (t : Scu.Told) : Prop := cs = toldV t
section
variable {w w' : World} {B : Nat} {Ts : List TypeId} {cs : List Value}
theorem RepE.same {r : Scu.Replica} (h : RepE w B cs r) (hT : ∀ t ∈ [9, 3, 4, 64], t ∈ Ts) (hs : Same Ts B w w') : RepE w' B cs r := by
  obtain ⟨lu, hv, wv, gv, nv, e, h⟩ := h
  exact ⟨lu, hv, wv, gv, nv, e, h.same (hs.mono hT (Nat.le_refl _))⟩
theorem RowE.same {l : List Scu.Str} (h : RowE w B cs l) (hT : 9 ∈ Ts) (hs : Same Ts B w w') : RowE w' B cs l := by
  obtain ⟨u, e, h⟩ := h
  exact ⟨u, e, h.same hT hs⟩
theorem RepE.len {r : Scu.Replica} (h : RepE w B cs r) : cs.length = 10 := by
  obtain ⟨lu, hv, wv, gv, nv, rfl, h⟩ := h
  rfl
theorem MsgE.len {m : Scu.Message} (h : MsgE w B cs m) : cs.length = 8 := by
  obtain ⟨lu, rfl, h⟩ := h
  rfl
theorem RowE.len {l : List Scu.Str} (h : RowE w B cs l) : cs.length = 1 := by
  obtain ⟨u, rfl, h⟩ := h
  rfl
end
theorem el_reps : ElT 97 81 10 160 := by
  obtain ⟨i, h1, h2, h3, h4⟩ := info_parts (P := Tryd.prog) (e := 81) (z := .agg #[.int .i64 0, .int .i64 0, .int .i64 0, .bool false, .slice none 0 0, .int .i64 0, .slice none 0 0, .slice none 0 0, .slice none 0 0, .slice none 0 0]) (size := 10) (bytes := 160) (by kernel_rfl)
  exact ⟨Tryd.underlying97, by omega, i, _, h1, h2, h3, h4, rfl⟩
theorem el_custs : ElT 98 154 8 72 := by
  obtain ⟨i, h1, h2, h3, h4⟩ := info_parts (P := Tryd.prog) (e := 154) (z := .agg #[.int .i64 0, .int .i64 0, .int .i64 0, .int .i64 0, .int .i64 0, .int .i64 0, .int .i64 0, .string ByteArray.empty]) (size := 8) (bytes := 72) (by kernel_rfl)
  exact ⟨Tryd.underlying98, by omega, i, _, h1, h2, h3, h4, rfl⟩
theorem el_tolds : ElT 99 114 9 88 := by
  obtain ⟨i, h1, h2, h3, h4⟩ := info_parts (P := Tryd.prog) (e := 114) (z := .agg #[.int .i64 0, .int .i64 0, .int .i64 0, .int .i64 0, .int .i64 0, .string ByteArray.empty, .int .i64 0, .int .i64 0, .string ByteArray.empty]) (size := 9) (bytes := 88) (by kernel_rfl)
  exact ⟨Tryd.underlying99, by omega, i, _, h1, h2, h3, h4, rfl⟩
theorem el_codes : ElT 100 29 1 8 := by
  obtain ⟨i, h1, h2, h3, h4⟩ := info_parts (P := Tryd.prog) (e := 29) (z := .int .i64 0) (size := 1) (bytes := 8) (by kernel_rfl)
  exact ⟨Tryd.underlying100, by omega, i, _, h1, h2, h3, h4, rfl⟩

/- cells in the middle of one of a row -/
theorem putAt_nilr : ∀ (vs : List Value) (o : Nat), putAt [] o vs = []
  | [], _ => rfl
  | v :: r, o => by rw [putAt, List.set_nil, putAt_nilr r]
theorem putAt_right : ∀ (vs l r : List Value) (o : Nat), o + vs.length ≤ l.length → putAt (l ++ r) o vs = putAt l o vs ++ r
  | [], _, _, _, _ => rfl
  | v :: vs, l, r, o, h => by
    simp only [List.length_cons] at h
    rw [putAt, putAt, List.set_append_left _ _ (by omega), putAt_right vs _ r (o + 1) (by rw [List.length_set]; omega)]
theorem putAt_mid {m : Nat} : ∀ {css : List (List Value)} (_ : ∀ cs ∈ css, cs.length = m) (k : Nat) (hk : k < css.length) (j : Nat) (vs : List Value) (_ : j + vs.length ≤ m), putAt css.flatten (k * m + j) vs = (css.set k (putAt css[k] j vs)).flatten
  | [], _, k, hk, _, _, _ => by cases hk
  | c :: css, h, 0, _, j, vs, hv => by
    rw [Nat.zero_mul, Nat.zero_add, List.flatten_cons, putAt_right _ _ _ _ (by rw [h c List.mem_cons_self]; exact hv), List.set_cons_zero, List.flatten_cons]
    rfl
  | c :: css, h, k + 1, hk, j, vs, hv => by
    have hc := h c List.mem_cons_self
    rw [List.flatten_cons, show (k + 1) * m + j = c.length + (k * m + j) by rw [hc, Nat.succ_mul]; omega, putAt_left, List.set_cons_succ, List.flatten_cons,
      putAt_mid (fun x hx => h x (List.mem_cons_of_mem _ hx)) k (by simpa using hk) j vs hv]
    rfl
section
variable {α : Type} {t : TypeId} {size bytes : Nat} {El : World → Nat → List Value → α → Prop} {w w' : World} {base base' : Nat} {v : Value} {xs : List α} {css : List (List Value)} {Ts : List TypeId}
/-- Some cells of one of the row are set. -/
theorem OwnR.puts {g c n : Nat} (h : OwnR t size bytes El w base (.slice (some ⟨g, 0, none⟩) n c) xs css) {k : Nat} (hk : k < xs.length) (j : Nat) (vs : List Value) (hj : j + vs.length ≤ size) {cs cs' : List Value} {x : α} (hcs : css[k]? = some cs) (e : putAt cs j vs = cs')
    (hel : ∀ cs x, El w 0 cs x → El (w.setCells g (k * size + j) vs) 0 cs x) (hx : El w 0 cs' x) : OwnR t size bytes El (w.setCells g (k * size + j) vs) base (.slice (some ⟨g, 0, none⟩) n c) (xs.set k x) (css.set k cs') := by
  subst e
  have hn : n = xs.length := by
    obtain ⟨A, c', e, _⟩ := rd_own h.row
    cases e
    rfl
  subst hn
  have hkc : k < css.length := by rw [h.len]; exact hk
  obtain rfl : css[k] = cs := by rw [List.getElem?_eq_getElem hkc] at hcs; cases hcs; rfl
  refine ⟨by simp [h.len], ?_, ?_, ?_, by simpa using h.max⟩
  · intro c' hc'
    rcases List.mem_or_eq_of_mem_set hc' with h' | rfl
    · exact h.sz c' h'
    · rw [putAt_length]; exact h.sz _ (List.getElem_mem hkc)
  · rw [List.length_set, ← putAt_mid h.sz k hkc j vs hj]
    exact own_puts vs (k * size + j) _ _ h.row
  · intro i c' y h1 h2
    by_cases hi : i = k
    · subst hi
      rw [List.getElem?_set_self hkc] at h1
      rw [List.getElem?_set_self hk] at h2
      cases h1
      cases h2
      exact hel _ _ hx
    · rw [List.getElem?_set_ne (fun e => hi e.symm)] at h1 h2
      exact hel _ _ (h.each i c' y h1 h2)
/-- One of the row is taken out: what the append of the rest behind the first ones, and the clearing behind it, leave. -/
theorem OwnR.erase {g c n : Nat} (h : OwnR t size bytes El w base (.slice (some ⟨g, 0, none⟩) n c) xs css) {k : Nat} (hk : k < xs.length) (z : List Value) (hz : z.length = size)
    (hel : ∀ cs x, El w 0 cs x → El ((w.setCells g (k * size) (css.drop (k + 1)).flatten).setCells g ((n - 1) * size) z) 0 cs x) :
    OwnR t size bytes El ((w.setCells g (k * size) (css.drop (k + 1)).flatten).setCells g ((n - 1) * size) z) base (.slice (some ⟨g, 0, none⟩) (n - 1) c) (xs.eraseIdx k) (css.eraseIdx k) := by
  have hn : n = xs.length := by
    obtain ⟨A, c', e, _⟩ := rd_own h.row
    cases e
    rfl
  subst hn
  have hkc : k < css.length := by rw [h.len]; exact hk
  have hxl : (xs.eraseIdx k).length = xs.length - 1 := List.length_eraseIdx_of_lt hk
  have hcl : (css.eraseIdx k).length = css.length - 1 := List.length_eraseIdx_of_lt hkc
  have hsz' : ∀ cs ∈ css.eraseIdx k, cs.length = size := fun cs hcs => h.sz cs (List.mem_of_mem_eraseIdx hcs)
  have hf : (css.eraseIdx k).flatten.length = (xs.length - 1) * size := by rw [flatten_len hsz', hcl, h.len]
  refine ⟨by rw [hxl, hcl, h.len], hsz', ?_, ?_, ?_⟩
  · have h1 := own_puts (css.drop (k + 1)).flatten (k * size) _ _ h.row
    have h2 := own_puts z ((xs.length - 1) * size) _ _ h1
    have hd : ∀ cs ∈ css.drop (k + 1), cs.length = size := fun cs hcs => h.sz cs (List.mem_of_mem_drop hcs)
    have ht : ∀ cs ∈ css.take k, cs.length = size := fun cs hcs => h.sz cs (List.mem_of_mem_take hcs)
    have htl : (css.take k).flatten.length = k * size := by rw [flatten_len ht, List.length_take, Nat.min_eq_left (by omega)]
    have hdl : (css.drop (k + 1)).flatten.length = (xs.length - 1 - k) * size := by rw [flatten_len hd, List.length_drop, h.len]; congr 1; omega
    have hmul : (xs.length - 1) * size = k * size + (xs.length - 1 - k) * size := by rw [← Nat.add_mul]; congr 1; omega
    have hmul2 : xs.length * size = (xs.length - 1) * size + size := by rw [← Nat.succ_mul]; congr 1; omega
    -- the cells behind both
    have e1 : ∃ r, r.length = size ∧ putAt (putAt css.flatten (k * size) (css.drop (k + 1)).flatten) ((xs.length - 1) * size) z = (css.eraseIdx k).flatten ++ r := by
      refine ⟨z, hz, ?_⟩
      have e2 : css.flatten = (css.take k).flatten ++ (css.drop k).flatten := by rw [← List.flatten_append, List.take_append_drop]
      have hdk : (css.drop k).flatten.length = (xs.length - k) * size := by rw [flatten_len (fun cs hcs => h.sz cs (List.mem_of_mem_drop hcs)), List.length_drop, h.len]
      have hmul3 : (xs.length - k) * size = (xs.length - 1 - k) * size + size := by rw [← Nat.succ_mul]; congr 1; omega
      obtain ⟨a, b, hab, hal, hbl⟩ : ∃ a b, (css.drop k).flatten = a ++ b ∧ a.length = (xs.length - 1 - k) * size ∧ b.length = size :=
        ⟨(css.drop k).flatten.take ((xs.length - 1 - k) * size), (css.drop k).flatten.drop ((xs.length - 1 - k) * size), (List.take_append_drop _ _).symm, by rw [List.length_take, hdk]; omega, by rw [List.length_drop, hdk]; omega⟩
      have e3 : css.eraseIdx k = css.take k ++ css.drop (k + 1) := List.eraseIdx_eq_take_drop_succ _ _
      rw [e2, hab, show k * size = (css.take k).flatten.length + 0 by omega, putAt_left, putAt_whole _ a b (by omega),
        show (xs.length - 1) * size = (css.take k).flatten.length + ((css.drop (k + 1)).flatten.length + 0) by omega, putAt_left, putAt_left,
        show b = b ++ [] by simp, putAt_whole z b [] (by omega), e3, List.flatten_append, List.append_nil, List.append_assoc]
    obtain ⟨r, hr, e1⟩ := e1
    rw [e1] at h2
    rw [hxl]
    obtain ⟨_, ⟨h0, _⟩ | ⟨g', cap, cur, e, hb, hh, hnc, hm, hcs, htk⟩⟩ := h2
    · cases h0
    · cases e
      refine ⟨by rw [hf], .inr ⟨g, c, cur, rfl, hb, hh, by omega, hm, hcs, ?_⟩⟩
      have : cur.toList.take ((xs.length - 1) * size) = (cur.toList.take (xs.length * size)).take ((xs.length - 1) * size) := by rw [List.take_take, Nat.min_eq_left (by omega)]
      rw [this, htk, List.take_left' hf]
  · intro i c' y h1 h2
    rw [List.getElem?_eraseIdx] at h1 h2
    split at h1
    · rename_i hik
      rw [if_pos hik] at h2
      exact hel _ _ (h.each _ _ _ h1 h2)
    · rename_i hik
      rw [if_neg hik] at h2
      exact hel _ _ (h.each _ _ _ h1 h2)
  · rw [hxl]
    exact Nat.le_trans (Nat.mul_le_mul_right _ (by omega)) h.max
end

theorem there_below {w w' : World} {g o n B : Nat} (h : w.there g o n) (hb : Below B w w') (hg : g < B) : w'.there g o n := fun j hj => ⟨by rw [hb.cell (p := ⟨g, o + j, none⟩) hg]; exact (h j hj).1, by rw [hb.frozen (p := ⟨g, o + j, none⟩) hg]; exact (h j hj).2⟩
theorem setCells_far {g : Nat} {q : Addr} (h : q.block ≠ g) : ∀ {vs : List Value} {o : Nat} {w : World}, (w.setCells g o vs).cell? q = w.cell? q
  | [], _, _ => rfl
  | v :: r, o, w => by rw [World.setCells, setCells_far h]; exact World.cell?_of_block (Below.heap_setCell w ⟨g, o, none⟩ v q.block h)
/-- What no act touches: blocks below the base, and blocks of these types. -/
def Fr (base : Nat) (w w' : World) : Prop := Below base w w' ∧ Same [9, 3, 4, 64, 102, 29] 0 w w'
theorem Fr.refl (base : Nat) (w : World) : Fr base w w := ⟨Below.refl _ _, Same.refl _ _ _⟩
theorem Fr.trans {base : Nat} {w w1 w2 : World} (h : Fr base w w1) (k : Fr base w1 w2) : Fr base w w2 := ⟨h.1.trans k.1, h.2.trans k.2⟩
theorem Fr.of {base : Nat} {w w1 : World} (h : Below w.heap.size w w1) (hb : base ≤ w.heap.size) : Fr base w w1 := ⟨h.mono hb, Same.below h⟩
theorem Fr.size {base : Nat} {w w1 : World} (h : Fr base w w1) : w.heap.size ≤ w1.heap.size := h.1.size
theorem Fr.drew {base : Nat} {w w1 : World} (h : Fr base w w1) : Fr base w w1.drew := ⟨h.1.drew, h.2.trans (Same.drew _)⟩
/-- A net: its block, and its five rows. -/
structure NetW (w : World) (base gx : Nat) (x : Scu.Net) (rv sv fv cv tv : Value) : Prop where
  box : Blk w gx 152 #[rv, sv, fv, cv, tv]
  reps : ∃ css, OwnR 81 10 160 RepE w base rv x.replicas css
  slots : ∃ css, OwnR 36 1 24 RowE w base sv x.slots css
  fly : ∃ css, OwnR 89 8 80 MsgE w base fv x.flying css
  cust : ∃ css, OwnR 154 8 72 CustE w base cv x.clients css
  told : ∃ css, OwnR 114 9 88 ToldE w base tv x.told css
  lx : base ≤ gx
def NetE (w : World) (base gx : Nat) (x : Scu.Net) : Prop := ∃ rv sv fv cv tv, NetW w base gx x rv sv fv cv tv
section
variable {w w' P w4 : World} {base gx : Nat} {x : Scu.Net} {rv sv fv cv tv v4 : Value} {Ts : List TypeId} {B : Nat}
theorem own_reps {rs : List Scu.Replica} (h : ∃ css, OwnR 81 10 160 RepE w base rv rs css) (hs : Same Ts 0 w w') (h1 : 81 ∈ Ts) (h2 : ∀ t ∈ [9, 3, 4, 64], t ∈ Ts) :
    ∃ css, OwnR 81 10 160 RepE w' base rv rs css := let ⟨css, h⟩ := h; ⟨css, h.same h1 hs (fun _ _ hx => hx.same h2 hs)⟩
theorem own_slots {rs : List (List Scu.Str)} (h : ∃ css, OwnR 36 1 24 RowE w base sv rs css) (hs : Same Ts 0 w w') (h1 : 36 ∈ Ts) (h2 : 9 ∈ Ts) :
    ∃ css, OwnR 36 1 24 RowE w' base sv rs css := let ⟨css, h⟩ := h; ⟨css, h.same h1 hs (fun _ _ hx => hx.same h2 hs)⟩
theorem own_fly {rs : List Scu.Message} (h : ∃ css, OwnR 89 8 80 MsgE w base fv rs css) (hs : Same Ts 0 w w') (h1 : 89 ∈ Ts) (h2 : 9 ∈ Ts) :
    ∃ css, OwnR 89 8 80 MsgE w' base fv rs css := let ⟨css, h⟩ := h; ⟨css, h.same h1 hs (fun _ _ hx => hx.same h2 hs)⟩
theorem own_custs {rs : List Scu.Customer} (h : ∃ css, OwnR 154 8 72 CustE w base cv rs css) (hs : Same Ts 0 w w') (h1 : 154 ∈ Ts) :
    ∃ css, OwnR 154 8 72 CustE w' base cv rs css := let ⟨css, h⟩ := h; ⟨css, h.same h1 hs (fun _ _ hx => hx)⟩
theorem own_tolds {rs : List Scu.Told} (h : ∃ css, OwnR 114 9 88 ToldE w base tv rs css) (hs : Same Ts 0 w w') (h1 : 114 ∈ Ts) :
    ∃ css, OwnR 114 9 88 ToldE w' base tv rs css := let ⟨css, h⟩ := h; ⟨css, h.same h1 hs (fun _ _ hx => hx)⟩
theorem NetW.same (h : NetW w base gx x rv sv fv cv tv) (hs : Same [152, 81, 36, 89, 154, 114, 9, 3, 4, 64] 0 w w') : NetW w' base gx x rv sv fv cv tv :=
  ⟨blk_keep h.box hs (by simp), own_reps h.reps hs (by simp) (by simp), own_slots h.slots hs (by simp) (by simp), own_fly h.fly hs (by simp) (by simp), own_custs h.cust hs (by simp), own_tolds h.told hs (by simp), h.lx⟩
theorem NetW.below (h : NetW w base gx x rv sv fv cv tv) (hb : Below w.heap.size w w') : NetW w' base gx x rv sv fv cv tv := h.same (Same.below hb)
theorem NetW.alloc (h : NetW w base gx x rv sv fv cv tv) (o : Obj) : NetW (w.alloc o) base gx x rv sv fv cv tv := h.below (below_alloc w o)
theorem NetW.e (h : NetW w base gx x rv sv fv cv tv) : NetE w base gx x := ⟨_, _, _, _, _, h⟩
theorem NetE.below (h : NetE w base gx x) (hb : Below w.heap.size w w') : NetE w' base gx x := let ⟨_, _, _, _, _, h⟩ := h; ⟨_, _, _, _, _, h.below hb⟩
theorem NetW.forms (h : NetW w base gx x rv sv fv cv tv) : ∃ A0 c0 A1 c1 A2 c2 A3 c3 A4 c4, rv = .slice A0 x.replicas.length c0 ∧ sv = .slice A1 x.slots.length c1 ∧ fv = .slice A2 x.flying.length c2 ∧ cv = .slice A3 x.clients.length c3 ∧ tv = .slice A4 x.told.length c4 := by
  obtain ⟨_, h1⟩ := h.reps
  obtain ⟨_, h2⟩ := h.slots
  obtain ⟨_, h3⟩ := h.fly
  obtain ⟨_, h4⟩ := h.cust
  obtain ⟨_, h5⟩ := h.told
  obtain ⟨_, _, rfl⟩ := h1.form
  obtain ⟨_, _, rfl⟩ := h2.form
  obtain ⟨_, _, rfl⟩ := h3.form
  obtain ⟨_, _, rfl⟩ := h4.form
  obtain ⟨_, _, rfl⟩ := h5.form
  exact ⟨_, _, _, _, _, _, _, _, _, _, rfl, rfl, rfl, rfl, rfl⟩
/-- A replica is set. -/
theorem NetW.putRep {g n c k : Nat} (h : NetW w base gx x (.slice (some ⟨g, 0, none⟩) n c) sv fv cv tv) (hk : k < x.replicas.length) {cs : List Value} {r : Scu.Replica} (hx : RepE w 0 cs r) :
    NetW (w.setCells g (k * 10) cs) base gx { x with replicas := x.replicas.set k r } (.slice (some ⟨g, 0, none⟩) n c) sv fv cv tv ∧ Fr base w (w.setCells g (k * 10) cs) := by
  obtain ⟨css, hr⟩ := h.reps
  obtain ⟨g', c', _, e, hb, ⟨cur, hB⟩, _⟩ := hr.at_ hk
  cases e
  have hs : Same [152, 36, 89, 154, 114, 9, 3, 4, 64, 102, 29] 0 w (w.setCells g (k * 10) cs) := Same.sets cs (k * 10) w cur hB (by decide)
  exact ⟨⟨blk_keep h.box hs (by simp), ⟨_, hr.put hk hx.len hx (fun _ _ hx => hx.same (by simp) hs) rfl⟩, own_slots h.slots hs (by simp) (by simp), own_fly h.fly hs (by simp) (by simp), own_custs h.cust hs (by simp), own_tolds h.told hs (by simp), h.lx⟩, below_sets hb cs (k * 10) w w (Below.refl _ _), hs.mono (by simp) (Nat.le_refl _)⟩
/-- Slots are set. -/
theorem NetW.putSlot {g n c k : Nat} (h : NetW w base gx x rv (.slice (some ⟨g, 0, none⟩) n c) fv cv tv) (hk : k < x.slots.length) {u : Value} {l : List Scu.Str} (hx : IsStrs w 0 u l) :
    NetW (w.setCell ⟨g, k, none⟩ u) base gx { x with slots := x.slots.set k l } rv (.slice (some ⟨g, 0, none⟩) n c) fv cv tv ∧ Fr base w (w.setCell ⟨g, k, none⟩ u) := by
  obtain ⟨css, hr⟩ := h.slots
  obtain ⟨g', c', _, e, hb, ⟨cur, hB⟩, _⟩ := hr.at_ hk
  cases e
  have hs : Same [152, 81, 89, 154, 114, 9, 3, 4, 64, 102, 29] 0 w (w.setCell ⟨g, k, none⟩ u) := Same.set_ hB (Nat.zero_le _) (by decide) k u
  have hp := hr.put hk (cs := [u]) (x := l) rfl ⟨u, rfl, hx⟩ (cs' := [u]) (fun _ _ hx => hx.same (Ts := [9]) (by simp) (by rw [Nat.mul_one]; exact hs.mono (by simp) (Nat.le_refl _))) rfl
  rw [Nat.mul_one] at hp
  exact ⟨⟨blk_keep h.box hs (by simp), own_reps h.reps hs (by simp) (by simp), ⟨_, hp⟩, own_fly h.fly hs (by simp) (by simp), own_custs h.cust hs (by simp), own_tolds h.told hs (by simp), h.lx⟩, (Below.refl base w).setCell (p := ⟨g, k, none⟩) hb u, hs.mono (by simp) (Nat.le_refl _)⟩
/-- One of the net's own cells is set. -/
theorem NetW.xcell (h : NetW w base gx x rv sv fv cv tv) (i : Nat) (u : Value) :
    Same [81, 36, 89, 154, 114, 9, 3, 4, 64, 102, 29] 0 w (w.setCell ⟨gx, i, none⟩ u) ∧ Below base w (w.setCell ⟨gx, i, none⟩ u) :=
  ⟨Same.set_ h.box (Nat.zero_le _) (by decide) i u, (Below.refl base w).setCell (p := ⟨gx, i, none⟩) h.lx u⟩
/-- A message more is on its way. -/
theorem NetW.pushFly (h : NetW P base gx x rv sv fv cv tv) {css : List (List Value)} (hf : OwnR 89 8 80 MsgE P base fv x.flying css) {cs : List Value} {m : Scu.Message} (hx : MsgE P 0 cs m) (hm : (x.flying.length + 1) * 80 ≤ R47)
    (h4 : w4.ownsRow base 89 8 v4 (x.flying.length + 1) (css.flatten ++ cs)) (hg : P.grownBy w4 fv.ownBlock) (hb : base ≤ P.heap.size) :
    NetW (w4.setCell ⟨gx, 2, none⟩ v4) base gx { x with flying := x.flying ++ [m] } rv sv v4 cv tv ∧ Fr base P (w4.setCell ⟨gx, 2, none⟩ v4) := by
  have hs0 : Same [152, 81, 36, 154, 114, 9, 3, 4, 64, 102, 29] 0 P w4 := Same.own hf.row hg (Nat.zero_le _) (by decide)
  have hbox := blk_keep h.box hs0 (by simp)
  have hs1 : Same [81, 36, 89, 154, 114, 9, 3, 4, 64, 102, 29] 0 w4 (w4.setCell ⟨gx, 2, none⟩ v4) := Same.set_ hbox (Nat.zero_le _) (by decide) 2 v4
  have hs : Same [81, 36, 154, 114, 9, 3, 4, 64, 102, 29] 0 P (w4.setCell ⟨gx, 2, none⟩ v4) := (hs0.mono (by simp) (Nat.le_refl _)).trans (hs1.mono (by simp) (Nat.le_refl _))
  have hp := hf.push hm hx.len (hx.same (Ts := [9]) (by simp) (hs0.mono (by simp) (Nat.le_refl _))) h4 (fun _ _ hx => hx.same (Ts := [9]) (by simp) (hs0.mono (by simp) (Nat.le_refl _)))
  refine ⟨⟨hbox.set_ 2 v4, own_reps h.reps hs (by simp) (by simp), own_slots h.slots hs (by simp) (by simp), own_fly ⟨_, hp⟩ hs1 (by simp) (by simp), own_custs h.cust hs (by simp), own_tolds h.told hs (by simp), h.lx⟩, ?_⟩
  exact ⟨((Below.refl base P).grown hg hb (fun q hq => (hf.row.lt q hq).1)).setCell (p := ⟨gx, 2, none⟩) h.lx v4, hs.mono (by simp) (Nat.le_refl _)⟩
/-- A client is told. -/
theorem NetW.pushTold (h : NetW P base gx x rv sv fv cv tv) {css : List (List Value)} (hf : OwnR 114 9 88 ToldE P base tv x.told css) {t : Scu.Told} (hm : (x.told.length + 1) * 88 ≤ R47)
    (h4 : w4.ownsRow base 114 9 v4 (x.told.length + 1) (css.flatten ++ toldV t)) (hg : P.grownBy w4 tv.ownBlock) (hb : base ≤ P.heap.size) :
    NetW (w4.setCell ⟨gx, 4, none⟩ v4) base gx { x with told := x.told ++ [t] } rv sv fv cv v4 ∧ Fr base P (w4.setCell ⟨gx, 4, none⟩ v4) := by
  have hs0 : Same [152, 81, 36, 154, 89, 9, 3, 4, 64, 102, 29] 0 P w4 := Same.own hf.row hg (Nat.zero_le _) (by decide)
  have hbox := blk_keep h.box hs0 (by simp)
  have hs1 : Same [81, 36, 89, 154, 114, 9, 3, 4, 64, 102, 29] 0 w4 (w4.setCell ⟨gx, 4, none⟩ v4) := Same.set_ hbox (Nat.zero_le _) (by decide) 4 v4
  have hs : Same [81, 36, 154, 89, 9, 3, 4, 64, 102, 29] 0 P (w4.setCell ⟨gx, 4, none⟩ v4) := (hs0.mono (by simp) (Nat.le_refl _)).trans (hs1.mono (by simp) (Nat.le_refl _))
  have hp := hf.push hm (x := t) (cs := toldV t) rfl rfl h4 (fun _ _ hx => hx)
  refine ⟨⟨hbox.set_ 4 v4, own_reps h.reps hs (by simp) (by simp), own_slots h.slots hs (by simp) (by simp), own_fly h.fly hs (by simp) (by simp), own_custs h.cust hs (by simp), own_tolds ⟨_, hp⟩ hs1 (by simp), h.lx⟩, ?_⟩
  exact ⟨((Below.refl base P).grown hg hb (fun q hq => (hf.row.lt q hq).1)).setCell (p := ⟨gx, 4, none⟩) h.lx v4, hs.mono (by simp) (Nat.le_refl _)⟩
/-- Cells of a client are set. -/
theorem NetW.putCust {g n c k : Nat} (h : NetW w base gx x rv sv fv (.slice (some ⟨g, 0, none⟩) n c) tv) (hk : k < x.clients.length) (j : Nat) (vs : List Value) (hj : j + vs.length ≤ 8) {u : Scu.Customer} (hu : putAt (custV x.clients[k]) j vs = custV u) :
    NetW (w.setCells g (k * 8 + j) vs) base gx { x with clients := x.clients.set k u } rv sv fv (.slice (some ⟨g, 0, none⟩) n c) tv ∧ Fr base w (w.setCells g (k * 8 + j) vs) := by
  obtain ⟨css, hr⟩ := h.cust
  obtain ⟨g', c', cs, e, hb, ⟨cur, hB⟩, hcs, _, hel, _⟩ := hr.at_ hk
  cases e
  have hcv : cs = custV x.clients[k] := hel
  subst hcv
  have hs : Same [152, 81, 36, 89, 114, 9, 3, 4, 64, 102, 29] 0 w (w.setCells g (k * 8 + j) vs) := Same.sets vs (k * 8 + j) w cur hB (by decide)
  exact ⟨⟨blk_keep h.box hs (by simp), own_reps h.reps hs (by simp) (by simp), own_slots h.slots hs (by simp) (by simp), own_fly h.fly hs (by simp) (by simp), ⟨_, hr.puts hk j vs hj hcs hu (fun _ _ hx => hx) rfl⟩, own_tolds h.told hs (by simp), h.lx⟩, below_sets hb vs (k * 8 + j) w w (Below.refl _ _), hs.mono (by simp) (Nat.le_refl _)⟩
/-- What the net holds at a place. -/
theorem NetW.repAt (h : NetW w base gx x rv sv fv cv tv) {k : Nat} (hk : k < x.replicas.length) : ∃ g c lu hv wv gv nv, rv = .slice (some ⟨g, 0, none⟩) x.replicas.length c ∧ base ≤ g ∧ g < w.heap.size ∧ IsRep w 0 lu hv wv gv nv x.replicas[k] ∧ w.rangeAt g (k * 10) (repV x.replicas[k] lu hv wv gv nv) ∧ w.there g (k * 10) 10 ∧ ∃ cur, Blk w g 81 cur := by
  obtain ⟨css, hr⟩ := h.reps
  obtain ⟨g, c, cs, e, hb, ⟨cur, hB⟩, hcs, _, ⟨lu, hv, wv, gv, nv, rfl, hi⟩, hra, hth⟩ := hr.at_ hk
  exact ⟨g, c, lu, hv, wv, gv, nv, e, hb, hB.lt, hi, hra, hth, cur, hB⟩
theorem NetW.slotAt (h : NetW w base gx x rv sv fv cv tv) {k : Nat} (hk : k < x.slots.length) : ∃ g c u, sv = .slice (some ⟨g, 0, none⟩) x.slots.length c ∧ base ≤ g ∧ g < w.heap.size ∧ IsStrs w 0 u x.slots[k] ∧ w.cell? ⟨g, k, none⟩ = some u ∧ (∀ j, w.frozen? ⟨g, j, none⟩ = false) ∧ ∃ cur, Blk w g 36 cur := by
  obtain ⟨css, hr⟩ := h.slots
  obtain ⟨g, c, cs, e, hb, ⟨cur, hB⟩, hcs, _, ⟨u, rfl, hi⟩, hra, hth⟩ := hr.at_ hk
  refine ⟨g, c, u, e, hb, hB.lt, hi, ?_, hB.frozen, cur, hB⟩
  have := hra 0 u rfl
  rwa [Nat.mul_one] at this
theorem NetW.flyAt (h : NetW w base gx x rv sv fv cv tv) {k : Nat} (hk : k < x.flying.length) : ∃ g c lu, fv = .slice (some ⟨g, 0, none⟩) x.flying.length c ∧ base ≤ g ∧ g < w.heap.size ∧ IsStrs w 0 lu x.flying[k].log ∧ w.rangeAt g (k * 8) (msgV x.flying[k] lu) ∧ w.there g (k * 8) 8 ∧ ∃ cur, Blk w g 89 cur := by
  obtain ⟨css, hr⟩ := h.fly
  obtain ⟨g, c, cs, e, hb, ⟨cur, hB⟩, hcs, _, ⟨lu, rfl, hi⟩, hra, hth⟩ := hr.at_ hk
  exact ⟨g, c, lu, e, hb, hB.lt, hi, hra, hth, cur, hB⟩
theorem NetW.custAt (h : NetW w base gx x rv sv fv cv tv) {k : Nat} (hk : k < x.clients.length) : ∃ g c, cv = .slice (some ⟨g, 0, none⟩) x.clients.length c ∧ base ≤ g ∧ g < w.heap.size ∧ w.rangeAt g (k * 8) (custV x.clients[k]) ∧ w.there g (k * 8) 8 ∧ ∃ cur, Blk w g 154 cur := by
  obtain ⟨css, hr⟩ := h.cust
  obtain ⟨g, c, cs, e, hb, ⟨cur, hB⟩, hcs, _, hel, hra, hth⟩ := hr.at_ hk
  have hcv : cs = custV x.clients[k] := hel
  subst hcv
  exact ⟨g, c, e, hb, hB.lt, hra, hth, cur, hB⟩
end
end Go.Proofs.YtfpiembhlgcelaaDoor
/- Walks: net.send: messages are on their way, as many as there is room for. -/
namespace Go.Proofs.YtfpiembhlgcelaaDoor
set_option linter.unusedVariables false
set_option linter.unusedSimpArgs false
open Go.RowKit
set_option maxHeartbeats 4000000
set_option maxRecDepth 100000

theorem addr_add0q (g j : Nat) : (⟨g, 0, none⟩ : Addr).add j = ⟨g, j, none⟩ := by unfold Addr.add; split <;> simp_all
/-- A row whose block stays as it was. -/
theorem IsRow.at_block {α : Type} {t : TypeId} {m bytes : Nat} {El : World → Nat → List Value → α → Prop} {w w' : World} {v : Value} {xs : List α} (h : IsRow t m bytes El w 0 v xs) (hs : w.heap.size ≤ w'.heap.size)
    (hk : ∀ g, v.ownBlock = some g → g < w.heap.size → w'.heap[g]? = w.heap[g]?) (hel : ∀ cs x, El w 0 cs x → El w' 0 cs x) : IsRow t m bytes El w' 0 v xs := by
  obtain ⟨⟨A, c, css, rfl, h2, h3, h4, h5, h6⟩, h7⟩ := h
  refine ⟨⟨A, c, css, rfl, h2, h3, h4, ?_, fun j cs x hj hx => hel cs x (h6 j cs x hj hx)⟩, h7⟩
  rcases h5 with h | ⟨g, o, rfl, hg, hh, hc⟩
  · exact .inl h
  · have e := hk g rfl hg
    refine .inr ⟨g, o, rfl, Nat.lt_of_lt_of_le hg hs, ?_, fun j u hj => ?_⟩
    · rw [e]; exact hh
    · rw [World.cell?_of_block (w := w) (w' := w') (a := ⟨g, o + j, none⟩) e]
      exact hc j u hj
theorem sendAll_next {f ms : List Scu.Message} {k : Nat} (hk : k < ms.length) : Scu.sendAll f (ms.take (k + 1)) = if (Scu.sendAll f (ms.take k)).length < 80 then Scu.sendAll f (ms.take k) ++ [ms[k]] else Scu.sendAll f (ms.take k) := by
  rw [List.take_succ_eq_append_getElem hk]
  unfold Scu.sendAll
  rw [List.foldl_append]
  rfl
theorem netSendAll_len : ∀ (l f : List Scu.Message), f.length ≤ 80 → (Scu.sendAll f l).length ≤ 80
  | [], f, h => h
  | m :: l, f, h => by
    show (Scu.sendAll (if f.length < 80 then f ++ [m] else f) l).length ≤ 80
    refine netSendAll_len l _ ?_
    split
    · simp; omega
    · exact h
/-- Across the append of a message that was boxed. -/
theorem net_push_fly {Wd x4 : World} {base gx n : Nat} {y : Scu.Net} {rv sv fv cv tv v4 lx : Value} {fss : List (List Value)} {m : Scu.Message} {o : Obj} (hnet : NetW Wd base gx y rv sv fv cv tv) (hfl : OwnR 89 8 80 MsgE Wd base fv y.flying fss) (hx : IsStrs Wd 0 lx m.log)
    (hbase : base ≤ Wd.heap.size) (hm : (y.flying.length + 1) * 80 ≤ R47) (hn : n = y.flying.length) (h4 : x4.ownsRow base 89 8 v4 (n + 1) (fss.flatten ++ msgV m lx)) (hg : ((Wd.alloc o).drew).grownBy x4 fv.ownBlock) :
    (NetW (x4.setCell ⟨gx, 2, none⟩ v4) base gx { y with flying := y.flying ++ [m] } rv sv v4 cv tv ∧ Fr base Wd (x4.setCell ⟨gx, 2, none⟩ v4)) ∧ x4.cell? ⟨gx, 2, none⟩ = some fv ∧ (∀ j, x4.frozen? ⟨gx, j, none⟩ = false) ∧ gx < x4.heap.size := by
  subst hn
  have hal := (below_alloc Wd o).drew
  have hP := hnet.below hal
  have hsz := hal.size
  have hnx := hP.pushFly (m := m) (cs := msgV m lx) (hfl.same (B := 0) (Ts := [9, 89]) (by simp) (Same.below hal) (fun _ _ h => h.same (Ts := [9]) (by simp) (Same.below hal))) ⟨_, rfl, hx.below hal⟩ hm h4 hg (Nat.le_trans hbase hsz)
  have hwb4 := blk_keep hP.box (Ts := [152]) (Same.own (own_below hfl.row hal) hg (Nat.zero_le _) (by decide)) (by simp)
  exact ⟨⟨hnx.1, (Fr.of hal hbase).trans hnx.2⟩, hwb4.cell 2, hwb4.frozen, hwb4.lt⟩
theorem src_msg {W : World} {m : Scu.Message} {Al : Option Addr} {nl cl : Nat} : ∀ (j : Nat) (v : Value), (msgV m (.slice Al nl cl))[j]? = some v → ((W.alloc (Obj.cells #[.int .i64 m.kind, .int .i64 m.from_, .int .i64 m.to, .int .i64 m.view, .int .i64 m.normal, .int .i64 m.commit, .int .i64 m.n, .slice Al nl cl] 89)).drew).cell? ((⟨W.heap.size, 0, none⟩ : Addr).add j) = some v := by
  intro j v hj
  rw [addr_add0q]
  refine (((Blk.new W 89 #[.int .i64 m.kind, .int .i64 m.from_, .int .i64 m.to, .int .i64 m.view, .int .i64 m.normal, .int .i64 m.commit, .int .i64 m.n, .slice Al nl cl]).drew).cell j).trans ?_
  simpa [msgV] using hj
theorem one_msg {m : Scu.Message} {Al : Option Addr} {nl cl : Nat} : ∀ v ∈ msgV m (.slice Al nl cl), v.oneCell' = true := by
  intro v hv
  simp only [msgV, List.mem_cons, List.not_mem_nil, or_false] at hv
  rcases hv with rfl | rfl | rfl | rfl | rfl | rfl | rfl | rfl <;> rfl
structure SndI (base gx : Nat) (x : Scu.Net) (w : World) (ov : Value) (ms : List Scu.Message) (k : Nat) (rv sv fv cv tv : Value) (wr : World) : Prop where
  net : NetW wr base gx { x with flying := Scu.sendAll x.flying (ms.take k) } rv sv fv cv tv
  row : IsRow 89 8 80 MsgE wr 0 ov ms
  apart : ∀ g, ov.ownBlock = some g → fv.ownBlock ≠ some g
  low : Fr base w wr
theorem SndI.below {base gx : Nat} {x : Scu.Net} {w : World} {ov : Value} {ms : List Scu.Message} {k : Nat} {rv sv fv cv tv : Value} {wr w' : World} (hb : base ≤ w.heap.size) (h : SndI base gx x w ov ms k rv sv fv cv tv wr) (hd : Below wr.heap.size wr w') : SndI base gx x w ov ms k rv sv fv cv tv w' :=
  ⟨h.net.below hd, h.row.same (Ts := [9, 89]) (by simp) (Same.below hd) (fun _ _ h => h.same (Ts := [9]) (by simp) (Same.below hd)), h.apart, h.low.trans (Fr.of hd (Nat.le_trans hb h.low.size))⟩
theorem netSend_c (A : Option Addr) (c : Nat) (ms : List Scu.Message) (w : World) (base gx : Nat) (x : Scu.Net) (rv sv fv cv tv : Value) (hN : NetW w base gx x rv sv fv cv tv) (hb : base ≤ w.heap.size) (hx : IsRow 89 8 80 MsgE w 0 (.slice A ms.length c) ms)
    (hap : ∀ g, (Value.slice A ms.length c).ownBlock = some g → fv.ownBlock ≠ some g) (h80 : x.flying.length ≤ 80) :
    Calls Tryd.prog 115 #[.pointer (some ⟨gx, 0, none⟩), .slice A ms.length c] w fun e w' => e = .returned (.tuple #[]) ∧ NetE w' base gx { x with flying := Scu.sendAll x.flying ms } ∧ Fr base w w' := by
  have hml : ms.length ≤ 1759218604390 := by have := hx.len; unfold R47 at this; omega
  have HI := Lib.hid (show SndI base gx x w (.slice A ms.length c) ms 0 rv sv fv cv tv w from ⟨hN, hx, hap, Fr.refl _ _⟩)
  have hgx := hN.box.lt
  clear hN hx hap
  go_enter Tryd.func115, Tryd.ntmps115
  go_wp2_with fail
  go_loopw [8] (fun i wr => ∃ (k : Nat) (rv sv fv cv tv : Value), k ≤ ms.length ∧ i = .int .i64 k ∧ SndI base gx x w (.slice A ms.length c) ms k rv sv fv cv tv wr) (fun i _ => ms.length - (intOf i).toNat)
  case atStart => exact ⟨0, _, _, _, _, _, Nat.zero_le _, rfl, HI.out⟩
  case round =>
    obtain ⟨k, rv, sv, fv, cv, tv, hk, rfl, hI⟩ := hrel
    have HR := Lib.hid hI
    clear hI
    by_cases hlt : k < ms.length
    · have hlt' : (k : Int) < (ms.length : Int) := by omega
      obtain ⟨⟨A', c', css, e, _, hcl, hc8, hrd, hce⟩, _⟩ := HR.out.row
      obtain ⟨rfl, rfl⟩ : A = A' ∧ c = c' := by cases e; exact ⟨rfl, rfl⟩
      obtain ⟨g, o, cs, rfl, hgl, hcs8, hcell, lx, rfl, hlx⟩ := row_get hcl hc8 (by decide) hrd hce hlt
      clear e hcl hc8 hrd hce hcs8
      obtain ⟨m, hm⟩ : ∃ m, ms[k] = m := ⟨_, rfl⟩
      rw [hm] at hcell hlx
      have c0 : wr.cell? ⟨g, o + k * 8, none⟩ = some (.int .i64 m.kind) := hcell 0 _ rfl
      have c1 : wr.cell? ⟨g, o + k * 8 + 1, none⟩ = some (.int .i64 m.from_) := hcell 1 _ rfl
      have c2 : wr.cell? ⟨g, o + k * 8 + 2, none⟩ = some (.int .i64 m.to) := hcell 2 _ rfl
      have c3 : wr.cell? ⟨g, o + k * 8 + 3, none⟩ = some (.int .i64 m.view) := hcell 3 _ rfl
      have c4 : wr.cell? ⟨g, o + k * 8 + 4, none⟩ = some (.int .i64 m.normal) := hcell 4 _ rfl
      have c5 : wr.cell? ⟨g, o + k * 8 + 5, none⟩ = some (.int .i64 m.commit) := hcell 5 _ rfl
      have c6 : wr.cell? ⟨g, o + k * 8 + 6, none⟩ = some (.int .i64 m.n) := hcell 6 _ rfl
      have c7 : wr.cell? ⟨g, o + k * 8 + 7, none⟩ = some lx := hcell 7 _ rfl
      obtain ⟨Al, nl, cl, rfl⟩ := hlx.form
      have HLX := Lib.hid hlx
      have HM := Lib.hid hm
      clear hcell hlx hm
      go_upto_region 3 with fail
      obtain ⟨Wd, hWd⟩ : ∃ W, W = wr.alloc (Obj.cells #[.int .i64 m.kind, .int .i64 m.from_, .int .i64 m.to, .int .i64 m.view, .int .i64 m.normal, .int .i64 m.commit, .int .i64 m.n, .slice Al nl cl] 89) := ⟨_, rfl⟩
      rw [← hWd]
      have hbw : Below wr.heap.size wr Wd := by rw [hWd]; exact below_alloc _ _
      have hn : Blk Wd wr.heap.size 89 #[.int .i64 m.kind, .int .i64 m.from_, .int .i64 m.to, .int .i64 m.view, .int .i64 m.normal, .int .i64 m.commit, .int .i64 m.n, .slice Al nl cl] := by rw [hWd]; exact Blk.new _ _ _
      have hsi := HR.out.below hb hbw
      obtain ⟨fs, hfs⟩ : ∃ fs, Scu.sendAll x.flying (ms.take k) = fs := ⟨_, rfl⟩
      have hf80 : fs.length ≤ 80 := by rw [← hfs]; exact netSendAll_len _ _ h80
      have hnet := hsi.net
      rw [hfs] at hnet
      obtain ⟨B0, e0, B1, e1, Af, cf, B3, e3, B4, e4, rfl, rfl, rfl, rfl, rfl⟩ := hnet.forms
      dsimp only at hnet hsi
      obtain ⟨fss, hfl⟩ := hnet.fly
      dsimp only at hfl
      have d2 := hnet.box.cell 2
      simp only [List.getElem?_toArray, List.getElem?_cons_zero, List.getElem?_cons_succ] at d2
      have q0 := hn.cell 0
      have q1 := hn.cell 1
      have q2 := hn.cell 2
      have q3 := hn.cell 3
      have q4 := hn.cell 4
      have q5 := hn.cell 5
      have q6 := hn.cell 6
      have q7 := hn.cell 7
      simp only [List.getElem?_toArray, List.getElem?_cons_zero, List.getElem?_cons_succ] at q0 q1 q2 q3 q4 q5 q6 q7
      have dz := hnet.box.frozen
      have dl := hnet.box.lt
      have ql := hn.lt
      have HNET := Lib.hid hnet
      have HFL := Lib.hid hfl
      have HSI := Lib.hid hsi
      have HFS := Lib.hid hfs
      have HX := Lib.hid (HLX.out.below hbw)
      have hgW : g < Wd.heap.size := Nat.lt_of_lt_of_le hgl hbw.size
      have hbase : base ≤ Wd.heap.size := Nat.le_trans hb HSI.out.low.size
      clear hWd hbw hn hsi hfs hnet hfl c0 c1 c2 c3 c4 c5 c6 c7
      by_cases hl : fs.length < 80
      · have hl' : (fs.length : Int) < 80 := by omega
        have HBA := Lib.hid (show base ≤ ((Wd.alloc (Obj.cells #[.int .i64 m.kind, .int .i64 m.from_, .int .i64 m.to, .int .i64 m.view, .int .i64 m.normal, .int .i64 m.commit, .int .i64 m.n, .slice Al nl cl] 89)).drew).heap.size from Nat.le_trans hbase ((below_alloc Wd _).drew).size)
        have HN80 := Lib.hid (show fs.length + 1 ≤ maxLen ∧ (fs.length + 1) * 80 ≤ 140737488355328 ∧ (fs.length + 1) * 80 ≤ R47 from ⟨by unfold maxLen; omega, by omega, by unfold R47; omega⟩)
        go_wp2_with fail
        go_region_law (first
          | (refine step_app _ rfl (.tmp 22) (.tmp 24) 84 rfl el_msgs base (.slice Af fs.length cf) fs.length fss.flatten rfl ?_ (.slice (some ⟨Wd.heap.size, 0, none⟩) 1 1) 1 (msgV m (.slice Al nl cl)) rfl ⟨rfl, .inr ⟨_, _, rfl, ?_⟩⟩ ?_ ?_ ?_ ?_ ?_
             · exact (own_below HFL.out.row (below_alloc Wd _).drew)
             · exact src_msg
             · exact one_msg
             · exact HN80.out.1
             · exact HN80.out.2.1
             · exact HBA.out
             intro v4 x4 h4 hg4 hv4
             have hnx := net_push_fly HNET.out HFL.out HX.out hbase HN80.out.2.2 rfl h4 hg4
             have g2 := hnx.2.1
             have gz := hnx.2.2.1
             have gl := hnx.2.2.2
             obtain ⟨A9, c9, rfl, _, _, _, _⟩ := rd_own h4
             have HNX := Lib.hid hnx.1
             have HG4 := Lib.hid (And.intro hg4 hv4)
             clear hnx h4 hg4 hv4))
        all_goals
          have hal := (below_alloc Wd (Obj.cells #[.int .i64 m.kind, .int .i64 m.from_, .int .i64 m.to, .int .i64 m.view, .int .i64 m.normal, .int .i64 m.commit, .int .i64 m.n, .slice Al nl cl] 89)).drew
          have hgb : g < ((Wd.alloc (Obj.cells #[.int .i64 m.kind, .int .i64 m.from_, .int .i64 m.to, .int .i64 m.view, .int .i64 m.normal, .int .i64 m.commit, .int .i64 m.n, .slice Al nl cl] 89)).drew).heap.size := Nat.lt_of_lt_of_le hgW hal.size
          have hne := HSI.out.apart g rfl
          have hngx : g ≠ gx := fun e => by
            obtain ⟨⟨A', c', css', e', _, hcl', hc8', hrd', hce'⟩, _⟩ := HSI.out.row
            cases e'
            rcases hrd' with h | ⟨g', o', e'', _, hh, _⟩
            · have : css'.flatten.length = 0 := by rw [h]; rfl
              rw [flatten_len hc8', hcl'] at this
              omega
            · cases e''
              rcases hh with hh | ⟨C, fz, hh⟩
              · omega
              · have hbx := HNET.out.box
                unfold Blk at hbx
                rw [e, hbx] at hh
                cases hh
          have hrow : IsRow 89 8 80 MsgE (x4.setCell ⟨gx, 2, none⟩ (.slice A9 (fs.length + 1) c9)) 0 (.slice (some ⟨g, o, none⟩) ms.length c) ms := by
            have hr1 := HSI.out.row.same (Ts := [9, 89]) (by simp) (Same.below hal) (fun _ _ h => h.same (Ts := [9]) (by simp) (Same.below hal))
            have hbx4 := blk_keep (HNET.out.below hal).box (Ts := [152]) (Same.own (own_below HFL.out.row hal) HG4.out.1 (Nat.zero_le _) (by decide)) (by simp)
            refine hr1.at_block (by simpa [World.setCell] using HG4.out.1.size) (fun g' hg' hlt2 => ?_) (fun _ _ h => h.same (Ts := [9]) (by simp) ((Same.own (own_below HFL.out.row hal) HG4.out.1 (Nat.zero_le _) (by decide)).trans (Same.set_ hbx4 (Nat.zero_le _) (by decide) 2 _)))
            cases hg'
            exact (Below.heap_setCell x4 ⟨gx, 2, none⟩ _ g hngx).trans (HG4.out.1.block g hlt2 (fun e => hne e.symm))
          have hap : ∀ g', (Value.slice (some ⟨g, o, none⟩) ms.length c).ownBlock = some g' → (Value.slice A9 (fs.length + 1) c9).ownBlock ≠ some g' := fun g' hg' e => by
            cases hg'
            rcases HG4.out.2 with h' | h'
            · rw [h'] at e
              exact hne e
            · rw [h'] at e
              simp only [Option.some.injEq] at e
              omega
          have hlow := HSI.out.low.trans HNX.out.2
          have HFIN := Lib.hid (show SndI base gx x w (.slice (some ⟨g, o, none⟩) ms.length c) ms (k + 1) _ _ (.slice A9 (fs.length + 1) c9) _ _ (x4.setCell ⟨gx, 2, none⟩ (.slice A9 (fs.length + 1) c9)) from
            ⟨by rw [sendAll_next hlt, HFS.out, if_pos hl, HM.out]; exact HNX.out.1, hrow, hap, hlow⟩)
          clear hal hgb hne hngx hrow hap hlow g2 gz gl d2 dz dl ql q0 q1 q2 q3 q4 q5 q6 q7
          go_wp2_with fail
          go_roundw
          case rel => exact ⟨k + 1, _, _, _, _, _, by omega, rfl, HFIN.out⟩
          case measure => simp only [intOf]; omega
      · have hl' : ¬ (fs.length : Int) < 80 := by omega
        have hns : SndI base gx x w (.slice (some ⟨g, o, none⟩) ms.length c) ms (k + 1) _ _ (.slice Af fs.length cf) _ _ Wd :=
          ⟨by rw [sendAll_next hlt, HFS.out, if_neg hl]; exact HNET.out, HSI.out.row, HSI.out.apart, HSI.out.low⟩
        have HFIN := Lib.hid hns
        clear hns
        go_wp2_with fail
        go_roundw
        case rel => exact ⟨k + 1, _, _, _, _, _, by omega, rfl, HFIN.out⟩
        case measure => simp only [intOf]; omega
    · have hkl : k = ms.length := by omega
      have hlt' : ¬ (k : Int) < (ms.length : Int) := by omega
      have HF := Lib.hid (show NetE wr base gx { x with flying := Scu.sendAll x.flying ms } ∧ Fr base w wr from by
        have := HR.out.net
        rw [hkl, List.take_length] at this
        exact ⟨this.e, HR.out.low⟩)
      clear hkl
      go_wp2
      go_end0
      exact ⟨rfl, HF.out⟩
end Go.Proofs.YtfpiembhlgcelaaDoor
/- Plain: what the loops of stage.Encode and stage.Decode have written and read so far. -/
namespace Scu
def encN (k : Kept) (gen : Int) (j : Nat) : Str := catS (((nums k gen).take j).map numBytes)
theorem encN_zero (k : Kept) (gen : Int) : encN k gen 0 = str0 := rfl
theorem catS_one (s : Str) : catS [s] = s := append_str0 s
theorem encN_succ {k : Kept} {gen : Int} {j : Nat} (h : j < (nums k gen).length) : encN k gen (j + 1) = encN k gen j ++ numBytes (nums k gen)[j] := by
  unfold encN
  rw [List.take_succ_eq_append_getElem h, List.map_append, catS_append, List.map_singleton, catS_one]
theorem nums_len (k : Kept) (gen : Int) : (nums k gen).length = 6 := rfl
theorem encN_size (k : Kept) (gen : Int) (j : Nat) : (encN k gen j).size ≤ 24 := by
  unfold encN
  rw [catS_nums_size, List.length_take, nums_len]
  omega
def encT (k : Kept) (gen : Int) (j : Nat) : Str := encN k gen 6 ++ catS ((k.log.take j).map textBytes)
theorem encT_zero (k : Kept) (gen : Int) : encT k gen 0 = encN k gen 6 := append_str0 _
theorem encT_succ {k : Kept} {gen : Int} {j : Nat} (h : j < k.log.length) : encT k gen (j + 1) = encT k gen j ++ textBytes k.log[j] := by
  unfold encT
  rw [List.take_succ_eq_append_getElem h, List.map_append, catS_append, List.map_singleton, catS_one, append_assoc_s]
theorem encT_all (k : Kept) (gen : Int) : encT k gen k.log.length = keptBody k gen := by
  unfold encT encN
  rw [keptBody_eq, List.take_length, List.take_of_length_le (by rw [nums_len]; omega)]
theorem encT_size {k : Kept} (h : keptFault k = 0) (gen : Int) (j : Nat) : (encT k gen j).size ≤ 2484 := by
  have h1 := encN_size k gen 6
  have h2 := catS_texts_size (k.log.take j) (fun s hs => log_small h s (List.mem_of_mem_take hs))
  have h3 := (keptFault_ok h).2.2.2.2.2.1
  have h4 : (k.log.take j).length ≤ k.log.length := by rw [List.length_take]; omega
  unfold encT
  rw [ByteArray.size_append]
  omega
theorem log_at {k : Kept} (h : keptFault k = 0) {j : Nat} (hj : j < k.log.length) : k.log[j].size ≤ 40 := log_small h _ (List.getElem_mem hj)

/- reading -/
section
variable {α : Type}
def glue (xs : List α) (q : List α × Str × Int) : List α × Str × Int := if q.2.2 ≠ 0 then ([], str0, q.2.2) else (xs ++ q.1, q.2.1, 0)
theorem glue_bad (xs : List α) (q : List α × Str × Int) (h : q.2.2 ≠ 0) : glue xs q = ([], str0, q.2.2) := if_pos h
theorem glue_glue (xs ys : List α) (q : List α × Str × Int) : glue xs (glue ys q) = glue (xs ++ ys) q := by
  unfold glue
  by_cases h : q.2.2 = 0
  · simp [h]
  · simp [h]
theorem glue_done (xs : List α) (s : Str) : glue xs ([], s, 0) = (xs, s, 0) := by simp [glue]
end
theorem readNumbers_bad {n : Nat} {s : Str} (h : (readNumber s).2.2 ≠ 0) : readNumbers (n + 1) s = ([], str0, (readNumber s).2.2) := by
  unfold readNumbers
  simp only
  rw [if_pos h]
theorem readNumbers_more {n : Nat} {s : Str} (h : (readNumber s).2.2 = 0) : readNumbers (n + 1) s = glue [(readNumber s).1] (readNumbers n (readNumber s).2.1) := by
  conv => lhs; unfold readNumbers
  simp only
  rw [if_neg (by simp [h])]
  rfl
theorem readTexts_bad {n : Nat} {s : Str} (h : (readText s).2.2 ≠ 0) : readTexts (n + 1) s = ([], str0, (readText s).2.2) := by
  unfold readTexts
  simp only
  rw [if_pos h]
theorem readTexts_more {n : Nat} {s : Str} (h : (readText s).2.2 = 0) : readTexts (n + 1) s = glue [(readText s).1] (readTexts n (readText s).2.1) := by
  conv => lhs; unfold readTexts
  simp only
  rw [if_neg (by simp [h])]
  rfl
theorem nil_glue (n : Nat) (s : Str) : readNumbers n s = glue [] (readNumbers n s) := by
  by_cases h : (readNumbers n s).2.2 = 0
  · unfold glue
    rw [if_neg (by simp [h])]
    rw [List.nil_append, ← h]
  · rw [glue_bad _ _ h]
    cases n with
    | zero => exact absurd rfl h
    | succ n =>
      by_cases hr : (readNumber s).2.2 = 0
      · rw [readNumbers_more hr] at h ⊢
        by_cases hq : (readNumbers n (readNumber s).2.1).2.2 = 0
        · exact absurd (by unfold glue; rw [if_neg (by simp [hq])]) h
        · rw [glue_bad _ _ hq]
      · rw [readNumbers_bad hr]
theorem nil_glueT (n : Nat) (s : Str) : readTexts n s = glue [] (readTexts n s) := by
  by_cases h : (readTexts n s).2.2 = 0
  · unfold glue
    rw [if_neg (by simp [h])]
    rw [List.nil_append, ← h]
  · rw [glue_bad _ _ h]
    cases n with
    | zero => exact absurd rfl h
    | succ n =>
      by_cases hr : (readText s).2.2 = 0
      · rw [readTexts_more hr] at h ⊢
        by_cases hq : (readTexts n (readText s).2.1).2.2 = 0
        · exact absurd (by unfold glue; rw [if_neg (by simp [hq])]) h
        · rw [glue_bad _ _ hq]
      · rw [readTexts_bad hr]
theorem rn_rng {s : Str} (h : (readNumber s).2.2 = 0) : 0 ≤ (readNumber s).1 ∧ (readNumber s).1 ≤ 1073741824 := by
  unfold readNumber at h ⊢
  split at h
  · cases h
  · split at h
    · cases h
    · rename_i h1 h2
      rw [if_neg h1, if_neg h2]
      have := num4_range s
      constructor
      · exact this.1
      · show num4 s ≤ 1073741824
        omega
theorem rn_size (s : Str) : (readNumber s).2.1.size ≤ s.size := by
  unfold readNumber
  split
  · exact Nat.zero_le _
  split
  · exact Nat.zero_le _
  · show (dropS s 4).size ≤ s.size
    unfold dropS
    rw [ByteArray.size_extract]
    omega
theorem rt_size (s : Str) : (readText s).2.1.size ≤ s.size ∧ (readText s).1.size ≤ s.size := by
  unfold readText
  split
  · exact ⟨Nat.zero_le _, Nat.zero_le _⟩
  split
  · exact ⟨Nat.zero_le _, Nat.zero_le _⟩
  · refine ⟨?_, ?_⟩
    · show (dropS s _).size ≤ s.size
      unfold dropS
      rw [ByteArray.size_extract]
      omega
    · show (s.extract 1 _).size ≤ s.size
      rw [ByteArray.size_extract]
      omega
section
variable {s : Str}
theorem dec1 (h : 4000 < s.size) : stageDecode s = (kept0, 0, 1) := if_pos h
theorem dec2 (h : s.size < 4) : stageDecode s = (kept0, 0, 5) := by unfold stageDecode; rw [if_neg (by omega), if_pos h]
theorem dec3 (h1 : ¬ 4000 < s.size) (h2 : ¬ s.size < 4) (h : sealS (dropS s 4) ≠ s.extract 0 4) : stageDecode s = (kept0, 0, 11) := by unfold stageDecode; rw [if_neg h1, if_neg h2, if_pos h]
theorem dec4 (h1 : ¬ 4000 < s.size) (h2 : ¬ s.size < 4) (h3 : ¬ sealS (dropS s 4) ≠ s.extract 0 4) {e : Int} (h : readNumbers 6 (dropS s 4) = ([], str0, e)) (he : e ≠ 0) : stageDecode s = (kept0, 0, e) := by
  unfold stageDecode
  rw [if_neg h1, if_neg h2, if_neg h3]
  simp only [h]
  rw [if_pos he]
theorem dec5 (h1 : ¬ 4000 < s.size) (h2 : ¬ s.size < 4) (h3 : ¬ sealS (dropS s 4) ≠ s.extract 0 4) {a b c d e f : Int} {t : Str} (h : readNumbers 6 (dropS s 4) = ([a, b, c, d, e, f], t, 0)) :
    stageDecode s = if 1 < d ∨ 60 < f then (kept0, 0, 4) else if (readTexts f.toNat t).2.2 ≠ 0 then (kept0, 0, (readTexts f.toNat t).2.2) else if (readTexts f.toNat t).2.1 ≠ str0 then (kept0, 0, 4) else
      if keptFault ⟨b, c, d == 1, (readTexts f.toNat t).1, e⟩ ≠ 0 then (kept0, 0, keptFault ⟨b, c, d == 1, (readTexts f.toNat t).1, e⟩) else (⟨b, c, d == 1, (readTexts f.toNat t).1, e⟩, a, 0) := by
  unfold stageDecode
  rw [if_neg h1, if_neg h2, if_neg h3]
  simp only [h]
  rfl
end
end Scu

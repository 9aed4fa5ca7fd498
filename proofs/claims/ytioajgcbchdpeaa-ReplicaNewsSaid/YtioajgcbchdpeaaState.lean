/- Words for memory: what clients were told last; states. Walks: their comparison; new ones. -/
import Derived.Test.YtioajgcbchdpeaaSameW
import Derived.Test.YtioajgcbchdpeaaOpen
namespace Go.Proofs.Ytioajgcbchdpeaa
open Go.RowKit
set_option maxHeartbeats 400000
set_option maxRecDepth 100000

theorem flat_get {α : Type} (f : α → List Value) (m : Nat) (hf : ∀ x, (f x).length = m) : ∀ (l : List α) (k j : Nat) (hk : k < l.length), j < m → (l.flatMap f)[k * m + j]? = (f l[k])[j]?
  | x :: l, 0, j, _, hj => by
    simp only [List.flatMap_cons, Nat.zero_mul, Nat.zero_add, List.getElem_cons_zero]
    rw [List.getElem?_append_left (by rw [hf]; exact hj)]
  | x :: l, k + 1, j, hk, hj => by
    simp only [List.flatMap_cons, List.getElem_cons_succ]
    rw [List.getElem?_append_right (by rw [hf, Nat.succ_mul]; omega), hf, show (k + 1) * m + j - m = k * m + j from by rw [Nat.succ_mul]; omega]
    exact flat_get f m hf l k j (by simpa using hk) hj
theorem flat_len {α : Type} (f : α → List Value) (m : Nat) (hf : ∀ x, (f x).length = m) (l : List α) : (l.flatMap f).length = l.length * m := by
  induction l with
  | nil => simp
  | cons x l ih => simp only [List.flatMap_cons, List.length_append, hf, ih, List.length_cons, Nat.succ_mul]; omega

def lastC (l : Scu.Last) : List Value := [.int .i64 l.num, .int .i64 l.reply.code, .int .i64 l.reply.n, .string l.reply.data]
structure IsLasts (w : World) (B : Nat) (v : Value) (ls : List Scu.Last) : Prop where
  ex : ∃ A c, v = .slice A ls.length c ∧ ls.length ≤ c ∧ Rd w B 109 A (ls.flatMap lastC)
  len : ls.length * 40 ≤ R47
section
variable {w w' : World} {B B' : Nat} {v : Value} {ls : List Scu.Last}
theorem IsLasts.keep (h : IsLasts w B v ls) (hs : w.heap.size ≤ w'.heap.size) (hk : ∀ g, g < w.heap.size → (g < B ∨ ∃ C fz, w.heap[g]? = some (.cells C 109 fz)) → w'.heap[g]? = w.heap[g]?) : IsLasts w' B v ls :=
  ⟨let ⟨A, c, h1, h2, h3⟩ := h.ex; ⟨A, c, h1, h2, h3.keep hs hk⟩, h.len⟩
theorem IsLasts.below (h : IsLasts w B v ls) (hb : Below w.heap.size w w') : IsLasts w' B v ls := h.keep hb.size fun g hg _ => hb.block g hg
theorem IsLasts.drewN (h : IsLasts w B v ls) (n : Nat) : IsLasts (w.drewN n) B v ls := ⟨h.ex, h.len⟩
theorem IsLasts.alloc (h : IsLasts w B v ls) (o : Obj) : IsLasts (w.alloc o) B v ls := h.keep (by simp) fun g hg _ => Below.heap_alloc w o g hg
theorem IsLasts.mono (h : IsLasts w B v ls) (hB : B ≤ B') : IsLasts w B' v ls := ⟨let ⟨A, c, h1, h2, h3⟩ := h.ex; ⟨A, c, h1, h2, h3.mono hB⟩, h.len⟩
end
theorem last_get {w : World} {B : Nat} {A : Option Addr} {ls : List Scu.Last} {k : Nat} (h : Rd w B 109 A (ls.flatMap lastC)) (hk : k < ls.length) :
    ∃ g o, A = some ⟨g, o, none⟩ ∧ g < w.heap.size ∧ w.cell? ⟨g, o + k * 4, none⟩ = some (.int .i64 ls[k].num) ∧ w.cell? ⟨g, o + k * 4 + 1, none⟩ = some (.int .i64 ls[k].reply.code) ∧
      w.cell? ⟨g, o + k * 4 + 2, none⟩ = some (.int .i64 ls[k].reply.n) ∧ w.cell? ⟨g, o + k * 4 + 3, none⟩ = some (.string ls[k].reply.data) := by
  have e : ∀ j, j < 4 → (ls.flatMap lastC)[k * 4 + j]? = (lastC ls[k])[j]? := fun j hj => flat_get lastC 4 (fun _ => rfl) ls k j hk hj
  obtain ⟨g, o, h1, h2, h3⟩ := h.get (k := k * 4) (u := .int .i64 ls[k].num) (e 0 (by omega))
  obtain ⟨g', o', h1', _, h4⟩ := h.get (k := k * 4 + 1) (u := .int .i64 ls[k].reply.code) (e 1 (by omega))
  obtain ⟨g'', o'', h1'', _, h5⟩ := h.get (k := k * 4 + 2) (u := .int .i64 ls[k].reply.n) (e 2 (by omega))
  obtain ⟨g3, o3, h13, _, h6⟩ := h.get (k := k * 4 + 3) (u := .string ls[k].reply.data) (e 3 (by omega))
  rw [h1] at h1' h1'' h13
  simp only [Option.some.injEq, Addr.mk.injEq, and_true] at h1' h1'' h13
  obtain ⟨rfl, rfl⟩ := h1'
  obtain ⟨rfl, rfl⟩ := h1''
  obtain ⟨rfl, rfl⟩ := h13
  exact ⟨g, o, h1, h2, h3, by rw [Nat.add_assoc]; exact h4, by rw [Nat.add_assoc]; exact h5, by rw [Nat.add_assoc]; exact h6⟩

theorem IsVolume.keep {w w' : World} {B : Nat} {nv sv : Value} {x : Scu.Volume} (h : IsVolume w B nv sv x) (hs : w.heap.size ≤ w'.heap.size)
    (hk : ∀ g, g < w.heap.size → (g < B ∨ ∃ C fz t, (t = 9 ∨ t = 26) ∧ w.heap[g]? = some (.cells C t fz)) → w'.heap[g]? = w.heap[g]?) : IsVolume w' B nv sv x :=
  ⟨h.now.keep hs fun g hg hh => hk g hg (hh.imp id fun ⟨C, fz, e⟩ => ⟨C, fz, _, .inl rfl, e⟩), h.snaps.keep hs hk⟩
/-- A store into a block of another type. -/
theorem IsVolume.set_ {w : World} {B : Nat} {nv sv : Value} {x : Scu.Volume} (h : IsVolume w B nv sv x) {p : Addr} {t' : TypeId} {cs : Array Value} (hp : Blk w p.block t' cs) (hB : B ≤ p.block)
    (h1 : t' ≠ 9) (h2 : t' ≠ 26) (u : Value) : IsVolume (w.setCell p u) B nv sv x :=
  h.keep (by simp [World.setCell]) fun g _ hh => Below.heap_setCell w p u g (by
    rintro rfl
    rcases hh with hh | ⟨C, fz, t, ht, hh⟩
    · omega
    · unfold Blk at hp
      rw [hp] at hh
      cases hh
      rcases ht with ht | ht
      · exact h1 ht
      · exact h2 ht)
structure IsState (w : World) (B : Nat) (nv sv lv : Value) (x : Scu.State) : Prop where
  vol : IsVolume w B nv sv x.volume
  lasts : IsLasts w B lv x.lasts

/- rows that the call has made -/
theorem strs_blk {w : World} {g : Nat} {xs : List Scu.Str} (h : Blk w g 9 (xs.map Value.string).toArray) (h1 : xs.length * 16 ≤ R47) (h2 : ∀ s ∈ xs, s.size ≤ R47) :
    IsStrs w 0 (.slice (some ⟨g, 0, none⟩) xs.length xs.length) xs :=
  ⟨⟨_, _, rfl, Nat.le_refl _, .inr ⟨g, 0, rfl, h.lt, .inr ⟨_, _, h⟩, fun j u hj => by
    rw [h.cell]
    simpa using hj⟩⟩, h1, h2⟩
theorem lasts_blk {w : World} {g : Nat} {ls : List Scu.Last} (h : Blk w g 109 (ls.flatMap lastC).toArray) (h1 : ls.length * 40 ≤ R47) :
    IsLasts w 0 (.slice (some ⟨g, 0, none⟩) ls.length ls.length) ls :=
  ⟨⟨_, _, rfl, Nat.le_refl _, .inr ⟨g, 0, rfl, h.lt, .inr ⟨_, _, h⟩, fun j u hj => by
    rw [h.cell]
    simpa using hj⟩⟩, h1⟩

theorem make6 (w : World) : (Instr.makeSlice 26 (.int .i64 6) (.int .i64 6)).run Try.prog w =
    .ok (.slice (some ⟨w.heap.size, 0, none⟩) 6 6) (w.alloc (.cells #[.string ⟨#[]⟩, .string ⟨#[]⟩, .string ⟨#[]⟩, .string ⟨#[]⟩, .string ⟨#[]⟩, .string ⟨#[]⟩] 9)) := by kernel_rfl
theorem make4 (w : World) : (Instr.makeSlice 63 (.int .i64 4) (.int .i64 4)).run Try.prog w =
    .ok (.slice (some ⟨w.heap.size, 0, none⟩) 4 4) (w.alloc (.cells #[.int .i64 0, .int .i64 0, .int .i64 0, .string ⟨#[]⟩, .int .i64 0, .int .i64 0, .int .i64 0, .string ⟨#[]⟩, .int .i64 0, .int .i64 0, .int .i64 0, .string ⟨#[]⟩, .int .i64 0, .int .i64 0, .int .i64 0, .string ⟨#[]⟩] 109)) := by kernel_rfl

theorem rows_nil {w : World} {B : Nat} : IsRows w B (.slice none 0 0) [] :=
  ⟨⟨none, 0, [], rfl, Nat.le_refl _, Rd.nil, rfl, fun j u x h => by simp at h⟩, by simp [R47]⟩
def Got {α : Type} (P : α → World → Ending → Prop) (e : Ending) (w : World) : Prop := ∃ x, P x w e
theorem volNew_isv {w : World} {g : Nat} (h : Blk w g 9 #[.string ⟨#[]⟩, .string ⟨#[]⟩, .string ⟨#[]⟩, .string ⟨#[]⟩, .string ⟨#[]⟩, .string ⟨#[]⟩]) :
    IsVolume w 0 (.slice (some ⟨g, 0, none⟩) 6 6) (.slice none 0 0) Scu.volNew :=
  ⟨strs_blk (xs := List.replicate 6 Scu.str0) h (by simp [R47]) (fun s hs => by rw [List.eq_of_mem_replicate hs]; exact Nat.zero_le _), rows_nil⟩
theorem lastsNew_isl {w : World} {g : Nat} (h : Blk w g 109 #[.int .i64 0, .int .i64 0, .int .i64 0, .string ⟨#[]⟩, .int .i64 0, .int .i64 0, .int .i64 0, .string ⟨#[]⟩, .int .i64 0, .int .i64 0, .int .i64 0, .string ⟨#[]⟩, .int .i64 0, .int .i64 0, .int .i64 0, .string ⟨#[]⟩]) :
    IsLasts w 0 (.slice (some ⟨g, 0, none⟩) 4 4) (List.replicate 4 Scu.last0) :=
  lasts_blk (ls := List.replicate 4 Scu.last0) h (by simp [R47])

theorem IsStrs.form {w : World} {B : Nat} {v : Value} {xs : List Scu.Str} (h : IsStrs w B v xs) : ∃ A n c, v = .slice A n c := by
  obtain ⟨A, c, e, _⟩ := h.ex
  exact ⟨A, _, c, e⟩
theorem IsRows.form {w : World} {B : Nat} {v : Value} {xs : List (List Scu.Str)} (h : IsRows w B v xs) : ∃ A n c, v = .slice A n c := by
  obtain ⟨A, c, vs, e, _⟩ := h.ex
  exact ⟨A, _, c, e⟩
theorem IsLasts.form {w : World} {B : Nat} {v : Value} {xs : List Scu.Last} (h : IsLasts w B v xs) : ∃ A n c, v = .slice A n c := by
  obtain ⟨A, c, e, _⟩ := h.ex
  exact ⟨A, _, c, e⟩
theorem volNew_c (w : World) :
    Calls Try.prog 113 #[] w fun e w' => (∃ nv sv, e = .returned (.agg #[nv, sv]) ∧ IsVolume w' 0 nv sv Scu.volNew) ∧ Below w.heap.size w w' := by
  have hm := make6
  go_enter Try.func113, Try.ntmps113
  go_wp2
  refine bodyPost_ret (v := .agg #[.slice (some ⟨w.heap.size + 1, 0, none⟩) 6 6, .slice none 0 0]) (by simp [results, Try.results113, go_sem]) rfl ?_
  refine ⟨⟨_, _, rfl, volNew_isv ?_⟩, ((Below.refl _ _).alloc (Nat.le_refl _) _).alloc (by simp) _⟩
  exact Blk.new' (by simp)

theorem stateOf_c (w : World) :
    Calls Try.prog 95 #[] w fun e w' => (∃ nv sv lv, e = .returned (.agg #[nv, sv, lv]) ∧ IsState w' 0 nv sv lv Scu.stateNew) ∧ Below w.heap.size w w' := by
  have hm := make6
  have hm4 := make4
  go_enter Try.func95, Try.ntmps95
  go_wp2
  go_region
  · go_wp2
    refine bodyPost_ret (v := .agg #[.slice (some ⟨w.heap.size + 1, 0, none⟩) 6 6, .slice none 0 0, .slice (some ⟨w.heap.size + 1 + 1, 0, none⟩) 4 4]) (by simp [results, Try.results95, go_sem]) rfl ?_
    refine ⟨⟨_, _, _, rfl, volNew_isv ?_, lastsNew_isl ?_⟩, ((((Below.refl _ _).alloc (Nat.le_refl _) _).alloc (by simp) _).alloc (by simp; omega) _).drew⟩
    · exact Blk.drew (Blk.alloc (Blk.new' (by simp)) _)
    · exact Blk.drew (Blk.new' (by simp))
  · go_wp2
    refine bodyPost_ret (v := .agg #[.slice (some ⟨w.heap.size + 1 + 1, 0, none⟩) 6 6, .slice none 0 0, .slice (some ⟨w.heap.size + 1, 0, none⟩) 4 4]) (by simp [results, Try.results95, go_sem]) rfl ?_
    refine ⟨⟨_, _, _, rfl, volNew_isv ?_, lastsNew_isl ?_⟩, ((((Below.refl _ _).alloc (Nat.le_refl _) _).alloc (by simp) _).alloc (by simp; omega) _).drew⟩
    · exact Blk.drew (Blk.new' (by simp))
    · exact Blk.drew (Blk.alloc (Blk.new' (by simp)) _)

theorem machineNew_c (w : World) :
    Calls Try.prog 94 #[] w fun e w' => (∃ nv sv lv, e = .returned (.agg #[nv, sv, lv]) ∧ IsState w' 0 nv sv lv Scu.stateNew) ∧ Below w.heap.size w w' := by
  have hm4 := make4
  go_enter Try.func94, Try.ntmps94
  go_wp2
  go_region_with (go_at_call 113; refine (volNew_c _).mono ?_; rintro e w1 ⟨⟨nv, sv, rfl, hv⟩, h1⟩; obtain ⟨A, n, c, rfl⟩ := hv.now.form; obtain ⟨A', n', c', rfl⟩ := hv.snaps.form; obtain ⟨hc, hf⟩ := bcell h1; have hlt : w.heap.size < w1.heap.size := (by have := h1.size; simp at this; omega))
  · have hb := ((Blk.new w 65 #[.slice none 0 0, .slice none 0 0, .slice none 0 0]).drew).same h1
    have hb1 := hb.set_ 0 (.slice A n c)
    have hb2 := hb1.set_ 1 (.slice A' n' c')
    have hb3 := (hb2.set_ 2 (.slice (some ⟨w1.heap.size, 0, none⟩) 4 4)).alloc (Obj.cells #[.int .i64 0, .int .i64 0, .int .i64 0, .string ⟨#[]⟩, .int .i64 0, .int .i64 0, .int .i64 0, .string ⟨#[]⟩, .int .i64 0, .int .i64 0, .int .i64 0, .string ⟨#[]⟩, .int .i64 0, .int .i64 0, .int .i64 0, .string ⟨#[]⟩] 109)
    have u0 := hb3.cell 0
    have u1 := hb3.cell 1
    have u2 := hb3.cell 2
    simp at u0 u1 u2
    have HV : IsVolume _ 0 _ _ Scu.volNew := ((hv.set_ (p := ⟨w.heap.size, 0, none⟩) hb (Nat.zero_le _) (by decide) (by decide) (.slice A n c)).set_ (p := ⟨w.heap.size, 1, none⟩) hb1 (Nat.zero_le _) (by decide) (by decide) (.slice A' n' c')).set_ (p := ⟨w.heap.size, 2, none⟩) hb2 (Nat.zero_le _) (by decide) (by decide) (.slice (some ⟨w1.heap.size, 0, none⟩) 4 4)
    have HH := Lib.hid (And.intro hb hlt)
    clear hb hb1 hb2 hb3
    go_wp2
    refine bodyPost_ret (v := .agg #[.slice A n c, .slice A' n' c', .slice (some ⟨w1.heap.size, 0, none⟩) 4 4]) (by simp [results, Try.results94, go_sem, u0, u1, u2]) rfl ?_
    have hB : Below w.heap.size w w1 := ((Below.refl _ _).alloc (Nat.le_refl _) _).drew.trans (h1.mono (by simp))
    have hB3 := ((hB.setCell (p := ⟨w.heap.size, 0, none⟩) (Nat.le_refl _) (.slice A n c)).setCell (p := ⟨w.heap.size, 1, none⟩) (Nat.le_refl _) (.slice A' n' c')).setCell (p := ⟨w.heap.size, 2, none⟩) (Nat.le_refl _) (.slice (some ⟨w1.heap.size, 0, none⟩) 4 4)
    exact ⟨⟨_, _, _, rfl, HV.alloc _, lastsNew_isl (Blk.new' (by simp))⟩, hB3.alloc hB3.size _⟩
  · have hb := (((Blk.new w 65 #[.slice none 0 0, .slice none 0 0, .slice none 0 0]).alloc (Obj.cells #[.int .i64 0, .int .i64 0, .int .i64 0, .string ⟨#[]⟩, .int .i64 0, .int .i64 0, .int .i64 0, .string ⟨#[]⟩, .int .i64 0, .int .i64 0, .int .i64 0, .string ⟨#[]⟩, .int .i64 0, .int .i64 0, .int .i64 0, .string ⟨#[]⟩] 109)).drew).same h1
    have hb1 := hb.set_ 0 (.slice A n c)
    have hb2 := hb1.set_ 1 (.slice A' n' c')
    have hb3 := hb2.set_ 2 (.slice (some ⟨w.heap.size + 1, 0, none⟩) 4 4)
    have u0 := hb3.cell 0
    have u1 := hb3.cell 1
    have u2 := hb3.cell 2
    simp at u0 u1 u2
    have HV : IsVolume _ 0 _ _ Scu.volNew := ((hv.set_ (p := ⟨w.heap.size, 0, none⟩) hb (Nat.zero_le _) (by decide) (by decide) (.slice A n c)).set_ (p := ⟨w.heap.size, 1, none⟩) hb1 (Nat.zero_le _) (by decide) (by decide) (.slice A' n' c')).set_ (p := ⟨w.heap.size, 2, none⟩) hb2 (Nat.zero_le _) (by decide) (by decide) (.slice (some ⟨w.heap.size + 1, 0, none⟩) 4 4)
    have hlb : Blk w1 (w.heap.size + 1) 109 #[.int .i64 0, .int .i64 0, .int .i64 0, .string ⟨#[]⟩, .int .i64 0, .int .i64 0, .int .i64 0, .string ⟨#[]⟩, .int .i64 0, .int .i64 0, .int .i64 0, .string ⟨#[]⟩, .int .i64 0, .int .i64 0, .int .i64 0, .string ⟨#[]⟩] :=
      (Blk.drew (Blk.new' (by simp))).same h1
    have HL : IsLasts _ 0 _ (List.replicate 4 Scu.last0) := lastsNew_isl (((hlb.far (p := ⟨w.heap.size, 0, none⟩) (by simp) (.slice A n c)).far (p := ⟨w.heap.size, 1, none⟩) (by simp) (.slice A' n' c')).far (p := ⟨w.heap.size, 2, none⟩) (by simp) (.slice (some ⟨w.heap.size + 1, 0, none⟩) 4 4))
    have HH := Lib.hid (And.intro hb hlt)
    clear hb hb1 hb2 hb3 hlb
    go_wp2
    refine bodyPost_ret (v := .agg #[.slice A n c, .slice A' n' c', .slice (some ⟨w.heap.size + 1, 0, none⟩) 4 4]) (by simp [results, Try.results94, go_sem, u0, u1, u2]) rfl ?_
    have hB : Below w.heap.size w w1 := (((Below.refl _ _).alloc (Nat.le_refl _) _).alloc (by simp) _).drew.trans (h1.mono (by simp; omega))
    have hB3 := ((hB.setCell (p := ⟨w.heap.size, 0, none⟩) (Nat.le_refl _) (.slice A n c)).setCell (p := ⟨w.heap.size, 1, none⟩) (Nat.le_refl _) (.slice A' n' c')).setCell (p := ⟨w.heap.size, 2, none⟩) (Nat.le_refl _) (.slice (some ⟨w.heap.size + 1, 0, none⟩) 4 4)
    exact ⟨⟨_, _, _, rfl, HV, HL⟩, hB3⟩

end Go.Proofs.Ytioajgcbchdpeaa

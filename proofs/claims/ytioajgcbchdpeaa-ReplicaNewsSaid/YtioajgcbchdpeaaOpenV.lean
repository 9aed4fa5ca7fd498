/- Texts, rows of texts and volumes, opened with the bounds of the reach. -/
import Derived.Test.YtioajgcbchdpeaaSameW
import Derived.Test.YtioajgcbchdpeaaOpen
import Derived.SliceStrings
import Derived.SizedLaws
import Derived.Deep.Slices
namespace Go.Proofs.Ytioajgcbchdpeaa
open Go.RowKit Go.ChangeShapes Go.WideShapes Go.ChangeAt
set_option maxHeartbeats 400000
set_option maxRecDepth 100000

def IsVolV (w : World) (v : Value) (x : Scu.Volume) : Prop := ∃ nv sv, v = .agg #[nv, sv] ∧ IsVolume w w.heap.size nv sv x

theorem weightsAll_mem {H : Type} {P : Program} {e : TypeId} {d : DataW H} {k : Nat} (hk : k ∈ d.weights P e) : ∀ {ds : List (DataW H)}, d ∈ ds → k ∈ DataW.weightsAll P e ds
  | [], h => by cases h
  | d0 :: ds, h => by
    simp only [DataW.weightsAll, List.mem_append]
    rcases List.mem_cons.1 h with rfl | h
    · exact .inl hk
    · exact .inr (weightsAll_mem hk h)
theorem bytes_string : Try.prog.bytesOf 9 = 16 := by kernel_rfl
theorem bytes_strs : Try.prog.bytesOf 26 = 24 := by kernel_rfl

theorem cells_rows : Try.prog.cellsOf 36 = 1 := by kernel_rfl
section
variable {H : Type} {enc : TypeId × Value → H} {w : World} {base : Nat} {spare : Nat → Bool} {held : Bool} {n : Nat}
theorem trod_strs {v : Value} {x : DataW H × List MemPlace} (h : DataW.trod enc Try.prog w base spare held n 26 [v] = some x) (hw : ∀ k ∈ x.1.weights Try.prog 26, k ≤ reachBytes) :
    ∃ xs, IsStrs w w.heap.size v xs := by
  have hlt := DataW.trod_lt n _ _ _ h
  rcases open_strings Try.underlying26 Try.underlying9 cells_string h with ⟨e, rfl⟩ | ⟨a, len, cap, ss, e, hb, hl, hm, hlen, rfl, hcell, _⟩
  · simp at e; subst e; exact ⟨[], IsStrs.nil_⟩
  · simp only [List.cons.injEq, and_true] at e
    subst e
    have hle : len ≤ ss.length := by rw [hlen]; split <;> omega
    have hwt : ∀ k ∈ DataW.weights Try.prog 26 (DataW.slice (H := H) (strs (ss.take len)) (strs (ss.drop len))), k ≤ reachBytes := hw
    simp only [DataW.weights, Try.underlying26, List.mem_cons, List.mem_append, bytes_string] at hwt
    have hwl := hwt _ (.inl rfl)
    simp only [strs, List.length_map, List.length_take, List.length_drop] at hwl
    have hres : (ss.take len).length = len := by simp; omega
    refine ⟨ss.take len, ⟨some a, cap, by rw [hres], by omega, ?_⟩, ?_, ?_⟩
    · rcases Nat.eq_zero_or_pos len with h0 | h0
      · subst h0
        exact .inl (by simp)
      · have hc0 := hcell 0 (by omega)
        obtain ⟨b, o, spot⟩ := a
        have hspot : spot = none := by simpa [Addr.add] using World.cell?_spot hc0
        subst hspot
        have hbl : b < w.heap.size := by
          rcases Nat.lt_or_ge b w.heap.size with h | h
          · exact h
          · simp [World.cell?, Addr.add, Array.getElem?_eq_none h] at hc0
        refine .inr ⟨b, o, rfl, hbl, .inl hbl, fun j u hj => ?_⟩
        have hj' : j < len := by
          rcases Nat.lt_or_ge j len with h | h
          · exact h
          · rw [List.getElem?_eq_none (by simp; omega)] at hj; cases hj
        have := hcell j (by omega)
        have e2 : (⟨b, o, none⟩ : Addr).add j = ⟨b, o + j, none⟩ := by unfold Addr.add; split <;> simp_all
        rw [e2] at this
        rw [this]
        rw [List.getElem?_map, List.getElem?_take_of_lt hj', List.getElem?_eq_getElem (by omega)] at hj
        simp only [Option.map_some, Option.some.injEq] at hj
        subst hj
        simp [List.getD, List.getElem?_eq_getElem (show j < ss.length by omega)]
    · rw [hres]
      have : reachBytes = R47 := rfl
      omega
    · intro s hs
      have : reachBytes = R47 := rfl
      rw [← this]
      refine hwt s.size (.inr (.inl (weightsAll_mem (d := .lit (.string s.data.toList)) ?_ ?_)))
      · unfold DataW.weights
        exact List.mem_singleton.2 (show s.data.size = s.data.toList.length from Array.length_toList.symm)
      · exact List.mem_map.2 ⟨s, hs, rfl⟩
theorem trod_rows {v : Value} {x : DataW H × List MemPlace} (h : DataW.trod enc Try.prog w base spare held n 36 [v] = some x) (hw : ∀ k ∈ x.1.weights Try.prog 36, k ≤ reachBytes) :
    ∃ xss, IsRows w w.heap.size v xss := by
  rcases Go.Deep.open_slice1 Try.underlying36 cells_strs h with ⟨e, rfl⟩ | ⟨a, len, cap, m, n', V, D, Pl, e, hb, hl, hm, hmm, rfl, hx⟩
  · simp at e; subst e; exact ⟨[], ⟨none, 0, [], rfl, Nat.le_refl _, Rd.nil, rfl, fun j u y hu => by simp at hu⟩, by simp [R47]⟩
  · simp only [List.cons.injEq, and_true] at e
    subst e
    have hle : len ≤ m := by rw [hmm]; split <;> omega
    have hwt : ∀ k ∈ DataW.weights Try.prog 36 (DataW.slice ((List.range len).map D) ((List.range (m - len)).map fun j => D (len + j))), k ≤ reachBytes := hw
    simp only [DataW.weights, Try.underlying36, List.mem_cons, List.mem_append, bytes_strs] at hwt
    have hwl := hwt _ (.inl rfl)
    simp only [List.length_map, List.length_range] at hwl
    have hall : ∀ i, ∃ xs, i < len → IsStrs w w.heap.size (V i) xs := by
      intro i
      by_cases hi : i < len
      · obtain ⟨xs, hxs⟩ := trod_strs (hx i (by omega)).2 (fun k hk => hwt k (.inr (.inl (weightsAll_mem hk (List.mem_map.2 ⟨i, by simpa using hi, rfl⟩)))))
        exact ⟨xs, fun _ => hxs⟩
      · exact ⟨[], fun h => absurd h hi⟩
    obtain ⟨f, hf⟩ := Classical.axiomOfChoice hall
    refine ⟨(List.range len).map f, ⟨some a, cap, (List.range len).map V, by simp, by simpa using hl, ?_, by simp, ?_⟩, ?_⟩
    · rcases Nat.eq_zero_or_pos len with h0 | h0
      · subst h0
        exact .inl (by simp)
      · have hc0 := (hx 0 (by omega)).1
        obtain ⟨b, o, spot⟩ := a
        have hspot : spot = none := by simpa [Addr.add] using World.cell?_spot hc0
        subst hspot
        have hbl : b < w.heap.size := by
          rcases Nat.lt_or_ge b w.heap.size with h | h
          · exact h
          · simp [World.cell?, Addr.add, Array.getElem?_eq_none h] at hc0
        refine .inr ⟨b, o, rfl, hbl, .inl hbl, fun j u hj => ?_⟩
        have hj' : j < len := by
          rcases Nat.lt_or_ge j len with h | h
          · exact h
          · rw [List.getElem?_eq_none (by simp; omega)] at hj; cases hj
        have := (hx j (by omega)).1
        have e2 : (⟨b, o, none⟩ : Addr).add j = ⟨b, o + j, none⟩ := by unfold Addr.add; split <;> simp_all
        rw [e2] at this
        rw [this]
        simp [hj'] at hj
        rw [hj]
    · intro j u y hu hy
      have hj' : j < len := by
        rcases Nat.lt_or_ge j len with h | h
        · exact h
        · rw [List.getElem?_eq_none (by simp; omega)] at hu; cases hu
      simp [hj'] at hu hy
      subst hu hy
      exact hf j hj'
    · have : reachBytes = R47 := rfl
      simp
      omega
theorem cells_volume : Try.prog.cellsOf 38 = 2 := by kernel_rfl
theorem trod_volume {cs : List Value} {x : DataW H × List MemPlace} (h : DataW.trod enc Try.prog w base spare held n 38 cs = some x) (hw : ∀ k ∈ x.1.weights Try.prog 38, k ≤ reachBytes) :
    ∃ nv sv y, cs = [nv, sv] ∧ IsVolume w w.heap.size nv sv y := by
  obtain ⟨xs, m, _, hxe, hl, hxl, hf⟩ := DataW.trod_struct Try.underlying38 h
  rw [cells_volume] at hl
  match cs, hl with
  | [c0, c1], _ =>
    have hxl2 : xs.length = 2 := hxl
    match xs, hxl2 with
    | [z0, z1], _ =>
      subst hxe
      have hwt : ∀ k ∈ DataW.weights Try.prog 38 (DataW.agg [z0.1, z1.1]), k ≤ reachBytes := hw
      simp only [DataW.weights, Try.underlying38, DataW.weightsEach, List.map_cons, List.map_nil, List.mem_append] at hwt
      have h0 := hf 0 _ rfl
      have h1 := hf 1 _ rfl
      simp [cells_strs, cells_rows] at h0 h1
      obtain ⟨xs0, h0'⟩ := trod_strs h0 (fun k hk => hwt k (.inl hk))
      obtain ⟨xs1, h1'⟩ := trod_rows h1 (fun k hk => hwt k (.inr (.inl hk)))
      exact ⟨c0, c1, ⟨xs0, xs1⟩, rfl, h0', h1'⟩
theorem open_Volume {v : Value} {d : DataW H} {p : List MemPlace} {b0 : Nat} (hv : Value.okWide Try.prog w .any b0 38 v) (h : DataW.Trod enc Try.prog w base spare held 38 v d p)
    (hw : ∀ k ∈ d.weights Try.prog 38, k ≤ reachBytes) : ∃ nv sv y, v = .agg #[nv, sv] ∧ IsVolume w w.heap.size nv sv y := by
  obtain ⟨cs, rfl, _⟩ := okWide_struct Try.underlying38 hv
  obtain ⟨fuel, hf⟩ := h
  obtain ⟨nv, sv, y, e, hy⟩ := trod_volume hf hw
  refine ⟨nv, sv, y, ?_, hy⟩
  have : cs = #[nv, sv] := by
    apply Array.toList_inj.1
    simpa [Value.cells] using e
  rw [this]
theorem openS_Volume {v : Value} {d : DataW H} {p : List MemPlace} {b0 : Nat} (hv : Value.okWide Try.prog w .any b0 38 v) (h : DataW.Trod enc Try.prog w base spare held 38 v d p)
    (hw : ∀ k ∈ d.weights Try.prog 38, k ≤ reachBytes) : ∃ y, IsVolV w v y := by
  obtain ⟨nv, sv, y, h1, h2⟩ := open_Volume hv h hw
  exact ⟨y, nv, sv, h1, h2⟩
end
end Go.Proofs.Ytioajgcbchdpeaa

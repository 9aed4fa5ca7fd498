/- The walk of the law Names. -/
import Derived.Test.YtioajgcbchdpeaaApp
import Derived.Test.YtioajgcbchdpeaaState
namespace Go.Proofs.Ytioajgcbchdpeaa
open Go.RowKit
set_option maxHeartbeats 1000000
set_option maxRecDepth 100000
abbrev nInt : Int → Value := Value.int .i64
theorem el_ints' : ElT 24 3 1 8 := by
  obtain ⟨i, h1, h2, h3, h4⟩ := info_parts (P := Try.prog) (e := 3) (z := .int .i64 0) (size := 1) (bytes := 8) (by kernel_rfl)
  exact ⟨Try.underlying24, by omega, i, _, h1, h2, h3, h4, rfl⟩
theorem one_ints' (xs : List Int) : ∀ u ∈ xs.map nInt, u.oneCell' = true := fun u hu => by
  obtain ⟨s, _, rfl⟩ := List.mem_map.1 hu
  rfl
theorem own_blk {w : World} {base g n : Nat} {e : TypeId} {xs : List Value} (h : Blk w g e xs.toArray) (hb : base ≤ g) (hn : xs.length = n) (hm : n ≤ maxLen) : w.ownsRow base e 1 (.slice (some ⟨g, 0, none⟩) n n) n xs :=
  ⟨by simpa using hn, .inr ⟨g, n, xs.toArray, rfl, hb, h, Nat.le_refl _, hm, by simp [hn], by rw [Nat.mul_one, ← hn]; simp⟩⟩
def n14 : List Int := [3, 2, 6, 8, 3, 4, 1048576, 1048576, 60, 40, 4000, 80, 300, 1073741824]
def n18 : List Int := [1, 2, 3, 4, 1, 2, 3, 4, 1, 2, 3, 4, 5, 6, 7, 8, 9, 10]
def n32 : List Int := n14 ++ n18
theorem src_blk {w : World} {g n : Nat} {e : TypeId} {xs : List Value} (h : Blk w g e xs.toArray) (hn : xs.length = n) : Src1 w 1 (.slice (some ⟨g, 0, none⟩) n n) n xs :=
  ⟨by simpa using hn, .inr ⟨_, _, rfl, fun j u hj => by
    have : (⟨g, 0, none⟩ : Addr).add j = ⟨g, j, none⟩ := by unfold Addr.add; split <;> simp_all
    rw [this, h.cell]
    simpa using hj⟩⟩
theorem names_cell {w : World} {A : Option Addr} (h : Rd w 0 3 A (n32.map nInt)) {k : Nat} (hk : k < 32) : ∃ g o, A = some ⟨g, o, none⟩ ∧ g < w.heap.size ∧ w.cell? ⟨g, o + k, none⟩ = some (.int .i64 (n32.getD k 0)) := by
  have hl : k < n32.length := hk
  refine h.get ?_
  rw [List.getElem?_map, List.getElem?_eq_getElem hl]
  simp [List.getD, List.getElem?_eq_getElem hl]
theorem errs_cell {w w' : World} (h : Blk w' w.heap.size 22 #[.int .i64 0, .int .i64 1, .int .i64 2, .int .i64 3, .int .i64 4, .int .i64 5, .int .i64 6, .int .i64 7, .int .i64 8, .int .i64 9, .int .i64 10, .int .i64 11, .int .i64 12, .int .i64 13, .int .i64 14]) {k : Nat} (hk : k < 15) :
    w'.cell? ⟨w.heap.size, k, none⟩ = some (.int .i64 k) := by
  rw [h.cell]
  have : k = 0 ∨ k = 1 ∨ k = 2 ∨ k = 3 ∨ k = 4 ∨ k = 5 ∨ k = 6 ∨ k = 7 ∨ k = 8 ∨ k = 9 ∨ k = 10 ∨ k = 11 ∨ k = 12 ∨ k = 13 ∨ k = 14 := by omega
  rcases this with rfl | rfl | rfl | rfl | rfl | rfl | rfl | rfl | rfl | rfl | rfl | rfl | rfl | rfl | rfl <;> rfl
theorem lawNames_w (w : World) :
    Calls Try.prog 3 #[] w fun e w' => e = .returned (.bool true) ∧ Below w.heap.size w w' := by
  go_enter Try.func3, Try.ntmps3
  go_wp2
  go_loopw [2] (fun i wr => ∃ k : Nat, k ≤ 15 ∧ i = .int .i64 k ∧ ∃ n, wr = (w.alloc (Obj.cells #[.int .i64 0, .int .i64 1, .int .i64 2, .int .i64 3, .int .i64 4, .int .i64 5, .int .i64 6, .int .i64 7, .int .i64 8, .int .i64 9, .int .i64 10, .int .i64 11, .int .i64 12, .int .i64 13, .int .i64 14] 22)).drewN n) (fun i _ => 15 - (intOf i).toNat)
  case atStart => exact ⟨0, by omega, rfl, 0, rfl⟩
  case round =>
    obtain ⟨k, hk, rfl, n, rfl⟩ := hrel
    by_cases hlt : k < 15
    · have hlt' : (k : Int) < 15 := by omega
      have hc := errs_cell (Blk.new w 22 _) hlt
      have hc2 := errs_cell ((Blk.new w 22 _).drewN n) hlt
      go_wp2
      go_roundw
      case rel => exact ⟨k + 1, by omega, by go_num, _, rfl⟩
      case measure => simp [intOf]; omega
    · have hlt' : (15 : Int) ≤ (k : Int) := by omega
      obtain ⟨W, hW⟩ : ∃ x, x = (w.alloc (Obj.cells #[.int .i64 0, .int .i64 1, .int .i64 2, .int .i64 3, .int .i64 4, .int .i64 5, .int .i64 6, .int .i64 7, .int .i64 8, .int .i64 9, .int .i64 10, .int .i64 11, .int .i64 12, .int .i64 13, .int .i64 14] 22)).drewN n := ⟨_, rfl⟩
      have hb0 : Below w.heap.size w W := by subst hW; exact below_drewN (below_alloc w _) n
      rw [← hW]
      clear hW
      have hA := (((Blk.new W 3 (n14.map nInt).toArray).alloc (Obj.cells (n14.map nInt).toArray 3)).alloc (Obj.cells (n18.map nInt).toArray 3))
      have hB := ((Blk.new (W.alloc (Obj.cells (n14.map nInt).toArray 3)) 3 (n14.map nInt).toArray).alloc (Obj.cells (n18.map nInt).toArray 3))
      have hC := Blk.new ((W.alloc (Obj.cells (n14.map nInt).toArray 3)).alloc (Obj.cells (n14.map nInt).toArray 3)) 3 (n18.map nInt).toArray
      simp only [World.size_alloc] at hB hC
      have HAB := Lib.hid (And.intro hA (And.intro hB hC))
      clear hA hB hC
      go_wp2_with (first
        | (at_builtin
           refine list_app _ rfl (.tmp 21) (.tmp 22) 24 rfl el_ints' W.heap.size (.slice (some ⟨W.heap.size, 0, none⟩) 14 14) 14 (n14.map nInt) rfl (own_blk HAB.out.1 (Nat.le_refl _) rfl (by unfold maxLen; omega)) (.slice (some ⟨W.heap.size + 2, 0, none⟩) 18 18) 18 (n18.map nInt) rfl (src_blk HAB.out.2.2 rfl) (one_ints' _) (by unfold maxLen; omega) (by omega) (by simp only [World.size_alloc]; omega) ?_
           intro v3 w3 h3 hg3 hw3
           have hb3 : Blk w3 (W.heap.size + 1) 3 (n14.map nInt).toArray := (hg3.block _ HAB.out.2.1.lt (by simp [Value.ownBlock])).trans HAB.out.2.1
           have hs3 := hg3.size
           simp only [World.size_alloc] at hs3
           have hl3 : Below W.heap.size W w3 := (((below_alloc W _).alloc (by simp) _).alloc (by simp; omega) _).grown hg3 (by simp; omega) (fun q hq => by simp [Value.ownBlock] at hq; omega)
           have hB3 := hb3.alloc (Obj.cells (n18.map nInt).toArray 3)
           have hC3 := Blk.new w3 3 (n18.map nInt).toArray
           obtain ⟨A3, c3, rfl, _, _, _, hlo3⟩ := rd_own h3
           have h3a := own_below h3 (below_alloc w3 (Obj.cells (n18.map nInt).toArray 3))
           have HAC := Lib.hid (And.intro hB3 (And.intro hC3 (And.intro h3a (And.intro hl3 (And.intro hw3 (And.intro hs3 hlo3))))))
           clear hB3 hC3 hb3 hs3 h3 hg3 h3a hl3 hw3 hlo3)
        | (at_builtin
           refine list_app _ rfl (.tmp 24) (.tmp 25) 24 rfl el_ints' W.heap.size (.slice (some ⟨W.heap.size + 1, 0, none⟩) 14 14) 14 (n14.map nInt) rfl (own_blk HAC.out.1 (Nat.le_succ _) rfl (by unfold maxLen; omega)) (.slice (some ⟨w3.heap.size, 0, none⟩) 18 18) 18 (n18.map nInt) rfl (src_blk HAC.out.2.1 rfl) (one_ints' _) (by unfold maxLen; omega) (by omega) (by have := HAC.out.2.2.2.2.2.1; simp only [World.size_alloc]; omega) ?_
           intro v4 w4 h4 hg4 _
           have h3b := HAC.out.2.2.1.kept hg4 (.inr (fun e => by rcases HAC.out.2.2.2.2.1 with h | h <;> rw [h] at e <;> simp [Value.ownBlock] at e <;> omega))
           have hl4 : Below W.heap.size W w4 := (HAC.out.2.2.2.1.alloc HAC.out.2.2.2.1.size _).grown hg4 (by have := HAC.out.2.2.2.1.size; simp only [World.size_alloc]; omega) (fun q hq => by simp [Value.ownBlock] at hq; omega)
           obtain ⟨A4, c4, rfl, _, _, _, _⟩ := rd_own h4
           have HFIN := Lib.hid (And.intro h3b (And.intro h4 hl4))
           clear h3b h4 hg4 hl4))
      obtain ⟨A3', c3', hv3, _, _, hr3, _⟩ := rd_own HFIN.out.1
      obtain ⟨A4', c4', hv4, _, _, hr4, _⟩ := rd_own HFIN.out.2.1
      cases hv3
      cases hv4
      have HR3 := Lib.hid hr3
      have HR4 := Lib.hid hr4
      clear hr3 hr4
      go_loopw [5] (fun i wl => ∃ j : Nat, j ≤ 32 ∧ i = .int .i64 j ∧ ∃ m, wl = w4.drewN m) (fun i _ => 32 - (intOf i).toNat)
      case atStart => exact ⟨0, by omega, rfl, 0, rfl⟩
      case round =>
        obtain ⟨j, hj, rfl, m, rfl⟩ := hrel
        by_cases hlt2 : j < 32
        · have hlt2' : (j : Int) < 32 := by omega
          obtain ⟨g, o, rfl, hg, hcc⟩ := names_cell HR3.out hlt2
          obtain ⟨g', o', rfl, hg', hcc'⟩ := names_cell HR4.out hlt2
          go_wp2_with fail
          go_quiet (fail)
          go_wp2
          exact ⟨⟨j + 1, hlt2, by go_num, _, rfl⟩, by simp only [intOf]; omega⟩
        · have hlt2' : (32 : Int) ≤ (j : Int) := by omega
          go_wp2
          go_ret
          exact ⟨rfl, below_drewN (hb0.trans (HFIN.out.2.2.mono hb0.size)) _⟩
end Go.Proofs.Ytioajgcbchdpeaa

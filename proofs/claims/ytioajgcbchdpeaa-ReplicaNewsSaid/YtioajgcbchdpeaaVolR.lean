/- Walks: may a volume be? The reference's; the law VolumeChecks. -/
import Derived.Test.YtioajgcbchdpeaaVol
import Derived.Test.YtioajgcbchdpeaaApp
import Derived.Test.YtioajgcbchdpeaaOpenV
namespace Go.Proofs.Ytioajgcbchdpeaa
open Go.RowKit
set_option maxHeartbeats 400000
set_option maxRecDepth 100000

theorem sectorsMay_c (v : Value) (xs : List Scu.Str) (w : World) (B : Nat) (hv : IsStrs w B v xs) :
    Calls Try.prog 106 #[v] w fun e w' => e = .returned (.bool (Scu.sectorsOk xs)) ∧ w = w' := by
  have hso := sectorsOk_any xs
  obtain ⟨⟨A, c, rfl, _, hr⟩, hl, he⟩ := hv
  unfold R47 at hl he
  have HSO := Lib.hid hso
  clear hso
  go_enter Try.func106, Try.ntmps106
  go_wp2
  go_loop [3] (fun i => ∃ k : Nat, k ≤ xs.length ∧ i = .int .i64 k ∧ Hid ((xs.take k).any (fun s => decide (8 < s.size)) = false)) (fun i => xs.length - (intOf i).toNat)
  case atStart => exact ⟨0, Nat.zero_le _, rfl, by simp [Hid]⟩
  case round =>
    obtain ⟨k, hk, rfl, ht⟩ := hrel
    by_cases hlt : k < xs.length
    · have hlt' : (k : Int) < (xs.length : Int) := by omega
      obtain ⟨g, o, rfl, _, hc⟩ := str_get hr hlt
      have hsz := he _ (List.getElem_mem hlt)
      clear he
      by_cases hx : 8 < (xs[k]).size
      · have hx' : (8 : Int) < ((xs[k]).size : Int) := by omega
        have HX := Lib.hid (show Scu.sectorsOk xs = false by rw [HSO.out, any_found (fun s => decide (8 < s.size)) xs k hlt (by simpa using hx)]; simp)
        clear hx
        go_wp2
        go_ret
        exact ⟨ret_val (bool_eq HX.out.symm), rfl⟩
      · have hx' : ((xs[k]).size : Int) ≤ (8 : Int) := by omega
        have HX := Lib.hid (show (xs.take (k + 1)).any (fun s => decide (8 < s.size)) = false by rw [any_take _ xs k hlt, ht.out]; simp; omega)
        clear hx
        go_wp2
        go_round
        case rel => exact ⟨k + 1, hlt, by go_num, HX⟩
        case measure => simp [intOf]; omega
    · have hlt' : (xs.length : Int) ≤ (k : Int) := by omega
      have HX := Lib.hid (show Scu.sectorsOk xs = ((xs.length : Int) == 6) by
        rw [HSO.out, any_none _ xs k (by omega) ht.out]
        rw [Bool.eq_iff_iff]; simp; omega)
      clear he
      go_wp2
      go_ret
      exact ⟨ret_val (bool_eq HX.out.symm), rfl⟩

def okTo (x : Scu.Volume) (k : Nat) : Bool := Scu.sectorsOk x.now && decide (x.snaps.length ≤ 3) && (x.snaps.take k).all Scu.sectorsOk
theorem okTo_all (x : Scu.Volume) (k : Nat) (h : x.snaps.length ≤ k) : okTo x k = Scu.volOk x := by
  unfold okTo Scu.volOk
  rw [List.take_of_length_le h]
theorem okTo_succ (x : Scu.Volume) (k : Nat) (h : k < x.snaps.length) : okTo x (k + 1) = (okTo x k && Scu.sectorsOk x.snaps[k]) := by
  unfold okTo
  rw [List.take_succ_eq_append_getElem h, List.all_append]
  simp only [List.all_cons, List.all_nil, Bool.and_true, Bool.and_assoc]
theorem okTo_zero (x : Scu.Volume) : okTo x 0 = (Scu.sectorsOk x.now && decide ((x.snaps.length : Int) ≤ 3)) := by
  unfold okTo
  have : decide (x.snaps.length ≤ 3) = decide ((x.snaps.length : Int) ≤ 3) := by rw [Bool.eq_iff_iff]; simp; omega
  rw [this]
  simp
theorem volumeFault_c (nv sv : Value) (x : Scu.Volume) (w : World) (B : Nat) (hv : IsVolume w B nv sv x) :
    Calls Try.prog 60 #[.agg #[nv, sv]] w fun e w' => e = .returned (.int .i64 (Scu.volFault x)) ∧ Below w.heap.size w w' := by
  have HV := Lib.hid hv
  obtain ⟨A1, n1, c1, rfl⟩ := hv.now.form
  obtain ⟨⟨A, c, vs, rfl, _, hr, hvl, hve⟩, hl⟩ := hv.snaps
  have HVL := Lib.hid hvl
  have HVE := Lib.hid hve
  have h0 := okTo_zero x
  clear hvl hve hv
  unfold R47 at hl
  cases h1 : Scu.sectorsOk x.now <;> cases h2 : decide ((x.snaps.length : Int) ≤ 3)
  all_goals
    rw [h1, h2] at h0
    have H0 := Lib.hid h0
    have H1 := Lib.hid h1
    clear h0 h1
    go_enter Try.func60, Try.ntmps60
    go_wp2_with (go_at_call 106; refine (sectorsMay_c _ _ _ B (HV.out.now.alloc _)).mono ?_; rintro e w1 ⟨rfl, rfl⟩; rw [H1.out])
    go_loop [3, 4] (fun b i => ∃ k : Nat, k ≤ x.snaps.length ∧ i = .int .i64 k ∧ ∃ c : Bool, b = .bool c ∧ Hid (c = okTo x k)) (fun _ i => x.snaps.length - (intOf i).toNat)
    case atStart => exact ⟨0, Nat.zero_le _, rfl, _, rfl, H0.out.symm⟩
    case round =>
      obtain ⟨k, hk, rfl, c, rfl, ht⟩ := hrel
      by_cases hlt : k < x.snaps.length
      · have hlt' : (k : Int) < (x.snaps.length : Int) := by omega
        obtain ⟨g, o, p, rfl, hg, hc, hp⟩ := rows_get hr HVL.out HVE.out hlt
        have HPX := Lib.hid hp
        obtain ⟨A2, n2, c2, rfl⟩ := hp.form
        have HX := Lib.hid (okTo_succ x k hlt)
        clear hp
        cases c
        · go_wp2
          go_round
          case rel => exact ⟨k + 1, hlt, by go_num, false, rfl, by show false = okTo x (k + 1); rw [HX.out, ← ht.out]; rfl⟩
          case measure => simp [intOf]; omega
        · cases hx : Scu.sectorsOk x.snaps[k]
          all_goals
            have HXX := Lib.hid hx
            clear hx
            go_wp2_with (go_at_call 106; refine (sectorsMay_c _ _ _ B (HPX.out.alloc _)).mono ?_; rintro e w1 ⟨rfl, rfl⟩; rw [HXX.out])
            go_round
            case rel => exact ⟨k + 1, hlt, by go_num, _, rfl, by show _ = okTo x (k + 1); rw [HX.out, ← ht.out, HXX.out]; rfl⟩
            case measure => simp [intOf]; omega
      · have hlt' : (x.snaps.length : Int) ≤ (k : Int) := by omega
        have HX := Lib.hid (show Scu.volFault x = if c then 0 else 8 by unfold Scu.volFault; rw [ht.out, okTo_all x k (by omega)])
        cases c
        all_goals
          go_wp2
          go_ret
          exact ⟨ret_val (int_eq (by rw [HX.out]; rfl)), (Below.refl _ _).alloc (Nat.le_refl _) _⟩

theorem IsVolume.at_ {w w' : World} {B : Nat} {nv sv : Value} {x : Scu.Volume} (h : IsVolume w B nv sv x) (hb : Below w.heap.size w w') : IsVolume w' B nv sv x := h.below hb
end Go.Proofs.Ytioajgcbchdpeaa

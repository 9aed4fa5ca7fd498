/- Walks: may a volume be? The program's and the reference's. -/
import Derived.Test.YtioajgcbchdpeaaState
namespace Go.Proofs.Ytioajgcbchdpeaa
open Go.RowKit
set_option maxHeartbeats 400000
set_option maxRecDepth 100000

def IdxPost (b : Bool) (e : Ending) : Prop := ∃ r : Int, e = .returned (.int .i64 r) ∧ decide (0 ≤ r) = b
theorem any_take {α : Type} (p : α → Bool) (xs : List α) (k : Nat) (h : k < xs.length) : (xs.take (k + 1)).any p = ((xs.take k).any p || p xs[k]) := by
  rw [List.take_succ_eq_append_getElem h, List.any_append]
  simp
theorem any_found {α : Type} (p : α → Bool) (xs : List α) (k : Nat) (h : k < xs.length) (hp : p xs[k] = true) : xs.any p = true := List.any_eq_true.2 ⟨_, List.getElem_mem h, hp⟩
theorem any_none {α : Type} (p : α → Bool) (xs : List α) (k : Nat) (h : xs.length ≤ k) (hp : (xs.take k).any p = false) : xs.any p = false := by rwa [List.take_of_length_le h] at hp

theorem sectors1_c (s : ByteArray) (w : World) (hs : s.size ≤ R47) :
    Calls Try.prog 119 #[.string s] w fun e w' => e = .returned (.bool (decide (8 < s.size))) ∧ w = w' := by
  unfold R47 at hs
  have e : decide (8 < s.size) = decide ((8 : Int) < (s.size : Int)) := by rw [Bool.eq_iff_iff]; simp; omega
  rw [e]
  clear e
  go_enter Try.func119, Try.ntmps119
  go_wp2
  go_ret
  exact ⟨rfl, rfl⟩

theorem indexStrs_c (p : Scu.Str → Bool) (hp : ∀ (s : ByteArray) (w : World), s.size ≤ R47 → Calls Try.prog 119 #[.string s] w fun e w' => e = .returned (.bool (p s)) ∧ w = w') (v : Value) (xs : List Scu.Str) (w : World) (B : Nat) (hv : IsStrs w B v xs) :
    Calls Try.prog 122 #[v, .func (.func 119) #[] #[]] w fun e w' => IdxPost (xs.any p) e ∧ w = w' := by
  obtain ⟨⟨A, c, rfl, _, hr⟩, hl, he⟩ := hv
  unfold R47 at hl
  have HP := Lib.hid hp
  have HE := Lib.hid he
  clear hp he
  go_enter Try.func122, Try.ntmps122
  go_wp2
  go_loop [8] (fun i => ∃ k : Nat, k ≤ xs.length ∧ i = .int .i64 k ∧ Hid ((xs.take k).any p = false)) (fun i => xs.length - (intOf i).toNat)
  case atStart => exact ⟨0, Nat.zero_le _, rfl, by simp [Hid]⟩
  case round =>
    obtain ⟨k, hk, rfl, ht⟩ := hrel
    by_cases hlt : k < xs.length
    · have hlt' : (k : Int) < (xs.length : Int) := by omega
      obtain ⟨g, o, rfl, _, hc⟩ := str_get hr hlt
      by_cases hx : p xs[k] = true
      · have HX := Lib.hid (any_found p xs k hlt hx)
        go_wp2_with fail
        refine (HP.out _ _ (HE.out _ (List.getElem_mem hlt))).mono ?_; rintro e w1 ⟨rfl, rfl⟩
        go_wp2
        go_ret
        exact ⟨⟨_, rfl, by rw [HX.out]; simp⟩, rfl⟩
      · have hx' : p xs[k] = false := by simpa using hx
        have HX := Lib.hid (show (xs.take (k + 1)).any p = false by rw [any_take p xs k hlt, ht.out, hx']; rfl)
        clear hx
        go_wp2_with fail
        refine (HP.out _ _ (HE.out _ (List.getElem_mem hlt))).mono ?_; rintro e w1 ⟨rfl, rfl⟩
        go_wp2
        go_round
        case rel => exact ⟨k + 1, hlt, by go_num, HX⟩
        case measure => simp [intOf]; omega
    · have hlt' : (xs.length : Int) ≤ (k : Int) := by omega
      have HX := Lib.hid (any_none p xs k (by omega) ht.out)
      go_wp2
      go_ret
      exact ⟨⟨_, rfl, by rw [HX.out]; rfl⟩, rfl⟩
theorem containsStrs_c (p : Scu.Str → Bool) (hp : ∀ (s : ByteArray) (w : World), s.size ≤ R47 → Calls Try.prog 119 #[.string s] w fun e w' => e = .returned (.bool (p s)) ∧ w = w') (v : Value) (xs : List Scu.Str) (w : World) (B : Nat) (hv : IsStrs w B v xs) :
    Calls Try.prog 118 #[v, .func (.func 119) #[] #[]] w fun e w' => e = .returned (.bool (xs.any p)) ∧ w = w' := by
  have HC := Lib.hid (indexStrs_c p hp v xs w B hv)
  obtain ⟨⟨A, c, rfl, _, hr⟩, hl, he⟩ := hv
  clear hp hr he hl
  go_enter Try.func118, Try.ntmps118
  go_wp2_with fail
  refine HC.out.mono ?_; rintro e w1 ⟨⟨r, rfl, hr⟩, rfl⟩
  have HR := Lib.hid hr
  clear hr
  go_wp2
  go_ret
  exact ⟨ret_val (bool_eq HR.out), rfl⟩
theorem any_not {α : Type} (l : List α) (p q : α → Bool) (h : ∀ x ∈ l, p x = !q x) : l.all q = !l.any p := by
  induction l with
  | nil => rfl
  | cons x l ih =>
    rw [List.all_cons, List.any_cons, ih fun y hy => h y (List.mem_cons_of_mem _ hy), h x List.mem_cons_self]
    cases q x <;> simp
theorem sectorsOk_any (xs : List Scu.Str) : Scu.sectorsOk xs = (xs.length == 6 && !xs.any fun s => decide (8 < s.size)) := by
  unfold Scu.sectorsOk
  rw [any_not xs (fun s => decide (8 < s.size)) _ (fun x _ => by rw [Bool.eq_iff_iff]; simp)]
theorem sectors_c (v : Value) (xs : List Scu.Str) (w : World) (B : Nat) (hv : IsStrs w B v xs) :
    Calls Try.prog 103 #[v] w fun e w' => e = .returned (.bool (Scu.sectorsOk xs)) ∧ w = w' := by
  have HC := Lib.hid (containsStrs_c (fun s => decide (8 < s.size)) sectors1_c v xs w B hv)
  have hso := sectorsOk_any xs
  obtain ⟨⟨A, c, rfl, _, hr⟩, hl, he⟩ := hv
  clear hr he
  unfold R47 at hl
  by_cases h6 : xs.length = 6
  · have h6' : ((xs.length : Int) == 6) = true := by simp [h6]
    have hn : (xs.length == 6) = true := by simp [h6]
    rw [hn, Bool.true_and] at hso
    have HSO := Lib.hid hso
    clear hso hn h6
    go_enter Try.func103, Try.ntmps103
    go_wp2_with fail
    refine HC.out.mono ?_; rintro e w1 ⟨rfl, rfl⟩
    go_wp2
    go_ret
    exact ⟨ret_val (bool_eq HSO.out.symm), rfl⟩
  · have h6' : ((xs.length : Int) == 6) = false := by simp; omega
    have hn : (xs.length == 6) = false := by simp [h6]
    rw [hn, Bool.false_and] at hso
    have HSO := Lib.hid hso
    clear hso hn h6
    go_enter Try.func103, Try.ntmps103
    go_wp2
    go_ret
    exact ⟨ret_val (bool_eq HSO.out.symm), rfl⟩

theorem check1_c (v : Value) (xs : List Scu.Str) (w : World) (B : Nat) (hv : IsStrs w B v xs) :
    Calls Try.prog 105 #[v] w fun e w' => e = .returned (.bool (!Scu.sectorsOk xs)) ∧ w = w' := by
  have HC := Lib.hid (sectors_c v xs w B hv)
  obtain ⟨A, n, c, rfl⟩ := hv.form
  clear hv
  go_enter Try.func105, Try.ntmps105
  go_wp2_with fail
  refine HC.out.mono ?_; rintro e w1 ⟨rfl, rfl⟩
  go_wp2
  go_ret
  exact ⟨rfl, rfl⟩
theorem indexRows_c (v : Value) (xss : List (List Scu.Str)) (w : World) (B : Nat) (hv : IsRows w B v xss) :
    Calls Try.prog 120 #[v, .func (.func 105) #[] #[]] w fun e w' => IdxPost (xss.any fun l => !Scu.sectorsOk l) e ∧ w = w' := by
  obtain ⟨⟨A, c, vs, rfl, _, hr, hvl, hve⟩, hl⟩ := hv
  have HVL := Lib.hid hvl
  have HVE := Lib.hid hve
  clear hvl hve
  unfold R47 at hl
  go_enter Try.func120, Try.ntmps120
  go_wp2
  go_loop [8] (fun i => ∃ k : Nat, k ≤ xss.length ∧ i = .int .i64 k ∧ Hid ((xss.take k).any (fun l => !Scu.sectorsOk l) = false)) (fun i => xss.length - (intOf i).toNat)
  case atStart => exact ⟨0, Nat.zero_le _, rfl, by simp [Hid]⟩
  case round =>
    obtain ⟨k, hk, rfl, ht⟩ := hrel
    by_cases hlt : k < xss.length
    · have hlt' : (k : Int) < (xss.length : Int) := by omega
      obtain ⟨g, o, p, rfl, _, hc, hp⟩ := rows_get hr HVL.out HVE.out hlt
      have HPX := Lib.hid hp
      obtain ⟨A1, n1, c1, rfl⟩ := hp.form
      clear hp
      by_cases hx : (!Scu.sectorsOk xss[k]) = true
      · have HX := Lib.hid (any_found (fun l => !Scu.sectorsOk l) xss k hlt hx)
        go_wp2_with fail
        refine (check1_c _ _ _ B HPX.out).mono ?_; rintro e w1 ⟨rfl, rfl⟩
        go_wp2
        go_ret
        exact ⟨⟨_, rfl, by rw [HX.out]; simp⟩, rfl⟩
      · have hx' : (!Scu.sectorsOk xss[k]) = false := by simpa using hx
        have HX := Lib.hid (show (xss.take (k + 1)).any (fun l => !Scu.sectorsOk l) = false by rw [any_take _ xss k hlt, ht.out, hx']; rfl)
        clear hx
        go_wp2_with fail
        refine (check1_c _ _ _ B HPX.out).mono ?_; rintro e w1 ⟨rfl, rfl⟩
        go_wp2
        go_round
        case rel => exact ⟨k + 1, hlt, by go_num, HX⟩
        case measure => simp [intOf]; omega
    · have hlt' : (xss.length : Int) ≤ (k : Int) := by omega
      have HX := Lib.hid (any_none _ xss k (by omega) ht.out)
      go_wp2
      go_ret
      exact ⟨⟨_, rfl, by rw [HX.out]; rfl⟩, rfl⟩
theorem containsRows_c (v : Value) (xss : List (List Scu.Str)) (w : World) (B : Nat) (hv : IsRows w B v xss) :
    Calls Try.prog 104 #[v, .func (.func 105) #[] #[]] w fun e w' => e = .returned (.bool (xss.any fun l => !Scu.sectorsOk l)) ∧ w = w' := by
  have HC := Lib.hid (indexRows_c v xss w B hv)
  obtain ⟨A, n, c, rfl⟩ := hv.form
  clear hv
  go_enter Try.func104, Try.ntmps104
  go_wp2_with fail
  refine HC.out.mono ?_; rintro e w1 ⟨⟨r, rfl, hr⟩, rfl⟩
  have HR := Lib.hid hr
  clear hr
  go_wp2
  go_ret
  exact ⟨ret_val (bool_eq HR.out), rfl⟩
theorem volFault_any (x : Scu.Volume) : Scu.volFault x = if (!Scu.sectorsOk x.now || decide ((3 : Int) < (x.snaps.length : Int)) || x.snaps.any fun l => !Scu.sectorsOk l) = true then 8 else 0 := by
  have e : Scu.volOk x = !(!Scu.sectorsOk x.now || decide ((3 : Int) < (x.snaps.length : Int)) || x.snaps.any fun l => !Scu.sectorsOk l) := by
    unfold Scu.volOk
    rw [any_not x.snaps (fun l => !Scu.sectorsOk l) _ (fun _ _ => rfl)]
    have : decide (x.snaps.length ≤ 3) = !decide ((3 : Int) < (x.snaps.length : Int)) := by rw [Bool.eq_iff_iff]; simp; omega
    rw [this]
    simp
  unfold Scu.volFault
  rw [e]
  cases (!Scu.sectorsOk x.now || decide ((3 : Int) < (x.snaps.length : Int)) || x.snaps.any fun l => !Scu.sectorsOk l) <;> rfl
theorem volCheck_c (nv sv : Value) (x : Scu.Volume) (w : World) (B : Nat) (hv : IsVolume w B nv sv x) :
    Calls Try.prog 56 #[.agg #[nv, sv]] w fun e w' => e = .returned (.int .i64 (Scu.volFault x)) ∧ Below w.heap.size w w' := by
  have hf := volFault_any x
  have HV := Lib.hid hv
  obtain ⟨A1, n1, c1, rfl⟩ := hv.now.form
  obtain ⟨⟨A, c, vs, rfl, _, _, _, _⟩, hl⟩ := hv.snaps
  unfold R47 at hl
  clear hv
  cases h1 : Scu.sectorsOk x.now <;> cases h2 : decide ((3 : Int) < (x.snaps.length : Int)) <;> cases h3 : x.snaps.any fun l => !Scu.sectorsOk l
  all_goals
    rw [h1, h2, h3] at hf
    have HF := Lib.hid hf
    have H1 := Lib.hid h1
    have H3 := Lib.hid h3
    clear hf h1 h3
    go_enter Try.func56, Try.ntmps56
    go_wp2_with (first
      | (go_at_call 103; refine (sectors_c _ _ _ B (HV.out.now.alloc _)).mono ?_; rintro e w1 ⟨rfl, rfl⟩; rw [H1.out])
      | (go_at_call 104; refine (containsRows_c _ _ _ B (HV.out.snaps.alloc _)).mono ?_; rintro e w1 ⟨rfl, rfl⟩; rw [H3.out]))
    go_ret
    exact ⟨ret_val (int_eq (by rw [HF.out]; rfl)), (Below.refl _ _).alloc (Nat.le_refl _) _⟩
end Go.Proofs.Ytioajgcbchdpeaa

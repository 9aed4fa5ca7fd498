/- Walks: may a state be? The program's and the reference's; the law MachineChecks. -/
import Derived.Test.YtioajgcbchdpeaaList
import Derived.Test.YtioajgcbchdpeaaStateL
namespace Go.Proofs.Ytioajgcbchdpeaa
open Go.RowKit Go.ChangeShapes Go.WideShapes Go.ChangeAt
set_option maxHeartbeats 400000
set_option maxRecDepth 100000

theorem cells_reply : Try.prog.cellsOf 43 = 3 := by kernel_rfl
theorem cells_last : Try.prog.cellsOf 109 = 4 := by kernel_rfl
theorem cells_errno : Try.prog.cellsOf 22 = 1 := by kernel_rfl
theorem cells_lasts : Try.prog.cellsOf 63 = 1 := by kernel_rfl
theorem cells_state : Try.prog.cellsOf 65 = 3 := by kernel_rfl
theorem bytes_last : Try.prog.bytesOf 109 = 40 := by kernel_rfl
section
variable {H : Type} {enc : TypeId × Value → H} {w : World} {base : Nat} {spare : Nat → Bool} {held : Bool} {n : Nat}
theorem trod_reply {cs : List Value} {x : DataW H × List MemPlace} (h : DataW.trod enc Try.prog w base spare held n 43 cs = some x) : ∃ r : Scu.Reply, cs = [.int .i64 r.code, .int .i64 r.n, .string r.data] := by
  obtain ⟨xs, m, _, _, hl, hxl, hf⟩ := DataW.trod_struct Try.underlying43 h
  rw [cells_reply] at hl
  match cs, hl with
  | [c0, c1, c2], _ =>
    obtain ⟨z0, e0⟩ := some_of hxl (i := 0) (by simp)
    obtain ⟨z1, e1⟩ := some_of hxl (i := 1) (by simp)
    obtain ⟨z2, e2⟩ := some_of hxl (i := 2) (by simp)
    obtain ⟨n0, h0, _⟩ := DataW.trod_int Try.underlying22 ((hf 0 _ rfl).trans e0)
    obtain ⟨n1, h1, _⟩ := DataW.trod_int Try.underlying3 ((hf 1 _ rfl).trans e1)
    obtain ⟨s, h2, _, hs⟩ := DataW.trod_string Try.underlying9 ((hf 2 _ rfl).trans e2)
    simp [cells_int, cells_string, cells_errno] at h0 h1 h2
    subst h0 h1 h2
    exact ⟨⟨n0, n1, s⟩, rfl⟩
theorem trod_last {cs : List Value} {x : DataW H × List MemPlace} (h : DataW.trod enc Try.prog w base spare held n 109 cs = some x) : ∃ r : Scu.Last, cs = lastC r := by
  obtain ⟨xs, m, _, _, hl, hxl, hf⟩ := DataW.trod_struct Try.underlying109 h
  rw [cells_last] at hl
  match cs, hl with
  | [c0, c1, c2, c3], _ =>
    obtain ⟨z0, e0⟩ := some_of hxl (i := 0) (by simp)
    obtain ⟨z1, e1⟩ := some_of hxl (i := 1) (by simp)
    obtain ⟨n0, h0, _⟩ := DataW.trod_int Try.underlying3 ((hf 0 _ rfl).trans e0)
    obtain ⟨r, h1⟩ := trod_reply ((hf 1 _ rfl).trans e1)
    simp [cells_int, cells_reply] at h0 h1
    obtain ⟨rfl, rfl, rfl⟩ := h1
    subst h0
    exact ⟨⟨n0, r⟩, rfl⟩
theorem trod_lasts {v : Value} {x : DataW H × List MemPlace} (h : DataW.trod enc Try.prog w base spare held n 63 [v] = some x) (hw : ∀ k ∈ x.1.weights Try.prog 63, k ≤ reachBytes) :
    ∃ ls, IsLasts w w.heap.size v ls := by
  obtain ⟨xs, ⟨⟨A, c, css, h1, h2, h3, h4, h5, h6⟩, h7⟩⟩ := trod_row (m := 4) (bytes := 40) (El := fun _ _ cs a => cs = lastC a) Scu.last0 Try.underlying63 cells_last bytes_last (by omega) (fun h _ => trod_last h) h hw
  refine ⟨xs, ⟨A, c, h1, h2, ?_⟩, h7⟩
  have : css = xs.map lastC := by
    apply List.ext_getElem (by simp [h3])
    intro j hj hj'
    have hjx : j < xs.length := by omega
    rw [List.getElem_map]
    exact h6 j _ _ (List.getElem?_eq_getElem hj) (List.getElem?_eq_getElem hjx)
  rw [List.flatMap_def, ← this]
  exact h5
theorem trod_state {cs : List Value} {x : DataW H × List MemPlace} (h : DataW.trod enc Try.prog w base spare held n 65 cs = some x) (hw : ∀ k ∈ x.1.weights Try.prog 65, k ≤ reachBytes) :
    ∃ nv sv lv y, cs = [nv, sv, lv] ∧ IsState w w.heap.size nv sv lv y := by
  obtain ⟨xs, m, _, hxe, hl, hxl, hf⟩ := DataW.trod_struct Try.underlying65 h
  rw [cells_state] at hl
  match cs, hl with
  | [c0, c1, c2], _ =>
    have hxl2 : xs.length = 2 := hxl
    match xs, hxl2 with
    | [z0, z1], _ =>
      subst hxe
      have hwt : ∀ k ∈ DataW.weights Try.prog 65 (DataW.agg [z0.1, z1.1]), k ≤ reachBytes := hw
      simp only [DataW.weights, Try.underlying65, DataW.weightsEach, List.map_cons, List.map_nil, List.mem_append] at hwt
      have h0 := hf 0 _ rfl
      have h1 := hf 1 _ rfl
      simp [cells_volume, cells_lasts] at h0 h1
      obtain ⟨nv, sv, y, e0, h0'⟩ := trod_volume h0 (fun k hk => hwt k (.inl hk))
      obtain ⟨ls, h1'⟩ := trod_lasts h1 (fun k hk => hwt k (.inr (.inl hk)))
      simp only [List.cons.injEq, and_true] at e0
      obtain ⟨rfl, rfl⟩ := e0
      exact ⟨c0, c1, c2, ⟨y, ls⟩, rfl, h0', h1'⟩
def IsStateV (w : World) (v : Value) (x : Scu.State) : Prop := ∃ nv sv lv, v = .agg #[nv, sv, lv] ∧ IsState w w.heap.size nv sv lv x
theorem openS_State {v : Value} {d : DataW H} {p : List MemPlace} {b0 : Nat} (hv : Value.okWide Try.prog w .any b0 65 v) (h : DataW.Trod enc Try.prog w base spare held 65 v d p)
    (hw : ∀ k ∈ d.weights Try.prog 65, k ≤ reachBytes) : ∃ y, IsStateV w v y := by
  obtain ⟨cs, rfl, _⟩ := okWide_struct Try.underlying65 hv
  obtain ⟨fuel, hf⟩ := h
  obtain ⟨nv, sv, lv, y, e, hy⟩ := trod_state hf hw
  refine ⟨y, nv, sv, lv, ?_, hy⟩
  have : cs = #[nv, sv, lv] := by
    apply Array.toList_inj.1
    simpa [Value.cells] using e
  rw [this]
end

def lastBad (l : Scu.Last) : Bool := decide (l.num < 0) || decide ((1048576 : Int) < l.num)
theorem lastsOk_any (ls : List Scu.Last) : Scu.lastsOk ls = (ls.length == 4 && !ls.any lastBad) := by
  unfold Scu.lastsOk
  rw [any_not ls lastBad _ (fun x _ => by unfold lastBad; rw [Bool.eq_iff_iff]; simp)]
theorem mcheck1_c (l : Scu.Last) (w : World) :
    Calls Try.prog 108 #[.agg #[.int .i64 l.num, .int .i64 l.reply.code, .int .i64 l.reply.n, .string l.reply.data]] w fun e w' => e = .returned (.bool (lastBad l)) ∧ Below w.heap.size w w' := by
  cases h1 : decide (l.num < 0) <;> cases h2 : decide ((1048576 : Int) < l.num)
  all_goals
    have HF := Lib.hid (show lastBad l = _ from by unfold lastBad; rw [h1, h2])
    go_enter Try.func108, Try.ntmps108
    go_wp2
    go_ret
    exact ⟨ret_val (bool_eq (by rw [HF.out]; rfl)), (Below.refl _ _).alloc (Nat.le_refl _) _⟩
theorem indexLasts_c (v : Value) (ls : List Scu.Last) (w : World) (B : Nat) (hv : IsLasts w B v ls) :
    Calls Try.prog 121 #[v, .func (.func 108) #[] #[]] w fun e w' => IdxPost (ls.any lastBad) e ∧ Below w.heap.size w w' := by
  obtain ⟨⟨A, c, rfl, _, hr⟩, hl⟩ := hv
  unfold R47 at hl
  go_enter Try.func121, Try.ntmps121
  go_wp2
  go_loopw [8] (fun i wr => ∃ k : Nat, k ≤ ls.length ∧ i = .int .i64 k ∧ Hid ((ls.take k).any lastBad = false) ∧ Below w.heap.size w wr) (fun i _ => ls.length - (intOf i).toNat)
  case atStart => exact ⟨0, Nat.zero_le _, rfl, by simp [Hid], Below.refl _ _⟩
  case round =>
    obtain ⟨k, hk, rfl, ht, hbw⟩ := hrel
    have hrw := hr.below hbw
    have hbs := hbw.size
    by_cases hlt : k < ls.length
    · have hlt' : (k : Int) < (ls.length : Int) := by omega
      obtain ⟨g, o, rfl, hg, c0, c1, c2, c3⟩ := last_get hrw hlt
      cases hx : lastBad ls[k]
      · have HX := Lib.hid (show (ls.take (k + 1)).any lastBad = false by rw [any_take _ ls k hlt, ht.out, hx]; rfl)
        have HXX := Lib.hid hx
        clear hx
        go_wp2_with fail
        refine (mcheck1_c _ _).mono ?_; rintro e w1 ⟨rfl, h1⟩; rw [HXX.out]
        go_wp2
        exact ⟨⟨k + 1, hlt, by go_num, HX, hbw.trans (h1.mono hbs)⟩, by simp only [intOf]; omega⟩
      · have HX := Lib.hid (any_found lastBad ls k hlt hx)
        have HXX := Lib.hid hx
        clear hx
        go_wp2_with fail
        refine (mcheck1_c _ _).mono ?_; rintro e w1 ⟨rfl, h1⟩; rw [HXX.out]
        go_wp2
        go_ret
        exact ⟨⟨_, rfl, by rw [HX.out]; simp⟩, hbw.trans (h1.mono hbs)⟩
    · have hlt' : (ls.length : Int) ≤ (k : Int) := by omega
      have HX := Lib.hid (any_none _ ls k (by omega) ht.out)
      go_wp2
      go_ret
      exact ⟨⟨_, rfl, by rw [HX.out]; rfl⟩, hbw⟩
theorem containsLasts_c (v : Value) (ls : List Scu.Last) (w : World) (B : Nat) (hv : IsLasts w B v ls) :
    Calls Try.prog 107 #[v, .func (.func 108) #[] #[]] w fun e w' => e = .returned (.bool (ls.any lastBad)) ∧ Below w.heap.size w w' := by
  have HC := Lib.hid (indexLasts_c v ls w B hv)
  obtain ⟨A, n, c, rfl⟩ := hv.form
  clear hv
  go_enter Try.func107, Try.ntmps107
  go_wp2_with fail
  refine HC.out.mono ?_; rintro e w1 ⟨⟨r, rfl, hr⟩, h1⟩
  have HR := Lib.hid hr
  clear hr
  go_wp2
  go_ret
  exact ⟨ret_val (bool_eq HR.out), h1⟩
theorem stateFault_any (x : Scu.State) : Scu.stateFault x = if (((x.lasts.length : Int) != 4) || x.lasts.any lastBad) = true then 8 else Scu.volFault x.volume := by
  unfold Scu.stateFault
  rw [lastsOk_any]
  have : ((x.lasts.length : Int) != 4) = !(x.lasts.length == 4) := by rw [Bool.eq_iff_iff]; simp; omega
  rw [this]
  cases (x.lasts.length == 4) <;> cases x.lasts.any lastBad <;> rfl
theorem machCheck_c (nv sv lv : Value) (x : Scu.State) (w : World) (B : Nat) (hv : IsState w B nv sv lv x) :
    Calls Try.prog 77 #[.agg #[nv, sv, lv]] w fun e w' => e = .returned (.int .i64 (Scu.stateFault x)) ∧ Below w.heap.size w w' := by
  have hf := stateFault_any x
  have HV := Lib.hid hv
  obtain ⟨A1, n1, c1, rfl⟩ := hv.vol.now.form
  obtain ⟨A2, n2, c2, rfl⟩ := hv.vol.snaps.form
  obtain ⟨⟨A, c, rfl, _, _⟩, hl⟩ := hv.lasts
  unfold R47 at hl
  clear hv
  cases h1 : ((x.lasts.length : Int) != 4)
  · cases h2 : x.lasts.any lastBad
    · rw [h1, h2] at hf
      have HF := Lib.hid (show Scu.stateFault x = Scu.volFault x.volume from hf)
      have H2 := Lib.hid h2
      clear hf h2
      go_enter Try.func77, Try.ntmps77
      go_wp2_with fail
      refine (containsLasts_c _ x.lasts _ B (HV.out.lasts.alloc _)).mono ?_; rintro e w1 ⟨rfl, h1⟩; rw [H2.out]
      obtain ⟨hc, hz⟩ := bcell h1
      have hsz := box_lt h1
      have hB1 := below_box h1
      go_wp2_with fail
      refine (volCheck_c _ _ x.volume _ B (HV.out.vol.below hB1)).mono ?_; rintro e w2 ⟨rfl, h2⟩
      go_wp2
      go_ret
      exact ⟨ret_val (int_eq HF.out.symm), hB1.trans (h2.mono hB1.size)⟩
    · rw [h1, h2] at hf
      have HF := Lib.hid (show Scu.stateFault x = 8 from hf)
      have H2 := Lib.hid h2
      clear hf h2
      go_enter Try.func77, Try.ntmps77
      go_wp2_with fail
      refine (containsLasts_c _ x.lasts _ B (HV.out.lasts.alloc _)).mono ?_; rintro e w1 ⟨rfl, h1⟩; rw [H2.out]
      go_wp2
      go_ret
      exact ⟨ret_val (int_eq HF.out.symm), below_box h1⟩
  · rw [h1] at hf
    have HF := Lib.hid (show Scu.stateFault x = 8 from hf)
    clear hf
    go_enter Try.func77, Try.ntmps77
    go_wp2
    go_ret
    exact ⟨ret_val (int_eq HF.out.symm), (Below.refl _ _).alloc (Nat.le_refl _) _⟩

/- the reference's -/
def inB (n a b : Int) : Bool := decide (a ≤ n) && decide (n ≤ b)
theorem inn_c (n a b : Int) (w : World) : Calls Try.prog 63 #[.int .i64 n, .int .i64 a, .int .i64 b] w fun e w' => e = .returned (.bool (inB n a b)) ∧ w = w' := by
  cases h1 : decide (a ≤ n) <;> cases h2 : decide (n ≤ b)
  all_goals
    have HF := Lib.hid (show inB n a b = _ from by unfold inB; rw [h1, h2])
    go_enter Try.func63, Try.ntmps63
    go_wp2
    go_ret
    exact ⟨ret_val (bool_eq (by rw [HF.out]; rfl)), rfl⟩
def lastsTo (x : Scu.State) (k : Nat) : Bool := x.lasts.length == 4 && (x.lasts.take k).all fun l => inB l.num 0 1048576
theorem lastsTo_all (x : Scu.State) (k : Nat) (h : x.lasts.length ≤ k) : lastsTo x k = Scu.lastsOk x.lasts := by
  unfold lastsTo Scu.lastsOk
  rw [List.take_of_length_le h]
  rfl
theorem lastsTo_succ (x : Scu.State) (k : Nat) (h : k < x.lasts.length) : lastsTo x (k + 1) = (lastsTo x k && inB x.lasts[k].num 0 1048576) := by
  unfold lastsTo
  rw [List.take_succ_eq_append_getElem h, List.all_append]
  simp only [List.all_cons, List.all_nil, Bool.and_true, Bool.and_assoc]
theorem lastsTo_zero (x : Scu.State) : lastsTo x 0 = ((x.lasts.length : Int) == 4) := by
  unfold lastsTo
  rw [Bool.eq_iff_iff]; simp; omega
theorem stateFaultR_c (nv sv lv : Value) (x : Scu.State) (w : World) (B : Nat) (hv : IsState w B nv sv lv x) :
    Calls Try.prog 80 #[.agg #[nv, sv, lv]] w fun e w' => e = .returned (.int .i64 (Scu.stateFault x)) ∧ Below w.heap.size w w' := by
  have HV := Lib.hid hv
  obtain ⟨A1, n1, c1, rfl⟩ := hv.vol.now.form
  obtain ⟨A2, n2, c2, rfl⟩ := hv.vol.snaps.form
  obtain ⟨⟨A, c, rfl, _, hr⟩, hl⟩ := hv.lasts
  have h0 := lastsTo_zero x
  unfold R47 at hl
  clear hv
  cases h1 : ((x.lasts.length : Int) == 4)
  all_goals
    rw [h1] at h0
    have H0 := Lib.hid h0
    clear h0
    go_enter Try.func80, Try.ntmps80
    go_wp2
    go_loop [3, 4] (fun b i => ∃ k : Nat, k ≤ x.lasts.length ∧ i = .int .i64 k ∧ ∃ c : Bool, b = .bool c ∧ Hid (c = lastsTo x k)) (fun _ i => x.lasts.length - (intOf i).toNat)
    case atStart => exact ⟨0, Nat.zero_le _, rfl, _, rfl, H0.out.symm⟩
    case round =>
      obtain ⟨k, hk, rfl, c, rfl, ht⟩ := hrel
      by_cases hlt : k < x.lasts.length
      · have hlt' : (k : Int) < (x.lasts.length : Int) := by omega
        obtain ⟨g, o, rfl, hg, c0, _, _, _⟩ := last_get hr hlt
        have HX := Lib.hid (lastsTo_succ x k hlt)
        cases c
        · go_wp2
          go_round
          case rel => exact ⟨k + 1, hlt, by go_num, false, rfl, by show false = lastsTo x (k + 1); rw [HX.out, ← ht.out]; rfl⟩
          case measure => simp [intOf]; omega
        · cases hx : inB x.lasts[k].num 0 1048576
          all_goals
            have HXX := Lib.hid hx
            clear hx
            go_wp2_with (go_at_call 63; refine (inn_c _ _ _ _).mono ?_; rintro e w1 ⟨rfl, rfl⟩; rw [HXX.out])
            go_round
            case rel => exact ⟨k + 1, hlt, by go_num, _, rfl, by show _ = lastsTo x (k + 1); rw [HX.out, ← ht.out, HXX.out]; rfl⟩
            case measure => simp [intOf]; omega
      · have hlt' : (x.lasts.length : Int) ≤ (k : Int) := by omega
        have HX := Lib.hid (show Scu.stateFault x = if c then Scu.volFault x.volume else 8 by unfold Scu.stateFault; rw [ht.out, lastsTo_all x k (by omega)])
        cases c
        · go_wp2
          go_ret
          exact ⟨ret_val (int_eq (by rw [HX.out]; rfl)), (Below.refl _ _).alloc (Nat.le_refl _) _⟩
        · go_wp2_with fail
          refine (volumeFault_c _ _ x.volume _ B (HV.out.vol.alloc _)).mono ?_; rintro e w2 ⟨rfl, h2⟩
          go_wp2
          go_ret
          exact ⟨ret_val (int_eq (by rw [HX.out]; rfl)), below_box h2⟩

end Go.Proofs.Ytioajgcbchdpeaa

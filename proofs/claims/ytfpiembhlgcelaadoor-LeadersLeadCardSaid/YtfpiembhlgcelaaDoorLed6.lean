/- Part 6: words and walks under the law 'LeadersLead'. -/
import Derived.Test.YtfpiembhlgcelaaDoorLed4
import Derived.Test.YtfpiembhlgcelaaDoorLed5
import Derived.Test.YtfpiembhlgcelaaDoorLed3
set_option linter.unusedVariables false
set_option linter.unusedSimpArgs false
/- Equations on runs: structs compared. -/
namespace Go.Proofs.YtfpiembhlgcelaaDoor
open Go.RowKit
set_option maxHeartbeats 400000
set_option maxRecDepth 100000
theorem op_dec (a b : Scu.Op) : decide (a = b) = (a.kind == b.kind && (a.at_ == b.at_ && (a.snap == b.snap && decide (a.data = b.data)))) := by
  cases a; cases b
  rw [Bool.eq_iff_iff]
  simp
theorem reply_dec (a b : Scu.Reply) : decide (a = b) = (a.code == b.code && (a.n == b.n && decide (a.data = b.data))) := by
  cases a; cases b
  rw [Bool.eq_iff_iff]
  simp
theorem last_dec (a b : Scu.Last) : decide (a = b) = (a.num == b.num && decide (a.reply = b.reply)) := by
  cases a; cases b
  rw [Bool.eq_iff_iff]
  simp
theorem request_dec (a b : Scu.Request) : decide (a = b) = (a.client == b.client && (a.num == b.num && decide (a.op = b.op))) := by
  cases a; cases b
  rw [Bool.eq_iff_iff]
  simp
theorem run_eql_reply (a b : Scu.Reply) (W : World) : (binOp .eql 45 (.agg #[.int .i64 a.code, .int .i64 a.n, .string a.data]) (.agg #[.int .i64 b.code, .int .i64 b.n, .string b.data])).run Tryd.prog W = .ok (.bool (decide (a = b))) W := by
  rw [reply_dec, ← str_beq]
  simp [go_sem]
  repeat' split
  all_goals simp_all
theorem run_neq_last (a b : Scu.Last) (W : World) : (binOp .neq 60 (.agg #[.int .i64 a.num, .int .i64 a.reply.code, .int .i64 a.reply.n, .string a.reply.data]) (.agg #[.int .i64 b.num, .int .i64 b.reply.code, .int .i64 b.reply.n, .string b.reply.data])).run Tryd.prog W = .ok (.bool (!decide (a = b))) W := by
  rw [last_dec, reply_dec, ← str_beq]
  simp [go_sem]
  repeat' split
  all_goals simp_all
end Go.Proofs.YtfpiembhlgcelaaDoor
/- Walks: the comparison of states; laws on new states. -/
namespace Go.Proofs.YtfpiembhlgcelaaDoor
open Go.RowKit
set_option maxHeartbeats 400000
set_option maxRecDepth 100000
theorem state_eq {x y : Scu.State} (h1 : x.volume = y.volume) (h2 : x.lasts = y.lasts) : x = y := by
  cases x; cases y; simp_all
theorem last_ne (a b : Scu.Last) : (!(a.num == b.num && a.reply.code == b.reply.code && a.reply.n == b.reply.n && decide (a.reply.data = b.reply.data))) = !decide (a = b) := by
  obtain ⟨n, ⟨c, m, d⟩⟩ := a
  obtain ⟨n', ⟨c', m', d'⟩⟩ := b
  simp only [Bool.not_eq_eq_eq_not, Bool.not_not]
  rw [Bool.eq_iff_iff]
  simp [and_assoc]
theorem IsState.below {w w' : World} {B : Nat} {nv sv lv : Value} {x : Scu.State} (h : IsState w B nv sv lv x) (hb : Below w.heap.size w w') : IsState w' B nv sv lv x := ⟨h.vol.below hb, h.lasts.below hb⟩
theorem IsState.alloc {w : World} {B : Nat} {nv sv lv : Value} {x : Scu.State} (h : IsState w B nv sv lv x) (o : Obj) : IsState (w.alloc o) B nv sv lv x := ⟨h.vol.alloc o, h.lasts.alloc o⟩
end Go.Proofs.YtfpiembhlgcelaaDoor
/- Walks: may a state be? The program's and the reference's; the law MachineChecks. -/
namespace Go.Proofs.YtfpiembhlgcelaaDoor
open Go.RowKit Go.ChangeShapes Go.WideShapes Go.ChangeAt
set_option maxHeartbeats 400000
set_option maxRecDepth 100000

theorem cells_reply : Tryd.prog.cellsOf 45 = 3 := by kernel_rfl
theorem cells_last : Tryd.prog.cellsOf 60 = 4 := by kernel_rfl
theorem cells_errno : Tryd.prog.cellsOf 29 = 1 := by kernel_rfl
theorem cells_lasts : Tryd.prog.cellsOf 52 = 1 := by kernel_rfl
theorem cells_state : Tryd.prog.cellsOf 54 = 3 := by kernel_rfl
theorem bytes_last : Tryd.prog.bytesOf 60 = 40 := by kernel_rfl
section
variable {H : Type} {enc : TypeId × Value → H} {w : World} {base : Nat} {spare : Nat → Bool} {held : Bool} {n : Nat}
theorem trod_reply {cs : List Value} {x : DataW H × List MemPlace} (h : DataW.trod enc Tryd.prog w base spare held n 45 cs = some x) : ∃ r : Scu.Reply, cs = [.int .i64 r.code, .int .i64 r.n, .string r.data] := by
  obtain ⟨xs, m, _, _, hl, hxl, hf⟩ := DataW.trod_struct Tryd.underlying45 h
  rw [cells_reply] at hl
  match cs, hl with
  | [c0, c1, c2], _ =>
    obtain ⟨z0, e0⟩ := some_of hxl (i := 0) (by simp)
    obtain ⟨z1, e1⟩ := some_of hxl (i := 1) (by simp)
    obtain ⟨z2, e2⟩ := some_of hxl (i := 2) (by simp)
    obtain ⟨n0, h0, _⟩ := DataW.trod_int Tryd.underlying29 ((hf 0 _ rfl).trans e0)
    obtain ⟨n1, h1, _⟩ := DataW.trod_int Tryd.underlying3 ((hf 1 _ rfl).trans e1)
    obtain ⟨s, h2, _, hs⟩ := DataW.trod_string Tryd.underlying9 ((hf 2 _ rfl).trans e2)
    simp [cells_int, cells_string, cells_errno] at h0 h1 h2
    subst h0 h1 h2
    exact ⟨⟨n0, n1, s⟩, rfl⟩
theorem trod_last {cs : List Value} {x : DataW H × List MemPlace} (h : DataW.trod enc Tryd.prog w base spare held n 60 cs = some x) : ∃ r : Scu.Last, cs = lastC r := by
  obtain ⟨xs, m, _, _, hl, hxl, hf⟩ := DataW.trod_struct Tryd.underlying60 h
  rw [cells_last] at hl
  match cs, hl with
  | [c0, c1, c2, c3], _ =>
    obtain ⟨z0, e0⟩ := some_of hxl (i := 0) (by simp)
    obtain ⟨z1, e1⟩ := some_of hxl (i := 1) (by simp)
    obtain ⟨n0, h0, _⟩ := DataW.trod_int Tryd.underlying3 ((hf 0 _ rfl).trans e0)
    obtain ⟨r, h1⟩ := trod_reply ((hf 1 _ rfl).trans e1)
    simp [cells_int, cells_reply] at h0 h1
    obtain ⟨rfl, rfl, rfl⟩ := h1
    subst h0
    exact ⟨⟨n0, r⟩, rfl⟩
theorem trod_lasts {v : Value} {x : DataW H × List MemPlace} (h : DataW.trod enc Tryd.prog w base spare held n 52 [v] = some x) (hw : ∀ k ∈ x.1.weights Tryd.prog 52, k ≤ reachBytes) :
    ∃ ls, IsLasts w w.heap.size v ls := by
  obtain ⟨xs, ⟨⟨A, c, css, h1, h2, h3, h4, h5, h6⟩, h7⟩⟩ := trod_row (m := 4) (bytes := 40) (El := fun _ _ cs a => cs = lastC a) Scu.last0 Tryd.underlying52 cells_last bytes_last (by omega) (fun h _ => trod_last h) h hw
  refine ⟨xs, ⟨A, c, h1, h2, ?_⟩, h7⟩
  have : css = xs.map lastC := by
    apply List.ext_getElem (by simp [h3])
    intro j hj hj'
    have hjx : j < xs.length := by omega
    rw [List.getElem_map]
    exact h6 j _ _ (List.getElem?_eq_getElem hj) (List.getElem?_eq_getElem hjx)
  rw [List.flatMap_def, ← this]
  exact h5
theorem trod_state {cs : List Value} {x : DataW H × List MemPlace} (h : DataW.trod enc Tryd.prog w base spare held n 54 cs = some x) (hw : ∀ k ∈ x.1.weights Tryd.prog 54, k ≤ reachBytes) :
    ∃ nv sv lv y, cs = [nv, sv, lv] ∧ IsState w w.heap.size nv sv lv y := by
  obtain ⟨xs, m, _, hxe, hl, hxl, hf⟩ := DataW.trod_struct Tryd.underlying54 h
  rw [cells_state] at hl
  match cs, hl with
  | [c0, c1, c2], _ =>
    have hxl2 : xs.length = 2 := hxl
    match xs, hxl2 with
    | [z0, z1], _ =>
      subst hxe
      have hwt : ∀ k ∈ DataW.weights Tryd.prog 54 (DataW.agg [z0.1, z1.1]), k ≤ reachBytes := hw
      simp only [DataW.weights, Tryd.underlying54, DataW.weightsEach, List.map_cons, List.map_nil, List.mem_append] at hwt
      have h0 := hf 0 _ rfl
      have h1 := hf 1 _ rfl
      simp [cells_volume, cells_lasts] at h0 h1
      obtain ⟨nv, sv, y, e0, h0'⟩ := trod_volume h0 (fun k hk => hwt k (.inl hk))
      obtain ⟨ls, h1'⟩ := trod_lasts h1 (fun k hk => hwt k (.inr (.inl hk)))
      simp only [List.cons.injEq, and_true] at e0
      obtain ⟨rfl, rfl⟩ := e0
      exact ⟨c0, c1, c2, ⟨y, ls⟩, rfl, h0', h1'⟩
def IsStateV (w : World) (v : Value) (x : Scu.State) : Prop := ∃ nv sv lv, v = .agg #[nv, sv, lv] ∧ IsState w w.heap.size nv sv lv x
theorem openS_State {v : Value} {d : DataW H} {p : List MemPlace} {b0 : Nat} (hv : Value.okWide Tryd.prog w .any b0 54 v) (h : DataW.Trod enc Tryd.prog w base spare held 54 v d p)
    (hw : ∀ k ∈ d.weights Tryd.prog 54, k ≤ reachBytes) : ∃ y, IsStateV w v y := by
  obtain ⟨cs, rfl, _⟩ := okWide_struct Tryd.underlying54 hv
  obtain ⟨fuel, hf⟩ := h
  obtain ⟨nv, sv, lv, y, e, hy⟩ := trod_state hf hw
  refine ⟨y, nv, sv, lv, ?_, hy⟩
  have : cs = #[nv, sv, lv] := by
    apply Array.toList_inj.1
    simpa [Value.cells] using e
  rw [this]
end

def lastBad (l : Scu.Last) : Bool := decide (l.num < 0) || decide ((1048576 : Int) < l.num)
theorem lastsOk_any (ls : List Scu.Last) : Scu.lastsOk ls = (ls.length == 4 && !ls.any lastBad) := by
  unfold Scu.lastsOk
  rw [any_not ls lastBad _ (fun x _ => by unfold lastBad; rw [Bool.eq_iff_iff]; simp)]
theorem mcheck1_c (l : Scu.Last) (w : World) :
    Calls Tryd.prog 72 #[.agg #[.int .i64 l.num, .int .i64 l.reply.code, .int .i64 l.reply.n, .string l.reply.data]] w fun e w' => e = .returned (.bool (lastBad l)) ∧ Below w.heap.size w w' := by
  cases h1 : decide (l.num < 0) <;> cases h2 : decide ((1048576 : Int) < l.num)
  all_goals
    have HF := Lib.hid (show lastBad l = _ from by unfold lastBad; rw [h1, h2])
    go_enter Tryd.func72, Tryd.ntmps72
    go_wp2
    go_ret
    exact ⟨ret_val (bool_eq (by rw [HF.out]; rfl)), (Below.refl _ _).alloc (Nat.le_refl _) _⟩
theorem indexLasts_c (v : Value) (ls : List Scu.Last) (w : World) (B : Nat) (hv : IsLasts w B v ls) :
    Calls Tryd.prog 93 #[v, .func (.func 72) #[] #[]] w fun e w' => IdxPost (ls.any lastBad) e ∧ Below w.heap.size w w' := by
  obtain ⟨⟨A, c, rfl, _, hr⟩, hl⟩ := hv
  unfold R47 at hl
  go_enter Tryd.func93, Tryd.ntmps93
  go_wp2
  go_loopw [8] (fun i wr => ∃ k : Nat, k ≤ ls.length ∧ i = .int .i64 k ∧ Hid ((ls.take k).any lastBad = false) ∧ Below w.heap.size w wr) (fun i _ => ls.length - (intOf i).toNat)
  case atStart => exact ⟨0, Nat.zero_le _, rfl, by simp [Hid], Below.refl _ _⟩
  case round =>
    obtain ⟨k, hk, rfl, ht, hbw⟩ := hrel
    have hrw := hr.below hbw
    have hbs := hbw.size
    by_cases hlt : k < ls.length
    · have hlt' : (k : Int) < (ls.length : Int) := by omega
      obtain ⟨g, o, rfl, hg, c0, c1, c2, c3⟩ := last_get hrw hlt
      cases hx : lastBad ls[k]
      · have HX := Lib.hid (show (ls.take (k + 1)).any lastBad = false by rw [any_take _ ls k hlt, ht.out, hx]; rfl)
        have HXX := Lib.hid hx
        clear hx
        go_wp2_with fail
        refine (mcheck1_c _ _).mono ?_; rintro e w1 ⟨rfl, h1⟩; rw [HXX.out]
        go_wp2
        exact ⟨⟨k + 1, hlt, by go_num, HX, hbw.trans (h1.mono hbs)⟩, by simp only [intOf]; omega⟩
      · have HX := Lib.hid (any_found lastBad ls k hlt hx)
        have HXX := Lib.hid hx
        clear hx
        go_wp2_with fail
        refine (mcheck1_c _ _).mono ?_; rintro e w1 ⟨rfl, h1⟩; rw [HXX.out]
        go_wp2
        go_ret
        exact ⟨⟨_, rfl, by rw [HX.out]; simp⟩, hbw.trans (h1.mono hbs)⟩
    · have hlt' : (ls.length : Int) ≤ (k : Int) := by omega
      have HX := Lib.hid (any_none _ ls k (by omega) ht.out)
      go_wp2
      go_ret
      exact ⟨⟨_, rfl, by rw [HX.out]; rfl⟩, hbw⟩
theorem containsLasts_c (v : Value) (ls : List Scu.Last) (w : World) (B : Nat) (hv : IsLasts w B v ls) :
    Calls Tryd.prog 71 #[v, .func (.func 72) #[] #[]] w fun e w' => e = .returned (.bool (ls.any lastBad)) ∧ Below w.heap.size w w' := by
  have HC := Lib.hid (indexLasts_c v ls w B hv)
  obtain ⟨A, n, c, rfl⟩ := hv.form
  clear hv
  go_enter Tryd.func71, Tryd.ntmps71
  go_wp2_with fail
  refine HC.out.mono ?_; rintro e w1 ⟨⟨r, rfl, hr⟩, h1⟩
  have HR := Lib.hid hr
  clear hr
  go_wp2
  go_ret
  exact ⟨ret_val (bool_eq HR.out), h1⟩
theorem stateFault_any (x : Scu.State) : Scu.stateFault x = if (((x.lasts.length : Int) != 4) || x.lasts.any lastBad) = true then 8 else Scu.volFault x.volume := by
  unfold Scu.stateFault
  rw [lastsOk_any]
  have : ((x.lasts.length : Int) != 4) = !(x.lasts.length == 4) := by rw [Bool.eq_iff_iff]; simp; omega
  rw [this]
  cases (x.lasts.length == 4) <;> cases x.lasts.any lastBad <;> rfl
theorem machCheck_c (nv sv lv : Value) (x : Scu.State) (w : World) (B : Nat) (hv : IsState w B nv sv lv x) :
    Calls Tryd.prog 31 #[.agg #[nv, sv, lv]] w fun e w' => e = .returned (.int .i64 (Scu.stateFault x)) ∧ Below w.heap.size w w' := by
  have hf := stateFault_any x
  have HV := Lib.hid hv
  obtain ⟨A1, n1, c1, rfl⟩ := hv.vol.now.form
  obtain ⟨A2, n2, c2, rfl⟩ := hv.vol.snaps.form
  obtain ⟨⟨A, c, rfl, _, _⟩, hl⟩ := hv.lasts
  unfold R47 at hl
  clear hv
  cases h1 : ((x.lasts.length : Int) != 4)
  · cases h2 : x.lasts.any lastBad
    · rw [h1, h2] at hf
      have HF := Lib.hid (show Scu.stateFault x = Scu.volFault x.volume from hf)
      have H2 := Lib.hid h2
      clear hf h2
      go_enter Tryd.func31, Tryd.ntmps31
      go_wp2_with fail
      refine (containsLasts_c _ x.lasts _ B (HV.out.lasts.alloc _)).mono ?_; rintro e w1 ⟨rfl, h1⟩; rw [H2.out]
      obtain ⟨hc, hz⟩ := bcell h1
      have hsz := box_lt h1
      have hB1 := below_box h1
      go_wp2_with fail
      refine (volCheck_c _ _ x.volume _ B (HV.out.vol.below hB1)).mono ?_; rintro e w2 ⟨rfl, h2⟩
      go_wp2
      go_ret
      exact ⟨ret_val (int_eq HF.out.symm), hB1.trans (h2.mono hB1.size)⟩
    · rw [h1, h2] at hf
      have HF := Lib.hid (show Scu.stateFault x = 8 from hf)
      have H2 := Lib.hid h2
      clear hf h2
      go_enter Tryd.func31, Tryd.ntmps31
      go_wp2_with fail
      refine (containsLasts_c _ x.lasts _ B (HV.out.lasts.alloc _)).mono ?_; rintro e w1 ⟨rfl, h1⟩; rw [H2.out]
      go_wp2
      go_ret
      exact ⟨ret_val (int_eq HF.out.symm), below_box h1⟩
  · rw [h1] at hf
    have HF := Lib.hid (show Scu.stateFault x = 8 from hf)
    clear hf
    go_enter Tryd.func31, Tryd.ntmps31
    go_wp2
    go_ret
    exact ⟨ret_val (int_eq HF.out.symm), (Below.refl _ _).alloc (Nat.le_refl _) _⟩

/- the reference's -/
def inB (n a b : Int) : Bool := decide (a ≤ n) && decide (n ≤ b)
def lastsTo (x : Scu.State) (k : Nat) : Bool := x.lasts.length == 4 && (x.lasts.take k).all fun l => inB l.num 0 1048576
theorem lastsTo_all (x : Scu.State) (k : Nat) (h : x.lasts.length ≤ k) : lastsTo x k = Scu.lastsOk x.lasts := by
  unfold lastsTo Scu.lastsOk
  rw [List.take_of_length_le h]
  rfl
theorem lastsTo_succ (x : Scu.State) (k : Nat) (h : k < x.lasts.length) : lastsTo x (k + 1) = (lastsTo x k && inB x.lasts[k].num 0 1048576) := by
  unfold lastsTo
  rw [List.take_succ_eq_append_getElem h, List.all_append]
  simp only [List.all_cons, List.all_nil, Bool.and_true, Bool.and_assoc]
theorem lastsTo_zero (x : Scu.State) : lastsTo x 0 = ((x.lasts.length : Int) == 4) := by
  unfold lastsTo
  rw [Bool.eq_iff_iff]; simp; omega
end Go.Proofs.YtfpiembhlgcelaaDoor
/- Walks: package codec, and the document's answer to it. -/
namespace Go.Proofs.YtfpiembhlgcelaaDoor
open Go.RowKit
attribute [local go_sem] conv_four conv_one byteAt_get
set_option maxHeartbeats 400000
set_option maxRecDepth 100000

theorem numBytes_eq {n : Int} (h0 : 0 ≤ n) (h1 : n ≤ 1073741824) : strOfNums [n / 16777216, n / 65536 % 256, n / 256 % 256, n % 256] = Scu.numBytes n := by
  unfold strOfNums Scu.numBytes
  simp only [List.map_cons, List.map_nil, b8_mod]
  rw [b8_low (n := n / 16777216) (by omega) (by omega)]

theorem number_c (n : Int) (w : World) :
    Calls Tryd.prog 59 #[.int .i64 n] w fun e w' => e = .returned (.tuple #[.string (Scu.number n).1, .int .i64 (Scu.number n).2]) ∧ Below w.heap.size w w' := by
  by_cases h : n < 0 ∨ 1073741824 < n
  · have hs : Scu.number n = (Scu.str0, 2) := if_pos h
    rw [hs]
    go_enter Tryd.func59, Tryd.ntmps59
    go_wp2
    all_goals (go_ret2; exact ⟨rfl, Below.refl _ _⟩)
  · have hs : Scu.number n = (Scu.numBytes n, 0) := if_neg h
    rw [hs]
    have h0 : 0 ≤ n := by omega
    have h1 : n ≤ 1073741824 := by omega
    clear h
    go_enter Tryd.func59, Tryd.ntmps59
    go_wp2
    go_ret2
    exact ⟨ret_pair (str_eq (numBytes_eq h0 h1)) rfl, (Below.refl _ _).alloc (Nat.le_refl _) _⟩

theorem textBytes_eq {s : ByteArray} (h : s.size ≤ 255) : strOfNums [(s.size : Int)] ++ s = Scu.textBytes s := by
  unfold strOfNums Scu.textBytes
  simp only [List.map_cons, List.map_nil]
  rw [b8_low (n := (s.size : Int)) (by omega) (by omega)]

theorem strOfNums1_size (n : Int) : (strOfNums [n]).size = 1 := rfl

theorem text_c (s : ByteArray) (w : World) :
    Calls Tryd.prog 60 #[.string s] w fun e w' => e = .returned (.tuple #[.string (Scu.text s).1, .int .i64 (Scu.text s).2]) ∧ Below w.heap.size w w' := by
  by_cases h : 255 < s.size
  · have hs : Scu.text s = (Scu.str0, 1) := if_pos h
    rw [hs]
    have h' : (255 : Int) < s.size := by omega
    go_enter Tryd.func60, Tryd.ntmps60
    go_wp2
    all_goals (go_ret2; exact ⟨rfl, Below.refl _ _⟩)
  · have hs : Scu.text s = (Scu.textBytes s, 0) := if_neg h
    rw [hs]
    have h1 : (s.size : Int) ≤ 255 := by omega
    have h2 : (strOfNums [(s.size : Int)]).size + s.size ≤ 9223372036854775807 := by rw [strOfNums1_size]; omega
    have h3 := fun w => run_string_add_sum (P := Tryd.prog) (w := w) (strOfNums [(s.size : Int)]) s h2
    clear h2
    go_enter Tryd.func60, Tryd.ntmps60
    go_wp2
    go_ret2
    exact ⟨ret_pair (str_eq (textBytes_eq (by omega))) rfl, (Below.refl _ _).alloc (Nat.le_refl _) _⟩

theorem readNumber_c (s : ByteArray) (w : World) :
    Calls Tryd.prog 61 #[.string s] w fun e w' => e = .returned (.tuple #[.int .i64 (Scu.readNumber s).1, .string (Scu.readNumber s).2.1, .int .i64 (Scu.readNumber s).2.2]) ∧ Below w.heap.size w w' := by
  by_cases h : s.size < 4
  · have hs : Scu.readNumber s = (0, Scu.str0, 5) := if_pos h
    rw [hs]
    have h' : (s.size : Int) < 4 := by omega
    go_enter Tryd.func61, Tryd.ntmps61
    go_wp2
    all_goals (go_ret3; exact ⟨rfl, Below.refl _ _⟩)
  · have h' : (4 : Int) ≤ s.size := by omega
    have g0 : (0 : Int) < s.size := by omega
    have g1 : (1 : Int) < s.size := by omega
    have g2 : (2 : Int) < s.size := by omega
    have g3 : (3 : Int) < s.size := by omega
    obtain ⟨a0, a1⟩ := byteAt_rng s 0
    obtain ⟨b0, b1⟩ := byteAt_rng s 1
    obtain ⟨c0, c1⟩ := byteAt_rng s 2
    obtain ⟨d0, d1⟩ := byteAt_rng s 3
    have o3 := or_bytes3 _ _ a0 a1 b0 b1
    have o2 := or_bytes2 _ _ _ a0 a1 b0 b1 c0 c1
    have o1 := or_bytes1 _ _ _ _ a0 a1 b0 b1 c0 c1 d0 d1
    by_cases hb : 1073741824 < Scu.num4 s
    · have hs : Scu.readNumber s = (0, Scu.str0, 4) := by unfold Scu.readNumber; rw [if_neg h, if_pos hb]
      rw [hs]
      unfold Scu.num4 at hb
      clear h
      go_enter Tryd.func61, Tryd.ntmps61
      go_wp2
      go_quiet (fail)
      go_wp2
      go_ret3
      exact ⟨rfl, below_drewN (Below.refl _ _) _⟩
    · have hs : Scu.readNumber s = (Scu.num4 s, Scu.dropS s 4, 0) := by unfold Scu.readNumber; rw [if_neg h, if_neg hb]
      rw [hs]
      unfold Scu.num4 at hb
      have hb' : Scu.byteAt s 0 * 16777216 + Scu.byteAt s 1 * 65536 + Scu.byteAt s 2 * 256 + Scu.byteAt s 3 ≤ 1073741824 := by omega
      clear h hb
      go_enter Tryd.func61, Tryd.ntmps61
      go_wp2
      go_quiet (fail)
      go_wp2
      go_quiet (fail)
      go_wp2
      go_ret3
      exact ⟨rfl, below_drewN (below_drewN (Below.refl _ _) _) _⟩

theorem toList_eq_nil (s : ByteArray) : s.toList = [] ↔ s.size = 0 := by
  rw [ByteArray.toList_eq, ← List.length_eq_zero_iff, Array.length_toList]
  rfl

theorem readText_c (s : ByteArray) (w : World) (hm : s.size ≤ maxLen) :
    Calls Tryd.prog 62 #[.string s] w fun e w' => e = .returned (.tuple #[.string (Scu.readText s).1, .string (Scu.readText s).2.1, .int .i64 (Scu.readText s).2.2]) ∧ Below w.heap.size w w' := by
  unfold maxLen at hm
  have hm' : (s.size : Int) ≤ 9223372036854775807 := by omega
  clear hm
  by_cases h : s.size = 0
  · have hs : Scu.readText s = (Scu.str0, Scu.str0, 5) := if_pos h
    rw [hs]
    have h' : s.toList = [] := (toList_eq_nil s).2 h
    clear h hs
    go_enter Tryd.func62, Tryd.ntmps62
    go_wp2
    all_goals (go_ret3; exact ⟨rfl, Below.refl _ _⟩)
  · have h' : ¬ s.toList = [] := fun e => h ((toList_eq_nil s).1 e)
    have h'' : s.toList.isEmpty = false := by simpa using h'
    have g0 : (0 : Int) < s.size := by omega
    obtain ⟨a0, a1⟩ := byteAt_rng s 0
    by_cases hb : (s.size : Int) - 1 < Scu.byteAt s 0
    · have hs : Scu.readText s = (Scu.str0, Scu.str0, 5) := by unfold Scu.readText; rw [if_neg h, if_pos hb]
      rw [hs]
      clear h hs
      go_enter Tryd.func62, Tryd.ntmps62
      go_wp2
      all_goals (go_ret3; exact ⟨rfl, Below.refl _ _⟩)
    · have hs : Scu.readText s = (s.extract 1 (1 + Scu.byteAt s 0).toNat, Scu.dropS s (1 + Scu.byteAt s 0).toNat, 0) := by unfold Scu.readText; rw [if_neg h, if_neg hb]
      rw [hs]
      have hb' := Int.not_lt.1 hb
      clear h hb hs
      go_enter Tryd.func62, Tryd.ntmps62
      go_wp2
      go_quiet (fail)
      go_wp2
      go_ret3
      exact ⟨rfl, below_drewN (Below.refl _ _) _⟩

theorem sealXY_snoc (s : ByteArray) (k : Nat) (h : k < s.size) : Scu.sealXY (s.data.toList.take (k + 1)) =
    (((Scu.sealXY (s.data.toList.take k)).1 + Scu.byteAt s k) % 65521, ((Scu.sealXY (s.data.toList.take k)).2 + ((Scu.sealXY (s.data.toList.take k)).1 + Scu.byteAt s k) % 65521) % 65521) := by
  have hk : k < s.data.toList.length := by simpa using h
  rw [List.take_succ_eq_append_getElem hk]
  unfold Scu.sealXY
  rw [List.foldl_append]
  have hb : Scu.byteAt s k = (s.data.toList[k].toNat : Int) := by
    unfold Scu.byteAt
    rw [List.getD_eq_getElem?_getD, List.getElem?_eq_getElem hk]
    rfl
  rw [hb]
  rfl

theorem seal_bytes (s : ByteArray) : strOfNums [(Scu.sealXY s.data.toList).2 / 256, (Scu.sealXY s.data.toList).2 % 256, (Scu.sealXY s.data.toList).1 / 256, (Scu.sealXY s.data.toList).1 % 256] = Scu.sealS s := by
  obtain ⟨x0, x1, y0, y1⟩ := Scu.sealXY_bd s.data.toList
  unfold strOfNums Scu.sealS
  simp only [List.map_cons, List.map_nil, b8_mod]
  rw [b8_low (n := (Scu.sealXY s.data.toList).2 / 256) (by omega) (by omega), b8_low (n := (Scu.sealXY s.data.toList).1 / 256) (by omega) (by omega)]
theorem seal_bytesR (s : ByteArray) : strOfNums [(Scu.sealXY s.data.toList).2 / 256, (Scu.sealXY s.data.toList).2 % 256, (Scu.sealXY s.data.toList).1 / 256, (Scu.sealXY s.data.toList).1 % 256] = Scu.sealS s := seal_bytes s

theorem seal_c (s : ByteArray) (w : World) (hm : s.size ≤ maxLen) :
    Calls Tryd.prog 74 #[.string s] w fun e w' => e = .returned (.string (Scu.sealS s)) ∧ Below w.heap.size w w' := by
  unfold maxLen at hm
  have hm' : (s.size : Int) ≤ 9223372036854775807 := by omega
  clear hm
  go_enter Tryd.func74, Tryd.ntmps74
  go_wp2
  go_loop [3, 4, 8] (fun x y i => ∃ k : Nat, k ≤ s.size ∧ i = .int .i64 k ∧ x = .int .i64 (Scu.sealXY (s.data.toList.take k)).1 ∧ y = .int .i64 (Scu.sealXY (s.data.toList.take k)).2) (fun _ _ i => s.size - (intOf i).toNat)
  case atStart => exact ⟨0, Nat.zero_le _, rfl, rfl, rfl⟩
  case round =>
    obtain ⟨k, hk, rfl, rfl, rfl⟩ := hrel
    obtain ⟨x0, x1, y0, y1⟩ := Scu.sealXY_bd (s.data.toList.take k)
    obtain ⟨c0, c1⟩ := byteAt_rng s k
    by_cases hlt : k < s.size
    · have hlt' : (k : Int) < s.size := by omega
      go_wp2
      refine ⟨⟨k + 1, hlt, rfl, ?_, ?_⟩, ?_⟩
      · rw [sealXY_snoc s k hlt]
      · rw [sealXY_snoc s k hlt]
      · simp only [intOf]; omega
    · obtain rfl : k = s.size := by omega
      have ht : s.data.toList.take s.size = s.data.toList := List.take_of_length_le (by simp)
      rw [ht] at x0 x1 y0 y1 ⊢
      go_wp2
      go_ret
      exact ⟨ret_val (str_eq (seal_bytes s)), (Below.refl _ _).alloc (Nat.le_refl _) _⟩
end Go.Proofs.YtfpiembhlgcelaaDoor
/- Walks: an operation, a request: may it be? -/
namespace Go.Proofs.YtfpiembhlgcelaaDoor
open Go.RowKit
attribute [local go_sem] conv_four conv_one byteAt_get
set_option maxHeartbeats 800000
set_option maxRecDepth 100000

theorem checkOp_c (o : Scu.Op) (w : World) :
    Calls Tryd.prog 64 #[.agg #[.int .i64 o.kind, .int .i64 o.at_, .int .i64 o.snap, .string o.data]] w fun e w' =>
      e = .returned (.int .i64 (Scu.opFault o)) ∧ Below w.heap.size w w' := by
  obtain ⟨k, a, n, d⟩ := o
  have hd := toList_eq_nil d
  go_enter Tryd.func64, Tryd.ntmps64
  go_wp2
  all_goals (go_ret; refine ⟨ret_val (int_eq ?_), (Below.refl _ _).alloc (Nat.le_refl _) _⟩)
  all_goals (try simp only [bne_iff_ne, ne_eq, bne_eq_false_iff_eq, Bool.not_eq_true', Bool.not_eq_false', List.isEmpty_iff, List.isEmpty_eq_false_iff, hd] at *)
  all_goals (unfold Scu.opFault; simp only []; repeat' split)
  all_goals first | rfl | omega

theorem checkRequest_c (r : Scu.Request) (w : World) :
    Calls Tryd.prog 58 #[.agg #[.int .i64 r.client, .int .i64 r.num, .int .i64 r.op.kind, .int .i64 r.op.at_, .int .i64 r.op.snap, .string r.op.data]] w fun e w' =>
      e = .returned (.int .i64 (Scu.reqFault r)) ∧ Below w.heap.size w w' := by
  by_cases h : r.client < 1 ∨ 4 < r.client ∨ r.num < 1 ∨ 1048576 < r.num
  · have hs : Scu.reqFault r = 2 := if_pos h
    rw [hs]
    go_enter Tryd.func58, Tryd.ntmps58
    go_wp2_with fail
    all_goals (go_ret; exact ⟨rfl, (Below.refl _ _).alloc (Nat.le_refl _) _⟩)
  · have hs : Scu.reqFault r = Scu.opFault r.op := if_neg h
    rw [hs]
    have h1 : 1 ≤ r.client := by omega
    have h2 : r.client ≤ 4 := by omega
    have h3 : 1 ≤ r.num := by omega
    have h4 : r.num ≤ 1048576 := by omega
    clear h hs
    go_enter Tryd.func58, Tryd.ntmps58
    go_wp2_with fail
    refine (checkOp_c _ _).mono ?_; rintro e w' ⟨rfl, hb⟩
    go_wp2
    go_ret
    exact ⟨rfl, ((Below.refl _ _).alloc (Nat.le_refl _) _).trans (hb.mono (by simp))⟩

end Go.Proofs.YtfpiembhlgcelaaDoor
/- Walks: a request as an entry, and back. -/
namespace Go.Proofs.YtfpiembhlgcelaaDoor
open Go.RowKit
attribute [local go_sem] conv_four conv_one byteAt_get
set_option maxHeartbeats 4000000
set_option maxRecDepth 100000

theorem number_ok (n : Int) (w : World) (h0 : 0 ≤ n) (h1 : n ≤ 1073741824) :
    Calls Tryd.prog 59 #[.int .i64 n] w fun e w' => e = .returned (.tuple #[.string (Scu.numBytes n), .int .i64 0]) ∧ Below w.heap.size w w' := by
  have := number_c n w
  rw [show Scu.number n = (Scu.numBytes n, 0) from if_neg (by omega)] at this
  exact this
theorem text_ok (s : ByteArray) (w : World) (h : s.size ≤ 255) :
    Calls Tryd.prog 60 #[.string s] w fun e w' => e = .returned (.tuple #[.string (Scu.textBytes s), .int .i64 0]) ∧ Below w.heap.size w w' := by
  have := text_c s w
  rw [show Scu.text s = (Scu.textBytes s, 0) from if_neg (by omega)] at this
  exact this
theorem head_eq (a b c d : Int) (a0 : 0 ≤ a) (a1 : a < 256) (b0 : 0 ≤ b) (b1 : b < 256) (c0 : 0 ≤ c) (c1 : c < 256) (d0 : 0 ≤ d) (d1 : d < 256) :
    strOfNums [a, b, c, d] = ⟨#[Scu.b8 a, Scu.b8 b, Scu.b8 c, Scu.b8 d]⟩ := by
  unfold strOfNums
  simp only [List.map_cons, List.map_nil]
  rw [b8_low a0 a1, b8_low b0 b1, b8_low c0 c1, b8_low d0 d1]

theorem encode_c (r : Scu.Request) (w : World) :
    Calls Tryd.prog 19 #[.agg #[.int .i64 r.client, .int .i64 r.num, .int .i64 r.op.kind, .int .i64 r.op.at_, .int .i64 r.op.snap, .string r.op.data]] w fun e w' =>
      e = .returned (.tuple #[.string (Scu.encode r).1, .int .i64 (Scu.encode r).2]) ∧ Below w.heap.size w w' := by
  by_cases hf : Scu.reqFault r = 0
  · have hs : Scu.encode r = (Scu.reqBytes r, 0) := if_neg (by simp [hf])
    rw [hs]
    obtain ⟨h1, h2, h3, h4, h5⟩ := Scu.reqFault_ok hf
    obtain ⟨o1, o2, o3, o4, o5, o6, o7, _, _, _⟩ := Scu.opFault_ok h5
    have e1 := head_eq r.client r.op.kind r.op.at_ r.op.snap (by omega) (by omega) (by omega) (by omega) (by omega) (by omega) (by omega) (by omega)
    have z1 : (strOfNums [r.client, r.op.kind, r.op.at_, r.op.snap]).size = 4 := by rw [e1]; rfl
    have z2 := Scu.numBytes_size r.num
    have z3 := Scu.textBytes_size r.op.data
    have a1 := fun w => run_string_add_sum (P := Tryd.prog) (w := w) (strOfNums [r.client, r.op.kind, r.op.at_, r.op.snap]) (Scu.numBytes r.num) (by omega)
    have a2 := fun w => run_string_add_sum (P := Tryd.prog) (w := w) (strOfNums [r.client, r.op.kind, r.op.at_, r.op.snap] ++ Scu.numBytes r.num) (Scu.textBytes r.op.data) (by rw [ByteArray.size_append]; omega)
    have hfin : strOfNums [r.client, r.op.kind, r.op.at_, r.op.snap] ++ Scu.numBytes r.num ++ Scu.textBytes r.op.data = Scu.reqBytes r := by rw [e1]; rfl
    have HFIN := Lib.hid hfin
    have h5' := Lib.hid h5
    have hd8 : r.op.data.size ≤ 255 := by omega
    clear hs e1 z1 z2 z3 hfin h5
    go_enter Tryd.func19, Tryd.ntmps19
    go_wp2_with fail
    refine (checkRequest_c _ _).mono ?_; rintro e w1 ⟨rfl, b1⟩
    obtain ⟨hc, hz⟩ := bcell b1
    go_wp2_with fail
    refine (number_ok _ _ (by omega) (by omega)).mono ?_; rintro e w2 ⟨rfl, b2⟩
    have c2 := b1.trans (b2.mono b1.size)
    clear hc hz
    obtain ⟨hc, hz⟩ := bcell c2
    go_wp2_with fail
    refine (text_ok _ _ hd8).mono ?_; rintro e w3 ⟨rfl, b3⟩
    have c3 := c2.trans (b3.mono c2.size)
    clear hc hz
    obtain ⟨hc, hz⟩ := bcell c3
    go_wp2
    go_ret2
    exact ⟨ret_pair (str_eq HFIN.out) rfl, (below_box c3).alloc (below_box c3).size _⟩
  · have hs : Scu.encode r = (Scu.str0, Scu.reqFault r) := if_pos hf
    rw [hs]
    have hb : (Scu.reqFault r != 0) = true := by simpa using hf
    clear hf hs
    go_enter Tryd.func19, Tryd.ntmps19
    go_wp2_with fail
    refine (checkRequest_c _ _).mono ?_; rintro e w1 ⟨rfl, b1⟩
    go_wp2_with fail
    go_ret2
    exact ⟨rfl, below_box b1⟩
theorem readNumber_err (s : Scu.Str) (h : (Scu.readNumber s).2.2 ≠ 0) : (Scu.readNumber s).1 = 0 ∧ (Scu.readNumber s).2.1 = Scu.str0 := by
  unfold Scu.readNumber at h ⊢
  split
  · exact ⟨rfl, rfl⟩
  split
  · exact ⟨rfl, rfl⟩
  · rename_i h1 h2; rw [if_neg h1, if_neg h2] at h; exact absurd rfl h
theorem readNumber_size (s : Scu.Str) : (Scu.readNumber s).2.1.size ≤ s.size := by
  unfold Scu.readNumber
  split
  · exact Nat.zero_le _
  split
  · exact Nat.zero_le _
  · show (Scu.dropS s 4).size ≤ s.size
    unfold Scu.dropS
    rw [ByteArray.size_extract]
    omega
def zReq : Value := .agg #[.int .i64 0, .int .i64 0, .int .i64 0, .int .i64 0, .int .i64 0, .string ⟨#[]⟩]
theorem below_set6 {B g : Nat} {w w1 : World} {a b c d e f : Value} (h : Below B w w1) (hg : B ≤ g) :
    Below B w ((((((w1.setCell ⟨g, 0, none⟩ a).setCell ⟨g, 1, none⟩ b).setCell ⟨g, 2, none⟩ c).setCell ⟨g, 3, none⟩ d).setCell ⟨g, 4, none⟩ e).setCell ⟨g, 5, none⟩ f) :=
  (((((h.setCell (p := ⟨g, 0, none⟩) hg _).setCell (p := ⟨g, 1, none⟩) hg _).setCell (p := ⟨g, 2, none⟩) hg _).setCell (p := ⟨g, 3, none⟩) hg _).setCell (p := ⟨g, 4, none⟩) hg _).setCell (p := ⟨g, 5, none⟩) hg _
theorem decode_c (s : ByteArray) (w : World) :
    Calls Tryd.prog 20 #[.string s] w fun e w' =>
      e = .returned (.tuple #[vRequest (Scu.decode s).1, .int .i64 (Scu.decode s).2]) ∧ Below w.heap.size w w' := by
  by_cases h40 : 40 < s.size
  · have hs : Scu.decode s = (Scu.req0, 1) := if_pos h40
    rw [hs]
    have h' : (40 : Int) < s.size := by omega
    clear hs h40
    go_enter Tryd.func20, Tryd.ntmps20
    go_wp2
    go_returns
    exact ⟨rfl, (Below.refl _ _).alloc (Nat.le_refl _) _⟩
  by_cases h4 : s.size < 4
  · have hs : Scu.decode s = (Scu.req0, 5) := by unfold Scu.decode; rw [if_neg h40, if_pos h4]
    rw [hs]
    have h' : (s.size : Int) < 4 := by omega
    clear hs h40 h4
    go_enter Tryd.func20, Tryd.ntmps20
    go_wp2
    go_returns
    exact ⟨rfl, (Below.refl _ _).alloc (Nat.le_refl _) _⟩
  have g40 : (s.size : Int) ≤ 40 := by omega
  have g4 : (4 : Int) ≤ s.size := by omega
  have g0 : (0 : Int) < s.size := by omega
  have g1 : (1 : Int) < s.size := by omega
  have g2 : (2 : Int) < s.size := by omega
  have g3 : (3 : Int) < s.size := by omega
  obtain ⟨a0, a1⟩ := byteAt_rng s 0
  obtain ⟨b0, b1⟩ := byteAt_rng s 1
  obtain ⟨c0, c1⟩ := byteAt_rng s 2
  obtain ⟨d0, d1⟩ := byteAt_rng s 3
  generalize hq1 : Scu.readNumber (Scu.dropS s 4) = q1
  obtain ⟨n, s1, e1⟩ := q1
  generalize hq2 : Scu.readText s1 = q2
  obtain ⟨d, s2, e2⟩ := q2
  have hd0 : Scu.decode s = if e1 ≠ 0 then (Scu.req0, e1) else if e2 ≠ 0 then (Scu.req0, e2) else
    if s2 ≠ Scu.str0 then (Scu.req0, 4) else if Scu.reqFault ⟨Scu.byteAt s 0, n, ⟨Scu.byteAt s 1, Scu.byteAt s 2, Scu.byteAt s 3, d⟩⟩ ≠ 0 then
      (Scu.req0, Scu.reqFault ⟨Scu.byteAt s 0, n, ⟨Scu.byteAt s 1, Scu.byteAt s 2, Scu.byteAt s 3, d⟩⟩) else (⟨Scu.byteAt s 0, n, ⟨Scu.byteAt s 1, Scu.byteAt s 2, Scu.byteAt s 3, d⟩⟩, 0) := by
    unfold Scu.decode; rw [if_neg h40, if_neg h4]; simp only [hq1, hq2]
  have hs1 : s1.size ≤ maxLen := by
    have h1 := readNumber_size (Scu.dropS s 4)
    rw [hq1] at h1
    have h2 : (Scu.dropS s 4).size ≤ s.size := by unfold Scu.dropS; rw [ByteArray.size_extract]; omega
    unfold maxLen
    simp only at h1
    omega
  have k1 : ∀ w, Calls Tryd.prog 61 #[.string (s.extract 4 s.size)] w fun e w' => e = .returned (.tuple #[.int .i64 n, .string s1, .int .i64 e1]) ∧ Below w.heap.size w w' := fun w => by
    have := readNumber_c (s.extract 4 s.size) w
    rw [show Scu.readNumber (s.extract 4 s.size) = (n, s1, e1) from hq1] at this
    exact this
  have k2 : ∀ w, Calls Tryd.prog 62 #[.string s1] w fun e w' => e = .returned (.tuple #[.string d, .string s2, .int .i64 e2]) ∧ Below w.heap.size w w' := fun w => by
    have := readText_c s1 w hs1
    rw [hq2] at this
    exact this
  have K1 := Lib.hid k1
  have K2 := Lib.hid k2
  have HD := Lib.hid hd0
  have htn := Lib.hid (toList_eq_nil s2)
  clear hd0 h40 h4 hq1 hq2 k1 k2 hs1
  go_enter Tryd.func20, Tryd.ntmps20
  go_wp2_with fail
  go_region
  go_wp2_with fail
  refine (K1.out _).mono ?_; rintro e w1 ⟨rfl, h1⟩
  obtain ⟨hc, hz⟩ := bcell h1
  have hsz : w.heap.size + 1 < w1.heap.size := by have := h1.size; simp at this; omega
  have hsz' : w.heap.size < w1.heap.size := by omega
  have hB0 : Below w.heap.size w w1 := (((Below.refl _ _).alloc (Nat.le_refl _) _).alloc (by simp) _).drew.trans (h1.mono (by simp; omega))
  by_cases he1 : e1 = 0
  · subst he1
    go_wp2_with fail
    refine (K2.out _).mono ?_; rintro e w2 ⟨rfl, h2⟩
    obtain ⟨hc2, hz2⟩ := bcell h2
    have hsz2 : w.heap.size + 1 < w2.heap.size := by have := h2.size; simp at this; omega
    have hsz2' : w.heap.size < w2.heap.size := by omega
    have hB2 : Below w.heap.size w w2 := (hB0.setCell (by simp) _).trans (h2.mono (by simp; omega))
    have hblk2 := ((((((Blk.new w 28 #[.int .i64 0, .int .i64 0, .int .i64 0, .int .i64 0, .int .i64 0, .string ⟨#[]⟩]).alloc (Obj.cells #[.int .i64 (Scu.byteAt s 0), .int .i64 0, .int .i64 (Scu.byteAt s 1), .int .i64 (Scu.byteAt s 2), .int .i64 (Scu.byteAt s 3), .string ⟨#[]⟩] 28)).drew).same h1).far (p := ⟨w.heap.size + 1, 1, none⟩) (by simp) (.int .i64 n)).same h2)
    have u0 := hblk2.cell 0
    have u1 := hblk2.cell 1
    have u2 := hblk2.cell 2
    have u3 := hblk2.cell 3
    have u4 := hblk2.cell 4
    have u5 := hblk2.cell 5
    simp only [List.getElem?_toArray, List.getElem?_cons_zero, List.getElem?_cons_succ] at u0 u1 u2 u3 u4 u5
    have HB2 := Lib.hid hblk2
    clear hblk2
    by_cases he2 : e2 = 0
    · subst he2
      by_cases hs2 : s2 = Scu.str0
      · have hs2' : s2.toList = [] := htn.out.2 (by rw [hs2]; rfl)
        have HS2 := Lib.hid hs2
        clear hs2
        go_wp2_with fail
        refine (checkRequest_c ⟨Scu.byteAt s 0, n, ⟨Scu.byteAt s 1, Scu.byteAt s 2, Scu.byteAt s 3, d⟩⟩ _).mono ?_; rintro e w3 ⟨rfl, h3⟩
        obtain ⟨hc3, hz3⟩ := bcell h3
        have hsz3 : w.heap.size + 1 < w3.heap.size := by have := h3.size; simp at this; omega
        have hsz3' : w.heap.size < w3.heap.size := by omega
        have hB3 : Below w.heap.size w w3 := (hB2.setCell (by simp) _).trans (h3.mono (by simp; omega))
        have hblk3 := (HB2.out.far (p := ⟨w.heap.size + 1, 5, none⟩) (by simp) (.string d)).same h3
        have y0 := hblk3.cell 0
        have y1 := hblk3.cell 1
        have y2 := hblk3.cell 2
        have y3 := hblk3.cell 3
        have y4 := hblk3.cell 4
        have y5 := hblk3.cell 5
        simp only [List.getElem?_toArray, List.getElem?_cons_zero, List.getElem?_cons_succ] at y0 y1 y2 y3 y4 y5
        have HB3 := Lib.hid hblk3
        clear hblk3
        by_cases hf : Scu.reqFault ⟨Scu.byteAt s 0, n, ⟨Scu.byteAt s 1, Scu.byteAt s 2, Scu.byteAt s 3, d⟩⟩ = 0
        · have hr : Scu.decode s = (⟨Scu.byteAt s 0, n, ⟨Scu.byteAt s 1, Scu.byteAt s 2, Scu.byteAt s 3, d⟩⟩, 0) := by
            rw [HD.out, if_neg (by simp), if_neg (by simp), if_neg (by simp [HS2.out]), if_neg (by simp [hf])]
          have HR := Lib.hid hr
          have hfb : (Scu.reqFault ⟨Scu.byteAt s 0, n, ⟨Scu.byteAt s 1, Scu.byteAt s 2, Scu.byteAt s 3, d⟩⟩ != 0) = false := by simpa using hf
          clear hr hf
          go_wp2
          refine bodyPost_ret (v := .tuple #[.agg #[.int .i64 (Scu.byteAt s 0), .int .i64 n, .int .i64 (Scu.byteAt s 1), .int .i64 (Scu.byteAt s 2), .int .i64 (Scu.byteAt s 3), .string d], .int .i64 0]) (by simp [results, Tryd.results20, go_sem, y0, y1, y2, y3, y4, y5]) rfl ?_
          exact ⟨by rw [HR.out]; rfl, below_set6 hB3 (Nat.le_refl _)⟩
        · have hr : Scu.decode s = (Scu.req0, Scu.reqFault ⟨Scu.byteAt s 0, n, ⟨Scu.byteAt s 1, Scu.byteAt s 2, Scu.byteAt s 3, d⟩⟩) := by
            rw [HD.out, if_neg (by simp), if_neg (by simp), if_neg (by simp [HS2.out]), if_pos hf]
          have HR := Lib.hid hr
          have hfb : (Scu.reqFault ⟨Scu.byteAt s 0, n, ⟨Scu.byteAt s 1, Scu.byteAt s 2, Scu.byteAt s 3, d⟩⟩ != 0) = true := by simpa using hf
          clear hr hf
          go_wp2
          refine bodyPost_ret (v := .tuple #[.agg #[.int .i64 0, .int .i64 0, .int .i64 0, .int .i64 0, .int .i64 0, .string ⟨#[]⟩], .int .i64 (Scu.reqFault ⟨Scu.byteAt s 0, n, ⟨Scu.byteAt s 1, Scu.byteAt s 2, Scu.byteAt s 3, d⟩⟩)]) (by simp [results, Tryd.results20, go_sem, y0, y1, y2, y3, y4, y5]) rfl ?_
          exact ⟨by rw [HR.out]; rfl, below_set6 hB3 (Nat.le_refl _)⟩
      · have hs2' : ¬ s2.toList = [] := fun e => hs2 ((Scu.size_zero_iff _).1 (htn.out.1 e))
        have hs2b : s2.toList.isEmpty = false := by simpa using hs2'
        have hr : Scu.decode s = (Scu.req0, 4) := by rw [HD.out, if_neg (by simp), if_neg (by simp), if_pos hs2]
        have HR := Lib.hid hr
        clear hr hs2
        go_wp2
        refine bodyPost_ret (v := .tuple #[.agg #[.int .i64 0, .int .i64 0, .int .i64 0, .int .i64 0, .int .i64 0, .string ⟨#[]⟩], .int .i64 4]) (by simp [results, Tryd.results20, go_sem, u0, u1, u2, u3, u4, u5]) rfl ?_
        exact ⟨by rw [HR.out]; rfl, below_set6 (hB2.setCell (by simp) _) (Nat.le_refl _)⟩
    · have hb2 : (e2 != 0) = true := by simpa using he2
      have hr : Scu.decode s = (Scu.req0, e2) := by rw [HD.out, if_neg (by simp), if_pos he2]
      have HR := Lib.hid hr
      clear hr he2
      go_wp2
      refine bodyPost_ret (v := .tuple #[.agg #[.int .i64 0, .int .i64 0, .int .i64 0, .int .i64 0, .int .i64 0, .string ⟨#[]⟩], .int .i64 e2]) (by simp [results, Tryd.results20, go_sem, u0, u1, u2, u3, u4, u5]) rfl ?_
      exact ⟨by rw [HR.out]; rfl, below_set6 (hB2.setCell (by simp) _) (Nat.le_refl _)⟩
  · have hb1 : (e1 != 0) = true := by simpa using he1
    have hr : Scu.decode s = (Scu.req0, e1) := by rw [HD.out, if_pos he1]
    have HR := Lib.hid hr
    clear hr he1
    go_wp2
    have hblk1 := (((Blk.new w 28 #[.int .i64 0, .int .i64 0, .int .i64 0, .int .i64 0, .int .i64 0, .string ⟨#[]⟩]).alloc (Obj.cells #[.int .i64 (Scu.byteAt s 0), .int .i64 0, .int .i64 (Scu.byteAt s 1), .int .i64 (Scu.byteAt s 2), .int .i64 (Scu.byteAt s 3), .string ⟨#[]⟩] 28)).drew).same h1
    have u0 := hblk1.cell 0
    have u1 := hblk1.cell 1
    have u2 := hblk1.cell 2
    have u3 := hblk1.cell 3
    have u4 := hblk1.cell 4
    have u5 := hblk1.cell 5
    simp only [List.getElem?_toArray, List.getElem?_cons_zero, List.getElem?_cons_succ] at u0 u1 u2 u3 u4 u5
    refine bodyPost_ret (v := .tuple #[.agg #[.int .i64 0, .int .i64 0, .int .i64 0, .int .i64 0, .int .i64 0, .string ⟨#[]⟩], .int .i64 e1]) (by simp [results, Tryd.results20, go_sem, u0, u1, u2, u3, u4, u5]) rfl ?_
    exact ⟨by rw [HR.out]; rfl, below_set6 (hB0.setCell (by simp) _) (Nat.le_refl _)⟩
end Go.Proofs.YtfpiembhlgcelaaDoor
/- Walk: the document's answer on an entry's bytes. -/
namespace Go.Proofs.YtfpiembhlgcelaaDoor
open Go.RowKit
attribute [local go_sem] conv_four conv_one byteAt_get
set_option maxHeartbeats 4000000
set_option maxRecDepth 100000
end Go.Proofs.YtfpiembhlgcelaaDoor
/- Walks: what may be kept, its copies, and whether it is the same; the laws StageCopies and StageChecks. -/
namespace Go.Proofs.YtfpiembhlgcelaaDoor
open Go.RowKit Go.ChangeShapes Go.WideShapes Go.ChangeAt
set_option maxHeartbeats 400000
set_option maxRecDepth 100000

def vKept (lv : Value) (k : Scu.Kept) : Value := .agg #[.int .i64 k.view, .int .i64 k.normal, .bool k.calm, lv, .int .i64 k.commit]
theorem cells_kept : Tryd.prog.cellsOf 64 = 5 := by kernel_rfl
theorem bytes_kept : Tryd.prog.bytesOf 64 = 56 := by kernel_rfl
def KeptEl (w : World) (B : Nat) (cs : List Value) (k : Scu.Kept) : Prop := ∃ lv, cs = [.int .i64 k.view, .int .i64 k.normal, .bool k.calm, lv, .int .i64 k.commit] ∧ IsStrs w B lv k.log
section
variable {H : Type} {enc : TypeId × Value → H} {w : World} {base : Nat} {spare : Nat → Bool} {held : Bool} {n : Nat}
theorem trod_kept {cs : List Value} {x : DataW H × List MemPlace} (h : DataW.trod enc Tryd.prog w base spare held n 64 cs = some x) (hw : ∀ k ∈ x.1.weights Tryd.prog 64, k ≤ reachBytes) : ∃ k, KeptEl w w.heap.size cs k := by
  obtain ⟨xs, m, _, hxe, hl, hxl, hf⟩ := DataW.trod_struct Tryd.underlying64 h
  rw [cells_kept] at hl
  match cs, hl with
  | [c0, c1, c2, c3, c4], _ =>
    have hxl5 : xs.length = 5 := hxl
    match xs, hxl5 with
    | [z0, z1, z2, z3, z4], _ =>
      subst hxe
      have hwt : ∀ k ∈ DataW.weights Tryd.prog 64 (DataW.agg [z0.1, z1.1, z2.1, z3.1, z4.1]), k ≤ reachBytes := hw
      simp only [DataW.weights, Tryd.underlying64, DataW.weightsEach, List.map_cons, List.map_nil, List.mem_append] at hwt
      obtain ⟨n0, h0, _⟩ := DataW.trod_int Tryd.underlying3 (hf 0 _ rfl)
      obtain ⟨n1, h1, _⟩ := DataW.trod_int Tryd.underlying3 (hf 1 _ rfl)
      obtain ⟨b2, h2, _⟩ := DataW.trod_bool Tryd.underlying4 (hf 2 _ rfl)
      obtain ⟨n4, h4, _⟩ := DataW.trod_int Tryd.underlying3 (hf 4 _ rfl)
      have h3 := hf 3 _ rfl
      simp [cells_int, cells_bool, cells_strs] at h0 h1 h2 h3 h4
      subst h0 h1 h2 h4
      obtain ⟨ls, h3'⟩ := trod_strs h3 (fun k hk => hwt k (.inr (.inr (.inr (.inl hk)))))
      exact ⟨⟨n0, n1, b2, ls, n4⟩, c3, rfl, h3'⟩
def IsKeptV (w : World) (v : Value) (x : Scu.Kept) : Prop := ∃ lv, v = .agg #[.int .i64 x.view, .int .i64 x.normal, .bool x.calm, lv, .int .i64 x.commit] ∧ IsStrs w w.heap.size lv x.log
theorem openS_Kept {v : Value} {d : DataW H} {p : List MemPlace} {b0 : Nat} (hv : Value.okWide Tryd.prog w .any b0 64 v) (h : DataW.Trod enc Tryd.prog w base spare held 64 v d p)
    (hw : ∀ k ∈ d.weights Tryd.prog 64, k ≤ reachBytes) : ∃ y, IsKeptV w v y := by
  obtain ⟨cs, rfl, _⟩ := okWide_struct Tryd.underlying64 hv
  obtain ⟨fuel, hf⟩ := h
  obtain ⟨k, lv, e, hy⟩ := trod_kept hf hw
  refine ⟨k, lv, ?_, hy⟩
  have : cs = #[.int .i64 k.view, .int .i64 k.normal, .bool k.calm, lv, .int .i64 k.commit] := by
    apply Array.toList_inj.1
    simpa [Value.cells] using e
  rw [this]
end

/- what may be kept -/
theorem kept_bad2 {k : Scu.Kept} (h : k.view < 0 ∨ 1048576 < k.view ∨ k.normal < 0 ∨ k.view < k.normal ∨ (k.calm = true ∧ k.normal ≠ k.view)) : Scu.keptFault k = 2 := if_pos h
theorem kept_ok2 {k : Scu.Kept} (h1 : ¬ k.view < 0) (h2 : ¬ 1048576 < k.view) (h3 : ¬ k.normal < 0) (h4 : ¬ k.view < k.normal) (h5 : k.calm = false ∨ k.normal = k.view) :
    ¬ (k.view < 0 ∨ 1048576 < k.view ∨ k.normal < 0 ∨ k.view < k.normal ∨ (k.calm = true ∧ k.normal ≠ k.view)) := by
  rintro (h | h | h | h | ⟨h, h'⟩)
  · exact h1 h
  · exact h2 h
  · exact h3 h
  · exact h4 h
  · rcases h5 with h5 | h5
    · rw [h] at h5; cases h5
    · exact h' h5
theorem kept_rest {k : Scu.Kept} (h : ¬ (k.view < 0 ∨ 1048576 < k.view ∨ k.normal < 0 ∨ k.view < k.normal ∨ (k.calm = true ∧ k.normal ≠ k.view))) :
    Scu.keptFault k = if 60 < k.log.length then 1 else if k.commit < 0 ∨ (k.log.length : Int) < k.commit then 2 else Scu.logFault k.log := if_neg h
theorem log_next {l : List Scu.Str} {k : Nat} (h : k < l.length) : Scu.logFault (l.drop k) = if (Scu.decode l[k]).2 ≠ 0 then (Scu.decode l[k]).2 else Scu.logFault (l.drop (k + 1)) := by
  rw [List.drop_eq_getElem_cons h]
  rfl
theorem decode_a (s : ByteArray) (w : World) (r : Scu.Request) (c : Int) (h : Scu.decode s = (r, c)) :
    Calls Tryd.prog 20 #[.string s] w fun e w' => e = .returned (.tuple #[.agg #[.int .i64 r.client, .int .i64 r.num, .int .i64 r.op.kind, .int .i64 r.op.at_, .int .i64 r.op.snap, .string r.op.data], .int .i64 c]) ∧ Below w.heap.size w w' := by
  have := decode_c s w
  rw [h] at this
  exact this
theorem stageCheck_x (lv : Value) (vi no : Int) (ca : Bool) (lo : List Scu.Str) (co : Int) (w : World) (B : Nat) (hv : IsStrs w B lv lo) :
    Calls Tryd.prog 73 #[.agg #[.int .i64 vi, .int .i64 no, .bool ca, lv, .int .i64 co]] w fun e w' => e = .returned (.int .i64 (Scu.keptFault ⟨vi, no, ca, lo, co⟩)) ∧ Below w.heap.size w w' := by
  obtain ⟨⟨A, c, rfl, _, hr⟩, hl, he⟩ := hv
  have HDEC := Lib.hid (fun (s : ByteArray) (W : World) => decode_a s W)
  unfold R47 at hl he
  cases t1 : decide (vi < 0) with
  | true =>
    have HF := Lib.hid (show Scu.keptFault ⟨vi, no, ca, lo, co⟩ = 2 from kept_bad2 (.inl (of_decide_eq_true t1)))
    clear hr hl he HDEC
    try clear hrest
    go_enter Tryd.func73, Tryd.ntmps73
    go_wp2
    go_ret
    exact ⟨ret_val (int_eq HF.out.symm), (Below.refl _ _).alloc (Nat.le_refl _) _⟩
  | false =>
  cases t2 : decide ((1048576 : Int) < vi) with
  | true =>
    have HF := Lib.hid (show Scu.keptFault ⟨vi, no, ca, lo, co⟩ = 2 from kept_bad2 (.inr (.inl (of_decide_eq_true t2))))
    clear hr hl he HDEC
    try clear hrest
    go_enter Tryd.func73, Tryd.ntmps73
    go_wp2
    go_ret
    exact ⟨ret_val (int_eq HF.out.symm), (Below.refl _ _).alloc (Nat.le_refl _) _⟩
  | false =>
  cases t3 : decide (no < 0) with
  | true =>
    have HF := Lib.hid (show Scu.keptFault ⟨vi, no, ca, lo, co⟩ = 2 from kept_bad2 (.inr (.inr (.inl (of_decide_eq_true t3)))))
    clear hr hl he HDEC
    try clear hrest
    go_enter Tryd.func73, Tryd.ntmps73
    go_wp2
    go_ret
    exact ⟨ret_val (int_eq HF.out.symm), (Below.refl _ _).alloc (Nat.le_refl _) _⟩
  | false =>
  cases t4 : decide (vi < no) with
  | true =>
    have HF := Lib.hid (show Scu.keptFault ⟨vi, no, ca, lo, co⟩ = 2 from kept_bad2 (.inr (.inr (.inr (.inl (of_decide_eq_true t4))))))
    clear hr hl he HDEC
    try clear hrest
    go_enter Tryd.func73, Tryd.ntmps73
    go_wp2
    go_ret
    exact ⟨ret_val (int_eq HF.out.symm), (Below.refl _ _).alloc (Nat.le_refl _) _⟩
  | false =>
  have H5 : (ca = true ∧ (no != vi) = true) ∨ ((ca = false ∨ (ca = true ∧ (no != vi) = false))) := by
    cases ca <;> cases (no != vi) <;> simp
  rcases H5 with ⟨rfl, t6⟩ | H5
  · have HF := Lib.hid (show Scu.keptFault ⟨vi, no, true, lo, co⟩ = 2 from kept_bad2 (.inr (.inr (.inr (.inr ⟨rfl, by simpa using t6⟩)))))
    clear hr hl he HDEC
    try clear hrest
    go_enter Tryd.func73, Tryd.ntmps73
    go_wp2
    go_ret
    exact ⟨ret_val (int_eq HF.out.symm), (Below.refl _ _).alloc (Nat.le_refl _) _⟩
  have hrest : Scu.keptFault ⟨vi, no, ca, lo, co⟩ = if 60 < lo.length then 1 else if co < 0 ∨ (lo.length : Int) < co then 2 else Scu.logFault lo := kept_rest (k := ⟨vi, no, ca, lo, co⟩) (kept_ok2 (of_decide_eq_false t1) (of_decide_eq_false t2) (of_decide_eq_false t3) (of_decide_eq_false t4) (H5.imp id (fun h => by simpa using h.2)))
  cases t7 : decide ((60 : Int) < (lo.length : Int)) with
  | true =>
    rcases H5 with rfl | ⟨rfl, t6⟩
    · have HF := Lib.hid (show Scu.keptFault ⟨vi, no, false, lo, co⟩ = 1 from by rw [hrest, if_pos (by have := of_decide_eq_true t7; omega)])
      clear hr hl he HDEC
      try clear hrest
      go_enter Tryd.func73, Tryd.ntmps73
      go_wp2
      go_ret
      exact ⟨ret_val (int_eq HF.out.symm), (Below.refl _ _).alloc (Nat.le_refl _) _⟩
    · have HF := Lib.hid (show Scu.keptFault ⟨vi, no, true, lo, co⟩ = 1 from by rw [hrest, if_pos (by have := of_decide_eq_true t7; omega)])
      clear hr hl he HDEC
      try clear hrest
      go_enter Tryd.func73, Tryd.ntmps73
      go_wp2
      go_ret
      exact ⟨ret_val (int_eq HF.out.symm), (Below.refl _ _).alloc (Nat.le_refl _) _⟩
  | false =>
  rw [if_neg (by have := of_decide_eq_false t7; omega)] at hrest
  cases t8 : decide (co < 0) with
  | true =>
    rcases H5 with rfl | ⟨rfl, t6⟩
    · have HF := Lib.hid (show Scu.keptFault ⟨vi, no, false, lo, co⟩ = 2 from by rw [hrest, if_pos (.inl (of_decide_eq_true t8))])
      clear hr hl he HDEC
      try clear hrest
      go_enter Tryd.func73, Tryd.ntmps73
      go_wp2
      go_ret
      exact ⟨ret_val (int_eq HF.out.symm), (Below.refl _ _).alloc (Nat.le_refl _) _⟩
    · have HF := Lib.hid (show Scu.keptFault ⟨vi, no, true, lo, co⟩ = 2 from by rw [hrest, if_pos (.inl (of_decide_eq_true t8))])
      clear hr hl he HDEC
      try clear hrest
      go_enter Tryd.func73, Tryd.ntmps73
      go_wp2
      go_ret
      exact ⟨ret_val (int_eq HF.out.symm), (Below.refl _ _).alloc (Nat.le_refl _) _⟩
  | false =>
  cases t9 : decide ((lo.length : Int) < co) with
  | true =>
    rcases H5 with rfl | ⟨rfl, t6⟩
    · have HF := Lib.hid (show Scu.keptFault ⟨vi, no, false, lo, co⟩ = 2 from by rw [hrest, if_pos (.inr (of_decide_eq_true t9))])
      clear hr hl he HDEC
      try clear hrest
      go_enter Tryd.func73, Tryd.ntmps73
      go_wp2
      go_ret
      exact ⟨ret_val (int_eq HF.out.symm), (Below.refl _ _).alloc (Nat.le_refl _) _⟩
    · have HF := Lib.hid (show Scu.keptFault ⟨vi, no, true, lo, co⟩ = 2 from by rw [hrest, if_pos (.inr (of_decide_eq_true t9))])
      clear hr hl he HDEC
      try clear hrest
      go_enter Tryd.func73, Tryd.ntmps73
      go_wp2
      go_ret
      exact ⟨ret_val (int_eq HF.out.symm), (Below.refl _ _).alloc (Nat.le_refl _) _⟩
  | false =>
  rw [if_neg (by have := of_decide_eq_false t8; have := of_decide_eq_false t9; omega)] at hrest
  have HF := Lib.hid hrest
  have HE := Lib.hid he
  clear hrest he
  rcases H5 with rfl | ⟨rfl, t6⟩
  all_goals
    go_enter Tryd.func73, Tryd.ntmps73
    go_wp2
    go_loopw [56] (fun i wr => ∃ j : Nat, j ≤ lo.length ∧ i = .int .i64 j ∧ Hid (Scu.logFault lo = Scu.logFault (lo.drop j)) ∧ Below w.heap.size w wr) (fun i _ => lo.length - (intOf i).toNat)
    case atStart => exact ⟨0, Nat.zero_le _, rfl, by simp [Hid], (Below.refl _ _).alloc (Nat.le_refl _) _⟩
    case round =>
      obtain ⟨j, hj, rfl, ht, hbw⟩ := hrel
      have hrw := hr.below hbw
      have hbs := hbw.size
      by_cases hlt : j < lo.length
      · have hlt' : (j : Int) < (lo.length : Int) := by omega
        obtain ⟨g, o, rfl, hg, hc⟩ := str_get hrw hlt
        have hn := log_next hlt
        generalize hd : Scu.decode lo[j] = q at hn
        obtain ⟨r, cd⟩ := q
        have HD := Lib.hid hd
        clear hd
        cases hx : (cd != 0)
        · have hcd : cd = 0 := by simpa using hx
          have HX := Lib.hid (show Scu.logFault lo = Scu.logFault (lo.drop (j + 1)) by rw [ht.out, hn, if_neg (by simpa using hcd)])
          clear hn hcd
          go_wp2_with fail
          refine (HDEC.out _ _ _ _ HD.out).mono ?_; rintro e w1 ⟨rfl, h1⟩
          go_wp2
          have hb1 := hbw.trans (h1.mono hbs)
          have HB1 := Lib.hid hb1
          clear hb1
          go_roundw
          case rel =>
            refine ⟨j + 1, hlt, by go_num, HX, ?_⟩
            exact (HB1.out.alloc HB1.out.size _)
          case measure => simp only [intOf]; omega
        · have hcd : cd ≠ 0 := by simpa using hx
          have HX := Lib.hid (show Scu.keptFault ⟨vi, no, _, lo, co⟩ = cd by rw [HF.out, ht.out, hn, if_pos hcd])
          clear hn hcd
          go_wp2_with fail
          refine (HDEC.out _ _ _ _ HD.out).mono ?_; rintro e w1 ⟨rfl, h1⟩
          go_wp2
          go_ret
          refine ⟨ret_val (int_eq HX.out.symm), ?_⟩
          have hb1 := hbw.trans (h1.mono hbs)
          exact (hb1.alloc hb1.size _)
      · have hlt' : (lo.length : Int) ≤ (j : Int) := by omega
        have HX := Lib.hid (show Scu.keptFault ⟨vi, no, _, lo, co⟩ = 0 by rw [HF.out, ht.out, List.drop_of_length_le (by omega)]; rfl)
        go_wp2
        go_ret
        exact ⟨ret_val (int_eq HX.out.symm), hbw⟩
theorem stageCheck_c (lv : Value) (k : Scu.Kept) (w : World) (B : Nat) (hv : IsStrs w B lv k.log) :
    Calls Tryd.prog 73 #[.agg #[.int .i64 k.view, .int .i64 k.normal, .bool k.calm, lv, .int .i64 k.commit]] w fun e w' => e = .returned (.int .i64 (Scu.keptFault k)) ∧ Below w.heap.size w w' :=
  stageCheck_x lv k.view k.normal k.calm k.log k.commit w B hv
end Go.Proofs.YtfpiembhlgcelaaDoor
/- Walks: what may be kept, by the reference; copies; whether it is the same; the laws StageCopies and StageChecks. -/
namespace Go.Proofs.YtfpiembhlgcelaaDoor
open Go.RowKit
set_option maxHeartbeats 400000
set_option maxRecDepth 100000

theorem inB_no {n a b : Int} (h : inB n a b = false) : n < a ∨ b < n := by
  unfold inB at h
  simp only [Bool.and_eq_false_iff, decide_eq_false_iff_not] at h
  omega
theorem inB_yes {n a b : Int} (h : inB n a b = true) : a ≤ n ∧ n ≤ b := by
  unfold inB at h
  simpa only [Bool.and_eq_true, decide_eq_true_eq] using h
end Go.Proofs.YtfpiembhlgcelaaDoor

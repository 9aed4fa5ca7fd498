/- Walks: what is kept, as bytes: the program's and the reference's. The law StageEncodes. -/
import Derived.Test.YtioajgcbchdpeaaStgP
import Derived.Test.YtioajgcbchdpeaaKeptS
namespace Go.Proofs.Ytioajgcbchdpeaa
open Go.RowKit
set_option maxHeartbeats 4000000
set_option maxRecDepth 100000

theorem enc_bad {k : Scu.Kept} {gen : Int} (h : Scu.keptFault k ≠ 0) : Scu.stageEncode k gen = (Scu.str0, Scu.keptFault k) := if_pos h
theorem enc_gen {k : Scu.Kept} {gen : Int} (h : ¬ Scu.keptFault k ≠ 0) (hg : gen < 0 ∨ 1073741824 < gen) : Scu.stageEncode k gen = (Scu.str0, 2) := by unfold Scu.stageEncode; rw [if_neg h, if_pos hg]
theorem enc_ok {k : Scu.Kept} {gen : Int} (h : ¬ Scu.keptFault k ≠ 0) (hg : ¬ (gen < 0 ∨ 1073741824 < gen)) : Scu.stageEncode k gen = (Scu.keptBytes k gen, 0) := by unfold Scu.stageEncode; rw [if_neg h, if_neg hg]
theorem num_cell {w : World} {g : Nat} {l : List Int} (h : Blk w g 3 (l.map (Value.int .i64)).toArray) {j : Nat} (hj : j < l.length) : w.cell? ⟨g, j, none⟩ = some (.int .i64 l[j]) := by
  rw [h.cell]
  simp [List.getElem?_eq_getElem hj]
theorem no_big (a b : ByteArray) (h : a.size ≤ 2484) (h' : b.size ≤ 2484) : ¬ 9223372036854775807 < a.size + b.size := by omega

theorem stageEncode_x (lv : Value) (vi no : Int) (ca : Bool) (lo : List Scu.Str) (co gen : Int) (w : World) (B : Nat) (hv : IsStrs w B lv lo) :
    Calls Try.prog 26 #[.agg #[.int .i64 vi, .int .i64 no, .bool ca, lv, .int .i64 co], .int .i64 gen] w fun e w' =>
      e = .returned (.tuple #[.string (Scu.stageEncode (⟨vi, no, ca, lo, co⟩ : Scu.Kept) gen).1, .int .i64 (Scu.stageEncode (⟨vi, no, ca, lo, co⟩ : Scu.Kept) gen).2]) ∧ Below w.heap.size w w' := by
  have HV := Lib.hid hv
  obtain ⟨⟨A, c, rfl, _, hr⟩, hl, he⟩ := hv
  unfold R47 at hl he
  cases t0 : (Scu.keptFault (⟨vi, no, ca, lo, co⟩ : Scu.Kept) != 0) with
  | true =>
    have hs := enc_bad (k := (⟨vi, no, ca, lo, co⟩ : Scu.Kept)) (gen := gen) (by simpa using t0)
    rw [hs]
    clear hs hr he
    go_enter Try.func26, Try.ntmps26
    go_wp2_with fail
    refine (stageCheck_x _ vi no ca lo co _ B (HV.out.alloc _)).mono ?_; rintro e w1 ⟨rfl, h1⟩
    go_wp2
    go_ret2
    exact ⟨rfl, below_box h1⟩
  | false =>
  have hk : Scu.keptFault (⟨vi, no, ca, lo, co⟩ : Scu.Kept) = 0 := by simpa using t0
  cases t1 : decide (gen < 0) with
  | true =>
    have hs := enc_gen (k := (⟨vi, no, ca, lo, co⟩ : Scu.Kept)) (gen := gen) (by simpa using t0) (.inl (of_decide_eq_true t1))
    rw [hs]
    have HK := Lib.hid hk
    clear hs hr he hk t0
    go_enter Try.func26, Try.ntmps26
    go_wp2_with fail
    refine (stageCheck_x _ vi no ca lo co _ B (HV.out.alloc _)).mono ?_; rintro e w1 ⟨rfl, h1⟩
    rw [HK.out]
    go_wp2
    go_ret2
    exact ⟨rfl, below_box h1⟩
  | false =>
  cases t2 : decide ((1073741824 : Int) < gen) with
  | true =>
    have hs := enc_gen (k := (⟨vi, no, ca, lo, co⟩ : Scu.Kept)) (gen := gen) (by simpa using t0) (.inr (of_decide_eq_true t2))
    rw [hs]
    have HK := Lib.hid hk
    clear hs hr he hk t0
    go_enter Try.func26, Try.ntmps26
    go_wp2_with fail
    refine (stageCheck_x _ vi no ca lo co _ B (HV.out.alloc _)).mono ?_; rintro e w1 ⟨rfl, h1⟩
    rw [HK.out]
    go_wp2
    go_ret2
    exact ⟨rfl, below_box h1⟩
  | false =>
  have hg : ¬ (gen < 0 ∨ 1073741824 < gen) := fun h => h.elim (of_decide_eq_false t1) (of_decide_eq_false t2)
  have hs := enc_ok (k := (⟨vi, no, ca, lo, co⟩ : Scu.Kept)) (gen := gen) (by simpa using t0) hg
  rw [hs]
  have HK := Lib.hid hk
  have HBD := Lib.hid (Scu.nums_bd hk (gen := gen) (by omega) (by omega))
  have h60 : lo.length ≤ 60 := (Scu.keptFault_ok hk).2.2.2.2.2.1
  clear hs he hk t0 hg
  cases ca with
  | false =>
    go_enter Try.func26, Try.ntmps26
    go_wp2_with fail
    refine (stageCheck_x _ vi no false lo co _ B (HV.out.alloc _)).mono ?_; rintro e w1 ⟨rfl, h1⟩
    rw [HK.out]
    obtain ⟨hc, hz⟩ := bcell h1
    have hsz := box_lt h1
    have hB1 := below_box h1
    have hbk := (Blk.new w 28 #[.int .i64 vi, .int .i64 no, .bool false, .slice A lo.length c, .int .i64 co]).same h1
    go_wp2_with fail
    go_loopw [8, 43] (fun s i wr => ∃ j : Nat, j ≤ 6 ∧ i = .int .i64 j ∧ s = .string (Scu.encN ⟨vi, no, false, lo, co⟩ gen j) ∧ Below w.heap.size w wr ∧ Blk wr w.heap.size 28 #[.int .i64 vi, .int .i64 no, .bool false, .slice A lo.length c, .int .i64 co] ∧
        Blk wr w1.heap.size 3 ((Scu.nums ⟨vi, no, false, lo, co⟩ gen).map (Value.int .i64)).toArray) (fun _ i _ => 6 - (intOf i).toNat)
    case atStart => exact ⟨0, by omega, rfl, rfl, hB1.alloc hB1.size _, hbk.alloc _, Blk.new w1 3 _⟩
    case round =>
      obtain ⟨j, hj, rfl, rfl, hbw, hk0, hk1⟩ := hrel
      by_cases hlt : j < 6
      · have hlt' : (j : Int) < 6 := by omega
        have hn := num_cell hk1 (j := j) hlt
        have hb := HBD.out _ (List.getElem_mem (show j < (Scu.nums _ gen).length from hlt))
        have hsu := Scu.encN_succ (show j < (Scu.nums ⟨vi, no, false, lo, co⟩ gen).length from hlt)
        generalize (Scu.nums _ gen)[j]'hlt = n at hn hb hsu
        have ha := no_big _ (Scu.numBytes n) (Nat.le_trans (Scu.encN_size ⟨vi, no, false, lo, co⟩ gen j) (by omega)) (by rw [Scu.numBytes_size]; omega)
        have HSU := Lib.hid hsu
        have HB := Lib.hid (And.intro hbw (And.intro hk0 hk1))
        clear hsu hbw hk0 hk1
        go_wp2_with fail
        refine (number_ok _ _ hb.1 hb.2).mono ?_; rintro e w2 ⟨rfl, h2⟩
        go_wp2
        go_roundw
        case rel => exact ⟨j + 1, by omega, by go_num, by rw [HSU.out], HB.out.1.trans (h2.mono HB.out.1.size), HB.out.2.1.same h2, HB.out.2.2.same h2⟩
        case measure => simp only [intOf]; omega
      · have hlt' : (6 : Int) ≤ (j : Int) := by omega
        have HJ := Lib.hid (show j = 6 by omega)
        have hu := hk0.cell 3
        simp at hu
        obtain ⟨wa, hwa⟩ : ∃ x, x = wr := ⟨_, rfl⟩
        subst hwa
        have HB := Lib.hid (And.intro hbw hk0)
        clear hbw hk0 hk1
        go_wp2_with fail
        go_loopw [8, 59] (fun s i wr => ∃ m : Nat, m ≤ lo.length ∧ i = .int .i64 m ∧ s = .string (Scu.encT ⟨vi, no, false, lo, co⟩ gen m) ∧ Below w.heap.size w wr) (fun _ i _ => lo.length - (intOf i).toNat)
        case atStart => exact ⟨0, Nat.zero_le _, rfl, by rw [Scu.encT_zero, HJ.out], HB.out.1⟩
        case round =>
          obtain ⟨m, hm, rfl, rfl, hbw⟩ := hrel
          have hrw := hr.below hbw
          have hes := Scu.encT_size HK.out gen m
          by_cases hlt : m < lo.length
          · have hlt2 : (m : Int) < (lo.length : Int) := by omega
            obtain ⟨g, o, rfl, hg, hcc⟩ := str_get hrw hlt
            have h40 : lo[m].size ≤ 40 := Scu.log_small HK.out _ (List.getElem_mem hlt)
            have ha := no_big _ (Scu.textBytes lo[m]) hes (by rw [Scu.textBytes_size]; omega)
            have HSU := Lib.hid (Scu.encT_succ (k := ⟨vi, no, false, lo, co⟩) (gen := gen) hlt)
            have HBW := Lib.hid hbw
            clear hbw hrw
            go_wp2_with fail
            refine (text_ok _ _ (by omega)).mono ?_; rintro e w2 ⟨rfl, h2⟩
            go_wp2
            go_roundw
            case rel => exact ⟨m + 1, hlt, by go_num, by rw [HSU.out], HBW.out.trans (h2.mono HBW.out.size)⟩
            case measure => simp only [intOf]; omega
          · have hlt2 : (lo.length : Int) ≤ (m : Int) := by omega
            have HM := Lib.hid (show Scu.encT ⟨vi, no, false, lo, co⟩ gen m = Scu.keptBody ⟨vi, no, false, lo, co⟩ gen by
              rw [show m = lo.length by omega]; exact Scu.encT_all _ _)
            have ha := no_big (Scu.sealS (Scu.encT ⟨vi, no, false, lo, co⟩ gen m)) _ (by rw [Scu.sealS_size]; omega) hes
            have HBW := Lib.hid hbw
            clear hbw hrw
            go_wp2_with fail
            refine (seal_c _ _ (by unfold maxLen; omega)).mono ?_; rintro e w2 ⟨rfl, h2⟩
            go_wp2
            go_ret2
            exact ⟨ret_pair (str_eq (by rw [HM.out]; rfl)) rfl, HBW.out.trans (h2.mono HBW.out.size)⟩
  | true =>
    go_enter Try.func26, Try.ntmps26
    go_wp2_with fail
    refine (stageCheck_x _ vi no true lo co _ B (HV.out.alloc _)).mono ?_; rintro e w1 ⟨rfl, h1⟩
    rw [HK.out]
    obtain ⟨hc, hz⟩ := bcell h1
    have hsz := box_lt h1
    have hB1 := below_box h1
    have hbk := (Blk.new w 28 #[.int .i64 vi, .int .i64 no, .bool true, .slice A lo.length c, .int .i64 co]).same h1
    go_wp2_with fail
    go_loopw [8, 43] (fun s i wr => ∃ j : Nat, j ≤ 6 ∧ i = .int .i64 j ∧ s = .string (Scu.encN ⟨vi, no, true, lo, co⟩ gen j) ∧ Below w.heap.size w wr ∧ Blk wr w.heap.size 28 #[.int .i64 vi, .int .i64 no, .bool true, .slice A lo.length c, .int .i64 co] ∧
        Blk wr w1.heap.size 3 ((Scu.nums ⟨vi, no, true, lo, co⟩ gen).map (Value.int .i64)).toArray) (fun _ i _ => 6 - (intOf i).toNat)
    case atStart => exact ⟨0, by omega, rfl, rfl, hB1.alloc hB1.size _, hbk.alloc _, Blk.new w1 3 _⟩
    case round =>
      obtain ⟨j, hj, rfl, rfl, hbw, hk0, hk1⟩ := hrel
      by_cases hlt : j < 6
      · have hlt' : (j : Int) < 6 := by omega
        have hn := num_cell hk1 (j := j) hlt
        have hb := HBD.out _ (List.getElem_mem (show j < (Scu.nums _ gen).length from hlt))
        have hsu := Scu.encN_succ (show j < (Scu.nums ⟨vi, no, true, lo, co⟩ gen).length from hlt)
        generalize (Scu.nums _ gen)[j]'hlt = n at hn hb hsu
        have ha := no_big _ (Scu.numBytes n) (Nat.le_trans (Scu.encN_size ⟨vi, no, true, lo, co⟩ gen j) (by omega)) (by rw [Scu.numBytes_size]; omega)
        have HSU := Lib.hid hsu
        have HB := Lib.hid (And.intro hbw (And.intro hk0 hk1))
        clear hsu hbw hk0 hk1
        go_wp2_with fail
        refine (number_ok _ _ hb.1 hb.2).mono ?_; rintro e w2 ⟨rfl, h2⟩
        go_wp2
        go_roundw
        case rel => exact ⟨j + 1, by omega, by go_num, by rw [HSU.out], HB.out.1.trans (h2.mono HB.out.1.size), HB.out.2.1.same h2, HB.out.2.2.same h2⟩
        case measure => simp only [intOf]; omega
      · have hlt' : (6 : Int) ≤ (j : Int) := by omega
        have HJ := Lib.hid (show j = 6 by omega)
        have hu := hk0.cell 3
        simp at hu
        obtain ⟨wa, hwa⟩ : ∃ x, x = wr := ⟨_, rfl⟩
        subst hwa
        have HB := Lib.hid (And.intro hbw hk0)
        clear hbw hk0 hk1
        go_wp2_with fail
        go_loopw [8, 59] (fun s i wr => ∃ m : Nat, m ≤ lo.length ∧ i = .int .i64 m ∧ s = .string (Scu.encT ⟨vi, no, true, lo, co⟩ gen m) ∧ Below w.heap.size w wr) (fun _ i _ => lo.length - (intOf i).toNat)
        case atStart => exact ⟨0, Nat.zero_le _, rfl, by rw [Scu.encT_zero, HJ.out], HB.out.1⟩
        case round =>
          obtain ⟨m, hm, rfl, rfl, hbw⟩ := hrel
          have hrw := hr.below hbw
          have hes := Scu.encT_size HK.out gen m
          by_cases hlt : m < lo.length
          · have hlt2 : (m : Int) < (lo.length : Int) := by omega
            obtain ⟨g, o, rfl, hg, hcc⟩ := str_get hrw hlt
            have h40 : lo[m].size ≤ 40 := Scu.log_small HK.out _ (List.getElem_mem hlt)
            have ha := no_big _ (Scu.textBytes lo[m]) hes (by rw [Scu.textBytes_size]; omega)
            have HSU := Lib.hid (Scu.encT_succ (k := ⟨vi, no, true, lo, co⟩) (gen := gen) hlt)
            have HBW := Lib.hid hbw
            clear hbw hrw
            go_wp2_with fail
            refine (text_ok _ _ (by omega)).mono ?_; rintro e w2 ⟨rfl, h2⟩
            go_wp2
            go_roundw
            case rel => exact ⟨m + 1, hlt, by go_num, by rw [HSU.out], HBW.out.trans (h2.mono HBW.out.size)⟩
            case measure => simp only [intOf]; omega
          · have hlt2 : (lo.length : Int) ≤ (m : Int) := by omega
            have HM := Lib.hid (show Scu.encT ⟨vi, no, true, lo, co⟩ gen m = Scu.keptBody ⟨vi, no, true, lo, co⟩ gen by
              rw [show m = lo.length by omega]; exact Scu.encT_all _ _)
            have ha := no_big (Scu.sealS (Scu.encT ⟨vi, no, true, lo, co⟩ gen m)) _ (by rw [Scu.sealS_size]; omega) hes
            have HBW := Lib.hid hbw
            clear hbw hrw
            go_wp2_with fail
            refine (seal_c _ _ (by unfold maxLen; omega)).mono ?_; rintro e w2 ⟨rfl, h2⟩
            go_wp2
            go_ret2
            exact ⟨ret_pair (str_eq (by rw [HM.out]; rfl)) rfl, HBW.out.trans (h2.mono HBW.out.size)⟩
theorem stageEncode_c (lv : Value) (k : Scu.Kept) (gen : Int) (w : World) (B : Nat) (hv : IsStrs w B lv k.log) :
    Calls Try.prog 26 #[.agg #[.int .i64 k.view, .int .i64 k.normal, .bool k.calm, lv, .int .i64 k.commit], .int .i64 gen] w fun e w' =>
      e = .returned (.tuple #[.string (Scu.stageEncode k gen).1, .int .i64 (Scu.stageEncode k gen).2]) ∧ Below w.heap.size w w' :=
  stageEncode_x lv k.view k.normal k.calm k.log k.commit gen w B hv

theorem keptBytes_x (lv : Value) (vi no : Int) (ca : Bool) (lo : List Scu.Str) (co gen : Int) (w : World) (B : Nat) (hv : IsStrs w B lv lo) :
    Calls Try.prog 27 #[.agg #[.int .i64 vi, .int .i64 no, .bool ca, lv, .int .i64 co], .int .i64 gen] w fun e w' =>
      e = .returned (.tuple #[.string (Scu.stageEncode (⟨vi, no, ca, lo, co⟩ : Scu.Kept) gen).1, .int .i64 (Scu.stageEncode (⟨vi, no, ca, lo, co⟩ : Scu.Kept) gen).2]) ∧ Below w.heap.size w w' := by
  have HV := Lib.hid hv
  obtain ⟨⟨A, c, rfl, _, hr⟩, hl, he⟩ := hv
  unfold R47 at hl he
  cases t0 : (Scu.keptFault (⟨vi, no, ca, lo, co⟩ : Scu.Kept) == 0) with
  | false =>
    have hs := enc_bad (k := (⟨vi, no, ca, lo, co⟩ : Scu.Kept)) (gen := gen) (by simpa using t0)
    rw [hs]
    have t0' : (Scu.keptFault (⟨vi, no, ca, lo, co⟩ : Scu.Kept) != 0) = true := by simpa using t0
    clear hs hr he
    go_enter Try.func27, Try.ntmps27
    go_wp2_with fail
    refine (keptFault_x _ vi no ca lo co _ B (HV.out.alloc _)).mono ?_; rintro e w1 ⟨rfl, h1⟩
    go_wp2
    go_ret2
    exact ⟨rfl, below_box h1⟩
  | true =>
  have hk : Scu.keptFault (⟨vi, no, ca, lo, co⟩ : Scu.Kept) = 0 := by simpa using t0
  cases t1 : inB gen 0 1073741824 with
  | false =>
    have U1 := Lib.hid t1
    have hs := enc_gen (k := (⟨vi, no, ca, lo, co⟩ : Scu.Kept)) (gen := gen) (by simpa using hk) (inB_no t1)
    clear t1
    rw [hs]
    have HK := Lib.hid hk
    clear hs hr he hk t0
    go_enter Try.func27, Try.ntmps27
    go_wp2_with fail
    refine (keptFault_x _ vi no ca lo co _ B (HV.out.alloc _)).mono ?_; rintro e w1 ⟨rfl, h1⟩
    rw [HK.out]
    go_wp2_with (go_at_call 63; refine (inn_c _ _ _ _).mono ?_; rintro e w1 ⟨rfl, rfl⟩; rw [U1.out])
    go_ret2
    exact ⟨rfl, below_box h1⟩
  | true =>
  have U1 := Lib.hid t1
  have hg0 := inB_yes t1
  have hg : ¬ (gen < 0 ∨ 1073741824 < gen) := by omega
  have hs := enc_ok (k := (⟨vi, no, ca, lo, co⟩ : Scu.Kept)) (gen := gen) (by simpa using hk) hg
  rw [hs]
  have HK := Lib.hid hk
  have HBD := Lib.hid (Scu.nums_bd hk (gen := gen) (by omega) (by omega))
  have h60 : lo.length ≤ 60 := (Scu.keptFault_ok hk).2.2.2.2.2.1
  clear hs he hk t0 hg t1 hg0
  cases ca with
  | false =>
    go_enter Try.func27, Try.ntmps27
    go_wp2_with fail
    refine (keptFault_x _ vi no false lo co _ B (HV.out.alloc _)).mono ?_; rintro e w1 ⟨rfl, h1⟩
    rw [HK.out]
    obtain ⟨hc, hz⟩ := bcell h1
    have hsz := box_lt h1
    have hB1 := below_box h1
    have hbk := (Blk.new w 28 #[.int .i64 vi, .int .i64 no, .bool false, .slice A lo.length c, .int .i64 co]).same h1
    have HS := Lib.hid hbk
    clear hbk
    go_wp2_with (go_at_call 63; refine (inn_c _ _ _ _).mono ?_; rintro e w1 ⟨rfl, rfl⟩; rw [U1.out])
    go_loopw [8, 9] (fun s i wr => ∃ j : Nat, j ≤ 6 ∧ i = .int .i64 j ∧ s = .string (Scu.encN ⟨vi, no, false, lo, co⟩ gen j) ∧ Below w.heap.size w wr ∧ Blk wr w.heap.size 28 #[.int .i64 vi, .int .i64 no, .bool false, .slice A lo.length c, .int .i64 co] ∧
        Blk wr w1.heap.size 3 ((Scu.nums ⟨vi, no, false, lo, co⟩ gen).map (Value.int .i64)).toArray) (fun _ i _ => 6 - (intOf i).toNat)
    case atStart => first
      | exact ⟨0, by omega, rfl, rfl, hB1.alloc hB1.size _, HS.out.alloc _, Blk.new w1 3 _⟩
      | exact ⟨0, by omega, rfl, rfl, (hB1.alloc hB1.size _).setCell (p := ⟨w1.heap.size, 3, none⟩) hB1.size _, (HS.out.alloc _).far (p := ⟨w1.heap.size, 3, none⟩) (by simp; omega) _, (Blk.new w1 3 #[.int .i64 gen, .int .i64 vi, .int .i64 no, .int .i64 0, .int .i64 co, .int .i64 lo.length]).set_ 3 _⟩
    case round =>
      obtain ⟨j, hj, rfl, rfl, hbw, hk0, hk1⟩ := hrel
      by_cases hlt : j < 6
      · have hlt' : (j : Int) < 6 := by omega
        have hn := num_cell hk1 (j := j) hlt
        have hb := HBD.out _ (List.getElem_mem (show j < (Scu.nums _ gen).length from hlt))
        have hsu := Scu.encN_succ (show j < (Scu.nums ⟨vi, no, false, lo, co⟩ gen).length from hlt)
        generalize (Scu.nums _ gen)[j]'hlt = n at hn hb hsu
        have ha := no_big _ (Scu.numBytes n) (Nat.le_trans (Scu.encN_size ⟨vi, no, false, lo, co⟩ gen j) (by omega)) (by rw [Scu.numBytes_size]; omega)
        have HSU := Lib.hid hsu
        have HB := Lib.hid (And.intro hbw (And.intro hk0 hk1))
        clear hsu hbw hk0 hk1
        go_wp2_with fail
        refine (numberBytes_ok _ _ hb.1 hb.2).mono ?_; rintro e w2 ⟨rfl, h2⟩
        go_wp2
        go_roundw
        case rel => exact ⟨j + 1, by omega, by go_num, by rw [HSU.out], HB.out.1.trans (h2.mono HB.out.1.size), HB.out.2.1.same h2, HB.out.2.2.same h2⟩
        case measure => simp only [intOf]; omega
      · have hlt' : (6 : Int) ≤ (j : Int) := by omega
        have HJ := Lib.hid (show j = 6 by omega)
        obtain ⟨wa, hwa⟩ : ∃ x, x = wr := ⟨_, rfl⟩
        subst hwa
        have HB := Lib.hid (And.intro hbw hk0)
        clear hbw hk0 hk1
        go_wp2_with fail
        go_loopw [8, 12] (fun s i wr => ∃ m : Nat, m ≤ lo.length ∧ i = .int .i64 m ∧ s = .string (Scu.encT ⟨vi, no, false, lo, co⟩ gen m) ∧ Below w.heap.size w wr ∧ Blk wr w.heap.size 28 #[.int .i64 vi, .int .i64 no, .bool false, .slice A lo.length c, .int .i64 co]) (fun _ i _ => lo.length - (intOf i).toNat)
        case atStart => exact ⟨0, Nat.zero_le _, rfl, by rw [Scu.encT_zero, HJ.out], HB.out.1, HB.out.2⟩
        case round =>
          obtain ⟨m, hm, rfl, rfl, hbw, hk0⟩ := hrel
          have hrw := hr.below hbw
          have hu := hk0.cell 3
          simp at hu
          have hes := Scu.encT_size HK.out gen m
          by_cases hlt : m < lo.length
          · have hlt2 : (m : Int) < (lo.length : Int) := by omega
            obtain ⟨g, o, rfl, hg, hcc⟩ := str_get hrw hlt
            have h40 : lo[m].size ≤ 40 := Scu.log_small HK.out _ (List.getElem_mem hlt)
            have ha := no_big _ (Scu.textBytes lo[m]) hes (by rw [Scu.textBytes_size]; omega)
            have HSU := Lib.hid (Scu.encT_succ (k := ⟨vi, no, false, lo, co⟩) (gen := gen) hlt)
            have HBW := Lib.hid (And.intro hbw hk0)
            clear hbw hrw hk0
            go_wp2_with fail
            refine (textBytesR_ok _ _ (by omega)).mono ?_; rintro e w2 ⟨rfl, h2⟩
            go_wp2
            go_roundw
            case rel => exact ⟨m + 1, hlt, by go_num, by rw [HSU.out], HBW.out.1.trans (h2.mono HBW.out.1.size), HBW.out.2.same h2⟩
            case measure => simp only [intOf]; omega
          · have hlt2 : (lo.length : Int) ≤ (m : Int) := by omega
            have HM := Lib.hid (show Scu.encT ⟨vi, no, false, lo, co⟩ gen m = Scu.keptBody ⟨vi, no, false, lo, co⟩ gen by
              rw [show m = lo.length by omega]; exact Scu.encT_all _ _)
            have ha := no_big (Scu.sealS (Scu.encT ⟨vi, no, false, lo, co⟩ gen m)) _ (by rw [Scu.sealS_size]; omega) hes
            have HBW := Lib.hid hbw
            clear hbw hrw hk0
            go_wp2_with fail
            refine (sealOf_c _ _ (by unfold maxLen; omega)).mono ?_; rintro e w2 ⟨rfl, h2⟩
            go_wp2
            go_ret2
            exact ⟨ret_pair (str_eq (by rw [HM.out]; rfl)) rfl, HBW.out.trans (h2.mono HBW.out.size)⟩
  | true =>
    go_enter Try.func27, Try.ntmps27
    go_wp2_with fail
    refine (keptFault_x _ vi no true lo co _ B (HV.out.alloc _)).mono ?_; rintro e w1 ⟨rfl, h1⟩
    rw [HK.out]
    obtain ⟨hc, hz⟩ := bcell h1
    have hsz := box_lt h1
    have hB1 := below_box h1
    have hbk := (Blk.new w 28 #[.int .i64 vi, .int .i64 no, .bool true, .slice A lo.length c, .int .i64 co]).same h1
    have HS := Lib.hid hbk
    clear hbk
    go_wp2_with (go_at_call 63; refine (inn_c _ _ _ _).mono ?_; rintro e w1 ⟨rfl, rfl⟩; rw [U1.out])
    go_loopw [8, 9] (fun s i wr => ∃ j : Nat, j ≤ 6 ∧ i = .int .i64 j ∧ s = .string (Scu.encN ⟨vi, no, true, lo, co⟩ gen j) ∧ Below w.heap.size w wr ∧ Blk wr w.heap.size 28 #[.int .i64 vi, .int .i64 no, .bool true, .slice A lo.length c, .int .i64 co] ∧
        Blk wr w1.heap.size 3 ((Scu.nums ⟨vi, no, true, lo, co⟩ gen).map (Value.int .i64)).toArray) (fun _ i _ => 6 - (intOf i).toNat)
    case atStart => first
      | exact ⟨0, by omega, rfl, rfl, hB1.alloc hB1.size _, HS.out.alloc _, Blk.new w1 3 _⟩
      | exact ⟨0, by omega, rfl, rfl, (hB1.alloc hB1.size _).setCell (p := ⟨w1.heap.size, 3, none⟩) hB1.size _, (HS.out.alloc _).far (p := ⟨w1.heap.size, 3, none⟩) (by simp; omega) _, (Blk.new w1 3 #[.int .i64 gen, .int .i64 vi, .int .i64 no, .int .i64 0, .int .i64 co, .int .i64 lo.length]).set_ 3 _⟩
    case round =>
      obtain ⟨j, hj, rfl, rfl, hbw, hk0, hk1⟩ := hrel
      by_cases hlt : j < 6
      · have hlt' : (j : Int) < 6 := by omega
        have hn := num_cell hk1 (j := j) hlt
        have hb := HBD.out _ (List.getElem_mem (show j < (Scu.nums _ gen).length from hlt))
        have hsu := Scu.encN_succ (show j < (Scu.nums ⟨vi, no, true, lo, co⟩ gen).length from hlt)
        generalize (Scu.nums _ gen)[j]'hlt = n at hn hb hsu
        have ha := no_big _ (Scu.numBytes n) (Nat.le_trans (Scu.encN_size ⟨vi, no, true, lo, co⟩ gen j) (by omega)) (by rw [Scu.numBytes_size]; omega)
        have HSU := Lib.hid hsu
        have HB := Lib.hid (And.intro hbw (And.intro hk0 hk1))
        clear hsu hbw hk0 hk1
        go_wp2_with fail
        refine (numberBytes_ok _ _ hb.1 hb.2).mono ?_; rintro e w2 ⟨rfl, h2⟩
        go_wp2
        go_roundw
        case rel => exact ⟨j + 1, by omega, by go_num, by rw [HSU.out], HB.out.1.trans (h2.mono HB.out.1.size), HB.out.2.1.same h2, HB.out.2.2.same h2⟩
        case measure => simp only [intOf]; omega
      · have hlt' : (6 : Int) ≤ (j : Int) := by omega
        have HJ := Lib.hid (show j = 6 by omega)
        obtain ⟨wa, hwa⟩ : ∃ x, x = wr := ⟨_, rfl⟩
        subst hwa
        have HB := Lib.hid (And.intro hbw hk0)
        clear hbw hk0 hk1
        go_wp2_with fail
        go_loopw [8, 12] (fun s i wr => ∃ m : Nat, m ≤ lo.length ∧ i = .int .i64 m ∧ s = .string (Scu.encT ⟨vi, no, true, lo, co⟩ gen m) ∧ Below w.heap.size w wr ∧ Blk wr w.heap.size 28 #[.int .i64 vi, .int .i64 no, .bool true, .slice A lo.length c, .int .i64 co]) (fun _ i _ => lo.length - (intOf i).toNat)
        case atStart => exact ⟨0, Nat.zero_le _, rfl, by rw [Scu.encT_zero, HJ.out], HB.out.1, HB.out.2⟩
        case round =>
          obtain ⟨m, hm, rfl, rfl, hbw, hk0⟩ := hrel
          have hrw := hr.below hbw
          have hu := hk0.cell 3
          simp at hu
          have hes := Scu.encT_size HK.out gen m
          by_cases hlt : m < lo.length
          · have hlt2 : (m : Int) < (lo.length : Int) := by omega
            obtain ⟨g, o, rfl, hg, hcc⟩ := str_get hrw hlt
            have h40 : lo[m].size ≤ 40 := Scu.log_small HK.out _ (List.getElem_mem hlt)
            have ha := no_big _ (Scu.textBytes lo[m]) hes (by rw [Scu.textBytes_size]; omega)
            have HSU := Lib.hid (Scu.encT_succ (k := ⟨vi, no, true, lo, co⟩) (gen := gen) hlt)
            have HBW := Lib.hid (And.intro hbw hk0)
            clear hbw hrw hk0
            go_wp2_with fail
            refine (textBytesR_ok _ _ (by omega)).mono ?_; rintro e w2 ⟨rfl, h2⟩
            go_wp2
            go_roundw
            case rel => exact ⟨m + 1, hlt, by go_num, by rw [HSU.out], HBW.out.1.trans (h2.mono HBW.out.1.size), HBW.out.2.same h2⟩
            case measure => simp only [intOf]; omega
          · have hlt2 : (lo.length : Int) ≤ (m : Int) := by omega
            have HM := Lib.hid (show Scu.encT ⟨vi, no, true, lo, co⟩ gen m = Scu.keptBody ⟨vi, no, true, lo, co⟩ gen by
              rw [show m = lo.length by omega]; exact Scu.encT_all _ _)
            have ha := no_big (Scu.sealS (Scu.encT ⟨vi, no, true, lo, co⟩ gen m)) _ (by rw [Scu.sealS_size]; omega) hes
            have HBW := Lib.hid hbw
            clear hbw hrw hk0
            go_wp2_with fail
            refine (sealOf_c _ _ (by unfold maxLen; omega)).mono ?_; rintro e w2 ⟨rfl, h2⟩
            go_wp2
            go_ret2
            exact ⟨ret_pair (str_eq (by rw [HM.out]; rfl)) rfl, HBW.out.trans (h2.mono HBW.out.size)⟩
theorem keptBytes_c (lv : Value) (k : Scu.Kept) (gen : Int) (w : World) (B : Nat) (hv : IsStrs w B lv k.log) :
    Calls Try.prog 27 #[.agg #[.int .i64 k.view, .int .i64 k.normal, .bool k.calm, lv, .int .i64 k.commit], .int .i64 gen] w fun e w' =>
      e = .returned (.tuple #[.string (Scu.stageEncode k gen).1, .int .i64 (Scu.stageEncode k gen).2]) ∧ Below w.heap.size w w' :=
  keptBytes_x lv k.view k.normal k.calm k.log k.commit gen w B hv

theorem lawStageEncodes_w (v : Value) (x : Scu.Kept) {w : World} (h : IsKeptV w v x) (gen : Int) (_ : (Lit.int .i64 gen).wf = true) (W : World) (hW : W = w) :
    Calls Try.prog 7 #[v, .int .i64 gen] W fun e w' => e = .returned (.bool true) ∧ Below W.heap.size W w' := by
  subst hW
  obtain ⟨lv, rfl, hv⟩ := h
  obtain ⟨A, n, c, rfl⟩ := hv.form
  have HV := Lib.hid hv
  clear hv
  go_enter Try.func7, Try.ntmps7
  go_wp2_with fail
  refine (stageEncode_c _ x gen _ _ (HV.out.alloc _)).mono ?_; rintro e w1 ⟨rfl, h1⟩
  obtain ⟨hc, hz⟩ := bcell h1
  have hsz := box_lt h1
  have hB1 := below_box h1
  go_wp2_with fail
  refine (keptBytes_c _ x gen _ _ (HV.out.below hB1)).mono ?_; rintro e w2 ⟨rfl, h2⟩
  go_wp2
  go_ret
  exact ⟨by simp, hB1.trans (h2.mono hB1.size)⟩
end Go.Proofs.Ytioajgcbchdpeaa

/- Walks: stage.Store, each kind. -/
import Derived.Test.YtioajgcbchdpeaaStgS
namespace Go.Proofs.Ytioajgcbchdpeaa
open Go.RowKit
set_option maxHeartbeats 4000000
set_option maxRecDepth 100000

theorem store_1 (A0 : Option Addr) (n0 c0 : Nat) (A2 : Option Addr) (n2 c2 : Nat) (l : List Scu.Str) (k : Scu.Kept) (up : Int) (k' : Scu.Kept) (g a er : Int) (w : World) (B BK : Nat) (hv : IsStrs w B (.slice A0 n0 c0) l) (hk : IsStrs w BK (.slice A2 n2 c2) k.log)
    (hl : Scu.load l = (k', g, a, er)) (he : er ≠ 0) :
    Calls Try.prog 49 #[.slice A0 n0 c0, .agg #[.int .i64 k.view, .int .i64 k.normal, .bool k.calm, .slice A2 n2 c2, .int .i64 k.commit], .int .i64 up] w fun e w' => StoreRet w' w.heap.size ([], er) e ∧ Below w.heap.size w w' := by
  have heb : (er != 0) = true := by simpa using he
  have hec : (er == 0) = false := by simpa using he
  clear he
  have HV := Lib.hid hv
  have HK := Lib.hid hk
  have HL := Lib.hid hl
  clear hv hk hl
  go_enter Try.func49, Try.ntmps49
  go_wp2_with fail
  refine (stageLoad_a _ l _ B (HV.out.alloc _) k' g a er HL.out).mono ?_; rintro en w1 ⟨⟨lv1, rfl, hu1⟩, h1⟩
  obtain ⟨A1, n1, c1, rfl⟩ := hu1.form
  have hlt := box_lt h1
  have hB1 := below_box h1
  have hkb := (Blk.new w 28 #[.int .i64 k.view, .int .i64 k.normal, .bool k.calm, .slice A2 n2 c2, .int .i64 k.commit]).same h1
  have kc0 := hkb.cell 0
  have kc1 := hkb.cell 1
  have kc2 := hkb.cell 2
  have kc3 := hkb.cell 3
  have kc4 := hkb.cell 4
  simp only [List.getElem?_toArray, List.getElem?_cons_zero, List.getElem?_cons_succ] at kc0 kc1 kc2 kc3 kc4
  have HB1 := Lib.hid hB1
  clear hu1 h1 hkb hB1
  go_wp2
  go_ret2
  exact ⟨store_bad _ _ _, HB1.out.alloc HB1.out.size _⟩
theorem store_2 (A0 : Option Addr) (n0 c0 : Nat) (A2 : Option Addr) (n2 c2 : Nat) (l : List Scu.Str) (k : Scu.Kept) (up : Int) (k' : Scu.Kept) (a : Int) (w : World) (B BK : Nat) (hv : IsStrs w B (.slice A0 n0 c0) l) (hk : IsStrs w BK (.slice A2 n2 c2) k.log)
    (hl : Scu.load l = (k', 1073741824, a, 0))  :
    Calls Try.prog 49 #[.slice A0 n0 c0, .agg #[.int .i64 k.view, .int .i64 k.normal, .bool k.calm, .slice A2 n2 c2, .int .i64 k.commit], .int .i64 up] w fun e w' => StoreRet w' w.heap.size ([], 7) e ∧ Below w.heap.size w w' := by
  have HV := Lib.hid hv
  have HK := Lib.hid hk
  have HL := Lib.hid hl
  clear hv hk hl
  go_enter Try.func49, Try.ntmps49
  go_wp2_with fail
  refine (stageLoad_a _ l _ B (HV.out.alloc _) k' 1073741824 a 0 HL.out).mono ?_; rintro en w1 ⟨⟨lv1, rfl, hu1⟩, h1⟩
  obtain ⟨A1, n1, c1, rfl⟩ := hu1.form
  have hlt := box_lt h1
  have hB1 := below_box h1
  have hkb := (Blk.new w 28 #[.int .i64 k.view, .int .i64 k.normal, .bool k.calm, .slice A2 n2 c2, .int .i64 k.commit]).same h1
  have kc0 := hkb.cell 0
  have kc1 := hkb.cell 1
  have kc2 := hkb.cell 2
  have kc3 := hkb.cell 3
  have kc4 := hkb.cell 4
  simp only [List.getElem?_toArray, List.getElem?_cons_zero, List.getElem?_cons_succ] at kc0 kc1 kc2 kc3 kc4
  have HB1 := Lib.hid hB1
  clear hu1 h1 hkb hB1
  go_wp2
  go_ret2
  exact ⟨store_bad _ _ _, HB1.out.alloc HB1.out.size _⟩
theorem store_3 (A0 : Option Addr) (n0 c0 : Nat) (A2 : Option Addr) (n2 c2 : Nat) (l : List Scu.Str) (k : Scu.Kept) (up : Int) (k' : Scu.Kept) (g a : Int) (w : World) (B BK : Nat) (hv : IsStrs w B (.slice A0 n0 c0) l) (hk : IsStrs w BK (.slice A2 n2 c2) k.log)
    (hl : Scu.load l = (k', g, a, 0)) (hg0 : 0 ≤ g) (hg2 : g < 1073741824) (hf : Scu.keptFault k ≠ 0) :
    Calls Try.prog 49 #[.slice A0 n0 c0, .agg #[.int .i64 k.view, .int .i64 k.normal, .bool k.calm, .slice A2 n2 c2, .int .i64 k.commit], .int .i64 up] w fun e w' => StoreRet w' w.heap.size ([], Scu.keptFault k) e ∧ Below w.heap.size w w' := by
  have hgb : (g == 1073741824) = false := by simp; omega
  have hgc : ¬ 1073741824 ≤ g := by omega
  have HE := Lib.hid (enc_bad (k := k) (gen := g + 1) hf)
  have hfb : (Scu.keptFault k != 0) = true := by simpa using hf
  clear hf
  have HV := Lib.hid hv
  have HK := Lib.hid hk
  have HL := Lib.hid hl
  clear hv hk hl
  go_enter Try.func49, Try.ntmps49
  go_wp2_with fail
  refine (stageLoad_a _ l _ B (HV.out.alloc _) k' g a 0 HL.out).mono ?_; rintro en w1 ⟨⟨lv1, rfl, hu1⟩, h1⟩
  obtain ⟨A1, n1, c1, rfl⟩ := hu1.form
  have hlt := box_lt h1
  have hB1 := below_box h1
  have hkb := (Blk.new w 28 #[.int .i64 k.view, .int .i64 k.normal, .bool k.calm, .slice A2 n2 c2, .int .i64 k.commit]).same h1
  have kc0 := hkb.cell 0
  have kc1 := hkb.cell 1
  have kc2 := hkb.cell 2
  have kc3 := hkb.cell 3
  have kc4 := hkb.cell 4
  simp only [List.getElem?_toArray, List.getElem?_cons_zero, List.getElem?_cons_succ] at kc0 kc1 kc2 kc3 kc4
  have HB1 := Lib.hid hB1
  clear hu1 h1 hkb hB1
  go_wp2_with fail
  refine (stageEncode_a _ k (g + 1) _ BK ((HK.out.below HB1.out).alloc _) Scu.str0 (Scu.keptFault k) HE.out).mono ?_; rintro en w2 ⟨rfl, h2⟩
  have HB2 := Lib.hid (HB1.out.trans ((below_box h2).mono HB1.out.size))
  have hlt2 := box_lt h2
  clear h2
  go_wp2
  go_ret2
  exact ⟨store_bad _ _ _, HB2.out⟩
theorem store_4 (A0 : Option Addr) (n0 c0 : Nat) (A2 : Option Addr) (n2 c2 : Nat) (l : List Scu.Str) (k : Scu.Kept) (up : Int) (k' : Scu.Kept) (g a : Int) (w : World) (B BK : Nat) (hv : IsStrs w B (.slice A0 n0 c0) l) (hk : IsStrs w BK (.slice A2 n2 c2) k.log)
    (hl : Scu.load l = (k', g, a, 0)) (hg0 : 0 ≤ g) (hg2 : g < 1073741824) (hf : ¬ Scu.keptFault k ≠ 0) (hu : up < -1) :
    Calls Try.prog 49 #[.slice A0 n0 c0, .agg #[.int .i64 k.view, .int .i64 k.normal, .bool k.calm, .slice A2 n2 c2, .int .i64 k.commit], .int .i64 up] w fun e w' => StoreRet w' w.heap.size ([], 2) e ∧ Below w.heap.size w w' := by
  have hgb : (g == 1073741824) = false := by simp; omega
  have hgc : ¬ 1073741824 ≤ g := by omega
  have HE := Lib.hid (enc_ok (k := k) (gen := g + 1) hf (by omega))
  generalize Scu.keptBytes k (g + 1) = bs at HE
  clear hf
  have HV := Lib.hid hv
  have HK := Lib.hid hk
  have HL := Lib.hid hl
  clear hv hk hl
  go_enter Try.func49, Try.ntmps49
  go_wp2_with fail
  refine (stageLoad_a _ l _ B (HV.out.alloc _) k' g a 0 HL.out).mono ?_; rintro en w1 ⟨⟨lv1, rfl, hu1⟩, h1⟩
  obtain ⟨A1, n1, c1, rfl⟩ := hu1.form
  have hlt := box_lt h1
  have hB1 := below_box h1
  have hkb := (Blk.new w 28 #[.int .i64 k.view, .int .i64 k.normal, .bool k.calm, .slice A2 n2 c2, .int .i64 k.commit]).same h1
  have kc0 := hkb.cell 0
  have kc1 := hkb.cell 1
  have kc2 := hkb.cell 2
  have kc3 := hkb.cell 3
  have kc4 := hkb.cell 4
  simp only [List.getElem?_toArray, List.getElem?_cons_zero, List.getElem?_cons_succ] at kc0 kc1 kc2 kc3 kc4
  have HB1 := Lib.hid hB1
  clear hu1 h1 hkb hB1
  go_wp2_with fail
  refine (stageEncode_a _ k (g + 1) _ BK ((HK.out.below HB1.out).alloc _) bs 0 HE.out).mono ?_; rintro en w2 ⟨rfl, h2⟩
  have HB2 := Lib.hid (HB1.out.trans ((below_box h2).mono HB1.out.size))
  have hlt2 := box_lt h2
  clear h2
  go_wp2
  go_ret2
  exact ⟨store_bad _ _ _, HB2.out⟩
theorem store_cut0 (A0 : Option Addr) (n0 c0 : Nat) (A2 : Option Addr) (n2 c2 : Nat) (l : List Scu.Str) (k : Scu.Kept) (up : Int) (k' : Scu.Kept) (g : Int) (bs : Scu.Str) (w : World) (B BK : Nat) (hv : IsStrs w B (.slice A0 n0 c0) l) (hk : IsStrs w BK (.slice A2 n2 c2) k.log)
    (hl : Scu.load l = (k', g, 0, 0)) (hg0 : 0 ≤ g) (hg2 : g < 1073741824) (hln : l.length = 2) (hf : Scu.keptFault k = 0) (hE : Scu.stageEncode k (g + 1) = (bs, 0)) (hbs : bs.size ≤ 2488) (hu0 : 0 ≤ up) (hu1 : up < (bs.size : Int)) :
    Calls Try.prog 49 #[.slice A0 n0 c0, .agg #[.int .i64 k.view, .int .i64 k.normal, .bool k.calm, .slice A2 n2 c2, .int .i64 k.commit], .int .i64 up] w fun e w' => StoreRet w' w.heap.size (l.set 1 (Scu.upTo bs up), 0) e ∧ Below w.heap.size w w' := by
  have hgb : (g == 1073741824) = false := by simp; omega
  have hgc : ¬ 1073741824 ≤ g := by omega
  rw [upTo_cut hu0 hu1]
  have hu2 : -1 ≤ up := by omega
  have HE := Lib.hid hE
  have HF := Lib.hid hf
  have HBS := Lib.hid hbs
  have h0l : (0 : Int) < (l.length : Int) := by omega
  have h1l : (1 : Int) < (l.length : Int) := by omega
  have h0n : 0 < l.length := by omega
  have h1n : 1 < l.length := by omega
  have hlm : ¬ maxLen < l.length := by unfold maxLen; omega
  have hnu : (up == 0) = (up == 0) := rfl
  clear hE hf hln hnu
  have HV := Lib.hid hv
  have HK := Lib.hid hk
  have HL := Lib.hid hl
  clear hv hk hl
  go_enter Try.func49, Try.ntmps49
  go_wp2_with fail
  refine (stageLoad_a _ l _ B (HV.out.alloc _) k' g 0 0 HL.out).mono ?_; rintro en w1 ⟨⟨lv1, rfl, hu1⟩, h1⟩
  obtain ⟨A1, n1, c1, rfl⟩ := hu1.form
  have hlt := box_lt h1
  have hB1 := below_box h1
  have hkb := (Blk.new w 28 #[.int .i64 k.view, .int .i64 k.normal, .bool k.calm, .slice A2 n2 c2, .int .i64 k.commit]).same h1
  have kc0 := hkb.cell 0
  have kc1 := hkb.cell 1
  have kc2 := hkb.cell 2
  have kc3 := hkb.cell 3
  have kc4 := hkb.cell 4
  simp only [List.getElem?_toArray, List.getElem?_cons_zero, List.getElem?_cons_succ] at kc0 kc1 kc2 kc3 kc4
  have HB1 := Lib.hid hB1
  clear hu1 h1 hkb hB1
  go_wp2_with fail
  refine (stageEncode_a _ k (g + 1) _ BK ((HK.out.below HB1.out).alloc _) bs 0 HE.out).mono ?_; rintro en w2 ⟨rfl, h2⟩
  have HB2 := Lib.hid (HB1.out.trans ((below_box h2).mono HB1.out.size))
  have hlt2 := box_lt h2
  clear h2
  go_wp2_with fail
  refine (cloneStrs_c _ l _ B (HV.out.below HB2.out)).mono ?_; rintro en w3 ⟨⟨u, rfl, hu⟩, h3⟩
  have hu' : OwnStrs w3 w2.heap.size u l := ⟨hu, HV.out.len, HV.out.each⟩
  have h3 := h3.mono HB2.out.size
  obtain ⟨g3, c3, cur3, rfl, hg3, hb3, hcc3⟩ := hu'.at_ h0n
  have HU := Lib.hid hu'
  have hz3 := hb3.frozen
  have hl3 := hb3.lt
  have hc3 : w3.cell? ⟨g3, 1, none⟩ = some (.string (l[1]'h1n)) := by rw [hcc3 1 h1n, List.getElem?_map, List.getElem?_eq_getElem h1n]; rfl
  have HB3 := Lib.hid (HB2.out.trans h3)
  have HG3 := Lib.hid hg3
  clear hu hu' hcc3 hb3 h3 hg3
  go_wp2
  go_ret2
  refine ⟨⟨_, rfl, ?_⟩, HB3.out.setCell (p := ⟨g3, 1, none⟩) (by have := HG3.out; have := HB2.out.size; show w.heap.size ≤ g3; omega) _⟩
  exact (HU.out.base_ HB2.out.size).put 1 _ (by have := HBS.out; simp only [R47]; first | (rw [ByteArray.size_extract]; omega) | omega)
theorem store_neg0 (A0 : Option Addr) (n0 c0 : Nat) (A2 : Option Addr) (n2 c2 : Nat) (l : List Scu.Str) (k : Scu.Kept) (up : Int) (k' : Scu.Kept) (g : Int) (bs : Scu.Str) (w : World) (B BK : Nat) (hv : IsStrs w B (.slice A0 n0 c0) l) (hk : IsStrs w BK (.slice A2 n2 c2) k.log)
    (hl : Scu.load l = (k', g, 0, 0)) (hg0 : 0 ≤ g) (hg2 : g < 1073741824) (hln : l.length = 2) (hf : Scu.keptFault k = 0) (hE : Scu.stageEncode k (g + 1) = (bs, 0)) (hbs : bs.size ≤ 2488) (hu0 : -1 ≤ up) (hu1 : up < 0) :
    Calls Try.prog 49 #[.slice A0 n0 c0, .agg #[.int .i64 k.view, .int .i64 k.normal, .bool k.calm, .slice A2 n2 c2, .int .i64 k.commit], .int .i64 up] w fun e w' => StoreRet w' w.heap.size (l.set 1 (Scu.upTo bs up), 0) e ∧ Below w.heap.size w w' := by
  have hgb : (g == 1073741824) = false := by simp; omega
  have hgc : ¬ 1073741824 ≤ g := by omega
  rw [upTo_all (.inl hu1)]
  have hu2 : ¬ 0 ≤ up := by omega
  have HE := Lib.hid hE
  have HF := Lib.hid hf
  have HBS := Lib.hid hbs
  have h0l : (0 : Int) < (l.length : Int) := by omega
  have h1l : (1 : Int) < (l.length : Int) := by omega
  have h0n : 0 < l.length := by omega
  have h1n : 1 < l.length := by omega
  have hlm : ¬ maxLen < l.length := by unfold maxLen; omega
  have hnu : (up == 0) = (up == 0) := rfl
  clear hE hf hln hnu
  have HV := Lib.hid hv
  have HK := Lib.hid hk
  have HL := Lib.hid hl
  clear hv hk hl
  go_enter Try.func49, Try.ntmps49
  go_wp2_with fail
  refine (stageLoad_a _ l _ B (HV.out.alloc _) k' g 0 0 HL.out).mono ?_; rintro en w1 ⟨⟨lv1, rfl, hu1⟩, h1⟩
  obtain ⟨A1, n1, c1, rfl⟩ := hu1.form
  have hlt := box_lt h1
  have hB1 := below_box h1
  have hkb := (Blk.new w 28 #[.int .i64 k.view, .int .i64 k.normal, .bool k.calm, .slice A2 n2 c2, .int .i64 k.commit]).same h1
  have kc0 := hkb.cell 0
  have kc1 := hkb.cell 1
  have kc2 := hkb.cell 2
  have kc3 := hkb.cell 3
  have kc4 := hkb.cell 4
  simp only [List.getElem?_toArray, List.getElem?_cons_zero, List.getElem?_cons_succ] at kc0 kc1 kc2 kc3 kc4
  have HB1 := Lib.hid hB1
  clear hu1 h1 hkb hB1
  go_wp2_with fail
  refine (stageEncode_a _ k (g + 1) _ BK ((HK.out.below HB1.out).alloc _) bs 0 HE.out).mono ?_; rintro en w2 ⟨rfl, h2⟩
  have HB2 := Lib.hid (HB1.out.trans ((below_box h2).mono HB1.out.size))
  have hlt2 := box_lt h2
  clear h2
  go_wp2_with fail
  refine (cloneStrs_c _ l _ B (HV.out.below HB2.out)).mono ?_; rintro en w3 ⟨⟨u, rfl, hu⟩, h3⟩
  have hu' : OwnStrs w3 w2.heap.size u l := ⟨hu, HV.out.len, HV.out.each⟩
  have h3 := h3.mono HB2.out.size
  obtain ⟨g3, c3, cur3, rfl, hg3, hb3, hcc3⟩ := hu'.at_ h0n
  have HU := Lib.hid hu'
  have hz3 := hb3.frozen
  have hl3 := hb3.lt
  have hc3 : w3.cell? ⟨g3, 1, none⟩ = some (.string (l[1]'h1n)) := by rw [hcc3 1 h1n, List.getElem?_map, List.getElem?_eq_getElem h1n]; rfl
  have HB3 := Lib.hid (HB2.out.trans h3)
  have HG3 := Lib.hid hg3
  clear hu hu' hcc3 hb3 h3 hg3
  go_wp2
  go_ret2
  refine ⟨⟨_, rfl, ?_⟩, HB3.out.setCell (p := ⟨g3, 1, none⟩) (by have := HG3.out; have := HB2.out.size; show w.heap.size ≤ g3; omega) _⟩
  exact (HU.out.base_ HB2.out.size).put 1 _ (by have := HBS.out; simp only [R47]; first | (rw [ByteArray.size_extract]; omega) | omega)
theorem store_big0 (A0 : Option Addr) (n0 c0 : Nat) (A2 : Option Addr) (n2 c2 : Nat) (l : List Scu.Str) (k : Scu.Kept) (up : Int) (k' : Scu.Kept) (g : Int) (bs : Scu.Str) (w : World) (B BK : Nat) (hv : IsStrs w B (.slice A0 n0 c0) l) (hk : IsStrs w BK (.slice A2 n2 c2) k.log)
    (hl : Scu.load l = (k', g, 0, 0)) (hg0 : 0 ≤ g) (hg2 : g < 1073741824) (hln : l.length = 2) (hf : Scu.keptFault k = 0) (hE : Scu.stageEncode k (g + 1) = (bs, 0)) (hbs : bs.size ≤ 2488) (hu0 : 0 ≤ up) (hu1 : (bs.size : Int) ≤ up) :
    Calls Try.prog 49 #[.slice A0 n0 c0, .agg #[.int .i64 k.view, .int .i64 k.normal, .bool k.calm, .slice A2 n2 c2, .int .i64 k.commit], .int .i64 up] w fun e w' => StoreRet w' w.heap.size (l.set 1 (Scu.upTo bs up), 0) e ∧ Below w.heap.size w w' := by
  have hgb : (g == 1073741824) = false := by simp; omega
  have hgc : ¬ 1073741824 ≤ g := by omega
  rw [upTo_all (.inr hu1)]
  have hu2 : -1 ≤ up := by omega
  have HE := Lib.hid hE
  have HF := Lib.hid hf
  have HBS := Lib.hid hbs
  have h0l : (0 : Int) < (l.length : Int) := by omega
  have h1l : (1 : Int) < (l.length : Int) := by omega
  have h0n : 0 < l.length := by omega
  have h1n : 1 < l.length := by omega
  have hlm : ¬ maxLen < l.length := by unfold maxLen; omega
  have hnu : (up == 0) = (up == 0) := rfl
  clear hE hf hln hnu
  have HV := Lib.hid hv
  have HK := Lib.hid hk
  have HL := Lib.hid hl
  clear hv hk hl
  go_enter Try.func49, Try.ntmps49
  go_wp2_with fail
  refine (stageLoad_a _ l _ B (HV.out.alloc _) k' g 0 0 HL.out).mono ?_; rintro en w1 ⟨⟨lv1, rfl, hu1⟩, h1⟩
  obtain ⟨A1, n1, c1, rfl⟩ := hu1.form
  have hlt := box_lt h1
  have hB1 := below_box h1
  have hkb := (Blk.new w 28 #[.int .i64 k.view, .int .i64 k.normal, .bool k.calm, .slice A2 n2 c2, .int .i64 k.commit]).same h1
  have kc0 := hkb.cell 0
  have kc1 := hkb.cell 1
  have kc2 := hkb.cell 2
  have kc3 := hkb.cell 3
  have kc4 := hkb.cell 4
  simp only [List.getElem?_toArray, List.getElem?_cons_zero, List.getElem?_cons_succ] at kc0 kc1 kc2 kc3 kc4
  have HB1 := Lib.hid hB1
  clear hu1 h1 hkb hB1
  go_wp2_with fail
  refine (stageEncode_a _ k (g + 1) _ BK ((HK.out.below HB1.out).alloc _) bs 0 HE.out).mono ?_; rintro en w2 ⟨rfl, h2⟩
  have HB2 := Lib.hid (HB1.out.trans ((below_box h2).mono HB1.out.size))
  have hlt2 := box_lt h2
  clear h2
  go_wp2_with fail
  refine (cloneStrs_c _ l _ B (HV.out.below HB2.out)).mono ?_; rintro en w3 ⟨⟨u, rfl, hu⟩, h3⟩
  have hu' : OwnStrs w3 w2.heap.size u l := ⟨hu, HV.out.len, HV.out.each⟩
  have h3 := h3.mono HB2.out.size
  obtain ⟨g3, c3, cur3, rfl, hg3, hb3, hcc3⟩ := hu'.at_ h0n
  have HU := Lib.hid hu'
  have hz3 := hb3.frozen
  have hl3 := hb3.lt
  have hc3 : w3.cell? ⟨g3, 1, none⟩ = some (.string (l[1]'h1n)) := by rw [hcc3 1 h1n, List.getElem?_map, List.getElem?_eq_getElem h1n]; rfl
  have HB3 := Lib.hid (HB2.out.trans h3)
  have HG3 := Lib.hid hg3
  clear hu hu' hcc3 hb3 h3 hg3
  go_wp2
  go_ret2
  refine ⟨⟨_, rfl, ?_⟩, HB3.out.setCell (p := ⟨g3, 1, none⟩) (by have := HG3.out; have := HB2.out.size; show w.heap.size ≤ g3; omega) _⟩
  exact (HU.out.base_ HB2.out.size).put 1 _ (by have := HBS.out; simp only [R47]; first | (rw [ByteArray.size_extract]; omega) | omega)
theorem store_cut1 (A0 : Option Addr) (n0 c0 : Nat) (A2 : Option Addr) (n2 c2 : Nat) (l : List Scu.Str) (k : Scu.Kept) (up : Int) (k' : Scu.Kept) (g : Int) (bs : Scu.Str) (w : World) (B BK : Nat) (hv : IsStrs w B (.slice A0 n0 c0) l) (hk : IsStrs w BK (.slice A2 n2 c2) k.log)
    (hl : Scu.load l = (k', g, 1, 0)) (hg0 : 0 ≤ g) (hg2 : g < 1073741824) (hln : l.length = 2) (hf : Scu.keptFault k = 0) (hE : Scu.stageEncode k (g + 1) = (bs, 0)) (hbs : bs.size ≤ 2488) (hu0 : 0 ≤ up) (hu1 : up < (bs.size : Int)) :
    Calls Try.prog 49 #[.slice A0 n0 c0, .agg #[.int .i64 k.view, .int .i64 k.normal, .bool k.calm, .slice A2 n2 c2, .int .i64 k.commit], .int .i64 up] w fun e w' => StoreRet w' w.heap.size (l.set 0 (Scu.upTo bs up), 0) e ∧ Below w.heap.size w w' := by
  have hgb : (g == 1073741824) = false := by simp; omega
  have hgc : ¬ 1073741824 ≤ g := by omega
  rw [upTo_cut hu0 hu1]
  have hu2 : -1 ≤ up := by omega
  have HE := Lib.hid hE
  have HF := Lib.hid hf
  have HBS := Lib.hid hbs
  have h0l : (0 : Int) < (l.length : Int) := by omega
  have h1l : (1 : Int) < (l.length : Int) := by omega
  have h0n : 0 < l.length := by omega
  have h1n : 1 < l.length := by omega
  have hlm : ¬ maxLen < l.length := by unfold maxLen; omega
  have hnu : (up == 0) = (up == 0) := rfl
  clear hE hf hln hnu
  have HV := Lib.hid hv
  have HK := Lib.hid hk
  have HL := Lib.hid hl
  clear hv hk hl
  go_enter Try.func49, Try.ntmps49
  go_wp2_with fail
  refine (stageLoad_a _ l _ B (HV.out.alloc _) k' g 1 0 HL.out).mono ?_; rintro en w1 ⟨⟨lv1, rfl, hu1⟩, h1⟩
  obtain ⟨A1, n1, c1, rfl⟩ := hu1.form
  have hlt := box_lt h1
  have hB1 := below_box h1
  have hkb := (Blk.new w 28 #[.int .i64 k.view, .int .i64 k.normal, .bool k.calm, .slice A2 n2 c2, .int .i64 k.commit]).same h1
  have kc0 := hkb.cell 0
  have kc1 := hkb.cell 1
  have kc2 := hkb.cell 2
  have kc3 := hkb.cell 3
  have kc4 := hkb.cell 4
  simp only [List.getElem?_toArray, List.getElem?_cons_zero, List.getElem?_cons_succ] at kc0 kc1 kc2 kc3 kc4
  have HB1 := Lib.hid hB1
  clear hu1 h1 hkb hB1
  go_wp2_with fail
  refine (stageEncode_a _ k (g + 1) _ BK ((HK.out.below HB1.out).alloc _) bs 0 HE.out).mono ?_; rintro en w2 ⟨rfl, h2⟩
  have HB2 := Lib.hid (HB1.out.trans ((below_box h2).mono HB1.out.size))
  have hlt2 := box_lt h2
  clear h2
  go_wp2_with fail
  refine (cloneStrs_c _ l _ B (HV.out.below HB2.out)).mono ?_; rintro en w3 ⟨⟨u, rfl, hu⟩, h3⟩
  have hu' : OwnStrs w3 w2.heap.size u l := ⟨hu, HV.out.len, HV.out.each⟩
  have h3 := h3.mono HB2.out.size
  obtain ⟨g3, c3, cur3, rfl, hg3, hb3, hcc3⟩ := hu'.at_ h0n
  have HU := Lib.hid hu'
  have hz3 := hb3.frozen
  have hl3 := hb3.lt
  have hc3 : w3.cell? ⟨g3, 0, none⟩ = some (.string (l[0]'h0n)) := by rw [hcc3 0 h0n, List.getElem?_map, List.getElem?_eq_getElem h0n]; rfl
  have HB3 := Lib.hid (HB2.out.trans h3)
  have HG3 := Lib.hid hg3
  clear hu hu' hcc3 hb3 h3 hg3
  go_wp2
  go_ret2
  refine ⟨⟨_, rfl, ?_⟩, HB3.out.setCell (p := ⟨g3, 0, none⟩) (by have := HG3.out; have := HB2.out.size; show w.heap.size ≤ g3; omega) _⟩
  exact (HU.out.base_ HB2.out.size).put 0 _ (by have := HBS.out; simp only [R47]; first | (rw [ByteArray.size_extract]; omega) | omega)
theorem store_neg1 (A0 : Option Addr) (n0 c0 : Nat) (A2 : Option Addr) (n2 c2 : Nat) (l : List Scu.Str) (k : Scu.Kept) (up : Int) (k' : Scu.Kept) (g : Int) (bs : Scu.Str) (w : World) (B BK : Nat) (hv : IsStrs w B (.slice A0 n0 c0) l) (hk : IsStrs w BK (.slice A2 n2 c2) k.log)
    (hl : Scu.load l = (k', g, 1, 0)) (hg0 : 0 ≤ g) (hg2 : g < 1073741824) (hln : l.length = 2) (hf : Scu.keptFault k = 0) (hE : Scu.stageEncode k (g + 1) = (bs, 0)) (hbs : bs.size ≤ 2488) (hu0 : -1 ≤ up) (hu1 : up < 0) :
    Calls Try.prog 49 #[.slice A0 n0 c0, .agg #[.int .i64 k.view, .int .i64 k.normal, .bool k.calm, .slice A2 n2 c2, .int .i64 k.commit], .int .i64 up] w fun e w' => StoreRet w' w.heap.size (l.set 0 (Scu.upTo bs up), 0) e ∧ Below w.heap.size w w' := by
  have hgb : (g == 1073741824) = false := by simp; omega
  have hgc : ¬ 1073741824 ≤ g := by omega
  rw [upTo_all (.inl hu1)]
  have hu2 : ¬ 0 ≤ up := by omega
  have HE := Lib.hid hE
  have HF := Lib.hid hf
  have HBS := Lib.hid hbs
  have h0l : (0 : Int) < (l.length : Int) := by omega
  have h1l : (1 : Int) < (l.length : Int) := by omega
  have h0n : 0 < l.length := by omega
  have h1n : 1 < l.length := by omega
  have hlm : ¬ maxLen < l.length := by unfold maxLen; omega
  have hnu : (up == 0) = (up == 0) := rfl
  clear hE hf hln hnu
  have HV := Lib.hid hv
  have HK := Lib.hid hk
  have HL := Lib.hid hl
  clear hv hk hl
  go_enter Try.func49, Try.ntmps49
  go_wp2_with fail
  refine (stageLoad_a _ l _ B (HV.out.alloc _) k' g 1 0 HL.out).mono ?_; rintro en w1 ⟨⟨lv1, rfl, hu1⟩, h1⟩
  obtain ⟨A1, n1, c1, rfl⟩ := hu1.form
  have hlt := box_lt h1
  have hB1 := below_box h1
  have hkb := (Blk.new w 28 #[.int .i64 k.view, .int .i64 k.normal, .bool k.calm, .slice A2 n2 c2, .int .i64 k.commit]).same h1
  have kc0 := hkb.cell 0
  have kc1 := hkb.cell 1
  have kc2 := hkb.cell 2
  have kc3 := hkb.cell 3
  have kc4 := hkb.cell 4
  simp only [List.getElem?_toArray, List.getElem?_cons_zero, List.getElem?_cons_succ] at kc0 kc1 kc2 kc3 kc4
  have HB1 := Lib.hid hB1
  clear hu1 h1 hkb hB1
  go_wp2_with fail
  refine (stageEncode_a _ k (g + 1) _ BK ((HK.out.below HB1.out).alloc _) bs 0 HE.out).mono ?_; rintro en w2 ⟨rfl, h2⟩
  have HB2 := Lib.hid (HB1.out.trans ((below_box h2).mono HB1.out.size))
  have hlt2 := box_lt h2
  clear h2
  go_wp2_with fail
  refine (cloneStrs_c _ l _ B (HV.out.below HB2.out)).mono ?_; rintro en w3 ⟨⟨u, rfl, hu⟩, h3⟩
  have hu' : OwnStrs w3 w2.heap.size u l := ⟨hu, HV.out.len, HV.out.each⟩
  have h3 := h3.mono HB2.out.size
  obtain ⟨g3, c3, cur3, rfl, hg3, hb3, hcc3⟩ := hu'.at_ h0n
  have HU := Lib.hid hu'
  have hz3 := hb3.frozen
  have hl3 := hb3.lt
  have hc3 : w3.cell? ⟨g3, 0, none⟩ = some (.string (l[0]'h0n)) := by rw [hcc3 0 h0n, List.getElem?_map, List.getElem?_eq_getElem h0n]; rfl
  have HB3 := Lib.hid (HB2.out.trans h3)
  have HG3 := Lib.hid hg3
  clear hu hu' hcc3 hb3 h3 hg3
  go_wp2
  go_ret2
  refine ⟨⟨_, rfl, ?_⟩, HB3.out.setCell (p := ⟨g3, 0, none⟩) (by have := HG3.out; have := HB2.out.size; show w.heap.size ≤ g3; omega) _⟩
  exact (HU.out.base_ HB2.out.size).put 0 _ (by have := HBS.out; simp only [R47]; first | (rw [ByteArray.size_extract]; omega) | omega)
theorem store_big1 (A0 : Option Addr) (n0 c0 : Nat) (A2 : Option Addr) (n2 c2 : Nat) (l : List Scu.Str) (k : Scu.Kept) (up : Int) (k' : Scu.Kept) (g : Int) (bs : Scu.Str) (w : World) (B BK : Nat) (hv : IsStrs w B (.slice A0 n0 c0) l) (hk : IsStrs w BK (.slice A2 n2 c2) k.log)
    (hl : Scu.load l = (k', g, 1, 0)) (hg0 : 0 ≤ g) (hg2 : g < 1073741824) (hln : l.length = 2) (hf : Scu.keptFault k = 0) (hE : Scu.stageEncode k (g + 1) = (bs, 0)) (hbs : bs.size ≤ 2488) (hu0 : 0 ≤ up) (hu1 : (bs.size : Int) ≤ up) :
    Calls Try.prog 49 #[.slice A0 n0 c0, .agg #[.int .i64 k.view, .int .i64 k.normal, .bool k.calm, .slice A2 n2 c2, .int .i64 k.commit], .int .i64 up] w fun e w' => StoreRet w' w.heap.size (l.set 0 (Scu.upTo bs up), 0) e ∧ Below w.heap.size w w' := by
  have hgb : (g == 1073741824) = false := by simp; omega
  have hgc : ¬ 1073741824 ≤ g := by omega
  rw [upTo_all (.inr hu1)]
  have hu2 : -1 ≤ up := by omega
  have HE := Lib.hid hE
  have HF := Lib.hid hf
  have HBS := Lib.hid hbs
  have h0l : (0 : Int) < (l.length : Int) := by omega
  have h1l : (1 : Int) < (l.length : Int) := by omega
  have h0n : 0 < l.length := by omega
  have h1n : 1 < l.length := by omega
  have hlm : ¬ maxLen < l.length := by unfold maxLen; omega
  have hnu : (up == 0) = (up == 0) := rfl
  clear hE hf hln hnu
  have HV := Lib.hid hv
  have HK := Lib.hid hk
  have HL := Lib.hid hl
  clear hv hk hl
  go_enter Try.func49, Try.ntmps49
  go_wp2_with fail
  refine (stageLoad_a _ l _ B (HV.out.alloc _) k' g 1 0 HL.out).mono ?_; rintro en w1 ⟨⟨lv1, rfl, hu1⟩, h1⟩
  obtain ⟨A1, n1, c1, rfl⟩ := hu1.form
  have hlt := box_lt h1
  have hB1 := below_box h1
  have hkb := (Blk.new w 28 #[.int .i64 k.view, .int .i64 k.normal, .bool k.calm, .slice A2 n2 c2, .int .i64 k.commit]).same h1
  have kc0 := hkb.cell 0
  have kc1 := hkb.cell 1
  have kc2 := hkb.cell 2
  have kc3 := hkb.cell 3
  have kc4 := hkb.cell 4
  simp only [List.getElem?_toArray, List.getElem?_cons_zero, List.getElem?_cons_succ] at kc0 kc1 kc2 kc3 kc4
  have HB1 := Lib.hid hB1
  clear hu1 h1 hkb hB1
  go_wp2_with fail
  refine (stageEncode_a _ k (g + 1) _ BK ((HK.out.below HB1.out).alloc _) bs 0 HE.out).mono ?_; rintro en w2 ⟨rfl, h2⟩
  have HB2 := Lib.hid (HB1.out.trans ((below_box h2).mono HB1.out.size))
  have hlt2 := box_lt h2
  clear h2
  go_wp2_with fail
  refine (cloneStrs_c _ l _ B (HV.out.below HB2.out)).mono ?_; rintro en w3 ⟨⟨u, rfl, hu⟩, h3⟩
  have hu' : OwnStrs w3 w2.heap.size u l := ⟨hu, HV.out.len, HV.out.each⟩
  have h3 := h3.mono HB2.out.size
  obtain ⟨g3, c3, cur3, rfl, hg3, hb3, hcc3⟩ := hu'.at_ h0n
  have HU := Lib.hid hu'
  have hz3 := hb3.frozen
  have hl3 := hb3.lt
  have hc3 : w3.cell? ⟨g3, 0, none⟩ = some (.string (l[0]'h0n)) := by rw [hcc3 0 h0n, List.getElem?_map, List.getElem?_eq_getElem h0n]; rfl
  have HB3 := Lib.hid (HB2.out.trans h3)
  have HG3 := Lib.hid hg3
  clear hu hu' hcc3 hb3 h3 hg3
  go_wp2
  go_ret2
  refine ⟨⟨_, rfl, ?_⟩, HB3.out.setCell (p := ⟨g3, 0, none⟩) (by have := HG3.out; have := HB2.out.size; show w.heap.size ≤ g3; omega) _⟩
  exact (HU.out.base_ HB2.out.size).put 0 _ (by have := HBS.out; simp only [R47]; first | (rw [ByteArray.size_extract]; omega) | omega)
theorem stageStore_c (v lv : Value) (l : List Scu.Str) (k : Scu.Kept) (up : Int) (w : World) (B BK : Nat) (hv : IsStrs w B v l) (hk : IsStrs w BK lv k.log) :
    Calls Try.prog 49 #[v, .agg #[.int .i64 k.view, .int .i64 k.normal, .bool k.calm, lv, .int .i64 k.commit], .int .i64 up] w fun e w' => StoreRet w' w.heap.size (Scu.store l k up) e ∧ Below w.heap.size w w' := by
  obtain ⟨A0, n0, c0, rfl⟩ := hv.form
  obtain ⟨A2, n2, c2, rfl⟩ := hk.form
  obtain ⟨q, hl⟩ : ∃ q, Scu.load l = q := ⟨_, rfl⟩
  obtain ⟨k', g, a, e⟩ := q
  by_cases he : e = 0
  · subst he
    obtain ⟨hln, ha, hg0, hg1⟩ := Scu.load_at hl
    by_cases hg : g = 1073741824
    · rw [st2 hl hg]
      subst hg
      exact store_2 A0 n0 c0 A2 n2 c2 l k up k' a w B BK hv hk hl
    have hg2 : g < 1073741824 := by omega
    by_cases hf : Scu.keptFault k ≠ 0
    · rw [st3 hl hg hf]
      exact store_3 A0 n0 c0 A2 n2 c2 l k up k' g a w B BK hv hk hl hg0 hg2 hf
    by_cases hu : up < -1
    · rw [st4 hl hg hf hu]
      exact store_4 A0 n0 c0 A2 n2 c2 l k up k' g a w B BK hv hk hl hg0 hg2 hf hu
    rw [st5 hl hg hf hu]
    have hE := enc_ok (k := k) (gen := g + 1) hf (by omega)
    have hf0 : Scu.keptFault k = 0 := Decidable.not_not.1 hf
    have hbs := keptBytes_size hf0 (g + 1)
    generalize Scu.keptBytes k (g + 1) = bs at hE hbs
    rcases ha with rfl | rfl
    · show Calls _ _ _ _ fun e w' => StoreRet w' w.heap.size (l.set 1 (Scu.upTo bs up), 0) e ∧ Below w.heap.size w w'
      by_cases h0 : 0 ≤ up
      · by_cases h1 : up < (bs.size : Int)
        · exact store_cut0 A0 n0 c0 A2 n2 c2 l k up k' g bs w B BK hv hk hl hg0 hg2 hln hf0 hE hbs h0 h1
        · exact store_big0 A0 n0 c0 A2 n2 c2 l k up k' g bs w B BK hv hk hl hg0 hg2 hln hf0 hE hbs h0 (by omega)
      · exact store_neg0 A0 n0 c0 A2 n2 c2 l k up k' g bs w B BK hv hk hl hg0 hg2 hln hf0 hE hbs (by omega) (by omega)
    · show Calls _ _ _ _ fun e w' => StoreRet w' w.heap.size (l.set 0 (Scu.upTo bs up), 0) e ∧ Below w.heap.size w w'
      by_cases h0 : 0 ≤ up
      · by_cases h1 : up < (bs.size : Int)
        · exact store_cut1 A0 n0 c0 A2 n2 c2 l k up k' g bs w B BK hv hk hl hg0 hg2 hln hf0 hE hbs h0 h1
        · exact store_big1 A0 n0 c0 A2 n2 c2 l k up k' g bs w B BK hv hk hl hg0 hg2 hln hf0 hE hbs h0 (by omega)
      · exact store_neg1 A0 n0 c0 A2 n2 c2 l k up k' g bs w B BK hv hk hl hg0 hg2 hln hf0 hE hbs (by omega) (by omega)
  · rw [st1 hl he]
    exact store_1 A0 n0 c0 A2 n2 c2 l k up k' g a e w B BK hv hk hl he
end Go.Proofs.Ytioajgcbchdpeaa

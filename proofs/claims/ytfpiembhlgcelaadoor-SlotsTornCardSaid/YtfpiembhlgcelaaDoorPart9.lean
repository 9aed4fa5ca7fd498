/- The card of the law 'SlotsTorn': for every input the call returns true; each argument reads as it did. Condition: the three tables of numbers that the library reads hold what the program's text lays in them, which the card ties. -/
import Derived.Test.YtfpiembhlgcelaaDoorPart8
import Derived.Deep.RegionHeld3
import Derived.Test.YtfpiembhlgcelaaDoorPart1
import Derived.Test.YtfpiembhlgcelaaDoorPart2
import Derived.Test.YtfpiembhlgcelaaDoorCards
import Derived.Test.YtfpiembhlgcelaaDoorTie
import Derived.SizedLaws
import Derived.LaidMore
import Derived.Stop.Joined
import Derived.SevenTiedAt
import Derived.WalkKit
import Derived.ProofKit
import Derived.OpenShut
import Derived.ShutString
import Derived.ChangeOld
import Derived.Below
set_option linter.unusedVariables false
set_option linter.unusedSimpArgs false
/- Walks: stage.Store, each kind. -/
namespace Go.Proofs.YtfpiembhlgcelaaDoor
open Go.RowKit
set_option maxHeartbeats 4000000
set_option maxRecDepth 100000

theorem store_1 (A0 : Option Addr) (n0 c0 : Nat) (A2 : Option Addr) (n2 c2 : Nat) (l : List Scu.Str) (k : Scu.Kept) (up : Int) (k' : Scu.Kept) (g a er : Int) (w : World) (B BK : Nat) (hv : IsStrs w B (.slice A0 n0 c0) l) (hk : IsStrs w BK (.slice A2 n2 c2) k.log)
    (hl : Scu.load l = (k', g, a, er)) (he : er ≠ 0) :
    Calls Tryd.prog 36 #[.slice A0 n0 c0, .agg #[.int .i64 k.view, .int .i64 k.normal, .bool k.calm, .slice A2 n2 c2, .int .i64 k.commit], .int .i64 up] w fun e w' => StoreRet w' w.heap.size ([], er) e ∧ Below w.heap.size w w' := by
  have heb : (er != 0) = true := by simpa using he
  have hec : (er == 0) = false := by simpa using he
  clear he
  have HV := Lib.hid hv
  have HK := Lib.hid hk
  have HL := Lib.hid hl
  clear hv hk hl
  go_enter Tryd.func36, Tryd.ntmps36
  go_wp2_with fail
  refine (stageLoad_a _ l _ B (HV.out.alloc _) k' g a er HL.out).mono ?_; rintro en w1 ⟨⟨lv1, rfl, hu1⟩, h1⟩
  obtain ⟨A1, n1, c1, rfl⟩ := hu1.form
  have hlt := box_lt h1
  have hB1 := below_box h1
  have hkb := (Blk.new w 64 #[.int .i64 k.view, .int .i64 k.normal, .bool k.calm, .slice A2 n2 c2, .int .i64 k.commit]).same h1
  have kc0 := hkb.cell 0
  have kc1 := hkb.cell 1
  have kc2 := hkb.cell 2
  have kc3 := hkb.cell 3
  have kc4 := hkb.cell 4
  simp only [List.getElem?_toArray, List.getElem?_cons_zero, List.getElem?_cons_succ] at kc0 kc1 kc2 kc3 kc4
  have HB1 := Lib.hid hB1
  clear hu1 h1 hkb hB1
  go_wp2
  go_ret2
  exact ⟨store_bad _ _ _, HB1.out.alloc HB1.out.size _⟩
theorem store_2 (A0 : Option Addr) (n0 c0 : Nat) (A2 : Option Addr) (n2 c2 : Nat) (l : List Scu.Str) (k : Scu.Kept) (up : Int) (k' : Scu.Kept) (a : Int) (w : World) (B BK : Nat) (hv : IsStrs w B (.slice A0 n0 c0) l) (hk : IsStrs w BK (.slice A2 n2 c2) k.log)
    (hl : Scu.load l = (k', 1073741824, a, 0))  :
    Calls Tryd.prog 36 #[.slice A0 n0 c0, .agg #[.int .i64 k.view, .int .i64 k.normal, .bool k.calm, .slice A2 n2 c2, .int .i64 k.commit], .int .i64 up] w fun e w' => StoreRet w' w.heap.size ([], 7) e ∧ Below w.heap.size w w' := by
  have HV := Lib.hid hv
  have HK := Lib.hid hk
  have HL := Lib.hid hl
  clear hv hk hl
  go_enter Tryd.func36, Tryd.ntmps36
  go_wp2_with fail
  refine (stageLoad_a _ l _ B (HV.out.alloc _) k' 1073741824 a 0 HL.out).mono ?_; rintro en w1 ⟨⟨lv1, rfl, hu1⟩, h1⟩
  obtain ⟨A1, n1, c1, rfl⟩ := hu1.form
  have hlt := box_lt h1
  have hB1 := below_box h1
  have hkb := (Blk.new w 64 #[.int .i64 k.view, .int .i64 k.normal, .bool k.calm, .slice A2 n2 c2, .int .i64 k.commit]).same h1
  have kc0 := hkb.cell 0
  have kc1 := hkb.cell 1
  have kc2 := hkb.cell 2
  have kc3 := hkb.cell 3
  have kc4 := hkb.cell 4
  simp only [List.getElem?_toArray, List.getElem?_cons_zero, List.getElem?_cons_succ] at kc0 kc1 kc2 kc3 kc4
  have HB1 := Lib.hid hB1
  clear hu1 h1 hkb hB1
  go_wp2
  go_ret2
  exact ⟨store_bad _ _ _, HB1.out.alloc HB1.out.size _⟩
theorem store_3 (A0 : Option Addr) (n0 c0 : Nat) (A2 : Option Addr) (n2 c2 : Nat) (l : List Scu.Str) (k : Scu.Kept) (up : Int) (k' : Scu.Kept) (g a : Int) (w : World) (B BK : Nat) (hv : IsStrs w B (.slice A0 n0 c0) l) (hk : IsStrs w BK (.slice A2 n2 c2) k.log)
    (hl : Scu.load l = (k', g, a, 0)) (hg0 : 0 ≤ g) (hg2 : g < 1073741824) (hf : Scu.keptFault k ≠ 0) :
    Calls Tryd.prog 36 #[.slice A0 n0 c0, .agg #[.int .i64 k.view, .int .i64 k.normal, .bool k.calm, .slice A2 n2 c2, .int .i64 k.commit], .int .i64 up] w fun e w' => StoreRet w' w.heap.size ([], Scu.keptFault k) e ∧ Below w.heap.size w w' := by
  have hgb : (g == 1073741824) = false := by simp; omega
  have hgc : ¬ 1073741824 ≤ g := by omega
  have HE := Lib.hid (enc_bad (k := k) (gen := g + 1) hf)
  have hfb : (Scu.keptFault k != 0) = true := by simpa using hf
  clear hf
  have HV := Lib.hid hv
  have HK := Lib.hid hk
  have HL := Lib.hid hl
  clear hv hk hl
  go_enter Tryd.func36, Tryd.ntmps36
  go_wp2_with fail
  refine (stageLoad_a _ l _ B (HV.out.alloc _) k' g a 0 HL.out).mono ?_; rintro en w1 ⟨⟨lv1, rfl, hu1⟩, h1⟩
  obtain ⟨A1, n1, c1, rfl⟩ := hu1.form
  have hlt := box_lt h1
  have hB1 := below_box h1
  have hkb := (Blk.new w 64 #[.int .i64 k.view, .int .i64 k.normal, .bool k.calm, .slice A2 n2 c2, .int .i64 k.commit]).same h1
  have kc0 := hkb.cell 0
  have kc1 := hkb.cell 1
  have kc2 := hkb.cell 2
  have kc3 := hkb.cell 3
  have kc4 := hkb.cell 4
  simp only [List.getElem?_toArray, List.getElem?_cons_zero, List.getElem?_cons_succ] at kc0 kc1 kc2 kc3 kc4
  have HB1 := Lib.hid hB1
  clear hu1 h1 hkb hB1
  go_wp2_with fail
  refine (stageEncode_a _ k (g + 1) _ BK ((HK.out.below HB1.out).alloc _) Scu.str0 (Scu.keptFault k) HE.out).mono ?_; rintro en w2 ⟨rfl, h2⟩
  have HB2 := Lib.hid (HB1.out.trans ((below_box h2).mono HB1.out.size))
  have hlt2 := box_lt h2
  clear h2
  go_wp2
  go_ret2
  exact ⟨store_bad _ _ _, HB2.out⟩
theorem store_4 (A0 : Option Addr) (n0 c0 : Nat) (A2 : Option Addr) (n2 c2 : Nat) (l : List Scu.Str) (k : Scu.Kept) (up : Int) (k' : Scu.Kept) (g a : Int) (w : World) (B BK : Nat) (hv : IsStrs w B (.slice A0 n0 c0) l) (hk : IsStrs w BK (.slice A2 n2 c2) k.log)
    (hl : Scu.load l = (k', g, a, 0)) (hg0 : 0 ≤ g) (hg2 : g < 1073741824) (hf : ¬ Scu.keptFault k ≠ 0) (hu : up < -1) :
    Calls Tryd.prog 36 #[.slice A0 n0 c0, .agg #[.int .i64 k.view, .int .i64 k.normal, .bool k.calm, .slice A2 n2 c2, .int .i64 k.commit], .int .i64 up] w fun e w' => StoreRet w' w.heap.size ([], 2) e ∧ Below w.heap.size w w' := by
  have hgb : (g == 1073741824) = false := by simp; omega
  have hgc : ¬ 1073741824 ≤ g := by omega
  have HE := Lib.hid (enc_ok (k := k) (gen := g + 1) hf (by omega))
  generalize Scu.keptBytes k (g + 1) = bs at HE
  clear hf
  have HV := Lib.hid hv
  have HK := Lib.hid hk
  have HL := Lib.hid hl
  clear hv hk hl
  go_enter Tryd.func36, Tryd.ntmps36
  go_wp2_with fail
  refine (stageLoad_a _ l _ B (HV.out.alloc _) k' g a 0 HL.out).mono ?_; rintro en w1 ⟨⟨lv1, rfl, hu1⟩, h1⟩
  obtain ⟨A1, n1, c1, rfl⟩ := hu1.form
  have hlt := box_lt h1
  have hB1 := below_box h1
  have hkb := (Blk.new w 64 #[.int .i64 k.view, .int .i64 k.normal, .bool k.calm, .slice A2 n2 c2, .int .i64 k.commit]).same h1
  have kc0 := hkb.cell 0
  have kc1 := hkb.cell 1
  have kc2 := hkb.cell 2
  have kc3 := hkb.cell 3
  have kc4 := hkb.cell 4
  simp only [List.getElem?_toArray, List.getElem?_cons_zero, List.getElem?_cons_succ] at kc0 kc1 kc2 kc3 kc4
  have HB1 := Lib.hid hB1
  clear hu1 h1 hkb hB1
  go_wp2_with fail
  refine (stageEncode_a _ k (g + 1) _ BK ((HK.out.below HB1.out).alloc _) bs 0 HE.out).mono ?_; rintro en w2 ⟨rfl, h2⟩
  have HB2 := Lib.hid (HB1.out.trans ((below_box h2).mono HB1.out.size))
  have hlt2 := box_lt h2
  clear h2
  go_wp2
  go_ret2
  exact ⟨store_bad _ _ _, HB2.out⟩
theorem store_cut0 (A0 : Option Addr) (n0 c0 : Nat) (A2 : Option Addr) (n2 c2 : Nat) (l : List Scu.Str) (k : Scu.Kept) (up : Int) (k' : Scu.Kept) (g : Int) (bs : Scu.Str) (w : World) (B BK : Nat) (hv : IsStrs w B (.slice A0 n0 c0) l) (hk : IsStrs w BK (.slice A2 n2 c2) k.log)
    (hl : Scu.load l = (k', g, 0, 0)) (hg0 : 0 ≤ g) (hg2 : g < 1073741824) (hln : l.length = 2) (hf : Scu.keptFault k = 0) (hE : Scu.stageEncode k (g + 1) = (bs, 0)) (hbs : bs.size ≤ 2488) (hu0 : 0 ≤ up) (hu1 : up < (bs.size : Int)) :
    Calls Tryd.prog 36 #[.slice A0 n0 c0, .agg #[.int .i64 k.view, .int .i64 k.normal, .bool k.calm, .slice A2 n2 c2, .int .i64 k.commit], .int .i64 up] w fun e w' => StoreRet w' w.heap.size (l.set 1 (Scu.upTo bs up), 0) e ∧ Below w.heap.size w w' := by
  have hgb : (g == 1073741824) = false := by simp; omega
  have hgc : ¬ 1073741824 ≤ g := by omega
  rw [upTo_cut hu0 hu1]
  have hu2 : -1 ≤ up := by omega
  have HE := Lib.hid hE
  have HF := Lib.hid hf
  have HBS := Lib.hid hbs
  have h0l : (0 : Int) < (l.length : Int) := by omega
  have h1l : (1 : Int) < (l.length : Int) := by omega
  have h0n : 0 < l.length := by omega
  have h1n : 1 < l.length := by omega
  have hlm : ¬ maxLen < l.length := by unfold maxLen; omega
  have hnu : (up == 0) = (up == 0) := rfl
  clear hE hf hln hnu
  have HV := Lib.hid hv
  have HK := Lib.hid hk
  have HL := Lib.hid hl
  clear hv hk hl
  go_enter Tryd.func36, Tryd.ntmps36
  go_wp2_with fail
  refine (stageLoad_a _ l _ B (HV.out.alloc _) k' g 0 0 HL.out).mono ?_; rintro en w1 ⟨⟨lv1, rfl, hu1⟩, h1⟩
  obtain ⟨A1, n1, c1, rfl⟩ := hu1.form
  have hlt := box_lt h1
  have hB1 := below_box h1
  have hkb := (Blk.new w 64 #[.int .i64 k.view, .int .i64 k.normal, .bool k.calm, .slice A2 n2 c2, .int .i64 k.commit]).same h1
  have kc0 := hkb.cell 0
  have kc1 := hkb.cell 1
  have kc2 := hkb.cell 2
  have kc3 := hkb.cell 3
  have kc4 := hkb.cell 4
  simp only [List.getElem?_toArray, List.getElem?_cons_zero, List.getElem?_cons_succ] at kc0 kc1 kc2 kc3 kc4
  have HB1 := Lib.hid hB1
  clear hu1 h1 hkb hB1
  go_wp2_with fail
  refine (stageEncode_a _ k (g + 1) _ BK ((HK.out.below HB1.out).alloc _) bs 0 HE.out).mono ?_; rintro en w2 ⟨rfl, h2⟩
  have HB2 := Lib.hid (HB1.out.trans ((below_box h2).mono HB1.out.size))
  have hlt2 := box_lt h2
  clear h2
  go_wp2_with fail
  refine (cloneStrs_c _ l _ B (HV.out.below HB2.out)).mono ?_; rintro en w3 ⟨⟨u, rfl, hu⟩, h3⟩
  have hu' : OwnStrs w3 w2.heap.size u l := ⟨hu, HV.out.len, HV.out.each⟩
  have h3 := h3.mono HB2.out.size
  obtain ⟨g3, c3, cur3, rfl, hg3, hb3, hcc3⟩ := hu'.at_ h0n
  have HU := Lib.hid hu'
  have hz3 := hb3.frozen
  have hl3 := hb3.lt
  have hc3 : w3.cell? ⟨g3, 1, none⟩ = some (.string (l[1]'h1n)) := by rw [hcc3 1 h1n, List.getElem?_map, List.getElem?_eq_getElem h1n]; rfl
  have HB3 := Lib.hid (HB2.out.trans h3)
  have HG3 := Lib.hid hg3
  clear hu hu' hcc3 hb3 h3 hg3
  go_wp2
  go_ret2
  refine ⟨⟨_, rfl, ?_⟩, HB3.out.setCell (p := ⟨g3, 1, none⟩) (by have := HG3.out; have := HB2.out.size; show w.heap.size ≤ g3; omega) _⟩
  exact (HU.out.base_ HB2.out.size).put 1 _ (by have := HBS.out; simp only [R47]; first | (rw [ByteArray.size_extract]; omega) | omega)
theorem store_neg0 (A0 : Option Addr) (n0 c0 : Nat) (A2 : Option Addr) (n2 c2 : Nat) (l : List Scu.Str) (k : Scu.Kept) (up : Int) (k' : Scu.Kept) (g : Int) (bs : Scu.Str) (w : World) (B BK : Nat) (hv : IsStrs w B (.slice A0 n0 c0) l) (hk : IsStrs w BK (.slice A2 n2 c2) k.log)
    (hl : Scu.load l = (k', g, 0, 0)) (hg0 : 0 ≤ g) (hg2 : g < 1073741824) (hln : l.length = 2) (hf : Scu.keptFault k = 0) (hE : Scu.stageEncode k (g + 1) = (bs, 0)) (hbs : bs.size ≤ 2488) (hu0 : -1 ≤ up) (hu1 : up < 0) :
    Calls Tryd.prog 36 #[.slice A0 n0 c0, .agg #[.int .i64 k.view, .int .i64 k.normal, .bool k.calm, .slice A2 n2 c2, .int .i64 k.commit], .int .i64 up] w fun e w' => StoreRet w' w.heap.size (l.set 1 (Scu.upTo bs up), 0) e ∧ Below w.heap.size w w' := by
  have hgb : (g == 1073741824) = false := by simp; omega
  have hgc : ¬ 1073741824 ≤ g := by omega
  rw [upTo_all (.inl hu1)]
  have hu2 : ¬ 0 ≤ up := by omega
  have HE := Lib.hid hE
  have HF := Lib.hid hf
  have HBS := Lib.hid hbs
  have h0l : (0 : Int) < (l.length : Int) := by omega
  have h1l : (1 : Int) < (l.length : Int) := by omega
  have h0n : 0 < l.length := by omega
  have h1n : 1 < l.length := by omega
  have hlm : ¬ maxLen < l.length := by unfold maxLen; omega
  have hnu : (up == 0) = (up == 0) := rfl
  clear hE hf hln hnu
  have HV := Lib.hid hv
  have HK := Lib.hid hk
  have HL := Lib.hid hl
  clear hv hk hl
  go_enter Tryd.func36, Tryd.ntmps36
  go_wp2_with fail
  refine (stageLoad_a _ l _ B (HV.out.alloc _) k' g 0 0 HL.out).mono ?_; rintro en w1 ⟨⟨lv1, rfl, hu1⟩, h1⟩
  obtain ⟨A1, n1, c1, rfl⟩ := hu1.form
  have hlt := box_lt h1
  have hB1 := below_box h1
  have hkb := (Blk.new w 64 #[.int .i64 k.view, .int .i64 k.normal, .bool k.calm, .slice A2 n2 c2, .int .i64 k.commit]).same h1
  have kc0 := hkb.cell 0
  have kc1 := hkb.cell 1
  have kc2 := hkb.cell 2
  have kc3 := hkb.cell 3
  have kc4 := hkb.cell 4
  simp only [List.getElem?_toArray, List.getElem?_cons_zero, List.getElem?_cons_succ] at kc0 kc1 kc2 kc3 kc4
  have HB1 := Lib.hid hB1
  clear hu1 h1 hkb hB1
  go_wp2_with fail
  refine (stageEncode_a _ k (g + 1) _ BK ((HK.out.below HB1.out).alloc _) bs 0 HE.out).mono ?_; rintro en w2 ⟨rfl, h2⟩
  have HB2 := Lib.hid (HB1.out.trans ((below_box h2).mono HB1.out.size))
  have hlt2 := box_lt h2
  clear h2
  go_wp2_with fail
  refine (cloneStrs_c _ l _ B (HV.out.below HB2.out)).mono ?_; rintro en w3 ⟨⟨u, rfl, hu⟩, h3⟩
  have hu' : OwnStrs w3 w2.heap.size u l := ⟨hu, HV.out.len, HV.out.each⟩
  have h3 := h3.mono HB2.out.size
  obtain ⟨g3, c3, cur3, rfl, hg3, hb3, hcc3⟩ := hu'.at_ h0n
  have HU := Lib.hid hu'
  have hz3 := hb3.frozen
  have hl3 := hb3.lt
  have hc3 : w3.cell? ⟨g3, 1, none⟩ = some (.string (l[1]'h1n)) := by rw [hcc3 1 h1n, List.getElem?_map, List.getElem?_eq_getElem h1n]; rfl
  have HB3 := Lib.hid (HB2.out.trans h3)
  have HG3 := Lib.hid hg3
  clear hu hu' hcc3 hb3 h3 hg3
  go_wp2
  go_ret2
  refine ⟨⟨_, rfl, ?_⟩, HB3.out.setCell (p := ⟨g3, 1, none⟩) (by have := HG3.out; have := HB2.out.size; show w.heap.size ≤ g3; omega) _⟩
  exact (HU.out.base_ HB2.out.size).put 1 _ (by have := HBS.out; simp only [R47]; first | (rw [ByteArray.size_extract]; omega) | omega)
theorem store_big0 (A0 : Option Addr) (n0 c0 : Nat) (A2 : Option Addr) (n2 c2 : Nat) (l : List Scu.Str) (k : Scu.Kept) (up : Int) (k' : Scu.Kept) (g : Int) (bs : Scu.Str) (w : World) (B BK : Nat) (hv : IsStrs w B (.slice A0 n0 c0) l) (hk : IsStrs w BK (.slice A2 n2 c2) k.log)
    (hl : Scu.load l = (k', g, 0, 0)) (hg0 : 0 ≤ g) (hg2 : g < 1073741824) (hln : l.length = 2) (hf : Scu.keptFault k = 0) (hE : Scu.stageEncode k (g + 1) = (bs, 0)) (hbs : bs.size ≤ 2488) (hu0 : 0 ≤ up) (hu1 : (bs.size : Int) ≤ up) :
    Calls Tryd.prog 36 #[.slice A0 n0 c0, .agg #[.int .i64 k.view, .int .i64 k.normal, .bool k.calm, .slice A2 n2 c2, .int .i64 k.commit], .int .i64 up] w fun e w' => StoreRet w' w.heap.size (l.set 1 (Scu.upTo bs up), 0) e ∧ Below w.heap.size w w' := by
  have hgb : (g == 1073741824) = false := by simp; omega
  have hgc : ¬ 1073741824 ≤ g := by omega
  rw [upTo_all (.inr hu1)]
  have hu2 : -1 ≤ up := by omega
  have HE := Lib.hid hE
  have HF := Lib.hid hf
  have HBS := Lib.hid hbs
  have h0l : (0 : Int) < (l.length : Int) := by omega
  have h1l : (1 : Int) < (l.length : Int) := by omega
  have h0n : 0 < l.length := by omega
  have h1n : 1 < l.length := by omega
  have hlm : ¬ maxLen < l.length := by unfold maxLen; omega
  have hnu : (up == 0) = (up == 0) := rfl
  clear hE hf hln hnu
  have HV := Lib.hid hv
  have HK := Lib.hid hk
  have HL := Lib.hid hl
  clear hv hk hl
  go_enter Tryd.func36, Tryd.ntmps36
  go_wp2_with fail
  refine (stageLoad_a _ l _ B (HV.out.alloc _) k' g 0 0 HL.out).mono ?_; rintro en w1 ⟨⟨lv1, rfl, hu1⟩, h1⟩
  obtain ⟨A1, n1, c1, rfl⟩ := hu1.form
  have hlt := box_lt h1
  have hB1 := below_box h1
  have hkb := (Blk.new w 64 #[.int .i64 k.view, .int .i64 k.normal, .bool k.calm, .slice A2 n2 c2, .int .i64 k.commit]).same h1
  have kc0 := hkb.cell 0
  have kc1 := hkb.cell 1
  have kc2 := hkb.cell 2
  have kc3 := hkb.cell 3
  have kc4 := hkb.cell 4
  simp only [List.getElem?_toArray, List.getElem?_cons_zero, List.getElem?_cons_succ] at kc0 kc1 kc2 kc3 kc4
  have HB1 := Lib.hid hB1
  clear hu1 h1 hkb hB1
  go_wp2_with fail
  refine (stageEncode_a _ k (g + 1) _ BK ((HK.out.below HB1.out).alloc _) bs 0 HE.out).mono ?_; rintro en w2 ⟨rfl, h2⟩
  have HB2 := Lib.hid (HB1.out.trans ((below_box h2).mono HB1.out.size))
  have hlt2 := box_lt h2
  clear h2
  go_wp2_with fail
  refine (cloneStrs_c _ l _ B (HV.out.below HB2.out)).mono ?_; rintro en w3 ⟨⟨u, rfl, hu⟩, h3⟩
  have hu' : OwnStrs w3 w2.heap.size u l := ⟨hu, HV.out.len, HV.out.each⟩
  have h3 := h3.mono HB2.out.size
  obtain ⟨g3, c3, cur3, rfl, hg3, hb3, hcc3⟩ := hu'.at_ h0n
  have HU := Lib.hid hu'
  have hz3 := hb3.frozen
  have hl3 := hb3.lt
  have hc3 : w3.cell? ⟨g3, 1, none⟩ = some (.string (l[1]'h1n)) := by rw [hcc3 1 h1n, List.getElem?_map, List.getElem?_eq_getElem h1n]; rfl
  have HB3 := Lib.hid (HB2.out.trans h3)
  have HG3 := Lib.hid hg3
  clear hu hu' hcc3 hb3 h3 hg3
  go_wp2
  go_ret2
  refine ⟨⟨_, rfl, ?_⟩, HB3.out.setCell (p := ⟨g3, 1, none⟩) (by have := HG3.out; have := HB2.out.size; show w.heap.size ≤ g3; omega) _⟩
  exact (HU.out.base_ HB2.out.size).put 1 _ (by have := HBS.out; simp only [R47]; first | (rw [ByteArray.size_extract]; omega) | omega)
theorem store_cut1 (A0 : Option Addr) (n0 c0 : Nat) (A2 : Option Addr) (n2 c2 : Nat) (l : List Scu.Str) (k : Scu.Kept) (up : Int) (k' : Scu.Kept) (g : Int) (bs : Scu.Str) (w : World) (B BK : Nat) (hv : IsStrs w B (.slice A0 n0 c0) l) (hk : IsStrs w BK (.slice A2 n2 c2) k.log)
    (hl : Scu.load l = (k', g, 1, 0)) (hg0 : 0 ≤ g) (hg2 : g < 1073741824) (hln : l.length = 2) (hf : Scu.keptFault k = 0) (hE : Scu.stageEncode k (g + 1) = (bs, 0)) (hbs : bs.size ≤ 2488) (hu0 : 0 ≤ up) (hu1 : up < (bs.size : Int)) :
    Calls Tryd.prog 36 #[.slice A0 n0 c0, .agg #[.int .i64 k.view, .int .i64 k.normal, .bool k.calm, .slice A2 n2 c2, .int .i64 k.commit], .int .i64 up] w fun e w' => StoreRet w' w.heap.size (l.set 0 (Scu.upTo bs up), 0) e ∧ Below w.heap.size w w' := by
  have hgb : (g == 1073741824) = false := by simp; omega
  have hgc : ¬ 1073741824 ≤ g := by omega
  rw [upTo_cut hu0 hu1]
  have hu2 : -1 ≤ up := by omega
  have HE := Lib.hid hE
  have HF := Lib.hid hf
  have HBS := Lib.hid hbs
  have h0l : (0 : Int) < (l.length : Int) := by omega
  have h1l : (1 : Int) < (l.length : Int) := by omega
  have h0n : 0 < l.length := by omega
  have h1n : 1 < l.length := by omega
  have hlm : ¬ maxLen < l.length := by unfold maxLen; omega
  have hnu : (up == 0) = (up == 0) := rfl
  clear hE hf hln hnu
  have HV := Lib.hid hv
  have HK := Lib.hid hk
  have HL := Lib.hid hl
  clear hv hk hl
  go_enter Tryd.func36, Tryd.ntmps36
  go_wp2_with fail
  refine (stageLoad_a _ l _ B (HV.out.alloc _) k' g 1 0 HL.out).mono ?_; rintro en w1 ⟨⟨lv1, rfl, hu1⟩, h1⟩
  obtain ⟨A1, n1, c1, rfl⟩ := hu1.form
  have hlt := box_lt h1
  have hB1 := below_box h1
  have hkb := (Blk.new w 64 #[.int .i64 k.view, .int .i64 k.normal, .bool k.calm, .slice A2 n2 c2, .int .i64 k.commit]).same h1
  have kc0 := hkb.cell 0
  have kc1 := hkb.cell 1
  have kc2 := hkb.cell 2
  have kc3 := hkb.cell 3
  have kc4 := hkb.cell 4
  simp only [List.getElem?_toArray, List.getElem?_cons_zero, List.getElem?_cons_succ] at kc0 kc1 kc2 kc3 kc4
  have HB1 := Lib.hid hB1
  clear hu1 h1 hkb hB1
  go_wp2_with fail
  refine (stageEncode_a _ k (g + 1) _ BK ((HK.out.below HB1.out).alloc _) bs 0 HE.out).mono ?_; rintro en w2 ⟨rfl, h2⟩
  have HB2 := Lib.hid (HB1.out.trans ((below_box h2).mono HB1.out.size))
  have hlt2 := box_lt h2
  clear h2
  go_wp2_with fail
  refine (cloneStrs_c _ l _ B (HV.out.below HB2.out)).mono ?_; rintro en w3 ⟨⟨u, rfl, hu⟩, h3⟩
  have hu' : OwnStrs w3 w2.heap.size u l := ⟨hu, HV.out.len, HV.out.each⟩
  have h3 := h3.mono HB2.out.size
  obtain ⟨g3, c3, cur3, rfl, hg3, hb3, hcc3⟩ := hu'.at_ h0n
  have HU := Lib.hid hu'
  have hz3 := hb3.frozen
  have hl3 := hb3.lt
  have hc3 : w3.cell? ⟨g3, 0, none⟩ = some (.string (l[0]'h0n)) := by rw [hcc3 0 h0n, List.getElem?_map, List.getElem?_eq_getElem h0n]; rfl
  have HB3 := Lib.hid (HB2.out.trans h3)
  have HG3 := Lib.hid hg3
  clear hu hu' hcc3 hb3 h3 hg3
  go_wp2
  go_ret2
  refine ⟨⟨_, rfl, ?_⟩, HB3.out.setCell (p := ⟨g3, 0, none⟩) (by have := HG3.out; have := HB2.out.size; show w.heap.size ≤ g3; omega) _⟩
  exact (HU.out.base_ HB2.out.size).put 0 _ (by have := HBS.out; simp only [R47]; first | (rw [ByteArray.size_extract]; omega) | omega)
theorem store_neg1 (A0 : Option Addr) (n0 c0 : Nat) (A2 : Option Addr) (n2 c2 : Nat) (l : List Scu.Str) (k : Scu.Kept) (up : Int) (k' : Scu.Kept) (g : Int) (bs : Scu.Str) (w : World) (B BK : Nat) (hv : IsStrs w B (.slice A0 n0 c0) l) (hk : IsStrs w BK (.slice A2 n2 c2) k.log)
    (hl : Scu.load l = (k', g, 1, 0)) (hg0 : 0 ≤ g) (hg2 : g < 1073741824) (hln : l.length = 2) (hf : Scu.keptFault k = 0) (hE : Scu.stageEncode k (g + 1) = (bs, 0)) (hbs : bs.size ≤ 2488) (hu0 : -1 ≤ up) (hu1 : up < 0) :
    Calls Tryd.prog 36 #[.slice A0 n0 c0, .agg #[.int .i64 k.view, .int .i64 k.normal, .bool k.calm, .slice A2 n2 c2, .int .i64 k.commit], .int .i64 up] w fun e w' => StoreRet w' w.heap.size (l.set 0 (Scu.upTo bs up), 0) e ∧ Below w.heap.size w w' := by
  have hgb : (g == 1073741824) = false := by simp; omega
  have hgc : ¬ 1073741824 ≤ g := by omega
  rw [upTo_all (.inl hu1)]
  have hu2 : ¬ 0 ≤ up := by omega
  have HE := Lib.hid hE
  have HF := Lib.hid hf
  have HBS := Lib.hid hbs
  have h0l : (0 : Int) < (l.length : Int) := by omega
  have h1l : (1 : Int) < (l.length : Int) := by omega
  have h0n : 0 < l.length := by omega
  have h1n : 1 < l.length := by omega
  have hlm : ¬ maxLen < l.length := by unfold maxLen; omega
  have hnu : (up == 0) = (up == 0) := rfl
  clear hE hf hln hnu
  have HV := Lib.hid hv
  have HK := Lib.hid hk
  have HL := Lib.hid hl
  clear hv hk hl
  go_enter Tryd.func36, Tryd.ntmps36
  go_wp2_with fail
  refine (stageLoad_a _ l _ B (HV.out.alloc _) k' g 1 0 HL.out).mono ?_; rintro en w1 ⟨⟨lv1, rfl, hu1⟩, h1⟩
  obtain ⟨A1, n1, c1, rfl⟩ := hu1.form
  have hlt := box_lt h1
  have hB1 := below_box h1
  have hkb := (Blk.new w 64 #[.int .i64 k.view, .int .i64 k.normal, .bool k.calm, .slice A2 n2 c2, .int .i64 k.commit]).same h1
  have kc0 := hkb.cell 0
  have kc1 := hkb.cell 1
  have kc2 := hkb.cell 2
  have kc3 := hkb.cell 3
  have kc4 := hkb.cell 4
  simp only [List.getElem?_toArray, List.getElem?_cons_zero, List.getElem?_cons_succ] at kc0 kc1 kc2 kc3 kc4
  have HB1 := Lib.hid hB1
  clear hu1 h1 hkb hB1
  go_wp2_with fail
  refine (stageEncode_a _ k (g + 1) _ BK ((HK.out.below HB1.out).alloc _) bs 0 HE.out).mono ?_; rintro en w2 ⟨rfl, h2⟩
  have HB2 := Lib.hid (HB1.out.trans ((below_box h2).mono HB1.out.size))
  have hlt2 := box_lt h2
  clear h2
  go_wp2_with fail
  refine (cloneStrs_c _ l _ B (HV.out.below HB2.out)).mono ?_; rintro en w3 ⟨⟨u, rfl, hu⟩, h3⟩
  have hu' : OwnStrs w3 w2.heap.size u l := ⟨hu, HV.out.len, HV.out.each⟩
  have h3 := h3.mono HB2.out.size
  obtain ⟨g3, c3, cur3, rfl, hg3, hb3, hcc3⟩ := hu'.at_ h0n
  have HU := Lib.hid hu'
  have hz3 := hb3.frozen
  have hl3 := hb3.lt
  have hc3 : w3.cell? ⟨g3, 0, none⟩ = some (.string (l[0]'h0n)) := by rw [hcc3 0 h0n, List.getElem?_map, List.getElem?_eq_getElem h0n]; rfl
  have HB3 := Lib.hid (HB2.out.trans h3)
  have HG3 := Lib.hid hg3
  clear hu hu' hcc3 hb3 h3 hg3
  go_wp2
  go_ret2
  refine ⟨⟨_, rfl, ?_⟩, HB3.out.setCell (p := ⟨g3, 0, none⟩) (by have := HG3.out; have := HB2.out.size; show w.heap.size ≤ g3; omega) _⟩
  exact (HU.out.base_ HB2.out.size).put 0 _ (by have := HBS.out; simp only [R47]; first | (rw [ByteArray.size_extract]; omega) | omega)
theorem store_big1 (A0 : Option Addr) (n0 c0 : Nat) (A2 : Option Addr) (n2 c2 : Nat) (l : List Scu.Str) (k : Scu.Kept) (up : Int) (k' : Scu.Kept) (g : Int) (bs : Scu.Str) (w : World) (B BK : Nat) (hv : IsStrs w B (.slice A0 n0 c0) l) (hk : IsStrs w BK (.slice A2 n2 c2) k.log)
    (hl : Scu.load l = (k', g, 1, 0)) (hg0 : 0 ≤ g) (hg2 : g < 1073741824) (hln : l.length = 2) (hf : Scu.keptFault k = 0) (hE : Scu.stageEncode k (g + 1) = (bs, 0)) (hbs : bs.size ≤ 2488) (hu0 : 0 ≤ up) (hu1 : (bs.size : Int) ≤ up) :
    Calls Tryd.prog 36 #[.slice A0 n0 c0, .agg #[.int .i64 k.view, .int .i64 k.normal, .bool k.calm, .slice A2 n2 c2, .int .i64 k.commit], .int .i64 up] w fun e w' => StoreRet w' w.heap.size (l.set 0 (Scu.upTo bs up), 0) e ∧ Below w.heap.size w w' := by
  have hgb : (g == 1073741824) = false := by simp; omega
  have hgc : ¬ 1073741824 ≤ g := by omega
  rw [upTo_all (.inr hu1)]
  have hu2 : -1 ≤ up := by omega
  have HE := Lib.hid hE
  have HF := Lib.hid hf
  have HBS := Lib.hid hbs
  have h0l : (0 : Int) < (l.length : Int) := by omega
  have h1l : (1 : Int) < (l.length : Int) := by omega
  have h0n : 0 < l.length := by omega
  have h1n : 1 < l.length := by omega
  have hlm : ¬ maxLen < l.length := by unfold maxLen; omega
  have hnu : (up == 0) = (up == 0) := rfl
  clear hE hf hln hnu
  have HV := Lib.hid hv
  have HK := Lib.hid hk
  have HL := Lib.hid hl
  clear hv hk hl
  go_enter Tryd.func36, Tryd.ntmps36
  go_wp2_with fail
  refine (stageLoad_a _ l _ B (HV.out.alloc _) k' g 1 0 HL.out).mono ?_; rintro en w1 ⟨⟨lv1, rfl, hu1⟩, h1⟩
  obtain ⟨A1, n1, c1, rfl⟩ := hu1.form
  have hlt := box_lt h1
  have hB1 := below_box h1
  have hkb := (Blk.new w 64 #[.int .i64 k.view, .int .i64 k.normal, .bool k.calm, .slice A2 n2 c2, .int .i64 k.commit]).same h1
  have kc0 := hkb.cell 0
  have kc1 := hkb.cell 1
  have kc2 := hkb.cell 2
  have kc3 := hkb.cell 3
  have kc4 := hkb.cell 4
  simp only [List.getElem?_toArray, List.getElem?_cons_zero, List.getElem?_cons_succ] at kc0 kc1 kc2 kc3 kc4
  have HB1 := Lib.hid hB1
  clear hu1 h1 hkb hB1
  go_wp2_with fail
  refine (stageEncode_a _ k (g + 1) _ BK ((HK.out.below HB1.out).alloc _) bs 0 HE.out).mono ?_; rintro en w2 ⟨rfl, h2⟩
  have HB2 := Lib.hid (HB1.out.trans ((below_box h2).mono HB1.out.size))
  have hlt2 := box_lt h2
  clear h2
  go_wp2_with fail
  refine (cloneStrs_c _ l _ B (HV.out.below HB2.out)).mono ?_; rintro en w3 ⟨⟨u, rfl, hu⟩, h3⟩
  have hu' : OwnStrs w3 w2.heap.size u l := ⟨hu, HV.out.len, HV.out.each⟩
  have h3 := h3.mono HB2.out.size
  obtain ⟨g3, c3, cur3, rfl, hg3, hb3, hcc3⟩ := hu'.at_ h0n
  have HU := Lib.hid hu'
  have hz3 := hb3.frozen
  have hl3 := hb3.lt
  have hc3 : w3.cell? ⟨g3, 0, none⟩ = some (.string (l[0]'h0n)) := by rw [hcc3 0 h0n, List.getElem?_map, List.getElem?_eq_getElem h0n]; rfl
  have HB3 := Lib.hid (HB2.out.trans h3)
  have HG3 := Lib.hid hg3
  clear hu hu' hcc3 hb3 h3 hg3
  go_wp2
  go_ret2
  refine ⟨⟨_, rfl, ?_⟩, HB3.out.setCell (p := ⟨g3, 0, none⟩) (by have := HG3.out; have := HB2.out.size; show w.heap.size ≤ g3; omega) _⟩
  exact (HU.out.base_ HB2.out.size).put 0 _ (by have := HBS.out; simp only [R47]; first | (rw [ByteArray.size_extract]; omega) | omega)
theorem stageStore_c (v lv : Value) (l : List Scu.Str) (k : Scu.Kept) (up : Int) (w : World) (B BK : Nat) (hv : IsStrs w B v l) (hk : IsStrs w BK lv k.log) :
    Calls Tryd.prog 36 #[v, .agg #[.int .i64 k.view, .int .i64 k.normal, .bool k.calm, lv, .int .i64 k.commit], .int .i64 up] w fun e w' => StoreRet w' w.heap.size (Scu.store l k up) e ∧ Below w.heap.size w w' := by
  obtain ⟨A0, n0, c0, rfl⟩ := hv.form
  obtain ⟨A2, n2, c2, rfl⟩ := hk.form
  obtain ⟨q, hl⟩ : ∃ q, Scu.load l = q := ⟨_, rfl⟩
  obtain ⟨k', g, a, e⟩ := q
  by_cases he : e = 0
  · subst he
    obtain ⟨hln, ha, hg0, hg1⟩ := Scu.load_at hl
    by_cases hg : g = 1073741824
    · rw [st2 hl hg]
      subst hg
      exact store_2 A0 n0 c0 A2 n2 c2 l k up k' a w B BK hv hk hl
    have hg2 : g < 1073741824 := by omega
    by_cases hf : Scu.keptFault k ≠ 0
    · rw [st3 hl hg hf]
      exact store_3 A0 n0 c0 A2 n2 c2 l k up k' g a w B BK hv hk hl hg0 hg2 hf
    by_cases hu : up < -1
    · rw [st4 hl hg hf hu]
      exact store_4 A0 n0 c0 A2 n2 c2 l k up k' g a w B BK hv hk hl hg0 hg2 hf hu
    rw [st5 hl hg hf hu]
    have hE := enc_ok (k := k) (gen := g + 1) hf (by omega)
    have hf0 : Scu.keptFault k = 0 := Decidable.not_not.1 hf
    have hbs := keptBytes_size hf0 (g + 1)
    generalize Scu.keptBytes k (g + 1) = bs at hE hbs
    rcases ha with rfl | rfl
    · show Calls _ _ _ _ fun e w' => StoreRet w' w.heap.size (l.set 1 (Scu.upTo bs up), 0) e ∧ Below w.heap.size w w'
      by_cases h0 : 0 ≤ up
      · by_cases h1 : up < (bs.size : Int)
        · exact store_cut0 A0 n0 c0 A2 n2 c2 l k up k' g bs w B BK hv hk hl hg0 hg2 hln hf0 hE hbs h0 h1
        · exact store_big0 A0 n0 c0 A2 n2 c2 l k up k' g bs w B BK hv hk hl hg0 hg2 hln hf0 hE hbs h0 (by omega)
      · exact store_neg0 A0 n0 c0 A2 n2 c2 l k up k' g bs w B BK hv hk hl hg0 hg2 hln hf0 hE hbs (by omega) (by omega)
    · show Calls _ _ _ _ fun e w' => StoreRet w' w.heap.size (l.set 0 (Scu.upTo bs up), 0) e ∧ Below w.heap.size w w'
      by_cases h0 : 0 ≤ up
      · by_cases h1 : up < (bs.size : Int)
        · exact store_cut1 A0 n0 c0 A2 n2 c2 l k up k' g bs w B BK hv hk hl hg0 hg2 hln hf0 hE hbs h0 h1
        · exact store_big1 A0 n0 c0 A2 n2 c2 l k up k' g bs w B BK hv hk hl hg0 hg2 hln hf0 hE hbs h0 (by omega)
      · exact store_neg1 A0 n0 c0 A2 n2 c2 l k up k' g bs w B BK hv hk hl hg0 hg2 hln hf0 hE hbs (by omega) (by omega)
  · rw [st1 hl he]
    exact store_1 A0 n0 c0 A2 n2 c2 l k up k' g a e w B BK hv hk hl he
end Go.Proofs.YtfpiembhlgcelaaDoor
/- The law SlotsTorn, walked. -/
namespace Go.Proofs.YtfpiembhlgcelaaDoor
set_option linter.unusedVariables false
set_option linter.unusedSimpArgs false
open Go.RowKit
set_option maxHeartbeats 4000000
set_option maxRecDepth 100000

theorem store_q (A0 : Option Addr) (n0 c0 : Nat) (A : Option Addr) (n c : Nat) (l : List Scu.Str) (k : Scu.Kept) (up : Int) (w : World) (B BK : Nat) (hv : IsStrs w B (.slice A0 n0 c0) l) (hk : IsStrs w BK (.slice A n c) k.log) (l' : List Scu.Str) (h : Scu.store l k up = (l', 0)) :
    Calls Tryd.prog 36 #[.slice A0 n0 c0, .agg #[.int .i64 k.view, .int .i64 k.normal, .bool k.calm, .slice A n c, .int .i64 k.commit], .int .i64 up] w fun e w' =>
      (∃ A' n' c', e = .returned (.tuple #[.slice A' n' c', .int .i64 0]) ∧ IsStrs w' 0 (.slice A' n' c') l') ∧ Below w.heap.size w w' := by
  have := stageStore_c (.slice A0 n0 c0) (.slice A n c) l k up w B BK hv hk
  rw [h] at this
  refine this.mono ?_
  rintro e w' ⟨⟨u, rfl, hu⟩, hb⟩
  obtain ⟨A', n', c', rfl⟩ := hu.form
  exact ⟨⟨_, _, _, rfl, hu.is⟩, hb⟩
theorem load_q (A0 : Option Addr) (n0 c0 : Nat) (l : List Scu.Str) (w : World) (B : Nat) (hv : IsStrs w B (.slice A0 n0 c0) l) (k : Scu.Kept) (g a : Int) (h : Scu.load l = (k, g, a, 0)) :
    Calls Tryd.prog 38 #[.slice A0 n0 c0] w fun e w' =>
      (∃ A c, e = .returned (.tuple #[.agg #[.int .i64 k.view, .int .i64 k.normal, .bool k.calm, .slice A k.log.length c, .int .i64 k.commit], .int .i64 g, .int .i64 a, .int .i64 0]) ∧ IsStrs w' 0 (.slice A k.log.length c) k.log) ∧ Below w.heap.size w w' := by
  have := stageLoad_c (.slice A0 n0 c0) l w B hv
  rw [h] at this
  refine this.mono ?_
  rintro e w' ⟨⟨u, rfl, hu⟩, hb⟩
  obtain ⟨A', c', rfl, _⟩ := hu.is.ex
  exact ⟨⟨_, _, rfl, hu.is⟩, hb⟩
theorem lawSlotsTorn_c (v : Value) (l : List Scu.Raw) (u : Value) (m : List Scu.Raw) (n up : Int) (hn : InI n) (hup : InI up) (w : World) (hl : IsRaws w w.heap.size v l) (hm : IsRaws w w.heap.size u m) (ht : Tab w) :
    Calls Tryd.prog 7 #[v, u, .int .i64 n, .int .i64 up] w fun e w' => e = .returned (.bool true) ∧ Below w.heap.size w w' := by
  obtain ⟨Al, cl, rfl, hll⟩ := hl.form'
  obtain ⟨Am, cm, rfl, hmm⟩ := hm.form'
  obtain ⟨ka, hka⟩ : ∃ k, Scu.keptRaw l n = k := ⟨_, rfl⟩
  obtain ⟨n1, hn1⟩ : ∃ x, IntKind.i64.wrap (n + 1) = x := ⟨_, rfl⟩
  have hn1' : InI n1 := by rw [← hn1]; rw [IntKind.wrap_i64]; unfold InI; omega
  obtain ⟨kb, hkb⟩ : ∃ k, Scu.keptRaw m n1 = k := ⟨_, rfl⟩
  have HKA := Lib.hid (show Scu.keptFault ka = 0 by rw [← hka]; exact Scu.keptRaw_ok _ _)
  have HKB := Lib.hid (show Scu.keptFault kb = 0 by rw [← hkb]; exact Scu.keptRaw_ok _ _)
  have HT := Lib.hid ht
  have HL := Lib.hid hl
  have HM := Lib.hid hm
  have HN := Lib.hid hn
  have HN1 := Lib.hid hn1'
  have HUP := Lib.hid hup
  have HA := Lib.hid hka
  have HB := Lib.hid hkb
  clear ht hl hm hn hn1' hup hka hkb
  go_enter Tryd.func7, Tryd.ntmps7
  go_wp2_with fail
  refine (kept_c _ l n HN.out w w.heap.size (Nat.le_refl _) HL.out HT.out ka HA.out).mono ?_; rintro e w1 ⟨⟨Aa, ca, rfl, ha⟩, b1⟩
  have HAI := Lib.hid ha
  have B1 := Lib.hid b1
  clear ha b1
  go_upto_region 2 with fail
  obtain ⟨W1, hW1⟩ : ∃ W, W = w1.alloc (Obj.cells #[.int .i64 ka.view, .int .i64 ka.normal, .bool ka.calm, .slice Aa ka.log.length ca, .int .i64 ka.commit] 64) := ⟨_, rfl⟩
  rw [← hW1]
  have HBA := Lib.hid (show Blk W1 w1.heap.size 64 #[.int .i64 ka.view, .int .i64 ka.normal, .bool ka.calm, .slice Aa ka.log.length ca, .int .i64 ka.commit] from by rw [hW1]; exact Blk.new _ _ _)
  have HW1 := Lib.hid (show Below w.heap.size w W1 from by rw [hW1]; exact B1.out.alloc B1.out.size _)
  have HAI1 := Lib.hid (show IsStrs W1 0 (.slice Aa ka.log.length ca) ka.log from by rw [hW1]; exact HAI.out.alloc _)
  clear hW1
  go_wp2_with fail
  refine (kept_c _ m n1 HN1.out W1 w.heap.size HW1.out.size (HM.out.below HW1.out) (HT.out.below HW1.out) kb HB.out).mono ?_; rintro e w2 ⟨⟨Ab, cb, rfl, hb⟩, b2⟩
  have HBI := Lib.hid hb
  have B2 := Lib.hid b2
  clear hb b2
  go_upto_region 3 with fail
  obtain ⟨W2, hW2⟩ : ∃ W, W = w2.alloc (Obj.cells #[.int .i64 kb.view, .int .i64 kb.normal, .bool kb.calm, .slice Ab kb.log.length cb, .int .i64 kb.commit] 64) := ⟨_, rfl⟩
  rw [← hW2]
  have HBB := Lib.hid (show Blk W2 w2.heap.size 64 #[.int .i64 kb.view, .int .i64 kb.normal, .bool kb.calm, .slice Ab kb.log.length cb, .int .i64 kb.commit] from by rw [hW2]; exact Blk.new _ _ _)
  have hd2 : Below W1.heap.size W1 W2 := by rw [hW2]; exact B2.out.alloc B2.out.size _
  have HW2 := Lib.hid (HW1.out.trans (hd2.mono HW1.out.size))
  have HBA2 := Lib.hid (HBA.out.same hd2)
  have HAI2 := Lib.hid (HAI1.out.below hd2)
  have HBI2 := Lib.hid (show IsStrs W2 0 (.slice Ab kb.log.length cb) kb.log from by rw [hW2]; exact HBI.out.alloc _)
  clear hW2 hd2 hn1
  have hk0 : ∃ k, Scu.picked up ((Scu.keptBytes kb 2).size + 1) = k := ⟨_, rfl⟩
  obtain ⟨k, hk⟩ := hk0
  have hk01 := Scu.picked_lt (n := up) (many := ((Scu.keptBytes kb 2).size : Int) + 1) (by omega)
  rw [hk] at hk01
  obtain ⟨x, y, z, hx, hy, hz, hlz, hly⟩ := Scu.torn_plain HKA.out HKB.out k hk01.1
  have henc : Scu.stageEncode kb 2 = (Scu.keptBytes kb 2, 0) := by
    unfold Scu.stageEncode
    rw [if_neg (by simp [HKB.out]), if_neg (by omega)]
  obtain ⟨s, hs⟩ : ∃ s, Scu.keptBytes kb 2 = s := ⟨_, rfl⟩
  have hsz := Scu.keptBytes_size HKB.out 2
  rw [hs] at henc hly hk01 hk hsz
  have HX := Lib.hid hx
  have HY := Lib.hid hy
  have HZ := Lib.hid hz
  have HLZ := Lib.hid hlz
  have HLY := Lib.hid hly
  have HENC := Lib.hid henc
  have HK := Lib.hid hk
  have HK01 := Lib.hid hk01
  clear hx hy hz hlz hly henc hk hk01 hs
  have c0 : W2.cell? ⟨w1.heap.size, 0, none⟩ = some (.int .i64 ka.view) := HBA2.out.cell 0
  have c1 : W2.cell? ⟨w1.heap.size, 1, none⟩ = some (.int .i64 ka.normal) := HBA2.out.cell 1
  have c2 : W2.cell? ⟨w1.heap.size, 2, none⟩ = some (.bool ka.calm) := HBA2.out.cell 2
  have c3 : W2.cell? ⟨w1.heap.size, 3, none⟩ = some (.slice Aa ka.log.length ca) := HBA2.out.cell 3
  have c4 : W2.cell? ⟨w1.heap.size, 4, none⟩ = some (.int .i64 ka.commit) := HBA2.out.cell 4
  go_region_held3 (fun w' => w'.cell? ⟨w1.heap.size, 0, none⟩ = some (.int .i64 ka.view) ∧ w'.cell? ⟨w1.heap.size, 1, none⟩ = some (.int .i64 ka.normal) ∧ w'.cell? ⟨w1.heap.size, 2, none⟩ = some (.bool ka.calm) ∧ w'.cell? ⟨w1.heap.size, 3, none⟩ = some (.slice Aa ka.log.length ca) ∧ w'.cell? ⟨w1.heap.size, 4, none⟩ = some (.int .i64 ka.commit))
    (first | (go_split_ands; (try dsimp only); (repeat' apply And.intro) <;> (with_reducible assumption)) | (go_split_ands; (try dsimp only); exact ⟨c0, c1, c2, c3, c4⟩) | go_keep)
    (first
    | (go_at_call 37; refine (stageNew_c _).mono ?_; rintro en x1 ⟨⟨u1, rfl, hu1⟩, k1⟩
       obtain ⟨An, nn, cn, rfl⟩ := hu1.form
       refine useK (P := Below W2.heap.size W2 x1) ?_ ?_
       exact (below_drewN (Below.refl _ _) 1).trans k1
       intro nn1
       have M1 := Lib.hid nn1
       have MU := Lib.hid hu1.is
       have l1 := HBA2.out.lt
       have d0 := (nn1.cell (p := ⟨w1.heap.size, 0, none⟩) l1).trans c0
       have d1 := (nn1.cell (p := ⟨w1.heap.size, 1, none⟩) l1).trans c1
       have d2 := (nn1.cell (p := ⟨w1.heap.size, 2, none⟩) l1).trans c2
       have d3 := (nn1.cell (p := ⟨w1.heap.size, 3, none⟩) l1).trans c3
       have d4 := (nn1.cell (p := ⟨w1.heap.size, 4, none⟩) l1).trans c4
       clear nn1 k1 hu1)
    | (go_at_call 36; refine (store_q An nn cn Aa ka.log.length ca _ ka (-1) _ 0 0 MU.out (HAI2.out.below M1.out) x HX.out).mono ?_; rintro en x2 ⟨⟨Ax, nx, cx, rfl, hxx⟩, k2⟩
       have l2 := Nat.lt_of_lt_of_le HBA2.out.lt M1.out.size
       have e0 := (k2.cell (p := ⟨w1.heap.size, 0, none⟩) l2).trans d0
       have e1 := (k2.cell (p := ⟨w1.heap.size, 1, none⟩) l2).trans d1
       have e2 := (k2.cell (p := ⟨w1.heap.size, 2, none⟩) l2).trans d2
       have e3 := (k2.cell (p := ⟨w1.heap.size, 3, none⟩) l2).trans d3
       have e4 := (k2.cell (p := ⟨w1.heap.size, 4, none⟩) l2).trans d4
       have M2 := Lib.hid (M1.out.trans (k2.mono M1.out.size))
       have HXX := Lib.hid hxx
       clear k2 hxx)
    | fail)
  rename_i hHeld
  clear hHeld c0 c1 c2 c3 c4 d0 d1 d2 d3 d4 e0 e1 e2 e3 e4
  have HA3 := Lib.hid (HBA2.out.same M2.out)
  have HB3 := Lib.hid (HBB.out.same M2.out)
  have HAL := Lib.hid (HAI2.out.below M2.out)
  have HBL := Lib.hid (HBI2.out.below M2.out)
  have HW3 := Lib.hid (HW2.out.trans (M2.out.mono HW2.out.size))
  clear HBA2 HBB HAI2 HBI2 HW2 HBA HAI1 HBI
  have c0 : x2.cell? ⟨w2.heap.size, 0, none⟩ = some (.int .i64 kb.view) := HB3.out.cell 0
  have c1 : x2.cell? ⟨w2.heap.size, 1, none⟩ = some (.int .i64 kb.normal) := HB3.out.cell 1
  have c2 : x2.cell? ⟨w2.heap.size, 2, none⟩ = some (.bool kb.calm) := HB3.out.cell 2
  have c3 : x2.cell? ⟨w2.heap.size, 3, none⟩ = some (.slice Ab kb.log.length cb) := HB3.out.cell 3
  have c4 : x2.cell? ⟨w2.heap.size, 4, none⟩ = some (.int .i64 kb.commit) := HB3.out.cell 4
  go_wp2_with fail
  refine (stageEncode_a (.slice Ab kb.log.length cb) kb 2 _ 0 HBL.out s 0 HENC.out).mono ?_; rintro e w4 ⟨rfl, b4⟩
  have hwr : IntKind.i64.wrap ((s.size : Int) + 1) = s.size + 1 := IntWalk.i64_in _ (by omega)
  obtain ⟨hc, hz⟩ := bcell b4
  have hlt := HB3.out.lt
  have B4 := Lib.hid b4
  clear b4
  go_wp2_with fail
  refine (picked_c up _ HUP.out (by omega) (by omega) _).mono ?_; rintro e w' ⟨rfl, rfl⟩
  rw [HK.out]
  have HB4 := Lib.hid (HB3.out.same B4.out)
  go_wp2_with fail
  refine (store_q Ax nx cx Ab kb.log.length cb _ kb k _ 0 0 (HXX.out.below B4.out) (HBL.out.below B4.out) y HY.out).mono ?_; rintro e w5 ⟨⟨Ay, ny, cy, rfl, hyy⟩, b5⟩
  have HYY := Lib.hid hyy
  have B5 := Lib.hid (B4.out.trans (b5.mono B4.out.size))
  clear b5 hyy hc hz c0 c1 c2 c3 c4
  have HB5 := Lib.hid (HB3.out.same B5.out)
  have c0 : w5.cell? ⟨w2.heap.size, 0, none⟩ = some (.int .i64 kb.view) := HB5.out.cell 0
  have c1 : w5.cell? ⟨w2.heap.size, 1, none⟩ = some (.int .i64 kb.normal) := HB5.out.cell 1
  have c2 : w5.cell? ⟨w2.heap.size, 2, none⟩ = some (.bool kb.calm) := HB5.out.cell 2
  have c3 : w5.cell? ⟨w2.heap.size, 3, none⟩ = some (.slice Ab kb.log.length cb) := HB5.out.cell 3
  have c4 : w5.cell? ⟨w2.heap.size, 4, none⟩ = some (.int .i64 kb.commit) := HB5.out.cell 4
  go_wp2_with fail
  refine (store_q Ax nx cx Ab kb.log.length cb _ kb (-1) _ 0 0 (HXX.out.below B5.out) (HBL.out.below B5.out) z HZ.out).mono ?_; rintro e w6 ⟨⟨Az, nz, cz, rfl, hzz⟩, b6⟩
  have HZZ := Lib.hid hzz
  have HYY6 := Lib.hid (HYY.out.below b6)
  have B6 := Lib.hid (B5.out.trans (b6.mono B5.out.size))
  clear b6 hzz c0 c1 c2 c3 c4
  obtain ⟨kc, gc, sc, hkc⟩ : ∃ kc gc sc, Scu.load y = (kc, gc, sc, 0) := by
    have := HLY.out
    split at this
    · exact ⟨_, _, _, this⟩
    · exact ⟨_, _, _, this⟩
  have HKC := Lib.hid hkc
  clear hkc
  go_wp2_with fail
  refine (load_q Ay ny cy y _ 0 HYY6.out kc gc sc HKC.out).mono ?_; rintro e w7 ⟨⟨Ac, cc, rfl, hcl⟩, b7⟩
  have B7 := Lib.hid (B6.out.trans (b7.mono B6.out.size))
  have HZZ7 := Lib.hid (HZZ.out.below b7)
  have HCL := Lib.hid hcl
  clear hcl b7
  go_upto_region 9 with fail
  obtain ⟨W8, hW8⟩ : ∃ W, W = w7.alloc (Obj.cells #[.int .i64 kc.view, .int .i64 kc.normal, .bool kc.calm, .slice Ac kc.log.length cc, .int .i64 kc.commit] 64) := ⟨_, rfl⟩
  rw [← hW8]
  have hd8 : Below w7.heap.size w7 W8 := by rw [hW8]; exact below_alloc _ _
  have HC8 := Lib.hid (show Blk W8 w7.heap.size 64 #[.int .i64 kc.view, .int .i64 kc.normal, .bool kc.calm, .slice Ac kc.log.length cc, .int .i64 kc.commit] from by rw [hW8]; exact Blk.new _ _ _)
  have HZZ8 := Lib.hid (HZZ7.out.below hd8)
  have HCL8 := Lib.hid (HCL.out.below hd8)
  have B8 := Lib.hid (B7.out.trans (hd8.mono B7.out.size))
  clear hW8 hd8
  go_wp2_with fail
  refine (load_q Az nz cz z _ 0 HZZ8.out kb 2 0 HLZ.out).mono ?_; rintro e w9 ⟨⟨Ad, cd, rfl, hdl⟩, b9⟩
  have B9 := Lib.hid (B8.out.trans (b9.mono B8.out.size))
  have HC9 := Lib.hid (HC8.out.same b9)
  have HCL9 := Lib.hid (HCL8.out.below b9)
  have HDL := Lib.hid hdl
  clear hdl b9
  go_upto_region 10 with fail
  obtain ⟨W10, hW10⟩ : ∃ W, W = w9.alloc (Obj.cells #[.int .i64 kb.view, .int .i64 kb.normal, .bool kb.calm, .slice Ad kb.log.length cd, .int .i64 kb.commit] 64) := ⟨_, rfl⟩
  rw [← hW10]
  have hd10 : Below w9.heap.size w9 W10 := by rw [hW10]; exact below_alloc _ _
  have HD10 := Lib.hid (show Blk W10 w9.heap.size 64 #[.int .i64 kb.view, .int .i64 kb.normal, .bool kb.calm, .slice Ad kb.log.length cd, .int .i64 kb.commit] from by rw [hW10]; exact Blk.new _ _ _)
  have HC10 := Lib.hid (HC9.out.same hd10)
  have HCL10 := Lib.hid (HCL9.out.below hd10)
  have HDL10 := Lib.hid (HDL.out.below hd10)
  have B10 := Lib.hid (B9.out.trans (hd10.mono B9.out.size))
  clear hW10 hd10
  have HB10 := Lib.hid (HB3.out.same B10.out)
  have HBL10 := Lib.hid (HBL.out.below B10.out)
  have c0 : W10.cell? ⟨w2.heap.size, 0, none⟩ = some (.int .i64 kb.view) := HB10.out.cell 0
  have c1 : W10.cell? ⟨w2.heap.size, 1, none⟩ = some (.int .i64 kb.normal) := HB10.out.cell 1
  have c2 : W10.cell? ⟨w2.heap.size, 2, none⟩ = some (.bool kb.calm) := HB10.out.cell 2
  have c3 : W10.cell? ⟨w2.heap.size, 3, none⟩ = some (.slice Ab kb.log.length cb) := HB10.out.cell 3
  have c4 : W10.cell? ⟨w2.heap.size, 4, none⟩ = some (.int .i64 kb.commit) := HB10.out.cell 4
  have d0 : W10.cell? ⟨w9.heap.size, 0, none⟩ = some (.int .i64 kb.view) := HD10.out.cell 0
  have d1 : W10.cell? ⟨w9.heap.size, 1, none⟩ = some (.int .i64 kb.normal) := HD10.out.cell 1
  have d2 : W10.cell? ⟨w9.heap.size, 2, none⟩ = some (.bool kb.calm) := HD10.out.cell 2
  have d3 : W10.cell? ⟨w9.heap.size, 3, none⟩ = some (.slice Ad kb.log.length cd) := HD10.out.cell 3
  have d4 : W10.cell? ⟨w9.heap.size, 4, none⟩ = some (.int .i64 kb.commit) := HD10.out.cell 4
  go_wp2_with fail
  refine (same_t Ad Ab cd cb kb W10 0 0 HDL10.out HBL10.out).mono ?_; rintro e w11 ⟨rfl, b11⟩
  have B11 := Lib.hid (B10.out.trans (b11.mono B10.out.size))
  have HC11 := Lib.hid (HC10.out.same b11)
  have HCL11 := Lib.hid (HCL10.out.below b11)
  clear c0 c1 c2 c3 c4 d0 d1 d2 d3 d4 b11
  have HA11 := Lib.hid (HA3.out.same B11.out)
  have HAL11 := Lib.hid (HAL.out.below B11.out)
  have HB11 := Lib.hid (HB3.out.same B11.out)
  have HBL11 := Lib.hid (HBL.out.below B11.out)
  have HW11 := Lib.hid (HW3.out.trans (B11.out.mono HW3.out.size))
  have c0 : w11.cell? ⟨w2.heap.size, 0, none⟩ = some (.int .i64 kb.view) := HB11.out.cell 0
  have c1 : w11.cell? ⟨w2.heap.size, 1, none⟩ = some (.int .i64 kb.normal) := HB11.out.cell 1
  have c2 : w11.cell? ⟨w2.heap.size, 2, none⟩ = some (.bool kb.calm) := HB11.out.cell 2
  have c3 : w11.cell? ⟨w2.heap.size, 3, none⟩ = some (.slice Ab kb.log.length cb) := HB11.out.cell 3
  have c4 : w11.cell? ⟨w2.heap.size, 4, none⟩ = some (.int .i64 kb.commit) := HB11.out.cell 4
  have d0 : w11.cell? ⟨w7.heap.size, 0, none⟩ = some (.int .i64 kc.view) := HC11.out.cell 0
  have d1 : w11.cell? ⟨w7.heap.size, 1, none⟩ = some (.int .i64 kc.normal) := HC11.out.cell 1
  have d2 : w11.cell? ⟨w7.heap.size, 2, none⟩ = some (.bool kc.calm) := HC11.out.cell 2
  have d3 : w11.cell? ⟨w7.heap.size, 3, none⟩ = some (.slice Ac kc.log.length cc) := HC11.out.cell 3
  have d4 : w11.cell? ⟨w7.heap.size, 4, none⟩ = some (.int .i64 kc.commit) := HC11.out.cell 4
  have e0 : w11.cell? ⟨w1.heap.size, 0, none⟩ = some (.int .i64 ka.view) := HA11.out.cell 0
  have e1 : w11.cell? ⟨w1.heap.size, 1, none⟩ = some (.int .i64 ka.normal) := HA11.out.cell 1
  have e2 : w11.cell? ⟨w1.heap.size, 2, none⟩ = some (.bool ka.calm) := HA11.out.cell 2
  have e3 : w11.cell? ⟨w1.heap.size, 3, none⟩ = some (.slice Aa ka.log.length ca) := HA11.out.cell 3
  have e4 : w11.cell? ⟨w1.heap.size, 4, none⟩ = some (.int .i64 ka.commit) := HA11.out.cell 4
  by_cases hks : (s.size : Int) ≤ k
  · have hkc : kc = kb := by
      have h1 := HLY.out
      rw [if_pos hks, HKC.out] at h1
      exact (Prod.mk.inj h1).1
    have hns : ¬ k < (s.size : Int) := by omega
    subst hkc
    go_wp2_with fail
    refine (same_t Ac Ab cc cb kc w11 0 0 HCL11.out HBL11.out).mono ?_; rintro e w12 ⟨rfl, b12⟩
    have B12 := Lib.hid (HW11.out.trans (b12.mono HW11.out.size))
    clear b12
    go_wp2
    go_ret
    exact ⟨rfl, B12.out⟩
  · have hkc : kc = ka := by
      have h1 := HLY.out
      rw [if_neg hks, HKC.out] at h1
      exact (Prod.mk.inj h1).1
    have hns : k < (s.size : Int) := by omega
    subst hkc
    go_wp2_with fail
    refine (same_t Ac Aa cc ca kc w11 0 0 HCL11.out HAL11.out).mono ?_; rintro e w12 ⟨rfl, b12⟩
    have B12 := Lib.hid (HW11.out.trans (b12.mono HW11.out.size))
    clear b12
    go_wp2
    go_ret
    exact ⟨rfl, B12.out⟩
theorem lawSlotsTorn_w (v : Value) (l : List Scu.Raw) {w : World} (h : IsRaws w w.heap.size v l) (u : Value) (m : List Scu.Raw) (h2 : IsRaws w w.heap.size u m) (n : Int) (hn : (Lit.int .i64 n).wf = true) (up : Int) (hu : (Lit.int .i64 up).wf = true) (W : World) (hW : W = w) (ht : Tab W) :
    Calls Tryd.prog 7 #[v, u, .int .i64 n, .int .i64 up] W fun e w' => e = .returned (.bool true) ∧ Below W.heap.size W w' := by
  subst hW
  exact lawSlotsTorn_c v l u m n up (ini_of hn) (ini_of hu) W h h2 ht
end Go.Proofs.YtfpiembhlgcelaaDoor
namespace Go.Proofs.YtfpiembhlgcelaaDoor.slotsTornDone
open Go.ChangeShapes Go.WideShapes Go.ChangeAt Go.RowKit
open Go.ChangeMaps (open_string shut_string)
set_option linter.unusedVariables false
theorem own : ownKnob Tryd.prog.godebug = none := by kernel_rfl
theorem laidOut : laidOutB Tryd.prog = true := by kernel_rfl
set_option maxRecDepth 100000 in
theorem lifted (os : Os) (started : os.Started) (H : Type) (enc : TypeId × Value → H) :
    ReturnsInHanded {} Tryd.checked os 7 .any (fun w args => (Rows.slotsTornSpec.pre enc Tryd.prog Tryd.f7 [] false w args ∧ laidMetH Tryd.prog Rows.slotsTornRow.laid w) ∧ sizedMet enc Tryd.prog Tryd.f7 (OpenSpec.ofChange Rows.slotsTornSpec) false w args)
      (Rows.slotsTornSpec.post enc Tryd.prog Tryd.f7 false true false false) := by
  refine returnsInHanded_of_change_and (C := Tryd.checked) (X := fun w _ => laidMetH Tryd.prog Rows.slotsTornRow.laid w) (fun _ _ _ hh h => h.of_heap hh) own started (by kernel_rfl) Tryd.func7
    (ChangeSpec.witness_shaped (enc := enc) (C := Tryd.checked) (os := os) (X := fun w _ => laidMetH Tryd.prog Rows.slotsTornRow.laid w) false (World.doorLaid Tryd.prog doorFuel os) #[.slice none 0 0, .slice none 0 0, .int .i64 0, .int .i64 0] 8 rfl (door_shaped os _) (by kernel_rfl) (by kernel_rfl) (by kernel_rfl) (door_met os _)) ?_
  intro W base args ds gs before hval0 hW _ hsz hL _
  have htab := tab_of hL
  have hwt0 : ∀ (j : Nat) (t : TypeId) (d : DataW H), (Tryd.f7.params.toList ++ Rows.slotsTornSpec.plain.varTypes Tryd.prog)[j]? = some t → (ds ++ gs)[j]? = some d → ∀ k ∈ d.weights Tryd.prog t, k ≤ reachBytes := fun j t d ht hd k hk => by
    have := List.all_eq_true.1 hsz k (DataW.weights_mem_each ht hd k hk)
    simpa using this
  clear hsz hL
  have hwt := hwt0
  rw [Tryd.params7] at hwt
  have hval : ∀ (j : Nat) t v, Tryd.f7.params[j]? = some t → args[j]? = some v → Value.okWide Tryd.prog W .any base t v := hval0
  have hW' := hW
  obtain ⟨p, q, hA0, hV, rfl, hfz, hnd⟩ := hW
  have hA : DataW.TrodAll enc Tryd.prog W 0 (fun _ => true) true Tryd.f7.params.toList args.toList ds p := hA0
  rw [Tryd.params7] at hA hval
  obtain ⟨v0, vs0, d0, ds0, p0, q0, hargs, rfl, rfl, h0, r0⟩ := trodAll_cons hA
  obtain ⟨v1, vs1, d1, ds1, p1, q1, rfl, rfl, rfl, h1, r1⟩ := trodAll_cons r0
  obtain ⟨v2, vs2, d2, ds2, p2, q2, rfl, rfl, rfl, h2, r2⟩ := trodAll_cons r1
  obtain ⟨v3, vs3, d3, ds3, p3, q3, rfl, rfl, rfl, h3, r3⟩ := trodAll_cons r2
  obtain ⟨rfl, rfl, rfl⟩ := trodAll_nil r3
  obtain rfl : args = #[v0, v1, v2, v3] := by cases args; simp_all
  obtain ⟨rfl, rfl⟩ := trodVars_none hV
  have k0 := h0
  have lt0 : ∀ x ∈ p0, x.block < W.heap.size := by obtain ⟨m, hm⟩ := k0; exact DataW.trod_lt m _ _ _ hm
  obtain ⟨a0, w0⟩ := openS_Raws (hval 0 22 v0 rfl rfl) h0 (hwt 0 22 d0 rfl rfl)
  have k1 := h1
  have lt1 : ∀ x ∈ p1, x.block < W.heap.size := by obtain ⟨m, hm⟩ := k1; exact DataW.trod_lt m _ _ _ hm
  obtain ⟨a1, w1⟩ := openS_Raws (hval 1 22 v1 rfl rfl) h1 (hwt 1 22 d1 rfl rfl)
  have k2 := h2
  have lt2 : ∀ x ∈ p2, x.block < W.heap.size := by obtain ⟨m, hm⟩ := k2; exact DataW.trod_lt m _ _ _ hm
  obtain ⟨a2, hv2, hd2, hp2, w2⟩ := open_int Tryd.underlying3 (hval 2 3 v2 rfl rfl) h2
  subst hv2
  have k3 := h3
  have lt3 : ∀ x ∈ p3, x.block < W.heap.size := by obtain ⟨m, hm⟩ := k3; exact DataW.trod_lt m _ _ _ hm
  obtain ⟨a3, hv3, hd3, hp3, w3⟩ := open_int Tryd.underlying3 (hval 3 3 v3 rfl rfl) h3
  subst hv3
  clear hA0 hval0
  refine (lawSlotsTorn_w v0 a0 w0 v1 a1 w1 a2 w2 a3 w3 W rfl htab).mono fun e W' ⟨he, bel⟩ => ?_
  subst he
  exact ⟨_, rfl, _, _, _, [], _, [], hW', trodAll_mk1 (shut_bool Tryd.underlying4 _), (trodAll_cons_mk (Below.trod laidOut (by kernel_rfl) (of_decide_eq_true (by kernel_rfl)) k0 bel lt0) (trodAll_cons_mk (Below.trod laidOut (by kernel_rfl) (of_decide_eq_true (by kernel_rfl)) k1 bel lt1) (trodAll_cons_mk (Below.trod laidOut (by kernel_rfl) (of_decide_eq_true (by kernel_rfl)) k2 bel lt2) (trodAll_cons_mk (Below.trod laidOut (by kernel_rfl) (of_decide_eq_true (by kernel_rfl)) k3 bel lt3) trodAll_mk0)))), rfl, bel.frame _, fun h => by cases h⟩
theorem over : Rows.SlotsTornSaid :=
  OpenClaim.holds_of_wide 7 Tryd.f7 rfl rfl rfl rfl rfl rfl rfl ⟨rfl, rfl, rfl, rfl, rfl⟩ rfl rfl rfl rfl rfl (by kernel_rfl) Tryd.func7 (facts_of rfl rfl rfl rfl rfl rfl (by as_aux_lemma => kernel_rfl) (by as_aux_lemma => kernel_rfl) (by as_aux_lemma => kernel_rfl) (by as_aux_lemma => kernel_rfl) (by as_aux_lemma => kernel_rfl) (by as_aux_lemma => kernel_rfl) (by as_aux_lemma => kernel_rfl))
    (of_decide_eq_true (by kernel_rfl)) (by unfold Func.isWrapper; first | (rw [if_pos (by decide +kernel)]; kernel_rfl) | (rw [if_neg (by decide +kernel)]; exact ⟨rfl, rfl⟩))
    (fun os started H enc _ => lifted os started H enc)
theorem proved : Rows.SlotsTornCardSaid :=
  Claim7.holds_tied_plain_at .later [] [.data, .data, .data] true Rows.slotsTornCard.stood.harness false
    over (fun _ h => by cases h) (by kernel_rfl) (fun _ h => by cases h) slotsTorn_row_tie rfl ⟨rfl, rfl⟩ (by kernel_rfl) rfl
    (fun f fn hf hfn => by
      obtain rfl : f = 7 := Option.some.inj ((show Tryd.prog.funcNamed Rows.slotsTornRow.func = some 7 by kernel_rfl).symm.trans hf) |>.symm
      obtain rfl : fn = Tryd.f7 := (Option.some.inj (Tryd.func7.symm.trans hfn)).symm
      exact ⟨by kernel_rfl, fun j t ht => by
        rw [Tryd.params7] at ht
        have hm : t ∈ [22, 22, 3, 3] := by simpa using Array.mem_of_getElem? ht
        have hall : ([22, 22, 3, 3].all fun u => !Tryd.prog.wantsStandIn u) = true := by kernel_rfl
        exact (show Tryd.prog.wantsStandIn t = false by simpa using List.all_eq_true.1 hall t hm)⟩)
    (by kernel_rfl)
end Go.Proofs.YtfpiembhlgcelaaDoor.slotsTornDone

/- The law MachineApplies, walked. -/
import Derived.Test.YtioajgcbchdpeaaApr
namespace Go.Proofs.Ytioajgcbchdpeaa
open Go.RowKit
set_option maxHeartbeats 4000000
set_option maxRecDepth 100000

theorem apply_a (nv sv lv : Value) (x : Scu.State) (s : Scu.Str) (w : World) (B : Nat) (hv : IsState w B nv sv lv x) (y : Scu.State) (c : Int) (h : Scu.apply x s = (y, c)) :
    Calls Try.prog 36 #[.agg #[nv, sv, lv], .string s] w fun e w' => AppRet w' y c e ∧ Below w.heap.size w w' := by
  have := apply_c nv sv lv x s w B hv
  rw [h] at this
  exact this
theorem applied_a (nv sv lv : Value) (x : Scu.State) (s : Scu.Str) (w : World) (B : Nat) (hv : IsState w B nv sv lv x) (y : Scu.State) (c : Int) (h : Scu.apply x s = (y, c)) :
    Calls Try.prog 37 #[.agg #[nv, sv, lv], .string s] w fun e w' => AppRet w' y c e ∧ Below w.heap.size w w' := by
  have := applied_c nv sv lv x s w B hv
  rw [h] at this
  exact this
theorem lawMachineApplies_c (A0 : Option Addr) (n0 c0 : Nat) (A1 : Option Addr) (n1 c1 : Nat) (A2 : Option Addr) (c2 : Nat) (x : Scu.State) (s : Scu.Str) (w : World) (B : Nat) (hv : IsState w B (.slice A0 n0 c0) (.slice A1 n1 c1) (.slice A2 x.lasts.length c2) x) :
    Calls Try.prog 11 #[.agg #[.slice A0 n0 c0, .slice A1 n1 c1, .slice A2 x.lasts.length c2], .string s] w fun e w' => e = .returned (.bool true) ∧ Below w.heap.size w w' := by
  have HV := Lib.hid hv
  obtain ⟨q, hq⟩ : ∃ q, Scu.apply x s = q := ⟨_, rfl⟩
  obtain ⟨y, c⟩ := q
  have HAP := Lib.hid hq
  clear hv hq
  go_enter Try.func11, Try.ntmps11
  go_upto_region 1 with fail
  obtain ⟨Wd, hWd⟩ : ∃ W, W = w.alloc (Obj.cells #[.slice A0 n0 c0, .slice A1 n1 c1, .slice A2 x.lasts.length c2] 65) := ⟨_, rfl⟩
  rw [← hWd]
  have hb : Below w.heap.size w Wd := by rw [hWd]; exact below_alloc _ _
  have hs : Blk Wd w.heap.size 65 #[.slice A0 n0 c0, .slice A1 n1 c1, .slice A2 x.lasts.length c2] := by rw [hWd]; exact Blk.new _ _ _
  have s0 := hs.cell 0
  have s1 := hs.cell 1
  have s2 := hs.cell 2
  simp only [List.getElem?_toArray, List.getElem?_cons_zero, List.getElem?_cons_succ] at s0 s1 s2
  have sz := hs.frozen
  have sl := hs.lt
  have HVW := Lib.hid (HV.out.below hb)
  have HS := Lib.hid (And.intro hs hb)
  clear hs hb hWd
  go_cut [5] (fun p wx => ∃ g nu su lu, p = .pointer (some ⟨g, 0, none⟩) ∧ Apl Wd x g nu su lu wx)
  case first =>
    obtain ⟨⟨AL, cL, eL, _, hRL⟩, hLN4⟩ := HVW.out.lasts
    obtain ⟨rfl, rfl⟩ : A2 = AL ∧ c2 = cL := by cases eL; exact ⟨rfl, rfl⟩
    have HRL := Lib.hid hRL
    have HLN4 := Lib.hid hLN4
    have HNL := Lib.hid (show A2 = none → x.lasts.length = 0 by
      intro e
      subst e
      have h9 := congrArg List.length (rd_none hRL)
      rw [lasts_len] at h9
      simp only [List.length_nil] at h9
      omega)
    have HMX := Lib.hid (show 0 + x.lasts.length ≤ maxLen ∧ (0 + x.lasts.length) * 40 ≤ 140737488355328 by have := HLN4.out; unfold R47 at this; unfold maxLen; omega)
    clear eL hRL hLN4
    go_region_law (first
      | (go_simp; go_at_call 20; refine (copyRef_c _ _ x.volume _ B ?_).mono ?_; (first | exact HVW.out.vol.drewN 1 | exact (HVW.out.vol.alloc _).drewN 1 | exact (HVW.out.vol.drewN 1).alloc _); rintro en wa ⟨⟨nu, su, rfl, hu⟩, ha⟩
         refine use (P := Below Wd.heap.size Wd wa) ?_ ?_
         (first | exact (below_drewN (Below.refl _ _) 1).trans ha | exact (below_drewN (below_alloc Wd (Obj.cells #[.slice none 0 0, .slice none 0 0, .slice none 0 0] 65)) 1).trans (ha.mono (Nat.le_succ_of_le (Nat.le_refl _))) | exact ((below_drewN (Below.refl _ _) 1).alloc (Nat.le_refl _) (Obj.cells #[.slice none 0 0, .slice none 0 0, .slice none 0 0] 65)).trans (ha.mono (by simp)))
         intro hA
         refine use (P := OwnVol wa Wd.heap.size nu su x.volume) ?_ ?_
         (first | exact hu | exact hu.base_ (by simp))
         clear hu; intro hu
         obtain ⟨A3, n3, c3, rfl⟩ := hu.is.now.form
         obtain ⟨A4, n4, c4, rfl⟩ := hu.is.snaps.form
         have HA := Lib.hid hA
         have HU := Lib.hid hu
         have hal := hA.size
         have tl : w.heap.size < wa.heap.size := Nat.lt_of_lt_of_le sl hA.size
         have t0 := (hA.cell (p := ⟨w.heap.size, 0, none⟩) sl).trans s0
         have t1 := (hA.cell (p := ⟨w.heap.size, 1, none⟩) sl).trans s1
         have t2 := (hA.cell (p := ⟨w.heap.size, 2, none⟩) sl).trans s2
         (try (refine use (P := Blk wa Wd.heap.size 65 #[.slice none 0 0, .slice none 0 0, .slice none 0 0]) ?_ ?_; (first | exact ((Blk.new Wd _ _).drew).same ha | exact (Blk.new (Wd.drewN 1) _ _).same ha); intro hbo; have HBOa := Lib.hid hbo; clear hbo))
         clear hu ha hA)
      | (refine step_app _ rfl (.const (.slice none 0 0)) (.tmp 14) 63 rfl el_lasts wa.heap.size _ 0 [] rfl (World.ownsRow_nil _ _ _ _) (.slice A2 x.lasts.length c2) x.lasts.length (x.lasts.flatMap lastC) rfl ?_ (one_lasts _) HMX.out.1 HMX.out.2 ?_ ?_
         · refine src_of_rd (size := 4) (B := B) (t := 109) ?_ (lasts_len _) HNL.out
           (first | exact HRL.out.below HA.out | exact (HRL.out.below HA.out).alloc _)
         · (first | exact Nat.le_refl _ | exact Nat.le_succ_of_le (Nat.le_refl _) | simp)
         intro lu wb hl hg _
         refine use (P := OwnLasts wb Wd.heap.size lu x.lasts) ?_ ?_
         · exact ⟨ownsRow_base (by simpa only [Nat.zero_add, List.nil_append] using hl) HA.out.size, HLN4.out⟩
         clear hl; intro hl
         have hb := below_grown hg (Nat.le_refl _) (fun q hq => by cases hq)
         clear hg
         refine use (P := Below wa.heap.size wa wb) ?_ ?_
         (first | exact hb | exact (below_alloc wa (Obj.cells #[.slice none 0 0, .slice none 0 0, .slice none 0 0] 65)).trans (hb.mono (by simp)))
         intro hB
         obtain ⟨A5, n5, c5, rfl⟩ := hl.is.form
         have HUb := Lib.hid (HU.out.below hB)
         have HLb := Lib.hid hl
         have HB := Lib.hid (HA.out.trans (hB.mono HA.out.size))
         have hbl := hB.size
         (try (have HBO := Lib.hid (show Blk wb Wd.heap.size 65 #[.slice none 0 0, .slice none 0 0, .slice none 0 0] from HBOa.out.same hB); have b0 := HBO.out.cell 0; have b1 := HBO.out.cell 1; have b2 := HBO.out.cell 2; simp only [List.getElem?_toArray, List.getElem?_cons_zero, List.getElem?_cons_succ] at b0 b1 b2; have bz := HBO.out.frozen; have bl := HBO.out.lt))
         (try (have HBO := Lib.hid (show Blk wb wa.heap.size 65 #[.slice none 0 0, .slice none 0 0, .slice none 0 0] from (Blk.new wa _ _).same hb); have b0 := HBO.out.cell 0; have b1 := HBO.out.cell 1; have b2 := HBO.out.cell 2; simp only [List.getElem?_toArray, List.getElem?_cons_zero, List.getElem?_cons_succ] at b0 b1 b2; have bz := HBO.out.frozen; have bl := HBO.out.lt))
         clear hl hb hB)
      | (refine step_app _ rfl (.const (.slice none 0 0)) (.tmp 14) 63 rfl el_lasts Wd.heap.size _ 0 [] rfl (World.ownsRow_nil _ _ _ _) (.slice A2 x.lasts.length c2) x.lasts.length (x.lasts.flatMap lastC) rfl ?_ (one_lasts _) HMX.out.1 HMX.out.2 ?_ ?_
         · refine src_of_rd (size := 4) (B := B) (t := 109) ?_ (lasts_len _) HNL.out
           (first | exact HRL.out.drewN 1 | exact (HRL.out.alloc _).drewN 1 | exact (HRL.out.drewN 1).alloc _)
         · (first | exact Nat.le_refl _ | exact Nat.le_succ_of_le (Nat.le_refl _) | simp)
         intro lu wa hl hg _
         refine use (P := OwnLasts wa Wd.heap.size lu x.lasts) ?_ ?_
         · exact ⟨by simpa only [Nat.zero_add, List.nil_append] using hl, HLN4.out⟩
         clear hl; intro hl
         have ha := below_grown hg (Nat.le_refl _) (fun q hq => by cases hq)
         clear hg
         refine use (P := Below Wd.heap.size Wd wa) ?_ ?_
         (first | exact (below_drewN (Below.refl _ _) 1).trans ha | exact (below_drewN (below_alloc Wd (Obj.cells #[.slice none 0 0, .slice none 0 0, .slice none 0 0] 65)) 1).trans (ha.mono (Nat.le_succ_of_le (Nat.le_refl _))) | exact ((below_drewN (Below.refl _ _) 1).alloc (Nat.le_refl _) (Obj.cells #[.slice none 0 0, .slice none 0 0, .slice none 0 0] 65)).trans (ha.mono (by simp)))
         intro hA
         obtain ⟨A5, n5, c5, rfl⟩ := hl.is.form
         have HA := Lib.hid hA
         have HL := Lib.hid hl
         have hal := hA.size
         have tl : w.heap.size < wa.heap.size := Nat.lt_of_lt_of_le sl hA.size
         have t0 := (hA.cell (p := ⟨w.heap.size, 0, none⟩) sl).trans s0
         have t1 := (hA.cell (p := ⟨w.heap.size, 1, none⟩) sl).trans s1
         have t2 := (hA.cell (p := ⟨w.heap.size, 2, none⟩) sl).trans s2
         (try (refine use (P := Blk wa Wd.heap.size 65 #[.slice none 0 0, .slice none 0 0, .slice none 0 0]) ?_ ?_; (first | exact ((Blk.new Wd _ _).drew).same ha | exact (Blk.new (Wd.drewN 1) _ _).same ha); intro hbo; have HBOa := Lib.hid hbo; clear hbo))
         clear hl ha hA)
      | (go_simp; go_at_call 20; refine (copyRef_c _ _ x.volume _ B ?_).mono ?_; (first | exact HVW.out.vol.below HA.out | exact (HVW.out.vol.below HA.out).alloc _); rintro en wb ⟨⟨nu, su, rfl, hu⟩, hb⟩
         refine use (P := Below wa.heap.size wa wb) ?_ ?_
         (first | exact hb | exact (below_alloc wa (Obj.cells #[.slice none 0 0, .slice none 0 0, .slice none 0 0] 65)).trans (hb.mono (by simp)))
         intro hB
         refine use (P := OwnVol wb Wd.heap.size nu su x.volume) ?_ ?_
         (first | exact hu.base_ HA.out.size | exact hu.base_ (Nat.le_trans HA.out.size (by simp)))
         clear hu; intro hu
         obtain ⟨A3, n3, c3, rfl⟩ := hu.is.now.form
         obtain ⟨A4, n4, c4, rfl⟩ := hu.is.snaps.form
         have HUb := Lib.hid hu
         have HLb := Lib.hid (HL.out.below hB)
         have HB := Lib.hid (HA.out.trans (hB.mono HA.out.size))
         have hbl := hB.size
         (try (have HBO := Lib.hid (show Blk wb Wd.heap.size 65 #[.slice none 0 0, .slice none 0 0, .slice none 0 0] from HBOa.out.same hB); have b0 := HBO.out.cell 0; have b1 := HBO.out.cell 1; have b2 := HBO.out.cell 2; simp only [List.getElem?_toArray, List.getElem?_cons_zero, List.getElem?_cons_succ] at b0 b1 b2; have bz := HBO.out.frozen; have bl := HBO.out.lt))
         (try (have HBO := Lib.hid (show Blk wb wa.heap.size 65 #[.slice none 0 0, .slice none 0 0, .slice none 0 0] from (Blk.new wa _ _).same hb); have b0 := HBO.out.cell 0; have b1 := HBO.out.cell 1; have b2 := HBO.out.cell 2; simp only [List.getElem?_toArray, List.getElem?_cons_zero, List.getElem?_cons_succ] at b0 b1 b2; have bz := HBO.out.frozen; have bl := HBO.out.lt))
         clear hu hb hB))
    all_goals
      go_wp2_with fail
      go_meet
      first
        | exact ⟨_, _, _, _, rfl, apl_new HB.out HUb.out HLb.out⟩
        | exact ⟨_, _, _, _, rfl, apl_set HB.out HUb.out HLb.out HBO.out (by omega)⟩
  case rest =>
  obtain ⟨g, nu, su, lu, rfl, hA⟩ := hcut
  obtain ⟨A3, n3, c3, rfl⟩ := hA.vol.is.now.form
  obtain ⟨A4, n4, c4, rfl⟩ := hA.vol.is.snaps.form
  obtain ⟨A5, n5, c5, rfl⟩ := hA.lasts.is.form
  have hlow := hA.low
  have hs := HS.out.1.same hlow
  have hb := HS.out.2.trans (hlow.mono HS.out.2.size)
  have ho := hA.out
  have hK : IsState wc 0 (.slice A3 n3 c3) (.slice A4 n4 c4) (.slice A5 n5 c5) x := ⟨hA.vol.is, hA.lasts.is⟩
  clear s0 s1 s2 sz sl
  have s0 := hs.cell 0
  have s1 := hs.cell 1
  have s2 := hs.cell 2
  simp only [List.getElem?_toArray, List.getElem?_cons_zero, List.getElem?_cons_succ] at s0 s1 s2
  have sz := hs.frozen
  have sl := hs.lt
  have o0 := ho.cell 0
  have o1 := ho.cell 1
  have o2 := ho.cell 2
  simp only [List.getElem?_toArray, List.getElem?_cons_zero, List.getElem?_cons_succ] at o0 o1 o2
  have oz := ho.frozen
  have ol := ho.lt
  have HK := Lib.hid hK
  have H1 := Lib.hid (And.intro hs (And.intro ho hb))
  clear hs ho hb hA hlow hK HS HVW
  go_wp2_with fail
  refine (apply_a _ _ _ x s _ 0 HK.out y c HAP.out).mono ?_; rintro en w2 ⟨⟨na, sa, la, rfl, ha⟩, h2⟩
  obtain ⟨B3, m3, d3, rfl⟩ := ha.vol.now.form
  obtain ⟨B4, m4, d4, rfl⟩ := ha.vol.snaps.form
  obtain ⟨B5, m5, d5, rfl⟩ := ha.lasts.form
  have hs := H1.out.1.same h2
  have ho := H1.out.2.1.same h2
  have hb := H1.out.2.2.trans (h2.mono H1.out.2.2.size)
  have hK := HK.out.below h2
  clear s0 s1 s2 sz sl o0 o1 o2 oz ol
  have s0 := hs.cell 0
  have s1 := hs.cell 1
  have s2 := hs.cell 2
  simp only [List.getElem?_toArray, List.getElem?_cons_zero, List.getElem?_cons_succ] at s0 s1 s2
  have sz := hs.frozen
  have sl := hs.lt
  have o0 := ho.cell 0
  have o1 := ho.cell 1
  have o2 := ho.cell 2
  simp only [List.getElem?_toArray, List.getElem?_cons_zero, List.getElem?_cons_succ] at o0 o1 o2
  have oz := ho.frozen
  have ol := ho.lt
  have HK2 := Lib.hid hK
  have HA2 := Lib.hid ha
  have H2 := Lib.hid (And.intro hs (And.intro ho hb))
  clear hs ho hb hK ha h2 H1 HK
  go_wp2_with fail
  have h0 := below_alloc w2 (Obj.cells #[.slice B3 m3 d3, .slice B4 m4 d4, .slice B5 m5 d5] 65)
  refine (applied_a _ _ _ x s _ B (HV.out.below (H2.out.2.2.trans (h0.mono H2.out.2.2.size))) y c HAP.out).mono ?_; rintro en w3 ⟨⟨nb, sb, lb, rfl, hbv⟩, h3⟩
  obtain ⟨E3, p3, f3, rfl⟩ := hbv.vol.now.form
  obtain ⟨E4, p4, f4, rfl⟩ := hbv.vol.snaps.form
  obtain ⟨E5, p5, f5, rfl⟩ := hbv.lasts.form
  have h23 := h0.trans (h3.mono h0.size)
  have ha3 : Blk w3 w2.heap.size 65 #[.slice B3 m3 d3, .slice B4 m4 d4, .slice B5 m5 d5] := (Blk.new w2 _ _).same h3
  have hs := H2.out.1.same h23
  have ho := H2.out.2.1.same h23
  have hb := H2.out.2.2.trans (h23.mono H2.out.2.2.size)
  have hK := HK2.out.below h23
  have hA3 := HA2.out.below h23
  clear s0 s1 s2 sz sl o0 o1 o2 oz ol
  have a0 := ha3.cell 0
  have a1 := ha3.cell 1
  have a2 := ha3.cell 2
  simp only [List.getElem?_toArray, List.getElem?_cons_zero, List.getElem?_cons_succ] at a0 a1 a2
  have az := ha3.frozen
  have al := ha3.lt
  have s2l := hs.lt
  have o2l := ho.lt
  have HK3 := Lib.hid hK
  have HA3 := Lib.hid hA3
  have HB3 := Lib.hid hbv
  have H3 := Lib.hid (And.intro hs (And.intro ho hb))
  clear hs ho hb hK hA3 hbv h0 h3 h23 ha3 HK2 HA2 H2
  go_wp2_with fail
  have h0 := below_alloc w3 (Obj.cells #[.slice E3 p3 f3, .slice E4 p4 f4, .slice E5 p5 f5] 65)
  refine (sameState_c _ _ _ _ _ _ y y _ 0 0 (HA3.out.below h0) (HB3.out.below h0)).mono ?_; rintro en w4 ⟨rfl, h4⟩
  have h34 := h0.trans (h4.mono h0.size)
  have hs := H3.out.1.same h34
  have ho := H3.out.2.1.same h34
  have hb := H3.out.2.2.trans (h34.mono H3.out.2.2.size)
  clear a0 a1 a2 az al
  have s0 := hs.cell 0
  have s1 := hs.cell 1
  have s2 := hs.cell 2
  simp only [List.getElem?_toArray, List.getElem?_cons_zero, List.getElem?_cons_succ] at s0 s1 s2
  have sz := hs.frozen
  have sl := hs.lt
  have o0 := ho.cell 0
  have o1 := ho.cell 1
  have o2 := ho.cell 2
  simp only [List.getElem?_toArray, List.getElem?_cons_zero, List.getElem?_cons_succ] at o0 o1 o2
  have oz := ho.frozen
  have ol := ho.lt
  have H4 := Lib.hid (And.intro h34 hb)
  clear hs ho hb h0 h4 h34 H3
  simp only [decide_true]
  go_wp2_with fail
  refine (sameState_c _ _ _ _ _ _ x x _ 0 B (HK3.out.below H4.out.1) (HV.out.below H4.out.2)).mono ?_; rintro en w5 ⟨rfl, h5⟩
  go_wp2
  go_ret
  exact ⟨by simp, H4.out.2.trans (h5.mono H4.out.2.size)⟩
theorem lawMachineApplies_w (v : Value) (x : Scu.State) {w : World} (h : IsStateV w v x) (s : ByteArray) (_ : s.size ≤ maxLen) (W : World) (hW : W = w) :
    Calls Try.prog 11 #[v, .string s] W fun e w' => e = .returned (.bool true) ∧ Below W.heap.size W w' := by
  subst hW
  obtain ⟨nv, sv, lv, rfl, hv⟩ := h
  obtain ⟨A0, n0, c0, rfl⟩ := hv.vol.now.form
  obtain ⟨A1, n1, c1, rfl⟩ := hv.vol.snaps.form
  obtain ⟨A2, c2, rfl, _⟩ := hv.lasts.ex
  exact lawMachineApplies_c A0 n0 c0 A1 n1 c1 A2 c2 x s W _ hv
end Go.Proofs.Ytioajgcbchdpeaa

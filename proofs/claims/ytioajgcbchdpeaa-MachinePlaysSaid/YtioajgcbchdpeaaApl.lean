/- machine.Apply, walked. -/
import Derived.Test.YtioajgcbchdpeaaAplM
namespace Go.Proofs.Ytioajgcbchdpeaa
open Go.RowKit
set_option maxHeartbeats 4000000
set_option maxRecDepth 100000

theorem apply_e1 (A0 : Option Addr) (n0 c0 : Nat) (A1 : Option Addr) (n1 c1 : Nat) (A2 : Option Addr) (n2 c2 : Nat) (x : Scu.State) (s : Scu.Str) (w : World) (B : Nat) (hv : IsState w B (.slice A0 n0 c0) (.slice A1 n1 c1) (.slice A2 n2 c2) x) (hf : Scu.stateFault x ≠ 0) :
    Calls Try.prog 36 #[.agg #[.slice A0 n0 c0, .slice A1 n1 c1, .slice A2 n2 c2], .string s] w fun e w' => AppRet w' Scu.state0 (Scu.stateFault x) e ∧ Below w.heap.size w w' := by
  have HV := Lib.hid hv
  have hfb : (Scu.stateFault x != 0) = true := by simpa using hf
  clear hf hv
  go_enter Try.func36, Try.ntmps36
  go_wp2_with fail
  refine (machCheck_c _ _ _ x _ B ((HV.out.alloc _).alloc _)).mono ?_; rintro en w1 ⟨rfl, h1⟩
  have hs1 : Blk w1 w.heap.size 65 #[.slice A0 n0 c0, .slice A1 n1 c1, .slice A2 n2 c2] := ((Blk.new w _ _).alloc _).same h1
  have hz1 : Blk w1 (w.heap.size + 1) 65 #[.slice none 0 0, .slice none 0 0, .slice none 0 0] := (Blk.new' (by simp)).same h1
  have hb1 : Below w.heap.size w w1 := ((below_alloc w (Obj.cells #[.slice A0 n0 c0, .slice A1 n1 c1, .slice A2 n2 c2] 65)).alloc (by simp) (Obj.cells #[.slice none 0 0, .slice none 0 0, .slice none 0 0] 65)).trans (h1.mono (by simp; omega))
  clear h1
  have z0 := hz1.cell 0
  have z1 := hz1.cell 1
  have z2 := hz1.cell 2
  simp only [List.getElem?_toArray, List.getElem?_cons_zero, List.getElem?_cons_succ] at z0 z1 z2
  have zz := hz1.frozen
  have zl := hz1.lt
  have hr := blk_set3 (a := .slice none 0 0) (b := .slice none 0 0) (c := .slice none 0 0) hz1
  have r0 := hr.cell 0
  have r1 := hr.cell 1
  have r2 := hr.cell 2
  simp only [List.getElem?_toArray, List.getElem?_cons_zero, List.getElem?_cons_succ] at r0 r1 r2
  go_wp2
  refine bodyPost_ret (v := .tuple #[.agg #[.slice none 0 0, .slice none 0 0, .slice none 0 0], .int .i64 (Scu.stateFault x)]) (by simp [results, Try.results36, go_sem, r0, r1, r2]) rfl ?_
  exact ⟨app_zero _ _, below_set3 hb1 (by omega)⟩
theorem apply_e2 (A0 : Option Addr) (n0 c0 : Nat) (A1 : Option Addr) (n1 c1 : Nat) (A2 : Option Addr) (n2 c2 : Nat) (x : Scu.State) (s : Scu.Str) (r : Scu.Request) (c : Int) (w : World) (B : Nat) (hv : IsState w B (.slice A0 n0 c0) (.slice A1 n1 c1) (.slice A2 n2 c2) x) (hf : ¬ Scu.stateFault x ≠ 0)
    (hd : Scu.decode s = (r, c)) (hc : c ≠ 0) :
    Calls Try.prog 36 #[.agg #[.slice A0 n0 c0, .slice A1 n1 c1, .slice A2 n2 c2], .string s] w fun e w' => AppRet w' Scu.state0 c e ∧ Below w.heap.size w w' := by
  have HV := Lib.hid hv
  have HD := Lib.hid hd
  have hfb : (Scu.stateFault x != 0) = false := by simpa using hf
  have hcb : (c != 0) = true := by simpa using hc
  clear hf hv hd hc
  go_enter Try.func36, Try.ntmps36
  go_wp2_with fail
  refine (machCheck_c _ _ _ x _ B ((HV.out.alloc _).alloc _)).mono ?_; rintro en w1 ⟨rfl, h1⟩
  have hs1 : Blk w1 w.heap.size 65 #[.slice A0 n0 c0, .slice A1 n1 c1, .slice A2 n2 c2] := ((Blk.new w _ _).alloc _).same h1
  have hz1 : Blk w1 (w.heap.size + 1) 65 #[.slice none 0 0, .slice none 0 0, .slice none 0 0] := (Blk.new' (by simp)).same h1
  have hb1 : Below w.heap.size w w1 := ((below_alloc w (Obj.cells #[.slice A0 n0 c0, .slice A1 n1 c1, .slice A2 n2 c2] 65)).alloc (by simp) (Obj.cells #[.slice none 0 0, .slice none 0 0, .slice none 0 0] 65)).trans (h1.mono (by simp; omega))
  clear h1
  have z0 := hz1.cell 0
  have z1 := hz1.cell 1
  have z2 := hz1.cell 2
  simp only [List.getElem?_toArray, List.getElem?_cons_zero, List.getElem?_cons_succ] at z0 z1 z2
  have zz := hz1.frozen
  have zl := hz1.lt
  go_wp2_with fail
  refine (decode_a s _ r c HD.out).mono ?_; rintro en w2 ⟨rfl, h2⟩
  have hs2 := hs1.same h2
  have hz2 := hz1.same h2
  have hz2l := hz2.lt
  have hb2 := hb1.trans (h2.mono hb1.size)
  clear h2 hs1 hz1 hb1 z0 z1 z2 zz zl
  go_upto_region 5 with fail
  obtain ⟨Wd, hWd⟩ : ∃ W, W = w2.alloc (Obj.cells #[.int .i64 r.client, .int .i64 r.num, .int .i64 r.op.kind, .int .i64 r.op.at_, .int .i64 r.op.snap, .string r.op.data] 104) := ⟨_, rfl⟩
  rw [← hWd]
  have hbw : Below w2.heap.size w2 Wd := by rw [hWd]; exact below_alloc _ _
  have hq : Blk Wd w2.heap.size 104 #[.int .i64 r.client, .int .i64 r.num, .int .i64 r.op.kind, .int .i64 r.op.at_, .int .i64 r.op.snap, .string r.op.data] := by rw [hWd]; exact Blk.new _ _ _
  have hs := hs2.same hbw
  have hz := hz2.same hbw
  have hb := hb2.trans (hbw.mono hb2.size)
  clear hs2 hz2 hb2 hbw hWd
  have z0 := hz.cell 0
  have z1 := hz.cell 1
  have z2 := hz.cell 2
  simp only [List.getElem?_toArray, List.getElem?_cons_zero, List.getElem?_cons_succ] at z0 z1 z2
  have zz := hz.frozen
  have zl := hz.lt
  have s0 := hs.cell 0
  have s1 := hs.cell 1
  have s2 := hs.cell 2
  simp only [List.getElem?_toArray, List.getElem?_cons_zero, List.getElem?_cons_succ] at s0 s1 s2
  have sz := hs.frozen
  have sl := hs.lt
  have q0 := hq.cell 0
  have q1 := hq.cell 1
  have q2 := hq.cell 2
  have q3 := hq.cell 3
  have q4 := hq.cell 4
  have q5 := hq.cell 5
  simp only [List.getElem?_toArray, List.getElem?_cons_zero, List.getElem?_cons_succ] at q0 q1 q2 q3 q4 q5
  have ql := hq.lt
  have hr := blk_set3 (a := .slice none 0 0) (b := .slice none 0 0) (c := .slice none 0 0) hz
  have r0 := hr.cell 0
  have r1 := hr.cell 1
  have r2 := hr.cell 2
  simp only [List.getElem?_toArray, List.getElem?_cons_zero, List.getElem?_cons_succ] at r0 r1 r2
  go_wp2
  refine bodyPost_ret (v := .tuple #[.agg #[.slice none 0 0, .slice none 0 0, .slice none 0 0], .int .i64 c]) (by simp [results, Try.results36, go_sem, r0, r1, r2]) rfl ?_
  exact ⟨app_zero _ _, below_set3 hb (by omega)⟩
structure Apl (Wd : World) (x : Scu.State) (g : Nat) (nu su lu : Value) (wx : World) : Prop where
  out : Blk wx g 65 #[nu, su, lu]
  lo : Wd.heap.size ≤ g
  vol : OwnVol wx Wd.heap.size nu su x.volume
  lasts : OwnLasts wx Wd.heap.size lu x.lasts
  low : Below Wd.heap.size Wd wx
theorem use {P Q : Prop} (h : P) (k : P → Q) : Q := k h
theorem apl_new {Wd wb : World} {x : Scu.State} {nu su lu : Value} (hB : Below Wd.heap.size Wd wb) (hu : OwnVol wb Wd.heap.size nu su x.volume) (hl : OwnLasts wb Wd.heap.size lu x.lasts) :
    Apl Wd x wb.heap.size nu su lu (wb.alloc (Obj.cells #[nu, su, lu] 65)) :=
  ⟨Blk.new wb _ _, hB.size, hu.alloc _, hl.below (below_alloc wb _), hB.alloc hB.size _⟩
theorem apl_set {Wd wb : World} {x : Scu.State} {g : Nat} {nu su lu a b c : Value} (hB : Below Wd.heap.size Wd wb) (hu : OwnVol wb Wd.heap.size nu su x.volume) (hl : OwnLasts wb Wd.heap.size lu x.lasts) (hb : Blk wb g 65 #[a, b, c]) (hg : Wd.heap.size ≤ g) :
    Apl Wd x g nu su lu (((wb.setCell ⟨g, 0, none⟩ nu).setCell ⟨g, 1, none⟩ su).setCell ⟨g, 2, none⟩ lu) :=
  ⟨blk_set3 hb, hg, hu.same (Same.sets3 (B := 0) hb (Nat.zero_le _) (by decide) _ _ _), hl.same (Same.sets3 (B := 0) hb (Nat.zero_le _) (by decide) _ _ _), below_set3 hB hg⟩
theorem apply_3 (A0 : Option Addr) (n0 c0 : Nat) (A1 : Option Addr) (n1 c1 : Nat) (A2 : Option Addr) (n2 c2 : Nat) (x : Scu.State) (s : Scu.Str) (r : Scu.Request) (k : Nat) (w : World) (B : Nat) (hv : IsState w B (.slice A0 n0 c0) (.slice A1 n1 c1) (.slice A2 n2 c2) x) (hf : ¬ Scu.stateFault x ≠ 0)
    (hd : Scu.decode s = (r, 0)) (hk : r.client = (k : Int) + 1) (hk4 : k < x.lasts.length) :
    Calls Try.prog 36 #[.agg #[.slice A0 n0 c0, .slice A1 n1 c1, .slice A2 n2 c2], .string s] w fun e w' => AppRet w' (Scu.applyIt x r) 0 e ∧ Below w.heap.size w w' := by
  have hof : ¬ Scu.opFault r.op ≠ 0 := by have := (Scu.reqFault_ok (decode_req hd)).2.2.2.2; omega
  have HOF := Lib.hid hof
  clear hof
  have HV := Lib.hid hv
  have HD := Lib.hid hd
  have hfb : (Scu.stateFault x != 0) = false := by simpa using hf
  have hcb : ((0 : Int) != 0) = false := rfl
  obtain ⟨hl4, hvf⟩ := stateFault_ok hf
  have HVF := Lib.hid hvf
  have HL4 := Lib.hid hl4
  have hkl : (k : Int) < (x.lasts.length : Int) := by omega
  have hn2 : n2 = x.lasts.length := by
    obtain ⟨A, c, e, _⟩ := hv.lasts.ex
    cases e
    rfl
  have hkn : (k : Int) < (n2 : Int) := by omega
  have hk3 : k < 4 := by omega
  have hk3' : (k : Int) < 4 := by omega
  have HK := Lib.hid hk
  clear hf hv hd hvf hl4 hn2 hk
  go_enter Try.func36, Try.ntmps36
  go_wp2_with fail
  refine (machCheck_c _ _ _ x _ B ((HV.out.alloc _).alloc _)).mono ?_; rintro en w1 ⟨rfl, h1⟩
  have hs1 : Blk w1 w.heap.size 65 #[.slice A0 n0 c0, .slice A1 n1 c1, .slice A2 n2 c2] := ((Blk.new w _ _).alloc _).same h1
  have hz1 : Blk w1 (w.heap.size + 1) 65 #[.slice none 0 0, .slice none 0 0, .slice none 0 0] := (Blk.new' (by simp)).same h1
  have hb1 : Below w.heap.size w w1 := ((below_alloc w (Obj.cells #[.slice A0 n0 c0, .slice A1 n1 c1, .slice A2 n2 c2] 65)).alloc (by simp) (Obj.cells #[.slice none 0 0, .slice none 0 0, .slice none 0 0] 65)).trans (h1.mono (by simp; omega))
  clear h1
  have z0 := hz1.cell 0
  have z1 := hz1.cell 1
  have z2 := hz1.cell 2
  simp only [List.getElem?_toArray, List.getElem?_cons_zero, List.getElem?_cons_succ] at z0 z1 z2
  have zz := hz1.frozen
  have zl := hz1.lt
  go_wp2_with fail
  refine (decode_a s _ r 0 HD.out).mono ?_; rintro en w2 ⟨rfl, h2⟩
  have hs2 := hs1.same h2
  have hz2 := hz1.same h2
  have hz2l := hz2.lt
  have hb2 := hb1.trans (h2.mono hb1.size)
  clear h2 hs1 hz1 hb1 z0 z1 z2 zz zl
  go_upto_region 5 with fail
  obtain ⟨Wd, hWd⟩ : ∃ W, W = w2.alloc (Obj.cells #[.int .i64 r.client, .int .i64 r.num, .int .i64 r.op.kind, .int .i64 r.op.at_, .int .i64 r.op.snap, .string r.op.data] 104) := ⟨_, rfl⟩
  rw [← hWd]
  have hbw : Below w2.heap.size w2 Wd := by rw [hWd]; exact below_alloc _ _
  have hq : Blk Wd w2.heap.size 104 #[.int .i64 r.client, .int .i64 r.num, .int .i64 r.op.kind, .int .i64 r.op.at_, .int .i64 r.op.snap, .string r.op.data] := by rw [hWd]; exact Blk.new _ _ _
  have hs := hs2.same hbw
  have hz := hz2.same hbw
  have hb := hb2.trans (hbw.mono hb2.size)
  clear hs2 hz2 hb2 hbw hWd
  have z0 := hz.cell 0
  have z1 := hz.cell 1
  have z2 := hz.cell 2
  simp only [List.getElem?_toArray, List.getElem?_cons_zero, List.getElem?_cons_succ] at z0 z1 z2
  have zz := hz.frozen
  have zl := hz.lt
  have s0 := hs.cell 0
  have s1 := hs.cell 1
  have s2 := hs.cell 2
  simp only [List.getElem?_toArray, List.getElem?_cons_zero, List.getElem?_cons_succ] at s0 s1 s2
  have sz := hs.frozen
  have sl := hs.lt
  have q0 := hq.cell 0
  have q1 := hq.cell 1
  have q2 := hq.cell 2
  have q3 := hq.cell 3
  have q4 := hq.cell 4
  have q5 := hq.cell 5
  simp only [List.getElem?_toArray, List.getElem?_cons_zero, List.getElem?_cons_succ] at q0 q1 q2 q3 q4 q5
  have ql := hq.lt
  have HVW := Lib.hid (HV.out.below hb)
  have HS := Lib.hid (And.intro hs (And.intro hz (And.intro hq hb)))
  clear hs hz hq hb
  go_upto_region 7 with fail
  go_cut [9] (fun p wx => ∃ g nu su lu, p = .pointer (some ⟨g, 0, none⟩) ∧ Apl Wd x g nu su lu wx)
  case first =>
    go_region_with (first
      | (go_at_call 58; refine (copyVol_c _ _ x.volume _ B ?_).mono ?_; (first | exact HVW.out.vol.drewN 1 | exact (HVW.out.vol.alloc _).drewN 1 | exact (HVW.out.vol.drewN 1).alloc _); rintro en wa ⟨⟨nu, su, rfl, hu⟩, ha⟩
         refine use (P := Below Wd.heap.size Wd wa) ?_ ?_
         (first | exact (below_drewN (Below.refl _ _) 1).trans ha | exact (below_drewN (below_alloc Wd (Obj.cells #[.slice none 0 0, .slice none 0 0, .slice none 0 0] 65)) 1).trans (ha.mono (Nat.le_succ_of_le (Nat.le_refl _))) | exact ((below_drewN (Below.refl _ _) 1).alloc (Nat.le_refl _) (Obj.cells #[.slice none 0 0, .slice none 0 0, .slice none 0 0] 65)).trans (ha.mono (by simp)))
         intro hA
         refine use (P := OwnVol wa Wd.heap.size nu su x.volume) ?_ ?_
         (first | exact hu | exact hu.base_ (by simp))
         clear hu; intro hu
         obtain ⟨A3, n3, c3, rfl⟩ := hu.is.now.form
         obtain ⟨A4, n4, c4, rfl⟩ := hu.is.snaps.form
         have HA := Lib.hid hA
         have HU := Lib.hid hu
         have t2 := (hA.cell (p := ⟨w.heap.size, 2, none⟩) sl).trans s2
         have hal := hA.size
         have tl : w.heap.size < wa.heap.size := Nat.lt_of_lt_of_le sl hA.size
         have tz := (hA.cell (p := ⟨w.heap.size, 0, none⟩) sl).trans s0
         (try (refine use (P := Blk wa Wd.heap.size 65 #[.slice none 0 0, .slice none 0 0, .slice none 0 0]) ?_ ?_; (first | exact ((Blk.new Wd _ _).drew).same ha | exact (Blk.new (Wd.drewN 1) _ _).same ha); intro hbo; have HBOa := Lib.hid hbo; clear hbo))
         clear hu ha hA)
      | (go_at_call 79; refine (cloneLasts_c _ x.lasts _ B ?_).mono ?_; (first | exact HVW.out.lasts.below HA.out | exact (HVW.out.lasts.below HA.out).alloc _); rintro en wb ⟨⟨lu, rfl, hl⟩, hb⟩
         refine use (P := Below wa.heap.size wa wb) ?_ ?_
         (first | exact hb | exact (below_alloc wa (Obj.cells #[.slice none 0 0, .slice none 0 0, .slice none 0 0] 65)).trans (hb.mono (by simp)))
         intro hB
         refine use (P := OwnLasts wb Wd.heap.size lu x.lasts) ?_ ?_
         (first | exact hl.base_ HA.out.size | exact hl.base_ (Nat.le_trans HA.out.size (by simp)))
         clear hl; intro hl
         obtain ⟨A5, n5, c5, rfl⟩ := hl.is.form
         have HUb := Lib.hid (HU.out.below hB)
         have HLb := Lib.hid hl
         have HB := Lib.hid (HA.out.trans (hB.mono HA.out.size))
         have hbl := hB.size
         (try (have HBO := Lib.hid (show Blk wb Wd.heap.size 65 #[.slice none 0 0, .slice none 0 0, .slice none 0 0] from HBOa.out.same hB); have b0 := HBO.out.cell 0; have b1 := HBO.out.cell 1; have b2 := HBO.out.cell 2; simp only [List.getElem?_toArray, List.getElem?_cons_zero, List.getElem?_cons_succ] at b0 b1 b2; have bz := HBO.out.frozen; have bl := HBO.out.lt))
         (try (have HBO := Lib.hid (show Blk wb wa.heap.size 65 #[.slice none 0 0, .slice none 0 0, .slice none 0 0] from (Blk.new wa _ _).same hb); have b0 := HBO.out.cell 0; have b1 := HBO.out.cell 1; have b2 := HBO.out.cell 2; simp only [List.getElem?_toArray, List.getElem?_cons_zero, List.getElem?_cons_succ] at b0 b1 b2; have bz := HBO.out.frozen; have bl := HBO.out.lt))
         clear hl hb hB)
      | (go_at_call 79; refine (cloneLasts_c _ x.lasts _ B ?_).mono ?_; (first | exact HVW.out.lasts.drewN 1 | exact (HVW.out.lasts.alloc _).drewN 1 | exact (HVW.out.lasts.drewN 1).alloc _); rintro en wa ⟨⟨lu, rfl, hl⟩, ha⟩
         refine use (P := Below Wd.heap.size Wd wa) ?_ ?_
         (first | exact (below_drewN (Below.refl _ _) 1).trans ha | exact (below_drewN (below_alloc Wd (Obj.cells #[.slice none 0 0, .slice none 0 0, .slice none 0 0] 65)) 1).trans (ha.mono (Nat.le_succ_of_le (Nat.le_refl _))) | exact ((below_drewN (Below.refl _ _) 1).alloc (Nat.le_refl _) (Obj.cells #[.slice none 0 0, .slice none 0 0, .slice none 0 0] 65)).trans (ha.mono (by simp)))
         intro hA
         refine use (P := OwnLasts wa Wd.heap.size lu x.lasts) ?_ ?_
         (first | exact hl | exact hl.base_ (by simp))
         clear hl; intro hl
         obtain ⟨A5, n5, c5, rfl⟩ := hl.is.form
         have HA := Lib.hid hA
         have HL := Lib.hid hl
         have t0 := (hA.cell (p := ⟨w.heap.size, 0, none⟩) sl).trans s0
         have t1 := (hA.cell (p := ⟨w.heap.size, 1, none⟩) sl).trans s1
         have hal := hA.size
         have tl : w.heap.size < wa.heap.size := Nat.lt_of_lt_of_le sl hA.size
         have tz := (hA.cell (p := ⟨w.heap.size, 0, none⟩) sl).trans s0
         (try (refine use (P := Blk wa Wd.heap.size 65 #[.slice none 0 0, .slice none 0 0, .slice none 0 0]) ?_ ?_; (first | exact ((Blk.new Wd _ _).drew).same ha | exact (Blk.new (Wd.drewN 1) _ _).same ha); intro hbo; have HBOa := Lib.hid hbo; clear hbo))
         clear hl ha hA)
      | (go_at_call 58; refine (copyVol_c _ _ x.volume _ B ?_).mono ?_; (first | exact HVW.out.vol.below HA.out | exact (HVW.out.vol.below HA.out).alloc _); rintro en wb ⟨⟨nu, su, rfl, hu⟩, hb⟩
         refine use (P := Below wa.heap.size wa wb) ?_ ?_
         (first | exact hb | exact (below_alloc wa (Obj.cells #[.slice none 0 0, .slice none 0 0, .slice none 0 0] 65)).trans (hb.mono (by simp)))
         intro hB
         refine use (P := OwnVol wb Wd.heap.size nu su x.volume) ?_ ?_
         (first | exact hu.base_ HA.out.size | exact hu.base_ (Nat.le_trans HA.out.size (by simp)))
         clear hu; intro hu
         obtain ⟨A3, n3, c3, rfl⟩ := hu.is.now.form
         obtain ⟨A4, n4, c4, rfl⟩ := hu.is.snaps.form
         have HUb := Lib.hid hu
         have HLb := Lib.hid (HL.out.below hB)
         have HB := Lib.hid (HA.out.trans (hB.mono HA.out.size))
         have hbl := hB.size
         (try (have HBO := Lib.hid (show Blk wb Wd.heap.size 65 #[.slice none 0 0, .slice none 0 0, .slice none 0 0] from HBOa.out.same hB); have b0 := HBO.out.cell 0; have b1 := HBO.out.cell 1; have b2 := HBO.out.cell 2; simp only [List.getElem?_toArray, List.getElem?_cons_zero, List.getElem?_cons_succ] at b0 b1 b2; have bz := HBO.out.frozen; have bl := HBO.out.lt))
         (try (have HBO := Lib.hid (show Blk wb wa.heap.size 65 #[.slice none 0 0, .slice none 0 0, .slice none 0 0] from (Blk.new wa _ _).same hb); have b0 := HBO.out.cell 0; have b1 := HBO.out.cell 1; have b2 := HBO.out.cell 2; simp only [List.getElem?_toArray, List.getElem?_cons_zero, List.getElem?_cons_succ] at b0 b1 b2; have bz := HBO.out.frozen; have bl := HBO.out.lt))
         clear hu hb hB))
    all_goals
      go_wp2_with fail
      go_meet
      first
        | exact ⟨_, _, _, _, rfl, apl_new HB.out HUb.out HLb.out⟩
        | exact ⟨_, _, _, _, rfl, apl_set HB.out HUb.out HLb.out HBO.out (by omega)⟩
  case rest =>
  obtain ⟨g, nu, su, lu, rfl, hA⟩ := hcut
  obtain ⟨A3, n3, c3, rfl⟩ := hA.vol.is.now.form
  obtain ⟨A4, n4, c4, rfl⟩ := hA.vol.is.snaps.form
  obtain ⟨gl, cl, cur, rfl, hgl, hbl, hcl⟩ := hA.lasts.at_ (by omega)
  have hlow := hA.low
  have hs := HS.out.1.same hlow
  have hz := HS.out.2.1.same hlow
  have hq := HS.out.2.2.1.same hlow
  have hwd := HS.out.2.2.2.size
  have hb := HS.out.2.2.2.trans (hlow.mono hwd)
  have ho := hA.out
  have hzl0 := zl
  have hql0 := ql
  clear s0 s1 s2 sz sl z0 z1 z2 zz zl q0 q1 q2 q3 q4 q5 ql
  have s0 := hs.cell 0
  have s1 := hs.cell 1
  have s2 := hs.cell 2
  simp only [List.getElem?_toArray, List.getElem?_cons_zero, List.getElem?_cons_succ] at s0 s1 s2
  have sz := hs.frozen
  have sl := hs.lt
  have z0 := hz.cell 0
  have z1 := hz.cell 1
  have z2 := hz.cell 2
  simp only [List.getElem?_toArray, List.getElem?_cons_zero, List.getElem?_cons_succ] at z0 z1 z2
  have zz := hz.frozen
  have zl := hz.lt
  have q0 := hq.cell 0
  have q1 := hq.cell 1
  have q2 := hq.cell 2
  have q3 := hq.cell 3
  have q4 := hq.cell 4
  have q5 := hq.cell 5
  simp only [List.getElem?_toArray, List.getElem?_cons_zero, List.getElem?_cons_succ] at q0 q1 q2 q3 q4 q5
  have ql := hq.lt
  have o0 := ho.cell 0
  have o1 := ho.cell 1
  have o2 := ho.cell 2
  simp only [List.getElem?_toArray, List.getElem?_cons_zero, List.getElem?_cons_succ] at o0 o1 o2
  have oz := ho.frozen
  have ol := ho.lt
  have hk := HK.out
  rw [hk] at q0
  obtain ⟨⟨A, c, e, _, hr⟩, _⟩ := HV.out.lasts.below hb
  obtain ⟨gi, oi, rfl, hgi, hm0, _⟩ := last_get hr hk4
  obtain rfl : A2 = some ⟨gi, oi, none⟩ := by cases e; rfl
  obtain ⟨ln, hln⟩ : ∃ n, n = x.lasts[k].num := ⟨_, rfl⟩
  rw [← hln] at hm0
  have HLN := Lib.hid hln
  have hgo := hA.lo
  have HA := Lib.hid hA
  have HB := Lib.hid hb
  have HZ := Lib.hid hz
  have HQ := Lib.hid hq
  have HBL := Lib.hid hbl
  have HCL := Lib.hid hcl
  have hgl0 := hbl.lt
  clear hs hz hq hb ho hr e hln hA hlow hk hbl hcl
  by_cases hle : r.num ≤ ln
  · have hap : Scu.applyIt x r = x := by
      unfold Scu.applyIt
      rw [HK.out, show ((k : Int) + 1 - 1).toNat = k by omega, List.getD_eq_getElem?_getD, List.getElem?_eq_getElem hk4, Option.getD_some, if_pos (by rw [← HLN.out]; exact hle)]
    go_wp2_with fail
    go_quiet (fail)
    go_wp2_with fail
    have hz' : Blk (wc.drewN nq) (w.heap.size + 1) 65 #[.slice none 0 0, .slice none 0 0, .slice none 0 0] := HZ.out
    have hr := blk_set3 (a := .slice A3 n3 c3) (b := .slice A4 n4 c4) (c := .slice (some ⟨gl, 0, none⟩) x.lasts.length cl) hz'
    have r0 := hr.cell 0
    have r1 := hr.cell 1
    have r2 := hr.cell 2
    simp only [List.getElem?_toArray, List.getElem?_cons_zero, List.getElem?_cons_succ] at r0 r1 r2
    refine bodyPost_ret (v := .tuple #[.agg #[.slice A3 n3 c3, .slice A4 n4 c4, .slice (some ⟨gl, 0, none⟩) x.lasts.length cl], .int .i64 0]) (by simp [results, Try.results36, go_sem, r0, r1, r2]) rfl ?_
    exact ⟨by rw [hap]; exact ⟨_, _, _, rfl, IsState.sets3 (w := wc.drewN nq) ⟨HA.out.vol.is.drewN nq, HA.out.lasts.is.drewN nq⟩ hz' _ _ _⟩, below_set3 (below_drewN HB.out nq) (by omega)⟩
  · have hap : Scu.applyIt x r = ⟨(Scu.doIt x.volume r.op).1, x.lasts.set k ⟨r.num, (Scu.doIt x.volume r.op).2⟩⟩ := by
      unfold Scu.applyIt
      rw [HK.out, show ((k : Int) + 1 - 1).toNat = k by omega, List.getD_eq_getElem?_getD, List.getElem?_eq_getElem hk4, Option.getD_some, if_neg (by rw [← HLN.out]; exact hle)]
    have hdo := vd3 HVF.out HOF.out
    generalize Scu.doIt x.volume r.op = q at hap hdo
    obtain ⟨y, ⟨rc, rn, rd⟩⟩ := q
    simp only at hap hdo
    have HDO := Lib.hid hdo
    have HAP := Lib.hid hap
    have hgt : ln < r.num := by omega
    clear hap hdo hle
    go_wp2_with fail
    go_quiet (fail)
    go_wp2_with fail
    refine (volDo_a _ _ x.volume r.op.kind r.op.at_ r.op.snap r.op.data _ 0 (HA.out.vol.is.drewN nq) y rc rn rd 0 HDO.out).mono ?_; rintro en w4 ⟨⟨na, sa, rfl, ha⟩, h4⟩
    have h4 : Below wc.heap.size wc w4 := (below_drewN (Below.refl _ _) nq).trans h4
    obtain ⟨A6, n6, c6, rfl⟩ := ha.is.now.form
    obtain ⟨A7, n7, c7, rfl⟩ := ha.is.snaps.form
    go_upto_region 11 with fail
    obtain ⟨Wf, hWf⟩ : ∃ W, W = (w4.alloc (Obj.cells #[.slice A6 n6 c6, .slice A7 n7 c7] 38)).alloc (Obj.cells #[.int .i64 rc, .int .i64 rn, .string rd] 43) := ⟨_, rfl⟩
    rw [← hWf]
    have hbf : Below w4.heap.size w4 Wf := by rw [hWf]; exact (below_alloc w4 _).alloc (by simp) _
    have hyv : Blk Wf w4.heap.size 38 #[.slice A6 n6 c6, .slice A7 n7 c7] := by rw [hWf]; exact (Blk.new w4 _ _).alloc _
    have hyr : Blk Wf (w4.heap.size + 1) 43 #[.int .i64 rc, .int .i64 rn, .string rd] := by rw [hWf]; exact Blk.new' (by simp)
    have h4s := h4.size
    have hcf := h4.trans (hbf.mono h4s)
    have hz := HZ.out.same hcf
    have hq := HQ.out.same hcf
    have ho := HA.out.out.same hcf
    have hbl := HBL.out.same hcf
    have hvl := ha.below hbf
    have hll := HA.out.lasts.below hcf
    have hbb := HB.out.trans (hcf.mono HB.out.size)
    have e : ∀ j, j < 4 → (x.lasts.flatMap lastC)[k * 4 + j]? = (lastC x.lasts[k])[j]? := fun j hj => flat_get lastC 4 (fun _ => rfl) x.lasts k j hk4 hj
    have l0 : Wf.cell? ⟨gl, k * 4, none⟩ = some (.int .i64 x.lasts[k].num) := ((hcf.cell (p := ⟨gl, k * 4, none⟩) hgl0).trans (HCL.out (k * 4) (by omega))).trans (e 0 (by omega))
    have l1 : Wf.cell? ⟨gl, k * 4 + 1, none⟩ = some (.int .i64 x.lasts[k].reply.code) := ((hcf.cell (p := ⟨gl, k * 4 + 1, none⟩) hgl0).trans (HCL.out (k * 4 + 1) (by omega))).trans (e 1 (by omega))
    have l2 : Wf.cell? ⟨gl, k * 4 + 2, none⟩ = some (.int .i64 x.lasts[k].reply.n) := ((hcf.cell (p := ⟨gl, k * 4 + 2, none⟩) hgl0).trans (HCL.out (k * 4 + 2) (by omega))).trans (e 2 (by omega))
    have l3 : Wf.cell? ⟨gl, k * 4 + 3, none⟩ = some (.string x.lasts[k].reply.data) := ((hcf.cell (p := ⟨gl, k * 4 + 3, none⟩) hgl0).trans (HCL.out (k * 4 + 3) (by omega))).trans (e 3 (by omega))
    have lz := hbl.frozen
    have ll := hbl.lt
    have hgg : gl ≠ g := by
      rintro rfl
      unfold Blk at hbl ho
      rw [hbl] at ho
      cases ho
    have hgg' : g ≠ gl := fun e => hgg e.symm
    have hgc := ol
    clear s0 s1 s2 sz sl z0 z1 z2 zz zl q0 q1 q2 q3 q4 q5 ql o0 o1 o2 oz ol hm0 e hWf h4
    have z0 := hz.cell 0
    have z1 := hz.cell 1
    have z2 := hz.cell 2
    simp only [List.getElem?_toArray, List.getElem?_cons_zero, List.getElem?_cons_succ] at z0 z1 z2
    have zz := hz.frozen
    have zl := hz.lt
    have q0 := hq.cell 0
    have q1 := hq.cell 1
    have q2 := hq.cell 2
    have q3 := hq.cell 3
    have q4 := hq.cell 4
    have q5 := hq.cell 5
    simp only [List.getElem?_toArray, List.getElem?_cons_zero, List.getElem?_cons_succ] at q0 q1 q2 q3 q4 q5
    have ql := hq.lt
    have o0 := ho.cell 0
    have o1 := ho.cell 1
    have o2 := ho.cell 2
    simp only [List.getElem?_toArray, List.getElem?_cons_zero, List.getElem?_cons_succ] at o0 o1 o2
    have oz := ho.frozen
    have ol := ho.lt
    rw [HK.out] at q0
    have v0 := hyv.cell 0
    have v1 := hyv.cell 1
    have y0 := hyr.cell 0
    have y1 := hyr.cell 1
    have y2 := hyr.cell 2
    simp only [List.getElem?_toArray, List.getElem?_cons_zero, List.getElem?_cons_succ] at v0 v1 y0 y1 y2
    have hvlt := hyv.lt
    have hylt := hyr.lt
    have hg1 : g ≠ w.heap.size + 1 := by omega
    have hg2 : g ≠ w2.heap.size := by omega
    have hg3 : g ≠ w4.heap.size := by omega
    have hg4 : g ≠ w4.heap.size + 1 := by omega
    have hl1 : gl ≠ w.heap.size + 1 := by omega
    have hl2 : gl ≠ w2.heap.size := by omega
    have hl3 : gl ≠ w4.heap.size := by omega
    have hl5 : gl ≠ w4.heap.size + 1 := by omega
    have HX := Lib.hid (And.intro hz (And.intro ho (And.intro hbl (And.intro hvl (And.intro hll hbb)))))
    clear hz hq ho hbl hvl hll hbb hyv hyr hcf hbf ha
    go_region
    obtain ⟨Wg, hWg⟩ : ∃ W, W = ((((((Wf.setCell ⟨g, 0, none⟩ (.slice A6 n6 c6)).setCell ⟨g, 1, none⟩ (.slice A7 n7 c7)).setCell ⟨gl, k * 4, none⟩ (.int .i64 r.num)).setCell ⟨gl, k * 4 + 1, none⟩ (.int .i64 rc)).setCell ⟨gl, k * 4 + 2, none⟩ (.int .i64 rn)).setCell ⟨gl, k * 4 + 3, none⟩ (.string rd)).drew := ⟨_, rfl⟩
    rw [← hWg]
    obtain ⟨hz, ho, hbl, hvl, hll, hbb⟩ := HX.out
    have hbl2 := (hbl.far (p := ⟨g, 0, none⟩) hgg (.slice A6 n6 c6)).far (p := ⟨g, 1, none⟩) hgg (.slice A7 n7 c7)
    have hs1 : Same [9, 26] 0 Wf ((Wf.setCell ⟨g, 0, none⟩ (.slice A6 n6 c6)).setCell ⟨g, 1, none⟩ (.slice A7 n7 c7)) := Same.sets2 ho (Nat.zero_le _) (by decide) _ _
    have hs2 : Same [109] 0 Wf ((Wf.setCell ⟨g, 0, none⟩ (.slice A6 n6 c6)).setCell ⟨g, 1, none⟩ (.slice A7 n7 c7)) := Same.sets2 ho (Nat.zero_le _) (by decide) _ _
    have hs3 := Same.put4 (Ts := [9, 26]) (B := 0) hbl2 (Nat.zero_le _) (by decide) k ⟨r.num, ⟨rc, rn, rd⟩⟩
    have hV : OwnVol Wg wc.heap.size (.slice A6 n6 c6) (.slice A7 n7 c7) y := by rw [hWg]; exact ((hvl.same hs1).same hs3).below (Below.refl _ _).drew
    have hL : OwnLasts Wg Wd.heap.size (.slice (some ⟨gl, 0, none⟩) x.lasts.length cl) (x.lasts.set k ⟨r.num, ⟨rc, rn, rd⟩⟩) := by rw [hWg]; exact ((hll.same hs2).put k ⟨r.num, ⟨rc, rn, rd⟩⟩).below (Below.refl _ _).drew
    have ho' : Blk Wg g 65 #[.slice A6 n6 c6, .slice A7 n7 c7, .slice (some ⟨gl, 0, none⟩) x.lasts.length cl] := by
      rw [hWg]
      exact (((((ho.set_ 0 (.slice A6 n6 c6)).set_ 1 (.slice A7 n7 c7)).far (p := ⟨gl, k * 4, none⟩) hgg' _).far (p := ⟨gl, k * 4 + 1, none⟩) hgg' _).far (p := ⟨gl, k * 4 + 2, none⟩) hgg' _ |>.far (p := ⟨gl, k * 4 + 3, none⟩) hgg' _).drew
    have hz2 : Blk Wg (w.heap.size + 1) 65 #[.slice none 0 0, .slice none 0 0, .slice none 0 0] := by
      rw [hWg]
      exact (((((hz.far (p := ⟨g, 0, none⟩) (fun e => hg1 e.symm) _).far (p := ⟨g, 1, none⟩) (fun e => hg1 e.symm) _).far (p := ⟨gl, k * 4, none⟩) (fun e => hl1 e.symm) _).far (p := ⟨gl, k * 4 + 1, none⟩) (fun e => hl1 e.symm) _).far (p := ⟨gl, k * 4 + 2, none⟩) (fun e => hl1 e.symm) _ |>.far (p := ⟨gl, k * 4 + 3, none⟩) (fun e => hl1 e.symm) _).drew
    have hB2 : Below w.heap.size w Wg := by
      have q1 : w.heap.size ≤ g := by omega
      have q2 : w.heap.size ≤ gl := by omega
      rw [hWg]
      exact ((((((hbb.setCell (p := ⟨g, 0, none⟩) q1 _).setCell (p := ⟨g, 1, none⟩) q1 _).setCell (p := ⟨gl, k * 4, none⟩) q2 _).setCell (p := ⟨gl, k * 4 + 1, none⟩) q2 _).setCell (p := ⟨gl, k * 4 + 2, none⟩) q2 _).setCell (p := ⟨gl, k * 4 + 3, none⟩) q2 _).drew
    clear l0 l1 l2 l3 lz ll z0 z1 z2 zz zl q0 q1 q2 q3 q4 q5 ql o0 o1 o2 oz ol v0 v1 y0 y1 y2 hvlt hylt hz ho hbl hvl hll hbb hbl2 hs1 hs2 hs3 HX hWg
    have z0 := hz2.cell 0
    have z1 := hz2.cell 1
    have z2 := hz2.cell 2
    simp only [List.getElem?_toArray, List.getElem?_cons_zero, List.getElem?_cons_succ] at z0 z1 z2
    have zz := hz2.frozen
    have zl := hz2.lt
    have o0 := ho'.cell 0
    have o1 := ho'.cell 1
    have o2 := ho'.cell 2
    simp only [List.getElem?_toArray, List.getElem?_cons_zero, List.getElem?_cons_succ] at o0 o1 o2
    have oz := ho'.frozen
    have ol := ho'.lt
    have HV2 := Lib.hid hV
    have HL2 := Lib.hid hL
    have HB2 := Lib.hid hB2
    have HZ2 := Lib.hid hz2
    clear hV hL hB2 hz2 ho'
    go_wp2
    have hr := blk_set3 (a := .slice A6 n6 c6) (b := .slice A7 n7 c7) (c := .slice (some ⟨gl, 0, none⟩) x.lasts.length cl) HZ2.out
    have r0 := hr.cell 0
    have r1 := hr.cell 1
    have r2 := hr.cell 2
    simp only [List.getElem?_toArray, List.getElem?_cons_zero, List.getElem?_cons_succ] at r0 r1 r2
    refine bodyPost_ret (v := .tuple #[.agg #[.slice A6 n6 c6, .slice A7 n7 c7, .slice (some ⟨gl, 0, none⟩) x.lasts.length cl], .int .i64 0]) (by simp [results, Try.results36, go_sem, r0, r1, r2]) rfl ?_
    exact ⟨by rw [HAP.out]; exact ⟨_, _, _, rfl, IsState.sets3 ⟨HV2.out.is, HL2.out.is⟩ HZ2.out _ _ _⟩, below_set3 HB2.out (by omega)⟩
theorem apply_c (nv sv lv : Value) (x : Scu.State) (s : Scu.Str) (w : World) (B : Nat) (hv : IsState w B nv sv lv x) :
    Calls Try.prog 36 #[.agg #[nv, sv, lv], .string s] w fun e w' => AppRet w' (Scu.apply x s).1 (Scu.apply x s).2 e ∧ Below w.heap.size w w' := by
  obtain ⟨A0, n0, c0, rfl⟩ := hv.vol.now.form
  obtain ⟨A1, n1, c1, rfl⟩ := hv.vol.snaps.form
  obtain ⟨A2, n2, c2, rfl⟩ := hv.lasts.form
  by_cases hf : Scu.stateFault x ≠ 0
  · rw [ap1 hf]
    exact apply_e1 A0 n0 c0 A1 n1 c1 A2 n2 c2 x s w B hv hf
  obtain ⟨q, hd⟩ : ∃ q, Scu.decode s = q := ⟨_, rfl⟩
  obtain ⟨r, c⟩ := q
  by_cases hc : c = 0
  · subst hc
    rw [ap3 hf hd]
    obtain ⟨h1, h2, _⟩ := Scu.reqFault_ok (decode_req hd)
    have h4 := (stateFault_ok hf).1
    obtain ⟨k, hk⟩ : ∃ k : Nat, r.client = (k : Int) + 1 := ⟨(r.client - 1).toNat, by omega⟩
    exact apply_3 A0 n0 c0 A1 n1 c1 A2 n2 c2 x s r k w B hv hf hd hk (by omega)
  · rw [ap2 hf hd hc]
    exact apply_e2 A0 n0 c0 A1 n1 c1 A2 n2 c2 x s r c w B hv hf hd hc
end Go.Proofs.Ytioajgcbchdpeaa

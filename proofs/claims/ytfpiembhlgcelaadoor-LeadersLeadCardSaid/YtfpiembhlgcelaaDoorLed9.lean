/- Part 9: words and walks under the law 'LeadersLead'. -/
import Derived.Test.YtfpiembhlgcelaaDoorLed8
import Derived.Test.YtfpiembhlgcelaaDoorLed7
import Derived.Deep.DeepCutAuto
import Derived.Deep.RegionHeld3
import Derived.Deep.RegionLaw
set_option linter.unusedVariables false
set_option linter.unusedSimpArgs false
/- Walks: replica.Copy. -/
namespace Go.Proofs.YtfpiembhlgcelaaDoor
open Go.RowKit
set_option maxHeartbeats 1000000
set_option maxRecDepth 100000
theorem use {P Q : Prop} (h : P) (k : P → Q) : Q := k h
theorem repCopy_c (A0 : Option Addr) (n0 c0 : Nat) (A1 : Option Addr) (n1 c1 : Nat) (A2 : Option Addr) (n2 c2 : Nat) (A3 : Option Addr) (n3 c3 : Nat) (A4 : Option Addr) (n4 c4 : Nat) (r : Scu.Replica) (w : World) (B : Nat) (hr : IsRep w B (.slice A0 n0 c0) (.slice A1 n1 c1) (.slice A2 n2 c2) (.slice A3 n3 c3) (.slice A4 n4 c4) r) :
    Calls Tryd.prog 85 #[.agg #[.int .i64 r.me, .int .i64 r.kept.view, .int .i64 r.kept.normal, .bool r.kept.calm, .slice A0 n0 c0, .int .i64 r.kept.commit, .slice A1 n1 c1, .slice A2 n2 c2, .slice A3 n3 c3, .slice A4 n4 c4]] w fun e w' => RepRet w' w.heap.size r e ∧ Below w.heap.size w w' := by
  have HV := Lib.hid hr
  clear hr
  go_enter Tryd.func85, Tryd.ntmps85
  go_upto_region 1 with fail
  obtain ⟨Wd, hWd⟩ : ∃ W, W = (w.alloc (Obj.cells #[.int .i64 r.me, .int .i64 r.kept.view, .int .i64 r.kept.normal, .bool r.kept.calm, .slice A0 n0 c0, .int .i64 r.kept.commit, .slice A1 n1 c1, .slice A2 n2 c2, .slice A3 n3 c3, .slice A4 n4 c4] 81)).alloc (Obj.cells #[.int .i64 0, .int .i64 0, .int .i64 0, .bool false, .slice none 0 0, .int .i64 0, .slice none 0 0, .slice none 0 0, .slice none 0 0, .slice none 0 0] 81) := ⟨_, rfl⟩
  rw [← hWd]
  have hb : Below w.heap.size w Wd := by rw [hWd]; exact (below_alloc w _).alloc (by simp) _
  have hs : Blk Wd w.heap.size 81 #[.int .i64 r.me, .int .i64 r.kept.view, .int .i64 r.kept.normal, .bool r.kept.calm, .slice A0 n0 c0, .int .i64 r.kept.commit, .slice A1 n1 c1, .slice A2 n2 c2, .slice A3 n3 c3, .slice A4 n4 c4] := by rw [hWd]; exact (Blk.new w _ _).alloc _
  have hz : Blk Wd (w.heap.size + 1) 81 #[.int .i64 0, .int .i64 0, .int .i64 0, .bool false, .slice none 0 0, .int .i64 0, .slice none 0 0, .slice none 0 0, .slice none 0 0, .slice none 0 0] := by rw [hWd]; exact Blk.new' (by simp)
  have s0 := hs.cell 0
  have s1 := hs.cell 1
  have s2 := hs.cell 2
  have s3 := hs.cell 3
  have s4 := hs.cell 4
  have s5 := hs.cell 5
  have s6 := hs.cell 6
  have s7 := hs.cell 7
  have s8 := hs.cell 8
  have s9 := hs.cell 9
  simp only [List.getElem?_toArray, List.getElem?_cons_zero, List.getElem?_cons_succ] at s0 s1 s2 s3 s4 s5 s6 s7 s8 s9
  have sz := hs.frozen
  have sl := hs.lt
  have hzl := hz.lt
  have HR0 := Lib.hid (HV.out.below hb)
  have HS := Lib.hid (And.intro hs (And.intro hz hb))
  clear hs hz hb hWd
  go_cut [3] (fun p wx => ∃ g lu hv wv nv, p = .pointer (some ⟨g, 0, none⟩) ∧ Rep0 Wd r g lu hv wv nv wx)
  case first =>
    go_region_held3 (fun w' => w'.cell? ⟨w.heap.size, 0, none⟩ = some (.int .i64 r.me) ∧ w'.cell? ⟨w.heap.size, 1, none⟩ = some (.int .i64 r.kept.view) ∧ w'.cell? ⟨w.heap.size, 2, none⟩ = some (.int .i64 r.kept.normal) ∧ w'.cell? ⟨w.heap.size, 3, none⟩ = some (.bool r.kept.calm) ∧ w'.cell? ⟨w.heap.size, 4, none⟩ = some (.slice A0 n0 c0) ∧ w'.cell? ⟨w.heap.size, 5, none⟩ = some (.int .i64 r.kept.commit) ∧ w'.cell? ⟨w.heap.size, 6, none⟩ = some (.slice A1 n1 c1) ∧ w'.cell? ⟨w.heap.size, 7, none⟩ = some (.slice A2 n2 c2) ∧ w'.cell? ⟨w.heap.size, 9, none⟩ = some (.slice A4 n4 c4)) (first | (go_split_ands; (try dsimp only); (repeat' apply And.intro) <;> first | (with_reducible refine ((below_set10 M4.out ?_).cell sl).trans ?_ <;> first | assumption | omega) | (with_reducible refine (M4.out.cell sl).trans ?_; assumption) | (with_reducible refine ((M4.out.alloc M4.out.size _).cell sl).trans ?_; assumption) | (with_reducible refine (M3.out.cell sl).trans ?_; assumption) | (with_reducible refine ((M3.out.alloc M3.out.size _).cell sl).trans ?_; assumption) | (with_reducible refine (M2.out.cell sl).trans ?_; assumption) | (with_reducible refine ((M2.out.alloc M2.out.size _).cell sl).trans ?_; assumption) | (with_reducible refine (M1.out.cell sl).trans ?_; assumption) | (with_reducible refine ((M1.out.alloc M1.out.size _).cell sl).trans ?_; assumption) | (with_reducible refine ((below_alloc Wd _).cell sl).trans ?_; assumption)) | go_keep | (go_split_ands; (try dsimp only); (repeat' apply And.intro) <;> go_keep))
      (first
      | (go_at_call 75; refine (stageCopy_c _ r.kept _ B ?_).mono ?_; (first | exact HR0.out.log.drewN 1 | exact (HR0.out.log.alloc _).drewN 1 | exact (HR0.out.log.drewN 1).alloc _); rintro en x1 ⟨⟨v1, rfl, hu⟩, k1⟩
         refine use (P := Below Wd.heap.size Wd x1) ?_ ?_
         (first | exact (below_drewN (Below.refl _ _) 1).trans k1 | exact (below_drewN (below_alloc Wd (Obj.cells #[.int .i64 0, .int .i64 0, .int .i64 0, .bool false, .slice none 0 0, .int .i64 0, .slice none 0 0, .slice none 0 0, .slice none 0 0, .slice none 0 0] 81)) 1).trans (k1.mono (Nat.le_succ_of_le (Nat.le_refl _))) | exact ((below_drewN (Below.refl _ _) 1).alloc (Nat.le_refl _) (Obj.cells #[.int .i64 0, .int .i64 0, .int .i64 0, .bool false, .slice none 0 0, .int .i64 0, .slice none 0 0, .slice none 0 0, .slice none 0 0, .slice none 0 0] 81)).trans (k1.mono (by simp)))
         intro nn1
         have N1 := Lib.hid nn1
         have M1 := Lib.hid (nn1)
         have sz1 := nn1.size
         have lw1 : w.heap.size < x1.heap.size := Nat.lt_of_lt_of_le sl nn1.size
         have ld1 : Wd.heap.size ≤ x1.heap.size := M1.out.size
         clear nn1
         refine use (P := OwnStrs x1 Wd.heap.size v1 r.kept.log) ?_ ?_
         (first | exact hu | exact hu.base_ (by simp))
         clear hu; intro hu
         obtain ⟨A5, n5, c5, rfl⟩ := hu.form
         have O1 := Lib.hid hu
         (try (refine use (P := Blk x1 Wd.heap.size 81 #[.int .i64 0, .int .i64 0, .int .i64 0, .bool false, .slice none 0 0, .int .i64 0, .slice none 0 0, .slice none 0 0, .slice none 0 0, .slice none 0 0]) ?_ ?_; (first | exact ((Blk.new Wd _ _).drew).same k1 | exact (Blk.new (Wd.drewN 1) _ _).same k1); intro hbo; have HBO := Lib.hid hbo; clear hbo))
         clear hu k1)
      | (go_at_call 102; refine (cloneInts_c _ r.have_ _ B ?_).mono ?_; (first | exact HR0.out.have_.below M1.out | exact (HR0.out.have_.below M1.out).alloc _); rintro en x2 ⟨⟨v2, rfl, hu⟩, k2⟩
         refine use (P := Below x1.heap.size x1 x2) ?_ ?_
         (first | exact k2 | exact (below_alloc x1 (Obj.cells #[.int .i64 0, .int .i64 0, .int .i64 0, .bool false, .slice none 0 0, .int .i64 0, .slice none 0 0, .slice none 0 0, .slice none 0 0, .slice none 0 0] 81)).trans (k2.mono (by simp)))
         intro nn2
         have N2 := Lib.hid nn2
         have M2 := Lib.hid (M1.out.trans (nn2.mono M1.out.size))
         have sz2 := nn2.size
         have lw2 : w.heap.size < x2.heap.size := Nat.lt_of_lt_of_le lw1 nn2.size
         have ld2 : Wd.heap.size ≤ x2.heap.size := M2.out.size
         clear nn2
         refine use (P := x2.ownsRow x1.heap.size 3 1 v2 r.have_.length (r.have_.map vInt)) ?_ ?_
         (first | exact hu | exact ownsRow_base hu (by simp))
         clear hu; intro hu
         obtain ⟨A6, c6, rfl, _, _, _, hlt2⟩ := rd_own hu
         have O2 := Lib.hid (ownsRow_base hu ld1)
         have L2 := Lib.hid hlt2
         clear hlt2
         (try (have hbo := HBO.out.same N2.out; have HBO := Lib.hid hbo; clear hbo))
         (try (refine use (P := Blk x2 x1.heap.size 81 #[.int .i64 0, .int .i64 0, .int .i64 0, .bool false, .slice none 0 0, .int .i64 0, .slice none 0 0, .slice none 0 0, .slice none 0 0, .slice none 0 0]) ?_ ?_; (first | exact (Blk.new x1 _ _).same k2); intro hbo; have HBO := Lib.hid hbo; clear hbo))
         clear hu k2)
      | (go_at_call 103; refine (cloneBools_c _ r.wants _ B ?_).mono ?_; (first | exact HR0.out.wants.below M2.out | exact (HR0.out.wants.below M2.out).alloc _); rintro en x3 ⟨⟨v3, rfl, hu⟩, k3⟩
         refine use (P := Below x2.heap.size x2 x3) ?_ ?_
         (first | exact k3 | exact (below_alloc x2 (Obj.cells #[.int .i64 0, .int .i64 0, .int .i64 0, .bool false, .slice none 0 0, .int .i64 0, .slice none 0 0, .slice none 0 0, .slice none 0 0, .slice none 0 0] 81)).trans (k3.mono (by simp)))
         intro nn3
         have N3 := Lib.hid nn3
         have M3 := Lib.hid (M2.out.trans (nn3.mono M2.out.size))
         have sz3 := nn3.size
         have lw3 : w.heap.size < x3.heap.size := Nat.lt_of_lt_of_le lw2 nn3.size
         have ld3 : Wd.heap.size ≤ x3.heap.size := M3.out.size
         clear nn3
         refine use (P := x3.ownsRow x2.heap.size 4 1 v3 r.wants.length (r.wants.map Value.bool)) ?_ ?_
         (first | exact hu | exact ownsRow_base hu (by simp))
         clear hu; intro hu
         obtain ⟨A7, c7, rfl, _, _, _, hlt3⟩ := rd_own hu
         have O3 := Lib.hid (ownsRow_base hu ld2)
         have L3 := Lib.hid hlt3
         clear hlt3
         (try (have hbo := HBO.out.same N3.out; have HBO := Lib.hid hbo; clear hbo))
         (try (refine use (P := Blk x3 x2.heap.size 81 #[.int .i64 0, .int .i64 0, .int .i64 0, .bool false, .slice none 0 0, .int .i64 0, .slice none 0 0, .slice none 0 0, .slice none 0 0, .slice none 0 0]) ?_ ?_; (first | exact (Blk.new x2 _ _).same k3); intro hbo; have HBO := Lib.hid hbo; clear hbo))
         clear hu k3)
      | (go_at_call 103; refine (cloneBools_c _ r.given _ B ?_).mono ?_; (first | exact HR0.out.given.below M3.out | exact (HR0.out.given.below M3.out).alloc _); rintro en x4 ⟨⟨v4, rfl, hu⟩, k4⟩
         refine use (P := Below x3.heap.size x3 x4) ?_ ?_
         (first | exact k4 | exact (below_alloc x3 (Obj.cells #[.int .i64 0, .int .i64 0, .int .i64 0, .bool false, .slice none 0 0, .int .i64 0, .slice none 0 0, .slice none 0 0, .slice none 0 0, .slice none 0 0] 81)).trans (k4.mono (by simp)))
         intro nn4
         have N4 := Lib.hid nn4
         have M4 := Lib.hid (M3.out.trans (nn4.mono M3.out.size))
         have sz4 := nn4.size
         have lw4 : w.heap.size < x4.heap.size := Nat.lt_of_lt_of_le lw3 nn4.size
         have ld4 : Wd.heap.size ≤ x4.heap.size := M4.out.size
         clear nn4
         refine use (P := x4.ownsRow x3.heap.size 4 1 v4 r.given.length (r.given.map Value.bool)) ?_ ?_
         (first | exact hu | exact ownsRow_base hu (by simp))
         clear hu; intro hu
         obtain ⟨A8, c8, rfl, _, _, _, hlt4⟩ := rd_own hu
         have O4 := Lib.hid (ownsRow_base hu ld3)
         have L4 := Lib.hid hlt4
         clear hlt4
         (try (have hbo := HBO.out.same N4.out; have HBO := Lib.hid hbo; clear hbo))
         (try (refine use (P := Blk x4 x3.heap.size 81 #[.int .i64 0, .int .i64 0, .int .i64 0, .bool false, .slice none 0 0, .int .i64 0, .slice none 0 0, .slice none 0 0, .slice none 0 0, .slice none 0 0]) ?_ ?_; (first | exact (Blk.new x3 _ _).same k4); intro hbo; have HBO := Lib.hid hbo; clear hbo))
         (try (have b0 := HBO.out.cell 0; have b1 := HBO.out.cell 1; have b2 := HBO.out.cell 2; have b3 := HBO.out.cell 3; have b4 := HBO.out.cell 4; have b5 := HBO.out.cell 5; have b6 := HBO.out.cell 6; have b7 := HBO.out.cell 7; have b8 := HBO.out.cell 8; have b9 := HBO.out.cell 9; simp only [List.getElem?_toArray, List.getElem?_cons_zero, List.getElem?_cons_succ] at b0 b1 b2 b3 b4 b5 b6 b7 b8 b9; have bz := HBO.out.frozen; have bl := HBO.out.lt))
         clear hu k4))
    all_goals
      go_wp2_with fail
      go_meet
      have O1' := (O1.out.below (N2.out.trans (N3.out.mono sz2))).below N4.out
      have O2' := own_below (own_below O2.out N3.out) N4.out
      have O3' := own_below O3.out N4.out
      have HOR : OwnRep0 x4 Wd.heap.size _ _ _ _ r := ⟨O1', ⟨O2', HV.out.have_.len⟩, ⟨O3', HV.out.wants.len⟩, ⟨O4.out, HV.out.given.len⟩, fun g h1 h2 => by have := (L3.out g h1).2; have := (L4.out g h2).1; omega⟩
      first
        | (refine ⟨x4.heap.size, .slice A5 n5 c5, .slice A6 r.have_.length c6, .slice A7 r.wants.length c7, .slice A8 r.given.length c8, rfl, ?_⟩; exact rep0_new M4.out HOR)
        | (refine ⟨Wd.heap.size, .slice A5 n5 c5, .slice A6 r.have_.length c6, .slice A7 r.wants.length c7, .slice A8 r.given.length c8, rfl, ?_⟩; exact rep0_set M4.out HOR HBO.out (Nat.le_refl _))
        | (refine ⟨x1.heap.size, .slice A5 n5 c5, .slice A6 r.have_.length c6, .slice A7 r.wants.length c7, .slice A8 r.given.length c8, rfl, ?_⟩; exact rep0_set M4.out HOR HBO.out ld1)
        | (refine ⟨x2.heap.size, .slice A5 n5 c5, .slice A6 r.have_.length c6, .slice A7 r.wants.length c7, .slice A8 r.given.length c8, rfl, ?_⟩; exact rep0_set M4.out HOR HBO.out ld2)
        | (refine ⟨x3.heap.size, .slice A5 n5 c5, .slice A6 r.have_.length c6, .slice A7 r.wants.length c7, .slice A8 r.given.length c8, rfl, ?_⟩; exact rep0_set M4.out HOR HBO.out ld3)
  case rest =>
  obtain ⟨g, lu, hv, wv, nv, rfl, hR⟩ := hcut
  obtain ⟨A5, n5, c5, rfl⟩ := hR.own.log.form
  obtain ⟨A6, n6, c6, rfl⟩ := hR.own.have_.form
  obtain ⟨A7, n7, c7, rfl⟩ := hR.own.wants.form
  obtain ⟨A8, n8, c8, rfl⟩ := hR.own.given.form
  have hlow := hR.low
  have hwd := HS.out.2.2.size
  have hs := HS.out.1.same hlow
  have hz := HS.out.2.1.same hlow
  have hb := HS.out.2.2.trans (hlow.mono hwd)
  obtain ⟨⟨Ag, cg, csg, eg, hcg, hcl, hc5, hrg, hge⟩, hgm⟩ := HV.out.gives
  obtain ⟨rfl, rfl, rfl⟩ : A3 = Ag ∧ n3 = r.gives.length ∧ c3 = cg := by cases eg; exact ⟨rfl, rfl, rfl⟩
  have hI : GivI w #[.int .i64 r.me, .int .i64 r.kept.view, .int .i64 r.kept.normal, .bool r.kept.calm, .slice A0 n0 c0, .int .i64 r.kept.commit, .slice A1 n1 c1, .slice A2 n2 c2, .slice A3 r.gives.length c3, .slice A4 n4 c4] g r (.slice A5 n5 c5) (.slice A6 n6 c6) (.slice A7 n7 c7) (.slice A8 n8 c8) 0 (.slice none 0 0) [] wc := ⟨hz, hs, hR.out, hR.own.base_ hwd, OwnKs.nil_, by have := hR.lo; omega, hb, fun c hc => by cases hc⟩
  have HI := Lib.hid hI
  have HG := Lib.hid (And.intro hcl (And.intro hc5 (And.intro hrg (And.intro hge hgm))))
  unfold R47 at hgm
  clear s0 s1 s2 s3 s4 s5 s6 s7 s8 s9 sz sl eg hcl hc5 hrg hge
  have s0 := hs.cell 0
  have s1 := hs.cell 1
  have s2 := hs.cell 2
  have s3 := hs.cell 3
  have s4 := hs.cell 4
  have s5 := hs.cell 5
  have s6 := hs.cell 6
  have s7 := hs.cell 7
  have s8 := hs.cell 8
  have s9 := hs.cell 9
  simp only [List.getElem?_toArray, List.getElem?_cons_zero, List.getElem?_cons_succ] at s0 s1 s2 s3 s4 s5 s6 s7 s8 s9
  have sz := hs.frozen
  have sl := hs.lt
  clear hs hz hb hI hR hlow
  go_wp2_with fail
  go_loopw [24] (fun i wr => ∃ (k : Nat) (Ak : Option Addr) (nk ck : Nat) (css : List (List Value)), k ≤ r.gives.length ∧ i = .int .i64 k ∧ GivI w #[.int .i64 r.me, .int .i64 r.kept.view, .int .i64 r.kept.normal, .bool r.kept.calm, .slice A0 n0 c0, .int .i64 r.kept.commit, .slice A1 n1 c1, .slice A2 n2 c2, .slice A3 r.gives.length c3, .slice A4 n4 c4] g r (.slice A5 n5 c5) (.slice A6 n6 c6) (.slice A7 n7 c7) (.slice A8 n8 c8) k (.slice Ak nk ck) css wr) (fun i _ => r.gives.length - (intOf i).toNat)
  case atStart => exact ⟨0, none, 0, 0, [], Nat.zero_le _, rfl, HI.out⟩
  case round =>
    obtain ⟨k, Ak, nk, ck, css, hk, rfl, hI⟩ := hrel
    have hlo := hI.lo
    have hout := hI.out
    have hres := hI.res
    have harg := hI.arg
    clear s0 s1 s2 s3 s4 s5 s6 s7 s8 s9 sz sl
    have o0 := hout.cell 0
    have o1 := hout.cell 1
    have o2 := hout.cell 2
    have o3 := hout.cell 3
    have o4 := hout.cell 4
    have o5 := hout.cell 5
    have o6 := hout.cell 6
    have o7 := hout.cell 7
    have o8 := hout.cell 8
    have o9 := hout.cell 9
    simp only [List.getElem?_toArray, List.getElem?_cons_zero, List.getElem?_cons_succ] at o0 o1 o2 o3 o4 o5 o6 o7 o8 o9
    have oz := hout.frozen
    have ol := hout.lt
    have hzl2 := hres.lt
    have HIr := Lib.hid hI
    by_cases hlt : k < r.gives.length
    · have hlt' : (k : Int) < (r.gives.length : Int) := by omega
      obtain ⟨gg, og, lg, rfl, hgg, k0, k1, k2, k3, k4, hlg⟩ := kepts_get (k := k) HG.out.1 HG.out.2.1 (HG.out.2.2.1.below HIr.out.low) (fun j cs x a b => (HG.out.2.2.2.1 j cs x a b).same (Ts := [9]) (by simp) (Same.below HIr.out.low)) hlt
      obtain ⟨Al, nl, cl, rfl⟩ := hlg.form
      have HLG := Lib.hid hlg
      clear hlg hI hout hres
      go_wp2_with fail
      obtain ⟨We, hWe⟩ : ∃ W, W = wr.alloc (Obj.cells #[.int .i64 r.gives[k].view, .int .i64 r.gives[k].normal, .bool r.gives[k].calm, .slice Al nl cl, .int .i64 r.gives[k].commit] 64) := ⟨_, rfl⟩
      rw [← hWe]
      have hbe : Below wr.heap.size wr We := by rw [hWe]; exact below_alloc _ _
      have hkb : Blk We wr.heap.size 64 #[.int .i64 r.gives[k].view, .int .i64 r.gives[k].normal, .bool r.gives[k].calm, .slice Al nl cl, .int .i64 r.gives[k].commit] := by rw [hWe]; exact Blk.new _ _ _
      have hIe := HIr.out.below hbe
      have hLe := HLG.out.below hbe
      have q0 := hkb.cell 0
      have q1 := hkb.cell 1
      have q2 := hkb.cell 2
      have q3 := hkb.cell 3
      have q4 := hkb.cell 4
      simp only [List.getElem?_toArray, List.getElem?_cons_zero, List.getElem?_cons_succ] at q0 q1 q2 q3 q4
      have ql := hkb.lt
      clear hWe hbe hkb k0 k1 k2 k3 k4 o0 o1 o2 o3 o4 o5 o6 o7 o8 o9 oz ol
      have HIE := Lib.hid hIe
      have HLE := Lib.hid hLe
      have e1 : (r.gives.take k).length = k := by rw [List.length_take]; omega
      have HROW := Lib.hid (show We.ownsRow w.heap.size 64 5 (.slice Ak nk ck) k css.flatten by have h := hIe.giv.row; rw [e1] at h; exact h)
      have hoe := hIe.out
      have e8 := hoe.cell 8
      simp only [List.getElem?_toArray, List.getElem?_cons_zero, List.getElem?_cons_succ] at e8
      have ez := hoe.frozen
      have el := hoe.lt
      clear hIe hLe hoe e1
      go_region_law (first
        | (go_simp; go_at_call 75; refine (stageCopy_c _ r.gives[k] _ B ?_).mono ?_; (first | exact HLE.out.drewN 1 | exact HLE.out); rintro en x3 ⟨⟨lx, rfl, hx⟩, h3⟩
           refine use (P := Below We.heap.size We x3) ?_ ?_
           (first | exact (below_drewN (Below.refl _ _) 1).trans h3 | exact h3)
           intro h3'
           refine use (P := OwnStrs x3 We.heap.size lx r.gives[k].log) ?_ ?_
           (exact hx)
           clear hx; intro hx
           obtain ⟨Ax, nx, cx, rfl⟩ := hx.form
           have HX := Lib.hid hx
           have H3 := Lib.hid h3'
           have f8 := (h3'.cell (p := ⟨g, 8, none⟩) el).trans e8
           have fz := ((bcell h3').2 g 8 el).trans (ez 8)
           have h3s := h3'.size
           have fl : g < x3.heap.size := Nat.lt_of_lt_of_le el h3s
           have f8a : ∀ o, (x3.alloc o).cell? ⟨g, 8, none⟩ = some (.slice Ak nk ck) := fun o => ((below_alloc x3 o).cell (p := ⟨g, 8, none⟩) fl).trans f8
           clear hx h3 h3')
        | (refine step_app _ rfl (.tmp 29) (.tmp 32) 79 rfl el_kepts w.heap.size (.slice Ak nk ck) k css.flatten rfl ?_ (.slice (some ⟨x3.heap.size, 0, none⟩) 1 1) 1 (keptV r.gives[k] (.slice Ax nx cx)) rfl ⟨rfl, .inr ⟨_, _, rfl, ?_⟩⟩ ?_ ?_ ?_ ?_ ?_
           · exact own_below (own_below HROW.out H3.out) (below_alloc x3 _)
           · intro j v hj
             have hj5 : j < 5 := by (rcases Nat.lt_or_ge j 5 with h | h; exact h; rw [List.getElem?_eq_none h] at hj; cases hj)
             have hadd : (⟨x3.heap.size, 0, none⟩ : Addr).add j = ⟨x3.heap.size, j, none⟩ := by (unfold Addr.add; split <;> simp_all)
             rw [hadd, (Blk.new x3 64 #[.int .i64 r.gives[k].view, .int .i64 r.gives[k].normal, .bool r.gives[k].calm, .slice Ax nx cx, .int .i64 r.gives[k].commit]).cell j]
             simpa [keptV] using hj
           · (intro v hv; simp only [keptV, List.mem_cons, List.not_mem_nil, or_false] at hv; rcases hv with rfl | rfl | rfl | rfl | rfl <;> rfl)
           · (unfold maxLen; omega)
           · omega
           · (have := HIE.out.low.size; simp; omega)
           intro v4 x4 h4 hg4 _
           have hIP := (HIE.out.below H3.out).below (below_alloc x3 (Obj.cells #[.int .i64 r.gives[k].view, .int .i64 r.gives[k].normal, .bool r.gives[k].calm, .slice Ax nx cx, .int .i64 r.gives[k].commit] 64))
           have hn4 := giv_next hIP hlt HG.out.2.2.2.2 (HX.out.below (below_alloc x3 (Obj.cells #[.int .i64 r.gives[k].view, .int .i64 r.gives[k].normal, .bool r.gives[k].calm, .slice Ax nx cx, .int .i64 r.gives[k].commit] 64))) (fun x hl => (HIE.out.own.log.1.lt x hl).2) h4 hg4
           have hrow3 := own_below (own_below HROW.out H3.out) (below_alloc x3 (Obj.cells #[.int .i64 r.gives[k].view, .int .i64 r.gives[k].normal, .bool r.gives[k].calm, .slice Ax nx cx, .int .i64 r.gives[k].commit] 64))
           have hb4 := blk_growm hIP.out hrow3 (by decide) hg4
           have g8 := hb4.cell 8
           simp only [List.getElem?_toArray, List.getElem?_cons_zero, List.getElem?_cons_succ] at g8
           have gz := hb4.frozen
           have gl := hb4.lt
           obtain ⟨A9, c9, rfl, _, _, _, _⟩ := rd_own h4
           have HN4 := Lib.hid hn4
           clear hIP hn4 h4 hg4 hb4 hrow3))
      all_goals (go_wp2; go_roundw)
      all_goals first
        | exact ⟨k + 1, A9, k + 1, c9, _, by omega, rfl, HN4.out⟩
        | (simp [intOf]; omega)
    · have hk' : k = r.gives.length := by omega
      have hge' : ¬ (k : Int) < (r.gives.length : Int) := by omega
      have hIe := hI
      have e1 : r.gives.take k = r.gives := by rw [hk', List.take_length]
      have HO := Lib.hid (show OwnRep wr w.heap.size (.slice A5 n5 c5) (.slice A6 n6 c6) (.slice A7 n7 c7) (.slice Ak nk ck) (.slice A8 n8 c8) r from ⟨hI.own, css, e1 ▸ hI.giv⟩)
      have HAP := Lib.hid (show ApG wr w.heap.size (.slice Ak nk ck) r.gives (.slice A5 n5 c5) from ⟨css, e1 ▸ hI.giv, hI.apt⟩)
      have HRS := Lib.hid hres
      have hr10 := blk_set10 (a0 := .int .i64 r.me) (a1 := .int .i64 r.kept.view) (a2 := .int .i64 r.kept.normal) (a3 := .bool r.kept.calm) (a4 := .slice A5 n5 c5) (a5 := .int .i64 r.kept.commit) (a6 := .slice A6 n6 c6) (a7 := .slice A7 n7 c7) (a8 := .slice Ak nk ck) (a9 := .slice A8 n8 c8) hres
      have z0 := hres.cell 0
      have z1 := hres.cell 1
      have z2 := hres.cell 2
      have z3 := hres.cell 3
      have z4 := hres.cell 4
      have z5 := hres.cell 5
      have z6 := hres.cell 6
      have z7 := hres.cell 7
      have z8 := hres.cell 8
      have z9 := hres.cell 9
      simp only [List.getElem?_toArray, List.getElem?_cons_zero, List.getElem?_cons_succ] at z0 z1 z2 z3 z4 z5 z6 z7 z8 z9
      have zz := hres.frozen
      have zl := hres.lt
      have r0 := hr10.cell 0
      have r1 := hr10.cell 1
      have r2 := hr10.cell 2
      have r3 := hr10.cell 3
      have r4 := hr10.cell 4
      have r5 := hr10.cell 5
      have r6 := hr10.cell 6
      have r7 := hr10.cell 7
      have r8 := hr10.cell 8
      have r9 := hr10.cell 9
      simp only [List.getElem?_toArray, List.getElem?_cons_zero, List.getElem?_cons_succ] at r0 r1 r2 r3 r4 r5 r6 r7 r8 r9
      have rz := hr10.frozen
      have rl := hr10.lt
      clear hI hout hIe hk' hk e1 hr10 hres
      go_wp2
      refine bodyPost_ret (v := .agg #[.int .i64 r.me, .int .i64 r.kept.view, .int .i64 r.kept.normal, .bool r.kept.calm, .slice A5 n5 c5, .int .i64 r.kept.commit, .slice A6 n6 c6, .slice A7 n7 c7, .slice Ak nk ck, .slice A8 n8 c8]) (by simp [results, Tryd.results85, go_sem, r0, r1, r2, r3, r4, r5, r6, r7, r8, r9]) rfl ?_
      exact ⟨⟨_, _, _, _, _, rfl, HO.out.same (Same.sets10 HRS.out (Nat.zero_le _) (by decide)), HAP.out.same (Same.sets10 HRS.out (Nat.zero_le _) (by decide))⟩, below_set10 HIr.out.low (Nat.le_succ _)⟩
end Go.Proofs.YtfpiembhlgcelaaDoor
/- Walks: ref.ReplicaCopy. -/
namespace Go.Proofs.YtfpiembhlgcelaaDoor
open Go.RowKit
set_option maxHeartbeats 1000000
set_option maxRecDepth 100000
end Go.Proofs.YtfpiembhlgcelaaDoor
/- Walk: one and the same replica, compared with itself. -/
namespace Go.Proofs.YtfpiembhlgcelaaDoor
open Go.RowKit
set_option maxHeartbeats 4000000
set_option maxRecDepth 100000

end Go.Proofs.YtfpiembhlgcelaaDoor
/- The law ReplicaCopies, walked. -/
namespace Go.Proofs.YtfpiembhlgcelaaDoor
open Go.RowKit
set_option maxHeartbeats 1000000
set_option maxRecDepth 100000

theorem IsRep.forms {w : World} {B : Nat} {lv hv wv gv nv : Value} {r : Scu.Replica} (h : IsRep w B lv hv wv gv nv r) :
    ∃ A0 n0 c0 A1 c1 A2 c2 A3 c3 A4 c4, lv = .slice A0 n0 c0 ∧ hv = .slice A1 r.have_.length c1 ∧ wv = .slice A2 r.wants.length c2 ∧ gv = .slice A3 r.gives.length c3 ∧ nv = .slice A4 r.given.length c4 := by
  obtain ⟨A0, n0, c0, e0⟩ := h.log.form
  obtain ⟨⟨A1, c1, e1, _⟩, _⟩ := h.have_
  obtain ⟨⟨A2, c2, e2, _⟩, _⟩ := h.wants
  obtain ⟨⟨A3, c3, _, e3, _⟩, _⟩ := h.gives
  obtain ⟨⟨A4, c4, e4, _⟩, _⟩ := h.given
  exact ⟨A0, n0, c0, A1, c1, A2, c2, A3, c3, A4, c4, e0, e1, e2, e3, e4⟩
end Go.Proofs.YtfpiembhlgcelaaDoor
/- Words: what a replica does in one call: its copy, and what it sends. Walks: replica.begin. -/
namespace Go.Proofs.YtfpiembhlgcelaaDoor
open Go.RowKit
set_option maxHeartbeats 1000000
set_option maxRecDepth 100000

def msgV (m : Scu.Message) (lv : Value) : List Value := [.int .i64 m.kind, .int .i64 m.from_, .int .i64 m.to, .int .i64 m.view, .int .i64 m.normal, .int .i64 m.commit, .int .i64 m.n, lv]
def MsgE (w : World) (B : Nat) (cs : List Value) (m : Scu.Message) : Prop := ∃ lv, cs = msgV m lv ∧ IsStrs w B lv m.log
theorem MsgE.same {w w' : World} {B : Nat} {Ts : List TypeId} {cs : List Value} {m : Scu.Message} (h : MsgE w B cs m) (ht : 9 ∈ Ts) (hs : Same Ts B w w') : MsgE w' B cs m := by
  obtain ⟨lv, e, h⟩ := h
  exact ⟨lv, e, h.same ht hs⟩
theorem el_msgs : ElT 84 89 8 80 := by
  obtain ⟨i, h1, h2, h3, h4⟩ := info_parts (P := Tryd.prog) (e := 89) (z := .agg #[.int .i64 0, .int .i64 0, .int .i64 0, .int .i64 0, .int .i64 0, .int .i64 0, .int .i64 0, .slice none 0 0]) (size := 8) (bytes := 80) (by kernel_rfl)
  exact ⟨Tryd.underlying84, by omega, i, _, h1, h2, h3, h4, rfl⟩
/-- Messages in a row of the call's own: css the cells of each. -/
structure OwnMs (w : World) (base : Nat) (v : Value) (ms : List Scu.Message) (css : List (List Value)) : Prop where
  len : css.length = ms.length
  eight : ∀ cs ∈ css, cs.length = 8
  row : w.ownsRow base 89 8 v ms.length css.flatten
  each : ∀ (j : Nat) (cs : List Value) (m : Scu.Message), css[j]? = some cs → ms[j]? = some m → MsgE w 0 cs m
  max : ms.length * 80 ≤ R47
section
variable {w w' : World} {B base base' : Nat} {v : Value} {ms : List Scu.Message} {css : List (List Value)}
theorem OwnMs.is (h : OwnMs w base v ms css) : IsRow 89 8 80 MsgE w 0 v ms := by
  obtain ⟨A, c, rfl, hc, _, hr, _⟩ := rd_own h.row
  exact ⟨⟨A, c, css, rfl, hc, h.len, h.eight, hr, h.each⟩, h.max⟩
theorem OwnMs.same (h : OwnMs w base v ms css) (hs : Same [9, 89] B w w') : OwnMs w' base v ms css :=
  ⟨h.len, h.eight, own_same h.row (by simp) hs, fun j cs k a b => (h.each j cs k a b).same (B := 0) (Ts := [9, 89]) (by simp) (hs.mono (fun _ h => h) (Nat.zero_le _)), h.max⟩
theorem OwnMs.below (h : OwnMs w base v ms css) (hb : Below w.heap.size w w') : OwnMs w' base v ms css := h.same (B := 0) (Same.below hb)
theorem OwnMs.nil_ : OwnMs w base (.slice none 0 0) [] [] := ⟨rfl, by simp, World.ownsRow_nil _ _ _ _, fun j cs k h => by simp at h, by simp [R47]⟩
theorem OwnMs.form (h : OwnMs w base v ms css) : ∃ A c, v = .slice A ms.length c := by
  obtain ⟨A, c, e, _⟩ := rd_own h.row
  exact ⟨A, c, e⟩
end
/-- A call's work: its block, the replica's block, the replica and the messages so far. -/
structure Work (w : World) (base gw gr : Nat) (r : Scu.Replica) (lu hv wv gv nv ov : Value) (ms : List Scu.Message) (css : List (List Value)) : Prop where
  wb : Blk w gw 146 #[.pointer (some ⟨gr, 0, none⟩), ov]
  rb : Blk w gr 81 #[.int .i64 r.me, .int .i64 r.kept.view, .int .i64 r.kept.normal, .bool r.kept.calm, lu, .int .i64 r.kept.commit, hv, wv, gv, nv]
  own : OwnRep w base lu hv wv gv nv r
  out : OwnMs w base ov ms css
  lw : base ≤ gw
  lr : base ≤ gr
theorem Work.below {w w' : World} {base gw gr : Nat} {r : Scu.Replica} {lu hv wv gv nv ov : Value} {ms : List Scu.Message} {css : List (List Value)} (h : Work w base gw gr r lu hv wv gv nv ov ms css) (hb : Below w.heap.size w w') : Work w' base gw gr r lu hv wv gv nv ov ms css :=
  ⟨h.wb.same hb, h.rb.same hb, h.own.below hb, h.out.below hb, h.lw, h.lr⟩
theorem repCheck_a (lv hv0 wv gv nv : Value) (r : Scu.Replica) (w : World) (B : Nat) (hv : IsRep w B lv hv0 wv gv nv r) (f : Int) (h : Scu.repFault r = f) :
    Calls Tryd.prog 51 #[.agg #[.int .i64 r.me, .int .i64 r.kept.view, .int .i64 r.kept.normal, .bool r.kept.calm, lv, .int .i64 r.kept.commit, hv0, wv, gv, nv]] w fun e w' => e = .returned (.int .i64 f) ∧ Below w.heap.size w w' := by
  have := repCheck_c lv hv0 wv gv nv r w B hv
  rw [h] at this
  exact this
theorem begin_1 (lv hv wv gv nv : Value) (r : Scu.Replica) (w : World) (B : Nat) (hr : IsRep w B lv hv wv gv nv r) (f : Int) (hf : Scu.repFault r = f) (hn : f ≠ 0) :
    Calls Tryd.prog 76 #[.agg #[.int .i64 r.me, .int .i64 r.kept.view, .int .i64 r.kept.normal, .bool r.kept.calm, lv, .int .i64 r.kept.commit, hv, wv, gv, nv]] w fun e w' => e = .returned (.tuple #[.pointer none, .int .i64 f]) ∧ Below w.heap.size w w' := by
  have hfb : (f != 0) = true := by simpa using hn
  clear hn
  have HV := Lib.hid hr
  have HF := Lib.hid hf
  obtain ⟨A0, n0, c0, A1, c1, A2, c2, A3, c3, A4, c4, rfl, rfl, rfl, rfl, rfl⟩ := hr.forms
  clear hr hf
  go_enter Tryd.func76, Tryd.ntmps76
  go_wp2_with fail
  have h0 : Below w.heap.size w (w.alloc (Obj.cells #[.int .i64 r.me, .int .i64 r.kept.view, .int .i64 r.kept.normal, .bool r.kept.calm, .slice A0 n0 c0, .int .i64 r.kept.commit, .slice A1 r.have_.length c1, .slice A2 r.wants.length c2, .slice A3 r.gives.length c3, .slice A4 r.given.length c4] 81)) := below_alloc w _
  refine (repCheck_a _ _ _ _ _ r _ B (HV.out.below h0) f HF.out).mono ?_; rintro en w1 ⟨rfl, h1⟩
  have hs : Blk w1 w.heap.size 81 #[.int .i64 r.me, .int .i64 r.kept.view, .int .i64 r.kept.normal, .bool r.kept.calm, .slice A0 n0 c0, .int .i64 r.kept.commit, .slice A1 r.have_.length c1, .slice A2 r.wants.length c2, .slice A3 r.gives.length c3, .slice A4 r.given.length c4] := (Blk.new w _ _).same h1
  have hb := h0.trans (h1.mono h0.size)
  clear h1 h0
  clear hs
  go_wp2
  go_ret2
  exact ⟨rfl, hb⟩
theorem begin_2 (lv hv wv gv nv : Value) (r : Scu.Replica) (w : World) (B : Nat) (hr : IsRep w B lv hv wv gv nv r) (hf : Scu.repFault r = 0) :
    Calls Tryd.prog 76 #[.agg #[.int .i64 r.me, .int .i64 r.kept.view, .int .i64 r.kept.normal, .bool r.kept.calm, lv, .int .i64 r.kept.commit, hv, wv, gv, nv]] w fun e w' =>
      (∃ gw gr lu hu wu gu nu, e = .returned (.tuple #[.pointer (some ⟨gw, 0, none⟩), .int .i64 0]) ∧ Work w' w.heap.size gw gr r lu hu wu gu nu (.slice none 0 0) [] [] ∧ ApG w' w.heap.size gu r.gives lu) ∧ Below w.heap.size w w' := by
  have HV := Lib.hid hr
  have HF := Lib.hid hf
  obtain ⟨A0, n0, c0, A1, c1, A2, c2, A3, c3, A4, c4, rfl, rfl, rfl, rfl, rfl⟩ := hr.forms
  clear hr hf
  go_enter Tryd.func76, Tryd.ntmps76
  go_wp2_with fail
  have h0 : Below w.heap.size w (w.alloc (Obj.cells #[.int .i64 r.me, .int .i64 r.kept.view, .int .i64 r.kept.normal, .bool r.kept.calm, .slice A0 n0 c0, .int .i64 r.kept.commit, .slice A1 r.have_.length c1, .slice A2 r.wants.length c2, .slice A3 r.gives.length c3, .slice A4 r.given.length c4] 81)) := below_alloc w _
  refine (repCheck_a _ _ _ _ _ r _ B (HV.out.below h0) 0 HF.out).mono ?_; rintro en w1 ⟨rfl, h1⟩
  have hs : Blk w1 w.heap.size 81 #[.int .i64 r.me, .int .i64 r.kept.view, .int .i64 r.kept.normal, .bool r.kept.calm, .slice A0 n0 c0, .int .i64 r.kept.commit, .slice A1 r.have_.length c1, .slice A2 r.wants.length c2, .slice A3 r.gives.length c3, .slice A4 r.given.length c4] := (Blk.new w _ _).same h1
  have hb := h0.trans (h1.mono h0.size)
  clear h1 h0
  have s0 := hs.cell 0
  have s1 := hs.cell 1
  have s2 := hs.cell 2
  have s3 := hs.cell 3
  have s4 := hs.cell 4
  have s5 := hs.cell 5
  have s6 := hs.cell 6
  have s7 := hs.cell 7
  have s8 := hs.cell 8
  have s9 := hs.cell 9
  simp only [List.getElem?_toArray, List.getElem?_cons_zero, List.getElem?_cons_succ] at s0 s1 s2 s3 s4 s5 s6 s7 s8 s9
  have sl := hs.lt
  clear hs
  have HB := Lib.hid hb
  clear hb
  go_wp2_with fail
  refine (repCopy_c A0 n0 c0 A1 r.have_.length c1 A2 r.wants.length c2 A3 r.gives.length c3 A4 r.given.length c4 r _ B (HV.out.below HB.out)).mono ?_; rintro en w2 ⟨⟨lu, hu, wu, gu, nu, rfl, ho, hap⟩, h2⟩
  obtain ⟨E0, m0, d0, E1, d1, E2, d2, E3, d3, E4, d4, rfl, rfl, rfl, rfl, rfl⟩ := ho.is.forms
  have HO := Lib.hid (And.intro ho h2)
  have HAP := Lib.hid hap
  clear ho h2 hap s0 s1 s2 s3 s4 s5 s6 s7 s8 s9 sl
  go_wp2
  go_ret2
  have hal := (below_alloc w2 (Obj.cells #[.int .i64 r.me, .int .i64 r.kept.view, .int .i64 r.kept.normal, .bool r.kept.calm, .slice E0 m0 d0, .int .i64 r.kept.commit, .slice E1 r.have_.length d1, .slice E2 r.wants.length d2, .slice E3 r.gives.length d3, .slice E4 r.given.length d4] 81)).alloc (by simp) (Obj.cells #[.pointer (some ⟨w2.heap.size, 0, none⟩), .slice none 0 0] 146)
  have hsz := HB.out.size
  have hsz2 := HO.out.2.size
  refine ⟨⟨_, _, _, _, _, _, _, rfl, ⟨Blk.new' (by simp), (Blk.new w2 _ _).alloc _, ?_, OwnMs.nil_, by omega, by omega⟩, (HAP.out.base_ hsz).below hal⟩, (HB.out.trans (HO.out.2.mono hsz)).trans (hal.mono (by omega))⟩
  exact (⟨(HO.out.1.own).base_ hsz, let ⟨css, g⟩ := HO.out.1.giv; ⟨css, g.base_ hsz⟩⟩ : OwnRep _ _ _ _ _ _ _ _).below hal
end Go.Proofs.YtfpiembhlgcelaaDoor
/- Walks: one message is sent. -/
namespace Go.Proofs.YtfpiembhlgcelaaDoor
open Go.RowKit
set_option maxHeartbeats 2000000
set_option maxRecDepth 100000

theorem blk_keep {w w' : World} {g : Nat} {t : TypeId} {cs : Array Value} {Ts : List TypeId} (h : Blk w g t cs) (hs : Same Ts 0 w w') (ht : t ∈ Ts) : Blk w' g t cs := (hs.keep g h.lt (.inr ⟨_, _, _, ht, h⟩)).trans h
/-- Boxes of messages beside a call's own row of them stay. -/
def Far (w w' : World) (ov ov' : Value) : Prop := ∀ b cs, Blk w b 89 cs → ov.ownBlock ≠ some b → Blk w' b 89 cs ∧ ov'.ownBlock ≠ some b
theorem Far.refl (w : World) (ov : Value) : Far w w ov ov := fun _ _ h k => ⟨h, k⟩
theorem Far.trans {w1 w2 w3 : World} {o1 o2 o3 : Value} (h : Far w1 w2 o1 o2) (k : Far w2 w3 o2 o3) : Far w1 w3 o1 o3 := fun b cs h1 h2 => let ⟨a, c⟩ := h b cs h1 h2; k b cs a c
theorem Far.same {w w' : World} {ov : Value} {Ts : List TypeId} (ht : 89 ∈ Ts) (hs : Same Ts 0 w w') : Far w w' ov ov := fun _ _ h k => ⟨blk_keep h hs ht, k⟩
theorem Far.below {w w' : World} {ov : Value} (hb : Below w.heap.size w w') : Far w w' ov ov := fun _ _ h k => ⟨h.same hb, k⟩
/-- Across the append of a message and the store behind it: P the world that the append meets. -/
theorem send_next {base gw gr : Nat} {r : Scu.Replica} {lu hv wv gv nv ov v4 lx : Value} {ms : List Scu.Message} {css : List (List Value)} {m : Scu.Message} {P w4 : World} (h : Work P base gw gr r lu hv wv gv nv ov ms css) (hm : (ms.length + 1) * 80 ≤ R47)
    (hx : IsStrs P 0 lx m.log) (h4 : w4.ownsRow base 89 8 v4 (ms.length + 1) (css.flatten ++ msgV m lx)) (hg : P.grownBy w4 ov.ownBlock) (hb : base ≤ P.heap.size) (hv4 : v4.ownBlock = ov.ownBlock ∨ v4.ownBlock = some P.heap.size) :
    Work (w4.setCell ⟨gw, 1, none⟩ v4) base gw gr r lu hv wv gv nv v4 (ms ++ [m]) (css ++ [msgV m lx]) ∧ Below base P (w4.setCell ⟨gw, 1, none⟩ v4) ∧ Same [9, 3, 4, 64, 81] 0 P (w4.setCell ⟨gw, 1, none⟩ v4) ∧
      ∀ g t cs, Blk P g t cs → g ≠ gw → ov.ownBlock ≠ some g → Blk (w4.setCell ⟨gw, 1, none⟩ v4) g t cs ∧ v4.ownBlock ≠ some g := by
  have hrow := h.out.row
  have hs0 : Same [9, 3, 4, 64, 81, 146] 0 P w4 := Same.own hrow hg (Nat.zero_le _) (by decide)
  have hwb := blk_keep h.wb hs0 (by simp)
  have hs1 : Same [9, 3, 4, 64, 81, 89] 0 w4 (w4.setCell ⟨gw, 1, none⟩ v4) := Same.set_ hwb (Nat.zero_le _) (by decide) 1 v4
  have hs2 : Same [9, 3, 4, 64, 81] 0 P (w4.setCell ⟨gw, 1, none⟩ v4) := (hs0.mono (by simp) (Nat.le_refl _)).trans (hs1.mono (by simp) (Nat.le_refl _))
  refine ⟨⟨hwb.set_ 1 v4, blk_keep h.rb hs2 (by simp), h.own.same (hs2.mono (by simp) (Nat.le_refl _)), ⟨by simp only [List.length_append, h.out.len, List.length_cons, List.length_nil], ?_, ?_, ?_, by simpa using hm⟩, h.lw, h.lr⟩, ?_, hs2, ?_⟩
  · intro c hc
    rcases List.mem_append.1 hc with h' | h'
    · exact h.out.eight c h'
    · rw [List.mem_singleton] at h'
      subst h'
      rfl
  · rw [List.length_append, List.flatten_append]
    have h5 : w4.ownsRow base 89 8 v4 (ms.length + [m].length) (css.flatten ++ [msgV m lx].flatten) := by simpa using h4
    exact own_set h5 hwb (by decide) v4
  · intro j c x hc hx'
    rcases Nat.lt_or_ge j ms.length with hj | hj
    · rw [List.getElem?_append_left (by rw [h.out.len]; exact hj)] at hc
      rw [List.getElem?_append_left hj] at hx'
      exact (h.out.each j c x hc hx').same (B := 0) (Ts := [9]) (by simp) (hs2.mono (by simp) (Nat.le_refl _))
    · rw [List.getElem?_append_right (by rw [h.out.len]; exact hj), h.out.len] at hc
      rw [List.getElem?_append_right hj] at hx'
      have hj0 : j - ms.length = 0 := by
        rcases Nat.eq_zero_or_pos (j - ms.length) with h' | h'
        · exact h'
        · rw [List.getElem?_eq_none (by simp; omega)] at hc
          cases hc
      rw [hj0] at hc hx'
      simp only [List.getElem?_cons_zero, Option.some.injEq] at hc hx'
      subst hc
      subst hx'
      exact ⟨lx, rfl, hx.same (by simp) hs2⟩
  · exact ((Below.refl base P).grown hg hb (fun q hq => (hrow.lt q hq).1)).setCell (by show base ≤ gw; exact h.lw) v4
  · intro g t cs hB hne hov
    refine ⟨Blk.far ((hg.block g hB.lt fun e => hov e.symm).trans hB) (p := ⟨gw, 1, none⟩) hne v4, fun e => ?_⟩
    rcases hv4 with h' | h'
    · rw [h'] at e
      exact hov e
    · rw [h'] at e
      have := hB.lt
      simp only [Option.some.injEq] at e
      omega
theorem send_1 (A : Option Addr) (n c : Nat) (m : Scu.Message) (tt : Int) (w : World) (base gw gr : Nat) (r : Scu.Replica) (lu hv wv gv nv ov : Value) (ms : List Scu.Message) (css : List (List Value)) (hW : Work w base gw gr r lu hv wv gv nv ov ms css) (ht : tt = r.me) :
    Calls Tryd.prog 96 #[.pointer (some ⟨gw, 0, none⟩), .int .i64 tt, .agg #[.int .i64 m.kind, .int .i64 m.from_, .int .i64 m.to, .int .i64 m.view, .int .i64 m.normal, .int .i64 m.commit, .int .i64 m.n, .slice A n c]] w fun e w' => e = .returned (.tuple #[]) ∧ Below w.heap.size w w' := by
  have d0 := hW.wb.cell 0
  have d1 := hW.rb.cell 0
  simp only [List.getElem?_toArray, List.getElem?_cons_zero] at d0 d1
  have dl := hW.wb.lt
  have dm := hW.rb.lt
  subst ht
  clear hW
  go_enter Tryd.func96, Tryd.ntmps96
  go_wp2
  refine bodyPost_ret (v := .tuple #[]) (by simp [results, Tryd.results96]) rfl ?_
  exact ⟨rfl, below_alloc _ _⟩
theorem send_2 (A : Option Addr) (n c : Nat) (m : Scu.Message) (tt : Int) (w : World) (base gw gr : Nat) (r : Scu.Replica) (lu hv wv gv nv ov : Value) (ms : List Scu.Message) (css : List (List Value)) (hW : Work w base gw gr r lu hv wv gv nv ov ms css) (hbase : base ≤ w.heap.size) (ht : tt ≠ r.me)
    (hx : IsStrs w 0 (.slice A n c) m.log) (hm : (ms.length + 1) * 80 ≤ R47) :
    Calls Tryd.prog 96 #[.pointer (some ⟨gw, 0, none⟩), .int .i64 tt, .agg #[.int .i64 m.kind, .int .i64 m.from_, .int .i64 m.to, .int .i64 m.view, .int .i64 m.normal, .int .i64 m.commit, .int .i64 m.n, .slice A n c]] w fun e w' => e = .returned (.tuple #[]) ∧ (∃ ov' css', Work w' base gw gr r lu hv wv gv nv ov' (ms ++ [⟨m.kind, r.me, tt, r.kept.view, m.normal, m.commit, m.n, m.log⟩]) css' ∧ ∀ g t cs, Blk w g t cs → g ≠ gw → ov.ownBlock ≠ some g → Blk w' g t cs ∧ ov'.ownBlock ≠ some g) ∧ Below base w w' ∧ Same [9] 0 w w' := by
  have htb : (tt == r.me) = false := by simpa using ht
  have HW := Lib.hid hW
  have HX := Lib.hid hx
  clear hW hx
  go_enter Tryd.func96, Tryd.ntmps96
  go_upto_region 1 with fail
  obtain ⟨Wd, hWd⟩ : ∃ W, W = w.alloc (Obj.cells #[.int .i64 m.kind, .int .i64 m.from_, .int .i64 m.to, .int .i64 m.view, .int .i64 m.normal, .int .i64 m.commit, .int .i64 m.n, .slice A n c] 89) := ⟨_, rfl⟩
  rw [← hWd]
  have hbw : Below w.heap.size w Wd := by rw [hWd]; exact below_alloc _ _
  have hn : Blk Wd w.heap.size 89 #[.int .i64 m.kind, .int .i64 m.from_, .int .i64 m.to, .int .i64 m.view, .int .i64 m.normal, .int .i64 m.commit, .int .i64 m.n, .slice A n c] := by rw [hWd]; exact Blk.new _ _ _
  have hWk := HW.out.below hbw
  have d0 := hWk.wb.cell 0
  have d1 := hWk.rb.cell 0
  have d2 := hWk.rb.cell 1
  have e1 := hn.cell 1
  have e2 := hn.cell 2
  have e3 := hn.cell 3
  simp only [List.getElem?_toArray, List.getElem?_cons_zero, List.getElem?_cons_succ] at d0 d1 d2 e1 e2 e3
  have ez := hn.frozen
  have dl := hWk.wb.lt
  have dm := hWk.rb.lt
  have el := hn.lt
  have hgw : w.heap.size ≠ gw := by have := HW.out.wb.lt; omega
  have hgr : w.heap.size ≠ gr := by have := HW.out.rb.lt; omega
  have HN := Lib.hid (And.intro hn (And.intro hWk hbw))
  clear hn hWk hbw hWd
  go_wp2_with fail
  go_region
  obtain ⟨We, hWe⟩ : ∃ W, W = (((Wd.setCell ⟨w.heap.size, 1, none⟩ (.int .i64 r.me)).setCell ⟨w.heap.size, 2, none⟩ (.int .i64 tt)).setCell ⟨w.heap.size, 3, none⟩ (.int .i64 r.kept.view)).drew := ⟨_, rfl⟩
  rw [← hWe]
  have hn2 : Blk We w.heap.size 89 #[.int .i64 m.kind, .int .i64 r.me, .int .i64 tt, .int .i64 r.kept.view, .int .i64 m.normal, .int .i64 m.commit, .int .i64 m.n, .slice A n c] := by rw [hWe]; exact (((HN.out.1.set_ 1 _).set_ 2 _).set_ 3 _).drew
  have hsm : Same [9, 3, 4, 64, 81, 146] 0 Wd We := by
    rw [hWe]
    exact ((((Same.set_ HN.out.1 (Nat.zero_le _) (by decide) 1 _).trans (Same.set_ (HN.out.1.set_ 1 _) (Nat.zero_le _) (by decide) 2 _)).trans (Same.set_ ((HN.out.1.set_ 1 _).set_ 2 _) (Nat.zero_le _) (by decide) 3 _))).trans (Same.drew _)
  have hbe : Below w.heap.size w We := by
    rw [hWe]
    exact (((HN.out.2.2.setCell (p := ⟨w.heap.size, 1, none⟩) (Nat.le_refl _) _).setCell (p := ⟨w.heap.size, 2, none⟩) (Nat.le_refl _) _).setCell (p := ⟨w.heap.size, 3, none⟩) (Nat.le_refl _) _).drew
  have hWk2 := HW.out.below hbe
  have hX2 := HX.out.below hbe
  clear d0 d1 d2 e1 e2 e3 ez dl dm el hWe hsm
  have d1 := hWk2.wb.cell 1
  have q0 := hn2.cell 0
  have q1 := hn2.cell 1
  have q2 := hn2.cell 2
  have q3 := hn2.cell 3
  have q4 := hn2.cell 4
  have q5 := hn2.cell 5
  have q6 := hn2.cell 6
  have q7 := hn2.cell 7
  simp only [List.getElem?_toArray, List.getElem?_cons_zero, List.getElem?_cons_succ] at d1 q0 q1 q2 q3 q4 q5 q6 q7
  have dz := hWk2.wb.frozen
  have dl := hWk2.wb.lt
  have ql := hn2.lt
  obtain ⟨Ao, co, rfl⟩ := hWk2.out.form
  have HWE := Lib.hid hWk2
  have HXE := Lib.hid hX2
  have HBE := Lib.hid hbe
  have HROW := Lib.hid hWk2.out.row
  unfold R47 at hm
  have HBA := Lib.hid (show base ≤ ((We.alloc (Obj.cells #[.int .i64 m.kind, .int .i64 r.me, .int .i64 tt, .int .i64 r.kept.view, .int .i64 m.normal, .int .i64 m.commit, .int .i64 m.n, .slice A n c] 89)).drew).heap.size from Nat.le_trans hbase (((hbe.alloc hbe.size (Obj.cells #[.int .i64 m.kind, .int .i64 r.me, .int .i64 tt, .int .i64 r.kept.view, .int .i64 m.normal, .int .i64 m.commit, .int .i64 m.n, .slice A n c] 89)).drew).size))
  clear hn2 hbe hWk2 hX2
  go_wp2_with fail
  go_region_law (first
    | (refine step_app _ rfl (.tmp 38) (.tmp 40) 84 rfl el_msgs base (.slice Ao ms.length co) ms.length css.flatten rfl ?_ (.slice (some ⟨We.heap.size, 0, none⟩) 1 1) 1 (msgV ⟨m.kind, r.me, tt, r.kept.view, m.normal, m.commit, m.n, m.log⟩ (.slice A n c)) rfl ⟨rfl, .inr ⟨_, _, rfl, ?_⟩⟩ ?_ ?_ ?_ ?_ ?_
       · exact (own_below HROW.out (below_alloc We _).drew)
       · intro j v hj
         have hj8 : j < 8 := by (rcases Nat.lt_or_ge j 8 with h | h; exact h; rw [List.getElem?_eq_none h] at hj; cases hj)
         have hadd : (⟨We.heap.size, 0, none⟩ : Addr).add j = ⟨We.heap.size, j, none⟩ := by (unfold Addr.add; split <;> simp_all)
         rw [hadd]
         refine (((Blk.new We 89 #[.int .i64 m.kind, .int .i64 r.me, .int .i64 tt, .int .i64 r.kept.view, .int .i64 m.normal, .int .i64 m.commit, .int .i64 m.n, .slice A n c]).drew).cell j).trans ?_
         simpa [msgV] using hj
       · (intro v hv; simp only [msgV, List.mem_cons, List.not_mem_nil, or_false] at hv; rcases hv with rfl | rfl | rfl | rfl | rfl | rfl | rfl | rfl <;> rfl)
       · (unfold maxLen; omega)
       · omega
       · exact HBA.out
       intro v4 x4 h4 hg4 hv4
       have hP := HWE.out.below (below_alloc We (Obj.cells #[.int .i64 m.kind, .int .i64 r.me, .int .i64 tt, .int .i64 r.kept.view, .int .i64 m.normal, .int .i64 m.commit, .int .i64 m.n, .slice A n c] 89)).drew
       have hnx := send_next (m := ⟨m.kind, r.me, tt, r.kept.view, m.normal, m.commit, m.n, m.log⟩) hP (by unfold R47; omega) (HXE.out.below (below_alloc We (Obj.cells #[.int .i64 m.kind, .int .i64 r.me, .int .i64 tt, .int .i64 r.kept.view, .int .i64 m.normal, .int .i64 m.commit, .int .i64 m.n, .slice A n c] 89)).drew) h4 hg4 HBA.out hv4
       have hwb4 := blk_keep hP.wb (Ts := [146]) (Same.own hP.out.row hg4 (Nat.zero_le _) (by decide)) (by simp)
       have g1 := hwb4.cell 1
       simp only [List.getElem?_toArray, List.getElem?_cons_zero, List.getElem?_cons_succ] at g1
       have gz := hwb4.frozen
       have gl := hwb4.lt
       obtain ⟨A9, c9, rfl, _, _, _, _⟩ := rd_own h4
       have HNX := Lib.hid hnx
       clear hP hnx h4 hg4 hwb4 hv4))
  all_goals
    go_wp2
    go_end0
    have hwP := (HBE.out.alloc HBE.out.size (Obj.cells #[.int .i64 m.kind, .int .i64 r.me, .int .i64 tt, .int .i64 r.kept.view, .int .i64 m.normal, .int .i64 m.commit, .int .i64 m.n, .slice A n c] 89)).drew
    exact ⟨rfl, ⟨_, _, HNX.out.1, fun g t cs h1 h2 h3 => HNX.out.2.2.2 g t cs (h1.same hwP) h2 h3⟩, (hwP.mono hbase).trans HNX.out.2.1, (Same.below hwP).trans (HNX.out.2.2.1.mono (by simp) (Nat.le_refl _))⟩
end Go.Proofs.YtfpiembhlgcelaaDoor

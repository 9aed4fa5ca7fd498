/- Walk: one and the same replica, compared with itself. -/
import Derived.Test.YtioajgcbchdpeaaRepG
import Derived.Test.YtioajgcbchdpeaaRepK
import Derived.Deep.DeepCutAuto
namespace Go.Proofs.Ytioajgcbchdpeaa
open Go.RowKit
set_option maxHeartbeats 4000000
set_option maxRecDepth 100000

theorem sameRep_t (A0 : Option Addr) (n0 c0 : Nat) (A1 : Option Addr) (c1 : Nat) (A2 : Option Addr) (c2 : Nat) (A3 : Option Addr) (c3 : Nat) (A4 : Option Addr) (c4 : Nat) (E0 : Option Addr) (m0 d0 : Nat) (E1 : Option Addr) (d1 : Nat) (E2 : Option Addr) (d2 : Nat) (E3 : Option Addr) (d3 : Nat) (E4 : Option Addr) (d4 : Nat) (r : Scu.Replica) (w : World) (B B' : Nat)
    (hx : IsRep w B (.slice A0 n0 c0) (.slice A1 r.have_.length c1) (.slice A2 r.wants.length c2) (.slice A3 r.gives.length c3) (.slice A4 r.given.length c4) r)
    (hy : IsRep w B' (.slice E0 m0 d0) (.slice E1 r.have_.length d1) (.slice E2 r.wants.length d2) (.slice E3 r.gives.length d3) (.slice E4 r.given.length d4) r) :
    Calls Try.prog 19 #[.agg #[.int .i64 r.me, .int .i64 r.kept.view, .int .i64 r.kept.normal, .bool r.kept.calm, .slice A0 n0 c0, .int .i64 r.kept.commit, .slice A1 r.have_.length c1, .slice A2 r.wants.length c2, .slice A3 r.gives.length c3, .slice A4 r.given.length c4], .agg #[.int .i64 r.me, .int .i64 r.kept.view, .int .i64 r.kept.normal, .bool r.kept.calm, .slice E0 m0 d0, .int .i64 r.kept.commit, .slice E1 r.have_.length d1, .slice E2 r.wants.length d2, .slice E3 r.gives.length d3, .slice E4 r.given.length d4]] w fun e w' => e = .returned (.bool true) ∧ Below w.heap.size w w' := by
  have HX := Lib.hid hx
  have HY := Lib.hid hy
  obtain ⟨⟨_, _, e, _, hd⟩, hm1⟩ := hx.have_; cases e; have HA1 := Lib.hid hd
  obtain ⟨⟨_, _, e, _, hd⟩, _⟩ := hy.have_; cases e; have HE1 := Lib.hid hd
  obtain ⟨⟨_, _, e, _, hd⟩, hm2⟩ := hx.wants; cases e; have HA2 := Lib.hid hd
  obtain ⟨⟨_, _, e, _, hd⟩, _⟩ := hy.wants; cases e; have HE2 := Lib.hid hd
  obtain ⟨⟨_, _, e, _, hd⟩, hm4⟩ := hx.given; cases e; have HA4 := Lib.hid hd
  obtain ⟨⟨_, _, e, _, hd⟩, _⟩ := hy.given; cases e; have HE4 := Lib.hid hd
  obtain ⟨⟨_, _, csx, e, _, hx1, hx2, hx3, hx4⟩, hm3⟩ := hx.gives; cases e
  obtain ⟨⟨_, _, csy, e, _, hy1, hy2, hy3, hy4⟩, _⟩ := hy.gives; cases e
  have HA3 := Lib.hid (And.intro hx1 (And.intro hx2 (And.intro hx3 hx4)))
  have HE3 := Lib.hid (And.intro hy1 (And.intro hy2 (And.intro hy3 hy4)))
  unfold R47 at hm1 hm2 hm3 hm4
  clear hx hy hx1 hx2 hx3 hx4 hy1 hy2 hy3 hy4
  go_enter Try.func19, Try.ntmps19
  go_wp2_with fail
  have hb0 : Below w.heap.size w ((w.alloc (Obj.cells #[.int .i64 r.me, .int .i64 r.kept.view, .int .i64 r.kept.normal, .bool r.kept.calm, .slice A0 n0 c0, .int .i64 r.kept.commit, .slice A1 r.have_.length c1, .slice A2 r.wants.length c2, .slice A3 r.gives.length c3, .slice A4 r.given.length c4] 32)).alloc (Obj.cells #[.int .i64 r.me, .int .i64 r.kept.view, .int .i64 r.kept.normal, .bool r.kept.calm, .slice E0 m0 d0, .int .i64 r.kept.commit, .slice E1 r.have_.length d1, .slice E2 r.wants.length d2, .slice E3 r.gives.length d3, .slice E4 r.given.length d4] 32)) := (below_alloc w _).alloc (by simp) _
  refine (sameKept_c _ _ r.kept r.kept _ B B' (HX.out.log.below hb0) (HY.out.log.below hb0)).mono ?_; rintro e w1 ⟨rfl, h1⟩
  simp only [decide_true]
  have hp0 : Blk w1 w.heap.size 32 #[.int .i64 r.me, .int .i64 r.kept.view, .int .i64 r.kept.normal, .bool r.kept.calm, .slice A0 n0 c0, .int .i64 r.kept.commit, .slice A1 r.have_.length c1, .slice A2 r.wants.length c2, .slice A3 r.gives.length c3, .slice A4 r.given.length c4] := ((Blk.new w _ _).alloc _).same h1
  have hp1 : Blk w1 (w.heap.size + 1) 32 #[.int .i64 r.me, .int .i64 r.kept.view, .int .i64 r.kept.normal, .bool r.kept.calm, .slice E0 m0 d0, .int .i64 r.kept.commit, .slice E1 r.have_.length d1, .slice E2 r.wants.length d2, .slice E3 r.gives.length d3, .slice E4 r.given.length d4] := (Blk.new' (by simp)).same h1
  have hb1 := hb0.trans (h1.mono hb0.size)
  have s0 := hp0.cell 6
  have s1 := hp0.cell 7
  have s2 := hp0.cell 8
  have s3 := hp0.cell 9
  simp only [List.getElem?_toArray, List.getElem?_cons_zero, List.getElem?_cons_succ] at s0 s1 s2 s3
  have sl := hp0.lt
  have t0 := hp1.cell 6
  have t1 := hp1.cell 7
  have t2 := hp1.cell 8
  have t3 := hp1.cell 9
  simp only [List.getElem?_toArray, List.getElem?_cons_zero, List.getElem?_cons_succ] at t0 t1 t2 t3
  have tl := hp1.lt
  have HP := Lib.hid (And.intro hp0 (And.intro hp1 hb1))
  clear hp0 hp1 hb0 hb1 h1
  go_wp2_with fail
  clear s0 s1 s2 s3 sl t0 t1 t2 t3 tl
  go_loopw [5] (fun i wr => ∃ k : Nat, k ≤ r.have_.length ∧ i = .int .i64 k ∧ Below w1.heap.size w1 wr) (fun i _ => r.have_.length - (intOf i).toNat)
  case atStart => exact ⟨0, Nat.zero_le _, rfl, Below.refl _ _⟩
  case round =>
    obtain ⟨k, hk, rfl, hbw⟩ := hrel
    have hpa := HP.out.1.same hbw
    have hpb := HP.out.2.1.same hbw
    have p0 := hpa.cell 6
    have p1 := hpa.cell 7
    have p2 := hpa.cell 8
    have p3 := hpa.cell 9
    simp only [List.getElem?_toArray, List.getElem?_cons_zero, List.getElem?_cons_succ] at p0 p1 p2 p3
    have pl := hpa.lt
    have q0 := hpb.cell 6
    have q1 := hpb.cell 7
    have q2 := hpb.cell 8
    have q3 := hpb.cell 9
    simp only [List.getElem?_toArray, List.getElem?_cons_zero, List.getElem?_cons_succ] at q0 q1 q2 q3
    have ql := hpb.lt
    have hbm := HP.out.2.2.trans (hbw.mono HP.out.2.2.size)
    have HBW := Lib.hid hbw
    have HBM := Lib.hid hbm
    clear hpa hpb hbw hbm
    by_cases hlt : k < r.have_.length
    · have hlt' : (k : Int) < (r.have_.length : Int) := by omega
      obtain ⟨g, o, rfl, hg, hc⟩ := ones_get (HA1.out.below HBM.out) hlt
      obtain ⟨g', o', rfl, hg', hc'⟩ := ones_get (HE1.out.below HBM.out) hlt
      go_wp2_with fail
      go_quiet (fail)
      go_wp2_with fail
      exact ⟨⟨k + 1, hlt, by go_num, below_drewN HBW.out _⟩, by simp only [intOf]; omega⟩
    have hlt' : (r.have_.length : Int) ≤ (k : Int) := by omega
    obtain ⟨wa, hwa⟩ : ∃ x, x = wr := ⟨_, rfl⟩
    subst hwa
    go_wp2_with fail
    clear p0 p1 p2 p3 pl q0 q1 q2 q3 ql
    go_loopw [6] (fun i wr => ∃ k : Nat, k ≤ r.wants.length ∧ i = .int .i64 k ∧ Below w1.heap.size w1 wr) (fun i _ => r.wants.length - (intOf i).toNat)
    case atStart => exact ⟨0, Nat.zero_le _, rfl, HBW.out⟩
    case round =>
    clear hlt' HBM HBW
    obtain ⟨ka, hka⟩ : ∃ x, x = k := ⟨_, rfl⟩
    subst hka
    obtain ⟨k, hk, rfl, hbw⟩ := hrel
    have hpa := HP.out.1.same hbw
    have hpb := HP.out.2.1.same hbw
    have p0 := hpa.cell 6
    have p1 := hpa.cell 7
    have p2 := hpa.cell 8
    have p3 := hpa.cell 9
    simp only [List.getElem?_toArray, List.getElem?_cons_zero, List.getElem?_cons_succ] at p0 p1 p2 p3
    have pl := hpa.lt
    have q0 := hpb.cell 6
    have q1 := hpb.cell 7
    have q2 := hpb.cell 8
    have q3 := hpb.cell 9
    simp only [List.getElem?_toArray, List.getElem?_cons_zero, List.getElem?_cons_succ] at q0 q1 q2 q3
    have ql := hpb.lt
    have hbm := HP.out.2.2.trans (hbw.mono HP.out.2.2.size)
    have HBW := Lib.hid hbw
    have HBM := Lib.hid hbm
    clear hpa hpb hbw hbm
    by_cases hlt : k < r.wants.length
    · have hlt' : (k : Int) < (r.wants.length : Int) := by omega
      obtain ⟨g, o, rfl, hg, hc⟩ := ones_get (HA2.out.below HBM.out) hlt
      obtain ⟨g', o', rfl, hg', hc'⟩ := ones_get (HE2.out.below HBM.out) hlt
      go_wp2_with fail
      go_quiet (fail)
      go_wp2_with fail
      exact ⟨⟨k + 1, hlt, by go_num, below_drewN HBW.out _⟩, by simp only [intOf]; omega⟩
    have hlt' : (r.wants.length : Int) ≤ (k : Int) := by omega
    obtain ⟨wb, hwa⟩ : ∃ x, x = wr := ⟨_, rfl⟩
    subst hwa
    go_wp2_with fail
    clear p0 p1 p2 p3 pl q0 q1 q2 q3 ql
    go_loopw [7] (fun i wr => ∃ k : Nat, k ≤ r.gives.length ∧ i = .int .i64 k ∧ Below w1.heap.size w1 wr) (fun i _ => r.gives.length - (intOf i).toNat)
    case atStart => exact ⟨0, Nat.zero_le _, rfl, HBW.out⟩
    case round =>
    clear hlt' HBM HBW
    obtain ⟨kb, hkb⟩ : ∃ x, x = k := ⟨_, rfl⟩
    subst hkb
    obtain ⟨k, hk, rfl, hbw⟩ := hrel
    have hpa := HP.out.1.same hbw
    have hpb := HP.out.2.1.same hbw
    have p0 := hpa.cell 6
    have p1 := hpa.cell 7
    have p2 := hpa.cell 8
    have p3 := hpa.cell 9
    simp only [List.getElem?_toArray, List.getElem?_cons_zero, List.getElem?_cons_succ] at p0 p1 p2 p3
    have pl := hpa.lt
    have q0 := hpb.cell 6
    have q1 := hpb.cell 7
    have q2 := hpb.cell 8
    have q3 := hpb.cell 9
    simp only [List.getElem?_toArray, List.getElem?_cons_zero, List.getElem?_cons_succ] at q0 q1 q2 q3
    have ql := hpb.lt
    have hbm := HP.out.2.2.trans (hbw.mono HP.out.2.2.size)
    have HBW := Lib.hid hbw
    have HBM := Lib.hid hbm
    clear hpa hpb hbw hbm
    by_cases hlt : k < r.gives.length
    · have hlt' : (k : Int) < (r.gives.length : Int) := by omega
      obtain ⟨g, o, lg, rfl, hg, k0, k1, k2, k3, k4, hlg⟩ := kepts_get (k := k) HA3.out.1 HA3.out.2.1 (HA3.out.2.2.1.below HBM.out) (fun j cs x a b => (HA3.out.2.2.2 j cs x a b).same (Ts := [9]) (by simp) (Same.below HBM.out)) hlt
      obtain ⟨g', o', lg', rfl, hg', j0, j1, j2, j3, j4, hlg'⟩ := kepts_get (k := k) HE3.out.1 HE3.out.2.1 (HE3.out.2.2.1.below HBM.out) (fun j cs x a b => (HE3.out.2.2.2 j cs x a b).same (Ts := [9]) (by simp) (Same.below HBM.out)) hlt
      obtain ⟨Al, nl, cl, rfl⟩ := hlg.form
      obtain ⟨Am, nm, cm, rfl⟩ := hlg'.form
      have HLG := Lib.hid (And.intro hlg hlg')
      clear hlg hlg'
      go_upto_region 16 with fail
      go_cut [112] from 94 to 112 (fun b wx => b = .bool false ∧ Below wr.heap.size wr wx)
      case first =>
        go_region_with (go_at_call 30; refine (sameKept_c _ _ r.gives[k] r.gives[k] _ B B' (HLG.out.1.drewN 1) (HLG.out.2.drewN 1)).mono ?_; rintro e w2 ⟨rfl, h2⟩; simp only [decide_true])
        all_goals
          go_wp2_with fail
          go_meet
          exact ⟨rfl, (below_drewN (Below.refl _ _) 1).trans h2⟩
      case rest =>
        obtain ⟨rfl, h2⟩ := hcut
        go_wp2_with fail
        exact ⟨⟨k + 1, hlt, by go_num, HBW.out.trans (h2.mono HBW.out.size)⟩, by simp only [intOf]; omega⟩
    have hlt' : (r.gives.length : Int) ≤ (k : Int) := by omega
    obtain ⟨wd, hwa⟩ : ∃ x, x = wr := ⟨_, rfl⟩
    subst hwa
    go_wp2_with fail
    clear p0 p1 p2 p3 pl q0 q1 q2 q3 ql
    go_loopw [8] (fun i wr => ∃ k : Nat, k ≤ r.given.length ∧ i = .int .i64 k ∧ Below w1.heap.size w1 wr) (fun i _ => r.given.length - (intOf i).toNat)
    case atStart => exact ⟨0, Nat.zero_le _, rfl, HBW.out⟩
    case round =>
    clear hlt' HBM HBW
    obtain ⟨kc, hkc⟩ : ∃ x, x = k := ⟨_, rfl⟩
    subst hkc
    obtain ⟨k, hk, rfl, hbw⟩ := hrel
    have hpa := HP.out.1.same hbw
    have hpb := HP.out.2.1.same hbw
    have p0 := hpa.cell 6
    have p1 := hpa.cell 7
    have p2 := hpa.cell 8
    have p3 := hpa.cell 9
    simp only [List.getElem?_toArray, List.getElem?_cons_zero, List.getElem?_cons_succ] at p0 p1 p2 p3
    have pl := hpa.lt
    have q0 := hpb.cell 6
    have q1 := hpb.cell 7
    have q2 := hpb.cell 8
    have q3 := hpb.cell 9
    simp only [List.getElem?_toArray, List.getElem?_cons_zero, List.getElem?_cons_succ] at q0 q1 q2 q3
    have ql := hpb.lt
    have hbm := HP.out.2.2.trans (hbw.mono HP.out.2.2.size)
    have HBW := Lib.hid hbw
    have HBM := Lib.hid hbm
    clear hpa hpb hbw hbm
    by_cases hlt : k < r.given.length
    · have hlt' : (k : Int) < (r.given.length : Int) := by omega
      obtain ⟨g, o, rfl, hg, hc⟩ := ones_get (HA4.out.below HBM.out) hlt
      obtain ⟨g', o', rfl, hg', hc'⟩ := ones_get (HE4.out.below HBM.out) hlt
      go_wp2_with fail
      go_quiet (fail)
      go_wp2_with fail
      exact ⟨⟨k + 1, hlt, by go_num, below_drewN HBW.out _⟩, by simp only [intOf]; omega⟩
    have hlt' : (r.given.length : Int) ≤ (k : Int) := by omega

    go_wp2
    go_ret
    exact ⟨rfl, HBM.out⟩
end Go.Proofs.Ytioajgcbchdpeaa

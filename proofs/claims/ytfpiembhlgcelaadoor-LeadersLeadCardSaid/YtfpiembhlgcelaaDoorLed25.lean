/- Part 25: words and walks under the law 'LeadersLead'. -/
import Derived.Test.YtfpiembhlgcelaaDoorLed21
import Derived.Test.YtfpiembhlgcelaaDoorLed24
import Derived.Test.YtfpiembhlgcelaaDoorLed11
import Derived.Deep.RegionHeld3
import Derived.Deep.MidRow
set_option linter.unusedVariables false
set_option linter.unusedSimpArgs false
/- Walks: net.settle: what a replica has become is kept; only then it sends. -/
namespace Go.Proofs.YtfpiembhlgcelaaDoor
set_option linter.unusedVariables false
set_option linter.unusedSimpArgs false
open Go.RowKit
set_option maxHeartbeats 4000000
set_option maxRecDepth 100000

theorem wpAnyE_takeM {P : Program} {ops : Array Oper} {Q : Exit → Act → World → Prop} {md : Region.Mode} {S : World → Prop} {t : Nat} {i : Nat} (f : Nat) {oi : Oper} {v : Value} {fuel : Nat} {listed : Array Bool} {a : Act} {w : World} (hi : ops.toList[i]? = some oi)
    (hs : Region.noSelect ops = true) (hf : Region.free md ops listed i = true) (hr : (Region.ready md ops listed).contains i = true) (hrt : reachB md ops i f t = true)
    (hQ : ∀ c a w, Q (.panic c) (a.put oi.dst v) w → Q (.panic c) a w) (hy : YieldsIf P ops S oi v a) (hsh : ShutL md ops listed) (hS : S w)
    (h : ShutL md ops (listed.setIfInBounds i true) → wpAnyE P md ops Q S t fuel (listed.setIfInBounds i true) (a.put oi.dst v) w) : wpAnyE P md ops Q S t (fuel + 1) listed a w :=
  wpAnyE_take f (by rw [← Array.getElem?_toList]; exact hi) hs hf hr hrt hQ hy hsh hS h
theorem stageStore_n (A0 : Option Addr) (n0 c0 : Nat) (A2 : Option Addr) (n2 c2 : Nat) (l : List Scu.Str) (k : Scu.Kept) (up : Int) (w : World) (B BK : Nat) (hv : IsStrs w B (.slice A0 n0 c0) l) (hk : IsStrs w BK (.slice A2 n2 c2) k.log) (l' : List Scu.Str) (f : Int) (h : Scu.store l k up = (l', f)) :
    Calls Tryd.prog 36 #[.slice A0 n0 c0, .agg #[.int .i64 k.view, .int .i64 k.normal, .bool k.calm, .slice A2 n2 c2, .int .i64 k.commit], .int .i64 up] w fun e w' => (∃ Au nu cu, e = .returned (.tuple #[.slice Au nu cu, .int .i64 f]) ∧ IsStrs w' 0 (.slice Au nu cu) l') ∧ Below w.heap.size w w' := by
  have := stageStore_c _ _ l k up w B BK hv hk
  rw [h] at this
  refine this.mono ?_
  rintro e w' ⟨⟨u, rfl, ho⟩, hb⟩
  obtain ⟨A, n, c, rfl⟩ := ho.is.form
  exact ⟨⟨_, _, _, rfl, ho.is⟩, hb⟩
theorem IsMs.below {w w' : World} {v : Value} {ms : List Scu.Message} (h : IsRow 89 8 80 MsgE w 0 v ms) (hb : Below w.heap.size w w') : IsRow 89 8 80 MsgE w' 0 v ms :=
  h.same (Ts := [9, 89]) (by simp) (Same.below hb) (fun _ _ h => h.same (Ts := [9]) (by simp) (Same.below hb))
theorem IsMs.keep {w w' : World} {v : Value} {ms : List Scu.Message} (h : IsRow 89 8 80 MsgE w 0 v ms) (hs : Same [9, 89] 0 w w') : IsRow 89 8 80 MsgE w' 0 v ms :=
  h.same (Ts := [9, 89]) (by simp) hs (fun _ _ h => h.same (Ts := [9, 89]) (by simp) hs)
/-- What the walk holds of a world. -/
structure StlI (W : World) (base gx gb : Nat) (x : Scu.Net) (rv sv fv cv tv : Value) (next : Scu.Replica) (E0 : Option Addr) (m0 z0 : Nat) (E1 : Option Addr) (z1 : Nat) (E2 : Option Addr) (z2 : Nat) (E3 : Option Addr) (z3 : Nat) (E4 : Option Addr) (z4 : Nat) (ov : Value) (ms : List Scu.Message) (w : World) : Prop where
  net : NetW W base gx x rv sv fv cv tv
  box : Blk W gb 81 #[.int .i64 next.me, .int .i64 next.kept.view, .int .i64 next.kept.normal, .bool next.kept.calm, .slice E0 m0 z0, .int .i64 next.kept.commit, .slice E1 next.have_.length z1, .slice E2 next.wants.length z2, .slice E3 next.gives.length z3, .slice E4 next.given.length z4]
  rep : IsRep W 0 (.slice E0 m0 z0) (.slice E1 next.have_.length z1) (.slice E2 next.wants.length z2) (.slice E3 next.gives.length z3) (.slice E4 next.given.length z4) next
  row : IsRow 89 8 80 MsgE W 0 ov ms
  fr : Fr base w W
  le : base ≤ W.heap.size
theorem StlI.below {W W' : World} {base gx gb : Nat} {x : Scu.Net} {rv sv fv cv tv : Value} {next : Scu.Replica} {E0 : Option Addr} {m0 z0 : Nat} {E1 : Option Addr} {z1 : Nat} {E2 : Option Addr} {z2 : Nat} {E3 : Option Addr} {z3 : Nat} {E4 : Option Addr} {z4 : Nat} {ov : Value} {ms : List Scu.Message} {w : World} (h : StlI W base gx gb x rv sv fv cv tv next E0 m0 z0 E1 z1 E2 z2 E3 z3 E4 z4 ov ms w) (hb : Below W.heap.size W W') :
    StlI W' base gx gb x rv sv fv cv tv next E0 m0 z0 E1 z1 E2 z2 E3 z3 E4 z4 ov ms w :=
  ⟨h.net.below hb, h.box.same hb, h.rep.below hb, IsMs.below h.row hb, h.fr.trans (Fr.of hb h.le), Nat.le_trans h.le hb.size⟩
/-- The replica is set in its row. -/
theorem StlI.put {W : World} {base gx gb g n c k : Nat} {x : Scu.Net} {sv fv cv tv : Value} {next : Scu.Replica} {E0 : Option Addr} {m0 z0 : Nat} {E1 : Option Addr} {z1 : Nat} {E2 : Option Addr} {z2 : Nat} {E3 : Option Addr} {z3 : Nat} {E4 : Option Addr} {z4 : Nat} {ov : Value} {ms : List Scu.Message} {w : World} (h : StlI W base gx gb x (.slice (some ⟨g, 0, none⟩) n c) sv fv cv tv next E0 m0 z0 E1 z1 E2 z2 E3 z3 E4 z4 ov ms w) (hk : k < x.replicas.length) :
    NetW (W.setCells g (k * 10) [.int .i64 next.me, .int .i64 next.kept.view, .int .i64 next.kept.normal, .bool next.kept.calm, .slice E0 m0 z0, .int .i64 next.kept.commit, .slice E1 next.have_.length z1, .slice E2 next.wants.length z2, .slice E3 next.gives.length z3, .slice E4 next.given.length z4]) base gx { x with replicas := x.replicas.set k next } (.slice (some ⟨g, 0, none⟩) n c) sv fv cv tv ∧ Fr base w (W.setCells g (k * 10) [.int .i64 next.me, .int .i64 next.kept.view, .int .i64 next.kept.normal, .bool next.kept.calm, .slice E0 m0 z0, .int .i64 next.kept.commit, .slice E1 next.have_.length z1, .slice E2 next.wants.length z2, .slice E3 next.gives.length z3, .slice E4 next.given.length z4]) ∧ IsRow 89 8 80 MsgE (W.setCells g (k * 10) [.int .i64 next.me, .int .i64 next.kept.view, .int .i64 next.kept.normal, .bool next.kept.calm, .slice E0 m0 z0, .int .i64 next.kept.commit, .slice E1 next.have_.length z1, .slice E2 next.wants.length z2, .slice E3 next.gives.length z3, .slice E4 next.given.length z4]) 0 ov ms ∧ base ≤ (W.setCells g (k * 10) [.int .i64 next.me, .int .i64 next.kept.view, .int .i64 next.kept.normal, .bool next.kept.calm, .slice E0 m0 z0, .int .i64 next.kept.commit, .slice E1 next.have_.length z1, .slice E2 next.wants.length z2, .slice E3 next.gives.length z3, .slice E4 next.given.length z4]).heap.size := by
  obtain ⟨hP, hF⟩ := h.net.putRep hk (cs := [.int .i64 next.me, .int .i64 next.kept.view, .int .i64 next.kept.normal, .bool next.kept.calm, .slice E0 m0 z0, .int .i64 next.kept.commit, .slice E1 next.have_.length z1, .slice E2 next.wants.length z2, .slice E3 next.gives.length z3, .slice E4 next.given.length z4]) ⟨_, _, _, _, _, rfl, h.rep⟩
  obtain ⟨css, hr⟩ := h.net.reps
  obtain ⟨_, _, _, e, _, ⟨cur, hB⟩, _⟩ := hr.at_ hk
  cases e
  exact ⟨hP, h.fr.trans hF, IsMs.keep h.row (Same.sets _ _ _ cur hB (by decide)), Nat.le_trans h.le hF.size⟩
/- boxed, and compared -/
/- the replica is stored, and what it sends is sent -/
theorem settle_1 (r : Nat) (next : Scu.Replica) (lu hv wv gv nv : Value) (A : Option Addr) (c : Nat) (ms : List Scu.Message) (upto : Int) (w : World) (base gx : Nat) (x : Scu.Net) (rv sv fv cv tv : Value) (hN : NetW w base gx x rv sv fv cv tv) (hb : base ≤ w.heap.size) (hr : r < x.replicas.length) (hs : r < x.slots.length) (hr3 : x.replicas.length = 3) (hrep : IsRep w 0 lu hv wv gv nv next) (hms : IsRow 89 8 80 MsgE w 0 (.slice A ms.length c) ms) (hap : ∀ g, (Value.slice A ms.length c).ownBlock = some g → fv.ownBlock ≠ some g) (h80 : x.flying.length ≤ 80) (hsm : next.kept = x.replicas[r].kept) (hup : upto < 0) (y : Scu.Net) (f : Int) (hy : y = { x with replicas := x.replicas.set r next, flying := Scu.sendAll x.flying ms } ∧ f = 0) :
    Calls Tryd.prog 106 #[.pointer (some ⟨gx, 0, none⟩), .int .i64 r, .agg #[.int .i64 next.me, .int .i64 next.kept.view, .int .i64 next.kept.normal, .bool next.kept.calm, lu, .int .i64 next.kept.commit, hv, wv, gv, nv], .slice A ms.length c, .int .i64 upto] w fun e w' => e = .returned (.int .i64 f) ∧ NetE w' base gx y ∧ Fr base w w' := by
  have HSM := Lib.hid (show decide (next.kept = x.replicas[r].kept) = true by rw [decide_eq_true_eq]; exact hsm)
  have HY := Lib.hid hy
  clear hsm hy
  have hupd : decide (upto < 0) = true := by simpa using hup
  have HR3 := Lib.hid hr3
  clear hr3
  obtain ⟨B0, e0, B1, e1, B2, e2, B3, e3, B4, e4, rfl, rfl, rfl, rfl, rfl⟩ := hN.forms
  obtain ⟨E0, m0, z0, E1, z1, E2, z2, E3, z3, E4, z4, rfl, rfl, rfl, rfl, rfl⟩ := hrep.forms
  obtain ⟨gr, cr, lu0, hv0, wv0, gv0, nv0, er', hbr, hgr, hir, hra, -, curr, hBr⟩ := hN.repAt hr
  obtain ⟨rfl, rfl⟩ : B0 = some ⟨gr, 0, none⟩ ∧ e0 = cr := by cases er'; exact ⟨rfl, rfl⟩
  obtain ⟨rk, hrk⟩ : ∃ rk, x.replicas[r] = rk := ⟨_, rfl⟩
  rw [hrk] at hra hir
  obtain ⟨Ak, nk, ck, rfl⟩ := hir.log.form
  have hal := below_alloc w (Obj.cells #[.int .i64 next.me, .int .i64 next.kept.view, .int .i64 next.kept.normal, .bool next.kept.calm, .slice E0 m0 z0, .int .i64 next.kept.commit, .slice E1 next.have_.length z1, .slice E2 next.wants.length z2, .slice E3 next.gives.length z3, .slice E4 next.given.length z4] 81)
  have HI := Lib.hid (show StlI (w.alloc (Obj.cells #[.int .i64 next.me, .int .i64 next.kept.view, .int .i64 next.kept.normal, .bool next.kept.calm, .slice E0 m0 z0, .int .i64 next.kept.commit, .slice E1 next.have_.length z1, .slice E2 next.wants.length z2, .slice E3 next.gives.length z3, .slice E4 next.given.length z4] 81)) base gx w.heap.size x (.slice (some ⟨gr, 0, none⟩) x.replicas.length e0) (.slice B1 x.slots.length e1) (.slice B2 x.flying.length e2) (.slice B3 x.clients.length e3) (.slice B4 x.told.length e4) next E0 m0 z0 E1 z1 E2 z2 E3 z3 E4 z4 (.slice A ms.length c) ms w from
    ⟨hN.below hal, Blk.new _ _ _, hrep.below hal, IsMs.below hms hal, Fr.of hal hb, Nat.le_trans hb hal.size⟩)
  have HRA := Lib.hid (World.rangeAt_alloc hra (Obj.cells #[.int .i64 next.me, .int .i64 next.kept.view, .int .i64 next.kept.normal, .bool next.kept.calm, .slice E0 m0 z0, .int .i64 next.kept.commit, .slice E1 next.have_.length z1, .slice E2 next.wants.length z2, .slice E3 next.gives.length z3, .slice E4 next.given.length z4] 81))
  have HIR := Lib.hid (hir.log.below hal)
  have HAP := Lib.hid hap
  have HRK := Lib.hid hrk
  have nxr : gx ≠ gr := blk_ne hN.box hBr (by decide)
  have nbr : w.heap.size ≠ gr := by omega
  have hrl : (r : Int) < (x.replicas.length : Int) := by omega
  have hsl : (r : Int) < (x.slots.length : Int) := by omega
  clear hN hrep hms er' hra hir hap hrk hal hBr hbr
  go_enter Tryd.func106, Tryd.ntmps106
  go_upto_region 1 with fail
  obtain ⟨Wd, hWd⟩ : ∃ W, W = w.alloc (Obj.cells #[.int .i64 next.me, .int .i64 next.kept.view, .int .i64 next.kept.normal, .bool next.kept.calm, .slice E0 m0 z0, .int .i64 next.kept.commit, .slice E1 next.have_.length z1, .slice E2 next.wants.length z2, .slice E3 next.gives.length z3, .slice E4 next.given.length z4] 81) := ⟨_, rfl⟩
  rw [← hWd] at HI HRA HIR ⊢
  clear hWd
  have hbx := HI.out.box
  have n1 := hbx.cell 1
  have n2 := hbx.cell 2
  have n3 := hbx.cell 3
  have n4 := hbx.cell 4
  have n5 := hbx.cell 5
  have d0 := HI.out.net.box.cell 0
  simp only [List.getElem?_toArray, List.getElem?_cons_zero, List.getElem?_cons_succ] at n1 n2 n3 n4 n5 d0
  have p1 : Wd.cell? ⟨gr, r * 10 + 1, none⟩ = some (.int .i64 rk.kept.view) := HRA.out 1 _ rfl
  have p2 : Wd.cell? ⟨gr, r * 10 + 2, none⟩ = some (.int .i64 rk.kept.normal) := HRA.out 2 _ rfl
  have p3 : Wd.cell? ⟨gr, r * 10 + 3, none⟩ = some (.bool rk.kept.calm) := HRA.out 3 _ rfl
  have p4 : Wd.cell? ⟨gr, r * 10 + 4, none⟩ = some (.slice Ak nk ck) := HRA.out 4 _ rfl
  have p5 : Wd.cell? ⟨gr, r * 10 + 5, none⟩ = some (.int .i64 rk.kept.commit) := HRA.out 5 _ rfl
  have dl := HI.out.net.box.lt
  have nl := hbx.lt
  have gl : gr < Wd.heap.size := by omega
  clear hbx
  go_wp2_with fail
  obtain ⟨S, hSd⟩ : ∃ S : World → Prop, S = fun w' => w'.cell? ⟨gx, 0, none⟩ = some (.slice (some ⟨gr, 0, none⟩) x.replicas.length e0) ∧ w'.cell? ⟨w.heap.size, 1, none⟩ = some (.int .i64 next.kept.view) ∧ w'.cell? ⟨w.heap.size, 2, none⟩ = some (.int .i64 next.kept.normal) ∧ w'.cell? ⟨w.heap.size, 3, none⟩ = some (.bool next.kept.calm) ∧ w'.cell? ⟨w.heap.size, 4, none⟩ = some (.slice E0 m0 z0) ∧ w'.cell? ⟨w.heap.size, 5, none⟩ = some (.int .i64 next.kept.commit) ∧ w'.cell? ⟨gr, r * 10 + 1, none⟩ = some (.int .i64 rk.kept.view) ∧ w'.cell? ⟨gr, r * 10 + 2, none⟩ = some (.int .i64 rk.kept.normal) ∧ w'.cell? ⟨gr, r * 10 + 3, none⟩ = some (.bool rk.kept.calm) ∧ w'.cell? ⟨gr, r * 10 + 4, none⟩ = some (.slice Ak nk ck) ∧ w'.cell? ⟨gr, r * 10 + 5, none⟩ = some (.int .i64 rk.kept.commit) := ⟨_, rfl⟩
  have hS0 : S Wd.drew := by rw [hSd]; exact ⟨d0, n1, n2, n3, n4, n5, p1, p2, p3, p4, p5⟩
  refine wp_region_E S 14 (by kernel_rfl) (fun hsh => ?_)
  change wpAnyE _ _ _ _ _ _ _ _ _ Wd.drew
  refine wpAnyE_takeM (i := 0) 10 (v := ?_) rfl (by kernel_rfl) (by kernel_rfl) (by kernel_rfl) (by kernel_rfl) (fun _ _ _ h => h) (Or.inl ⟨by rfl, ?_⟩) hsh hS0 (fun hsh => ?_)
  rotate_left
  · (intro wv hSw; rw [hSd] at hSw; obtain ⟨s0, s1, s2, s3, s4, s5, s6, s7, s8, s9, s10⟩ := hSw; go_simp; (try with_reducible rfl))
  (try simp only [Act.put, List.setIfInBounds_toArray, List.set_cons_zero, List.set_cons_succ])
  refine wpAnyE_takeM (i := 1) 10 (v := ?_) rfl (by kernel_rfl) (by kernel_rfl) (by kernel_rfl) (by kernel_rfl) (fun _ _ _ h => h) (Or.inl ⟨by rfl, ?_⟩) hsh hS0 (fun hsh => ?_)
  rotate_left
  · (intro wv hSw; rw [hSd] at hSw; obtain ⟨s0, s1, s2, s3, s4, s5, s6, s7, s8, s9, s10⟩ := hSw; go_simp; (try with_reducible rfl))
  (try simp only [Act.put, List.setIfInBounds_toArray, List.set_cons_zero, List.set_cons_succ])
  refine wpAnyE_takeM (i := 2) 10 (v := ?_) rfl (by kernel_rfl) (by kernel_rfl) (by kernel_rfl) (by kernel_rfl) (fun _ _ _ h => h) (Or.inl ⟨by rfl, ?_⟩) hsh hS0 (fun hsh => ?_)
  rotate_left
  · (intro wv hSw; rw [hSd] at hSw; obtain ⟨s0, s1, s2, s3, s4, s5, s6, s7, s8, s9, s10⟩ := hSw; go_simp; (try with_reducible rfl))
  (try simp only [Act.put, List.setIfInBounds_toArray, List.set_cons_zero, List.set_cons_succ])
  refine wpAnyE_takeM (i := 3) 10 (v := ?_) rfl (by kernel_rfl) (by kernel_rfl) (by kernel_rfl) (by kernel_rfl) (fun _ _ _ h => h) (Or.inl ⟨by rfl, ?_⟩) hsh hS0 (fun hsh => ?_)
  rotate_left
  · (intro wv hSw; rw [hSd] at hSw; obtain ⟨s0, s1, s2, s3, s4, s5, s6, s7, s8, s9, s10⟩ := hSw; go_simp; (try with_reducible rfl))
  (try simp only [Act.put, List.setIfInBounds_toArray, List.set_cons_zero, List.set_cons_succ])
  refine wpAnyE_takeM (i := 4) 10 (v := ?_) rfl (by kernel_rfl) (by kernel_rfl) (by kernel_rfl) (by kernel_rfl) (fun _ _ _ h => h) (Or.inl ⟨by rfl, ?_⟩) hsh hS0 (fun hsh => ?_)
  rotate_left
  · (intro wv hSw; rw [hSd] at hSw; obtain ⟨s0, s1, s2, s3, s4, s5, s6, s7, s8, s9, s10⟩ := hSw; go_simp; (try with_reducible rfl))
  (try simp only [Act.put, List.setIfInBounds_toArray, List.set_cons_zero, List.set_cons_succ])
  refine wpAnyE_takeM (i := 5) 10 (v := ?_) rfl (by kernel_rfl) (by kernel_rfl) (by kernel_rfl) (by kernel_rfl) (fun _ _ _ h => h) (Or.inl ⟨by rfl, ?_⟩) hsh hS0 (fun hsh => ?_)
  rotate_left
  · (intro wv hSw; rw [hSd] at hSw; obtain ⟨s0, s1, s2, s3, s4, s5, s6, s7, s8, s9, s10⟩ := hSw; go_simp; (try with_reducible rfl))
  (try simp only [Act.put, List.setIfInBounds_toArray, List.set_cons_zero, List.set_cons_succ])
  refine wpAnyE_takeM (i := 6) 10 (v := ?_) rfl (by kernel_rfl) (by kernel_rfl) (by kernel_rfl) (by kernel_rfl) (fun _ _ _ h => h) (Or.inl ⟨by rfl, ?_⟩) hsh hS0 (fun hsh => ?_)
  rotate_left
  · (intro wv hSw; rw [hSd] at hSw; obtain ⟨s0, s1, s2, s3, s4, s5, s6, s7, s8, s9, s10⟩ := hSw; go_simp; (try with_reducible rfl))
  (try simp only [Act.put, List.setIfInBounds_toArray, List.set_cons_zero, List.set_cons_succ])
  refine wpAnyE_takeM (i := 7) 10 (v := ?_) rfl (by kernel_rfl) (by kernel_rfl) (by kernel_rfl) (by kernel_rfl) (fun _ _ _ h => h) (Or.inl ⟨by rfl, ?_⟩) hsh hS0 (fun hsh => ?_)
  rotate_left
  · (intro wv hSw; rw [hSd] at hSw; obtain ⟨s0, s1, s2, s3, s4, s5, s6, s7, s8, s9, s10⟩ := hSw; go_simp; (try with_reducible rfl))
  (try simp only [Act.put, List.setIfInBounds_toArray, List.set_cons_zero, List.set_cons_succ])
  refine wpAnyE_takeM (i := 8) 10 (v := ?_) rfl (by kernel_rfl) (by kernel_rfl) (by kernel_rfl) (by kernel_rfl) (fun _ _ _ h => h) (Or.inl ⟨by rfl, ?_⟩) hsh hS0 (fun hsh => ?_)
  rotate_left
  · (intro wv hSw; rw [hSd] at hSw; obtain ⟨s0, s1, s2, s3, s4, s5, s6, s7, s8, s9, s10⟩ := hSw; go_simp; (try with_reducible rfl))
  (try simp only [Act.put, List.setIfInBounds_toArray, List.set_cons_zero, List.set_cons_succ])
  refine wpAnyE_takeM (i := 9) 10 (v := ?_) rfl (by kernel_rfl) (by kernel_rfl) (by kernel_rfl) (by kernel_rfl) (fun _ _ _ h => h) (Or.inl ⟨by rfl, ?_⟩) hsh hS0 (fun hsh => ?_)
  rotate_left
  · (intro wv hSw; rw [hSd] at hSw; obtain ⟨s0, s1, s2, s3, s4, s5, s6, s7, s8, s9, s10⟩ := hSw; go_simp; (try with_reducible rfl))
  (try simp only [Act.put, List.setIfInBounds_toArray, List.set_cons_zero, List.set_cons_succ])
  refine wpAnyE_all (rs := [10]) (by kernel_rfl) (by simp) ?_
  intro ii hii
  rw [List.mem_singleton] at hii
  subst hii
  refine wpOp_step (o := _) rfl (fun KS hKS => ?_)
  go_simp
  refine (netSame_c E0 Ak m0 nk z0 ck next.kept rk.kept Wd.drew 0 0 (HI.out.rep.log.below (Below.refl _ _).drew) (HIR.out.below (Below.refl _ _).drew) true (by rw [← HRK.out]; exact HSM.out)).mono ?_; rintro en x1 ⟨rfl, k1⟩
  have nn1 : Below Wd.heap.size Wd x1 := (Below.refl _ _).drew.trans k1
  have f0 := (nn1.cell (p := ⟨gx, 0, none⟩) dl).trans d0
  have f1 := (nn1.cell (p := ⟨w.heap.size, 1, none⟩) nl).trans n1
  have f2 := (nn1.cell (p := ⟨w.heap.size, 2, none⟩) nl).trans n2
  have f3 := (nn1.cell (p := ⟨w.heap.size, 3, none⟩) nl).trans n3
  have f4 := (nn1.cell (p := ⟨w.heap.size, 4, none⟩) nl).trans n4
  have f5 := (nn1.cell (p := ⟨w.heap.size, 5, none⟩) nl).trans n5
  have f6 := (nn1.cell (p := ⟨gr, r * 10 + 1, none⟩) gl).trans p1
  have f7 := (nn1.cell (p := ⟨gr, r * 10 + 2, none⟩) gl).trans p2
  have f8 := (nn1.cell (p := ⟨gr, r * 10 + 3, none⟩) gl).trans p3
  have f9 := (nn1.cell (p := ⟨gr, r * 10 + 4, none⟩) gl).trans p4
  have f10 := (nn1.cell (p := ⟨gr, r * 10 + 5, none⟩) gl).trans p5
  have hS0 : S x1 := by rw [hSd]; exact ⟨f0, f1, f2, f3, f4, f5, f6, f7, f8, f9, f10⟩
  have HI1 := Lib.hid (HI.out.below nn1)
  have gl1 : gr < x1.heap.size := Nat.lt_of_lt_of_le gl nn1.size
  clear k1
  refine hKS _ _ ⟨.inr hS0, ?_⟩
  have hsh := hsh.set (i := 10) (by rw [← List.contains_iff_mem]; kernel_rfl)
  (try simp only [Act.put, List.setIfInBounds_toArray, List.set_cons_zero, List.set_cons_succ])
  refine wpAnyE_takeM (i := 11) 10 (v := ?_) rfl (by kernel_rfl) (by kernel_rfl) (by kernel_rfl) (by kernel_rfl) (fun _ _ _ h => h) (Or.inl ⟨by rfl, ?_⟩) hsh hS0 (fun hsh => ?_)
  rotate_left
  · (intro wv hSw; rw [hSd] at hSw; obtain ⟨s0, s1, s2, s3, s4, s5, s6, s7, s8, s9, s10⟩ := hSw; go_simp; (try with_reducible rfl))
  (try simp only [Act.put, List.setIfInBounds_toArray, List.set_cons_zero, List.set_cons_succ])
  refine wpAnyE_takeM (i := 12) 10 (v := ?_) rfl (by kernel_rfl) (by kernel_rfl) (by kernel_rfl) (by kernel_rfl) (fun _ _ _ h => h) (Or.inl ⟨by rfl, ?_⟩) hsh hS0 (fun hsh => ?_)
  rotate_left
  · (intro wv hSw; rw [hSd] at hSw; obtain ⟨s0, s1, s2, s3, s4, s5, s6, s7, s8, s9, s10⟩ := hSw; go_simp; (try with_reducible rfl))
  (try simp only [Act.put, List.setIfInBounds_toArray, List.set_cons_zero, List.set_cons_succ])
  refine wpAnyE_takeM (i := 13) 10 (v := ?_) rfl (by kernel_rfl) (by kernel_rfl) (by kernel_rfl) (by kernel_rfl) (fun _ _ _ h => h) (Or.inl ⟨by rfl, ?_⟩) hsh hS0 (fun hsh => ?_)
  rotate_left
  · (intro wv hSw; rw [hSd] at hSw; obtain ⟨s0, s1, s2, s3, s4, s5, s6, s7, s8, s9, s10⟩ := hSw; go_simp; (try with_reducible rfl))
  (try simp only [Act.put, List.setIfInBounds_toArray, List.set_cons_zero, List.set_cons_succ])
  refine wpAnyE_all (rs := [14]) (by kernel_rfl) (by simp) ?_
  intro ii hii
  rw [List.mem_singleton] at hii
  subst hii
  refine wpOp_step (o := _) rfl (fun KU hKU => ?_)
  go_simp
  refine hKU _ _ ⟨.inl rfl, wpAnyE_done (by kernel_rfl) ?_ _⟩
  clear hKU hKS hS0 hSd hsh d0 n1 n2 n3 n4 n5 p1 p2 p3 p4 p5 f0 f1 f2 f3 f4 f5 f6 f7 f8 f9 f10 dl nl gl nn1
  have hbx := HI1.out.box
  have b0 := hbx.cell 0
  have b1 := hbx.cell 1
  have b2 := hbx.cell 2
  have b3 := hbx.cell 3
  have b4 := hbx.cell 4
  have b5 := hbx.cell 5
  have b6 := hbx.cell 6
  have b7 := hbx.cell 7
  have b8 := hbx.cell 8
  have b9 := hbx.cell 9
  have d0 := HI1.out.net.box.cell 0
  simp only [List.getElem?_toArray, List.getElem?_cons_zero, List.getElem?_cons_succ] at b0 b1 b2 b3 b4 b5 b6 b7 b8 b9 d0
  have dl := HI1.out.net.box.lt
  have bl := hbx.lt
  clear hbx
  obtain ⟨_, _, _, _, _, _, _, er2, _, _, _, _, hth, _⟩ := HI1.out.net.repAt hr
  have hth2 : World.there (x1.drew) gr (r * 10) 10 := by cases er2; exact hth
  clear er2 hth
  go_wp2_with fail
  obtain ⟨S, hSd⟩ : ∃ S : World → Prop, S = fun w' => w'.cell? ⟨gx, 0, none⟩ = some (.slice (some ⟨gr, 0, none⟩) x.replicas.length e0) ∧ w'.cell? ⟨w.heap.size, 0, none⟩ = some (.int .i64 next.me) ∧ w'.cell? ⟨w.heap.size, 1, none⟩ = some (.int .i64 next.kept.view) ∧ w'.cell? ⟨w.heap.size, 2, none⟩ = some (.int .i64 next.kept.normal) ∧ w'.cell? ⟨w.heap.size, 3, none⟩ = some (.bool next.kept.calm) ∧ w'.cell? ⟨w.heap.size, 4, none⟩ = some (.slice E0 m0 z0) ∧ w'.cell? ⟨w.heap.size, 5, none⟩ = some (.int .i64 next.kept.commit) ∧ w'.cell? ⟨w.heap.size, 6, none⟩ = some (.slice E1 next.have_.length z1) ∧ w'.cell? ⟨w.heap.size, 7, none⟩ = some (.slice E2 next.wants.length z2) ∧ w'.cell? ⟨w.heap.size, 8, none⟩ = some (.slice E3 next.gives.length z3) ∧ w'.cell? ⟨w.heap.size, 9, none⟩ = some (.slice E4 next.given.length z4) := ⟨_, rfl⟩
  have hS0 : S x1.drew := by rw [hSd]; exact ⟨d0, b0, b1, b2, b3, b4, b5, b6, b7, b8, b9⟩
  refine wp_region_E S 7 (by kernel_rfl) (fun hsh => ?_)
  change wpAnyE _ _ _ _ _ _ _ _ _ x1.drew
  refine wpAnyE_takeM (i := 0) 10 (v := ?_) rfl (by kernel_rfl) (by kernel_rfl) (by kernel_rfl) (by kernel_rfl) (fun _ _ _ h => h) (Or.inl ⟨by rfl, ?_⟩) hsh hS0 (fun hsh => ?_)
  rotate_left
  · (intro wv hSw; rw [hSd] at hSw; obtain ⟨s0, s1, s2, s3, s4, s5, s6, s7, s8, s9, s10⟩ := hSw; go_simp; (try with_reducible rfl))
  (try simp only [Act.put, List.setIfInBounds_toArray, List.set_cons_zero, List.set_cons_succ])
  refine wpAnyE_takeM (i := 1) 10 (v := ?_) rfl (by kernel_rfl) (by kernel_rfl) (by kernel_rfl) (by kernel_rfl) (fun _ _ _ h => h) (Or.inl ⟨by rfl, ?_⟩) hsh hS0 (fun hsh => ?_)
  rotate_left
  · (intro wv hSw; rw [hSd] at hSw; obtain ⟨s0, s1, s2, s3, s4, s5, s6, s7, s8, s9, s10⟩ := hSw; go_simp; (try with_reducible rfl))
  (try simp only [Act.put, List.setIfInBounds_toArray, List.set_cons_zero, List.set_cons_succ])
  refine wpAnyE_takeM (i := 2) 10 (v := ?_) rfl (by kernel_rfl) (by kernel_rfl) (by kernel_rfl) (by kernel_rfl) (fun _ _ _ h => h) (Or.inl ⟨by rfl, ?_⟩) hsh hS0 (fun hsh => ?_)
  rotate_left
  · (intro wv hSw; rw [hSd] at hSw; obtain ⟨s0, s1, s2, s3, s4, s5, s6, s7, s8, s9, s10⟩ := hSw; go_simp; (try with_reducible rfl))
  (try simp only [Act.put, List.setIfInBounds_toArray, List.set_cons_zero, List.set_cons_succ])
  refine wpAnyE_takeM (i := 3) 10 (v := ?_) rfl (by kernel_rfl) (by kernel_rfl) (by kernel_rfl) (by kernel_rfl) (fun _ _ _ h => h) (Or.inl ⟨by rfl, ?_⟩) hsh hS0 (fun hsh => ?_)
  rotate_left
  · (intro wv hSw; rw [hSd] at hSw; obtain ⟨s0, s1, s2, s3, s4, s5, s6, s7, s8, s9, s10⟩ := hSw; go_simp; (try with_reducible rfl))
  (try simp only [Act.put, List.setIfInBounds_toArray, List.set_cons_zero, List.set_cons_succ])
  refine wpAnyE_takeM (i := 4) 10 (v := ?_) rfl (by kernel_rfl) (by kernel_rfl) (by kernel_rfl) (by kernel_rfl) (fun _ _ _ h => h) (Or.inl ⟨by rfl, ?_⟩) hsh hS0 (fun hsh => ?_)
  rotate_left
  · (intro wv hSw; rw [hSd] at hSw; obtain ⟨s0, s1, s2, s3, s4, s5, s6, s7, s8, s9, s10⟩ := hSw; go_simp; (try with_reducible rfl))
  (try simp only [Act.put, List.setIfInBounds_toArray, List.set_cons_zero, List.set_cons_succ])
  refine wpAnyE_takeM (i := 5) 10 (v := ?_) rfl (by kernel_rfl) (by kernel_rfl) (by kernel_rfl) (by kernel_rfl) (fun _ _ _ h => h) (Or.inl ⟨by rfl, ?_⟩) hsh hS0 (fun hsh => ?_)
  rotate_left
  · (intro wv hSw; rw [hSd] at hSw; obtain ⟨s0, s1, s2, s3, s4, s5, s6, s7, s8, s9, s10⟩ := hSw; go_simp; (try with_reducible rfl))
  (try simp only [Act.put, List.setIfInBounds_toArray, List.set_cons_zero, List.set_cons_succ])
  refine wpAnyE_takeM (i := 6) 10 (v := ?_) rfl (by kernel_rfl) (by kernel_rfl) (by kernel_rfl) (by kernel_rfl) (fun _ _ _ h => h) (Or.inl ⟨by rfl, ?_⟩) hsh hS0 (fun hsh => ?_)
  rotate_left
  · (intro wv hSw; rw [hSd] at hSw; obtain ⟨s0, s1, s2, s3, s4, s5, s6, s7, s8, s9, s10⟩ := hSw; go_simp; (try with_reducible rfl))
  (try simp only [Act.put, List.setIfInBounds_toArray, List.set_cons_zero, List.set_cons_succ])
  refine wpAnyE_all (rs := [7]) (by kernel_rfl) (by simp) ?_
  intro ii hii
  rw [List.mem_singleton] at hii
  subst hii
  refine wpOp_step (o := _) rfl (fun KU hKU => ?_)
  rw [if_pos (by rfl)]
  refine wp_store_mid 81 (.tmp 34) (.tmp 33) rfl gr (r * 10) #[.int .i64 next.me, .int .i64 next.kept.view, .int .i64 next.kept.normal, .bool next.kept.calm, .slice E0 m0 z0, .int .i64 next.kept.commit, .slice E1 next.have_.length z1, .slice E2 next.wants.length z2, .slice E3 next.gives.length z3, .slice E4 next.given.length z4] rfl rfl hth2 (by kernel_rfl) (all_oneCell_toArray (rep_one HI1.out.rep)) ?_
  refine hKU _ _ ⟨.inl rfl, wpAnyE_done (by kernel_rfl) ?_ _⟩
  (try simp only [Act.put, List.setIfInBounds_toArray, List.set_cons_zero, List.set_cons_succ])
  clear hKU hS0 hSd hsh
  obtain ⟨W2, hW2⟩ : ∃ W, W = (x1.drew).setCells gr (r * 10) [.int .i64 next.me, .int .i64 next.kept.view, .int .i64 next.kept.normal, .bool next.kept.calm, .slice E0 m0 z0, .int .i64 next.kept.commit, .slice E1 next.have_.length z1, .slice E2 next.wants.length z2, .slice E3 next.gives.length z3, .slice E4 next.given.length z4] := ⟨_, rfl⟩
  have HP := Lib.hid (show NetW W2 base gx { x with replicas := x.replicas.set r next } (.slice (some ⟨gr, 0, none⟩) x.replicas.length e0) (.slice B1 x.slots.length e1) (.slice B2 x.flying.length e2) (.slice B3 x.clients.length e3) (.slice B4 x.told.length e4) ∧ Fr base w W2 ∧ IsRow 89 8 80 MsgE W2 0 (.slice A ms.length c) ms ∧ base ≤ W2.heap.size from by
    rw [hW2]
    exact (HI1.out.below (Below.refl _ _).drew).put (k := r) hr)
  change Exit.then _ _ _ _ ((x1.drew).setCells gr (r * 10) [.int .i64 next.me, .int .i64 next.kept.view, .int .i64 next.kept.normal, .bool next.kept.calm, .slice E0 m0 z0, .int .i64 next.kept.commit, .slice E1 next.have_.length z1, .slice E2 next.wants.length z2, .slice E3 next.gives.length z3, .slice E4 next.given.length z4])
  rw [← hW2]
  clear hW2 b0 b1 b2 b3 b4 b5 b6 b7 b8 b9 d0 dl bl hth2
  go_wp2_with fail
  refine (netSend_c A c ms W2 base gx { x with replicas := x.replicas.set r next } _ _ _ _ _ HP.out.1 HP.out.2.2.2 HP.out.2.2.1 HAP.out h80).mono ?_; rintro en w9 ⟨rfl, hn9, hf9⟩
  have H9 := Lib.hid (And.intro hn9 (HP.out.2.1.trans hf9))
  clear hn9 hf9
  go_wp2
  go_ret
  exact ⟨ret_val (int_eq HY.out.2.symm), by rw [HY.out.1]; exact H9.out.1, H9.out.2⟩

theorem StlI.slot {W : World} {base gx gb g n c k : Nat} {x : Scu.Net} {rv fv cv tv : Value} {next : Scu.Replica} {E0 : Option Addr} {m0 z0 : Nat} {E1 : Option Addr} {z1 : Nat} {E2 : Option Addr} {z2 : Nat} {E3 : Option Addr} {z3 : Nat} {E4 : Option Addr} {z4 : Nat} {ov : Value} {ms : List Scu.Message} {w : World} (h : StlI W base gx gb x rv (.slice (some ⟨g, 0, none⟩) n c) fv cv tv next E0 m0 z0 E1 z1 E2 z2 E3 z3 E4 z4 ov ms w) (hk : k < x.slots.length) {u : Value} {l : List Scu.Str} (hu : IsStrs W 0 u l) :
    StlI (W.setCell ⟨g, k, none⟩ u) base gx gb { x with slots := x.slots.set k l } rv (.slice (some ⟨g, 0, none⟩) n c) fv cv tv next E0 m0 z0 E1 z1 E2 z2 E3 z3 E4 z4 ov ms w := by
  obtain ⟨hP, hF⟩ := h.net.putSlot hk hu
  obtain ⟨_, _, _, e, _, _, _, _, _, cur, hB⟩ := h.net.slotAt hk
  cases e
  have hs : Same [9, 3, 4, 64, 81, 89] 0 W (W.setCell ⟨g, k, none⟩ u) := Same.set_ hB (Nat.zero_le _) (by decide) k u
  exact ⟨hP, blk_keep h.box hs (by simp), h.rep.same (hs.mono (by simp) (Nat.le_refl _)), IsMs.keep h.row (hs.mono (by simp) (Nat.le_refl _)), h.fr.trans hF, Nat.le_trans h.le hF.size⟩
/- the slots are written -/
theorem settle_2 (r : Nat) (next : Scu.Replica) (lu hv wv gv nv : Value) (A : Option Addr) (c : Nat) (ms : List Scu.Message) (upto : Int) (w : World) (base gx : Nat) (x : Scu.Net) (rv sv fv cv tv : Value) (hN : NetW w base gx x rv sv fv cv tv) (hb : base ≤ w.heap.size) (hr : r < x.replicas.length) (hs : r < x.slots.length) (hr3 : x.replicas.length = 3) (hrep : IsRep w 0 lu hv wv gv nv next) (hms : IsRow 89 8 80 MsgE w 0 (.slice A ms.length c) ms) (hap : ∀ g, (Value.slice A ms.length c).ownBlock = some g → fv.ownBlock ≠ some g) (h80 : x.flying.length ≤ 80) (hsm : next.kept = x.replicas[r].kept) (hup : ¬ upto < 0) (y : Scu.Net) (f : Int) (hy : (if (Scu.store (x.slots.getD r []) next.kept upto).2 ≠ 0 then (x, (Scu.store (x.slots.getD r []) next.kept upto).2) else if 0 ≤ upto then Scu.crash { x with slots := x.slots.set r (Scu.store (x.slots.getD r []) next.kept upto).1 } r else ({ x with slots := x.slots.set r (Scu.store (x.slots.getD r []) next.kept upto).1, replicas := x.replicas.set r next, flying := Scu.sendAll x.flying ms }, 0)) = (y, f)) :
    Calls Tryd.prog 106 #[.pointer (some ⟨gx, 0, none⟩), .int .i64 r, .agg #[.int .i64 next.me, .int .i64 next.kept.view, .int .i64 next.kept.normal, .bool next.kept.calm, lu, .int .i64 next.kept.commit, hv, wv, gv, nv], .slice A ms.length c, .int .i64 upto] w fun e w' => e = .returned (.int .i64 f) ∧ NetE w' base gx y ∧ Fr base w w' := by
  have HSM := Lib.hid (show decide (next.kept = x.replicas[r].kept) = true by rw [decide_eq_true_eq]; exact hsm)
  have HY := Lib.hid hy
  clear hsm hy
  have hupd : decide (upto < 0) = false := by simpa using hup
  have hu0 : 0 ≤ upto := by omega
  have HR3 := Lib.hid hr3
  clear hr3
  obtain ⟨B0, e0, B1, e1, B2, e2, B3, e3, B4, e4, rfl, rfl, rfl, rfl, rfl⟩ := hN.forms
  obtain ⟨E0, m0, z0, E1, z1, E2, z2, E3, z3, E4, z4, rfl, rfl, rfl, rfl, rfl⟩ := hrep.forms
  obtain ⟨gr, cr, lu0, hv0, wv0, gv0, nv0, er', hbr, hgr, hir, hra, -, curr, hBr⟩ := hN.repAt hr
  obtain ⟨rfl, rfl⟩ : B0 = some ⟨gr, 0, none⟩ ∧ e0 = cr := by cases er'; exact ⟨rfl, rfl⟩
  obtain ⟨rk, hrk⟩ : ∃ rk, x.replicas[r] = rk := ⟨_, rfl⟩
  rw [hrk] at hra hir
  obtain ⟨Ak, nk, ck, rfl⟩ := hir.log.form
  have hal := below_alloc w (Obj.cells #[.int .i64 next.me, .int .i64 next.kept.view, .int .i64 next.kept.normal, .bool next.kept.calm, .slice E0 m0 z0, .int .i64 next.kept.commit, .slice E1 next.have_.length z1, .slice E2 next.wants.length z2, .slice E3 next.gives.length z3, .slice E4 next.given.length z4] 81)
  have HI := Lib.hid (show StlI (w.alloc (Obj.cells #[.int .i64 next.me, .int .i64 next.kept.view, .int .i64 next.kept.normal, .bool next.kept.calm, .slice E0 m0 z0, .int .i64 next.kept.commit, .slice E1 next.have_.length z1, .slice E2 next.wants.length z2, .slice E3 next.gives.length z3, .slice E4 next.given.length z4] 81)) base gx w.heap.size x (.slice (some ⟨gr, 0, none⟩) x.replicas.length e0) (.slice B1 x.slots.length e1) (.slice B2 x.flying.length e2) (.slice B3 x.clients.length e3) (.slice B4 x.told.length e4) next E0 m0 z0 E1 z1 E2 z2 E3 z3 E4 z4 (.slice A ms.length c) ms w from
    ⟨hN.below hal, Blk.new _ _ _, hrep.below hal, IsMs.below hms hal, Fr.of hal hb, Nat.le_trans hb hal.size⟩)
  have HRA := Lib.hid (World.rangeAt_alloc hra (Obj.cells #[.int .i64 next.me, .int .i64 next.kept.view, .int .i64 next.kept.normal, .bool next.kept.calm, .slice E0 m0 z0, .int .i64 next.kept.commit, .slice E1 next.have_.length z1, .slice E2 next.wants.length z2, .slice E3 next.gives.length z3, .slice E4 next.given.length z4] 81))
  have HIR := Lib.hid (hir.log.below hal)
  have HAP := Lib.hid hap
  have HRK := Lib.hid hrk
  have nxr : gx ≠ gr := blk_ne hN.box hBr (by decide)
  have nbr : w.heap.size ≠ gr := by omega
  have hrl : (r : Int) < (x.replicas.length : Int) := by omega
  have hsl : (r : Int) < (x.slots.length : Int) := by omega
  clear hN hrep hms er' hra hir hap hrk hal hBr hbr
  go_enter Tryd.func106, Tryd.ntmps106
  go_upto_region 1 with fail
  obtain ⟨Wd, hWd⟩ : ∃ W, W = w.alloc (Obj.cells #[.int .i64 next.me, .int .i64 next.kept.view, .int .i64 next.kept.normal, .bool next.kept.calm, .slice E0 m0 z0, .int .i64 next.kept.commit, .slice E1 next.have_.length z1, .slice E2 next.wants.length z2, .slice E3 next.gives.length z3, .slice E4 next.given.length z4] 81) := ⟨_, rfl⟩
  rw [← hWd] at HI HRA HIR ⊢
  clear hWd
  have hbx := HI.out.box
  have n1 := hbx.cell 1
  have n2 := hbx.cell 2
  have n3 := hbx.cell 3
  have n4 := hbx.cell 4
  have n5 := hbx.cell 5
  have d0 := HI.out.net.box.cell 0
  simp only [List.getElem?_toArray, List.getElem?_cons_zero, List.getElem?_cons_succ] at n1 n2 n3 n4 n5 d0
  have p1 : Wd.cell? ⟨gr, r * 10 + 1, none⟩ = some (.int .i64 rk.kept.view) := HRA.out 1 _ rfl
  have p2 : Wd.cell? ⟨gr, r * 10 + 2, none⟩ = some (.int .i64 rk.kept.normal) := HRA.out 2 _ rfl
  have p3 : Wd.cell? ⟨gr, r * 10 + 3, none⟩ = some (.bool rk.kept.calm) := HRA.out 3 _ rfl
  have p4 : Wd.cell? ⟨gr, r * 10 + 4, none⟩ = some (.slice Ak nk ck) := HRA.out 4 _ rfl
  have p5 : Wd.cell? ⟨gr, r * 10 + 5, none⟩ = some (.int .i64 rk.kept.commit) := HRA.out 5 _ rfl
  have dl := HI.out.net.box.lt
  have nl := hbx.lt
  have gl : gr < Wd.heap.size := by omega
  clear hbx
  go_wp2_with fail
  obtain ⟨S, hSd⟩ : ∃ S : World → Prop, S = fun w' => w'.cell? ⟨gx, 0, none⟩ = some (.slice (some ⟨gr, 0, none⟩) x.replicas.length e0) ∧ w'.cell? ⟨w.heap.size, 1, none⟩ = some (.int .i64 next.kept.view) ∧ w'.cell? ⟨w.heap.size, 2, none⟩ = some (.int .i64 next.kept.normal) ∧ w'.cell? ⟨w.heap.size, 3, none⟩ = some (.bool next.kept.calm) ∧ w'.cell? ⟨w.heap.size, 4, none⟩ = some (.slice E0 m0 z0) ∧ w'.cell? ⟨w.heap.size, 5, none⟩ = some (.int .i64 next.kept.commit) ∧ w'.cell? ⟨gr, r * 10 + 1, none⟩ = some (.int .i64 rk.kept.view) ∧ w'.cell? ⟨gr, r * 10 + 2, none⟩ = some (.int .i64 rk.kept.normal) ∧ w'.cell? ⟨gr, r * 10 + 3, none⟩ = some (.bool rk.kept.calm) ∧ w'.cell? ⟨gr, r * 10 + 4, none⟩ = some (.slice Ak nk ck) ∧ w'.cell? ⟨gr, r * 10 + 5, none⟩ = some (.int .i64 rk.kept.commit) := ⟨_, rfl⟩
  have hS0 : S Wd.drew := by rw [hSd]; exact ⟨d0, n1, n2, n3, n4, n5, p1, p2, p3, p4, p5⟩
  refine wp_region_E S 14 (by kernel_rfl) (fun hsh => ?_)
  change wpAnyE _ _ _ _ _ _ _ _ _ Wd.drew
  refine wpAnyE_takeM (i := 0) 10 (v := ?_) rfl (by kernel_rfl) (by kernel_rfl) (by kernel_rfl) (by kernel_rfl) (fun _ _ _ h => h) (Or.inl ⟨by rfl, ?_⟩) hsh hS0 (fun hsh => ?_)
  rotate_left
  · (intro wv hSw; rw [hSd] at hSw; obtain ⟨s0, s1, s2, s3, s4, s5, s6, s7, s8, s9, s10⟩ := hSw; go_simp; (try with_reducible rfl))
  (try simp only [Act.put, List.setIfInBounds_toArray, List.set_cons_zero, List.set_cons_succ])
  refine wpAnyE_takeM (i := 1) 10 (v := ?_) rfl (by kernel_rfl) (by kernel_rfl) (by kernel_rfl) (by kernel_rfl) (fun _ _ _ h => h) (Or.inl ⟨by rfl, ?_⟩) hsh hS0 (fun hsh => ?_)
  rotate_left
  · (intro wv hSw; rw [hSd] at hSw; obtain ⟨s0, s1, s2, s3, s4, s5, s6, s7, s8, s9, s10⟩ := hSw; go_simp; (try with_reducible rfl))
  (try simp only [Act.put, List.setIfInBounds_toArray, List.set_cons_zero, List.set_cons_succ])
  refine wpAnyE_takeM (i := 2) 10 (v := ?_) rfl (by kernel_rfl) (by kernel_rfl) (by kernel_rfl) (by kernel_rfl) (fun _ _ _ h => h) (Or.inl ⟨by rfl, ?_⟩) hsh hS0 (fun hsh => ?_)
  rotate_left
  · (intro wv hSw; rw [hSd] at hSw; obtain ⟨s0, s1, s2, s3, s4, s5, s6, s7, s8, s9, s10⟩ := hSw; go_simp; (try with_reducible rfl))
  (try simp only [Act.put, List.setIfInBounds_toArray, List.set_cons_zero, List.set_cons_succ])
  refine wpAnyE_takeM (i := 3) 10 (v := ?_) rfl (by kernel_rfl) (by kernel_rfl) (by kernel_rfl) (by kernel_rfl) (fun _ _ _ h => h) (Or.inl ⟨by rfl, ?_⟩) hsh hS0 (fun hsh => ?_)
  rotate_left
  · (intro wv hSw; rw [hSd] at hSw; obtain ⟨s0, s1, s2, s3, s4, s5, s6, s7, s8, s9, s10⟩ := hSw; go_simp; (try with_reducible rfl))
  (try simp only [Act.put, List.setIfInBounds_toArray, List.set_cons_zero, List.set_cons_succ])
  refine wpAnyE_takeM (i := 4) 10 (v := ?_) rfl (by kernel_rfl) (by kernel_rfl) (by kernel_rfl) (by kernel_rfl) (fun _ _ _ h => h) (Or.inl ⟨by rfl, ?_⟩) hsh hS0 (fun hsh => ?_)
  rotate_left
  · (intro wv hSw; rw [hSd] at hSw; obtain ⟨s0, s1, s2, s3, s4, s5, s6, s7, s8, s9, s10⟩ := hSw; go_simp; (try with_reducible rfl))
  (try simp only [Act.put, List.setIfInBounds_toArray, List.set_cons_zero, List.set_cons_succ])
  refine wpAnyE_takeM (i := 5) 10 (v := ?_) rfl (by kernel_rfl) (by kernel_rfl) (by kernel_rfl) (by kernel_rfl) (fun _ _ _ h => h) (Or.inl ⟨by rfl, ?_⟩) hsh hS0 (fun hsh => ?_)
  rotate_left
  · (intro wv hSw; rw [hSd] at hSw; obtain ⟨s0, s1, s2, s3, s4, s5, s6, s7, s8, s9, s10⟩ := hSw; go_simp; (try with_reducible rfl))
  (try simp only [Act.put, List.setIfInBounds_toArray, List.set_cons_zero, List.set_cons_succ])
  refine wpAnyE_takeM (i := 6) 10 (v := ?_) rfl (by kernel_rfl) (by kernel_rfl) (by kernel_rfl) (by kernel_rfl) (fun _ _ _ h => h) (Or.inl ⟨by rfl, ?_⟩) hsh hS0 (fun hsh => ?_)
  rotate_left
  · (intro wv hSw; rw [hSd] at hSw; obtain ⟨s0, s1, s2, s3, s4, s5, s6, s7, s8, s9, s10⟩ := hSw; go_simp; (try with_reducible rfl))
  (try simp only [Act.put, List.setIfInBounds_toArray, List.set_cons_zero, List.set_cons_succ])
  refine wpAnyE_takeM (i := 7) 10 (v := ?_) rfl (by kernel_rfl) (by kernel_rfl) (by kernel_rfl) (by kernel_rfl) (fun _ _ _ h => h) (Or.inl ⟨by rfl, ?_⟩) hsh hS0 (fun hsh => ?_)
  rotate_left
  · (intro wv hSw; rw [hSd] at hSw; obtain ⟨s0, s1, s2, s3, s4, s5, s6, s7, s8, s9, s10⟩ := hSw; go_simp; (try with_reducible rfl))
  (try simp only [Act.put, List.setIfInBounds_toArray, List.set_cons_zero, List.set_cons_succ])
  refine wpAnyE_takeM (i := 8) 10 (v := ?_) rfl (by kernel_rfl) (by kernel_rfl) (by kernel_rfl) (by kernel_rfl) (fun _ _ _ h => h) (Or.inl ⟨by rfl, ?_⟩) hsh hS0 (fun hsh => ?_)
  rotate_left
  · (intro wv hSw; rw [hSd] at hSw; obtain ⟨s0, s1, s2, s3, s4, s5, s6, s7, s8, s9, s10⟩ := hSw; go_simp; (try with_reducible rfl))
  (try simp only [Act.put, List.setIfInBounds_toArray, List.set_cons_zero, List.set_cons_succ])
  refine wpAnyE_takeM (i := 9) 10 (v := ?_) rfl (by kernel_rfl) (by kernel_rfl) (by kernel_rfl) (by kernel_rfl) (fun _ _ _ h => h) (Or.inl ⟨by rfl, ?_⟩) hsh hS0 (fun hsh => ?_)
  rotate_left
  · (intro wv hSw; rw [hSd] at hSw; obtain ⟨s0, s1, s2, s3, s4, s5, s6, s7, s8, s9, s10⟩ := hSw; go_simp; (try with_reducible rfl))
  (try simp only [Act.put, List.setIfInBounds_toArray, List.set_cons_zero, List.set_cons_succ])
  refine wpAnyE_all (rs := [10]) (by kernel_rfl) (by simp) ?_
  intro ii hii
  rw [List.mem_singleton] at hii
  subst hii
  refine wpOp_step (o := _) rfl (fun KS hKS => ?_)
  go_simp
  refine (netSame_c E0 Ak m0 nk z0 ck next.kept rk.kept Wd.drew 0 0 (HI.out.rep.log.below (Below.refl _ _).drew) (HIR.out.below (Below.refl _ _).drew) true (by rw [← HRK.out]; exact HSM.out)).mono ?_; rintro en x1 ⟨rfl, k1⟩
  have nn1 : Below Wd.heap.size Wd x1 := (Below.refl _ _).drew.trans k1
  have f0 := (nn1.cell (p := ⟨gx, 0, none⟩) dl).trans d0
  have f1 := (nn1.cell (p := ⟨w.heap.size, 1, none⟩) nl).trans n1
  have f2 := (nn1.cell (p := ⟨w.heap.size, 2, none⟩) nl).trans n2
  have f3 := (nn1.cell (p := ⟨w.heap.size, 3, none⟩) nl).trans n3
  have f4 := (nn1.cell (p := ⟨w.heap.size, 4, none⟩) nl).trans n4
  have f5 := (nn1.cell (p := ⟨w.heap.size, 5, none⟩) nl).trans n5
  have f6 := (nn1.cell (p := ⟨gr, r * 10 + 1, none⟩) gl).trans p1
  have f7 := (nn1.cell (p := ⟨gr, r * 10 + 2, none⟩) gl).trans p2
  have f8 := (nn1.cell (p := ⟨gr, r * 10 + 3, none⟩) gl).trans p3
  have f9 := (nn1.cell (p := ⟨gr, r * 10 + 4, none⟩) gl).trans p4
  have f10 := (nn1.cell (p := ⟨gr, r * 10 + 5, none⟩) gl).trans p5
  have hS0 : S x1 := by rw [hSd]; exact ⟨f0, f1, f2, f3, f4, f5, f6, f7, f8, f9, f10⟩
  have HI1 := Lib.hid (HI.out.below nn1)
  have gl1 : gr < x1.heap.size := Nat.lt_of_lt_of_le gl nn1.size
  clear k1
  refine hKS _ _ ⟨.inr hS0, ?_⟩
  have hsh := hsh.set (i := 10) (by rw [← List.contains_iff_mem]; kernel_rfl)
  (try simp only [Act.put, List.setIfInBounds_toArray, List.set_cons_zero, List.set_cons_succ])
  refine wpAnyE_takeM (i := 11) 10 (v := ?_) rfl (by kernel_rfl) (by kernel_rfl) (by kernel_rfl) (by kernel_rfl) (fun _ _ _ h => h) (Or.inl ⟨by rfl, ?_⟩) hsh hS0 (fun hsh => ?_)
  rotate_left
  · (intro wv hSw; rw [hSd] at hSw; obtain ⟨s0, s1, s2, s3, s4, s5, s6, s7, s8, s9, s10⟩ := hSw; go_simp; (try with_reducible rfl))
  (try simp only [Act.put, List.setIfInBounds_toArray, List.set_cons_zero, List.set_cons_succ])
  refine wpAnyE_takeM (i := 12) 10 (v := ?_) rfl (by kernel_rfl) (by kernel_rfl) (by kernel_rfl) (by kernel_rfl) (fun _ _ _ h => h) (Or.inl ⟨by rfl, ?_⟩) hsh hS0 (fun hsh => ?_)
  rotate_left
  · (intro wv hSw; rw [hSd] at hSw; obtain ⟨s0, s1, s2, s3, s4, s5, s6, s7, s8, s9, s10⟩ := hSw; go_simp; (try with_reducible rfl))
  (try simp only [Act.put, List.setIfInBounds_toArray, List.set_cons_zero, List.set_cons_succ])
  refine wpAnyE_takeM (i := 13) 10 (v := ?_) rfl (by kernel_rfl) (by kernel_rfl) (by kernel_rfl) (by kernel_rfl) (fun _ _ _ h => h) (Or.inl ⟨by rfl, ?_⟩) hsh hS0 (fun hsh => ?_)
  rotate_left
  · (intro wv hSw; rw [hSd] at hSw; obtain ⟨s0, s1, s2, s3, s4, s5, s6, s7, s8, s9, s10⟩ := hSw; go_simp; (try with_reducible rfl))
  (try simp only [Act.put, List.setIfInBounds_toArray, List.set_cons_zero, List.set_cons_succ])
  refine wpAnyE_all (rs := [14]) (by kernel_rfl) (by simp) ?_
  intro ii hii
  rw [List.mem_singleton] at hii
  subst hii
  refine wpOp_step (o := _) rfl (fun KU hKU => ?_)
  go_simp
  refine hKU _ _ ⟨.inl rfl, wpAnyE_done (by kernel_rfl) ?_ _⟩
  clear hKU hKS hS0 hSd hsh d0 n1 n2 n3 n4 n5 p1 p2 p3 p4 p5 f0 f1 f2 f3 f4 f5 f6 f7 f8 f9 f10 dl nl gl nn1
  obtain ⟨gs, cs, u, es, hbs, hgs, hu, hcu, hfz, curs, hBs⟩ := HI1.out.net.slotAt hs
  obtain ⟨rfl, rfl⟩ : B1 = some ⟨gs, 0, none⟩ ∧ e1 = cs := by cases es; exact ⟨rfl, rfl⟩
  obtain ⟨Au, nu, cu, rfl⟩ := hu.form
  have hbx := HI1.out.box
  have n1 := hbx.cell 1
  have n2 := hbx.cell 2
  have n3 := hbx.cell 3
  have n4 := hbx.cell 4
  have n5 := hbx.cell 5
  have d1 := HI1.out.net.box.cell 1
  simp only [List.getElem?_toArray, List.getElem?_cons_zero, List.getElem?_cons_succ] at n1 n2 n3 n4 n5 d1
  have dl := HI1.out.net.box.lt
  have nl := hbx.lt
  obtain ⟨l', f', hst⟩ : ∃ l' f', Scu.store x.slots[r] next.kept upto = (l', f') := ⟨_, _, rfl⟩
  have HST := Lib.hid hst
  have HUU := Lib.hid hu
  clear es hbx hu hbs hfz curs hBs hst
  go_wp2_with fail
  go_region_held3 (fun w' => w'.cell? ⟨gx, 1, none⟩ = some (.slice (some ⟨gs, 0, none⟩) x.slots.length e1) ∧ w'.cell? ⟨gs, r, none⟩ = some (.slice Au nu cu) ∧ w'.cell? ⟨w.heap.size, 1, none⟩ = some (.int .i64 next.kept.view) ∧ w'.cell? ⟨w.heap.size, 2, none⟩ = some (.int .i64 next.kept.normal) ∧ w'.cell? ⟨w.heap.size, 3, none⟩ = some (.bool next.kept.calm) ∧ w'.cell? ⟨w.heap.size, 4, none⟩ = some (.slice E0 m0 z0) ∧ w'.cell? ⟨w.heap.size, 5, none⟩ = some (.int .i64 next.kept.commit))
    (first | (go_split_ands; (try dsimp only); (repeat' apply And.intro) <;> (with_reducible assumption)) | (go_split_ands; (try dsimp only); exact ⟨d1, hcu, n1, n2, n3, n4, n5⟩))
    (first
      | (go_at_call 36; refine (stageStore_n Au nu cu E0 m0 z0 x.slots[r] next.kept upto _ 0 0 (HUU.out.drewN 1) (HI1.out.rep.log.drewN 1) l' f' HST.out).mono ?_; rintro en x2 ⟨⟨Av, nv, cv, rfl, hvl⟩, k1'⟩
         have nn1 : Below x1.heap.size x1 x2 := (below_drewN (Below.refl _ _) 1).trans k1'
         have M1 := Lib.hid nn1
         have HVL := Lib.hid hvl
         have y0 := (nn1.cell (p := ⟨gx, 1, none⟩) dl).trans d1
         have y1 := (nn1.cell (p := ⟨gs, r, none⟩) hgs).trans hcu
         have y2 := (nn1.cell (p := ⟨w.heap.size, 1, none⟩) nl).trans n1
         have y3 := (nn1.cell (p := ⟨w.heap.size, 2, none⟩) nl).trans n2
         have y4 := (nn1.cell (p := ⟨w.heap.size, 3, none⟩) nl).trans n3
         have y5 := (nn1.cell (p := ⟨w.heap.size, 4, none⟩) nl).trans n4
         have y6 := (nn1.cell (p := ⟨w.heap.size, 5, none⟩) nl).trans n5
         clear nn1 k1' hvl))
  rename_i hHeld
  clear hHeld
  have HI2 := Lib.hid (HI1.out.below M1.out)
  have gl2 : gr < x2.heap.size := Nat.lt_of_lt_of_le gl1 M1.out.size
  have hgs2 : gs < x2.heap.size := Nat.lt_of_lt_of_le hgs M1.out.size
  clear d1 n1 n2 n3 n4 n5 dl nl y0 y1 y2 y3 y4 y5 y6 hcu
  by_cases hf0 : f' = 0
  · subst hf0
    have hy2 : (if 0 ≤ upto then Scu.crash { x with slots := x.slots.set r l' } r else ({ x with slots := x.slots.set r l', replicas := x.replicas.set r next, flying := Scu.sendAll x.flying ms }, 0)) = (y, f) := by
      have h := HY.out
      rw [show x.slots.getD r [] = x.slots[r] by rw [List.getD_eq_getElem?_getD, List.getElem?_eq_getElem hs]; rfl, HST.out] at h
      dsimp only at h
      rw [if_neg (by simp)] at h
      exact h
    have d1 := HI2.out.net.box.cell 1
    simp only [List.getElem?_toArray, List.getElem?_cons_zero, List.getElem?_cons_succ] at d1
    have dl := HI2.out.net.box.lt
    obtain ⟨_, _, u9, es, _, _, _, hcu, hfz, curs, hBs⟩ := HI2.out.net.slotAt hs
    cases es
    have nxs : gx ≠ gs := blk_ne HI2.out.net.box hBs (by decide)
    have hfr := hfz r
    have HI3 := Lib.hid (HI2.out.slot (k := r) hs HVL.out)
    have HY2 := Lib.hid hy2
    clear hy2 hfz hBs
    go_upto_region 9 with fail
    obtain ⟨W3, hW3⟩ : ∃ W, W = x2.setCell ⟨gs, r, none⟩ (.slice Av nv cv) := ⟨_, rfl⟩
    rw [← hW3] at HI3 ⊢
    clear hW3 d1 dl hcu hfr
    have hnup : ¬ upto < 0 := by omega
    have HY3 := Lib.hid (show Scu.crash { x with slots := x.slots.set r l' } r = (y, f) by have h := HY2.out; rw [if_pos hu0] at h; exact h)
    go_wp2_with fail
    refine (netCrash_c r W3 base gx { x with slots := x.slots.set r l' } _ _ _ _ _ HI3.out.net HI3.out.le hr (by rw [List.length_set]; exact hs) HR3.out y f HY3.out).mono ?_; rintro en w9 ⟨rfl, hn9, hf9⟩
    have H9 := Lib.hid (And.intro hn9 (HI3.out.fr.trans hf9))
    clear hn9 hf9
    go_wp2
    go_ret
    exact ⟨rfl, H9.out.1, H9.out.2⟩
  · have hfb : (f' != 0) = true := by simpa using hf0
    have hy2 : y = x ∧ f = f' := by
      have h := HY.out
      rw [show x.slots.getD r [] = x.slots[r] by rw [List.getD_eq_getElem?_getD, List.getElem?_eq_getElem hs]; rfl, HST.out] at h
      dsimp only at h
      rw [if_pos hf0] at h
      exact ⟨(Prod.mk.inj h).1.symm, (Prod.mk.inj h).2.symm⟩
    have HY2 := Lib.hid hy2
    clear hy2 hf0
    go_wp2
    go_ret
    exact ⟨ret_val (int_eq HY2.out.2.symm), by rw [HY2.out.1]; exact HI2.out.net.e, HI2.out.fr⟩
theorem settle_3 (r : Nat) (next : Scu.Replica) (lu hv wv gv nv : Value) (A : Option Addr) (c : Nat) (ms : List Scu.Message) (upto : Int) (w : World) (base gx : Nat) (x : Scu.Net) (rv sv fv cv tv : Value) (hN : NetW w base gx x rv sv fv cv tv) (hb : base ≤ w.heap.size) (hr : r < x.replicas.length) (hs : r < x.slots.length) (hr3 : x.replicas.length = 3) (hrep : IsRep w 0 lu hv wv gv nv next) (hms : IsRow 89 8 80 MsgE w 0 (.slice A ms.length c) ms) (hap : ∀ g, (Value.slice A ms.length c).ownBlock = some g → fv.ownBlock ≠ some g) (h80 : x.flying.length ≤ 80) (hsm : next.kept ≠ x.replicas[r].kept) (y : Scu.Net) (f : Int) (hy : (if (Scu.store (x.slots.getD r []) next.kept upto).2 ≠ 0 then (x, (Scu.store (x.slots.getD r []) next.kept upto).2) else if 0 ≤ upto then Scu.crash { x with slots := x.slots.set r (Scu.store (x.slots.getD r []) next.kept upto).1 } r else ({ x with slots := x.slots.set r (Scu.store (x.slots.getD r []) next.kept upto).1, replicas := x.replicas.set r next, flying := Scu.sendAll x.flying ms }, 0)) = (y, f)) :
    Calls Tryd.prog 106 #[.pointer (some ⟨gx, 0, none⟩), .int .i64 r, .agg #[.int .i64 next.me, .int .i64 next.kept.view, .int .i64 next.kept.normal, .bool next.kept.calm, lu, .int .i64 next.kept.commit, hv, wv, gv, nv], .slice A ms.length c, .int .i64 upto] w fun e w' => e = .returned (.int .i64 f) ∧ NetE w' base gx y ∧ Fr base w w' := by
  have HSM := Lib.hid (show decide (next.kept = x.replicas[r].kept) = false by rw [decide_eq_false_iff_not]; exact hsm)
  have HY := Lib.hid hy
  clear hsm hy
  have HR3 := Lib.hid hr3
  clear hr3
  obtain ⟨B0, e0, B1, e1, B2, e2, B3, e3, B4, e4, rfl, rfl, rfl, rfl, rfl⟩ := hN.forms
  obtain ⟨E0, m0, z0, E1, z1, E2, z2, E3, z3, E4, z4, rfl, rfl, rfl, rfl, rfl⟩ := hrep.forms
  obtain ⟨gr, cr, lu0, hv0, wv0, gv0, nv0, er', hbr, hgr, hir, hra, -, curr, hBr⟩ := hN.repAt hr
  obtain ⟨rfl, rfl⟩ : B0 = some ⟨gr, 0, none⟩ ∧ e0 = cr := by cases er'; exact ⟨rfl, rfl⟩
  obtain ⟨rk, hrk⟩ : ∃ rk, x.replicas[r] = rk := ⟨_, rfl⟩
  rw [hrk] at hra hir
  obtain ⟨Ak, nk, ck, rfl⟩ := hir.log.form
  have hal := below_alloc w (Obj.cells #[.int .i64 next.me, .int .i64 next.kept.view, .int .i64 next.kept.normal, .bool next.kept.calm, .slice E0 m0 z0, .int .i64 next.kept.commit, .slice E1 next.have_.length z1, .slice E2 next.wants.length z2, .slice E3 next.gives.length z3, .slice E4 next.given.length z4] 81)
  have HI := Lib.hid (show StlI (w.alloc (Obj.cells #[.int .i64 next.me, .int .i64 next.kept.view, .int .i64 next.kept.normal, .bool next.kept.calm, .slice E0 m0 z0, .int .i64 next.kept.commit, .slice E1 next.have_.length z1, .slice E2 next.wants.length z2, .slice E3 next.gives.length z3, .slice E4 next.given.length z4] 81)) base gx w.heap.size x (.slice (some ⟨gr, 0, none⟩) x.replicas.length e0) (.slice B1 x.slots.length e1) (.slice B2 x.flying.length e2) (.slice B3 x.clients.length e3) (.slice B4 x.told.length e4) next E0 m0 z0 E1 z1 E2 z2 E3 z3 E4 z4 (.slice A ms.length c) ms w from
    ⟨hN.below hal, Blk.new _ _ _, hrep.below hal, IsMs.below hms hal, Fr.of hal hb, Nat.le_trans hb hal.size⟩)
  have HRA := Lib.hid (World.rangeAt_alloc hra (Obj.cells #[.int .i64 next.me, .int .i64 next.kept.view, .int .i64 next.kept.normal, .bool next.kept.calm, .slice E0 m0 z0, .int .i64 next.kept.commit, .slice E1 next.have_.length z1, .slice E2 next.wants.length z2, .slice E3 next.gives.length z3, .slice E4 next.given.length z4] 81))
  have HIR := Lib.hid (hir.log.below hal)
  have HAP := Lib.hid hap
  have HRK := Lib.hid hrk
  have nxr : gx ≠ gr := blk_ne hN.box hBr (by decide)
  have nbr : w.heap.size ≠ gr := by omega
  have hrl : (r : Int) < (x.replicas.length : Int) := by omega
  have hsl : (r : Int) < (x.slots.length : Int) := by omega
  clear hN hrep hms er' hra hir hap hrk hal hBr hbr
  go_enter Tryd.func106, Tryd.ntmps106
  go_upto_region 1 with fail
  obtain ⟨Wd, hWd⟩ : ∃ W, W = w.alloc (Obj.cells #[.int .i64 next.me, .int .i64 next.kept.view, .int .i64 next.kept.normal, .bool next.kept.calm, .slice E0 m0 z0, .int .i64 next.kept.commit, .slice E1 next.have_.length z1, .slice E2 next.wants.length z2, .slice E3 next.gives.length z3, .slice E4 next.given.length z4] 81) := ⟨_, rfl⟩
  rw [← hWd] at HI HRA HIR ⊢
  clear hWd
  have hbx := HI.out.box
  have n1 := hbx.cell 1
  have n2 := hbx.cell 2
  have n3 := hbx.cell 3
  have n4 := hbx.cell 4
  have n5 := hbx.cell 5
  have d0 := HI.out.net.box.cell 0
  simp only [List.getElem?_toArray, List.getElem?_cons_zero, List.getElem?_cons_succ] at n1 n2 n3 n4 n5 d0
  have p1 : Wd.cell? ⟨gr, r * 10 + 1, none⟩ = some (.int .i64 rk.kept.view) := HRA.out 1 _ rfl
  have p2 : Wd.cell? ⟨gr, r * 10 + 2, none⟩ = some (.int .i64 rk.kept.normal) := HRA.out 2 _ rfl
  have p3 : Wd.cell? ⟨gr, r * 10 + 3, none⟩ = some (.bool rk.kept.calm) := HRA.out 3 _ rfl
  have p4 : Wd.cell? ⟨gr, r * 10 + 4, none⟩ = some (.slice Ak nk ck) := HRA.out 4 _ rfl
  have p5 : Wd.cell? ⟨gr, r * 10 + 5, none⟩ = some (.int .i64 rk.kept.commit) := HRA.out 5 _ rfl
  have dl := HI.out.net.box.lt
  have nl := hbx.lt
  have gl : gr < Wd.heap.size := by omega
  clear hbx
  go_wp2_with fail
  obtain ⟨S, hSd⟩ : ∃ S : World → Prop, S = fun w' => w'.cell? ⟨gx, 0, none⟩ = some (.slice (some ⟨gr, 0, none⟩) x.replicas.length e0) ∧ w'.cell? ⟨w.heap.size, 1, none⟩ = some (.int .i64 next.kept.view) ∧ w'.cell? ⟨w.heap.size, 2, none⟩ = some (.int .i64 next.kept.normal) ∧ w'.cell? ⟨w.heap.size, 3, none⟩ = some (.bool next.kept.calm) ∧ w'.cell? ⟨w.heap.size, 4, none⟩ = some (.slice E0 m0 z0) ∧ w'.cell? ⟨w.heap.size, 5, none⟩ = some (.int .i64 next.kept.commit) ∧ w'.cell? ⟨gr, r * 10 + 1, none⟩ = some (.int .i64 rk.kept.view) ∧ w'.cell? ⟨gr, r * 10 + 2, none⟩ = some (.int .i64 rk.kept.normal) ∧ w'.cell? ⟨gr, r * 10 + 3, none⟩ = some (.bool rk.kept.calm) ∧ w'.cell? ⟨gr, r * 10 + 4, none⟩ = some (.slice Ak nk ck) ∧ w'.cell? ⟨gr, r * 10 + 5, none⟩ = some (.int .i64 rk.kept.commit) := ⟨_, rfl⟩
  have hS0 : S Wd.drew := by rw [hSd]; exact ⟨d0, n1, n2, n3, n4, n5, p1, p2, p3, p4, p5⟩
  refine wp_region_E S 14 (by kernel_rfl) (fun hsh => ?_)
  change wpAnyE _ _ _ _ _ _ _ _ _ Wd.drew
  refine wpAnyE_takeM (i := 0) 10 (v := ?_) rfl (by kernel_rfl) (by kernel_rfl) (by kernel_rfl) (by kernel_rfl) (fun _ _ _ h => h) (Or.inl ⟨by rfl, ?_⟩) hsh hS0 (fun hsh => ?_)
  rotate_left
  · (intro wv hSw; rw [hSd] at hSw; obtain ⟨s0, s1, s2, s3, s4, s5, s6, s7, s8, s9, s10⟩ := hSw; go_simp; (try with_reducible rfl))
  (try simp only [Act.put, List.setIfInBounds_toArray, List.set_cons_zero, List.set_cons_succ])
  refine wpAnyE_takeM (i := 1) 10 (v := ?_) rfl (by kernel_rfl) (by kernel_rfl) (by kernel_rfl) (by kernel_rfl) (fun _ _ _ h => h) (Or.inl ⟨by rfl, ?_⟩) hsh hS0 (fun hsh => ?_)
  rotate_left
  · (intro wv hSw; rw [hSd] at hSw; obtain ⟨s0, s1, s2, s3, s4, s5, s6, s7, s8, s9, s10⟩ := hSw; go_simp; (try with_reducible rfl))
  (try simp only [Act.put, List.setIfInBounds_toArray, List.set_cons_zero, List.set_cons_succ])
  refine wpAnyE_takeM (i := 2) 10 (v := ?_) rfl (by kernel_rfl) (by kernel_rfl) (by kernel_rfl) (by kernel_rfl) (fun _ _ _ h => h) (Or.inl ⟨by rfl, ?_⟩) hsh hS0 (fun hsh => ?_)
  rotate_left
  · (intro wv hSw; rw [hSd] at hSw; obtain ⟨s0, s1, s2, s3, s4, s5, s6, s7, s8, s9, s10⟩ := hSw; go_simp; (try with_reducible rfl))
  (try simp only [Act.put, List.setIfInBounds_toArray, List.set_cons_zero, List.set_cons_succ])
  refine wpAnyE_takeM (i := 3) 10 (v := ?_) rfl (by kernel_rfl) (by kernel_rfl) (by kernel_rfl) (by kernel_rfl) (fun _ _ _ h => h) (Or.inl ⟨by rfl, ?_⟩) hsh hS0 (fun hsh => ?_)
  rotate_left
  · (intro wv hSw; rw [hSd] at hSw; obtain ⟨s0, s1, s2, s3, s4, s5, s6, s7, s8, s9, s10⟩ := hSw; go_simp; (try with_reducible rfl))
  (try simp only [Act.put, List.setIfInBounds_toArray, List.set_cons_zero, List.set_cons_succ])
  refine wpAnyE_takeM (i := 4) 10 (v := ?_) rfl (by kernel_rfl) (by kernel_rfl) (by kernel_rfl) (by kernel_rfl) (fun _ _ _ h => h) (Or.inl ⟨by rfl, ?_⟩) hsh hS0 (fun hsh => ?_)
  rotate_left
  · (intro wv hSw; rw [hSd] at hSw; obtain ⟨s0, s1, s2, s3, s4, s5, s6, s7, s8, s9, s10⟩ := hSw; go_simp; (try with_reducible rfl))
  (try simp only [Act.put, List.setIfInBounds_toArray, List.set_cons_zero, List.set_cons_succ])
  refine wpAnyE_takeM (i := 5) 10 (v := ?_) rfl (by kernel_rfl) (by kernel_rfl) (by kernel_rfl) (by kernel_rfl) (fun _ _ _ h => h) (Or.inl ⟨by rfl, ?_⟩) hsh hS0 (fun hsh => ?_)
  rotate_left
  · (intro wv hSw; rw [hSd] at hSw; obtain ⟨s0, s1, s2, s3, s4, s5, s6, s7, s8, s9, s10⟩ := hSw; go_simp; (try with_reducible rfl))
  (try simp only [Act.put, List.setIfInBounds_toArray, List.set_cons_zero, List.set_cons_succ])
  refine wpAnyE_takeM (i := 6) 10 (v := ?_) rfl (by kernel_rfl) (by kernel_rfl) (by kernel_rfl) (by kernel_rfl) (fun _ _ _ h => h) (Or.inl ⟨by rfl, ?_⟩) hsh hS0 (fun hsh => ?_)
  rotate_left
  · (intro wv hSw; rw [hSd] at hSw; obtain ⟨s0, s1, s2, s3, s4, s5, s6, s7, s8, s9, s10⟩ := hSw; go_simp; (try with_reducible rfl))
  (try simp only [Act.put, List.setIfInBounds_toArray, List.set_cons_zero, List.set_cons_succ])
  refine wpAnyE_takeM (i := 7) 10 (v := ?_) rfl (by kernel_rfl) (by kernel_rfl) (by kernel_rfl) (by kernel_rfl) (fun _ _ _ h => h) (Or.inl ⟨by rfl, ?_⟩) hsh hS0 (fun hsh => ?_)
  rotate_left
  · (intro wv hSw; rw [hSd] at hSw; obtain ⟨s0, s1, s2, s3, s4, s5, s6, s7, s8, s9, s10⟩ := hSw; go_simp; (try with_reducible rfl))
  (try simp only [Act.put, List.setIfInBounds_toArray, List.set_cons_zero, List.set_cons_succ])
  refine wpAnyE_takeM (i := 8) 10 (v := ?_) rfl (by kernel_rfl) (by kernel_rfl) (by kernel_rfl) (by kernel_rfl) (fun _ _ _ h => h) (Or.inl ⟨by rfl, ?_⟩) hsh hS0 (fun hsh => ?_)
  rotate_left
  · (intro wv hSw; rw [hSd] at hSw; obtain ⟨s0, s1, s2, s3, s4, s5, s6, s7, s8, s9, s10⟩ := hSw; go_simp; (try with_reducible rfl))
  (try simp only [Act.put, List.setIfInBounds_toArray, List.set_cons_zero, List.set_cons_succ])
  refine wpAnyE_takeM (i := 9) 10 (v := ?_) rfl (by kernel_rfl) (by kernel_rfl) (by kernel_rfl) (by kernel_rfl) (fun _ _ _ h => h) (Or.inl ⟨by rfl, ?_⟩) hsh hS0 (fun hsh => ?_)
  rotate_left
  · (intro wv hSw; rw [hSd] at hSw; obtain ⟨s0, s1, s2, s3, s4, s5, s6, s7, s8, s9, s10⟩ := hSw; go_simp; (try with_reducible rfl))
  (try simp only [Act.put, List.setIfInBounds_toArray, List.set_cons_zero, List.set_cons_succ])
  refine wpAnyE_all (rs := [10]) (by kernel_rfl) (by simp) ?_
  intro ii hii
  rw [List.mem_singleton] at hii
  subst hii
  refine wpOp_step (o := _) rfl (fun KS hKS => ?_)
  go_simp
  refine (netSame_c E0 Ak m0 nk z0 ck next.kept rk.kept Wd.drew 0 0 (HI.out.rep.log.below (Below.refl _ _).drew) (HIR.out.below (Below.refl _ _).drew) false (by rw [← HRK.out]; exact HSM.out)).mono ?_; rintro en x1 ⟨rfl, k1⟩
  have nn1 : Below Wd.heap.size Wd x1 := (Below.refl _ _).drew.trans k1
  have f0 := (nn1.cell (p := ⟨gx, 0, none⟩) dl).trans d0
  have f1 := (nn1.cell (p := ⟨w.heap.size, 1, none⟩) nl).trans n1
  have f2 := (nn1.cell (p := ⟨w.heap.size, 2, none⟩) nl).trans n2
  have f3 := (nn1.cell (p := ⟨w.heap.size, 3, none⟩) nl).trans n3
  have f4 := (nn1.cell (p := ⟨w.heap.size, 4, none⟩) nl).trans n4
  have f5 := (nn1.cell (p := ⟨w.heap.size, 5, none⟩) nl).trans n5
  have f6 := (nn1.cell (p := ⟨gr, r * 10 + 1, none⟩) gl).trans p1
  have f7 := (nn1.cell (p := ⟨gr, r * 10 + 2, none⟩) gl).trans p2
  have f8 := (nn1.cell (p := ⟨gr, r * 10 + 3, none⟩) gl).trans p3
  have f9 := (nn1.cell (p := ⟨gr, r * 10 + 4, none⟩) gl).trans p4
  have f10 := (nn1.cell (p := ⟨gr, r * 10 + 5, none⟩) gl).trans p5
  have hS0 : S x1 := by rw [hSd]; exact ⟨f0, f1, f2, f3, f4, f5, f6, f7, f8, f9, f10⟩
  have HI1 := Lib.hid (HI.out.below nn1)
  have gl1 : gr < x1.heap.size := Nat.lt_of_lt_of_le gl nn1.size
  clear k1
  refine hKS _ _ ⟨.inr hS0, ?_⟩
  have hsh := hsh.set (i := 10) (by rw [← List.contains_iff_mem]; kernel_rfl)
  (try simp only [Act.put, List.setIfInBounds_toArray, List.set_cons_zero, List.set_cons_succ])
  refine wpAnyE_takeM (i := 11) 10 (v := ?_) rfl (by kernel_rfl) (by kernel_rfl) (by kernel_rfl) (by kernel_rfl) (fun _ _ _ h => h) (Or.inl ⟨by rfl, ?_⟩) hsh hS0 (fun hsh => ?_)
  rotate_left
  · (intro wv hSw; rw [hSd] at hSw; obtain ⟨s0, s1, s2, s3, s4, s5, s6, s7, s8, s9, s10⟩ := hSw; go_simp; (try with_reducible rfl))
  (try simp only [Act.put, List.setIfInBounds_toArray, List.set_cons_zero, List.set_cons_succ])
  refine wpAnyE_takeM (i := 12) 10 (v := undef) rfl (by kernel_rfl) (by kernel_rfl) (by kernel_rfl) (by kernel_rfl) (fun _ _ _ h => h) (Or.inr ⟨by rfl, rfl⟩) hsh hS0 (fun hsh => ?_)
  (try simp only [Act.put, List.setIfInBounds_toArray, List.set_cons_zero, List.set_cons_succ])
  refine wpAnyE_takeM (i := 13) 10 (v := undef) rfl (by kernel_rfl) (by kernel_rfl) (by kernel_rfl) (by kernel_rfl) (fun _ _ _ h => h) (Or.inr ⟨by rfl, rfl⟩) hsh hS0 (fun hsh => ?_)
  (try simp only [Act.put, List.setIfInBounds_toArray, List.set_cons_zero, List.set_cons_succ])
  refine wpAnyE_all (rs := [14]) (by kernel_rfl) (by simp) ?_
  intro ii hii
  rw [List.mem_singleton] at hii
  subst hii
  refine wpOp_step (o := _) rfl (fun KU hKU => ?_)
  go_simp
  refine hKU _ _ ⟨.inl rfl, wpAnyE_done (by kernel_rfl) ?_ _⟩
  clear hKU hKS hS0 hSd hsh d0 n1 n2 n3 n4 n5 p1 p2 p3 p4 p5 f0 f1 f2 f3 f4 f5 f6 f7 f8 f9 f10 dl nl gl nn1
  obtain ⟨gs, cs, u, es, hbs, hgs, hu, hcu, hfz, curs, hBs⟩ := HI1.out.net.slotAt hs
  obtain ⟨rfl, rfl⟩ : B1 = some ⟨gs, 0, none⟩ ∧ e1 = cs := by cases es; exact ⟨rfl, rfl⟩
  obtain ⟨Au, nu, cu, rfl⟩ := hu.form
  have hbx := HI1.out.box
  have n1 := hbx.cell 1
  have n2 := hbx.cell 2
  have n3 := hbx.cell 3
  have n4 := hbx.cell 4
  have n5 := hbx.cell 5
  have d1 := HI1.out.net.box.cell 1
  simp only [List.getElem?_toArray, List.getElem?_cons_zero, List.getElem?_cons_succ] at n1 n2 n3 n4 n5 d1
  have dl := HI1.out.net.box.lt
  have nl := hbx.lt
  obtain ⟨l', f', hst⟩ : ∃ l' f', Scu.store x.slots[r] next.kept upto = (l', f') := ⟨_, _, rfl⟩
  have HST := Lib.hid hst
  have HUU := Lib.hid hu
  clear es hbx hu hbs hfz curs hBs hst
  go_wp2_with fail
  go_region_held3 (fun w' => w'.cell? ⟨gx, 1, none⟩ = some (.slice (some ⟨gs, 0, none⟩) x.slots.length e1) ∧ w'.cell? ⟨gs, r, none⟩ = some (.slice Au nu cu) ∧ w'.cell? ⟨w.heap.size, 1, none⟩ = some (.int .i64 next.kept.view) ∧ w'.cell? ⟨w.heap.size, 2, none⟩ = some (.int .i64 next.kept.normal) ∧ w'.cell? ⟨w.heap.size, 3, none⟩ = some (.bool next.kept.calm) ∧ w'.cell? ⟨w.heap.size, 4, none⟩ = some (.slice E0 m0 z0) ∧ w'.cell? ⟨w.heap.size, 5, none⟩ = some (.int .i64 next.kept.commit))
    (first | (go_split_ands; (try dsimp only); (repeat' apply And.intro) <;> (with_reducible assumption)) | (go_split_ands; (try dsimp only); exact ⟨d1, hcu, n1, n2, n3, n4, n5⟩))
    (first
      | (go_at_call 36; refine (stageStore_n Au nu cu E0 m0 z0 x.slots[r] next.kept upto _ 0 0 (HUU.out.drewN 1) (HI1.out.rep.log.drewN 1) l' f' HST.out).mono ?_; rintro en x2 ⟨⟨Av, nv, cv, rfl, hvl⟩, k1'⟩
         have nn1 : Below x1.heap.size x1 x2 := (below_drewN (Below.refl _ _) 1).trans k1'
         have M1 := Lib.hid nn1
         have HVL := Lib.hid hvl
         have y0 := (nn1.cell (p := ⟨gx, 1, none⟩) dl).trans d1
         have y1 := (nn1.cell (p := ⟨gs, r, none⟩) hgs).trans hcu
         have y2 := (nn1.cell (p := ⟨w.heap.size, 1, none⟩) nl).trans n1
         have y3 := (nn1.cell (p := ⟨w.heap.size, 2, none⟩) nl).trans n2
         have y4 := (nn1.cell (p := ⟨w.heap.size, 3, none⟩) nl).trans n3
         have y5 := (nn1.cell (p := ⟨w.heap.size, 4, none⟩) nl).trans n4
         have y6 := (nn1.cell (p := ⟨w.heap.size, 5, none⟩) nl).trans n5
         clear nn1 k1' hvl))
  rename_i hHeld
  clear hHeld
  have HI2 := Lib.hid (HI1.out.below M1.out)
  have gl2 : gr < x2.heap.size := Nat.lt_of_lt_of_le gl1 M1.out.size
  have hgs2 : gs < x2.heap.size := Nat.lt_of_lt_of_le hgs M1.out.size
  clear d1 n1 n2 n3 n4 n5 dl nl y0 y1 y2 y3 y4 y5 y6 hcu
  by_cases hf0 : f' = 0
  · subst hf0
    have hy2 : (if 0 ≤ upto then Scu.crash { x with slots := x.slots.set r l' } r else ({ x with slots := x.slots.set r l', replicas := x.replicas.set r next, flying := Scu.sendAll x.flying ms }, 0)) = (y, f) := by
      have h := HY.out
      rw [show x.slots.getD r [] = x.slots[r] by rw [List.getD_eq_getElem?_getD, List.getElem?_eq_getElem hs]; rfl, HST.out] at h
      dsimp only at h
      rw [if_neg (by simp)] at h
      exact h
    have d1 := HI2.out.net.box.cell 1
    simp only [List.getElem?_toArray, List.getElem?_cons_zero, List.getElem?_cons_succ] at d1
    have dl := HI2.out.net.box.lt
    obtain ⟨_, _, u9, es, _, _, _, hcu, hfz, curs, hBs⟩ := HI2.out.net.slotAt hs
    cases es
    have nxs : gx ≠ gs := blk_ne HI2.out.net.box hBs (by decide)
    have hfr := hfz r
    have HI3 := Lib.hid (HI2.out.slot (k := r) hs HVL.out)
    have HY2 := Lib.hid hy2
    clear hy2 hfz hBs
    go_upto_region 9 with fail
    obtain ⟨W3, hW3⟩ : ∃ W, W = x2.setCell ⟨gs, r, none⟩ (.slice Av nv cv) := ⟨_, rfl⟩
    rw [← hW3] at HI3 ⊢
    clear hW3 d1 dl hcu hfr
    by_cases hu0 : 0 ≤ upto
    · have hnup : ¬ upto < 0 := by omega
      have HY3 := Lib.hid (show Scu.crash { x with slots := x.slots.set r l' } r = (y, f) by have h := HY2.out; rw [if_pos hu0] at h; exact h)
      go_wp2_with fail
      refine (netCrash_c r W3 base gx { x with slots := x.slots.set r l' } _ _ _ _ _ HI3.out.net HI3.out.le hr (by rw [List.length_set]; exact hs) HR3.out y f HY3.out).mono ?_; rintro en w9 ⟨rfl, hn9, hf9⟩
      have H9 := Lib.hid (And.intro hn9 (HI3.out.fr.trans hf9))
      clear hn9 hf9
      go_wp2
      go_ret
      exact ⟨rfl, H9.out.1, H9.out.2⟩
    · have hnup : ¬ 0 ≤ upto := hu0
      have HY := Lib.hid (show y = { x with slots := x.slots.set r l', replicas := x.replicas.set r next, flying := Scu.sendAll x.flying ms } ∧ f = 0 by
        have h := HY2.out
        rw [if_neg hu0] at h
        exact ⟨(Prod.mk.inj h).1.symm, (Prod.mk.inj h).2.symm⟩)
      clear hu0
      have hbx := HI3.out.box
      have b0 := hbx.cell 0
      have b1 := hbx.cell 1
      have b2 := hbx.cell 2
      have b3 := hbx.cell 3
      have b4 := hbx.cell 4
      have b5 := hbx.cell 5
      have b6 := hbx.cell 6
      have b7 := hbx.cell 7
      have b8 := hbx.cell 8
      have b9 := hbx.cell 9
      have d0 := HI3.out.net.box.cell 0
      simp only [List.getElem?_toArray, List.getElem?_cons_zero, List.getElem?_cons_succ] at b0 b1 b2 b3 b4 b5 b6 b7 b8 b9 d0
      have dl := HI3.out.net.box.lt
      have bl := hbx.lt
      clear hbx
      obtain ⟨_, _, _, _, _, _, _, er2, _, _, _, _, hth, _⟩ := HI3.out.net.repAt hr
      have hth2 : World.there (W3.drew) gr (r * 10) 10 := by cases er2; exact hth
      clear er2 hth
      go_wp2_with fail
      obtain ⟨S, hSd⟩ : ∃ S : World → Prop, S = fun w' => w'.cell? ⟨gx, 0, none⟩ = some (.slice (some ⟨gr, 0, none⟩) x.replicas.length e0) ∧ w'.cell? ⟨w.heap.size, 0, none⟩ = some (.int .i64 next.me) ∧ w'.cell? ⟨w.heap.size, 1, none⟩ = some (.int .i64 next.kept.view) ∧ w'.cell? ⟨w.heap.size, 2, none⟩ = some (.int .i64 next.kept.normal) ∧ w'.cell? ⟨w.heap.size, 3, none⟩ = some (.bool next.kept.calm) ∧ w'.cell? ⟨w.heap.size, 4, none⟩ = some (.slice E0 m0 z0) ∧ w'.cell? ⟨w.heap.size, 5, none⟩ = some (.int .i64 next.kept.commit) ∧ w'.cell? ⟨w.heap.size, 6, none⟩ = some (.slice E1 next.have_.length z1) ∧ w'.cell? ⟨w.heap.size, 7, none⟩ = some (.slice E2 next.wants.length z2) ∧ w'.cell? ⟨w.heap.size, 8, none⟩ = some (.slice E3 next.gives.length z3) ∧ w'.cell? ⟨w.heap.size, 9, none⟩ = some (.slice E4 next.given.length z4) := ⟨_, rfl⟩
      have hS0 : S W3.drew := by rw [hSd]; exact ⟨d0, b0, b1, b2, b3, b4, b5, b6, b7, b8, b9⟩
      refine wp_region_E S 7 (by kernel_rfl) (fun hsh => ?_)
      change wpAnyE _ _ _ _ _ _ _ _ _ W3.drew
      refine wpAnyE_takeM (i := 0) 10 (v := ?_) rfl (by kernel_rfl) (by kernel_rfl) (by kernel_rfl) (by kernel_rfl) (fun _ _ _ h => h) (Or.inl ⟨by rfl, ?_⟩) hsh hS0 (fun hsh => ?_)
      rotate_left
      · (intro wv hSw; rw [hSd] at hSw; obtain ⟨s0, s1, s2, s3, s4, s5, s6, s7, s8, s9, s10⟩ := hSw; go_simp; (try with_reducible rfl))
      (try simp only [Act.put, List.setIfInBounds_toArray, List.set_cons_zero, List.set_cons_succ])
      refine wpAnyE_takeM (i := 1) 10 (v := ?_) rfl (by kernel_rfl) (by kernel_rfl) (by kernel_rfl) (by kernel_rfl) (fun _ _ _ h => h) (Or.inl ⟨by rfl, ?_⟩) hsh hS0 (fun hsh => ?_)
      rotate_left
      · (intro wv hSw; rw [hSd] at hSw; obtain ⟨s0, s1, s2, s3, s4, s5, s6, s7, s8, s9, s10⟩ := hSw; go_simp; (try with_reducible rfl))
      (try simp only [Act.put, List.setIfInBounds_toArray, List.set_cons_zero, List.set_cons_succ])
      refine wpAnyE_takeM (i := 2) 10 (v := ?_) rfl (by kernel_rfl) (by kernel_rfl) (by kernel_rfl) (by kernel_rfl) (fun _ _ _ h => h) (Or.inl ⟨by rfl, ?_⟩) hsh hS0 (fun hsh => ?_)
      rotate_left
      · (intro wv hSw; rw [hSd] at hSw; obtain ⟨s0, s1, s2, s3, s4, s5, s6, s7, s8, s9, s10⟩ := hSw; go_simp; (try with_reducible rfl))
      (try simp only [Act.put, List.setIfInBounds_toArray, List.set_cons_zero, List.set_cons_succ])
      refine wpAnyE_takeM (i := 3) 10 (v := ?_) rfl (by kernel_rfl) (by kernel_rfl) (by kernel_rfl) (by kernel_rfl) (fun _ _ _ h => h) (Or.inl ⟨by rfl, ?_⟩) hsh hS0 (fun hsh => ?_)
      rotate_left
      · (intro wv hSw; rw [hSd] at hSw; obtain ⟨s0, s1, s2, s3, s4, s5, s6, s7, s8, s9, s10⟩ := hSw; go_simp; (try with_reducible rfl))
      (try simp only [Act.put, List.setIfInBounds_toArray, List.set_cons_zero, List.set_cons_succ])
      refine wpAnyE_takeM (i := 4) 10 (v := ?_) rfl (by kernel_rfl) (by kernel_rfl) (by kernel_rfl) (by kernel_rfl) (fun _ _ _ h => h) (Or.inl ⟨by rfl, ?_⟩) hsh hS0 (fun hsh => ?_)
      rotate_left
      · (intro wv hSw; rw [hSd] at hSw; obtain ⟨s0, s1, s2, s3, s4, s5, s6, s7, s8, s9, s10⟩ := hSw; go_simp; (try with_reducible rfl))
      (try simp only [Act.put, List.setIfInBounds_toArray, List.set_cons_zero, List.set_cons_succ])
      refine wpAnyE_takeM (i := 5) 10 (v := ?_) rfl (by kernel_rfl) (by kernel_rfl) (by kernel_rfl) (by kernel_rfl) (fun _ _ _ h => h) (Or.inl ⟨by rfl, ?_⟩) hsh hS0 (fun hsh => ?_)
      rotate_left
      · (intro wv hSw; rw [hSd] at hSw; obtain ⟨s0, s1, s2, s3, s4, s5, s6, s7, s8, s9, s10⟩ := hSw; go_simp; (try with_reducible rfl))
      (try simp only [Act.put, List.setIfInBounds_toArray, List.set_cons_zero, List.set_cons_succ])
      refine wpAnyE_takeM (i := 6) 10 (v := ?_) rfl (by kernel_rfl) (by kernel_rfl) (by kernel_rfl) (by kernel_rfl) (fun _ _ _ h => h) (Or.inl ⟨by rfl, ?_⟩) hsh hS0 (fun hsh => ?_)
      rotate_left
      · (intro wv hSw; rw [hSd] at hSw; obtain ⟨s0, s1, s2, s3, s4, s5, s6, s7, s8, s9, s10⟩ := hSw; go_simp; (try with_reducible rfl))
      (try simp only [Act.put, List.setIfInBounds_toArray, List.set_cons_zero, List.set_cons_succ])
      refine wpAnyE_all (rs := [7]) (by kernel_rfl) (by simp) ?_
      intro ii hii
      rw [List.mem_singleton] at hii
      subst hii
      refine wpOp_step (o := _) rfl (fun KU hKU => ?_)
      rw [if_pos (by rfl)]
      refine wp_store_mid 81 (.tmp 73) (.tmp 72) rfl gr (r * 10) #[.int .i64 next.me, .int .i64 next.kept.view, .int .i64 next.kept.normal, .bool next.kept.calm, .slice E0 m0 z0, .int .i64 next.kept.commit, .slice E1 next.have_.length z1, .slice E2 next.wants.length z2, .slice E3 next.gives.length z3, .slice E4 next.given.length z4] rfl rfl hth2 (by kernel_rfl) (all_oneCell_toArray (rep_one HI3.out.rep)) ?_
      refine hKU _ _ ⟨.inl rfl, wpAnyE_done (by kernel_rfl) ?_ _⟩
      (try simp only [Act.put, List.setIfInBounds_toArray, List.set_cons_zero, List.set_cons_succ])
      clear hKU hS0 hSd hsh
      obtain ⟨W2, hW2⟩ : ∃ W, W = (W3.drew).setCells gr (r * 10) [.int .i64 next.me, .int .i64 next.kept.view, .int .i64 next.kept.normal, .bool next.kept.calm, .slice E0 m0 z0, .int .i64 next.kept.commit, .slice E1 next.have_.length z1, .slice E2 next.wants.length z2, .slice E3 next.gives.length z3, .slice E4 next.given.length z4] := ⟨_, rfl⟩
      have HP := Lib.hid (show NetW W2 base gx { { x with slots := x.slots.set r l' } with replicas := { x with slots := x.slots.set r l' }.replicas.set r next } (.slice (some ⟨gr, 0, none⟩) x.replicas.length e0) (.slice (some ⟨gs, 0, none⟩) x.slots.length e1) (.slice B2 x.flying.length e2) (.slice B3 x.clients.length e3) (.slice B4 x.told.length e4) ∧ Fr base w W2 ∧ IsRow 89 8 80 MsgE W2 0 (.slice A ms.length c) ms ∧ base ≤ W2.heap.size from by
        rw [hW2]
        exact (HI3.out.below (Below.refl _ _).drew).put (k := r) hr)
      change Exit.then _ _ _ _ ((W3.drew).setCells gr (r * 10) [.int .i64 next.me, .int .i64 next.kept.view, .int .i64 next.kept.normal, .bool next.kept.calm, .slice E0 m0 z0, .int .i64 next.kept.commit, .slice E1 next.have_.length z1, .slice E2 next.wants.length z2, .slice E3 next.gives.length z3, .slice E4 next.given.length z4])
      rw [← hW2]
      clear hW2 b0 b1 b2 b3 b4 b5 b6 b7 b8 b9 d0 dl bl hth2
      go_wp2_with fail
      refine (netSend_c A c ms W2 base gx { { x with slots := x.slots.set r l' } with replicas := { x with slots := x.slots.set r l' }.replicas.set r next } _ _ _ _ _ HP.out.1 HP.out.2.2.2 HP.out.2.2.1 HAP.out h80).mono ?_; rintro en w9 ⟨rfl, hn9, hf9⟩
      have H9 := Lib.hid (And.intro hn9 (HP.out.2.1.trans hf9))
      clear hn9 hf9
      go_wp2
      go_ret
      exact ⟨ret_val (int_eq HY.out.2.symm), by rw [HY.out.1]; exact H9.out.1, H9.out.2⟩
  · have hfb : (f' != 0) = true := by simpa using hf0
    have hy2 : y = x ∧ f = f' := by
      have h := HY.out
      rw [show x.slots.getD r [] = x.slots[r] by rw [List.getD_eq_getElem?_getD, List.getElem?_eq_getElem hs]; rfl, HST.out] at h
      dsimp only at h
      rw [if_pos hf0] at h
      exact ⟨(Prod.mk.inj h).1.symm, (Prod.mk.inj h).2.symm⟩
    have HY2 := Lib.hid hy2
    clear hy2 hf0
    go_wp2
    go_ret
    exact ⟨ret_val (int_eq HY2.out.2.symm), by rw [HY2.out.1]; exact HI2.out.net.e, HI2.out.fr⟩
theorem netSettle_c (r : Nat) (next : Scu.Replica) (lu hv wv gv nv : Value) (A : Option Addr) (c : Nat) (ms : List Scu.Message) (upto : Int) (w : World) (base gx : Nat) (x : Scu.Net) (rv sv fv cv tv : Value) (hN : NetW w base gx x rv sv fv cv tv) (hb : base ≤ w.heap.size) (hr : r < x.replicas.length) (hs : r < x.slots.length) (hr3 : x.replicas.length = 3) (hrep : IsRep w 0 lu hv wv gv nv next) (hms : IsRow 89 8 80 MsgE w 0 (.slice A ms.length c) ms) (hap : ∀ g, (Value.slice A ms.length c).ownBlock = some g → fv.ownBlock ≠ some g) (h80 : x.flying.length ≤ 80) (y : Scu.Net) (f : Int) (hy : Scu.settle x r next ms upto = (y, f)) :
    Calls Tryd.prog 106 #[.pointer (some ⟨gx, 0, none⟩), .int .i64 r, .agg #[.int .i64 next.me, .int .i64 next.kept.view, .int .i64 next.kept.normal, .bool next.kept.calm, lu, .int .i64 next.kept.commit, hv, wv, gv, nv], .slice A ms.length c, .int .i64 upto] w fun e w' => e = .returned (.int .i64 f) ∧ NetE w' base gx y ∧ Fr base w w' := by
  have hg : x.replicas.getD r Scu.replica0 = x.replicas[r] := by rw [List.getD_eq_getElem?_getD, List.getElem?_eq_getElem hr]; rfl
  unfold Scu.settle at hy
  rw [hg] at hy
  by_cases h : next.kept = x.replicas[r].kept
  · by_cases hu : upto < 0
    · rw [if_pos ⟨h, hu⟩] at hy
      exact settle_1 r next lu hv wv gv nv A c ms upto w base gx x rv sv fv cv tv hN hb hr hs hr3 hrep hms hap h80 h hu y f ⟨(Prod.mk.inj hy).1.symm, (Prod.mk.inj hy).2.symm⟩
    · rw [if_neg (fun hh => hu hh.2)] at hy
      exact settle_2 r next lu hv wv gv nv A c ms upto w base gx x rv sv fv cv tv hN hb hr hs hr3 hrep hms hap h80 h hu y f hy
  · rw [if_neg (fun hh => h hh.1)] at hy
    exact settle_3 r next lu hv wv gv nv A c ms upto w base gx x rv sv fv cv tv hN hb hr hs hr3 hrep hms hap h80 h y f hy
end Go.Proofs.YtfpiembhlgcelaaDoor

/- The card of the law 'SectorsBack': for every input the call returns true; each argument reads as it did. Condition: the three tables of numbers that the library reads hold what the program's text lays in them, which the card ties. -/
import Derived.Test.YtfpiembhlgcelaaDoorPart5
import Derived.Test.YtfpiembhlgcelaaDoorPart6
import Derived.Test.YtfpiembhlgcelaaDoorPart1
import Derived.Deep.RegionHeld3
import Derived.Test.YtfpiembhlgcelaaDoorPart2
import Derived.Test.YtfpiembhlgcelaaDoorCards
import Derived.Test.YtfpiembhlgcelaaDoorTie
import Derived.SizedLaws
import Derived.LaidMore
import Derived.Stop.Joined
import Derived.SevenTiedAt
import Derived.WalkKit
import Derived.ProofKit
import Derived.OpenShut
import Derived.ShutString
import Derived.ChangeOld
import Derived.Below
set_option linter.unusedVariables false
set_option linter.unusedSimpArgs false
/- Words: a volume stays whole where a row of another volume's own is written. -/
namespace Go.Proofs.YtfpiembhlgcelaaDoor
set_option linter.unusedVariables false
set_option linter.unusedSimpArgs false
open Go.RowKit
set_option maxHeartbeats 1000000
set_option maxRecDepth 100000

theorem own_farset {w : World} {base size n g : Nat} {e : TypeId} {v : Value} {xs : List Value} (h : w.ownsRow base e size v n xs) (hg : g < base) (j : Nat) (u : Value) : (w.setCell ⟨g, j, none⟩ u).ownsRow base e size v n xs := by
  obtain ⟨h1, h2 | ⟨g', cap, cur, rfl, h3, h4, h5⟩⟩ := h
  · exact ⟨h1, .inl h2⟩
  · have := Below.heap_setCell w ⟨g, j, none⟩ u g' (by show g' ≠ g; omega)
    exact ⟨h1, .inr ⟨g', cap, cur, rfl, h3, by rw [this]; exact h4, h5⟩⟩
/-- A volume at a base above the block that is written. -/
theorem OwnVol.farset {w : World} {base g : Nat} {nv sv : Value} {x : Scu.Volume} (h : OwnVol w base nv sv x) (hg : g < base) (hn : ∃ g0, nv.ownBlock = some g0) (j : Nat) (u : Value) : OwnVol (w.setCell ⟨g, j, none⟩ u) base nv sv x := by
  obtain ⟨hn1, hnl, hne, hl, vs, b, hrow, heach, hlo, hhi⟩ := h
  obtain ⟨g0, hg0⟩ := hn
  have h1 := (hn1.lt g0 hg0).1
  have h2 := hlo g0 hg0
  refine ⟨own_farset hn1 hg j u, hnl, hne, hl, vs, b, own_farset hrow hg j u, fun i y z ha hb => (heach i y z ha hb).far (fun e => ?_) _, hlo, hhi⟩
  have h3 := hhi y (List.mem_of_getElem? ha) g e
  omega
theorem own_fargrow {w w' : World} {base size n : Nat} {e : TypeId} {v : Value} {xs : List Value} {row : Option Nat} (h : w.ownsRow base e size v n xs) (hg : w.grownBy w' row) (hr : ∀ g, row = some g → g < base) : w'.ownsRow base e size v n xs :=
  h.kept hg (by
    cases hv : v.ownBlock with
    | none => exact .inl rfl
    | some g => exact .inr (fun e => by have := (h.lt g hv).1; have := hr g e.symm; omega))
theorem strs_fargrow {w w' : World} {v : Value} {xs : List Scu.Str} {row : Option Nat} (h : IsStrs w 0 v xs) (hg : w.grownBy w' row) (hne : ∀ x, row = some x → v.ownBlock ≠ some x) : IsStrs w' 0 v xs := by
  obtain ⟨⟨A, c, rfl, hc, hr⟩, h2, h3⟩ := h
  refine ⟨⟨A, c, rfl, hc, ?_⟩, h2, h3⟩
  rcases hr with h | ⟨g, o, rfl, hlt, hk, h4⟩
  · exact .inl h
  · have hb := hg.block g hlt (fun e => hne g e.symm rfl)
    refine .inr ⟨g, o, rfl, Nat.lt_of_lt_of_le hlt hg.size, ?_, fun j u hj => ?_⟩
    · rw [hb]; exact hk
    · rw [World.cell?_of_block (w := w) (w' := w') (a := ⟨g, o + j, none⟩) hb]; exact h4 j u hj
/-- A volume at a base above the block of the row that grows. -/
theorem OwnVol.fargrow {w w' : World} {base : Nat} {nv sv : Value} {x : Scu.Volume} {row : Option Nat} (h : OwnVol w base nv sv x) (hg : w.grownBy w' row) (hr : ∀ g, row = some g → g < base) (hn : ∃ g0, nv.ownBlock = some g0) : OwnVol w' base nv sv x := by
  obtain ⟨hn1, hnl, hne, hl, vs, b, hrow, heach, hlo, hhi⟩ := h
  obtain ⟨g0, hg0⟩ := hn
  have h1 := (hn1.lt g0 hg0).1
  have h2 := hlo g0 hg0
  refine ⟨own_fargrow hn1 hg hr, hnl, hne, hl, vs, b, own_fargrow hrow hg hr, fun i y z ha hb => strs_fargrow (heach i y z ha hb) hg (fun g e e' => ?_), hlo, hhi⟩
  have h3 := hhi y (List.mem_of_getElem? ha) g e'
  have h4 := hr g e
  omega
/-- What an operation of the raw kind does, told by cases. -/
theorem own_some {w : World} {base size n : Nat} {e : TypeId} {v : Value} {xs : List Value} (h : w.ownsRow base e size v n xs) (hn : 0 < n) (hs : 0 < size) : ∃ g0, v.ownBlock = some g0 := by
  obtain ⟨h1, ⟨h0, hn0⟩ | ⟨g', cap, cur, rfl, _⟩⟩ := h
  · omega
  · exact ⟨g', rfl⟩
end Go.Proofs.YtfpiembhlgcelaaDoor
/- The law SectorsBack, walked. -/
namespace Go.Proofs.YtfpiembhlgcelaaDoor
set_option linter.unusedVariables false
set_option linter.unusedSimpArgs false
open Go.RowKit
set_option maxHeartbeats 4000000
set_option maxRecDepth 100000

/-- At the head of a round: the volume in its box, and the law's own rows that hold the same. -/
structure SecI (w : World) (gv gn : Nat) (nv sv : Value) (As : Option Addr) (ns cs : Nat) (x : Scu.Volume) (wr : World) : Prop where
  box : Blk wr gv 39 #[nv, sv]
  vol : IsVolume wr 0 nv sv x
  own : OwnVol wr w.heap.size (.slice (some ⟨gn, 0, none⟩) 6 6) (.slice As ns cs) x
  nn : ns = x.snaps.length
  ok : Scu.volFault x = 0
  low : Below w.heap.size w wr
  lo : w.heap.size ≤ gv
theorem SecI.drewN {w : World} {gv gn : Nat} {nv sv : Value} {As : Option Addr} {ns cs : Nat} {x : Scu.Volume} {wr : World} (h : SecI w gv gn nv sv As ns cs x wr) (n : Nat) : SecI w gv gn nv sv As ns cs x (wr.drewN n) :=
  ⟨h.box.drewN n, h.vol.drewN n, h.own.below (below_drewN (Below.refl _ _) n), h.nn, h.ok, below_drewN h.low n, h.lo⟩
theorem volFault_three {x : Scu.Volume} (h : Scu.volFault x = 0) : x.snaps.length ≤ 3 := by
  unfold Scu.volFault at h
  split at h
  · rename_i hv
    unfold Scu.volOk at hv
    simp only [Bool.and_eq_true, decide_eq_true_eq] at hv
    exact hv.1.2
  · simp at h
theorem lawSectorsBack_c (v : Value) (l : List Scu.Raw) (w : World) (hl : IsRaws w w.heap.size v l) (ht : Tab w) :
    Calls Tryd.prog 4 #[v] w fun e w' => e = .returned (.bool true) ∧ Below w.heap.size w w' := by
  obtain ⟨Al, cl, rfl, hll⟩ := hl.form'
  have hl47 := hl.len
  unfold R47 at hl47
  have HT := Lib.hid ht
  have HL := Lib.hid hl
  clear ht hl
  have hm := make6
  go_enter Tryd.func4, Tryd.ntmps4
  go_wp2_with fail
  refine (volNew_c w).mono ?_; rintro e w1 ⟨⟨nv, sv, rfl, hv⟩, b1⟩
  obtain ⟨A0, n0, c0, rfl⟩ := hv.now.form
  obtain ⟨A1, n1, c1, rfl⟩ := hv.snaps.form
  have HV := Lib.hid hv
  have B1 := Lib.hid b1
  clear hv b1
  go_upto_region 2 with fail
  obtain ⟨W2, hW2⟩ : ∃ W, W = w1.alloc (Obj.cells #[.slice A0 n0 c0, .slice A1 n1 c1] 39) := ⟨_, rfl⟩
  rw [← hW2]
  have HB2 := Lib.hid (show Blk W2 w1.heap.size 39 #[.slice A0 n0 c0, .slice A1 n1 c1] from by rw [hW2]; exact Blk.new _ _ _)
  have B2 := Lib.hid (show Below w.heap.size w W2 from by rw [hW2]; exact B1.out.alloc B1.out.size _)
  have HV2 := Lib.hid (show IsVolume W2 0 (.slice A0 n0 c0) (.slice A1 n1 c1) _ from by rw [hW2]; exact HV.out.below (below_alloc _ _))
  clear hW2
  go_upto_region 4 with fail
  obtain ⟨W3, hW3⟩ : ∃ W, W = W2.alloc (Obj.cells #[.string ⟨#[]⟩, .string ⟨#[]⟩, .string ⟨#[]⟩, .string ⟨#[]⟩, .string ⟨#[]⟩, .string ⟨#[]⟩] 9) := ⟨_, rfl⟩
  rw [← hW3]
  have hd3 : Below W2.heap.size W2 W3 := by rw [hW3]; exact below_alloc _ _
  have hn3 : Blk W3 W2.heap.size 9 (Scu.volNew.now.map Value.string).toArray := by rw [hW3]; exact Blk.new _ _ _
  have hgv : w1.heap.size < W2.heap.size := HB2.out.lt
  have HI := Lib.hid (show SecI w w1.heap.size W2.heap.size (.slice A0 n0 c0) (.slice A1 n1 c1) none 0 0 Scu.volNew W3 from
    ⟨HB2.out.same hd3, HV2.out.below hd3, ⟨own_blk hn3 B2.out.size rfl (by decide), by simp [Scu.volNew, R47], (fun s hs => by simp [Scu.volNew] at hs; subst hs; decide), by simp [Scu.volNew], [], W2.heap.size + 1, World.ownsRow_nil _ _ _ _, (fun j u y h => by simp at h), (fun g h => by simp [Value.ownBlock] at h; omega), (fun u h => by simp at h)⟩, rfl, by decide, B2.out.trans (hd3.mono B2.out.size), B1.out.size⟩)
  obtain ⟨gv, hgve⟩ : ∃ g, w1.heap.size = g := ⟨_, rfl⟩
  obtain ⟨gn, hgne⟩ : ∃ g, W2.heap.size = g := ⟨_, rfl⟩
  rw [hgve, hgne] at HI ⊢
  rw [hgve, hgne] at hgv
  clear hW3 hd3 hn3 hm HB2 B2 HV2 HV B1 hgve hgne
  go_wp2_with fail
  go_loopw [5, 6] (fun sn i wr => ∃ (k : Nat) (x : Scu.Volume) (A0 : Option Addr) (n0 c0 : Nat) (A1 : Option Addr) (n1 c1 : Nat) (As : Option Addr) (ns cs : Nat), k ≤ l.length ∧ k ≤ 40 ∧ i = .int .i64 k ∧ sn = .slice As ns cs ∧ SecI w gv gn (.slice A0 n0 c0) (.slice A1 n1 c1) As ns cs x wr) (fun _ i _ => l.length - (intOf i).toNat)
  case atStart => exact ⟨0, _, A0, n0, c0, A1, n1, c1, none, 0, 0, Nat.zero_le _, Nat.zero_le _, rfl, rfl, HI.out⟩
  case round =>
    obtain ⟨k, x, A0, n0, c0, A1, n1, c1, As, ns, cs, hk, hk4, rfl, rfl, hI⟩ := hrel
    have HR := Lib.hid hI
    clear hI
    by_cases hlt : k < l.length
    · have hlt' : (k : Int) < (l.length : Int) := by omega
      by_cases h40 : k < 40
      · have h40' : (k : Int) < 40 := by omega
        have HLW := Lib.hid (HL.out.below HR.out.low)
        obtain ⟨gl, ol, cl', e, hgl, -, hin⟩ := raw_at HLW.out hlt
        obtain rfl : Al = some ⟨gl, ol, none⟩ := by cases e; rfl
        clear e cl'
        have c0' : wr.cell? ⟨gl, ol + k * 4, none⟩ = some (.int .i64 l[k].kind) := HLW.out.cell_at hlt 0 (by decide)
        have c1' : wr.cell? ⟨gl, ol + k * 4 + 1, none⟩ = some (.int .i64 l[k].a) := HLW.out.cell_at hlt 1 (by decide)
        have c2' : wr.cell? ⟨gl, ol + k * 4 + 2, none⟩ = some (.int .i64 l[k].b) := HLW.out.cell_at hlt 2 (by decide)
        have c3' : wr.cell? ⟨gl, ol + k * 4 + 3, none⟩ = some (.int .i64 l[k].c) := HLW.out.cell_at hlt 3 (by decide)
        obtain ⟨o, ho⟩ : ∃ o, Scu.rawOp l[k] = o := ⟨_, rfl⟩
        have hof : Scu.opFault o = 0 := by rw [← ho]; exact Scu.rawOp_ok _
        obtain ⟨y, rp, hdo⟩ : ∃ y rp, Scu.doIt x o = (y, rp) := ⟨_, _, rfl⟩
        have hvd : Scu.volDo x ⟨o.kind, o.at_, o.snap, o.data⟩ = (y, ⟨rp.code, rp.n, rp.data⟩, 0) := by
          unfold Scu.volDo
          rw [if_neg (by simp [HR.out.ok]), if_neg (by simpa using hof)]
          show ((Scu.doIt x o).1, (Scu.doIt x o).2, (0 : Int)) = _
          rw [hdo]
        have hyf : Scu.volFault y = 0 := by
          have := Scu.doIt_ok HR.out.ok hof
          rw [hdo] at this
          exact this
        have HO := Lib.hid ho
        have HOF := Lib.hid hof
        have HDO := Lib.hid hdo
        have HVD := Lib.hid hvd
        have HYF := Lib.hid hyf
        have HIN := Lib.hid hin
        clear ho hof hdo hvd hyf hin
        go_wp2_with fail
        refine (kop_o l[k] HIN.out o HO.out _ (HT.out.below HR.out.low)).mono ?_; rintro e w4 ⟨rfl, b4⟩
        have B4 := Lib.hid b4
        clear b4 c0' c1' c2' c3'
        go_upto_region 8 with fail
        obtain ⟨W5, hW5⟩ : ∃ W, W = w4.alloc (Obj.cells #[.int .i64 o.kind, .int .i64 o.at_, .int .i64 o.snap, .string o.data] 26) := ⟨_, rfl⟩
        rw [← hW5]
        have hb5 : Blk W5 w4.heap.size 26 #[.int .i64 o.kind, .int .i64 o.at_, .int .i64 o.snap, .string o.data] := by rw [hW5]; exact Blk.new _ _ _
        have hd5 : Below wr.heap.size wr W5 := by rw [hW5]; exact B4.out.alloc B4.out.size _
        clear hW5
        have hx5 := HR.out.box.same hd5
        have hv5 := HR.out.vol.below hd5
        have v0 : W5.cell? ⟨gv, 0, none⟩ = some (.slice A0 n0 c0) := hx5.cell 0
        have v1 : W5.cell? ⟨gv, 1, none⟩ = some (.slice A1 n1 c1) := hx5.cell 1
        have o0 : W5.cell? ⟨w4.heap.size, 0, none⟩ = some (.int .i64 o.kind) := hb5.cell 0
        have o1 : W5.cell? ⟨w4.heap.size, 1, none⟩ = some (.int .i64 o.at_) := hb5.cell 1
        have o2 : W5.cell? ⟨w4.heap.size, 2, none⟩ = some (.int .i64 o.snap) := hb5.cell 2
        have o3 : W5.cell? ⟨w4.heap.size, 3, none⟩ = some (.string o.data) := hb5.cell 3
        have HB5 := Lib.hid hb5
        have HD5 := Lib.hid hd5
        have HX5 := Lib.hid hx5
        have HV5 := Lib.hid hv5
        clear hb5 hd5 hx5 hv5
        go_wp2_with fail
        refine (volDo_a _ _ x o.kind o.at_ o.snap o.data _ 0 HV5.out y rp.code rp.n rp.data 0 HVD.out).mono ?_; rintro e w6 ⟨⟨nu, su, rfl, hown⟩, b6⟩
        obtain ⟨A2, n2, c2, rfl⟩ := hown.is.now.form
        obtain ⟨A3, n3, c3, rfl⟩ := hown.is.snaps.form
        have HOW := Lib.hid hown
        have B6 := Lib.hid b6
        clear hown b6 v0 v1 o0 o1 o2 o3
        go_upto_region 9 with fail
        obtain ⟨W7, hW7⟩ : ∃ W, W = (w6.alloc (Obj.cells #[.slice A2 n2 c2, .slice A3 n3 c3] 39)).alloc (Obj.cells #[.int .i64 rp.code, .int .i64 rp.n, .string rp.data] 45) := ⟨_, rfl⟩
        rw [← hW7]
        have hd7 : Below w6.heap.size w6 W7 := by rw [hW7]; exact (below_alloc w6 _).alloc (by simp only [World.size_alloc]; omega) _
        have hb7 : Blk W7 w6.heap.size 39 #[.slice A2 n2 c2, .slice A3 n3 c3] := by rw [hW7]; exact (Blk.new _ _ _).alloc _
        have hr7 : Blk W7 (w6.heap.size + 1) 45 #[.int .i64 rp.code, .int .i64 rp.n, .string rp.data] := by rw [hW7]; have := Blk.new (w6.alloc (Obj.cells #[.slice A2 n2 c2, .slice A3 n3 c3] 39)) 45 #[.int .i64 rp.code, .int .i64 rp.n, .string rp.data]; simpa only [World.size_alloc] using this
        clear hW7
        have h57 := B6.out.trans (hd7.mono B6.out.size)
        have HB7 := Lib.hid hb7
        have HR7 := Lib.hid hr7
        have HOW7 := Lib.hid (HOW.out.below hd7)
        have HO7 := Lib.hid (HB5.out.same h57)
        have HX7 := Lib.hid (HX5.out.same h57)
        have D7 := Lib.hid (HD5.out.trans (h57.mono HD5.out.size))
        have v0 : W7.cell? ⟨w6.heap.size, 0, none⟩ = some (.slice A2 n2 c2) := hb7.cell 0
        have v1 : W7.cell? ⟨w6.heap.size, 1, none⟩ = some (.slice A3 n3 c3) := hb7.cell 1
        clear h57 hd7 hb7 hr7
        go_wp2_with fail
        refine (volCheck_c _ _ y _ 0 HOW7.out.is).mono ?_; rintro e w8 ⟨rfl, b8⟩
        rw [HYF.out]
        have HB8 := Lib.hid (HB7.out.same b8)
        have HR8 := Lib.hid (HR7.out.same b8)
        have HOW8 := Lib.hid (HOW7.out.below b8)
        have HO8 := Lib.hid (HO7.out.same b8)
        have hx8 := HX7.out.same b8
        have D8 := Lib.hid (D7.out.trans (b8.mono D7.out.size))
        have hlt8 := hx8.lt
        have q0 : w8.cell? ⟨gv, 0, none⟩ = some (.slice A0 n0 c0) := hx8.cell 0
        have q1 : w8.cell? ⟨gv, 1, none⟩ = some (.slice A1 n1 c1) := hx8.cell 1
        have qz := hx8.frozen
        have u0 : w8.cell? ⟨w6.heap.size, 0, none⟩ = some (.slice A2 n2 c2) := HB8.out.cell 0
        have u1 : w8.cell? ⟨w6.heap.size, 1, none⟩ = some (.slice A3 n3 c3) := HB8.out.cell 1
        have HX8 := Lib.hid hx8
        clear b8 v0 v1 hx8
        go_upto_region 12 with fail
        obtain ⟨W9, hW9⟩ : ∃ W, W = (w8.setCell ⟨gv, 0, none⟩ (.slice A2 n2 c2)).setCell ⟨gv, 1, none⟩ (.slice A3 n3 c3) := ⟨_, rfl⟩
        rw [← hW9]
        have hs9 : Same [9, 36] 0 w8 W9 := by rw [hW9]; exact (Same.set_ HX8.out (Nat.zero_le _) (by decide) 0 _).trans (Same.set_ (HX8.out.set_ 0 _) (Nat.zero_le _) (by decide) 1 _)
        have hx9 : Blk W9 gv 39 #[.slice A2 n2 c2, .slice A3 n3 c3] := by rw [hW9]; exact (HX8.out.set_ 0 _).set_ 1 _
        have ho9 : Blk W9 w4.heap.size 26 #[.int .i64 o.kind, .int .i64 o.at_, .int .i64 o.snap, .string o.data] := by
          rw [hW9]
          have hne : w4.heap.size ≠ gv := by have := HR.out.box.lt; have := B4.out.size; omega
          exact (HO8.out.far (p := ⟨gv, 0, none⟩) hne _).far (p := ⟨gv, 1, none⟩) hne _
        have hr9 : Blk W9 (w6.heap.size + 1) 45 #[.int .i64 rp.code, .int .i64 rp.n, .string rp.data] := by
          rw [hW9]
          have hne : w6.heap.size + 1 ≠ gv := by have := HX5.out.lt; have := B6.out.size; omega
          exact (HR8.out.far (p := ⟨gv, 0, none⟩) hne _).far (p := ⟨gv, 1, none⟩) hne _
        have hl9 : Below w.heap.size w W9 := by
          rw [hW9]
          have h1 := HR.out.low.trans (D8.out.mono HR.out.low.size)
          exact (h1.setCell (p := ⟨gv, 0, none⟩) HR.out.lo _).setCell (p := ⟨gv, 1, none⟩) HR.out.lo _
        have hn9 : OwnVol W9 w.heap.size (.slice (some ⟨gn, 0, none⟩) 6 6) (.slice As ns cs) x := (HR.out.own.below D8.out).same hs9
        have hv9 : OwnVol W9 W5.heap.size (.slice A2 n2 c2) (.slice A3 n3 c3) y := HOW8.out.same hs9
        clear hW9 hs9 q0 q1 qz u0 u1
        have hgn : gn < W5.heap.size := by
          have h1 := (HR.out.own.now.lt gn rfl).2
          have := HD5.out.size
          omega
        obtain ⟨k0, k1, a0, a1, m0, m1, hd8, hsn, hat, hdt⟩ := Scu.opFault_ok HOF.out
        obtain ⟨an, han⟩ := Int.eq_ofNat_of_zero_le a0
        have han6 : an < 6 := by omega
        have HX9 := Lib.hid hx9
        have HO9 := Lib.hid ho9
        have HR9 := Lib.hid hr9
        have HL9 := Lib.hid hl9
        have HN9 := Lib.hid hn9
        have HV9 := Lib.hid hv9
        have o0 : W9.cell? ⟨w4.heap.size, 0, none⟩ = some (.int .i64 o.kind) := ho9.cell 0
        have o1 : W9.cell? ⟨w4.heap.size, 1, none⟩ = some (.int .i64 (an : Int)) := by rw [← han]; exact ho9.cell 1
        have o2 : W9.cell? ⟨w4.heap.size, 2, none⟩ = some (.int .i64 o.snap) := ho9.cell 2
        have o3 : W9.cell? ⟨w4.heap.size, 3, none⟩ = some (.string o.data) := ho9.cell 3
        have r0 : W9.cell? ⟨w6.heap.size + 1, 0, none⟩ = some (.int .i64 rp.code) := hr9.cell 0
        have r1 : W9.cell? ⟨w6.heap.size + 1, 1, none⟩ = some (.int .i64 rp.n) := hr9.cell 1
        have r2 : W9.cell? ⟨w6.heap.size + 1, 2, none⟩ = some (.string rp.data) := hr9.cell 2
        clear hx9 ho9 hr9 hl9 hn9 hv9
        have hx6 : x.now.length = 6 := by have h := HN9.out.is.now.ex; obtain ⟨A, c, e, _⟩ := h; injection e with _ h2 _; exact h2.symm
        by_cases hw : o.kind = 1 ∨ o.kind = 2
        · obtain ⟨cur, hbn, -⟩ := own_blk_ex (n := 6) (by have h := HN9.out.now; rw [hx6] at h; exact h)
          have hzn := hbn.frozen
          have hgl := hbn.lt
          have hcn : W9.cell? ⟨gn, an, none⟩ = some (.string (x.now[an]'(by omega))) := by
            obtain ⟨A, c, e, _, hr⟩ := HN9.out.is.now.ex
            injection e with e1 _ _
            subst e1
            obtain ⟨g', o', e', _, hc⟩ := str_get hr (k := an) (by omega)
            cases e'
            simpa using hc
          have hy : y = ⟨x.now.set an o.data, x.snaps⟩ := by
            have := HDO.out
            unfold Scu.doIt at this
            rw [if_pos hw, han] at this
            exact (Prod.mk.inj this).1.symm
          have hk4f : (o.kind == 4) = false := by rcases hw with h | h <;> simp [h]
          have hk12 : (o.kind == 1 || o.kind == 2) = true := by rcases hw with h | h <;> simp [h]
          have HW := Lib.hid hw
          have HY := Lib.hid hy
          have HCN := Lib.hid (And.intro hcn hgl)
          have hnn : ∃ g0, (Value.slice A2 n2 c2).ownBlock = some g0 := own_some HV9.out.now (by rw [HY.out]; simp [hx6]) (by decide)
          have hgw : w.heap.size ≤ gn := (HN9.out.now.lt gn rfl).1
          have HFIN := Lib.hid (show SecI w gv gn (.slice A2 n2 c2) (.slice A3 n3 c3) As ns cs y (W9.setCell ⟨gn, an, none⟩ (.string o.data)) from
            ⟨HX9.out.far (p := ⟨gn, an, none⟩) (Nat.ne_of_lt hgv) _, (HV9.out.farset hgn hnn an _).is, by rw [HY.out]; exact HN9.out.put an o.data (by unfold R47; omega), by rw [HY.out]; exact HR.out.nn, HYF.out, HL9.out.setCell (p := ⟨gn, an, none⟩) hgw _, HR.out.lo⟩)
          obtain ⟨d, hdd⟩ : ∃ d, o.data = d := ⟨_, rfl⟩
          rw [hdd] at o3 HFIN
          clear hw hy hdd hdt hsn hat hd8 hnn hgw
          go_wp2_with fail
          all_goals exact ⟨⟨k + 1, y, A2, n2, c2, A3, n3, c3, As, ns, cs, by omega, by omega, by go_num, rfl, HFIN.out⟩, by simp only [intOf]; omega⟩
        · have hk1 : ¬ o.kind = 1 := fun h => hw (.inl h)
          have hk2 : ¬ o.kind = 2 := fun h => hw (.inr h)
          have HW := Lib.hid hw
          have hsl : x.snaps.length ≤ 3 := (volFault_three HR.out.ok)
          have hns := HR.out.nn
          have hgw : w.heap.size ≤ gn := (HN9.out.now.lt gn rfl).1
          clear hw hdt hsn hat hd8
          by_cases h4 : o.kind = 4
          · by_cases h3 : x.snaps.length = 3
            · have hd : y = x ∧ rp.code = 7 := by
                have := HDO.out
                unfold Scu.doIt at this
                rw [if_neg HW.out, if_pos h4, if_pos h3] at this
                obtain ⟨e1, e2⟩ := Prod.mk.inj this
                exact ⟨e1.symm, by rw [← e2]⟩
              have hns3 : ns = 3 := by omega
              have HFIN := Lib.hid (show SecI w gv gn (.slice A2 n2 c2) (.slice A3 n3 c3) As ns cs y W9 from
                ⟨HX9.out, HV9.out.is, by rw [hd.1]; exact HN9.out, by rw [hd.1]; exact hns, HYF.out, HL9.out, HR.out.lo⟩)
              have hrc := hd.2
              have hnl : ¬ (ns : Int) < 3 := by omega
              rw [hrc] at r0
              rw [h4] at o0
              clear hns hns3 hd h3 h4 hrc hk1 hk2 hsl
              go_wp2_with fail
              go_quiet (fail)
              go_wp2_with fail
              go_quiet (fail)
              go_wp2_with fail
              exact ⟨⟨k + 1, y, A2, n2, c2, A3, n3, c3, As, ns, cs, by omega, by omega, by go_num, rfl, HFIN.out.drewN _⟩, by simp only [intOf]; omega⟩
            · have hd : y = ⟨x.now, x.snaps ++ [x.now]⟩ ∧ rp.n = x.snaps.length + 1 := by
                have := HDO.out
                unfold Scu.doIt at this
                rw [if_neg HW.out, if_pos h4, if_neg h3] at this
                obtain ⟨e1, e2⟩ := Prod.mk.inj this
                exact ⟨e1.symm, by rw [← e2]⟩
              have hlt3 : (ns : Int) < 3 := by omega
              have hn3 : ns < 3 := by omega
              rw [h4] at o0
              rw [hd.2, ← hns] at r1
              have HD := Lib.hid hd
              have HNS := Lib.hid hns
              have hgv5 : gv < W5.heap.size := HX5.out.lt
              have hw5 : w.heap.size ≤ W5.heap.size := Nat.le_trans HR.out.low.size HD5.out.size
              clear hd h3 h4 hk1 hk2 hsl hns
              go_wp2_with fail
              refine (cloneStrs_c _ x.now _ 0 HN9.out.is.now).mono ?_; rintro e wA ⟨⟨u3, rfl, hu3⟩, hA⟩
              obtain ⟨A8, c8, e8, _, _, _, hlo3⟩ := rd_own hu3
              rw [hx6] at e8
              subst e8
              have HUA := Lib.hid (And.intro hu3 hlo3)
              have HA := Lib.hid hA
              have hNA := HN9.out.below hA
              obtain ⟨hn1, hnl, hne, hln, vs, bb, hrow, heach, hlo, hhi⟩ := hNA
              have hrow' : wA.ownsRow w.heap.size 36 1 (.slice As ns cs) ns vs := by rw [← HNS.out] at hrow; exact hrow
              have HROW := Lib.hid hrow'
              have HOV := Lib.hid (And.intro hn1 (And.intro hnl (And.intro hne (And.intro hln (And.intro hrow (And.intro heach (And.intro hlo hhi)))))))
              have hszA := HL9.out.size
              have hszB := hA.size
              clear hu3 hlo3 hA hn1 hnl hne hln hrow heach hlo hhi hrow'
              go_wp2_with (at_builtin; refine list_app _ rfl (.tmp 52) (.tmp 55) 37 rfl el_rows w.heap.size (.slice As ns cs) ns vs rfl (own_below HROW.out (below_alloc _ _)) (.slice (some ⟨wA.heap.size, 0, none⟩) 1 1) 1 [.slice A8 6 c8] rfl src_box1 (fun u hu => by simp only [List.mem_cons, List.not_mem_nil, or_false] at hu; subst hu; rfl) (by unfold maxLen; omega) (by omega) (by simp only [World.size_alloc]; omega) ?_)
              intro v4 x4 h4' hg4 _
              obtain ⟨A9, c9, rfl, _, _, _, _⟩ := rd_own h4'
              have hal := below_alloc wA (Obj.cells #[.slice A8 6 c8] 36)
              have h9A := HA.out.trans (hal.mono HA.out.size)
              have hownA := own_below HROW.out hal
              have hS : Same [39, 45] 0 W9 x4 := (Same.below h9A).trans (Same.own hownA hg4 (Nat.zero_le _) (by decide))
              have hR4 : Blk x4 (w6.heap.size + 1) 45 _ := (hS.keep _ HR9.out.lt (.inr ⟨_, _, _, by simp, HR9.out⟩)).trans HR9.out
              have hX4 : Blk x4 gv 39 _ := (hS.keep _ HX9.out.lt (.inr ⟨_, _, _, by simp, HX9.out⟩)).trans HX9.out
              have hnn : ∃ g0, (Value.slice A2 n2 c2).ownBlock = some g0 := own_some HV9.out.now (by rw [HD.out.1]; simp [hx6]) (by decide)
              have hrowlt : ∀ g, (Value.slice As ns cs).ownBlock = some g → g < W5.heap.size := fun g hg => by
                have h1 := HR.out.own
                obtain ⟨_, _, _, _, _, _, hr1, _⟩ := h1
                have := (hr1.lt g hg).2
                have := HD5.out.size
                omega
              have hV4 : OwnVol x4 W5.heap.size (.slice A2 n2 c2) (.slice A3 n3 c3) y := ((HV9.out.below HA.out).alloc _).fargrow hg4 hrowlt hnn
              have h4n : x4.ownsRow w.heap.size 36 1 (.slice A9 (ns + 1) c9) (x.snaps.length + 1) (vs ++ [.slice A8 6 c8]) := by rw [← HNS.out]; exact h4'
              have hpush : OwnVol x4 w.heap.size (.slice (some ⟨gn, 0, none⟩) 6 6) (.slice A9 (ns + 1) c9) ⟨x.now, x.snaps ++ [x.now]⟩ :=
                OwnVol.push (x := x) (y := x.now) (u := .slice A8 6 c8) (own_below HOV.out.1 hal) HOV.out.2.1 HOV.out.2.2.1 (own_below HOV.out.2.2.2.2.1 hal) (fun j u y a b => (HOV.out.2.2.2.2.2.1 j u y a b).below hal) HOV.out.2.2.2.2.2.2.1 HOV.out.2.2.2.2.2.2.2
                  ((strs_own HUA.out.1 HOV.out.2.1 HOV.out.2.2.1).below hal) (fun g0 hg0 g' hg' => by
                    have h1 := (HUA.out.2 g' hg').1
                    have h2 := (HOV.out.1.lt g0 hg0)
                    have h3 : g0 < W9.heap.size := (HN9.out.now.lt g0 hg0).2
                    omega) (by have := HNS.out; unfold R47; omega) hg4 h4n
              have hlow4 : Below w.heap.size w x4 := (HL9.out.trans (h9A.mono HL9.out.size)).grown hg4 (by simp only [World.size_alloc]; omega) (fun g hg => (HROW.out.lt g hg).1)
              have HFIN := Lib.hid (show SecI w gv gn (.slice A2 n2 c2) (.slice A3 n3 c3) A9 (ns + 1) c9 y x4 from
                ⟨hX4, hV4.is, by rw [HD.out.1]; exact hpush, by rw [HD.out.1, HNS.out]; simp, HYF.out, hlow4, HR.out.lo⟩)
              have r1' : x4.cell? ⟨w6.heap.size + 1, 1, none⟩ = some (.int .i64 ((ns : Int) + 1)) := by rw [hR4.cell]; rw [HD.out.2, ← HNS.out]; rfl
              have rl := hR4.lt
              have hqq : ((ns : Int) + 1 != ((ns + 1 : Nat) : Int)) = false := by rw [bne_eq_false_iff_eq]; omega
              clear hal h9A hownA hS hR4 hX4 hnn hrowlt hV4 h4n hpush hlow4 h4' hg4 o0 o1 o2 o3 r0 r1 r2 HROW
              go_wp2_with fail
              exact ⟨⟨k + 1, y, A2, n2, c2, A3, n3, c3, A9, ns + 1, c9, by omega, by omega, by go_num, rfl, HFIN.out⟩, by simp only [intOf]; omega⟩
          · have hk3 : o.kind = 3 := by omega
            have hy : y = x := by
              have := HDO.out
              unfold Scu.doIt at this
              rw [if_neg HW.out, if_neg h4] at this
              split at this
              · exact (Prod.mk.inj this).1.symm
              · split at this
                · exact (Prod.mk.inj this).1.symm
                · exact (Prod.mk.inj this).1.symm
            have HFIN := Lib.hid (show SecI w gv gn (.slice A2 n2 c2) (.slice A3 n3 c3) As ns cs y W9 from
              ⟨HX9.out, HV9.out.is, by rw [hy]; exact HN9.out, by rw [hy]; exact hns, HYF.out, HL9.out, HR.out.lo⟩)
            by_cases hs0 : o.snap = 0
            · have hrd : rp.data = x.now[an]'(by omega) := by
                have := HDO.out
                unfold Scu.doIt at this
                rw [if_neg HW.out, if_neg h4, if_pos hs0, han] at this
                rw [← (Prod.mk.inj this).2]
                show x.now.getD an _ = _
                rw [List.getD_eq_getElem?_getD, List.getElem?_eq_getElem (by omega)]
                rfl
              have hcn : W9.cell? ⟨gn, an, none⟩ = some (.string rp.data) := by
                rw [hrd]
                obtain ⟨A, c, e, _, hr⟩ := HN9.out.is.now.ex
                injection e with e1 _ _
                subst e1
                obtain ⟨g', o', e', _, hc⟩ := str_get hr (k := an) (by omega)
                cases e'
                simpa using hc
              have hnsn : ¬ (ns : Int) < 0 := by omega
              have heq : (rp.data.toList == rp.data.toList) = true := by simp
              have han6' : (an : Int) < 6 := by omega
              rw [hk3] at o0
              rw [hs0] at o2
              clear hns hy hs0 hrd h4 hk1 hk2 hk3 hsl
              go_wp2_with fail
              go_quiet (fail)
              go_wp2_with fail
              go_quiet (fail)
              go_wp2_with fail
              exact ⟨⟨k + 1, y, A2, n2, c2, A3, n3, c3, As, ns, cs, by omega, by omega, by go_num, rfl, HFIN.out.drewN _⟩, by simp only [intOf]; omega⟩
            · by_cases hbig : (ns : Int) < o.snap
              · have hrc : rp.code = 6 := by
                  have := HDO.out
                  unfold Scu.doIt at this
                  rw [if_neg HW.out, if_neg h4, if_neg hs0, if_pos (by omega)] at this
                  rw [← (Prod.mk.inj this).2]
                rw [hk3] at o0
                rw [hrc] at r0
                have hgt0 : (0 : Int) < o.snap := by omega
                have hleb : decide (o.snap ≤ (ns : Int)) = false := by rw [decide_eq_false_iff_not]; omega
                have hs0b : (o.snap == 0) = false := by rw [beq_eq_false_iff_ne]; exact hs0
                clear hns hy hrc h4 hk1 hk2 hk3 hsl
                go_wp2_with fail
                go_quiet (fail)
                go_wp2_with fail
                go_quiet (fail)
                go_wp2_with fail
                exact ⟨⟨k + 1, y, A2, n2, c2, A3, n3, c3, As, ns, cs, by omega, by omega, by go_num, rfl, HFIN.out.drewN _⟩, by simp only [intOf]; omega⟩
              · obtain ⟨mn, hmn⟩ : ∃ mn : Nat, o.snap = mn + 1 := ⟨(o.snap - 1).toNat, by omega⟩
                have hml : mn < x.snaps.length := by omega
                obtain ⟨gs, os, css, u, e, hgs, -, hcu, hiu⟩ := rows_at HN9.out.is.snaps hml
                obtain rfl : As = some ⟨gs, os, none⟩ := by cases e; rfl
                clear e
                have hul : (x.snaps[mn]).length = 6 := ((volFault_ok (by simp [HR.out.ok])).2.2.2 _ (List.getElem_mem hml)).1
                obtain ⟨Au, cu, rfl, _, hru⟩ := hiu.ex
                obtain ⟨gu, ou, rfl, hgu, hcd⟩ := str_get hru (k := an) (by omega)
                have hrd : rp.data = (x.snaps[mn])[an]'(by omega) := by
                  have := HDO.out
                  unfold Scu.doIt at this
                  rw [if_neg HW.out, if_neg h4, if_neg hs0, if_neg (by omega), han] at this
                  rw [← (Prod.mk.inj this).2]
                  show (x.snaps.getD (o.snap - 1).toNat []).getD an _ = _
                  rw [hmn, show ((mn : Int) + 1 - 1).toNat = mn by omega, List.getD_eq_getElem?_getD (l := x.snaps), List.getElem?_eq_getElem hml, Option.getD_some, List.getD_eq_getElem?_getD, List.getElem?_eq_getElem (by omega)]
                  rfl
                rw [← hrd] at hcd
                rw [hul] at hcu
                have heq : (rp.data.toList == rp.data.toList) = true := by simp
                have han6' : (an : Int) < 6 := by omega
                have hwr : IntKind.i64.wrap ((mn : Int) + 1 - 1) = mn := by rw [IntWalk.i64_in _ (by omega)]; omega
                have hmle : (mn : Int) + 1 ≤ (ns : Int) := by omega
                have hmlt : (mn : Int) < (ns : Int) := by omega
                have hm0 : (0 : Int) < (mn : Int) + 1 := by omega
                have hne0 : ((mn : Int) + 1 == 0) = false := by rw [beq_eq_false_iff_ne]; omega
                have hngt : ¬ (ns : Int) < (mn : Int) + 1 := by omega
                have hdb1 : decide ((mn : Int) + 1 ≤ (ns : Int)) = true := by rw [decide_eq_true_eq]; omega
                have hdb2 : decide ((0 : Int) < (mn : Int) + 1) = true := by rw [decide_eq_true_eq]; omega
                have hsub : (mn : Int) + 1 - 1 = mn := by omega
                have hwr2 : IntKind.i64.wrap (mn : Int) = mn := IntWalk.i64_in _ (by omega)
                have hmn0 : (0 : Int) ≤ (mn : Int) := by omega
                have han0 : (0 : Int) ≤ (an : Int) := by omega
                rw [hk3] at o0
                rw [hmn] at o2
                clear hrd
                clear hul hiu hru
                clear hns hy h4 hk1 hk2 hk3 hsl hs0 hbig hmn m0 m1
                go_wp2_with fail
                go_quiet (fail)
                go_wp2_with fail
                go_quiet (fail)
                go_wp2_with fail
                exact ⟨⟨k + 1, y, A2, n2, c2, A3, n3, c3, _, ns, cs, by omega, by omega, by go_num, rfl, HFIN.out.drewN _⟩, by simp only [intOf]; omega⟩
      · have h40' : ¬ (k : Int) < 40 := by omega
        have HF := Lib.hid HR.out.low
        go_wp2
        go_ret
        exact ⟨rfl, HF.out⟩
    · have hlt' : ¬ (k : Int) < (l.length : Int) := by omega
      have HF := Lib.hid HR.out.low
      go_wp2
      go_ret
      exact ⟨rfl, HF.out⟩
theorem lawSectorsBack_w (v : Value) (l : List Scu.Raw) {w : World} (h : IsRaws w w.heap.size v l) (W : World) (hW : W = w) (ht : Tab W) :
    Calls Tryd.prog 4 #[v] W fun e w' => e = .returned (.bool true) ∧ Below W.heap.size W w' := by
  subst hW
  exact lawSectorsBack_c v l W h ht
end Go.Proofs.YtfpiembhlgcelaaDoor
namespace Go.Proofs.YtfpiembhlgcelaaDoor.sectorsBackDone
open Go.ChangeShapes Go.WideShapes Go.ChangeAt Go.RowKit
open Go.ChangeMaps (open_string shut_string)
set_option linter.unusedVariables false
theorem own : ownKnob Tryd.prog.godebug = none := by kernel_rfl
theorem laidOut : laidOutB Tryd.prog = true := by kernel_rfl
set_option maxRecDepth 100000 in
theorem lifted (os : Os) (started : os.Started) (H : Type) (enc : TypeId × Value → H) :
    ReturnsInHanded {} Tryd.checked os 4 .any (fun w args => (Rows.sectorsBackSpec.pre enc Tryd.prog Tryd.f4 [] false w args ∧ laidMetH Tryd.prog Rows.sectorsBackRow.laid w) ∧ sizedMet enc Tryd.prog Tryd.f4 (OpenSpec.ofChange Rows.sectorsBackSpec) false w args)
      (Rows.sectorsBackSpec.post enc Tryd.prog Tryd.f4 false true false false) := by
  refine returnsInHanded_of_change_and (C := Tryd.checked) (X := fun w _ => laidMetH Tryd.prog Rows.sectorsBackRow.laid w) (fun _ _ _ hh h => h.of_heap hh) own started (by kernel_rfl) Tryd.func4
    (ChangeSpec.witness_shaped (enc := enc) (C := Tryd.checked) (os := os) (X := fun w _ => laidMetH Tryd.prog Rows.sectorsBackRow.laid w) false (World.doorLaid Tryd.prog doorFuel os) #[.slice none 0 0] 8 rfl (door_shaped os _) (by kernel_rfl) (by kernel_rfl) (by kernel_rfl) (door_met os _)) ?_
  intro W base args ds gs before hval0 hW _ hsz hL _
  have htab := tab_of hL
  have hwt0 : ∀ (j : Nat) (t : TypeId) (d : DataW H), (Tryd.f4.params.toList ++ Rows.sectorsBackSpec.plain.varTypes Tryd.prog)[j]? = some t → (ds ++ gs)[j]? = some d → ∀ k ∈ d.weights Tryd.prog t, k ≤ reachBytes := fun j t d ht hd k hk => by
    have := List.all_eq_true.1 hsz k (DataW.weights_mem_each ht hd k hk)
    simpa using this
  clear hsz hL
  have hwt := hwt0
  rw [Tryd.params4] at hwt
  have hval : ∀ (j : Nat) t v, Tryd.f4.params[j]? = some t → args[j]? = some v → Value.okWide Tryd.prog W .any base t v := hval0
  have hW' := hW
  obtain ⟨p, q, hA0, hV, rfl, hfz, hnd⟩ := hW
  have hA : DataW.TrodAll enc Tryd.prog W 0 (fun _ => true) true Tryd.f4.params.toList args.toList ds p := hA0
  rw [Tryd.params4] at hA hval
  obtain ⟨v0, vs0, d0, ds0, p0, q0, hargs, rfl, rfl, h0, r0⟩ := trodAll_cons hA
  obtain ⟨rfl, rfl, rfl⟩ := trodAll_nil r0
  obtain rfl : args = #[v0] := by cases args; simp_all
  obtain ⟨rfl, rfl⟩ := trodVars_none hV
  have k0 := h0
  have lt0 : ∀ x ∈ p0, x.block < W.heap.size := by obtain ⟨m, hm⟩ := k0; exact DataW.trod_lt m _ _ _ hm
  obtain ⟨a0, w0⟩ := openS_Raws (hval 0 22 v0 rfl rfl) h0 (hwt 0 22 d0 rfl rfl)
  clear hA0 hval0
  refine (lawSectorsBack_w v0 a0 w0 W rfl htab).mono fun e W' ⟨he, bel⟩ => ?_
  subst he
  exact ⟨_, rfl, _, _, _, [], _, [], hW', trodAll_mk1 (shut_bool Tryd.underlying4 _), (trodAll_cons_mk (Below.trod laidOut (by kernel_rfl) (of_decide_eq_true (by kernel_rfl)) k0 bel lt0) trodAll_mk0), rfl, bel.frame _, fun h => by cases h⟩
theorem over : Rows.SectorsBackSaid :=
  OpenClaim.holds_of_wide 4 Tryd.f4 rfl rfl rfl rfl rfl rfl rfl ⟨rfl, rfl, rfl, rfl, rfl⟩ rfl rfl rfl rfl rfl (by kernel_rfl) Tryd.func4 (facts_of rfl rfl rfl rfl rfl rfl (by as_aux_lemma => kernel_rfl) (by as_aux_lemma => kernel_rfl) (by as_aux_lemma => kernel_rfl) (by as_aux_lemma => kernel_rfl) (by as_aux_lemma => kernel_rfl) (by as_aux_lemma => kernel_rfl) (by as_aux_lemma => kernel_rfl))
    (of_decide_eq_true (by kernel_rfl)) (by unfold Func.isWrapper; first | (rw [if_pos (by decide +kernel)]; kernel_rfl) | (rw [if_neg (by decide +kernel)]; exact ⟨rfl, rfl⟩))
    (fun os started H enc _ => lifted os started H enc)
theorem proved : Rows.SectorsBackCardSaid :=
  Claim7.holds_tied_plain_at .later [] [.data, .data, .data] true Rows.sectorsBackCard.stood.harness false
    over (fun _ h => by cases h) (by kernel_rfl) (fun _ h => by cases h) sectorsBack_row_tie rfl ⟨rfl, rfl⟩ (by kernel_rfl) rfl
    (fun f fn hf hfn => by
      obtain rfl : f = 4 := Option.some.inj ((show Tryd.prog.funcNamed Rows.sectorsBackRow.func = some 4 by kernel_rfl).symm.trans hf) |>.symm
      obtain rfl : fn = Tryd.f4 := (Option.some.inj (Tryd.func4.symm.trans hfn)).symm
      exact ⟨by kernel_rfl, fun j t ht => by
        rw [Tryd.params4] at ht
        have hm : t ∈ [22] := by simpa using Array.mem_of_getElem? ht
        have hall : ([22].all fun u => !Tryd.prog.wantsStandIn u) = true := by kernel_rfl
        exact (show Tryd.prog.wantsStandIn t = false by simpa using List.all_eq_true.1 hall t hm)⟩)
    (by kernel_rfl)
end Go.Proofs.YtfpiembhlgcelaaDoor.sectorsBackDone

/- Part 10: words and walks under the law 'ReplicaHears'. -/
import Derived.Test.YtlaibljdlpmbfaaPart8
import Derived.Test.YtlaibljdlpmbfaaPart9
set_option linter.unusedVariables false
set_option linter.unusedSimpArgs false
/- Walks: work.take, its first statement. -/
namespace Go.Proofs.Ytlaibljdlpmbfaa
open Go.RowKit
set_option maxHeartbeats 2000000
set_option maxRecDepth 100000

def Scu.best0 : Scu.Kept := { Scu.kept0 with normal := -1 }
structure BegI (w : World) (base gw gr gb : Nat) (r : Scu.Replica) (lu hv wv : Value) (gg cg gn cn : Nat) (ov : Value) (ms : List Scu.Message) (css : List (List Value)) (b : Scu.Kept) (Ab : Option Addr) (cb : Nat) (wr : World) : Prop where
  work : Work wr base gw gr r lu hv wv (.slice (some ⟨gg, 0, none⟩) 3 cg) (.slice (some ⟨gn, 0, none⟩) 3 cn) ov ms css
  low : Below base w wr
  box : Blk wr gb 24 #[.int .i64 b.view, .int .i64 b.normal, .bool b.calm, .slice Ab b.log.length cb, .int .i64 b.commit]
  log : IsStrs wr 0 (.slice Ab b.log.length cb) b.log
/-- What the loop has found in what the first j gave. -/
def BegF (r : Scu.Replica) (j m : Nat) (co : Int) (b : Scu.Kept) : Prop := m = (r.given.take j).countP id ∧ co = Scu.maxCommit ((r.gives.zip r.given).take j) ∧ b = Scu.bestOf ((r.gives.zip r.given).take j)
theorem BegI.below {w wr w' : World} {base gw gr gb : Nat} {r : Scu.Replica} {lu hv wv : Value} {gg cg gn cn : Nat} {ov : Value} {ms : List Scu.Message} {css : List (List Value)} {b : Scu.Kept} {Ab : Option Addr} {cb : Nat}
    (h : BegI w base gw gr gb r lu hv wv gg cg gn cn ov ms css b Ab cb wr) (hb : Below wr.heap.size wr w') (hs : base ≤ wr.heap.size) : BegI w base gw gr gb r lu hv wv gg cg gn cn ov ms css b Ab cb w' :=
  ⟨h.work.below hb, h.low.trans (hb.mono hs), h.box.same hb, h.log.below hb⟩
theorem zip_take {r : Scu.Replica} {j : Nat} {g : Scu.Kept} {c : Bool} (hg : r.gives[j]? = some g) (hc : r.given[j]? = some c) : (r.gives.zip r.given).take (j + 1) = (r.gives.zip r.given).take j ++ [(g, c)] ∧ r.given.take (j + 1) = r.given.take j ++ [c] := by
  constructor
  · have hz : (r.gives.zip r.given)[j]? = some (g, c) := by rw [List.getElem?_zip_eq_some]; exact ⟨hg, hc⟩
    rw [List.take_add_one, hz]
    rfl
  · rw [List.take_add_one, hc]
    rfl
theorem BegF.skip {r : Scu.Replica} {j m : Nat} {co : Int} {b g : Scu.Kept} (h : BegF r j m co b) (hg : r.gives[j]? = some g) (hc : r.given[j]? = some false) : BegF r (j + 1) m co b := by
  obtain ⟨h1, h2, h4⟩ := h
  obtain ⟨e1, e2⟩ := zip_take hg hc
  unfold BegF Scu.maxCommit Scu.bestOf
  rw [e1, e2, List.countP_append, List.foldl_append, List.foldl_append]
  exact ⟨by simpa using h1, by simpa [Scu.maxCommit] using h2, by simpa [Scu.bestOf] using h4⟩
theorem BegF.take_ {r : Scu.Replica} {j m : Nat} {co : Int} {b g : Scu.Kept} (h : BegF r j m co b) (hg : r.gives[j]? = some g) (hc : r.given[j]? = some true) : BegF r (j + 1) (m + 1) (if co < g.commit then g.commit else co) (if Scu.better g b then g else b) := by
  have hmx : (if co < g.commit then g.commit else co) = max co g.commit := by split <;> omega
  rw [hmx]
  obtain ⟨h1, h2, h4⟩ := h
  obtain ⟨e1, e2⟩ := zip_take hg hc
  unfold BegF Scu.maxCommit Scu.bestOf
  rw [e1, e2, List.countP_append, List.foldl_append, List.foldl_append]
  exact ⟨by simp [h1], by simp [h2, Scu.maxCommit], by simp [h4, Scu.bestOf]⟩
set_option maxHeartbeats 20000000 in
theorem take_t (w : World) (base gw gr : Nat) (r : Scu.Replica) (f : Int) (k : Scu.Kept) (A : Option Addr) (n c : Nat) (ms : List Scu.Message) (hW : WorkE w base gw gr r ms) (hbase : base ≤ w.heap.size) (h3 : Rep3 r) (hf0 : 0 ≤ f) (hf3 : f < 3)
    {B : Nat} (hx : IsStrs w B (.slice A n c) k.log) (hm : (ms.length + 4) * 80 ≤ R47) :
    Calls Try.prog 32 #[.pointer (some ⟨gw, 0, none⟩), .int .i64 f, .agg #[.int .i64 k.view, .int .i64 k.normal, .bool k.calm, .slice A n c, .int .i64 k.commit]] w fun e w' => e = .returned (.tuple #[]) ∧ WorkE w' base gw gr (Scu.take1 r f k).1 (ms ++ (Scu.take1 r f k).2) ∧ Below base w w' := by
  obtain ⟨lu, hv, wv, gv, nv, ov, css, hW⟩ := hW
  have H3 := Lib.hid h3
  have HM := Lib.hid hm
  obtain ⟨gn, cn, rfl⟩ := ones3f hW.own.own.given h3.2.2.2.1
  obtain ⟨kss, hks⟩ := hW.own.giv
  obtain ⟨gg, cg, rfl⟩ : ∃ g c, gv = .slice (some ⟨g, 0, none⟩) 3 c := by
    have h := hks.row
    rw [h3.2.2.1] at h
    obtain ⟨hl, ⟨h0, hn⟩ | ⟨g', cap, cur, e1, _⟩⟩ := h
    · omega
    · exact ⟨g', cap, e1⟩
  have HW := Lib.hid hW
  have HX := Lib.hid hx
  clear hW hx h3 hm hks
  unfold Scu.take1
  obtain ⟨r2, hr2⟩ : ∃ r2, r2 = Scu.give1 r f k := ⟨_, rfl⟩
  rw [← hr2]
  have HR2 := Lib.hid hr2
  clear hr2
  go_enter Try.func32, Try.ntmps32
  go_upto_region 1 with fail
  obtain ⟨Wd, hWd⟩ : ∃ W, W = w.alloc (Obj.cells #[.int .i64 k.view, .int .i64 k.normal, .bool k.calm, .slice A n c, .int .i64 k.commit] 24) := ⟨_, rfl⟩
  rw [← hWd]
  have hbw : Below w.heap.size w Wd := by rw [hWd]; exact below_alloc _ _
  have hk : Blk Wd w.heap.size 24 #[.int .i64 k.view, .int .i64 k.normal, .bool k.calm, .slice A n c, .int .i64 k.commit] := by rw [hWd]; exact Blk.new _ _ _
  have hWk := HW.out.below hbw
  have hX := HX.out.below hbw
  clear hWd
  obtain ⟨kss, hks⟩ := HW.out.own.giv
  obtain ⟨_, kcur, hkB⟩ := own_blk? hks.row
  obtain ⟨_, ⟨ncur, hnB⟩, _⟩ := ones3' HW.out.own.own.given H3.out.2.2.2.1
  have n1 : gw ≠ gg := blk_ne HW.out.wb hkB (by decide)
  have n2 : gr ≠ gg := blk_ne HW.out.rb hkB (by decide)
  have n3 : w.heap.size ≠ gg := by have := hkB.lt; omega
  have n4 : gw ≠ gn := blk_ne HW.out.wb hnB (by decide)
  have n5 : gr ≠ gn := blk_ne HW.out.rb hnB (by decide)
  have n6 : w.heap.size ≠ gn := by have := hnB.lt; omega
  have n7 : gn ≠ gg := blk_ne hnB hkB (by decide)
  clear hks hkB hnB
  have d0 := hWk.wb.cell 0
  have d8 := hWk.rb.cell 8
  have d9 := hWk.rb.cell 9
  have k0 := hk.cell 0
  have k1 := hk.cell 1
  have k3 := hk.cell 3
  have k4 := hk.cell 4
  simp only [List.getElem?_toArray, List.getElem?_cons_zero, List.getElem?_cons_succ] at d0 d8 d9 k0 k1 k3 k4
  have dl := hWk.wb.lt
  have dm := hWk.rb.lt
  have dk := hk.lt
  have H1 := Lib.hid (And.intro hWk (And.intro hX (And.intro hk hbw)))
  clear hWk hX hk hbw
  go_wp2_with fail
  go_region_held3 (fun w' => w'.cell? ⟨gw, 0, none⟩ = some (.pointer (some ⟨gr, 0, none⟩)) ∧ w'.cell? ⟨gr, 8, none⟩ = some (.slice (some ⟨gg, 0, none⟩) 3 cg) ∧ w'.cell? ⟨gr, 9, none⟩ = some (.slice (some ⟨gn, 0, none⟩) 3 cn) ∧ w'.cell? ⟨w.heap.size, 0, none⟩ = some (.int .i64 k.view) ∧ w'.cell? ⟨w.heap.size, 1, none⟩ = some (.int .i64 k.normal) ∧ w'.cell? ⟨w.heap.size, 3, none⟩ = some (.slice A n c) ∧ w'.cell? ⟨w.heap.size, 4, none⟩ = some (.int .i64 k.commit))
    (first | (go_split_ands; (try dsimp only); (repeat' apply And.intro) <;> first | (with_reducible assumption) | (with_reducible (refine (cell_far ?_ _).trans ((cell_far5 ?_).trans ?_) <;> assumption)) | (with_reducible (refine (cell_far5 ?_).trans ?_ <;> assumption))) | (go_split_ands; (try dsimp only); exact ⟨d0, d8, d9, k0, k1, k3, k4⟩) | go_keep)
    (first
      | (go_at_call 25; refine (cloneStrs_c _ k.log _ B ?_).mono ?_; exact H1.out.2.1.drewN 1; rintro en x1 ⟨⟨v1, rfl, hu⟩, k1'⟩
         refine use (P := Below Wd.heap.size Wd x1) ?_ ?_
         exact (below_drewN (Below.refl _ _) 1).trans k1'
         intro nn1
         have M1 := Lib.hid nn1
         obtain ⟨Au, cu, rfl, _, _, _, _⟩ := rd_own hu
         have HU := Lib.hid hu
         have hW1 := H1.out.1.below nn1
         obtain ⟨kss, hks⟩ := hW1.own.giv
         have h3g : r.gives.length = 3 := H3.out.2.2.1
         obtain ⟨gz, lg, y0, y1, y2, y3, y4, _⟩ := hks.cells (i := f.toNat) (by omega)
         obtain ⟨_, _, hc, nz, _⟩ := ones3' hW1.own.own.given H3.out.2.2.2.1
         obtain ⟨un, yn⟩ := Option.isSome_iff_exists.1 (hc f.toNat (by omega))
         have HW1 := Lib.hid hW1
         have yn5 : (((((x1.setCell ⟨gg, f.toNat * 5, none⟩ (.int .i64 k.view)).setCell ⟨gg, f.toNat * 5 + 1, none⟩ (.int .i64 k.normal)).setCell ⟨gg, f.toNat * 5 + 2, none⟩ (.bool false)).setCell ⟨gg, f.toNat * 5 + 3, none⟩ (.slice Au k.log.length cu)).setCell ⟨gg, f.toNat * 5 + 4, none⟩ (.int .i64 k.commit)).cell? ⟨gn, f.toNat, none⟩ = some un := (cell_far5 n7).trans yn
         have e0 := (nn1.cell (p := ⟨gw, 0, none⟩) dl).trans d0
         have e8 := (nn1.cell (p := ⟨gr, 8, none⟩) dm).trans d8
         have e9 := (nn1.cell (p := ⟨gr, 9, none⟩) dm).trans d9
         have b0 := (nn1.cell (p := ⟨w.heap.size, 0, none⟩) dk).trans k0
         have b1 := (nn1.cell (p := ⟨w.heap.size, 1, none⟩) dk).trans k1
         have b3 := (nn1.cell (p := ⟨w.heap.size, 3, none⟩) dk).trans k3
         have b4 := (nn1.cell (p := ⟨w.heap.size, 4, none⟩) dk).trans k4
         clear nn1 hu k1' hks hc hW1))
  obtain ⟨Wf, hWf⟩ : ∃ W, W = (((((x1.setCell ⟨gg, f.toNat * 5, none⟩ (.int .i64 k.view)).setCell ⟨gg, f.toNat * 5 + 1, none⟩ (.int .i64 k.normal)).setCell ⟨gg, f.toNat * 5 + 2, none⟩ (.bool false)).setCell ⟨gg, f.toNat * 5 + 3, none⟩ (.slice Au k.log.length cu)).setCell ⟨gg, f.toNat * 5 + 4, none⟩ (.int .i64 k.commit)).setCell ⟨gn, f.toNat, none⟩ (.bool true) := ⟨_, rfl⟩
  have hWk : Work Wf base gw gr (Scu.give1 r f k) lu hv wv (.slice (some ⟨gg, 0, none⟩) 3 cg) (.slice (some ⟨gn, 0, none⟩) 3 cn) ov ms css ∧ Below base w Wf := by
    have hxl : IsStrs x1 0 (.slice Au k.log.length cu) (Scu.own k).log := strs_own HU.out HX.out.len HX.out.each
    obtain ⟨a1, a2⟩ := HW1.out.put_gives (i := f.toNat) (by rw [H3.out.2.2.1]; omega) hxl
    obtain ⟨hb, cur, hB⟩ := own_blk? a1.own.own.given.1
    obtain ⟨c1, c2, _⟩ := a1.put_given hB hb f.toNat true
    rw [hWf]
    exact ⟨c1, (((H1.out.2.2.2.mono hbase).trans (M1.out.mono (Nat.le_trans hbase H1.out.2.2.2.size))).trans a2).trans c2⟩
  have h3' : Rep3 (Scu.give1 r f k) := ⟨H3.out.1, H3.out.2.1, by simp [Scu.give1, H3.out.2.2.1], by simp [Scu.give1, H3.out.2.2.2.1], H3.out.2.2.2.2⟩
  rw [← hWf]
  rw [← HR2.out] at hWk h3'
  have HWF := Lib.hid (And.intro hWk h3')
  clear hWk h3' hWf HW1 HU M1 HX H1 H3 HR2 HW yn5 e0 e8 e9 b0 b1 b3 b4 gz y0 y1 y2 y3 y4 nz yn dl dm dk d0 d8 d9 k0 k1 k3 k4
  have hbf : base ≤ Wf.heap.size := Nat.le_trans hbase HWF.out.1.2.size
  have hme0 : 0 ≤ r2.me := HWF.out.2.2.2.2.2.1
  have hme3 : r2.me < 3 := HWF.out.2.2.2.2.2.2
  have d0 := HWF.out.1.1.wb.cell 0
  have d0r := HWF.out.1.1.rb.cell 0
  have d1 := HWF.out.1.1.rb.cell 1
  have d8 := HWF.out.1.1.rb.cell 8
  have d9 := HWF.out.1.1.rb.cell 9
  simp only [List.getElem?_toArray, List.getElem?_cons_zero, List.getElem?_cons_succ] at d0 d0r d1 d8 d9
  have dl := HWF.out.1.1.wb.lt
  have dm := HWF.out.1.1.rb.lt
  obtain ⟨_, _, _, _, hcn⟩ := ones3' HWF.out.1.1.own.own.given HWF.out.2.2.2.2.1
  obtain ⟨b, hb⟩ : ∃ b, b = r2.given.getD r2.me.toNat false := ⟨_, rfl⟩
  have dg : Wf.cell? ⟨gn, r2.me.toNat, none⟩ = some (.bool b) := by
    have hlt : r2.me.toNat < r2.given.length := by rw [HWF.out.2.2.2.2.1]; omega
    rw [hcn _ (by omega), List.getElem?_map, List.getElem?_eq_getElem hlt, hb, List.getD_eq_getElem?_getD, List.getElem?_eq_getElem hlt]
    rfl
  clear hcn
  have HB := Lib.hid hb
  clear hb
  cases b with
  | false =>
    have hbeg : Scu.begun r2 = (r2, []) := by unfold Scu.begun; rw [if_pos HB.out.symm]
    have HBEG := Lib.hid hbeg
    clear hbeg
    go_wp2_with fail
    go_region
    go_wp2
    refine bodyPost_ret (v := .tuple #[]) (by simp [results, Try.results32]) rfl ?_
    refine ⟨rfl, ?_, HWF.out.1.2.drew⟩
    rw [HBEG.out, List.append_nil]
    exact (HWF.out.1.1.below (Below.refl _ _).drew).e
  | true =>
    go_wp2_with fail
    go_region
    obtain ⟨Wg, hWg⟩ : ∃ W, W = Wf.drew := ⟨_, rfl⟩
    rw [← hWg]
    have HWG := Lib.hid (show Work Wg base gw gr r2 lu hv wv (.slice (some ⟨gg, 0, none⟩) 3 cg) (.slice (some ⟨gn, 0, none⟩) 3 cn) ov ms css ∧ Below base w Wg from by rw [hWg]; exact ⟨HWF.out.1.1.below (Below.refl _ _).drew, HWF.out.1.2.drew⟩)
    clear hWg d0 d0r d1 d8 d9 dl dm dg
    have hwb := HWG.out.1.wb
    have hrb := HWG.out.1.rb
    have d0 := hwb.cell 0
    have d8 := hrb.cell 8
    simp only [List.getElem?_toArray, List.getElem?_cons_zero, List.getElem?_cons_succ] at d0 d8
    have dl := hwb.lt
    have dm := hrb.lt
    have hsg : base ≤ Wg.heap.size := Nat.le_trans hbase HWG.out.2.size
    have hgb : Wg.heap.size ≠ gg := by
      obtain ⟨_, hq⟩ := HWG.out.1.own.giv
      obtain ⟨_, _, hq2⟩ := own_blk? hq.row
      have := hq2.lt
      omega
    have HI := Lib.hid (show BegI w base gw gr Wg.heap.size r2 lu hv wv gg cg gn cn ov ms css Scu.best0 none 0 (Wg.alloc (Obj.cells #[.int .i64 0, .int .i64 (-1), .bool false, .slice none 0 0, .int .i64 0] 24)) from
      ⟨HWG.out.1.below (below_alloc _ _), HWG.out.2.trans ((below_alloc _ _).mono hsg), Blk.new Wg _ _, IsStrs.nil_⟩)
    clear hwb hrb
    go_wp2_with fail
    go_loopw [6, 8, 66] (fun mv cv iv wr => ∃ (j m : Nat) (co : Int) (b : Scu.Kept) (Ab : Option Addr) (cb : Nat), j ≤ 3 ∧ iv = .int .i64 j ∧ mv = .int .i64 m ∧ cv = .int .i64 co ∧ m ≤ j ∧ Hid (BegF r2 j m co b) ∧ Hid (BegI w base gw gr Wg.heap.size r2 lu hv wv gg cg gn cn ov ms css b Ab cb wr)) (fun _ _ iv _ => 3 - (intOf iv).toNat)
    case atStart => exact ⟨0, 0, 0, Scu.best0, none, 0, Nat.zero_le _, rfl, rfl, rfl, Nat.le_refl _, Lib.hid ⟨rfl, rfl, rfl⟩, HI⟩
    case round =>
      obtain ⟨j, m, co, b, Ab, cb, hj, rfl, rfl, rfl, hmj, HF, HJ⟩ := hrel
      by_cases hlt : j < 3
      · have hlt' : (j : Int) < 3 := by omega
        obtain ⟨kss, hks⟩ := HJ.out.work.own.giv
        obtain ⟨gz, lg, y0, y1, y2, y3, y4, hlg⟩ := hks.cells (i := j) (by rw [HWF.out.2.2.2.1]; exact hlt)
        obtain ⟨g, hg⟩ : ∃ g, g = r2.gives[j]'(by rw [HWF.out.2.2.2.1]; exact hlt) := ⟨_, rfl⟩
        rw [← hg] at y0 y1 y2 y4 hlg
        obtain ⟨⟨Al, cl, rfl, _, _⟩, _, _⟩ := id hlg
        have HG := Lib.hid (And.intro hg hlg)
        clear hg hlg hks gz
        go_upto_region 9 with fail
        obtain ⟨Wa, hWa⟩ : ∃ W, W = wr.alloc (Obj.cells #[.int .i64 g.view, .int .i64 g.normal, .bool g.calm, .slice Al g.log.length cl, .int .i64 g.commit] 24) := ⟨_, rfl⟩
        rw [← hWa]
        have hba : Below wr.heap.size wr Wa := by rw [hWa]; exact below_alloc _ _
        have hga : Blk Wa wr.heap.size 24 #[.int .i64 g.view, .int .i64 g.normal, .bool g.calm, .slice Al g.log.length cl, .int .i64 g.commit] := by rw [hWa]; exact Blk.new _ _ _
        have hsr : base ≤ wr.heap.size := Nat.le_trans hbase HJ.out.low.size
        have HJA := Lib.hid (HJ.out.below hba hsr)
        have HLA := Lib.hid (HG.out.2.below hba)
        clear hWa y0 y1 y2 y3 y4
        obtain ⟨c, hc⟩ : ∃ c, r2.given[j]? = some c := ⟨_, List.getElem?_eq_getElem (by rw [HWF.out.2.2.2.2.1]; exact hlt)⟩
        have hgj : r2.gives[j]? = some g := by rw [HG.out.1]; exact List.getElem?_eq_getElem _
        obtain ⟨_, _, _, _, hcn⟩ := ones3' HJA.out.work.own.own.given HWF.out.2.2.2.2.1
        have dg : Wa.cell? ⟨gn, j, none⟩ = some (.bool c) := by rw [hcn _ hlt, List.getElem?_map, hc]; rfl
        have d0 := HJA.out.work.wb.cell 0
        have d9 := HJA.out.work.rb.cell 9
        have b0 := HJA.out.box.cell 0
        have b1 := HJA.out.box.cell 1
        have b2 := HJA.out.box.cell 2
        have b3 := HJA.out.box.cell 3
        have b4 := HJA.out.box.cell 4
        have g0 := hga.cell 0
        have g1 := hga.cell 1
        have g2 := hga.cell 2
        have g3 := hga.cell 3
        have g4 := hga.cell 4
        simp only [List.getElem?_toArray, List.getElem?_cons_zero, List.getElem?_cons_succ] at d0 d9 b0 b1 b2 b3 b4 g0 g1 g2 g3 g4
        have bz := HJA.out.box.frozen
        have bl := HJA.out.box.lt
        have gl := hga.lt
        have dl := HJA.out.work.wb.lt
        have dm := HJA.out.work.rb.lt
        clear hcn hga hba
        have HC := Lib.hid (And.intro hgj hc)
        clear hgj hc
        cases c with
        | false =>
          have HF2 := Lib.hid (HF.out.skip HC.out.1 HC.out.2)
          go_wp2
          go_roundw
          case rel => exact ⟨j + 1, m, co, b, Ab, cb, by omega, rfl, rfl, rfl, by omega, HF2, HJA⟩
          case measure => simp only [intOf]; omega
        | true =>
          have hm3 : (m : Int) < 3 := by omega
          have hf2 := HF.out.take_ HC.out.1 HC.out.2
          by_cases hA : b.normal < g.normal
          · have hbt : Scu.better g b = true := by unfold Scu.better; simp [hA]
            rw [if_pos hbt] at hf2
            have HF2 := Lib.hid hf2
            clear hf2 hbt
            go_upto_region 14 with fail
            obtain ⟨Wb, hWb⟩ : ∃ W, W = ((((Wa.setCell ⟨Wg.heap.size, 0, none⟩ (.int .i64 g.view)).setCell ⟨Wg.heap.size, 1, none⟩ (.int .i64 g.normal)).setCell ⟨Wg.heap.size, 2, none⟩ (.bool g.calm)).setCell ⟨Wg.heap.size, 3, none⟩ (.slice Al g.log.length cl)).setCell ⟨Wg.heap.size, 4, none⟩ (.int .i64 g.commit) := ⟨_, rfl⟩
            rw [← hWb]
            obtain ⟨z1, z2, z3, z4⟩ := HJA.out.work.box5 (a0 := .int .i64 g.view) (a1 := .int .i64 g.normal) (a2 := .bool g.calm) (a3 := .slice Al g.log.length cl) (a4 := .int .i64 g.commit) HJA.out.box hgb hsg
            rw [← hWb] at z1 z2 z3 z4
            have HJB := Lib.hid (show BegI w base gw gr Wg.heap.size r2 lu hv wv gg cg gn cn ov ms css g Al cl Wb from ⟨z1, HJA.out.low.trans z2, z3, HLA.out.same (by simp) z4⟩)
            clear hWb z1 z2 z3 z4 b0 b1 b2 b3 b4 g0 g1 g2 g3 g4 bz bl gl d0 d9 dg
            go_wp2
            go_roundw
            case rel => exact ⟨j + 1, m + 1, (if co < g.commit then g.commit else co), g, Al, cl, by omega, rfl, (by simp), rfl, by omega, HF2, HJB⟩
            case measure => simp only [intOf]; omega
          · by_cases hE : g.normal = b.normal
            · have hEb : (g.normal == b.normal) = true := by simpa using hE
              by_cases hL : (b.log.length : Int) < (g.log.length : Int)
              · have hbt : Scu.better g b = true := by unfold Scu.better; simp [hE]; omega
                rw [if_pos hbt] at hf2
                have HF2 := Lib.hid hf2
                clear hf2 hbt hE
                go_upto_region 14 with fail
                obtain ⟨Wb, hWb⟩ : ∃ W, W = ((((Wa.setCell ⟨Wg.heap.size, 0, none⟩ (.int .i64 g.view)).setCell ⟨Wg.heap.size, 1, none⟩ (.int .i64 g.normal)).setCell ⟨Wg.heap.size, 2, none⟩ (.bool g.calm)).setCell ⟨Wg.heap.size, 3, none⟩ (.slice Al g.log.length cl)).setCell ⟨Wg.heap.size, 4, none⟩ (.int .i64 g.commit) := ⟨_, rfl⟩
                rw [← hWb]
                obtain ⟨z1, z2, z3, z4⟩ := HJA.out.work.box5 (a0 := .int .i64 g.view) (a1 := .int .i64 g.normal) (a2 := .bool g.calm) (a3 := .slice Al g.log.length cl) (a4 := .int .i64 g.commit) HJA.out.box hgb hsg
                rw [← hWb] at z1 z2 z3 z4
                have HJB := Lib.hid (show BegI w base gw gr Wg.heap.size r2 lu hv wv gg cg gn cn ov ms css g Al cl Wb from ⟨z1, HJA.out.low.trans z2, z3, HLA.out.same (by simp) z4⟩)
                clear hWb z1 z2 z3 z4 b0 b1 b2 b3 b4 g0 g1 g2 g3 g4 bz bl gl d0 d9 dg
                go_wp2
                go_roundw
                case rel => exact ⟨j + 1, m + 1, (if co < g.commit then g.commit else co), g, Al, cl, by omega, rfl, (by simp), rfl, by omega, HF2, HJB⟩
                case measure => simp only [intOf]; omega
              · have hbt : Scu.better g b = false := by unfold Scu.better; simp [hE]; omega
                rw [hbt, if_neg (show ¬ (false = true) by decide)] at hf2
                have HF2 := Lib.hid hf2
                clear hf2 hbt hE
                go_wp2
                go_roundw
                case rel => exact ⟨j + 1, m + 1, (if co < g.commit then g.commit else co), b, Ab, cb, by omega, rfl, (by simp), rfl, by omega, HF2, HJA⟩
                case measure => simp only [intOf]; omega
            · have hEb : (g.normal == b.normal) = false := by simpa using hE
              have hbt : Scu.better g b = false := by unfold Scu.better; simp [hE, hA]
              rw [hbt, if_neg (show ¬ (false = true) by decide)] at hf2
              have HF2 := Lib.hid hf2
              clear hf2 hbt hE
              go_wp2
              go_roundw
              case rel => exact ⟨j + 1, m + 1, (if co < g.commit then g.commit else co), b, Ab, cb, by omega, rfl, (by simp), rfl, by omega, HF2, HJA⟩
              case measure => simp only [intOf]; omega
      · have hj3 : j = 3 := by omega
        subst hj3
        have hnl : ¬ ((3 : Nat) : Int) < 3 := by omega
        obtain ⟨f1, f2, f3⟩ := HF.out
        have hl3 : r2.given.length = 3 := HWF.out.2.2.2.2.1
        have hz3 : (r2.gives.zip r2.given).length = 3 := by rw [List.length_zip, HWF.out.2.2.2.1, hl3]; rfl
        rw [List.take_of_length_le (by omega)] at f1
        rw [List.take_of_length_le (by omega)] at f2 f3
        have hgm : r2.given.getD r2.me.toNat false ≠ false := by rw [← HB.out]; decide
        by_cases hm2 : (m : Int) < 2
        · have hbeg : Scu.begun r2 = (r2, []) := by unfold Scu.begun; rw [if_neg hgm, if_pos (by omega)]
          have HBEG := Lib.hid hbeg
          clear hbeg f1 f2 f3 hl3 hz3 hgm
          go_wp2
          refine bodyPost_ret (v := .tuple #[]) (by simp [results, Try.results32]) rfl ?_
          refine ⟨rfl, ?_, HJ.out.low⟩
          rw [HBEG.out, List.append_nil]
          exact HJ.out.work.e
        · have hbeg : Scu.begun r2 = (Scu.fresh { r2 with kept := ⟨r2.kept.view, r2.kept.view, true, b.log, if (b.log.length : Int) < co then (b.log.length : Int) else co⟩ }, Scu.leadOn (Scu.fresh { r2 with kept := ⟨r2.kept.view, r2.kept.view, true, b.log, if (b.log.length : Int) < co then (b.log.length : Int) else co⟩ })) := by
            have hmn : (if (b.log.length : Int) < co then (b.log.length : Int) else co) = min (Scu.maxCommit (r2.gives.zip r2.given)) b.log.length := by rw [← f2]; split <;> omega
            unfold Scu.begun
            rw [if_neg hgm, if_neg (by omega), hmn, f3]
          by_cases hq : (b.log.length : Int) < co
          · rw [if_pos hq] at hbeg
            have HBEG := Lib.hid hbeg
            clear hbeg f1 f2 f3 hl3 hz3 hgm
            have d0 := HJ.out.work.wb.cell 0
            have d1 := HJ.out.work.rb.cell 1
            have d2 := HJ.out.work.rb.cell 2
            have d3 := HJ.out.work.rb.cell 3
            have d4 := HJ.out.work.rb.cell 4
            have d5 := HJ.out.work.rb.cell 5
            have b3 := HJ.out.box.cell 3
            simp only [List.getElem?_toArray, List.getElem?_cons_zero, List.getElem?_cons_succ] at d0 d1 d2 d3 d4 d5 b3
            have dz := HJ.out.work.rb.frozen
            have dl := HJ.out.work.wb.lt
            have dm := HJ.out.work.rb.lt
            have bl := HJ.out.box.lt
            have n1 : gw ≠ gr := blk_ne HJ.out.work.wb HJ.out.work.rb (by decide)
            have n2 : Wg.heap.size ≠ gr := blk_ne HJ.out.box HJ.out.work.rb (by decide)
            go_wp2_with fail
            go_region_held3 (fun w' => w'.cell? ⟨gw, 0, none⟩ = some (.pointer (some ⟨gr, 0, none⟩)) ∧ w'.cell? ⟨Wg.heap.size, 3, none⟩ = some (.slice Ab b.log.length cb))
              (first | (go_split_ands; (try dsimp only); (repeat' apply And.intro) <;> first | (with_reducible assumption) | (with_reducible (refine (cell_far5 ?_).trans ?_ <;> assumption))) | (go_split_ands; (try dsimp only); exact ⟨d0, b3⟩))
              (first
                | (go_at_call 25; refine (cloneStrs_c _ b.log _ 0 ?_).mono ?_; exact HJ.out.log.drewN 1; rintro en x1 ⟨⟨v1, rfl, hu⟩, k1'⟩
                   refine use (P := Below wr.heap.size wr x1) ?_ ?_
                   exact (below_drewN (Below.refl _ _) 1).trans k1'
                   intro nn1
                   have M1 := Lib.hid nn1
                   obtain ⟨Au, cu, rfl, _, _, _, _⟩ := rd_own hu
                   have HU := Lib.hid hu
                   have e0 := (nn1.cell (p := ⟨gw, 0, none⟩) dl).trans d0
                   have e1 := (nn1.cell (p := ⟨gr, 1, none⟩) dm).trans d1
                   have e2 := (nn1.cell (p := ⟨gr, 2, none⟩) dm).trans d2
                   have e3 := (nn1.cell (p := ⟨gr, 3, none⟩) dm).trans d3
                   have e4 := (nn1.cell (p := ⟨gr, 4, none⟩) dm).trans d4
                   have e5 := (nn1.cell (p := ⟨gr, 5, none⟩) dm).trans d5
                   have ez := (HJ.out.work.below nn1).rb.frozen
                   have c3 := (nn1.cell (p := ⟨Wg.heap.size, 3, none⟩) bl).trans b3
                   clear nn1 hu k1'))
            all_goals
              rename_i hHeld
              clear hHeld
              (try (have hq2 : ¬ ((b.log.length : Int) < co) := by omega
                    simp only [hq2, ↓reduceIte]))
              obtain ⟨Wc, hWc⟩ : ∃ W, W = ((((x1.setCell ⟨gr, 1, none⟩ (.int .i64 r2.kept.view)).setCell ⟨gr, 2, none⟩ (.int .i64 r2.kept.view)).setCell ⟨gr, 3, none⟩ (.bool true)).setCell ⟨gr, 4, none⟩ (.slice Au b.log.length cu)).setCell ⟨gr, 5, none⟩ (.int .i64 ((b.log.length : Int))) := ⟨_, rfl⟩
              rw [← hWc]
              have hWk : WorkE Wc base gw gr { r2 with kept := ⟨r2.kept.view, r2.kept.view, true, b.log, ((b.log.length : Int))⟩ } ms ∧ Below base w Wc := by
                have hW1 := HJ.out.work.below M1.out
                have hsx : base ≤ wr.heap.size := Nat.le_trans hbase HJ.out.low.size
                have hol : OwnStrs x1 base (.slice Au b.log.length cu) b.log := ⟨ownsRow_base HU.out hsx, HJ.out.log.len, HJ.out.log.each⟩
                have hw3 := ((hW1.set_view r2.kept.view).set_normal r2.kept.view).set_calm true
                have hs3 : Same [9] 0 x1 (((x1.setCell ⟨gr, 1, none⟩ (.int .i64 r2.kept.view)).setCell ⟨gr, 2, none⟩ (.int .i64 r2.kept.view)).setCell ⟨gr, 3, none⟩ (.bool true)) :=
                  ((Same.set_ hW1.rb (Nat.zero_le _) (by decide) 1 _).trans (Same.set_ (hW1.set_view r2.kept.view).rb (Nat.zero_le _) (by decide) 2 _)).trans (Same.set_ ((hW1.set_view r2.kept.view).set_normal r2.kept.view).rb (Nat.zero_le _) (by decide) 3 _)
                have hw5 := (hw3.set_log (hol.same hs3)).set_commit ((b.log.length : Int))
                rw [hWc]
                exact ⟨hw5.e, (HJ.out.low.trans (M1.out.mono hsx)).trans (((((hW1.low 1 _).trans ((hW1.set_view r2.kept.view).low 2 _)).trans (((hW1.set_view r2.kept.view).set_normal r2.kept.view).low 3 _)).trans (hw3.low 4 _)).trans ((hw3.set_log (hol.same hs3)).low 5 _))⟩
              have HWC := Lib.hid hWk
              have hsc : base ≤ Wc.heap.size := Nat.le_trans hbase hWk.2.size
              clear hWk hWc e0 e1 e2 e3 e4 e5 ez c3 HU M1 d0 d1 d2 d3 d4 d5 b3 dz dl dm bl n1 n2
              go_wp2_with fail
              refine (fresh_e Wc base gw gr _ ms HWC.out.1 hsc (show Rep3 { r2 with kept := ⟨r2.kept.view, r2.kept.view, true, b.log, ((b.log.length : Int))⟩ } from HWF.out.2)).mono ?_; rintro en x2 ⟨rfl, hW2, hb2⟩
              have HX2 := Lib.hid (And.intro hW2 (HWC.out.2.trans hb2))
              have hs2 : base ≤ x2.heap.size := Nat.le_trans hsc hb2.size
              clear hW2 hb2
              go_wp2_with fail
              refine (lead_e x2 base gw gr _ ms HX2.out.1 hs2 HM.out).mono ?_; rintro en x3 ⟨rfl, hW3, hb3⟩
              have HX3 := Lib.hid (And.intro hW3 (HX2.out.2.trans hb3))
              clear hW3 hb3
              rename_i KK hKK
              refine hKK _ _ ?_
              dsimp only [wpList]
              go_end0
              refine ⟨rfl, ?_, HX3.out.2⟩
              rw [HBEG.out]
              exact HX3.out.1
          · rw [if_neg hq] at hbeg
            have HBEG := Lib.hid hbeg
            clear hbeg f1 f2 f3 hl3 hz3 hgm
            have d0 := HJ.out.work.wb.cell 0
            have d1 := HJ.out.work.rb.cell 1
            have d2 := HJ.out.work.rb.cell 2
            have d3 := HJ.out.work.rb.cell 3
            have d4 := HJ.out.work.rb.cell 4
            have d5 := HJ.out.work.rb.cell 5
            have b3 := HJ.out.box.cell 3
            simp only [List.getElem?_toArray, List.getElem?_cons_zero, List.getElem?_cons_succ] at d0 d1 d2 d3 d4 d5 b3
            have dz := HJ.out.work.rb.frozen
            have dl := HJ.out.work.wb.lt
            have dm := HJ.out.work.rb.lt
            have bl := HJ.out.box.lt
            have n1 : gw ≠ gr := blk_ne HJ.out.work.wb HJ.out.work.rb (by decide)
            have n2 : Wg.heap.size ≠ gr := blk_ne HJ.out.box HJ.out.work.rb (by decide)
            go_wp2_with fail
            go_region_held3 (fun w' => w'.cell? ⟨gw, 0, none⟩ = some (.pointer (some ⟨gr, 0, none⟩)) ∧ w'.cell? ⟨Wg.heap.size, 3, none⟩ = some (.slice Ab b.log.length cb))
              (first | (go_split_ands; (try dsimp only); (repeat' apply And.intro) <;> first | (with_reducible assumption) | (with_reducible (refine (cell_far5 ?_).trans ?_ <;> assumption))) | (go_split_ands; (try dsimp only); exact ⟨d0, b3⟩))
              (first
                | (go_at_call 25; refine (cloneStrs_c _ b.log _ 0 ?_).mono ?_; exact HJ.out.log.drewN 1; rintro en x1 ⟨⟨v1, rfl, hu⟩, k1'⟩
                   refine use (P := Below wr.heap.size wr x1) ?_ ?_
                   exact (below_drewN (Below.refl _ _) 1).trans k1'
                   intro nn1
                   have M1 := Lib.hid nn1
                   obtain ⟨Au, cu, rfl, _, _, _, _⟩ := rd_own hu
                   have HU := Lib.hid hu
                   have e0 := (nn1.cell (p := ⟨gw, 0, none⟩) dl).trans d0
                   have e1 := (nn1.cell (p := ⟨gr, 1, none⟩) dm).trans d1
                   have e2 := (nn1.cell (p := ⟨gr, 2, none⟩) dm).trans d2
                   have e3 := (nn1.cell (p := ⟨gr, 3, none⟩) dm).trans d3
                   have e4 := (nn1.cell (p := ⟨gr, 4, none⟩) dm).trans d4
                   have e5 := (nn1.cell (p := ⟨gr, 5, none⟩) dm).trans d5
                   have ez := (HJ.out.work.below nn1).rb.frozen
                   have c3 := (nn1.cell (p := ⟨Wg.heap.size, 3, none⟩) bl).trans b3
                   clear nn1 hu k1'))
            all_goals
              rename_i hHeld
              clear hHeld
              (try (have hq2 : ¬ ((b.log.length : Int) < co) := by omega
                    simp only [hq2, ↓reduceIte]))
              obtain ⟨Wc, hWc⟩ : ∃ W, W = ((((x1.setCell ⟨gr, 1, none⟩ (.int .i64 r2.kept.view)).setCell ⟨gr, 2, none⟩ (.int .i64 r2.kept.view)).setCell ⟨gr, 3, none⟩ (.bool true)).setCell ⟨gr, 4, none⟩ (.slice Au b.log.length cu)).setCell ⟨gr, 5, none⟩ (.int .i64 (co)) := ⟨_, rfl⟩
              rw [← hWc]
              have hWk : WorkE Wc base gw gr { r2 with kept := ⟨r2.kept.view, r2.kept.view, true, b.log, (co)⟩ } ms ∧ Below base w Wc := by
                have hW1 := HJ.out.work.below M1.out
                have hsx : base ≤ wr.heap.size := Nat.le_trans hbase HJ.out.low.size
                have hol : OwnStrs x1 base (.slice Au b.log.length cu) b.log := ⟨ownsRow_base HU.out hsx, HJ.out.log.len, HJ.out.log.each⟩
                have hw3 := ((hW1.set_view r2.kept.view).set_normal r2.kept.view).set_calm true
                have hs3 : Same [9] 0 x1 (((x1.setCell ⟨gr, 1, none⟩ (.int .i64 r2.kept.view)).setCell ⟨gr, 2, none⟩ (.int .i64 r2.kept.view)).setCell ⟨gr, 3, none⟩ (.bool true)) :=
                  ((Same.set_ hW1.rb (Nat.zero_le _) (by decide) 1 _).trans (Same.set_ (hW1.set_view r2.kept.view).rb (Nat.zero_le _) (by decide) 2 _)).trans (Same.set_ ((hW1.set_view r2.kept.view).set_normal r2.kept.view).rb (Nat.zero_le _) (by decide) 3 _)
                have hw5 := (hw3.set_log (hol.same hs3)).set_commit (co)
                rw [hWc]
                exact ⟨hw5.e, (HJ.out.low.trans (M1.out.mono hsx)).trans (((((hW1.low 1 _).trans ((hW1.set_view r2.kept.view).low 2 _)).trans (((hW1.set_view r2.kept.view).set_normal r2.kept.view).low 3 _)).trans (hw3.low 4 _)).trans ((hw3.set_log (hol.same hs3)).low 5 _))⟩
              have HWC := Lib.hid hWk
              have hsc : base ≤ Wc.heap.size := Nat.le_trans hbase hWk.2.size
              clear hWk hWc e0 e1 e2 e3 e4 e5 ez c3 HU M1 d0 d1 d2 d3 d4 d5 b3 dz dl dm bl n1 n2
              go_wp2_with fail
              refine (fresh_e Wc base gw gr _ ms HWC.out.1 hsc (show Rep3 { r2 with kept := ⟨r2.kept.view, r2.kept.view, true, b.log, (co)⟩ } from HWF.out.2)).mono ?_; rintro en x2 ⟨rfl, hW2, hb2⟩
              have HX2 := Lib.hid (And.intro hW2 (HWC.out.2.trans hb2))
              have hs2 : base ≤ x2.heap.size := Nat.le_trans hsc hb2.size
              clear hW2 hb2
              go_wp2_with fail
              refine (lead_e x2 base gw gr _ ms HX2.out.1 hs2 HM.out).mono ?_; rintro en x3 ⟨rfl, hW3, hb3⟩
              have HX3 := Lib.hid (And.intro hW3 (HX2.out.2.trans hb3))
              clear hW3 hb3
              rename_i KK hKK
              refine hKK _ _ ?_
              dsimp only [wpList]
              go_end0
              refine ⟨rfl, ?_, HX3.out.2⟩
              rw [HBEG.out]
              exact HX3.out.1
end Go.Proofs.Ytlaibljdlpmbfaa
/- Walks: ref.begun: a view begins, if enough was given. -/
namespace Go.Proofs.Ytlaibljdlpmbfaa
set_option linter.unusedVariables false
set_option linter.unusedSimpArgs false
open Go.RowKit
set_option maxHeartbeats 8000000
set_option maxRecDepth 100000
/-- Where the best of what the first j gave stands. -/
def AtF (r : Scu.Replica) (j m : Nat) (b : Scu.Kept) (at_ : Int) : Prop := at_ = -1 ∧ m = 0 ∧ b = Scu.best0 ∨ ∃ i : Nat, i < j ∧ at_ = i ∧ r.gives[i]? = some b
theorem AtF.skip {r : Scu.Replica} {j m : Nat} {b : Scu.Kept} {at_ : Int} (h : AtF r j m b at_) : AtF r (j + 1) m b at_ :=
  h.imp id fun ⟨i, h1, h2⟩ => ⟨i, by omega, h2⟩
theorem AtF.stay {r : Scu.Replica} {j m i : Nat} {b : Scu.Kept} (h : i < j ∧ r.gives[i]? = some b) : AtF r (j + 1) (m + 1) b i := .inr ⟨i, by omega, rfl, h.2⟩
theorem AtF.move {r : Scu.Replica} {j m : Nat} {k : Scu.Kept} (h : r.gives[j]? = some k) : AtF r (j + 1) (m + 1) k j := .inr ⟨j, by omega, rfl, h⟩
theorem joinR {G R : Prop} (h : G → R) (g : G) : R := h g
theorem there_subr {w : World} {g o n : Nat} (h : w.there g o n) (j m : Nat) (hj : j + m ≤ n) : w.there g (o + j) m := fun i hi => by
  have := h (j + i) (by omega)
  rwa [← Nat.add_assoc] at this
theorem begun_c (g base : Nat) (r : Scu.Replica) (lu hv wv gv nv : Value) (w : World) (hR : RWk w base g r lu hv wv gv nv) (h3 : Rep3 r) (hN : ∀ k ∈ r.gives, 0 ≤ k.normal) (rr : Scu.Replica) (ms : List Scu.Message) (hb : Scu.begun r = (rr, ms)) :
    Calls Try.prog 40 #[.pointer (some ⟨g, 0, none⟩)] w fun e w' => (∃ ov css, e = .returned ov ∧ OwnMs w' base ov ms css) ∧ RWkE w' base g rr ∧ BS base w w' := by
  obtain ⟨gn, cn, rfl⟩ := ones3f hR.own.own.given h3.2.2.2.1
  obtain ⟨kss, hks⟩ := hR.own.giv
  obtain ⟨gg, cg, rfl⟩ : ∃ gg cg, gv = .slice (some ⟨gg, 0, none⟩) 3 cg := by
    obtain ⟨A, c, e, _, hA, _, _⟩ := rd_own hks.row
    have hx := hks.row
    rw [h3.2.2.1] at hx e hA
    obtain ⟨_, ⟨_, h0⟩ | ⟨g', cap, cur, e', _⟩⟩ := hx
    · cases h0
    · exact ⟨g', cap, e'⟩
  have HR := Lib.hid hR
  have H3 := Lib.hid h3
  have HN := Lib.hid hN
  have HB := Lib.hid hb
  clear hR h3 hN hb hks
  go_enter Try.func40, Try.ntmps40
  go_wp2_with fail
  go_loopw [3, 4, 5, 6] (fun mv av cv iv wr => ∃ (j m : Nat) (at_ co : Int) (b : Scu.Kept), j ≤ 3 ∧ mv = .int .i64 m ∧ av = .int .i64 at_ ∧ cv = .int .i64 co ∧ iv = .int .i64 j ∧ m ≤ j ∧ Hid (BegF r j m co b ∧ AtF r j m b at_) ∧ Hid (RWk wr base g r lu hv wv (.slice (some ⟨gg, 0, none⟩) 3 cg) (.slice (some ⟨gn, 0, none⟩) 3 cn) ∧ BS base w wr)) (fun _ _ _ iv _ => 3 - (intOf iv).toNat)
  case atStart => exact ⟨0, 0, -1, 0, Scu.best0, Nat.zero_le _, rfl, rfl, rfl, rfl, Nat.le_refl _, Lib.hid ⟨⟨rfl, rfl, rfl⟩, .inl ⟨rfl, rfl, rfl⟩⟩, Lib.hid ⟨HR.out, BS.refl _ _⟩⟩
  case round =>
    obtain ⟨j, m, at_, co, b, hj, rfl, rfl, rfl, rfl, hmj, HF, HJ⟩ := hrel
    by_cases hlt : j < 3
    · have hlt' : (j : Int) < 3 := by omega
      obtain ⟨_, _, _, _, hcn⟩ := ones3' HJ.out.1.own.own.given H3.out.2.2.2.1
      obtain ⟨c, hc⟩ : ∃ c, r.given[j]? = some c := ⟨_, List.getElem?_eq_getElem (by rw [H3.out.2.2.2.1]; exact hlt)⟩
      have dg : wr.cell? ⟨gn, j, none⟩ = some (.bool c) := by rw [hcn _ hlt, List.getElem?_map, hc]; rfl
      obtain ⟨-, -, -, -, -, -, -, -, d8, d9⟩ := cz10 HJ.out.1.rb
      obtain ⟨kss, hks⟩ := HJ.out.1.own.giv
      obtain ⟨gz, lg, y0, y1, y2, y3, y4, hlg⟩ := hks.cells (i := j) (by rw [H3.out.2.2.1]; exact hlt)
      obtain ⟨k, hk⟩ : ∃ k, k = r.gives[j]'(by rw [H3.out.2.2.1]; exact hlt) := ⟨_, rfl⟩
      have hgj : r.gives[j]? = some k := by rw [hk]; exact List.getElem?_eq_getElem _
      have hkn := HN.out k (by rw [hk]; exact List.getElem_mem _)
      rw [← hk] at y0 y1 y2 y4 hlg
      obtain ⟨⟨Al, cl, rfl, _, _⟩, _, _⟩ := id hlg
      have HC := Lib.hid (And.intro hgj hc)
      clear hcn hks gz hk hgj hc
      cases c with
      | false =>
        have HF2 := Lib.hid (And.intro (HF.out.1.skip HC.out.1 HC.out.2) HF.out.2.skip)
        have HJ2 := HJ
        go_wp2_with fail
        go_roundw
        case rel => first | exact ⟨j + 1, m, at_, co, b, by omega, rfl, rfl, rfl, rfl, by omega, HF2, HJ2⟩ | ((repeat apply Exists.intro); exact ⟨⟨j + 1, m, at_, co, b, by omega, rfl, rfl, rfl, rfl, by omega, HF2, HJ2⟩, rfl⟩)
        case measure => first | (simp only [intOf]; omega) | (simp [intOf]; omega)
      | true =>
        go_upto_region 10 with fail
        have hba := below_alloc wr (Obj.cells #[.int .i64 k.view, .int .i64 k.normal, .bool k.calm, .slice Al k.log.length cl, .int .i64 k.commit] 24)
        have hbx := Blk.new wr 24 #[.int .i64 k.view, .int .i64 k.normal, .bool k.calm, .slice Al k.log.length cl, .int .i64 k.commit]
        have gl := HJ.out.1.rb.lt
        obtain ⟨Wa, hWa⟩ : ∃ W, W = wr.alloc (Obj.cells #[.int .i64 k.view, .int .i64 k.normal, .bool k.calm, .slice Al k.log.length cl, .int .i64 k.commit] 24) := ⟨_, rfl⟩
        obtain ⟨gb, hgb⟩ : ∃ g, wr.heap.size = g := ⟨_, rfl⟩
        have HJA := Lib.hid (show RWk Wa base g r lu hv wv (.slice (some ⟨gg, 0, none⟩) 3 cg) (.slice (some ⟨gn, 0, none⟩) 3 cn) ∧ BS base w Wa by rw [hWa]; exact ⟨HJ.out.1.below hba, HJ.out.2.of hba HJ.out.1.base_le⟩)
        rw [← hWa] at hbx hba
        have e8 := cW hba gl d8
        have gla := Nat.lt_of_lt_of_le gl hba.size
        rw [hgb] at hbx
        rw [← hWa, hgb]
        obtain ⟨b0, b1, b2, b3, b4⟩ := cz5 hbx
        have gbl := hbx.lt
        clear hWa hgb hbx hba y0 y1 y2 y3 y4 d8 d9 dg gl hlg HJ
        have hbf := HF.out.1.take_ HC.out.1 HC.out.2
        obtain ⟨co', hco⟩ : ∃ c, (if co < k.commit then k.commit else co) = c := ⟨_, rfl⟩
        rw [hco] at hbf
        have HBF := Lib.hid hbf
        have HCO := Lib.hid hco
        clear hbf hco
        go_upto_if 33 with fail
        go_cut [5] from 34 to 35 (fun cv wx => cv = .int .i64 co' ∧ wx = Wa)
        case first =>
          by_cases hlc : co < k.commit
          · have he := HCO.out
            rw [if_pos hlc] at he
            have HCE := Lib.hid he
            clear he
            go_wp2_with fail
            go_meet
            exact ⟨by rw [HCE.out], rfl⟩
          · have he := HCO.out
            rw [if_neg hlc] at he
            have HCE := Lib.hid he
            clear he
            go_wp2_with fail
            go_meet
            exact ⟨by rw [HCE.out], rfl⟩
        case rest =>
        obtain ⟨rfl, hwc⟩ := hcut
        rw [hwc]
        clear hwc
        go_upto_region 12 with fail
        rcases HF.out.2 with ⟨hat, hm0, hb0⟩ | ⟨i, hi, hat, hgi⟩
        · have hbt : Scu.better k b = true := by
            rw [hb0]
            unfold Scu.better Scu.best0
            simp
            left
            omega
          have hbf := HBF.out
          rw [if_pos hbt] at hbf
          have HF2 := Lib.hid (And.intro hbf (AtF.move (m := m) HC.out.1))
          subst hat
          clear hbf hbt hm0 hb0
          obtain ⟨S, hSd⟩ : ∃ S : World → Prop, S = fun w' => Below Wa.heap.size Wa w' := ⟨_, rfl⟩
          have hS0 : S Wa.drew := by rw [hSd]; exact (Below.refl _ _).drew
          refine wp_region_held (S := S) (by kernel_rfl) ?_
          change wpAnyH _ _ _ _ _ _ _ _ Wa.drew
          refine tkHs [0, 1, 2, 3, 4, 5, 6, 7, 8, 9, 10, 11, 12, 13, 14, 15, 16, 17, 18, 19, 20, 21, 22, 23, 24, 25, 26, 27, 28, 29, 30, 31, 32, 33, 34, 35, 36, 37, 38, 39, 40, 41, 42] (by kernel_rfl) (fun _ _ _ _ _ h => h) hS0 ?_
          iterate 43
            first
            | (refine tkc (v := ?_) rfl (Or.inl ⟨by rfl, ?_⟩) ?_; rotate_left; (intro wv hSw; rw [hSd] at hSw; skip; go_simp; done); (try simp only [Act.put, zp1, zp2, zp3]))
            | (refine tkc (v := ?_) rfl (Or.inl ⟨by rfl, ?_⟩) ?_; rotate_left; (intro wv hSw; rw [hSd] at hSw; skip; go_simp; with_reducible rfl); (try simp only [Act.put, zp1, zp2, zp3]))
            | (refine tkc (v := undef) rfl (Or.inr ⟨by rfl, rfl⟩) ?_; (try simp only [Act.put, zp1, zp2, zp3]))
          refine tkz ?_
          refine wpAnyH_done (by kernel_rfl) ?_ _
          change Exit.then _ _ _ _ Wa.drew
          obtain ⟨Wb, hWb⟩ : ∃ W, W = Wa.drew := ⟨_, rfl⟩
          rw [← hWb]
          have HJ2 := Lib.hid (show RWk Wb base g r lu hv wv (.slice (some ⟨gg, 0, none⟩) 3 cg) (.slice (some ⟨gn, 0, none⟩) 3 cn) ∧ BS base w Wb by rw [hWb]; exact ⟨HJA.out.1.below (Below.refl _ _).drew, HJA.out.2.drew⟩)
          clear hWb hS0 hSd
          go_wp2_with fail
          go_roundw
          case rel => first | exact ⟨j + 1, m + 1, j, co', k, by omega, rfl, rfl, rfl, rfl, by omega, HF2, HJ2⟩ | ((repeat apply Exists.intro); exact ⟨⟨j + 1, m + 1, j, co', k, by omega, rfl, rfl, rfl, rfl, by omega, HF2, HJ2⟩, rfl⟩)
          case measure => first | (simp only [intOf]; omega) | (simp [intOf]; omega)
        · obtain ⟨kss, hks⟩ := HJA.out.1.own.giv
          have hil : i < r.gives.length := by rw [H3.out.2.2.1]; omega
          obtain ⟨gz, lb, -, z1, -, z3, -, hlb⟩ := hks.cells (i := i) hil
          have hbi : r.gives[i] = b := by have := (List.getElem?_eq_getElem hil).symm.trans hgi; simpa using this
          rw [hbi] at z1 hlb
          obtain ⟨⟨Ab, cb, rfl, _, _⟩, _, _⟩ := id hlb
          have ggl := World.block_lt_of_cell? Wa _ z1
          have hi3 : (i : Int) < 3 := by omega
          have hi0 : ¬ (i : Int) < 0 := by omega
          subst hat
          have HGI := Lib.hid (And.intro hi hgi)
          clear hks gz hlb hbi hgi hil
          by_cases hA : b.normal < k.normal
          · have hbf := HBF.out
            rw [if_pos (show Scu.better k b = true by unfold Scu.better; simp [hA])] at hbf
            have HF2 := Lib.hid (And.intro hbf (AtF.move (m := m) HC.out.1))
            clear hbf
            obtain ⟨S, hSd⟩ : ∃ S : World → Prop, S = fun w' => Below Wa.heap.size Wa w' := ⟨_, rfl⟩
            have hS0 : S Wa.drew := by rw [hSd]; exact (Below.refl _ _).drew
            refine wp_region_held (S := S) (by kernel_rfl) ?_
            change wpAnyH _ _ _ _ _ _ _ _ Wa.drew
            refine tkHs [0, 1, 2, 3, 4, 5, 6, 7, 8, 9, 10, 11, 12, 13, 14, 15, 16, 17, 18, 19, 20, 21, 22, 23, 24, 25, 26, 27, 28, 29, 30, 31, 32, 33, 34, 35, 36, 37, 38, 39, 40, 41, 42] (by kernel_rfl) (fun _ _ _ _ _ h => h) hS0 ?_
            iterate 43
              first
              | (refine tkc (v := ?_) rfl (Or.inl ⟨by rfl, ?_⟩) ?_; rotate_left; (intro wv hSw; rw [hSd] at hSw; (have q1 := cW hSw gbl b1; have q3 := cW hSw gbl b3; have q8 := cW hSw gla e8; have q4 := cW hSw ggl z1; have q5 := cW hSw ggl z3); go_simp; done); (try simp only [Act.put, zp1, zp2, zp3]))
              | (refine tkc (v := ?_) rfl (Or.inl ⟨by rfl, ?_⟩) ?_; rotate_left; (intro wv hSw; rw [hSd] at hSw; (have q1 := cW hSw gbl b1; have q3 := cW hSw gbl b3; have q8 := cW hSw gla e8; have q4 := cW hSw ggl z1; have q5 := cW hSw ggl z3); go_simp; with_reducible rfl); (try simp only [Act.put, zp1, zp2, zp3]))
              | (refine tkc (v := undef) rfl (Or.inr ⟨by rfl, rfl⟩) ?_; (try simp only [Act.put, zp1, zp2, zp3]))
            refine tkz ?_
            refine wpAnyH_done (by kernel_rfl) ?_ _
            change Exit.then _ _ _ _ Wa.drew
            obtain ⟨Wb, hWb⟩ : ∃ W, W = Wa.drew := ⟨_, rfl⟩
            rw [← hWb]
            have HJ2 := Lib.hid (show RWk Wb base g r lu hv wv (.slice (some ⟨gg, 0, none⟩) 3 cg) (.slice (some ⟨gn, 0, none⟩) 3 cn) ∧ BS base w Wb by rw [hWb]; exact ⟨HJA.out.1.below (Below.refl _ _).drew, HJA.out.2.drew⟩)
            clear hWb hS0 hSd
            go_wp2_with fail
            go_roundw
            case rel => first | exact ⟨j + 1, m + 1, j, co', k, by omega, rfl, rfl, rfl, rfl, by omega, HF2, HJ2⟩ | ((repeat apply Exists.intro); exact ⟨⟨j + 1, m + 1, j, co', k, by omega, rfl, rfl, rfl, rfl, by omega, HF2, HJ2⟩, rfl⟩)
            case measure => first | (simp only [intOf]; omega) | (simp [intOf]; omega)
          · by_cases hE : k.normal = b.normal
            · have hEb : (k.normal == b.normal) = true := by simpa using hE
              by_cases hL : (b.log.length : Int) < (k.log.length : Int)
              · have hbf := HBF.out
                rw [if_pos (show Scu.better k b = true by unfold Scu.better; simp [hE]; omega)] at hbf
                have HF2 := Lib.hid (And.intro hbf (AtF.move (m := m) HC.out.1))
                clear hbf hE
                obtain ⟨S, hSd⟩ : ∃ S : World → Prop, S = fun w' => Below Wa.heap.size Wa w' := ⟨_, rfl⟩
                have hS0 : S Wa.drew := by rw [hSd]; exact (Below.refl _ _).drew
                refine wp_region_held (S := S) (by kernel_rfl) ?_
                change wpAnyH _ _ _ _ _ _ _ _ Wa.drew
                refine tkHs [0, 1, 2, 3, 4, 5, 6, 7, 8, 9, 10, 11, 12, 13, 14, 15, 16, 17, 18, 19, 20, 21, 22, 23, 24, 25, 26, 27, 28, 29, 30, 31, 32, 33, 34, 35, 36, 37, 38, 39, 40, 41, 42] (by kernel_rfl) (fun _ _ _ _ _ h => h) hS0 ?_
                iterate 43
                  first
                  | (refine tkc (v := ?_) rfl (Or.inl ⟨by rfl, ?_⟩) ?_; rotate_left; (intro wv hSw; rw [hSd] at hSw; (have q1 := cW hSw gbl b1; have q3 := cW hSw gbl b3; have q8 := cW hSw gla e8; have q4 := cW hSw ggl z1; have q5 := cW hSw ggl z3); go_simp; done); (try simp only [Act.put, zp1, zp2, zp3]))
                  | (refine tkc (v := ?_) rfl (Or.inl ⟨by rfl, ?_⟩) ?_; rotate_left; (intro wv hSw; rw [hSd] at hSw; (have q1 := cW hSw gbl b1; have q3 := cW hSw gbl b3; have q8 := cW hSw gla e8; have q4 := cW hSw ggl z1; have q5 := cW hSw ggl z3); go_simp; with_reducible rfl); (try simp only [Act.put, zp1, zp2, zp3]))
                  | (refine tkc (v := undef) rfl (Or.inr ⟨by rfl, rfl⟩) ?_; (try simp only [Act.put, zp1, zp2, zp3]))
                refine tkz ?_
                refine wpAnyH_done (by kernel_rfl) ?_ _
                change Exit.then _ _ _ _ Wa.drew
                obtain ⟨Wb, hWb⟩ : ∃ W, W = Wa.drew := ⟨_, rfl⟩
                rw [← hWb]
                have HJ2 := Lib.hid (show RWk Wb base g r lu hv wv (.slice (some ⟨gg, 0, none⟩) 3 cg) (.slice (some ⟨gn, 0, none⟩) 3 cn) ∧ BS base w Wb by rw [hWb]; exact ⟨HJA.out.1.below (Below.refl _ _).drew, HJA.out.2.drew⟩)
                clear hWb hS0 hSd
                go_wp2_with fail
                go_roundw
                case rel => first | exact ⟨j + 1, m + 1, j, co', k, by omega, rfl, rfl, rfl, rfl, by omega, HF2, HJ2⟩ | ((repeat apply Exists.intro); exact ⟨⟨j + 1, m + 1, j, co', k, by omega, rfl, rfl, rfl, rfl, by omega, HF2, HJ2⟩, rfl⟩)
                case measure => first | (simp only [intOf]; omega) | (simp [intOf]; omega)
              · have hbf := HBF.out
                have hbt : Scu.better k b = false := by unfold Scu.better; simp [hE]; omega
                rw [hbt, if_neg (show ¬ (false = true) by decide)] at hbf
                have HF2 := Lib.hid (And.intro hbf (AtF.stay (m := m) HGI.out))
                clear hbf hbt hE
                obtain ⟨S, hSd⟩ : ∃ S : World → Prop, S = fun w' => Below Wa.heap.size Wa w' := ⟨_, rfl⟩
                have hS0 : S Wa.drew := by rw [hSd]; exact (Below.refl _ _).drew
                refine wp_region_held (S := S) (by kernel_rfl) ?_
                change wpAnyH _ _ _ _ _ _ _ _ Wa.drew
                refine tkHs [0, 1, 2, 3, 4, 5, 6, 7, 8, 9, 10, 11, 12, 13, 14, 15, 16, 17, 18, 19, 20, 21, 22, 23, 24, 25, 26, 27, 28, 29, 30, 31, 32, 33, 34, 35, 36, 37, 38, 39, 40, 41, 42] (by kernel_rfl) (fun _ _ _ _ _ h => h) hS0 ?_
                iterate 43
                  first
                  | (refine tkc (v := ?_) rfl (Or.inl ⟨by rfl, ?_⟩) ?_; rotate_left; (intro wv hSw; rw [hSd] at hSw; (have q1 := cW hSw gbl b1; have q3 := cW hSw gbl b3; have q8 := cW hSw gla e8; have q4 := cW hSw ggl z1; have q5 := cW hSw ggl z3); go_simp; done); (try simp only [Act.put, zp1, zp2, zp3]))
                  | (refine tkc (v := ?_) rfl (Or.inl ⟨by rfl, ?_⟩) ?_; rotate_left; (intro wv hSw; rw [hSd] at hSw; (have q1 := cW hSw gbl b1; have q3 := cW hSw gbl b3; have q8 := cW hSw gla e8; have q4 := cW hSw ggl z1; have q5 := cW hSw ggl z3); go_simp; with_reducible rfl); (try simp only [Act.put, zp1, zp2, zp3]))
                  | (refine tkc (v := undef) rfl (Or.inr ⟨by rfl, rfl⟩) ?_; (try simp only [Act.put, zp1, zp2, zp3]))
                refine tkz ?_
                refine wpAnyH_done (by kernel_rfl) ?_ _
                change Exit.then _ _ _ _ Wa.drew
                obtain ⟨Wb, hWb⟩ : ∃ W, W = Wa.drew := ⟨_, rfl⟩
                rw [← hWb]
                have HJ2 := Lib.hid (show RWk Wb base g r lu hv wv (.slice (some ⟨gg, 0, none⟩) 3 cg) (.slice (some ⟨gn, 0, none⟩) 3 cn) ∧ BS base w Wb by rw [hWb]; exact ⟨HJA.out.1.below (Below.refl _ _).drew, HJA.out.2.drew⟩)
                clear hWb hS0 hSd
                go_wp2_with fail
                go_roundw
                case rel => first | exact ⟨j + 1, m + 1, (i : Int), co', b, by omega, rfl, rfl, rfl, rfl, by omega, HF2, HJ2⟩ | ((repeat apply Exists.intro); exact ⟨⟨j + 1, m + 1, (i : Int), co', b, by omega, rfl, rfl, rfl, rfl, by omega, HF2, HJ2⟩, rfl⟩)
                case measure => first | (simp only [intOf]; omega) | (simp [intOf]; omega)
            · have hEb : (k.normal == b.normal) = false := by simpa using hE
              have hbf := HBF.out
              have hbt : Scu.better k b = false := by unfold Scu.better; simp [hE, hA]
              rw [hbt, if_neg (show ¬ (false = true) by decide)] at hbf
              have HF2 := Lib.hid (And.intro hbf (AtF.stay (m := m) HGI.out))
              clear hbf hbt hE
              obtain ⟨S, hSd⟩ : ∃ S : World → Prop, S = fun w' => Below Wa.heap.size Wa w' := ⟨_, rfl⟩
              have hS0 : S Wa.drew := by rw [hSd]; exact (Below.refl _ _).drew
              refine wp_region_held (S := S) (by kernel_rfl) ?_
              change wpAnyH _ _ _ _ _ _ _ _ Wa.drew
              refine tkHs [0, 1, 2, 3, 4, 5, 6, 7, 8, 9, 10, 11, 12, 13, 14, 15, 16, 17, 18, 19, 20, 21, 22, 23, 24, 25, 26, 27, 28, 29, 30, 31, 32, 33, 34, 35, 36, 37, 38, 39, 40, 41, 42] (by kernel_rfl) (fun _ _ _ _ _ h => h) hS0 ?_
              iterate 43
                first
                | (refine tkc (v := ?_) rfl (Or.inl ⟨by rfl, ?_⟩) ?_; rotate_left; (intro wv hSw; rw [hSd] at hSw; (have q1 := cW hSw gbl b1; have q3 := cW hSw gbl b3; have q8 := cW hSw gla e8; have q4 := cW hSw ggl z1; have q5 := cW hSw ggl z3); go_simp; done); (try simp only [Act.put, zp1, zp2, zp3]))
                | (refine tkc (v := ?_) rfl (Or.inl ⟨by rfl, ?_⟩) ?_; rotate_left; (intro wv hSw; rw [hSd] at hSw; (have q1 := cW hSw gbl b1; have q3 := cW hSw gbl b3; have q8 := cW hSw gla e8; have q4 := cW hSw ggl z1; have q5 := cW hSw ggl z3); go_simp; with_reducible rfl); (try simp only [Act.put, zp1, zp2, zp3]))
                | (refine tkc (v := undef) rfl (Or.inr ⟨by rfl, rfl⟩) ?_; (try simp only [Act.put, zp1, zp2, zp3]))
              refine tkz ?_
              refine wpAnyH_done (by kernel_rfl) ?_ _
              change Exit.then _ _ _ _ Wa.drew
              obtain ⟨Wb, hWb⟩ : ∃ W, W = Wa.drew := ⟨_, rfl⟩
              rw [← hWb]
              have HJ2 := Lib.hid (show RWk Wb base g r lu hv wv (.slice (some ⟨gg, 0, none⟩) 3 cg) (.slice (some ⟨gn, 0, none⟩) 3 cn) ∧ BS base w Wb by rw [hWb]; exact ⟨HJA.out.1.below (Below.refl _ _).drew, HJA.out.2.drew⟩)
              clear hWb hS0 hSd
              go_wp2_with fail
              go_roundw
              case rel => first | exact ⟨j + 1, m + 1, (i : Int), co', b, by omega, rfl, rfl, rfl, rfl, by omega, HF2, HJ2⟩ | ((repeat apply Exists.intro); exact ⟨⟨j + 1, m + 1, (i : Int), co', b, by omega, rfl, rfl, rfl, rfl, by omega, HF2, HJ2⟩, rfl⟩)
              case measure => first | (simp only [intOf]; omega) | (simp [intOf]; omega)
    · have hj3 : j = 3 := by omega
      subst hj3
      have hnl : ¬ ((3 : Nat) : Int) < 3 := by omega
      obtain ⟨f1, f2, f3⟩ := HF.out.1
      have hl3 : r.given.length = 3 := H3.out.2.2.2.1
      have hz3 : (r.gives.zip r.given).length = 3 := by rw [List.length_zip, H3.out.2.2.1, hl3]; rfl
      rw [List.take_of_length_le (by omega)] at f1
      rw [List.take_of_length_le (by omega)] at f2 f3
      have hme0 := H3.out.2.2.2.2.1
      have hme3 := H3.out.2.2.2.2.2
      have hmn : r.me.toNat < 3 := by omega
      obtain ⟨_, _, _, _, hcn⟩ := ones3' HJ.out.1.own.own.given H3.out.2.2.2.1
      obtain ⟨c, hc⟩ : ∃ c, r.given[r.me.toNat]? = some c := ⟨_, List.getElem?_eq_getElem (by rw [hl3]; exact hmn)⟩
      have dg : wr.cell? ⟨gn, r.me.toNat, none⟩ = some (.bool c) := by rw [hcn _ hmn, List.getElem?_map, hc]; rfl
      have hgd : r.given.getD r.me.toNat false = c := by rw [List.getD_eq_getElem?_getD, hc]; rfl
      obtain ⟨d0, d1, -, -, -, -, -, -, d8, d9⟩ := cz10 HJ.out.1.rb
      have gl := HJ.out.1.rb.lt
      have gnl := World.block_lt_of_cell? wr _ dg
      have HFF := Lib.hid (And.intro f1 (And.intro f2 f3))
      have HGD := Lib.hid hgd
      clear hcn hc f1 f2 f3 hgd hz3 hl3
      go_wp2_with fail
      by_cases hm2 : (m : Int) < 2
      · have hbeg : Scu.begun r = (r, []) := by
          unfold Scu.begun
          split
          · rfl
          · rw [if_pos (by have := HFF.out.1; omega)]
        rw [HB.out] at hbeg
        have HBG := Lib.hid hbeg
        clear hbeg
        obtain ⟨S, hSd⟩ : ∃ S : World → Prop, S = fun w' => Below wr.heap.size wr w' := ⟨_, rfl⟩
        have hS0 : S wr.drew := by rw [hSd]; exact (Below.refl _ _).drew
        refine wp_region_held (S := S) (by kernel_rfl) ?_
        change wpAnyH _ _ _ _ _ _ _ _ wr.drew
        refine tkHs [0, 1, 2, 3, 4, 5, 6, 7, 8, 9, 10, 11, 12, 13, 14] (by kernel_rfl) (fun _ _ _ _ _ h => h) hS0 ?_
        iterate 15
          first
          | (refine tkc (v := ?_) rfl (Or.inl ⟨by rfl, ?_⟩) ?_; rotate_left; (intro wv hSw; rw [hSd] at hSw; skip; go_simp; done); (try simp only [Act.put, zp1, zp2, zp3]))
          | (refine tkc (v := ?_) rfl (Or.inl ⟨by rfl, ?_⟩) ?_; rotate_left; (intro wv hSw; rw [hSd] at hSw; skip; go_simp; with_reducible rfl); (try simp only [Act.put, zp1, zp2, zp3]))
          | (refine tkc (v := undef) rfl (Or.inr ⟨by rfl, rfl⟩) ?_; (try simp only [Act.put, zp1, zp2, zp3]))
        refine tkz ?_
        refine wpAnyH_done (by kernel_rfl) ?_ _
        change Exit.then _ _ _ _ wr.drew
        obtain ⟨Wb, hWb⟩ : ∃ W, W = wr.drew := ⟨_, rfl⟩
        rw [← hWb]
        have HJ2 := Lib.hid (show RWk Wb base g r lu hv wv (.slice (some ⟨gg, 0, none⟩) 3 cg) (.slice (some ⟨gn, 0, none⟩) 3 cn) ∧ BS base w Wb by rw [hWb]; exact ⟨HJ.out.1.below (Below.refl _ _).drew, HJ.out.2.drew⟩)
        clear hWb hS0 hSd
        go_wp2
        go_ret
        obtain ⟨rfl, rfl⟩ := Prod.mk.inj HBG.out
        first | exact ⟨⟨_, rfl, _, OwnMs.nil_⟩, HJ2.out.1.e, HJ2.out.2⟩ | exact ⟨⟨_, _, rfl, OwnMs.nil_⟩, HJ2.out.1.e, HJ2.out.2⟩
      · cases c with
        | false =>
          have hbeg : Scu.begun r = (r, []) := by unfold Scu.begun; rw [if_pos HGD.out]
          rw [HB.out] at hbeg
          have HBG := Lib.hid hbeg
          clear hbeg
          obtain ⟨S, hSd⟩ : ∃ S : World → Prop, S = fun w' => Below wr.heap.size wr w' := ⟨_, rfl⟩
          have hS0 : S wr.drew := by rw [hSd]; exact (Below.refl _ _).drew
          refine wp_region_held (S := S) (by kernel_rfl) ?_
          change wpAnyH _ _ _ _ _ _ _ _ wr.drew
          refine tkHs [0, 1, 2, 3, 4, 5, 6, 7, 8, 9, 10, 11, 12, 13, 14] (by kernel_rfl) (fun _ _ _ _ _ h => h) hS0 ?_
          iterate 15
            first
            | (refine tkc (v := ?_) rfl (Or.inl ⟨by rfl, ?_⟩) ?_; rotate_left; (intro wv hSw; rw [hSd] at hSw; (have q0 := cW hSw gl d0; have q9 := cW hSw gl d9; have qg := cW hSw gnl dg); go_simp; done); (try simp only [Act.put, zp1, zp2, zp3]))
            | (refine tkc (v := ?_) rfl (Or.inl ⟨by rfl, ?_⟩) ?_; rotate_left; (intro wv hSw; rw [hSd] at hSw; (have q0 := cW hSw gl d0; have q9 := cW hSw gl d9; have qg := cW hSw gnl dg); go_simp; with_reducible rfl); (try simp only [Act.put, zp1, zp2, zp3]))
            | (refine tkc (v := undef) rfl (Or.inr ⟨by rfl, rfl⟩) ?_; (try simp only [Act.put, zp1, zp2, zp3]))
          refine tkz ?_
          refine wpAnyH_done (by kernel_rfl) ?_ _
          change Exit.then _ _ _ _ wr.drew
          obtain ⟨Wb, hWb⟩ : ∃ W, W = wr.drew := ⟨_, rfl⟩
          rw [← hWb]
          have HJ2 := Lib.hid (show RWk Wb base g r lu hv wv (.slice (some ⟨gg, 0, none⟩) 3 cg) (.slice (some ⟨gn, 0, none⟩) 3 cn) ∧ BS base w Wb by rw [hWb]; exact ⟨HJ.out.1.below (Below.refl _ _).drew, HJ.out.2.drew⟩)
          clear hWb hS0 hSd
          go_wp2
          go_ret
          obtain ⟨rfl, rfl⟩ := Prod.mk.inj HBG.out
          first | exact ⟨⟨_, rfl, _, OwnMs.nil_⟩, HJ2.out.1.e, HJ2.out.2⟩ | exact ⟨⟨_, _, rfl, OwnMs.nil_⟩, HJ2.out.1.e, HJ2.out.2⟩
        | true =>
          obtain ⟨com, hcom⟩ : ∃ c, (if (b.log.length : Int) < co then (b.log.length : Int) else co) = c := ⟨_, rfl⟩
          have hbeg : Scu.begun r = (Scu.fresh { r with kept := ⟨r.kept.view, r.kept.view, true, b.log, com⟩ }, Scu.leadOn (Scu.fresh { r with kept := ⟨r.kept.view, r.kept.view, true, b.log, com⟩ })) := by
            have hmn : com = min (Scu.maxCommit (r.gives.zip r.given)) b.log.length := by rw [← hcom, ← HFF.out.2.1]; split <;> omega
            unfold Scu.begun
            rw [if_neg (by rw [HGD.out]; decide), if_neg (by have := HFF.out.1; omega), hmn, HFF.out.2.2]
          rw [HB.out] at hbeg
          have HBG := Lib.hid (Prod.mk.inj hbeg)
          have HCOM := Lib.hid hcom
          clear hbeg hcom
          obtain ⟨i, hi, hat, hgi⟩ : ∃ i : Nat, i < 3 ∧ at_ = i ∧ r.gives[i]? = some b := by
            rcases HF.out.2 with ⟨_, h0, _⟩ | h
            · omega
            · exact h
          subst hat
          obtain ⟨S, hSd⟩ : ∃ S : World → Prop, S = fun w' => Below wr.heap.size wr w' := ⟨_, rfl⟩
          have hS0 : S wr.drew := by rw [hSd]; exact (Below.refl _ _).drew
          refine wp_region_held (S := S) (by kernel_rfl) ?_
          change wpAnyH _ _ _ _ _ _ _ _ wr.drew
          refine tkHs [0, 1, 2, 3, 4, 5, 6, 7, 8, 9, 10, 11, 12, 13, 14] (by kernel_rfl) (fun _ _ _ _ _ h => h) hS0 ?_
          iterate 15
            first
            | (refine tkc (v := ?_) rfl (Or.inl ⟨by rfl, ?_⟩) ?_; rotate_left; (intro wv hSw; rw [hSd] at hSw; (have q0 := cW hSw gl d0; have q9 := cW hSw gl d9; have qg := cW hSw gnl dg); go_simp; done); (try simp only [Act.put, zp1, zp2, zp3]))
            | (refine tkc (v := ?_) rfl (Or.inl ⟨by rfl, ?_⟩) ?_; rotate_left; (intro wv hSw; rw [hSd] at hSw; (have q0 := cW hSw gl d0; have q9 := cW hSw gl d9; have qg := cW hSw gnl dg); go_simp; with_reducible rfl); (try simp only [Act.put, zp1, zp2, zp3]))
            | (refine tkc (v := undef) rfl (Or.inr ⟨by rfl, rfl⟩) ?_; (try simp only [Act.put, zp1, zp2, zp3]))
          refine tkz ?_
          refine wpAnyH_done (by kernel_rfl) ?_ _
          change Exit.then _ _ _ _ wr.drew
          obtain ⟨Wb, hWb⟩ : ∃ W, W = wr.drew := ⟨_, rfl⟩
          rw [← hWb]
          have HJ2 := Lib.hid (show RWk Wb base g r lu hv wv (.slice (some ⟨gg, 0, none⟩) 3 cg) (.slice (some ⟨gn, 0, none⟩) 3 cn) ∧ BS base w Wb by rw [hWb]; exact ⟨HJ.out.1.below (Below.refl _ _).drew, HJ.out.2.drew⟩)
          clear hWb hS0 hSd
          obtain ⟨kss, hks⟩ := HJ2.out.1.own.giv
          have hil : i < r.gives.length := by rw [H3.out.2.2.1]; exact hi
          obtain ⟨gz, lb, -, -, -, z3, -, hlb⟩ := hks.cells (i := i) hil
          have hbi : r.gives[i] = b := by have := (List.getElem?_eq_getElem hil).symm.trans hgi; simpa using this
          rw [hbi] at hlb
          obtain ⟨⟨Ab, cb, rfl, _, hrd⟩, hl, he⟩ := id hlb
          have hl' := hl
          unfold R47 at hl'
          have HSR := Lib.hid (src_of_rd (size := 1) (m := b.log.length) (c := cb) hrd (by simp) (fun e => by subst e; have := rd_none hrd; simpa using this))
          have HLG := Lib.hid (And.intro hl he)
          have hi3 : (i : Int) < 3 := by omega
          obtain ⟨-, -, -, -, -, -, -, -, e8, -⟩ := cz10 HJ2.out.1.rb
          clear hks gz hlb hbi hgi hil hrd hl he d0 d1 d8 d9 dg
          go_wp2_with (at_builtin; refine list_app _ rfl (.const (.slice none 0 0)) (.tmp 102) 22 rfl el_strs Wb.heap.size _ 0 [] rfl (World.ownsRow_nil _ _ _ _) (.slice Ab b.log.length cb) b.log.length (b.log.map Value.string) rfl HSR.out (one_strs _) (by unfold maxLen; omega) (by omega) (Nat.le_refl _) ?_)
          intro v4 x4 h4 hg4 _
          have hb4 : Below Wb.heap.size Wb x4 := (Below.refl Wb.heap.size Wb).grown hg4 (Nat.le_refl _) (fun q hq => by cases hq)
          have h4 : x4.ownsRow Wb.heap.size 9 1 v4 b.log.length (b.log.map Value.string) := by simpa only [Nat.zero_add, List.nil_append] using h4
          obtain ⟨Au, cu, rfl, _, _, _, _⟩ := rd_own h4
          have HW4 := Lib.hid (show RWk x4 base g r lu hv wv (.slice (some ⟨gg, 0, none⟩) 3 cg) (.slice (some ⟨gn, 0, none⟩) 3 cn) ∧ BS base w x4 ∧ OwnStrs x4 base (.slice Au b.log.length cu) b.log from
            ⟨HJ2.out.1.below hb4, HJ2.out.2.of hb4 HJ2.out.1.base_le, OwnStrs.base_ ⟨h4, HLG.out.1, HLG.out.2⟩ HJ2.out.1.base_le⟩)
          clear h4 hg4 hb4 z3 e8 HSR HJ2
          go_upto_if 107 with fail
          go_cut [5] from 108 to 109 (fun cv wx => cv = .int .i64 com ∧ wx = x4)
          case first =>
            by_cases hlc : (b.log.length : Int) < co
            · have he := HCOM.out
              rw [if_pos hlc] at he
              have HCE := Lib.hid he
              clear he
              go_wp2_with fail
              go_meet
              exact ⟨by rw [HCE.out], rfl⟩
            · have he := HCOM.out
              rw [if_neg hlc] at he
              have HCE := Lib.hid he
              clear he
              go_wp2_with fail
              go_meet
              exact ⟨by rw [HCE.out], rfl⟩
          case rest =>
          obtain ⟨rfl, hwc⟩ := hcut
          rw [hwc]
          clear hwc
          go_upto_region 19 with fail
          obtain ⟨-, x1, -, -, -, -, -, -, -, -⟩ := cz10 HW4.out.1.rb
          obtain ⟨S, hSd⟩ : ∃ S : World → Prop, S = fun w' => w'.cell? ⟨g, 1, none⟩ = some (.int .i64 r.kept.view) := ⟨_, rfl⟩
          have hS0 : S x4.drew := by rw [hSd]; exact x1
          refine wp_region_held (S := S) (by kernel_rfl) ?_
          change wpAnyH _ _ _ _ _ _ _ _ x4.drew
          refine tkHs [0, 1, 2, 3, 4, 5, 6, 7, 8, 9, 10, 11, 12, 13, 14, 15] (by kernel_rfl) (fun _ _ _ _ _ h => h) hS0 ?_
          iterate 16
            refine tkc (v := ?_) rfl (Or.inl ⟨by rfl, ?_⟩) ?_
            rotate_left
            · (intro wv hSw; rw [hSd] at hSw; go_simp; (try with_reducible rfl))
            (try simp only [Act.put, zp1, zp2, zp3])
          refine tkz ?_
          refine alH 16 (by kernel_rfl) (wpOp_step (o := _) rfl fun KB hKB => ?_)
          rw [if_pos (by rfl)]
          refine wp_store_mid 24 (.tmp 125) (.tmp 123) rfl g 1 #[.int .i64 r.kept.view, .int .i64 r.kept.view, .bool true, .slice Au b.log.length cu, .int .i64 com] rfl rfl (there_subr (n := 10) (blk_thr HW4.out.1.rb) 1 5 (by decide)) (by kernel_rfl) one_kept ?_
          obtain ⟨hk5, hb5⟩ := (HW4.out.1.below (Below.refl _ _).drew).set_kept (k := ⟨r.kept.view, r.kept.view, true, b.log, com⟩) (HW4.out.2.2.below (Below.refl _ _).drew)
          obtain ⟨W5, hW5⟩ : ∃ W, W = x4.drew.setCells g 1 [.int .i64 r.kept.view, .int .i64 r.kept.view, .bool true, .slice Au b.log.length cu, .int .i64 com] := ⟨_, rfl⟩
          change RWk (x4.drew.setCells g 1 [.int .i64 r.kept.view, .int .i64 r.kept.view, .bool true, .slice Au b.log.length cu, .int .i64 com]) _ _ _ _ _ _ _ _ at hk5
          change Below base _ (x4.drew.setCells g 1 [.int .i64 r.kept.view, .int .i64 r.kept.view, .bool true, .slice Au b.log.length cu, .int .i64 com]) at hb5
          change KB _ (x4.drew.setCells g 1 [.int .i64 r.kept.view, .int .i64 r.kept.view, .bool true, .slice Au b.log.length cu, .int .i64 com])
          have hs5 : Same [9, 31] 0 x4.drew (x4.drew.setCells g 1 [.int .i64 r.kept.view, .int .i64 r.kept.view, .bool true, .slice Au b.log.length cu, .int .i64 com]) := Same.sets _ 1 _ _ (HW4.out.1.below (Below.refl _ _).drew).rb (by decide)
          rw [← hW5] at hk5 hb5 hs5 ⊢
          have HK5 := Lib.hid (And.intro hk5 (HW4.out.2.1.drew.trans ⟨hb5, hs5⟩))
          have hS1 : S W5 := by rw [hSd]; exact (cz2 hk5.rb).2
          refine hKB _ _ ⟨hS1, wpAnyH_done (by kernel_rfl) ?_ _⟩
          (try simp only [Act.put, List.getElem_toArray, List.getElem_cons_succ, List.getElem_cons_zero, zp1, zp2, zp3])
          change Exit.then _ _ _ _ W5
          clear hW5 hk5 hb5 hs5 hS0 hS1 hSd hKB x1
          go_wp2_with fail
          refine (forgotten_w HK5.out.1).mono ?_; rintro e w6 ⟨rfl, ⟨lu6, hv6, wv6, gv6, nv6, hk6⟩, h6⟩
          obtain ⟨E0, m0, y0, E1, y1, E2, y2, E3, y3, E4, y4, rfl, rfl, rfl, rfl, rfl⟩ := hk6.own.is.forms
          obtain ⟨r0, r1, r2, r3, r4, r5, r6, r7, r8, r9⟩ := cz10 hk6.rb
          have HK6 := Lib.hid (And.intro hk6 (HK5.out.2.trans h6))
          clear hk6 h6
          go_wp2_with fail
          refine (ledBy_a E0 m0 y0 E1 y1 E2 y2 E3 y3 E4 y4 (Scu.fresh { r with kept := ⟨r.kept.view, r.kept.view, true, b.log, com⟩ }) w6 0 (Nat.zero_le _) HK6.out.1.own.is.log ms HBG.out.2.symm).mono ?_; rintro e w7 ⟨⟨Ao, co7, css7, rfl, ho⟩, h7⟩
          have HFIN := Lib.hid (And.intro (OwnMs.base_ ho HK6.out.1.base_le) (And.intro (HK6.out.1.below h7) (HK6.out.2.of h7 HK6.out.1.base_le)))
          clear ho h7
          go_wp2
          go_ret
          rw [HBG.out.1]
          first | exact ⟨⟨_, rfl, _, HFIN.out.1⟩, HFIN.out.2.1.e, HFIN.out.2.2⟩ | exact ⟨⟨_, _, rfl, HFIN.out.1⟩, HFIN.out.2.1.e, HFIN.out.2.2⟩
end Go.Proofs.Ytlaibljdlpmbfaa
/- Words and walks: ref.heard: what it holds; its first statements. -/
namespace Go.Proofs.Ytlaibljdlpmbfaa
set_option linter.unusedVariables false
set_option linter.unusedSimpArgs false
open Go.RowKit
set_option maxHeartbeats 8000000
set_option maxRecDepth 100000
/- a region that only reads: $1 the numbers, $2 how many, $3 more facts, $4 the world, $5 the world behind it; HS says what holds -/
/- a region that ends in a store, t: up to the store ($1 numbers, $2 how many, $3 more facts, $4 the world, $5 the store's number) -/
/- as QR, but the world keeps its written form $4.drew -/
/- the message's log is taken over into new memory; $1 its slot, $2 the world: v4, x4; HCL: what is new -/
/- ahead of who wants and who gives: a, what comes of a newer view; W0: the world, HS -/
/- the replica's own gift is put: $1 the world, $2 the next region, $3 $4 the store's address and value, $5 the replica; HN, HN2: what holds behind it -/
/- given is set: $1 whose, $2 that it is below 3, $3 the world, $4 more, $5 the replica; HS5 -/
/- begun, and what it says appended to am: $1 $2 the slots, $3 the replica; HS, H32, HNG hold, HFI: what heard comes to -/
structure HrS (w W : World) (base g gm : Nat) (r : Scu.Replica) (lu hv wv gv nv : Value) (m : Scu.Message) (A : Option Addr) (c : Nat) (ov : Value) (ms : List Scu.Message) (css : List (List Value)) : Prop where
  rw_ : RWk W base g r lu hv wv gv nv
  mb : Blk W gm 31 #[.int .i64 m.kind, .int .i64 m.from_, .int .i64 m.tq, .int .i64 m.view, .int .i64 m.normal, .int .i64 m.commit, .int .i64 m.n, .slice A m.log.length c]
  ml : LowStrs W base (.slice A m.log.length c) m.log
  out : OwnMs W base ov ms css
  low : Below base w W
section
variable {w W W' : World} {base g gm : Nat} {r r' : Scu.Replica} {lu hv wv gv nv lu' hv' wv' gv' nv' : Value} {m : Scu.Message} {A : Option Addr} {c : Nat} {ov : Value} {ms : List Scu.Message} {css : List (List Value)}
theorem HrS.below (h : HrS w W base g gm r lu hv wv gv nv m A c ov ms css) (hb : Below W.heap.size W W') : HrS w W' base g gm r lu hv wv gv nv m A c ov ms css :=
  ⟨h.rw_.below hb, h.mb.same hb, h.ml.keep (hb.mono h.rw_.base_le), h.out.below hb, h.low.trans (hb.mono h.rw_.base_le)⟩
theorem HrS.upd (h : HrS w W base g gm r lu hv wv gv nv m A c ov ms css) (hr : RWk W' base g r' lu' hv' wv' gv' nv') (hs : Same [9, 31] 0 W W') (hb : Below base W W') : HrS w W' base g gm r' lu' hv' wv' gv' nv' m A c ov ms css :=
  ⟨hr, blk_keep h.mb hs (by simp), h.ml.keep hb, h.out.same (hs.mono (by simp) (Nat.le_refl _)), h.low.trans hb⟩
theorem HrS.forms (h : HrS w W base g gm r lu hv wv gv nv m A c ov ms css) (h3 : Rep3 r) : ∃ E0 m0 a c1 b c2 d c3 e c4 Ao co, lu = .slice E0 r.kept.log.length m0 ∧ hv = .slice (some ⟨a, 0, none⟩) 3 c1 ∧ wv = .slice (some ⟨b, 0, none⟩) 3 c2 ∧ gv = .slice (some ⟨d, 0, none⟩) 3 c3 ∧ nv = .slice (some ⟨e, 0, none⟩) 3 c4 ∧ ov = .slice Ao ms.length co := by
  obtain ⟨a, c1, rfl⟩ := ones3f h.rw_.own.own.have_ h3.1
  obtain ⟨b, c2, rfl⟩ := ones3f h.rw_.own.own.wants h3.2.1
  obtain ⟨e, c4, rfl⟩ := ones3f h.rw_.own.own.given h3.2.2.2.1
  obtain ⟨kss, hks⟩ := h.rw_.own.giv
  obtain ⟨d, c3, rfl⟩ : ∃ gg cg, gv = .slice (some ⟨gg, 0, none⟩) 3 cg := by
    have hx := hks.row
    rw [h3.2.2.1] at hx
    obtain ⟨_, ⟨_, h0⟩ | ⟨g', cap, cur, e', _⟩⟩ := hx
    · cases h0
    · exact ⟨g', cap, e'⟩
  obtain ⟨⟨E0, m0, rfl, _, _⟩, _, _⟩ := h.rw_.own.own.log.is
  obtain ⟨Ao, co, rfl⟩ := h.out.form
  exact ⟨_, _, _, _, _, _, _, _, _, _, _, _, rfl, rfl, rfl, rfl, rfl, rfl⟩
end
theorem set_same {α : Type} {l : List α} {n : Nat} {x : α} (h : l[n]? = some x) : l.set n x = l := by
  obtain ⟨hn, rfl⟩ := List.getElem?_eq_some_iff.1 h
  exact List.set_getElem_self hn
theorem msg_src {w : World} {B : Nat} {A : Option Addr} {c : Nat} {xs : List Scu.Str} (h : IsStrs w B (.slice A xs.length c) xs) (n : Nat) : Src1 (w.drewN n) 1 (.slice A xs.length c) xs.length (xs.map Value.string) := by
  obtain ⟨⟨A', c', e, _, hrd⟩, _, _⟩ := h
  cases e
  exact src_of_rd (hrd.drewN n) (by simp) (fun e => by subst e; have := rd_none hrd; simpa using this)
theorem forgotten_s {w W : World} {base g gm : Nat} {r : Scu.Replica} {lu hv wv gv nv : Value} {m : Scu.Message} {A : Option Addr} {c : Nat} {ov : Value} {ms : List Scu.Message} {css : List (List Value)} (h : HrS w W base g gm r lu hv wv gv nv m A c ov ms css) :
    Calls Try.prog 36 #[.pointer (some ⟨g, 0, none⟩)] W fun e w' => e = .returned (.tuple #[]) ∧ ∃ lu hv wv gv nv, HrS w w' base g gm (Scu.fresh r) lu hv wv gv nv m A c ov ms css := by
  refine (forgotten_c g _ _ _ _ _ _ _ _ _ _ W h.rw_.rb).mono ?_
  rintro e w' ⟨rfl, ⟨hv', wv', gv', nv', hB2, _, _, _, _, hF⟩, hsm, hbl⟩
  obtain ⟨o1, o2, o3, o4, o5⟩ := forg_own hF h.rw_.base_le
  exact ⟨rfl, _, _, _, _, _, h.upd ⟨hB2, ⟨⟨h.rw_.own.own.log.same (hsm.mono (by simp) (Nat.le_refl _)), o1, o2, o4, o5⟩, _, o3⟩, h.rw_.lr⟩ (hsm.mono (by simp) (Nat.le_refl _)) (hbl base h.rw_.lr)⟩
/-- What the reference keeps of a message that leads. -/
def lead1 (r : Scu.Replica) (m : Scu.Message) : Scu.Replica :=
  if r.kept.view < m.view ∨ r.kept.calm = false then Scu.fresh { r with kept := ⟨m.view, m.view, true, m.log, if (m.log.length : Int) < r.kept.commit then (m.log.length : Int) else r.kept.commit⟩ }
  else if r.kept.log.length < m.log.length then { r with kept := { r.kept with log := m.log } } else r
theorem lead1_eq (r : Scu.Replica) (m : Scu.Message) (hc : m.commit ≤ m.log.length) : Scu.hearLead r m =
    ({ lead1 r m with kept := { (lead1 r m).kept with commit := max (lead1 r m).kept.commit (min m.commit (lead1 r m).kept.log.length) } },
      [{ Scu.msg0 with kind := 2, from_ := r.me, tq := m.from_, view := (lead1 r m).kept.view, n := (lead1 r m).kept.log.length }]) := by
  unfold Scu.hearLead lead1
  by_cases h : r.kept.view < m.view ∨ r.kept.calm = false
  · simp only [if_pos h, Scu.fresh]
    have e : max (max m.commit (min r.kept.commit (m.log.length : Int))) (min m.commit (m.log.length : Int)) = max (if (m.log.length : Int) < r.kept.commit then (m.log.length : Int) else r.kept.commit) (min m.commit (m.log.length : Int)) := by
      split <;> omega
    rw [e]
  · simp only [if_neg h]
theorem lead1_me (r : Scu.Replica) (m : Scu.Message) : (lead1 r m).me = r.me := by
  unfold lead1
  split
  · rfl
  · split <;> rfl
theorem lead1_three {r : Scu.Replica} (m : Scu.Message) (h : Rep3 r) : Rep3 (lead1 r m) := by
  unfold lead1
  split
  · exact ⟨rfl, rfl, rfl, rfl, h.2.2.2.2.1, h.2.2.2.2.2⟩
  · split
    · exact h
    · exact h
end Go.Proofs.Ytlaibljdlpmbfaa

/- Part 14: words and walks under the law 'LeadersLead'. -/
import Derived.Test.YtfpiembhlgcelaaDoorLed11
import Derived.StillTailTactics
import Derived.BigRegion
set_option linter.unusedVariables false
set_option linter.unusedSimpArgs false
/- Walks: work.take, its first statement. -/
namespace Go.Proofs.YtfpiembhlgcelaaDoor
open Go.RowKit
set_option maxHeartbeats 2000000
set_option maxRecDepth 100000

def Scu.best0 : Scu.Kept := { Scu.kept0 with normal := -1 }
structure BegI (w : World) (base gw gr gb : Nat) (r : Scu.Replica) (lu hv wv : Value) (gg cg gn cn : Nat) (ov : Value) (ms : List Scu.Message) (css : List (List Value)) (b : Scu.Kept) (Ab : Option Addr) (cb : Nat) (wr : World) : Prop where
  work : Work wr base gw gr r lu hv wv (.slice (some ⟨gg, 0, none⟩) 3 cg) (.slice (some ⟨gn, 0, none⟩) 3 cn) ov ms css
  low : Below base w wr
  box : Blk wr gb 64 #[.int .i64 b.view, .int .i64 b.normal, .bool b.calm, .slice Ab b.log.length cb, .int .i64 b.commit]
  log : IsStrs wr 0 (.slice Ab b.log.length cb) b.log
/-- What the loop has found in what the first j gave. -/
def BegF (r : Scu.Replica) (j m : Nat) (co : Int) (b : Scu.Kept) : Prop := m = (r.given.take j).countP id ∧ co = Scu.maxCommit ((r.gives.zip r.given).take j) ∧ b = Scu.bestOf ((r.gives.zip r.given).take j)
theorem BegI.below {w wr w' : World} {base gw gr gb : Nat} {r : Scu.Replica} {lu hv wv : Value} {gg cg gn cn : Nat} {ov : Value} {ms : List Scu.Message} {css : List (List Value)} {b : Scu.Kept} {Ab : Option Addr} {cb : Nat}
    (h : BegI w base gw gr gb r lu hv wv gg cg gn cn ov ms css b Ab cb wr) (hb : Below wr.heap.size wr w') (hs : base ≤ wr.heap.size) : BegI w base gw gr gb r lu hv wv gg cg gn cn ov ms css b Ab cb w' :=
  ⟨h.work.below hb, h.low.trans (hb.mono hs), h.box.same hb, h.log.below hb⟩
theorem zip_take {r : Scu.Replica} {j : Nat} {g : Scu.Kept} {c : Bool} (hg : r.gives[j]? = some g) (hc : r.given[j]? = some c) : (r.gives.zip r.given).take (j + 1) = (r.gives.zip r.given).take j ++ [(g, c)] ∧ r.given.take (j + 1) = r.given.take j ++ [c] := by
  constructor
  · have hz : (r.gives.zip r.given)[j]? = some (g, c) := by rw [List.getElem?_zip_eq_some]; exact ⟨hg, hc⟩
    rw [List.take_add_one, hz]
    rfl
  · rw [List.take_add_one, hc]
    rfl
theorem BegF.skip {r : Scu.Replica} {j m : Nat} {co : Int} {b g : Scu.Kept} (h : BegF r j m co b) (hg : r.gives[j]? = some g) (hc : r.given[j]? = some false) : BegF r (j + 1) m co b := by
  obtain ⟨h1, h2, h4⟩ := h
  obtain ⟨e1, e2⟩ := zip_take hg hc
  unfold BegF Scu.maxCommit Scu.bestOf
  rw [e1, e2, List.countP_append, List.foldl_append, List.foldl_append]
  exact ⟨by simpa using h1, by simpa [Scu.maxCommit] using h2, by simpa [Scu.bestOf] using h4⟩
theorem BegF.take_ {r : Scu.Replica} {j m : Nat} {co : Int} {b g : Scu.Kept} (h : BegF r j m co b) (hg : r.gives[j]? = some g) (hc : r.given[j]? = some true) : BegF r (j + 1) (m + 1) (if co < g.commit then g.commit else co) (if Scu.better g b then g else b) := by
  have hmx : (if co < g.commit then g.commit else co) = max co g.commit := by split <;> omega
  rw [hmx]
  obtain ⟨h1, h2, h4⟩ := h
  obtain ⟨e1, e2⟩ := zip_take hg hc
  unfold BegF Scu.maxCommit Scu.bestOf
  rw [e1, e2, List.countP_append, List.foldl_append, List.foldl_append]
  exact ⟨by simp [h1], by simp [h2, Scu.maxCommit], by simp [h4, Scu.bestOf]⟩
set_option maxHeartbeats 20000000 in
theorem take_t (w : World) (base gw gr : Nat) (r : Scu.Replica) (f : Int) (k : Scu.Kept) (A : Option Addr) (n c : Nat) (ms : List Scu.Message) (hW : WorkE w base gw gr r ms) (hbase : base ≤ w.heap.size) (h3 : Rep3 r) (hf0 : 0 ≤ f) (hf3 : f < 3)
    {B : Nat} (hx : IsStrs w B (.slice A n c) k.log) (hm : (ms.length + 4) * 80 ≤ R47) :
    Calls Tryd.prog 98 #[.pointer (some ⟨gw, 0, none⟩), .int .i64 f, .agg #[.int .i64 k.view, .int .i64 k.normal, .bool k.calm, .slice A n c, .int .i64 k.commit]] w fun e w' => e = .returned (.tuple #[]) ∧ WorkE w' base gw gr (Scu.take1 r f k).1 (ms ++ (Scu.take1 r f k).2) ∧ Below base w w' := by
  obtain ⟨lu, hv, wv, gv, nv, ov, css, hW⟩ := hW
  have H3 := Lib.hid h3
  have HM := Lib.hid hm
  obtain ⟨gn, cn, rfl⟩ := ones3f hW.own.own.given h3.2.2.2.1
  obtain ⟨kss, hks⟩ := hW.own.giv
  obtain ⟨gg, cg, rfl⟩ : ∃ g c, gv = .slice (some ⟨g, 0, none⟩) 3 c := by
    have h := hks.row
    rw [h3.2.2.1] at h
    obtain ⟨hl, ⟨h0, hn⟩ | ⟨g', cap, cur, e1, _⟩⟩ := h
    · omega
    · exact ⟨g', cap, e1⟩
  have HW := Lib.hid hW
  have HX := Lib.hid hx
  clear hW hx h3 hm hks
  unfold Scu.take1
  obtain ⟨r2, hr2⟩ : ∃ r2, r2 = Scu.give1 r f k := ⟨_, rfl⟩
  rw [← hr2]
  have HR2 := Lib.hid hr2
  clear hr2
  go_enter Tryd.func98, Tryd.ntmps98
  go_upto_region 1 with fail
  obtain ⟨Wd, hWd⟩ : ∃ W, W = w.alloc (Obj.cells #[.int .i64 k.view, .int .i64 k.normal, .bool k.calm, .slice A n c, .int .i64 k.commit] 64) := ⟨_, rfl⟩
  rw [← hWd]
  have hbw : Below w.heap.size w Wd := by rw [hWd]; exact below_alloc _ _
  have hk : Blk Wd w.heap.size 64 #[.int .i64 k.view, .int .i64 k.normal, .bool k.calm, .slice A n c, .int .i64 k.commit] := by rw [hWd]; exact Blk.new _ _ _
  have hWk := HW.out.below hbw
  have hX := HX.out.below hbw
  clear hWd
  obtain ⟨kss, hks⟩ := HW.out.own.giv
  obtain ⟨_, kcur, hkB⟩ := own_blk? hks.row
  obtain ⟨_, ⟨ncur, hnB⟩, _⟩ := ones3' HW.out.own.own.given H3.out.2.2.2.1
  have n1 : gw ≠ gg := blk_ne HW.out.wb hkB (by decide)
  have n2 : gr ≠ gg := blk_ne HW.out.rb hkB (by decide)
  have n3 : w.heap.size ≠ gg := by have := hkB.lt; omega
  have n4 : gw ≠ gn := blk_ne HW.out.wb hnB (by decide)
  have n5 : gr ≠ gn := blk_ne HW.out.rb hnB (by decide)
  have n6 : w.heap.size ≠ gn := by have := hnB.lt; omega
  have n7 : gn ≠ gg := blk_ne hnB hkB (by decide)
  clear hks hkB hnB
  have d0 := hWk.wb.cell 0
  have d8 := hWk.rb.cell 8
  have d9 := hWk.rb.cell 9
  have k0 := hk.cell 0
  have k1 := hk.cell 1
  have k3 := hk.cell 3
  have k4 := hk.cell 4
  simp only [List.getElem?_toArray, List.getElem?_cons_zero, List.getElem?_cons_succ] at d0 d8 d9 k0 k1 k3 k4
  have dl := hWk.wb.lt
  have dm := hWk.rb.lt
  have dk := hk.lt
  have H1 := Lib.hid (And.intro hWk (And.intro hX (And.intro hk hbw)))
  clear hWk hX hk hbw
  go_wp2_with fail
  go_region_held3 (fun w' => w'.cell? ⟨gw, 0, none⟩ = some (.pointer (some ⟨gr, 0, none⟩)) ∧ w'.cell? ⟨gr, 8, none⟩ = some (.slice (some ⟨gg, 0, none⟩) 3 cg) ∧ w'.cell? ⟨gr, 9, none⟩ = some (.slice (some ⟨gn, 0, none⟩) 3 cn) ∧ w'.cell? ⟨w.heap.size, 0, none⟩ = some (.int .i64 k.view) ∧ w'.cell? ⟨w.heap.size, 1, none⟩ = some (.int .i64 k.normal) ∧ w'.cell? ⟨w.heap.size, 3, none⟩ = some (.slice A n c) ∧ w'.cell? ⟨w.heap.size, 4, none⟩ = some (.int .i64 k.commit))
    (first | (go_split_ands; (try dsimp only); (repeat' apply And.intro) <;> first | (with_reducible assumption) | (with_reducible (refine (cell_far ?_ _).trans ((cell_far5 ?_).trans ?_) <;> assumption)) | (with_reducible (refine (cell_far5 ?_).trans ?_ <;> assumption))) | (go_split_ands; (try dsimp only); exact ⟨d0, d8, d9, k0, k1, k3, k4⟩) | go_keep)
    (first
      | (go_at_call 26; refine (cloneStrs_c _ k.log _ B ?_).mono ?_; exact H1.out.2.1.drewN 1; rintro en x1 ⟨⟨v1, rfl, hu⟩, k1'⟩
         refine use (P := Below Wd.heap.size Wd x1) ?_ ?_
         exact (below_drewN (Below.refl _ _) 1).trans k1'
         intro nn1
         have M1 := Lib.hid nn1
         obtain ⟨Au, cu, rfl, _, _, _, _⟩ := rd_own hu
         have HU := Lib.hid hu
         have hW1 := H1.out.1.below nn1
         obtain ⟨kss, hks⟩ := hW1.own.giv
         have h3g : r.gives.length = 3 := H3.out.2.2.1
         obtain ⟨gz, lg, y0, y1, y2, y3, y4, _⟩ := hks.cells (i := f.toNat) (by omega)
         obtain ⟨_, _, hc, nz, _⟩ := ones3' hW1.own.own.given H3.out.2.2.2.1
         obtain ⟨un, yn⟩ := Option.isSome_iff_exists.1 (hc f.toNat (by omega))
         have HW1 := Lib.hid hW1
         have yn5 : (((((x1.setCell ⟨gg, f.toNat * 5, none⟩ (.int .i64 k.view)).setCell ⟨gg, f.toNat * 5 + 1, none⟩ (.int .i64 k.normal)).setCell ⟨gg, f.toNat * 5 + 2, none⟩ (.bool false)).setCell ⟨gg, f.toNat * 5 + 3, none⟩ (.slice Au k.log.length cu)).setCell ⟨gg, f.toNat * 5 + 4, none⟩ (.int .i64 k.commit)).cell? ⟨gn, f.toNat, none⟩ = some un := (cell_far5 n7).trans yn
         have e0 := (nn1.cell (p := ⟨gw, 0, none⟩) dl).trans d0
         have e8 := (nn1.cell (p := ⟨gr, 8, none⟩) dm).trans d8
         have e9 := (nn1.cell (p := ⟨gr, 9, none⟩) dm).trans d9
         have b0 := (nn1.cell (p := ⟨w.heap.size, 0, none⟩) dk).trans k0
         have b1 := (nn1.cell (p := ⟨w.heap.size, 1, none⟩) dk).trans k1
         have b3 := (nn1.cell (p := ⟨w.heap.size, 3, none⟩) dk).trans k3
         have b4 := (nn1.cell (p := ⟨w.heap.size, 4, none⟩) dk).trans k4
         clear nn1 hu k1' hks hc hW1))
  obtain ⟨Wf, hWf⟩ : ∃ W, W = (((((x1.setCell ⟨gg, f.toNat * 5, none⟩ (.int .i64 k.view)).setCell ⟨gg, f.toNat * 5 + 1, none⟩ (.int .i64 k.normal)).setCell ⟨gg, f.toNat * 5 + 2, none⟩ (.bool false)).setCell ⟨gg, f.toNat * 5 + 3, none⟩ (.slice Au k.log.length cu)).setCell ⟨gg, f.toNat * 5 + 4, none⟩ (.int .i64 k.commit)).setCell ⟨gn, f.toNat, none⟩ (.bool true) := ⟨_, rfl⟩
  have hWk : Work Wf base gw gr (Scu.give1 r f k) lu hv wv (.slice (some ⟨gg, 0, none⟩) 3 cg) (.slice (some ⟨gn, 0, none⟩) 3 cn) ov ms css ∧ Below base w Wf := by
    have hxl : IsStrs x1 0 (.slice Au k.log.length cu) (Scu.own k).log := strs_own HU.out HX.out.len HX.out.each
    obtain ⟨a1, a2⟩ := HW1.out.put_gives (i := f.toNat) (by rw [H3.out.2.2.1]; omega) hxl
    obtain ⟨hb, cur, hB⟩ := own_blk? a1.own.own.given.1
    obtain ⟨c1, c2, _⟩ := a1.put_given hB hb f.toNat true
    rw [hWf]
    exact ⟨c1, (((H1.out.2.2.2.mono hbase).trans (M1.out.mono (Nat.le_trans hbase H1.out.2.2.2.size))).trans a2).trans c2⟩
  have h3' : Rep3 (Scu.give1 r f k) := ⟨H3.out.1, H3.out.2.1, by simp [Scu.give1, H3.out.2.2.1], by simp [Scu.give1, H3.out.2.2.2.1], H3.out.2.2.2.2⟩
  rw [← hWf]
  rw [← HR2.out] at hWk h3'
  have HWF := Lib.hid (And.intro hWk h3')
  clear hWk h3' hWf HW1 HU M1 HX H1 H3 HR2 HW yn5 e0 e8 e9 b0 b1 b3 b4 gz y0 y1 y2 y3 y4 nz yn dl dm dk d0 d8 d9 k0 k1 k3 k4
  have hbf : base ≤ Wf.heap.size := Nat.le_trans hbase HWF.out.1.2.size
  have hme0 : 0 ≤ r2.me := HWF.out.2.2.2.2.2.1
  have hme3 : r2.me < 3 := HWF.out.2.2.2.2.2.2
  have d0 := HWF.out.1.1.wb.cell 0
  have d0r := HWF.out.1.1.rb.cell 0
  have d1 := HWF.out.1.1.rb.cell 1
  have d8 := HWF.out.1.1.rb.cell 8
  have d9 := HWF.out.1.1.rb.cell 9
  simp only [List.getElem?_toArray, List.getElem?_cons_zero, List.getElem?_cons_succ] at d0 d0r d1 d8 d9
  have dl := HWF.out.1.1.wb.lt
  have dm := HWF.out.1.1.rb.lt
  obtain ⟨_, _, _, _, hcn⟩ := ones3' HWF.out.1.1.own.own.given HWF.out.2.2.2.2.1
  obtain ⟨b, hb⟩ : ∃ b, b = r2.given.getD r2.me.toNat false := ⟨_, rfl⟩
  have dg : Wf.cell? ⟨gn, r2.me.toNat, none⟩ = some (.bool b) := by
    have hlt : r2.me.toNat < r2.given.length := by rw [HWF.out.2.2.2.2.1]; omega
    rw [hcn _ (by omega), List.getElem?_map, List.getElem?_eq_getElem hlt, hb, List.getD_eq_getElem?_getD, List.getElem?_eq_getElem hlt]
    rfl
  clear hcn
  have HB := Lib.hid hb
  clear hb
  cases b with
  | false =>
    have hbeg : Scu.begun r2 = (r2, []) := by unfold Scu.begun; rw [if_pos HB.out.symm]
    have HBEG := Lib.hid hbeg
    clear hbeg
    go_wp2_with fail
    go_region
    go_wp2
    refine bodyPost_ret (v := .tuple #[]) (by simp [results, Tryd.results98]) rfl ?_
    refine ⟨rfl, ?_, HWF.out.1.2.drew⟩
    rw [HBEG.out, List.append_nil]
    exact (HWF.out.1.1.below (Below.refl _ _).drew).e
  | true =>
    go_wp2_with fail
    go_region
    obtain ⟨Wg, hWg⟩ : ∃ W, W = Wf.drew := ⟨_, rfl⟩
    rw [← hWg]
    have HWG := Lib.hid (show Work Wg base gw gr r2 lu hv wv (.slice (some ⟨gg, 0, none⟩) 3 cg) (.slice (some ⟨gn, 0, none⟩) 3 cn) ov ms css ∧ Below base w Wg from by rw [hWg]; exact ⟨HWF.out.1.1.below (Below.refl _ _).drew, HWF.out.1.2.drew⟩)
    clear hWg d0 d0r d1 d8 d9 dl dm dg
    have hwb := HWG.out.1.wb
    have hrb := HWG.out.1.rb
    have d0 := hwb.cell 0
    have d8 := hrb.cell 8
    simp only [List.getElem?_toArray, List.getElem?_cons_zero, List.getElem?_cons_succ] at d0 d8
    have dl := hwb.lt
    have dm := hrb.lt
    have hsg : base ≤ Wg.heap.size := Nat.le_trans hbase HWG.out.2.size
    have hgb : Wg.heap.size ≠ gg := by
      obtain ⟨_, hq⟩ := HWG.out.1.own.giv
      obtain ⟨_, _, hq2⟩ := own_blk? hq.row
      have := hq2.lt
      omega
    have HI := Lib.hid (show BegI w base gw gr Wg.heap.size r2 lu hv wv gg cg gn cn ov ms css Scu.best0 none 0 (Wg.alloc (Obj.cells #[.int .i64 0, .int .i64 (-1), .bool false, .slice none 0 0, .int .i64 0] 64)) from
      ⟨HWG.out.1.below (below_alloc _ _), HWG.out.2.trans ((below_alloc _ _).mono hsg), Blk.new Wg _ _, IsStrs.nil_⟩)
    clear hwb hrb
    go_wp2_with fail
    go_loopw [6, 8, 66] (fun mv cv iv wr => ∃ (j m : Nat) (co : Int) (b : Scu.Kept) (Ab : Option Addr) (cb : Nat), j ≤ 3 ∧ iv = .int .i64 j ∧ mv = .int .i64 m ∧ cv = .int .i64 co ∧ m ≤ j ∧ Hid (BegF r2 j m co b) ∧ Hid (BegI w base gw gr Wg.heap.size r2 lu hv wv gg cg gn cn ov ms css b Ab cb wr)) (fun _ _ iv _ => 3 - (intOf iv).toNat)
    case atStart => exact ⟨0, 0, 0, Scu.best0, none, 0, Nat.zero_le _, rfl, rfl, rfl, Nat.le_refl _, Lib.hid ⟨rfl, rfl, rfl⟩, HI⟩
    case round =>
      obtain ⟨j, m, co, b, Ab, cb, hj, rfl, rfl, rfl, hmj, HF, HJ⟩ := hrel
      by_cases hlt : j < 3
      · have hlt' : (j : Int) < 3 := by omega
        obtain ⟨kss, hks⟩ := HJ.out.work.own.giv
        obtain ⟨gz, lg, y0, y1, y2, y3, y4, hlg⟩ := hks.cells (i := j) (by rw [HWF.out.2.2.2.1]; exact hlt)
        obtain ⟨g, hg⟩ : ∃ g, g = r2.gives[j]'(by rw [HWF.out.2.2.2.1]; exact hlt) := ⟨_, rfl⟩
        rw [← hg] at y0 y1 y2 y4 hlg
        obtain ⟨⟨Al, cl, rfl, _, _⟩, _, _⟩ := id hlg
        have HG := Lib.hid (And.intro hg hlg)
        clear hg hlg hks gz
        go_upto_region 9 with fail
        obtain ⟨Wa, hWa⟩ : ∃ W, W = wr.alloc (Obj.cells #[.int .i64 g.view, .int .i64 g.normal, .bool g.calm, .slice Al g.log.length cl, .int .i64 g.commit] 64) := ⟨_, rfl⟩
        rw [← hWa]
        have hba : Below wr.heap.size wr Wa := by rw [hWa]; exact below_alloc _ _
        have hga : Blk Wa wr.heap.size 64 #[.int .i64 g.view, .int .i64 g.normal, .bool g.calm, .slice Al g.log.length cl, .int .i64 g.commit] := by rw [hWa]; exact Blk.new _ _ _
        have hsr : base ≤ wr.heap.size := Nat.le_trans hbase HJ.out.low.size
        have HJA := Lib.hid (HJ.out.below hba hsr)
        have HLA := Lib.hid (HG.out.2.below hba)
        clear hWa y0 y1 y2 y3 y4
        obtain ⟨c, hc⟩ : ∃ c, r2.given[j]? = some c := ⟨_, List.getElem?_eq_getElem (by rw [HWF.out.2.2.2.2.1]; exact hlt)⟩
        have hgj : r2.gives[j]? = some g := by rw [HG.out.1]; exact List.getElem?_eq_getElem _
        obtain ⟨_, _, _, _, hcn⟩ := ones3' HJA.out.work.own.own.given HWF.out.2.2.2.2.1
        have dg : Wa.cell? ⟨gn, j, none⟩ = some (.bool c) := by rw [hcn _ hlt, List.getElem?_map, hc]; rfl
        have d0 := HJA.out.work.wb.cell 0
        have d9 := HJA.out.work.rb.cell 9
        have b0 := HJA.out.box.cell 0
        have b1 := HJA.out.box.cell 1
        have b2 := HJA.out.box.cell 2
        have b3 := HJA.out.box.cell 3
        have b4 := HJA.out.box.cell 4
        have g0 := hga.cell 0
        have g1 := hga.cell 1
        have g2 := hga.cell 2
        have g3 := hga.cell 3
        have g4 := hga.cell 4
        simp only [List.getElem?_toArray, List.getElem?_cons_zero, List.getElem?_cons_succ] at d0 d9 b0 b1 b2 b3 b4 g0 g1 g2 g3 g4
        have bz := HJA.out.box.frozen
        have bl := HJA.out.box.lt
        have gl := hga.lt
        have dl := HJA.out.work.wb.lt
        have dm := HJA.out.work.rb.lt
        clear hcn hga hba
        have HC := Lib.hid (And.intro hgj hc)
        clear hgj hc
        cases c with
        | false =>
          have HF2 := Lib.hid (HF.out.skip HC.out.1 HC.out.2)
          go_wp2
          go_roundw
          case rel => exact ⟨j + 1, m, co, b, Ab, cb, by omega, rfl, rfl, rfl, by omega, HF2, HJA⟩
          case measure => simp only [intOf]; omega
        | true =>
          have hm3 : (m : Int) < 3 := by omega
          have hf2 := HF.out.take_ HC.out.1 HC.out.2
          by_cases hA : b.normal < g.normal
          · have hbt : Scu.better g b = true := by unfold Scu.better; simp [hA]
            rw [if_pos hbt] at hf2
            have HF2 := Lib.hid hf2
            clear hf2 hbt
            go_upto_region 14 with fail
            obtain ⟨Wb, hWb⟩ : ∃ W, W = ((((Wa.setCell ⟨Wg.heap.size, 0, none⟩ (.int .i64 g.view)).setCell ⟨Wg.heap.size, 1, none⟩ (.int .i64 g.normal)).setCell ⟨Wg.heap.size, 2, none⟩ (.bool g.calm)).setCell ⟨Wg.heap.size, 3, none⟩ (.slice Al g.log.length cl)).setCell ⟨Wg.heap.size, 4, none⟩ (.int .i64 g.commit) := ⟨_, rfl⟩
            rw [← hWb]
            obtain ⟨z1, z2, z3, z4⟩ := HJA.out.work.box5 (a0 := .int .i64 g.view) (a1 := .int .i64 g.normal) (a2 := .bool g.calm) (a3 := .slice Al g.log.length cl) (a4 := .int .i64 g.commit) HJA.out.box hgb hsg
            rw [← hWb] at z1 z2 z3 z4
            have HJB := Lib.hid (show BegI w base gw gr Wg.heap.size r2 lu hv wv gg cg gn cn ov ms css g Al cl Wb from ⟨z1, HJA.out.low.trans z2, z3, HLA.out.same (by simp) z4⟩)
            clear hWb z1 z2 z3 z4 b0 b1 b2 b3 b4 g0 g1 g2 g3 g4 bz bl gl d0 d9 dg
            go_wp2
            go_roundw
            case rel => exact ⟨j + 1, m + 1, (if co < g.commit then g.commit else co), g, Al, cl, by omega, rfl, (by simp), rfl, by omega, HF2, HJB⟩
            case measure => simp only [intOf]; omega
          · by_cases hE : g.normal = b.normal
            · have hEb : (g.normal == b.normal) = true := by simpa using hE
              by_cases hL : (b.log.length : Int) < (g.log.length : Int)
              · have hbt : Scu.better g b = true := by unfold Scu.better; simp [hE]; omega
                rw [if_pos hbt] at hf2
                have HF2 := Lib.hid hf2
                clear hf2 hbt hE
                go_upto_region 14 with fail
                obtain ⟨Wb, hWb⟩ : ∃ W, W = ((((Wa.setCell ⟨Wg.heap.size, 0, none⟩ (.int .i64 g.view)).setCell ⟨Wg.heap.size, 1, none⟩ (.int .i64 g.normal)).setCell ⟨Wg.heap.size, 2, none⟩ (.bool g.calm)).setCell ⟨Wg.heap.size, 3, none⟩ (.slice Al g.log.length cl)).setCell ⟨Wg.heap.size, 4, none⟩ (.int .i64 g.commit) := ⟨_, rfl⟩
                rw [← hWb]
                obtain ⟨z1, z2, z3, z4⟩ := HJA.out.work.box5 (a0 := .int .i64 g.view) (a1 := .int .i64 g.normal) (a2 := .bool g.calm) (a3 := .slice Al g.log.length cl) (a4 := .int .i64 g.commit) HJA.out.box hgb hsg
                rw [← hWb] at z1 z2 z3 z4
                have HJB := Lib.hid (show BegI w base gw gr Wg.heap.size r2 lu hv wv gg cg gn cn ov ms css g Al cl Wb from ⟨z1, HJA.out.low.trans z2, z3, HLA.out.same (by simp) z4⟩)
                clear hWb z1 z2 z3 z4 b0 b1 b2 b3 b4 g0 g1 g2 g3 g4 bz bl gl d0 d9 dg
                go_wp2
                go_roundw
                case rel => exact ⟨j + 1, m + 1, (if co < g.commit then g.commit else co), g, Al, cl, by omega, rfl, (by simp), rfl, by omega, HF2, HJB⟩
                case measure => simp only [intOf]; omega
              · have hbt : Scu.better g b = false := by unfold Scu.better; simp [hE]; omega
                rw [hbt, if_neg (show ¬ (false = true) by decide)] at hf2
                have HF2 := Lib.hid hf2
                clear hf2 hbt hE
                go_wp2
                go_roundw
                case rel => exact ⟨j + 1, m + 1, (if co < g.commit then g.commit else co), b, Ab, cb, by omega, rfl, (by simp), rfl, by omega, HF2, HJA⟩
                case measure => simp only [intOf]; omega
            · have hEb : (g.normal == b.normal) = false := by simpa using hE
              have hbt : Scu.better g b = false := by unfold Scu.better; simp [hE, hA]
              rw [hbt, if_neg (show ¬ (false = true) by decide)] at hf2
              have HF2 := Lib.hid hf2
              clear hf2 hbt hE
              go_wp2
              go_roundw
              case rel => exact ⟨j + 1, m + 1, (if co < g.commit then g.commit else co), b, Ab, cb, by omega, rfl, (by simp), rfl, by omega, HF2, HJA⟩
              case measure => simp only [intOf]; omega
      · have hj3 : j = 3 := by omega
        subst hj3
        have hnl : ¬ ((3 : Nat) : Int) < 3 := by omega
        obtain ⟨f1, f2, f3⟩ := HF.out
        have hl3 : r2.given.length = 3 := HWF.out.2.2.2.2.1
        have hz3 : (r2.gives.zip r2.given).length = 3 := by rw [List.length_zip, HWF.out.2.2.2.1, hl3]; rfl
        rw [List.take_of_length_le (by omega)] at f1
        rw [List.take_of_length_le (by omega)] at f2 f3
        have hgm : r2.given.getD r2.me.toNat false ≠ false := by rw [← HB.out]; decide
        by_cases hm2 : (m : Int) < 2
        · have hbeg : Scu.begun r2 = (r2, []) := by unfold Scu.begun; rw [if_neg hgm, if_pos (by omega)]
          have HBEG := Lib.hid hbeg
          clear hbeg f1 f2 f3 hl3 hz3 hgm
          go_wp2
          refine bodyPost_ret (v := .tuple #[]) (by simp [results, Tryd.results98]) rfl ?_
          refine ⟨rfl, ?_, HJ.out.low⟩
          rw [HBEG.out, List.append_nil]
          exact HJ.out.work.e
        · have hbeg : Scu.begun r2 = (Scu.fresh { r2 with kept := ⟨r2.kept.view, r2.kept.view, true, b.log, if (b.log.length : Int) < co then (b.log.length : Int) else co⟩ }, Scu.leadOn (Scu.fresh { r2 with kept := ⟨r2.kept.view, r2.kept.view, true, b.log, if (b.log.length : Int) < co then (b.log.length : Int) else co⟩ })) := by
            have hmn : (if (b.log.length : Int) < co then (b.log.length : Int) else co) = min (Scu.maxCommit (r2.gives.zip r2.given)) b.log.length := by rw [← f2]; split <;> omega
            unfold Scu.begun
            rw [if_neg hgm, if_neg (by omega), hmn, f3]
          by_cases hq : (b.log.length : Int) < co
          · rw [if_pos hq] at hbeg
            have HBEG := Lib.hid hbeg
            clear hbeg f1 f2 f3 hl3 hz3 hgm
            have d0 := HJ.out.work.wb.cell 0
            have d1 := HJ.out.work.rb.cell 1
            have d2 := HJ.out.work.rb.cell 2
            have d3 := HJ.out.work.rb.cell 3
            have d4 := HJ.out.work.rb.cell 4
            have d5 := HJ.out.work.rb.cell 5
            have b3 := HJ.out.box.cell 3
            simp only [List.getElem?_toArray, List.getElem?_cons_zero, List.getElem?_cons_succ] at d0 d1 d2 d3 d4 d5 b3
            have dz := HJ.out.work.rb.frozen
            have dl := HJ.out.work.wb.lt
            have dm := HJ.out.work.rb.lt
            have bl := HJ.out.box.lt
            have n1 : gw ≠ gr := blk_ne HJ.out.work.wb HJ.out.work.rb (by decide)
            have n2 : Wg.heap.size ≠ gr := blk_ne HJ.out.box HJ.out.work.rb (by decide)
            go_wp2_with fail
            go_region_held3 (fun w' => w'.cell? ⟨gw, 0, none⟩ = some (.pointer (some ⟨gr, 0, none⟩)) ∧ w'.cell? ⟨Wg.heap.size, 3, none⟩ = some (.slice Ab b.log.length cb))
              (first | (go_split_ands; (try dsimp only); (repeat' apply And.intro) <;> first | (with_reducible assumption) | (with_reducible (refine (cell_far5 ?_).trans ?_ <;> assumption))) | (go_split_ands; (try dsimp only); exact ⟨d0, b3⟩))
              (first
                | (go_at_call 26; refine (cloneStrs_c _ b.log _ 0 ?_).mono ?_; exact HJ.out.log.drewN 1; rintro en x1 ⟨⟨v1, rfl, hu⟩, k1'⟩
                   refine use (P := Below wr.heap.size wr x1) ?_ ?_
                   exact (below_drewN (Below.refl _ _) 1).trans k1'
                   intro nn1
                   have M1 := Lib.hid nn1
                   obtain ⟨Au, cu, rfl, _, _, _, _⟩ := rd_own hu
                   have HU := Lib.hid hu
                   have e0 := (nn1.cell (p := ⟨gw, 0, none⟩) dl).trans d0
                   have e1 := (nn1.cell (p := ⟨gr, 1, none⟩) dm).trans d1
                   have e2 := (nn1.cell (p := ⟨gr, 2, none⟩) dm).trans d2
                   have e3 := (nn1.cell (p := ⟨gr, 3, none⟩) dm).trans d3
                   have e4 := (nn1.cell (p := ⟨gr, 4, none⟩) dm).trans d4
                   have e5 := (nn1.cell (p := ⟨gr, 5, none⟩) dm).trans d5
                   have ez := (HJ.out.work.below nn1).rb.frozen
                   have c3 := (nn1.cell (p := ⟨Wg.heap.size, 3, none⟩) bl).trans b3
                   clear nn1 hu k1'))
            all_goals
              rename_i hHeld
              clear hHeld
              (try (have hq2 : ¬ ((b.log.length : Int) < co) := by omega
                    simp only [hq2, ↓reduceIte]))
              obtain ⟨Wc, hWc⟩ : ∃ W, W = ((((x1.setCell ⟨gr, 1, none⟩ (.int .i64 r2.kept.view)).setCell ⟨gr, 2, none⟩ (.int .i64 r2.kept.view)).setCell ⟨gr, 3, none⟩ (.bool true)).setCell ⟨gr, 4, none⟩ (.slice Au b.log.length cu)).setCell ⟨gr, 5, none⟩ (.int .i64 ((b.log.length : Int))) := ⟨_, rfl⟩
              rw [← hWc]
              have hWk : WorkE Wc base gw gr { r2 with kept := ⟨r2.kept.view, r2.kept.view, true, b.log, ((b.log.length : Int))⟩ } ms ∧ Below base w Wc := by
                have hW1 := HJ.out.work.below M1.out
                have hsx : base ≤ wr.heap.size := Nat.le_trans hbase HJ.out.low.size
                have hol : OwnStrs x1 base (.slice Au b.log.length cu) b.log := ⟨ownsRow_base HU.out hsx, HJ.out.log.len, HJ.out.log.each⟩
                have hw3 := ((hW1.set_view r2.kept.view).set_normal r2.kept.view).set_calm true
                have hs3 : Same [9] 0 x1 (((x1.setCell ⟨gr, 1, none⟩ (.int .i64 r2.kept.view)).setCell ⟨gr, 2, none⟩ (.int .i64 r2.kept.view)).setCell ⟨gr, 3, none⟩ (.bool true)) :=
                  ((Same.set_ hW1.rb (Nat.zero_le _) (by decide) 1 _).trans (Same.set_ (hW1.set_view r2.kept.view).rb (Nat.zero_le _) (by decide) 2 _)).trans (Same.set_ ((hW1.set_view r2.kept.view).set_normal r2.kept.view).rb (Nat.zero_le _) (by decide) 3 _)
                have hw5 := (hw3.set_log (hol.same hs3)).set_commit ((b.log.length : Int))
                rw [hWc]
                exact ⟨hw5.e, (HJ.out.low.trans (M1.out.mono hsx)).trans (((((hW1.low 1 _).trans ((hW1.set_view r2.kept.view).low 2 _)).trans (((hW1.set_view r2.kept.view).set_normal r2.kept.view).low 3 _)).trans (hw3.low 4 _)).trans ((hw3.set_log (hol.same hs3)).low 5 _))⟩
              have HWC := Lib.hid hWk
              have hsc : base ≤ Wc.heap.size := Nat.le_trans hbase hWk.2.size
              clear hWk hWc e0 e1 e2 e3 e4 e5 ez c3 HU M1 d0 d1 d2 d3 d4 d5 b3 dz dl dm bl n1 n2
              go_wp2_with fail
              refine (fresh_e Wc base gw gr _ ms HWC.out.1 hsc (show Rep3 { r2 with kept := ⟨r2.kept.view, r2.kept.view, true, b.log, ((b.log.length : Int))⟩ } from HWF.out.2)).mono ?_; rintro en x2 ⟨rfl, hW2, hb2⟩
              have HX2 := Lib.hid (And.intro hW2 (HWC.out.2.trans hb2))
              have hs2 : base ≤ x2.heap.size := Nat.le_trans hsc hb2.size
              clear hW2 hb2
              go_wp2_with fail
              refine (lead_e x2 base gw gr _ ms HX2.out.1 hs2 HM.out).mono ?_; rintro en x3 ⟨rfl, hW3, hb3⟩
              have HX3 := Lib.hid (And.intro hW3 (HX2.out.2.trans hb3))
              clear hW3 hb3
              rename_i KK hKK
              refine hKK _ _ ?_
              dsimp only [wpList]
              go_end0
              refine ⟨rfl, ?_, HX3.out.2⟩
              rw [HBEG.out]
              exact HX3.out.1
          · rw [if_neg hq] at hbeg
            have HBEG := Lib.hid hbeg
            clear hbeg f1 f2 f3 hl3 hz3 hgm
            have d0 := HJ.out.work.wb.cell 0
            have d1 := HJ.out.work.rb.cell 1
            have d2 := HJ.out.work.rb.cell 2
            have d3 := HJ.out.work.rb.cell 3
            have d4 := HJ.out.work.rb.cell 4
            have d5 := HJ.out.work.rb.cell 5
            have b3 := HJ.out.box.cell 3
            simp only [List.getElem?_toArray, List.getElem?_cons_zero, List.getElem?_cons_succ] at d0 d1 d2 d3 d4 d5 b3
            have dz := HJ.out.work.rb.frozen
            have dl := HJ.out.work.wb.lt
            have dm := HJ.out.work.rb.lt
            have bl := HJ.out.box.lt
            have n1 : gw ≠ gr := blk_ne HJ.out.work.wb HJ.out.work.rb (by decide)
            have n2 : Wg.heap.size ≠ gr := blk_ne HJ.out.box HJ.out.work.rb (by decide)
            go_wp2_with fail
            go_region_held3 (fun w' => w'.cell? ⟨gw, 0, none⟩ = some (.pointer (some ⟨gr, 0, none⟩)) ∧ w'.cell? ⟨Wg.heap.size, 3, none⟩ = some (.slice Ab b.log.length cb))
              (first | (go_split_ands; (try dsimp only); (repeat' apply And.intro) <;> first | (with_reducible assumption) | (with_reducible (refine (cell_far5 ?_).trans ?_ <;> assumption))) | (go_split_ands; (try dsimp only); exact ⟨d0, b3⟩))
              (first
                | (go_at_call 26; refine (cloneStrs_c _ b.log _ 0 ?_).mono ?_; exact HJ.out.log.drewN 1; rintro en x1 ⟨⟨v1, rfl, hu⟩, k1'⟩
                   refine use (P := Below wr.heap.size wr x1) ?_ ?_
                   exact (below_drewN (Below.refl _ _) 1).trans k1'
                   intro nn1
                   have M1 := Lib.hid nn1
                   obtain ⟨Au, cu, rfl, _, _, _, _⟩ := rd_own hu
                   have HU := Lib.hid hu
                   have e0 := (nn1.cell (p := ⟨gw, 0, none⟩) dl).trans d0
                   have e1 := (nn1.cell (p := ⟨gr, 1, none⟩) dm).trans d1
                   have e2 := (nn1.cell (p := ⟨gr, 2, none⟩) dm).trans d2
                   have e3 := (nn1.cell (p := ⟨gr, 3, none⟩) dm).trans d3
                   have e4 := (nn1.cell (p := ⟨gr, 4, none⟩) dm).trans d4
                   have e5 := (nn1.cell (p := ⟨gr, 5, none⟩) dm).trans d5
                   have ez := (HJ.out.work.below nn1).rb.frozen
                   have c3 := (nn1.cell (p := ⟨Wg.heap.size, 3, none⟩) bl).trans b3
                   clear nn1 hu k1'))
            all_goals
              rename_i hHeld
              clear hHeld
              (try (have hq2 : ¬ ((b.log.length : Int) < co) := by omega
                    simp only [hq2, ↓reduceIte]))
              obtain ⟨Wc, hWc⟩ : ∃ W, W = ((((x1.setCell ⟨gr, 1, none⟩ (.int .i64 r2.kept.view)).setCell ⟨gr, 2, none⟩ (.int .i64 r2.kept.view)).setCell ⟨gr, 3, none⟩ (.bool true)).setCell ⟨gr, 4, none⟩ (.slice Au b.log.length cu)).setCell ⟨gr, 5, none⟩ (.int .i64 (co)) := ⟨_, rfl⟩
              rw [← hWc]
              have hWk : WorkE Wc base gw gr { r2 with kept := ⟨r2.kept.view, r2.kept.view, true, b.log, (co)⟩ } ms ∧ Below base w Wc := by
                have hW1 := HJ.out.work.below M1.out
                have hsx : base ≤ wr.heap.size := Nat.le_trans hbase HJ.out.low.size
                have hol : OwnStrs x1 base (.slice Au b.log.length cu) b.log := ⟨ownsRow_base HU.out hsx, HJ.out.log.len, HJ.out.log.each⟩
                have hw3 := ((hW1.set_view r2.kept.view).set_normal r2.kept.view).set_calm true
                have hs3 : Same [9] 0 x1 (((x1.setCell ⟨gr, 1, none⟩ (.int .i64 r2.kept.view)).setCell ⟨gr, 2, none⟩ (.int .i64 r2.kept.view)).setCell ⟨gr, 3, none⟩ (.bool true)) :=
                  ((Same.set_ hW1.rb (Nat.zero_le _) (by decide) 1 _).trans (Same.set_ (hW1.set_view r2.kept.view).rb (Nat.zero_le _) (by decide) 2 _)).trans (Same.set_ ((hW1.set_view r2.kept.view).set_normal r2.kept.view).rb (Nat.zero_le _) (by decide) 3 _)
                have hw5 := (hw3.set_log (hol.same hs3)).set_commit (co)
                rw [hWc]
                exact ⟨hw5.e, (HJ.out.low.trans (M1.out.mono hsx)).trans (((((hW1.low 1 _).trans ((hW1.set_view r2.kept.view).low 2 _)).trans (((hW1.set_view r2.kept.view).set_normal r2.kept.view).low 3 _)).trans (hw3.low 4 _)).trans ((hw3.set_log (hol.same hs3)).low 5 _))⟩
              have HWC := Lib.hid hWk
              have hsc : base ≤ Wc.heap.size := Nat.le_trans hbase hWk.2.size
              clear hWk hWc e0 e1 e2 e3 e4 e5 ez c3 HU M1 d0 d1 d2 d3 d4 d5 b3 dz dl dm bl n1 n2
              go_wp2_with fail
              refine (fresh_e Wc base gw gr _ ms HWC.out.1 hsc (show Rep3 { r2 with kept := ⟨r2.kept.view, r2.kept.view, true, b.log, (co)⟩ } from HWF.out.2)).mono ?_; rintro en x2 ⟨rfl, hW2, hb2⟩
              have HX2 := Lib.hid (And.intro hW2 (HWC.out.2.trans hb2))
              have hs2 : base ≤ x2.heap.size := Nat.le_trans hsc hb2.size
              clear hW2 hb2
              go_wp2_with fail
              refine (lead_e x2 base gw gr _ ms HX2.out.1 hs2 HM.out).mono ?_; rintro en x3 ⟨rfl, hW3, hb3⟩
              have HX3 := Lib.hid (And.intro hW3 (HX2.out.2.trans hb3))
              clear hW3 hb3
              rename_i KK hKK
              refine hKK _ _ ?_
              dsimp only [wpList]
              go_end0
              refine ⟨rfl, ?_, HX3.out.2⟩
              rw [HBEG.out]
              exact HX3.out.1
end Go.Proofs.YtfpiembhlgcelaaDoor
/- Walks: work.give. -/
namespace Go.Proofs.YtfpiembhlgcelaaDoor
open Go.RowKit
set_option maxHeartbeats 4000000
set_option maxRecDepth 100000

def Scu.giveOut (r : Scu.Replica) : Scu.Replica × List Scu.Message :=
  if Scu.leader r.kept.view = r.me then Scu.take1 r (Scu.leader r.kept.view) r.kept
  else (r, [⟨4, r.me, Scu.leader r.kept.view, r.kept.view, r.kept.normal, r.kept.commit, 0, r.kept.log⟩])
theorem give_e (w : World) (base gw gr : Nat) (r : Scu.Replica) (ms : List Scu.Message) (hW : WorkE w base gw gr r ms) (hbase : base ≤ w.heap.size) (h3 : Rep3 r) (hv0 : 0 ≤ r.kept.view) (hm : (ms.length + 4) * 80 ≤ R47) :
    Calls Tryd.prog 97 #[.pointer (some ⟨gw, 0, none⟩)] w fun e w' => e = .returned (.tuple #[]) ∧ WorkE w' base gw gr (Scu.giveOut r).1 (ms ++ (Scu.giveOut r).2) ∧ Below base w w' := by
  obtain ⟨lu, hv, wv, gv, nv, ov, css, hW⟩ := hW
  obtain ⟨A, n, c, rfl⟩ := hW.own.is.log.form
  have H3 := Lib.hid h3
  have HM := Lib.hid hm
  have d0 := hW.wb.cell 0
  have dr0 := hW.rb.cell 0
  have d1 := hW.rb.cell 1
  have d2 := hW.rb.cell 2
  have d3 := hW.rb.cell 3
  have d4 := hW.rb.cell 4
  have d5 := hW.rb.cell 5
  simp only [List.getElem?_toArray, List.getElem?_cons_zero, List.getElem?_cons_succ] at d0 dr0 d1 d2 d3 d4 d5
  have dl := hW.wb.lt
  have dm := hW.rb.lt
  have HW := Lib.hid hW
  obtain ⟨tt, hto⟩ : ∃ tt, tt = r.kept.view % 3 := ⟨_, rfl⟩
  have hto0 : 0 ≤ tt := by omega
  have hto3 : tt < 3 := by omega
  have HTO := Lib.hid hto
  clear hW h3 hm hto
  go_enter Tryd.func97, Tryd.ntmps97
  go_upto_region 1 with fail
  obtain ⟨Wd, hWd⟩ : ∃ W, W = w.alloc (Obj.cells #[.int .i64 r.kept.view, .int .i64 r.kept.normal, .bool r.kept.calm, .slice A n c, .int .i64 r.kept.commit] 64) := ⟨_, rfl⟩
  rw [← hWd]
  have hbw : Below w.heap.size w Wd := by rw [hWd]; exact below_alloc _ _
  have hk : Blk Wd w.heap.size 64 #[.int .i64 r.kept.view, .int .i64 r.kept.normal, .bool r.kept.calm, .slice A n c, .int .i64 r.kept.commit] := by rw [hWd]; exact Blk.new _ _ _
  have HWD := Lib.hid (And.intro (HW.out.below hbw) (And.intro hk (hbw.mono hbase)))
  have hsd : base ≤ Wd.heap.size := Nat.le_trans hbase hbw.size
  clear hWd d0 dr0 d1 d2 d3 d4 d5 dl dm hbw hk
  have d0 := HWD.out.1.wb.cell 0
  have dr0 := HWD.out.1.rb.cell 0
  have k0 := HWD.out.2.1.cell 0
  have k1 := HWD.out.2.1.cell 1
  have k2 := HWD.out.2.1.cell 2
  have k3 := HWD.out.2.1.cell 3
  have k4 := HWD.out.2.1.cell 4
  simp only [List.getElem?_toArray, List.getElem?_cons_zero, List.getElem?_cons_succ] at d0 dr0 k0 k1 k2 k3 k4
  have dl := HWD.out.1.wb.lt
  have dm := HWD.out.1.rb.lt
  have dk := HWD.out.2.1.lt
  go_wp2_with fail
  refine (leader_c _ _ hv0).mono ?_; rintro en w' ⟨rfl, rfl⟩
  rw [← HTO.out]
  by_cases hme : tt = r.me
  · have hgo : Scu.giveOut r = Scu.take1 r tt r.kept := by unfold Scu.giveOut Scu.leader; rw [← HTO.out, if_pos hme]
    have hmeb : (tt == r.me) = true := by simpa using hme
    have HGO := Lib.hid hgo
    clear hgo hme
    go_wp2_with fail
    refine (take_t Wd base gw gr r tt r.kept A n c ms HWD.out.1.e hsd H3.out hto0 hto3 HWD.out.1.own.is.log HM.out).mono ?_; rintro en x1 ⟨rfl, hW1, hb1⟩
    have HX := Lib.hid (And.intro hW1 (HWD.out.2.2.trans hb1))
    clear hW1 hb1
    go_wp2
    refine bodyPost_ret (v := .tuple #[]) (by simp [results, Tryd.results97]) rfl ?_
    rw [HGO.out]
    exact ⟨rfl, HX.out⟩
  · have hgo : Scu.giveOut r = (r, [⟨4, r.me, tt, r.kept.view, r.kept.normal, r.kept.commit, 0, r.kept.log⟩]) := by unfold Scu.giveOut Scu.leader; rw [← HTO.out, if_neg hme]
    have hmeb : (tt == r.me) = false := by simpa using hme
    have HGO := Lib.hid (And.intro hgo hme)
    have NB := Lib.hid (show w.heap.size ≠ gw ∧ ov.ownBlock ≠ some w.heap.size from ⟨by have := HW.out.wb.lt; omega, fun e => by have := (HW.out.out.row.lt _ e).2; omega⟩)
    clear hgo hme
    go_wp2_with fail
    go_region_held3 (fun w' => w'.cell? ⟨w.heap.size, 1, none⟩ = some (.int .i64 r.kept.normal) ∧ w'.cell? ⟨w.heap.size, 3, none⟩ = some (.slice A n c) ∧ w'.cell? ⟨w.heap.size, 4, none⟩ = some (.int .i64 r.kept.commit))
      (first | (go_split_ands; (try dsimp only); (repeat' apply And.intro) <;> (with_reducible assumption)) | (go_split_ands; (try dsimp only); exact ⟨k1, k3, k4⟩))
      (first
        | (go_at_call 26; refine (cloneStrs_c _ r.kept.log _ 0 ?_).mono ?_; exact HWD.out.1.own.is.log.drewN 1; rintro en x1 ⟨⟨v1, rfl, hu⟩, k1'⟩
           refine use (P := Below Wd.heap.size Wd x1) ?_ ?_
           exact (below_drewN (Below.refl _ _) 1).trans k1'
           intro nn1
           have hW1 := HWD.out.1.below nn1
           obtain ⟨Au, cu, rfl, _, _, _, _⟩ := rd_own hu
           have HU := Lib.hid (And.intro (strs_own hu HWD.out.1.own.is.log.len HWD.out.1.own.is.log.each) (And.intro hW1 (And.intro (HWD.out.2.2.trans (nn1.mono hsd)) nn1)))
           have hs1 : base ≤ x1.heap.size := Nat.le_trans hsd nn1.size
           have e1 := (nn1.cell (p := ⟨w.heap.size, 1, none⟩) dk).trans k1
           have e3 := (nn1.cell (p := ⟨w.heap.size, 3, none⟩) dk).trans k3
           have e4 := (nn1.cell (p := ⟨w.heap.size, 4, none⟩) dk).trans k4
           clear nn1 hu k1' hW1)
        | (go_at_call 96; refine (send_2 Au r.kept.log.length cu { Scu.msg0 with kind := 4, normal := r.kept.normal, commit := r.kept.commit, log := r.kept.log } tt x1 base gw gr r (.slice A n c) hv wv gv nv ov ms css HU.out.2.1 hs1 HGO.out.2 HU.out.1 ?_).mono ?_; (exact Nat.le_trans (Nat.mul_le_mul_right 80 (by omega)) HM.out); rintro en x2 ⟨rfl, ⟨ov2, css2, hW2, hk2⟩, hb2, _⟩
           have hbx := (hk2 _ _ _ (HWD.out.2.1.same HU.out.2.2.2) NB.out.1 NB.out.2).1
           have HX := Lib.hid (And.intro hW2.e (HU.out.2.2.1.trans hb2))
           have f1 := hbx.cell 1
           have f3 := hbx.cell 3
           have f4 := hbx.cell 4
           simp only [List.getElem?_toArray, List.getElem?_cons_zero, List.getElem?_cons_succ] at f1 f3 f4
           clear hW2 hb2 hk2 hbx))
    all_goals
      rename_i hHeld
      clear hHeld
      go_wp2
      go_end0
      rw [HGO.out.1]
      exact ⟨rfl, HX.out⟩
end Go.Proofs.YtfpiembhlgcelaaDoor
/- Walks: work.onWant. -/
namespace Go.Proofs.YtfpiembhlgcelaaDoor
open Go.RowKit
set_option maxHeartbeats 8000000
set_option maxRecDepth 100000

theorem want3 {r : Scu.Replica} (h : Rep3 r) (v : Int) : Rep3 (Scu.want r v).1 := ⟨rfl, by simp [Scu.want, Scu.fresh], rfl, rfl, h.2.2.2.2⟩
theorem wantIf3 {r : Scu.Replica} (h : Rep3 r) (v : Int) : Rep3 (Scu.wantIf r v).1 := by
  unfold Scu.wantIf
  split
  · exact want3 h v
  · exact h
theorem wantIf_len (r : Scu.Replica) (v : Int) : (Scu.wantIf r v).2.length ≤ 3 := by
  unfold Scu.wantIf
  split
  · exact part_len r.me v { Scu.msg0 with kind := 3 } 3
  · exact Nat.zero_le _
theorem wantIf_view (r : Scu.Replica) (v : Int) (h : 0 ≤ r.kept.view) : 0 ≤ (Scu.wantIf r v).1.kept.view := by
  unfold Scu.wantIf
  split
  · show 0 ≤ v; omega
  · exact h
theorem hearWant_1 {r : Scu.Replica} {m : Scu.Message} {a : Scu.Replica × List Scu.Message} (ha : Scu.wantIf r m.view = a) (h : a.1.kept.calm = true ∨ a.1.wants.getD m.from_.toNat false = true) : Scu.hearWant r m = a := by
  subst ha
  unfold Scu.hearWant
  exact if_pos h
theorem hearWant_2 {r : Scu.Replica} {m : Scu.Message} {a : Scu.Replica × List Scu.Message} (ha : Scu.wantIf r m.view = a) (h : ¬ (a.1.kept.calm = true ∨ a.1.wants.getD m.from_.toNat false = true)) :
    Scu.hearWant r m = ((Scu.giveOut { a.1 with wants := a.1.wants.set m.from_.toNat true }).1, a.2 ++ (Scu.giveOut { a.1 with wants := a.1.wants.set m.from_.toNat true }).2) := by
  subst ha
  unfold Scu.hearWant Scu.giveOut
  simp only
  rw [if_neg h]
  split <;> rfl
/-- Behind the wish: what the call has come to. -/
structure WanI (w : World) (base gw gr : Nat) (r : Scu.Replica) (m : Scu.Message) (A : Option Addr) (n c : Nat) (ms : List Scu.Message) (gm : Nat) (wr : World) : Prop where
  work : WorkE wr base gw gr (Scu.wantIf r m.view).1 (ms ++ (Scu.wantIf r m.view).2)
  box : Blk wr gm 89 #[.int .i64 m.kind, .int .i64 m.from_, .int .i64 m.to, .int .i64 m.view, .int .i64 m.normal, .int .i64 m.commit, .int .i64 m.n, .slice A n c]
  low : Below base w wr
theorem onWant_e (w : World) (base gw gr : Nat) (r : Scu.Replica) (m : Scu.Message) (A : Option Addr) (n c : Nat) (ms : List Scu.Message) (hW : WorkE w base gw gr r ms) (hbase : base ≤ w.heap.size) (h3 : Rep3 r) (hv0 : 0 ≤ r.kept.view) (hf0 : 0 ≤ m.from_) (hf3 : m.from_ < 3) (hm : (ms.length + 8) * 80 ≤ R47) :
    Calls Tryd.prog 81 #[.pointer (some ⟨gw, 0, none⟩), .agg #[.int .i64 m.kind, .int .i64 m.from_, .int .i64 m.to, .int .i64 m.view, .int .i64 m.normal, .int .i64 m.commit, .int .i64 m.n, .slice A n c]] w fun e w' => e = .returned (.tuple #[]) ∧ WorkE w' base gw gr (Scu.hearWant r m).1 (ms ++ (Scu.hearWant r m).2) ∧ Below base w w' := by
  obtain ⟨lu, hv, wv, gv, nv, ov, css, hW⟩ := hW
  have HW := Lib.hid hW
  have H3 := Lib.hid h3
  have HM := Lib.hid hm
  have HMB := Lib.hid (And.intro hf0 hf3)
  clear hW h3 hm hf0 hf3
  go_enter Tryd.func81, Tryd.ntmps81
  go_upto_region 1 with fail
  obtain ⟨Wd, hWd⟩ : ∃ W, W = w.alloc (Obj.cells #[.int .i64 m.kind, .int .i64 m.from_, .int .i64 m.to, .int .i64 m.view, .int .i64 m.normal, .int .i64 m.commit, .int .i64 m.n, .slice A n c] 89) := ⟨_, rfl⟩
  rw [← hWd]
  have hbw : Below w.heap.size w Wd := by rw [hWd]; exact below_alloc _ _
  have hk : Blk Wd w.heap.size 89 #[.int .i64 m.kind, .int .i64 m.from_, .int .i64 m.to, .int .i64 m.view, .int .i64 m.normal, .int .i64 m.commit, .int .i64 m.n, .slice A n c] := by rw [hWd]; exact Blk.new _ _ _
  have HWD := Lib.hid (And.intro (HW.out.below hbw) (And.intro hk (hbw.mono hbase)))
  have hsd : base ≤ Wd.heap.size := Nat.le_trans hbase hbw.size
  have HNB := Lib.hid (show ov.ownBlock ≠ some w.heap.size from fun e => by have := (HW.out.out.row.lt _ e).2; omega)
  clear hWd hbw hk
  have d0 := HWD.out.1.wb.cell 0
  have d1 := HWD.out.1.rb.cell 1
  have k3 := HWD.out.2.1.cell 3
  simp only [List.getElem?_toArray, List.getElem?_cons_zero, List.getElem?_cons_succ] at d0 d1 k3
  have dl := HWD.out.1.wb.lt
  have dm := HWD.out.1.rb.lt
  have dk := HWD.out.2.1.lt
  by_cases hlt : r.kept.view < m.view
  · have hwi : Scu.wantIf r m.view = Scu.want r m.view := if_pos hlt
    have HWI := Lib.hid hwi
    clear hwi
    go_wp2_with fail
    go_region
    go_upto_region 2 with fail
    obtain ⟨We, hWe⟩ : ∃ W, W = Wd.drew := ⟨_, rfl⟩
    rw [← hWe]
    have HWE := Lib.hid (show Work We base gw gr r lu hv wv gv nv ov ms css ∧ Blk We w.heap.size 89 #[.int .i64 m.kind, .int .i64 m.from_, .int .i64 m.to, .int .i64 m.view, .int .i64 m.normal, .int .i64 m.commit, .int .i64 m.n, .slice A n c] ∧ Below base w We from by rw [hWe]; exact ⟨HWD.out.1.below (Below.refl _ _).drew, HWD.out.2.1, HWD.out.2.2.drew⟩)
    clear hWe d0 d1 k3 dl dm dk hlt
    have k3 := HWE.out.2.1.cell 3
    simp only [List.getElem?_toArray, List.getElem?_cons_zero, List.getElem?_cons_succ] at k3
    go_wp2_with fail
    refine (want_x We base gw gr r m.view lu hv wv gv nv ov ms css HWE.out.1 (Nat.le_trans hbase HWE.out.2.2.size) H3.out (Nat.le_trans (Nat.mul_le_mul_right 80 (by omega)) HM.out)).mono ?_; rintro en wt ⟨rfl, ⟨_, _, _, _, _, ov', _, hW2, hF⟩, hb2⟩
    have HT := Lib.hid (show WanI w base gw gr r m A n c ms w.heap.size wt from ⟨by rw [HWI.out]; exact hW2.e, (hF _ _ HWE.out.2.1 HNB.out).1, HWE.out.2.2.trans hb2⟩)
    clear hW2 hF hb2 k3
    obtain ⟨aa, haa⟩ : ∃ aa, aa = Scu.wantIf r m.view := ⟨_, rfl⟩
    have hwk := HT.out.work
    have ha3 : Rep3 aa.1 := by rw [haa]; exact wantIf3 H3.out m.view
    have hav : 0 ≤ aa.1.kept.view := by rw [haa]; exact wantIf_view r m.view hv0
    have hal : (ms ++ aa.2).length ≤ ms.length + 3 := by rw [List.length_append, haa]; have := wantIf_len r m.view; omega
    rw [← haa] at hwk
    have HA := Lib.hid (And.intro haa.symm (And.intro ha3 (And.intro hav hal)))
    clear haa ha3 hav hal
    obtain ⟨lu5, hv5, wv5, gv5, nv5, ov5, css5, hWt⟩ := hwk
    obtain ⟨g2, c2, hwu⟩ := ones3f hWt.own.own.wants HA.out.2.1.2.1
    subst hwu
    have hst : base ≤ wt.heap.size := Nat.le_trans hbase HT.out.low.size
    have d0 := hWt.wb.cell 0
    have d3 := hWt.rb.cell 3
    have d7 := hWt.rb.cell 7
    have k1 := HT.out.box.cell 1
    simp only [List.getElem?_toArray, List.getElem?_cons_zero, List.getElem?_cons_succ] at d0 d3 d7 k1
    have dl := hWt.wb.lt
    have dm := hWt.rb.lt
    have dk := HT.out.box.lt
    cases hca : aa.1.kept.calm with
    | true =>
      have hbeg := hearWant_1 HA.out.1 (.inl hca)
      rw [hca] at d3
      have HBEG := Lib.hid hbeg
      have HWT := Lib.hid hWt
      clear hbeg hWt hca
      go_wp2_with fail
      go_region
      go_wp2
      refine bodyPost_ret (v := .tuple #[]) (by simp [results, Tryd.results81]) rfl ?_
      rw [HBEG.out]
      exact ⟨rfl, (HWT.out.below (Below.refl _ _).drew).e, HT.out.low.drew⟩
    | false =>
      rw [hca] at d3
      obtain ⟨hgb, ⟨cur, hB⟩, hcw, hfw, hxx⟩ := ones3' hWt.own.own.wants HA.out.2.1.2.1
      obtain ⟨b, hb⟩ : ∃ b, b = aa.1.wants.getD m.from_.toNat false := ⟨_, rfl⟩
      have dw : wt.cell? ⟨g2, m.from_.toNat, none⟩ = some (.bool b) := by
        have hlt : m.from_.toNat < aa.1.wants.length := by rw [HA.out.2.1.2.1]; have := HMB.out; omega
        rw [hxx _ (by have := HMB.out; omega), List.getElem?_map, List.getElem?_eq_getElem hlt, hb, List.getD_eq_getElem?_getD, List.getElem?_eq_getElem hlt]
        rfl
      have dz := hfw m.from_.toNat
      have HBB := Lib.hid (And.intro hB (And.intro hgb (And.intro hb hca)))
      have HWT := Lib.hid hWt
      have hf0 := HMB.out.1
      have hf3 := HMB.out.2
      clear hxx hcw hfw hB hgb hb hWt hca
      cases b with
      | true =>
        have hbeg := hearWant_1 HA.out.1 (.inr HBB.out.2.2.1.symm)
        have HBEG := Lib.hid hbeg
        clear hbeg
        go_wp2_with fail
        go_region
        go_wp2
        refine bodyPost_ret (v := .tuple #[]) (by simp [results, Tryd.results81]) rfl ?_
        rw [HBEG.out]
        exact ⟨rfl, (HWT.out.below (Below.refl _ _).drew).e, HT.out.low.drew⟩
      | false =>
        have hbeg := hearWant_2 HA.out.1 (by rw [HBB.out.2.2.2, ← HBB.out.2.2.1]; simp)
        have HBEG := Lib.hid hbeg
        clear hbeg
        go_wp2_with fail
        go_region
        go_wp2_with fail
        go_region
        obtain ⟨W3, hW3⟩ : ∃ W, W = (wt.setCell ⟨g2, m.from_.toNat, none⟩ (.bool true)).drew.drew := ⟨_, rfl⟩
        rw [← hW3]
        have HN3 := Lib.hid (show WorkE W3 base gw gr { aa.1 with wants := aa.1.wants.set m.from_.toNat true } (ms ++ aa.2) ∧ Below base w W3 from by
          obtain ⟨a1, a2, _⟩ := HWT.out.put_wants HBB.out.1 HBB.out.2.1 m.from_.toNat true
          rw [hW3]
          exact ⟨(a1.below (Below.refl _ _).drew.drew).e, (HT.out.low.trans a2).drew.drew⟩)
        clear hW3 d0 d3 d7 k1 dl dm dk dw dz
        have hs3 : base ≤ W3.heap.size := Nat.le_trans hbase HN3.out.2.size
        go_wp2_with fail
        refine (give_e W3 base gw gr _ (ms ++ aa.2) HN3.out.1 hs3 (show Rep3 { aa.1 with wants := aa.1.wants.set m.from_.toNat true } from ⟨HA.out.2.1.1, by simp [HA.out.2.1.2.1], HA.out.2.1.2.2⟩) HA.out.2.2.1 (Nat.le_trans (Nat.mul_le_mul_right 80 (by have := HA.out.2.2.2; omega)) HM.out)).mono ?_; rintro en w4 ⟨rfl, hW4, hb4⟩
        have HX := Lib.hid (And.intro hW4 (HN3.out.2.trans hb4))
        clear hW4 hb4
        rename_i KK hKK
        refine hKK _ _ ?_
        dsimp only [wpList]
        go_end0
        rw [HBEG.out]
        refine ⟨rfl, ?_, HX.out.2⟩
        rw [← List.append_assoc]
        exact HX.out.1
  · have hwi : Scu.wantIf r m.view = (r, []) := if_neg hlt
    have HWI := Lib.hid hwi
    clear hwi
    go_wp2_with fail
    go_region
    go_upto_region 3 with fail
    obtain ⟨wt, hwt⟩ : ∃ W, W = Wd.drew := ⟨_, rfl⟩
    rw [← hwt]
    have HT := Lib.hid (show WanI w base gw gr r m A n c ms w.heap.size wt from by rw [hwt]; exact ⟨by rw [HWI.out, List.append_nil]; exact (HWD.out.1.below (Below.refl _ _).drew).e, HWD.out.2.1, HWD.out.2.2.drew⟩)
    clear hwt d0 d1 k3 dl dm dk hlt
    obtain ⟨aa, haa⟩ : ∃ aa, aa = Scu.wantIf r m.view := ⟨_, rfl⟩
    have hwk := HT.out.work
    have ha3 : Rep3 aa.1 := by rw [haa]; exact wantIf3 H3.out m.view
    have hav : 0 ≤ aa.1.kept.view := by rw [haa]; exact wantIf_view r m.view hv0
    have hal : (ms ++ aa.2).length ≤ ms.length + 3 := by rw [List.length_append, haa]; have := wantIf_len r m.view; omega
    rw [← haa] at hwk
    have HA := Lib.hid (And.intro haa.symm (And.intro ha3 (And.intro hav hal)))
    clear haa ha3 hav hal
    obtain ⟨lu5, hv5, wv5, gv5, nv5, ov5, css5, hWt⟩ := hwk
    obtain ⟨g2, c2, hwu⟩ := ones3f hWt.own.own.wants HA.out.2.1.2.1
    subst hwu
    have hst : base ≤ wt.heap.size := Nat.le_trans hbase HT.out.low.size
    have d0 := hWt.wb.cell 0
    have d3 := hWt.rb.cell 3
    have d7 := hWt.rb.cell 7
    have k1 := HT.out.box.cell 1
    simp only [List.getElem?_toArray, List.getElem?_cons_zero, List.getElem?_cons_succ] at d0 d3 d7 k1
    have dl := hWt.wb.lt
    have dm := hWt.rb.lt
    have dk := HT.out.box.lt
    cases hca : aa.1.kept.calm with
    | true =>
      have hbeg := hearWant_1 HA.out.1 (.inl hca)
      rw [hca] at d3
      have HBEG := Lib.hid hbeg
      have HWT := Lib.hid hWt
      clear hbeg hWt hca
      go_wp2_with fail
      go_region
      go_wp2
      refine bodyPost_ret (v := .tuple #[]) (by simp [results, Tryd.results81]) rfl ?_
      rw [HBEG.out]
      exact ⟨rfl, (HWT.out.below (Below.refl _ _).drew).e, HT.out.low.drew⟩
    | false =>
      rw [hca] at d3
      obtain ⟨hgb, ⟨cur, hB⟩, hcw, hfw, hxx⟩ := ones3' hWt.own.own.wants HA.out.2.1.2.1
      obtain ⟨b, hb⟩ : ∃ b, b = aa.1.wants.getD m.from_.toNat false := ⟨_, rfl⟩
      have dw : wt.cell? ⟨g2, m.from_.toNat, none⟩ = some (.bool b) := by
        have hlt : m.from_.toNat < aa.1.wants.length := by rw [HA.out.2.1.2.1]; have := HMB.out; omega
        rw [hxx _ (by have := HMB.out; omega), List.getElem?_map, List.getElem?_eq_getElem hlt, hb, List.getD_eq_getElem?_getD, List.getElem?_eq_getElem hlt]
        rfl
      have dz := hfw m.from_.toNat
      have HBB := Lib.hid (And.intro hB (And.intro hgb (And.intro hb hca)))
      have HWT := Lib.hid hWt
      have hf0 := HMB.out.1
      have hf3 := HMB.out.2
      clear hxx hcw hfw hB hgb hb hWt hca
      cases b with
      | true =>
        have hbeg := hearWant_1 HA.out.1 (.inr HBB.out.2.2.1.symm)
        have HBEG := Lib.hid hbeg
        clear hbeg
        go_wp2_with fail
        go_region
        go_wp2
        refine bodyPost_ret (v := .tuple #[]) (by simp [results, Tryd.results81]) rfl ?_
        rw [HBEG.out]
        exact ⟨rfl, (HWT.out.below (Below.refl _ _).drew).e, HT.out.low.drew⟩
      | false =>
        have hbeg := hearWant_2 HA.out.1 (by rw [HBB.out.2.2.2, ← HBB.out.2.2.1]; simp)
        have HBEG := Lib.hid hbeg
        clear hbeg
        go_wp2_with fail
        go_region
        go_wp2_with fail
        go_region
        obtain ⟨W3, hW3⟩ : ∃ W, W = (wt.setCell ⟨g2, m.from_.toNat, none⟩ (.bool true)).drew.drew := ⟨_, rfl⟩
        rw [← hW3]
        have HN3 := Lib.hid (show WorkE W3 base gw gr { aa.1 with wants := aa.1.wants.set m.from_.toNat true } (ms ++ aa.2) ∧ Below base w W3 from by
          obtain ⟨a1, a2, _⟩ := HWT.out.put_wants HBB.out.1 HBB.out.2.1 m.from_.toNat true
          rw [hW3]
          exact ⟨(a1.below (Below.refl _ _).drew.drew).e, (HT.out.low.trans a2).drew.drew⟩)
        clear hW3 d0 d3 d7 k1 dl dm dk dw dz
        have hs3 : base ≤ W3.heap.size := Nat.le_trans hbase HN3.out.2.size
        go_wp2_with fail
        refine (give_e W3 base gw gr _ (ms ++ aa.2) HN3.out.1 hs3 (show Rep3 { aa.1 with wants := aa.1.wants.set m.from_.toNat true } from ⟨HA.out.2.1.1, by simp [HA.out.2.1.2.1], HA.out.2.1.2.2⟩) HA.out.2.2.1 (Nat.le_trans (Nat.mul_le_mul_right 80 (by have := HA.out.2.2.2; omega)) HM.out)).mono ?_; rintro en w4 ⟨rfl, hW4, hb4⟩
        have HX := Lib.hid (And.intro hW4 (HN3.out.2.trans hb4))
        clear hW4 hb4
        rename_i KK hKK
        refine hKK _ _ ?_
        dsimp only [wpList]
        go_end0
        rw [HBEG.out]
        refine ⟨rfl, ?_, HX.out.2⟩
        rw [← List.append_assoc]
        exact HX.out.1
end Go.Proofs.YtfpiembhlgcelaaDoor

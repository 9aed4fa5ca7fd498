/- Part 23: words and walks under the law 'LeadersLead'. -/
import Derived.Test.YtfpiembhlgcelaaDoorLed22
import Derived.Test.YtfpiembhlgcelaaDoorLed18
import Derived.Test.YtfpiembhlgcelaaDoorLed5
import Derived.Deep.RegionLaw
import Derived.Test.YtfpiembhlgcelaaDoorLed3
import Derived.Test.YtfpiembhlgcelaaDoorLed6
set_option linter.unusedVariables false
set_option linter.unusedSimpArgs false
/- Words: requests in a row. Walks: scullingkeep.Requests. -/
namespace Go.Proofs.YtfpiembhlgcelaaDoor
set_option linter.unusedVariables false
set_option linter.unusedSimpArgs false
open Go.RowKit
set_option maxHeartbeats 4000000
set_option maxRecDepth 100000

abbrev reqInt : Int → Value := Value.int .i64
def reqV (q : Scu.Request) : List Value := [.int .i64 q.client, .int .i64 q.num, .int .i64 q.op.kind, .int .i64 q.op.at_, .int .i64 q.op.snap, .string q.op.data]
def ReqE (_ : World) (_ : Nat) (cs : List Value) (q : Scu.Request) : Prop := cs = reqV q
theorem el_reqs : ElT 23 28 6 56 := by
  obtain ⟨i, h1, h2, h3, h4⟩ := info_parts (P := Tryd.prog) (e := 28) (z := .agg #[.int .i64 0, .int .i64 0, .int .i64 0, .int .i64 0, .int .i64 0, .string ByteArray.empty]) (size := 6) (bytes := 56) (by kernel_rfl)
  exact ⟨Tryd.underlying23, by omega, i, _, h1, h2, h3, h4, rfl⟩
theorem addr_add0' (g j : Nat) : (⟨g, 0, none⟩ : Addr).add j = ⟨g, j, none⟩ := by unfold Addr.add; split <;> simp_all
/-- What one append of a boxed thing takes. -/
theorem src_box {w : World} {t : TypeId} {cs : List Value} {m : Nat} (hm : cs.length = m) : Src1 (w.alloc (.cells cs.toArray t)) m (.slice (some ⟨w.heap.size, 0, none⟩) 1 1) 1 cs := by
  refine ⟨by rw [hm, Nat.one_mul], .inr ⟨_, _, rfl, fun j v hj => ?_⟩⟩
  rw [addr_add0', (Blk.new w t cs.toArray).cell j]
  simpa using hj
structure ReqI (w : World) (B : Nat) (v : Value) (l : List Scu.Raw) (gx : Nat) (nx : List Int) (qs : List Scu.Request) (ov : Value) (css : List (List Value)) (wr : World) : Prop where
  nxt : Blk wr gx 120 (nx.map reqInt).toArray
  out : OwnR 28 6 56 ReqE wr (w.heap.size + 1) ov qs css
  raws : IsRaws wr B v l
  low : Below w.heap.size w wr
theorem ReqI.below {w : World} {B : Nat} {v : Value} {l : List Scu.Raw} {gx : Nat} {nx : List Int} {qs : List Scu.Request} {ov : Value} {css : List (List Value)} {wr w' : World} (h : ReqI w B v l gx nx qs ov css wr) (hb : Below wr.heap.size wr w') : ReqI w B v l gx nx qs ov css w' :=
  ⟨h.nxt.same hb, h.out.same (Ts := [28]) (B := 0) (by simp) (Same.below hb) (fun _ _ h => h), h.raws.below hb, h.low.trans (hb.mono h.low.size)⟩
theorem ReqI.setNext {w : World} {B : Nat} {v : Value} {l : List Scu.Raw} {gx : Nat} {nx : List Int} {qs : List Scu.Request} {ov : Value} {css : List (List Value)} {wr : World} (h : ReqI w B v l gx nx qs ov css wr) (hg : gx = w.heap.size) (hB : B ≤ w.heap.size) (ht : 120 ∉ [28, 43]) (j : Nat) (x : Int) :
    ReqI w B v l gx (nx.set j x) qs ov css (wr.setCell ⟨gx, j, none⟩ (.int .i64 x)) := by
  have hs : Same [28, 43] B wr (wr.setCell ⟨gx, j, none⟩ (.int .i64 x)) := Same.set_ h.nxt (by omega) ht j _
  refine ⟨?_, h.out.same (by simp) hs (fun _ _ h => h), h.raws.same (by simp) hs, h.low.setCell (p := ⟨gx, j, none⟩) (by show w.heap.size ≤ gx; omega) _⟩
  have := h.nxt.set_ j (.int .i64 x)
  rw [List.setIfInBounds_toArray] at this
  rw [List.map_set]
  exact this
theorem ReqI.push {w P w4 : World} {B : Nat} {v v4 : Value} {l : List Scu.Raw} {gx : Nat} {nx : List Int} {qs : List Scu.Request} {ov : Value} {css : List (List Value)} {q : Scu.Request} (h : ReqI w B v l gx nx qs ov css P) (hB : B ≤ w.heap.size) (hm : (qs.length + 1) * 56 ≤ R47)
    (h4 : w4.ownsRow (w.heap.size + 1) 28 6 v4 (qs.length + 1) (css.flatten ++ reqV q)) (hg : P.grownBy w4 ov.ownBlock) (ht : 28 ∉ [120, 43]) : ReqI w B v l gx nx (qs ++ [q]) v4 (css ++ [reqV q]) w4 := by
  have hs : Same [120, 43] B P w4 := Same.own h.out.row hg (by omega) ht
  refine ⟨?_, h.out.push hm rfl rfl h4 (fun _ _ h => h), h.raws.same (by simp) hs, h.low.grown hg h.low.size (fun k hk => by have := (h.out.lt k hk).1; omega)⟩
  have hs0 : Same [120] 0 P w4 := Same.own h.out.row hg (by omega) (fun e => ht (by simp only [List.mem_cons, List.not_mem_nil, or_false] at e ⊢; exact .inl e))
  exact (hs0.keep gx h.nxt.lt (.inr ⟨_, _, _, by simp, h.nxt⟩)).trans h.nxt
theorem reqs_next {l : List Scu.Raw} {k : Nat} (hk : k < l.length) : Scu.reqsOf (l.take (k + 1)) = Scu.reqStep (Scu.reqsOf (l.take k)) l[k] := by
  rw [show l.take (k + 1) = l.take k ++ [l[k]] from by rw [List.take_add_one, List.getElem?_eq_getElem hk]; rfl, Scu.reqsOf_snoc]
theorem next_cell {nx : List Int} (h5 : nx.length = 5) {j : Nat} (hj : j < 5) : (nx.map reqInt).toArray[j]? = some (.int .i64 (nx.getD j 0)) := by
  rw [List.getElem?_toArray, List.getElem?_map, List.getElem?_eq_getElem (by omega), List.getD_eq_getElem?_getD, List.getElem?_eq_getElem (by omega)]
  rfl
theorem requests_c (v : Value) (l : List Scu.Raw) (most : Nat) (w : World) (B : Nat) (hB : B ≤ w.heap.size) (hl : IsRaws w B v l) (ht : Tab w) (hm : most ≤ 1000) :
    Calls Tryd.prog 18 #[v, .int .i64 most] w fun e w' => (∃ A c css, e = .returned (.slice A (Scu.requests l most).length c) ∧ OwnR 28 6 56 ReqE w' w.heap.size (.slice A (Scu.requests l most).length c) (Scu.requests l most) css) ∧ Below w.heap.size w w' := by
  obtain ⟨Al, cl, rfl, hll⟩ := hl.form'
  have hl47 := hl.len
  unfold R47 at hl47
  have HT := Lib.hid ht
  have h0 := below_alloc w (Obj.cells #[.int .i64 0, .int .i64 0, .int .i64 0, .int .i64 0, .int .i64 0] 120)
  have HI := Lib.hid (show ReqI w B (.slice Al l.length cl) l w.heap.size [0, 0, 0, 0, 0] [] (.slice none 0 0) [] (w.alloc (Obj.cells #[.int .i64 0, .int .i64 0, .int .i64 0, .int .i64 0, .int .i64 0] 120)) from ⟨Blk.new w _ _, OwnR.nil_, hl.below h0, h0⟩)
  clear ht hl h0
  go_enter Tryd.func18, Tryd.ntmps18
  go_wp2_with fail
  go_loopw [5, 7, 8] (fun o i _ wr => ∃ (k : Nat) (Ao : Option Addr) (co : Nat) (css : List (List Value)), k ≤ most ∧ k ≤ l.length ∧ i = .int .i64 k ∧ o = .slice Ao (Scu.reqsOf (l.take k)).1.length co ∧ ReqI w B (.slice Al l.length cl) l w.heap.size (Scu.reqsOf (l.take k)).2 (Scu.reqsOf (l.take k)).1 (.slice Ao (Scu.reqsOf (l.take k)).1.length co) css wr) (fun _ i _ _ => most - (intOf i).toNat)
  case atStart => exact ⟨0, none, 0, [], Nat.zero_le _, Nat.zero_le _, rfl, rfl, HI.out⟩
  case round =>
    obtain ⟨k, Ao, co, css, hkm, hkl, rfl, rfl, hI⟩ := hrel
    obtain ⟨qs, nx, hst⟩ : ∃ qs nx, Scu.reqsOf (l.take k) = (qs, nx) := ⟨_, _, rfl⟩
    have hok := Scu.reqs_ok (l.take k)
    rw [hst] at hI hok ⊢
    dsimp only at hI ⊢
    have hBw := hB
    by_cases hlt : k < l.length
    · by_cases hlm : k < most
      · have hlt' : (k : Int) < (l.length : Int) := by omega
        have hlm' : (k : Int) < (most : Int) := by omega
        obtain ⟨gl, ol, cl', e, hgl, _, hin⟩ := raw_at hI.raws hlt
        obtain rfl : Al = some ⟨gl, ol, none⟩ := by cases e; rfl
        clear e cl'
        have c1 : wr.cell? ⟨gl, ol + k * 4 + 1, none⟩ = some (.int .i64 l[k].a) := hI.raws.cell_at hlt 1 (by decide)
        have c3 : wr.cell? ⟨gl, ol + k * 4 + 3, none⟩ = some (.int .i64 l[k].c) := hI.raws.cell_at hlt 3 (by decide)
        obtain ⟨p, hp⟩ : ∃ p, Scu.picked l[k].c 4 = p := ⟨_, rfl⟩
        have hp01 := Scu.picked_lt (n := l[k].c) (many := 4) (by decide)
        rw [hp] at hp01
        have hp0 := hp01.1
        have hp4 := hp01.2
        have hn5 : nx.length = 5 := hok.five
        have hlk : (l.take k).length = k := by rw [List.length_take]; omega
        have hnvb := hok.nums _ (Scu.getD_mem (l := nx) (n := (1 + p).toNat) (d := 0) (by omega))
        have hqle : qs.length ≤ 1000 := by have h : qs.length = (l.take k).length := hok.len; rw [hlk] at h; omega
        rw [hlk] at hnvb
        obtain ⟨nv, hnv⟩ : ∃ nv, nx.getD (1 + p).toNat 0 = nv := ⟨_, rfl⟩
        rw [hnv] at hnvb
        have hnv0 := hnvb.1
        have hnv1 := hnvb.2
        have cn : wr.cell? ⟨w.heap.size, (1 + p).toNat, none⟩ = some (.int .i64 nv) := by rw [hI.nxt.cell, ← hnv]; exact next_cell hn5 (by omega)
        have cz := hI.nxt.frozen
        have HIR := Lib.hid hI
        have HST := Lib.hid hst
        have HP := Lib.hid hp
        have HNV := Lib.hid hnv
        have HIN := Lib.hid hin
        have HL5 := Lib.hid hn5
        have hgl5 := hI.nxt.lt
        clear hI hst hp hp01 hok hnvb hnv hin hlk hn5
        go_wp2_with fail
        refine (picked_c _ _ HIN.out.2.2.2 (by decide) (by decide) _).mono ?_; rintro e w' ⟨rfl, rfl⟩
        rw [HP.out]
        by_cases hz : nv = 0
        · have hzb : (nv == 0) = true := by simpa using hz
          obtain ⟨nx', hnx'⟩ : ∃ y, nx.set (1 + p).toNat (nv + 1) = y := ⟨_, rfl⟩
          have hn5' : nx'.length = 5 := by rw [← hnx', List.length_set]; exact HL5.out
          have HNX' := Lib.hid hnx'
          have HZ := Lib.hid hz
          clear hnx' hz
          go_upto_region 9 with fail
          obtain ⟨Wn, hWn⟩ : ∃ W, W = (wr.setCell ⟨w.heap.size, (1 + p).toNat, none⟩ (.int .i64 (nv + 1))) := ⟨_, rfl⟩
          rw [← hWn]
          have HN := Lib.hid (show ReqI w B (.slice (some ⟨gl, ol, none⟩) l.length cl) l w.heap.size nx' qs (.slice Ao qs.length co) css Wn from by rw [hWn]; exact (by rw [← HNX'.out]; exact HIR.out.setNext rfl hBw (by decide) _ _))
          clear hWn c1 c3 cn cz HIR
          obtain ⟨x, hx⟩ : ∃ x, nx'.getD (1 + p).toNat 0 = x := ⟨_, rfl⟩
          have c0 : Wn.cell? ⟨gl, ol + k * 4, none⟩ = some (.int .i64 l[k].kind) := HN.out.raws.cell_at hlt 0 (by decide)
          have c1 : Wn.cell? ⟨gl, ol + k * 4 + 1, none⟩ = some (.int .i64 l[k].a) := HN.out.raws.cell_at hlt 1 (by decide)
          have c2 : Wn.cell? ⟨gl, ol + k * 4 + 2, none⟩ = some (.int .i64 l[k].b) := HN.out.raws.cell_at hlt 2 (by decide)
          have c3 : Wn.cell? ⟨gl, ol + k * 4 + 3, none⟩ = some (.int .i64 l[k].c) := HN.out.raws.cell_at hlt 3 (by decide)
          have cn : Wn.cell? ⟨w.heap.size, (1 + p).toNat, none⟩ = some (.int .i64 x) := by rw [HN.out.nxt.cell, ← hx]; exact next_cell hn5' (by omega)
          have gll : gl < Wn.heap.size := by obtain ⟨g', o', c', e, hg, _⟩ := raw_at HN.out.raws hlt; cases e; exact hg
          have wll : w.heap.size < Wn.heap.size := HN.out.nxt.lt
          obtain ⟨oq, hoq⟩ : ∃ o, Scu.rawOp l[k] = o := ⟨_, rfl⟩
          have HOQ := Lib.hid hoq
          clear hoq
          have hc0 : (0 : Int) ≤ 1 + p := by omega
          have hc5 : (1 : Int) + p < 5 := by omega
          have HX := Lib.hid hx
          have HN5 := Lib.hid hn5'
          clear hx hn5'
          go_wp2_with fail
          go_region_held3 (fun w' => w'.cell? ⟨gl, ol + k * 4, none⟩ = some (.int .i64 l[k].kind) ∧ w'.cell? ⟨gl, ol + k * 4 + 1, none⟩ = some (.int .i64 l[k].a) ∧ w'.cell? ⟨gl, ol + k * 4 + 2, none⟩ = some (.int .i64 l[k].b) ∧ w'.cell? ⟨gl, ol + k * 4 + 3, none⟩ = some (.int .i64 l[k].c) ∧ w'.cell? ⟨w.heap.size, (1 + p).toNat, none⟩ = some (.int .i64 x))
            (first | (go_split_ands; (try dsimp only); (repeat' apply And.intro) <;> (with_reducible assumption)) | (go_split_ands; (try dsimp only); exact ⟨c0, c1, c2, c3, cn⟩) | (go_split_ands; (try dsimp only); exact ⟨f0, f1, f2, f3, fn⟩) | go_keep)
            (first
            | (go_at_call 23; refine (kop_o l[k] HIN.out oq HOQ.out _ ((HT.out.below HN.out.low).drewN 1)).mono ?_; rintro en x1 ⟨rfl, k1'⟩
               refine useK (P := Below Wn.heap.size Wn x1) ?_ ?_
               exact (below_drewN (Below.refl _ _) 1).trans k1'
               intro nn1
               have M1 := Lib.hid nn1
               have d0 := (nn1.cell (p := ⟨gl, ol + k * 4, none⟩) gll).trans c0
               have d1 := (nn1.cell (p := ⟨gl, ol + k * 4 + 1, none⟩) gll).trans c1
               have d2 := (nn1.cell (p := ⟨gl, ol + k * 4 + 2, none⟩) gll).trans c2
               have d3 := (nn1.cell (p := ⟨gl, ol + k * 4 + 3, none⟩) gll).trans c3
               have dn := (nn1.cell (p := ⟨w.heap.size, (1 + p).toNat, none⟩) wll).trans cn
               have hal := nn1.trans ((below_alloc x1 (Obj.cells (reqV ⟨1 + p, x, oq⟩).toArray 28)).mono nn1.size)
               have e0 := (hal.cell (p := ⟨gl, ol + k * 4, none⟩) gll).trans c0
               have e1 := (hal.cell (p := ⟨gl, ol + k * 4 + 1, none⟩) gll).trans c1
               have e2 := (hal.cell (p := ⟨gl, ol + k * 4 + 2, none⟩) gll).trans c2
               have e3 := (hal.cell (p := ⟨gl, ol + k * 4 + 3, none⟩) gll).trans c3
               have en := (hal.cell (p := ⟨w.heap.size, (1 + p).toNat, none⟩) wll).trans cn
               clear nn1 k1' hal)
            | (refine step_app _ (by rfl) (.tmp 45) (.tmp 56) 23 (by rfl) el_reqs (w.heap.size + 1) (.slice Ao qs.length co) qs.length css.flatten (by rfl) ?_ (.slice (some ⟨x1.heap.size, 0, none⟩) 1 1) 1 (reqV ⟨1 + p, x, oq⟩) (by rfl) (src_box (by rfl)) ?_ ?_ ?_ ?_ ?_
               · exact own_below (own_below HN.out.out.row M1.out) (below_alloc x1 _)
               · (intro v hv; simp only [reqV, List.mem_cons, List.not_mem_nil, or_false] at hv; rcases hv with rfl | rfl | rfl | rfl | rfl | rfl <;> rfl)
               · (unfold maxLen; omega)
               · omega
               · (have := HN.out.low.size; have := M1.out.size; simp; omega)
               intro v4 x4 h4 hg4 _
               have hP := (HN.out.below M1.out).below (below_alloc x1 (Obj.cells (reqV ⟨1 + p, x, oq⟩).toArray 28))
               have hnx := hP.push hBw (by unfold R47; omega) h4 hg4 (by decide)
               have f0 : x4.cell? ⟨gl, ol + k * 4, none⟩ = some (.int .i64 l[k].kind) := hnx.raws.cell_at hlt 0 (by decide)
               have f1 : x4.cell? ⟨gl, ol + k * 4 + 1, none⟩ = some (.int .i64 l[k].a) := hnx.raws.cell_at hlt 1 (by decide)
               have f2 : x4.cell? ⟨gl, ol + k * 4 + 2, none⟩ = some (.int .i64 l[k].b) := hnx.raws.cell_at hlt 2 (by decide)
               have f3 : x4.cell? ⟨gl, ol + k * 4 + 3, none⟩ = some (.int .i64 l[k].c) := hnx.raws.cell_at hlt 3 (by decide)
               have fn : x4.cell? ⟨w.heap.size, (1 + p).toNat, none⟩ = some (.int .i64 x) := by rw [hnx.nxt.cell, ← HX.out]; exact next_cell HN5.out (by omega)
               obtain ⟨A9, c9, rfl, _, _, _, _⟩ := rd_own h4
               have HNX := Lib.hid hnx
               clear hP hnx h4 hg4)
            | fail)
          all_goals
            rename_i hHeld
            clear hHeld
            have hnext : Scu.reqsOf (l.take (k + 1)) = (qs ++ [⟨1 + p, x, oq⟩], nx') := by
              rw [reqs_next hlt, HST.out]
              simp only [Scu.reqStep]
              rw [HP.out, (if_pos (.inl (by rw [HNV.out]; exact HZ.out))), HNV.out, HNX'.out, HX.out, HOQ.out]
            have HNEXT := Lib.hid hnext
            have HLEN := Lib.hid (show (Scu.reqsOf (l.take (k + 1))).1.length = qs.length + 1 by rw [hnext]; simp)
            clear hnext c0 c1 c2 c3 cn d0 d1 d2 d3 dn e0 e1 e2 e3 en f0 f1 f2 f3 fn
            go_wp2_with fail
            go_roundw
            case rel => exact ⟨k + 1, A9, c9, _, by omega, by omega, rfl, by rw [HLEN.out], by rw [HNEXT.out]; simpa using HNX.out⟩
            case measure => simp only [intOf]; omega
        · have hzb : (nv == 0) = false := by simpa using hz
          have HZ := Lib.hid hz
          clear hz
          obtain ⟨pa, hpa⟩ : ∃ pa, Scu.picked l[k].a 4 = pa := ⟨_, rfl⟩
          have HPA := Lib.hid hpa
          clear hpa
          go_wp2_with fail
          refine (picked_c _ _ HIN.out.2.1 (by decide) (by decide) _).mono ?_; rintro e w' ⟨rfl, rfl⟩
          rw [HPA.out]
          by_cases hg : 0 < pa
          · obtain ⟨nx', hnx'⟩ : ∃ y, nx.set (1 + p).toNat (nv + 1) = y := ⟨_, rfl⟩
            have hn5' : nx'.length = 5 := by rw [← hnx', List.length_set]; exact HL5.out
            have HNX' := Lib.hid hnx'
            clear hnx'
            go_upto_region 9 with fail
            obtain ⟨Wn, hWn⟩ : ∃ W, W = (wr.setCell ⟨w.heap.size, (1 + p).toNat, none⟩ (.int .i64 (nv + 1))) := ⟨_, rfl⟩
            rw [← hWn]
            have HN := Lib.hid (show ReqI w B (.slice (some ⟨gl, ol, none⟩) l.length cl) l w.heap.size nx' qs (.slice Ao qs.length co) css Wn from by rw [hWn]; exact (by rw [← HNX'.out]; exact HIR.out.setNext rfl hBw (by decide) _ _))
            clear hWn c1 c3 cn cz HIR
            obtain ⟨x, hx⟩ : ∃ x, nx'.getD (1 + p).toNat 0 = x := ⟨_, rfl⟩
            have c0 : Wn.cell? ⟨gl, ol + k * 4, none⟩ = some (.int .i64 l[k].kind) := HN.out.raws.cell_at hlt 0 (by decide)
            have c1 : Wn.cell? ⟨gl, ol + k * 4 + 1, none⟩ = some (.int .i64 l[k].a) := HN.out.raws.cell_at hlt 1 (by decide)
            have c2 : Wn.cell? ⟨gl, ol + k * 4 + 2, none⟩ = some (.int .i64 l[k].b) := HN.out.raws.cell_at hlt 2 (by decide)
            have c3 : Wn.cell? ⟨gl, ol + k * 4 + 3, none⟩ = some (.int .i64 l[k].c) := HN.out.raws.cell_at hlt 3 (by decide)
            have cn : Wn.cell? ⟨w.heap.size, (1 + p).toNat, none⟩ = some (.int .i64 x) := by rw [HN.out.nxt.cell, ← hx]; exact next_cell hn5' (by omega)
            have gll : gl < Wn.heap.size := by obtain ⟨g', o', c', e, hg, _⟩ := raw_at HN.out.raws hlt; cases e; exact hg
            have wll : w.heap.size < Wn.heap.size := HN.out.nxt.lt
            obtain ⟨oq, hoq⟩ : ∃ o, Scu.rawOp l[k] = o := ⟨_, rfl⟩
            have HOQ := Lib.hid hoq
            clear hoq
            have hc0 : (0 : Int) ≤ 1 + p := by omega
            have hc5 : (1 : Int) + p < 5 := by omega
            have HX := Lib.hid hx
            have HN5 := Lib.hid hn5'
            clear hx hn5'
            go_wp2_with fail
            go_region_held3 (fun w' => w'.cell? ⟨gl, ol + k * 4, none⟩ = some (.int .i64 l[k].kind) ∧ w'.cell? ⟨gl, ol + k * 4 + 1, none⟩ = some (.int .i64 l[k].a) ∧ w'.cell? ⟨gl, ol + k * 4 + 2, none⟩ = some (.int .i64 l[k].b) ∧ w'.cell? ⟨gl, ol + k * 4 + 3, none⟩ = some (.int .i64 l[k].c) ∧ w'.cell? ⟨w.heap.size, (1 + p).toNat, none⟩ = some (.int .i64 x))
              (first | (go_split_ands; (try dsimp only); (repeat' apply And.intro) <;> (with_reducible assumption)) | (go_split_ands; (try dsimp only); exact ⟨c0, c1, c2, c3, cn⟩) | (go_split_ands; (try dsimp only); exact ⟨f0, f1, f2, f3, fn⟩) | go_keep)
              (first
              | (go_at_call 23; refine (kop_o l[k] HIN.out oq HOQ.out _ ((HT.out.below HN.out.low).drewN 1)).mono ?_; rintro en x1 ⟨rfl, k1'⟩
                 refine useK (P := Below Wn.heap.size Wn x1) ?_ ?_
                 exact (below_drewN (Below.refl _ _) 1).trans k1'
                 intro nn1
                 have M1 := Lib.hid nn1
                 have d0 := (nn1.cell (p := ⟨gl, ol + k * 4, none⟩) gll).trans c0
                 have d1 := (nn1.cell (p := ⟨gl, ol + k * 4 + 1, none⟩) gll).trans c1
                 have d2 := (nn1.cell (p := ⟨gl, ol + k * 4 + 2, none⟩) gll).trans c2
                 have d3 := (nn1.cell (p := ⟨gl, ol + k * 4 + 3, none⟩) gll).trans c3
                 have dn := (nn1.cell (p := ⟨w.heap.size, (1 + p).toNat, none⟩) wll).trans cn
                 have hal := nn1.trans ((below_alloc x1 (Obj.cells (reqV ⟨1 + p, x, oq⟩).toArray 28)).mono nn1.size)
                 have e0 := (hal.cell (p := ⟨gl, ol + k * 4, none⟩) gll).trans c0
                 have e1 := (hal.cell (p := ⟨gl, ol + k * 4 + 1, none⟩) gll).trans c1
                 have e2 := (hal.cell (p := ⟨gl, ol + k * 4 + 2, none⟩) gll).trans c2
                 have e3 := (hal.cell (p := ⟨gl, ol + k * 4 + 3, none⟩) gll).trans c3
                 have en := (hal.cell (p := ⟨w.heap.size, (1 + p).toNat, none⟩) wll).trans cn
                 clear nn1 k1' hal)
              | (refine step_app _ (by rfl) (.tmp 45) (.tmp 56) 23 (by rfl) el_reqs (w.heap.size + 1) (.slice Ao qs.length co) qs.length css.flatten (by rfl) ?_ (.slice (some ⟨x1.heap.size, 0, none⟩) 1 1) 1 (reqV ⟨1 + p, x, oq⟩) (by rfl) (src_box (by rfl)) ?_ ?_ ?_ ?_ ?_
                 · exact own_below (own_below HN.out.out.row M1.out) (below_alloc x1 _)
                 · (intro v hv; simp only [reqV, List.mem_cons, List.not_mem_nil, or_false] at hv; rcases hv with rfl | rfl | rfl | rfl | rfl | rfl <;> rfl)
                 · (unfold maxLen; omega)
                 · omega
                 · (have := HN.out.low.size; have := M1.out.size; simp; omega)
                 intro v4 x4 h4 hg4 _
                 have hP := (HN.out.below M1.out).below (below_alloc x1 (Obj.cells (reqV ⟨1 + p, x, oq⟩).toArray 28))
                 have hnx := hP.push hBw (by unfold R47; omega) h4 hg4 (by decide)
                 have f0 : x4.cell? ⟨gl, ol + k * 4, none⟩ = some (.int .i64 l[k].kind) := hnx.raws.cell_at hlt 0 (by decide)
                 have f1 : x4.cell? ⟨gl, ol + k * 4 + 1, none⟩ = some (.int .i64 l[k].a) := hnx.raws.cell_at hlt 1 (by decide)
                 have f2 : x4.cell? ⟨gl, ol + k * 4 + 2, none⟩ = some (.int .i64 l[k].b) := hnx.raws.cell_at hlt 2 (by decide)
                 have f3 : x4.cell? ⟨gl, ol + k * 4 + 3, none⟩ = some (.int .i64 l[k].c) := hnx.raws.cell_at hlt 3 (by decide)
                 have fn : x4.cell? ⟨w.heap.size, (1 + p).toNat, none⟩ = some (.int .i64 x) := by rw [hnx.nxt.cell, ← HX.out]; exact next_cell HN5.out (by omega)
                 obtain ⟨A9, c9, rfl, _, _, _, _⟩ := rd_own h4
                 have HNX := Lib.hid hnx
                 clear hP hnx h4 hg4)
              | fail)
            all_goals
              rename_i hHeld
              clear hHeld
              have hnext : Scu.reqsOf (l.take (k + 1)) = (qs ++ [⟨1 + p, x, oq⟩], nx') := by
                rw [reqs_next hlt, HST.out]
                simp only [Scu.reqStep]
                rw [HP.out, (if_pos (.inr (by rw [HPA.out]; exact hg))), HNV.out, HNX'.out, HX.out, HOQ.out]
              have HNEXT := Lib.hid hnext
              have HLEN := Lib.hid (show (Scu.reqsOf (l.take (k + 1))).1.length = qs.length + 1 by rw [hnext]; simp)
              clear hnext c0 c1 c2 c3 cn d0 d1 d2 d3 dn e0 e1 e2 e3 en f0 f1 f2 f3 fn
              go_wp2_with fail
              go_roundw
              case rel => exact ⟨k + 1, A9, c9, _, by omega, by omega, rfl, by rw [HLEN.out], by rw [HNEXT.out]; simpa using HNX.out⟩
              case measure => simp only [intOf]; omega
          · obtain ⟨nx', hnx'⟩ : ∃ y, nx = y := ⟨_, rfl⟩
            have hn5' : nx'.length = 5 := by rw [← hnx']; exact HL5.out
            have HNX' := Lib.hid hnx'
            clear hnx'
            have hgb : ¬ 0 < pa := hg
            have HG := Lib.hid hgb
            go_upto_region 9 with fail
            obtain ⟨Wn, hWn⟩ : ∃ W, W = wr := ⟨_, rfl⟩
            rw [← hWn]
            have HN := Lib.hid (show ReqI w B (.slice (some ⟨gl, ol, none⟩) l.length cl) l w.heap.size nx' qs (.slice Ao qs.length co) css Wn from by rw [hWn]; exact (by rw [← HNX'.out]; exact HIR.out))
            clear hWn c1 c3 cn cz HIR
            obtain ⟨x, hx⟩ : ∃ x, nx'.getD (1 + p).toNat 0 = x := ⟨_, rfl⟩
            have c0 : Wn.cell? ⟨gl, ol + k * 4, none⟩ = some (.int .i64 l[k].kind) := HN.out.raws.cell_at hlt 0 (by decide)
            have c1 : Wn.cell? ⟨gl, ol + k * 4 + 1, none⟩ = some (.int .i64 l[k].a) := HN.out.raws.cell_at hlt 1 (by decide)
            have c2 : Wn.cell? ⟨gl, ol + k * 4 + 2, none⟩ = some (.int .i64 l[k].b) := HN.out.raws.cell_at hlt 2 (by decide)
            have c3 : Wn.cell? ⟨gl, ol + k * 4 + 3, none⟩ = some (.int .i64 l[k].c) := HN.out.raws.cell_at hlt 3 (by decide)
            have cn : Wn.cell? ⟨w.heap.size, (1 + p).toNat, none⟩ = some (.int .i64 x) := by rw [HN.out.nxt.cell, ← hx]; exact next_cell hn5' (by omega)
            have gll : gl < Wn.heap.size := by obtain ⟨g', o', c', e, hg, _⟩ := raw_at HN.out.raws hlt; cases e; exact hg
            have wll : w.heap.size < Wn.heap.size := HN.out.nxt.lt
            obtain ⟨oq, hoq⟩ : ∃ o, Scu.rawOp l[k] = o := ⟨_, rfl⟩
            have HOQ := Lib.hid hoq
            clear hoq
            have hc0 : (0 : Int) ≤ 1 + p := by omega
            have hc5 : (1 : Int) + p < 5 := by omega
            have HX := Lib.hid hx
            have HN5 := Lib.hid hn5'
            clear hx hn5'
            go_wp2_with fail
            go_region_held3 (fun w' => w'.cell? ⟨gl, ol + k * 4, none⟩ = some (.int .i64 l[k].kind) ∧ w'.cell? ⟨gl, ol + k * 4 + 1, none⟩ = some (.int .i64 l[k].a) ∧ w'.cell? ⟨gl, ol + k * 4 + 2, none⟩ = some (.int .i64 l[k].b) ∧ w'.cell? ⟨gl, ol + k * 4 + 3, none⟩ = some (.int .i64 l[k].c) ∧ w'.cell? ⟨w.heap.size, (1 + p).toNat, none⟩ = some (.int .i64 x))
              (first | (go_split_ands; (try dsimp only); (repeat' apply And.intro) <;> (with_reducible assumption)) | (go_split_ands; (try dsimp only); exact ⟨c0, c1, c2, c3, cn⟩) | (go_split_ands; (try dsimp only); exact ⟨f0, f1, f2, f3, fn⟩) | go_keep)
              (first
              | (go_at_call 23; refine (kop_o l[k] HIN.out oq HOQ.out _ ((HT.out.below HN.out.low).drewN 1)).mono ?_; rintro en x1 ⟨rfl, k1'⟩
                 refine useK (P := Below Wn.heap.size Wn x1) ?_ ?_
                 exact (below_drewN (Below.refl _ _) 1).trans k1'
                 intro nn1
                 have M1 := Lib.hid nn1
                 have d0 := (nn1.cell (p := ⟨gl, ol + k * 4, none⟩) gll).trans c0
                 have d1 := (nn1.cell (p := ⟨gl, ol + k * 4 + 1, none⟩) gll).trans c1
                 have d2 := (nn1.cell (p := ⟨gl, ol + k * 4 + 2, none⟩) gll).trans c2
                 have d3 := (nn1.cell (p := ⟨gl, ol + k * 4 + 3, none⟩) gll).trans c3
                 have dn := (nn1.cell (p := ⟨w.heap.size, (1 + p).toNat, none⟩) wll).trans cn
                 have hal := nn1.trans ((below_alloc x1 (Obj.cells (reqV ⟨1 + p, x, oq⟩).toArray 28)).mono nn1.size)
                 have e0 := (hal.cell (p := ⟨gl, ol + k * 4, none⟩) gll).trans c0
                 have e1 := (hal.cell (p := ⟨gl, ol + k * 4 + 1, none⟩) gll).trans c1
                 have e2 := (hal.cell (p := ⟨gl, ol + k * 4 + 2, none⟩) gll).trans c2
                 have e3 := (hal.cell (p := ⟨gl, ol + k * 4 + 3, none⟩) gll).trans c3
                 have en := (hal.cell (p := ⟨w.heap.size, (1 + p).toNat, none⟩) wll).trans cn
                 clear nn1 k1' hal)
              | (refine step_app _ (by rfl) (.tmp 45) (.tmp 56) 23 (by rfl) el_reqs (w.heap.size + 1) (.slice Ao qs.length co) qs.length css.flatten (by rfl) ?_ (.slice (some ⟨x1.heap.size, 0, none⟩) 1 1) 1 (reqV ⟨1 + p, x, oq⟩) (by rfl) (src_box (by rfl)) ?_ ?_ ?_ ?_ ?_
                 · exact own_below (own_below HN.out.out.row M1.out) (below_alloc x1 _)
                 · (intro v hv; simp only [reqV, List.mem_cons, List.not_mem_nil, or_false] at hv; rcases hv with rfl | rfl | rfl | rfl | rfl | rfl <;> rfl)
                 · (unfold maxLen; omega)
                 · omega
                 · (have := HN.out.low.size; have := M1.out.size; simp; omega)
                 intro v4 x4 h4 hg4 _
                 have hP := (HN.out.below M1.out).below (below_alloc x1 (Obj.cells (reqV ⟨1 + p, x, oq⟩).toArray 28))
                 have hnx := hP.push hBw (by unfold R47; omega) h4 hg4 (by decide)
                 have f0 : x4.cell? ⟨gl, ol + k * 4, none⟩ = some (.int .i64 l[k].kind) := hnx.raws.cell_at hlt 0 (by decide)
                 have f1 : x4.cell? ⟨gl, ol + k * 4 + 1, none⟩ = some (.int .i64 l[k].a) := hnx.raws.cell_at hlt 1 (by decide)
                 have f2 : x4.cell? ⟨gl, ol + k * 4 + 2, none⟩ = some (.int .i64 l[k].b) := hnx.raws.cell_at hlt 2 (by decide)
                 have f3 : x4.cell? ⟨gl, ol + k * 4 + 3, none⟩ = some (.int .i64 l[k].c) := hnx.raws.cell_at hlt 3 (by decide)
                 have fn : x4.cell? ⟨w.heap.size, (1 + p).toNat, none⟩ = some (.int .i64 x) := by rw [hnx.nxt.cell, ← HX.out]; exact next_cell HN5.out (by omega)
                 obtain ⟨A9, c9, rfl, _, _, _, _⟩ := rd_own h4
                 have HNX := Lib.hid hnx
                 clear hP hnx h4 hg4)
              | fail)
            all_goals
              rename_i hHeld
              clear hHeld
              have hnext : Scu.reqsOf (l.take (k + 1)) = (qs ++ [⟨1 + p, x, oq⟩], nx') := by
                rw [reqs_next hlt, HST.out]
                simp only [Scu.reqStep]
                rw [HP.out, (if_neg (by rw [HNV.out, HPA.out]; exact fun h => h.elim HZ.out (fun h2 => absurd h2 (Int.not_lt.2 HG.out)))), HNX'.out, HX.out, HOQ.out]
              have HNEXT := Lib.hid hnext
              have HLEN := Lib.hid (show (Scu.reqsOf (l.take (k + 1))).1.length = qs.length + 1 by rw [hnext]; simp)
              clear hnext c0 c1 c2 c3 cn d0 d1 d2 d3 dn e0 e1 e2 e3 en f0 f1 f2 f3 fn
              go_wp2_with fail
              go_roundw
              case rel => exact ⟨k + 1, A9, c9, _, by omega, by omega, rfl, by rw [HLEN.out], by rw [HNEXT.out]; simpa using HNX.out⟩
              case measure => simp only [intOf]; omega
      · have hkm' : k = most := by omega
        have HF := Lib.hid (And.intro hI hst)
        clear hI hst hok
        have hlt' : (k : Int) < (l.length : Int) := by omega
        have hlm' : ¬ (k : Int) < (most : Int) := by omega
        subst hkm'
        go_wp2
        go_ret
        have e1 : Scu.requests l k = qs := by unfold Scu.requests; rw [HF.out.2]
        rw [e1]
        first | exact ⟨⟨_, _, rfl, css, HF.out.1.out.base_ (Nat.le_succ _)⟩, HF.out.1.low⟩ | exact ⟨⟨_, _, css, rfl, HF.out.1.out.base_ (Nat.le_succ _)⟩, HF.out.1.low⟩
    · have hkl' : k = l.length := by omega
      have HF := Lib.hid (And.intro hI hst)
      clear hI hst hok
      subst hkl'
      go_wp2
      go_ret
      have e1 : Scu.requests l most = qs := by unfold Scu.requests; rw [List.take_of_length_le hkm, ← List.take_of_length_le (Nat.le_refl l.length), HF.out.2]
      rw [e1]
      first | exact ⟨⟨_, _, rfl, css, HF.out.1.out.base_ (Nat.le_succ _)⟩, HF.out.1.low⟩ | exact ⟨⟨_, _, css, rfl, HF.out.1.out.base_ (Nat.le_succ _)⟩, HF.out.1.low⟩
end Go.Proofs.YtfpiembhlgcelaaDoor
/- Plain: an entry cut short is not read, nor one that is longer; entries of requests. -/
namespace Scu
set_option linter.unusedVariables false
set_option linter.unusedSimpArgs false

theorem decode_cut {r : Request} (h : reqFault r = 0) (k : Nat) (hk : k < (reqBytes r).size) : decode ((reqBytes r).extract 0 k) = (req0, 5) := by
  obtain ⟨h1, h2, h3, h4, h5⟩ := reqFault_ok h
  obtain ⟨o1, o2, o3, o4, o5, o6, o7, o8, o9, o10⟩ := opFault_ok h5
  have hsz := reqBytes_size r
  have hps : ((reqBytes r).extract 0 k).size = k := by rw [ByteArray.size_extract]; omega
  have hpre : Pre ((reqBytes r).extract 0 k) ((⟨#[b8 r.client, b8 r.op.kind, b8 r.op.at_, b8 r.op.snap]⟩ : Str) ++ (numBytes r.num ++ (textBytes r.op.data ++ str0))) := by
    unfold Pre
    rw [L_extract]
    have : (⟨#[b8 r.client, b8 r.op.kind, b8 r.op.at_, b8 r.op.snap]⟩ : Str) ++ (numBytes r.num ++ (textBytes r.op.data ++ str0)) = reqBytes r := by
      unfold reqBytes
      rw [append_str0, append_assoc_s]
    rw [this]
    exact List.take_prefix _ _
  obtain ⟨p, hp⟩ : ∃ p, p = (reqBytes r).extract 0 k := ⟨_, rfl⟩
  rw [← hp] at hps hpre ⊢
  clear hp
  unfold decode
  rw [if_neg (by omega)]
  by_cases h4' : p.size < 4
  · rw [if_pos h4']
  rw [if_neg h4']
  obtain ⟨q, rfl, hq⟩ := hpre.split (show (4 : Nat) ≤ p.size by omega)
  have hd : dropS ((⟨#[b8 r.client, b8 r.op.kind, b8 r.op.at_, b8 r.op.snap]⟩ : Str) ++ q) 4 = q := dropS_append (⟨#[b8 r.client, b8 r.op.kind, b8 r.op.at_, b8 r.op.snap]⟩ : Str) q
  rw [ByteArray.size_append] at hps
  have hps' : 4 + q.size = k := hps
  rw [hd]
  by_cases h8 : q.size < 4
  · have : readNumber q = (0, str0, 5) := by unfold readNumber; rw [if_pos h8]
    rw [this]
    simp
  obtain ⟨u, rfl, hu⟩ := hq.split (show (numBytes r.num).size ≤ q.size by rw [numBytes_size]; omega)
  rw [readNumber_numBytes _ _ (by omega) (by omega)]
  rw [ByteArray.size_append, numBytes_size] at hps'
  have hb : readText u = (str0, str0, 5) := by
    unfold readText
    by_cases h0 : u.size = 0
    · rw [if_pos h0]
    · rw [if_neg h0]
      have hb : byteAt u 0 = r.op.data.size := by rw [hu.byte 0 (by omega), byteAt_textBytes _ _ (by omega)]
      rw [hb, if_pos (by omega)]
  simp [hb]
theorem decode_more {r : Request} (h : reqFault r = 0) (t : Str) (ht : t.size = 1) : decode (reqBytes r ++ t) = (req0, 4) := by
  obtain ⟨h1, h2, h3, h4, h5⟩ := reqFault_ok h
  obtain ⟨o1, o2, o3, o4, o5, o6, o7, o8, o9, o10⟩ := opFault_ok h5
  have hsz := reqBytes_size r
  have hd : dropS (reqBytes r ++ t) 4 = numBytes r.num ++ (textBytes r.op.data ++ t) := by
    have := dropS_append (⟨#[b8 r.client, b8 r.op.kind, b8 r.op.at_, b8 r.op.snap]⟩ : Str) (numBytes r.num ++ (textBytes r.op.data ++ t))
    unfold reqBytes
    rw [append_assoc_s, append_assoc_s]
    exact this
  have ht0 : t ≠ str0 := fun e => by subst e; cases ht
  unfold decode
  rw [if_neg (by rw [ByteArray.size_append]; omega), if_neg (by rw [ByteArray.size_append]; omega), hd, readNumber_numBytes _ _ (by omega) (by omega)]
  simp only [ne_eq, not_true_eq_false, if_false]
  rw [readText_textBytes _ _ (by omega)]
  simp [ht0]
theorem encode_ok {r : Request} (h : reqFault r = 0) : encode r = (reqBytes r, 0) := by unfold encode; rw [if_neg (by simp [h])]
/-- entries of requests -/
def entries (l : List Request) : List Str := l.map reqBytes
theorem entries_snoc (l : List Request) (r : Request) : entries (l ++ [r]) = entries l ++ [reqBytes r] := by unfold entries; rw [List.map_append]; rfl
theorem entries_length (l : List Request) : (entries l).length = l.length := List.length_map _
theorem requests_length (l : List Raw) (most : Nat) : (requests l most).length = min most l.length := by
  unfold requests
  rw [(reqs_ok (l.take most)).len, List.length_take]
end Scu
/- The law EntriesBack, walked. -/
namespace Go.Proofs.YtfpiembhlgcelaaDoor
set_option linter.unusedVariables false
set_option linter.unusedSimpArgs false
open Go.RowKit
set_option maxHeartbeats 4000000
set_option maxRecDepth 100000

def IsReqs (w : World) (B : Nat) (v : Value) (l : List Scu.Request) : Prop := IsRow 28 6 56 ReqE w B v l
theorem req_at {w : World} {B : Nat} {v : Value} {l : List Scu.Request} (h : IsReqs w B v l) {k : Nat} (hk : k < l.length) :
    ∃ g o c, v = .slice (some ⟨g, o, none⟩) l.length c ∧ g < w.heap.size ∧ (∀ j u, (reqV l[k])[j]? = some u → w.cell? ⟨g, o + (k * 6 + j), none⟩ = some u) := by
  obtain ⟨⟨A, c, css, rfl, hc, hl, hm, hr, h6⟩, _⟩ := h
  obtain ⟨g, o, cs, rfl, hg, _, hcs, rfl⟩ := row_get hl hm (by omega) hr h6 hk
  exact ⟨g, o, c, rfl, hg, hcs⟩
theorem IsReqs.cell_at {w : World} {B g o c : Nat} {l : List Scu.Request} (h : IsReqs w B (.slice (some ⟨g, o, none⟩) l.length c) l) {k : Nat} (hk : k < l.length) (j : Nat) (hj : j < 6) : w.cell? ⟨g, o + k * 6 + j, none⟩ = (reqV l[k])[j]? := by
  obtain ⟨g', o', c', e, _, hc⟩ := req_at h hk
  cases e
  have hl : (reqV l[k])[j]? = some ((reqV l[k])[j]'(by simpa [reqV] using hj)) := List.getElem?_eq_getElem _
  rw [hl, Nat.add_assoc]
  exact hc j _ hl
theorem IsReqs.below {w w' : World} {B : Nat} {v : Value} {l : List Scu.Request} (h : IsReqs w B v l) (hb : Below w.heap.size w w') : IsReqs w' B v l :=
  IsRow.same h (Ts := [28]) (by simp) (Same.below hb) (fun _ _ h => h)
theorem encode_q (q : Scu.Request) (h : Scu.reqFault q = 0) (w : World) :
    Calls Tryd.prog 19 #[.agg #[.int .i64 q.client, .int .i64 q.num, .int .i64 q.op.kind, .int .i64 q.op.at_, .int .i64 q.op.snap, .string q.op.data]] w fun e w' =>
      e = .returned (.tuple #[.string (Scu.reqBytes q), .int .i64 0]) ∧ Below w.heap.size w w' := by
  have := encode_c q w
  rw [Scu.encode_ok h] at this
  exact this
theorem decode_q (s : ByteArray) (q : Scu.Request) (e : Int) (h : Scu.decode s = (q, e)) (w : World) :
    Calls Tryd.prog 20 #[.string s] w fun ee w' =>
      ee = .returned (.tuple #[.agg #[.int .i64 q.client, .int .i64 q.num, .int .i64 q.op.kind, .int .i64 q.op.at_, .int .i64 q.op.snap, .string q.op.data], .int .i64 e]) ∧ Below w.heap.size w w' := by
  have := decode_c s w
  rw [h] at this
  exact this
theorem decode_x {q : Scu.Request} {s : Scu.Str} (h : Scu.reqFault q = 0) (hs : Scu.reqBytes q = s) : Scu.decode (s ++ ⟨#[120]⟩) = (Scu.req0, 4) := by
  subst hs
  have h1 : ByteArray.size ⟨#[120]⟩ = 1 := rfl
  exact Scu.decode_more h ⟨#[120]⟩ h1
theorem lawEntriesBack_c (v : Value) (l : List Scu.Raw) (cut : Int) (hcut : InI cut) (w : World) (hl : IsRaws w w.heap.size v l) (ht : Tab w) :
    Calls Tryd.prog 3 #[v, .int .i64 cut] w fun e w' => e = .returned (.bool true) ∧ Below w.heap.size w w' := by
  obtain ⟨Al, cl, rfl, hll⟩ := hl.form'
  have HT := Lib.hid ht
  have HL := Lib.hid hl
  have HCUT := Lib.hid hcut
  clear ht hl hcut
  go_enter Tryd.func3, Tryd.ntmps3
  go_wp2_with fail
  refine (requests_c _ l 20 w w.heap.size (Nat.le_refl _) HL.out HT.out (by decide)).mono ?_; rintro e w1 ⟨⟨A, c, css, rfl, ho⟩, b1⟩
  have hq : IsReqs w1 0 (.slice A (Scu.requests l 20).length c) (Scu.requests l 20) := ho.is
  have hok := Scu.requests_ok l 20 (by decide)
  have hlen : (Scu.requests l 20).length ≤ 20 := by rw [Scu.requests_length]; omega
  obtain ⟨qs, hqs⟩ : ∃ qs, Scu.requests l 20 = qs := ⟨_, rfl⟩
  rw [hqs] at hq hok hlen ⊢
  clear hqs ho css
  have HQ := Lib.hid hq
  have HOK := Lib.hid hok
  have HB1 := Lib.hid b1
  clear hq hok b1
  go_wp2_with fail
  go_loopw [18] (fun i wr => ∃ k : Nat, k ≤ qs.length ∧ i = .int .i64 k ∧ IsReqs wr 0 (.slice A qs.length c) qs ∧ Below w.heap.size w wr) (fun i _ => qs.length - (intOf i).toNat)
  case atStart => exact ⟨0, Nat.zero_le _, rfl, HQ.out, HB1.out⟩
  case round =>
    obtain ⟨k, hk, rfl, hI, hb⟩ := hrel
    by_cases hlt : k < qs.length
    · have hlt' : (k : Int) < (qs.length : Int) := by omega
      obtain ⟨g, o, c', e, hg, -⟩ := req_at hI hlt
      obtain rfl : A = some ⟨g, o, none⟩ := by cases e; rfl
      clear e c'
      obtain ⟨q, hqq⟩ : ∃ q, qs[k] = q := ⟨_, rfl⟩
      have hf : Scu.reqFault q = 0 := by rw [← hqq]; exact HOK.out _ (List.getElem_mem _)
      have hc : ∀ j u, (reqV q)[j]? = some u → j < 6 → wr.cell? ⟨g, o + k * 6 + j, none⟩ = some u := fun j u h hj => by rw [hI.cell_at hlt j hj, hqq, h]
      have c0 : wr.cell? ⟨g, o + k * 6, none⟩ = some (.int .i64 q.client) := hc 0 _ rfl (by decide)
      have c1 : wr.cell? ⟨g, o + k * 6 + 1, none⟩ = some (.int .i64 q.num) := hc 1 _ rfl (by decide)
      have c2 : wr.cell? ⟨g, o + k * 6 + 2, none⟩ = some (.int .i64 q.op.kind) := hc 2 _ rfl (by decide)
      have c3 : wr.cell? ⟨g, o + k * 6 + 3, none⟩ = some (.int .i64 q.op.at_) := hc 3 _ rfl (by decide)
      have c4 : wr.cell? ⟨g, o + k * 6 + 4, none⟩ = some (.int .i64 q.op.snap) := hc 4 _ rfl (by decide)
      have c5 : wr.cell? ⟨g, o + k * 6 + 5, none⟩ = some (.string q.op.data) := hc 5 _ rfl (by decide)
      have HI := Lib.hid hI
      have HB := Lib.hid hb
      have HF := Lib.hid hf
      have HQQ := Lib.hid hqq
      clear hI hb hf hqq hc
      go_upto_region 4 with fail
      obtain ⟨Wd, hWd⟩ : ∃ W, W = wr.alloc (Obj.cells (reqV q).toArray 28) := ⟨_, rfl⟩
      rw [show wr.alloc (Obj.cells #[.int .i64 q.client, .int .i64 q.num, .int .i64 q.op.kind, .int .i64 q.op.at_, .int .i64 q.op.snap, .string q.op.data] 28) = Wd from hWd.symm]
      have hbl : Blk Wd wr.heap.size 28 (reqV q).toArray := by rw [hWd]; exact Blk.new _ _ _
      have hbd : Below wr.heap.size wr Wd := by rw [hWd]; exact below_alloc _ _
      clear hWd c0 c1 c2 c3 c4 c5
      have d0 : Wd.cell? ⟨wr.heap.size, 0, none⟩ = some (.int .i64 q.client) := hbl.cell 0
      have d1 : Wd.cell? ⟨wr.heap.size, 1, none⟩ = some (.int .i64 q.num) := hbl.cell 1
      have d2 : Wd.cell? ⟨wr.heap.size, 2, none⟩ = some (.int .i64 q.op.kind) := hbl.cell 2
      have d3 : Wd.cell? ⟨wr.heap.size, 3, none⟩ = some (.int .i64 q.op.at_) := hbl.cell 3
      have d4 : Wd.cell? ⟨wr.heap.size, 4, none⟩ = some (.int .i64 q.op.snap) := hbl.cell 4
      have d5 : Wd.cell? ⟨wr.heap.size, 5, none⟩ = some (.string q.op.data) := hbl.cell 5
      have hsz := Scu.reqBytes_size q
      have hsz2 : q.op.data.size ≤ 8 := (Scu.opFault_ok (Scu.reqFault_ok HF.out).2.2.2.2).2.2.2.2.2.2.1
      obtain ⟨s, hs⟩ : ∃ s, Scu.reqBytes q = s := ⟨_, rfl⟩
      rw [hs] at hsz
      have hs9 : 9 ≤ s.size := by omega
      have hs17 : s.size ≤ 17 := by omega
      have HS := Lib.hid hs
      have HBL := Lib.hid hbl
      have HBD := Lib.hid hbd
      clear hs hsz hsz2 hbl hbd
      go_wp2_with fail
      refine (encode_q q HF.out _).mono ?_; rintro e w2 ⟨rfl, b2⟩
      rw [HS.out]
      have B2 := Lib.hid b2
      clear b2
      go_wp2_with fail
      refine (decode_q s q 0 (by rw [← HS.out]; exact Scu.decode_reqBytes HF.out) _).mono ?_; rintro e w3 ⟨rfl, b3⟩
      have B3 := Lib.hid b3
      clear b3
      go_upto_region 6 with fail
      obtain ⟨W4, hW4⟩ : ∃ W, W = w3.alloc (Obj.cells (reqV q).toArray 28) := ⟨_, rfl⟩
      rw [show w3.alloc (Obj.cells #[.int .i64 q.client, .int .i64 q.num, .int .i64 q.op.kind, .int .i64 q.op.at_, .int .i64 q.op.snap, .string q.op.data] 28) = W4 from hW4.symm]
      have HC := Lib.hid (show Blk W4 w3.heap.size 28 (reqV q).toArray from by rw [hW4]; exact Blk.new _ _ _)
      have HCD := Lib.hid (show Below w3.heap.size w3 W4 from by rw [hW4]; exact below_alloc _ _)
      clear hW4 d0 d1 d2 d3 d4 d5
      have hmx : max (s.size : Int) 1 = s.size := by omega
      obtain ⟨p, hp⟩ : ∃ p, Scu.picked cut s.size = p := ⟨_, rfl⟩
      have hp01 := Scu.picked_lt (n := cut) (many := s.size) (by omega)
      rw [hp] at hp01
      obtain ⟨m, rfl⟩ : ∃ m : Nat, p = m := ⟨p.toNat, by omega⟩
      have hm1 : (m : Int) < s.size := hp01.2
      have hmn : m < s.size := by omega
      have HP := Lib.hid hp
      clear hp hp01
      go_wp2_with fail
      refine (picked_c cut s.size HCUT.out (by omega) (by omega) _).mono ?_; rintro e w5 ⟨rfl, rfl⟩
      rw [HP.out]
      go_wp2_with fail
      refine (decode_q (s.extract 0 m) Scu.req0 5 (by rw [← HS.out] at hmn ⊢; exact Scu.decode_cut HF.out m hmn) _).mono ?_; rintro e w5 ⟨rfl, b5⟩
      have B5 := Lib.hid b5
      clear b5
      go_upto_region 7 with fail
      obtain ⟨W6, hW6⟩ : ∃ W, W = w5.alloc (Obj.cells (reqV Scu.req0).toArray 28) := ⟨_, rfl⟩
      rw [show w5.alloc (Obj.cells #[.int .i64 Scu.req0.client, .int .i64 Scu.req0.num, .int .i64 Scu.req0.op.kind, .int .i64 Scu.req0.op.at_, .int .i64 Scu.req0.op.snap, .string Scu.req0.op.data] 28) = W6 from hW6.symm]
      have HED := Lib.hid (show Below w5.heap.size w5 W6 from by rw [hW6]; exact below_alloc _ _)
      clear hW6
      have hadd := fun w => run_string_add_sum (P := Tryd.prog) (w := w) s ⟨#[120]⟩ (by show s.size + 1 ≤ 9223372036854775807; omega)
      go_wp2_with fail
      have hx : Scu.decode (s ++ ⟨#[120]⟩) = (Scu.req0, 4) := decode_x HF.out HS.out
      refine (decode_q _ _ _ hx _).mono ?_; rintro e w7 ⟨rfl, b7⟩
      have B7 := Lib.hid b7
      clear b7 hadd
      go_upto_region 8 with fail
      obtain ⟨W8, hW8⟩ : ∃ W, W = w7.alloc (Obj.cells (reqV Scu.req0).toArray 28) := ⟨_, rfl⟩
      rw [show w7.alloc (Obj.cells #[.int .i64 Scu.req0.client, .int .i64 Scu.req0.num, .int .i64 Scu.req0.op.kind, .int .i64 Scu.req0.op.at_, .int .i64 Scu.req0.op.snap, .string Scu.req0.op.data] 28) = W8 from hW8.symm]
      have hfd : Below w7.heap.size w7 W8 := by rw [hW8]; exact below_alloc _ _
      clear hW8
      have e4 : Below w3.heap.size w3 W8 := ((HCD.out.trans (B5.out.mono HCD.out.size)).trans (HED.out.mono (Nat.le_trans HCD.out.size B5.out.size))).trans ((B7.out.trans (hfd.mono B7.out.size)).mono (Nat.le_trans (Nat.le_trans HCD.out.size B5.out.size) HED.out.size))
      have e0 : Below Wd.heap.size Wd W8 := (B2.out.trans (B3.out.mono B2.out.size)).trans (e4.mono (Nat.le_trans B2.out.size B3.out.size))
      have hb8 : Blk W8 wr.heap.size 28 (reqV q).toArray := HBL.out.same e0
      have hc8 : Blk W8 w3.heap.size 28 (reqV q).toArray := HC.out.same (((B5.out.trans (HED.out.mono B5.out.size)).trans ((B7.out.trans (hfd.mono B7.out.size)).mono (Nat.le_trans B5.out.size HED.out.size))))
      have hr8 : Below wr.heap.size wr W8 := HBD.out.trans (e0.mono HBD.out.size)
      have d0 : W8.cell? ⟨wr.heap.size, 0, none⟩ = some (.int .i64 q.client) := hb8.cell 0
      have d1 : W8.cell? ⟨wr.heap.size, 1, none⟩ = some (.int .i64 q.num) := hb8.cell 1
      have d2 : W8.cell? ⟨wr.heap.size, 2, none⟩ = some (.int .i64 q.op.kind) := hb8.cell 2
      have d3 : W8.cell? ⟨wr.heap.size, 3, none⟩ = some (.int .i64 q.op.at_) := hb8.cell 3
      have d4 : W8.cell? ⟨wr.heap.size, 4, none⟩ = some (.int .i64 q.op.snap) := hb8.cell 4
      have d5 : W8.cell? ⟨wr.heap.size, 5, none⟩ = some (.string q.op.data) := hb8.cell 5
      have f0 : W8.cell? ⟨w3.heap.size, 0, none⟩ = some (.int .i64 q.client) := hc8.cell 0
      have f1 : W8.cell? ⟨w3.heap.size, 1, none⟩ = some (.int .i64 q.num) := hc8.cell 1
      have f2 : W8.cell? ⟨w3.heap.size, 2, none⟩ = some (.int .i64 q.op.kind) := hc8.cell 2
      have f3 : W8.cell? ⟨w3.heap.size, 3, none⟩ = some (.int .i64 q.op.at_) := hc8.cell 3
      have f4 : W8.cell? ⟨w3.heap.size, 4, none⟩ = some (.int .i64 q.op.snap) := hc8.cell 4
      have f5 : W8.cell? ⟨w3.heap.size, 5, none⟩ = some (.string q.op.data) := hc8.cell 5
      have HI8 := Lib.hid (show IsReqs W8 0 (.slice (some ⟨g, o, none⟩) qs.length c) qs from HI.out.below hr8)
      have HB8 := Lib.hid (show Below w.heap.size w W8 from HB.out.trans (hr8.mono HB.out.size))
      clear e4 e0 hb8 hc8 hr8 hfd
      go_wp2_with fail
      exact ⟨⟨k + 1, by omega, rfl, HI8.out, HB8.out⟩, by simp only [intOf]; omega⟩
    · have hkl' : k = qs.length := by omega
      have HB := Lib.hid hb
      have hlt' : ¬ (k : Int) < (qs.length : Int) := by omega
      clear hI hb
      go_wp2
      go_ret
      exact ⟨rfl, HB.out⟩
theorem lawEntriesBack_w (v : Value) (l : List Scu.Raw) {w : World} (h : IsRaws w w.heap.size v l) (cut : Int) (hc : (Lit.int .i64 cut).wf = true) (W : World) (hW : W = w) (ht : Tab W) :
    Calls Tryd.prog 3 #[v, .int .i64 cut] W fun e w' => e = .returned (.bool true) ∧ Below W.heap.size W w' := by
  subst hW
  exact lawEntriesBack_c v l cut (ini_of hc) W h ht
end Go.Proofs.YtfpiembhlgcelaaDoor

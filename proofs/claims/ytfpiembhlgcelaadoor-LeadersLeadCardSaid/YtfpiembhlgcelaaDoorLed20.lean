/- Part 20: words and walks under the law 'LeadersLead'. -/
import Derived.Test.YtfpiembhlgcelaaDoorLed19
import Derived.Test.YtfpiembhlgcelaaDoorLed7
import Derived.Test.YtfpiembhlgcelaaDoorLed8
import Derived.Deep.DeepCutAuto
set_option linter.unusedVariables false
set_option linter.unusedSimpArgs false
/- Walks: bytes, as what is kept: the program's. -/
namespace Go.Proofs.YtfpiembhlgcelaaDoor
open Go.RowKit
set_option maxHeartbeats 8000000
set_option maxRecDepth 100000

def DecRet (w : World) (base : Nat) (q : Scu.Kept × Int × Int) (e : Ending) : Prop :=
  ∃ lv, e = .returned (.tuple #[.agg #[.int .i64 q.1.view, .int .i64 q.1.normal, .bool q.1.calm, lv, .int .i64 q.1.commit], .int .i64 q.2.1, .int .i64 q.2.2]) ∧ OwnStrs w base lv q.1.log
theorem OwnStrs.nil_ {w : World} {base : Nat} : OwnStrs w base (.slice none 0 0) [] := ⟨World.ownsRow_nil _ _ _ _, by simp [R47], fun s hs => by cases hs⟩
theorem dec_zero (w : World) (base : Nat) (e : Int) : DecRet w base (Scu.kept0, 0, e) (.returned (.tuple #[.agg #[.int .i64 0, .int .i64 0, .bool false, .slice none 0 0, .int .i64 0], .int .i64 0, .int .i64 e])) :=
  ⟨_, rfl, OwnStrs.nil_⟩
theorem Blk.at_ {Ts : List TypeId} {B g : Nat} {w w' : World} {t : TypeId} {cs : Array Value} (h : Blk w g t cs) (hs : Same Ts B w w') (ht : t ∈ Ts) : Blk w' g t cs :=
  (hs.keep g h.lt (.inr ⟨_, _, _, ht, h⟩)).trans h
def arr6 (xs : List Int) : Array Value := ((xs ++ List.replicate (6 - xs.length) 0).map (Value.int .i64)).toArray
theorem arr6_len (xs : List Int) (h : xs.length ≤ 6) : (xs ++ List.replicate (6 - xs.length) (0 : Int)).length = 6 := by simp; omega
theorem arr6_set (xs : List Int) (n : Int) (h : xs.length < 6) : (arr6 xs).setIfInBounds xs.length (.int .i64 n) = arr6 (xs ++ [n]) := by
  unfold arr6
  rw [List.setIfInBounds_toArray, ← List.map_set, List.set_append_right _ _ (Nat.le_refl _), Nat.sub_self]
  obtain ⟨k, hk⟩ : ∃ k, 6 - xs.length = k + 1 := ⟨6 - xs.length - 1, by omega⟩
  rw [hk, List.replicate_succ, List.set_cons_zero, List.length_append, List.length_singleton, show 6 - (xs.length + 1) = k by omega]
  simp
theorem arr6_get {w : World} {g : Nat} {t : TypeId} {xs : List Int} (h : Blk w g t (arr6 xs)) (hl : xs.length ≤ 6) {j : Nat} (hj : j < 6) : ∃ n, w.cell? ⟨g, j, none⟩ = some (.int .i64 n) := by
  have hj' : j < (xs ++ List.replicate (6 - xs.length) (0 : Int)).length := by rw [arr6_len xs hl]; exact hj
  refine ⟨(xs ++ List.replicate (6 - xs.length) 0)[j], ?_⟩
  rw [h.cell]
  unfold arr6
  rw [List.getElem?_toArray, List.getElem?_map, List.getElem?_eq_getElem hj']
  rfl
theorem six {xs : List Int} (h : xs.length = 6) : ∃ a b c d e f, xs = [a, b, c, d, e, f] := by
  match xs, h with
  | [a, b, c, d, e, f], _ => exact ⟨a, b, c, d, e, f, rfl⟩
theorem readNumber_a (s : ByteArray) (w : World) (n : Int) (r : ByteArray) (c : Int) (h : Scu.readNumber s = (n, r, c)) :
    Calls Tryd.prog 61 #[.string s] w fun e w' => e = .returned (.tuple #[.int .i64 n, .string r, .int .i64 c]) ∧ Below w.heap.size w w' := by
  have := readNumber_c s w
  rw [h] at this
  exact this
theorem readText_a (s : ByteArray) (w : World) (hm : s.size ≤ maxLen) (n r : ByteArray) (c : Int) (h : Scu.readText s = (n, r, c)) :
    Calls Tryd.prog 62 #[.string s] w fun e w' => e = .returned (.tuple #[.string n, .string r, .int .i64 c]) ∧ Below w.heap.size w w' := by
  have := readText_c s w hm
  rw [h] at this
  exact this
theorem blk_grown {w w' : World} {base g n : Nat} {t e : TypeId} {cs : Array Value} {lv : Value} {xs : List Value} (hb : Blk w g t cs) (hown : w.ownsRow base e 1 lv n xs) (hne : t ≠ e) (hg : w.grownBy w' lv.ownBlock) : Blk w' g t cs :=
  (hg.block g hb.lt fun e' => by
    obtain ⟨C', fz', hh⟩ := own_kind hown e'.symm
    unfold Blk at hb
    rw [hh] at hb
    cases hb
    exact hne rfl).trans hb
/-- What is read so far: the numbers, what is kept of them, the texts. -/
structure LogI (w : World) (gk ga : Nat) (ta : TypeId) (vi no : Int) (ca : Bool) (co : Int) (xs : List Int) (lv : Value) (ys : List Scu.Str) (wr : World) : Prop where
  kept : Blk wr gk 64 #[.int .i64 vi, .int .i64 no, .bool ca, lv, .int .i64 co]
  own : wr.ownsRow w.heap.size 9 1 lv ys.length (ys.map Value.string)
  nums : Blk wr ga ta (arr6 xs)
  zero : Blk wr w.heap.size 64 #[.int .i64 0, .int .i64 0, .bool false, .slice none 0 0, .int .i64 0]
  low : Below w.heap.size w wr
section
variable {w wr w' : World} {gk ga : Nat} {ta : TypeId} {vi no : Int} {ca : Bool} {co : Int} {xs : List Int} {lv : Value} {ys : List Scu.Str}
theorem LogI.below (h : LogI w gk ga ta vi no ca co xs lv ys wr) (hb : Below wr.heap.size wr w') : LogI w gk ga ta vi no ca co xs lv ys w' :=
  ⟨h.kept.same hb, own_below h.own hb, h.nums.same hb, h.zero.same hb, h.low.trans (hb.mono h.low.size)⟩
theorem LogI.alloc (h : LogI w gk ga ta vi no ca co xs lv ys wr) (o : Obj) : LogI w gk ga ta vi no ca co xs lv ys (wr.alloc o) := h.below (below_alloc wr o)
theorem LogI.app {v4 : Value} {x : Scu.Str} (h : LogI w gk ga ta vi no ca co xs lv ys wr) (hta : ta ≠ 9) (hgk : w.heap.size < gk) (hga : ga ≠ gk) (hg : wr.grownBy w' lv.ownBlock)
    (h4 : w'.ownsRow w.heap.size 9 1 v4 (ys.length + 1) (ys.map Value.string ++ [.string x])) : LogI w gk ga ta vi no ca co xs v4 (ys ++ [x]) (w'.setCell ⟨gk, 3, none⟩ v4) := by
  have hk := blk_grown h.kept h.own (by decide) hg
  refine ⟨hk.set_ 3 v4, ?_, (blk_grown h.nums h.own hta hg).far (by simpa using hga) v4, (blk_grown h.zero h.own (by decide) hg).far (by simp; omega) v4, ?_⟩
  · rw [List.length_append, List.map_append]
    exact own_set h4 hk (by decide) v4
  · exact (h.low.grown hg h.low.size (fun q hq => (h.own.lt q hq).1)).setCell (p := ⟨gk, 3, none⟩) (by show w.heap.size ≤ gk; omega) v4
theorem LogI.strs (h : LogI w gk ga ta vi no ca co xs lv ys wr) (h1 : ys.length ≤ 60) (h2 : ∀ s ∈ ys, s.size ≤ 4000) : OwnStrs wr w.heap.size lv ys :=
  ⟨h.own, by unfold R47; omega, fun s hs => by have := h2 s hs; unfold R47; omega⟩
end
theorem stageDecode_c (s : ByteArray) (w : World) :
    Calls Tryd.prog 34 #[.string s] w fun e w' => DecRet w' w.heap.size (Scu.stageDecode s) e ∧ Below w.heap.size w w' := by
  by_cases h1 : 4000 < s.size
  · rw [Scu.dec1 h1]
    have h1' : (4000 : Int) < (s.size : Int) := by omega
    clear h1
    go_enter Tryd.func34, Tryd.ntmps34
    go_wp2
    go_returns
    exact ⟨dec_zero _ _ _, (Below.refl _ _).alloc (Nat.le_refl _) _⟩
  by_cases h2 : s.size < 4
  · rw [Scu.dec2 h2]
    have h2' : (s.size : Int) < 4 := by omega
    clear h2 h1
    go_enter Tryd.func34, Tryd.ntmps34
    go_wp2
    go_returns
    exact ⟨dec_zero _ _ _, (Below.refl _ _).alloc (Nat.le_refl _) _⟩
  have g1 : (s.size : Int) ≤ 4000 := by omega
  have g2 : (4 : Int) ≤ (s.size : Int) := by omega
  have hm0 : (s.extract 4 s.size).size ≤ maxLen := by rw [ByteArray.size_extract]; unfold maxLen; omega
  by_cases h3 : Scu.sealS (Scu.dropS s 4) ≠ s.extract 0 4
  · rw [Scu.dec3 h1 h2 h3]
    have hb : ((Scu.sealS (s.extract 4 s.size)).toList == (s.extract 0 4).toList) = false := by rw [str_beq]; exact decide_eq_false (fun e => h3 e)
    clear h3 h1 h2
    go_enter Tryd.func34, Tryd.ntmps34
    go_upto_region 5 with fail
    go_cut [25] (fun b wx => b = .bool true ∧ Below (w.heap.size + 1) (w.alloc (Obj.cells #[.int .i64 0, .int .i64 0, .bool false, .slice none 0 0, .int .i64 0] 64)) wx)
    case first =>
      go_region_with (go_at_call 74; refine (seal_c _ _ hm0).mono ?_; rintro e w1 ⟨rfl, h1⟩)
      all_goals
        go_wp2_with fail
        go_meet
        exact ⟨rfl, (Below.refl _ _).drew.trans (h1.mono (by simp))⟩
    case rest =>
      obtain ⟨rfl, hbw⟩ := hcut
      have hzk : Blk wc w.heap.size 64 #[.int .i64 0, .int .i64 0, .bool false, .slice none 0 0, .int .i64 0] := (Blk.new w _ _).below hbw (by omega)
      have zc0 := hzk.cell 0
      have zc1 := hzk.cell 1
      have zc2 := hzk.cell 2
      have zc3 := hzk.cell 3
      have zc4 := hzk.cell 4
      simp only [List.getElem?_toArray, List.getElem?_cons_zero, List.getElem?_cons_succ] at zc0 zc1 zc2 zc3 zc4
      have zcz := hzk.frozen
      go_wp2
      refine bodyPost_ret (v := .tuple #[.agg #[.int .i64 0, .int .i64 0, .bool false, .slice none 0 0, .int .i64 0], .int .i64 0, .int .i64 11]) (by simp [results, Tryd.results34, go_sem, zc0, zc1, zc2, zc3, zc4]) rfl ?_
      exact ⟨dec_zero _ _ _, below_set5 ((below_alloc w _).trans (hbw.mono (by omega))) (Nat.le_refl _)⟩
  have hb : ((Scu.sealS (s.extract 4 s.size)).toList == (s.extract 0 4).toList) = true := by rw [str_beq]; exact decide_eq_true (Decidable.byContradiction h3)
  have HD := Lib.hid (fun a b c d e f t (h : Scu.readNumbers 6 (Scu.dropS s 4) = ([a, b, c, d, e, f], t, 0)) => Scu.dec5 h1 h2 h3 h)
  have HE := Lib.hid (fun e (h : Scu.readNumbers 6 (Scu.dropS s 4) = ([], Scu.str0, e)) he => Scu.dec4 h1 h2 h3 h he)
  have hs4 : (s.extract 4 s.size).size ≤ 4000 := by rw [ByteArray.size_extract]; omega
  clear h1 h2 h3
  go_enter Tryd.func34, Tryd.ntmps34
  go_upto_region 5 with fail
  go_cut [25] (fun b wx => b = .bool false ∧ Below (w.heap.size + 1) (w.alloc (Obj.cells #[.int .i64 0, .int .i64 0, .bool false, .slice none 0 0, .int .i64 0] 64)) wx)
  case first =>
    go_region_with (go_at_call 74; refine (seal_c _ _ hm0).mono ?_; rintro e w1 ⟨rfl, h1⟩)
    all_goals
      go_wp2_with fail
      go_meet
      exact ⟨rfl, (Below.refl _ _).drew.trans (h1.mono (by simp))⟩
  case rest =>
  obtain ⟨rfl, hbw⟩ := hcut
  have hsz : w.heap.size < wc.heap.size := by have := hbw.size; simp at this; omega
  go_wp2_with fail
  go_loopw [0, 29] (fun sv i wr => ∃ (xs : List Int) (r : Scu.Str), xs.length ≤ 6 ∧ i = .int .i64 xs.length ∧ sv = .string r ∧ r.size ≤ 4000 ∧ Below (w.heap.size + 1) (w.alloc (Obj.cells #[.int .i64 0, .int .i64 0, .bool false, .slice none 0 0, .int .i64 0] 64)) wr ∧ wc.heap.size < wr.heap.size ∧ Blk wr wc.heap.size 139 (arr6 xs) ∧
      Hid (Scu.readNumbers 6 (Scu.dropS s 4) = Scu.glue xs (Scu.readNumbers (6 - xs.length) r))) (fun _ i _ => 6 - (intOf i).toNat)
  case atStart => exact ⟨[], _, by simp, rfl, rfl, hs4, hbw.alloc (by omega) _, by simp, Blk.new wc _ _, Scu.nil_glue _ _⟩
  case round =>
    obtain ⟨xs, r, hj, rfl, rfl, hrs, hbr, hlt0, hba, hrn⟩ := hrel
    by_cases hlt : xs.length < 6
    · have hlt' : (xs.length : Int) < 6 := by omega
      have hj0 : (0 : Int) ≤ (xs.length : Int) := by omega
      generalize hq : Scu.readNumber r = q
      obtain ⟨n, r', c⟩ := q
      have HQ := Lib.hid hq
      have HS := Lib.hid (show r'.size ≤ 4000 by have := Scu.rn_size r; rw [hq] at this; exact Nat.le_trans this hrs)
      have HB := Lib.hid (And.intro hbr hba)
      clear hq hbr hba
      go_wp2_with fail
      refine (readNumber_a r _ n r' c HQ.out).mono ?_; rintro e w2 ⟨rfl, h2⟩
      have hbr2 := HB.out.1.trans (h2.mono (by omega))
      have hba2 := HB.out.2.same h2
      obtain ⟨n0, hn0⟩ := arr6_get hba2 hj hlt
      have hn0z := hba2.frozen
      have hlt2 : wc.heap.size < w2.heap.size := by have := h2.size; omega
      have hzk : Blk w2 w.heap.size 64 #[.int .i64 0, .int .i64 0, .bool false, .slice none 0 0, .int .i64 0] := (Blk.new w _ _).below hbr2 (by omega)
      have zc0 := hzk.cell 0
      have zc1 := hzk.cell 1
      have zc2 := hzk.cell 2
      have zc3 := hzk.cell 3
      have zc4 := hzk.cell 4
      simp only [List.getElem?_toArray, List.getElem?_cons_zero, List.getElem?_cons_succ] at zc0 zc1 zc2 zc3 zc4
      have zcz := hzk.frozen
      have HB2 := Lib.hid (And.intro hbr2 hba2)
      clear hbr2 hba2 hzk
      by_cases hc0 : c = 0
      · subst hc0
        have hn6 : 6 - xs.length = (6 - (xs.length + 1)) + 1 := by omega
        have HN := Lib.hid (show Scu.readNumbers 6 (Scu.dropS s 4) = Scu.glue (xs ++ [n]) (Scu.readNumbers (6 - (xs.length + 1)) r') by
          rw [hrn.out, hn6, Scu.readNumbers_more (by rw [HQ.out]), HQ.out, Scu.glue_glue])
        clear hn6 hrn
        go_wp2
        go_roundw
        case rel =>
          refine ⟨xs ++ [n], r', by simp; omega, by simp, rfl, HS.out, HB2.out.1.setCell (p := ⟨wc.heap.size, xs.length, none⟩) hsz _, by simpa [World.setCell] using hlt2, ?_, ?_⟩
          · rw [← arr6_set _ _ hlt]; exact HB2.out.2.set_ _ _
          · rw [List.length_append]; exact HN
        case measure => simp only [intOf]; omega
      · have hcb : (c != 0) = true := by simpa using hc0
        have HF := Lib.hid (show Scu.stageDecode s = (Scu.kept0, 0, c) by
          refine HE.out c ?_ hc0
          have hn6 : 6 - xs.length = (6 - (xs.length + 1)) + 1 := by omega
          rw [hrn.out, hn6, Scu.readNumbers_bad (by rw [HQ.out]; exact hc0), HQ.out, Scu.glue_bad _ _ hc0])
        clear hrn hc0
        go_wp2
        refine bodyPost_ret (v := .tuple #[.agg #[.int .i64 0, .int .i64 0, .bool false, .slice none 0 0, .int .i64 0], .int .i64 0, .int .i64 c]) (by simp [results, Tryd.results34, go_sem, zc0, zc1, zc2, zc3, zc4]) rfl ?_
        refine ⟨by rw [HF.out]; exact dec_zero _ _ _, ?_⟩
        exact below_set5 ((below_alloc w _).trans ((HB2.out.1.setCell (p := ⟨wc.heap.size, xs.length, none⟩) hsz _).mono (by omega))) (Nat.le_refl _)
    · have hj6 : xs.length = 6 := by omega
      have hlt' : (6 : Int) ≤ (xs.length : Int) := by omega
      obtain ⟨a, b, c, d, e, f, rfl⟩ := six hj6
      have HR := Lib.hid (show Scu.readNumbers 6 (Scu.dropS s 4) = ([a, b, c, d, e, f], r, 0) by rw [hrn.out]; exact Scu.glue_done _ _)
      have HDD := Lib.hid (HD.out _ _ _ _ _ _ _ HR.out)
      have hba' : Blk wr wc.heap.size 139 #[.int .i64 a, .int .i64 b, .int .i64 c, .int .i64 d, .int .i64 e, .int .i64 f] := hba
      have ac0 := hba'.cell 0
      have ac1 := hba'.cell 1
      have ac2 := hba'.cell 2
      have ac3 := hba'.cell 3
      have ac4 := hba'.cell 4
      have ac5 := hba'.cell 5
      simp only [List.getElem?_toArray, List.getElem?_cons_zero, List.getElem?_cons_succ] at ac0 ac1 ac2 ac3 ac4 ac5
      have acz := hba'.frozen
      have hzk : Blk wr w.heap.size 64 #[.int .i64 0, .int .i64 0, .bool false, .slice none 0 0, .int .i64 0] := (Blk.new w _ _).below hbr (by omega)
      have zc0 := hzk.cell 0
      have zc1 := hzk.cell 1
      have zc2 := hzk.cell 2
      have zc3 := hzk.cell 3
      have zc4 := hzk.cell 4
      simp only [List.getElem?_toArray, List.getElem?_cons_zero, List.getElem?_cons_succ] at zc0 zc1 zc2 zc3 zc4
      have zcz := hzk.frozen
      have HB := Lib.hid (And.intro hbr (And.intro hba hzk))
      have HBL := Lib.hid (show Below w.heap.size w wr from (below_alloc w _).trans (hbr.mono (by omega)))
      have hlw : w.heap.size < wr.heap.size := by omega
      clear hbr hba hba' hzk hrn hj hj6
      by_cases t3 : 1 < d
      · have HF := Lib.hid (show Scu.stageDecode s = (Scu.kept0, 0, 4) by rw [HDD.out, if_pos (.inl t3)])
        go_wp2
        refine bodyPost_ret (v := .tuple #[.agg #[.int .i64 0, .int .i64 0, .bool false, .slice none 0 0, .int .i64 0], .int .i64 0, .int .i64 4]) (by simp [results, Tryd.results34, go_sem, zc0, zc1, zc2, zc3, zc4]) rfl ?_
        exact ⟨by rw [HF.out]; exact dec_zero _ _ _, below_set5 HBL.out (Nat.le_refl _)⟩
      have t3' : d ≤ 1 := by omega
      by_cases t5 : 60 < f
      · have HF := Lib.hid (show Scu.stageDecode s = (Scu.kept0, 0, 4) by rw [HDD.out, if_pos (.inr t5)])
        clear t3
        go_wp2
        refine bodyPost_ret (v := .tuple #[.agg #[.int .i64 0, .int .i64 0, .bool false, .slice none 0 0, .int .i64 0], .int .i64 0, .int .i64 4]) (by simp [results, Tryd.results34, go_sem, zc0, zc1, zc2, zc3, zc4]) rfl ?_
        exact ⟨by rw [HF.out]; exact dec_zero _ _ _, below_set5 HBL.out (Nat.le_refl _)⟩
      have t5' : f ≤ 60 := by omega
      have HDT := Lib.hid (show Scu.stageDecode s = if (Scu.readTexts f.toNat r).2.2 ≠ 0 then (Scu.kept0, 0, (Scu.readTexts f.toNat r).2.2) else if (Scu.readTexts f.toNat r).2.1 ≠ Scu.str0 then (Scu.kept0, 0, 4) else
        if Scu.keptFault ⟨b, c, d == 1, (Scu.readTexts f.toNat r).1, e⟩ ≠ 0 then (Scu.kept0, 0, Scu.keptFault ⟨b, c, d == 1, (Scu.readTexts f.toNat r).1, e⟩) else (⟨b, c, d == 1, (Scu.readTexts f.toNat r).1, e⟩, a, 0) by
        rw [HDD.out, if_neg (by omega)])
      have h60 : f.toNat ≤ 60 := by omega
      clear t3 t5 HDD HD HE
      obtain ⟨wa, hwa⟩ : ∃ x, x = wr := ⟨_, rfl⟩
      subst hwa
      go_wp2_with fail
      go_loopw [0, 66] (fun sv i wl => ∃ (ys : List Scu.Str) (q : Scu.Str) (A : Option Addr) (cp : Nat), ys.length ≤ f.toNat ∧ i = .int .i64 ys.length ∧ sv = .string q ∧ q.size ≤ 4000 ∧ (∀ y ∈ ys, y.size ≤ 4000) ∧
        LogI w wa.heap.size wc.heap.size 139 b c (d == 1) e [a, b, c, d, e, f] (.slice A ys.length cp) ys wl ∧ wa.heap.size < wl.heap.size ∧
        Hid (Scu.readTexts f.toNat r = Scu.glue ys (Scu.readTexts (f.toNat - ys.length) q))) (fun _ i _ => f.toNat - (intOf i).toNat)
      case atStart =>
        refine ⟨[], r, none, 0, Nat.zero_le _, rfl, rfl, hrs, (fun y hy => by cases hy), ?_, by simp, Scu.nil_glueT _ _⟩
        exact ⟨Blk.new wa _ _, World.ownsRow_nil _ _ _ _, HB.out.2.1.alloc _, HB.out.2.2.alloc _, HBL.out.alloc HBL.out.size _⟩
      case round =>
        obtain ⟨ys, q, A, cp, hm, rfl, rfl, hq4, hys, hL, hlk, hT⟩ := hrel
        by_cases hlt : ys.length < f.toNat
        · have hlt'' : (ys.length : Int) < f := by omega
          generalize hq : Scu.readText q = p
          obtain ⟨y, q', g⟩ := p
          have HQ := Lib.hid hq
          have hsz4 := Scu.rt_size q
          rw [hq] at hsz4
          have HS := Lib.hid (show q'.size ≤ 4000 ∧ y.size ≤ 4000 from ⟨Nat.le_trans hsz4.1 hq4, Nat.le_trans hsz4.2 hq4⟩)
          have HL := Lib.hid hL
          have HYS := Lib.hid hys
          clear hq hsz4 hL hys
          go_wp2_with fail
          refine (readText_a q _ (by unfold maxLen; omega) y q' g HQ.out).mono ?_; rintro e2 w2 ⟨rfl, h2⟩
          have hlk2 : wa.heap.size < w2.heap.size := by have := h2.size; omega
          have hL2 := HL.out.below h2
          by_cases hg0 : g = 0
          · subst hg0
            have hn6 : f.toNat - ys.length = (f.toNat - (ys.length + 1)) + 1 := by omega
            have HN := Lib.hid (show Scu.readTexts f.toNat r = Scu.glue (ys ++ [y]) (Scu.readTexts (f.toNat - (ys.length + 1)) q') by
              rw [hT.out, hn6, Scu.readTexts_more (by rw [HQ.out]), HQ.out, Scu.glue_glue])
            have hk3 := hL2.kept
            have kc0 := hk3.cell 0
            have kc1 := hk3.cell 1
            have kc2 := hk3.cell 2
            have kc3 := hk3.cell 3
            have kc4 := hk3.cell 4
            simp only [List.getElem?_toArray, List.getElem?_cons_zero, List.getElem?_cons_succ] at kc0 kc1 kc2 kc3 kc4
            have kcz := hk3.frozen
            have HL2 := Lib.hid hL2
            have hL3 := Lib.hid (hL2.alloc (Obj.cells #[.string y] 9))
            clear hn6 hT hL2 hk3 kc0 kc1 kc2 kc4
            go_wp2_with
              (at_builtin
               refine list_app _ rfl (.tmp 79) (.tmp 81) 36 rfl el_strs w.heap.size (.slice A ys.length cp) ys.length (ys.map Value.string) rfl hL3.out.own (.slice (some ⟨w2.heap.size, 0, none⟩) 1 1) 1 [.string y] rfl (src_blk (xs := [.string y]) (Blk.new w2 9 #[.string y]) rfl) (one_strs [y]) (by unfold maxLen; omega) (by omega) (by simp; omega) ?_
               intro v4 w4 h4 hg4 _
               obtain ⟨A4, c4, rfl, _, _, _, _⟩ := rd_own h4
               have hL4 := hL3.out.app (by decide) hlw (by omega) hg4 h4
               have HK4 := Lib.hid (blk_grown hL3.out.kept hL3.out.own (by decide) hg4)
               have hz4 := HK4.out.frozen
               have hc4 := HK4.out.cell 3
               have HL4 := Lib.hid hL4
               have HG4 := Lib.hid (show wa.heap.size < w4.heap.size by have := hg4.size; simp at this; omega)
               clear hg4 h4 hL4)
            go_roundw
            case rel =>
              refine ⟨ys ++ [y], q', A4, c4, by simp; omega, by simp, rfl, HS.out.1, ?_, ?_, by simpa [World.setCell] using HG4.out, ?_⟩
              · intro z hz
                rcases List.mem_append.1 hz with h | h
                · exact HYS.out z h
                · rw [List.mem_singleton] at h
                  subst h
                  exact HS.out.2
              · rw [List.length_append]; exact HL4.out
              · rw [List.length_append]; exact HN
            case measure => simp only [intOf]; omega
          · have hgb : (g != 0) = true := by simpa using hg0
            have hT' : Scu.readTexts f.toNat r = ([], Scu.str0, g) := by
              rw [hT.out, show f.toNat - ys.length = (f.toNat - (ys.length + 1)) + 1 by omega, Scu.readTexts_bad (by rw [HQ.out]; exact hg0), HQ.out, Scu.glue_bad _ _ hg0]
            have HF := Lib.hid (show Scu.stageDecode s = (Scu.kept0, 0, g) by rw [HDT.out, hT', if_pos hg0])
            have hzk := hL2.zero
            have zc0 := hzk.cell 0
            have zc1 := hzk.cell 1
            have zc2 := hzk.cell 2
            have zc3 := hzk.cell 3
            have zc4 := hzk.cell 4
            simp only [List.getElem?_toArray, List.getElem?_cons_zero, List.getElem?_cons_succ] at zc0 zc1 zc2 zc3 zc4
            have zcz := hzk.frozen
            have HL2 := Lib.hid hL2.low
            clear hT hT' hzk hL2 hg0
            go_wp2
            refine bodyPost_ret (v := .tuple #[.agg #[.int .i64 0, .int .i64 0, .bool false, .slice none 0 0, .int .i64 0], .int .i64 0, .int .i64 g]) (by simp [results, Tryd.results34, go_sem, zc0, zc1, zc2, zc3, zc4]) rfl ?_
            exact ⟨by rw [HF.out]; exact dec_zero _ _ _, below_set5 HL2.out (Nat.le_refl _)⟩
        · have hlt'' : f ≤ (ys.length : Int) := by omega
          have hT' : Scu.readTexts f.toNat r = (ys, q, 0) := by rw [hT.out, show f.toNat - ys.length = 0 by omega]; exact Scu.glue_done _ _
          have HDF := Lib.hid (show Scu.stageDecode s = if q ≠ Scu.str0 then (Scu.kept0, 0, 4) else if Scu.keptFault ⟨b, c, d == 1, ys, e⟩ ≠ 0 then (Scu.kept0, 0, Scu.keptFault ⟨b, c, d == 1, ys, e⟩) else (⟨b, c, d == 1, ys, e⟩, a, 0) by
            rw [HDT.out, hT', if_neg (by simp)])
          have hzk := hL.zero
          have zc0 := hzk.cell 0
          have zc1 := hzk.cell 1
          have zc2 := hzk.cell 2
          have zc3 := hzk.cell 3
          have zc4 := hzk.cell 4
          simp only [List.getElem?_toArray, List.getElem?_cons_zero, List.getElem?_cons_succ] at zc0 zc1 zc2 zc3 zc4
          have zcz := hzk.frozen
          have hkk := hL.kept
          have kc0 := hkk.cell 0
          have kc1 := hkk.cell 1
          have kc2 := hkk.cell 2
          have kc3 := hkk.cell 3
          have kc4 := hkk.cell 4
          simp only [List.getElem?_toArray, List.getElem?_cons_zero, List.getElem?_cons_succ] at kc0 kc1 kc2 kc3 kc4
          have kcz := hkk.frozen
          have HST := Lib.hid (hL.strs (by omega) hys)
          have HL := Lib.hid hL
          clear hT hT' hL hys hzk hkk
          by_cases hq0 : q = Scu.str0
          · have hq1 : q.toList = [] := (toList_eq_nil q).2 (by rw [hq0]; rfl)
            have HDG := Lib.hid (show Scu.stageDecode s = if Scu.keptFault ⟨b, c, d == 1, ys, e⟩ ≠ 0 then (Scu.kept0, 0, Scu.keptFault ⟨b, c, d == 1, ys, e⟩) else (⟨b, c, d == 1, ys, e⟩, a, 0) by
              rw [HDF.out, if_neg (by simp [hq0])])
            clear hq0
            go_wp2_with fail
            refine (stageCheck_x _ b c (d == 1) ys e _ 0 HST.out.is).mono ?_; rintro e2 w3 ⟨rfl, h3⟩
            have hL3 := HL.out.below h3
            have hzk := hL3.zero
            have yc0 := hzk.cell 0
            have yc1 := hzk.cell 1
            have yc2 := hzk.cell 2
            have yc3 := hzk.cell 3
            have yc4 := hzk.cell 4
            simp only [List.getElem?_toArray, List.getElem?_cons_zero, List.getElem?_cons_succ] at yc0 yc1 yc2 yc3 yc4
            have ycz := hzk.frozen
            have hkk := hL3.kept
            have kd0 := hkk.cell 0
            have kd1 := hkk.cell 1
            have kd2 := hkk.cell 2
            have kd3 := hkk.cell 3
            have kd4 := hkk.cell 4
            simp only [List.getElem?_toArray, List.getElem?_cons_zero, List.getElem?_cons_succ] at kd0 kd1 kd2 kd3 kd4
            have kdz := hkk.frozen
            have hnn : Blk w3 wc.heap.size 139 #[.int .i64 a, .int .i64 b, .int .i64 c, .int .i64 d, .int .i64 e, .int .i64 f] := hL3.nums
            have nd0 := hnn.cell 0
            have nd1 := hnn.cell 1
            have nd2 := hnn.cell 2
            have nd3 := hnn.cell 3
            have nd4 := hnn.cell 4
            have nd5 := hnn.cell 5
            simp only [List.getElem?_toArray, List.getElem?_cons_zero, List.getElem?_cons_succ] at nd0 nd1 nd2 nd3 nd4 nd5
            have ndz := hnn.frozen
            have HS3 := Lib.hid (HST.out.below h3)
            have HL3 := Lib.hid hL3
            by_cases hf : Scu.keptFault ⟨b, c, d == 1, ys, e⟩ = 0
            · have hfb : (Scu.keptFault ⟨b, c, d == 1, ys, e⟩ != 0) = false := by simpa using hf
              have HF := Lib.hid (show Scu.stageDecode s = (⟨b, c, d == 1, ys, e⟩, a, 0) by rw [HDG.out, if_neg (by simpa using hf)])
              clear hf hkk hzk hnn hL3
              go_wp2_with fail
              go_region
              go_wp2
              refine bodyPost_ret (v := .tuple #[.agg #[.int .i64 b, .int .i64 c, .bool (d == 1), .slice A ys.length cp, .int .i64 e], .int .i64 a, .int .i64 0]) (by simp [results, Tryd.results34, go_sem, yc0, yc1, yc2, yc3, yc4]) rfl ?_
              refine ⟨?_, (below_set5 HL3.out.low (Nat.le_refl _)).drew⟩
              rw [HF.out]
              exact ⟨_, rfl, (HS3.out.same (Same.sets5 (B := 0) HL3.out.zero (Nat.zero_le _) (by decide) _ _ _ _ _)).below (Below.refl _ _).drew⟩
            · have hfb : (Scu.keptFault ⟨b, c, d == 1, ys, e⟩ != 0) = true := by simpa using hf
              have HF := Lib.hid (show Scu.stageDecode s = (Scu.kept0, 0, Scu.keptFault ⟨b, c, d == 1, ys, e⟩) by rw [HDG.out, if_pos hf])
              clear hf hkk hzk hnn hL3
              go_wp2
              refine bodyPost_ret (v := .tuple #[.agg #[.int .i64 0, .int .i64 0, .bool false, .slice none 0 0, .int .i64 0], .int .i64 0, .int .i64 (Scu.keptFault ⟨b, c, d == 1, ys, e⟩)]) (by simp [results, Tryd.results34, go_sem, yc0, yc1, yc2, yc3, yc4]) rfl ?_
              exact ⟨by rw [HF.out]; exact dec_zero _ _ _, below_set5 HL3.out.low (Nat.le_refl _)⟩
          · have hq1 : ¬ q.toList = [] := fun e => hq0 ((Scu.size_zero_iff _).1 ((toList_eq_nil q).1 e))
            have hq2 : q.toList.isEmpty = false := by simpa using hq1
            have HF := Lib.hid (show Scu.stageDecode s = (Scu.kept0, 0, 4) by rw [HDF.out, if_pos hq0])
            clear hq0
            go_wp2
            refine bodyPost_ret (v := .tuple #[.agg #[.int .i64 0, .int .i64 0, .bool false, .slice none 0 0, .int .i64 0], .int .i64 0, .int .i64 4]) (by simp [results, Tryd.results34, go_sem, zc0, zc1, zc2, zc3, zc4]) rfl ?_
            exact ⟨by rw [HF.out]; exact dec_zero _ _ _, below_set5 HL.out.low (Nat.le_refl _)⟩
end Go.Proofs.YtfpiembhlgcelaaDoor
/- Walks: bytes, as what is kept: the reference's. The law StageDecodes. -/
namespace Go.Proofs.YtfpiembhlgcelaaDoor
open Go.RowKit
set_option maxHeartbeats 8000000
set_option maxRecDepth 100000
theorem make_six (w : World) : (Instr.makeSlice 77 (.int .i64 6) (.int .i64 6)).run Tryd.prog w =
    .ok (.slice (some ⟨w.heap.size, 0, none⟩) 6 6) (w.alloc (.cells #[.int .i64 0, .int .i64 0, .int .i64 0, .int .i64 0, .int .i64 0, .int .i64 0] 3)) := by kernel_rfl
end Go.Proofs.YtfpiembhlgcelaaDoor
/- Walks: what is kept, as bytes: the program's and the reference's. The law StageEncodes. -/
namespace Go.Proofs.YtfpiembhlgcelaaDoor
open Go.RowKit
set_option maxHeartbeats 4000000
set_option maxRecDepth 100000

theorem enc_bad {k : Scu.Kept} {gen : Int} (h : Scu.keptFault k ≠ 0) : Scu.stageEncode k gen = (Scu.str0, Scu.keptFault k) := if_pos h
theorem enc_gen {k : Scu.Kept} {gen : Int} (h : ¬ Scu.keptFault k ≠ 0) (hg : gen < 0 ∨ 1073741824 < gen) : Scu.stageEncode k gen = (Scu.str0, 2) := by unfold Scu.stageEncode; rw [if_neg h, if_pos hg]
theorem enc_ok {k : Scu.Kept} {gen : Int} (h : ¬ Scu.keptFault k ≠ 0) (hg : ¬ (gen < 0 ∨ 1073741824 < gen)) : Scu.stageEncode k gen = (Scu.keptBytes k gen, 0) := by unfold Scu.stageEncode; rw [if_neg h, if_neg hg]
theorem num_cell {w : World} {g : Nat} {l : List Int} (h : Blk w g 3 (l.map (Value.int .i64)).toArray) {j : Nat} (hj : j < l.length) : w.cell? ⟨g, j, none⟩ = some (.int .i64 l[j]) := by
  rw [h.cell]
  simp [List.getElem?_eq_getElem hj]
theorem no_big (a b : ByteArray) (h : a.size ≤ 2484) (h' : b.size ≤ 2484) : ¬ 9223372036854775807 < a.size + b.size := by omega

theorem stageEncode_x (lv : Value) (vi no : Int) (ca : Bool) (lo : List Scu.Str) (co gen : Int) (w : World) (B : Nat) (hv : IsStrs w B lv lo) :
    Calls Tryd.prog 32 #[.agg #[.int .i64 vi, .int .i64 no, .bool ca, lv, .int .i64 co], .int .i64 gen] w fun e w' =>
      e = .returned (.tuple #[.string (Scu.stageEncode (⟨vi, no, ca, lo, co⟩ : Scu.Kept) gen).1, .int .i64 (Scu.stageEncode (⟨vi, no, ca, lo, co⟩ : Scu.Kept) gen).2]) ∧ Below w.heap.size w w' := by
  have HV := Lib.hid hv
  obtain ⟨⟨A, c, rfl, _, hr⟩, hl, he⟩ := hv
  unfold R47 at hl he
  cases t0 : (Scu.keptFault (⟨vi, no, ca, lo, co⟩ : Scu.Kept) != 0) with
  | true =>
    have hs := enc_bad (k := (⟨vi, no, ca, lo, co⟩ : Scu.Kept)) (gen := gen) (by simpa using t0)
    rw [hs]
    clear hs hr he
    go_enter Tryd.func32, Tryd.ntmps32
    go_wp2_with fail
    refine (stageCheck_x _ vi no ca lo co _ B (HV.out.alloc _)).mono ?_; rintro e w1 ⟨rfl, h1⟩
    go_wp2
    go_ret2
    exact ⟨rfl, below_box h1⟩
  | false =>
  have hk : Scu.keptFault (⟨vi, no, ca, lo, co⟩ : Scu.Kept) = 0 := by simpa using t0
  cases t1 : decide (gen < 0) with
  | true =>
    have hs := enc_gen (k := (⟨vi, no, ca, lo, co⟩ : Scu.Kept)) (gen := gen) (by simpa using t0) (.inl (of_decide_eq_true t1))
    rw [hs]
    have HK := Lib.hid hk
    clear hs hr he hk t0
    go_enter Tryd.func32, Tryd.ntmps32
    go_wp2_with fail
    refine (stageCheck_x _ vi no ca lo co _ B (HV.out.alloc _)).mono ?_; rintro e w1 ⟨rfl, h1⟩
    rw [HK.out]
    go_wp2
    go_ret2
    exact ⟨rfl, below_box h1⟩
  | false =>
  cases t2 : decide ((1073741824 : Int) < gen) with
  | true =>
    have hs := enc_gen (k := (⟨vi, no, ca, lo, co⟩ : Scu.Kept)) (gen := gen) (by simpa using t0) (.inr (of_decide_eq_true t2))
    rw [hs]
    have HK := Lib.hid hk
    clear hs hr he hk t0
    go_enter Tryd.func32, Tryd.ntmps32
    go_wp2_with fail
    refine (stageCheck_x _ vi no ca lo co _ B (HV.out.alloc _)).mono ?_; rintro e w1 ⟨rfl, h1⟩
    rw [HK.out]
    go_wp2
    go_ret2
    exact ⟨rfl, below_box h1⟩
  | false =>
  have hg : ¬ (gen < 0 ∨ 1073741824 < gen) := fun h => h.elim (of_decide_eq_false t1) (of_decide_eq_false t2)
  have hs := enc_ok (k := (⟨vi, no, ca, lo, co⟩ : Scu.Kept)) (gen := gen) (by simpa using t0) hg
  rw [hs]
  have HK := Lib.hid hk
  have HBD := Lib.hid (Scu.nums_bd hk (gen := gen) (by omega) (by omega))
  have h60 : lo.length ≤ 60 := (Scu.keptFault_ok hk).2.2.2.2.2.1
  clear hs he hk t0 hg
  cases ca with
  | false =>
    go_enter Tryd.func32, Tryd.ntmps32
    go_wp2_with fail
    refine (stageCheck_x _ vi no false lo co _ B (HV.out.alloc _)).mono ?_; rintro e w1 ⟨rfl, h1⟩
    rw [HK.out]
    obtain ⟨hc, hz⟩ := bcell h1
    have hsz := box_lt h1
    have hB1 := below_box h1
    have hbk := (Blk.new w 64 #[.int .i64 vi, .int .i64 no, .bool false, .slice A lo.length c, .int .i64 co]).same h1
    go_wp2_with fail
    go_loopw [8, 43] (fun s i wr => ∃ j : Nat, j ≤ 6 ∧ i = .int .i64 j ∧ s = .string (Scu.encN ⟨vi, no, false, lo, co⟩ gen j) ∧ Below w.heap.size w wr ∧ Blk wr w.heap.size 64 #[.int .i64 vi, .int .i64 no, .bool false, .slice A lo.length c, .int .i64 co] ∧
        Blk wr w1.heap.size 3 ((Scu.nums ⟨vi, no, false, lo, co⟩ gen).map (Value.int .i64)).toArray) (fun _ i _ => 6 - (intOf i).toNat)
    case atStart => exact ⟨0, by omega, rfl, rfl, hB1.alloc hB1.size _, hbk.alloc _, Blk.new w1 3 _⟩
    case round =>
      obtain ⟨j, hj, rfl, rfl, hbw, hk0, hk1⟩ := hrel
      by_cases hlt : j < 6
      · have hlt' : (j : Int) < 6 := by omega
        have hn := num_cell hk1 (j := j) hlt
        have hb := HBD.out _ (List.getElem_mem (show j < (Scu.nums _ gen).length from hlt))
        have hsu := Scu.encN_succ (show j < (Scu.nums ⟨vi, no, false, lo, co⟩ gen).length from hlt)
        generalize (Scu.nums _ gen)[j]'hlt = n at hn hb hsu
        have ha := no_big _ (Scu.numBytes n) (Nat.le_trans (Scu.encN_size ⟨vi, no, false, lo, co⟩ gen j) (by omega)) (by rw [Scu.numBytes_size]; omega)
        have HSU := Lib.hid hsu
        have HB := Lib.hid (And.intro hbw (And.intro hk0 hk1))
        clear hsu hbw hk0 hk1
        go_wp2_with fail
        refine (number_ok _ _ hb.1 hb.2).mono ?_; rintro e w2 ⟨rfl, h2⟩
        go_wp2
        go_roundw
        case rel => exact ⟨j + 1, by omega, by go_num, by rw [HSU.out], HB.out.1.trans (h2.mono HB.out.1.size), HB.out.2.1.same h2, HB.out.2.2.same h2⟩
        case measure => simp only [intOf]; omega
      · have hlt' : (6 : Int) ≤ (j : Int) := by omega
        have HJ := Lib.hid (show j = 6 by omega)
        have hu := hk0.cell 3
        simp at hu
        obtain ⟨wa, hwa⟩ : ∃ x, x = wr := ⟨_, rfl⟩
        subst hwa
        have HB := Lib.hid (And.intro hbw hk0)
        clear hbw hk0 hk1
        go_wp2_with fail
        go_loopw [8, 59] (fun s i wr => ∃ m : Nat, m ≤ lo.length ∧ i = .int .i64 m ∧ s = .string (Scu.encT ⟨vi, no, false, lo, co⟩ gen m) ∧ Below w.heap.size w wr) (fun _ i _ => lo.length - (intOf i).toNat)
        case atStart => exact ⟨0, Nat.zero_le _, rfl, by rw [Scu.encT_zero, HJ.out], HB.out.1⟩
        case round =>
          obtain ⟨m, hm, rfl, rfl, hbw⟩ := hrel
          have hrw := hr.below hbw
          have hes := Scu.encT_size HK.out gen m
          by_cases hlt : m < lo.length
          · have hlt2 : (m : Int) < (lo.length : Int) := by omega
            obtain ⟨g, o, rfl, hg, hcc⟩ := str_get hrw hlt
            have h40 : lo[m].size ≤ 40 := Scu.log_small HK.out _ (List.getElem_mem hlt)
            have ha := no_big _ (Scu.textBytes lo[m]) hes (by rw [Scu.textBytes_size]; omega)
            have HSU := Lib.hid (Scu.encT_succ (k := ⟨vi, no, false, lo, co⟩) (gen := gen) hlt)
            have HBW := Lib.hid hbw
            clear hbw hrw
            go_wp2_with fail
            refine (text_ok _ _ (by omega)).mono ?_; rintro e w2 ⟨rfl, h2⟩
            go_wp2
            go_roundw
            case rel => exact ⟨m + 1, hlt, by go_num, by rw [HSU.out], HBW.out.trans (h2.mono HBW.out.size)⟩
            case measure => simp only [intOf]; omega
          · have hlt2 : (lo.length : Int) ≤ (m : Int) := by omega
            have HM := Lib.hid (show Scu.encT ⟨vi, no, false, lo, co⟩ gen m = Scu.keptBody ⟨vi, no, false, lo, co⟩ gen by
              rw [show m = lo.length by omega]; exact Scu.encT_all _ _)
            have ha := no_big (Scu.sealS (Scu.encT ⟨vi, no, false, lo, co⟩ gen m)) _ (by rw [Scu.sealS_size]; omega) hes
            have HBW := Lib.hid hbw
            clear hbw hrw
            go_wp2_with fail
            refine (seal_c _ _ (by unfold maxLen; omega)).mono ?_; rintro e w2 ⟨rfl, h2⟩
            go_wp2
            go_ret2
            exact ⟨ret_pair (str_eq (by rw [HM.out]; rfl)) rfl, HBW.out.trans (h2.mono HBW.out.size)⟩
  | true =>
    go_enter Tryd.func32, Tryd.ntmps32
    go_wp2_with fail
    refine (stageCheck_x _ vi no true lo co _ B (HV.out.alloc _)).mono ?_; rintro e w1 ⟨rfl, h1⟩
    rw [HK.out]
    obtain ⟨hc, hz⟩ := bcell h1
    have hsz := box_lt h1
    have hB1 := below_box h1
    have hbk := (Blk.new w 64 #[.int .i64 vi, .int .i64 no, .bool true, .slice A lo.length c, .int .i64 co]).same h1
    go_wp2_with fail
    go_loopw [8, 43] (fun s i wr => ∃ j : Nat, j ≤ 6 ∧ i = .int .i64 j ∧ s = .string (Scu.encN ⟨vi, no, true, lo, co⟩ gen j) ∧ Below w.heap.size w wr ∧ Blk wr w.heap.size 64 #[.int .i64 vi, .int .i64 no, .bool true, .slice A lo.length c, .int .i64 co] ∧
        Blk wr w1.heap.size 3 ((Scu.nums ⟨vi, no, true, lo, co⟩ gen).map (Value.int .i64)).toArray) (fun _ i _ => 6 - (intOf i).toNat)
    case atStart => exact ⟨0, by omega, rfl, rfl, hB1.alloc hB1.size _, hbk.alloc _, Blk.new w1 3 _⟩
    case round =>
      obtain ⟨j, hj, rfl, rfl, hbw, hk0, hk1⟩ := hrel
      by_cases hlt : j < 6
      · have hlt' : (j : Int) < 6 := by omega
        have hn := num_cell hk1 (j := j) hlt
        have hb := HBD.out _ (List.getElem_mem (show j < (Scu.nums _ gen).length from hlt))
        have hsu := Scu.encN_succ (show j < (Scu.nums ⟨vi, no, true, lo, co⟩ gen).length from hlt)
        generalize (Scu.nums _ gen)[j]'hlt = n at hn hb hsu
        have ha := no_big _ (Scu.numBytes n) (Nat.le_trans (Scu.encN_size ⟨vi, no, true, lo, co⟩ gen j) (by omega)) (by rw [Scu.numBytes_size]; omega)
        have HSU := Lib.hid hsu
        have HB := Lib.hid (And.intro hbw (And.intro hk0 hk1))
        clear hsu hbw hk0 hk1
        go_wp2_with fail
        refine (number_ok _ _ hb.1 hb.2).mono ?_; rintro e w2 ⟨rfl, h2⟩
        go_wp2
        go_roundw
        case rel => exact ⟨j + 1, by omega, by go_num, by rw [HSU.out], HB.out.1.trans (h2.mono HB.out.1.size), HB.out.2.1.same h2, HB.out.2.2.same h2⟩
        case measure => simp only [intOf]; omega
      · have hlt' : (6 : Int) ≤ (j : Int) := by omega
        have HJ := Lib.hid (show j = 6 by omega)
        have hu := hk0.cell 3
        simp at hu
        obtain ⟨wa, hwa⟩ : ∃ x, x = wr := ⟨_, rfl⟩
        subst hwa
        have HB := Lib.hid (And.intro hbw hk0)
        clear hbw hk0 hk1
        go_wp2_with fail
        go_loopw [8, 59] (fun s i wr => ∃ m : Nat, m ≤ lo.length ∧ i = .int .i64 m ∧ s = .string (Scu.encT ⟨vi, no, true, lo, co⟩ gen m) ∧ Below w.heap.size w wr) (fun _ i _ => lo.length - (intOf i).toNat)
        case atStart => exact ⟨0, Nat.zero_le _, rfl, by rw [Scu.encT_zero, HJ.out], HB.out.1⟩
        case round =>
          obtain ⟨m, hm, rfl, rfl, hbw⟩ := hrel
          have hrw := hr.below hbw
          have hes := Scu.encT_size HK.out gen m
          by_cases hlt : m < lo.length
          · have hlt2 : (m : Int) < (lo.length : Int) := by omega
            obtain ⟨g, o, rfl, hg, hcc⟩ := str_get hrw hlt
            have h40 : lo[m].size ≤ 40 := Scu.log_small HK.out _ (List.getElem_mem hlt)
            have ha := no_big _ (Scu.textBytes lo[m]) hes (by rw [Scu.textBytes_size]; omega)
            have HSU := Lib.hid (Scu.encT_succ (k := ⟨vi, no, true, lo, co⟩) (gen := gen) hlt)
            have HBW := Lib.hid hbw
            clear hbw hrw
            go_wp2_with fail
            refine (text_ok _ _ (by omega)).mono ?_; rintro e w2 ⟨rfl, h2⟩
            go_wp2
            go_roundw
            case rel => exact ⟨m + 1, hlt, by go_num, by rw [HSU.out], HBW.out.trans (h2.mono HBW.out.size)⟩
            case measure => simp only [intOf]; omega
          · have hlt2 : (lo.length : Int) ≤ (m : Int) := by omega
            have HM := Lib.hid (show Scu.encT ⟨vi, no, true, lo, co⟩ gen m = Scu.keptBody ⟨vi, no, true, lo, co⟩ gen by
              rw [show m = lo.length by omega]; exact Scu.encT_all _ _)
            have ha := no_big (Scu.sealS (Scu.encT ⟨vi, no, true, lo, co⟩ gen m)) _ (by rw [Scu.sealS_size]; omega) hes
            have HBW := Lib.hid hbw
            clear hbw hrw
            go_wp2_with fail
            refine (seal_c _ _ (by unfold maxLen; omega)).mono ?_; rintro e w2 ⟨rfl, h2⟩
            go_wp2
            go_ret2
            exact ⟨ret_pair (str_eq (by rw [HM.out]; rfl)) rfl, HBW.out.trans (h2.mono HBW.out.size)⟩
theorem stageEncode_c (lv : Value) (k : Scu.Kept) (gen : Int) (w : World) (B : Nat) (hv : IsStrs w B lv k.log) :
    Calls Tryd.prog 32 #[.agg #[.int .i64 k.view, .int .i64 k.normal, .bool k.calm, lv, .int .i64 k.commit], .int .i64 gen] w fun e w' =>
      e = .returned (.tuple #[.string (Scu.stageEncode k gen).1, .int .i64 (Scu.stageEncode k gen).2]) ∧ Below w.heap.size w w' :=
  stageEncode_x lv k.view k.normal k.calm k.log k.commit gen w B hv

end Go.Proofs.YtfpiembhlgcelaaDoor
/- Plain: what a slot that is read yields; the newest of both slots; what is stored. -/
namespace Scu

theorem readNumber_rng {s : Str} (h : (readNumber s).2.2 = 0) : 0 ≤ (readNumber s).1 ∧ (readNumber s).1 ≤ 1073741824 := by
  unfold readNumber at h ⊢
  split
  · rename_i hx; rw [if_pos hx] at h; simp at h
  rename_i hx; rw [if_neg hx] at h
  split
  · rename_i hx; rw [if_pos hx] at h; simp at h
  · have := num4_range s
    exact ⟨this.1, by show num4 s ≤ _; omega⟩
theorem readNumbers_rng : ∀ (n : Nat) (s : Str), (readNumbers n s).2.2 = 0 → ∀ x ∈ (readNumbers n s).1, 0 ≤ x ∧ x ≤ 1073741824
  | 0, s, _, x, hx => by simp [readNumbers] at hx
  | n + 1, s, h, x, hx => by
    unfold readNumbers at h hx
    simp only [] at h hx
    by_cases h1 : (readNumber s).2.2 ≠ 0
    · rw [if_pos h1] at h; exact absurd h h1
    rw [if_neg h1] at h hx
    by_cases h2 : (readNumbers n (readNumber s).2.1).2.2 ≠ 0
    · rw [if_pos h2] at h; exact absurd h h2
    rw [if_neg h2] at hx
    rcases List.mem_cons.1 hx with rfl | hx
    · exact readNumber_rng (by omega)
    · exact readNumbers_rng n _ (by omega) x hx
theorem stageDecode_ok {s : Str} {k : Kept} {g : Int} (h : stageDecode s = (k, g, 0)) : keptFault k = 0 ∧ 0 ≤ g ∧ g ≤ 1073741824 := by
  unfold stageDecode at h
  split at h
  · simp at h
  split at h
  · simp at h
  split at h
  · simp at h
  simp only [] at h
  split at h
  · rename_i hx; simp only [Prod.mk.injEq] at h; omega
  rename_i hn
  split at h
  · simp at h
  split at h
  · rename_i hx; simp only [Prod.mk.injEq] at h; omega
  split at h
  · simp at h
  split at h
  · rename_i hx; simp only [Prod.mk.injEq] at h; omega
  rename_i hk
  simp only [Prod.mk.injEq] at h
  obtain ⟨rfl, rfl, _⟩ := h
  refine ⟨by omega, ?_⟩
  have hr := readNumbers_rng 6 (dropS s 4) (by omega)
  rcases Nat.lt_or_ge 0 (readNumbers 6 (dropS s 4)).1.length with hl | hl
  · rw [List.getD_eq_getElem?_getD, List.getElem?_eq_getElem hl]
    exact hr _ (List.getElem_mem hl)
  · rw [List.getD_eq_getElem?_getD, List.getElem?_eq_none hl]
    simp


/- loading -/
theorem load_len {l : List Str} (h : l.length ≠ 2) : load l = (kept0, 0, 0, 4) := if_pos h
theorem load_two {a b : Str} {ka kb : Kept} {ga gb ea eb : Int} (da : stageDecode a = (ka, ga, ea)) (db : stageDecode b = (kb, gb, eb)) :
    load [a, b] = if ea ≠ 0 ∧ eb ≠ 0 then (kept0, 0, 0, 13) else if ea ≠ 0 ∨ (eb = 0 ∧ ga < gb) then (kb, gb, 1, 0) else (ka, ga, 0, 0) := by
  unfold load
  rw [if_neg (by simp)]
  simp only [List.getD_cons_zero, List.getD_cons_succ, da, db]
/-- The best of the slots so far: what is kept, its generation, where it lies. -/
def better2 (q : Kept × Int × Int) (d : Kept × Int × Int) (j : Int) : Kept × Int × Int := if d.2.2 = 0 ∧ q.2.1 < d.2.1 then (d.1, d.2.1, j) else q
def best0 : Kept × Int × Int := (kept0, -1, 0)
def bestJ (l : List Str) : Nat → Kept × Int × Int
  | 0 => best0
  | j + 1 => better2 (bestJ l j) (stageDecode (l.getD j str0)) j
theorem bestJ_next {l : List Str} {j : Nat} (hj : j < l.length) {k : Kept} {g e : Int} (d : stageDecode l[j] = (k, g, e)) : bestJ l (j + 1) = if e = 0 ∧ (bestJ l j).2.1 < g then (k, g, (j : Int)) else bestJ l j := by
  show better2 (bestJ l j) (stageDecode (l.getD j str0)) j = _
  rw [List.getD_eq_getElem?_getD, List.getElem?_eq_getElem hj, Option.getD_some, d]
  rfl
theorem load_best {l : List Str} (h : l.length = 2) : load l = if (bestJ l 2).2.1 < 0 then (kept0, 0, 0, 13) else ((bestJ l 2).1, (bestJ l 2).2.1, (bestJ l 2).2.2, 0) := by
  match l, h with
  | [a, b], _ =>
    generalize da : stageDecode a = qa
    generalize db : stageDecode b = qb
    obtain ⟨ka, ga, ea⟩ := qa
    obtain ⟨kb, gb, eb⟩ := qb
    rw [load_two da db]
    have e1 : bestJ [a, b] 1 = if ea = 0 ∧ (-1 : Int) < ga then (ka, ga, 0) else best0 := bestJ_next (l := [a, b]) (j := 0) (by simp) da
    have e2 : bestJ [a, b] 2 = if eb = 0 ∧ (bestJ [a, b] 1).2.1 < gb then (kb, gb, 1) else bestJ [a, b] 1 := bestJ_next (l := [a, b]) (j := 1) (by simp) db
    by_cases ha : ea = 0
    · subst ha
      have hga := (stageDecode_ok da).2.1
      rw [if_pos ⟨rfl, by omega⟩] at e1
      rw [e1] at e2
      by_cases hb : eb = 0
      · subst hb
        have hgb := (stageDecode_ok db).2.1
        by_cases hlt : ga < gb
        · rw [if_pos ⟨rfl, hlt⟩] at e2
          rw [e2, if_neg (by simp), if_pos (.inr ⟨rfl, hlt⟩), if_neg (by show ¬ gb < 0; omega)]
        · rw [if_neg (by rintro ⟨_, h⟩; exact hlt h)] at e2
          rw [e2, if_neg (by simp), if_neg (by rintro (h | ⟨_, h⟩) <;> omega), if_neg (by show ¬ ga < 0; omega)]
      · rw [if_neg (by rintro ⟨h, _⟩; exact hb h)] at e2
        rw [e2, if_neg (by simp), if_neg (by rintro (h | ⟨h, _⟩); exact h rfl; exact hb h), if_neg (by show ¬ ga < 0; omega)]
    · rw [if_neg (by rintro ⟨h, _⟩; exact ha h)] at e1
      rw [e1] at e2
      by_cases hb : eb = 0
      · subst hb
        have hgb := (stageDecode_ok db).2.1
        rw [if_pos ⟨rfl, by show (-1 : Int) < gb; omega⟩] at e2
        rw [e2, if_neg (by simp), if_pos (.inl ha), if_neg (by show ¬ gb < 0; omega)]
      · rw [if_neg (by rintro ⟨h, _⟩; exact hb h)] at e2
        rw [e2, if_pos ⟨ha, hb⟩, if_pos (by show (-1 : Int) < 0; omega)]
theorem load_at {l : List Str} {k : Kept} {g a : Int} (h : load l = (k, g, a, 0)) : l.length = 2 ∧ (a = 0 ∨ a = 1) ∧ 0 ≤ g ∧ g ≤ 1073741824 := by
  by_cases hl : l.length = 2
  · match l, hl with
    | [x, y], _ =>
      generalize da : stageDecode x = qa at *
      generalize db : stageDecode y = qb at *
      obtain ⟨ka, ga, ea⟩ := qa
      obtain ⟨kb, gb, eb⟩ := qb
      rw [load_two da db] at h
      refine ⟨rfl, ?_⟩
      split at h
      · simp at h
      split at h
      · rename_i h1 h2
        simp only [Prod.mk.injEq] at h
        obtain ⟨rfl, rfl, rfl, _⟩ := h
        have : eb = 0 := by
          rcases h2 with h2 | h2
          · exact Decidable.byContradiction (fun hb => h1 ⟨h2, hb⟩)
          · exact h2.1
        subst this
        have := stageDecode_ok db
        exact ⟨.inr rfl, this.2⟩
      · rename_i h1 h2
        simp only [Prod.mk.injEq] at h
        obtain ⟨rfl, rfl, rfl, _⟩ := h
        have : ea = 0 := Decidable.byContradiction (fun ha => h2 (.inl ha))
        subst this
        have := stageDecode_ok da
        exact ⟨.inl rfl, this.2⟩
  · rw [load_len hl] at h
    simp at h
end Scu
/- Walks: new slots; the law StageNew. -/
namespace Go.Proofs.YtfpiembhlgcelaaDoor
open Go.RowKit
set_option maxHeartbeats 16000000
set_option maxRecDepth 100000

theorem keptNew_ok : Scu.keptFault Scu.keptNew = 0 := by
  unfold Scu.keptFault Scu.keptNew Scu.kept0
  simp [Scu.logFault]
theorem stageNew_size : (Scu.keptBytes Scu.keptNew 0).size ≤ 4000 := by
  unfold Scu.keptBytes
  rw [ByteArray.size_append, Scu.sealS_size, ← Scu.encT_all]
  have := Scu.encT_size keptNew_ok 0 Scu.keptNew.log.length
  omega
theorem encNew : Scu.stageEncode Scu.keptNew 0 = (Scu.keptBytes Scu.keptNew 0, 0) := enc_ok (by simp [keptNew_ok]) (by omega)
theorem own_two {w : World} {base g : Nat} {a b : Scu.Str} (h : Blk w g 9 #[.string a, .string b]) (hb : base ≤ g) (h1 : a.size ≤ R47) (h2 : b.size ≤ R47) : OwnStrs w base (.slice (some ⟨g, 0, none⟩) 2 2) [a, b] :=
  ⟨own_blk (xs := [.string a, .string b]) h hb rfl (by unfold maxLen; omega), by simp [R47], fun s hs => by
    simp only [List.mem_cons, List.not_mem_nil, or_false] at hs
    rcases hs with rfl | rfl
    · exact h1
    · exact h2⟩
theorem stageNew_c (w : World) :
    Calls Tryd.prog 37 #[] w fun e w' => (∃ u, e = .returned u ∧ OwnStrs w' w.heap.size u Scu.stageNew) ∧ Below w.heap.size w w' := by
  have K := Lib.hid (fun W => stageEncode_c (.slice none 0 0) Scu.keptNew 0 W 0 IsStrs.nil_)
  go_enter Tryd.func37, Tryd.ntmps37
  go_wp2_with fail
  refine (K.out _).mono ?_; rintro e w1 ⟨rfl, h1⟩
  go_wp2
  go_ret
  refine ⟨⟨_, rfl, ?_⟩, h1.alloc h1.size _⟩
  rw [encNew]
  exact own_two (Blk.new w1 _ _) h1.size (Nat.le_trans stageNew_size (by simp [R47])) (by simp [R47, Scu.str0])
def LoadRet (w : World) (base : Nat) (q : Scu.Kept × Int × Int × Int) (e : Ending) : Prop :=
  ∃ lv, e = .returned (.tuple #[.agg #[.int .i64 q.1.view, .int .i64 q.1.normal, .bool q.1.calm, lv, .int .i64 q.1.commit], .int .i64 q.2.1, .int .i64 q.2.2.1, .int .i64 q.2.2.2]) ∧ OwnStrs w base lv q.1.log
theorem load_zero (w : World) (base : Nat) (e : Int) : LoadRet w base (Scu.kept0, 0, 0, e) (.returned (.tuple #[.agg #[.int .i64 0, .int .i64 0, .bool false, .slice none 0 0, .int .i64 0], .int .i64 0, .int .i64 0, .int .i64 e])) :=
  ⟨_, rfl, OwnStrs.nil_⟩
theorem stageDecode_a (s : ByteArray) (w : World) (k : Scu.Kept) (g e : Int) (h : Scu.stageDecode s = (k, g, e)) :
    Calls Tryd.prog 34 #[.string s] w fun en w' => DecRet w' w.heap.size (k, g, e) en ∧ Below w.heap.size w w' := by
  have := stageDecode_c s w
  rw [h] at this
  exact this
end Go.Proofs.YtfpiembhlgcelaaDoor

/- Walks: bytes, as what is kept: the program's. -/
import Derived.Test.YtioajgcbchdpeaaStgP
import Derived.Test.YtioajgcbchdpeaaKeptS
import Derived.Test.YtioajgcbchdpeaaOwn
import Derived.Deep.DeepCutAuto
namespace Go.Proofs.Ytioajgcbchdpeaa
open Go.RowKit
set_option maxHeartbeats 8000000
set_option maxRecDepth 100000

def DecRet (w : World) (base : Nat) (q : Scu.Kept × Int × Int) (e : Ending) : Prop :=
  ∃ lv, e = .returned (.tuple #[.agg #[.int .i64 q.1.view, .int .i64 q.1.normal, .bool q.1.calm, lv, .int .i64 q.1.commit], .int .i64 q.2.1, .int .i64 q.2.2]) ∧ OwnStrs w base lv q.1.log
theorem OwnStrs.nil_ {w : World} {base : Nat} : OwnStrs w base (.slice none 0 0) [] := ⟨World.ownsRow_nil _ _ _ _, by simp [R47], fun s hs => by cases hs⟩
theorem dec_zero (w : World) (base : Nat) (e : Int) : DecRet w base (Scu.kept0, 0, e) (.returned (.tuple #[.agg #[.int .i64 0, .int .i64 0, .bool false, .slice none 0 0, .int .i64 0], .int .i64 0, .int .i64 e])) :=
  ⟨_, rfl, OwnStrs.nil_⟩
theorem Blk.at_ {Ts : List TypeId} {B g : Nat} {w w' : World} {t : TypeId} {cs : Array Value} (h : Blk w g t cs) (hs : Same Ts B w w') (ht : t ∈ Ts) : Blk w' g t cs :=
  (hs.keep g h.lt (.inr ⟨_, _, _, ht, h⟩)).trans h
def arr6 (xs : List Int) : Array Value := ((xs ++ List.replicate (6 - xs.length) 0).map (Value.int .i64)).toArray
theorem arr6_len (xs : List Int) (h : xs.length ≤ 6) : (xs ++ List.replicate (6 - xs.length) (0 : Int)).length = 6 := by simp; omega
theorem arr6_set (xs : List Int) (n : Int) (h : xs.length < 6) : (arr6 xs).setIfInBounds xs.length (.int .i64 n) = arr6 (xs ++ [n]) := by
  unfold arr6
  rw [List.setIfInBounds_toArray, ← List.map_set, List.set_append_right _ _ (Nat.le_refl _), Nat.sub_self]
  obtain ⟨k, hk⟩ : ∃ k, 6 - xs.length = k + 1 := ⟨6 - xs.length - 1, by omega⟩
  rw [hk, List.replicate_succ, List.set_cons_zero, List.length_append, List.length_singleton, show 6 - (xs.length + 1) = k by omega]
  simp
theorem arr6_get {w : World} {g : Nat} {t : TypeId} {xs : List Int} (h : Blk w g t (arr6 xs)) (hl : xs.length ≤ 6) {j : Nat} (hj : j < 6) : ∃ n, w.cell? ⟨g, j, none⟩ = some (.int .i64 n) := by
  have hj' : j < (xs ++ List.replicate (6 - xs.length) (0 : Int)).length := by rw [arr6_len xs hl]; exact hj
  refine ⟨(xs ++ List.replicate (6 - xs.length) 0)[j], ?_⟩
  rw [h.cell]
  unfold arr6
  rw [List.getElem?_toArray, List.getElem?_map, List.getElem?_eq_getElem hj']
  rfl
theorem six {xs : List Int} (h : xs.length = 6) : ∃ a b c d e f, xs = [a, b, c, d, e, f] := by
  match xs, h with
  | [a, b, c, d, e, f], _ => exact ⟨a, b, c, d, e, f, rfl⟩
theorem readNumber_a (s : ByteArray) (w : World) (n : Int) (r : ByteArray) (c : Int) (h : Scu.readNumber s = (n, r, c)) :
    Calls Try.prog 73 #[.string s] w fun e w' => e = .returned (.tuple #[.int .i64 n, .string r, .int .i64 c]) ∧ Below w.heap.size w w' := by
  have := readNumber_c s w
  rw [h] at this
  exact this
theorem readText_a (s : ByteArray) (w : World) (hm : s.size ≤ maxLen) (n r : ByteArray) (c : Int) (h : Scu.readText s = (n, r, c)) :
    Calls Try.prog 74 #[.string s] w fun e w' => e = .returned (.tuple #[.string n, .string r, .int .i64 c]) ∧ Below w.heap.size w w' := by
  have := readText_c s w hm
  rw [h] at this
  exact this
theorem blk_grown {w w' : World} {base g n : Nat} {t e : TypeId} {cs : Array Value} {lv : Value} {xs : List Value} (hb : Blk w g t cs) (hown : w.ownsRow base e 1 lv n xs) (hne : t ≠ e) (hg : w.grownBy w' lv.ownBlock) : Blk w' g t cs :=
  (hg.block g hb.lt fun e' => by
    obtain ⟨C', fz', hh⟩ := own_kind hown e'.symm
    unfold Blk at hb
    rw [hh] at hb
    cases hb
    exact hne rfl).trans hb
/-- What is read so far: the numbers, what is kept of them, the texts. -/
structure LogI (w : World) (gk ga : Nat) (ta : TypeId) (vi no : Int) (ca : Bool) (co : Int) (xs : List Int) (lv : Value) (ys : List Scu.Str) (wr : World) : Prop where
  kept : Blk wr gk 28 #[.int .i64 vi, .int .i64 no, .bool ca, lv, .int .i64 co]
  own : wr.ownsRow w.heap.size 9 1 lv ys.length (ys.map Value.string)
  nums : Blk wr ga ta (arr6 xs)
  zero : Blk wr w.heap.size 28 #[.int .i64 0, .int .i64 0, .bool false, .slice none 0 0, .int .i64 0]
  low : Below w.heap.size w wr
section
variable {w wr w' : World} {gk ga : Nat} {ta : TypeId} {vi no : Int} {ca : Bool} {co : Int} {xs : List Int} {lv : Value} {ys : List Scu.Str}
theorem LogI.below (h : LogI w gk ga ta vi no ca co xs lv ys wr) (hb : Below wr.heap.size wr w') : LogI w gk ga ta vi no ca co xs lv ys w' :=
  ⟨h.kept.same hb, own_below h.own hb, h.nums.same hb, h.zero.same hb, h.low.trans (hb.mono h.low.size)⟩
theorem LogI.alloc (h : LogI w gk ga ta vi no ca co xs lv ys wr) (o : Obj) : LogI w gk ga ta vi no ca co xs lv ys (wr.alloc o) := h.below (below_alloc wr o)
theorem LogI.app {v4 : Value} {x : Scu.Str} (h : LogI w gk ga ta vi no ca co xs lv ys wr) (hta : ta ≠ 9) (hgk : w.heap.size < gk) (hga : ga ≠ gk) (hg : wr.grownBy w' lv.ownBlock)
    (h4 : w'.ownsRow w.heap.size 9 1 v4 (ys.length + 1) (ys.map Value.string ++ [.string x])) : LogI w gk ga ta vi no ca co xs v4 (ys ++ [x]) (w'.setCell ⟨gk, 3, none⟩ v4) := by
  have hk := blk_grown h.kept h.own (by decide) hg
  refine ⟨hk.set_ 3 v4, ?_, (blk_grown h.nums h.own hta hg).far (by simpa using hga) v4, (blk_grown h.zero h.own (by decide) hg).far (by simp; omega) v4, ?_⟩
  · rw [List.length_append, List.map_append]
    exact own_set h4 hk (by decide) v4
  · exact (h.low.grown hg h.low.size (fun q hq => (h.own.lt q hq).1)).setCell (p := ⟨gk, 3, none⟩) (by show w.heap.size ≤ gk; omega) v4
theorem LogI.strs (h : LogI w gk ga ta vi no ca co xs lv ys wr) (h1 : ys.length ≤ 60) (h2 : ∀ s ∈ ys, s.size ≤ 4000) : OwnStrs wr w.heap.size lv ys :=
  ⟨h.own, by unfold R47; omega, fun s hs => by have := h2 s hs; unfold R47; omega⟩
end
theorem stageDecode_c (s : ByteArray) (w : World) :
    Calls Try.prog 28 #[.string s] w fun e w' => DecRet w' w.heap.size (Scu.stageDecode s) e ∧ Below w.heap.size w w' := by
  by_cases h1 : 4000 < s.size
  · rw [Scu.dec1 h1]
    have h1' : (4000 : Int) < (s.size : Int) := by omega
    clear h1
    go_enter Try.func28, Try.ntmps28
    go_wp2
    go_returns
    exact ⟨dec_zero _ _ _, (Below.refl _ _).alloc (Nat.le_refl _) _⟩
  by_cases h2 : s.size < 4
  · rw [Scu.dec2 h2]
    have h2' : (s.size : Int) < 4 := by omega
    clear h2 h1
    go_enter Try.func28, Try.ntmps28
    go_wp2
    go_returns
    exact ⟨dec_zero _ _ _, (Below.refl _ _).alloc (Nat.le_refl _) _⟩
  have g1 : (s.size : Int) ≤ 4000 := by omega
  have g2 : (4 : Int) ≤ (s.size : Int) := by omega
  have hm0 : (s.extract 4 s.size).size ≤ maxLen := by rw [ByteArray.size_extract]; unfold maxLen; omega
  by_cases h3 : Scu.sealS (Scu.dropS s 4) ≠ s.extract 0 4
  · rw [Scu.dec3 h1 h2 h3]
    have hb : ((Scu.sealS (s.extract 4 s.size)).toList == (s.extract 0 4).toList) = false := by rw [str_beq]; exact decide_eq_false (fun e => h3 e)
    clear h3 h1 h2
    go_enter Try.func28, Try.ntmps28
    go_upto_region 5 with fail
    go_cut [25] (fun b wx => b = .bool true ∧ Below (w.heap.size + 1) (w.alloc (Obj.cells #[.int .i64 0, .int .i64 0, .bool false, .slice none 0 0, .int .i64 0] 28)) wx)
    case first =>
      go_region_with (go_at_call 69; refine (seal_c _ _ hm0).mono ?_; rintro e w1 ⟨rfl, h1⟩)
      all_goals
        go_wp2_with fail
        go_meet
        exact ⟨rfl, (Below.refl _ _).drew.trans (h1.mono (by simp))⟩
    case rest =>
      obtain ⟨rfl, hbw⟩ := hcut
      have hzk : Blk wc w.heap.size 28 #[.int .i64 0, .int .i64 0, .bool false, .slice none 0 0, .int .i64 0] := (Blk.new w _ _).below hbw (by omega)
      have zc0 := hzk.cell 0
      have zc1 := hzk.cell 1
      have zc2 := hzk.cell 2
      have zc3 := hzk.cell 3
      have zc4 := hzk.cell 4
      simp only [List.getElem?_toArray, List.getElem?_cons_zero, List.getElem?_cons_succ] at zc0 zc1 zc2 zc3 zc4
      have zcz := hzk.frozen
      go_wp2
      refine bodyPost_ret (v := .tuple #[.agg #[.int .i64 0, .int .i64 0, .bool false, .slice none 0 0, .int .i64 0], .int .i64 0, .int .i64 11]) (by simp [results, Try.results28, go_sem, zc0, zc1, zc2, zc3, zc4]) rfl ?_
      exact ⟨dec_zero _ _ _, below_set5 ((below_alloc w _).trans (hbw.mono (by omega))) (Nat.le_refl _)⟩
  have hb : ((Scu.sealS (s.extract 4 s.size)).toList == (s.extract 0 4).toList) = true := by rw [str_beq]; exact decide_eq_true (Decidable.byContradiction h3)
  have HD := Lib.hid (fun a b c d e f t (h : Scu.readNumbers 6 (Scu.dropS s 4) = ([a, b, c, d, e, f], t, 0)) => Scu.dec5 h1 h2 h3 h)
  have HE := Lib.hid (fun e (h : Scu.readNumbers 6 (Scu.dropS s 4) = ([], Scu.str0, e)) he => Scu.dec4 h1 h2 h3 h he)
  have hs4 : (s.extract 4 s.size).size ≤ 4000 := by rw [ByteArray.size_extract]; omega
  clear h1 h2 h3
  go_enter Try.func28, Try.ntmps28
  go_upto_region 5 with fail
  go_cut [25] (fun b wx => b = .bool false ∧ Below (w.heap.size + 1) (w.alloc (Obj.cells #[.int .i64 0, .int .i64 0, .bool false, .slice none 0 0, .int .i64 0] 28)) wx)
  case first =>
    go_region_with (go_at_call 69; refine (seal_c _ _ hm0).mono ?_; rintro e w1 ⟨rfl, h1⟩)
    all_goals
      go_wp2_with fail
      go_meet
      exact ⟨rfl, (Below.refl _ _).drew.trans (h1.mono (by simp))⟩
  case rest =>
  obtain ⟨rfl, hbw⟩ := hcut
  have hsz : w.heap.size < wc.heap.size := by have := hbw.size; simp at this; omega
  go_wp2_with fail
  go_loopw [0, 29] (fun sv i wr => ∃ (xs : List Int) (r : Scu.Str), xs.length ≤ 6 ∧ i = .int .i64 xs.length ∧ sv = .string r ∧ r.size ≤ 4000 ∧ Below (w.heap.size + 1) (w.alloc (Obj.cells #[.int .i64 0, .int .i64 0, .bool false, .slice none 0 0, .int .i64 0] 28)) wr ∧ wc.heap.size < wr.heap.size ∧ Blk wr wc.heap.size 97 (arr6 xs) ∧
      Hid (Scu.readNumbers 6 (Scu.dropS s 4) = Scu.glue xs (Scu.readNumbers (6 - xs.length) r))) (fun _ i _ => 6 - (intOf i).toNat)
  case atStart => exact ⟨[], _, by simp, rfl, rfl, hs4, hbw.alloc (by omega) _, by simp, Blk.new wc _ _, Scu.nil_glue _ _⟩
  case round =>
    obtain ⟨xs, r, hj, rfl, rfl, hrs, hbr, hlt0, hba, hrn⟩ := hrel
    by_cases hlt : xs.length < 6
    · have hlt' : (xs.length : Int) < 6 := by omega
      have hj0 : (0 : Int) ≤ (xs.length : Int) := by omega
      generalize hq : Scu.readNumber r = q
      obtain ⟨n, r', c⟩ := q
      have HQ := Lib.hid hq
      have HS := Lib.hid (show r'.size ≤ 4000 by have := Scu.rn_size r; rw [hq] at this; exact Nat.le_trans this hrs)
      have HB := Lib.hid (And.intro hbr hba)
      clear hq hbr hba
      go_wp2_with fail
      refine (readNumber_a r _ n r' c HQ.out).mono ?_; rintro e w2 ⟨rfl, h2⟩
      have hbr2 := HB.out.1.trans (h2.mono (by omega))
      have hba2 := HB.out.2.same h2
      obtain ⟨n0, hn0⟩ := arr6_get hba2 hj hlt
      have hn0z := hba2.frozen
      have hlt2 : wc.heap.size < w2.heap.size := by have := h2.size; omega
      have hzk : Blk w2 w.heap.size 28 #[.int .i64 0, .int .i64 0, .bool false, .slice none 0 0, .int .i64 0] := (Blk.new w _ _).below hbr2 (by omega)
      have zc0 := hzk.cell 0
      have zc1 := hzk.cell 1
      have zc2 := hzk.cell 2
      have zc3 := hzk.cell 3
      have zc4 := hzk.cell 4
      simp only [List.getElem?_toArray, List.getElem?_cons_zero, List.getElem?_cons_succ] at zc0 zc1 zc2 zc3 zc4
      have zcz := hzk.frozen
      have HB2 := Lib.hid (And.intro hbr2 hba2)
      clear hbr2 hba2 hzk
      by_cases hc0 : c = 0
      · subst hc0
        have hn6 : 6 - xs.length = (6 - (xs.length + 1)) + 1 := by omega
        have HN := Lib.hid (show Scu.readNumbers 6 (Scu.dropS s 4) = Scu.glue (xs ++ [n]) (Scu.readNumbers (6 - (xs.length + 1)) r') by
          rw [hrn.out, hn6, Scu.readNumbers_more (by rw [HQ.out]), HQ.out, Scu.glue_glue])
        clear hn6 hrn
        go_wp2
        go_roundw
        case rel =>
          refine ⟨xs ++ [n], r', by simp; omega, by simp, rfl, HS.out, HB2.out.1.setCell (p := ⟨wc.heap.size, xs.length, none⟩) hsz _, by simpa [World.setCell] using hlt2, ?_, ?_⟩
          · rw [← arr6_set _ _ hlt]; exact HB2.out.2.set_ _ _
          · rw [List.length_append]; exact HN
        case measure => simp only [intOf]; omega
      · have hcb : (c != 0) = true := by simpa using hc0
        have HF := Lib.hid (show Scu.stageDecode s = (Scu.kept0, 0, c) by
          refine HE.out c ?_ hc0
          have hn6 : 6 - xs.length = (6 - (xs.length + 1)) + 1 := by omega
          rw [hrn.out, hn6, Scu.readNumbers_bad (by rw [HQ.out]; exact hc0), HQ.out, Scu.glue_bad _ _ hc0])
        clear hrn hc0
        go_wp2
        refine bodyPost_ret (v := .tuple #[.agg #[.int .i64 0, .int .i64 0, .bool false, .slice none 0 0, .int .i64 0], .int .i64 0, .int .i64 c]) (by simp [results, Try.results28, go_sem, zc0, zc1, zc2, zc3, zc4]) rfl ?_
        refine ⟨by rw [HF.out]; exact dec_zero _ _ _, ?_⟩
        exact below_set5 ((below_alloc w _).trans ((HB2.out.1.setCell (p := ⟨wc.heap.size, xs.length, none⟩) hsz _).mono (by omega))) (Nat.le_refl _)
    · have hj6 : xs.length = 6 := by omega
      have hlt' : (6 : Int) ≤ (xs.length : Int) := by omega
      obtain ⟨a, b, c, d, e, f, rfl⟩ := six hj6
      have HR := Lib.hid (show Scu.readNumbers 6 (Scu.dropS s 4) = ([a, b, c, d, e, f], r, 0) by rw [hrn.out]; exact Scu.glue_done _ _)
      have HDD := Lib.hid (HD.out _ _ _ _ _ _ _ HR.out)
      have hba' : Blk wr wc.heap.size 97 #[.int .i64 a, .int .i64 b, .int .i64 c, .int .i64 d, .int .i64 e, .int .i64 f] := hba
      have ac0 := hba'.cell 0
      have ac1 := hba'.cell 1
      have ac2 := hba'.cell 2
      have ac3 := hba'.cell 3
      have ac4 := hba'.cell 4
      have ac5 := hba'.cell 5
      simp only [List.getElem?_toArray, List.getElem?_cons_zero, List.getElem?_cons_succ] at ac0 ac1 ac2 ac3 ac4 ac5
      have acz := hba'.frozen
      have hzk : Blk wr w.heap.size 28 #[.int .i64 0, .int .i64 0, .bool false, .slice none 0 0, .int .i64 0] := (Blk.new w _ _).below hbr (by omega)
      have zc0 := hzk.cell 0
      have zc1 := hzk.cell 1
      have zc2 := hzk.cell 2
      have zc3 := hzk.cell 3
      have zc4 := hzk.cell 4
      simp only [List.getElem?_toArray, List.getElem?_cons_zero, List.getElem?_cons_succ] at zc0 zc1 zc2 zc3 zc4
      have zcz := hzk.frozen
      have HB := Lib.hid (And.intro hbr (And.intro hba hzk))
      have HBL := Lib.hid (show Below w.heap.size w wr from (below_alloc w _).trans (hbr.mono (by omega)))
      have hlw : w.heap.size < wr.heap.size := by omega
      clear hbr hba hba' hzk hrn hj hj6
      by_cases t3 : 1 < d
      · have HF := Lib.hid (show Scu.stageDecode s = (Scu.kept0, 0, 4) by rw [HDD.out, if_pos (.inl t3)])
        go_wp2
        refine bodyPost_ret (v := .tuple #[.agg #[.int .i64 0, .int .i64 0, .bool false, .slice none 0 0, .int .i64 0], .int .i64 0, .int .i64 4]) (by simp [results, Try.results28, go_sem, zc0, zc1, zc2, zc3, zc4]) rfl ?_
        exact ⟨by rw [HF.out]; exact dec_zero _ _ _, below_set5 HBL.out (Nat.le_refl _)⟩
      have t3' : d ≤ 1 := by omega
      by_cases t5 : 60 < f
      · have HF := Lib.hid (show Scu.stageDecode s = (Scu.kept0, 0, 4) by rw [HDD.out, if_pos (.inr t5)])
        clear t3
        go_wp2
        refine bodyPost_ret (v := .tuple #[.agg #[.int .i64 0, .int .i64 0, .bool false, .slice none 0 0, .int .i64 0], .int .i64 0, .int .i64 4]) (by simp [results, Try.results28, go_sem, zc0, zc1, zc2, zc3, zc4]) rfl ?_
        exact ⟨by rw [HF.out]; exact dec_zero _ _ _, below_set5 HBL.out (Nat.le_refl _)⟩
      have t5' : f ≤ 60 := by omega
      have HDT := Lib.hid (show Scu.stageDecode s = if (Scu.readTexts f.toNat r).2.2 ≠ 0 then (Scu.kept0, 0, (Scu.readTexts f.toNat r).2.2) else if (Scu.readTexts f.toNat r).2.1 ≠ Scu.str0 then (Scu.kept0, 0, 4) else
        if Scu.keptFault ⟨b, c, d == 1, (Scu.readTexts f.toNat r).1, e⟩ ≠ 0 then (Scu.kept0, 0, Scu.keptFault ⟨b, c, d == 1, (Scu.readTexts f.toNat r).1, e⟩) else (⟨b, c, d == 1, (Scu.readTexts f.toNat r).1, e⟩, a, 0) by
        rw [HDD.out, if_neg (by omega)])
      have h60 : f.toNat ≤ 60 := by omega
      clear t3 t5 HDD HD HE
      obtain ⟨wa, hwa⟩ : ∃ x, x = wr := ⟨_, rfl⟩
      subst hwa
      go_wp2_with fail
      go_loopw [0, 66] (fun sv i wl => ∃ (ys : List Scu.Str) (q : Scu.Str) (A : Option Addr) (cp : Nat), ys.length ≤ f.toNat ∧ i = .int .i64 ys.length ∧ sv = .string q ∧ q.size ≤ 4000 ∧ (∀ y ∈ ys, y.size ≤ 4000) ∧
        LogI w wa.heap.size wc.heap.size 97 b c (d == 1) e [a, b, c, d, e, f] (.slice A ys.length cp) ys wl ∧ wa.heap.size < wl.heap.size ∧
        Hid (Scu.readTexts f.toNat r = Scu.glue ys (Scu.readTexts (f.toNat - ys.length) q))) (fun _ i _ => f.toNat - (intOf i).toNat)
      case atStart =>
        refine ⟨[], r, none, 0, Nat.zero_le _, rfl, rfl, hrs, (fun y hy => by cases hy), ?_, by simp, Scu.nil_glueT _ _⟩
        exact ⟨Blk.new wa _ _, World.ownsRow_nil _ _ _ _, HB.out.2.1.alloc _, HB.out.2.2.alloc _, HBL.out.alloc HBL.out.size _⟩
      case round =>
        obtain ⟨ys, q, A, cp, hm, rfl, rfl, hq4, hys, hL, hlk, hT⟩ := hrel
        by_cases hlt : ys.length < f.toNat
        · have hlt'' : (ys.length : Int) < f := by omega
          generalize hq : Scu.readText q = p
          obtain ⟨y, q', g⟩ := p
          have HQ := Lib.hid hq
          have hsz4 := Scu.rt_size q
          rw [hq] at hsz4
          have HS := Lib.hid (show q'.size ≤ 4000 ∧ y.size ≤ 4000 from ⟨Nat.le_trans hsz4.1 hq4, Nat.le_trans hsz4.2 hq4⟩)
          have HL := Lib.hid hL
          have HYS := Lib.hid hys
          clear hq hsz4 hL hys
          go_wp2_with fail
          refine (readText_a q _ (by unfold maxLen; omega) y q' g HQ.out).mono ?_; rintro e2 w2 ⟨rfl, h2⟩
          have hlk2 : wa.heap.size < w2.heap.size := by have := h2.size; omega
          have hL2 := HL.out.below h2
          by_cases hg0 : g = 0
          · subst hg0
            have hn6 : f.toNat - ys.length = (f.toNat - (ys.length + 1)) + 1 := by omega
            have HN := Lib.hid (show Scu.readTexts f.toNat r = Scu.glue (ys ++ [y]) (Scu.readTexts (f.toNat - (ys.length + 1)) q') by
              rw [hT.out, hn6, Scu.readTexts_more (by rw [HQ.out]), HQ.out, Scu.glue_glue])
            have hk3 := hL2.kept
            have kc0 := hk3.cell 0
            have kc1 := hk3.cell 1
            have kc2 := hk3.cell 2
            have kc3 := hk3.cell 3
            have kc4 := hk3.cell 4
            simp only [List.getElem?_toArray, List.getElem?_cons_zero, List.getElem?_cons_succ] at kc0 kc1 kc2 kc3 kc4
            have kcz := hk3.frozen
            have HL2 := Lib.hid hL2
            have hL3 := Lib.hid (hL2.alloc (Obj.cells #[.string y] 9))
            clear hn6 hT hL2 hk3 kc0 kc1 kc2 kc4
            go_wp2_with
              (at_builtin
               refine list_app _ rfl (.tmp 79) (.tmp 81) 26 rfl el_strs w.heap.size (.slice A ys.length cp) ys.length (ys.map Value.string) rfl hL3.out.own (.slice (some ⟨w2.heap.size, 0, none⟩) 1 1) 1 [.string y] rfl (src_blk (xs := [.string y]) (Blk.new w2 9 #[.string y]) rfl) (one_strs [y]) (by unfold maxLen; omega) (by omega) (by simp; omega) ?_
               intro v4 w4 h4 hg4 _
               obtain ⟨A4, c4, rfl, _, _, _, _⟩ := rd_own h4
               have hL4 := hL3.out.app (by decide) hlw (by omega) hg4 h4
               have HK4 := Lib.hid (blk_grown hL3.out.kept hL3.out.own (by decide) hg4)
               have hz4 := HK4.out.frozen
               have hc4 := HK4.out.cell 3
               have HL4 := Lib.hid hL4
               have HG4 := Lib.hid (show wa.heap.size < w4.heap.size by have := hg4.size; simp at this; omega)
               clear hg4 h4 hL4)
            go_roundw
            case rel =>
              refine ⟨ys ++ [y], q', A4, c4, by simp; omega, by simp, rfl, HS.out.1, ?_, ?_, by simpa [World.setCell] using HG4.out, ?_⟩
              · intro z hz
                rcases List.mem_append.1 hz with h | h
                · exact HYS.out z h
                · rw [List.mem_singleton] at h
                  subst h
                  exact HS.out.2
              · rw [List.length_append]; exact HL4.out
              · rw [List.length_append]; exact HN
            case measure => simp only [intOf]; omega
          · have hgb : (g != 0) = true := by simpa using hg0
            have hT' : Scu.readTexts f.toNat r = ([], Scu.str0, g) := by
              rw [hT.out, show f.toNat - ys.length = (f.toNat - (ys.length + 1)) + 1 by omega, Scu.readTexts_bad (by rw [HQ.out]; exact hg0), HQ.out, Scu.glue_bad _ _ hg0]
            have HF := Lib.hid (show Scu.stageDecode s = (Scu.kept0, 0, g) by rw [HDT.out, hT', if_pos hg0])
            have hzk := hL2.zero
            have zc0 := hzk.cell 0
            have zc1 := hzk.cell 1
            have zc2 := hzk.cell 2
            have zc3 := hzk.cell 3
            have zc4 := hzk.cell 4
            simp only [List.getElem?_toArray, List.getElem?_cons_zero, List.getElem?_cons_succ] at zc0 zc1 zc2 zc3 zc4
            have zcz := hzk.frozen
            have HL2 := Lib.hid hL2.low
            clear hT hT' hzk hL2 hg0
            go_wp2
            refine bodyPost_ret (v := .tuple #[.agg #[.int .i64 0, .int .i64 0, .bool false, .slice none 0 0, .int .i64 0], .int .i64 0, .int .i64 g]) (by simp [results, Try.results28, go_sem, zc0, zc1, zc2, zc3, zc4]) rfl ?_
            exact ⟨by rw [HF.out]; exact dec_zero _ _ _, below_set5 HL2.out (Nat.le_refl _)⟩
        · have hlt'' : f ≤ (ys.length : Int) := by omega
          have hT' : Scu.readTexts f.toNat r = (ys, q, 0) := by rw [hT.out, show f.toNat - ys.length = 0 by omega]; exact Scu.glue_done _ _
          have HDF := Lib.hid (show Scu.stageDecode s = if q ≠ Scu.str0 then (Scu.kept0, 0, 4) else if Scu.keptFault ⟨b, c, d == 1, ys, e⟩ ≠ 0 then (Scu.kept0, 0, Scu.keptFault ⟨b, c, d == 1, ys, e⟩) else (⟨b, c, d == 1, ys, e⟩, a, 0) by
            rw [HDT.out, hT', if_neg (by simp)])
          have hzk := hL.zero
          have zc0 := hzk.cell 0
          have zc1 := hzk.cell 1
          have zc2 := hzk.cell 2
          have zc3 := hzk.cell 3
          have zc4 := hzk.cell 4
          simp only [List.getElem?_toArray, List.getElem?_cons_zero, List.getElem?_cons_succ] at zc0 zc1 zc2 zc3 zc4
          have zcz := hzk.frozen
          have hkk := hL.kept
          have kc0 := hkk.cell 0
          have kc1 := hkk.cell 1
          have kc2 := hkk.cell 2
          have kc3 := hkk.cell 3
          have kc4 := hkk.cell 4
          simp only [List.getElem?_toArray, List.getElem?_cons_zero, List.getElem?_cons_succ] at kc0 kc1 kc2 kc3 kc4
          have kcz := hkk.frozen
          have HST := Lib.hid (hL.strs (by omega) hys)
          have HL := Lib.hid hL
          clear hT hT' hL hys hzk hkk
          by_cases hq0 : q = Scu.str0
          · have hq1 : q.toList = [] := (toList_eq_nil q).2 (by rw [hq0]; rfl)
            have HDG := Lib.hid (show Scu.stageDecode s = if Scu.keptFault ⟨b, c, d == 1, ys, e⟩ ≠ 0 then (Scu.kept0, 0, Scu.keptFault ⟨b, c, d == 1, ys, e⟩) else (⟨b, c, d == 1, ys, e⟩, a, 0) by
              rw [HDF.out, if_neg (by simp [hq0])])
            clear hq0
            go_wp2_with fail
            refine (stageCheck_x _ b c (d == 1) ys e _ 0 HST.out.is).mono ?_; rintro e2 w3 ⟨rfl, h3⟩
            have hL3 := HL.out.below h3
            have hzk := hL3.zero
            have yc0 := hzk.cell 0
            have yc1 := hzk.cell 1
            have yc2 := hzk.cell 2
            have yc3 := hzk.cell 3
            have yc4 := hzk.cell 4
            simp only [List.getElem?_toArray, List.getElem?_cons_zero, List.getElem?_cons_succ] at yc0 yc1 yc2 yc3 yc4
            have ycz := hzk.frozen
            have hkk := hL3.kept
            have kd0 := hkk.cell 0
            have kd1 := hkk.cell 1
            have kd2 := hkk.cell 2
            have kd3 := hkk.cell 3
            have kd4 := hkk.cell 4
            simp only [List.getElem?_toArray, List.getElem?_cons_zero, List.getElem?_cons_succ] at kd0 kd1 kd2 kd3 kd4
            have kdz := hkk.frozen
            have hnn : Blk w3 wc.heap.size 97 #[.int .i64 a, .int .i64 b, .int .i64 c, .int .i64 d, .int .i64 e, .int .i64 f] := hL3.nums
            have nd0 := hnn.cell 0
            have nd1 := hnn.cell 1
            have nd2 := hnn.cell 2
            have nd3 := hnn.cell 3
            have nd4 := hnn.cell 4
            have nd5 := hnn.cell 5
            simp only [List.getElem?_toArray, List.getElem?_cons_zero, List.getElem?_cons_succ] at nd0 nd1 nd2 nd3 nd4 nd5
            have ndz := hnn.frozen
            have HS3 := Lib.hid (HST.out.below h3)
            have HL3 := Lib.hid hL3
            by_cases hf : Scu.keptFault ⟨b, c, d == 1, ys, e⟩ = 0
            · have hfb : (Scu.keptFault ⟨b, c, d == 1, ys, e⟩ != 0) = false := by simpa using hf
              have HF := Lib.hid (show Scu.stageDecode s = (⟨b, c, d == 1, ys, e⟩, a, 0) by rw [HDG.out, if_neg (by simpa using hf)])
              clear hf hkk hzk hnn hL3
              go_wp2_with fail
              go_region
              go_wp2
              refine bodyPost_ret (v := .tuple #[.agg #[.int .i64 b, .int .i64 c, .bool (d == 1), .slice A ys.length cp, .int .i64 e], .int .i64 a, .int .i64 0]) (by simp [results, Try.results28, go_sem, yc0, yc1, yc2, yc3, yc4]) rfl ?_
              refine ⟨?_, (below_set5 HL3.out.low (Nat.le_refl _)).drew⟩
              rw [HF.out]
              exact ⟨_, rfl, (HS3.out.same (Same.sets5 (B := 0) HL3.out.zero (Nat.zero_le _) (by decide) _ _ _ _ _)).below (Below.refl _ _).drew⟩
            · have hfb : (Scu.keptFault ⟨b, c, d == 1, ys, e⟩ != 0) = true := by simpa using hf
              have HF := Lib.hid (show Scu.stageDecode s = (Scu.kept0, 0, Scu.keptFault ⟨b, c, d == 1, ys, e⟩) by rw [HDG.out, if_pos hf])
              clear hf hkk hzk hnn hL3
              go_wp2
              refine bodyPost_ret (v := .tuple #[.agg #[.int .i64 0, .int .i64 0, .bool false, .slice none 0 0, .int .i64 0], .int .i64 0, .int .i64 (Scu.keptFault ⟨b, c, d == 1, ys, e⟩)]) (by simp [results, Try.results28, go_sem, yc0, yc1, yc2, yc3, yc4]) rfl ?_
              exact ⟨by rw [HF.out]; exact dec_zero _ _ _, below_set5 HL3.out.low (Nat.le_refl _)⟩
          · have hq1 : ¬ q.toList = [] := fun e => hq0 ((Scu.size_zero_iff _).1 ((toList_eq_nil q).1 e))
            have hq2 : q.toList.isEmpty = false := by simpa using hq1
            have HF := Lib.hid (show Scu.stageDecode s = (Scu.kept0, 0, 4) by rw [HDF.out, if_pos hq0])
            clear hq0
            go_wp2
            refine bodyPost_ret (v := .tuple #[.agg #[.int .i64 0, .int .i64 0, .bool false, .slice none 0 0, .int .i64 0], .int .i64 0, .int .i64 4]) (by simp [results, Try.results28, go_sem, zc0, zc1, zc2, zc3, zc4]) rfl ?_
            exact ⟨by rw [HF.out]; exact dec_zero _ _ _, below_set5 HL.out.low (Nat.le_refl _)⟩
end Go.Proofs.Ytioajgcbchdpeaa

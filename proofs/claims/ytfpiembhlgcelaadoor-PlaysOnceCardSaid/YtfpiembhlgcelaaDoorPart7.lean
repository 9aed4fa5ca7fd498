/- The card of the law 'PlaysOnce': for every input the call returns true; each argument reads as it did. Condition: the three tables of numbers that the library reads hold what the program's text lays in them, which the card ties. -/
import Derived.Test.YtfpiembhlgcelaaDoorPart6
import Derived.Test.YtfpiembhlgcelaaDoorPart5
import Derived.Test.YtfpiembhlgcelaaDoorPart2
import Derived.Test.YtfpiembhlgcelaaDoorPart1
import Derived.Test.YtfpiembhlgcelaaDoorCards
import Derived.Test.YtfpiembhlgcelaaDoorTie
import Derived.SizedLaws
import Derived.LaidMore
import Derived.Stop.Joined
import Derived.SevenTiedAt
import Derived.WalkKit
import Derived.ProofKit
import Derived.OpenShut
import Derived.ShutString
import Derived.ChangeOld
import Derived.Below
set_option linter.unusedVariables false
set_option linter.unusedSimpArgs false
/- machine.Play, walked. -/
namespace Go.Proofs.YtfpiembhlgcelaaDoor
open Go.RowKit
set_option maxHeartbeats 4000000
set_option maxRecDepth 100000

theorem applyM_a (nv sv lv : Value) (x : Scu.State) (s : Scu.Str) (w : World) (B : Nat) (hv : IsState w B nv sv lv x) (y : Scu.State) (c : Int) (h : Scu.apply x s = (y, c)) :
    Calls Tryd.prog 70 #[.agg #[nv, sv, lv], .string s] w fun e w' => AppRet w' y c e ∧ Below w.heap.size w w' := by
  have := apply_c nv sv lv x s w B hv
  rw [h] at this
  exact this
theorem play_next {l : List Scu.Str} {k : Nat} (hk : k < l.length) {y z : Scu.State} {c : Int} (h : Scu.apply y l[k] = (z, c)) : Scu.playFrom y (l.drop k) = if c ≠ 0 then (Scu.state0, c) else Scu.playFrom z (l.drop (k + 1)) := by
  rw [List.drop_eq_getElem_cons hk]
  show (if (Scu.apply y l[k]).2 ≠ 0 then _ else _) = _
  rw [h]
/-- What the loop over the entries holds. -/
structure PlayI (w : World) (b : Nat) (l : List Scu.Str) (k : Nat) (nv sv lv : Value) (y : Scu.State) (wr : World) : Prop where
  zero : Blk wr w.heap.size 54 #[.slice none 0 0, .slice none 0 0, .slice none 0 0]
  blk : Blk wr b 54 #[nv, sv, lv]
  st : IsState wr 0 nv sv lv y
  so : Scu.play l = Scu.playFrom y (l.drop k)
  low : Below w.heap.size w wr
  ne : w.heap.size < b
theorem PlayI.below {w wr w' : World} {b k : Nat} {l : List Scu.Str} {nv sv lv : Value} {y : Scu.State} (h : PlayI w b l k nv sv lv y wr) (hb : Below wr.heap.size wr w') : PlayI w b l k nv sv lv y w' :=
  ⟨h.zero.same hb, h.blk.same hb, h.st.below hb, h.so, h.low.trans (hb.mono h.low.size), h.ne⟩
theorem PlayI.next {w wr : World} {b k : Nat} {l : List Scu.Str} {nv sv lv nu su lu : Value} {y z : Scu.State} (h : PlayI w b l k nv sv lv y wr) (hz : IsState wr 0 nu su lu z) (hs : Scu.play l = Scu.playFrom z (l.drop (k + 1))) :
    PlayI w b l (k + 1) nu su lu z (((wr.setCell ⟨b, 0, none⟩ nu).setCell ⟨b, 1, none⟩ su).setCell ⟨b, 2, none⟩ lu) :=
  ⟨((h.zero.far (p := ⟨b, 0, none⟩) (Nat.ne_of_lt h.ne) _).far (p := ⟨b, 1, none⟩) (Nat.ne_of_lt h.ne) _).far (p := ⟨b, 2, none⟩) (Nat.ne_of_lt h.ne) _, blk_set3 h.blk, hz.sets3 h.blk _ _ _, hs, below_set3 h.low (Nat.le_of_lt h.ne), h.ne⟩
theorem play_c (v : Value) (l : List Scu.Str) (w : World) (B : Nat) (hv : IsStrs w B v l) :
    Calls Tryd.prog 28 #[v] w fun e w' => AppRet w' (Scu.play l).1 (Scu.play l).2 e ∧ Below w.heap.size w w' := by
  obtain ⟨⟨A, c, rfl, _, hr⟩, hl, _⟩ := hv
  unfold R47 at hl
  go_enter Tryd.func28, Tryd.ntmps28
  go_wp2_with fail
  refine (machineNew_c _).mono ?_; rintro en w1 ⟨⟨nv, sv, lv, rfl, hn⟩, h1⟩
  obtain ⟨A1, n1, c1, rfl⟩ := hn.vol.now.form
  obtain ⟨A2, n2, c2, rfl⟩ := hn.vol.snaps.form
  obtain ⟨A3, n3, c3, rfl⟩ := hn.lasts.form
  have hP : PlayI w w1.heap.size l 0 (.slice A1 n1 c1) (.slice A2 n2 c2) (.slice A3 n3 c3) Scu.stateNew (w1.alloc (Obj.cells #[.slice A1 n1 c1, .slice A2 n2 c2, .slice A3 n3 c3] 54)) :=
    ⟨((Blk.new w _ _).same h1).alloc _, Blk.new w1 _ _, hn.alloc _, rfl, ((below_alloc w _).trans (h1.mono (by simp))).alloc (by have := h1.size; simp at this; omega) _, by have := h1.size; simp at this; omega⟩
  have HP := Lib.hid hP
  clear hP hn h1
  go_wp2_with fail
  go_loopw [12] (fun i wr => ∃ (k : Nat) (A1 : Option Addr) (n1 c1 : Nat) (A2 : Option Addr) (n2 c2 : Nat) (A3 : Option Addr) (n3 c3 : Nat) (y : Scu.State), k ≤ l.length ∧ i = .int .i64 k ∧ PlayI w w1.heap.size l k (.slice A1 n1 c1) (.slice A2 n2 c2) (.slice A3 n3 c3) y wr) (fun i _ => l.length - (intOf i).toNat)
  case atStart => exact ⟨0, A1, n1, c1, A2, n2, c2, A3, n3, c3, _, Nat.zero_le _, rfl, HP.out⟩
  case round =>
    obtain ⟨k, D1, m1, d1, D2, m2, d2, D3, m3, d3, y, hk, rfl, hP⟩ := hrel
    have hblk := hP.blk
    have b0 := hblk.cell 0
    have b1 := hblk.cell 1
    have b2 := hblk.cell 2
    simp only [List.getElem?_toArray, List.getElem?_cons_zero, List.getElem?_cons_succ] at b0 b1 b2
    have bz := hblk.frozen
    have bl := hblk.lt
    have hz := hP.zero
    have z0 := hz.cell 0
    have z1 := hz.cell 1
    have z2 := hz.cell 2
    simp only [List.getElem?_toArray, List.getElem?_cons_zero, List.getElem?_cons_succ] at z0 z1 z2
    have zz := hz.frozen
    have zl := hz.lt
    have hlo := hP.ne
    by_cases hlt : k < l.length
    · have hlt' : (k : Int) < (l.length : Int) := by omega
      obtain ⟨g, o, rfl, hg, hc0⟩ := str_get (hr.below hP.low) hlt
      obtain ⟨q, hq⟩ : ∃ q, Scu.apply y l[k] = q := ⟨_, rfl⟩
      obtain ⟨z, c⟩ := q
      have HQ := Lib.hid hq
      have HP := Lib.hid hP
      clear hblk hz hP hq
      go_wp2_with fail
      refine (applyM_a _ _ _ y l[k] _ 0 HP.out.st z c HQ.out).mono ?_; rintro en w2 ⟨⟨nu, su, lu, rfl, hu⟩, h2⟩
      obtain ⟨E1, p1, f1, rfl⟩ := hu.vol.now.form
      obtain ⟨E2, p2, f2, rfl⟩ := hu.vol.snaps.form
      obtain ⟨E3, p3, f3, rfl⟩ := hu.lasts.form
      go_upto_region 6 with fail
      obtain ⟨Wd, hWd⟩ : ∃ W, W = w2.alloc (Obj.cells #[.slice E1 p1 f1, .slice E2 p2 f2, .slice E3 p3 f3] 54) := ⟨_, rfl⟩
      rw [← hWd]
      have hbw : Below w2.heap.size w2 Wd := by rw [hWd]; exact below_alloc _ _
      have hq : Blk Wd w2.heap.size 54 #[.slice E1 p1 f1, .slice E2 p2 f2, .slice E3 p3 f3] := by rw [hWd]; exact Blk.new _ _ _
      have hP2 := (HP.out.below h2).below hbw
      have hst := hu.below hbw
      have hblk := hP2.blk
      have hz := hP2.zero
      clear b0 b1 b2 bz bl z0 z1 z2 zz zl hc0 hWd hbw h2 hu
      have b0 := hblk.cell 0
      have b1 := hblk.cell 1
      have b2 := hblk.cell 2
      simp only [List.getElem?_toArray, List.getElem?_cons_zero, List.getElem?_cons_succ] at b0 b1 b2
      have bz := hblk.frozen
      have bl := hblk.lt
      have z0 := hz.cell 0
      have z1 := hz.cell 1
      have z2 := hz.cell 2
      simp only [List.getElem?_toArray, List.getElem?_cons_zero, List.getElem?_cons_succ] at z0 z1 z2
      have zz := hz.frozen
      have zl := hz.lt
      have q0 := hq.cell 0
      have q1 := hq.cell 1
      have q2 := hq.cell 2
      simp only [List.getElem?_toArray, List.getElem?_cons_zero, List.getElem?_cons_succ] at q0 q1 q2
      have qz := hq.frozen
      have ql := hq.lt
      have HP2 := Lib.hid hP2
      have HST := Lib.hid hst
      clear hblk hz hq hP2 hst HP
      by_cases hc : c = 0
      · subst hc
        have HS := Lib.hid (show Scu.play l = Scu.playFrom z (l.drop (k + 1)) by rw [HP2.out.so, play_next hlt HQ.out, if_neg (by simp)])
        go_wp2
        refine ⟨⟨k + 1, E1, p1, f1, E2, p2, f2, E3, p3, f3, z, by omega, rfl, HP2.out.next HST.out HS.out⟩, ?_⟩
        simp [intOf]; omega
      · have hcb : (c != 0) = true := by simpa using hc
        have HS := Lib.hid (show Scu.play l = (Scu.state0, c) by rw [HP2.out.so, play_next hlt HQ.out, if_pos hc])
        clear hc
        go_wp2
        have hr3 := blk_set3 (a := .slice none 0 0) (b := .slice none 0 0) (c := .slice none 0 0) HP2.out.zero
        have r0 := hr3.cell 0
        have r1 := hr3.cell 1
        have r2 := hr3.cell 2
        simp only [List.getElem?_toArray, List.getElem?_cons_zero, List.getElem?_cons_succ] at r0 r1 r2
        refine bodyPost_ret (v := .tuple #[.agg #[.slice none 0 0, .slice none 0 0, .slice none 0 0], .int .i64 c]) (by simp [results, Tryd.results28, go_sem, r0, r1, r2]) rfl ?_
        exact ⟨by rw [HS.out]; exact app_zero _ _, below_set3 HP2.out.low (Nat.le_refl _)⟩
    · have hk' : k = l.length := by omega
      have HS := Lib.hid (show Scu.play l = (y, 0) by rw [hP.so, hk', List.drop_length]; rfl)
      have hge : ¬ (k : Int) < (l.length : Int) := by omega
      have HP := Lib.hid hP
      clear hblk hz hP hk' hk
      go_wp2
      have hr3 := blk_set3 (a := .slice D1 m1 d1) (b := .slice D2 m2 d2) (c := .slice D3 m3 d3) HP.out.zero
      have r0 := hr3.cell 0
      have r1 := hr3.cell 1
      have r2 := hr3.cell 2
      simp only [List.getElem?_toArray, List.getElem?_cons_zero, List.getElem?_cons_succ] at r0 r1 r2
      refine bodyPost_ret (v := .tuple #[.agg #[.slice D1 m1 d1, .slice D2 m2 d2, .slice D3 m3 d3], .int .i64 0]) (by simp [results, Tryd.results28, go_sem, r0, r1, r2]) rfl ?_
      exact ⟨by rw [HS.out]; exact ⟨_, _, _, rfl, HP.out.st.sets3 HP.out.zero _ _ _⟩, below_set3 HP.out.low (Nat.le_refl _)⟩
end Go.Proofs.YtfpiembhlgcelaaDoor
/- The law PlaysOnce, walked. -/
namespace Go.Proofs.YtfpiembhlgcelaaDoor
set_option linter.unusedVariables false
set_option linter.unusedSimpArgs false
open Go.RowKit
set_option maxHeartbeats 4000000
set_option maxRecDepth 100000

theorem src_two {w : World} {t : TypeId} {u x : Value} : Src1 (w.alloc (.cells #[u, x] t)) 1 (.slice (some ⟨w.heap.size, 0, none⟩) 2 2) 2 [u, x] := by
  refine ⟨rfl, .inr ⟨_, _, rfl, fun j v hj => ?_⟩⟩
  rw [addr_add0', (Blk.new w t #[u, x]).cell j]
  simpa using hj
theorem play_q (v : Value) (l : List Scu.Str) (w : World) (B : Nat) (hv : IsStrs w B v l) (y : Scu.State) (h : Scu.play l = (y, 0)) :
    Calls Tryd.prog 28 #[v] w fun e w' => (∃ A0 n0 c0 A1 n1 c1 A2 c2, e = .returned (.tuple #[.agg #[.slice A0 n0 c0, .slice A1 n1 c1, .slice A2 y.lasts.length c2], .int .i64 0]) ∧ IsState w' 0 (.slice A0 n0 c0) (.slice A1 n1 c1) (.slice A2 y.lasts.length c2) y) ∧ Below w.heap.size w w' := by
  have := play_c v l w B hv
  rw [h] at this
  refine this.mono ?_
  rintro e w' ⟨⟨nv, sv, lv, rfl, hs⟩, hb⟩
  obtain ⟨A0, n0, c0, rfl⟩ := hs.vol.now.form
  obtain ⟨A1, n1, c1, rfl⟩ := hs.vol.snaps.form
  obtain ⟨A2, c2, rfl, _⟩ := hs.lasts.ex
  exact ⟨⟨_, _, _, _, _, _, _, _, rfl, hs⟩, hb⟩
theorem lawPlaysOnce_c (v : Value) (l : List Scu.Raw) (w : World) (hl : IsRaws w w.heap.size v l) (ht : Tab w) :
    Calls Tryd.prog 5 #[v] w fun e w' => e = .returned (.bool true) ∧ Below w.heap.size w w' := by
  obtain ⟨Al, cl, rfl, hll⟩ := hl.form'
  have HT := Lib.hid ht
  have HL := Lib.hid hl
  clear ht hl
  go_enter Tryd.func5, Tryd.ntmps5
  go_wp2_with fail
  refine (requests_c _ l 30 w w.heap.size (Nat.le_refl _) HL.out HT.out (by decide)).mono ?_; rintro e w1 ⟨⟨A, c, css, rfl, ho⟩, b1⟩
  have hq : IsReqs w1 0 (.slice A (Scu.requests l 30).length c) (Scu.requests l 30) := ho.is
  have hok := Scu.requests_ok l 30 (by decide)
  have hlen : (Scu.requests l 30).length ≤ 30 := by rw [Scu.requests_length]; omega
  obtain ⟨qs, hqs⟩ : ∃ qs, Scu.requests l 30 = qs := ⟨_, rfl⟩
  rw [hqs] at hq hok hlen ⊢
  clear hqs ho css
  have HQ := Lib.hid hq
  have HB1 := Lib.hid b1
  have hents := Scu.entries_ok hok
  have hesz := Scu.entries_size hok
  have hel : (Scu.entries qs).length ≤ 30 := by rw [Scu.entries_length]; exact hlen
  have HOK := Lib.hid hok
  clear hq b1 hok
  go_wp2_with fail
  refine (entries_c _ qs w1 HQ.out HOK.out (by omega)).mono ?_; rintro e w2 ⟨⟨Ae, ce, rfl, he⟩, b2⟩
  obtain ⟨es, hes⟩ : ∃ es, Scu.entries qs = es := ⟨_, rfl⟩
  rw [hes] at he hents hesz hel ⊢
  have HE := Lib.hid he
  have HES := Lib.hid hents
  have HSZ := Lib.hid hesz
  have HB2 := Lib.hid (HB1.out.trans (b2.mono HB1.out.size))
  have HZ := Lib.hid (show w2.ownsRow w2.heap.size 9 1 (.slice none 0 0) 0 [] from World.ownsRow_nil _ _ _ _)
  clear he hents hesz b2 hes
  go_wp2_with fail
  go_loopw [4, 16] (fun ov i wr => ∃ (k n : Nat) (Ao : Option Addr) (co : Nat), k ≤ es.length ∧ n = 2 * k ∧ i = .int .i64 k ∧ ov = .slice Ao n co ∧ Hid (wr.ownsRow w2.heap.size 9 1 (.slice Ao n co) n ((Scu.dup (es.take k)).map Value.string)) ∧ Hid (Below w2.heap.size w2 wr)) (fun _ i _ => es.length - (intOf i).toNat)
  case atStart => exact ⟨0, 0, none, 0, Nat.zero_le _, rfl, rfl, rfl, HZ, Lib.hid (Below.refl _ _)⟩
  case round =>
    obtain ⟨k, n, Ao, co, hk, hn, rfl, rfl, HO, HB⟩ := hrel
    have HI := Lib.hid (HE.out.below HB.out)
    by_cases hlt : k < es.length
    · have hlt' : (k : Int) < (es.length : Int) := by omega
      obtain ⟨g, o, rfl, hg, hc⟩ : ∃ g o, Ae = some ⟨g, o, none⟩ ∧ g < wr.heap.size ∧ wr.cell? ⟨g, o + k, none⟩ = some (.string es[k]) := by
        obtain ⟨A, c, e, _, hr⟩ := HI.out.ex
        cases e
        exact str_get hr hlt
      obtain ⟨s, hs⟩ : ∃ s, es[k] = s := ⟨_, rfl⟩
      rw [hs] at hc
      have HS := Lib.hid hs
      have hsz2 := HB.out.size
      have hn60 : n ≤ 60 := by omega
      have HN := Lib.hid hn
      clear hs hn
      go_wp2_with (at_builtin; refine list_app _ rfl (.tmp 20) (.tmp 23) 36 rfl el_strs w2.heap.size (.slice Ao n co) n ((Scu.dup (es.take k)).map Value.string) rfl (own_below HO.out (below_alloc _ _)) (.slice (some ⟨wr.heap.size, 0, none⟩) 2 2) 2 [.string s, .string s] rfl src_two (fun u hu => by simp only [List.mem_cons, List.not_mem_nil, or_false] at hu; rcases hu with rfl | rfl <;> rfl) (by unfold maxLen; omega) (by omega) (by simp only [World.size_alloc]; omega) ?_)
      intro v4 x4 h4 hg4 _
      obtain ⟨A9, c9, rfl, _, _, _, _⟩ := rd_own h4
      have hb4 : Below w2.heap.size w2 x4 := (HB.out.trans ((below_alloc wr _).mono (by omega))).grown hg4 (by simp only [World.size_alloc]; omega) (fun g hg => ((HO.out.lt) g hg).1)
      have hent : (Scu.dup (es.take k)).map Value.string ++ [Value.string s, Value.string s] = (Scu.dup (es.take (k + 1))).map Value.string := by
        rw [List.take_succ_eq_append_getElem hlt, Scu.dup_snoc, HS.out, List.map_append]
        rfl
      rw [hent] at h4
      have H4 := Lib.hid h4
      have HB4 := Lib.hid hb4
      clear hent h4 hb4 hg4 hc
      go_wp2
      exact ⟨⟨k + 1, n + 2, _, _, hlt, by have := HN.out; omega, by go_num, rfl, H4, HB4⟩, by simp only [intOf]; omega⟩
    · have hkl' : k = es.length := by omega
      have hlt' : ¬ (k : Int) < (es.length : Int) := by omega
      have hel' : n ≤ 60 := by omega
      have hd : IsStrs wr 0 (.slice Ao n co) (Scu.dup es) := by
        have := HO.out
        rw [hkl', List.take_length] at this
        refine strs_of_own this (by rw [Scu.dup_length]; omega) (by rw [Scu.dup_length]; unfold R47; omega) (fun s hs => ?_)
        have := HSZ.out s (Scu.dup_mem hs)
        unfold R47
        omega
      obtain ⟨y, hy⟩ : ∃ y, Scu.played es = y := ⟨_, rfl⟩
      have hpa := Scu.play_ok HES.out
      have hpb := Scu.play_ok (Scu.dup_ok HES.out)
      rw [Scu.played_dup es HES.out, hy] at hpb
      rw [hy] at hpa
      have hl4 := (Scu.lastsOk_iff.1 (Scu.stateFault_iff.1 hpa.2).1).1
      have hl4' : ((y.lasts.length : Int) == 4) = true := by simp [hl4]
      have HD := Lib.hid hd
      have HPA := Lib.hid hpa
      have HPB := Lib.hid hpb
      clear hd hpa hpb hn hy hl4
      go_wp2_with fail
      refine (play_q _ es _ 0 HI.out y HPA.out.1).mono ?_; rintro e w3 ⟨⟨A0, n0, c0, A1, n1, c1, A2, c2, rfl, hs⟩, b3⟩
      have HS := Lib.hid hs
      have B3 := Lib.hid b3
      clear hs b3
      go_upto_region 9 with fail
      obtain ⟨W4, hW4⟩ : ∃ W, W = w3.alloc (Obj.cells #[.slice A0 n0 c0, .slice A1 n1 c1, .slice A2 y.lasts.length c2] 54) := ⟨_, rfl⟩
      rw [← hW4]
      have HA := Lib.hid (show Blk W4 w3.heap.size 54 #[.slice A0 n0 c0, .slice A1 n1 c1, .slice A2 y.lasts.length c2] from by rw [hW4]; exact Blk.new _ _ _)
      have HAD := Lib.hid (show Below w3.heap.size w3 W4 from by rw [hW4]; exact below_alloc _ _)
      clear hW4
      go_wp2_with fail
      refine (play_q _ (Scu.dup es) _ 0 ((HD.out.below B3.out).below HAD.out) y HPB.out.1).mono ?_; rintro e w5 ⟨⟨A5, n5, c5, A6, n6, c6, A7, c7, rfl, hs⟩, b5⟩
      have HT5 := Lib.hid hs
      have B5 := Lib.hid b5
      clear hs b5
      obtain ⟨_, hn0⟩ := HS.out.vol.now.ex
      go_upto_region 10 with fail
      obtain ⟨W6, hW6⟩ : ∃ W, W = w5.alloc (Obj.cells #[.slice A5 n5 c5, .slice A6 n6 c6, .slice A7 y.lasts.length c7] 54) := ⟨_, rfl⟩
      rw [← hW6]
      have hd6 : Below w5.heap.size w5 W6 := by rw [hW6]; exact below_alloc _ _
      have hb6 : Blk W6 w5.heap.size 54 #[.slice A5 n5 c5, .slice A6 n6 c6, .slice A7 y.lasts.length c7] := by rw [hW6]; exact Blk.new _ _ _
      clear hW6
      have h56 := B5.out.trans (hd6.mono B5.out.size)
      have ha6 := HA.out.same h56
      have h36 := HAD.out.trans (h56.mono HAD.out.size)
      have hsx := HS.out.below h36
      have hsy := HT5.out.below hd6
      have a0 : W6.cell? ⟨w3.heap.size, 0, none⟩ = some (.slice A0 n0 c0) := ha6.cell 0
      have a1 : W6.cell? ⟨w3.heap.size, 1, none⟩ = some (.slice A1 n1 c1) := ha6.cell 1
      have a2 : W6.cell? ⟨w3.heap.size, 2, none⟩ = some (.slice A2 y.lasts.length c2) := ha6.cell 2
      have e0 : W6.cell? ⟨w5.heap.size, 0, none⟩ = some (.slice A5 n5 c5) := hb6.cell 0
      have e1 : W6.cell? ⟨w5.heap.size, 1, none⟩ = some (.slice A6 n6 c6) := hb6.cell 1
      have e2 : W6.cell? ⟨w5.heap.size, 2, none⟩ = some (.slice A7 y.lasts.length c7) := hb6.cell 2
      have hw6 := (HB2.out.trans (HB.out.mono HB2.out.size)).trans ((B3.out.trans (h36.mono B3.out.size)).mono (Nat.le_trans HB2.out.size HB.out.size))
      have HW6 := Lib.hid hw6
      have HSX := Lib.hid hsx
      have HSY := Lib.hid hsy
      obtain ⟨l0, hl0⟩ : ∃ A, A = y.volume.snaps.length := ⟨_, rfl⟩
      have hq1 : n1 = y.volume.snaps.length := by obtain ⟨_, _, _, e, _⟩ := hsx.vol.snaps.ex; cases e; rfl
      have hq6 : n6 = y.volume.snaps.length := by obtain ⟨_, _, _, e, _⟩ := hsy.vol.snaps.ex; cases e; rfl
      have hnn : n1 = n6 := by omega
      clear hl0 hq1 hq6 h56 ha6 h36 hsx hsy hb6 hd6 hw6
      subst hnn
      go_wp2_with fail
      refine (eqStrs_c _ _ _ _ _ 0 0 HSX.out.vol.now HSY.out.vol.now).mono ?_; rintro e w7 ⟨rfl, m7, rfl⟩
      have hd1 : decide (y.volume.now = y.volume.now) = true := by simp
      rw [hd1]
      have b0 : (W6.drewN m7).cell? ⟨w3.heap.size, 0, none⟩ = some (.slice A0 n0 c0) := a0
      have b1 : (W6.drewN m7).cell? ⟨w3.heap.size, 1, none⟩ = some (.slice A1 n1 c1) := a1
      have b2 : (W6.drewN m7).cell? ⟨w3.heap.size, 2, none⟩ = some (.slice A2 y.lasts.length c2) := a2
      have g1 : (W6.drewN m7).cell? ⟨w5.heap.size, 1, none⟩ = some (.slice A6 n1 c6) := e1
      have g2 : (W6.drewN m7).cell? ⟨w5.heap.size, 2, none⟩ = some (.slice A7 y.lasts.length c7) := e2
      clear a0 a1 a2 e0 e1 e2 hd1
      go_wp2_with fail
      refine (eqLasts_c _ _ _ _ _ 0 0 (HSX.out.lasts.drewN m7) (HSY.out.lasts.drewN m7)).mono ?_; rintro e w8 ⟨rfl, m8, rfl⟩
      have hd2 : decide (y.lasts = y.lasts) = true := by simp
      rw [hd2, World.drewN_drewN]
      have a0 : (W6.drewN (m7 + m8)).cell? ⟨w3.heap.size, 0, none⟩ = some (.slice A0 n0 c0) := b0
      have a1 : (W6.drewN (m7 + m8)).cell? ⟨w3.heap.size, 1, none⟩ = some (.slice A1 n1 c1) := b1
      have a2 : (W6.drewN (m7 + m8)).cell? ⟨w3.heap.size, 2, none⟩ = some (.slice A2 y.lasts.length c2) := b2
      have e1 : (W6.drewN (m7 + m8)).cell? ⟨w5.heap.size, 1, none⟩ = some (.slice A6 n1 c6) := g1
      clear b0 b1 b2 g1 g2 hd2
      have HSS := Lib.hid (show IsState (W6.drewN (m7 + m8)) 0 (.slice A0 n0 c0) (.slice A1 n1 c1) (.slice A2 y.lasts.length c2) y from ⟨HSX.out.vol.drewN _, HSX.out.lasts.drewN _⟩)
      go_wp2_with fail
      refine (machCheck_c _ _ _ y _ 0 HSS.out).mono ?_; rintro e w9 ⟨rfl, b9⟩
      rw [HPA.out.2]
      have HW9 := Lib.hid ((below_drewN HW6.out (m7 + m8)).trans (b9.mono (below_drewN HW6.out (m7 + m8)).size))
      clear b9
      go_wp2
      go_ret
      exact ⟨rfl, HW9.out⟩
theorem lawPlaysOnce_w (v : Value) (l : List Scu.Raw) {w : World} (h : IsRaws w w.heap.size v l) (W : World) (hW : W = w) (ht : Tab W) :
    Calls Tryd.prog 5 #[v] W fun e w' => e = .returned (.bool true) ∧ Below W.heap.size W w' := by
  subst hW
  exact lawPlaysOnce_c v l W h ht
end Go.Proofs.YtfpiembhlgcelaaDoor
namespace Go.Proofs.YtfpiembhlgcelaaDoor.playsOnceDone
open Go.ChangeShapes Go.WideShapes Go.ChangeAt Go.RowKit
open Go.ChangeMaps (open_string shut_string)
set_option linter.unusedVariables false
theorem own : ownKnob Tryd.prog.godebug = none := by kernel_rfl
theorem laidOut : laidOutB Tryd.prog = true := by kernel_rfl
set_option maxRecDepth 100000 in
theorem lifted (os : Os) (started : os.Started) (H : Type) (enc : TypeId × Value → H) :
    ReturnsInHanded {} Tryd.checked os 5 .any (fun w args => (Rows.playsOnceSpec.pre enc Tryd.prog Tryd.f5 [] false w args ∧ laidMetH Tryd.prog Rows.playsOnceRow.laid w) ∧ sizedMet enc Tryd.prog Tryd.f5 (OpenSpec.ofChange Rows.playsOnceSpec) false w args)
      (Rows.playsOnceSpec.post enc Tryd.prog Tryd.f5 false true false false) := by
  refine returnsInHanded_of_change_and (C := Tryd.checked) (X := fun w _ => laidMetH Tryd.prog Rows.playsOnceRow.laid w) (fun _ _ _ hh h => h.of_heap hh) own started (by kernel_rfl) Tryd.func5
    (ChangeSpec.witness_shaped (enc := enc) (C := Tryd.checked) (os := os) (X := fun w _ => laidMetH Tryd.prog Rows.playsOnceRow.laid w) false (World.doorLaid Tryd.prog doorFuel os) #[.slice none 0 0] 8 rfl (door_shaped os _) (by kernel_rfl) (by kernel_rfl) (by kernel_rfl) (door_met os _)) ?_
  intro W base args ds gs before hval0 hW _ hsz hL _
  have htab := tab_of hL
  have hwt0 : ∀ (j : Nat) (t : TypeId) (d : DataW H), (Tryd.f5.params.toList ++ Rows.playsOnceSpec.plain.varTypes Tryd.prog)[j]? = some t → (ds ++ gs)[j]? = some d → ∀ k ∈ d.weights Tryd.prog t, k ≤ reachBytes := fun j t d ht hd k hk => by
    have := List.all_eq_true.1 hsz k (DataW.weights_mem_each ht hd k hk)
    simpa using this
  clear hsz hL
  have hwt := hwt0
  rw [Tryd.params5] at hwt
  have hval : ∀ (j : Nat) t v, Tryd.f5.params[j]? = some t → args[j]? = some v → Value.okWide Tryd.prog W .any base t v := hval0
  have hW' := hW
  obtain ⟨p, q, hA0, hV, rfl, hfz, hnd⟩ := hW
  have hA : DataW.TrodAll enc Tryd.prog W 0 (fun _ => true) true Tryd.f5.params.toList args.toList ds p := hA0
  rw [Tryd.params5] at hA hval
  obtain ⟨v0, vs0, d0, ds0, p0, q0, hargs, rfl, rfl, h0, r0⟩ := trodAll_cons hA
  obtain ⟨rfl, rfl, rfl⟩ := trodAll_nil r0
  obtain rfl : args = #[v0] := by cases args; simp_all
  obtain ⟨rfl, rfl⟩ := trodVars_none hV
  have k0 := h0
  have lt0 : ∀ x ∈ p0, x.block < W.heap.size := by obtain ⟨m, hm⟩ := k0; exact DataW.trod_lt m _ _ _ hm
  obtain ⟨a0, w0⟩ := openS_Raws (hval 0 22 v0 rfl rfl) h0 (hwt 0 22 d0 rfl rfl)
  clear hA0 hval0
  refine (lawPlaysOnce_w v0 a0 w0 W rfl htab).mono fun e W' ⟨he, bel⟩ => ?_
  subst he
  exact ⟨_, rfl, _, _, _, [], _, [], hW', trodAll_mk1 (shut_bool Tryd.underlying4 _), (trodAll_cons_mk (Below.trod laidOut (by kernel_rfl) (of_decide_eq_true (by kernel_rfl)) k0 bel lt0) trodAll_mk0), rfl, bel.frame _, fun h => by cases h⟩
theorem over : Rows.PlaysOnceSaid :=
  OpenClaim.holds_of_wide 5 Tryd.f5 rfl rfl rfl rfl rfl rfl rfl ⟨rfl, rfl, rfl, rfl, rfl⟩ rfl rfl rfl rfl rfl (by kernel_rfl) Tryd.func5 (facts_of rfl rfl rfl rfl rfl rfl (by as_aux_lemma => kernel_rfl) (by as_aux_lemma => kernel_rfl) (by as_aux_lemma => kernel_rfl) (by as_aux_lemma => kernel_rfl) (by as_aux_lemma => kernel_rfl) (by as_aux_lemma => kernel_rfl) (by as_aux_lemma => kernel_rfl))
    (of_decide_eq_true (by kernel_rfl)) (by unfold Func.isWrapper; first | (rw [if_pos (by decide +kernel)]; kernel_rfl) | (rw [if_neg (by decide +kernel)]; exact ⟨rfl, rfl⟩))
    (fun os started H enc _ => lifted os started H enc)
theorem proved : Rows.PlaysOnceCardSaid :=
  Claim7.holds_tied_plain_at .later [] [.data, .data, .data] true Rows.playsOnceCard.stood.harness false
    over (fun _ h => by cases h) (by kernel_rfl) (fun _ h => by cases h) playsOnce_row_tie rfl ⟨rfl, rfl⟩ (by kernel_rfl) rfl
    (fun f fn hf hfn => by
      obtain rfl : f = 5 := Option.some.inj ((show Tryd.prog.funcNamed Rows.playsOnceRow.func = some 5 by kernel_rfl).symm.trans hf) |>.symm
      obtain rfl : fn = Tryd.f5 := (Option.some.inj (Tryd.func5.symm.trans hfn)).symm
      exact ⟨by kernel_rfl, fun j t ht => by
        rw [Tryd.params5] at ht
        have hm : t ∈ [22] := by simpa using Array.mem_of_getElem? ht
        have hall : ([22].all fun u => !Tryd.prog.wantsStandIn u) = true := by kernel_rfl
        exact (show Tryd.prog.wantsStandIn t = false by simpa using List.all_eq_true.1 hall t hm)⟩)
    (by kernel_rfl)
end Go.Proofs.YtfpiembhlgcelaaDoor.playsOnceDone

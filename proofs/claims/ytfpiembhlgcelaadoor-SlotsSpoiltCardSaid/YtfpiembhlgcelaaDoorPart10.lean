/- The card of the law 'SlotsSpoilt': for every input the call returns true; each argument reads as it did. Condition: the three tables of numbers that the library reads hold what the program's text lays in them, which the card ties. -/
import Derived.Test.YtfpiembhlgcelaaDoorPart8
import Derived.Test.YtfpiembhlgcelaaDoorPart1
import Derived.OrdersHeld
import Derived.RegionTactic
import Derived.Deep.RegionHeld3
import Derived.Lib.ConvBytes
import Derived.Lib.SlBytesRow
import Derived.Test.YtfpiembhlgcelaaDoorPart2
import Derived.Test.YtfpiembhlgcelaaDoorCards
import Derived.Test.YtfpiembhlgcelaaDoorTie
import Derived.SizedLaws
import Derived.LaidMore
import Derived.Stop.Joined
import Derived.SevenTiedAt
import Derived.WalkKit
import Derived.ProofKit
import Derived.OpenShut
import Derived.ShutString
import Derived.ChangeOld
import Derived.Below
set_option linter.unusedVariables false
set_option linter.unusedSimpArgs false
/- Plain: a slot of which a byte is another one is not read. -/
namespace Scu
set_option linter.unusedVariables false
set_option linter.unusedSimpArgs false
theorem total_set : ∀ (l : List UInt8) (j : Nat) (b : UInt8), j < l.length → (total (l.set j b) : Int) = total l - (l.getD j 0).toNat + b.toNat
  | [], j, b, h => by simp at h
  | x :: l, 0, b, h => by simp [total]; omega
  | x :: l, j + 1, b, h => by
    have := total_set l j b (by simpa using h)
    simp [total] at this ⊢
    omega
def setByte (s : Str) (i : Nat) (b : UInt8) : Str := ⟨((L s).set i b).toArray⟩
theorem setByte_size (s : Str) (i : Nat) (b : UInt8) : (setByte s i b).size = s.size := by rw [← L_size]; unfold setByte; rw [L_mk, List.length_set, L_size]
theorem spoilt {k : Kept} {gen : Int} (h : keptFault k = 0) {i : Nat} {b : UInt8} (hi : i < (keptBytes k gen).size) (hb : b ≠ (L (keptBytes k gen)).getD i 0) : stageDecode (setByte (keptBytes k gen) i b) = (kept0, 0, 11) := by
  have hsz := keptBytes_size h gen
  have hs := setByte_size (keptBytes k gen) i b
  unfold stageDecode
  rw [if_neg (by omega), if_neg (by omega), if_pos]
  intro he
  have hL : L (keptBytes k gen) = L (sealS (keptBody k gen)) ++ L (keptBody k gen) := by unfold keptBytes; rw [L_append]
  have h4 : (L (sealS (keptBody k gen))).length = 4 := by rw [L_size]; rfl
  have e1 := congrArg L he
  rw [L_extract] at e1
  simp only [List.drop_zero, Nat.sub_zero] at e1
  have hset : L (setByte (keptBytes k gen) i b) = (L (keptBytes k gen)).set i b := by unfold setByte; rw [L_mk]
  by_cases hi4 : i < 4
  · have hd : dropS (setByte (keptBytes k gen) i b) 4 = keptBody k gen := by
      apply L_ext
      rw [L_dropS, hset, hL, List.set_append_left _ _ (by omega), List.drop_append_of_le_length (by rw [List.length_set]; omega), List.drop_of_length_le (by rw [List.length_set]; omega), List.nil_append]
    rw [hd, hset, hL, List.set_append_left _ _ (by omega), List.take_append_of_le_length (by rw [List.length_set]; omega), List.take_of_length_le (by rw [List.length_set]; omega)] at e1
    have e2 := congrArg (fun l => l.getD i 0) e1
    simp only [List.getD_eq_getElem?_getD, List.getElem?_set_self (show i < (L (sealS (keptBody k gen))).length by omega), Option.getD_some] at e2
    apply hb
    rw [hL, List.getD_eq_getElem?_getD, List.getElem?_append_left (by omega)]
    exact e2.symm
  · have hd : L (dropS (setByte (keptBytes k gen) i b) 4) = (L (keptBody k gen)).set (i - 4) b := by
      rw [L_dropS, hset, hL, List.set_append_right _ _ (by omega), List.drop_append_of_le_length (by omega), List.drop_of_length_le (by omega), List.nil_append, h4]
    rw [hset, hL, List.set_append_right _ _ (by omega), List.take_append_of_le_length (by omega), List.take_of_length_le (by omega)] at e1
    have e3 := sealS_inj_x (L_ext e1)
    rw [hd, sealXY_x, sealXY_x, total_set _ _ _ (by rw [L_size]; have := keptBody_size h gen; have : (keptBytes k gen).size = 4 + (keptBody k gen).size := by unfold keptBytes; rw [ByteArray.size_append]; rfl
                                                    omega)] at e3
    rw [hL, List.getD_eq_getElem?_getD, List.getElem?_append_right (by omega), h4, ← List.getD_eq_getElem?_getD] at hb
    have hne : (b.toNat : Int) ≠ ((L (keptBody k gen)).getD (i - 4) 0).toNat := fun e => hb (UInt8.toNat_inj.1 (by omega))
    have l1 := b.toNat_lt
    have l2 := ((L (keptBody k gen)).getD (i - 4) 0).toNat_lt
    omega
theorem setByte_same (s : Str) (i : Nat) (hi : i < s.size) : setByte s i ((L s).getD i 0) = s := by
  apply L_ext
  unfold setByte
  rw [L_mk]
  have hi' : i < (L s).length := by rw [L_size]; exact hi
  rw [List.getD_eq_getElem?_getD, List.getElem?_eq_getElem hi']
  exact List.set_getElem_self hi'
end Scu
/- A law for regions that draw their order and end in one operation, t: what is taken first is taken under a word on the world that need not hold behind t. -/
namespace Go.Proofs.YtfpiembhlgcelaaDoor
open Go.RowKit
set_option maxHeartbeats 400000
section
variable {P : Program} {ops : Array Oper} {Q : Exit → Act → World → Prop} {md : Region.Mode} {S : World → Prop} {t : Nat}
/-- Whatever order is picked from here on; S holds behind each operation but t. -/
def wpAnyE (P : Program) (md : Region.Mode) (ops : Array Oper) (Q : Exit → Act → World → Prop) (S : World → Prop) (t : Nat) : Nat → Array Bool → Act → World → Prop
  | 0, listed, a, w => Region.ready md ops listed = [] ∧ Q .normal a w
  | fuel + 1, listed, a, w =>
    (Region.ready md ops listed = [] → Q .normal a w) ∧
    ∀ i ∈ Region.ready md ops listed, wpOp P ops Q i (fun a' w' => (i = t ∨ S w') ∧ wpAnyE P md ops Q S t fuel (listed.setIfInBounds i true) a' w') a w
theorem wpAny_of_E : ∀ (fuel : Nat) (listed : Array Bool) (a : Act) (w : World), wpAnyE P md ops Q S t fuel listed a w → wpAny P md ops Q fuel listed a w
  | 0, _, _, _, h => h
  | fuel + 1, _, _, _, h => ⟨h.1, fun i hi => wpOp_mono (fun a' w' h' => wpAny_of_E fuel _ a' w' h'.2) (h.2 i hi)⟩
/-- What has come up has all that it waits for. -/
def ShutL (md : Region.Mode) (ops : Array Oper) (l : Array Bool) : Prop := ∀ (j : Nat) (oj : Oper), ops[j]? = some oj → l.getD j false = true → ∀ e ∈ oj.after, Region.binds md e = true → l.getD e.on false = true
theorem ShutL.set {l : Array Bool} (h : ShutL md ops l) {i : Nat} (hi : i ∈ Region.ready md ops l) : ShutL md ops (l.setIfInBounds i true) := by
  intro j oj hoj hl e he hb
  obtain ⟨_, oi, hoi, hall⟩ := Go.mem_ready.1 hi
  by_cases hij : i = j
  · subst hij
    have : oj = oi := Option.some.inj (hoj.symm.trans hoi)
    subst this
    exact Go.getD_set_true (hall e he hb)
  · rw [Go.getD_set_ne false hij] at hl
    exact Go.getD_set_true (h j oj hoj hl e he hb)
/-- t waits for i, directly or through others. -/
def reachB (md : Region.Mode) (ops : Array Oper) (i : Nat) : Nat → Nat → Bool
  | 0, _ => false
  | f + 1, j => match ops[j]? with
    | some o => o.after.any fun e => Region.binds md e && (e.on == i || reachB md ops i f e.on)
    | none => false
theorem reach_listed {i : Nat} {l : Array Bool} (h : ShutL md ops l) : ∀ (f j : Nat), reachB md ops i f j = true → (∀ oj, ops[j]? = some oj → ∀ e ∈ oj.after, Region.binds md e = true → l.getD e.on false = true) → l.getD i false = true
  | 0, _, hr, _ => by cases hr
  | f + 1, j, hr, hall => by
    unfold reachB at hr
    cases ho : ops[j]? with
    | none => rw [ho] at hr; cases hr
    | some o =>
      rw [ho] at hr
      obtain ⟨e, he, hb⟩ := Array.any_eq_true'.1 hr
      simp only [Bool.and_eq_true, Bool.or_eq_true, beq_iff_eq] at hb
      have hl := hall o ho e he hb.1
      rcases hb.2 with hb | hb
      · rw [← hb]; exact hl
      · exact reach_listed h f e.on hb fun oj hoj e' he' hb' => h e.on oj hoj hl e' he' hb'
theorem not_ready {i f : Nat} {l : Array Bool} (h : ShutL md ops l) (hr : reachB md ops i f t = true) (hi : l.getD i true = false) : t ∉ Region.ready md ops l := fun ht => by
  obtain ⟨_, o, ho, hall⟩ := Go.mem_ready.1 ht
  have := reach_listed h f t hr (fun oj hoj e he hb => by
    have : oj = o := Option.some.inj (hoj.symm.trans ho)
    subst this
    exact hall e he hb)
  rcases Nat.lt_or_ge i l.size with h' | h'
  · simp [h'] at hi this; rw [hi] at this; cases this
  · simp [Array.getElem?_eq_none h'] at hi
theorem wpAnyE_first {i f : Nat} {oi : Oper} {v : Value} (hi : ops[i]? = some oi) (hsel : ∀ (j : Nat) (o : Oper) cs b, ops[j]? = some o → o.op ≠ .select cs b)
    (hQ : ∀ c a w, Q (.panic c) (a.put oi.dst v) w → Q (.panic c) a w) (hrt : reachB md ops i f t = true) : ∀ (fuel : Nat) (listed : Array Bool) (a : Act) (w : World),
      (∀ j oj, ops[j]? = some oj → j ≠ i → listed.getD j true = false → (∀ e ∈ oj.after, Region.binds md e = true → e.on ≠ i) → oi.apart ops oj = true) →
      i ∈ Region.ready md ops listed → ShutL md ops listed → YieldsIf P ops S oi v a → S w →
      wpAnyE P md ops Q S t fuel (listed.setIfInBounds i true) (a.put oi.dst v) w → wpAnyE P md ops Q S t (fuel + 1) listed a w := by
  intro fuel
  induction fuel with
  | zero =>
    intro listed a w _ hr hsh hy hS H
    refine ⟨fun h => (by rw [h] at hr; cases hr), fun j hj => ?_⟩
    by_cases hji : j = i
    · subst hji; exact hy.wpOp hi hS ⟨.inr hS, H⟩
    · have := Go.ready_mono hj hji
      rw [H.1] at this
      cases this
  | succ fuel ih =>
    intro listed a w hfree hr hsh hy hS H
    have h0 : listed.getD i true = false := (Go.mem_ready.1 hr).1
    refine ⟨fun h => (by rw [h] at hr; cases hr), fun j hj => ?_⟩
    by_cases hji : j = i
    · subst hji; exact hy.wpOp hi hS ⟨.inr hS, H⟩
    · have h1 := H.2 j (Go.ready_mono hj hji)
      have hjt : j ≠ t := fun e => not_ready hsh hrt h0 (e ▸ hj)
      obtain ⟨hjun, oj, hoj, hall⟩ := Go.mem_ready.1 hj
      have hnot : ∀ e ∈ oj.after, Region.binds md e = true → e.on ≠ i := fun e he hb heq => by
        have h1 := hall e he hb
        rw [heq] at h1
        rcases Nat.lt_or_ge i listed.size with h' | h'
        · simp [h'] at h0 h1; rw [h0] at h1; cases h1
        · simp [Array.getElem?_eq_none h'] at h1
      have h2 := wpOp_putIf hoj (hfree j oj hoj hji hjun hnot) (fun cs b => hsel i oi cs b hi) (fun cs b => hsel j oj cs b hoj) hQ hy h1
      have hfree' : ∀ k ok, ops[k]? = some ok → k ≠ i → (listed.setIfInBounds j true).getD k true = false →
          (∀ e ∈ ok.after, Region.binds md e = true → e.on ≠ i) → oi.apart ops ok = true := fun k ok hk hki hun hno => by
        refine hfree k ok hk hki ?_ hno
        by_cases hjk : j = k
        · subst hjk; exact hjun
        · rw [Go.getD_set_ne true hjk] at hun; exact hun
      refine wpOp_mono (fun a' w' h3 => ?_) h2
      obtain ⟨h4, h5, h6⟩ := h3
      have h5 := h5.resolve_left hjt
      refine ⟨.inr h5, ih (listed.setIfInBounds j true) a' w' hfree' (Go.ready_mono hr (Ne.symm hji)) (hsh.set hj) h4 h5 ?_⟩
      rw [Array.setIfInBounds_comm _ _ hji]
      exact h6
/-- Number i first. -/
theorem wpAnyE_take {i : Nat} (f : Nat) {oi : Oper} {v : Value} {fuel : Nat} {listed : Array Bool} {a : Act} {w : World} (hi : ops[i]? = some oi)
    (hs : Region.noSelect ops = true) (hf : Region.free md ops listed i = true) (hr : (Region.ready md ops listed).contains i = true) (hrt : reachB md ops i f t = true)
    (hQ : ∀ c a w, Q (.panic c) (a.put oi.dst v) w → Q (.panic c) a w) (hy : YieldsIf P ops S oi v a) (hsh : ShutL md ops listed) (hS : S w)
    (h : ShutL md ops (listed.setIfInBounds i true) → wpAnyE P md ops Q S t fuel (listed.setIfInBounds i true) (a.put oi.dst v) w) : wpAnyE P md ops Q S t (fuel + 1) listed a w :=
  have hr' : i ∈ Region.ready md ops listed := by simpa using hr
  wpAnyE_first hi (Region.noSelect_spec hs) hQ hrt fuel listed a w (Region.free_spec hi hf) hr' hsh hy hS (h (hsh.set hr'))
theorem wpAnyE_all {rs : List Nat} {fuel : Nat} {listed : Array Bool} {a : Act} {w : World} (hr : Region.ready md ops listed = rs) (hne : rs ≠ [])
    (h : ∀ i ∈ rs, wpOp P ops Q i (fun a' w' => (i = t ∨ S w') ∧ wpAnyE P md ops Q S t fuel (listed.setIfInBounds i true) a' w') a w) : wpAnyE P md ops Q S t (fuel + 1) listed a w :=
  ⟨fun h0 => absurd (hr ▸ h0) hne, hr ▸ h⟩
theorem wpAnyE_done {listed : Array Bool} {a : Act} {w : World} (hr : Region.ready md ops listed = []) (h : Q .normal a w) : ∀ fuel, wpAnyE P md ops Q S t fuel listed a w
  | 0 => ⟨hr, h⟩
  | _ + 1 => ⟨fun _ => h, by rw [hr]; simp⟩
theorem wp_region_E {id : Nat} {a : Act} {w : World} (S : World → Prop) (t : Nat) (hm : P.follows .mixedOrders = true)
    (h : ShutL .any ops (Array.replicate ops.size false) → wpAnyE P .any ops Q S t ops.size (Array.replicate ops.size false) a { w with drawn := w.drawn + 1 }) : (Code.region id ops true).wp P Q a w :=
  wp_region_any hm (wpAny_of_E _ _ _ _ (h fun j oj _ hl => by
    exfalso
    rw [Array.getD_eq_getD_getElem?] at hl
    by_cases hk : j < ops.size
    · simp [hk] at hl
    · rw [Array.getElem?_eq_none (by simpa using hk)] at hl
      cases hl))
end
end Go.Proofs.YtfpiembhlgcelaaDoor
/- The law SlotsSpoilt, walked. -/
namespace Go.Proofs.YtfpiembhlgcelaaDoor
set_option linter.unusedVariables false
set_option linter.unusedSimpArgs false
open Go.RowKit
set_option maxHeartbeats 4000000
set_option maxRecDepth 100000

theorem spo_add (g j : Nat) : (⟨g, 0, none⟩ : Addr).add j = ⟨g, j, none⟩ := addr_add0' g j
theorem below_bytes (w : World) (e : TypeId) (s : ByteArray) : Below w.heap.size w (Lib.bytesWorld w e s) :=
  ⟨rfl, rfl, rfl, by rw [Lib.bytesWorld_size]; omega, fun k hk => Lib.bytesWorld_at_old w e s k hk⟩
theorem bytes_frozen (w : World) (e : TypeId) (s : ByteArray) (j : Nat) (hj : j < s.size) : (Lib.bytesWorld w e s).frozen? ⟨w.heap.size, j, none⟩ = false := by
  have h := Lib.bytesWorld_at_new w e s
  have hsz : s.size ≤ (Lib.bytesCells w e s).size := by unfold Lib.bytesCells; simp
  simp only [World.frozen?, h]
  simp
  omega
theorem bytes_set {w : World} {g : Nat} {s : ByteArray} (h : ∀ j, j < s.size → w.cell? ⟨g, j, none⟩ = some (.int .u8 (s.data.toList.getD j 0).toNat)) {m : Nat} (hm : m < s.size) (hl : g < w.heap.size) (nb : Int) (h0 : 0 ≤ nb) (h1 : nb < 256) :
    Lib.Bytes (w.setCell ⟨g, m, none⟩ (.int .u8 nb)) g 0 (Scu.setByte s m (UInt8.ofNat nb.toNat)) := by
  intro i hi
  have hi' : i < s.size := by rw [Scu.setByte_size] at hi; exact hi
  have e : (Scu.setByte s m (UInt8.ofNat nb.toNat))[i] = ((s.data.toList).set m (UInt8.ofNat nb.toNat))[i]'(by simpa using hi') := rfl
  rw [e, Nat.zero_add]
  by_cases him : m = i
  · subst him
    have hc := h m hm
    have hex : (w.cell? ⟨g, m, none⟩).isSome = true := by rw [hc]; rfl
    rw [List.getElem_set_self]
    have hn : ((UInt8.ofNat nb.toNat).toNat : Int) = nb := by
      rw [UInt8.toNat_ofNat']
      omega
    rw [hn]
    exact World.cell?_setCell_same _ _ _ hc
  · rw [List.getElem_set_ne him]
    rw [World.cell?_setCell_other _ _ _ _ (fun e => him (by cases e; rfl))]
    rw [h i hi']
    congr 3
    rw [List.getD_eq_getElem?_getD, List.getElem?_eq_getElem (by simpa using hi')]
    rfl
theorem wpAnyE_takeL {P : Program} {ops : Array Oper} {Q : Exit → Act → World → Prop} {md : Region.Mode} {S : World → Prop} {t : Nat} {i : Nat} (f : Nat) {oi : Oper} {v : Value} {fuel : Nat} {listed : Array Bool} {a : Act} {w : World} (hi : ops.toList[i]? = some oi)
    (hs : Region.noSelect ops = true) (hf : Region.free md ops listed i = true) (hr : (Region.ready md ops listed).contains i = true) (hrt : reachB md ops i f t = true)
    (hQ : ∀ c a w, Q (.panic c) (a.put oi.dst v) w → Q (.panic c) a w) (hy : YieldsIf P ops S oi v a) (hsh : ShutL md ops listed) (hS : S w)
    (h : ShutL md ops (listed.setIfInBounds i true) → wpAnyE P md ops Q S t fuel (listed.setIfInBounds i true) (a.put oi.dst v) w) : wpAnyE P md ops Q S t (fuel + 1) listed a w :=
  wpAnyE_take f (by rw [← Array.getElem?_toList]; exact hi) hs hf hr hrt hQ hy hsh hS h
theorem lawSlotsSpoilt_c (v : Value) (l : List Scu.Raw) (n at_ by_ : Int) (hn : InI n) (hat : InI at_) (hby : 0 ≤ by_ ∧ by_ < 256) (w : World) (hl : IsRaws w w.heap.size v l) (ht : Tab w) :
    Calls Tryd.prog 6 #[v, .int .i64 n, .int .i64 at_, .int .u8 by_] w fun e w' => e = .returned (.bool true) ∧ Below w.heap.size w w' := by
  obtain ⟨Al, cl, rfl, hll⟩ := hl.form'
  obtain ⟨ka, hka⟩ : ∃ k, Scu.keptRaw l n = k := ⟨_, rfl⟩
  have HKA := Lib.hid (show Scu.keptFault ka = 0 by rw [← hka]; exact Scu.keptRaw_ok _ _)
  have HT := Lib.hid ht
  have HL := Lib.hid hl
  have HN := Lib.hid hn
  have HAT := Lib.hid hat
  have HBY := Lib.hid hby
  have HA := Lib.hid hka
  have hsz := Scu.keptBytes_size HKA.out 5
  have henc : Scu.stageEncode ka 5 = (Scu.keptBytes ka 5, 0) := by
    unfold Scu.stageEncode
    rw [if_neg (by simp [HKA.out]), if_neg (by omega)]
  have hdec := Scu.stageDecode_keptBytes HKA.out (gen := 5) (by omega) (by omega)
  have hspo := fun (i : Nat) (b : UInt8) => Scu.spoilt (gen := 5) (i := i) (b := b) HKA.out
  obtain ⟨s, hs⟩ : ∃ s, Scu.keptBytes ka 5 = s := ⟨_, rfl⟩
  rw [hs] at hsz henc hdec
  simp only [hs] at hspo
  have hs28 : (28 : Int) ≤ s.size := by omega
  have hs28' : ¬ (s.size : Int) < 4 := by omega
  have HENC := Lib.hid henc
  have HDEC := Lib.hid hdec
  have HSPO := Lib.hid hspo
  have HSZ := Lib.hid hsz
  clear ht hl hn hat hby hka henc hdec hspo hs hsz
  go_enter Tryd.func6, Tryd.ntmps6
  go_wp2_with fail
  refine (kept_c _ l n HN.out w w.heap.size (Nat.le_refl _) HL.out HT.out ka HA.out).mono ?_; rintro e w1 ⟨⟨Aa, ca, rfl, ha⟩, b1⟩
  have HAI := Lib.hid ha
  have B1 := Lib.hid b1
  clear ha b1
  go_wp2_with fail
  refine (stageEncode_a (.slice Aa ka.log.length ca) ka 5 _ 0 HAI.out s 0 HENC.out).mono ?_; rintro e w2 ⟨rfl, b2⟩
  have B2 := Lib.hid (B1.out.trans (b2.mono B1.out.size))
  clear b2
  go_wp2_with fail
  refine (stageDecode_a s _ ka 5 0 HDEC.out).mono ?_; rintro e w3 ⟨⟨lv, rfl, hlv⟩, b3⟩
  obtain ⟨Ak, nk, ck, rfl⟩ := hlv.form
  obtain ⟨_, _, ek, _⟩ := hlv.is.ex
  obtain rfl : nk = ka.log.length := by cases ek; rfl
  clear ek
  have HLV := Lib.hid hlv.is
  have B3 := Lib.hid (B2.out.trans (b3.mono B2.out.size))
  clear b3 hlv
  go_upto_region 3 with fail
  obtain ⟨W4, hW4⟩ : ∃ W, W = w3.alloc (Obj.cells #[.int .i64 ka.view, .int .i64 ka.normal, .bool ka.calm, .slice Ak ka.log.length ck, .int .i64 ka.commit] 64) := ⟨_, rfl⟩
  rw [← hW4]
  have HK4 := Lib.hid (show Blk W4 w3.heap.size 64 #[.int .i64 ka.view, .int .i64 ka.normal, .bool ka.calm, .slice Ak ka.log.length ck, .int .i64 ka.commit] from by rw [hW4]; exact Blk.new _ _ _)
  have HLV4 := Lib.hid (show IsStrs W4 0 (.slice Ak ka.log.length ck) ka.log from by rw [hW4]; exact HLV.out.alloc _)
  have B4 := Lib.hid (show Below w.heap.size w W4 from by rw [hW4]; exact B3.out.alloc B3.out.size _)
  clear hW4
  have hcv := Lib.run_convert_string_bytes (P := Tryd.prog) W4 9 68 5 s Tryd.underlying9 Tryd.underlying68 Tryd.underlying5
  go_upto_region 4 with fail
  obtain ⟨cp, hcp⟩ : ∃ c, grownCap W4 s.size 0 5 = c := ⟨_, rfl⟩
  rw [hcp]
  obtain ⟨g, hg⟩ : ∃ g, g = W4.heap.size := ⟨_, rfl⟩
  rw [← hg]
  obtain ⟨W5, hW5⟩ : ∃ W, W = Lib.bytesWorld W4 5 s := ⟨_, rfl⟩
  rw [← hW5]
  have B45 := Lib.hid (show Below W4.heap.size W4 W5 from by rw [hW5]; exact below_bytes _ _ _)
  obtain ⟨p, hp⟩ : ∃ p, Scu.picked at_ s.size = p := ⟨_, rfl⟩
  have hp01 := Scu.picked_lt (n := at_) (many := s.size) (by omega)
  rw [hp] at hp01
  obtain ⟨m, rfl⟩ : ∃ m : Nat, p = m := ⟨p.toNat, by omega⟩
  have hm1 : (m : Int) < s.size := hp01.2
  have hmn : m < s.size := by omega
  have hcell : W5.cell? ⟨g, m, none⟩ = some (.int .u8 (s.data.toList.getD m 0).toNat) := by rw [hW5, hg]; exact Lib.bytesWorld_cell W4 5 s m hmn
  have hfz : W5.frozen? ⟨g, m, none⟩ = false := by rw [hW5, hg]; exact bytes_frozen W4 5 s m hmn
  have HBY5 := Lib.hid (show ∀ j, j < s.size → W5.cell? ⟨g, j, none⟩ = some (.int .u8 (s.data.toList.getD j 0).toNat) from fun j hj => by rw [hW5, hg]; exact Lib.bytesWorld_cell W4 5 s j hj)
  have hglt : g < W5.heap.size := by rw [hW5, hg, Lib.bytesWorld_size]; omega
  obtain ⟨old, hold⟩ : ∃ x, s.data.toList.getD m 0 = x := ⟨_, rfl⟩
  rw [hold] at hcell
  obtain ⟨nb, hnb⟩ : ∃ x : Int, IntKind.u8.wrap ((old.toNat : Int) + by_) = x := ⟨_, rfl⟩
  have hnb2 : nb = ((old.toNat : Int) + by_) % 256 := by rw [← hnb, IntKind.wrap_u8]
  have HP := Lib.hid hp
  have HOLD := Lib.hid hold
  have HNB := Lib.hid hnb2
  have HG := Lib.hid hg
  clear hcv hcp hW5 hp hp01 hold hnb2 hg
  go_wp2_with fail
  refine (picked_c at_ s.size HAT.out (by omega) (by have := HSZ.out; omega) _).mono ?_; rintro e w' ⟨rfl, rfl⟩
  rw [HP.out]
  go_upto_region 7 with fail
  have hnb01 : 0 ≤ nb ∧ nb < 256 := by have := HNB.out; omega
  have hbts := bytes_set HBY5.out hmn hglt nb hnb01.1 hnb01.2
  obtain ⟨t, ht⟩ : ∃ t, Scu.setByte s m (UInt8.ofNat nb.toNat) = t := ⟨_, rfl⟩
  have htsz : t.size = s.size := by rw [← ht]; exact Scu.setByte_size _ _ _
  rw [ht] at hbts
  obtain ⟨W7, hW7⟩ : ∃ W, W = W5.setCell ⟨g, m, none⟩ (.int .u8 nb) := ⟨_, rfl⟩
  rw [← hW7] at hbts ⊢
  have hback := Lib.run_convert_whole (P := Tryd.prog) W7 68 5 9 Tryd.underlying68 Tryd.underlying5 Tryd.underlying9 g 0 t hbts cp
  rw [htsz] at hback
  have B7 := Lib.hid (show Below W4.heap.size W4 W7 from by rw [hW7]; exact B45.out.setCell (p := ⟨g, m, none⟩) (by show _ ≤ g; rw [HG.out]; exact Nat.le_refl _) _)
  obtain ⟨kq, gq, eq, hq⟩ : ∃ a b c, Scu.stageDecode t = (a, b, c) := ⟨_, _, _, rfl⟩
  have heq : by_ ≠ 0 → eq = 11 := by
    intro hne
    have h1 := HSPO.out m (UInt8.ofNat nb.toNat) hmn (fun e => by
      have e1 : (Scu.L s).getD m 0 = old := HOLD.out
      rw [e1] at e
      have e2 := congrArg (fun x : UInt8 => (x.toNat : Int)) e
      simp only [UInt8.toNat_ofNat'] at e2
      have := old.toNat_lt
      have := HNB.out
      have := HBY.out
      omega)
    rw [ht, hq] at h1
    exact (Prod.mk.inj (Prod.mk.inj h1).2).2
  have HQ := Lib.hid hq
  have HEQ := Lib.hid heq
  clear hbts ht htsz hW7 hcell hfz hglt hnb hnb01 hq heq
  go_wp2_with fail
  refine (stageDecode_a t _ kq gq eq HQ.out).mono ?_; rintro e w8 ⟨⟨lq, rfl, hlq⟩, b8⟩
  obtain ⟨Aq, nq, cq, rfl⟩ := hlq.form
  have B8 := Lib.hid (B7.out.trans (b8.mono B7.out.size))
  clear b8 hlq hback
  go_upto_region 8 with fail
  obtain ⟨W9, hW9⟩ : ∃ W, W = w8.alloc (Obj.cells #[.int .i64 kq.view, .int .i64 kq.normal, .bool kq.calm, .slice Aq nq cq, .int .i64 kq.commit] 64) := ⟨_, rfl⟩
  rw [← hW9]
  have hd9 : Below W4.heap.size W4 W9 := by rw [hW9]; exact B8.out.alloc B8.out.size _
  clear hW9
  have HK9 := Lib.hid (HK4.out.same hd9)
  have HLV9 := Lib.hid (HLV4.out.below hd9)
  have B9 := Lib.hid (B4.out.trans (hd9.mono B4.out.size))
  clear hd9
  have c0 : W9.cell? ⟨w3.heap.size, 0, none⟩ = some (.int .i64 ka.view) := HK9.out.cell 0
  have c1 : W9.cell? ⟨w3.heap.size, 1, none⟩ = some (.int .i64 ka.normal) := HK9.out.cell 1
  have c2 : W9.cell? ⟨w3.heap.size, 2, none⟩ = some (.bool ka.calm) := HK9.out.cell 2
  have c3 : W9.cell? ⟨w3.heap.size, 3, none⟩ = some (.slice Ak ka.log.length ck) := HK9.out.cell 3
  have c4 : W9.cell? ⟨w3.heap.size, 4, none⟩ = some (.int .i64 ka.commit) := HK9.out.cell 4
  have hdr : Below W9.heap.size W9 W9.drew := (Below.refl _ _).drew
  have HDR := Lib.hid (And.intro ((HL.out.below B9.out).below hdr) (And.intro ((HT.out.below B9.out).below hdr) (And.intro hdr (show w.heap.size ≤ W9.drew.heap.size from B9.out.size))))
  clear hdr
  by_cases hz : by_ = 0
  · have hzb : (by_ == 0) = true := by simp [hz]
    have HZZ := Lib.hid hz
    clear hz
    obtain ⟨S, hSd⟩ : ∃ S : World → Prop, S = fun w' => w'.cell? ⟨w3.heap.size, 0, none⟩ = some (.int .i64 ka.view) ∧ w'.cell? ⟨w3.heap.size, 1, none⟩ = some (.int .i64 ka.normal) ∧ w'.cell? ⟨w3.heap.size, 2, none⟩ = some (.bool ka.calm) ∧ w'.cell? ⟨w3.heap.size, 3, none⟩ = some (.slice Ak ka.log.length ck) ∧ w'.cell? ⟨w3.heap.size, 4, none⟩ = some (.int .i64 ka.commit) := ⟨_, rfl⟩
    have hS0 : S W9.drew := by rw [hSd]; exact ⟨c0, c1, c2, c3, c4⟩
    refine wp_region_E S 25 (by kernel_rfl) (fun hsh => ?_)
    change wpAnyE _ _ _ _ _ _ _ _ _ W9.drew
    refine wpAnyE_takeL (i := 0) 8 (v := ?_) rfl (by kernel_rfl) (by kernel_rfl) (by kernel_rfl) (by kernel_rfl) (fun _ _ _ h => h) (Or.inl ⟨by rfl, ?_⟩) hsh hS0 (fun hsh => ?_)
    rotate_left
    · (intro wv hSw; rw [hSd] at hSw; obtain ⟨s0, s1, s2, s3, s4⟩ := hSw; go_simp; (try with_reducible rfl))
    (try simp only [Act.put, List.setIfInBounds_toArray, List.set_cons_zero, List.set_cons_succ])
    refine wpAnyE_takeL (i := 1) 8 (v := ?_) rfl (by kernel_rfl) (by kernel_rfl) (by kernel_rfl) (by kernel_rfl) (fun _ _ _ h => h) (Or.inl ⟨by rfl, ?_⟩) hsh hS0 (fun hsh => ?_)
    rotate_left
    · (intro wv hSw; rw [hSd] at hSw; obtain ⟨s0, s1, s2, s3, s4⟩ := hSw; go_simp; (try with_reducible rfl))
    (try simp only [Act.put, List.setIfInBounds_toArray, List.set_cons_zero, List.set_cons_succ])
    refine wpAnyE_takeL (i := 2) 8 (v := ?_) rfl (by kernel_rfl) (by kernel_rfl) (by kernel_rfl) (by kernel_rfl) (fun _ _ _ h => h) (Or.inl ⟨by rfl, ?_⟩) hsh hS0 (fun hsh => ?_)
    rotate_left
    · (intro wv hSw; rw [hSd] at hSw; obtain ⟨s0, s1, s2, s3, s4⟩ := hSw; go_simp; (try with_reducible rfl))
    (try simp only [Act.put, List.setIfInBounds_toArray, List.set_cons_zero, List.set_cons_succ])
    refine wpAnyE_takeL (i := 3) 8 (v := ?_) rfl (by kernel_rfl) (by kernel_rfl) (by kernel_rfl) (by kernel_rfl) (fun _ _ _ h => h) (Or.inl ⟨by rfl, ?_⟩) hsh hS0 (fun hsh => ?_)
    rotate_left
    · (intro wv hSw; rw [hSd] at hSw; obtain ⟨s0, s1, s2, s3, s4⟩ := hSw; go_simp; (try with_reducible rfl))
    (try simp only [Act.put, List.setIfInBounds_toArray, List.set_cons_zero, List.set_cons_succ])
    refine wpAnyE_takeL (i := 4) 8 (v := ?_) rfl (by kernel_rfl) (by kernel_rfl) (by kernel_rfl) (by kernel_rfl) (fun _ _ _ h => h) (Or.inl ⟨by rfl, ?_⟩) hsh hS0 (fun hsh => ?_)
    rotate_left
    · (intro wv hSw; rw [hSd] at hSw; obtain ⟨s0, s1, s2, s3, s4⟩ := hSw; go_simp; (try with_reducible rfl))
    (try simp only [Act.put, List.setIfInBounds_toArray, List.set_cons_zero, List.set_cons_succ])
    refine wpAnyE_takeL (i := 5) 8 (v := ?_) rfl (by kernel_rfl) (by kernel_rfl) (by kernel_rfl) (by kernel_rfl) (fun _ _ _ h => h) (Or.inl ⟨by rfl, ?_⟩) hsh hS0 (fun hsh => ?_)
    rotate_left
    · (intro wv hSw; rw [hSd] at hSw; obtain ⟨s0, s1, s2, s3, s4⟩ := hSw; go_simp; (try with_reducible rfl))
    (try simp only [Act.put, List.setIfInBounds_toArray, List.set_cons_zero, List.set_cons_succ])
    refine wpAnyE_takeL (i := 6) 8 (v := ?_) rfl (by kernel_rfl) (by kernel_rfl) (by kernel_rfl) (by kernel_rfl) (fun _ _ _ h => h) (Or.inl ⟨by rfl, ?_⟩) hsh hS0 (fun hsh => ?_)
    rotate_left
    · (intro wv hSw; rw [hSd] at hSw; obtain ⟨s0, s1, s2, s3, s4⟩ := hSw; go_simp; (try with_reducible rfl))
    (try simp only [Act.put, List.setIfInBounds_toArray, List.set_cons_zero, List.set_cons_succ])
    refine wpAnyE_takeL (i := 7) 8 (v := ?_) rfl (by kernel_rfl) (by kernel_rfl) (by kernel_rfl) (by kernel_rfl) (fun _ _ _ h => h) (Or.inl ⟨by rfl, ?_⟩) hsh hS0 (fun hsh => ?_)
    rotate_left
    · (intro wv hSw; rw [hSd] at hSw; obtain ⟨s0, s1, s2, s3, s4⟩ := hSw; go_simp; (try with_reducible rfl))
    (try simp only [Act.put, List.setIfInBounds_toArray, List.set_cons_zero, List.set_cons_succ])
    refine wpAnyE_takeL (i := 8) 8 (v := ?_) rfl (by kernel_rfl) (by kernel_rfl) (by kernel_rfl) (by kernel_rfl) (fun _ _ _ h => h) (Or.inl ⟨by rfl, ?_⟩) hsh hS0 (fun hsh => ?_)
    rotate_left
    · (intro wv hSw; rw [hSd] at hSw; obtain ⟨s0, s1, s2, s3, s4⟩ := hSw; go_simp; (try with_reducible rfl))
    (try simp only [Act.put, List.setIfInBounds_toArray, List.set_cons_zero, List.set_cons_succ])
    refine wpAnyE_takeL (i := 9) 8 (v := ?_) rfl (by kernel_rfl) (by kernel_rfl) (by kernel_rfl) (by kernel_rfl) (fun _ _ _ h => h) (Or.inl ⟨by rfl, ?_⟩) hsh hS0 (fun hsh => ?_)
    rotate_left
    · (intro wv hSw; rw [hSd] at hSw; obtain ⟨s0, s1, s2, s3, s4⟩ := hSw; go_simp; (try with_reducible rfl))
    (try simp only [Act.put, List.setIfInBounds_toArray, List.set_cons_zero, List.set_cons_succ])
    refine wpAnyE_takeL (i := 10) 8 (v := ?_) rfl (by kernel_rfl) (by kernel_rfl) (by kernel_rfl) (by kernel_rfl) (fun _ _ _ h => h) (Or.inl ⟨by rfl, ?_⟩) hsh hS0 (fun hsh => ?_)
    rotate_left
    · (intro wv hSw; rw [hSd] at hSw; obtain ⟨s0, s1, s2, s3, s4⟩ := hSw; go_simp; (try with_reducible rfl))
    (try simp only [Act.put, List.setIfInBounds_toArray, List.set_cons_zero, List.set_cons_succ])
    refine wpAnyE_takeL (i := 11) 8 (v := ?_) rfl (by kernel_rfl) (by kernel_rfl) (by kernel_rfl) (by kernel_rfl) (fun _ _ _ h => h) (Or.inl ⟨by rfl, ?_⟩) hsh hS0 (fun hsh => ?_)
    rotate_left
    · (intro wv hSw; rw [hSd] at hSw; obtain ⟨s0, s1, s2, s3, s4⟩ := hSw; go_simp; (try with_reducible rfl))
    (try simp only [Act.put, List.setIfInBounds_toArray, List.set_cons_zero, List.set_cons_succ])
    refine wpAnyE_takeL (i := 12) 8 (v := ?_) rfl (by kernel_rfl) (by kernel_rfl) (by kernel_rfl) (by kernel_rfl) (fun _ _ _ h => h) (Or.inl ⟨by rfl, ?_⟩) hsh hS0 (fun hsh => ?_)
    rotate_left
    · (intro wv hSw; rw [hSd] at hSw; obtain ⟨s0, s1, s2, s3, s4⟩ := hSw; go_simp; (try with_reducible rfl))
    (try simp only [Act.put, List.setIfInBounds_toArray, List.set_cons_zero, List.set_cons_succ])
    refine wpAnyE_takeL (i := 13) 8 (v := ?_) rfl (by kernel_rfl) (by kernel_rfl) (by kernel_rfl) (by kernel_rfl) (fun _ _ _ h => h) (Or.inl ⟨by rfl, ?_⟩) hsh hS0 (fun hsh => ?_)
    rotate_left
    · (intro wv hSw; rw [hSd] at hSw; obtain ⟨s0, s1, s2, s3, s4⟩ := hSw; go_simp; (try with_reducible rfl))
    (try simp only [Act.put, List.setIfInBounds_toArray, List.set_cons_zero, List.set_cons_succ])
    refine wpAnyE_all (rs := [14]) (by kernel_rfl) (by simp) ?_
    intro ii hii
    rw [List.mem_singleton] at hii
    subst hii
    refine wpOp_step (o := _) rfl (fun KS hKS => ?_)
    go_simp
    refine (kept_c _ l n HN.out W9.drew w.heap.size HDR.out.2.2.2 HDR.out.1 HDR.out.2.1 ka HA.out).mono ?_; rintro en x1 ⟨⟨Ab, cb, rfl, hb⟩, k1⟩
    have nn1 : Below W9.heap.size W9 x1 := HDR.out.2.2.1.trans k1
    have M1 := Lib.hid nn1
    have HBI := Lib.hid hb
    have l1 := HK9.out.lt
    have d0 := (nn1.cell (p := ⟨w3.heap.size, 0, none⟩) l1).trans c0
    have d1 := (nn1.cell (p := ⟨w3.heap.size, 1, none⟩) l1).trans c1
    have d2 := (nn1.cell (p := ⟨w3.heap.size, 2, none⟩) l1).trans c2
    have d3 := (nn1.cell (p := ⟨w3.heap.size, 3, none⟩) l1).trans c3
    have d4 := (nn1.cell (p := ⟨w3.heap.size, 4, none⟩) l1).trans c4
    have hS0 : S x1 := by rw [hSd]; exact ⟨d0, d1, d2, d3, d4⟩
    clear nn1 k1 hb
    refine hKS _ _ ⟨.inr hS0, ?_⟩
    have hsh := hsh.set (i := 14) (by rw [← List.contains_iff_mem]; kernel_rfl)
    (try simp only [Act.put, List.setIfInBounds_toArray, List.set_cons_zero, List.set_cons_succ])
    refine wpAnyE_all (rs := [15]) (by kernel_rfl) (by simp) ?_
    intro ii hii
    rw [List.mem_singleton] at hii
    subst hii
    refine wpOp_step (o := _) rfl (fun KT hKT => ?_)
    go_simp
    refine (same_t Ak Ab ck cb ka _ 0 0 (HLV9.out.below M1.out) HBI.out).mono ?_; rintro en x2 ⟨rfl, k2⟩
    have l2 := Nat.lt_of_lt_of_le HK9.out.lt M1.out.size
    have e0 := (k2.cell (p := ⟨w3.heap.size, 0, none⟩) l2).trans d0
    have e1 := (k2.cell (p := ⟨w3.heap.size, 1, none⟩) l2).trans d1
    have e2 := (k2.cell (p := ⟨w3.heap.size, 2, none⟩) l2).trans d2
    have e3 := (k2.cell (p := ⟨w3.heap.size, 3, none⟩) l2).trans d3
    have e4 := (k2.cell (p := ⟨w3.heap.size, 4, none⟩) l2).trans d4
    have M2 := Lib.hid (M1.out.trans (k2.mono M1.out.size))
    have hS0 : S x2 := by rw [hSd]; exact ⟨e0, e1, e2, e3, e4⟩
    clear k2
    refine hKT _ _ ⟨.inr hS0, ?_⟩
    have hsh := hsh.set (i := 15) (by rw [← List.contains_iff_mem]; kernel_rfl)
    (try simp only [Act.put, List.setIfInBounds_toArray, List.set_cons_zero, List.set_cons_succ])
    refine wpAnyE_takeL (i := 16) 8 (v := ?_) rfl (by kernel_rfl) (by kernel_rfl) (by kernel_rfl) (by kernel_rfl) (fun _ _ _ h => h) (Or.inl ⟨by rfl, ?_⟩) hsh hS0 (fun hsh => ?_)
    rotate_left
    · (intro wv hSw; rw [hSd] at hSw; obtain ⟨s0, s1, s2, s3, s4⟩ := hSw; go_simp; (try with_reducible rfl))
    (try simp only [Act.put, List.setIfInBounds_toArray, List.set_cons_zero, List.set_cons_succ])
    refine wpAnyE_takeL (i := 17) 8 (v := ?_) rfl (by kernel_rfl) (by kernel_rfl) (by kernel_rfl) (by kernel_rfl) (fun _ _ _ h => h) (Or.inl ⟨by rfl, ?_⟩) hsh hS0 (fun hsh => ?_)
    rotate_left
    · (intro wv hSw; rw [hSd] at hSw; obtain ⟨s0, s1, s2, s3, s4⟩ := hSw; go_simp; (try with_reducible rfl))
    (try simp only [Act.put, List.setIfInBounds_toArray, List.set_cons_zero, List.set_cons_succ])
    refine wpAnyE_takeL (i := 18) 8 (v := ?_) rfl (by kernel_rfl) (by kernel_rfl) (by kernel_rfl) (by kernel_rfl) (fun _ _ _ h => h) (Or.inl ⟨by rfl, ?_⟩) hsh hS0 (fun hsh => ?_)
    rotate_left
    · (intro wv hSw; rw [hSd] at hSw; obtain ⟨s0, s1, s2, s3, s4⟩ := hSw; go_simp; (try with_reducible rfl))
    (try simp only [Act.put, List.setIfInBounds_toArray, List.set_cons_zero, List.set_cons_succ])
    refine wpAnyE_takeL (i := 19) 8 (v := ?_) rfl (by kernel_rfl) (by kernel_rfl) (by kernel_rfl) (by kernel_rfl) (fun _ _ _ h => h) (Or.inl ⟨by rfl, ?_⟩) hsh hS0 (fun hsh => ?_)
    rotate_left
    · (intro wv hSw; rw [hSd] at hSw; obtain ⟨s0, s1, s2, s3, s4⟩ := hSw; go_simp; (try with_reducible rfl))
    (try simp only [Act.put, List.setIfInBounds_toArray, List.set_cons_zero, List.set_cons_succ])
    refine wpAnyE_takeL (i := 20) 8 (v := ?_) rfl (by kernel_rfl) (by kernel_rfl) (by kernel_rfl) (by kernel_rfl) (fun _ _ _ h => h) (Or.inl ⟨by rfl, ?_⟩) hsh hS0 (fun hsh => ?_)
    rotate_left
    · (intro wv hSw; rw [hSd] at hSw; obtain ⟨s0, s1, s2, s3, s4⟩ := hSw; go_simp; (try with_reducible rfl))
    (try simp only [Act.put, List.setIfInBounds_toArray, List.set_cons_zero, List.set_cons_succ])
    refine wpAnyE_takeL (i := 21) 8 (v := undef) rfl (by kernel_rfl) (by kernel_rfl) (by kernel_rfl) (by kernel_rfl) (fun _ _ _ h => h) (Or.inr ⟨by rfl, rfl⟩) hsh hS0 (fun hsh => ?_)
    (try simp only [Act.put, List.setIfInBounds_toArray, List.set_cons_zero, List.set_cons_succ])
    refine wpAnyE_takeL (i := 22) 8 (v := undef) rfl (by kernel_rfl) (by kernel_rfl) (by kernel_rfl) (by kernel_rfl) (fun _ _ _ h => h) (Or.inr ⟨by rfl, rfl⟩) hsh hS0 (fun hsh => ?_)
    (try simp only [Act.put, List.setIfInBounds_toArray, List.set_cons_zero, List.set_cons_succ])
    refine wpAnyE_takeL (i := 23) 8 (v := ?_) rfl (by kernel_rfl) (by kernel_rfl) (by kernel_rfl) (by kernel_rfl) (fun _ _ _ h => h) (Or.inl ⟨by rfl, ?_⟩) hsh hS0 (fun hsh => ?_)
    rotate_left
    · (intro wv hSw; rw [hSd] at hSw; obtain ⟨s0, s1, s2, s3, s4⟩ := hSw; go_simp; (try with_reducible rfl))
    (try simp only [Act.put, List.setIfInBounds_toArray, List.set_cons_zero, List.set_cons_succ])
    refine wpAnyE_takeL (i := 24) 8 (v := ?_) rfl (by kernel_rfl) (by kernel_rfl) (by kernel_rfl) (by kernel_rfl) (fun _ _ _ h => h) (Or.inl ⟨by rfl, ?_⟩) hsh hS0 (fun hsh => ?_)
    rotate_left
    · (intro wv hSw; rw [hSd] at hSw; obtain ⟨s0, s1, s2, s3, s4⟩ := hSw; go_simp; (try with_reducible rfl))
    (try simp only [Act.put, List.setIfInBounds_toArray, List.set_cons_zero, List.set_cons_succ])
    refine wpAnyE_all (rs := [25]) (by kernel_rfl) (by simp) ?_
    intro ii hii
    rw [List.mem_singleton] at hii
    subst hii
    refine wpOp_step (o := _) rfl (fun KU hKU => ?_)
    go_simp
    refine hKU _ _ ⟨.inl rfl, wpAnyE_done (by kernel_rfl) ?_ _⟩
    clear hKU hKT hKS hS0 hSd hsh c0 c1 c2 c3 c4 d0 d1 d2 d3 d4 e0 e1 e2 e3 e4
    have HF := Lib.hid (B9.out.trans (M2.out.mono B9.out.size))
    go_wp2
    go_ret
    exact ⟨rfl, HF.out⟩
  · have h11 := HEQ.out hz
    have hzb : (by_ == 0) = false := by simp [hz]
    have HZZ := Lib.hid hz
    clear hz
    subst h11
    go_region_held3 (fun w' => w'.cell? ⟨w3.heap.size, 0, none⟩ = some (.int .i64 ka.view) ∧ w'.cell? ⟨w3.heap.size, 1, none⟩ = some (.int .i64 ka.normal) ∧ w'.cell? ⟨w3.heap.size, 2, none⟩ = some (.bool ka.calm) ∧ w'.cell? ⟨w3.heap.size, 3, none⟩ = some (.slice Ak ka.log.length ck) ∧ w'.cell? ⟨w3.heap.size, 4, none⟩ = some (.int .i64 ka.commit)) (first | (go_split_ands; (try dsimp only); (repeat' apply And.intro) <;> (with_reducible assumption)) | (go_split_ands; (try dsimp only); exact ⟨c0, c1, c2, c3, c4⟩) | go_keep)
      (first
      | (go_at_call 33; refine (kept_c _ l n HN.out W9.drew w.heap.size HDR.out.2.2.2 HDR.out.1 HDR.out.2.1 ka HA.out).mono ?_; rintro en x1 ⟨⟨Ab, cb, rfl, hb⟩, k1⟩
         refine useK (P := Below W9.heap.size W9 x1) ?_ ?_
         exact HDR.out.2.2.1.trans k1
         intro nn1
         have M1 := Lib.hid nn1
         have HBI := Lib.hid hb
         have l1 := HK9.out.lt
         have d0 := (nn1.cell (p := ⟨w3.heap.size, 0, none⟩) l1).trans c0
         have d1 := (nn1.cell (p := ⟨w3.heap.size, 1, none⟩) l1).trans c1
         have d2 := (nn1.cell (p := ⟨w3.heap.size, 2, none⟩) l1).trans c2
         have d3 := (nn1.cell (p := ⟨w3.heap.size, 3, none⟩) l1).trans c3
         have d4 := (nn1.cell (p := ⟨w3.heap.size, 4, none⟩) l1).trans c4
         clear nn1 k1 hb)
      | (go_at_call 35; refine (same_t Ak Ab ck cb ka _ 0 0 (HLV9.out.below M1.out) HBI.out).mono ?_; rintro en x2 ⟨rfl, k2⟩
         have l2 := Nat.lt_of_lt_of_le HK9.out.lt M1.out.size
         have e0 := (k2.cell (p := ⟨w3.heap.size, 0, none⟩) l2).trans d0
         have e1 := (k2.cell (p := ⟨w3.heap.size, 1, none⟩) l2).trans d1
         have e2 := (k2.cell (p := ⟨w3.heap.size, 2, none⟩) l2).trans d2
         have e3 := (k2.cell (p := ⟨w3.heap.size, 3, none⟩) l2).trans d3
         have e4 := (k2.cell (p := ⟨w3.heap.size, 4, none⟩) l2).trans d4
         have M2 := Lib.hid (M1.out.trans (k2.mono M1.out.size))
         clear k2)
      | fail)
    rename_i hHeld
    clear hHeld c0 c1 c2 c3 c4 d0 d1 d2 d3 d4 e0 e1 e2 e3 e4
    have HF := Lib.hid (B9.out.trans (M2.out.mono B9.out.size))
    go_wp2
    go_ret
    exact ⟨rfl, HF.out⟩
theorem lawSlotsSpoilt_w (v : Value) (l : List Scu.Raw) {w : World} (h : IsRaws w w.heap.size v l) (n : Int) (hn : (Lit.int .i64 n).wf = true) (at_ : Int) (hat : (Lit.int .i64 at_).wf = true) (by_ : Int) (hby : (Lit.int .u8 by_).wf = true) (W : World) (hW : W = w) (ht : Tab W) :
    Calls Tryd.prog 6 #[v, .int .i64 n, .int .i64 at_, .int .u8 by_] W fun e w' => e = .returned (.bool true) ∧ Below W.heap.size W w' := by
  subst hW
  refine lawSlotsSpoilt_c v l n at_ by_ (ini_of hn) (ini_of hat) ?_ W h ht
  have h' : IntKind.u8.min ≤ by_ ∧ by_ ≤ IntKind.u8.max := by simpa [Lit.wf] using hby
  have hm : IntKind.u8.min = 0 := by decide
  have hm2 : IntKind.u8.max = 255 := by decide
  omega
end Go.Proofs.YtfpiembhlgcelaaDoor
namespace Go.Proofs.YtfpiembhlgcelaaDoor.slotsSpoiltDone
open Go.ChangeShapes Go.WideShapes Go.ChangeAt Go.RowKit
open Go.ChangeMaps (open_string shut_string)
set_option linter.unusedVariables false
theorem own : ownKnob Tryd.prog.godebug = none := by kernel_rfl
theorem laidOut : laidOutB Tryd.prog = true := by kernel_rfl
set_option maxRecDepth 100000 in
theorem lifted (os : Os) (started : os.Started) (H : Type) (enc : TypeId × Value → H) :
    ReturnsInHanded {} Tryd.checked os 6 .any (fun w args => (Rows.slotsSpoiltSpec.pre enc Tryd.prog Tryd.f6 [] false w args ∧ laidMetH Tryd.prog Rows.slotsSpoiltRow.laid w) ∧ sizedMet enc Tryd.prog Tryd.f6 (OpenSpec.ofChange Rows.slotsSpoiltSpec) false w args)
      (Rows.slotsSpoiltSpec.post enc Tryd.prog Tryd.f6 false true false false) := by
  refine returnsInHanded_of_change_and (C := Tryd.checked) (X := fun w _ => laidMetH Tryd.prog Rows.slotsSpoiltRow.laid w) (fun _ _ _ hh h => h.of_heap hh) own started (by kernel_rfl) Tryd.func6
    (ChangeSpec.witness_shaped (enc := enc) (C := Tryd.checked) (os := os) (X := fun w _ => laidMetH Tryd.prog Rows.slotsSpoiltRow.laid w) false (World.doorLaid Tryd.prog doorFuel os) #[.slice none 0 0, .int .i64 0, .int .i64 0, .int .u8 0] 8 rfl (door_shaped os _) (by kernel_rfl) (by kernel_rfl) (by kernel_rfl) (door_met os _)) ?_
  intro W base args ds gs before hval0 hW _ hsz hL _
  have htab := tab_of hL
  have hwt0 : ∀ (j : Nat) (t : TypeId) (d : DataW H), (Tryd.f6.params.toList ++ Rows.slotsSpoiltSpec.plain.varTypes Tryd.prog)[j]? = some t → (ds ++ gs)[j]? = some d → ∀ k ∈ d.weights Tryd.prog t, k ≤ reachBytes := fun j t d ht hd k hk => by
    have := List.all_eq_true.1 hsz k (DataW.weights_mem_each ht hd k hk)
    simpa using this
  clear hsz hL
  have hwt := hwt0
  rw [Tryd.params6] at hwt
  have hval : ∀ (j : Nat) t v, Tryd.f6.params[j]? = some t → args[j]? = some v → Value.okWide Tryd.prog W .any base t v := hval0
  have hW' := hW
  obtain ⟨p, q, hA0, hV, rfl, hfz, hnd⟩ := hW
  have hA : DataW.TrodAll enc Tryd.prog W 0 (fun _ => true) true Tryd.f6.params.toList args.toList ds p := hA0
  rw [Tryd.params6] at hA hval
  obtain ⟨v0, vs0, d0, ds0, p0, q0, hargs, rfl, rfl, h0, r0⟩ := trodAll_cons hA
  obtain ⟨v1, vs1, d1, ds1, p1, q1, rfl, rfl, rfl, h1, r1⟩ := trodAll_cons r0
  obtain ⟨v2, vs2, d2, ds2, p2, q2, rfl, rfl, rfl, h2, r2⟩ := trodAll_cons r1
  obtain ⟨v3, vs3, d3, ds3, p3, q3, rfl, rfl, rfl, h3, r3⟩ := trodAll_cons r2
  obtain ⟨rfl, rfl, rfl⟩ := trodAll_nil r3
  obtain rfl : args = #[v0, v1, v2, v3] := by cases args; simp_all
  obtain ⟨rfl, rfl⟩ := trodVars_none hV
  have k0 := h0
  have lt0 : ∀ x ∈ p0, x.block < W.heap.size := by obtain ⟨m, hm⟩ := k0; exact DataW.trod_lt m _ _ _ hm
  obtain ⟨a0, w0⟩ := openS_Raws (hval 0 22 v0 rfl rfl) h0 (hwt 0 22 d0 rfl rfl)
  have k1 := h1
  have lt1 : ∀ x ∈ p1, x.block < W.heap.size := by obtain ⟨m, hm⟩ := k1; exact DataW.trod_lt m _ _ _ hm
  obtain ⟨a1, hv1, hd1, hp1, w1⟩ := open_int Tryd.underlying3 (hval 1 3 v1 rfl rfl) h1
  subst hv1
  have k2 := h2
  have lt2 : ∀ x ∈ p2, x.block < W.heap.size := by obtain ⟨m, hm⟩ := k2; exact DataW.trod_lt m _ _ _ hm
  obtain ⟨a2, hv2, hd2, hp2, w2⟩ := open_int Tryd.underlying3 (hval 2 3 v2 rfl rfl) h2
  subst hv2
  have k3 := h3
  have lt3 : ∀ x ∈ p3, x.block < W.heap.size := by obtain ⟨m, hm⟩ := k3; exact DataW.trod_lt m _ _ _ hm
  obtain ⟨a3, hv3, hd3, hp3, w3⟩ := open_int Tryd.underlying5 (hval 3 5 v3 rfl rfl) h3
  subst hv3
  clear hA0 hval0
  refine (lawSlotsSpoilt_w v0 a0 w0 a1 w1 a2 w2 a3 w3 W rfl htab).mono fun e W' ⟨he, bel⟩ => ?_
  subst he
  exact ⟨_, rfl, _, _, _, [], _, [], hW', trodAll_mk1 (shut_bool Tryd.underlying4 _), (trodAll_cons_mk (Below.trod laidOut (by kernel_rfl) (of_decide_eq_true (by kernel_rfl)) k0 bel lt0) (trodAll_cons_mk (Below.trod laidOut (by kernel_rfl) (of_decide_eq_true (by kernel_rfl)) k1 bel lt1) (trodAll_cons_mk (Below.trod laidOut (by kernel_rfl) (of_decide_eq_true (by kernel_rfl)) k2 bel lt2) (trodAll_cons_mk (Below.trod laidOut (by kernel_rfl) (of_decide_eq_true (by kernel_rfl)) k3 bel lt3) trodAll_mk0)))), rfl, bel.frame _, fun h => by cases h⟩
theorem over : Rows.SlotsSpoiltSaid :=
  OpenClaim.holds_of_wide 6 Tryd.f6 rfl rfl rfl rfl rfl rfl rfl ⟨rfl, rfl, rfl, rfl, rfl⟩ rfl rfl rfl rfl rfl (by kernel_rfl) Tryd.func6 (facts_of rfl rfl rfl rfl rfl rfl (by as_aux_lemma => kernel_rfl) (by as_aux_lemma => kernel_rfl) (by as_aux_lemma => kernel_rfl) (by as_aux_lemma => kernel_rfl) (by as_aux_lemma => kernel_rfl) (by as_aux_lemma => kernel_rfl) (by as_aux_lemma => kernel_rfl))
    (of_decide_eq_true (by kernel_rfl)) (by unfold Func.isWrapper; first | (rw [if_pos (by decide +kernel)]; kernel_rfl) | (rw [if_neg (by decide +kernel)]; exact ⟨rfl, rfl⟩))
    (fun os started H enc _ => lifted os started H enc)
theorem proved : Rows.SlotsSpoiltCardSaid :=
  Claim7.holds_tied_plain_at .later [] [.data, .data, .data] true Rows.slotsSpoiltCard.stood.harness false
    over (fun _ h => by cases h) (by kernel_rfl) (fun _ h => by cases h) slotsSpoilt_row_tie rfl ⟨rfl, rfl⟩ (by kernel_rfl) rfl
    (fun f fn hf hfn => by
      obtain rfl : f = 6 := Option.some.inj ((show Tryd.prog.funcNamed Rows.slotsSpoiltRow.func = some 6 by kernel_rfl).symm.trans hf) |>.symm
      obtain rfl : fn = Tryd.f6 := (Option.some.inj (Tryd.func6.symm.trans hfn)).symm
      exact ⟨by kernel_rfl, fun j t ht => by
        rw [Tryd.params6] at ht
        have hm : t ∈ [22, 3, 3, 5] := by simpa using Array.mem_of_getElem? ht
        have hall : ([22, 3, 3, 5].all fun u => !Tryd.prog.wantsStandIn u) = true := by kernel_rfl
        exact (show Tryd.prog.wantsStandIn t = false by simpa using List.all_eq_true.1 hall t hm)⟩)
    (by kernel_rfl)
end Go.Proofs.YtfpiembhlgcelaaDoor.slotsSpoiltDone

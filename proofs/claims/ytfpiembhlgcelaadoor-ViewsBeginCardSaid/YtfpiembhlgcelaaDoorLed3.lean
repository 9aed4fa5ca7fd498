/- Part 3: words and walks under the law 'LeadersLead'. -/
import Derived.Test.YtfpiembhlgcelaaDoorLed1
import Derived.Test.YtfpiembhlgcelaaDoorLed2
import Derived.Test.YtfpiembhlgcelaaDoorChecked
import Derived.WalkKit
import Derived.WalkLawsBesides
import Derived.WalkSpells
import Derived.Deep.QuietTactic
import Derived.BigQuiet
import Derived.Lib.Hide
import Derived.Handy
import Derived.WalkSmall
import Derived.Deep.RegionWith
import Derived.Deep.RegionHeld3
import Derived.StillTailTactics
set_option linter.unusedVariables false
set_option linter.unusedSimpArgs false
namespace Scu

def L (s : Str) : List UInt8 := s.data.toList
theorem L_ext {s t : Str} (h : L s = L t) : s = t := by
  apply ByteArray.ext
  exact Array.toList_inj.1 h
theorem L_append (s t : Str) : L (s ++ t) = L s ++ L t := by
  simp [L, ByteArray.data_append]
theorem L_size (s : Str) : (L s).length = s.size := by simp [L]
theorem L_str0 : L str0 = [] := rfl
theorem L_mk (l : List UInt8) : L ⟨l.toArray⟩ = l := rfl
theorem L_extract (s : Str) (a b : Nat) : L (s.extract a b) = ((L s).drop a).take (b - a) := by
  simp [L, ByteArray.data_extract]
theorem L_dropS (s : Str) (k : Nat) : L (dropS s k) = (L s).drop k := by
  unfold dropS
  rw [L_extract, List.take_of_length_le (by rw [List.length_drop, L_size]; omega)]
theorem size_zero_iff (s : Str) : s.size = 0 ↔ s = str0 := by
  constructor
  · intro h
    apply L_ext
    rw [L_str0]
    exact List.length_eq_zero_iff.1 (by rw [L_size]; exact h)
  · rintro rfl; rfl
theorem str0_append (s : Str) : str0 ++ s = s := L_ext (by rw [L_append, L_str0, List.nil_append])
theorem append_str0 (s : Str) : s ++ str0 = s := L_ext (by rw [L_append, L_str0, List.append_nil])
theorem append_assoc_s (a b c : Str) : a ++ b ++ c = a ++ (b ++ c) := L_ext (by simp only [L_append, List.append_assoc])
theorem dropS_append (a b : Str) : dropS (a ++ b) a.size = b := L_ext (by rw [L_dropS, L_append, ← L_size, List.drop_left])
theorem extract_append (a b : Str) : (a ++ b).extract 0 a.size = a := L_ext (by rw [L_extract, L_append, ← L_size]; simp)
theorem byteAt_L (s : Str) (i : Nat) : byteAt s i = (((L s).getD i 0).toNat : Int) := rfl
theorem byteAt_append_lt (a b : Str) (i : Nat) (h : i < a.size) : byteAt (a ++ b) i = byteAt a i := by
  rw [byteAt_L, byteAt_L, L_append]
  simp [List.getElem?_append_left (by rw [L_size]; exact h : i < (L a).length)]
theorem byteAt_range (s : Str) (i : Nat) : 0 ≤ byteAt s i ∧ byteAt s i < 256 := by
  unfold byteAt
  have := (s.data.toList.getD i 0).toNat_lt
  omega
theorem b8_toNat (n : Int) : ((b8 n).toNat : Int) = n % 256 := by
  unfold b8
  rw [UInt8.toNat_ofNat']
  omega
theorem b8_of_byte (x : UInt8) : b8 (x.toNat : Int) = x := by
  apply UInt8.toNat_inj.1
  have := b8_toNat (x.toNat : Int)
  have := x.toNat_lt
  omega

theorem numBytes_size (n : Int) : (numBytes n).size = 4 := rfl
theorem num4_range (s : Str) : 0 ≤ num4 s ∧ num4 s < 4294967296 := by
  unfold num4
  have := byteAt_range s 0; have := byteAt_range s 1; have := byteAt_range s 2; have := byteAt_range s 3
  omega
theorem num4_numBytes (n : Int) (t : Str) (h0 : 0 ≤ n) (h1 : n ≤ 1073741824) : num4 (numBytes n ++ t) = n := by
  unfold num4
  rw [byteAt_append_lt _ _ 0 (by rw [numBytes_size]; omega), byteAt_append_lt _ _ 1 (by rw [numBytes_size]; omega), byteAt_append_lt _ _ 2 (by rw [numBytes_size]; omega), byteAt_append_lt _ _ 3 (by rw [numBytes_size]; omega)]
  have e0 : byteAt (numBytes n) 0 = (n / 16777216) % 256 := b8_toNat _
  have e1 : byteAt (numBytes n) 1 = (n / 65536) % 256 := b8_toNat _
  have e2 : byteAt (numBytes n) 2 = (n / 256) % 256 := b8_toNat _
  have e3 : byteAt (numBytes n) 3 = n % 256 := b8_toNat _
  rw [e0, e1, e2, e3]
  omega
theorem readNumber_numBytes (n : Int) (t : Str) (h0 : 0 ≤ n) (h1 : n ≤ 1073741824) : readNumber (numBytes n ++ t) = (n, t, 0) := by
  unfold readNumber
  rw [if_neg (by rw [ByteArray.size_append, numBytes_size]; omega), num4_numBytes n t h0 h1, if_neg (by omega)]
  have : dropS (numBytes n ++ t) 4 = t := dropS_append (numBytes n) t
  rw [this]
theorem textBytes_size (s : Str) : (textBytes s).size = 1 + s.size := by
  unfold textBytes
  rw [ByteArray.size_append]
  rfl
theorem byteAt_textBytes (s t : Str) (h : s.size ≤ 255) : byteAt (textBytes s ++ t) 0 = s.size := by
  rw [byteAt_append_lt _ _ 0 (by rw [textBytes_size]; omega)]
  unfold textBytes
  have e1 : byteAt ((⟨#[b8 (s.size : Int)]⟩ : Str) ++ s) 0 = byteAt (⟨#[b8 (s.size : Int)]⟩ : Str) 0 := byteAt_append_lt _ _ 0 (show 0 < 1 by omega)
  rw [e1]
  have : byteAt (⟨#[b8 (s.size : Int)]⟩ : Str) 0 = (s.size : Int) % 256 := b8_toNat _
  rw [this]
  omega
theorem readText_textBytes (s t : Str) (h : s.size ≤ 255) : readText (textBytes s ++ t) = (s, t, 0) := by
  unfold readText
  have hsz : (textBytes s ++ t).size = 1 + s.size + t.size := by rw [ByteArray.size_append, textBytes_size]
  rw [if_neg (by rw [hsz]; omega), byteAt_textBytes s t h, if_neg (by rw [hsz]; omega), show (1 + (s.size : Int)).toNat = 1 + s.size from by omega]
  have h1 : dropS (textBytes s ++ t) (1 + s.size) = t := by
    have := dropS_append (textBytes s) t
    rwa [textBytes_size] at this
  have h2 : (textBytes s ++ t).extract 1 (1 + s.size) = s := by
    apply L_ext
    rw [L_extract, L_append]
    unfold textBytes
    rw [L_append, L_mk]
    simp [← L_size]
  rw [h1, h2]

/- what begins so -/
def Pre (p s : Str) : Prop := L p <+: L s
theorem Pre.size {p s : Str} (h : Pre p s) : p.size ≤ s.size := by
  have := List.IsPrefix.length_le h
  rwa [L_size, L_size] at this
theorem Pre.split {p a b : Str} (h : Pre p (a ++ b)) (hs : a.size ≤ p.size) : ∃ q, p = a ++ q ∧ Pre q b := by
  unfold Pre at h
  rw [L_append] at h
  have ha : L a <+: L p := List.prefix_of_prefix_length_le (List.prefix_append _ _) h (by rw [L_size, L_size]; exact hs)
  obtain ⟨t, ht⟩ := ha
  refine ⟨⟨t.toArray⟩, L_ext (by rw [L_append, L_mk]; exact ht.symm), ?_⟩
  unfold Pre
  rw [L_mk]
  rw [← ht] at h
  exact (List.prefix_append_right_inj (L a)).1 h
theorem Pre.byte {p a : Str} (h : Pre p a) (i : Nat) (hi : i < p.size) : byteAt p i = byteAt a i := by
  obtain ⟨t, ht⟩ := h
  rw [byteAt_L, byteAt_L, ← ht]
  simp [List.getElem?_append_left (by rw [L_size]; exact hi : i < (L p).length)]

theorem readNumbers_numBytes : ∀ (l : List Int) (t : Str), (∀ n ∈ l, 0 ≤ n ∧ n ≤ 1073741824) → readNumbers l.length (catS (l.map numBytes) ++ t) = (l, t, 0)
  | [], t, _ => by simp [readNumbers, catS, str0_append]
  | n :: l, t, h => by
    have ih := readNumbers_numBytes l t (fun m hm => h m (List.mem_cons_of_mem _ hm))
    have hn := h n List.mem_cons_self
    simp only [List.length_cons, List.map_cons, catS, readNumbers]
    rw [append_assoc_s, readNumber_numBytes n _ hn.1 hn.2]
    simp [ih]
theorem readTexts_textBytes : ∀ (l : List Str) (t : Str), (∀ s ∈ l, s.size ≤ 255) → readTexts l.length (catS (l.map textBytes) ++ t) = (l, t, 0)
  | [], t, _ => by simp [readTexts, catS, str0_append]
  | s :: l, t, h => by
    have ih := readTexts_textBytes l t (fun m hm => h m (List.mem_cons_of_mem _ hm))
    have hn := h s List.mem_cons_self
    simp only [List.length_cons, List.map_cons, catS, readTexts]
    rw [append_assoc_s, readText_textBytes s _ hn]
    simp [ih]
/-- texts that are cut short are not read -/
theorem readTexts_cut : ∀ (l : List Str) (p : Str), (∀ s ∈ l, s.size ≤ 255) → Pre p (catS (l.map textBytes)) → p.size < (catS (l.map textBytes)).size →
    (readTexts l.length p).2.2 ≠ 0
  | [], p, _, _, hlt => by simp [catS, str0] at hlt
  | s :: l, p, h, hp, hlt => by
    have hs := h s List.mem_cons_self
    simp only [List.length_cons, List.map_cons, catS, readTexts] at hp hlt ⊢
    by_cases hsz : (textBytes s).size ≤ p.size
    · obtain ⟨q, rfl, hq⟩ := hp.split hsz
      rw [readText_textBytes s q hs]
      have hlt' : q.size < (catS (l.map textBytes)).size := by rw [ByteArray.size_append, ByteArray.size_append] at hlt; omega
      have := readTexts_cut l q (fun m hm => h m (List.mem_cons_of_mem _ hm)) hq hlt'
      simp [this]
    · have hr : (readText p).2.2 = 5 := by
        unfold readText
        rw [textBytes_size] at hsz
        by_cases h0 : p.size = 0
        · rw [if_pos h0]
        · rw [if_neg h0]
          have hb : byteAt p 0 = s.size := by rw [hp.byte 0 (by omega), byteAt_textBytes s _ hs]
          rw [hb, if_pos (by omega)]
      simp [hr]
/-- numbers that are cut short are not read -/
theorem readNumbers_cut : ∀ (l : List Int) (p t : Str), (∀ n ∈ l, 0 ≤ n ∧ n ≤ 1073741824) → Pre p (catS (l.map numBytes) ++ t) → p.size < 4 * l.length →
    (readNumbers l.length p).2.2 ≠ 0
  | [], p, t, _, _, hlt => by simp at hlt
  | n :: l, p, t, h, hp, hlt => by
    have hn := h n List.mem_cons_self
    simp only [List.length_cons, List.map_cons, catS, readNumbers] at hp hlt ⊢
    rw [append_assoc_s] at hp
    by_cases hsz : (numBytes n).size ≤ p.size
    · obtain ⟨q, rfl, hq⟩ := hp.split hsz
      rw [readNumber_numBytes n q hn.1 hn.2]
      have hlt' : q.size < 4 * l.length := by rw [ByteArray.size_append, numBytes_size] at hlt; omega
      have := readNumbers_cut l q t (fun m hm => h m (List.mem_cons_of_mem _ hm)) hq hlt'
      simp [this]
    · have hr : (readNumber p).2.2 = 5 := by
        unfold readNumber
        rw [numBytes_size] at hsz
        rw [if_pos (by omega)]
      simp [hr]

/- entries -/
theorem readText_rest (s : Str) (h : (readText s).2.2 = 0) : (readText s).1.size ≤ 255 := by
  unfold readText at h ⊢
  split
  · rename_i hx; rw [if_pos hx] at h; simp at h
  rename_i hx; rw [if_neg hx] at h
  split
  · rename_i hx; rw [if_pos hx] at h; simp at h
  · have := byteAt_range s 0
    simp only [ByteArray.size_extract]
    omega
theorem decode_size {s : Str} (h : (decode s).2 = 0) : s.size ≤ 40 := by
  unfold decode at h
  split at h
  · simp at h
  · omega
theorem opFault_ok {o : Op} (h : opFault o = 0) : 1 ≤ o.kind ∧ o.kind ≤ 4 ∧ 0 ≤ o.at_ ∧ o.at_ < 6 ∧ 0 ≤ o.snap ∧ o.snap ≤ 3 ∧ o.data.size ≤ 8 ∧
    (o.kind ≠ 3 → o.snap = 0) ∧ (o.kind = 4 → o.at_ = 0) ∧ (o.kind ≠ 1 → o.data = str0) := by
  unfold opFault at h
  split at h
  · omega
  split at h
  · omega
  split at h
  · omega
  split at h
  · omega
  rename_i h1 h2 h3 h4
  refine ⟨by omega, by omega, by omega, by omega, by omega, by omega, by omega, by omega, by omega, fun hk => ?_⟩
  apply (size_zero_iff _).1
  omega
theorem reqFault_ok {r : Request} (h : reqFault r = 0) : 1 ≤ r.client ∧ r.client ≤ 4 ∧ 1 ≤ r.num ∧ r.num ≤ 1048576 ∧ opFault r.op = 0 := by
  unfold reqFault at h
  split at h
  · omega
  · exact ⟨by omega, by omega, by omega, by omega, h⟩
theorem reqBytes_size (r : Request) : (reqBytes r).size = 9 + r.op.data.size := by
  unfold reqBytes
  rw [ByteArray.size_append, ByteArray.size_append, numBytes_size, textBytes_size]
  show 4 + 4 + _ = _
  omega
/-- a request is read as it was written -/
theorem decode_reqBytes {r : Request} (h : reqFault r = 0) : decode (reqBytes r) = (r, 0) := by
  obtain ⟨h1, h2, h3, h4, h5⟩ := reqFault_ok h
  obtain ⟨o1, o2, o3, o4, o5, o6, o7, o8, o9, o10⟩ := opFault_ok h5
  have hsz := reqBytes_size r
  have hd : dropS (reqBytes r) 4 = numBytes r.num ++ (textBytes r.op.data ++ str0) := by
    have := dropS_append (⟨#[b8 r.client, b8 r.op.kind, b8 r.op.at_, b8 r.op.snap]⟩ : Str) (numBytes r.num ++ textBytes r.op.data)
    unfold reqBytes
    rw [append_assoc_s, append_str0]
    exact this
  have hb : ∀ i, i < 4 → byteAt (reqBytes r) i = byteAt (⟨#[b8 r.client, b8 r.op.kind, b8 r.op.at_, b8 r.op.snap]⟩ : Str) i := fun i hi => by
    unfold reqBytes
    rw [append_assoc_s]
    exact byteAt_append_lt _ _ i hi
  have b0 : byteAt (reqBytes r) 0 = r.client := by
    rw [hb 0 (by omega)]
    have : byteAt (⟨#[b8 r.client, b8 r.op.kind, b8 r.op.at_, b8 r.op.snap]⟩ : Str) 0 = r.client % 256 := b8_toNat _
    omega
  have b1 : byteAt (reqBytes r) 1 = r.op.kind := by
    rw [hb 1 (by omega)]
    have : byteAt (⟨#[b8 r.client, b8 r.op.kind, b8 r.op.at_, b8 r.op.snap]⟩ : Str) 1 = r.op.kind % 256 := b8_toNat _
    omega
  have b2 : byteAt (reqBytes r) 2 = r.op.at_ := by
    rw [hb 2 (by omega)]
    have : byteAt (⟨#[b8 r.client, b8 r.op.kind, b8 r.op.at_, b8 r.op.snap]⟩ : Str) 2 = r.op.at_ % 256 := b8_toNat _
    omega
  have b3 : byteAt (reqBytes r) 3 = r.op.snap := by
    rw [hb 3 (by omega)]
    have : byteAt (⟨#[b8 r.client, b8 r.op.kind, b8 r.op.at_, b8 r.op.snap]⟩ : Str) 3 = r.op.snap % 256 := b8_toNat _
    omega
  unfold decode
  rw [if_neg (by omega), if_neg (by omega), hd, readNumber_numBytes _ _ (by omega) (by omega)]
  simp only [ne_eq, not_true_eq_false, if_false]
  rw [readText_textBytes _ _ (by omega), b0, b1, b2, b3]
  simp [h]

theorem logFault_ok : ∀ {l : List Str}, logFault l = 0 → ∀ e ∈ l, (decode e).2 = 0
  | [], _, _, he => by simp at he
  | x :: l, h, e, he => by
    unfold logFault at h
    split at h
    · exact absurd h (by assumption)
    · rcases List.mem_cons.1 he with rfl | he
      · omega
      · exact logFault_ok h e he
theorem logFault_mk : ∀ {l : List Str}, (∀ e ∈ l, (decode e).2 = 0) → logFault l = 0
  | [], _ => rfl
  | x :: l, h => by
    unfold logFault
    rw [if_neg (by have := h x List.mem_cons_self; omega)]
    exact logFault_mk fun e he => h e (List.mem_cons_of_mem _ he)
theorem keptFault_ok {k : Kept} (h : keptFault k = 0) : 0 ≤ k.view ∧ k.view ≤ 1048576 ∧ 0 ≤ k.normal ∧ k.normal ≤ k.view ∧ (k.calm = true → k.normal = k.view) ∧
    k.log.length ≤ 60 ∧ 0 ≤ k.commit ∧ k.commit ≤ k.log.length ∧ ∀ e ∈ k.log, (decode e).2 = 0 := by
  unfold keptFault at h
  split at h
  · omega
  split at h
  · omega
  split at h
  · omega
  rename_i h1 h2 h3
  refine ⟨by omega, by omega, by omega, by omega, fun hc => ?_, by omega, by omega, by omega, logFault_ok h⟩
  apply Classical.byContradiction
  intro hn
  exact h1 (.inr (.inr (.inr (.inr ⟨hc, hn⟩))))
theorem keptFault_mk {k : Kept} (h1 : 0 ≤ k.view) (h2 : k.view ≤ 1048576) (h3 : 0 ≤ k.normal) (h4 : k.normal ≤ k.view) (h5 : k.calm = true → k.normal = k.view)
    (h6 : k.log.length ≤ 60) (h7 : 0 ≤ k.commit) (h8 : k.commit ≤ k.log.length) (h9 : ∀ e ∈ k.log, (decode e).2 = 0) : keptFault k = 0 := by
  unfold keptFault
  rw [if_neg, if_neg (by omega), if_neg (by omega)]
  · exact logFault_mk h9
  · rintro (h | h | h | h | ⟨h, h'⟩)
    · omega
    · omega
    · omega
    · omega
    · exact h' (h5 h)

/- four bytes of a sum -/
theorem sealStep_bd (p : Int × Int) (b : UInt8) (_h : 0 ≤ p.1 ∧ 0 ≤ p.2) : 0 ≤ (sealStep p b).1 ∧ (sealStep p b).1 < 65521 ∧ 0 ≤ (sealStep p b).2 ∧ (sealStep p b).2 < 65521 := by
  unfold sealStep
  simp only
  omega
theorem sealXY_bd (l : List UInt8) : 0 ≤ (sealXY l).1 ∧ (sealXY l).1 < 65521 ∧ 0 ≤ (sealXY l).2 ∧ (sealXY l).2 < 65521 := by
  unfold sealXY
  have : ∀ (l : List UInt8) (p : Int × Int), (0 ≤ p.1 ∧ p.1 < 65521 ∧ 0 ≤ p.2 ∧ p.2 < 65521) → (0 ≤ (l.foldl sealStep p).1 ∧ (l.foldl sealStep p).1 < 65521 ∧ 0 ≤ (l.foldl sealStep p).2 ∧ (l.foldl sealStep p).2 < 65521) := by
    intro l
    induction l with
    | nil => intro p h; exact h
    | cons b l ih => intro p h; exact ih _ (sealStep_bd p b ⟨h.1, h.2.2.1⟩)
  exact this l (1, 0) (by simp)
def total (l : List UInt8) : Nat := (l.map UInt8.toNat).sum
theorem sealXY_x (l : List UInt8) : (sealXY l).1 = (1 + (total l : Int)) % 65521 := by
  unfold sealXY
  have : ∀ (l : List UInt8) (p : Int × Int), (0 ≤ p.1 ∧ p.1 < 65521) → (l.foldl sealStep p).1 = (p.1 + (total l : Int)) % 65521 := by
    intro l
    induction l with
    | nil => intro p h; simp [total]; omega
    | cons b l ih =>
      intro p h
      rw [List.foldl_cons, ih _ (by unfold sealStep; simp only; omega)]
      have e : (total (b :: l) : Int) = b.toNat + (total l : Int) := by simp [total]
      rw [e]
      unfold sealStep
      simp only
      omega
  exact this l (1, 0) (by simp)
theorem sealS_size (s : Str) : (sealS s).size = 4 := rfl
theorem sealS_inj_x {s t : Str} (h : sealS s = sealS t) : (sealXY (L s)).1 = (sealXY (L t)).1 := by
  have hs := sealXY_bd (L s)
  have ht := sealXY_bd (L t)
  have h2 : byteAt (sealS s) 2 = byteAt (sealS t) 2 := by rw [h]
  have h3 : byteAt (sealS s) 3 = byteAt (sealS t) 3 := by rw [h]
  have e2 : ∀ u : Str, byteAt (sealS u) 2 = ((sealXY (L u)).1 / 256) % 256 := fun u => b8_toNat _
  have e3 : ∀ u : Str, byteAt (sealS u) 3 = (sealXY (L u)).1 % 256 := fun u => b8_toNat _
  rw [e2, e2] at h2
  rw [e3, e3] at h3
  omega

/- what is kept -/
theorem catS_append (a b : List Str) : catS (a ++ b) = catS a ++ catS b := by
  induction a with
  | nil => simp [catS, str0_append]
  | cons x a ih => simp [catS, ih, append_assoc_s]
def nums (k : Kept) (gen : Int) : List Int := [gen, k.view, k.normal, if k.calm then 1 else 0, k.commit, k.log.length]
theorem keptBody_eq (k : Kept) (gen : Int) : keptBody k gen = catS ((nums k gen).map numBytes) ++ catS (k.log.map textBytes) := by
  unfold keptBody nums
  simp only [List.map_cons, List.map_nil, catS, append_assoc_s, str0_append]
theorem nums_bd {k : Kept} (h : keptFault k = 0) {gen : Int} (h0 : 0 ≤ gen) (h1 : gen ≤ 1073741824) : ∀ n ∈ nums k gen, 0 ≤ n ∧ n ≤ 1073741824 := by
  obtain ⟨k1, k2, k3, k4, k5, k6, k7, k8, k9⟩ := keptFault_ok h
  intro n hn
  simp only [nums, List.mem_cons, List.not_mem_nil, or_false] at hn
  rcases hn with rfl | rfl | rfl | rfl | rfl | rfl
  · omega
  · omega
  · omega
  · split <;> omega
  · omega
  · omega
theorem catS_nums_size (l : List Int) : (catS (l.map numBytes)).size = 4 * l.length := by
  induction l with
  | nil => rfl
  | cons n l ih => simp only [List.map_cons, catS, ByteArray.size_append, ih, numBytes_size, List.length_cons]; omega
theorem catS_texts_size (l : List Str) (h : ∀ s ∈ l, s.size ≤ 40) : (catS (l.map textBytes)).size ≤ 41 * l.length := by
  induction l with
  | nil => simp [catS, str0]
  | cons s l ih =>
    have := ih (fun x hx => h x (List.mem_cons_of_mem _ hx))
    have := h s List.mem_cons_self
    simp only [List.map_cons, catS, ByteArray.size_append, textBytes_size, List.length_cons]; omega
theorem log_small {k : Kept} (h : keptFault k = 0) : ∀ s ∈ k.log, s.size ≤ 40 := fun s hs => decode_size ((keptFault_ok h).2.2.2.2.2.2.2.2 s hs)
theorem keptBody_size {k : Kept} (h : keptFault k = 0) (gen : Int) : 24 ≤ (keptBody k gen).size ∧ (keptBody k gen).size ≤ 2484 := by
  rw [keptBody_eq, ByteArray.size_append, catS_nums_size]
  have := catS_texts_size k.log (log_small h)
  have := (keptFault_ok h).2.2.2.2.2.1
  simp only [nums, List.length_cons, List.length_nil]
  omega
theorem keptBytes_size {k : Kept} (h : keptFault k = 0) (gen : Int) : 28 ≤ (keptBytes k gen).size ∧ (keptBytes k gen).size ≤ 2488 := by
  unfold keptBytes
  rw [ByteArray.size_append, sealS_size]
  have := keptBody_size h gen
  omega
/-- WHAT IS KEPT IS READ AS IT WAS WRITTEN -/
theorem stageDecode_keptBytes {k : Kept} (h : keptFault k = 0) {gen : Int} (h0 : 0 ≤ gen) (h1 : gen ≤ 1073741824) : stageDecode (keptBytes k gen) = (k, gen, 0) := by
  have hsz := keptBytes_size h gen
  have hk := keptFault_ok h
  unfold stageDecode
  have hd : dropS (keptBytes k gen) 4 = keptBody k gen := dropS_append (sealS (keptBody k gen)) _
  have he : (keptBytes k gen).extract 0 4 = sealS (keptBody k gen) := extract_append (sealS (keptBody k gen)) _
  rw [if_neg (by omega), if_neg (by omega), hd, he, if_neg (by simp), keptBody_eq]
  have hn := readNumbers_numBytes (nums k gen) (catS (k.log.map textBytes)) (nums_bd h h0 h1)
  have hn' : readNumbers 6 (catS ((nums k gen).map numBytes) ++ catS (k.log.map textBytes)) = (nums k gen, catS (k.log.map textBytes), 0) := hn
  have ht := readTexts_textBytes k.log str0 (fun s hs => by have := log_small h s hs; omega)
  rw [append_str0] at ht
  rw [hn']
  have n3 : (nums k gen).getD 3 0 = if k.calm then 1 else 0 := rfl
  have n5 : (nums k gen).getD 5 0 = (k.log.length : Int) := rfl
  have n0 : (nums k gen).getD 0 0 = gen := rfl
  have n1 : (nums k gen).getD 1 0 = k.view := rfl
  have n2 : (nums k gen).getD 2 0 = k.normal := rfl
  have n4 : (nums k gen).getD 4 0 = k.commit := rfl
  simp only [ne_eq, not_true_eq_false, if_false, n0, n1, n2, n3, n4, n5, Int.toNat_natCast, ht]
  rw [if_neg (by rw [not_or]; refine ⟨by split <;> omega, by omega⟩)]
  have hc : ((if k.calm = true then (1 : Int) else 0) == 1) = k.calm := by cases k.calm <;> rfl
  rw [hc]
  have hkk : (⟨k.view, k.normal, k.calm, k.log, k.commit⟩ : Kept) = k := rfl
  rw [hkk]
  simp [h]
/-- what is torn is not read -/
theorem stageDecode_cut {k : Kept} (h : keptFault k = 0) {gen : Int} (h0 : 0 ≤ gen) (h1 : gen ≤ 1073741824) {p : Str} (hp : Pre p (keptBytes k gen))
    (hlt : p.size < (keptBytes k gen).size) : (stageDecode p).2.2 ≠ 0 := by
  have hsz := keptBytes_size h gen
  have hk := keptFault_ok h
  unfold stageDecode
  split
  · simp
  split
  · simp
  rename_i hs1 hs2
  split
  · simp
  obtain ⟨q, rfl, hq⟩ := Pre.split (a := sealS (keptBody k gen)) hp (by rw [sealS_size]; omega)
  have hd : dropS (sealS (keptBody k gen) ++ q) 4 = q := dropS_append (sealS (keptBody k gen)) _
  rw [hd]
  have hql : q.size < (keptBody k gen).size := by
    unfold keptBytes at hlt
    rw [ByteArray.size_append, ByteArray.size_append] at hlt
    omega
  rw [keptBody_eq] at hq hql
  have hbd := nums_bd h h0 h1
  by_cases h24 : q.size < 24
  · have := readNumbers_cut (nums k gen) q _ hbd hq h24
    have hn : (readNumbers 6 q).2.2 ≠ 0 := this
    simp only []
    rw [if_pos hn]
    exact hn
  · obtain ⟨q', rfl, hq'⟩ := hq.split (by rw [catS_nums_size]; show 4 * 6 ≤ q.size; omega)
    have hn := readNumbers_numBytes (nums k gen) q' hbd
    have hn' : readNumbers 6 (catS ((nums k gen).map numBytes) ++ q') = (nums k gen, q', 0) := hn
    have hql' : q'.size < (catS (k.log.map textBytes)).size := by rw [ByteArray.size_append, ByteArray.size_append] at hql; omega
    have ht := readTexts_cut k.log q' (fun s hs => by have := log_small h s hs; omega) hq' hql'
    have n3 : (nums k gen).getD 3 0 = if k.calm then 1 else 0 := rfl
    have n5 : (nums k gen).getD 5 0 = (k.log.length : Int) := rfl
    rw [hn']
    simp only [ne_eq, not_true_eq_false, if_false, n3, n5, Int.toNat_natCast]
    rw [if_neg (by rw [not_or]; refine ⟨by split <;> omega, by omega⟩), if_pos ht]
    exact ht
end Scu
namespace Scu

theorem repFault_ok {r : Replica} (h : repFault r = 0) : InR r.me ∧ r.have_.length = 3 ∧ r.wants.length = 3 ∧ r.gives.length = 3 ∧ r.given.length = 3 ∧
    (∀ x ∈ r.have_, 0 ≤ x ∧ x ≤ r.kept.log.length) ∧ (∀ g ∈ r.gives, keptFault g = 0) ∧ keptFault r.kept = 0 := by
  unfold repFault at h
  split at h
  · omega
  split at h
  · omega
  split at h
  · omega
  rename_i h1 h2 h3
  refine ⟨by unfold InR; omega, by omega, by omega, by omega, by omega, ?_, ?_, h⟩
  · intro x hx
    simp only [Bool.or_eq_true, List.any_eq_true, decide_eq_true_eq, not_or, not_exists, not_and] at h3
    have := h3.1 x hx
    omega
  · intro g hg
    simp only [Bool.or_eq_true, List.any_eq_true, decide_eq_true_eq, not_or, not_exists, not_and] at h3
    have := h3.2 g hg
    omega
theorem repFault_mk {r : Replica} (h1 : InR r.me) (h2 : r.have_.length = 3) (h3 : r.wants.length = 3) (h4 : r.gives.length = 3) (h5 : r.given.length = 3)
    (h6 : ∀ x ∈ r.have_, 0 ≤ x ∧ x ≤ r.kept.log.length) (h7 : ∀ g ∈ r.gives, keptFault g = 0) (h8 : keptFault r.kept = 0) : repFault r = 0 := by
  unfold repFault
  rw [if_neg (by unfold InR at h1; omega), if_neg (by omega), if_neg, h8]
  simp only [Bool.or_eq_true, List.any_eq_true, decide_eq_true_eq, not_or, not_exists, not_and]
  refine ⟨fun x hx => ?_, fun g hg => ?_⟩
  · have := h6 x hx; omega
  · have := h7 g hg; omega
theorem keptFault0 : keptFault kept0 = 0 := by decide
theorem fresh_fault {r : Replica} (h1 : InR r.me) (h8 : keptFault r.kept = 0) : repFault (fresh r) = 0 := by
  refine repFault_mk h1 rfl rfl rfl rfl ?_ ?_ h8
  · intro x hx
    simp [fresh] at hx
    subst hx
    omega
  · intro g hg
    simp [fresh] at hg
    subst hg
    exact keptFault0
theorem mem_set {α : Type} {l : List α} {n : Nat} {x y : α} (h : y ∈ l.set n x) : y = x ∨ y ∈ l := by
  rcases List.mem_or_eq_of_mem_set h with h | h
  · exact .inr h
  · exact .inl h
theorem want_fault {r : Replica} {v : Int} (h : repFault r = 0) (h1 : r.kept.view < v) (h2 : v ≤ 1048576) : repFault (want r v).1 = 0 := by
  obtain ⟨f1, f2, f3, f4, f5, f6, f7, f8⟩ := repFault_ok h
  obtain ⟨k1, k2, k3, k4, k5, k6, k7, k8, k9⟩ := keptFault_ok f8
  have hk : keptFault { r.kept with view := v, calm := false } = 0 :=
    keptFault_mk (by show 0 ≤ v; omega) h2 k3 (by show r.kept.normal ≤ v; omega) (fun hc => by cases hc) k6 k7 k8 k9
  have hf := fresh_fault (r := { r with kept := { r.kept with view := v, calm := false } }) f1 hk
  obtain ⟨g1, g2, g3, g4, g5, g6, g7, g8⟩ := repFault_ok hf
  exact repFault_mk g1 g2 (by simp [want, fresh]) g4 g5 g6 g7 g8
theorem own_fault {k : Kept} (h : keptFault k = 0) : keptFault (own k) = 0 := by
  obtain ⟨k1, k2, k3, k4, k5, k6, k7, k8, k9⟩ := keptFault_ok h
  exact keptFault_mk k1 k2 k3 k4 (fun hc => by cases hc) k6 k7 k8 k9
theorem give1_fault {r : Replica} {i : Int} {k : Kept} (h : repFault r = 0) (hk : keptFault (own k) = 0) : repFault (give1 r i k) = 0 := by
  obtain ⟨f1, f2, f3, f4, f5, f6, f7, f8⟩ := repFault_ok h
  refine repFault_mk f1 f2 f3 (by simp [give1, f4]) (by simp [give1, f5]) f6 ?_ f8
  intro g hg
  rcases mem_set hg with rfl | hg
  · exact hk
  · exact f7 g hg
theorem wants_fault {r : Replica} (h : repFault r = 0) (l : List Bool) (hl : l.length = 3) : repFault { r with wants := l } = 0 := by
  obtain ⟨f1, f2, f3, f4, f5, f6, f7, f8⟩ := repFault_ok h
  exact repFault_mk f1 f2 hl f4 f5 f6 f7 f8
theorem begun_fault {r : Replica} (h : repFault r = 0) : repFault (begun r).1 = 0 := by
  obtain ⟨f1, f2, f3, f4, f5, f6, f7, f8⟩ := repFault_ok h
  obtain ⟨k1, k2, k3, k4, k5, k6, k7, k8, k9⟩ := keptFault_ok f8
  unfold begun
  split
  · exact h
  split
  · exact h
  rename_i hcnt
  refine fresh_fault f1 ?_
  have hb : bestOf (r.gives.zip r.given) = { kept0 with normal := -1 } ∨ keptFault (bestOf (r.gives.zip r.given)) = 0 := by
    obtain ⟨_, _, hb⟩ := bestOf_spec (r.gives.zip r.given) { kept0 with normal := -1 }
    rcases hb with hb | ⟨g, hg, _, hb⟩
    · exact .inl hb
    · refine .inr ?_
      have : bestOf (r.gives.zip r.given) = g.1 := hb
      rw [this]
      exact f7 _ (List.of_mem_zip hg).1
  have hm := (maxCommit_spec (r.gives.zip r.given) 0).1
  have hm' : 0 ≤ maxCommit (r.gives.zip r.given) := hm
  refine keptFault_mk k1 k2 k1 (Int.le_refl _) (fun _ => rfl) ?_ ?_ ?_ ?_
  · rcases hb with hb | hb
    · simp only [hb]; simp [kept0]
    · exact (keptFault_ok hb).2.2.2.2.2.1
  · show 0 ≤ min _ _
    omega
  · show min (maxCommit (r.gives.zip r.given)) ((bestOf (r.gives.zip r.given)).log.length : Int) ≤ ((bestOf (r.gives.zip r.given)).log.length : Int)
    omega
  · rcases hb with hb | hb
    · simp only [hb]; simp [kept0]
    · exact (keptFault_ok hb).2.2.2.2.2.2.2.2
theorem hearLead_fault {r : Replica} {m : Message} (h : repFault r = 0) (hm : msgFault m = 0) (_hv : r.kept.view ≤ m.view) : repFault (hearLead r m).1 = 0 := by
  obtain ⟨f1, f2, f3, f4, f5, f6, f7, f8⟩ := repFault_ok h
  obtain ⟨k1, k2, k3, k4, k5, k6, k7, k8, k9⟩ := keptFault_ok f8
  obtain ⟨q1, q2, q3, q4, q5, q6, q7, q8, q9⟩ := keptFault_ok (msgFault_ok hm).2.2.2.2.2.2.2.2.2.2.2
  simp only at q1 q2 q3 q4 q6 q7 q8 q9
  unfold hearLead
  simp only []
  split
  · refine fresh_fault (r := { r with kept := ⟨m.view, m.view, true, m.log, max (max m.commit (min r.kept.commit m.log.length)) (min m.commit m.log.length)⟩ }) f1 ?_
    refine keptFault_mk q1 q2 q1 (Int.le_refl _) (fun _ => rfl) q6 ?_ ?_ q9
    · show 0 ≤ max _ _; omega
    · show max (max m.commit (min r.kept.commit (m.log.length : Int))) (min m.commit (m.log.length : Int)) ≤ (m.log.length : Int); omega
  rename_i hc
  split
  · rename_i hl
    refine repFault_mk f1 f2 f3 f4 f5 ?_ f7 ?_
    · intro x hx
      have := f6 x hx
      show 0 ≤ x ∧ x ≤ (m.log.length : Int)
      omega
    · refine keptFault_mk k1 k2 k3 k4 k5 q6 ?_ ?_ q9
      · show 0 ≤ max _ _; omega
      · show max r.kept.commit (min m.commit (m.log.length : Int)) ≤ m.log.length; omega
  · refine repFault_mk f1 f2 f3 f4 f5 f6 f7 ?_
    refine keptFault_mk k1 k2 k3 k4 k5 k6 ?_ ?_ k9
    · show 0 ≤ max _ _; omega
    · show max r.kept.commit (min m.commit (r.kept.log.length : Int)) ≤ r.kept.log.length; omega
theorem hearHas_fault {r : Replica} {m : Message} (h : repFault r = 0) (hm : msgFault m = 0) : repFault (hearHas r m).1 = 0 := by
  obtain ⟨f1, f2, f3, f4, f5, f6, f7, f8⟩ := repFault_ok h
  obtain ⟨k1, k2, k3, k4, k5, k6, k7, k8, k9⟩ := keptFault_ok f8
  have hn := (msgFault_ok hm).2.2.2.2.2.2.2.1
  unfold hearHas
  split
  · exact h
  simp only []
  have hhave : ∀ x ∈ r.have_.set m.from_.toNat (max (r.have_.getD m.from_.toNat 0) (min m.n r.kept.log.length)), 0 ≤ x ∧ x ≤ (r.kept.log.length : Int) := by
    intro x hx
    rcases mem_set hx with rfl | hx
    · have : 0 ≤ r.have_.getD m.from_.toNat 0 ∧ r.have_.getD m.from_.toNat 0 ≤ (r.kept.log.length : Int) := by
        by_cases hlt : m.from_.toNat < r.have_.length
        · have := f6 _ (List.getElem_mem hlt)
          simpa [hlt] using this
        · simp [hlt]
      omega
    · exact f6 x hx
  split
  · refine repFault_mk f1 (by simp [f2]) f3 f4 f5 hhave f7 ?_
    refine keptFault_mk k1 k2 k3 k4 k5 k6 ?_ ?_ k9
    · show 0 ≤ min m.n (r.kept.log.length : Int); omega
    · show min m.n (r.kept.log.length : Int) ≤ r.kept.log.length; omega
  · exact repFault_mk f1 (by simp [f2]) f3 f4 f5 hhave f7 f8
theorem wantIf_fault {r : Replica} {v : Int} (h : repFault r = 0) (hv : v ≤ 1048576) : repFault (wantIf r v).1 = 0 := by
  unfold wantIf
  split
  · exact want_fault h (by assumption) hv
  · exact h
theorem hearWant_fault {r : Replica} {m : Message} (h : repFault r = 0) (hm : msgFault m = 0) : repFault (hearWant r m).1 = 0 := by
  have hw := wantIf_fault (v := m.view) h (msgFault_ok hm).2.2.2.2.2.2.1
  unfold hearWant
  generalize wantIf r m.view = x at *
  obtain ⟨r1, o1⟩ := x
  simp only at hw ⊢
  obtain ⟨f1, f2, f3, f4, f5, f6, f7, f8⟩ := repFault_ok hw
  split
  · exact hw
  have hw2 := wants_fault hw (r1.wants.set m.from_.toNat true) (by simp [f3])
  split
  · exact begun_fault (give1_fault hw2 (own_fault f8))
  · exact hw2
theorem hearGive_fault {r : Replica} {m : Message} (h : repFault r = 0) (hm : msgFault m = 0) : repFault (hearGive r m).1 = 0 := by
  have hw := wantIf_fault (v := m.view) h (msgFault_ok hm).2.2.2.2.2.2.1
  have hk := (msgFault_ok hm).2.2.2.2.2.2.2.2.2.2.2
  unfold hearGive
  generalize wantIf r m.view = x at *
  obtain ⟨r1, o1⟩ := x
  simp only at hw ⊢
  obtain ⟨f1, f2, f3, f4, f5, f6, f7, f8⟩ := repFault_ok hw
  split
  · exact hw
  refine begun_fault (give1_fault ?_ hk)
  split
  · exact give1_fault hw (own_fault f8)
  · exact hw
theorem hear_fault {r : Replica} {m : Message} (hok : (hear r m).2.2 = 0) : repFault (hear r m).1 = 0 := by
  unfold hear at hok ⊢
  split
  · rename_i hx; rw [if_pos hx] at hok; exact absurd hok hx
  rename_i hx; rw [if_neg hx] at hok
  split
  · rename_i hx; rw [if_pos hx] at hok; exact absurd hok hx
  rename_i hx2; rw [if_neg hx2] at hok
  split
  · rename_i hx; rw [if_pos hx] at hok; simp at hok
  rename_i hx3; rw [if_neg hx3] at hok
  split
  · rename_i hx; rw [if_pos hx] at hok; simp at hok
  rename_i hx4
  have h1 : repFault r = 0 := by omega
  have h2 : msgFault m = 0 := by omega
  simp only [hearIt]
  split
  · exact hearLead_fault h1 h2 (by omega)
  split
  · exact hearHas_fault h1 h2
  split
  · exact hearWant_fault h1 h2
  · exact hearGive_fault h1 h2
theorem take_fault {r : Replica} {e : Str} (hok : (take r e).2.2 = 0) : repFault (take r e).1 = 0 := by
  unfold take at hok ⊢
  split
  · rename_i hx; rw [if_pos hx] at hok; exact absurd hok hx
  rename_i hx; rw [if_neg hx] at hok
  split
  · rename_i hx; rw [if_pos hx] at hok; simp at hok
  rename_i hx2; rw [if_neg hx2] at hok
  split
  · rename_i hx; rw [if_pos hx] at hok; simp at hok
  rename_i hx3; rw [if_neg hx3] at hok
  split
  · rename_i hx; rw [if_pos hx] at hok; exact absurd hok hx
  rename_i hx4
  obtain ⟨f1, f2, f3, f4, f5, f6, f7, f8⟩ := repFault_ok (r := r) (by omega)
  obtain ⟨k1, k2, k3, k4, k5, k6, k7, k8, k9⟩ := keptFault_ok f8
  refine repFault_mk f1 f2 f3 f4 f5 ?_ f7 ?_
  · intro x hx
    have := f6 x hx
    show 0 ≤ x ∧ x ≤ ((r.kept.log ++ [e]).length : Int)
    rw [List.length_append]
    omega
  · refine keptFault_mk k1 k2 k3 k4 k5 ?_ k7 ?_ ?_
    · show (r.kept.log ++ [e]).length ≤ 60
      rw [List.length_append]
      simp only [List.length_cons, List.length_nil]
      omega
    · show r.kept.commit ≤ ((r.kept.log ++ [e]).length : Int)
      rw [List.length_append]
      omega
    · intro x hx
      rcases List.mem_append.1 hx with hx | hx
      · exact k9 x hx
      · simp only [List.mem_singleton] at hx
        subst hx
        omega
theorem tick_fault {r : Replica} (hok : (tick r).2.2 = 0) : repFault (tick r).1 = 0 := by
  unfold tick at hok ⊢
  split
  · rename_i hx; rw [if_pos hx] at hok; exact absurd hok hx
  rename_i hx; rw [if_neg hx] at hok
  have h1 : repFault r = 0 := by omega
  split
  · exact h1
  split
  · exact h1
  · exact wants_fault h1 _ (by simp [(repFault_ok h1).2.2.1])
theorem alarm_fault {r : Replica} (hok : (alarm r).2.2 = 0) : repFault (alarm r).1 = 0 := by
  unfold alarm at hok ⊢
  split
  · rename_i hx; rw [if_pos hx] at hok; exact absurd hok hx
  rename_i hx; rw [if_neg hx] at hok
  have h1 : repFault r = 0 := by omega
  split
  · rename_i hx; rw [if_pos hx] at hok; simp at hok
  · have := (keptFault_ok (repFault_ok h1).2.2.2.2.2.2.2).2.1
    exact want_fault h1 (by omega) (by omega)

/- where messages go -/
def ToR (l : List Message) : Prop := ∀ m ∈ l, InR m.to
theorem toAll_to (me v : Int) (m : Message) : ToR (toAll me v m) := fun x hx => by
  obtain ⟨i, hi, _, rfl⟩ := mem_toAll hx
  exact hi
theorem ToR.app {a b : List Message} (h : ToR a) (k : ToR b) : ToR (a ++ b) := fun m hm => by
  rcases List.mem_append.1 hm with hm | hm
  · exact h m hm
  · exact k m hm
theorem ToR.nil : ToR [] := fun m hm => by simp at hm
theorem ToR.one {m : Message} (h : InR m.to) : ToR [m] := fun x hx => by simp only [List.mem_singleton] at hx; subst hx; exact h
theorem begun_to (r : Replica) : ToR (begun r).2 := by
  unfold begun
  split
  · exact ToR.nil
  split
  · exact ToR.nil
  · exact toAll_to _ _ _
theorem wantIf_to (r : Replica) (v : Int) : ToR (wantIf r v).2 := by
  unfold wantIf
  split
  · exact toAll_to _ _ _
  · exact ToR.nil
theorem hear_to (r : Replica) (m : Message) : ToR (hear r m).2.1 := by
  unfold hear
  split
  · exact ToR.nil
  split
  · exact ToR.nil
  rename_i hx2
  split
  · exact ToR.nil
  split
  · exact ToR.nil
  have h2 : msgFault m = 0 := by omega
  simp only [hearIt]
  split
  · exact ToR.one (msgFault_ok h2).2.2.1
  split
  · unfold hearHas
    split
    · exact ToR.nil
    simp only []
    split
    · exact toAll_to _ _ _
    · exact ToR.nil
  split
  · have hw := wantIf_to r m.view
    unfold hearWant
    generalize wantIf r m.view = x at *
    obtain ⟨r1, o1⟩ := x
    simp only at hw ⊢
    split
    · exact hw
    split
    · exact hw.app (begun_to _)
    · exact hw.app (ToR.one (leader_in _))
  · have hw := wantIf_to r m.view
    unfold hearGive
    generalize wantIf r m.view = x at *
    obtain ⟨r1, o1⟩ := x
    simp only at hw ⊢
    split
    · exact hw
    · exact hw.app (begun_to _)
theorem take_to (r : Replica) (e : Str) : ToR (take r e).2.1 := by
  unfold take
  repeat' split
  all_goals first | exact ToR.nil | exact toAll_to _ _ _
theorem tick_to (r : Replica) : ToR (tick r).2.1 := by
  unfold tick
  split
  · exact ToR.nil
  split
  · exact toAll_to _ _ _
  split
  · exact ToR.one (leader_in _)
  · exact toAll_to _ _ _
theorem alarm_to (r : Replica) : ToR (alarm r).2.1 := by
  unfold alarm
  split
  · exact ToR.nil
  split
  · exact ToR.nil
  · exact toAll_to _ _ _
end Scu
/- Plain: LeadersLead: a leader takes an entry, another hears of it, and the leader hears that it has it. -/
namespace Scu
def AllIn (L : List Str) : Prop := ∀ e ∈ L, (decode e).2 = 0
theorem AllIn.snoc {L : List Str} {s : Str} (h : AllIn L) (hs : (decode s).2 = 0) : AllIn (L ++ [s]) := fun e he => by
  rcases List.mem_append.1 he with he | he
  · exact h e he
  · rw [List.mem_singleton] at he; subst he; exact hs
structure LeadA (a : Replica) (L : List Str) : Prop where
  me : a.me = 0
  kept : a.kept = ⟨0, 0, true, L, (L.length : Int)⟩
  ok : repFault a = 0
structure FollowB (b : Replica) (j : Int) (L : List Str) : Prop where
  me : b.me = j
  kept : ∃ c : Int, 0 ≤ c ∧ c ≤ L.length ∧ b.kept = ⟨0, 0, true, L, c⟩
  ok : repFault b = 0
def leadMsg (j : Int) (n : Nat) (L : List Str) : Message := ⟨1, 0, j, 0, 0, (n : Int), 0, L⟩
def hasMsg (j : Int) (n : Nat) : Message := ⟨2, j, 0, 0, 0, 0, (n : Int), []⟩
theorem kept_in {L : List Str} (h : AllIn L) (hl : L.length ≤ 60) {c : Int} (h0 : 0 ≤ c) (h1 : c ≤ L.length) (b : Bool) : keptFault ⟨0, 0, b, L, c⟩ = 0 :=
  keptFault_mk (by show (0 : Int) ≤ 0; omega) (by show (0 : Int) ≤ 1048576; omega) (by show (0 : Int) ≤ 0; omega) (by show (0 : Int) ≤ 0; omega) (fun _ => rfl) hl h0 h1 h
theorem lead_new : ∃ a, repNew 0 ⟨0, 0, true, [], 0⟩ = (a, 0) ∧ LeadA a [] :=
  ⟨_, rfl, rfl, rfl, by decide⟩
theorem follow_new {j : Int} (hj : j = 1 ∨ j = 2) : ∃ b, repNew j ⟨0, 0, true, [], 0⟩ = (b, 0) ∧ FollowB b j [] := by
  rcases hj with rfl | rfl
  · exact ⟨_, rfl, rfl, ⟨0, by omega, by simp, rfl⟩, by decide⟩
  · exact ⟨_, rfl, rfl, ⟨0, by omega, by simp, rfl⟩, by decide⟩
theorem lead_msgs {r : Replica} (hm : r.me = 0) {L : List Str} {n : Nat} (hk : r.kept = ⟨0, 0, true, L, (n : Int)⟩) : leadOn r = [leadMsg 1 n L, leadMsg 2 n L] := by
  unfold leadOn toAll
  rw [hm, hk]
  rfl
theorem lead_take {a : Replica} {L : List Str} {s : Str} (h : LeadA a L) (hs : (decode s).2 = 0) (hL : AllIn L) (hl : L.length < 60) :
    ∃ x, take a s = (x, [leadMsg 1 L.length (L ++ [s]), leadMsg 2 L.length (L ++ [s])], 0) ∧ x.me = 0 ∧ x.kept = ⟨0, 0, true, L ++ [s], (L.length : Int)⟩ ∧ repFault x = 0 := by
  have hle : leads a = true := by unfold leads; rw [h.kept, h.me]; rfl
  have e : take a s = (({ a with kept := { a.kept with log := a.kept.log ++ [s] } } : Replica), leadOn { a with kept := { a.kept with log := a.kept.log ++ [s] } }, 0) := by
    unfold take
    rw [if_neg (fun hh => hh h.ok), if_neg (by rw [hle]; simp), if_neg (by rw [h.kept]; show ¬ L.length = 60; omega), if_neg (fun hh => hh hs)]
  refine ⟨{ a with kept := { a.kept with log := a.kept.log ++ [s] } }, ?_, h.me, ?_, ?_⟩
  · rw [e, lead_msgs (r := { a with kept := { a.kept with log := a.kept.log ++ [s] } }) (L := L ++ [s]) (n := L.length) h.me (by rw [h.kept])]
  · show ({ a.kept with log := a.kept.log ++ [s] } : Kept) = _
    rw [h.kept]
  · obtain ⟨f1, f2, f3, f4, f5, f6, f7, f8⟩ := repFault_ok h.ok
    refine repFault_mk f1 f2 f3 f4 f5 (fun x hx => ?_) f7 ?_
    · have := f6 x hx
      show 0 ≤ x ∧ x ≤ ((a.kept.log ++ [s]).length : Nat)
      rw [List.length_append]
      omega
    · show keptFault { a.kept with log := a.kept.log ++ [s] } = 0
      rw [h.kept]
      exact kept_in (c := (L.length : Int)) (hL.snoc hs) (by simp; omega) (by omega) (by simp; omega) true
theorem follow_hear {b : Replica} {j : Int} {L : List Str} {s : Str} (hj : j = 1 ∨ j = 2) (h : FollowB b j L) (hs : (decode s).2 = 0) (hL : AllIn L) (hl : L.length < 60) :
    ∃ y, hear b (leadMsg j L.length (L ++ [s])) = (y, [hasMsg j (L.length + 1)], 0) ∧ FollowB y j (L ++ [s]) := by
  obtain ⟨c, hc0, hc1, hk⟩ := h.kept
  have hin := hL.snoc hs
  have hmf : msgFault (leadMsg j L.length (L ++ [s])) = 0 := by
    unfold msgFault leadMsg
    simp only
    rw [if_neg (by omega), if_neg (by omega), if_neg (by simp), if_neg (by unfold leader; simp)]
    exact kept_in hin (by simp; omega) (by omega) (by simp; omega) false
  have hlt : b.kept.log.length < (L ++ [s]).length := by rw [hk]; simp
  have e : hearLead b (leadMsg j L.length (L ++ [s])) = (({ b with kept := ⟨0, 0, true, L ++ [s], (L.length : Int)⟩ } : Replica), [hasMsg j (L.length + 1)]) := by
    unfold hearLead leadMsg
    simp only
    rw [if_neg (by rw [hk]; simp), if_pos hlt]
    simp only [hk, h.me]
    have hm : max c (min (L.length : Int) ((L ++ [s]).length : Int)) = L.length := by rw [List.length_append]; simp; omega
    rw [hm]
    simp [hasMsg, msg0]
  refine ⟨{ b with kept := ⟨0, 0, true, L ++ [s], (L.length : Int)⟩ }, ?_, h.me, ⟨L.length, by omega, by simp; omega, rfl⟩, ?_⟩
  · unfold hear
    rw [if_neg (fun hh => hh h.ok), if_neg (fun hh => hh hmf), if_neg (by rw [h.me]; exact fun hh => hh rfl), if_neg (by rw [hk]; show ¬ (0 : Int) < 0; omega)]
    unfold hearIt
    rw [if_pos (show (leadMsg j L.length (L ++ [s])).kind = 1 from rfl), e]
  · obtain ⟨f1, f2, f3, f4, f5, f6, f7, f8⟩ := repFault_ok h.ok
    refine repFault_mk f1 f2 f3 f4 f5 (fun x hx => ?_) f7 ?_
    · have := f6 x hx
      rw [hk] at this
      show 0 ≤ x ∧ x ≤ ((L ++ [s]).length : Nat)
      rw [List.length_append]
      simp only at this
      omega
    · exact kept_in hin (by simp; omega) (by omega) (by simp; omega) true
theorem lead_hear {x : Replica} {j : Int} {L : List Str} {s : Str} (hj : j = 1 ∨ j = 2) (hm : x.me = 0) (hk : x.kept = ⟨0, 0, true, L ++ [s], (L.length : Int)⟩) (hf : repFault x = 0) (hs : (decode s).2 = 0) (hL : AllIn L) (hl : L.length < 60) :
    ∃ z on, hear x (hasMsg j (L.length + 1)) = (z, on, 0) ∧ on.length = 2 ∧ z.kept.commit = ((L.length + 1 : Nat) : Int) ∧ LeadA z (L ++ [s]) := by
  have hin := hL.snoc hs
  obtain ⟨f1, f2, f3, f4, f5, f6, f7, f8⟩ := repFault_ok hf
  have hmf : msgFault (hasMsg j (L.length + 1)) = 0 := by
    unfold msgFault hasMsg
    simp only
    rw [if_neg (by omega), if_neg (by omega), if_neg (by simp), if_neg (by unfold leader; simp)]
    exact kept_in (fun e he => by cases he) (by simp) (by omega) (by simp) false
  have hle : leads x = true := by unfold leads; rw [hk, hm]; rfl
  have hn : min (hasMsg j (L.length + 1)).n (x.kept.log.length : Int) = ((L.length + 1 : Nat) : Int) := by
    rw [hk]
    show min ((L.length + 1 : Nat) : Int) ((L ++ [s]).length : Int) = _
    rw [List.length_append]
    simp
  obtain ⟨r1, hr1⟩ : ∃ r1 : Replica, r1 = { x with have_ := x.have_.set j.toNat (max (x.have_.getD j.toNat 0) ((L.length + 1 : Nat) : Int)), kept := { x.kept with commit := ((L.length + 1 : Nat) : Int) } } := ⟨_, rfl⟩
  have e : hearHas x (hasMsg j (L.length + 1)) = (r1, leadOn r1) := by
    unfold hearHas
    rw [if_neg (by rw [hle, hk]; simp [hasMsg])]
    simp only [hn]
    rw [if_pos (by rw [hk]; show (L.length : Int) < _; omega), hr1]
    rfl
  have hk1 : r1.kept = ⟨0, 0, true, L ++ [s], ((L ++ [s]).length : Int)⟩ := by
    rw [hr1]
    show ({ x.kept with commit := ((L.length + 1 : Nat) : Int) } : Kept) = _
    rw [hk, List.length_append]
    rfl
  have hm1 : r1.me = 0 := by rw [hr1]; exact hm
  refine ⟨r1, leadOn r1, ?_, ?_, by rw [hk1, List.length_append]; rfl, hm1, hk1, ?_⟩
  · unfold hear
    rw [if_neg (fun hh => hh hf), if_neg (fun hh => hh hmf), if_neg (by rw [hm]; exact fun hh => hh rfl), if_neg (by rw [hk]; show ¬ (0 : Int) < 0; omega)]
    unfold hearIt
    rw [if_neg (show ¬ (hasMsg j (L.length + 1)).kind = 1 from by unfold hasMsg; simp), if_pos (show (hasMsg j (L.length + 1)).kind = 2 from rfl), e]
  · rw [lead_msgs (r := r1) hm1 (n := (L ++ [s]).length) hk1]
    rfl
  · have hlen : (r1.kept.log.length : Int) = L.length + 1 := by rw [hk1]; simp
    have hh : r1.have_ = x.have_.set j.toNat (max (x.have_.getD j.toNat 0) ((L.length + 1 : Nat) : Int)) := by rw [hr1]
    have hxl : (x.kept.log.length : Int) = L.length + 1 := by rw [hk]; simp
    refine repFault_mk (by rw [hr1]; exact f1) (by rw [hh]; simp [f2]) (by rw [hr1]; exact f3) (by rw [hr1]; exact f4) (by rw [hr1]; exact f5) (fun y hy => ?_) (by rw [hr1]; exact f7) ?_
    · rw [hh] at hy
      rcases mem_set hy with e | hy
      · have h1 : x.have_.getD j.toNat 0 ≤ (L.length : Int) + 1 := by
          rw [List.getD_eq_getElem?_getD]
          by_cases hlt : j.toNat < x.have_.length
          · rw [List.getElem?_eq_getElem hlt]
            have := f6 _ (List.getElem_mem hlt)
            show x.have_[j.toNat] ≤ _
            omega
          · rw [List.getElem?_eq_none (by omega)]
            show (0 : Int) ≤ _
            omega
        rw [hlen, e]
        omega
      · have := f6 y hy
        rw [hlen]
        omega
    · rw [hk1]
      exact kept_in hin (by simp; omega) (by omega) (by omega) true
end Scu
/- Small laws for the walks: bytes made into a string; what a world keeps. -/
namespace Go.Proofs.YtfpiembhlgcelaaDoor
open Go.RowKit

theorem b8_low {n : Int} (h0 : 0 ≤ n) (h1 : n < 256) : UInt8.ofNat n.toNat = Scu.b8 n := by
  unfold Scu.b8
  rw [Int.emod_eq_of_lt h0 h1]
theorem b8_mod (n : Int) : UInt8.ofNat (n % 256).toNat = Scu.b8 n := rfl

theorem conv_list (w : World) (xs : List Int) :
    (convert 68 9 (.slice (some ⟨w.heap.size, 0, none⟩) xs.length xs.length)).run Tryd.prog (w.alloc (.cells (xs.map (Value.int .u8)).toArray 5)) =
      .ok (.string (strOfNums xs)) (w.alloc (.cells (xs.map (Value.int .u8)).toArray 5)) := by
  refine run_convert_bytes_arg _ 68 5 Tryd.underlying68 Tryd.underlying5 w.heap.size 0 xs.length xs.length xs rfl (fun i hi => ?_) 9 Tryd.underlying9
  have := World.cell?_alloc_mark w (xs.map (Value.int .u8)).toArray 5 (0, 0) (0 + i)
  rw [this]
  simp [List.getElem?_eq_getElem hi, List.getD]
theorem conv_four (w : World) (g : Nat) (a b c d : Int) (hg : g = w.heap.size) :
    (convert 68 9 (.slice (some ⟨g, 0, none⟩) 4 4)).run Tryd.prog (w.alloc (.cells #[.int .u8 a, .int .u8 b, .int .u8 c, .int .u8 d] 5)) =
      .ok (.string (strOfNums [a, b, c, d])) (w.alloc (.cells #[.int .u8 a, .int .u8 b, .int .u8 c, .int .u8 d] 5)) := by subst hg; exact conv_list w [a, b, c, d]
theorem conv_one (w : World) (g : Nat) (a : Int) (hg : g = w.heap.size) :
    (convert 68 9 (.slice (some ⟨g, 0, none⟩) 1 1)).run Tryd.prog (w.alloc (.cells #[.int .u8 a] 5)) =
      .ok (.string (strOfNums [a])) (w.alloc (.cells #[.int .u8 a] 5)) := by subst hg; exact conv_list w [a]
theorem ret_pair {a b c d : Value} (h : a = c) (k : b = d) : Ending.returned (.tuple #[a, b]) = Ending.returned (.tuple #[c, d]) := by rw [h, k]
theorem ret_val {a b : Value} (h : a = b) : Ending.returned a = Ending.returned b := by rw [h]
theorem str_eq {a b : ByteArray} (h : a = b) : Value.string a = Value.string b := by rw [h]
theorem int_eq {k : IntKind} {a b : Int} (h : a = b) : Value.int k a = Value.int k b := by rw [h]
theorem bool_eq {a b : Bool} (h : a = b) : Value.bool a = Value.bool b := by rw [h]

/- bytes of a text -/
theorem byteAt_get (s : ByteArray) (i : Nat) (h : i < s.size) : ((s[i]'h).toNat : Int) = Scu.byteAt s i := by
  unfold Scu.byteAt
  have h' : i < s.data.toList.length := by simpa using h
  rw [List.getD_eq_getElem?_getD, List.getElem?_eq_getElem h']
  rfl
theorem byteAt_rng (s : ByteArray) (i : Nat) : 0 ≤ Scu.byteAt s i ∧ Scu.byteAt s i < 256 := by
  unfold Scu.byteAt
  have := (s.data.toList.getD i 0).toNat_lt
  omega
theorem ofInt_i64 (a : Nat) (ha : a < 9223372036854775808) : (BitVec.ofInt 64 (a : Int)).toNat = a := by
  rw [BitVec.ofInt_natCast, BitVec.toNat_ofNat]; exact Nat.mod_eq_of_lt (by omega)
theorem i64_or_nat (a b : Nat) (ha : a < 9223372036854775808) (hb : b < 9223372036854775808) : bits .or .i64 (a : Int) (b : Int) = ((a ||| b : Nat) : Int) := by
  have hx : a ||| b < 2 ^ 63 := Nat.or_lt_two_pow (by omega) (by omega)
  show IntKind.i64.wrap ((BitVec.ofInt 64 (a : Int) ||| BitVec.ofInt 64 (b : Int)).toNat : Int) = _
  rw [BitVec.toNat_or, ofInt_i64 a ha, ofInt_i64 b hb, IntKind.wrap_i64]
  omega
/-- 'x | y' where y lies below the bits of x -/
theorem i64_or_sum (k : Nat) (hk : k ≤ 32) (a y : Int) (ha : 0 ≤ a) (hx : a * (2 ^ k : Nat) < 9223372036854775808) (hy : 0 ≤ y) (hyk : y < (2 ^ k : Nat)) :
    bits .or .i64 (a * (2 ^ k : Nat)) y = a * (2 ^ k : Nat) + y := by
  obtain ⟨n, rfl⟩ := Int.eq_ofNat_of_zero_le ha
  obtain ⟨m, rfl⟩ := Int.eq_ofNat_of_zero_le hy
  have hm : m < 2 ^ k := by omega
  have e : ((n : Int) * (2 ^ k : Nat)) = ((n * 2 ^ k : Nat) : Int) := by push_cast; rfl
  rw [e] at hx ⊢
  have h1 : n * 2 ^ k < 9223372036854775808 := by omega
  have hs := Nat.shiftLeft_add_eq_or_of_lt hm n
  rw [Nat.shiftLeft_eq] at hs
  have hp : 2 ^ k ≤ 2 ^ 32 := Nat.pow_le_pow_right (by omega) hk
  rw [i64_or_nat _ _ h1 (by omega), ← hs]
  push_cast
  rfl
theorem i64_or8 (a y : Int) (ha : 0 ≤ a) (hx : a < 16777216) (hy : 0 ≤ y) (hyk : y < 256) : bits .or .i64 (a * 256) y = a * 256 + y :=
  i64_or_sum 8 (by omega) a y ha (by omega) hy (by omega)
theorem i64_or16 (a y : Int) (ha : 0 ≤ a) (hx : a < 16777216) (hy : 0 ≤ y) (hyk : y < 65536) : bits .or .i64 (a * 65536) y = a * 65536 + y :=
  i64_or_sum 16 (by omega) a y ha (by omega) hy (by omega)
theorem i64_or24 (a y : Int) (ha : 0 ≤ a) (hx : a < 16777216) (hy : 0 ≤ y) (hyk : y < 16777216) : bits .or .i64 (a * 16777216) y = a * 16777216 + y :=
  i64_or_sum 24 (by omega) a y ha (by omega) hy (by omega)
theorem or_bytes3 (a b : Int) (ha : 0 ≤ a) (ha' : a < 256) (hb : 0 ≤ b) (hb' : b < 256) : bits .or .i64 (a * 16777216) (b * 65536) = a * 16777216 + b * 65536 :=
  i64_or24 a _ ha (by omega) (by omega) (by omega)
theorem or_bytes2 (a b c : Int) (ha : 0 ≤ a) (ha' : a < 256) (hb : 0 ≤ b) (hb' : b < 256) (hc : 0 ≤ c) (hc' : c < 256) :
    bits .or .i64 (a * 16777216 + b * 65536) (c * 256) = a * 16777216 + b * 65536 + c * 256 := by
  have := i64_or16 (a * 256 + b) (c * 256) (by omega) (by omega) (by omega) (by omega)
  rw [show (a * 256 + b) * 65536 = a * 16777216 + b * 65536 by omega] at this
  exact this
theorem or_bytes1 (a b c d : Int) (ha : 0 ≤ a) (ha' : a < 256) (hb : 0 ≤ b) (hb' : b < 256) (hc : 0 ≤ c) (hc' : c < 256) (hd : 0 ≤ d) (hd' : d < 256) :
    bits .or .i64 (a * 16777216 + b * 65536 + c * 256) d = a * 16777216 + b * 65536 + c * 256 + d := by
  have := i64_or8 (a * 65536 + b * 256 + c) d (by omega) (by omega) (by omega) (by omega)
  rw [show (a * 65536 + b * 256 + c) * 256 = a * 16777216 + b * 65536 + c * 256 by omega] at this
  exact this
end Go.Proofs.YtfpiembhlgcelaaDoor

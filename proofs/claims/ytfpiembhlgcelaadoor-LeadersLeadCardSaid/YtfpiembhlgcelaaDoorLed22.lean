/- Part 22: words and walks under the law 'LeadersLead'. -/
import Derived.Test.YtfpiembhlgcelaaDoorLed1
import Derived.Lib.ItoaNum
import Derived.Test.YtfpiembhlgcelaaDoorLed5
import Derived.Test.YtfpiembhlgcelaaDoorLed6
import Derived.Test.YtfpiembhlgcelaaDoorTie
import Derived.Test.YtfpiembhlgcelaaDoorLed3
import Derived.Lib.LaidTab
import Derived.LaidMore
import Derived.Stop.LaidErr
import Derived.Stop.Joined
import Derived.Shelf.Strconv.Itoa0
import Derived.Shelf.Strconv.Itoa1
import Derived.Shelf.LaysM
import Derived.Shelf.Strconv.Itoa2
import Derived.Shelf.Strconv.Itoa3
import Derived.Test.YtfpiembhlgcelaaDoorProg
import Derived.Test.YtfpiembhlgcelaaDoorLed4
import Derived.Lib.AppendIntMem
import Derived.Deep.RegionHeld3
import Derived.Deep.DeepCutAuto
import Derived.IntWalk
set_option linter.unusedVariables false
set_option linter.unusedSimpArgs false
/- Plain: raw things as operations, requests and acts. -/
namespace Scu

structure Raw where
  kind : Int
  a : Int
  b : Int
  c : Int
deriving DecidableEq

def picked (n many : Int) : Int := (if n < 0 then -(n + 1) else n) % many
theorem picked_lt {n many : Int} (h : 0 < many) : 0 ≤ picked n many ∧ picked n many < many := ⟨Int.emod_nonneg _ (by omega), Int.emod_lt_of_pos _ h⟩
def numText (n : Int) : Str := ⟨(Go.Lib.itoa n).toArray⟩
def wText (n : Int) : Str := ⟨#[119]⟩ ++ numText n
def rawOp (r : Raw) : Op :=
  if picked r.kind 12 < 5 then ⟨1, picked r.a 6, 0, wText (picked r.b 1000)⟩
  else if picked r.kind 12 = 5 then ⟨2, picked r.a 6, 0, str0⟩
  else if picked r.kind 12 = 6 then ⟨4, 0, 0, str0⟩
  else ⟨3, picked r.a 6, max 0 (picked r.b 6 - 2), str0⟩
theorem decDigits_three {i : Nat} (h : i < 1000) : (Go.Lib.decDigits i).length ≤ 3 := by
  rcases Nat.lt_or_ge i 10 with h1 | h1
  · rw [Go.Lib.decDigits_one h1]; simp
  · rcases Nat.lt_or_ge i 100 with h2 | h2
    · rw [Go.Lib.decDigits_two (by omega) h2]; simp
    · rw [Go.Lib.decDigits, dif_neg (by omega), List.length_append, Go.Lib.decDigits_two (by omega) (by omega)]; simp
theorem wText_size {n : Int} (h0 : 0 ≤ n) (h : n < 1000) : (wText n).size ≤ 4 := by
  unfold wText numText
  have h1 : (Go.Lib.itoa n).length ≤ 3 := by
    unfold Go.Lib.itoa
    rw [if_neg (by omega)]
    exact decDigits_three (by omega)
  rw [ByteArray.size_append]
  simp only [ByteArray.size]
  simp
  omega
theorem wText_pos (n : Int) : (wText n).size ≠ 0 := by
  unfold wText
  rw [ByteArray.size_append]
  simp only [ByteArray.size]
  simp
theorem rawOp_ok (r : Raw) : opFault (rawOp r) = 0 := by
  have h12 := picked_lt (n := r.kind) (many := 12) (by omega)
  have h6 := picked_lt (n := r.a) (many := 6) (by omega)
  have hb := picked_lt (n := r.b) (many := 6) (by omega)
  have h1000 := picked_lt (n := r.b) (many := 1000) (by omega)
  have hs := wText_size h1000.1 h1000.2
  have e0 : str0.size = 0 := rfl
  unfold rawOp
  split
  · unfold opFault; simp only; rw [if_neg (by omega), if_neg (by omega), if_neg (by omega), if_neg (by omega)]
  · split
    · unfold opFault; simp only; rw [if_neg (by omega), if_neg (by omega), if_neg (by omega), if_neg (by omega)]
    · split
      · unfold opFault; simp only; rw [if_neg (by omega), if_neg (by omega), if_neg (by omega), if_neg (by omega)]
      · unfold opFault; simp only; rw [if_neg (by omega), if_neg (by omega), if_neg (by omega), if_neg (by omega)]

/-- one raw thing more: the requests so far, the next numbers -/
def reqStep (st : List Request × List Int) (r : Raw) : List Request × List Int :=
  let c := 1 + picked r.c 4
  let nx := if st.2.getD c.toNat 0 = 0 ∨ 0 < picked r.a 4 then st.2.set c.toNat (st.2.getD c.toNat 0 + 1) else st.2
  (st.1 ++ [⟨c, nx.getD c.toNat 0, rawOp r⟩], nx)
def reqsOf (l : List Raw) : List Request × List Int := l.foldl reqStep ([], [0, 0, 0, 0, 0])
def requests (l : List Raw) (most : Nat) : List Request := (reqsOf (l.take most)).1
theorem reqsOf_snoc (l : List Raw) (r : Raw) : reqsOf (l ++ [r]) = reqStep (reqsOf l) r := by unfold reqsOf; rw [List.foldl_append]; rfl
theorem rev_list {α : Type} {P : List α → Prop} (h0 : P []) (h1 : ∀ l a, P l → P (l ++ [a])) : ∀ l, P l := by
  intro l
  have : ∀ n (l : List α), l.length = n → P l := by
    intro n
    induction n with
    | zero => intro l hl; rw [List.length_eq_zero_iff] at hl; subst hl; exact h0
    | succ n ih =>
      intro l hl
      have hne : l ≠ [] := by intro e; subst e; cases hl
      rw [← List.dropLast_concat_getLast hne]
      exact h1 _ _ (ih _ (by rw [List.length_dropLast]; omega))
  exact this _ l rfl
structure ReqsOk (l : List Raw) (st : List Request × List Int) : Prop where
  len : st.1.length = l.length
  five : st.2.length = 5
  nums : ∀ x ∈ st.2, 0 ≤ x ∧ x ≤ l.length
  each : ∀ q ∈ st.1, 1 ≤ q.client ∧ q.client ≤ 4 ∧ 1 ≤ q.num ∧ q.num ≤ l.length ∧ opFault q.op = 0
theorem getD_mem {α : Type} {l : List α} {n : Nat} {d : α} (h : n < l.length) : l.getD n d ∈ l := by
  rw [List.getD_eq_getElem?_getD, List.getElem?_eq_getElem h]
  exact List.getElem_mem h
theorem reqs_ok : ∀ l : List Raw, ReqsOk l (reqsOf l) := by
  refine rev_list ⟨rfl, rfl, ?_, ?_⟩ fun l r ih => ?_
  · intro x hx
    simp only [reqsOf, List.foldl_nil, List.mem_cons, List.not_mem_nil, or_false] at hx
    rcases hx with rfl | rfl | rfl | rfl | rfl <;> simp
  · intro q hq; cases hq
  · rw [reqsOf_snoc]
    obtain ⟨h1, h2, h3, h4⟩ := ih
    have hc := picked_lt (n := r.c) (many := 4) (by omega)
    have hcl : (1 + picked r.c 4).toNat < (reqsOf l).2.length := by omega
    have hg := h3 _ (getD_mem (d := 0) hcl)
    have hnx : ∀ x ∈ (reqStep (reqsOf l) r).2, 0 ≤ x ∧ x ≤ (l.length : Int) + 1 := by
      intro x hx
      simp only [reqStep] at hx
      split at hx
      · rcases List.mem_or_eq_of_mem_set hx with h' | rfl
        · have := h3 x h'; omega
        · omega
      · have := h3 x hx; omega
    have hnl : (reqStep (reqsOf l) r).2.length = 5 := by
      simp only [reqStep]
      split
      · rw [List.length_set]; exact h2
      · exact h2
    refine ⟨by simp [reqStep, h1], hnl, fun x hx => by have := hnx x hx; simp; omega, fun q hq => ?_⟩
    simp only [reqStep, List.mem_append, List.mem_singleton] at hq
    simp only [List.length_append, List.length_cons, List.length_nil]
    rcases hq with hq | hq
    · obtain ⟨a, b, c, d, e⟩ := h4 q hq
      exact ⟨a, b, c, by omega, e⟩
    · subst hq
      refine ⟨by simp only; omega, by simp only; omega, ?_, ?_, rawOp_ok r⟩
      · simp only
        split
        · rw [List.getD_eq_getElem?_getD, List.getElem?_set_self hcl]
          simp only [Option.getD_some]
          omega
        · rename_i hn
          have : (reqsOf l).2.getD (1 + picked r.c 4).toNat 0 ≠ 0 := fun e => hn (.inl e)
          omega
      · have hm := hnx _ (getD_mem (l := (reqStep (reqsOf l) r).2) (d := 0) (by rw [hnl]; omega) : (reqStep (reqsOf l) r).2.getD (1 + picked r.c 4).toNat 0 ∈ _)
        have hm2 := hm.2
        simp only [reqStep] at hm2
        simp only
        omega
theorem requests_ok (l : List Raw) (most : Nat) (hm : most ≤ 1048576) : ∀ q ∈ requests l most, reqFault q = 0 := by
  intro q hq
  obtain ⟨a, b, c, d, e⟩ := (reqs_ok (l.take most)).each q hq
  have : (l.take most).length ≤ most := by rw [List.length_take]; omega
  unfold reqFault
  rw [if_neg (by omega)]
  exact e

def rawAct (clients : Int) (r : Raw) : Act :=
  let k := picked r.kind 60
  let c := picked r.a clients
  let R := picked r.b 3
  if k < 6 then ⟨1, c, 0, 0, 0, rawOp ⟨r.kind.tdiv 60, r.b, r.c, 0⟩⟩
  else if k < 14 then ⟨2, c, R, 0, 0, op0⟩
  else if k < 20 then ⟨3, c, R, 0, 0, op0⟩
  else if k < 24 then ⟨4, 0, R, 0, 0, op0⟩
  else if k < 26 then ⟨5, 0, R, 0, 0, op0⟩
  else if k = 26 then ⟨7, 0, 0, picked r.c 5, 0, op0⟩
  else if k = 27 then ⟨8, 0, 0, picked r.c 5, 0, op0⟩
  else if k = 28 then ⟨9, 0, R, 0, 0, op0⟩
  else if k = 29 then ⟨10, 0, 0, picked r.c 5, picked r.a 60, op0⟩
  else ⟨6, 0, 0, picked r.c 5 * picked r.a 2, 0, op0⟩
def rawActs (l : List Raw) (most : Nat) (clients : Int) : List Act := (l.take most).map (rawAct clients)
end Scu
/- Words: raw things in a row that came in. Walks: scullingkeep.picked. -/
namespace Go.Proofs.YtfpiembhlgcelaaDoor
set_option linter.unusedVariables false
set_option linter.unusedSimpArgs false
open Go.RowKit Go.ChangeShapes Go.WideShapes Go.ChangeAt
set_option maxHeartbeats 1000000
set_option maxRecDepth 100000

/-- Numbers as a machine has them. -/
def InI (n : Int) : Prop := -9223372036854775808 ≤ n ∧ n ≤ 9223372036854775807
def rawV (r : Scu.Raw) : List Value := [.int .i64 r.kind, .int .i64 r.a, .int .i64 r.b, .int .i64 r.c]
def RawIn (r : Scu.Raw) : Prop := InI r.kind ∧ InI r.a ∧ InI r.b ∧ InI r.c
def RawE (_ : World) (_ : Nat) (cs : List Value) (r : Scu.Raw) : Prop := cs = rawV r ∧ RawIn r
theorem ini_of {n : Int} (h : (Lit.int .i64 n).wf = true) : InI n := by
  have h' : IntKind.i64.min ≤ n ∧ n ≤ 9223372036854775807 := by simpa [Lit.wf] using h
  have hm : IntKind.i64.min = -9223372036854775808 := by decide
  unfold InI
  omega
theorem cells_raw : Tryd.prog.cellsOf 43 = 4 := by kernel_rfl
theorem bytes_raw : Tryd.prog.bytesOf 43 = 32 := by kernel_rfl
section
variable {H : Type} {enc : TypeId × Value → H} {w : World} {base : Nat} {spare : Nat → Bool} {held : Bool} {n : Nat}
theorem trod_raw {cs : List Value} {x : DataW H × List MemPlace} (h : DataW.trod enc Tryd.prog w base spare held n 43 cs = some x) : ∃ r, RawE w w.heap.size cs r := by
  obtain ⟨xs, m, _, hxe, hl, hxl, hf⟩ := DataW.trod_struct Tryd.underlying43 h
  rw [cells_raw] at hl
  match cs, hl with
  | [c0, c1, c2, c3], _ =>
    have hxl4 : xs.length = 4 := hxl
    match xs, hxl4 with
    | [z0, z1, z2, z3], _ =>
      obtain ⟨n0, h0, _, w0⟩ := DataW.trod_int Tryd.underlying3 (hf 0 _ rfl)
      obtain ⟨n1, h1, _, w1⟩ := DataW.trod_int Tryd.underlying3 (hf 1 _ rfl)
      obtain ⟨n2, h2, _, w2⟩ := DataW.trod_int Tryd.underlying3 (hf 2 _ rfl)
      obtain ⟨n3, h3, _, w3⟩ := DataW.trod_int Tryd.underlying3 (hf 3 _ rfl)
      simp [cells_int] at h0 h1 h2 h3
      subst h0 h1 h2 h3
      exact ⟨⟨n0, n1, n2, n3⟩, rfl, ini_of w0, ini_of w1, ini_of w2, ini_of w3⟩
def IsRaws (w : World) (B : Nat) (v : Value) (l : List Scu.Raw) : Prop := IsRow 43 4 32 RawE w B v l
theorem openS_Raws {v : Value} {d : DataW H} {p : List MemPlace} {b0 : Nat} (hv : Value.okWide Tryd.prog w .any b0 22 v) (h : DataW.Trod enc Tryd.prog w base spare held 22 v d p)
    (hw : ∀ k ∈ d.weights Tryd.prog 22, k ≤ reachBytes) : ∃ y, IsRaws w w.heap.size v y := by
  obtain ⟨a, len, cap, rfl⟩ := okWide_slice Tryd.underlying22 hv
  obtain ⟨fuel, hf⟩ := h
  exact trod_row (⟨0, 0, 0, 0⟩ : Scu.Raw) Tryd.underlying22 cells_raw bytes_raw (by omega) (fun h _ => trod_raw h) hf hw
end
theorem IsRaws.below {w w' : World} {B : Nat} {v : Value} {l : List Scu.Raw} (h : IsRaws w B v l) (hb : Below w.heap.size w w') : IsRaws w' B v l := IsRow.same (Ts := [43]) h (by simp) (Same.below hb) (fun _ _ h => h)
theorem IsRaws.same {w w' : World} {B : Nat} {v : Value} {l : List Scu.Raw} {Ts : List TypeId} (h : IsRaws w B v l) (ht : 43 ∈ Ts) (hs : Same Ts B w w') : IsRaws w' B v l := IsRow.same (Ts := Ts) h ht hs (fun _ _ h => h)
/-- one raw thing of a row: its cells -/
theorem raw_at {w : World} {B : Nat} {v : Value} {l : List Scu.Raw} (h : IsRaws w B v l) {k : Nat} (hk : k < l.length) :
    ∃ g o c, v = .slice (some ⟨g, o, none⟩) l.length c ∧ g < w.heap.size ∧ (∀ j u, (rawV l[k])[j]? = some u → w.cell? ⟨g, o + (k * 4 + j), none⟩ = some u) ∧ RawIn l[k] := by
  obtain ⟨⟨A, c, css, rfl, hc, hl, hm, hr, h6⟩, _⟩ := h
  obtain ⟨g, o, cs, rfl, hg, _, hcs, rfl, hin⟩ := row_get hl hm (by omega) hr h6 hk
  exact ⟨g, o, c, rfl, hg, hcs, hin⟩
theorem IsRaws.form' {w : World} {B : Nat} {v : Value} {l : List Scu.Raw} (h : IsRaws w B v l) : ∃ A c, v = .slice A l.length c ∧ l.length ≤ c := by
  obtain ⟨A, c, _, e, hc, _⟩ := h.ex
  exact ⟨A, c, e, hc⟩
theorem IsRaws.cell_at {w : World} {B g o c : Nat} {l : List Scu.Raw} (h : IsRaws w B (.slice (some ⟨g, o, none⟩) l.length c) l) {k : Nat} (hk : k < l.length) (j : Nat) (hj : j < 4) : w.cell? ⟨g, o + k * 4 + j, none⟩ = (rawV l[k])[j]? := by
  obtain ⟨g', o', c', e, _, hc, _⟩ := raw_at h hk
  cases e
  have hl : (rawV l[k])[j]? = some ((rawV l[k])[j]'(by simpa [rawV] using hj)) := List.getElem?_eq_getElem _
  rw [hl, Nat.add_assoc]
  exact hc j _ hl
theorem picked_c (n many : Int) (hn : InI n) (hm : 1 ≤ many) (hm2 : many ≤ 9223372036854775807) (w : World) :
    Calls Tryd.prog 21 #[.int .i64 n, .int .i64 many] w fun e w' => e = .returned (.int .i64 (Scu.picked n many)) ∧ w = w' := by
  obtain ⟨h0, h1⟩ := hn
  have HR := Lib.hid (show Scu.picked n many = if n < 0 then (-(n + 1)) % many else n % many by unfold Scu.picked; split <;> rfl)
  have hmn : ¬ many = 0 := by omega
  by_cases h : n < 0
  · have HR2 := Lib.hid (show Scu.picked n many = (-(n + 1)) % many by rw [HR.out, if_pos h])
    go_enter Tryd.func21, Tryd.ntmps21
    go_wp2
    go_ret
    refine ⟨?_, rfl⟩
    rw [HR2.out]
    show Ending.returned (.int .i64 (-((n + 1).tmod many))) = _
    rw [← Int.neg_tmod, Int.tmod_eq_emod_of_nonneg (by omega)]
  · have HR2 := Lib.hid (show Scu.picked n many = n % many by rw [HR.out, if_neg h])
    go_enter Tryd.func21, Tryd.ntmps21
    go_wp2
    go_ret
    refine ⟨?_, rfl⟩
    rw [HR2.out]
    rfl
end Go.Proofs.YtfpiembhlgcelaaDoor
/- The table of powers of ten, out of a row's condition; the start that meets it. -/
namespace Go.Proofs.YtfpiembhlgcelaaDoor
open Go.ChangeShapes Go.WideShapes Go.ChangeAt Go.RowKit
set_option maxRecDepth 100000

def doorFuel : Nat := 24
theorem gPow : Tryd.prog.globalNamed "internal/strconv.uint64pow10" = some 0 := by kernel_rfl
theorem tPow : (Tryd.prog.globals[0]?).map (·.type) = some 183 := by kernel_rfl
theorem cells_pow : Tryd.prog.cellsOf 183 = 20 := by kernel_rfl
theorem cells_u64 : Tryd.prog.cellsOf 176 = 1 := by kernel_rfl
def Tab (w : World) : Prop := Lib.TabIs Tryd.prog w "internal/strconv.uint64pow10" .u64 Lib.pow10Tab
theorem tab_of {W : World} (h : laidMetH Tryd.prog Rows.entriesBackRow.laid W) : Tab W := by
  rw [MakeChecks.laidMetH_plain _ _ _ (by kernel_rfl)] at h
  exact Lib.tabIs_of_head gPow tPow Tryd.underlying183 Tryd.underlying176 cells_u64 cells_pow h.tail.tail
theorem Tab.below {w w' : World} (h : Tab w) (hb : Below w.heap.size w w') : Tab w' := by
  unfold Tab Lib.TabIs World.var? at h ⊢
  rw [gPow] at h ⊢
  simp only [Option.bind_some] at h ⊢
  have hlt : 0 < w.heap.size := by
    rcases Nat.lt_or_ge 0 w.heap.size with h' | h'
    · exact h'
    · rw [Array.getElem?_eq_none h'] at h; cases h
  rw [hb.block _ hlt]
  exact h
theorem door_shaped (os : Os) (args : Array Value) : ((World.doorLaid Tryd.prog doorFuel os).forCall (fun _ _ => 0) ⟨#[], args, []⟩).Shaped Tryd.prog := World.shaped_of_RefB (by kernel_rfl) (by kernel_rfl)
theorem door_met (os : Os) (args : Array Value) : laidMetH Tryd.prog Rows.entriesBackRow.laid ((World.doorLaid Tryd.prog doorFuel os).forCall (fun _ _ => 0) ⟨#[], args, []⟩).memory :=
  laidMetH_of_parts3 (fuel := 8) (laidMet_of_run' 8 (by kernel_rfl) (by kernel_rfl)) (by kernel_rfl) (by kernel_rfl)
end Go.Proofs.YtfpiembhlgcelaaDoor
/-
  DERIVED: THE SHELF's CONTRACTS AT THIS DUMP, IN PLAIN WORDS (tools/lay-plain.mjs out of 'DoorShelfTmp.lean', which tools/lay-shelf.mjs wrote): THE SAME DECLARATIONS UNDER THE SAME NAMES: 'import', 'namespace', 'open', 'def', 'theorem' AND NOTHING ELSE: no command of the shelf's: FOR A HAND-IN. Each laying: the table of numbers ('.._ren') and one theorem, a field a fact of the dump's own or the kernel's comparison; each contract: ONE APPLICATION.
-/
namespace Go.Proofs
open Go.Shelf
def Tryd.laysM171_ren : Go.Shelf.Ren := ⟨fun | 171 => 63 | 243 => 88 | 246 => 104 | 283 => 110 | 284 => 111 | 285 => 112 | 286 => 113 | 129 => 117 | 317 => 116 | 318 => 118 | 319 => 119 | 320 => 120 | 337 => 121 | 338 => 122 | n => n, fun | 3 => 3 | 9 => 9 | 2 => 2 | 4 => 4 | 171 => 175 | 0 => 0 | 53 => 176 | 37 => 68 | 5 => 5 | 173 => 179 | 212 => 183 | 51 => 184 | 20 => 20 | 213 => 185 | 46 => 159 | 232 => 189 | 233 => 190 | n => n, fun | 17 => 0 | 18 => 1 | 19 => 2 | n => n⟩
theorem Tryd.laysM171 : Go.Proofs.LaysM.n171 Tryd.prog Tryd.laysM171_ren := {
  mixed := by kernel_rfl
  f129 := Tryd.func117.trans (congrArg some (by kernel_rfl))
  f171 := Tryd.func63.trans (congrArg some (by kernel_rfl))
  f243 := Tryd.func88.trans (congrArg some (by kernel_rfl))
  f246 := Tryd.func104.trans (congrArg some (by kernel_rfl))
  f283 := Tryd.func110.trans (congrArg some (by kernel_rfl))
  f284 := Tryd.func111.trans (congrArg some (by kernel_rfl))
  f285 := Tryd.func112.trans (congrArg some (by kernel_rfl))
  f286 := Tryd.func113.trans (congrArg some (by kernel_rfl))
  f317 := Tryd.func116.trans (congrArg some (by kernel_rfl))
  f318 := Tryd.func118.trans (congrArg some (by kernel_rfl))
  f319 := Tryd.func119.trans (congrArg some (by kernel_rfl))
  f320 := Tryd.func120.trans (congrArg some (by kernel_rfl))
  f337 := Tryd.func121.trans (congrArg some (by kernel_rfl))
  f338 := Tryd.func122.trans (congrArg some (by kernel_rfl))
  t0 := Tryd.underlying0
  a0 := Tryd.isAgg0
  z0 := Tryd.sizeOf0
  v0 := Tryd.zeroValue0
  t2 := Tryd.underlying2
  a2 := Tryd.isAgg2
  z2 := Tryd.sizeOf2
  v2 := Tryd.zeroValue2
  t3 := Tryd.underlying3
  a3 := Tryd.isAgg3
  z3 := Tryd.sizeOf3
  v3 := Tryd.zeroValue3
  t4 := Tryd.underlying4
  a4 := Tryd.isAgg4
  z4 := Tryd.sizeOf4
  v4 := Tryd.zeroValue4
  t5 := Tryd.underlying5
  a5 := Tryd.isAgg5
  z5 := Tryd.sizeOf5
  v5 := Tryd.zeroValue5
  t9 := Tryd.underlying9
  a9 := Tryd.isAgg9
  z9 := Tryd.sizeOf9
  v9 := Tryd.zeroValue9
  t20 := Tryd.underlying20
  a20 := Tryd.isAgg20
  z20 := Tryd.sizeOf20
  v20 := Tryd.zeroValue20
  t37 := Tryd.underlying68
  a37 := Tryd.isAgg68
  z37 := Tryd.sizeOf68
  v37 := Tryd.zeroValue68
  t46 := Tryd.underlying159
  a46 := Tryd.isAgg159
  z46 := Tryd.sizeOf159
  v46 := Tryd.zeroValue159
  t51 := Tryd.underlying184
  a51 := Tryd.isAgg184
  z51 := Tryd.sizeOf184
  v51 := Tryd.zeroValue184
  t53 := Tryd.underlying176
  a53 := Tryd.isAgg176
  z53 := Tryd.sizeOf176
  v53 := Tryd.zeroValue176
  t171 := Tryd.underlying175
  a171 := Tryd.isAgg175
  z171 := Tryd.sizeOf175
  v171 := Tryd.zeroValue175
  t173 := Tryd.underlying179
  a173 := Tryd.isAgg179
  z173 := Tryd.sizeOf179
  v173 := Tryd.zeroValue179
  t212 := Tryd.underlying183
  a212 := Tryd.isAgg183
  z212 := Tryd.sizeOf183
  v212 := Tryd.zeroValue183
  t213 := Tryd.underlying185
  a213 := Tryd.isAgg185
  z213 := Tryd.sizeOf185
  t232 := Tryd.underlying189
  a232 := Tryd.isAgg189
  z232 := Tryd.sizeOf189
  v232 := Tryd.zeroValue189
  t233 := Tryd.underlying190
  a233 := Tryd.isAgg190
  z233 := Tryd.sizeOf190
  v233 := Tryd.zeroValue190
  g17 := by kernel_rfl
  g18 := by kernel_rfl
  g19 := by kernel_rfl
  i0 := by kernel_rfl
  i2 := by kernel_rfl
  i3 := by kernel_rfl
  i4 := by kernel_rfl
  i5 := by kernel_rfl
  i9 := by kernel_rfl
  i20 := by kernel_rfl
  i37 := by kernel_rfl
  i46 := by kernel_rfl
  i51 := by kernel_rfl
  i53 := by kernel_rfl
  i171 := by kernel_rfl
  i173 := by kernel_rfl
  i212 := by kernel_rfl
  i232 := by kernel_rfl
  i233 := by kernel_rfl
  m17 := by kernel_rfl
  m18 := by kernel_rfl
  m19 := by kernel_rfl }
open Go.RowKit Go.Sort Go.Lib in
/-- strconv.Itoa: "Itoa is equivalent to FormatInt(int64(i), 10).": i's DECIMAL NUMERAL ('Lib.itoa': a '-' where i is negative, then the digits), FOR EVERY int. The world behind the call: the world before it, new blocks behind the heap (the library's 'var a [24]byte'), draws. (LAID: no walk: one application.) -/
theorem Tryd.strconv_Itoa (n : Int) (h0 : -9223372036854775808 ≤ n) (h1 : n ≤ 9223372036854775807) (w : World) (htab : Lib.TabIs Tryd.prog w "internal/strconv.uint64pow10" .u64 Lib.pow10Tab) :
    Calls Tryd.prog 63 #[.int .i64 n] w fun e w' => e = .returned (.string ⟨(Lib.itoa n).toArray⟩) ∧ ∃ k os, w' = grow (w.drewN k) os := Any.strconv_Itoa Tryd.laysM171 n h0 h1 w htab
end Go.Proofs
/- Walks: scullingkeep.Op. -/
namespace Go.Proofs.YtfpiembhlgcelaaDoor
set_option linter.unusedVariables false
set_option linter.unusedSimpArgs false
open Go.RowKit
set_option maxHeartbeats 2000000
set_option maxRecDepth 100000

theorem itoa_b (n : Int) (h0 : -9223372036854775808 ≤ n) (h1 : n ≤ 9223372036854775807) (w : World) (ht : Tab w) :
    Calls Tryd.prog 63 #[.int .i64 n] w fun e w' => e = .returned (.string (Scu.numText n)) ∧ Below w.heap.size w w' := by
  refine (Tryd.strconv_Itoa n h0 h1 w ht).mono ?_
  rintro e w' ⟨rfl, k, os, rfl⟩
  exact ⟨rfl, Lib.below_grow _ _ (Nat.le_refl _) _ _⟩
theorem useK {P Q : Prop} (h : P) (k : P → Q) : Q := k h
theorem Tab.drewN {w : World} (h : Tab w) (n : Nat) : Tab (w.drewN n) := h
theorem Tab.drew {w : World} (h : Tab w) : Tab w.drew := h
theorem blk_set4' {W : World} {g : Nat} {t : TypeId} {a0 a1 a2 a3 b0 b1 b2 b3 : Value} (h : Blk W g t #[b0, b1, b2, b3]) : Blk ((((W.setCell ⟨g, 0, none⟩ a0).setCell ⟨g, 1, none⟩ a1).setCell ⟨g, 2, none⟩ a2).setCell ⟨g, 3, none⟩ a3) g t #[a0, a1, a2, a3] :=
  (((h.set_ 0 a0).set_ 1 a1).set_ 2 a2).set_ 3 a3
theorem below_set4' {W w0 : World} {B g : Nat} {a0 a1 a2 a3 : Value} (h : Below B w0 W) (hg : B ≤ g) : Below B w0 ((((W.setCell ⟨g, 0, none⟩ a0).setCell ⟨g, 1, none⟩ a1).setCell ⟨g, 2, none⟩ a2).setCell ⟨g, 3, none⟩ a3) :=
  (((h.setCell (p := ⟨g, 0, none⟩) hg _).setCell (p := ⟨g, 1, none⟩) hg _).setCell (p := ⟨g, 2, none⟩) hg _).setCell (p := ⟨g, 3, none⟩) hg _
theorem kop_1 (r : Scu.Raw) (hr : RawIn r) (h5 : Scu.picked r.kind 12 < 5) (w : World) (ht : Tab w) :
    Calls Tryd.prog 23 #[.agg #[.int .i64 r.kind, .int .i64 r.a, .int .i64 r.b, .int .i64 r.c]] w fun e w' => e = .returned (.agg #[.int .i64 1, .int .i64 (Scu.picked r.a 6), .int .i64 0, .string (Scu.wText (Scu.picked r.b 1000))]) ∧ Below w.heap.size w w' := by
  have hsz : (⟨#[119]⟩ : ByteArray).size + (Scu.numText (Scu.picked r.b 1000)).size ≤ 9223372036854775807 := by
    have h := Scu.picked_lt (n := r.b) (many := 1000) (by decide)
    have := Scu.wText_size h.1 h.2
    unfold Scu.wText at this
    rw [ByteArray.size_append] at this
    omega
  have hadd := fun w => run_string_add_sum (P := Tryd.prog) (w := w) (⟨#[119]⟩ : ByteArray) (Scu.numText (Scu.picked r.b 1000)) hsz
  clear hsz
  obtain ⟨hrk, hra, hrb, hrc⟩ := hr
  have ha := Scu.picked_lt (n := r.a) (many := 6) (by decide)
  have hb := Scu.picked_lt (n := r.b) (many := 1000) (by decide)
  have ha0 := ha.1
  have ha1 := ha.2
  have hb0 := hb.1
  have hb1 := hb.2
  have HT := Lib.hid ht
  clear ha hb ht
  obtain ⟨k, hk⟩ : ∃ k, Scu.picked r.kind 12 = k := ⟨_, rfl⟩
  rw [hk] at h5
  have HK := Lib.hid hk
  have hk0 : 0 ≤ k := by rw [← hk]; exact (Scu.picked_lt (by decide)).1
  clear hk
  go_enter Tryd.func23, Tryd.ntmps23
  go_wp2_with fail
  refine (picked_c _ _ hrk (by decide) (by decide) _).mono ?_; rintro e w' ⟨rfl, rfl⟩
  rw [HK.out]
  go_upto_region 2 with fail
  obtain ⟨Wd, hWd⟩ : ∃ W, W = (w.alloc (Obj.cells #[.int .i64 r.kind, .int .i64 r.a, .int .i64 r.b, .int .i64 r.c] 43)).alloc (Obj.cells #[.int .i64 0, .int .i64 0, .int .i64 0, .string ⟨#[]⟩] 26) := ⟨_, rfl⟩
  rw [← hWd]
  have hbd : Below w.heap.size w Wd := by rw [hWd]; exact (below_alloc w _).alloc (by simp) _
  have hr0 : Blk Wd w.heap.size 43 #[.int .i64 r.kind, .int .i64 r.a, .int .i64 r.b, .int .i64 r.c] := by rw [hWd]; exact (Blk.new w _ _).alloc _
  have hz0 : Blk Wd (w.heap.size + 1) 26 #[.int .i64 0, .int .i64 0, .int .i64 0, .string ⟨#[]⟩] := by rw [hWd]; exact Blk.new' (by simp)
  have HD := Lib.hid (And.intro hbd (And.intro hr0 hz0))
  have c1 := hr0.cell 1
  have c2 := hr0.cell 2
  have z0 := hz0.cell 0
  have z1 := hz0.cell 1
  have z2 := hz0.cell 2
  have z3 := hz0.cell 3
  simp only [List.getElem?_toArray, List.getElem?_cons_zero, List.getElem?_cons_succ] at c1 c2 z0 z1 z2 z3
  have cl := hr0.lt
  have zl := hz0.lt
  have zz := hz0.frozen
  clear hWd hbd hr0 hz0
  go_wp2_with fail
  go_region_held3 (fun w' => w'.cell? ⟨w.heap.size, 1, none⟩ = some (.int .i64 r.a) ∧ w'.cell? ⟨w.heap.size, 2, none⟩ = some (.int .i64 r.b))
    (first | (go_split_ands; (try dsimp only); (repeat' apply And.intro) <;> (with_reducible assumption)) | (go_split_ands; (try dsimp only); exact ⟨c1, c2⟩) | go_keep)
    (first
    | (go_at_call 21; refine (picked_c _ _ ?_ ?_ ?_ _).mono ?_; (first | exact hra | exact hrb | exact hrk); decide; decide; rintro e w' ⟨rfl, rfl⟩)
    | (go_at_call 63; refine (itoa_b (Scu.picked r.b 1000) (Int.le_trans (by decide) hb0) (Int.le_trans (Int.le_of_lt hb1) (by decide)) _ ((HT.out.below HD.out.1).drewN 1)).mono ?_; rintro e x1 ⟨rfl, k1'⟩
       refine useK (P := Below Wd.heap.size Wd x1) ?_ ?_
       exact (below_drewN (Below.refl _ _) 1).trans k1'
       intro nn1
       have M1 := Lib.hid nn1
       have d1 := (nn1.cell (p := ⟨w.heap.size, 1, none⟩) cl).trans c1
       have d2 := (nn1.cell (p := ⟨w.heap.size, 2, none⟩) cl).trans c2
       have hz1 := HD.out.2.2.same nn1
       have y0 := hz1.cell 0
       have y1 := hz1.cell 1
       have y2 := hz1.cell 2
       have y3 := hz1.cell 3
       simp only [List.getElem?_toArray, List.getElem?_cons_zero, List.getElem?_cons_succ] at y0 y1 y2 y3
       have yl := hz1.lt
       have yz := hz1.frozen
       clear nn1 k1' hz1))
  all_goals
    (try (rename_i hHeld; clear hHeld))
    obtain ⟨Wf, hWf⟩ : ∃ W, W = ((((x1.setCell ⟨w.heap.size + 1, 0, none⟩ (.int .i64 1)).setCell ⟨w.heap.size + 1, 1, none⟩ (.int .i64 (Scu.picked r.a 6))).setCell ⟨w.heap.size + 1, 2, none⟩ (.int .i64 0)).setCell ⟨w.heap.size + 1, 3, none⟩ (.string (⟨#[119]⟩ ++ Scu.numText (Scu.picked r.b 1000)))) := ⟨_, rfl⟩
    rw [← hWf]
    have hr5 : Blk Wf (w.heap.size + 1) 26 #[.int .i64 1, .int .i64 (Scu.picked r.a 6), .int .i64 0, .string (⟨#[119]⟩ ++ Scu.numText (Scu.picked r.b 1000))] := by rw [hWf]; exact blk_set4' (HD.out.2.2.same M1.out)
    have HL := Lib.hid (show Below w.heap.size w Wf from by rw [hWf]; exact (below_set4' (HD.out.1.trans (Below.mono M1.out HD.out.1.size)) (Nat.le_succ w.heap.size)))
    have q0 := hr5.cell 0
    have q1 := hr5.cell 1
    have q2 := hr5.cell 2
    have q3 := hr5.cell 3
    simp only [List.getElem?_toArray, List.getElem?_cons_zero, List.getElem?_cons_succ] at q0 q1 q2 q3
    clear hr5 hWf
    go_wp2
    refine bodyPost_ret (v := .agg #[.int .i64 1, .int .i64 (Scu.picked r.a 6), .int .i64 0, .string (⟨#[119]⟩ ++ Scu.numText (Scu.picked r.b 1000))]) (by simp [results, Tryd.results23, go_sem, q0, q1, q2, q3]) rfl ⟨rfl, HL.out⟩
theorem kop_2 (r : Scu.Raw) (hr : RawIn r) (h5 : Scu.picked r.kind 12 = 5) (w : World) (ht : Tab w) :
    Calls Tryd.prog 23 #[.agg #[.int .i64 r.kind, .int .i64 r.a, .int .i64 r.b, .int .i64 r.c]] w fun e w' => e = .returned (.agg #[.int .i64 2, .int .i64 (Scu.picked r.a 6), .int .i64 0, .string Scu.str0]) ∧ Below w.heap.size w w' := by
  obtain ⟨hrk, hra, hrb, hrc⟩ := hr
  have ha := Scu.picked_lt (n := r.a) (many := 6) (by decide)
  have hb := Scu.picked_lt (n := r.b) (many := 1000) (by decide)
  have ha0 := ha.1
  have ha1 := ha.2
  have hb0 := hb.1
  have hb1 := hb.2
  have HT := Lib.hid ht
  clear ha hb ht
  obtain ⟨k, hk⟩ : ∃ k, Scu.picked r.kind 12 = k := ⟨_, rfl⟩
  rw [hk] at h5
  have HK := Lib.hid hk
  have hk0 : 0 ≤ k := by rw [← hk]; exact (Scu.picked_lt (by decide)).1
  clear hk
  go_enter Tryd.func23, Tryd.ntmps23
  go_wp2_with fail
  refine (picked_c _ _ hrk (by decide) (by decide) _).mono ?_; rintro e w' ⟨rfl, rfl⟩
  rw [HK.out]
  go_upto_region 2 with fail
  obtain ⟨Wd, hWd⟩ : ∃ W, W = (w.alloc (Obj.cells #[.int .i64 r.kind, .int .i64 r.a, .int .i64 r.b, .int .i64 r.c] 43)).alloc (Obj.cells #[.int .i64 0, .int .i64 0, .int .i64 0, .string ⟨#[]⟩] 26) := ⟨_, rfl⟩
  rw [← hWd]
  have hbd : Below w.heap.size w Wd := by rw [hWd]; exact (below_alloc w _).alloc (by simp) _
  have hr0 : Blk Wd w.heap.size 43 #[.int .i64 r.kind, .int .i64 r.a, .int .i64 r.b, .int .i64 r.c] := by rw [hWd]; exact (Blk.new w _ _).alloc _
  have hz0 : Blk Wd (w.heap.size + 1) 26 #[.int .i64 0, .int .i64 0, .int .i64 0, .string ⟨#[]⟩] := by rw [hWd]; exact Blk.new' (by simp)
  have HD := Lib.hid (And.intro hbd (And.intro hr0 hz0))
  have c1 := hr0.cell 1
  have c2 := hr0.cell 2
  have z0 := hz0.cell 0
  have z1 := hz0.cell 1
  have z2 := hz0.cell 2
  have z3 := hz0.cell 3
  simp only [List.getElem?_toArray, List.getElem?_cons_zero, List.getElem?_cons_succ] at c1 c2 z0 z1 z2 z3
  have cl := hr0.lt
  have zl := hz0.lt
  have zz := hz0.frozen
  clear hWd hbd hr0 hz0
  subst h5
  go_wp2_with fail
  refine (picked_c _ _ hra (by decide) (by decide) _).mono ?_; rintro e w' ⟨rfl, rfl⟩
  go_wp2_with fail
  obtain ⟨Wf, hWf⟩ : ∃ W, W = ((((Wd.setCell ⟨w.heap.size + 1, 0, none⟩ (.int .i64 2)).setCell ⟨w.heap.size + 1, 1, none⟩ (.int .i64 (Scu.picked r.a 6))).setCell ⟨w.heap.size + 1, 2, none⟩ (.int .i64 0)).setCell ⟨w.heap.size + 1, 3, none⟩ (.string ⟨#[]⟩)) := ⟨_, rfl⟩
  rw [← hWf]
  have hr5 : Blk Wf (w.heap.size + 1) 26 #[.int .i64 2, .int .i64 (Scu.picked r.a 6), .int .i64 0, .string ⟨#[]⟩] := by rw [hWf]; exact blk_set4' (HD.out.2.2.same (Below.refl _ _))
  have HL := Lib.hid (show Below w.heap.size w Wf from by rw [hWf]; exact (below_set4' (HD.out.1.trans (Below.mono (Below.refl _ _) HD.out.1.size)) (Nat.le_succ w.heap.size)))
  have q0 := hr5.cell 0
  have q1 := hr5.cell 1
  have q2 := hr5.cell 2
  have q3 := hr5.cell 3
  simp only [List.getElem?_toArray, List.getElem?_cons_zero, List.getElem?_cons_succ] at q0 q1 q2 q3
  clear hr5 hWf
  go_wp2
  refine bodyPost_ret (v := .agg #[.int .i64 2, .int .i64 (Scu.picked r.a 6), .int .i64 0, .string ⟨#[]⟩]) (by simp [results, Tryd.results23, go_sem, q0, q1, q2, q3]) rfl ⟨rfl, HL.out⟩
theorem kop_3 (r : Scu.Raw) (hr : RawIn r) (h5 : Scu.picked r.kind 12 = 6) (w : World) (ht : Tab w) :
    Calls Tryd.prog 23 #[.agg #[.int .i64 r.kind, .int .i64 r.a, .int .i64 r.b, .int .i64 r.c]] w fun e w' => e = .returned (.agg #[.int .i64 4, .int .i64 0, .int .i64 0, .string Scu.str0]) ∧ Below w.heap.size w w' := by
  obtain ⟨hrk, hra, hrb, hrc⟩ := hr
  have ha := Scu.picked_lt (n := r.a) (many := 6) (by decide)
  have hb := Scu.picked_lt (n := r.b) (many := 1000) (by decide)
  have ha0 := ha.1
  have ha1 := ha.2
  have hb0 := hb.1
  have hb1 := hb.2
  have HT := Lib.hid ht
  clear ha hb ht
  obtain ⟨k, hk⟩ : ∃ k, Scu.picked r.kind 12 = k := ⟨_, rfl⟩
  rw [hk] at h5
  have HK := Lib.hid hk
  have hk0 : 0 ≤ k := by rw [← hk]; exact (Scu.picked_lt (by decide)).1
  clear hk
  go_enter Tryd.func23, Tryd.ntmps23
  go_wp2_with fail
  refine (picked_c _ _ hrk (by decide) (by decide) _).mono ?_; rintro e w' ⟨rfl, rfl⟩
  rw [HK.out]
  go_upto_region 2 with fail
  obtain ⟨Wd, hWd⟩ : ∃ W, W = (w.alloc (Obj.cells #[.int .i64 r.kind, .int .i64 r.a, .int .i64 r.b, .int .i64 r.c] 43)).alloc (Obj.cells #[.int .i64 0, .int .i64 0, .int .i64 0, .string ⟨#[]⟩] 26) := ⟨_, rfl⟩
  rw [← hWd]
  have hbd : Below w.heap.size w Wd := by rw [hWd]; exact (below_alloc w _).alloc (by simp) _
  have hr0 : Blk Wd w.heap.size 43 #[.int .i64 r.kind, .int .i64 r.a, .int .i64 r.b, .int .i64 r.c] := by rw [hWd]; exact (Blk.new w _ _).alloc _
  have hz0 : Blk Wd (w.heap.size + 1) 26 #[.int .i64 0, .int .i64 0, .int .i64 0, .string ⟨#[]⟩] := by rw [hWd]; exact Blk.new' (by simp)
  have HD := Lib.hid (And.intro hbd (And.intro hr0 hz0))
  have c1 := hr0.cell 1
  have c2 := hr0.cell 2
  have z0 := hz0.cell 0
  have z1 := hz0.cell 1
  have z2 := hz0.cell 2
  have z3 := hz0.cell 3
  simp only [List.getElem?_toArray, List.getElem?_cons_zero, List.getElem?_cons_succ] at c1 c2 z0 z1 z2 z3
  have cl := hr0.lt
  have zl := hz0.lt
  have zz := hz0.frozen
  clear hWd hbd hr0 hz0
  subst h5
  go_wp2_with fail
  obtain ⟨Wf, hWf⟩ : ∃ W, W = ((((Wd.setCell ⟨w.heap.size + 1, 0, none⟩ (.int .i64 4)).setCell ⟨w.heap.size + 1, 1, none⟩ (.int .i64 0)).setCell ⟨w.heap.size + 1, 2, none⟩ (.int .i64 0)).setCell ⟨w.heap.size + 1, 3, none⟩ (.string ⟨#[]⟩)) := ⟨_, rfl⟩
  rw [← hWf]
  have hr5 : Blk Wf (w.heap.size + 1) 26 #[.int .i64 4, .int .i64 0, .int .i64 0, .string ⟨#[]⟩] := by rw [hWf]; exact blk_set4' (HD.out.2.2.same (Below.refl _ _))
  have HL := Lib.hid (show Below w.heap.size w Wf from by rw [hWf]; exact (below_set4' (HD.out.1.trans (Below.mono (Below.refl _ _) HD.out.1.size)) (Nat.le_succ w.heap.size)))
  have q0 := hr5.cell 0
  have q1 := hr5.cell 1
  have q2 := hr5.cell 2
  have q3 := hr5.cell 3
  simp only [List.getElem?_toArray, List.getElem?_cons_zero, List.getElem?_cons_succ] at q0 q1 q2 q3
  clear hr5 hWf
  go_wp2
  refine bodyPost_ret (v := .agg #[.int .i64 4, .int .i64 0, .int .i64 0, .string ⟨#[]⟩]) (by simp [results, Tryd.results23, go_sem, q0, q1, q2, q3]) rfl ⟨rfl, HL.out⟩
theorem kop_4 (r : Scu.Raw) (hr : RawIn r) (h5 : 6 < Scu.picked r.kind 12) (w : World) (ht : Tab w) :
    Calls Tryd.prog 23 #[.agg #[.int .i64 r.kind, .int .i64 r.a, .int .i64 r.b, .int .i64 r.c]] w fun e w' => e = .returned (.agg #[.int .i64 3, .int .i64 (Scu.picked r.a 6), .int .i64 (max 0 (Scu.picked r.b 6 - 2)), .string Scu.str0]) ∧ Below w.heap.size w w' := by
  obtain ⟨hrk, hra, hrb, hrc⟩ := hr
  have ha := Scu.picked_lt (n := r.a) (many := 6) (by decide)
  have hb := Scu.picked_lt (n := r.b) (many := 6) (by decide)
  have ha0 := ha.1
  have ha1 := ha.2
  have hb0 := hb.1
  have hb1 := hb.2
  have HT := Lib.hid ht
  clear ha hb ht
  obtain ⟨k, hk⟩ : ∃ k, Scu.picked r.kind 12 = k := ⟨_, rfl⟩
  rw [hk] at h5
  have HK := Lib.hid hk
  have hk0 : 0 ≤ k := by rw [← hk]; exact (Scu.picked_lt (by decide)).1
  clear hk
  go_enter Tryd.func23, Tryd.ntmps23
  go_wp2_with fail
  refine (picked_c _ _ hrk (by decide) (by decide) _).mono ?_; rintro e w' ⟨rfl, rfl⟩
  rw [HK.out]
  go_upto_region 2 with fail
  obtain ⟨Wd, hWd⟩ : ∃ W, W = (w.alloc (Obj.cells #[.int .i64 r.kind, .int .i64 r.a, .int .i64 r.b, .int .i64 r.c] 43)).alloc (Obj.cells #[.int .i64 0, .int .i64 0, .int .i64 0, .string ⟨#[]⟩] 26) := ⟨_, rfl⟩
  rw [← hWd]
  have hbd : Below w.heap.size w Wd := by rw [hWd]; exact (below_alloc w _).alloc (by simp) _
  have hr0 : Blk Wd w.heap.size 43 #[.int .i64 r.kind, .int .i64 r.a, .int .i64 r.b, .int .i64 r.c] := by rw [hWd]; exact (Blk.new w _ _).alloc _
  have hz0 : Blk Wd (w.heap.size + 1) 26 #[.int .i64 0, .int .i64 0, .int .i64 0, .string ⟨#[]⟩] := by rw [hWd]; exact Blk.new' (by simp)
  have HD := Lib.hid (And.intro hbd (And.intro hr0 hz0))
  have c1 := hr0.cell 1
  have c2 := hr0.cell 2
  have z0 := hz0.cell 0
  have z1 := hz0.cell 1
  have z2 := hz0.cell 2
  have z3 := hz0.cell 3
  simp only [List.getElem?_toArray, List.getElem?_cons_zero, List.getElem?_cons_succ] at c1 c2 z0 z1 z2 z3
  have cl := hr0.lt
  have zl := hz0.lt
  have zz := hz0.frozen
  clear hWd hbd hr0 hz0
  have hk5 : ¬ k = 5 := by omega
  have hk6 : ¬ k = 6 := by omega
  have hwr : IntKind.i64.wrap (Scu.picked r.b 6 - 2) = Scu.picked r.b 6 - 2 := IntWalk.i64_in _ (by omega)
  go_wp2_with fail
  go_region_held3 (fun w' => w'.cell? ⟨w.heap.size, 1, none⟩ = some (.int .i64 r.a) ∧ w'.cell? ⟨w.heap.size, 2, none⟩ = some (.int .i64 r.b))
    (first | (go_split_ands; (try dsimp only); (repeat' apply And.intro) <;> (with_reducible assumption)) | (go_split_ands; (try dsimp only); exact ⟨c1, c2⟩) | go_keep)
    (first
    | (go_at_call 21; refine (picked_c _ _ ?_ ?_ ?_ _).mono ?_; (first | exact hra | exact hrb | exact hrk); decide; decide; rintro e w' ⟨rfl, rfl⟩))
  all_goals
    (try (rename_i hHeld; clear hHeld))
    obtain ⟨Wf, hWf⟩ : ∃ W, W = ((((Wd.setCell ⟨w.heap.size + 1, 0, none⟩ (.int .i64 3)).setCell ⟨w.heap.size + 1, 1, none⟩ (.int .i64 (Scu.picked r.a 6))).setCell ⟨w.heap.size + 1, 2, none⟩ (.int .i64 (max 0 (Scu.picked r.b 6 - 2)))).setCell ⟨w.heap.size + 1, 3, none⟩ (.string ⟨#[]⟩)).drew := ⟨_, rfl⟩
    rw [← hWf]
    have hr5 : Blk Wf (w.heap.size + 1) 26 #[.int .i64 3, .int .i64 (Scu.picked r.a 6), .int .i64 (max 0 (Scu.picked r.b 6 - 2)), .string ⟨#[]⟩] := by rw [hWf]; exact blk_set4' (HD.out.2.2.same (Below.refl _ _))
    have HL := Lib.hid (show Below w.heap.size w Wf from by rw [hWf]; exact (below_set4' (HD.out.1.trans (Below.mono (Below.refl _ _) HD.out.1.size)) (Nat.le_succ w.heap.size)).drew)
    have q0 := hr5.cell 0
    have q1 := hr5.cell 1
    have q2 := hr5.cell 2
    have q3 := hr5.cell 3
    simp only [List.getElem?_toArray, List.getElem?_cons_zero, List.getElem?_cons_succ] at q0 q1 q2 q3
    clear hr5 hWf
    go_wp2
    refine bodyPost_ret (v := .agg #[.int .i64 3, .int .i64 (Scu.picked r.a 6), .int .i64 (max 0 (Scu.picked r.b 6 - 2)), .string ⟨#[]⟩]) (by simp [results, Tryd.results23, go_sem, q0, q1, q2, q3]) rfl ⟨rfl, HL.out⟩
theorem kop_c (r : Scu.Raw) (hr : RawIn r) (w : World) (ht : Tab w) :
    Calls Tryd.prog 23 #[.agg #[.int .i64 r.kind, .int .i64 r.a, .int .i64 r.b, .int .i64 r.c]] w fun e w' => e = .returned (vOp (Scu.rawOp r)) ∧ Below w.heap.size w w' := by
  unfold Scu.rawOp
  split
  · exact kop_1 r hr ‹_› w ht
  · split
    · exact kop_2 r hr ‹_› w ht
    · split
      · exact kop_3 r hr ‹_› w ht
      · exact kop_4 r hr (by omega) w ht
theorem kop_o (r : Scu.Raw) (hr : RawIn r) (o : Scu.Op) (ho : Scu.rawOp r = o) (w : World) (ht : Tab w) :
    Calls Tryd.prog 23 #[.agg #[.int .i64 r.kind, .int .i64 r.a, .int .i64 r.b, .int .i64 r.c]] w fun e w' => e = .returned (.agg #[.int .i64 o.kind, .int .i64 o.at_, .int .i64 o.snap, .string o.data]) ∧ Below w.heap.size w w' := by
  have := kop_c r hr w ht
  rw [ho] at this
  exact this
end Go.Proofs.YtfpiembhlgcelaaDoor

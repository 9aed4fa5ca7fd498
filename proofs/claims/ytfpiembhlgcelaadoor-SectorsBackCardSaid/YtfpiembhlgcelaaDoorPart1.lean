/- Part 1: words and walks under the law 'EntriesBack'. -/
import Derived.Test.YtfpiembhlgcelaaDoorRows
import Derived.WalkKit
import Derived.ProofKit
import Derived.ClosedOfChecked
import Derived.Lib.ItoaNum
import Derived.Test.YtfpiembhlgcelaaDoorChecked
import Derived.WalkLawsBesides
import Derived.WalkSpells
import Derived.Deep.QuietTactic
import Derived.BigQuiet
import Derived.Lib.Hide
import Derived.Handy
import Derived.WalkSmall
import Derived.Deep.RegionWith
import Derived.Deep.RegionHeld3
import Derived.StillTailTactics
import Derived.Deep.Slices
import Derived.Deep.Fields
import Derived.Deep.Draws
import Derived.OpenShut
import Derived.ShutString
set_option linter.unusedVariables false
set_option linter.unusedSimpArgs false
/- Closed facts on the program that every row of this seat asks for: each a theorem of its own. -/
namespace Go.Proofs.YtfpiembhlgcelaaDoor
set_option maxRecDepth 1000000
def signs : List Nat := [104, 97, 114, 110, 101, 115, 115, 32, 102, 51, 50, 98, 99, 50, 51, 48, 102, 56, 50, 98, 50, 57, 49, 57, 50, 53, 102, 57, 50, 101, 48, 49, 53, 102, 51, 99, 53, 97, 55, 53, 50, 56, 48, 102, 52, 101, 102, 56, 98, 51, 99, 51, 57, 97, 101, 99, 50, 49, 102, 51, 99, 102, 49, 53, 49, 49, 51, 48, 99, 99, 99, 53, 32, 99, 117, 116, 32, 97, 116, 32, 115, 99, 117, 108, 108, 105, 110, 103, 47, 115, 99, 117, 108, 108, 105, 110, 103, 107, 101, 101, 112, 46, 69, 110, 116, 114, 105, 101, 115, 66, 97, 99, 107, 32, 115, 99, 117, 108, 108, 105, 110, 103, 47, 115, 99, 117, 108, 108, 105, 110, 103, 107, 101, 101, 112, 46, 83, 101, 99, 116, 111, 114, 115, 66, 97, 99, 107, 32, 115, 99, 117, 108, 108, 105, 110, 103, 47, 115, 99, 117, 108, 108, 105, 110, 103, 107, 101, 101, 112, 46, 80, 108, 97, 121, 115, 79, 110, 99, 101, 32, 115, 99, 117, 108, 108, 105, 110, 103, 47, 115, 99, 117, 108, 108, 105, 110, 103, 107, 101, 101, 112, 46, 83, 108, 111, 116, 115, 83, 112, 111, 105, 108, 116, 32, 115, 99, 117, 108, 108, 105, 110, 103, 47, 115, 99, 117, 108, 108, 105, 110, 103, 107, 101, 101, 112, 46, 83, 108, 111, 116, 115, 84, 111, 114, 110, 32, 115, 99, 117, 108, 108, 105, 110, 103, 47, 115, 99, 117, 108, 108, 105, 110, 103, 107, 101, 101, 112, 46, 76, 101, 97, 100, 101, 114, 115, 76, 101, 97, 100, 32, 115, 99, 117, 108, 108, 105, 110, 103, 47, 115, 99, 117, 108, 108, 105, 110, 103, 107, 101, 101, 112, 46, 86, 105, 101, 119, 115, 66, 101, 103, 105, 110, 32, 115, 99, 117, 108, 108, 105, 110, 103, 47, 115, 99, 117, 108, 108, 105, 110, 103, 107, 101, 101, 112, 46, 78, 101, 116, 115, 71, 111, 111, 100, 32, 115, 99, 117, 108, 108, 105, 110, 103, 47, 115, 99, 117, 108, 108, 105, 110, 103, 116, 111, 112, 46, 84, 111, 112, 65, 103, 114, 101, 101, 32, 115, 99, 117, 108, 108, 105, 110, 103, 47, 115, 99, 117, 108, 108, 105, 110, 103, 116, 111, 112, 46, 84, 111, 112, 83, 116, 97, 121, 115, 32, 115, 99, 117, 108, 108, 105, 110, 103, 47, 115, 99, 117, 108, 108, 105, 110, 103, 116, 111, 112, 46, 84, 111, 112, 84, 111, 108, 100, 32, 115, 99, 117, 108, 108, 105, 110, 103, 47, 115, 99, 117, 108, 108, 105, 110, 103, 116, 111, 112, 46, 84, 111, 112, 79, 114, 100, 101, 114, 32, 115, 99, 117, 108, 108, 105, 110, 103, 47, 115, 99, 117, 108, 108, 105, 110, 103, 116, 111, 112, 46, 84, 111, 112, 76, 101, 97, 100, 101, 114, 115, 32, 115, 99, 117, 108, 108, 105, 110, 103, 47, 115, 99, 117, 108, 108, 105, 110, 103, 116, 111, 112, 46, 84, 111, 112, 67, 114, 97, 115, 104, 32, 115, 99, 117, 108, 108, 105, 110, 103, 47, 115, 99, 117, 108, 108, 105, 110, 103, 116, 111, 112, 46, 84, 111, 112, 84, 119, 105, 99, 101]
theorem order_eq : Tryd.prog.initOrder = String.ofList (signs.map Char.ofNat) := by kernel_rfl
theorem order_list : Tryd.prog.initOrder.toList = signs.map Char.ofNat := by rw [order_eq]; exact String.toList_ofList
def words : List (List Nat) := [[99, 117, 116], [97, 116], [115, 99, 117, 108, 108, 105, 110, 103, 47, 115, 99, 117, 108, 108, 105, 110, 103, 107, 101, 101, 112, 46, 69, 110, 116, 114, 105, 101, 115, 66, 97, 99, 107], [115, 99, 117, 108, 108, 105, 110, 103, 47, 115, 99, 117, 108, 108, 105, 110, 103, 107, 101, 101, 112, 46, 83, 101, 99, 116, 111, 114, 115, 66, 97, 99, 107], [115, 99, 117, 108, 108, 105, 110, 103, 47, 115, 99, 117, 108, 108, 105, 110, 103, 107, 101, 101, 112, 46, 80, 108, 97, 121, 115, 79, 110, 99, 101], [115, 99, 117, 108, 108, 105, 110, 103, 47, 115, 99, 117, 108, 108, 105, 110, 103, 107, 101, 101, 112, 46, 83, 108, 111, 116, 115, 83, 112, 111, 105, 108, 116], [115, 99, 117, 108, 108, 105, 110, 103, 47, 115, 99, 117, 108, 108, 105, 110, 103, 107, 101, 101, 112, 46, 83, 108, 111, 116, 115, 84, 111, 114, 110], [115, 99, 117, 108, 108, 105, 110, 103, 47, 115, 99, 117, 108, 108, 105, 110, 103, 107, 101, 101, 112, 46, 76, 101, 97, 100, 101, 114, 115, 76, 101, 97, 100], [115, 99, 117, 108, 108, 105, 110, 103, 47, 115, 99, 117, 108, 108, 105, 110, 103, 107, 101, 101, 112, 46, 86, 105, 101, 119, 115, 66, 101, 103, 105, 110], [115, 99, 117, 108, 108, 105, 110, 103, 47, 115, 99, 117, 108, 108, 105, 110, 103, 107, 101, 101, 112, 46, 78, 101, 116, 115, 71, 111, 111, 100], [115, 99, 117, 108, 108, 105, 110, 103, 47, 115, 99, 117, 108, 108, 105, 110, 103, 116, 111, 112, 46, 84, 111, 112, 65, 103, 114, 101, 101], [115, 99, 117, 108, 108, 105, 110, 103, 47, 115, 99, 117, 108, 108, 105, 110, 103, 116, 111, 112, 46, 84, 111, 112, 83, 116, 97, 121, 115], [115, 99, 117, 108, 108, 105, 110, 103, 47, 115, 99, 117, 108, 108, 105, 110, 103, 116, 111, 112, 46, 84, 111, 112, 84, 111, 108, 100], [115, 99, 117, 108, 108, 105, 110, 103, 47, 115, 99, 117, 108, 108, 105, 110, 103, 116, 111, 112, 46, 84, 111, 112, 79, 114, 100, 101, 114], [115, 99, 117, 108, 108, 105, 110, 103, 47, 115, 99, 117, 108, 108, 105, 110, 103, 116, 111, 112, 46, 84, 111, 112, 76, 101, 97, 100, 101, 114, 115], [115, 99, 117, 108, 108, 105, 110, 103, 47, 115, 99, 117, 108, 108, 105, 110, 103, 116, 111, 112, 46, 84, 111, 112, 67, 114, 97, 115, 104], [115, 99, 117, 108, 108, 105, 110, 103, 47, 115, 99, 117, 108, 108, 105, 110, 103, 116, 111, 112, 46, 84, 111, 112, 84, 119, 105, 99, 101]]
theorem words_eq : behindMainWord (wordsSigns Tryd.prog.initOrder.toList) = words.map (·.map Char.ofNat) := by
  rw [order_list]
  kernel_rfl
def makeAt (P : Program) (W : List (List Char)) : Option Make := match W with
  | c :: rest => if c == "gc".toList || c == "spec".toList then some .whole else if c == "cut".toList || (c == "finals".toList && rest.head? == some "cut".toList) then some .cut else if c == "carried".toList then some .carried else if P.headLifts.isEmpty then none else some (.lifted P.headLifts)
  | [] => none
def mayAt (P : Program) (W : List (List Char)) : Bool := match W with
  | c :: rest =>
    ((c == "gc".toList || c == "spec".toList) && (rest.isEmpty || rest.head? == some "stop".toList)) ||
    (c == "carried".toList && rest.take 2 == ["gc".toList, "cut".toList] && !P.laysLater && !P.bearsReflect) ||
    ((stripLifts liftWords (c :: rest)).2.head? == some "cut".toList &&
      ((stripLifts liftWords (c :: rest)).1.contains "finals" || !P.laysLater) && ((stripLifts liftWords (c :: rest)).1.contains "reflectrows" || !P.bearsReflect) &&
      ((stripLifts liftWords (c :: rest)).1.contains "reflectrows" || !(stripLifts liftWords (c :: rest)).1.contains "leanrows") &&
      P.doorFits (stripLifts liftWords (c :: rest)).1)
  | [] => false
def liftsAt (ws : List (List Char)) : Bool :=
  (ws.head? == some "carried".toList && ws.take 3 != ["carried".toList, "gc".toList, "cut".toList]) || (if (stripLifts liftWords ws).2.head? == some "cut".toList then (stripLifts liftWords ws).1 else []).contains "finals"
theorem make_at {P : Program} {W : List (List Char)} (h : behindMainWord (wordsSigns P.initOrder.toList) = W) : P.make = makeAt P W := by subst h; rfl
theorem may_at {P : Program} {W : List (List Char)} (h : behindMainWord (wordsSigns P.initOrder.toList) = W) : P.mayEnter = mayAt P W := by subst h; rfl
theorem lifts_at {P : Program} {W : List (List Char)} (h : behindMainWord (wordsSigns P.initOrder.toList) = W) : P.liftsFinal = liftsAt W := by subst h; rfl
theorem f_mayEnter : Tryd.prog.mayEnter = true := (may_at words_eq).trans (by kernel_rfl)
theorem f_make : Tryd.prog.make = some .cut := (make_at words_eq).trans (by kernel_rfl)
theorem f_lifts : Tryd.prog.liftsFinal = false := (lifts_at words_eq).trans (by kernel_rfl)
theorem f_laid : laidOutB Tryd.prog = true := by kernel_rfl
theorem f_maps : mapsRowed Tryd.prog = true := by kernel_rfl
theorem f_keys : Tryd.prog.plainKeys = true := by kernel_rfl
theorem f_heard : Tryd.prog.stopsHeard = true := by kernel_rfl
theorem f_stops : Tryd.prog.stops = [] := by kernel_rfl
theorem f_knobs : Tryd.prog.stopKnobs = [] := by kernel_rfl
/-- The closed facts of a row, out of those of the program and what is left of them. -/
theorem facts_of {f : FuncId} {fn : Func} {s : ChangeSpec} {c : OpenClaim} (hm : c.make = .cut) (hl : c.lifted = false) (hp : c.plainKeys = true) (hst : c.stops = []) (hk : c.knobs = []) (hsh : c.shortTexts = none)
    (h1 : (c.wf (OpenSpec.ofChange s) && (fn.params.all (Tryd.prog.readableRec ·) && namedTie Tryd.prog c.named s.vars)) = true)
    (h2 : (c.inPlace == Tryd.prog.inPlace f) = true) (h3 : (c.unfollowed == Tryd.prog.unfollowed f) = true) (h4 : (c.recurses == Tryd.prog.recurses f) = true) (h5 : (c.named == Tryd.prog.varsNamed f) = true)
    (h6 : ((c.maps == (fn.params.toList ++ s.plain.varTypes Tryd.prog).any (Tryd.prog.mapsRec ·)) && (c.ifaces == (fn.params.toList ++ s.plain.varTypes Tryd.prog).any (Tryd.prog.ifacesRec ·)) && (c.mapsOut == Tryd.prog.mapsAmong fn.resultTypes.toList) &&
      (c.loops == (fn.params.toList ++ s.plain.varTypes Tryd.prog).any (Tryd.prog.loopsFrom ·)) && (c.wideKeys == (fn.params.toList ++ s.plain.varTypes Tryd.prog ++ fn.resultTypes.toList).any (Tryd.prog.wideKeysFrom ·)) &&
      s.vars.all (Tryd.prog.varReadable ·) && fn.resultTypes.all (fun t => Tryd.prog.readableRec t && decide (t < Tryd.prog.types.size)) && (c.ifacesOut == fn.resultTypes.toList.any (Tryd.prog.ifacesRec ·)) && (c.loopsOut == fn.resultTypes.toList.any (Tryd.prog.loopsFrom ·))) = true)
    (h7 : ((c.kinds == (if c.domain.isEmpty then [] else fn.params.toList.map fun t => match Tryd.prog.underlying t with | some (.int k) => some k | _ => none)) && (c.pinned == c.pinnedBy) &&
      ((c.veiled == (fn.params.toList ++ s.plain.varTypes Tryd.prog ++ fn.resultTypes.toList).any (Tryd.prog.veiledRec ·)) && c.veiledFits Tryd.prog fn.params.toList (fn.params.toList ++ s.plain.varTypes Tryd.prog ++ fn.resultTypes.toList))) = true) :
    joinedFacts Tryd.prog f fn s c = true := by
  simp only [Bool.and_eq_true] at h1 h6 h7
  obtain ⟨a1, a2, a3⟩ := h1
  obtain ⟨⟨⟨⟨⟨⟨⟨⟨b1, b2⟩, b3⟩, b4⟩, b5⟩, b6⟩, b7⟩, b8⟩, b9⟩ := h6
  obtain ⟨⟨c1, c2⟩, c3, c4⟩ := h7
  unfold joinedFacts
  simp only [Bool.and_eq_true]
  refine ⟨⟨⟨⟨⟨⟨⟨⟨⟨⟨⟨⟨⟨⟨⟨⟨⟨⟨⟨⟨⟨⟨⟨⟨⟨⟨⟨⟨⟨⟨⟨a1, f_laid⟩, f_maps⟩, a2⟩, a3⟩, ?_⟩, ?_⟩, ?_⟩, ?_⟩, h2⟩, h3⟩, h4⟩, h5⟩, b1⟩, b2⟩, b3⟩, b4⟩, b5⟩, b6⟩, b7⟩, b8⟩, b9⟩, ?_⟩, ?_⟩, f_heard⟩, f_mayEnter⟩, ?_⟩, ?_⟩, c1⟩, c2⟩, c3⟩, c4⟩
  · rw [hst]; rfl
  · rw [f_stops]; rfl
  · rw [hk]; rfl
  · rw [f_knobs]; rfl
  · rw [hp, f_keys]; rfl
  · rw [hsh]; rfl
  · rw [hl, f_lifts]; rfl
  · rw [f_make, hm]; exact beq_self_eq_true _
end Go.Proofs.YtfpiembhlgcelaaDoor
namespace Scu

abbrev Str := ByteArray

structure Op where
  kind : Int
  at_ : Int
  snap : Int
  data : Str
deriving DecidableEq

structure Reply where
  code : Int
  n : Int
  data : Str
deriving DecidableEq

structure Volume where
  now : List Str
  snaps : List (List Str)
deriving DecidableEq

structure Request where
  client : Int
  num : Int
  op : Op
deriving DecidableEq

structure Last where
  num : Int
  reply : Reply
deriving DecidableEq

structure State where
  volume : Volume
  lasts : List Last
deriving DecidableEq

structure Kept where
  view : Int
  normal : Int
  calm : Bool
  log : List Str
  commit : Int
deriving DecidableEq

structure Replica where
  me : Int
  kept : Kept
  have_ : List Int
  wants : List Bool
  gives : List Kept
  given : List Bool
deriving DecidableEq

structure Message where
  kind : Int
  from_ : Int
  to : Int
  view : Int
  normal : Int
  commit : Int
  n : Int
  log : List Str
deriving DecidableEq

structure Customer where
  id : Int
  next : Int
  wait : Request
deriving DecidableEq

structure Act where
  kind : Int
  c : Int
  r : Int
  k : Int
  n : Int
  op : Op
deriving DecidableEq

structure Told where
  request : Request
  reply : Reply
deriving DecidableEq

structure Outcome where
  replicas : List Replica
  slots : List (List Str)
  flying : List Message
  clients : List Customer
  told : List Told
  codes : List Int
deriving DecidableEq

def str0 : Str := ByteArray.empty
def op0 : Op := ⟨0, 0, 0, str0⟩
def reply0 : Reply := ⟨0, 0, str0⟩
def vol0 : Volume := ⟨[], []⟩
def req0 : Request := ⟨0, 0, op0⟩
def last0 : Last := ⟨0, reply0⟩
def state0 : State := ⟨vol0, []⟩
def kept0 : Kept := ⟨0, 0, false, [], 0⟩
def replica0 : Replica := ⟨0, kept0, [], [], [], []⟩
def msg0 : Message := ⟨0, 0, 0, 0, 0, 0, 0, []⟩

/- layer 1 -/
def b8 (n : Int) : UInt8 := UInt8.ofNat (n % 256).toNat
def numBytes (n : Int) : Str := ⟨#[b8 (n / 16777216), b8 (n / 65536), b8 (n / 256), b8 n]⟩
def number (n : Int) : Str × Int := if n < 0 ∨ 1073741824 < n then (str0, 2) else (numBytes n, 0)
def textBytes (s : Str) : Str := ⟨#[b8 s.size]⟩ ++ s
def text (s : Str) : Str × Int := if 255 < s.size then (str0, 1) else (textBytes s, 0)
def byteAt (s : Str) (i : Nat) : Int := ((s.data.toList.getD i 0).toNat : Int)
def num4 (s : Str) : Int := byteAt s 0 * 16777216 + byteAt s 1 * 65536 + byteAt s 2 * 256 + byteAt s 3
def dropS (s : Str) (k : Nat) : Str := s.extract k s.size
def readNumber (s : Str) : Int × Str × Int :=
  if s.size < 4 then (0, str0, 5)
  else if 1073741824 < num4 s then (0, str0, 4)
  else (num4 s, dropS s 4, 0)
def readText (s : Str) : Str × Str × Int :=
  if s.size = 0 then (str0, str0, 5)
  else if (s.size : Int) - 1 < byteAt s 0 then (str0, str0, 5)
  else (s.extract 1 (1 + byteAt s 0).toNat, dropS s (1 + byteAt s 0).toNat, 0)
def sealStep (p : Int × Int) (b : UInt8) : Int × Int :=
  let x := (p.1 + b.toNat) % 65521
  (x, (p.2 + x) % 65521)
def sealXY (l : List UInt8) : Int × Int := l.foldl sealStep (1, 0)
def sealS (s : Str) : Str :=
  let p := sealXY s.data.toList
  ⟨#[b8 (p.2 / 256), b8 p.2, b8 (p.1 / 256), b8 p.1]⟩

/- volume -/
def volNew : Volume := ⟨List.replicate 6 str0, []⟩
def sectorsOk (l : List Str) : Bool := l.length == 6 && l.all fun s => decide (s.size ≤ 8)
def volOk (v : Volume) : Bool := sectorsOk v.now && decide (v.snaps.length ≤ 3) && v.snaps.all sectorsOk
def volFault (v : Volume) : Int := if volOk v then 0 else 8
def opFault (o : Op) : Int :=
  if o.kind < 1 ∨ 4 < o.kind then 3
  else if o.at_ < 0 ∨ 6 ≤ o.at_ ∨ o.snap < 0 ∨ 3 < o.snap then 2
  else if (o.kind ≠ 3 ∧ o.snap ≠ 0) ∨ (o.kind = 4 ∧ o.at_ ≠ 0) ∨ (o.kind ≠ 1 ∧ o.data.size ≠ 0) then 4
  else if 8 < o.data.size then 1 else 0
def doIt (v : Volume) (o : Op) : Volume × Reply :=
  if o.kind = 1 ∨ o.kind = 2 then (⟨v.now.set o.at_.toNat o.data, v.snaps⟩, reply0)
  else if o.kind = 4 then
    if v.snaps.length = 3 then (v, { reply0 with code := 7 }) else (⟨v.now, v.snaps ++ [v.now]⟩, { reply0 with n := v.snaps.length + 1 })
  else if o.snap = 0 then (v, { reply0 with data := v.now.getD o.at_.toNat str0 })
  else if (v.snaps.length : Int) < o.snap then (v, { reply0 with code := 6 })
  else (v, { reply0 with data := (v.snaps.getD (o.snap - 1).toNat []).getD o.at_.toNat str0 })
def volDo (v : Volume) (o : Op) : Volume × Reply × Int :=
  if volFault v ≠ 0 then (vol0, reply0, volFault v)
  else if opFault o ≠ 0 then (vol0, reply0, opFault o)
  else ((doIt v o).1, (doIt v o).2, 0)

/- machine -/
def reqFault (r : Request) : Int := if r.client < 1 ∨ 4 < r.client ∨ r.num < 1 ∨ 1048576 < r.num then 2 else opFault r.op
def reqBytes (r : Request) : Str := ⟨#[b8 r.client, b8 r.op.kind, b8 r.op.at_, b8 r.op.snap]⟩ ++ numBytes r.num ++ textBytes r.op.data
def encode (r : Request) : Str × Int := if reqFault r ≠ 0 then (str0, reqFault r) else (reqBytes r, 0)
def decode (s : Str) : Request × Int :=
  if 40 < s.size then (req0, 1)
  else if s.size < 4 then (req0, 5)
  else
    let a := readNumber (dropS s 4)
    if a.2.2 ≠ 0 then (req0, a.2.2) else
    let b := readText a.2.1
    if b.2.2 ≠ 0 then (req0, b.2.2) else
    if b.2.1 ≠ str0 then (req0, 4) else
    let r : Request := ⟨byteAt s 0, a.1, ⟨byteAt s 1, byteAt s 2, byteAt s 3, b.1⟩⟩
    if reqFault r ≠ 0 then (req0, reqFault r) else (r, 0)
def stateNew : State := ⟨volNew, List.replicate 4 last0⟩
def lastsOk (l : List Last) : Bool := l.length == 4 && l.all fun x => decide (0 ≤ x.num) && decide (x.num ≤ 1048576)
def stateFault (s : State) : Int := if lastsOk s.lasts then volFault s.volume else 8
def applyIt (s : State) (r : Request) : State :=
  if r.num ≤ (s.lasts.getD (r.client - 1).toNat last0).num then s
  else ⟨(doIt s.volume r.op).1, s.lasts.set (r.client - 1).toNat ⟨r.num, (doIt s.volume r.op).2⟩⟩
def apply (s : State) (e : Str) : State × Int :=
  if stateFault s ≠ 0 then (state0, stateFault s)
  else if (decode e).2 ≠ 0 then (state0, (decode e).2)
  else (applyIt s (decode e).1, 0)
def playFrom (s : State) : List Str → State × Int
  | [] => (s, 0)
  | e :: l => if (apply s e).2 ≠ 0 then (state0, (apply s e).2) else playFrom (apply s e).1 l
def play (l : List Str) : State × Int := playFrom stateNew l

/- stage -/
def logFault : List Str → Int
  | [] => 0
  | e :: l => if (decode e).2 ≠ 0 then (decode e).2 else logFault l
def keptFault (k : Kept) : Int :=
  if k.view < 0 ∨ 1048576 < k.view ∨ k.normal < 0 ∨ k.view < k.normal ∨ (k.calm = true ∧ k.normal ≠ k.view) then 2
  else if 60 < k.log.length then 1
  else if k.commit < 0 ∨ (k.log.length : Int) < k.commit then 2
  else logFault k.log
def catS : List Str → Str
  | [] => str0
  | s :: l => s ++ catS l
def keptBody (k : Kept) (gen : Int) : Str :=
  numBytes gen ++ numBytes k.view ++ numBytes k.normal ++ numBytes (if k.calm then 1 else 0) ++ numBytes k.commit ++ numBytes k.log.length ++ catS (k.log.map textBytes)
def keptBytes (k : Kept) (gen : Int) : Str := sealS (keptBody k gen) ++ keptBody k gen
def stageEncode (k : Kept) (gen : Int) : Str × Int :=
  if keptFault k ≠ 0 then (str0, keptFault k)
  else if gen < 0 ∨ 1073741824 < gen then (str0, 2)
  else (keptBytes k gen, 0)
def readNumbers : Nat → Str → List Int × Str × Int
  | 0, s => ([], s, 0)
  | n + 1, s =>
    let a := readNumber s
    if a.2.2 ≠ 0 then ([], str0, a.2.2) else
    let b := readNumbers n a.2.1
    if b.2.2 ≠ 0 then ([], str0, b.2.2) else (a.1 :: b.1, b.2.1, 0)
def readTexts : Nat → Str → List Str × Str × Int
  | 0, s => ([], s, 0)
  | n + 1, s =>
    let a := readText s
    if a.2.2 ≠ 0 then ([], str0, a.2.2) else
    let b := readTexts n a.2.1
    if b.2.2 ≠ 0 then ([], str0, b.2.2) else (a.1 :: b.1, b.2.1, 0)
def stageDecode (s : Str) : Kept × Int × Int :=
  if 4000 < s.size then (kept0, 0, 1)
  else if s.size < 4 then (kept0, 0, 5)
  else if sealS (dropS s 4) ≠ s.extract 0 4 then (kept0, 0, 11)
  else
    let a := readNumbers 6 (dropS s 4)
    if a.2.2 ≠ 0 then (kept0, 0, a.2.2) else
    let l := a.1
    if 1 < l.getD 3 0 ∨ 60 < l.getD 5 0 then (kept0, 0, 4) else
    let b := readTexts (l.getD 5 0).toNat a.2.1
    if b.2.2 ≠ 0 then (kept0, 0, b.2.2) else
    if b.2.1 ≠ str0 then (kept0, 0, 4) else
    let k : Kept := ⟨l.getD 1 0, l.getD 2 0, l.getD 3 0 == 1, b.1, l.getD 4 0⟩
    if keptFault k ≠ 0 then (kept0, 0, keptFault k) else (k, l.getD 0 0, 0)
def keptNew : Kept := { kept0 with calm := true }
def stageNew : List Str := [keptBytes keptNew 0, str0]
def load (l : List Str) : Kept × Int × Int × Int :=
  if l.length ≠ 2 then (kept0, 0, 0, 4) else
  let a := stageDecode (l.getD 0 str0)
  let b := stageDecode (l.getD 1 str0)
  if a.2.2 ≠ 0 ∧ b.2.2 ≠ 0 then (kept0, 0, 0, 13)
  else if a.2.2 ≠ 0 ∨ (b.2.2 = 0 ∧ a.2.1 < b.2.1) then (b.1, b.2.1, 1, 0)
  else (a.1, a.2.1, 0, 0)
def upTo (s : Str) (n : Int) : Str := if 0 ≤ n ∧ n < s.size then s.extract 0 n.toNat else s
def store (l : List Str) (k : Kept) (upto : Int) : List Str × Int :=
  let a := load l
  if a.2.2.2 ≠ 0 then ([], a.2.2.2)
  else if a.2.1 = 1073741824 then ([], 7)
  else if keptFault k ≠ 0 then ([], keptFault k)
  else if upto < -1 then ([], 2)
  else (l.set (1 - a.2.2.1).toNat (upTo (keptBytes k (a.2.1 + 1)) upto), 0)

/- replica -/
def repNew (me : Int) (k : Kept) : Replica × Int :=
  if me < 0 ∨ 3 ≤ me then (replica0, 2)
  else if keptFault k ≠ 0 then (replica0, keptFault k)
  else (⟨me, k, [0, 0, 0], [false, false, false], [kept0, kept0, kept0], [false, false, false]⟩, 0)
def repFault (r : Replica) : Int :=
  if r.me < 0 ∨ 3 ≤ r.me then 2
  else if r.have_.length ≠ 3 ∨ r.wants.length ≠ 3 ∨ r.gives.length ≠ 3 ∨ r.given.length ≠ 3 then 8
  else if r.have_.any (fun h => decide (h < 0) || decide ((r.kept.log.length : Int) < h)) || r.gives.any (fun g => decide (keptFault g ≠ 0)) then 8
  else keptFault r.kept
def leader (view : Int) : Int := view % 3
def leads (r : Replica) : Bool := r.kept.calm && decide (leader r.kept.view = r.me)
def msgFault (m : Message) : Int :=
  if m.kind < 1 ∨ 4 < m.kind then 3
  else if m.from_ < 0 ∨ 3 ≤ m.from_ ∨ m.to < 0 ∨ 3 ≤ m.to ∨ m.from_ = m.to ∨ m.view < 0 ∨ 1048576 < m.view ∨ m.n < 0 ∨ 60 < m.n then 2
  else if (m.kind ≠ 4 ∧ m.normal ≠ 0) ∨ (m.kind ≠ 2 ∧ m.n ≠ 0) ∨ ((m.kind = 2 ∨ m.kind = 3) ∧ (m.commit ≠ 0 ∨ m.log ≠ [])) then 4
  else if (m.kind = 1 ∧ m.from_ ≠ leader m.view) ∨ ((m.kind = 2 ∨ m.kind = 4) ∧ m.to ≠ leader m.view) then 4
  else keptFault ⟨m.view, m.normal, false, m.log, m.commit⟩
def toAll (me view : Int) (m : Message) : List Message :=
  ([0, 1, 2].filter fun i => decide (i ≠ me)).map fun i => { m with from_ := me, to := i, view := view }
def fresh (r : Replica) : Replica :=
  { r with have_ := [0, 0, 0], wants := [false, false, false], gives := [kept0, kept0, kept0], given := [false, false, false] }
def leadOn (r : Replica) : List Message := toAll r.me r.kept.view { msg0 with kind := 1, commit := r.kept.commit, log := r.kept.log }
def want (r : Replica) (view : Int) : Replica × List Message :=
  let r1 := fresh { r with kept := { r.kept with view := view, calm := false } }
  let r2 := { r1 with wants := r1.wants.set r.me.toNat true }
  (r2, toAll r.me view { msg0 with kind := 3 })
def own (k : Kept) : Kept := { k with calm := false }
def better (a b : Kept) : Bool := decide (b.normal < a.normal) || (decide (a.normal = b.normal) && decide (b.log.length < a.log.length))
def bestOf (l : List (Kept × Bool)) : Kept := l.foldl (fun b g => if g.2 && better g.1 b then g.1 else b) { kept0 with normal := -1 }
def maxCommit (l : List (Kept × Bool)) : Int := l.foldl (fun c g => if g.2 then max c g.1.commit else c) 0
def begun (r : Replica) : Replica × List Message :=
  if r.given.getD r.me.toNat false = false then (r, [])
  else if r.given.countP id < 2 then (r, [])
  else
    let l := r.gives.zip r.given
    let b := bestOf l
    let r1 := fresh { r with kept := ⟨r.kept.view, r.kept.view, true, b.log, min (maxCommit l) b.log.length⟩ }
    (r1, leadOn r1)
def give1 (r : Replica) (i : Int) (k : Kept) : Replica :=
  { r with gives := r.gives.set i.toNat (own k), given := r.given.set i.toNat true }
def take1 (r : Replica) (i : Int) (k : Kept) : Replica × List Message := begun (give1 r i k)
def hearLead (r : Replica) (m : Message) : Replica × List Message :=
  let k := r.kept
  let r1 :=
    if k.view < m.view ∨ k.calm = false then
      fresh { r with kept := ⟨m.view, m.view, true, m.log, max m.commit (min k.commit m.log.length)⟩ }
    else if k.log.length < m.log.length then { r with kept := { k with log := m.log } } else r
  let r2 := { r1 with kept := { r1.kept with commit := max r1.kept.commit (min m.commit r1.kept.log.length) } }
  (r2, [{ msg0 with kind := 2, from_ := r.me, to := m.from_, view := r2.kept.view, n := r2.kept.log.length }])
def hearHas (r : Replica) (m : Message) : Replica × List Message :=
  if m.view ≠ r.kept.view ∨ leads r = false then (r, [])
  else
    let n := min m.n r.kept.log.length
    let r1 := { r with have_ := r.have_.set m.from_.toNat (max (r.have_.getD m.from_.toNat 0) n) }
    if r.kept.commit < n then
      let r2 := { r1 with kept := { r.kept with commit := n } }
      (r2, leadOn r2)
    else (r1, [])
def wantIf (r : Replica) (v : Int) : Replica × List Message := if r.kept.view < v then want r v else (r, [])
def hearWant (r : Replica) (m : Message) : Replica × List Message :=
  let a := wantIf r m.view
  if a.1.kept.calm = true ∨ a.1.wants.getD m.from_.toNat false = true then a
  else
    let r1 := { a.1 with wants := a.1.wants.set m.from_.toNat true }
    let to := leader r1.kept.view
    if to = r1.me then
      let b := take1 r1 to r1.kept
      (b.1, a.2 ++ b.2)
    else (r1, a.2 ++ [{ msg0 with kind := 4, from_ := r1.me, to := to, view := r1.kept.view, normal := r1.kept.normal, commit := r1.kept.commit, log := r1.kept.log }])
def hearGive (r : Replica) (m : Message) : Replica × List Message :=
  let a := wantIf r m.view
  if a.1.kept.calm = true then a
  else
    let r1 := if a.1.given.getD a.1.me.toNat false = false then give1 a.1 a.1.me a.1.kept else a.1
    let b := take1 r1 m.from_ ⟨m.view, m.normal, false, m.log, m.commit⟩
    (b.1, a.2 ++ b.2)
def hearIt (r : Replica) (m : Message) : Replica × List Message :=
  if m.kind = 1 then hearLead r m else if m.kind = 2 then hearHas r m else if m.kind = 3 then hearWant r m else hearGive r m
def hear (r : Replica) (m : Message) : Replica × List Message × Int :=
  if repFault r ≠ 0 then (replica0, [], repFault r)
  else if msgFault m ≠ 0 then (replica0, [], msgFault m)
  else if m.to ≠ r.me then (replica0, [], 6)
  else if m.view < r.kept.view then (replica0, [], 9)
  else ((hearIt r m).1, (hearIt r m).2, 0)
def take (r : Replica) (e : Str) : Replica × List Message × Int :=
  if repFault r ≠ 0 then (replica0, [], repFault r)
  else if leads r = false then (replica0, [], 14)
  else if r.kept.log.length = 60 then (replica0, [], 7)
  else if (decode e).2 ≠ 0 then (replica0, [], (decode e).2)
  else
    let r1 := { r with kept := { r.kept with log := r.kept.log ++ [e] } }
    (r1, leadOn r1, 0)
def tick (r : Replica) : Replica × List Message × Int :=
  if repFault r ≠ 0 then (replica0, [], repFault r)
  else if leads r = true then (r, leadOn r, 0)
  else if r.kept.calm = true then (r, [{ msg0 with kind := 2, from_ := r.me, to := leader r.kept.view, view := r.kept.view, n := r.kept.log.length }], 0)
  else
    let r1 := { r with wants := r.wants.set r.me.toNat true }
    (r1, toAll r.me r.kept.view { msg0 with kind := 3 }, 0)
def alarm (r : Replica) : Replica × List Message × Int :=
  if repFault r ≠ 0 then (replica0, [], repFault r)
  else if r.kept.view = 1048576 then (replica0, [], 7)
  else ((want r (r.kept.view + 1)).1, (want r (r.kept.view + 1)).2, 0)

/- net -/
structure Net where
  replicas : List Replica
  slots : List (List Str)
  flying : List Message
  clients : List Customer
  told : List Told
deriving DecidableEq

def sendAll (f l : List Message) : List Message := l.foldl (fun f m => if f.length < 80 then f ++ [m] else f) f
def crash (x : Net) (r : Nat) : Net × Int :=
  let a := load (x.slots.getD r [])
  if a.2.2.2 ≠ 0 then (x, a.2.2.2)
  else
    let b := repNew r a.1
    ({ x with replicas := x.replicas.set r b.1 }, b.2)
def settle (x : Net) (r : Nat) (next : Replica) (out : List Message) (upto : Int) : Net × Int :=
  if next.kept = (x.replicas.getD r replica0).kept ∧ upto < 0 then
    ({ x with replicas := x.replicas.set r next, flying := sendAll x.flying out }, 0)
  else
    let a := store (x.slots.getD r []) next.kept upto
    if a.2 ≠ 0 then (x, a.2)
    else
      let y := { x with slots := x.slots.set r a.1 }
      if 0 ≤ upto then crash y r
      else ({ y with replicas := y.replicas.set r next, flying := sendAll y.flying out }, 0)
def actMessage (x : Net) (a : Act) : Net × Int :=
  if a.k < 0 ∨ (x.flying.length : Int) ≤ a.k then (x, 6)
  else
    let m := x.flying.getD a.k.toNat msg0
    if a.kind = 8 then
      if x.flying.length = 80 then (x, 7) else ({ x with flying := x.flying ++ [m] }, 0)
    else if a.kind = 10 ∧ (a.n < 0 ∨ 4000 < a.n) then (x, 2)
    else
      let y := { x with flying := x.flying.eraseIdx a.k.toNat }
      if a.kind = 7 then (y, 0)
      else
        let h := hear (x.replicas.getD m.to.toNat replica0) m
        if h.2.2 ≠ 0 then (y, h.2.2)
        else settle y m.to.toNat h.1 h.2.1 (if a.kind = 10 then a.n else -1)
def actAt (x : Net) (a : Act) : Net × Int :=
  if a.r < 0 ∨ 3 ≤ a.r then (x, 6)
  else if a.kind = 9 then crash x a.r.toNat
  else
    let h := if a.kind = 5 then alarm (x.replicas.getD a.r.toNat replica0) else tick (x.replicas.getD a.r.toNat replica0)
    if h.2.2 ≠ 0 then (x, h.2.2)
    else settle x a.r.toNat h.1 h.2.1 (-1)
def cust0 : Customer := ⟨0, 0, req0⟩
def answer (x : Net) (c : Nat) (r : Replica) : Net × Int :=
  let cu := x.clients.getD c cust0
  if leads r = false then (x, 14)
  else
    let s := play (r.kept.log.take r.kept.commit.toNat)
    if s.2 ≠ 0 then (x, s.2)
    else
      let l := s.1.lasts.getD (cu.id - 1).toNat last0
      if l.num ≠ cu.wait.num then (x, 12)
      else ({ x with told := x.told ++ [⟨cu.wait, l.reply⟩], clients := x.clients.set c { cu with wait := req0 } }, 0)
def actBy (x : Net) (a : Act) : Net × Int :=
  if a.c < 0 ∨ (x.clients.length : Int) ≤ a.c then (x, 6)
  else
    let c := x.clients.getD a.c.toNat cust0
    if a.kind = 1 then
      if 0 < c.wait.num then (x, 12)
      else if opFault a.op ≠ 0 then (x, opFault a.op)
      else ({ x with clients := x.clients.set a.c.toNat ⟨c.id, c.next + 1, ⟨c.id, c.next, a.op⟩⟩ }, 0)
    else if c.wait.num = 0 then (x, 9)
    else if a.r < 0 ∨ 3 ≤ a.r then (x, 6)
    else if a.kind = 3 then answer x a.c.toNat (x.replicas.getD a.r.toNat replica0)
    else
      let s := encode c.wait
      if s.2 ≠ 0 then (x, s.2)
      else
        let h := take (x.replicas.getD a.r.toNat replica0) s.1
        if h.2.2 ≠ 0 then (x, h.2.2)
        else settle x a.r.toNat h.1 h.2.1 (-1)
def act (x : Net) (a : Act) : Net × Int :=
  if a.kind = 1 ∨ a.kind = 2 ∨ a.kind = 3 then actBy x a
  else if a.kind = 4 ∨ a.kind = 5 ∨ a.kind = 9 then actAt x a
  else if a.kind = 6 ∨ a.kind = 7 ∨ a.kind = 8 ∨ a.kind = 10 then actMessage x a
  else (x, 3)
def netNew (clients : Nat) : Net :=
  ⟨[(repNew 0 keptNew).1, (repNew 1 keptNew).1, (repNew 2 keptNew).1], [stageNew, stageNew, stageNew], [],
    (List.range clients).map fun c : Nat => ⟨(c : Int) + 1, 1, req0⟩, []⟩
def steps (x : Net) : List Act → Net × List Int
  | [] => (x, [])
  | a :: l => ((steps (act x a).1 l).1, (act x a).2 :: (steps (act x a).1 l).2)
def outcome0 : Outcome := ⟨[], [], [], [], [], []⟩
def run (clients : Int) (l : List Act) : Outcome × Int :=
  if clients < 1 ∨ 4 < clients then (outcome0, 2)
  else if 300 < l.length then (outcome0, 1)
  else
    let s := steps (netNew clients.toNat) l
    (⟨s.1.replicas, s.1.slots, s.1.flying, s.1.clients, s.1.told, s.2⟩, 0)

end Scu
/- Plain: raw things as operations, requests and acts. -/
namespace Scu

structure Raw where
  kind : Int
  a : Int
  b : Int
  c : Int
deriving DecidableEq

def picked (n many : Int) : Int := (if n < 0 then -(n + 1) else n) % many
theorem picked_lt {n many : Int} (h : 0 < many) : 0 ≤ picked n many ∧ picked n many < many := ⟨Int.emod_nonneg _ (by omega), Int.emod_lt_of_pos _ h⟩
def numText (n : Int) : Str := ⟨(Go.Lib.itoa n).toArray⟩
def wText (n : Int) : Str := ⟨#[119]⟩ ++ numText n
def rawOp (r : Raw) : Op :=
  if picked r.kind 12 < 5 then ⟨1, picked r.a 6, 0, wText (picked r.b 1000)⟩
  else if picked r.kind 12 = 5 then ⟨2, picked r.a 6, 0, str0⟩
  else if picked r.kind 12 = 6 then ⟨4, 0, 0, str0⟩
  else ⟨3, picked r.a 6, max 0 (picked r.b 6 - 2), str0⟩
theorem decDigits_three {i : Nat} (h : i < 1000) : (Go.Lib.decDigits i).length ≤ 3 := by
  rcases Nat.lt_or_ge i 10 with h1 | h1
  · rw [Go.Lib.decDigits_one h1]; simp
  · rcases Nat.lt_or_ge i 100 with h2 | h2
    · rw [Go.Lib.decDigits_two (by omega) h2]; simp
    · rw [Go.Lib.decDigits, dif_neg (by omega), List.length_append, Go.Lib.decDigits_two (by omega) (by omega)]; simp
theorem wText_size {n : Int} (h0 : 0 ≤ n) (h : n < 1000) : (wText n).size ≤ 4 := by
  unfold wText numText
  have h1 : (Go.Lib.itoa n).length ≤ 3 := by
    unfold Go.Lib.itoa
    rw [if_neg (by omega)]
    exact decDigits_three (by omega)
  rw [ByteArray.size_append]
  simp only [ByteArray.size]
  simp
  omega
theorem wText_pos (n : Int) : (wText n).size ≠ 0 := by
  unfold wText
  rw [ByteArray.size_append]
  simp only [ByteArray.size]
  simp
theorem rawOp_ok (r : Raw) : opFault (rawOp r) = 0 := by
  have h12 := picked_lt (n := r.kind) (many := 12) (by omega)
  have h6 := picked_lt (n := r.a) (many := 6) (by omega)
  have hb := picked_lt (n := r.b) (many := 6) (by omega)
  have h1000 := picked_lt (n := r.b) (many := 1000) (by omega)
  have hs := wText_size h1000.1 h1000.2
  have e0 : str0.size = 0 := rfl
  unfold rawOp
  split
  · unfold opFault; simp only; rw [if_neg (by omega), if_neg (by omega), if_neg (by omega), if_neg (by omega)]
  · split
    · unfold opFault; simp only; rw [if_neg (by omega), if_neg (by omega), if_neg (by omega), if_neg (by omega)]
    · split
      · unfold opFault; simp only; rw [if_neg (by omega), if_neg (by omega), if_neg (by omega), if_neg (by omega)]
      · unfold opFault; simp only; rw [if_neg (by omega), if_neg (by omega), if_neg (by omega), if_neg (by omega)]

/-- one raw thing more: the requests so far, the next numbers -/
def reqStep (st : List Request × List Int) (r : Raw) : List Request × List Int :=
  let c := 1 + picked r.c 4
  let nx := if st.2.getD c.toNat 0 = 0 ∨ 0 < picked r.a 4 then st.2.set c.toNat (st.2.getD c.toNat 0 + 1) else st.2
  (st.1 ++ [⟨c, nx.getD c.toNat 0, rawOp r⟩], nx)
def reqsOf (l : List Raw) : List Request × List Int := l.foldl reqStep ([], [0, 0, 0, 0, 0])
def requests (l : List Raw) (most : Nat) : List Request := (reqsOf (l.take most)).1
theorem reqsOf_snoc (l : List Raw) (r : Raw) : reqsOf (l ++ [r]) = reqStep (reqsOf l) r := by unfold reqsOf; rw [List.foldl_append]; rfl
theorem rev_list {α : Type} {P : List α → Prop} (h0 : P []) (h1 : ∀ l a, P l → P (l ++ [a])) : ∀ l, P l := by
  intro l
  have : ∀ n (l : List α), l.length = n → P l := by
    intro n
    induction n with
    | zero => intro l hl; rw [List.length_eq_zero_iff] at hl; subst hl; exact h0
    | succ n ih =>
      intro l hl
      have hne : l ≠ [] := by intro e; subst e; cases hl
      rw [← List.dropLast_concat_getLast hne]
      exact h1 _ _ (ih _ (by rw [List.length_dropLast]; omega))
  exact this _ l rfl
structure ReqsOk (l : List Raw) (st : List Request × List Int) : Prop where
  len : st.1.length = l.length
  five : st.2.length = 5
  nums : ∀ x ∈ st.2, 0 ≤ x ∧ x ≤ l.length
  each : ∀ q ∈ st.1, 1 ≤ q.client ∧ q.client ≤ 4 ∧ 1 ≤ q.num ∧ q.num ≤ l.length ∧ opFault q.op = 0
theorem getD_mem {α : Type} {l : List α} {n : Nat} {d : α} (h : n < l.length) : l.getD n d ∈ l := by
  rw [List.getD_eq_getElem?_getD, List.getElem?_eq_getElem h]
  exact List.getElem_mem h
theorem reqs_ok : ∀ l : List Raw, ReqsOk l (reqsOf l) := by
  refine rev_list ⟨rfl, rfl, ?_, ?_⟩ fun l r ih => ?_
  · intro x hx
    simp only [reqsOf, List.foldl_nil, List.mem_cons, List.not_mem_nil, or_false] at hx
    rcases hx with rfl | rfl | rfl | rfl | rfl <;> simp
  · intro q hq; cases hq
  · rw [reqsOf_snoc]
    obtain ⟨h1, h2, h3, h4⟩ := ih
    have hc := picked_lt (n := r.c) (many := 4) (by omega)
    have hcl : (1 + picked r.c 4).toNat < (reqsOf l).2.length := by omega
    have hg := h3 _ (getD_mem (d := 0) hcl)
    have hnx : ∀ x ∈ (reqStep (reqsOf l) r).2, 0 ≤ x ∧ x ≤ (l.length : Int) + 1 := by
      intro x hx
      simp only [reqStep] at hx
      split at hx
      · rcases List.mem_or_eq_of_mem_set hx with h' | rfl
        · have := h3 x h'; omega
        · omega
      · have := h3 x hx; omega
    have hnl : (reqStep (reqsOf l) r).2.length = 5 := by
      simp only [reqStep]
      split
      · rw [List.length_set]; exact h2
      · exact h2
    refine ⟨by simp [reqStep, h1], hnl, fun x hx => by have := hnx x hx; simp; omega, fun q hq => ?_⟩
    simp only [reqStep, List.mem_append, List.mem_singleton] at hq
    simp only [List.length_append, List.length_cons, List.length_nil]
    rcases hq with hq | hq
    · obtain ⟨a, b, c, d, e⟩ := h4 q hq
      exact ⟨a, b, c, by omega, e⟩
    · subst hq
      refine ⟨by simp only; omega, by simp only; omega, ?_, ?_, rawOp_ok r⟩
      · simp only
        split
        · rw [List.getD_eq_getElem?_getD, List.getElem?_set_self hcl]
          simp only [Option.getD_some]
          omega
        · rename_i hn
          have : (reqsOf l).2.getD (1 + picked r.c 4).toNat 0 ≠ 0 := fun e => hn (.inl e)
          omega
      · have hm := hnx _ (getD_mem (l := (reqStep (reqsOf l) r).2) (d := 0) (by rw [hnl]; omega) : (reqStep (reqsOf l) r).2.getD (1 + picked r.c 4).toNat 0 ∈ _)
        have hm2 := hm.2
        simp only [reqStep] at hm2
        simp only
        omega
theorem requests_ok (l : List Raw) (most : Nat) (hm : most ≤ 1048576) : ∀ q ∈ requests l most, reqFault q = 0 := by
  intro q hq
  obtain ⟨a, b, c, d, e⟩ := (reqs_ok (l.take most)).each q hq
  have : (l.take most).length ≤ most := by rw [List.length_take]; omega
  unfold reqFault
  rw [if_neg (by omega)]
  exact e

def rawAct (clients : Int) (r : Raw) : Act :=
  let k := picked r.kind 60
  let c := picked r.a clients
  let R := picked r.b 3
  if k < 6 then ⟨1, c, 0, 0, 0, rawOp ⟨r.kind.tdiv 60, r.b, r.c, 0⟩⟩
  else if k < 14 then ⟨2, c, R, 0, 0, op0⟩
  else if k < 20 then ⟨3, c, R, 0, 0, op0⟩
  else if k < 24 then ⟨4, 0, R, 0, 0, op0⟩
  else if k < 26 then ⟨5, 0, R, 0, 0, op0⟩
  else if k = 26 then ⟨7, 0, 0, picked r.c 5, 0, op0⟩
  else if k = 27 then ⟨8, 0, 0, picked r.c 5, 0, op0⟩
  else if k = 28 then ⟨9, 0, R, 0, 0, op0⟩
  else if k = 29 then ⟨10, 0, 0, picked r.c 5, picked r.a 60, op0⟩
  else ⟨6, 0, 0, picked r.c 5 * picked r.a 2, 0, op0⟩
def rawActs (l : List Raw) (most : Nat) (clients : Int) : List Act := (l.take most).map (rawAct clients)
end Scu
/- Small laws for the walks: bytes made into a string; what a world keeps. -/
namespace Go.Proofs.YtfpiembhlgcelaaDoor
open Go.RowKit

theorem b8_low {n : Int} (h0 : 0 ≤ n) (h1 : n < 256) : UInt8.ofNat n.toNat = Scu.b8 n := by
  unfold Scu.b8
  rw [Int.emod_eq_of_lt h0 h1]
theorem b8_mod (n : Int) : UInt8.ofNat (n % 256).toNat = Scu.b8 n := rfl

theorem conv_list (w : World) (xs : List Int) :
    (convert 68 9 (.slice (some ⟨w.heap.size, 0, none⟩) xs.length xs.length)).run Tryd.prog (w.alloc (.cells (xs.map (Value.int .u8)).toArray 5)) =
      .ok (.string (strOfNums xs)) (w.alloc (.cells (xs.map (Value.int .u8)).toArray 5)) := by
  refine run_convert_bytes_arg _ 68 5 Tryd.underlying68 Tryd.underlying5 w.heap.size 0 xs.length xs.length xs rfl (fun i hi => ?_) 9 Tryd.underlying9
  have := World.cell?_alloc_mark w (xs.map (Value.int .u8)).toArray 5 (0, 0) (0 + i)
  rw [this]
  simp [List.getElem?_eq_getElem hi, List.getD]
theorem conv_four (w : World) (g : Nat) (a b c d : Int) (hg : g = w.heap.size) :
    (convert 68 9 (.slice (some ⟨g, 0, none⟩) 4 4)).run Tryd.prog (w.alloc (.cells #[.int .u8 a, .int .u8 b, .int .u8 c, .int .u8 d] 5)) =
      .ok (.string (strOfNums [a, b, c, d])) (w.alloc (.cells #[.int .u8 a, .int .u8 b, .int .u8 c, .int .u8 d] 5)) := by subst hg; exact conv_list w [a, b, c, d]
theorem conv_one (w : World) (g : Nat) (a : Int) (hg : g = w.heap.size) :
    (convert 68 9 (.slice (some ⟨g, 0, none⟩) 1 1)).run Tryd.prog (w.alloc (.cells #[.int .u8 a] 5)) =
      .ok (.string (strOfNums [a])) (w.alloc (.cells #[.int .u8 a] 5)) := by subst hg; exact conv_list w [a]
theorem ret_pair {a b c d : Value} (h : a = c) (k : b = d) : Ending.returned (.tuple #[a, b]) = Ending.returned (.tuple #[c, d]) := by rw [h, k]
theorem ret_val {a b : Value} (h : a = b) : Ending.returned a = Ending.returned b := by rw [h]
theorem str_eq {a b : ByteArray} (h : a = b) : Value.string a = Value.string b := by rw [h]
theorem int_eq {k : IntKind} {a b : Int} (h : a = b) : Value.int k a = Value.int k b := by rw [h]
theorem bool_eq {a b : Bool} (h : a = b) : Value.bool a = Value.bool b := by rw [h]

/- bytes of a text -/
theorem byteAt_get (s : ByteArray) (i : Nat) (h : i < s.size) : ((s[i]'h).toNat : Int) = Scu.byteAt s i := by
  unfold Scu.byteAt
  have h' : i < s.data.toList.length := by simpa using h
  rw [List.getD_eq_getElem?_getD, List.getElem?_eq_getElem h']
  rfl
theorem byteAt_rng (s : ByteArray) (i : Nat) : 0 ≤ Scu.byteAt s i ∧ Scu.byteAt s i < 256 := by
  unfold Scu.byteAt
  have := (s.data.toList.getD i 0).toNat_lt
  omega
theorem ofInt_i64 (a : Nat) (ha : a < 9223372036854775808) : (BitVec.ofInt 64 (a : Int)).toNat = a := by
  rw [BitVec.ofInt_natCast, BitVec.toNat_ofNat]; exact Nat.mod_eq_of_lt (by omega)
theorem i64_or_nat (a b : Nat) (ha : a < 9223372036854775808) (hb : b < 9223372036854775808) : bits .or .i64 (a : Int) (b : Int) = ((a ||| b : Nat) : Int) := by
  have hx : a ||| b < 2 ^ 63 := Nat.or_lt_two_pow (by omega) (by omega)
  show IntKind.i64.wrap ((BitVec.ofInt 64 (a : Int) ||| BitVec.ofInt 64 (b : Int)).toNat : Int) = _
  rw [BitVec.toNat_or, ofInt_i64 a ha, ofInt_i64 b hb, IntKind.wrap_i64]
  omega
/-- 'x | y' where y lies below the bits of x -/
theorem i64_or_sum (k : Nat) (hk : k ≤ 32) (a y : Int) (ha : 0 ≤ a) (hx : a * (2 ^ k : Nat) < 9223372036854775808) (hy : 0 ≤ y) (hyk : y < (2 ^ k : Nat)) :
    bits .or .i64 (a * (2 ^ k : Nat)) y = a * (2 ^ k : Nat) + y := by
  obtain ⟨n, rfl⟩ := Int.eq_ofNat_of_zero_le ha
  obtain ⟨m, rfl⟩ := Int.eq_ofNat_of_zero_le hy
  have hm : m < 2 ^ k := by omega
  have e : ((n : Int) * (2 ^ k : Nat)) = ((n * 2 ^ k : Nat) : Int) := by push_cast; rfl
  rw [e] at hx ⊢
  have h1 : n * 2 ^ k < 9223372036854775808 := by omega
  have hs := Nat.shiftLeft_add_eq_or_of_lt hm n
  rw [Nat.shiftLeft_eq] at hs
  have hp : 2 ^ k ≤ 2 ^ 32 := Nat.pow_le_pow_right (by omega) hk
  rw [i64_or_nat _ _ h1 (by omega), ← hs]
  push_cast
  rfl
theorem i64_or8 (a y : Int) (ha : 0 ≤ a) (hx : a < 16777216) (hy : 0 ≤ y) (hyk : y < 256) : bits .or .i64 (a * 256) y = a * 256 + y :=
  i64_or_sum 8 (by omega) a y ha (by omega) hy (by omega)
theorem i64_or16 (a y : Int) (ha : 0 ≤ a) (hx : a < 16777216) (hy : 0 ≤ y) (hyk : y < 65536) : bits .or .i64 (a * 65536) y = a * 65536 + y :=
  i64_or_sum 16 (by omega) a y ha (by omega) hy (by omega)
theorem i64_or24 (a y : Int) (ha : 0 ≤ a) (hx : a < 16777216) (hy : 0 ≤ y) (hyk : y < 16777216) : bits .or .i64 (a * 16777216) y = a * 16777216 + y :=
  i64_or_sum 24 (by omega) a y ha (by omega) hy (by omega)
theorem or_bytes3 (a b : Int) (ha : 0 ≤ a) (ha' : a < 256) (hb : 0 ≤ b) (hb' : b < 256) : bits .or .i64 (a * 16777216) (b * 65536) = a * 16777216 + b * 65536 :=
  i64_or24 a _ ha (by omega) (by omega) (by omega)
theorem or_bytes2 (a b c : Int) (ha : 0 ≤ a) (ha' : a < 256) (hb : 0 ≤ b) (hb' : b < 256) (hc : 0 ≤ c) (hc' : c < 256) :
    bits .or .i64 (a * 16777216 + b * 65536) (c * 256) = a * 16777216 + b * 65536 + c * 256 := by
  have := i64_or16 (a * 256 + b) (c * 256) (by omega) (by omega) (by omega) (by omega)
  rw [show (a * 256 + b) * 65536 = a * 16777216 + b * 65536 by omega] at this
  exact this
theorem or_bytes1 (a b c d : Int) (ha : 0 ≤ a) (ha' : a < 256) (hb : 0 ≤ b) (hb' : b < 256) (hc : 0 ≤ c) (hc' : c < 256) (hd : 0 ≤ d) (hd' : d < 256) :
    bits .or .i64 (a * 16777216 + b * 65536 + c * 256) d = a * 16777216 + b * 65536 + c * 256 + d := by
  have := i64_or8 (a * 65536 + b * 256 + c) d (by omega) (by omega) (by omega) (by omega)
  rw [show (a * 65536 + b * 256 + c) * 256 = a * 16777216 + b * 65536 + c * 256 by omega] at this
  exact this
end Go.Proofs.YtfpiembhlgcelaaDoor
/- Words for memory: rows that are read, texts among them. -/
namespace Go.Proofs.YtfpiembhlgcelaaDoor
open Go.RowKit

def R47 : Nat := 140737488351232

/-- From 'A' on stand the cells 'cs': in a block below B, or in one whose elements are of the type t. -/
def Rd (w : World) (B : Nat) (t : TypeId) (A : Option Addr) (cs : List Value) : Prop :=
  cs = [] ∨ ∃ g o, A = some ⟨g, o, none⟩ ∧ g < w.heap.size ∧ (g < B ∨ ∃ C fz, w.heap[g]? = some (.cells C t fz)) ∧ ∀ (j : Nat) (u : Value), cs[j]? = some u → w.cell? ⟨g, o + j, none⟩ = some u

section
variable {w w' : World} {B B' : Nat} {t : TypeId} {A : Option Addr} {cs : List Value}
theorem Rd.nil : Rd w B t A [] := .inl rfl
theorem Rd.get {k : Nat} {u : Value} (h : Rd w B t A cs) (hk : cs[k]? = some u) : ∃ g o, A = some ⟨g, o, none⟩ ∧ g < w.heap.size ∧ w.cell? ⟨g, o + k, none⟩ = some u := by
  rcases h with rfl | ⟨g, o, h1, h2, _, h4⟩
  · simp at hk
  · exact ⟨g, o, h1, h2, h4 k u hk⟩
/-- What stays as it was keeps the row. -/
theorem Rd.keep (h : Rd w B t A cs) (hs : w.heap.size ≤ w'.heap.size) (hk : ∀ g, g < w.heap.size → (g < B ∨ ∃ C fz, w.heap[g]? = some (.cells C t fz)) → w'.heap[g]? = w.heap[g]?) : Rd w' B t A cs := by
  rcases h with h | ⟨g, o, h1, h2, h3, h4⟩
  · exact .inl h
  · have e := hk g h2 h3
    refine .inr ⟨g, o, h1, by omega, ?_, fun j u hj => ?_⟩
    · rw [e]; exact h3
    · rw [World.cell?_of_block (w := w) (w' := w') (a := ⟨g, o + j, none⟩) e]; exact h4 j u hj
theorem Rd.below (h : Rd w B t A cs) (hb : Below w.heap.size w w') : Rd w' B t A cs := h.keep hb.size fun g hg _ => hb.block g hg
theorem Rd.drew (h : Rd w B t A cs) : Rd w.drew B t A cs := h
theorem Rd.drewN (h : Rd w B t A cs) (n : Nat) : Rd (w.drewN n) B t A cs := h
theorem Rd.alloc (h : Rd w B t A cs) (o : Obj) : Rd (w.alloc o) B t A cs := h.keep (by simp) fun g hg _ => Below.heap_alloc w o g hg
theorem Rd.mono (h : Rd w B t A cs) (hB : B ≤ B') : Rd w B' t A cs := by
  rcases h with h | ⟨g, o, h1, h2, h3, h4⟩
  · exact .inl h
  · exact .inr ⟨g, o, h1, h2, h3.imp (by omega) id, h4⟩
/-- A store into another block, of another type. -/
theorem Rd.setCell (h : Rd w B t A cs) {p : Addr} {C : Array Value} {t' : TypeId} {fz : Nat × Nat} (hp : w.heap[p.block]? = some (.cells C t' fz)) (hB : B ≤ p.block) (ht : t' ≠ t) (u : Value) : Rd (w.setCell p u) B t A cs :=
  h.keep (by simp [World.setCell]) fun g hg hk => Below.heap_setCell w p u g (by
    rintro rfl
    rcases hk with hk | ⟨C', fz', hk⟩
    · omega
    · rw [hp] at hk
      cases hk
      exact ht rfl)
/-- Behind an append onto a row of another type. -/
theorem Rd.grown (h : Rd w B t A cs) {row : Option Nat} (hg : w.grownBy w' row) (hr : ∀ g, row = some g → B ≤ g ∧ ∀ C fz, w.heap[g]? ≠ some (.cells C t fz)) : Rd w' B t A cs :=
  h.keep hg.size fun g hlt hk => hg.block g hlt fun e => by
    obtain ⟨h1, h2⟩ := hr g e.symm
    rcases hk with hk | ⟨C, fz, hk⟩
    · omega
    · exact h2 C fz hk
theorem Rd.take (h : Rd w B t A cs) (n : Nat) : Rd w B t A (cs.take n) := by
  rcases h with h | ⟨g, o, h1, h2, h3, h4⟩
  · subst h; exact .inl (by simp)
  · exact .inr ⟨g, o, h1, h2, h3, fun j u hj => h4 j u (by
      have : j < n := by
        rcases Nat.lt_or_ge j n with h | h
        · exact h
        · rw [List.getElem?_eq_none (by rw [List.length_take]; omega)] at hj; cases hj
      rwa [List.getElem?_take_of_lt this] at hj)⟩
end

/-- A block that is known whole. -/
def Blk (w : World) (g : Nat) (t : TypeId) (cs : Array Value) : Prop := w.heap[g]? = some (.cells cs t (0, 0))
section
variable {w w' : World} {g : Nat} {t : TypeId} {cs : Array Value}
theorem Blk.lt (h : Blk w g t cs) : g < w.heap.size := by
  rcases Nat.lt_or_ge g w.heap.size with hlt | hge
  · exact hlt
  · unfold Blk at h; rw [Array.getElem?_eq_none hge] at h; cases h
theorem Blk.cell (h : Blk w g t cs) (i : Nat) : w.cell? ⟨g, i, none⟩ = cs[i]? := by
  unfold Blk at h
  simp [World.cell?, h]
theorem Blk.frozen (h : Blk w g t cs) (i : Nat) : w.frozen? ⟨g, i, none⟩ = false := by
  unfold Blk at h
  simp [World.frozen?, h]
theorem Blk.new (w : World) (t : TypeId) (cs : Array Value) : Blk (w.alloc (.cells cs t)) w.heap.size t cs := by
  show (w.heap.push _)[w.heap.size]? = _
  simp
theorem Blk.new' {w : World} {g : Nat} {t : TypeId} {cs : Array Value} (h : g = w.heap.size) : Blk (w.alloc (.cells cs t)) g t cs := by subst h; exact Blk.new w t cs
theorem Blk.drew (h : Blk w g t cs) : Blk w.drew g t cs := h
theorem Blk.drewN (h : Blk w g t cs) (n : Nat) : Blk (w.drewN n) g t cs := h
theorem Blk.alloc (h : Blk w g t cs) (o : Obj) : Blk (w.alloc o) g t cs := (Below.heap_alloc w o g h.lt).trans h
theorem Blk.far (h : Blk w g t cs) {p : Addr} (hp : g ≠ p.block) (u : Value) : Blk (w.setCell p u) g t cs := (Below.heap_setCell w p u g hp).trans h
theorem Blk.below {B : Nat} (h : Blk w g t cs) (hb : Below B w w') (hg : g < B) : Blk w' g t cs := (hb.block g hg).trans h
theorem Blk.set_ (h : Blk w g t cs) (i : Nat) (u : Value) : Blk (w.setCell ⟨g, i, none⟩ u) g t (cs.setIfInBounds i u) := by
  unfold Blk at h ⊢
  simp [World.setCell, Array.getElem?_modify, h]
theorem Blk.same (h : Blk w g t cs) (hb : Below w.heap.size w w') : Blk w' g t cs := h.below hb h.lt
end

theorem bcell {W w1 : World} {B : Nat} (hb : Below B W w1) : (∀ b o, b < B → w1.cell? ⟨b, o, none⟩ = W.cell? ⟨b, o, none⟩) ∧ (∀ b o, b < B → w1.frozen? ⟨b, o, none⟩ = W.frozen? ⟨b, o, none⟩) :=
  ⟨fun b o h => hb.cell (p := ⟨b, o, none⟩) h, fun b o h => hb.frozen (p := ⟨b, o, none⟩) h⟩
theorem below_box {w w' : World} {o : Obj} (h : Below (w.alloc o).heap.size (w.alloc o) w') : Below w.heap.size w w' :=
  ((Below.refl _ _).alloc (Nat.le_refl _) _).trans (h.mono (by simp))

theorem box_lt {w w' : World} {o : Obj} (h : Below (w.alloc o).heap.size (w.alloc o) w') : w.heap.size < w'.heap.size := by
  have := h.size
  simp at this
  omega
/-- A quiet call behind draws. -/
theorem quiet_at {P : Program} {f : FuncId} {args : Array Value} {w : World} {a : Nat} {v : Value}
    (h : Calls P f args (w.drewN a) fun e w' => e = .returned v ∧ ∃ m, w' = (w.drewN a).drewN m) :
    Calls P f args (w.drewN a) fun e w'' => e = .returned v ∧ ∃ m, w'' = w.drewN m :=
  h.mono fun _ _ ⟨he, m, hm⟩ => ⟨he, a + m, by rw [hm, World.drewN_drewN]⟩
theorem quiet_add {P : Program} {f : FuncId} {args : Array Value} {w : World} {a n : Nat} {v : Value}
    (h : Calls P f args (w.drewN (a + n)) fun e w' => e = .returned v ∧ ∃ m, w' = (w.drewN (a + n)).drewN m) :
    Calls P f args (w.drewN (a + n)) fun e w'' => e = .returned v ∧ ∃ m, w'' = w.drewN (a + m) :=
  h.mono fun _ _ ⟨he, m, hm⟩ => ⟨he, n + m, by rw [hm, World.drewN_drewN, Nat.add_assoc]⟩

/- texts -/
structure IsStrs (w : World) (B : Nat) (v : Value) (xs : List Scu.Str) : Prop where
  ex : ∃ A c, v = .slice A xs.length c ∧ xs.length ≤ c ∧ Rd w B 9 A (xs.map Value.string)
  len : xs.length * 16 ≤ R47
  each : ∀ s ∈ xs, s.size ≤ R47

section
variable {w w' : World} {B B' : Nat} {v : Value} {xs : List Scu.Str}
theorem IsStrs.below (h : IsStrs w B v xs) (hb : Below w.heap.size w w') : IsStrs w' B v xs := ⟨let ⟨A, c, h1, h2, h3⟩ := h.ex; ⟨A, c, h1, h2, h3.below hb⟩, h.len, h.each⟩
theorem IsStrs.drewN (h : IsStrs w B v xs) (n : Nat) : IsStrs (w.drewN n) B v xs := ⟨h.ex, h.len, h.each⟩
theorem IsStrs.alloc (h : IsStrs w B v xs) (o : Obj) : IsStrs (w.alloc o) B v xs := ⟨let ⟨A, c, h1, h2, h3⟩ := h.ex; ⟨A, c, h1, h2, h3.alloc o⟩, h.len, h.each⟩
theorem IsStrs.mono (h : IsStrs w B v xs) (hB : B ≤ B') : IsStrs w B' v xs := ⟨let ⟨A, c, h1, h2, h3⟩ := h.ex; ⟨A, c, h1, h2, h3.mono hB⟩, h.len, h.each⟩
theorem IsStrs.keep (h : IsStrs w B v xs) (hs : w.heap.size ≤ w'.heap.size) (hk : ∀ g, g < w.heap.size → (g < B ∨ ∃ C fz, w.heap[g]? = some (.cells C 9 fz)) → w'.heap[g]? = w.heap[g]?) : IsStrs w' B v xs :=
  ⟨let ⟨A, c, h1, h2, h3⟩ := h.ex; ⟨A, c, h1, h2, h3.keep hs hk⟩, h.len, h.each⟩
theorem IsStrs.nil_ : IsStrs w B (.slice none 0 0) [] := ⟨⟨none, 0, rfl, Nat.le_refl _, Rd.nil⟩, by simp [R47], fun s hs => by cases hs⟩
end
theorem str_get {w : World} {B : Nat} {A : Option Addr} {xs : List Scu.Str} {k : Nat} (h : Rd w B 9 A (xs.map Value.string)) (hk : k < xs.length) :
    ∃ g o, A = some ⟨g, o, none⟩ ∧ g < w.heap.size ∧ w.cell? ⟨g, o + k, none⟩ = some (.string xs[k]) :=
  h.get (by simp [hk])
theorem take_succ_eq {α : Type} [DecidableEq α] {xs ys : List α} {k : Nat} (h : xs.take k = ys.take k) (hx : k < xs.length) (hy : k < ys.length) (he : xs[k] = ys[k]) : xs.take (k + 1) = ys.take (k + 1) := by
  rw [List.take_succ_eq_append_getElem hx, List.take_succ_eq_append_getElem hy, h, he]
end Go.Proofs.YtfpiembhlgcelaaDoor
/- Walks: the laws' own comparisons. -/
namespace Go.Proofs.YtfpiembhlgcelaaDoor
open Go.RowKit
set_option maxHeartbeats 400000
set_option maxRecDepth 100000
theorem str_beq (a b : ByteArray) : (a.toList == b.toList) = decide (a = b) := by
  rw [ByteArray.toList_eq, ByteArray.toList_eq, Bool.eq_iff_iff, beq_iff_eq, decide_eq_true_eq]
  exact ⟨fun e => ByteArray.ext (Array.toList_inj.1 e), fun e => by rw [e]⟩

/- volumes -/
structure IsRows (w : World) (B : Nat) (v : Value) (xss : List (List Scu.Str)) : Prop where
  ex : ∃ A c vs, v = .slice A xss.length c ∧ xss.length ≤ c ∧ Rd w B 36 A vs ∧ vs.length = xss.length ∧ ∀ (j : Nat) (u : Value) (x : List Scu.Str), vs[j]? = some u → xss[j]? = some x → IsStrs w B u x
  len : xss.length * 24 ≤ R47
section
variable {w w' : World} {B B' : Nat} {v : Value} {xss : List (List Scu.Str)}
theorem IsRows.keep (h : IsRows w B v xss) (hs : w.heap.size ≤ w'.heap.size) (hk : ∀ g, g < w.heap.size → (g < B ∨ ∃ C fz t, (t = 9 ∨ t = 36) ∧ w.heap[g]? = some (.cells C t fz)) → w'.heap[g]? = w.heap[g]?) : IsRows w' B v xss :=
  ⟨let ⟨A, c, vs, h1, h2, h3, h4, h5⟩ := h.ex
   ⟨A, c, vs, h1, h2, h3.keep hs (fun g hg hh => hk g hg (hh.imp id fun ⟨C, fz, e⟩ => ⟨C, fz, _, .inr rfl, e⟩)), h4, fun j u x a b => (h5 j u x a b).keep hs (fun g hg hh => hk g hg (hh.imp id fun ⟨C, fz, e⟩ => ⟨C, fz, _, .inl rfl, e⟩))⟩, h.len⟩
theorem IsRows.below (h : IsRows w B v xss) (hb : Below w.heap.size w w') : IsRows w' B v xss := h.keep hb.size fun g hg _ => hb.block g hg
theorem IsRows.drewN (h : IsRows w B v xss) (n : Nat) : IsRows (w.drewN n) B v xss := h.keep (Nat.le_refl _) fun _ _ _ => rfl
theorem IsRows.alloc (h : IsRows w B v xss) (o : Obj) : IsRows (w.alloc o) B v xss := h.keep (by simp) fun g hg _ => Below.heap_alloc w o g hg
theorem IsRows.mono (h : IsRows w B v xss) (hB : B ≤ B') : IsRows w B' v xss :=
  ⟨let ⟨A, c, vs, h1, h2, h3, h4, h5⟩ := h.ex; ⟨A, c, vs, h1, h2, h3.mono hB, h4, fun j u x a b => (h5 j u x a b).mono hB⟩, h.len⟩
end
theorem rows_get {w : World} {B : Nat} {A : Option Addr} {vs : List Value} {xss : List (List Scu.Str)} {k : Nat} (h : Rd w B 36 A vs) (hl : vs.length = xss.length)
    (h5 : ∀ (j : Nat) (u : Value) (x : List Scu.Str), vs[j]? = some u → xss[j]? = some x → IsStrs w B u x) (hk : k < xss.length) :
    ∃ g o u, A = some ⟨g, o, none⟩ ∧ g < w.heap.size ∧ w.cell? ⟨g, o + k, none⟩ = some u ∧ IsStrs w B u xss[k] := by
  have hkv : k < vs.length := by omega
  obtain ⟨g, o, h1, h2, h3⟩ := h.get (List.getElem?_eq_getElem hkv)
  exact ⟨g, o, _, h1, h2, h3, h5 k _ _ (List.getElem?_eq_getElem hkv) (List.getElem?_eq_getElem hk)⟩

structure IsVolume (w : World) (B : Nat) (nv sv : Value) (x : Scu.Volume) : Prop where
  now : IsStrs w B nv x.now
  snaps : IsRows w B sv x.snaps
theorem IsVolume.below {w w' : World} {B : Nat} {nv sv : Value} {x : Scu.Volume} (h : IsVolume w B nv sv x) (hb : Below w.heap.size w w') : IsVolume w' B nv sv x := ⟨h.now.below hb, h.snaps.below hb⟩
theorem IsVolume.drewN {w : World} {B : Nat} {nv sv : Value} {x : Scu.Volume} (h : IsVolume w B nv sv x) (n : Nat) : IsVolume (w.drewN n) B nv sv x := ⟨h.now.drewN n, h.snaps.drewN n⟩
theorem IsVolume.alloc {w : World} {B : Nat} {nv sv : Value} {x : Scu.Volume} (h : IsVolume w B nv sv x) (o : Obj) : IsVolume (w.alloc o) B nv sv x := ⟨h.now.alloc o, h.snaps.alloc o⟩

theorem vol_eq {x y : Scu.Volume} (h1 : x.now = y.now) (h2 : x.snaps = y.snaps) : x = y := by
  cases x; cases y; simp_all
end Go.Proofs.YtfpiembhlgcelaaDoor
/- How arguments are opened: what their reading says of cells and values. -/
namespace Go.Proofs.YtfpiembhlgcelaaDoor
open Go.RowKit Go.ChangeShapes Go.WideShapes Go.ChangeAt
set_option maxRecDepth 100000

def opC (o : Scu.Op) : List Value := [.int .i64 o.kind, .int .i64 o.at_, .int .i64 o.snap, .string o.data]
def vOp (o : Scu.Op) : Value := .agg #[.int .i64 o.kind, .int .i64 o.at_, .int .i64 o.snap, .string o.data]
def vRequest (r : Scu.Request) : Value := .agg #[.int .i64 r.client, .int .i64 r.num, .int .i64 r.op.kind, .int .i64 r.op.at_, .int .i64 r.op.snap, .string r.op.data]

theorem cells_int : Tryd.prog.cellsOf 3 = 1 := by kernel_rfl
theorem cells_bool : Tryd.prog.cellsOf 4 = 1 := by kernel_rfl
theorem cells_string : Tryd.prog.cellsOf 9 = 1 := by kernel_rfl
theorem cells_strs : Tryd.prog.cellsOf 36 = 1 := by kernel_rfl
theorem cells_op : Tryd.prog.cellsOf 26 = 4 := by kernel_rfl
theorem cells_request : Tryd.prog.cellsOf 28 = 6 := by kernel_rfl

section
variable {H : Type} {enc : TypeId × Value → H} {w : World} {base : Nat} {spare : Nat → Bool} {held : Bool} {n : Nat} {cs : List Value} {y : Option (DataW H × List MemPlace)}
theorem some_of {α : Type} {xs : List α} {m : Nat} (h : xs.length = m) {i : Nat} (hi : i < m) : ∃ z, xs[i]? = some z := ⟨_, List.getElem?_eq_getElem (by omega)⟩

theorem trod_op {x : DataW H × List MemPlace} (h : DataW.trod enc Tryd.prog w base spare held n 26 cs = some x) : ∃ o : Scu.Op, cs = opC o ∧ o.data.size ≤ maxLen := by
  obtain ⟨xs, m, _, _, hl, hxl, hf⟩ := DataW.trod_struct Tryd.underlying26 h
  rw [cells_op] at hl
  match cs, hl with
  | [c0, c1, c2, c3], _ =>
    obtain ⟨z0, e0⟩ := some_of hxl (i := 0) (by simp)
    obtain ⟨z1, e1⟩ := some_of hxl (i := 1) (by simp)
    obtain ⟨z2, e2⟩ := some_of hxl (i := 2) (by simp)
    obtain ⟨z3, e3⟩ := some_of hxl (i := 3) (by simp)
    obtain ⟨n0, h0, _⟩ := DataW.trod_int Tryd.underlying3 ((hf 0 _ rfl).trans e0)
    obtain ⟨n1, h1, _⟩ := DataW.trod_int Tryd.underlying3 ((hf 1 _ rfl).trans e1)
    obtain ⟨n2, h2, _⟩ := DataW.trod_int Tryd.underlying3 ((hf 2 _ rfl).trans e2)
    obtain ⟨s, h3, _, hs⟩ := DataW.trod_string Tryd.underlying9 ((hf 3 _ rfl).trans e3)
    simp [cells_int, cells_string] at h0 h1 h2 h3
    subst h0 h1 h2 h3
    exact ⟨⟨n0, n1, n2, s⟩, rfl, hs⟩

theorem trod_request {x : DataW H × List MemPlace} (h : DataW.trod enc Tryd.prog w base spare held n 28 cs = some x) :
    ∃ r : Scu.Request, cs = .int .i64 r.client :: .int .i64 r.num :: opC r.op := by
  obtain ⟨xs, m, _, _, hl, hxl, hf⟩ := DataW.trod_struct Tryd.underlying28 h
  rw [cells_request] at hl
  match cs, hl with
  | [c0, c1, c2, c3, c4, c5], _ =>
    obtain ⟨z0, e0⟩ := some_of hxl (i := 0) (by simp)
    obtain ⟨z1, e1⟩ := some_of hxl (i := 1) (by simp)
    obtain ⟨z2, e2⟩ := some_of hxl (i := 2) (by simp)
    obtain ⟨n0, h0, _⟩ := DataW.trod_int Tryd.underlying3 ((hf 0 _ rfl).trans e0)
    obtain ⟨n1, h1, _⟩ := DataW.trod_int Tryd.underlying3 ((hf 1 _ rfl).trans e1)
    obtain ⟨o, h2, _⟩ := trod_op ((hf 2 _ rfl).trans e2)
    simp [cells_int, cells_op] at h0 h1 h2
    subst h0 h1
    exact ⟨⟨n0, n1, o⟩, by rw [← h2]⟩
end
section
variable {H : Type} {enc : TypeId × Value → H} {w : World} {base : Nat} {spare : Nat → Bool} {held : Bool} {d : DataW H} {p : List MemPlace} {v : Value} {b0 : Nat}
theorem open_Op (hv : Value.okWide Tryd.prog w .any b0 26 v) (h : DataW.Trod enc Tryd.prog w base spare held 26 v d p) : ∃ o, v = vOp o := by
  obtain ⟨cs, rfl, _⟩ := okWide_struct Tryd.underlying26 hv
  obtain ⟨fuel, hf⟩ := h
  obtain ⟨o, ho, _⟩ := trod_op hf
  refine ⟨o, ?_⟩
  have : cs = (opC o).toArray := by
    apply Array.toList_inj.1
    simpa [Value.cells] using ho
  rw [this]
  rfl
theorem open_Request (hv : Value.okWide Tryd.prog w .any b0 28 v) (h : DataW.Trod enc Tryd.prog w base spare held 28 v d p) : ∃ r, v = vRequest r := by
  obtain ⟨cs, rfl, _⟩ := okWide_struct Tryd.underlying28 hv
  obtain ⟨fuel, hf⟩ := h
  obtain ⟨o, ho⟩ := trod_request hf
  refine ⟨o, ?_⟩
  have : cs = (.int .i64 o.client :: .int .i64 o.num :: opC o.op : List Value).toArray := by
    apply Array.toList_inj.1
    simpa [Value.cells] using ho
  rw [this]
  rfl
end
end Go.Proofs.YtfpiembhlgcelaaDoor
/- Words for memory: what clients were told last; states. Walks: their comparison; new ones. -/
namespace Go.Proofs.YtfpiembhlgcelaaDoor
open Go.RowKit
set_option maxHeartbeats 400000
set_option maxRecDepth 100000

theorem flat_get {α : Type} (f : α → List Value) (m : Nat) (hf : ∀ x, (f x).length = m) : ∀ (l : List α) (k j : Nat) (hk : k < l.length), j < m → (l.flatMap f)[k * m + j]? = (f l[k])[j]?
  | x :: l, 0, j, _, hj => by
    simp only [List.flatMap_cons, Nat.zero_mul, Nat.zero_add, List.getElem_cons_zero]
    rw [List.getElem?_append_left (by rw [hf]; exact hj)]
  | x :: l, k + 1, j, hk, hj => by
    simp only [List.flatMap_cons, List.getElem_cons_succ]
    rw [List.getElem?_append_right (by rw [hf, Nat.succ_mul]; omega), hf, show (k + 1) * m + j - m = k * m + j from by rw [Nat.succ_mul]; omega]
    exact flat_get f m hf l k j (by simpa using hk) hj
theorem flat_len {α : Type} (f : α → List Value) (m : Nat) (hf : ∀ x, (f x).length = m) (l : List α) : (l.flatMap f).length = l.length * m := by
  induction l with
  | nil => simp
  | cons x l ih => simp only [List.flatMap_cons, List.length_append, hf, ih, List.length_cons, Nat.succ_mul]; omega

def lastC (l : Scu.Last) : List Value := [.int .i64 l.num, .int .i64 l.reply.code, .int .i64 l.reply.n, .string l.reply.data]
structure IsLasts (w : World) (B : Nat) (v : Value) (ls : List Scu.Last) : Prop where
  ex : ∃ A c, v = .slice A ls.length c ∧ ls.length ≤ c ∧ Rd w B 60 A (ls.flatMap lastC)
  len : ls.length * 40 ≤ R47
section
variable {w w' : World} {B B' : Nat} {v : Value} {ls : List Scu.Last}
theorem IsLasts.keep (h : IsLasts w B v ls) (hs : w.heap.size ≤ w'.heap.size) (hk : ∀ g, g < w.heap.size → (g < B ∨ ∃ C fz, w.heap[g]? = some (.cells C 60 fz)) → w'.heap[g]? = w.heap[g]?) : IsLasts w' B v ls :=
  ⟨let ⟨A, c, h1, h2, h3⟩ := h.ex; ⟨A, c, h1, h2, h3.keep hs hk⟩, h.len⟩
theorem IsLasts.below (h : IsLasts w B v ls) (hb : Below w.heap.size w w') : IsLasts w' B v ls := h.keep hb.size fun g hg _ => hb.block g hg
theorem IsLasts.drewN (h : IsLasts w B v ls) (n : Nat) : IsLasts (w.drewN n) B v ls := ⟨h.ex, h.len⟩
theorem IsLasts.alloc (h : IsLasts w B v ls) (o : Obj) : IsLasts (w.alloc o) B v ls := h.keep (by simp) fun g hg _ => Below.heap_alloc w o g hg
theorem IsLasts.mono (h : IsLasts w B v ls) (hB : B ≤ B') : IsLasts w B' v ls := ⟨let ⟨A, c, h1, h2, h3⟩ := h.ex; ⟨A, c, h1, h2, h3.mono hB⟩, h.len⟩
end
theorem last_get {w : World} {B : Nat} {A : Option Addr} {ls : List Scu.Last} {k : Nat} (h : Rd w B 60 A (ls.flatMap lastC)) (hk : k < ls.length) :
    ∃ g o, A = some ⟨g, o, none⟩ ∧ g < w.heap.size ∧ w.cell? ⟨g, o + k * 4, none⟩ = some (.int .i64 ls[k].num) ∧ w.cell? ⟨g, o + k * 4 + 1, none⟩ = some (.int .i64 ls[k].reply.code) ∧
      w.cell? ⟨g, o + k * 4 + 2, none⟩ = some (.int .i64 ls[k].reply.n) ∧ w.cell? ⟨g, o + k * 4 + 3, none⟩ = some (.string ls[k].reply.data) := by
  have e : ∀ j, j < 4 → (ls.flatMap lastC)[k * 4 + j]? = (lastC ls[k])[j]? := fun j hj => flat_get lastC 4 (fun _ => rfl) ls k j hk hj
  obtain ⟨g, o, h1, h2, h3⟩ := h.get (k := k * 4) (u := .int .i64 ls[k].num) (e 0 (by omega))
  obtain ⟨g', o', h1', _, h4⟩ := h.get (k := k * 4 + 1) (u := .int .i64 ls[k].reply.code) (e 1 (by omega))
  obtain ⟨g'', o'', h1'', _, h5⟩ := h.get (k := k * 4 + 2) (u := .int .i64 ls[k].reply.n) (e 2 (by omega))
  obtain ⟨g3, o3, h13, _, h6⟩ := h.get (k := k * 4 + 3) (u := .string ls[k].reply.data) (e 3 (by omega))
  rw [h1] at h1' h1'' h13
  simp only [Option.some.injEq, Addr.mk.injEq, and_true] at h1' h1'' h13
  obtain ⟨rfl, rfl⟩ := h1'
  obtain ⟨rfl, rfl⟩ := h1''
  obtain ⟨rfl, rfl⟩ := h13
  exact ⟨g, o, h1, h2, h3, by rw [Nat.add_assoc]; exact h4, by rw [Nat.add_assoc]; exact h5, by rw [Nat.add_assoc]; exact h6⟩

theorem IsVolume.keep {w w' : World} {B : Nat} {nv sv : Value} {x : Scu.Volume} (h : IsVolume w B nv sv x) (hs : w.heap.size ≤ w'.heap.size)
    (hk : ∀ g, g < w.heap.size → (g < B ∨ ∃ C fz t, (t = 9 ∨ t = 36) ∧ w.heap[g]? = some (.cells C t fz)) → w'.heap[g]? = w.heap[g]?) : IsVolume w' B nv sv x :=
  ⟨h.now.keep hs fun g hg hh => hk g hg (hh.imp id fun ⟨C, fz, e⟩ => ⟨C, fz, _, .inl rfl, e⟩), h.snaps.keep hs hk⟩
/-- A store into a block of another type. -/
theorem IsVolume.set_ {w : World} {B : Nat} {nv sv : Value} {x : Scu.Volume} (h : IsVolume w B nv sv x) {p : Addr} {t' : TypeId} {cs : Array Value} (hp : Blk w p.block t' cs) (hB : B ≤ p.block)
    (h1 : t' ≠ 9) (h2 : t' ≠ 36) (u : Value) : IsVolume (w.setCell p u) B nv sv x :=
  h.keep (by simp [World.setCell]) fun g _ hh => Below.heap_setCell w p u g (by
    rintro rfl
    rcases hh with hh | ⟨C, fz, t, ht, hh⟩
    · omega
    · unfold Blk at hp
      rw [hp] at hh
      cases hh
      rcases ht with ht | ht
      · exact h1 ht
      · exact h2 ht)
structure IsState (w : World) (B : Nat) (nv sv lv : Value) (x : Scu.State) : Prop where
  vol : IsVolume w B nv sv x.volume
  lasts : IsLasts w B lv x.lasts

/- rows that the call has made -/
theorem strs_blk {w : World} {g : Nat} {xs : List Scu.Str} (h : Blk w g 9 (xs.map Value.string).toArray) (h1 : xs.length * 16 ≤ R47) (h2 : ∀ s ∈ xs, s.size ≤ R47) :
    IsStrs w 0 (.slice (some ⟨g, 0, none⟩) xs.length xs.length) xs :=
  ⟨⟨_, _, rfl, Nat.le_refl _, .inr ⟨g, 0, rfl, h.lt, .inr ⟨_, _, h⟩, fun j u hj => by
    rw [h.cell]
    simpa using hj⟩⟩, h1, h2⟩
theorem lasts_blk {w : World} {g : Nat} {ls : List Scu.Last} (h : Blk w g 60 (ls.flatMap lastC).toArray) (h1 : ls.length * 40 ≤ R47) :
    IsLasts w 0 (.slice (some ⟨g, 0, none⟩) ls.length ls.length) ls :=
  ⟨⟨_, _, rfl, Nat.le_refl _, .inr ⟨g, 0, rfl, h.lt, .inr ⟨_, _, h⟩, fun j u hj => by
    rw [h.cell]
    simpa using hj⟩⟩, h1⟩

theorem make6 (w : World) : (Instr.makeSlice 36 (.int .i64 6) (.int .i64 6)).run Tryd.prog w =
    .ok (.slice (some ⟨w.heap.size, 0, none⟩) 6 6) (w.alloc (.cells #[.string ⟨#[]⟩, .string ⟨#[]⟩, .string ⟨#[]⟩, .string ⟨#[]⟩, .string ⟨#[]⟩, .string ⟨#[]⟩] 9)) := by kernel_rfl
theorem make4 (w : World) : (Instr.makeSlice 52 (.int .i64 4) (.int .i64 4)).run Tryd.prog w =
    .ok (.slice (some ⟨w.heap.size, 0, none⟩) 4 4) (w.alloc (.cells #[.int .i64 0, .int .i64 0, .int .i64 0, .string ⟨#[]⟩, .int .i64 0, .int .i64 0, .int .i64 0, .string ⟨#[]⟩, .int .i64 0, .int .i64 0, .int .i64 0, .string ⟨#[]⟩, .int .i64 0, .int .i64 0, .int .i64 0, .string ⟨#[]⟩] 60)) := by kernel_rfl

theorem rows_nil {w : World} {B : Nat} : IsRows w B (.slice none 0 0) [] :=
  ⟨⟨none, 0, [], rfl, Nat.le_refl _, Rd.nil, rfl, fun j u x h => by simp at h⟩, by simp [R47]⟩
def Got {α : Type} (P : α → World → Ending → Prop) (e : Ending) (w : World) : Prop := ∃ x, P x w e
theorem volNew_isv {w : World} {g : Nat} (h : Blk w g 9 #[.string ⟨#[]⟩, .string ⟨#[]⟩, .string ⟨#[]⟩, .string ⟨#[]⟩, .string ⟨#[]⟩, .string ⟨#[]⟩]) :
    IsVolume w 0 (.slice (some ⟨g, 0, none⟩) 6 6) (.slice none 0 0) Scu.volNew :=
  ⟨strs_blk (xs := List.replicate 6 Scu.str0) h (by simp [R47]) (fun s hs => by rw [List.eq_of_mem_replicate hs]; exact Nat.zero_le _), rows_nil⟩
theorem lastsNew_isl {w : World} {g : Nat} (h : Blk w g 60 #[.int .i64 0, .int .i64 0, .int .i64 0, .string ⟨#[]⟩, .int .i64 0, .int .i64 0, .int .i64 0, .string ⟨#[]⟩, .int .i64 0, .int .i64 0, .int .i64 0, .string ⟨#[]⟩, .int .i64 0, .int .i64 0, .int .i64 0, .string ⟨#[]⟩]) :
    IsLasts w 0 (.slice (some ⟨g, 0, none⟩) 4 4) (List.replicate 4 Scu.last0) :=
  lasts_blk (ls := List.replicate 4 Scu.last0) h (by simp [R47])

theorem IsStrs.form {w : World} {B : Nat} {v : Value} {xs : List Scu.Str} (h : IsStrs w B v xs) : ∃ A n c, v = .slice A n c := by
  obtain ⟨A, c, e, _⟩ := h.ex
  exact ⟨A, _, c, e⟩
theorem IsRows.form {w : World} {B : Nat} {v : Value} {xs : List (List Scu.Str)} (h : IsRows w B v xs) : ∃ A n c, v = .slice A n c := by
  obtain ⟨A, c, vs, e, _⟩ := h.ex
  exact ⟨A, _, c, e⟩
theorem IsLasts.form {w : World} {B : Nat} {v : Value} {xs : List Scu.Last} (h : IsLasts w B v xs) : ∃ A n c, v = .slice A n c := by
  obtain ⟨A, c, e, _⟩ := h.ex
  exact ⟨A, _, c, e⟩
theorem volNew_c (w : World) :
    Calls Tryd.prog 22 #[] w fun e w' => (∃ nv sv, e = .returned (.agg #[nv, sv]) ∧ IsVolume w' 0 nv sv Scu.volNew) ∧ Below w.heap.size w w' := by
  have hm := make6
  go_enter Tryd.func22, Tryd.ntmps22
  go_wp2
  refine bodyPost_ret (v := .agg #[.slice (some ⟨w.heap.size + 1, 0, none⟩) 6 6, .slice none 0 0]) (by simp [results, Tryd.results22, go_sem]) rfl ?_
  refine ⟨⟨_, _, rfl, volNew_isv ?_⟩, ((Below.refl _ _).alloc (Nat.le_refl _) _).alloc (by simp) _⟩
  exact Blk.new' (by simp)

theorem machineNew_c (w : World) :
    Calls Tryd.prog 69 #[] w fun e w' => (∃ nv sv lv, e = .returned (.agg #[nv, sv, lv]) ∧ IsState w' 0 nv sv lv Scu.stateNew) ∧ Below w.heap.size w w' := by
  have hm4 := make4
  go_enter Tryd.func69, Tryd.ntmps69
  go_wp2
  go_region_with (go_at_call 22; refine (volNew_c _).mono ?_; rintro e w1 ⟨⟨nv, sv, rfl, hv⟩, h1⟩; obtain ⟨A, n, c, rfl⟩ := hv.now.form; obtain ⟨A', n', c', rfl⟩ := hv.snaps.form; obtain ⟨hc, hf⟩ := bcell h1; have hlt : w.heap.size < w1.heap.size := (by have := h1.size; simp at this; omega))
  · have hb := ((Blk.new w 54 #[.slice none 0 0, .slice none 0 0, .slice none 0 0]).drew).same h1
    have hb1 := hb.set_ 0 (.slice A n c)
    have hb2 := hb1.set_ 1 (.slice A' n' c')
    have hb3 := (hb2.set_ 2 (.slice (some ⟨w1.heap.size, 0, none⟩) 4 4)).alloc (Obj.cells #[.int .i64 0, .int .i64 0, .int .i64 0, .string ⟨#[]⟩, .int .i64 0, .int .i64 0, .int .i64 0, .string ⟨#[]⟩, .int .i64 0, .int .i64 0, .int .i64 0, .string ⟨#[]⟩, .int .i64 0, .int .i64 0, .int .i64 0, .string ⟨#[]⟩] 60)
    have u0 := hb3.cell 0
    have u1 := hb3.cell 1
    have u2 := hb3.cell 2
    simp at u0 u1 u2
    have HV : IsVolume _ 0 _ _ Scu.volNew := ((hv.set_ (p := ⟨w.heap.size, 0, none⟩) hb (Nat.zero_le _) (by decide) (by decide) (.slice A n c)).set_ (p := ⟨w.heap.size, 1, none⟩) hb1 (Nat.zero_le _) (by decide) (by decide) (.slice A' n' c')).set_ (p := ⟨w.heap.size, 2, none⟩) hb2 (Nat.zero_le _) (by decide) (by decide) (.slice (some ⟨w1.heap.size, 0, none⟩) 4 4)
    have HH := Lib.hid (And.intro hb hlt)
    clear hb hb1 hb2 hb3
    go_wp2
    refine bodyPost_ret (v := .agg #[.slice A n c, .slice A' n' c', .slice (some ⟨w1.heap.size, 0, none⟩) 4 4]) (by simp [results, Tryd.results69, go_sem, u0, u1, u2]) rfl ?_
    have hB : Below w.heap.size w w1 := ((Below.refl _ _).alloc (Nat.le_refl _) _).drew.trans (h1.mono (by simp))
    have hB3 := ((hB.setCell (p := ⟨w.heap.size, 0, none⟩) (Nat.le_refl _) (.slice A n c)).setCell (p := ⟨w.heap.size, 1, none⟩) (Nat.le_refl _) (.slice A' n' c')).setCell (p := ⟨w.heap.size, 2, none⟩) (Nat.le_refl _) (.slice (some ⟨w1.heap.size, 0, none⟩) 4 4)
    exact ⟨⟨_, _, _, rfl, HV.alloc _, lastsNew_isl (Blk.new' (by simp))⟩, hB3.alloc hB3.size _⟩
  · have hb := (((Blk.new w 54 #[.slice none 0 0, .slice none 0 0, .slice none 0 0]).alloc (Obj.cells #[.int .i64 0, .int .i64 0, .int .i64 0, .string ⟨#[]⟩, .int .i64 0, .int .i64 0, .int .i64 0, .string ⟨#[]⟩, .int .i64 0, .int .i64 0, .int .i64 0, .string ⟨#[]⟩, .int .i64 0, .int .i64 0, .int .i64 0, .string ⟨#[]⟩] 60)).drew).same h1
    have hb1 := hb.set_ 0 (.slice A n c)
    have hb2 := hb1.set_ 1 (.slice A' n' c')
    have hb3 := hb2.set_ 2 (.slice (some ⟨w.heap.size + 1, 0, none⟩) 4 4)
    have u0 := hb3.cell 0
    have u1 := hb3.cell 1
    have u2 := hb3.cell 2
    simp at u0 u1 u2
    have HV : IsVolume _ 0 _ _ Scu.volNew := ((hv.set_ (p := ⟨w.heap.size, 0, none⟩) hb (Nat.zero_le _) (by decide) (by decide) (.slice A n c)).set_ (p := ⟨w.heap.size, 1, none⟩) hb1 (Nat.zero_le _) (by decide) (by decide) (.slice A' n' c')).set_ (p := ⟨w.heap.size, 2, none⟩) hb2 (Nat.zero_le _) (by decide) (by decide) (.slice (some ⟨w.heap.size + 1, 0, none⟩) 4 4)
    have hlb : Blk w1 (w.heap.size + 1) 60 #[.int .i64 0, .int .i64 0, .int .i64 0, .string ⟨#[]⟩, .int .i64 0, .int .i64 0, .int .i64 0, .string ⟨#[]⟩, .int .i64 0, .int .i64 0, .int .i64 0, .string ⟨#[]⟩, .int .i64 0, .int .i64 0, .int .i64 0, .string ⟨#[]⟩] :=
      (Blk.drew (Blk.new' (by simp))).same h1
    have HL : IsLasts _ 0 _ (List.replicate 4 Scu.last0) := lastsNew_isl (((hlb.far (p := ⟨w.heap.size, 0, none⟩) (by simp) (.slice A n c)).far (p := ⟨w.heap.size, 1, none⟩) (by simp) (.slice A' n' c')).far (p := ⟨w.heap.size, 2, none⟩) (by simp) (.slice (some ⟨w.heap.size + 1, 0, none⟩) 4 4))
    have HH := Lib.hid (And.intro hb hlt)
    clear hb hb1 hb2 hb3 hlb
    go_wp2
    refine bodyPost_ret (v := .agg #[.slice A n c, .slice A' n' c', .slice (some ⟨w.heap.size + 1, 0, none⟩) 4 4]) (by simp [results, Tryd.results69, go_sem, u0, u1, u2]) rfl ?_
    have hB : Below w.heap.size w w1 := (((Below.refl _ _).alloc (Nat.le_refl _) _).alloc (by simp) _).drew.trans (h1.mono (by simp; omega))
    have hB3 := ((hB.setCell (p := ⟨w.heap.size, 0, none⟩) (Nat.le_refl _) (.slice A n c)).setCell (p := ⟨w.heap.size, 1, none⟩) (Nat.le_refl _) (.slice A' n' c')).setCell (p := ⟨w.heap.size, 2, none⟩) (Nat.le_refl _) (.slice (some ⟨w.heap.size + 1, 0, none⟩) 4 4)
    exact ⟨⟨_, _, _, rfl, HV, HL⟩, hB3⟩

end Go.Proofs.YtfpiembhlgcelaaDoor
/- Walks: may a volume be? The program's and the reference's. -/
namespace Go.Proofs.YtfpiembhlgcelaaDoor
open Go.RowKit
set_option maxHeartbeats 400000
set_option maxRecDepth 100000

def IdxPost (b : Bool) (e : Ending) : Prop := ∃ r : Int, e = .returned (.int .i64 r) ∧ decide (0 ≤ r) = b
theorem any_take {α : Type} (p : α → Bool) (xs : List α) (k : Nat) (h : k < xs.length) : (xs.take (k + 1)).any p = ((xs.take k).any p || p xs[k]) := by
  rw [List.take_succ_eq_append_getElem h, List.any_append]
  simp
theorem any_found {α : Type} (p : α → Bool) (xs : List α) (k : Nat) (h : k < xs.length) (hp : p xs[k] = true) : xs.any p = true := List.any_eq_true.2 ⟨_, List.getElem_mem h, hp⟩
theorem any_none {α : Type} (p : α → Bool) (xs : List α) (k : Nat) (h : xs.length ≤ k) (hp : (xs.take k).any p = false) : xs.any p = false := by rwa [List.take_of_length_le h] at hp

theorem sectors1_c (s : ByteArray) (w : World) (hs : s.size ≤ R47) :
    Calls Tryd.prog 90 #[.string s] w fun e w' => e = .returned (.bool (decide (8 < s.size))) ∧ w = w' := by
  unfold R47 at hs
  have e : decide (8 < s.size) = decide ((8 : Int) < (s.size : Int)) := by rw [Bool.eq_iff_iff]; simp; omega
  rw [e]
  clear e
  go_enter Tryd.func90, Tryd.ntmps90
  go_wp2
  go_ret
  exact ⟨rfl, rfl⟩

theorem indexStrs_c (p : Scu.Str → Bool) (hp : ∀ (s : ByteArray) (w : World), s.size ≤ R47 → Calls Tryd.prog 90 #[.string s] w fun e w' => e = .returned (.bool (p s)) ∧ w = w') (v : Value) (xs : List Scu.Str) (w : World) (B : Nat) (hv : IsStrs w B v xs) :
    Calls Tryd.prog 86 #[v, .func (.func 90) #[] #[]] w fun e w' => IdxPost (xs.any p) e ∧ w = w' := by
  obtain ⟨⟨A, c, rfl, _, hr⟩, hl, he⟩ := hv
  unfold R47 at hl
  have HP := Lib.hid hp
  have HE := Lib.hid he
  clear hp he
  go_enter Tryd.func86, Tryd.ntmps86
  go_wp2
  go_loop [8] (fun i => ∃ k : Nat, k ≤ xs.length ∧ i = .int .i64 k ∧ Hid ((xs.take k).any p = false)) (fun i => xs.length - (intOf i).toNat)
  case atStart => exact ⟨0, Nat.zero_le _, rfl, by simp [Hid]⟩
  case round =>
    obtain ⟨k, hk, rfl, ht⟩ := hrel
    by_cases hlt : k < xs.length
    · have hlt' : (k : Int) < (xs.length : Int) := by omega
      obtain ⟨g, o, rfl, _, hc⟩ := str_get hr hlt
      by_cases hx : p xs[k] = true
      · have HX := Lib.hid (any_found p xs k hlt hx)
        go_wp2_with fail
        refine (HP.out _ _ (HE.out _ (List.getElem_mem hlt))).mono ?_; rintro e w1 ⟨rfl, rfl⟩
        go_wp2
        go_ret
        exact ⟨⟨_, rfl, by rw [HX.out]; simp⟩, rfl⟩
      · have hx' : p xs[k] = false := by simpa using hx
        have HX := Lib.hid (show (xs.take (k + 1)).any p = false by rw [any_take p xs k hlt, ht.out, hx']; rfl)
        clear hx
        go_wp2_with fail
        refine (HP.out _ _ (HE.out _ (List.getElem_mem hlt))).mono ?_; rintro e w1 ⟨rfl, rfl⟩
        go_wp2
        go_round
        case rel => exact ⟨k + 1, hlt, by go_num, HX⟩
        case measure => simp [intOf]; omega
    · have hlt' : (xs.length : Int) ≤ (k : Int) := by omega
      have HX := Lib.hid (any_none p xs k (by omega) ht.out)
      go_wp2
      go_ret
      exact ⟨⟨_, rfl, by rw [HX.out]; rfl⟩, rfl⟩
theorem containsStrs_c (p : Scu.Str → Bool) (hp : ∀ (s : ByteArray) (w : World), s.size ≤ R47 → Calls Tryd.prog 90 #[.string s] w fun e w' => e = .returned (.bool (p s)) ∧ w = w') (v : Value) (xs : List Scu.Str) (w : World) (B : Nat) (hv : IsStrs w B v xs) :
    Calls Tryd.prog 89 #[v, .func (.func 90) #[] #[]] w fun e w' => e = .returned (.bool (xs.any p)) ∧ w = w' := by
  have HC := Lib.hid (indexStrs_c p hp v xs w B hv)
  obtain ⟨⟨A, c, rfl, _, hr⟩, hl, he⟩ := hv
  clear hp hr he hl
  go_enter Tryd.func89, Tryd.ntmps89
  go_wp2_with fail
  refine HC.out.mono ?_; rintro e w1 ⟨⟨r, rfl, hr⟩, rfl⟩
  have HR := Lib.hid hr
  clear hr
  go_wp2
  go_ret
  exact ⟨ret_val (bool_eq HR.out), rfl⟩
theorem any_not {α : Type} (l : List α) (p q : α → Bool) (h : ∀ x ∈ l, p x = !q x) : l.all q = !l.any p := by
  induction l with
  | nil => rfl
  | cons x l ih =>
    rw [List.all_cons, List.any_cons, ih fun y hy => h y (List.mem_cons_of_mem _ hy), h x List.mem_cons_self]
    cases q x <;> simp
theorem sectorsOk_any (xs : List Scu.Str) : Scu.sectorsOk xs = (xs.length == 6 && !xs.any fun s => decide (8 < s.size)) := by
  unfold Scu.sectorsOk
  rw [any_not xs (fun s => decide (8 < s.size)) _ (fun x _ => by rw [Bool.eq_iff_iff]; simp)]
theorem sectors_c (v : Value) (xs : List Scu.Str) (w : World) (B : Nat) (hv : IsStrs w B v xs) :
    Calls Tryd.prog 66 #[v] w fun e w' => e = .returned (.bool (Scu.sectorsOk xs)) ∧ w = w' := by
  have HC := Lib.hid (containsStrs_c (fun s => decide (8 < s.size)) sectors1_c v xs w B hv)
  have hso := sectorsOk_any xs
  obtain ⟨⟨A, c, rfl, _, hr⟩, hl, he⟩ := hv
  clear hr he
  unfold R47 at hl
  by_cases h6 : xs.length = 6
  · have h6' : ((xs.length : Int) == 6) = true := by simp [h6]
    have hn : (xs.length == 6) = true := by simp [h6]
    rw [hn, Bool.true_and] at hso
    have HSO := Lib.hid hso
    clear hso hn h6
    go_enter Tryd.func66, Tryd.ntmps66
    go_wp2_with fail
    refine HC.out.mono ?_; rintro e w1 ⟨rfl, rfl⟩
    go_wp2
    go_ret
    exact ⟨ret_val (bool_eq HSO.out.symm), rfl⟩
  · have h6' : ((xs.length : Int) == 6) = false := by simp; omega
    have hn : (xs.length == 6) = false := by simp [h6]
    rw [hn, Bool.false_and] at hso
    have HSO := Lib.hid hso
    clear hso hn h6
    go_enter Tryd.func66, Tryd.ntmps66
    go_wp2
    go_ret
    exact ⟨ret_val (bool_eq HSO.out.symm), rfl⟩

theorem check1_c (v : Value) (xs : List Scu.Str) (w : World) (B : Nat) (hv : IsStrs w B v xs) :
    Calls Tryd.prog 68 #[v] w fun e w' => e = .returned (.bool (!Scu.sectorsOk xs)) ∧ w = w' := by
  have HC := Lib.hid (sectors_c v xs w B hv)
  obtain ⟨A, n, c, rfl⟩ := hv.form
  clear hv
  go_enter Tryd.func68, Tryd.ntmps68
  go_wp2_with fail
  refine HC.out.mono ?_; rintro e w1 ⟨rfl, rfl⟩
  go_wp2
  go_ret
  exact ⟨rfl, rfl⟩
theorem indexRows_c (v : Value) (xss : List (List Scu.Str)) (w : World) (B : Nat) (hv : IsRows w B v xss) :
    Calls Tryd.prog 91 #[v, .func (.func 68) #[] #[]] w fun e w' => IdxPost (xss.any fun l => !Scu.sectorsOk l) e ∧ w = w' := by
  obtain ⟨⟨A, c, vs, rfl, _, hr, hvl, hve⟩, hl⟩ := hv
  have HVL := Lib.hid hvl
  have HVE := Lib.hid hve
  clear hvl hve
  unfold R47 at hl
  go_enter Tryd.func91, Tryd.ntmps91
  go_wp2
  go_loop [8] (fun i => ∃ k : Nat, k ≤ xss.length ∧ i = .int .i64 k ∧ Hid ((xss.take k).any (fun l => !Scu.sectorsOk l) = false)) (fun i => xss.length - (intOf i).toNat)
  case atStart => exact ⟨0, Nat.zero_le _, rfl, by simp [Hid]⟩
  case round =>
    obtain ⟨k, hk, rfl, ht⟩ := hrel
    by_cases hlt : k < xss.length
    · have hlt' : (k : Int) < (xss.length : Int) := by omega
      obtain ⟨g, o, p, rfl, _, hc, hp⟩ := rows_get hr HVL.out HVE.out hlt
      have HPX := Lib.hid hp
      obtain ⟨A1, n1, c1, rfl⟩ := hp.form
      clear hp
      by_cases hx : (!Scu.sectorsOk xss[k]) = true
      · have HX := Lib.hid (any_found (fun l => !Scu.sectorsOk l) xss k hlt hx)
        go_wp2_with fail
        refine (check1_c _ _ _ B HPX.out).mono ?_; rintro e w1 ⟨rfl, rfl⟩
        go_wp2
        go_ret
        exact ⟨⟨_, rfl, by rw [HX.out]; simp⟩, rfl⟩
      · have hx' : (!Scu.sectorsOk xss[k]) = false := by simpa using hx
        have HX := Lib.hid (show (xss.take (k + 1)).any (fun l => !Scu.sectorsOk l) = false by rw [any_take _ xss k hlt, ht.out, hx']; rfl)
        clear hx
        go_wp2_with fail
        refine (check1_c _ _ _ B HPX.out).mono ?_; rintro e w1 ⟨rfl, rfl⟩
        go_wp2
        go_round
        case rel => exact ⟨k + 1, hlt, by go_num, HX⟩
        case measure => simp [intOf]; omega
    · have hlt' : (xss.length : Int) ≤ (k : Int) := by omega
      have HX := Lib.hid (any_none _ xss k (by omega) ht.out)
      go_wp2
      go_ret
      exact ⟨⟨_, rfl, by rw [HX.out]; rfl⟩, rfl⟩
theorem containsRows_c (v : Value) (xss : List (List Scu.Str)) (w : World) (B : Nat) (hv : IsRows w B v xss) :
    Calls Tryd.prog 67 #[v, .func (.func 68) #[] #[]] w fun e w' => e = .returned (.bool (xss.any fun l => !Scu.sectorsOk l)) ∧ w = w' := by
  have HC := Lib.hid (indexRows_c v xss w B hv)
  obtain ⟨A, n, c, rfl⟩ := hv.form
  clear hv
  go_enter Tryd.func67, Tryd.ntmps67
  go_wp2_with fail
  refine HC.out.mono ?_; rintro e w1 ⟨⟨r, rfl, hr⟩, rfl⟩
  have HR := Lib.hid hr
  clear hr
  go_wp2
  go_ret
  exact ⟨ret_val (bool_eq HR.out), rfl⟩
theorem volFault_any (x : Scu.Volume) : Scu.volFault x = if (!Scu.sectorsOk x.now || decide ((3 : Int) < (x.snaps.length : Int)) || x.snaps.any fun l => !Scu.sectorsOk l) = true then 8 else 0 := by
  have e : Scu.volOk x = !(!Scu.sectorsOk x.now || decide ((3 : Int) < (x.snaps.length : Int)) || x.snaps.any fun l => !Scu.sectorsOk l) := by
    unfold Scu.volOk
    rw [any_not x.snaps (fun l => !Scu.sectorsOk l) _ (fun _ _ => rfl)]
    have : decide (x.snaps.length ≤ 3) = !decide ((3 : Int) < (x.snaps.length : Int)) := by rw [Bool.eq_iff_iff]; simp; omega
    rw [this]
    simp
  unfold Scu.volFault
  rw [e]
  cases (!Scu.sectorsOk x.now || decide ((3 : Int) < (x.snaps.length : Int)) || x.snaps.any fun l => !Scu.sectorsOk l) <;> rfl
theorem volCheck_c (nv sv : Value) (x : Scu.Volume) (w : World) (B : Nat) (hv : IsVolume w B nv sv x) :
    Calls Tryd.prog 25 #[.agg #[nv, sv]] w fun e w' => e = .returned (.int .i64 (Scu.volFault x)) ∧ Below w.heap.size w w' := by
  have hf := volFault_any x
  have HV := Lib.hid hv
  obtain ⟨A1, n1, c1, rfl⟩ := hv.now.form
  obtain ⟨⟨A, c, vs, rfl, _, _, _, _⟩, hl⟩ := hv.snaps
  unfold R47 at hl
  clear hv
  cases h1 : Scu.sectorsOk x.now <;> cases h2 : decide ((3 : Int) < (x.snaps.length : Int)) <;> cases h3 : x.snaps.any fun l => !Scu.sectorsOk l
  all_goals
    rw [h1, h2, h3] at hf
    have HF := Lib.hid hf
    have H1 := Lib.hid h1
    have H3 := Lib.hid h3
    clear hf h1 h3
    go_enter Tryd.func25, Tryd.ntmps25
    go_wp2_with (first
      | (go_at_call 66; refine (sectors_c _ _ _ B (HV.out.now.alloc _)).mono ?_; rintro e w1 ⟨rfl, rfl⟩; rw [H1.out])
      | (go_at_call 67; refine (containsRows_c _ _ _ B (HV.out.snaps.alloc _)).mono ?_; rintro e w1 ⟨rfl, rfl⟩; rw [H3.out]))
    go_ret
    exact ⟨ret_val (int_eq (by rw [HF.out]; rfl)), (Below.refl _ _).alloc (Nat.le_refl _) _⟩
end Go.Proofs.YtfpiembhlgcelaaDoor
